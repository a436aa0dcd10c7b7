import Derived.Test.YtkhcblihbalnbaaGreatS0Pl
import Derived.Test.YtkhcblihbalnbaaGreatSigned2Pl
import Derived.Test.YtkhcblihbalnbaaGreatQuot4Pl
import Derived.Test.YtkhcblihbalnbaaGreatRegPl
import Derived.Test.YtkhcblihbalnbaaGreatKit5Pl
set_option linter.unusedVariables false
set_option linter.unusedSimpArgs false
set_option maxHeartbeats 4000000
set_option maxRecDepth 100000
namespace Go.Proofs.YtkhcblihbalnbaaGreat
section
open Go.RowKit
def RetRat (w:World) (q:Rat) (e:Ending) (w':World):Prop :=
 ∃ a n c a2 n2 c2,e = .returned (.agg #[.bool (neg q.num),.slice a n c,.slice a2 n2 c2])∧OwnAt w' w.heap.size a n c (digs q.num.natAbs)∧OwnAt w' w.heap.size a2 n2 c2 (digs q.den)∧Below w.heap.size w w'
theorem one05_any (w:World):Calls Tryz.prog 53 #[] w (RetNat w 1):=by
 go_enter Tryz.func53,Tryz.ntmps53
 go_wp2
 go_ret
 exact ⟨_,_,_,rfl,lit1g w w.heap.size 1 1 rfl rfl (by decide),(bRf _ _).alloc (nRf _) _⟩
theorem by05_any (a:Option Addr) (n c:Nat) (l:List Nat) (a2:Option Addr) (n2 c2:Nat) (l2:List Nat) (w:World) (h:NatAt w a n c l) (h2:NatAt w a2 n2 c2 l2) (hs:n≤68719476736) (hs2:n2≤68719476736) (hz:val l2≠0) :
 Calls Tryz.prog 93 #[.slice a n c,.slice a2 n2 c2] w (RetNat w (val l/val l2)):=by
 have HZ:=hiD hz;clear hz
 go_enter Tryz.func93,Tryz.ntmps93
 go_wp2_with fail
 with_reducible refine (div_yes _ _ _ l _ _ _ l2 _ h h2 hs hs2 HZ.out).mono ?_
 rintro e w1 ⟨a1,n1,c1,a3,n3,c3,rfl,h1,h3,hb⟩
 go_wp2
 go_ret
 exact ⟨_,_,_,rfl,h1,hb⟩
theorem lowest_any (b:Bool) (a:Option Addr) (n c:Nat) (l:List Nat) (a2:Option Addr) (n2 c2:Nat) (l2:List Nat) (w:World) (g1:NatAt w a n c l) (g2:NatAt w a2 n2 c2 l2) (hs:n≤68719476736) (hs2:n2≤68719476736) (hz:val l2≠0) :
 Calls Tryz.prog 132 #[.agg #[.bool b,.slice a n c],.slice a2 n2 c2] w (RetRat w (mkRat (sg b (val l)) (val l2))):=by
 obtain ⟨p1,p2⟩:=low_parts (b:=b) (v:=val l) hz;have hg0:=gcd_ne (v:=val l) hz;have hgl:(digs (Nat.gcd (val l) (val l2))).length≤n2:=nTr (digs_len_mono (Nat.gcd_le_right _ (Nat.pos_of_ne_zero hz))) g2.short;obtain ⟨G,hG⟩:∃ G,Nat.gcd (val l) (val l2)=G:=⟨_,rfl⟩;rw [hG] at p1 p2 hg0 hgl;obtain ⟨Q,hQ⟩:∃ Q:Rat,mkRat (sg b (val l)) (val l2)=Q:=⟨_,rfl⟩;rw [hQ] at p1 p2 ⊢;have hg0:val (digs G)≠0:=by rw [val_digs];exact hg0
 have q1:sg b (val (digs (val l/val (digs G))))=Q.num:=by rw [val_digs,val_digs];exact p1
 have q2:digs (val l2/val (digs G))=digs Q.den:=by rw [val_digs,p2]
 have hl1:(digs (val l/val (digs G))).length≤n:=nTr (digs_len_mono (Nat.div_le_self _ _)) g1.short;have HG:=hiD hG;have HG0:=hiD hg0;have HGL:=hiD hgl;have H1:=hiD q1;have H2:=hiD q2;have HL1:=hiD hl1;clear hG p1 p2 hg0 hgl q1 q2 hl1 hQ
 go_enter Tryz.func132,Tryz.ntmps132
 have hB:=bRf w.heap.size w
 go_wp2_with fail
 obtain ⟨w1,hW,hz0,hb,q,f⟩:=box1g w (w.heap.size) (by omega) #[.bool b,.slice a n c] 26;rw [hW];clear hW;have g1:=g1.past hb;have g2:=g2.past hb;have hB:=bLt hB hb;clear hb;have lb1:w.heap.size<w1.heap.size:=by omega
 have qb10:=q 0;have qb11:=q 1;simp only [lgA,lgZ,lgS] at qb10 qb11;clear q f;obtain ⟨w2,hW,hz1,hb,q,f⟩:=box1g w1 (w.heap.size+1) (by omega) #[.bool false,.slice none 0 0,.slice none 0 0] 28;rw [hW];clear hW;have g1:=g1.past hb;have g2:=g2.past hb;obtain ⟨qb10,qb11,lb1⟩:=bq2 hb lb1 qb10 qb11;have hB:=bLt hB hb;clear hb;have lr:w.heap.size+1<w2.heap.size:=by omega
 have qr0:=q 0;have qr1:=q 1;have qr2:=q 2;simp only [lgA,lgZ,lgS] at qr0 qr1 qr2;have xr:BoxAt w2 (w.heap.size+1) 3:=BoxAt.of q f rfl (by simp [notU_bool,notU_slice,notU_i64]);clear q f;clear hz0;clear hz1
 with_reducible refine (gcd_any _ _ _ l _ _ _ l2 _ g1 g2 (by omega) (by omega)).mono ?_
 rintro e w3 ⟨ahG,nhG,chG,rfl,hG,hb⟩;have hG:=hG.mono hB.size;have g1:=g1.past hb;have g2:=g2.past hb;obtain ⟨qb10,qb11,lb1⟩:=bq2 hb lb1 qb10 qb11;have xr:=xr.past hb lr;obtain ⟨qr0,qr1,qr2,lr⟩:=bq3 hb lr qr0 qr1 qr2;have hB:=bLt hB hb;clear hb;rw [HG.out] at hG;have hG:=hG.mono (Nat.zero_le _);have nG:nhG≤n2:=by rw [← hG.len];exact HGL.out
 go_wp2_with fail
 have szW:=hB.size;refine wp_region_inv (by kernel_rfl) rfl (by kernel_rfl) (fun A0 V0 dd aa ww=>∃ (y10 y11 y12 y13 y14 y15 y16 y17 y18 y19 y20:Value),aa=puts A0 [(10,y10),(11,y11),(12,y12),(13,y13),(14,y14),(15,y15),(16,y16),(17,y17),(18,y18),(19,y19),(20,y20)]∧Below (w).heap.size (w) ww∧V0.heap.size≤ww.heap.size∧NatAt ww a n c l∧NatAt ww a2 n2 c2 l2∧OwnAt ww 0 ahG nhG chG (digs G)∧Cells ww (w.heap.size) [.bool b,.slice a n c]∧BoxAt ww (w.heap.size+1) 3∧Shut (dd 11=false→Cells ww (w.heap.size+1) [.bool false,.slice none 0 0,.slice none 0 0])∧Shut (dd 0=true→y10 = .pointer (some ⟨w.heap.size,0,none⟩))∧Shut (dd 1=true→y11 = .bool b)∧Shut (dd 2=true→y12 = .pointer (some ⟨w.heap.size,1,none⟩))∧Shut (dd 3=true→y13 = .slice a n c)∧Shut (dd 4=true→y14 = .slice ahG nhG chG)∧Shut (dd 5=true→NatV V0.heap.size (digs (val l/val (digs G))) y15 ww)∧Shut (dd 6=true→CopyV V0.heap.size (neg Q.num) (digs Q.num.natAbs) y16 ww)∧Shut (dd 7=true→y17 = .slice a2 n2 c2)∧Shut (dd 8=true→y18 = .slice ahG nhG chG)∧Shut (dd 9=true→NatV V0.heap.size (digs Q.den) y19 ww)∧Shut (dd 10=true→y20=bld [y16,y19])∧Shut (dd 11=true→CellsV (w.heap.size+1) y20 ww)∧True) ?_ ?_ ?_
 · exact ⟨_,_,_,_,_,_,_,_,_,_,_,puts_self _ [10,11,12,13,14,15,16,17,18,19,20],hB.drew,nRf _,g1.drew,g2.drew,hG.drew,(by intro k hk;simp at hk;rcases (by omega:k=0∨k=1) with rfl | rfl<;>assumption),xr.drew,(fun _=>by intro k hk;simp at hk;rcases (by omega:k=0∨k=1∨k=2) with rfl | rfl | rfl<;>assumption),fun h=>(by cases h),fun h=>(by cases h),fun h=>(by cases h),fun h=>(by cases h),fun h=>(by cases h),fun h=>(by cases h),fun h=>(by cases h),fun h=>(by cases h),fun h=>(by cases h),fun h=>(by cases h),fun h=>(by cases h),fun h=>(by cases h),trivial⟩
 · refine Steps.cons ?_ (Steps.cons ?_ (Steps.cons ?_ (Steps.cons ?_ (Steps.cons ?_ (Steps.cons ?_ (Steps.cons ?_ (Steps.cons ?_ (Steps.cons ?_ (Steps.cons ?_ (Steps.cons ?_ (Steps.cons ?_ (Steps.nil))))))))))))
   all_goals (intro dd aa ww K hc hun hn hI hK;obtain ⟨y10,y11,y12,y13,y14,y15,y16,y17,y18,y19,y20,ea,hb,hsz,vg1,vg2,vhG,cb1,xr,pr,f0,f1,f2,f3,f4,f5,f6,f7,f8,f9,f10,f11,_⟩:=hI;subst ea;simp only [pu])
   · go_simp;exact hK.out _ _ ⟨_,_,_,_,_,_,_,_,_,_,_,by simp only [pu]<;>rfl,hb,hsz,vg1,vg2,vhG,cb1,xr,fun h=>(pr.out (upd_off h)),fun _=>rfl,uo f1,uo f2,uo f3,uo f4,uo f5,uo f6,uo f7,uo f8,uo f9,uo f10,uo f11,trivial⟩
   · obtain rfl:=f0.out (hc.see hn);have e0:=cb1 0 (by simp);simp only [lgZ,lgS] at e0;go_simp;exact hK.out _ _ ⟨_,_,_,_,_,_,_,_,_,_,_,by simp only [pu]<;>rfl,hb,hsz,vg1,vg2,vhG,cb1,xr,fun h=>(pr.out (upd_off h)),fun h=>rfl,fun _=>rfl,uo f2,uo f3,uo f4,uo f5,uo f6,uo f7,uo f8,uo f9,uo f10,uo f11,trivial⟩
   · go_simp;exact hK.out _ _ ⟨_,_,_,_,_,_,_,_,_,_,_,by simp only [pu]<;>rfl,hb,hsz,vg1,vg2,vhG,cb1,xr,fun h=>(pr.out (upd_off h)),uo f0,uo f1,fun _=>rfl,uo f3,uo f4,uo f5,uo f6,uo f7,uo f8,uo f9,uo f10,uo f11,trivial⟩
   · obtain rfl:=f2.out (hc.see hn);have e1:=cb1 1 (by simp);simp only [lgZ,lgS] at e1;go_simp;exact hK.out _ _ ⟨_,_,_,_,_,_,_,_,_,_,_,by simp only [pu]<;>rfl,hb,hsz,vg1,vg2,vhG,cb1,xr,fun h=>(pr.out (upd_off h)),uo f0,uo f1,fun h=>rfl,fun _=>rfl,uo f4,uo f5,uo f6,uo f7,uo f8,uo f9,uo f10,uo f11,trivial⟩
   · go_simp;exact hK.out _ _ ⟨_,_,_,_,_,_,_,_,_,_,_,by simp only [pu]<;>rfl,hb,hsz,vg1,vg2,vhG,cb1,xr,fun h=>(pr.out (upd_off h)),uo f0,uo f1,uo f2,uo f3,fun _=>rfl,uo f5,uo f6,uo f7,uo f8,uo f9,uo f10,uo f11,trivial⟩
   · obtain rfl:=f3.out (hc.see hn);obtain rfl:=f4.out (hc.see hn);go_simp
     with_reducible refine (by05_any _ _ _ l _ _ _ (digs G) _ vg1 vhG.toNatAt (by omega) (by omega) HG0.out).mono ?_
     rintro e w1 ⟨ahQ,nhQ,chQ,rfl,hQ,h1⟩;have nQ:nhQ≤n:=by rw [← hQ.len];exact HL1.out
     exact hK.out _ _ ⟨_,_,_,_,_,_,_,_,_,_,_,by simp only [pu]<;>rfl,bLt hb h1,nTr hsz h1.size,vg1.past h1,vg2.past h1,vhG.past h1,cb1.past h1 (nLt lb1 hsz),xr.past h1 (nLt lr hsz),fun h=>(pr.out (upd_off h)).past h1 (nLt lr hsz),uo f0,uo f1,uo f2,fun h=>rfl,fun h=>rfl,fun _=>⟨_,_,_,rfl,hQ.mono hsz⟩,fun h=>(f6.out (upd_of rfl h)).past h1,uo f7,uo f8,fun h=>(f9.out (upd_of rfl h)).past h1,uo f10,fun h=>(f11.out (upd_of rfl h)).past h1 (nLt lr hsz),trivial⟩
   · obtain rfl:=f1.out (hc.see hn);obtain ⟨ahQ,nhQ,chQ,ex,hQ⟩:=f5.out (hc.see hn);subst ex;go_simp
     with_reducible refine (make_any b _ _ _ (digs (val l/val (digs G))) _ hQ.toNatAt (by have:=hQ.len;have:=HL1.out;omega)).mono ?_
     rintro e w1 ⟨ahU,nhU,chU,rfl,hU,h1⟩;rw [H1.out] at hU ⊢;exact hK.out _ _ ⟨_,_,_,_,_,_,_,_,_,_,_,by simp only [pu]<;>rfl,bLt hb h1,nTr hsz h1.size,vg1.past h1,vg2.past h1,vhG.past h1,cb1.past h1 (nLt lb1 hsz),xr.past h1 (nLt lr hsz),fun h=>(pr.out (upd_off h)).past h1 (nLt lr hsz),uo f0,fun h=>rfl,uo f2,uo f3,uo f4,fun h=>(f5.out (upd_of rfl h)).past h1,fun _=>⟨_,_,_,rfl,hU.mono hsz⟩,uo f7,uo f8,fun h=>(f9.out (upd_of rfl h)).past h1,hc.abs hun,fun h=>(f11.out (upd_of rfl h)).past h1 (nLt lr hsz),trivial⟩
   · go_simp;exact hK.out _ _ ⟨_,_,_,_,_,_,_,_,_,_,_,by simp only [pu]<;>rfl,hb,hsz,vg1,vg2,vhG,cb1,xr,fun h=>(pr.out (upd_off h)),uo f0,uo f1,uo f2,uo f3,uo f4,uo f5,uo f6,fun _=>rfl,uo f8,uo f9,uo f10,uo f11,trivial⟩
   · go_simp;exact hK.out _ _ ⟨_,_,_,_,_,_,_,_,_,_,_,by simp only [pu]<;>rfl,hb,hsz,vg1,vg2,vhG,cb1,xr,fun h=>(pr.out (upd_off h)),uo f0,uo f1,uo f2,uo f3,uo f4,uo f5,uo f6,uo f7,fun _=>rfl,uo f9,uo f10,uo f11,trivial⟩
   · obtain rfl:=f7.out (hc.see hn);obtain rfl:=f8.out (hc.see hn);go_simp
     with_reducible refine (by05_any _ _ _ l2 _ _ _ (digs G) _ vg2 vhG.toNatAt (by omega) (by omega) HG0.out).mono ?_
     rintro e w1 ⟨ahD,nhD,chD,rfl,hD,h1⟩;rw [H2.out] at hD;exact hK.out _ _ ⟨_,_,_,_,_,_,_,_,_,_,_,by simp only [pu]<;>rfl,bLt hb h1,nTr hsz h1.size,vg1.past h1,vg2.past h1,vhG.past h1,cb1.past h1 (nLt lb1 hsz),xr.past h1 (nLt lr hsz),fun h=>(pr.out (upd_off h)).past h1 (nLt lr hsz),uo f0,uo f1,uo f2,uo f3,uo f4,fun h=>(f5.out (upd_of rfl h)).past h1,fun h=>(f6.out (upd_of rfl h)).past h1,fun h=>rfl,fun h=>rfl,fun _=>⟨_,_,_,rfl,hD.mono hsz⟩,hc.abs hun,fun h=>(f11.out (upd_of rfl h)).past h1 (nLt lr hsz),trivial⟩
   · obtain ⟨ahU,nhU,chU,ex,hU⟩:=f6.out (hc.see hn);subst ex;obtain ⟨ahD,nhD,chD,ex,hD⟩:=f9.out (hc.see hn);subst ex;go_simp;exact hK.out _ _ ⟨_,_,_,_,_,_,_,_,_,_,_,by simp only [pu]<;>rfl,hb,hsz,vg1,vg2,vhG,cb1,xr,fun h=>(pr.out (upd_off h)),uo f0,uo f1,uo f2,uo f3,uo f4,uo f5,uo f6,uo f7,uo f8,uo f9,fun _=>rfl,hc.abs hun,trivial⟩
   obtain ⟨ahU,nhU,chU,ex,hU⟩:=f6.out (hc.see hn);subst ex;obtain ⟨ahD,nhD,chD,ex,hD⟩:=f9.out (hc.see hn);subst ex;have ex:y20 = .agg #[.bool (neg Q.num),.slice ahU nhU chU,.slice ahD nhD chD]:=f10.out (hc.see hn);subst ex;have x3:=xr;obtain ⟨v0,v1,v2,z0,z1,z2,z3,z4,z5,_,_,_⟩:=x3.three;have hv:∀ v ∈ ([.bool (neg Q.num),.slice ahU nhU chU,.slice ahD nhD chD]:List Value),notU v:=by simp [notU_bool,notU_slice,notU_i64]
   go_simp;exact hK.out _ _ ⟨_,_,_,_,_,_,_,_,_,_,_,by simp only [pu]<;>rfl,hb.trans (below_setCells _ _ (by omega) [.bool (neg Q.num),.slice ahU nhU chU,.slice ahD nhD chD] 0 _),(by simpa using hsz),NatAt.sets [.bool (neg Q.num),.slice ahU nhU chU,.slice ahD nhD chD] 0 _ vg1 x3 (by simp) hv,NatAt.sets [.bool (neg Q.num),.slice ahU nhU chU,.slice ahD nhD chD] 0 _ vg2 x3 (by simp) hv,OwnAt.sets [.bool (neg Q.num),.slice ahU nhU chU,.slice ahD nhD chD] 0 _ vhG x3 (by simp) hv,Cells.sets (by omega) [.bool (neg Q.num),.slice ahU nhU chU,.slice ahD nhD chD] 0 _ cb1,BoxAt.sets [.bool (neg Q.num),.slice ahU nhU chU,.slice ahD nhD chD] _ 0 _ xr hv,fun h=>absurd h (by simp [upd]),uo f0,uo f1,uo f2,uo f3,uo f4,fun h=>((f5.out (upd_of rfl h)).setsOff lr [.bool (neg Q.num),.slice ahU nhU chU,.slice ahD nhD chD]),fun h=>((f6.out (upd_of rfl h)).setsOff lr [.bool (neg Q.num),.slice ahU nhU chU,.slice ahD nhD chD]),uo f7,uo f8,fun h=>((f9.out (upd_of rfl h)).setsOff lr [.bool (neg Q.num),.slice ahU nhU chU,.slice ahD nhD chD]),fun h=>rfl,fun _=>⟨[.bool (neg Q.num),.slice ahU nhU chU,.slice ahD nhD chD],rfl,Cells.new x3 [.bool (neg Q.num),.slice ahU nhU chU,.slice ahD nhD chD] (by simp)⟩,trivial⟩
 intro dd aa w4 hd hI;obtain ⟨y10,y11,y12,y13,y14,y15,y16,y17,y18,y19,y20,ea,hb,hsz,vg1,vg2,vhG,cb1,xr,pr,f0,f1,f2,f3,f4,f5,f6,f7,f8,f9,f10,f11,_⟩:=hI;obtain rfl:=f0.out (hd 0 (by simp));obtain rfl:=f1.out (hd 1 (by simp));obtain rfl:=f2.out (hd 2 (by simp));obtain rfl:=f3.out (hd 3 (by simp));obtain rfl:=f4.out (hd 4 (by simp));obtain ⟨ahQ,nhQ,chQ,ex,hQ⟩:=f5.out (hd 5 (by simp));subst ex;obtain ⟨ahU,nhU,chU,ex,hU⟩:=f6.out (hd 6 (by simp));subst ex;obtain rfl:=f7.out (hd 7 (by simp));obtain rfl:=f8.out (hd 8 (by simp));obtain ⟨ahD,nhD,chD,ex,hD⟩:=f9.out (hd 9 (by simp));subst ex;have ex:y20 = .agg #[.bool (neg Q.num),.slice ahU nhU chU,.slice ahD nhD chD]:=f10.out (hd 10 (by simp));subst ex;obtain ⟨vs11,e,h11⟩:=f11.out (hd 11 (by simp));cases e;have lr:=nLt lr hsz;have qr0:=h11 0 (by simp);simp only [lgZ,lgS] at qr0;have qr1:=h11 1 (by simp);simp only [lgZ,lgS] at qr1;have qr2:=h11 2 (by simp);simp only [lgZ,lgS] at qr2;subst ea;simp only [pu];have hQ:=hQ.mono szW;have hU:=hU.mono szW;have hD:=hD.mono szW;have g1:=vg1;have g2:=vg2;have hG:=vhG;have lb1:=nLt lb1 hsz;have qb10:=cb1 0 (by simp);simp only [lgZ,lgS] at qb10;have qb11:=cb1 1 (by simp);simp only [lgZ,lgS] at qb11;clear cb1;have hB:=hb;clear pr;clear hb hd
 go_wp2
 refine bodyPost_ret (v:=.agg #[.bool (neg Q.num),.slice ahU nhU chU,.slice ahD nhD chD]) ?_ rfl ⟨_,_,_,_,_,_,rfl,hU,hD,hB⟩;simp [results,Tryz.f132,go_sem,qr0,qr1,qr2]
theorem over_any (b:Bool) (a:Option Addr) (n c:Nat) (a2:Option Addr) (n2 c2:Nat) (w:World) :
 Calls Tryz.prog 87 #[.agg #[.bool b,.slice a n c,.slice a2 n2 c2]] w (RetVal w (.agg #[.bool b,.slice a2 n2 c2,.slice a n c])):=by
 go_enter Tryz.func87,Tryz.ntmps87
 have hB:=bRf w.heap.size w
 go_wp2
 refine bodyPost_ret (v:=.agg #[.bool b,.slice a2 n2 c2,.slice a n c]) ?_ rfl ⟨rfl,?_⟩
 · simp [results,Tryz.f87,go_sem]
 exact (((bRf _ _).alloc (nRf _) _).alloc (by simp) _)
end
section
open Go.RowKit
theorem chkZ_six {b:Bool} {l:List Nat} (h:chkZ b l≠0):chkZ b l=6:=by
 unfold chkZ at h ⊢
 split
 · rfl
 rename_i hc;rw [if_neg hc] at h;unfold chk at h ⊢;split
 · rfl
 rename_i h2;rw [if_neg h2] at h;exact absurd rfl h
theorem chk_six {l:List Nat} (h:chk l≠0):chk l=6:=by
 unfold chk at h ⊢
 split
 · rfl
 rename_i h2;rw [if_neg h2] at h;exact absurd rfl h
theorem check05_any (b:Bool) (a:Option Addr) (n c:Nat) (l:List Nat) (a2:Option Addr) (n2 c2:Nat) (l2:List Nat) (w:World) (g1:NatAt w a n c l) (g2:NatAt w a2 n2 c2 l2) (hs:n≤68719476736) (hs2:n2≤68719476736) :
 Calls Tryz.prog 72 #[.agg #[.bool b,.slice a n c,.slice a2 n2 c2]] w (RetVal w (.int .i64 (chkR b l l2))):=by
 have hlen:=g2.len
 by_cases h1:chkZ b l=0
 · by_cases h2:chk l2=0
   · by_cases h3:n2=0
     · have e:chkR b l l2=6:=by unfold chkR;rw [if_neg];rintro ⟨_,_,h,_⟩;exact h (List.eq_nil_of_length_eq_zero (by omega))
       rw [e];have H1:=hiD h1;have H2:=hiD h2;have t3:((n2:Int) == 0)=true:=by rw [h3];rfl
       have H3:=hiD h3;clear h1 h2 e h3 hlen
       go_enter Tryz.func72,Tryz.ntmps72
       have hB:=bRf w.heap.size w
       go_wp2_with fail
       obtain ⟨w1,hW,hz0,hb,q,f⟩:=box1g w (w.heap.size) (by omega) #[.bool b,.slice a n c,.slice a2 n2 c2] 28;rw [hW];clear hW;have g1:=g1.past hb;have g2:=g2.past hb;have hB:=bLt hB hb;clear hb;have lb1:w.heap.size<w1.heap.size:=by omega
       have qb10:=q 0;have qb11:=q 1;have qb12:=q 2;simp only [lgA,lgZ,lgS] at qb10 qb11 qb12;clear q f;clear hz0
       with_reducible refine (scheck_any b _ _ _ l _ g1).mono ?_
       rintro e w2 ⟨rfl,hb⟩;have g1:=g1.past hb;have g2:=g2.past hb;obtain ⟨qb10,qb11,qb12,lb1⟩:=bq3 hb lb1 qb10 qb11 qb12;have hB:=bLt hB hb;clear hb;rw [H1.out]
       go_wp2_with fail
       with_reducible refine (check_any _ _ _ l2 _ g2).mono ?_
       rintro e w' ⟨rfl,rfl⟩;rw [H2.out]
       go_wp2
       go_ret
       exact ⟨rfl,hB⟩
     have h3b:0<n2:=by omega
     have t3:((n2:Int) == 0)=false:=by rw [beq_eq_false_iff_ne];omega
     have hz:val l2≠0:=by
      intro hz;have e:=digs_val g2.dig (chk_top.1 h2);rw [hz] at e;have:l2.length=0:=by rw [← e];rfl
      omega
     have hgl:(digs (Nat.gcd (val l) (val l2))).length≤n2:=nTr (digs_len_mono (Nat.gcd_le_right _ (Nat.pos_of_ne_zero hz))) g2.short;have HGL:=hiD hgl
     by_cases h4:Nat.gcd (val l) (val l2)=1
     · have e:chkR b l l2=0:=by unfold chkR;rw [if_pos ⟨h1,h2,fun h=>by rw [h] at hlen;simp at hlen;omega,h4⟩]
       rw [e];have e2:cmpI (val (digs (Nat.gcd (val l) (val l2)))) (val (digs 1))=0:=by rw [val_digs,val_digs,h4];rfl
       have H1:=hiD h1;have H2:=hiD h2;have E2:=hiD e2;clear h1 h2 h3 h4 e e2 hz hgl hlen
       go_enter Tryz.func72,Tryz.ntmps72
       have hB:=bRf w.heap.size w
       go_wp2_with fail
       obtain ⟨w1,hW,hz0,hb,q,f⟩:=box1g w (w.heap.size) (by omega) #[.bool b,.slice a n c,.slice a2 n2 c2] 28;rw [hW];clear hW;have g1:=g1.past hb;have g2:=g2.past hb;have hB:=bLt hB hb;clear hb;have lb1:w.heap.size<w1.heap.size:=by omega
       have qb10:=q 0;have qb11:=q 1;have qb12:=q 2;simp only [lgA,lgZ,lgS] at qb10 qb11 qb12;clear q f;clear hz0
       with_reducible refine (scheck_any b _ _ _ l _ g1).mono ?_
       rintro e w2 ⟨rfl,hb⟩;have g1:=g1.past hb;have g2:=g2.past hb;obtain ⟨qb10,qb11,qb12,lb1⟩:=bq3 hb lb1 qb10 qb11 qb12;have hB:=bLt hB hb;clear hb;rw [H1.out]
       go_wp2_with fail
       with_reducible refine (check_any _ _ _ l2 _ g2).mono ?_
       rintro e w' ⟨rfl,rfl⟩;rw [H2.out]
       go_wp2_with fail
       with_reducible refine (gcd_any _ _ _ l _ _ _ l2 _ g1 g2 (by omega) (by omega)).mono ?_
       rintro e w3 ⟨ahG,nhG,chG,rfl,hG,hb⟩;have g1:=g1.past hb;have g2:=g2.past hb;obtain ⟨qb10,qb11,qb12,lb1⟩:=bq3 hb lb1 qb10 qb11 qb12;have hB:=bLt hB hb;clear hb
       go_wp2_with fail
       with_reducible refine (one05_any _).mono ?_
       rintro e w4 ⟨ahO,nhO,chO,rfl,hO,hb⟩;have g1:=g1.past hb;have g2:=g2.past hb;have hG:=hG.past hb;obtain ⟨qb10,qb11,qb12,lb1⟩:=bq3 hb lb1 qb10 qb11 qb12;have hB:=bLt hB hb;clear hb
       go_wp2_with fail
       with_reducible refine (cmp_any _ _ _ (digs (Nat.gcd (val l) (val l2))) _ _ _ (digs 1) _ hG.toNatAt hO.toNatAt).mono ?_
       rintro e w5 ⟨rfl,hb⟩;have g1:=g1.past hb;have g2:=g2.past hb;have hG:=hG.past hb;have hO:=hO.past hb;obtain ⟨qb10,qb11,qb12,lb1⟩:=bq3 hb lb1 qb10 qb11 qb12;have hB:=bLt hB hb;clear hb;rw [E2.out]
       go_wp2
       go_ret
       exact ⟨rfl,hB⟩
     have e:chkR b l l2=6:=by unfold chkR;rw [if_neg];rintro ⟨_,_,_,h⟩;exact h4 h
     rw [e];obtain ⟨x,hx⟩:∃ x,cmpI (val (digs (Nat.gcd (val l) (val l2)))) (val (digs 1))=x:=⟨_,rfl⟩
     have hx0:(x == 0)=false:=by
      rw [beq_eq_false_iff_ne];intro h0;rw [h0,val_digs,val_digs] at hx;exact h4 (cmpI_zero.1 hx)
     have hx1:(x != 0)=true:=by simp [bne,hx0]
     have H1:=hiD h1;have H2:=hiD h2;have E2:=hiD hx;clear h1 h2 h3 h4 e hz hgl hlen hx
     go_enter Tryz.func72,Tryz.ntmps72
     have hB:=bRf w.heap.size w
     go_wp2_with fail
     obtain ⟨w1,hW,hz0,hb,q,f⟩:=box1g w (w.heap.size) (by omega) #[.bool b,.slice a n c,.slice a2 n2 c2] 28;rw [hW];clear hW;have g1:=g1.past hb;have g2:=g2.past hb;have hB:=bLt hB hb;clear hb;have lb1:w.heap.size<w1.heap.size:=by omega
     have qb10:=q 0;have qb11:=q 1;have qb12:=q 2;simp only [lgA,lgZ,lgS] at qb10 qb11 qb12;clear q f;clear hz0
     with_reducible refine (scheck_any b _ _ _ l _ g1).mono ?_
     rintro e w2 ⟨rfl,hb⟩;have g1:=g1.past hb;have g2:=g2.past hb;obtain ⟨qb10,qb11,qb12,lb1⟩:=bq3 hb lb1 qb10 qb11 qb12;have hB:=bLt hB hb;clear hb;rw [H1.out]
     go_wp2_with fail
     with_reducible refine (check_any _ _ _ l2 _ g2).mono ?_
     rintro e w' ⟨rfl,rfl⟩;rw [H2.out]
     go_wp2_with fail
     with_reducible refine (gcd_any _ _ _ l _ _ _ l2 _ g1 g2 (by omega) (by omega)).mono ?_
     rintro e w3 ⟨ahG,nhG,chG,rfl,hG,hb⟩;have g1:=g1.past hb;have g2:=g2.past hb;obtain ⟨qb10,qb11,qb12,lb1⟩:=bq3 hb lb1 qb10 qb11 qb12;have hB:=bLt hB hb;clear hb
     go_wp2_with fail
     with_reducible refine (one05_any _).mono ?_
     rintro e w4 ⟨ahO,nhO,chO,rfl,hO,hb⟩;have g1:=g1.past hb;have g2:=g2.past hb;have hG:=hG.past hb;obtain ⟨qb10,qb11,qb12,lb1⟩:=bq3 hb lb1 qb10 qb11 qb12;have hB:=bLt hB hb;clear hb
     go_wp2_with fail
     with_reducible refine (cmp_any _ _ _ (digs (Nat.gcd (val l) (val l2))) _ _ _ (digs 1) _ hG.toNatAt hO.toNatAt).mono ?_
     rintro e w5 ⟨rfl,hb⟩;have g1:=g1.past hb;have g2:=g2.past hb;obtain ⟨qb10,qb11,qb12,lb1⟩:=bq3 hb lb1 qb10 qb11 qb12;have hB:=bLt hB hb;clear hb;rw [E2.out]
     go_wp2
     go_ret
     exact ⟨rfl,hB⟩
   have e:chkR b l l2=6:=by unfold chkR;rw [if_neg];rintro ⟨_,h,_⟩;exact h2 h
   rw [e];have H1:=hiD h1;have H2:=hiD (chk_six h2);clear h1 h2 e
   go_enter Tryz.func72,Tryz.ntmps72
   have hB:=bRf w.heap.size w
   go_wp2_with fail
   obtain ⟨w1,hW,hz0,hb,q,f⟩:=box1g w (w.heap.size) (by omega) #[.bool b,.slice a n c,.slice a2 n2 c2] 28;rw [hW];clear hW;have g1:=g1.past hb;have g2:=g2.past hb;have hB:=bLt hB hb;clear hb;have lb1:w.heap.size<w1.heap.size:=by omega
   have qb10:=q 0;have qb11:=q 1;have qb12:=q 2;simp only [lgA,lgZ,lgS] at qb10 qb11 qb12;clear q f;clear hz0
   with_reducible refine (scheck_any b _ _ _ l _ g1).mono ?_
   rintro e w2 ⟨rfl,hb⟩;have g1:=g1.past hb;have g2:=g2.past hb;obtain ⟨qb10,qb11,qb12,lb1⟩:=bq3 hb lb1 qb10 qb11 qb12;have hB:=bLt hB hb;clear hb;rw [H1.out]
   go_wp2_with fail
   with_reducible refine (check_any _ _ _ l2 _ g2).mono ?_
   rintro e w' ⟨rfl,rfl⟩;rw [H2.out]
   go_wp2
   go_ret
   exact ⟨rfl,hB⟩
 have e:chkR b l l2=6:=by unfold chkR;rw [if_neg];rintro ⟨h,_⟩;exact h1 h
 rw [e];have H1:=hiD (chkZ_six h1);clear h1 e
 go_enter Tryz.func72,Tryz.ntmps72
 have hB:=bRf w.heap.size w
 go_wp2_with fail
 obtain ⟨w1,hW,hz0,hb,q,f⟩:=box1g w (w.heap.size) (by omega) #[.bool b,.slice a n c,.slice a2 n2 c2] 28;rw [hW];clear hW;have g1:=g1.past hb;have hB:=bLt hB hb;clear hb;have lb1:w.heap.size<w1.heap.size:=by omega
 have qb10:=q 0;have qb11:=q 1;have qb12:=q 2;simp only [lgA,lgZ,lgS] at qb10 qb11 qb12;clear q f;clear hz0
 with_reducible refine (scheck_any b _ _ _ l _ g1).mono ?_
 rintro e w2 ⟨rfl,hb⟩;obtain ⟨qb10,qb11,qb12,lb1⟩:=bq3 hb lb1 qb10 qb11 qb12;have hB:=bLt hB hb;clear hb;rw [H1.out]
 go_wp2
 go_ret
 exact ⟨rfl,hB⟩
end
section
open Go.RowKit
def fr (x:Int) (d:Nat) (h:d≠0:=by decide) (h2:x.natAbs.Coprime d:=by decide):Rat:=⟨x,d,h,h2⟩
end
end Go.Proofs.YtkhcblihbalnbaaGreat
