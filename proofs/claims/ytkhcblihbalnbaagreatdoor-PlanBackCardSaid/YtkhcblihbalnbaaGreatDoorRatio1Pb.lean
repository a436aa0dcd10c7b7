import Derived.Test.YtkhcblihbalnbaaGreatDoorQuot4Pb
import Derived.Test.YtkhcblihbalnbaaGreatDoorKit5Pb
set_option linter.unusedVariables false
set_option linter.unusedSimpArgs false
set_option maxHeartbeats 8000000
set_option maxRecDepth 100000
namespace Go.Proofs.YtkhcblihbalnbaaGreatDoor
section
open Go.RowKit
def RetRat (w:World) (q:Rat) (e:Ending) (w':World):Prop :=
 ∃ a n c a2 n2 c2,e = .returned (.agg #[.bool (neg q.num),.slice a n c,.slice a2 n2 c2])∧OwnAt w' w.heap.size a n c (digs q.num.natAbs)∧OwnAt w' w.heap.size a2 n2 c2 (digs q.den)∧Below w.heap.size w w'
theorem one05_any (w:World):Calls Tryz.prog 102 #[] w (RetNat w 1):=by
 go_enter Tryz.func102,Tryz.ntmps102
 go_wp2
 go_ret
 exact ⟨_,_,_,rfl,lit1g w w.heap.size 1 1 rfl rfl (by decide),(bRf _ _).alloc (nRf _) _⟩
theorem by05_any (a:Option Addr) (n c:Nat) (l:List Nat) (a2:Option Addr) (n2 c2:Nat) (l2:List Nat) (w:World) (h:NatAt w a n c l) (h2:NatAt w a2 n2 c2 l2) (hs:n≤68719476736) (hs2:n2≤68719476736) (hz:val l2≠0) :
 Calls Tryz.prog 184 #[.slice a n c,.slice a2 n2 c2] w (RetNat w (val l/val l2)):=by
 have HZ:=hiD hz;clear hz
 go_enter Tryz.func184,Tryz.ntmps184
 go_wp2_with fail
 with_reducible refine (div_yes _ _ _ l _ _ _ l2 _ h h2 hs hs2 HZ.out).mono ?_
 rintro e w1 ⟨a1,n1,c1,a3,n3,c3,rfl,h1,h3,hb⟩
 go_wp2
 go_ret
 exact ⟨_,_,_,rfl,h1,hb⟩
theorem lowest_any (b:Bool) (a:Option Addr) (n c:Nat) (l:List Nat) (a2:Option Addr) (n2 c2:Nat) (l2:List Nat) (w:World) (g1:NatAt w a n c l) (g2:NatAt w a2 n2 c2 l2) (hs:n≤68719476736) (hs2:n2≤68719476736) (hz:val l2≠0) :
 Calls Tryz.prog 143 #[.agg #[.bool b,.slice a n c],.slice a2 n2 c2] w (RetRat w (mkRat (sg b (val l)) (val l2))):=by
 obtain ⟨p1,p2⟩:=low_parts (b:=b) (v:=val l) hz;have hg0:=gcd_ne (v:=val l) hz;have hgl:(digs (Nat.gcd (val l) (val l2))).length≤n2:=nTr (digs_len_mono (Nat.gcd_le_right _ (Nat.pos_of_ne_zero hz))) g2.short;obtain ⟨G,hG⟩:∃ G,Nat.gcd (val l) (val l2)=G:=⟨_,rfl⟩;rw [hG] at p1 p2 hg0 hgl;obtain ⟨Q,hQ⟩:∃ Q:Rat,mkRat (sg b (val l)) (val l2)=Q:=⟨_,rfl⟩;rw [hQ] at p1 p2 ⊢;have hg0:val (digs G)≠0:=by rw [val_digs];exact hg0
 have q1:sg b (val (digs (val l/val (digs G))))=Q.num:=by rw [val_digs,val_digs];exact p1
 have q2:digs (val l2/val (digs G))=digs Q.den:=by rw [val_digs,p2]
 have hl1:(digs (val l/val (digs G))).length≤n:=nTr (digs_len_mono (Nat.div_le_self _ _)) g1.short;have HG:=hiD hG;have HG0:=hiD hg0;have HGL:=hiD hgl;have H1:=hiD q1;have H2:=hiD q2;have HL1:=hiD hl1;clear hG p1 p2 hg0 hgl q1 q2 hl1 hQ
 go_enter Tryz.func143,Tryz.ntmps143
 have hB:=bRf w.heap.size w
 go_wp2_with fail
 obtain ⟨w1,hW,hz0,hb,q,f,qb10,qb11⟩:=bx2 w (w.heap.size) (by omega) (.bool b) (.slice a n c) 26;rw [hW];clear hW;have g1:=g1.past hb;have g2:=g2.past hb;have hB:=bLt hB hb;clear hb;have lb1:w.heap.size<w1.heap.size:=by omega
 clear q f;obtain ⟨w2,hW,hz1,hb,q,f,qr0,qr1,qr2⟩:=bx3 w1 (w.heap.size+1) (by omega) (.bool false) (.slice none 0 0) (.slice none 0 0) 28;rw [hW];clear hW;have g1:=g1.past hb;have g2:=g2.past hb;obtain ⟨qb10,qb11,lb1⟩:=bq2 hb lb1 qb10 qb11;have hB:=bLt hB hb;clear hb;have lr:w.heap.size+1<w2.heap.size:=by omega
 have xr:BoxAt w2 (w.heap.size+1) 3:=BoxAt.of q f rfl (by simp [notU_bool,notU_slice,notU_i64]);clear q f;clear hz0;clear hz1
 with_reducible refine (gcd_any _ _ _ l _ _ _ l2 _ g1 g2 (by omega) (by omega)).mono ?_
 rintro e w3 ⟨ahG,nhG,chG,rfl,hG,hb⟩;have hG:=hG.mono hB.size;have g1:=g1.past hb;have g2:=g2.past hb;obtain ⟨qb10,qb11,lb1⟩:=bq2 hb lb1 qb10 qb11;have xr:=xr.past hb lr;obtain ⟨qr0,qr1,qr2,lr⟩:=bq3 hb lr qr0 qr1 qr2;have hB:=bLt hB hb;clear hb;rw [HG.out] at hG;have hG:=hG.mono (Nat.zero_le _);have nG:nhG≤n2:=by rw [← hG.len];exact HGL.out
 go_wp2_with fail
 have szW:=hB.size;refine wp_region_inv (by kernel_rfl) rfl (by kernel_rfl) (fun A0 V0 dd aa ww=>∃ (y10 y11 y12 y13 y14 y15 y16 y17 y18 y19 y20:Value),aa=puts A0 [(10,y10),(11,y11),(12,y12),(13,y13),(14,y14),(15,y15),(16,y16),(17,y17),(18,y18),(19,y19),(20,y20)]∧Below (w).heap.size (w) ww∧V0.heap.size≤ww.heap.size∧NatAt ww a n c l∧NatAt ww a2 n2 c2 l2∧OwnAt ww 0 ahG nhG chG (digs G)∧Cells ww (w.heap.size) [.bool b,.slice a n c]∧BoxAt ww (w.heap.size+1) 3∧Shut (dd 11=false→Cells ww (w.heap.size+1) [.bool false,.slice none 0 0,.slice none 0 0])∧Shut (dd 0=true→y10 = .pointer (some ⟨w.heap.size,0,none⟩))∧Shut (dd 1=true→y11 = .bool b)∧Shut (dd 2=true→y12 = .pointer (some ⟨w.heap.size,1,none⟩))∧Shut (dd 3=true→y13 = .slice a n c)∧Shut (dd 4=true→y14 = .slice ahG nhG chG)∧Shut (dd 5=true→NatV V0.heap.size (digs (val l/val (digs G))) y15 ww)∧Shut (dd 6=true→CopyV V0.heap.size (neg Q.num) (digs Q.num.natAbs) y16 ww)∧Shut (dd 7=true→y17 = .slice a2 n2 c2)∧Shut (dd 8=true→y18 = .slice ahG nhG chG)∧Shut (dd 9=true→NatV V0.heap.size (digs Q.den) y19 ww)∧Shut (dd 10=true→y20=bld [y16,y19])∧Shut (dd 11=true→CellsV (w.heap.size+1) y20 ww)) ?_ ?_ ?_
 · exact ⟨_,_,_,_,_,_,_,_,_,_,_,puts_self _ [10,11,12,13,14,15,16,17,18,19,20],hB.drew,nRf _,g1.drew,g2.drew,hG.drew,(by intro k hk;simp at hk;rcases (by omega:k=0∨k=1) with rfl | rfl<;>assumption),xr.drew,(fun _=>by intro k hk;simp at hk;rcases (by omega:k=0∨k=1∨k=2) with rfl | rfl | rfl<;>assumption),nf,nf,nf,nf,nf,nf,nf,nf,nf,nf,nf,nf⟩
 · refine Steps.cons ?_ (Steps.cons ?_ (Steps.cons ?_ (Steps.cons ?_ (Steps.cons ?_ (Steps.cons ?_ (Steps.cons ?_ (Steps.cons ?_ (Steps.cons ?_ (Steps.cons ?_ (Steps.cons ?_ (Steps.cons ?_ (Steps.nil))))))))))))
   all_goals (intro dd aa ww K hc hun hn hI hK;obtain ⟨y10,y11,y12,y13,y14,y15,y16,y17,y18,y19,y20,ea,hb,hsz,vg1,vg2,vhG,cb1,xr,pr,f0,f1,f2,f3,f4,f5,f6,f7,f8,f9,f10,f11⟩:=hI;subst ea;simp only [pu])
   · go_simp;exact hK.out _ _ ⟨_,_,_,_,_,_,_,_,_,_,_,by simp only [pu]<;>rfl,hb,hsz,vg1,vg2,vhG,cb1,xr,fun h=>(pr.out (upd_off h)),fun _=>rfl,uo f1,uo f2,uo f3,uo f4,uo f5,uo f6,uo f7,uo f8,uo f9,uo f10,uo f11⟩
   · obtain rfl:=f0.out (hc.see hn);have e0:=cb1 0 (by simp);simp only [lgZ,lgS] at e0;go_simp;exact hK.out _ _ ⟨_,_,_,_,_,_,_,_,_,_,_,by simp only [pu]<;>rfl,hb,hsz,vg1,vg2,vhG,cb1,xr,fun h=>(pr.out (upd_off h)),fun h=>rfl,fun _=>rfl,uo f2,uo f3,uo f4,uo f5,uo f6,uo f7,uo f8,uo f9,uo f10,uo f11⟩
   · go_simp;exact hK.out _ _ ⟨_,_,_,_,_,_,_,_,_,_,_,by simp only [pu]<;>rfl,hb,hsz,vg1,vg2,vhG,cb1,xr,fun h=>(pr.out (upd_off h)),uo f0,uo f1,fun _=>rfl,uo f3,uo f4,uo f5,uo f6,uo f7,uo f8,uo f9,uo f10,uo f11⟩
   · obtain rfl:=f2.out (hc.see hn);have e1:=cb1 1 (by simp);simp only [lgZ,lgS] at e1;go_simp;exact hK.out _ _ ⟨_,_,_,_,_,_,_,_,_,_,_,by simp only [pu]<;>rfl,hb,hsz,vg1,vg2,vhG,cb1,xr,fun h=>(pr.out (upd_off h)),uo f0,uo f1,fun h=>rfl,fun _=>rfl,uo f4,uo f5,uo f6,uo f7,uo f8,uo f9,uo f10,uo f11⟩
   · go_simp;exact hK.out _ _ ⟨_,_,_,_,_,_,_,_,_,_,_,by simp only [pu]<;>rfl,hb,hsz,vg1,vg2,vhG,cb1,xr,fun h=>(pr.out (upd_off h)),uo f0,uo f1,uo f2,uo f3,fun _=>rfl,uo f5,uo f6,uo f7,uo f8,uo f9,uo f10,uo f11⟩
   · obtain rfl:=f3.out (hc.see hn);obtain rfl:=f4.out (hc.see hn);go_simp
     with_reducible refine (by05_any _ _ _ l _ _ _ (digs G) _ vg1 vhG.toNatAt (by omega) (by omega) HG0.out).mono ?_
     rintro e w1 ⟨ahQ,nhQ,chQ,rfl,hQ,h1⟩;have nQ:nhQ≤n:=by rw [← hQ.len];exact HL1.out
     exact hK.out _ _ ⟨_,_,_,_,_,_,_,_,_,_,_,by simp only [pu]<;>rfl,bLt hb h1,nTr hsz h1.size,vg1.past h1,vg2.past h1,vhG.past h1,cb1.past h1 (nLt lb1 hsz),xr.past h1 (nLt lr hsz),fun h=>(pr.out (upd_off h)).past h1 (nLt lr hsz),uo f0,uo f1,uo f2,fun h=>rfl,fun h=>rfl,fun _=>⟨_,_,_,rfl,hQ.mono hsz⟩,fun h=>(f6.out (upd_of rfl h)).past h1,uo f7,uo f8,fun h=>(f9.out (upd_of rfl h)).past h1,uo f10,fun h=>(f11.out (upd_of rfl h)).past h1 (nLt lr hsz)⟩
   · obtain rfl:=f1.out (hc.see hn);obtain ⟨ahQ,nhQ,chQ,ex,hQ⟩:=f5.out (hc.see hn);subst ex;go_simp
     with_reducible refine (make_any b _ _ _ (digs (val l/val (digs G))) _ hQ.toNatAt (by have:=hQ.len;have:=HL1.out;omega)).mono ?_
     rintro e w1 ⟨ahU,nhU,chU,rfl,hU,h1⟩;rw [H1.out] at hU ⊢;exact hK.out _ _ ⟨_,_,_,_,_,_,_,_,_,_,_,by simp only [pu]<;>rfl,bLt hb h1,nTr hsz h1.size,vg1.past h1,vg2.past h1,vhG.past h1,cb1.past h1 (nLt lb1 hsz),xr.past h1 (nLt lr hsz),fun h=>(pr.out (upd_off h)).past h1 (nLt lr hsz),uo f0,fun h=>rfl,uo f2,uo f3,uo f4,fun h=>(f5.out (upd_of rfl h)).past h1,fun _=>⟨_,_,_,rfl,hU.mono hsz⟩,uo f7,uo f8,fun h=>(f9.out (upd_of rfl h)).past h1,hc.a hun,fun h=>(f11.out (upd_of rfl h)).past h1 (nLt lr hsz)⟩
   · go_simp;exact hK.out _ _ ⟨_,_,_,_,_,_,_,_,_,_,_,by simp only [pu]<;>rfl,hb,hsz,vg1,vg2,vhG,cb1,xr,fun h=>(pr.out (upd_off h)),uo f0,uo f1,uo f2,uo f3,uo f4,uo f5,uo f6,fun _=>rfl,uo f8,uo f9,uo f10,uo f11⟩
   · go_simp;exact hK.out _ _ ⟨_,_,_,_,_,_,_,_,_,_,_,by simp only [pu]<;>rfl,hb,hsz,vg1,vg2,vhG,cb1,xr,fun h=>(pr.out (upd_off h)),uo f0,uo f1,uo f2,uo f3,uo f4,uo f5,uo f6,uo f7,fun _=>rfl,uo f9,uo f10,uo f11⟩
   · obtain rfl:=f7.out (hc.see hn);obtain rfl:=f8.out (hc.see hn);go_simp
     with_reducible refine (by05_any _ _ _ l2 _ _ _ (digs G) _ vg2 vhG.toNatAt (by omega) (by omega) HG0.out).mono ?_
     rintro e w1 ⟨ahD,nhD,chD,rfl,hD,h1⟩;rw [H2.out] at hD;exact hK.out _ _ ⟨_,_,_,_,_,_,_,_,_,_,_,by simp only [pu]<;>rfl,bLt hb h1,nTr hsz h1.size,vg1.past h1,vg2.past h1,vhG.past h1,cb1.past h1 (nLt lb1 hsz),xr.past h1 (nLt lr hsz),fun h=>(pr.out (upd_off h)).past h1 (nLt lr hsz),uo f0,uo f1,uo f2,uo f3,uo f4,fun h=>(f5.out (upd_of rfl h)).past h1,fun h=>(f6.out (upd_of rfl h)).past h1,fun h=>rfl,fun h=>rfl,fun _=>⟨_,_,_,rfl,hD.mono hsz⟩,hc.a hun,fun h=>(f11.out (upd_of rfl h)).past h1 (nLt lr hsz)⟩
   · obtain ⟨ahU,nhU,chU,ex,hU⟩:=f6.out (hc.see hn);subst ex;obtain ⟨ahD,nhD,chD,ex,hD⟩:=f9.out (hc.see hn);subst ex;go_simp;exact hK.out _ _ ⟨_,_,_,_,_,_,_,_,_,_,_,by simp only [pu]<;>rfl,hb,hsz,vg1,vg2,vhG,cb1,xr,fun h=>(pr.out (upd_off h)),uo f0,uo f1,uo f2,uo f3,uo f4,uo f5,uo f6,uo f7,uo f8,uo f9,fun _=>rfl,hc.a hun⟩
   obtain ⟨ahU,nhU,chU,ex,hU⟩:=f6.out (hc.see hn);subst ex;obtain ⟨ahD,nhD,chD,ex,hD⟩:=f9.out (hc.see hn);subst ex;have ex:y20 = .agg #[.bool (neg Q.num),.slice ahU nhU chU,.slice ahD nhD chD]:=f10.out (hc.see hn);subst ex;have x3:=xr;obtain ⟨v0,v1,v2,z0,z1,z2,z3,z4,z5,_,_,_⟩:=x3.three;have hv:∀ v ∈ ([.bool (neg Q.num),.slice ahU nhU chU,.slice ahD nhD chD]:List Value),notU v:=by simp [notU_bool,notU_slice,notU_i64]
   go_simp;exact hK.out _ _ ⟨_,_,_,_,_,_,_,_,_,_,_,by simp only [pu]<;>rfl,hb.trans (below_setCells _ _ (by omega) [.bool (neg Q.num),.slice ahU nhU chU,.slice ahD nhD chD] 0 _),(by simpa using hsz),NatAt.sets [.bool (neg Q.num),.slice ahU nhU chU,.slice ahD nhD chD] 0 _ vg1 x3 (by simp) hv,NatAt.sets [.bool (neg Q.num),.slice ahU nhU chU,.slice ahD nhD chD] 0 _ vg2 x3 (by simp) hv,OwnAt.sets [.bool (neg Q.num),.slice ahU nhU chU,.slice ahD nhD chD] 0 _ vhG x3 (by simp) hv,Cells.sets (by omega) [.bool (neg Q.num),.slice ahU nhU chU,.slice ahD nhD chD] 0 _ cb1,BoxAt.sets [.bool (neg Q.num),.slice ahU nhU chU,.slice ahD nhD chD] _ 0 _ xr hv,fun h=>absurd h (by simp [upd]),uo f0,uo f1,uo f2,uo f3,uo f4,fun h=>((f5.out (upd_of rfl h)).setsOff lr [.bool (neg Q.num),.slice ahU nhU chU,.slice ahD nhD chD]),fun h=>((f6.out (upd_of rfl h)).setsOff lr [.bool (neg Q.num),.slice ahU nhU chU,.slice ahD nhD chD]),uo f7,uo f8,fun h=>((f9.out (upd_of rfl h)).setsOff lr [.bool (neg Q.num),.slice ahU nhU chU,.slice ahD nhD chD]),fun h=>rfl,fun _=>⟨[.bool (neg Q.num),.slice ahU nhU chU,.slice ahD nhD chD],rfl,Cells.new x3 [.bool (neg Q.num),.slice ahU nhU chU,.slice ahD nhD chD] (by simp)⟩⟩
 intro dd aa w4 hd hI;obtain ⟨y10,y11,y12,y13,y14,y15,y16,y17,y18,y19,y20,ea,hb,hsz,vg1,vg2,vhG,cb1,xr,pr,f0,f1,f2,f3,f4,f5,f6,f7,f8,f9,f10,f11⟩:=hI;obtain rfl:=f0.out (hd 0 (by simp));obtain rfl:=f1.out (hd 1 (by simp));obtain rfl:=f2.out (hd 2 (by simp));obtain rfl:=f3.out (hd 3 (by simp));obtain rfl:=f4.out (hd 4 (by simp));obtain ⟨ahQ,nhQ,chQ,ex,hQ⟩:=f5.out (hd 5 (by simp));subst ex;obtain ⟨ahU,nhU,chU,ex,hU⟩:=f6.out (hd 6 (by simp));subst ex;obtain rfl:=f7.out (hd 7 (by simp));obtain rfl:=f8.out (hd 8 (by simp));obtain ⟨ahD,nhD,chD,ex,hD⟩:=f9.out (hd 9 (by simp));subst ex;have ex:y20 = .agg #[.bool (neg Q.num),.slice ahU nhU chU,.slice ahD nhD chD]:=f10.out (hd 10 (by simp));subst ex;obtain ⟨vs11,e,h11⟩:=f11.out (hd 11 (by simp));cases e;have lr:=nLt lr hsz;have qr0:=h11 0 (by simp);simp only [lgZ,lgS] at qr0;have qr1:=h11 1 (by simp);simp only [lgZ,lgS] at qr1;have qr2:=h11 2 (by simp);simp only [lgZ,lgS] at qr2;subst ea;simp only [pu];have hQ:=hQ.mono szW;have hU:=hU.mono szW;have hD:=hD.mono szW;have g1:=vg1;have g2:=vg2;have hG:=vhG;have lb1:=nLt lb1 hsz;have qb10:=cb1 0 (by simp);simp only [lgZ,lgS] at qb10;have qb11:=cb1 1 (by simp);simp only [lgZ,lgS] at qb11;clear cb1;have hB:=hb;clear pr;clear hb hd
 go_wp2
 refine bodyPost_ret (v:=.agg #[.bool (neg Q.num),.slice ahU nhU chU,.slice ahD nhD chD]) ?_ rfl ⟨_,_,_,_,_,_,rfl,hU,hD,hB⟩;simp [results,Tryz.f143,go_sem,qr0,qr1,qr2]
theorem over_any (b:Bool) (a:Option Addr) (n c:Nat) (a2:Option Addr) (n2 c2:Nat) (w:World) :
 Calls Tryz.prog 101 #[.agg #[.bool b,.slice a n c,.slice a2 n2 c2]] w (RetVal w (.agg #[.bool b,.slice a2 n2 c2,.slice a n c])):=by
 go_enter Tryz.func101,Tryz.ntmps101
 have hB:=bRf w.heap.size w
 go_wp2
 refine bodyPost_ret (v:=.agg #[.bool b,.slice a2 n2 c2,.slice a n c]) ?_ rfl ⟨rfl,?_⟩
 · simp [results,Tryz.f101,go_sem]
 exact (((bRf _ _).alloc (nRf _) _).alloc (by simp) _)
end
section
open Go.RowKit
theorem chkZ_six {b:Bool} {l:List Nat} (h:chkZ b l≠0):chkZ b l=6:=by
 unfold chkZ at h ⊢
 split
 · rfl
 rename_i hc;rw [if_neg hc] at h;unfold chk at h ⊢;split
 · rfl
 rename_i h2;rw [if_neg h2] at h;exact absurd rfl h
theorem chk_six {l:List Nat} (h:chk l≠0):chk l=6:=by
 unfold chk at h ⊢
 split
 · rfl
 rename_i h2;rw [if_neg h2] at h;exact absurd rfl h
theorem check05_any (b:Bool) (a:Option Addr) (n c:Nat) (l:List Nat) (a2:Option Addr) (n2 c2:Nat) (l2:List Nat) (w:World) (g1:NatAt w a n c l) (g2:NatAt w a2 n2 c2 l2) (hs:n≤68719476736) (hs2:n2≤68719476736) :
 Calls Tryz.prog 97 #[.agg #[.bool b,.slice a n c,.slice a2 n2 c2]] w (RetVal w (.int .i64 (chkR b l l2))):=by
 have hlen:=g2.len
 by_cases h1:chkZ b l=0
 · by_cases h2:chk l2=0
   · by_cases h3:n2=0
     · have e:chkR b l l2=6:=by unfold chkR;rw [if_neg];rintro ⟨_,_,h,_⟩;exact h (List.eq_nil_of_length_eq_zero (by omega))
       rw [e];have H1:=hiD h1;have H2:=hiD h2;have t3:((n2:Int) == 0)=true:=by rw [h3];rfl
       have H3:=hiD h3;clear h1 h2 e h3 hlen
       go_enter Tryz.func97,Tryz.ntmps97
       have hB:=bRf w.heap.size w
       go_wp2_with fail
       obtain ⟨w1,hW,hz0,hb,q,f,qb10,qb11,qb12⟩:=bx3 w (w.heap.size) (by omega) (.bool b) (.slice a n c) (.slice a2 n2 c2) 28;rw [hW];clear hW;have g1:=g1.past hb;have g2:=g2.past hb;have hB:=bLt hB hb;clear hb;have lb1:w.heap.size<w1.heap.size:=by omega
       clear q f;clear hz0
       with_reducible refine (scheck_any b _ _ _ l _ g1).mono ?_
       rintro e w2 ⟨rfl,hb⟩;have g1:=g1.past hb;have g2:=g2.past hb;obtain ⟨qb10,qb11,qb12,lb1⟩:=bq3 hb lb1 qb10 qb11 qb12;have hB:=bLt hB hb;clear hb;rw [H1.out]
       go_wp2_with fail
       with_reducible refine (check_any _ _ _ l2 _ g2).mono ?_
       rintro e w' ⟨rfl,rfl⟩;rw [H2.out]
       go_wp2
       go_ret
       exact ⟨rfl,hB⟩
     have h3b:0<n2:=by omega
     have t3:((n2:Int) == 0)=false:=by rw [beq_eq_false_iff_ne];omega
     have hz:val l2≠0:=by
      intro hz;have e:=digs_val g2.dig (chk_top.1 h2);rw [hz] at e;have:l2.length=0:=by rw [← e];rfl
      omega
     have hgl:(digs (Nat.gcd (val l) (val l2))).length≤n2:=nTr (digs_len_mono (Nat.gcd_le_right _ (Nat.pos_of_ne_zero hz))) g2.short;have HGL:=hiD hgl
     by_cases h4:Nat.gcd (val l) (val l2)=1
     · have e:chkR b l l2=0:=by unfold chkR;rw [if_pos ⟨h1,h2,fun h=>by rw [h] at hlen;simp at hlen;omega,h4⟩]
       rw [e];have e2:cmpI (val (digs (Nat.gcd (val l) (val l2)))) (val (digs 1))=0:=by rw [val_digs,val_digs,h4];rfl
       have H1:=hiD h1;have H2:=hiD h2;have E2:=hiD e2;clear h1 h2 h3 h4 e e2 hz hgl hlen
       go_enter Tryz.func97,Tryz.ntmps97
       have hB:=bRf w.heap.size w
       go_wp2_with fail
       obtain ⟨w1,hW,hz0,hb,q,f,qb10,qb11,qb12⟩:=bx3 w (w.heap.size) (by omega) (.bool b) (.slice a n c) (.slice a2 n2 c2) 28;rw [hW];clear hW;have g1:=g1.past hb;have g2:=g2.past hb;have hB:=bLt hB hb;clear hb;have lb1:w.heap.size<w1.heap.size:=by omega
       clear q f;clear hz0
       with_reducible refine (scheck_any b _ _ _ l _ g1).mono ?_
       rintro e w2 ⟨rfl,hb⟩;have g1:=g1.past hb;have g2:=g2.past hb;obtain ⟨qb10,qb11,qb12,lb1⟩:=bq3 hb lb1 qb10 qb11 qb12;have hB:=bLt hB hb;clear hb;rw [H1.out]
       go_wp2_with fail
       with_reducible refine (check_any _ _ _ l2 _ g2).mono ?_
       rintro e w' ⟨rfl,rfl⟩;rw [H2.out]
       go_wp2_with fail
       with_reducible refine (gcd_any _ _ _ l _ _ _ l2 _ g1 g2 (by omega) (by omega)).mono ?_
       rintro e w3 ⟨ahG,nhG,chG,rfl,hG,hb⟩;have g1:=g1.past hb;have g2:=g2.past hb;obtain ⟨qb10,qb11,qb12,lb1⟩:=bq3 hb lb1 qb10 qb11 qb12;have hB:=bLt hB hb;clear hb
       go_wp2_with fail
       with_reducible refine (one05_any _).mono ?_
       rintro e w4 ⟨ahO,nhO,chO,rfl,hO,hb⟩;have g1:=g1.past hb;have g2:=g2.past hb;have hG:=hG.past hb;obtain ⟨qb10,qb11,qb12,lb1⟩:=bq3 hb lb1 qb10 qb11 qb12;have hB:=bLt hB hb;clear hb
       go_wp2_with fail
       with_reducible refine (cmp_any _ _ _ (digs (Nat.gcd (val l) (val l2))) _ _ _ (digs 1) _ hG.toNatAt hO.toNatAt).mono ?_
       rintro e w5 ⟨rfl,hb⟩;have g1:=g1.past hb;have g2:=g2.past hb;have hG:=hG.past hb;have hO:=hO.past hb;obtain ⟨qb10,qb11,qb12,lb1⟩:=bq3 hb lb1 qb10 qb11 qb12;have hB:=bLt hB hb;clear hb;rw [E2.out]
       go_wp2
       go_ret
       exact ⟨rfl,hB⟩
     have e:chkR b l l2=6:=by unfold chkR;rw [if_neg];rintro ⟨_,_,_,h⟩;exact h4 h
     rw [e];obtain ⟨x,hx⟩:∃ x,cmpI (val (digs (Nat.gcd (val l) (val l2)))) (val (digs 1))=x:=⟨_,rfl⟩
     have hx0:(x == 0)=false:=by
      rw [beq_eq_false_iff_ne];intro h0;rw [h0,val_digs,val_digs] at hx;exact h4 (cmpI_zero.1 hx)
     have hx1:(x != 0)=true:=by simp [bne,hx0]
     have H1:=hiD h1;have H2:=hiD h2;have E2:=hiD hx;clear h1 h2 h3 h4 e hz hgl hlen hx
     go_enter Tryz.func97,Tryz.ntmps97
     have hB:=bRf w.heap.size w
     go_wp2_with fail
     obtain ⟨w1,hW,hz0,hb,q,f,qb10,qb11,qb12⟩:=bx3 w (w.heap.size) (by omega) (.bool b) (.slice a n c) (.slice a2 n2 c2) 28;rw [hW];clear hW;have g1:=g1.past hb;have g2:=g2.past hb;have hB:=bLt hB hb;clear hb;have lb1:w.heap.size<w1.heap.size:=by omega
     clear q f;clear hz0
     with_reducible refine (scheck_any b _ _ _ l _ g1).mono ?_
     rintro e w2 ⟨rfl,hb⟩;have g1:=g1.past hb;have g2:=g2.past hb;obtain ⟨qb10,qb11,qb12,lb1⟩:=bq3 hb lb1 qb10 qb11 qb12;have hB:=bLt hB hb;clear hb;rw [H1.out]
     go_wp2_with fail
     with_reducible refine (check_any _ _ _ l2 _ g2).mono ?_
     rintro e w' ⟨rfl,rfl⟩;rw [H2.out]
     go_wp2_with fail
     with_reducible refine (gcd_any _ _ _ l _ _ _ l2 _ g1 g2 (by omega) (by omega)).mono ?_
     rintro e w3 ⟨ahG,nhG,chG,rfl,hG,hb⟩;have g1:=g1.past hb;have g2:=g2.past hb;obtain ⟨qb10,qb11,qb12,lb1⟩:=bq3 hb lb1 qb10 qb11 qb12;have hB:=bLt hB hb;clear hb
     go_wp2_with fail
     with_reducible refine (one05_any _).mono ?_
     rintro e w4 ⟨ahO,nhO,chO,rfl,hO,hb⟩;have g1:=g1.past hb;have g2:=g2.past hb;have hG:=hG.past hb;obtain ⟨qb10,qb11,qb12,lb1⟩:=bq3 hb lb1 qb10 qb11 qb12;have hB:=bLt hB hb;clear hb
     go_wp2_with fail
     with_reducible refine (cmp_any _ _ _ (digs (Nat.gcd (val l) (val l2))) _ _ _ (digs 1) _ hG.toNatAt hO.toNatAt).mono ?_
     rintro e w5 ⟨rfl,hb⟩;have g1:=g1.past hb;have g2:=g2.past hb;obtain ⟨qb10,qb11,qb12,lb1⟩:=bq3 hb lb1 qb10 qb11 qb12;have hB:=bLt hB hb;clear hb;rw [E2.out]
     go_wp2
     go_ret
     exact ⟨rfl,hB⟩
   have e:chkR b l l2=6:=by unfold chkR;rw [if_neg];rintro ⟨_,h,_⟩;exact h2 h
   rw [e];have H1:=hiD h1;have H2:=hiD (chk_six h2);clear h1 h2 e
   go_enter Tryz.func97,Tryz.ntmps97
   have hB:=bRf w.heap.size w
   go_wp2_with fail
   obtain ⟨w1,hW,hz0,hb,q,f,qb10,qb11,qb12⟩:=bx3 w (w.heap.size) (by omega) (.bool b) (.slice a n c) (.slice a2 n2 c2) 28;rw [hW];clear hW;have g1:=g1.past hb;have g2:=g2.past hb;have hB:=bLt hB hb;clear hb;have lb1:w.heap.size<w1.heap.size:=by omega
   clear q f;clear hz0
   with_reducible refine (scheck_any b _ _ _ l _ g1).mono ?_
   rintro e w2 ⟨rfl,hb⟩;have g1:=g1.past hb;have g2:=g2.past hb;obtain ⟨qb10,qb11,qb12,lb1⟩:=bq3 hb lb1 qb10 qb11 qb12;have hB:=bLt hB hb;clear hb;rw [H1.out]
   go_wp2_with fail
   with_reducible refine (check_any _ _ _ l2 _ g2).mono ?_
   rintro e w' ⟨rfl,rfl⟩;rw [H2.out]
   go_wp2
   go_ret
   exact ⟨rfl,hB⟩
 have e:chkR b l l2=6:=by unfold chkR;rw [if_neg];rintro ⟨h,_⟩;exact h1 h
 rw [e];have H1:=hiD (chkZ_six h1);clear h1 e
 go_enter Tryz.func97,Tryz.ntmps97
 have hB:=bRf w.heap.size w
 go_wp2_with fail
 obtain ⟨w1,hW,hz0,hb,q,f,qb10,qb11,qb12⟩:=bx3 w (w.heap.size) (by omega) (.bool b) (.slice a n c) (.slice a2 n2 c2) 28;rw [hW];clear hW;have g1:=g1.past hb;have hB:=bLt hB hb;clear hb;have lb1:w.heap.size<w1.heap.size:=by omega
 clear q f;clear hz0
 with_reducible refine (scheck_any b _ _ _ l _ g1).mono ?_
 rintro e w2 ⟨rfl,hb⟩;obtain ⟨qb10,qb11,qb12,lb1⟩:=bq3 hb lb1 qb10 qb11 qb12;have hB:=bLt hB hb;clear hb;rw [H1.out]
 go_wp2
 go_ret
 exact ⟨rfl,hB⟩
end
section
open Go.RowKit
def fr (x:Int) (d:Nat) (h:d≠0:=by decide) (h2:x.natAbs.Coprime d:=by decide):Rat:=⟨x,d,h,h2⟩
end
section
open Go.RowKit
def makeR (b:Bool) (l l2:List Nat):Ans:=if chkZ b l≠0 then .error 6 else if val l2=0 then .error 5 else .ok (mkRat (sg b (val l)) (val l2))
theorem make05_any (b:Bool) (a:Option Addr) (n c:Nat) (l:List Nat) (a2:Option Addr) (n2 c2:Nat) (l2:List Nat) (w:World) (g1:NatAt w a n c l) (g2:NatAt w a2 n2 c2 l2) (hs:n≤68719476736) (hs2:n2≤68719476736) :
 Calls Tryz.prog 96 #[.agg #[.bool b,.slice a n c],.slice a2 n2 c2] w (RetAns w (makeR b l l2)):=by
 by_cases h1:chkZ b l=0
 · by_cases h2:val l2=0
   · have e:makeR b l l2 = .error 5:=by unfold makeR;rw [if_neg (by simp [h1]),if_pos h2]
     rw [e];have H1:=hiD h1;have H2:=hiD (show nbits (val l2)=0 by rw [h2];rfl);clear h1 h2 e
     go_enter Tryz.func96,Tryz.ntmps96
     have hB:=bRf w.heap.size w
     go_wp2_with fail
     obtain ⟨w1,hW,hz0,hb,q,f,qb10,qb11⟩:=bx2 w (w.heap.size) (by omega) (.bool b) (.slice a n c) 26;rw [hW];clear hW;have g1:=g1.past hb;have g2:=g2.past hb;have hB:=bLt hB hb;clear hb;have lb1:w.heap.size<w1.heap.size:=by omega
     clear q f;obtain ⟨w2,hW,hz1,hb,q,f,qr0,qr1,qr2⟩:=bx3 w1 (w.heap.size+1) (by omega) (.bool false) (.slice none 0 0) (.slice none 0 0) 28;rw [hW];clear hW;have g1:=g1.past hb;have g2:=g2.past hb;obtain ⟨qb10,qb11,lb1⟩:=bq2 hb lb1 qb10 qb11;have hB:=bLt hB hb;clear hb;have lr:w.heap.size+1<w2.heap.size:=by omega
     have xr:BoxAt w2 (w.heap.size+1) 3:=BoxAt.of q f rfl (by simp [notU_bool,notU_slice,notU_i64]);clear q f;clear hz0;clear hz1
     with_reducible refine (scheck_any b _ _ _ l _ g1).mono ?_
     rintro e w3 ⟨rfl,hb⟩;have g1:=g1.past hb;have g2:=g2.past hb;obtain ⟨qb10,qb11,lb1⟩:=bq2 hb lb1 qb10 qb11;have xr:=xr.past hb lr;obtain ⟨qr0,qr1,qr2,lr⟩:=bq3 hb lr qr0 qr1 qr2;have hB:=bLt hB hb;clear hb;rw [H1.out]
     go_wp2_with fail
     with_reducible refine (len_any _ _ _ l2 _ g2 (by omega)).mono ?_
     rintro e w' ⟨rfl,rfl⟩;rw [H2.out];have zf0:=xr.f 0 (by decide);have zf1:=xr.f 1 (by decide);have zf2:=xr.f 2 (by decide)
     go_wp2
     obtain ⟨w4,hW,hO,qN0,qN1,qN2,xN⟩:=store3 xr (.bool false) (.slice none 0 0) (.slice none 0 0) (nu rfl) (nu rfl) (nu rfl);try rw [hW]
     clear hW;have g1:=hO.nat g1;have g2:=hO.nat g2;have qb10:=(hO.cell (b2:=w.heap.size) (k:=0) (by omega)).trans qb10;have qb11:=(hO.cell (b2:=w.heap.size) (k:=1) (by omega)).trans qb11;have lb1:w.heap.size<w4.heap.size:=by rw [hO.size];exact lb1
     have lr:w.heap.size+1<w4.heap.size:=by rw [hO.size];exact lr
     have qr0:=qN0;have qr1:=qN1;have qr2:=qN2;have xr:=xN;have hB:=hO.below (by omega) hB;clear hO qN0 qN1 qN2 xN zf0 zf1 zf2;refine bodyPost_ret (v:=.tuple #[.agg #[.bool false,.slice none 0 0,.slice none 0 0],.int .i64 5]) ?_ rfl ⟨_,_,_,_,_,_,rfl,OwnAt.nil _ _,OwnAt.nil _ _,hB⟩;simp [results,Tryz.f96,go_sem,qr0,qr1,qr2]
   have e:makeR b l l2 = .ok (mkRat (sg b (val l)) (val l2)):=by unfold makeR;rw [if_neg (by simp [h1]),if_neg h2]
   rw [e]
   have t3:((((nbits (val l2):Nat):Int)) == 0)=false:=by
    rw [beq_eq_false_iff_ne];intro h0;exact h2 (by have:=nbits_pos (n:=val l2);by_cases hh:val l2=0;exact hh;have:=this hh;omega)
   have H1:=hiD h1;have H2:=hiD h2;clear h1 h2 e
   go_enter Tryz.func96,Tryz.ntmps96
   have hB:=bRf w.heap.size w
   go_wp2_with fail
   obtain ⟨w1,hW,hz0,hb,q,f,qb10,qb11⟩:=bx2 w (w.heap.size) (by omega) (.bool b) (.slice a n c) 26;rw [hW];clear hW;have g1:=g1.past hb;have g2:=g2.past hb;have hB:=bLt hB hb;clear hb;have lb1:w.heap.size<w1.heap.size:=by omega
   clear q f;obtain ⟨w2,hW,hz1,hb,q,f,qr0,qr1,qr2⟩:=bx3 w1 (w.heap.size+1) (by omega) (.bool false) (.slice none 0 0) (.slice none 0 0) 28;rw [hW];clear hW;have g1:=g1.past hb;have g2:=g2.past hb;obtain ⟨qb10,qb11,lb1⟩:=bq2 hb lb1 qb10 qb11;have hB:=bLt hB hb;clear hb;have lr:w.heap.size+1<w2.heap.size:=by omega
   have xr:BoxAt w2 (w.heap.size+1) 3:=BoxAt.of q f rfl (by simp [notU_bool,notU_slice,notU_i64]);clear q f;clear hz0;clear hz1
   with_reducible refine (scheck_any b _ _ _ l _ g1).mono ?_
   rintro e w3 ⟨rfl,hb⟩;have g1:=g1.past hb;have g2:=g2.past hb;obtain ⟨qb10,qb11,lb1⟩:=bq2 hb lb1 qb10 qb11;have xr:=xr.past hb lr;obtain ⟨qr0,qr1,qr2,lr⟩:=bq3 hb lr qr0 qr1 qr2;have hB:=bLt hB hb;clear hb;rw [H1.out]
   go_wp2_with fail
   with_reducible refine (len_any _ _ _ l2 _ g2 (by omega)).mono ?_
   rintro e w' ⟨rfl,rfl⟩
   go_wp2_with fail
   with_reducible refine (lowest_any b _ _ _ l _ _ _ l2 _ g1 g2 (by omega) (by omega) H2.out).mono ?_
   rintro e w4 ⟨ahU,nhU,chU,ahD,nhD,chD,rfl,hU,hD,hb⟩;have hU:=hU.mono hB.size;have hD:=hD.mono hB.size;have g1:=g1.past hb;have g2:=g2.past hb;obtain ⟨qb10,qb11,lb1⟩:=bq2 hb lb1 qb10 qb11;have xr:=xr.past hb lr;obtain ⟨qr0,qr1,qr2,lr⟩:=bq3 hb lr qr0 qr1 qr2;have hB:=bLt hB hb;clear hb;have zf0:=xr.f 0 (by decide);have zf1:=xr.f 1 (by decide);have zf2:=xr.f 2 (by decide)
   go_wp2
   obtain ⟨w5,hW,hO,qN0,qN1,qN2,xN⟩:=store3 xr (.bool (neg (mkRat (sg b (val l)) (val l2)).num)) (.slice ahU nhU chU) (.slice ahD nhD chD) (nu rfl) (nu rfl) (nu rfl);try rw [hW]
   clear hW;have g1:=hO.nat g1;have g2:=hO.nat g2;have hU:=hO.own hU;have hD:=hO.own hD;have qb10:=(hO.cell (b2:=w.heap.size) (k:=0) (by omega)).trans qb10;have qb11:=(hO.cell (b2:=w.heap.size) (k:=1) (by omega)).trans qb11;have lb1:w.heap.size<w5.heap.size:=by rw [hO.size];exact lb1
   have lr:w.heap.size+1<w5.heap.size:=by rw [hO.size];exact lr
   have qr0:=qN0;have qr1:=qN1;have qr2:=qN2;have xr:=xN;have hB:=hO.below (by omega) hB;clear hO qN0 qN1 qN2 xN zf0 zf1 zf2;refine bodyPost_ret (v:=.tuple #[.agg #[.bool (neg (mkRat (sg b (val l)) (val l2)).num),.slice ahU nhU chU,.slice ahD nhD chD],.int .i64 0]) ?_ rfl ⟨_,_,_,_,_,_,rfl,hU,hD,hB⟩;simp [results,Tryz.f96,go_sem,qr0,qr1,qr2]
 have e:makeR b l l2 = .error 6:=by unfold makeR;rw [if_pos h1]
 rw [e];have H1:=hiD (chkZ_six h1);clear h1 e
 go_enter Tryz.func96,Tryz.ntmps96
 have hB:=bRf w.heap.size w
 go_wp2_with fail
 obtain ⟨w1,hW,hz0,hb,q,f,qb10,qb11⟩:=bx2 w (w.heap.size) (by omega) (.bool b) (.slice a n c) 26;rw [hW];clear hW;have g1:=g1.past hb;have g2:=g2.past hb;have hB:=bLt hB hb;clear hb;have lb1:w.heap.size<w1.heap.size:=by omega
 clear q f;obtain ⟨w2,hW,hz1,hb,q,f,qr0,qr1,qr2⟩:=bx3 w1 (w.heap.size+1) (by omega) (.bool false) (.slice none 0 0) (.slice none 0 0) 28;rw [hW];clear hW;have g1:=g1.past hb;have g2:=g2.past hb;obtain ⟨qb10,qb11,lb1⟩:=bq2 hb lb1 qb10 qb11;have hB:=bLt hB hb;clear hb;have lr:w.heap.size+1<w2.heap.size:=by omega
 have xr:BoxAt w2 (w.heap.size+1) 3:=BoxAt.of q f rfl (by simp [notU_bool,notU_slice,notU_i64]);clear q f;clear hz0;clear hz1
 with_reducible refine (scheck_any b _ _ _ l _ g1).mono ?_
 rintro e w3 ⟨rfl,hb⟩;have g1:=g1.past hb;have g2:=g2.past hb;obtain ⟨qb10,qb11,lb1⟩:=bq2 hb lb1 qb10 qb11;have xr:=xr.past hb lr;obtain ⟨qr0,qr1,qr2,lr⟩:=bq3 hb lr qr0 qr1 qr2;have hB:=bLt hB hb;clear hb;rw [H1.out];have zf0:=xr.f 0 (by decide);have zf1:=xr.f 1 (by decide);have zf2:=xr.f 2 (by decide)
 go_wp2
 obtain ⟨w4,hW,hO,qN0,qN1,qN2,xN⟩:=store3 xr (.bool false) (.slice none 0 0) (.slice none 0 0) (nu rfl) (nu rfl) (nu rfl);try rw [hW]
 clear hW;have g1:=hO.nat g1;have g2:=hO.nat g2;have qb10:=(hO.cell (b2:=w.heap.size) (k:=0) (by omega)).trans qb10;have qb11:=(hO.cell (b2:=w.heap.size) (k:=1) (by omega)).trans qb11;have lb1:w.heap.size<w4.heap.size:=by rw [hO.size];exact lb1
 have lr:w.heap.size+1<w4.heap.size:=by rw [hO.size];exact lr
 have qr0:=qN0;have qr1:=qN1;have qr2:=qN2;have xr:=xN;have hB:=hO.below (by omega) hB;clear hO qN0 qN1 qN2 xN zf0 zf1 zf2;refine bodyPost_ret (v:=.tuple #[.agg #[.bool false,.slice none 0 0,.slice none 0 0],.int .i64 6]) ?_ rfl ⟨_,_,_,_,_,_,rfl,OwnAt.nil _ _,OwnAt.nil _ _,hB⟩;simp [results,Tryz.f96,go_sem,qr0,qr1,qr2]
def pairR (x y:Int):Ans:=makeR (neg (sg (neg x != neg y) x.natAbs)) (digs (sg (neg x != neg y) x.natAbs).natAbs) (digs y.natAbs)
theorem pair05_any (x y:Int) (w:World) (hx:-9223372036854775808≤x∧x≤9223372036854775807) (hy:-9223372036854775808≤y∧y≤9223372036854775807) :
 Calls Tryz.prog 55 #[.int .i64 x,.int .i64 y] w (RetAns w (pairR x y)):=by
 have lx:(digs x.natAbs).length≤2:=digs_length_le.2 (by omega);have ly:(digs y.natAbs).length≤2:=digs_length_le.2 (by omega);have LX:=hiD lx;have LY:=hiD ly;have hv:sg (!(neg x == neg y)) (val (digs x.natAbs))=sg (neg x != neg y) x.natAbs:=by rw [val_digs];rfl
 have hlz:(digs (sg (neg x != neg y) x.natAbs).natAbs).length≤2:=by rw [natAbs_sg];exact lx
 have hr:makeR (neg (sg (neg x != neg y) x.natAbs)) (digs (sg (neg x != neg y) x.natAbs).natAbs) (digs y.natAbs)=pairR x y:=rfl;have HV:=hiD hv;have HLZ:=hiD hlz;have HR:=hiD hr;generalize pairR x y=R at HR ⊢;clear lx ly hv hlz hr
 go_enter Tryz.func55,Tryz.ntmps55
 have hB:=bRf w.heap.size w
 go_wp2_with fail
 obtain ⟨w1,hW,hz0,hb,q,f,qr0,qr1,qr2⟩:=bx3 w (w.heap.size) (by omega) (.bool false) (.slice none 0 0) (.slice none 0 0) 28;rw [hW];clear hW;have hB:=bLt hB hb;clear hb;have lr:w.heap.size<w1.heap.size:=by omega
 have xr:BoxAt w1 (w.heap.size) 3:=BoxAt.of q f rfl (by simp [notU_bool,notU_slice,notU_i64]);clear q f;clear hz0
 with_reducible refine (sof_any y _ (by omega) (by omega)).mono ?_
 rintro e w2 ⟨ahD,nhD,chD,rfl,hD,hb⟩;have hD:=hD.mono hB.size;have xr:=xr.past hb lr;obtain ⟨qr0,qr1,qr2,lr⟩:=bq3 hb lr qr0 qr1 qr2;have hB:=bLt hB hb;clear hb;have lD:nhD≤2:=by rw [← hD.len];exact LY.out
 go_wp2_with fail
 obtain ⟨w3,hW,hz0,hb,q,f,qd0,qd1⟩:=bx2 w2 (w2.heap.size) (by omega) (.bool (neg y)) (.slice ahD nhD chD) 26;rw [hW];clear hW;have hD:=hD.past hb;have xr:=xr.past hb lr;obtain ⟨qr0,qr1,qr2,lr⟩:=bq3 hb lr qr0 qr1 qr2;have hB:=bLt hB hb;clear hb;have ld:w2.heap.size<w3.heap.size:=by omega
 clear q f;clear hz0
 with_reducible refine (sof_any x _ (by omega) (by omega)).mono ?_
 rintro e w4 ⟨ahU,nhU,chU,rfl,hU,hb⟩;have hU:=hU.mono hB.size;have hD:=hD.past hb;have xr:=xr.past hb lr;obtain ⟨qr0,qr1,qr2,lr⟩:=bq3 hb lr qr0 qr1 qr2;obtain ⟨qd0,qd1,ld⟩:=bq2 hb ld qd0 qd1;have hB:=bLt hB hb;clear hb;have lU:nhU≤2:=by rw [← hU.len];exact LX.out
 go_wp2_with fail
 obtain ⟨w5,hW,hz0,hb,q,f,qu0,qu1⟩:=bx2 w4 (w4.heap.size) (by omega) (.bool (neg x)) (.slice ahU nhU chU) 26;rw [hW];clear hW;have hD:=hD.past hb;have hU:=hU.past hb;have xr:=xr.past hb lr;obtain ⟨qr0,qr1,qr2,lr⟩:=bq3 hb lr qr0 qr1 qr2;obtain ⟨qd0,qd1,ld⟩:=bq2 hb ld qd0 qd1;have hB:=bLt hB hb;clear hb;have lu:w4.heap.size<w5.heap.size:=by omega
 clear q f;clear hz0;have szW:=hB.size;refine wp_region_inv (by kernel_rfl) rfl (by kernel_rfl) (fun A0 V0 dd aa ww=>∃ (y12 y13 y14 y15 y16 y17 y18 y19 y20 y21 y22 y23 y24 y5:Value),aa=puts A0 [(12,y12),(13,y13),(14,y14),(15,y15),(16,y16),(17,y17),(18,y18),(19,y19),(20,y20),(21,y21),(22,y22),(23,y23),(24,y24),(5,y5)]∧Below (w).heap.size (w) ww∧V0.heap.size≤ww.heap.size∧OwnAt ww w.heap.size ahU nhU chU (digs x.natAbs)∧OwnAt ww w.heap.size ahD nhD chD (digs y.natAbs)∧Cells ww (w2.heap.size) [.bool (neg y),.slice ahD nhD chD]∧Cells ww (w4.heap.size) [.bool (neg x),.slice ahU nhU chU]∧BoxAt ww (w.heap.size) 3∧Shut (dd 13=false→Cells ww (w.heap.size) [.bool false,.slice none 0 0,.slice none 0 0])∧Shut (dd 0=true→y12 = .pointer (some ⟨w4.heap.size,0,none⟩))∧Shut (dd 1=true→y13 = .bool (neg x))∧Shut (dd 2=true→y14 = .pointer (some ⟨w2.heap.size,0,none⟩))∧Shut (dd 3=true→y15 = .bool (neg y))∧Shut (dd 4=true→y16 = .bool (!(neg x == neg y)))∧Shut (dd 5=true→y17 = .pointer (some ⟨w4.heap.size,1,none⟩))∧Shut (dd 6=true→y18 = .slice ahU nhU chU)∧Shut (dd 7=true→CopyV V0.heap.size (neg (sg (neg x != neg y) x.natAbs)) (digs (sg (neg x != neg y) x.natAbs).natAbs) y19 ww)∧Shut (dd 8=true→y20 = .pointer (some ⟨w2.heap.size,1,none⟩))∧Shut (dd 9=true→y21 = .slice ahD nhD chD)∧Shut (dd 10=true→AnsV V0.heap.size (R) y22 ww)∧Shut (dd 11=true→y23=part 0 y22)∧Shut (dd 12=true→y24=part 1 y22)∧Shut (dd 13=true→CellsV (w.heap.size) y23 ww)∧Shut (dd 14=true→y5=y24)) ?_ ?_ ?_
 · exact ⟨_,_,_,_,_,_,_,_,_,_,_,_,_,_,puts_self _ [12,13,14,15,16,17,18,19,20,21,22,23,24,5],hB.drew,nRf _,hU.drew,hD.drew,(by intro k hk;simp at hk;rcases (by omega:k=0∨k=1) with rfl | rfl<;>assumption),(by intro k hk;simp at hk;rcases (by omega:k=0∨k=1) with rfl | rfl<;>assumption),xr.drew,(fun _=>by intro k hk;simp at hk;rcases (by omega:k=0∨k=1∨k=2) with rfl | rfl | rfl<;>assumption),nf,nf,nf,nf,nf,nf,nf,nf,nf,nf,nf,nf,nf,nf,nf⟩
 · refine Steps.cons ?_ (Steps.cons ?_ (Steps.cons ?_ (Steps.cons ?_ (Steps.cons ?_ (Steps.cons ?_ (Steps.cons ?_ (Steps.cons ?_ (Steps.cons ?_ (Steps.cons ?_ (Steps.cons ?_ (Steps.cons ?_ (Steps.cons ?_ (Steps.cons ?_ (Steps.cons ?_ (Steps.nil)))))))))))))))
   all_goals (intro dd aa ww K hc hun hn hI hK;obtain ⟨y12,y13,y14,y15,y16,y17,y18,y19,y20,y21,y22,y23,y24,y5,ea,hb,hsz,vhU,vhD,cd,cu,xr,pr,f0,f1,f2,f3,f4,f5,f6,f7,f8,f9,f10,f11,f12,f13,f14⟩:=hI;subst ea;simp only [pu])
   · go_simp;exact hK.out _ _ ⟨_,_,_,_,_,_,_,_,_,_,_,_,_,_,by simp only [pu]<;>rfl,hb,hsz,vhU,vhD,cd,cu,xr,fun h=>(pr.out (upd_off h)),fun _=>rfl,uo f1,uo f2,uo f3,uo f4,uo f5,uo f6,uo f7,uo f8,uo f9,uo f10,uo f11,uo f12,uo f13,uo f14⟩
   · obtain rfl:=f0.out (hc.see hn);have e0:=cu 0 (by simp);simp only [lgZ,lgS] at e0;go_simp;exact hK.out _ _ ⟨_,_,_,_,_,_,_,_,_,_,_,_,_,_,by simp only [pu]<;>rfl,hb,hsz,vhU,vhD,cd,cu,xr,fun h=>(pr.out (upd_off h)),fun h=>rfl,fun _=>rfl,uo f2,uo f3,uo f4,uo f5,uo f6,uo f7,uo f8,uo f9,uo f10,uo f11,uo f12,uo f13,uo f14⟩
   · go_simp;exact hK.out _ _ ⟨_,_,_,_,_,_,_,_,_,_,_,_,_,_,by simp only [pu]<;>rfl,hb,hsz,vhU,vhD,cd,cu,xr,fun h=>(pr.out (upd_off h)),uo f0,uo f1,fun _=>rfl,uo f3,uo f4,uo f5,uo f6,uo f7,uo f8,uo f9,uo f10,uo f11,uo f12,uo f13,uo f14⟩
   · obtain rfl:=f2.out (hc.see hn);have e0:=cd 0 (by simp);simp only [lgZ,lgS] at e0;go_simp;exact hK.out _ _ ⟨_,_,_,_,_,_,_,_,_,_,_,_,_,_,by simp only [pu]<;>rfl,hb,hsz,vhU,vhD,cd,cu,xr,fun h=>(pr.out (upd_off h)),uo f0,uo f1,fun h=>rfl,fun _=>rfl,uo f4,uo f5,uo f6,uo f7,uo f8,uo f9,uo f10,uo f11,uo f12,uo f13,uo f14⟩
   · obtain rfl:=f1.out (hc.see hn);obtain rfl:=f3.out (hc.see hn);go_simp;exact hK.out _ _ ⟨_,_,_,_,_,_,_,_,_,_,_,_,_,_,by simp only [pu]<;>rfl,hb,hsz,vhU,vhD,cd,cu,xr,fun h=>(pr.out (upd_off h)),uo f0,fun h=>rfl,uo f2,fun h=>rfl,fun _=>rfl,uo f5,uo f6,uo f7,uo f8,uo f9,uo f10,uo f11,uo f12,uo f13,uo f14⟩
   · go_simp;exact hK.out _ _ ⟨_,_,_,_,_,_,_,_,_,_,_,_,_,_,by simp only [pu]<;>rfl,hb,hsz,vhU,vhD,cd,cu,xr,fun h=>(pr.out (upd_off h)),uo f0,uo f1,uo f2,uo f3,uo f4,fun _=>rfl,uo f6,uo f7,uo f8,uo f9,uo f10,uo f11,uo f12,uo f13,uo f14⟩
   · obtain rfl:=f5.out (hc.see hn);have e1:=cu 1 (by simp);simp only [lgZ,lgS] at e1;go_simp;exact hK.out _ _ ⟨_,_,_,_,_,_,_,_,_,_,_,_,_,_,by simp only [pu]<;>rfl,hb,hsz,vhU,vhD,cd,cu,xr,fun h=>(pr.out (upd_off h)),uo f0,uo f1,uo f2,uo f3,uo f4,fun h=>rfl,fun _=>rfl,uo f7,uo f8,uo f9,uo f10,uo f11,uo f12,uo f13,uo f14⟩
   · obtain rfl:=f4.out (hc.see hn);obtain rfl:=f6.out (hc.see hn);go_simp
     with_reducible refine (make_any (!(neg x == neg y)) _ _ _ (digs x.natAbs) _ vhU.toNatAt (by omega)).mono ?_
     rintro e w1 ⟨ahM,nhM,chM,rfl,hM,h1⟩;rw [HV.out] at hM ⊢;have lM:=(hM.len ▸ HLZ.out);exact hK.out _ _ ⟨_,_,_,_,_,_,_,_,_,_,_,_,_,_,by simp only [pu]<;>rfl,bLt hb h1,nTr hsz h1.size,vhU.past h1,vhD.past h1,cd.past h1 (nLt ld hsz),cu.past h1 (nLt lu hsz),xr.past h1 (nLt lr hsz),fun h=>(pr.out (upd_off h)).past h1 (nLt lr hsz),uo f0,uo f1,uo f2,uo f3,fun h=>rfl,uo f5,fun h=>rfl,fun _=>⟨_,_,_,rfl,hM.mono hsz⟩,uo f8,uo f9,fun h=>(f10.out (upd_of rfl h)).past h1,uo f11,uo f12,fun h=>(f13.out (upd_of rfl h)).past h1 (nLt lr hsz),uo f14⟩
   · go_simp;exact hK.out _ _ ⟨_,_,_,_,_,_,_,_,_,_,_,_,_,_,by simp only [pu]<;>rfl,hb,hsz,vhU,vhD,cd,cu,xr,fun h=>(pr.out (upd_off h)),uo f0,uo f1,uo f2,uo f3,uo f4,uo f5,uo f6,uo f7,fun _=>rfl,uo f9,uo f10,uo f11,uo f12,uo f13,uo f14⟩
   · obtain rfl:=f8.out (hc.see hn);have e1:=cd 1 (by simp);simp only [lgZ,lgS] at e1;go_simp;exact hK.out _ _ ⟨_,_,_,_,_,_,_,_,_,_,_,_,_,_,by simp only [pu]<;>rfl,hb,hsz,vhU,vhD,cd,cu,xr,fun h=>(pr.out (upd_off h)),uo f0,uo f1,uo f2,uo f3,uo f4,uo f5,uo f6,uo f7,fun h=>rfl,fun _=>rfl,uo f10,uo f11,uo f12,uo f13,uo f14⟩
   · obtain ⟨ahM,nhM,chM,ex,hM⟩:=f7.out (hc.see hn);subst ex;obtain rfl:=f9.out (hc.see hn);go_simp
     with_reducible refine (make05_any (neg (sg (neg x != neg y) x.natAbs)) _ _ _ (digs (sg (neg x != neg y) x.natAbs).natAbs) _ _ _ (digs y.natAbs) _ hM.toNatAt vhD.toNatAt (by have:=hM.len;have:=HLZ.out;omega) (by omega)).mono ?_
     rintro e w1 ⟨ahAU,nhAU,chAU,ahAD,nhAD,chAD,rfl,hAU,hAD,h1⟩;rw [HR.out] at hAU hAD ⊢;exact hK.out _ _ ⟨_,_,_,_,_,_,_,_,_,_,_,_,_,_,by simp only [pu]<;>rfl,bLt hb h1,nTr hsz h1.size,vhU.past h1,vhD.past h1,cd.past h1 (nLt ld hsz),cu.past h1 (nLt lu hsz),xr.past h1 (nLt lr hsz),fun h=>(pr.out (upd_off h)).past h1 (nLt lr hsz),uo f0,uo f1,uo f2,uo f3,uo f4,uo f5,uo f6,fun h=>(f7.out (upd_of rfl h)).past h1,uo f8,fun h=>rfl,fun _=>⟨_,_,_,_,_,_,rfl,hAU.mono hsz,hAD.mono hsz⟩,hc.a hun,hc.a hun,fun h=>(f13.out (upd_of rfl h)).past h1 (nLt lr hsz),uo f14⟩
   · obtain ⟨ahAU,nhAU,chAU,ahAD,nhAD,chAD,ex,hAU,hAD⟩:=f10.out (hc.see hn);subst ex;go_simp;exact hK.out _ _ ⟨_,_,_,_,_,_,_,_,_,_,_,_,_,_,by simp only [pu]<;>rfl,hb,hsz,vhU,vhD,cd,cu,xr,fun h=>(pr.out (upd_off h)),uo f0,uo f1,uo f2,uo f3,uo f4,uo f5,uo f6,uo f7,uo f8,uo f9,uo f10,fun _=>rfl,uo f12,hc.a hun,uo f14⟩
   · obtain ⟨ahAU,nhAU,chAU,ahAD,nhAD,chAD,ex,hAU,hAD⟩:=f10.out (hc.see hn);subst ex;go_simp;exact hK.out _ _ ⟨_,_,_,_,_,_,_,_,_,_,_,_,_,_,by simp only [pu]<;>rfl,hb,hsz,vhU,vhD,cd,cu,xr,fun h=>(pr.out (upd_off h)),uo f0,uo f1,uo f2,uo f3,uo f4,uo f5,uo f6,uo f7,uo f8,uo f9,uo f10,uo f11,fun _=>rfl,uo f13,hc.a hun⟩
   · obtain ⟨ahAU,nhAU,chAU,ahAD,nhAD,chAD,ex,hAU,hAD⟩:=f10.out (hc.see hn);subst ex;have ex:y23 = .agg #[.bool (neg (Ans.up (R))),.slice ahAU nhAU chAU,.slice ahAD nhAD chAD]:=f11.out (hc.see hn);subst ex;have x3:=xr;obtain ⟨v0,v1,v2,z0,z1,z2,z3,z4,z5,_,_,_⟩:=x3.three;have hv:∀ v ∈ ([.bool (neg (Ans.up (R))),.slice ahAU nhAU chAU,.slice ahAD nhAD chAD]:List Value),notU v:=by simp [notU_bool,notU_slice,notU_i64]
     go_simp;exact hK.out _ _ ⟨_,_,_,_,_,_,_,_,_,_,_,_,_,_,by simp only [pu]<;>rfl,hb.trans (below_setCells _ _ (by omega) [.bool (neg (Ans.up (R))),.slice ahAU nhAU chAU,.slice ahAD nhAD chAD] 0 _),(by simpa using hsz),OwnAt.sets [.bool (neg (Ans.up (R))),.slice ahAU nhAU chAU,.slice ahAD nhAD chAD] 0 _ vhU x3 (by simp) hv,OwnAt.sets [.bool (neg (Ans.up (R))),.slice ahAU nhAU chAU,.slice ahAD nhAD chAD] 0 _ vhD x3 (by simp) hv,Cells.sets (by omega) [.bool (neg (Ans.up (R))),.slice ahAU nhAU chAU,.slice ahAD nhAD chAD] 0 _ cd,Cells.sets (by omega) [.bool (neg (Ans.up (R))),.slice ahAU nhAU chAU,.slice ahAD nhAD chAD] 0 _ cu,BoxAt.sets [.bool (neg (Ans.up (R))),.slice ahAU nhAU chAU,.slice ahAD nhAD chAD] _ 0 _ xr hv,fun h=>absurd h (by simp [upd]),uo f0,uo f1,uo f2,uo f3,uo f4,uo f5,uo f6,fun h=>((f7.out (upd_of rfl h)).setsOff lr [.bool (neg (Ans.up (R))),.slice ahAU nhAU chAU,.slice ahAD nhAD chAD]),uo f8,uo f9,fun h=>((f10.out (upd_of rfl h)).setsOff lr [.bool (neg (Ans.up (R))),.slice ahAU nhAU chAU,.slice ahAD nhAD chAD]),fun h=>rfl,uo f12,fun _=>⟨[.bool (neg (Ans.up (R))),.slice ahAU nhAU chAU,.slice ahAD nhAD chAD],rfl,Cells.new x3 [.bool (neg (Ans.up (R))),.slice ahAU nhAU chAU,.slice ahAD nhAD chAD] (by simp)⟩,uo f14⟩
   obtain ⟨ahAU,nhAU,chAU,ahAD,nhAD,chAD,ex,hAU,hAD⟩:=f10.out (hc.see hn);subst ex;have ex:y24 = .int .i64 (Ans.why (R)):=f12.out (hc.see hn);subst ex;go_simp;exact hK.out _ _ ⟨_,_,_,_,_,_,_,_,_,_,_,_,_,_,by simp only [pu]<;>rfl,hb,hsz,vhU,vhD,cd,cu,xr,fun h=>(pr.out (upd_off h)),uo f0,uo f1,uo f2,uo f3,uo f4,uo f5,uo f6,uo f7,uo f8,uo f9,uo f10,uo f11,fun h=>rfl,uo f13,fun _=>rfl⟩
 intro dd aa w6 hd hI;obtain ⟨y12,y13,y14,y15,y16,y17,y18,y19,y20,y21,y22,y23,y24,y5,ea,hb,hsz,vhU,vhD,cd,cu,xr,pr,f0,f1,f2,f3,f4,f5,f6,f7,f8,f9,f10,f11,f12,f13,f14⟩:=hI;obtain rfl:=f0.out (hd 0 (by simp));obtain rfl:=f1.out (hd 1 (by simp));obtain rfl:=f2.out (hd 2 (by simp));obtain rfl:=f3.out (hd 3 (by simp));obtain rfl:=f4.out (hd 4 (by simp));obtain rfl:=f5.out (hd 5 (by simp));obtain rfl:=f6.out (hd 6 (by simp));obtain ⟨ahM,nhM,chM,ex,hM⟩:=f7.out (hd 7 (by simp));subst ex;obtain rfl:=f8.out (hd 8 (by simp));obtain rfl:=f9.out (hd 9 (by simp));obtain ⟨ahAU,nhAU,chAU,ahAD,nhAD,chAD,ex,hAU,hAD⟩:=f10.out (hd 10 (by simp));subst ex;have ex:y23 = .agg #[.bool (neg (Ans.up (R))),.slice ahAU nhAU chAU,.slice ahAD nhAD chAD]:=f11.out (hd 11 (by simp));subst ex;have ex:y24 = .int .i64 (Ans.why (R)):=f12.out (hd 12 (by simp));subst ex;obtain ⟨vs13,e,h13⟩:=f13.out (hd 13 (by simp));cases e;have ex:y5 = .int .i64 (Ans.why (R)):=f14.out (hd 14 (by simp));subst ex;have lr:=nLt lr hsz;have qr0:=h13 0 (by simp);simp only [lgZ,lgS] at qr0;have qr1:=h13 1 (by simp);simp only [lgZ,lgS] at qr1;have qr2:=h13 2 (by simp);simp only [lgZ,lgS] at qr2;subst ea;simp only [pu];have hM:=hM.mono szW;have hAU:=hAU.mono szW;have hAD:=hAD.mono szW;have hD:=vhD;have hU:=vhU;have ld:=nLt ld hsz;have qd0:=cd 0 (by simp)
 simp only [lgZ,lgS] at qd0;have qd1:=cd 1 (by simp);simp only [lgZ,lgS] at qd1;clear cd;have lu:=nLt lu hsz;have qu0:=cu 0 (by simp);simp only [lgZ,lgS] at qu0;have qu1:=cu 1 (by simp);simp only [lgZ,lgS] at qu1;clear cu;have hB:=hb;clear pr;clear hb hd
 go_wp2
 refine bodyPost_ret (v:=.tuple #[.agg #[.bool (neg R.up),.slice ahAU nhAU chAU,.slice ahAD nhAD chAD],.int .i64 R.why]) ?_ rfl ⟨_,_,_,_,_,_,rfl,hAU,hAD,hB⟩;simp [results,Tryz.f55,go_sem,qr0,qr1,qr2]
end
section
open Go.RowKit
theorem whole05_any (a:Option Addr) (n c:Nat) (w:World) :
 Calls Tryz.prog 147 #[.slice a n c] w (RetVal w (.agg #[.bool false,.slice a n c])):=by
 go_enter Tryz.func147,Tryz.ntmps147
 have hB:=bRf w.heap.size w
 go_wp2
 refine bodyPost_ret (v:=.agg #[.bool false,.slice a n c]) ?_ rfl ⟨rfl,?_⟩
 · simp [results,Tryz.f147,go_sem]
 exact ((bRf _ _).alloc (nRf _) _)
theorem sum05_any (b:Bool) (a:Option Addr) (n c:Nat) (l:List Nat) (a2:Option Addr) (n2 c2:Nat) (l2:List Nat) (b3:Bool) (a3:Option Addr) (n3 c3:Nat) (l3:List Nat) (a4:Option Addr) (n4 c4:Nat) (l4:List Nat) (w:World) (g1:NatAt w a n c l) (g2:NatAt w a2 n2 c2 l2) (g3:NatAt w a3 n3 c3 l3) (g4:NatAt w a4 n4 c4 l4) (hs:n≤17179869184) (hs2:n2≤17179869184) (hs3:n3≤17179869184) (hs4:n4≤17179869184) (hz:val l2≠0) (hz4:val l4≠0) :
 Calls Tryz.prog 98 #[.agg #[.bool b,.slice a n c,.slice a2 n2 c2],.agg #[.bool b3,.slice a3 n3 c3,.slice a4 n4 c4]] w (RetRat w (mkRat ((sg b (val l)*(val l4:Int))+(sg b3 (val l3)*(val l2:Int))) (val l2*val l4))):=by
 obtain ⟨X,hX⟩:∃ X,sg b (val l)*(val l4:Int)=X:=⟨_,rfl⟩;obtain ⟨Y,hY⟩:∃ Y,sg b3 (val l3)*(val l2:Int)=Y:=⟨_,rfl⟩;have e1:sg b (val l)*sg false (val l4)=X:=hX;have e2:sg b3 (val l3)*sg false (val l2)=Y:=hY;have e3:sg (neg X) (val (digs X.natAbs))+sg (neg Y) (val (digs Y.natAbs))=X+Y:=by rw [sg_canon,sg_canon]
 have e4:sg (neg (X+Y)) (val (digs (X+Y).natAbs))=X+Y:=sg_canon _;have e5:val (digs (val l2*val l4))=val l2*val l4:=val_digs _;have z5:val (digs (val l2*val l4))≠0:=by rw [e5];exact Nat.mul_ne_zero hz hz4
 have lX:(digs X.natAbs).length≤34359738368:=by
  rw [← hX,Int.natAbs_mul,natAbs_sg];simp only [Int.natAbs_natCast];have:=g1.short;have:=g4.short;have:=digs_len_prod (val l) (val l4);omega
 have lY:(digs Y.natAbs).length≤34359738368:=by
  rw [← hY,Int.natAbs_mul,natAbs_sg];simp only [Int.natAbs_natCast];have:=g3.short;have:=g2.short;have:=digs_len_prod (val l3) (val l2);omega
 have lZ:(digs (X+Y).natAbs).length≤34359738369:=by
  have h1:=digs_len_mono (Int.natAbs_add_le X Y);have h2:=digs_len_add X.natAbs Y.natAbs;omega
 have l5:(digs (val l2*val l4)).length≤34359738368:=by
  have:=g2.short;have:=g4.short;have:=digs_len_prod (val l2) (val l4);omega
 rw [hX,hY];have E1:=hiD e1;have E2:=hiD e2;have E3:=hiD e3;have E4:=hiD e4;have E5:=hiD e5;have Z5:=hiD z5;have LX:=hiD lX;have LY:=hiD lY;have LZ:=hiD lZ;have L5:=hiD l5;clear hz hz4 e1 e2 e3 e4 e5 z5 lX lY lZ l5 hX hY
 go_enter Tryz.func98,Tryz.ntmps98
 have hB:=bRf w.heap.size w
 go_wp2_with fail
 obtain ⟨w1,hW,hz0,hb,q,f,qx0,qx1,qx2⟩:=bx3 w (w.heap.size) (by omega) (.bool b) (.slice a n c) (.slice a2 n2 c2) 28;rw [hW];clear hW;have g1:=g1.past hb;have g2:=g2.past hb;have g3:=g3.past hb;have g4:=g4.past hb;have hB:=bLt hB hb;clear hb;have lx:w.heap.size<w1.heap.size:=by omega
 clear q f;obtain ⟨w2,hW,hz1,hb,q,f,qy0,qy1,qy2⟩:=bx3 w1 (w.heap.size+1) (by omega) (.bool b3) (.slice a3 n3 c3) (.slice a4 n4 c4) 28;rw [hW];clear hW;have g1:=g1.past hb;have g2:=g2.past hb;have g3:=g3.past hb;have g4:=g4.past hb;obtain ⟨qx0,qx1,qx2,lx⟩:=bq3 hb lx qx0 qx1 qx2;have hB:=bLt hB hb;clear hb;have ly:w.heap.size+1<w2.heap.size:=by omega
 clear q f;obtain ⟨w3,hW,hz2,hb,q,f,qr0,qr1,qr2⟩:=bx3 w2 (w.heap.size+1+1) (by omega) (.bool false) (.slice none 0 0) (.slice none 0 0) 28;rw [hW];clear hW;have g1:=g1.past hb;have g2:=g2.past hb;have g3:=g3.past hb;have g4:=g4.past hb;obtain ⟨qx0,qx1,qx2,lx⟩:=bq3 hb lx qx0 qx1 qx2;obtain ⟨qy0,qy1,qy2,ly⟩:=bq3 hb ly qy0 qy1 qy2;have hB:=bLt hB hb;clear hb;have lr:w.heap.size+1+1<w3.heap.size:=by omega
 have xr:BoxAt w3 (w.heap.size+1+1) 3:=BoxAt.of q f rfl (by simp [notU_bool,notU_slice,notU_i64]);clear q f;clear hz0;clear hz1;clear hz2;have szW:=hB.size;refine wp_region_inv (by kernel_rfl) rfl (by kernel_rfl) (fun A0 V0 dd aa ww=>∃ (blk:Nat→Nat) (y7 y8 y9 y10 y11 y12 y13 y14 y15 y16 y17 y18 y19 y20 y21 y6:Value),aa=puts A0 [(7,y7),(8,y8),(9,y9),(10,y10),(11,y11),(12,y12),(13,y13),(14,y14),(15,y15),(16,y16),(17,y17),(18,y18),(19,y19),(20,y20),(21,y21),(6,y6)]∧Below V0.heap.size V0 ww∧Boxes [(15,2)] V0.heap.size dd blk ww∧Shut (dd 0=true→y7 = .pointer (some ⟨w.heap.size,0,none⟩))∧Shut (dd 1=true→y8 = .agg #[.bool b,.slice a n c])∧Shut (dd 2=true→y9 = .func (Fn.func 147) #[] #[])∧Shut (dd 3=true→y10 = .pointer (some ⟨w.heap.size+1,2,none⟩))∧Shut (dd 4=true→y11 = .slice a4 n4 c4)∧Shut (dd 5=true→y12 = .agg #[.bool false,.slice a4 n4 c4])∧Shut (dd 6=true→CopyV V0.heap.size (neg X) (digs X.natAbs) y13 ww)∧Shut (dd 7=true→y14 = .pointer (some ⟨w.heap.size+1,0,none⟩))∧Shut (dd 8=true→y15 = .agg #[.bool b3,.slice a3 n3 c3])∧Shut (dd 9=true→y16 = .func (Fn.func 147) #[] #[])∧Shut (dd 10=true→y17 = .pointer (some ⟨w.heap.size,2,none⟩))∧Shut (dd 11=true→y18 = .slice a2 n2 c2)∧Shut (dd 12=true→y19 = .agg #[.bool false,.slice a2 n2 c2])∧Shut (dd 13=true→CopyV V0.heap.size (neg Y) (digs Y.natAbs) y20 ww)∧Shut (dd 14=true→CopyV V0.heap.size (neg (X+Y)) (digs (X+Y).natAbs) y21 ww)∧Shut (dd 15=true→y6 = .pointer (some ⟨blk 15,0,none⟩))∧Shut (dd 16=true→HoldsV dd 15 14 (blk 15) y21 ww)) ?_ ?_ ?_
 · exact ⟨fun _=>0,_,_,_,_,_,_,_,_,_,_,_,_,_,_,_,_,puts_self _ [7,8,9,10,11,12,13,14,15,16,17,18,19,20,21,6],(bRf _ _).drew,Boxes.none _ _ _ _,nf,nf,nf,nf,nf,nf,nf,nf,nf,nf,nf,nf,nf,nf,nf,nf,nf⟩
 · refine Steps.cons ?_ (Steps.cons ?_ (Steps.cons ?_ (Steps.cons ?_ (Steps.cons ?_ (Steps.cons ?_ (Steps.cons ?_ (Steps.cons ?_ (Steps.cons ?_ (Steps.cons ?_ (Steps.cons ?_ (Steps.cons ?_ (Steps.cons ?_ (Steps.cons ?_ (Steps.cons ?_ (Steps.cons ?_ (Steps.cons ?_ (Steps.nil)))))))))))))))))
   all_goals (intro dd aa ww K hc hun hn hI hK;obtain ⟨blk,y7,y8,y9,y10,y11,y12,y13,y14,y15,y16,y17,y18,y19,y20,y21,y6,ea,hb,hX,f0,f1,f2,f3,f4,f5,f6,f7,f8,f9,f10,f11,f12,f13,f14,f15,f16⟩:=hI;subst ea;simp only [pu])
   · go_simp;exact hK.out _ _ ⟨blk,_,_,_,_,_,_,_,_,_,_,_,_,_,_,_,_,by simp only [pu]<;>rfl,hb,hX.same 0 rfl,fun _=>rfl,uo f1,uo f2,uo f3,uo f4,uo f5,uo f6,uo f7,uo f8,uo f9,uo f10,uo f11,uo f12,uo f13,uo f14,uo f15,fun h=>(f16.out (upd_of rfl h)).same 0⟩
   · obtain rfl:=f0.out (hc.see hn);have e0:=(hb.cell (p:=⟨w.heap.size,0,none⟩) lx).trans qx0;have e1:=(hb.cell (p:=⟨w.heap.size,1,none⟩) lx).trans qx1;go_simp;exact hK.out _ _ ⟨blk,_,_,_,_,_,_,_,_,_,_,_,_,_,_,_,_,by simp only [pu]<;>rfl,hb,hX.same 1 rfl,fun h=>rfl,fun _=>rfl,uo f2,uo f3,uo f4,uo f5,uo f6,uo f7,uo f8,uo f9,uo f10,uo f11,uo f12,uo f13,uo f14,uo f15,fun h=>(f16.out (upd_of rfl h)).same 1⟩
   · go_simp;exact hK.out _ _ ⟨blk,_,_,_,_,_,_,_,_,_,_,_,_,_,_,_,_,by simp only [pu]<;>rfl,hb,hX.same 2 rfl,uo f0,uo f1,fun _=>rfl,uo f3,uo f4,uo f5,uo f6,uo f7,uo f8,uo f9,uo f10,uo f11,uo f12,uo f13,uo f14,uo f15,fun h=>(f16.out (upd_of rfl h)).same 2⟩
   · go_simp;exact hK.out _ _ ⟨blk,_,_,_,_,_,_,_,_,_,_,_,_,_,_,_,_,by simp only [pu]<;>rfl,hb,hX.same 3 rfl,uo f0,uo f1,uo f2,fun _=>rfl,uo f4,uo f5,uo f6,uo f7,uo f8,uo f9,uo f10,uo f11,uo f12,uo f13,uo f14,uo f15,fun h=>(f16.out (upd_of rfl h)).same 3⟩
   · obtain rfl:=f3.out (hc.see hn);have e2:=(hb.cell (p:=⟨w.heap.size+1,2,none⟩) ly).trans qy2;go_simp;exact hK.out _ _ ⟨blk,_,_,_,_,_,_,_,_,_,_,_,_,_,_,_,_,by simp only [pu]<;>rfl,hb,hX.same 4 rfl,uo f0,uo f1,uo f2,fun h=>rfl,fun _=>rfl,uo f5,uo f6,uo f7,uo f8,uo f9,uo f10,uo f11,uo f12,uo f13,uo f14,uo f15,fun h=>(f16.out (upd_of rfl h)).same 4⟩
   · obtain rfl:=f2.out (hc.see hn);obtain rfl:=f4.out (hc.see hn);go_simp
     with_reducible refine (whole05_any _ _ _ _).mono ?_
     rintro e w1 ⟨rfl,h1⟩;exact hK.out _ _ ⟨blk,_,_,_,_,_,_,_,_,_,_,_,_,_,_,_,_,by simp only [pu]<;>rfl,bLt hb h1,hX.past h1 5 rfl,uo f0,uo f1,fun h=>rfl,uo f3,fun h=>rfl,fun _=>rfl,fun h=>(f6.out (upd_of rfl h)).past h1,uo f7,uo f8,uo f9,uo f10,uo f11,uo f12,fun h=>(f13.out (upd_of rfl h)).past h1,fun h=>(f14.out (upd_of rfl h)).past h1,uo f15,fun h=>(f16.out (upd_of rfl h)).past h1 5⟩
   · obtain rfl:=f1.out (hc.see hn);obtain rfl:=f5.out (hc.see hn);go_simp
     with_reducible refine (smul_any b _ _ _ l false _ _ _ l4 _ (g1.past hb) (g4.past hb) (by omega) (by omega)).mono ?_
     rintro e w1 ⟨ahM,nhM,chM,rfl,hM,h1⟩;rw [E1.out] at hM ⊢;exact hK.out _ _ ⟨blk,_,_,_,_,_,_,_,_,_,_,_,_,_,_,_,_,by simp only [pu]<;>rfl,bLt hb h1,hX.past h1 6 rfl,uo f0,fun h=>rfl,uo f2,uo f3,uo f4,fun h=>rfl,fun _=>⟨_,_,_,rfl,hM.mono hb.size⟩,uo f7,uo f8,uo f9,uo f10,uo f11,uo f12,fun h=>(f13.out (upd_of rfl h)).past h1,fun h=>(f14.out (upd_of rfl h)).past h1,uo f15,fun h=>(f16.out (upd_of rfl h)).past h1 6⟩
   · go_simp;exact hK.out _ _ ⟨blk,_,_,_,_,_,_,_,_,_,_,_,_,_,_,_,_,by simp only [pu]<;>rfl,hb,hX.same 7 rfl,uo f0,uo f1,uo f2,uo f3,uo f4,uo f5,uo f6,fun _=>rfl,uo f8,uo f9,uo f10,uo f11,uo f12,uo f13,uo f14,uo f15,fun h=>(f16.out (upd_of rfl h)).same 7⟩
   · obtain rfl:=f7.out (hc.see hn);have e0:=(hb.cell (p:=⟨w.heap.size+1,0,none⟩) ly).trans qy0;have e1:=(hb.cell (p:=⟨w.heap.size+1,1,none⟩) ly).trans qy1;go_simp;exact hK.out _ _ ⟨blk,_,_,_,_,_,_,_,_,_,_,_,_,_,_,_,_,by simp only [pu]<;>rfl,hb,hX.same 8 rfl,uo f0,uo f1,uo f2,uo f3,uo f4,uo f5,uo f6,fun h=>rfl,fun _=>rfl,uo f9,uo f10,uo f11,uo f12,uo f13,uo f14,uo f15,fun h=>(f16.out (upd_of rfl h)).same 8⟩
   · go_simp;exact hK.out _ _ ⟨blk,_,_,_,_,_,_,_,_,_,_,_,_,_,_,_,_,by simp only [pu]<;>rfl,hb,hX.same 9 rfl,uo f0,uo f1,uo f2,uo f3,uo f4,uo f5,uo f6,uo f7,uo f8,fun _=>rfl,uo f10,uo f11,uo f12,uo f13,uo f14,uo f15,fun h=>(f16.out (upd_of rfl h)).same 9⟩
   · go_simp;exact hK.out _ _ ⟨blk,_,_,_,_,_,_,_,_,_,_,_,_,_,_,_,_,by simp only [pu]<;>rfl,hb,hX.same 10 rfl,uo f0,uo f1,uo f2,uo f3,uo f4,uo f5,uo f6,uo f7,uo f8,uo f9,fun _=>rfl,uo f11,uo f12,uo f13,uo f14,uo f15,fun h=>(f16.out (upd_of rfl h)).same 10⟩
   · obtain rfl:=f10.out (hc.see hn);have e2:=(hb.cell (p:=⟨w.heap.size,2,none⟩) lx).trans qx2;go_simp;exact hK.out _ _ ⟨blk,_,_,_,_,_,_,_,_,_,_,_,_,_,_,_,_,by simp only [pu]<;>rfl,hb,hX.same 11 rfl,uo f0,uo f1,uo f2,uo f3,uo f4,uo f5,uo f6,uo f7,uo f8,uo f9,fun h=>rfl,fun _=>rfl,uo f12,uo f13,uo f14,uo f15,fun h=>(f16.out (upd_of rfl h)).same 11⟩
   · obtain rfl:=f9.out (hc.see hn);obtain rfl:=f11.out (hc.see hn);go_simp
     with_reducible refine (whole05_any _ _ _ _).mono ?_
     rintro e w1 ⟨rfl,h1⟩;exact hK.out _ _ ⟨blk,_,_,_,_,_,_,_,_,_,_,_,_,_,_,_,_,by simp only [pu]<;>rfl,bLt hb h1,hX.past h1 12 rfl,uo f0,uo f1,uo f2,uo f3,uo f4,uo f5,fun h=>(f6.out (upd_of rfl h)).past h1,uo f7,uo f8,fun h=>rfl,uo f10,fun h=>rfl,fun _=>rfl,fun h=>(f13.out (upd_of rfl h)).past h1,fun h=>(f14.out (upd_of rfl h)).past h1,uo f15,fun h=>(f16.out (upd_of rfl h)).past h1 12⟩
   · obtain rfl:=f8.out (hc.see hn);obtain rfl:=f12.out (hc.see hn);go_simp
     with_reducible refine (smul_any b3 _ _ _ l3 false _ _ _ l2 _ (g3.past hb) (g2.past hb) (by omega) (by omega)).mono ?_
     rintro e w1 ⟨ahN,nhN,chN,rfl,hN,h1⟩;rw [E2.out] at hN ⊢;exact hK.out _ _ ⟨blk,_,_,_,_,_,_,_,_,_,_,_,_,_,_,_,_,by simp only [pu]<;>rfl,bLt hb h1,hX.past h1 13 rfl,uo f0,uo f1,uo f2,uo f3,uo f4,uo f5,fun h=>(f6.out (upd_of rfl h)).past h1,uo f7,fun h=>rfl,uo f9,uo f10,uo f11,fun h=>rfl,fun _=>⟨_,_,_,rfl,hN.mono hb.size⟩,fun h=>(f14.out (upd_of rfl h)).past h1,uo f15,fun h=>(f16.out (upd_of rfl h)).past h1 13⟩
   · obtain ⟨ahM,nhM,chM,ex,hM⟩:=f6.out (hc.see hn);subst ex;obtain ⟨ahN,nhN,chN,ex,hN⟩:=f13.out (hc.see hn);subst ex;go_simp
     with_reducible refine (sadd_any (neg X) _ _ _ (digs X.natAbs) (neg Y) _ _ _ (digs Y.natAbs) _ hM.toNatAt hN.toNatAt (by have:=hM.len;have:=LX.out;omega) (by have:=hN.len;have:=LY.out;omega)).mono ?_
     rintro e w1 ⟨ahS,nhS,chS,rfl,hS,h1⟩;rw [E3.out] at hS ⊢;exact hK.out _ _ ⟨blk,_,_,_,_,_,_,_,_,_,_,_,_,_,_,_,_,by simp only [pu]<;>rfl,bLt hb h1,hX.past h1 14 rfl,uo f0,uo f1,uo f2,uo f3,uo f4,uo f5,fun h=>(f6.out (upd_of rfl h)).past h1,uo f7,uo f8,uo f9,uo f10,uo f11,uo f12,fun h=>(f13.out (upd_of rfl h)).past h1,fun _=>⟨_,_,_,rfl,hS.mono hb.size⟩,uo f15,fun h=>absurd (HoldsV.vp (f16.out (upd_of rfl h))) (by rw [hun];decide)⟩
   · go_simp;exact hK.out _ _ ⟨setB blk 15 ww.heap.size,_,_,_,_,_,_,_,_,_,_,_,_,_,_,_,_,by simp only [pu]<;>rfl,below_alloc hb _,hX.new hb.size 15 #[.bool false,.slice none 0 0] _ rfl (by simp [notU_bool,notU_slice,notU_i64]),uo f0,uo f1,uo f2,uo f3,uo f4,uo f5,fun h=>(f6.out (upd_of rfl h)).past ((bRf _ _).alloc (nRf _) _),uo f7,uo f8,uo f9,uo f10,uo f11,uo f12,fun h=>(f13.out (upd_of rfl h)).past ((bRf _ _).alloc (nRf _) _),fun h=>(f14.out (upd_of rfl h)).past ((bRf _ _).alloc (nRf _) _),fun _=>rfl,fun h=>absurd (HoldsV.up (f16.out (upd_of rfl h))) (by rw [hun];decide)⟩
   obtain rfl:=f15.out (hc.see hn);obtain ⟨ahS,nhS,chS,ex,hS⟩:=f14.out (hc.see hn);subst ex;have hd15:dd 15=true:=hc.see hn;have hv14:dd 14=true:=hc.see hn;obtain ⟨x1,x2,x3⟩:=hX.at_ (15,2) (by simp) hd15;obtain ⟨v0,v1,z0,z1,z2,z3,_,_⟩:=x3.two;have hv:∀ v ∈ ([.bool (neg (X+Y)),.slice ahS nhS chS]:List Value),notU v:=by simp [notU_bool,notU_slice,notU_i64]
   go_simp;exact hK.out _ _ ⟨blk,_,_,_,_,_,_,_,_,_,_,_,_,_,_,_,_,by simp only [pu]<;>rfl,hb.trans (below_setCells _ _ x1 [.bool (neg (X+Y)),.slice ahS nhS chS] 0 _),(hX.sets [.bool (neg (X+Y)),.slice ahS nhS chS] _ 0 _ hv).same 16 rfl,uo f0,uo f1,uo f2,uo f3,uo f4,uo f5,fun h=>((f6.out (upd_of rfl h)).sets [.bool (neg (X+Y)),.slice ahS nhS chS] x3 (by simp) hv),uo f7,uo f8,uo f9,uo f10,uo f11,uo f12,fun h=>((f13.out (upd_of rfl h)).sets [.bool (neg (X+Y)),.slice ahS nhS chS] x3 (by simp) hv),fun h=>((f14.out (upd_of rfl h)).sets [.bool (neg (X+Y)),.slice ahS nhS chS] x3 (by simp) hv),fun h=>rfl,fun _=>(HoldsV.new hd15 hv14 x2 x3 [.bool (neg (X+Y)),.slice ahS nhS chS] (by simp)).same 16⟩
 intro dd aa w4 hd hI;obtain ⟨blk,y7,y8,y9,y10,y11,y12,y13,y14,y15,y16,y17,y18,y19,y20,y21,y6,ea,hb,hX,f0,f1,f2,f3,f4,f5,f6,f7,f8,f9,f10,f11,f12,f13,f14,f15,f16⟩:=hI;obtain rfl:=f0.out (hd 0 (by simp));obtain rfl:=f1.out (hd 1 (by simp));obtain rfl:=f2.out (hd 2 (by simp));obtain rfl:=f3.out (hd 3 (by simp));obtain rfl:=f4.out (hd 4 (by simp));obtain rfl:=f5.out (hd 5 (by simp));obtain ⟨ahM,nhM,chM,ex,hM⟩:=f6.out (hd 6 (by simp));subst ex;obtain rfl:=f7.out (hd 7 (by simp));obtain rfl:=f8.out (hd 8 (by simp));obtain rfl:=f9.out (hd 9 (by simp));obtain rfl:=f10.out (hd 10 (by simp));obtain rfl:=f11.out (hd 11 (by simp));obtain rfl:=f12.out (hd 12 (by simp));obtain ⟨ahN,nhN,chN,ex,hN⟩:=f13.out (hd 13 (by simp));subst ex;obtain ⟨ahS,nhS,chS,ex,hS⟩:=f14.out (hd 14 (by simp));subst ex;obtain rfl:=f15.out (hd 15 (by simp));obtain ⟨vs16,e,h16⟩:=f16.out (hd 16 (by simp));cases e;have ls:=h16.lt;have qs0:=h16.at_ 0 (by simp);simp only [lgZ,lgS] at qs0;have qs1:=h16.at_ 1 (by simp);simp only [lgZ,lgS] at qs1;have usr:w.heap.size+1+1<blk 15:=nLt lr (hX.at_ (15,2) (by simp) (hd 15 (by simp))).1;generalize blk 15=Bs at *;subst ea;simp only [pu];have hM:=hM.mono szW;have hN:=hN.mono szW;have hS:=hS.mono szW;have g1:=g1.past hb;have g2:=g2.past hb;have g3:=g3.past hb;have g4:=g4.past hb;obtain ⟨qx0,qx1,qx2,lx⟩:=bq3 hb lx qx0 qx1 qx2
 obtain ⟨qy0,qy1,qy2,ly⟩:=bq3 hb ly qy0 qy1 qy2;have xr:=xr.past hb lr;obtain ⟨qr0,qr1,qr2,lr⟩:=bq3 hb lr qr0 qr1 qr2;have hB:=bLt hB hb;clear hX;clear hb hd
 go_wp2_with fail
 have szW:=hB.size;refine wp_region_inv (by kernel_rfl) rfl (by kernel_rfl) (fun A0 V0 dd aa ww=>∃ (y22 y23 y24 y25 y26 y27 y28:Value),aa=puts A0 [(22,y22),(23,y23),(24,y24),(25,y25),(26,y26),(27,y27),(28,y28)]∧Below (w).heap.size (w) ww∧V0.heap.size≤ww.heap.size∧NatAt ww a n c l∧NatAt ww a2 n2 c2 l2∧NatAt ww a3 n3 c3 l3∧NatAt ww a4 n4 c4 l4∧OwnAt ww w.heap.size ahS nhS chS (digs (X+Y).natAbs)∧Cells ww (w.heap.size) [.bool b,.slice a n c,.slice a2 n2 c2]∧Cells ww (w.heap.size+1) [.bool b3,.slice a3 n3 c3,.slice a4 n4 c4]∧Cells ww (Bs) [.bool (neg (X+Y)),.slice ahS nhS chS]∧BoxAt ww (w.heap.size+1+1) 3∧Shut (dd 7=false→Cells ww (w.heap.size+1+1) [.bool false,.slice none 0 0,.slice none 0 0])∧Shut (dd 0=true→y22 = .agg #[.bool (neg (X+Y)),.slice ahS nhS chS])∧Shut (dd 1=true→y23 = .pointer (some ⟨w.heap.size,2,none⟩))∧Shut (dd 2=true→y24 = .slice a2 n2 c2)∧Shut (dd 3=true→y25 = .pointer (some ⟨w.heap.size+1,2,none⟩))∧Shut (dd 4=true→y26 = .slice a4 n4 c4)∧Shut (dd 5=true→NatV V0.heap.size (digs (val l2*val l4)) y27 ww)∧Shut (dd 6=true→RatV V0.heap.size (mkRat (X+Y) (val l2*val l4)) y28 ww)∧Shut (dd 7=true→CellsV (w.heap.size+1+1) y28 ww)) ?_ ?_ ?_
 · exact ⟨_,_,_,_,_,_,_,puts_self _ [22,23,24,25,26,27,28],hB.drew,nRf _,g1.drew,g2.drew,g3.drew,g4.drew,hS.drew,(by intro k hk;simp at hk;rcases (by omega:k=0∨k=1∨k=2) with rfl | rfl | rfl<;>assumption),(by intro k hk;simp at hk;rcases (by omega:k=0∨k=1∨k=2) with rfl | rfl | rfl<;>assumption),(by intro k hk;simp at hk;rcases (by omega:k=0∨k=1) with rfl | rfl<;>assumption),xr.drew,(fun _=>by intro k hk;simp at hk;rcases (by omega:k=0∨k=1∨k=2) with rfl | rfl | rfl<;>assumption),nf,nf,nf,nf,nf,nf,nf,nf⟩
 · refine Steps.cons ?_ (Steps.cons ?_ (Steps.cons ?_ (Steps.cons ?_ (Steps.cons ?_ (Steps.cons ?_ (Steps.cons ?_ (Steps.cons ?_ (Steps.nil))))))))
   all_goals (intro dd aa ww K hc hun hn hI hK;obtain ⟨y22,y23,y24,y25,y26,y27,y28,ea,hb,hsz,vg1,vg2,vg3,vg4,vhS,cx,cy,cs,xr,pr,f0,f1,f2,f3,f4,f5,f6,f7⟩:=hI;subst ea;simp only [pu])
   · have e0:=cs 0 (by simp);simp only [lgZ,lgS] at e0;have e1:=cs 1 (by simp);simp only [lgZ,lgS] at e1;go_simp;exact hK.out _ _ ⟨_,_,_,_,_,_,_,by simp only [pu]<;>rfl,hb,hsz,vg1,vg2,vg3,vg4,vhS,cx,cy,cs,xr,fun h=>(pr.out (upd_off h)),fun _=>rfl,uo f1,uo f2,uo f3,uo f4,uo f5,uo f6,uo f7⟩
   · go_simp;exact hK.out _ _ ⟨_,_,_,_,_,_,_,by simp only [pu]<;>rfl,hb,hsz,vg1,vg2,vg3,vg4,vhS,cx,cy,cs,xr,fun h=>(pr.out (upd_off h)),uo f0,fun _=>rfl,uo f2,uo f3,uo f4,uo f5,uo f6,uo f7⟩
   · obtain rfl:=f1.out (hc.see hn);have e2:=cx 2 (by simp);simp only [lgZ,lgS] at e2;go_simp;exact hK.out _ _ ⟨_,_,_,_,_,_,_,by simp only [pu]<;>rfl,hb,hsz,vg1,vg2,vg3,vg4,vhS,cx,cy,cs,xr,fun h=>(pr.out (upd_off h)),uo f0,fun h=>rfl,fun _=>rfl,uo f3,uo f4,uo f5,uo f6,uo f7⟩
   · go_simp;exact hK.out _ _ ⟨_,_,_,_,_,_,_,by simp only [pu]<;>rfl,hb,hsz,vg1,vg2,vg3,vg4,vhS,cx,cy,cs,xr,fun h=>(pr.out (upd_off h)),uo f0,uo f1,uo f2,fun _=>rfl,uo f4,uo f5,uo f6,uo f7⟩
   · obtain rfl:=f3.out (hc.see hn);have e2:=cy 2 (by simp);simp only [lgZ,lgS] at e2;go_simp;exact hK.out _ _ ⟨_,_,_,_,_,_,_,by simp only [pu]<;>rfl,hb,hsz,vg1,vg2,vg3,vg4,vhS,cx,cy,cs,xr,fun h=>(pr.out (upd_off h)),uo f0,uo f1,uo f2,fun h=>rfl,fun _=>rfl,uo f5,uo f6,uo f7⟩
   · obtain rfl:=f2.out (hc.see hn);obtain rfl:=f4.out (hc.see hn);go_simp
     with_reducible refine (tmul_any _ _ _ l2 _ _ _ l4 _ vg2 vg4 (by omega) (by omega)).mono ?_
     rintro e w1 ⟨ahD,nhD,chD,rfl,hD,h1⟩;exact hK.out _ _ ⟨_,_,_,_,_,_,_,by simp only [pu]<;>rfl,bLt hb h1,nTr hsz h1.size,vg1.past h1,vg2.past h1,vg3.past h1,vg4.past h1,vhS.past h1,cx.past h1 (nLt lx hsz),cy.past h1 (nLt ly hsz),cs.past h1 (nLt ls hsz),xr.past h1 (nLt lr hsz),fun h=>(pr.out (upd_off h)).past h1 (nLt lr hsz),uo f0,uo f1,fun h=>rfl,uo f3,fun h=>rfl,fun _=>⟨_,_,_,rfl,hD.mono hsz⟩,fun h=>(f6.out (upd_of rfl h)).past h1,fun h=>(f7.out (upd_of rfl h)).past h1 (nLt lr hsz)⟩
   · obtain rfl:=f0.out (hc.see hn);obtain ⟨ahD,nhD,chD,ex,hD⟩:=f5.out (hc.see hn);subst ex;go_simp
     with_reducible refine (lowest_any (neg (X+Y)) _ _ _ (digs (X+Y).natAbs) _ _ _ (digs (val l2*val l4)) _ vhS.toNatAt hD.toNatAt (by have:=hS.len;have:=LZ.out;omega) (by have:=hD.len;have:=L5.out;omega) Z5.out).mono ?_
     rintro e w1 ⟨ahRU,nhRU,chRU,ahRD,nhRD,chRD,rfl,hRU,hRD,h1⟩;rw [E4.out,E5.out] at hRU hRD ⊢;exact hK.out _ _ ⟨_,_,_,_,_,_,_,by simp only [pu]<;>rfl,bLt hb h1,nTr hsz h1.size,vg1.past h1,vg2.past h1,vg3.past h1,vg4.past h1,vhS.past h1,cx.past h1 (nLt lx hsz),cy.past h1 (nLt ly hsz),cs.past h1 (nLt ls hsz),xr.past h1 (nLt lr hsz),fun h=>(pr.out (upd_off h)).past h1 (nLt lr hsz),fun h=>rfl,uo f1,uo f2,uo f3,uo f4,fun h=>(f5.out (upd_of rfl h)).past h1,fun _=>⟨_,_,_,_,_,_,rfl,hRU.mono hsz,hRD.mono hsz⟩,hc.a hun⟩
   obtain ⟨ahRU,nhRU,chRU,ahRD,nhRD,chRD,ex,hRU,hRD⟩:=f6.out (hc.see hn);subst ex;have x3:=xr;obtain ⟨v0,v1,v2,z0,z1,z2,z3,z4,z5,_,_,_⟩:=x3.three;have hv:∀ v ∈ ([.bool (neg (mkRat (X+Y) (val l2*val l4)).num),.slice ahRU nhRU chRU,.slice ahRD nhRD chRD]:List Value),notU v:=by simp [notU_bool,notU_slice,notU_i64]
   go_simp;exact hK.out _ _ ⟨_,_,_,_,_,_,_,by simp only [pu]<;>rfl,hb.trans (below_setCells _ _ (by omega) [.bool (neg (mkRat (X+Y) (val l2*val l4)).num),.slice ahRU nhRU chRU,.slice ahRD nhRD chRD] 0 _),(by simpa using hsz),NatAt.sets [.bool (neg (mkRat (X+Y) (val l2*val l4)).num),.slice ahRU nhRU chRU,.slice ahRD nhRD chRD] 0 _ vg1 x3 (by simp) hv,NatAt.sets [.bool (neg (mkRat (X+Y) (val l2*val l4)).num),.slice ahRU nhRU chRU,.slice ahRD nhRD chRD] 0 _ vg2 x3 (by simp) hv,NatAt.sets [.bool (neg (mkRat (X+Y) (val l2*val l4)).num),.slice ahRU nhRU chRU,.slice ahRD nhRD chRD] 0 _ vg3 x3 (by simp) hv,NatAt.sets [.bool (neg (mkRat (X+Y) (val l2*val l4)).num),.slice ahRU nhRU chRU,.slice ahRD nhRD chRD] 0 _ vg4 x3 (by simp) hv,OwnAt.sets [.bool (neg (mkRat (X+Y) (val l2*val l4)).num),.slice ahRU nhRU chRU,.slice ahRD nhRD chRD] 0 _ vhS x3 (by simp) hv,Cells.sets (by omega) [.bool (neg (mkRat (X+Y) (val l2*val l4)).num),.slice ahRU nhRU chRU,.slice ahRD nhRD chRD] 0 _ cx,Cells.sets (by omega) [.bool (neg (mkRat (X+Y) (val l2*val l4)).num),.slice ahRU nhRU chRU,.slice ahRD nhRD chRD] 0 _ cy,Cells.sets (by omega) [.bool (neg (mkRat (X+Y) (val l2*val l4)).num),.slice ahRU nhRU chRU,.slice ahRD nhRD chRD] 0 _ cs,BoxAt.sets [.bool (neg (mkRat (X+Y) (val l2*val l4)).num),.slice ahRU nhRU chRU,.slice ahRD nhRD chRD] _ 0 _ xr hv,fun h=>absurd h (by simp [upd]),uo f0,uo f1,uo f2,uo f3,uo f4,fun h=>((f5.out (upd_of rfl h)).setsOff lr [.bool (neg (mkRat (X+Y) (val l2*val l4)).num),.slice ahRU nhRU chRU,.slice ahRD nhRD chRD]),fun h=>((f6.out (upd_of rfl h)).setsOff lr [.bool (neg (mkRat (X+Y) (val l2*val l4)).num),.slice ahRU nhRU chRU,.slice ahRD nhRD chRD]),fun _=>⟨[.bool (neg (mkRat (X+Y) (val l2*val l4)).num),.slice ahRU nhRU chRU,.slice ahRD nhRD chRD],rfl,Cells.new x3 [.bool (neg (mkRat (X+Y) (val l2*val l4)).num),.slice ahRU nhRU chRU,.slice ahRD nhRD chRD] (by simp)⟩⟩
 intro dd aa w5 hd hI;obtain ⟨y22,y23,y24,y25,y26,y27,y28,ea,hb,hsz,vg1,vg2,vg3,vg4,vhS,cx,cy,cs,xr,pr,f0,f1,f2,f3,f4,f5,f6,f7⟩:=hI;obtain rfl:=f0.out (hd 0 (by simp));obtain rfl:=f1.out (hd 1 (by simp));obtain rfl:=f2.out (hd 2 (by simp));obtain rfl:=f3.out (hd 3 (by simp));obtain rfl:=f4.out (hd 4 (by simp));obtain ⟨ahD,nhD,chD,ex,hD⟩:=f5.out (hd 5 (by simp));subst ex;obtain ⟨ahRU,nhRU,chRU,ahRD,nhRD,chRD,ex,hRU,hRD⟩:=f6.out (hd 6 (by simp));subst ex;obtain ⟨vs7,e,h7⟩:=f7.out (hd 7 (by simp));cases e;have lr:=nLt lr hsz;have qr0:=h7 0 (by simp);simp only [lgZ,lgS] at qr0;have qr1:=h7 1 (by simp);simp only [lgZ,lgS] at qr1;have qr2:=h7 2 (by simp);simp only [lgZ,lgS] at qr2;subst ea;simp only [pu];have hD:=hD.mono szW;have hRU:=hRU.mono szW;have hRD:=hRD.mono szW;have g1:=vg1;have g2:=vg2;have g3:=vg3;have g4:=vg4;have hS:=vhS;have lx:=nLt lx hsz;have qx0:=cx 0 (by simp);simp only [lgZ,lgS] at qx0;have qx1:=cx 1 (by simp);simp only [lgZ,lgS] at qx1;have qx2:=cx 2 (by simp);simp only [lgZ,lgS] at qx2;clear cx;have ly:=nLt ly hsz;have qy0:=cy 0 (by simp);simp only [lgZ,lgS] at qy0;have qy1:=cy 1 (by simp);simp only [lgZ,lgS] at qy1;have qy2:=cy 2 (by simp);simp only [lgZ,lgS] at qy2;clear cy;have ls:=nLt ls hsz;have qs0:=cs 0 (by simp);simp only [lgZ,lgS] at qs0
 have qs1:=cs 1 (by simp);simp only [lgZ,lgS] at qs1;clear cs;have hB:=hb;clear pr;clear hb hd
 go_wp2
 refine bodyPost_ret (v:=.agg #[.bool (neg (mkRat (X+Y) (val l2*val l4)).num),.slice ahRU nhRU chRU,.slice ahRD nhRD chRD]) ?_ rfl ⟨_,_,_,_,_,_,rfl,hRU,hRD,hB⟩;simp [results,Tryz.f98,go_sem,qr0,qr1,qr2]
end
end Go.Proofs.YtkhcblihbalnbaaGreatDoor
