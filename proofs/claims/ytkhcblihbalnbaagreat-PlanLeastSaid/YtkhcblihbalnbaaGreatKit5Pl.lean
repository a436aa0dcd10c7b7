import Derived.Test.YtkhcblihbalnbaaGreatS0Pl
import Derived.Test.YtkhcblihbalnbaaGreatSigned2Pl
import Derived.Test.YtkhcblihbalnbaaGreatRegPl
set_option linter.unusedVariables false
set_option linter.unusedSimpArgs false
set_option maxHeartbeats 4000000
set_option maxRecDepth 100000
namespace Go.Proofs.YtkhcblihbalnbaaGreat
section
open Go.RowKit
def eqR (b:Bool) (l l2:List Nat) (b3:Bool) (l3 l4:List Nat):Bool:=decide (b=b3∧l=l3∧l2=l4)
theorem sameRatio_any (b:Bool) (a:Option Addr) (n c:Nat) (l:List Nat) (a2:Option Addr) (n2 c2:Nat) (l2:List Nat) (b3:Bool) (a3:Option Addr) (n3 c3:Nat) (l3:List Nat) (a4:Option Addr) (n4 c4:Nat) (l4:List Nat) (w:World) (g1:NatAt w a n c l) (g2:NatAt w a2 n2 c2 l2) (g3:NatAt w a3 n3 c3 l3) (g4:NatAt w a4 n4 c4 l4) :
 Calls Tryz.prog 15 #[.agg #[.bool b,.slice a n c,.slice a2 n2 c2],.agg #[.bool b3,.slice a3 n3 c3,.slice a4 n4 c4]] w (RetVal w (.bool (eqR b l l2 b3 l3 l4))):=by
 by_cases hb:b=b3
 · by_cases hl:l=l3
   · subst hb hl;have e:eqR b l l2 b l l4=eqL l2 l4:=by unfold eqR eqL;simp
     rw [e];clear e
     go_enter Tryz.func15,Tryz.ntmps15
     have hB:=bRf w.heap.size w
     go_wp2_with fail
     obtain ⟨w1,hW,hz0,hb,q,f⟩:=box1g w (w.heap.size) (by omega) #[.bool b,.slice a n c,.slice a2 n2 c2] 28;rw [hW];clear hW;have g1:=g1.past hb;have g2:=g2.past hb;have g3:=g3.past hb;have g4:=g4.past hb;have hB:=bLt hB hb;clear hb;have lx:w.heap.size<w1.heap.size:=by omega
     have qx0:=q 0;have qx1:=q 1;have qx2:=q 2;simp only [lgA,lgZ,lgS] at qx0 qx1 qx2;clear q f;obtain ⟨w2,hW,hz1,hb,q,f⟩:=box1g w1 (w.heap.size+1) (by omega) #[.bool b,.slice a3 n3 c3,.slice a4 n4 c4] 28;rw [hW];clear hW;have g1:=g1.past hb;have g2:=g2.past hb;have g3:=g3.past hb;have g4:=g4.past hb;obtain ⟨qx0,qx1,qx2,lx⟩:=bq3 hb lx qx0 qx1 qx2;have hB:=bLt hB hb;clear hb;have ly:w.heap.size+1<w2.heap.size:=by omega
     have qy0:=q 0;have qy1:=q 1;have qy2:=q 2;simp only [lgA,lgZ,lgS] at qy0 qy1 qy2;clear q f;clear hz0;clear hz1
     with_reducible refine (sameWhole_yes g1 g3).mono ?_
     rintro e w3 ⟨rfl,hb⟩;have g1:=g1.past hb;have g2:=g2.past hb;have g3:=g3.past hb;have g4:=g4.past hb;obtain ⟨qx0,qx1,qx2,lx⟩:=bq3 hb lx qx0 qx1 qx2;obtain ⟨qy0,qy1,qy2,ly⟩:=bq3 hb ly qy0 qy1 qy2;have hB:=bLt hB hb;clear hb
     go_wp2_with fail
     with_reducible refine (sameNat_below g2 g4).mono ?_
     rintro e w4 ⟨rfl,hb⟩;have g1:=g1.past hb;have g3:=g3.past hb;obtain ⟨qx0,qx1,qx2,lx⟩:=bq3 hb lx qx0 qx1 qx2;obtain ⟨qy0,qy1,qy2,ly⟩:=bq3 hb ly qy0 qy1 qy2;have hB:=bLt hB hb;clear hb
     go_wp2
     go_ret
     exact ⟨rfl,hB⟩
   have e:eqR b l l2 b3 l3 l4=false:=by unfold eqR;simp [hl]
   rw [e];subst hb;have E:=hiD (show eqL l l3=false from eqL_false.2 hl);clear e hl
   go_enter Tryz.func15,Tryz.ntmps15
   have hB:=bRf w.heap.size w
   go_wp2_with fail
   obtain ⟨w1,hW,hz0,hb,q,f⟩:=box1g w (w.heap.size) (by omega) #[.bool b,.slice a n c,.slice a2 n2 c2] 28;rw [hW];clear hW;have g1:=g1.past hb;have g3:=g3.past hb;have hB:=bLt hB hb;clear hb;have lx:w.heap.size<w1.heap.size:=by omega
   have qx0:=q 0;have qx1:=q 1;have qx2:=q 2;simp only [lgA,lgZ,lgS] at qx0 qx1 qx2;clear q f;obtain ⟨w2,hW,hz1,hb,q,f⟩:=box1g w1 (w.heap.size+1) (by omega) #[.bool b,.slice a3 n3 c3,.slice a4 n4 c4] 28;rw [hW];clear hW;have g1:=g1.past hb;have g3:=g3.past hb;obtain ⟨qx0,qx1,qx2,lx⟩:=bq3 hb lx qx0 qx1 qx2;have hB:=bLt hB hb;clear hb;have ly:w.heap.size+1<w2.heap.size:=by omega
   have qy0:=q 0;have qy1:=q 1;have qy2:=q 2;simp only [lgA,lgZ,lgS] at qy0 qy1 qy2;clear q f;clear hz0;clear hz1
   with_reducible refine (sameWhole_eq _ _ _ _ l _ _ _ l3 _ g1 g3).mono ?_
   rintro e w3 ⟨rfl,hb⟩;obtain ⟨qx0,qx1,qx2,lx⟩:=bq3 hb lx qx0 qx1 qx2;obtain ⟨qy0,qy1,qy2,ly⟩:=bq3 hb ly qy0 qy1 qy2;have hB:=bLt hB hb;clear hb;rw [E.out]
   go_wp2
   go_ret
   exact ⟨rfl,hB⟩
 have e:eqR b l l2 b3 l3 l4=false:=by unfold eqR;simp [hb]
 rw [e];have hb':(b == b3)=false:=by simpa using hb
 clear e hb
 go_enter Tryz.func15,Tryz.ntmps15
 have hB:=bRf w.heap.size w
 go_wp2_with fail
 obtain ⟨w1,hW,hz0,hb,q,f⟩:=box1g w (w.heap.size) (by omega) #[.bool b,.slice a n c,.slice a2 n2 c2] 28;rw [hW];clear hW;have hB:=bLt hB hb;clear hb;have lx:w.heap.size<w1.heap.size:=by omega
 have qx0:=q 0;have qx1:=q 1;have qx2:=q 2;simp only [lgA,lgZ,lgS] at qx0 qx1 qx2;clear q f;obtain ⟨w2,hW,hz1,hb,q,f⟩:=box1g w1 (w.heap.size+1) (by omega) #[.bool b3,.slice a3 n3 c3,.slice a4 n4 c4] 28;rw [hW];clear hW;obtain ⟨qx0,qx1,qx2,lx⟩:=bq3 hb lx qx0 qx1 qx2;have hB:=bLt hB hb;clear hb;have ly:w.heap.size+1<w2.heap.size:=by omega
 have qy0:=q 0;have qy1:=q 1;have qy2:=q 2;simp only [lgA,lgZ,lgS] at qy0 qy1 qy2;clear q f;clear hz0;clear hz1
 with_reducible refine (sameWhole_no _ _ _ _ _ _ _ _ _ hb').mono ?_
 rintro e w3 ⟨rfl,hb⟩;obtain ⟨qx0,qx1,qx2,lx⟩:=bq3 hb lx qx0 qx1 qx2;obtain ⟨qy0,qy1,qy2,ly⟩:=bq3 hb ly qy0 qy1 qy2;have hB:=bLt hB hb;clear hb
 go_wp2
 go_ret
 exact ⟨rfl,hB⟩
end
section
open Go.RowKit
def RetCopyR (w:World) (b:Bool) (l l2:List Nat) (e:Ending) (w':World):Prop :=
 ∃ a n c a2 n2 c2,e = .returned (.agg #[.bool b,.slice a n c,.slice a2 n2 c2])∧OwnAt w' w.heap.size a n c l∧OwnAt w' w.heap.size a2 n2 c2 l2∧Below w.heap.size w w'
theorem copyRatio_any (b:Bool) (a:Option Addr) (n c:Nat) (l:List Nat) (a2:Option Addr) (n2 c2:Nat) (l2:List Nat) (w:World) (g1:NatAt w a n c l) (g2:NatAt w a2 n2 c2 l2) (hs:n≤1099511627776) (hs2:n2≤1099511627776) :
 Calls Tryz.prog 10 #[.agg #[.bool b,.slice a n c,.slice a2 n2 c2]] w (RetCopyR w b l l2):=by
 go_enter Tryz.func10,Tryz.ntmps10
 have hB:=bRf w.heap.size w
 go_wp2_with fail
 obtain ⟨w1,hW,hz0,hb,q,f⟩:=box1g w (w.heap.size) (by omega) #[.bool b,.slice a n c,.slice a2 n2 c2] 28;rw [hW];clear hW;have g1:=g1.past hb;have g2:=g2.past hb;have hB:=bLt hB hb;clear hb;have lx:w.heap.size<w1.heap.size:=by omega
 have qx0:=q 0;have qx1:=q 1;have qx2:=q 2;simp only [lgA,lgZ,lgS] at qx0 qx1 qx2;have xx:BoxAt w1 (w.heap.size) 3:=BoxAt.of q f rfl (by simp [notU_bool,notU_slice,notU_i64]);clear q f;obtain ⟨w2,hW,hz1,hb,q,f⟩:=box1g w1 (w.heap.size+1) (by omega) #[.bool false,.slice none 0 0,.slice none 0 0] 28;rw [hW];clear hW;have g1:=g1.past hb;have g2:=g2.past hb;have xx:=xx.past hb lx;obtain ⟨qx0,qx1,qx2,lx⟩:=bq3 hb lx qx0 qx1 qx2;have hB:=bLt hB hb;clear hb;have lr:w.heap.size+1<w2.heap.size:=by omega
 have qr0:=q 0;have qr1:=q 1;have qr2:=q 2;simp only [lgA,lgZ,lgS] at qr0 qr1 qr2;have xr:BoxAt w2 (w.heap.size+1) 3:=BoxAt.of q f rfl (by simp [notU_bool,notU_slice,notU_i64]);clear q f;clear hz0;clear hz1;have szW:=hB.size;refine wp_region_inv (by kernel_rfl) rfl (by kernel_rfl) (fun A0 V0 dd aa ww=>∃ (y3 y4 y5 y6 y7 y8 y9 y10:Value),aa=puts A0 [(3,y3),(4,y4),(5,y5),(6,y6),(7,y7),(8,y8),(9,y9),(10,y10)]∧Below (w).heap.size (w) ww∧V0.heap.size≤ww.heap.size∧NatAt ww a n c l∧NatAt ww a2 n2 c2 l2∧Cells ww (w.heap.size+1) [.bool false,.slice none 0 0,.slice none 0 0]∧BoxAt ww (w.heap.size+1) 3∧BoxAt ww (w.heap.size) 3∧Shut (dd 7=false→Cells ww (w.heap.size) [.bool b,.slice a n c,.slice a2 n2 c2])∧Shut (dd 0=true→y3 = .pointer (some ⟨w.heap.size,0,none⟩))∧Shut (dd 1=true→y4 = .agg #[.bool b,.slice a n c])∧Shut (dd 2=true→CopyV V0.heap.size (b) (l) y5 ww)∧Shut (dd 3=true→y6 = .pointer (some ⟨w.heap.size,2,none⟩))∧Shut (dd 4=true→y7 = .slice a2 n2 c2)∧Shut (dd 5=true→NatV V0.heap.size (l2) y8 ww)∧Shut (dd 6=true→y9 = .pointer (some ⟨w.heap.size,0,none⟩))∧Shut (dd 7=true→CellsP (w.heap.size) 0 2 y5 ww)∧Shut (dd 8=true→y10 = .pointer (some ⟨w.heap.size,2,none⟩))∧Shut (dd 9=true→CellsO ww (w.heap.size) 2 [y8])∧True) ?_ ?_ ?_
 · exact ⟨_,_,_,_,_,_,_,_,puts_self _ [3,4,5,6,7,8,9,10],hB.drew,nRf _,g1.drew,g2.drew,(by intro k hk;simp at hk;rcases (by omega:k=0∨k=1∨k=2) with rfl | rfl | rfl<;>assumption),xr.drew,xx.drew,(fun _=>by intro k hk;simp at hk;rcases (by omega:k=0∨k=1∨k=2) with rfl | rfl | rfl<;>assumption),fun h=>(by cases h),fun h=>(by cases h),fun h=>(by cases h),fun h=>(by cases h),fun h=>(by cases h),fun h=>(by cases h),fun h=>(by cases h),fun h=>(by cases h),fun h=>(by cases h),fun h=>(by cases h),trivial⟩
 · refine Steps.cons ?_ (Steps.cons ?_ (Steps.cons ?_ (Steps.cons ?_ (Steps.cons ?_ (Steps.cons ?_ (Steps.cons ?_ (Steps.cons ?_ (Steps.cons ?_ (Steps.cons ?_ (Steps.nil))))))))))
   all_goals (intro dd aa ww K hc hun hn hI hK;obtain ⟨y3,y4,y5,y6,y7,y8,y9,y10,ea,hb,hsz,vg1,vg2,cr,xr,xx,px,f0,f1,f2,f3,f4,f5,f6,f7,f8,f9,_⟩:=hI;subst ea;simp only [pu])
   · go_simp;exact hK.out _ _ ⟨_,_,_,_,_,_,_,_,by simp only [pu]<;>rfl,hb,hsz,vg1,vg2,cr,xr,xx,fun h=>(px.out (upd_off h)),fun _=>rfl,uo f1,uo f2,uo f3,uo f4,uo f5,uo f6,uo f7,uo f8,uo f9,trivial⟩
   · obtain rfl:=f0.out (hc.see hn);have hs:=hc.not (f:=8) (s:=7) (l:=1) (by kernel_rfl) hun;have e0:=px.out hs 0 (by simp);simp only [lgZ,lgS] at e0;have e1:=px.out hs 1 (by simp);simp only [lgZ,lgS] at e1;go_simp;exact hK.out _ _ ⟨_,_,_,_,_,_,_,_,by simp only [pu]<;>rfl,hb,hsz,vg1,vg2,cr,xr,xx,fun h=>(px.out (upd_off h)),fun h=>rfl,fun _=>rfl,uo f2,uo f3,uo f4,uo f5,uo f6,uo f7,uo f8,uo f9,trivial⟩
   · obtain rfl:=f1.out (hc.see hn);go_simp
     with_reducible refine (copyWhole_any _ _ _ _ l _ vg1 hs).mono ?_
     rintro e w1 ⟨ahU,nhU,chU,rfl,hU,h1⟩;exact hK.out _ _ ⟨_,_,_,_,_,_,_,_,by simp only [pu]<;>rfl,bLt hb h1,nTr hsz h1.size,vg1.past h1,vg2.past h1,cr.past h1 (nLt lr hsz),xr.past h1 (nLt lr hsz),xx.past h1 (nLt lx hsz),fun h=>(px.out (upd_off h)).past h1 (nLt lx hsz),uo f0,fun h=>rfl,fun _=>⟨_,_,_,rfl,hU.mono hsz⟩,uo f3,uo f4,fun h=>(f5.out (upd_of rfl h)).past h1,uo f6,hc.abs hun,uo f8,fun h=>(f9.out (upd_of rfl h)).past h1 (nLt lx hsz),trivial⟩
   · go_simp;exact hK.out _ _ ⟨_,_,_,_,_,_,_,_,by simp only [pu]<;>rfl,hb,hsz,vg1,vg2,cr,xr,xx,fun h=>(px.out (upd_off h)),uo f0,uo f1,uo f2,fun _=>rfl,uo f4,uo f5,uo f6,uo f7,uo f8,uo f9,trivial⟩
   · obtain rfl:=f3.out (hc.see hn);have hs:=hc.not (f:=8) (s:=7) (l:=4) (by kernel_rfl) hun;have e2:=px.out hs 2 (by simp);simp only [lgZ,lgS] at e2;go_simp;exact hK.out _ _ ⟨_,_,_,_,_,_,_,_,by simp only [pu]<;>rfl,hb,hsz,vg1,vg2,cr,xr,xx,fun h=>(px.out (upd_off h)),uo f0,uo f1,uo f2,fun h=>rfl,fun _=>rfl,uo f5,uo f6,uo f7,uo f8,uo f9,trivial⟩
   · obtain rfl:=f4.out (hc.see hn);go_simp
     with_reducible refine (copyNat_any _ _ _ l2 _ vg2 hs2).mono ?_
     rintro e w1 ⟨ahD,nhD,chD,rfl,hD,h1⟩;exact hK.out _ _ ⟨_,_,_,_,_,_,_,_,by simp only [pu]<;>rfl,bLt hb h1,nTr hsz h1.size,vg1.past h1,vg2.past h1,cr.past h1 (nLt lr hsz),xr.past h1 (nLt lr hsz),xx.past h1 (nLt lx hsz),fun h=>(px.out (upd_off h)).past h1 (nLt lx hsz),uo f0,uo f1,fun h=>(f2.out (upd_of rfl h)).past h1,uo f3,fun h=>rfl,fun _=>⟨_,_,_,rfl,hD.mono hsz⟩,uo f6,fun h=>(f7.out (upd_of rfl h)).past h1 (nLt lx hsz),uo f8,hc.abs hun,trivial⟩
   · go_simp;exact hK.out _ _ ⟨_,_,_,_,_,_,_,_,by simp only [pu]<;>rfl,hb,hsz,vg1,vg2,cr,xr,xx,fun h=>(px.out (upd_off h)),uo f0,uo f1,uo f2,uo f3,uo f4,uo f5,fun _=>rfl,uo f7,uo f8,uo f9,trivial⟩
   · obtain rfl:=f6.out (hc.see hn);obtain ⟨ahU,nhU,chU,ex,hU⟩:=f2.out (hc.see hn);subst ex;have x3:=xx;obtain ⟨v0,v1,v2,z0,z1,z2,z3,z4,z5,_,_,_⟩:=x3.three;have hv:∀ v ∈ ([.bool (b),.slice ahU nhU chU]:List Value),notU v:=by simp [notU_bool,notU_slice,notU_i64]
     go_simp;exact hK.out _ _ ⟨_,_,_,_,_,_,_,_,by simp only [pu]<;>rfl,hb.trans (below_setCells _ _ (by omega) [.bool (b),.slice ahU nhU chU] 0 _),(by simpa using hsz),NatAt.sets [.bool (b),.slice ahU nhU chU] 0 _ vg1 x3 (by simp) hv,NatAt.sets [.bool (b),.slice ahU nhU chU] 0 _ vg2 x3 (by simp) hv,Cells.sets (by omega) [.bool (b),.slice ahU nhU chU] 0 _ cr,BoxAt.sets [.bool (b),.slice ahU nhU chU] _ 0 _ xr hv,BoxAt.sets [.bool (b),.slice ahU nhU chU] _ 0 _ xx hv,fun h=>absurd h (by simp [upd]),uo f0,uo f1,fun h=>((f2.out (upd_of rfl h)).setsO 0 lx [.bool (b),.slice ahU nhU chU]),uo f3,uo f4,fun h=>((f5.out (upd_of rfl h)).setsO 0 lx [.bool (b),.slice ahU nhU chU]),fun h=>rfl,fun _=>⟨[.bool (b),.slice ahU nhU chU],rfl,rfl,CellsO.new [.bool (b),.slice ahU nhU chU] 0 _ x3 (by simp) hv⟩,uo f8,hc.abs hun,trivial⟩
   · go_simp;exact hK.out _ _ ⟨_,_,_,_,_,_,_,_,by simp only [pu]<;>rfl,hb,hsz,vg1,vg2,cr,xr,xx,fun h=>(px.out (upd_off h)),uo f0,uo f1,uo f2,uo f3,uo f4,uo f5,uo f6,uo f7,fun _=>rfl,uo f9,trivial⟩
   obtain rfl:=f8.out (hc.see hn);obtain ⟨ahD,nhD,chD,ex,hD⟩:=f5.out (hc.see hn);subst ex;have x3:=xx;obtain ⟨v0,v1,v2,z0,z1,z2,z3,z4,z5,_,_,_⟩:=x3.three;have hv:∀ v ∈ ([.slice ahD nhD chD]:List Value),notU v:=by simp [notU_bool,notU_slice,notU_i64]
   go_simp;exact hK.out _ _ ⟨_,_,_,_,_,_,_,_,by simp only [pu]<;>rfl,hb.trans (below_setCells _ _ (by omega) [.slice ahD nhD chD] 2 _),(by simpa using hsz),NatAt.sets [.slice ahD nhD chD] 2 _ vg1 x3 (by simp) hv,NatAt.sets [.slice ahD nhD chD] 2 _ vg2 x3 (by simp) hv,Cells.sets (by omega) [.slice ahD nhD chD] 2 _ cr,BoxAt.sets [.slice ahD nhD chD] _ 2 _ xr hv,BoxAt.sets [.slice ahD nhD chD] _ 2 _ xx hv,fun h=>absurd (upd_off h) (by simp [Region.binds] at hn;simp [hn]),uo f0,uo f1,fun h=>((f2.out (upd_of rfl h)).setsO 2 lx [.slice ahD nhD chD]),uo f3,uo f4,fun h=>((f5.out (upd_of rfl h)).setsO 2 lx [.slice ahD nhD chD]),uo f6,fun h=>(f7.out (upd_of rfl h)).away [.slice ahD nhD chD] 2 (by simp),fun h=>rfl,fun _=>CellsO.new [.slice ahD nhD chD] 2 _ x3 (by simp) hv,trivial⟩
 intro dd aa w3 hd hI;obtain ⟨y3,y4,y5,y6,y7,y8,y9,y10,ea,hb,hsz,vg1,vg2,cr,xr,xx,px,f0,f1,f2,f3,f4,f5,f6,f7,f8,f9,_⟩:=hI;obtain rfl:=f0.out (hd 0 (by simp));obtain rfl:=f1.out (hd 1 (by simp));obtain ⟨ahU,nhU,chU,ex,hU⟩:=f2.out (hd 2 (by simp));subst ex;obtain rfl:=f3.out (hd 3 (by simp));obtain rfl:=f4.out (hd 4 (by simp));obtain ⟨ahD,nhD,chD,ex,hD⟩:=f5.out (hd 5 (by simp));subst ex;obtain rfl:=f6.out (hd 6 (by simp));obtain ⟨vs7,e,_,h7⟩:=f7.out (hd 7 (by simp));cases e;obtain rfl:=f8.out (hd 8 (by simp));have h9:=f9.out (hd 9 (by simp));have lx:=nLt lx hsz;have qx0:w3.cell? ⟨w.heap.size,0,none⟩=some (.bool (b)):=h7 0 (by simp);have qx1:w3.cell? ⟨w.heap.size,1,none⟩=some (.slice ahU nhU chU):=h7 1 (by simp);have qx2:w3.cell? ⟨w.heap.size,2,none⟩=some (.slice ahD nhD chD):=h9 0 (by simp);subst ea;simp only [pu];have hU:=hU.mono szW;have hD:=hD.mono szW;have g1:=vg1;have g2:=vg2;have lr:=nLt lr hsz;have qr0:=cr 0 (by simp);simp only [lgZ,lgS] at qr0;have qr1:=cr 1 (by simp);simp only [lgZ,lgS] at qr1;have qr2:=cr 2 (by simp);simp only [lgZ,lgS] at qr2;clear cr;have hB:=hb;clear px;clear hb hd;have zf0:=xr.f 0 (by decide);have zf1:=xr.f 1 (by decide);have zf2:=xr.f 2 (by decide)
 go_wp2
 obtain ⟨w4,hW,hO,qN0,qN1,qN2,xN⟩:=store3 xr (.bool b) (.slice ahU nhU chU) (.slice ahD nhD chD) (nu rfl) (nu rfl) (nu rfl);try rw [hW]
 clear hW;have hU:=hO.own hU;have hD:=hO.own hD;have qx0:=(hO.cell (b2:=w.heap.size) (k:=0) (by omega)).trans qx0;have qx1:=(hO.cell (b2:=w.heap.size) (k:=1) (by omega)).trans qx1;have qx2:=(hO.cell (b2:=w.heap.size) (k:=2) (by omega)).trans qx2;have xx:=hO.box xx;have lx:w.heap.size<w4.heap.size:=by rw [hO.size];exact lx
 have lr:w.heap.size+1<w4.heap.size:=by rw [hO.size];exact lr
 have qr0:=qN0;have qr1:=qN1;have qr2:=qN2;have xr:=xN;have hB:=hO.below (by omega) hB;clear hO qN0 qN1 qN2 xN zf0 zf1 zf2;refine bodyPost_ret (v:=.agg #[.bool b,.slice ahU nhU chU,.slice ahD nhD chD]) ?_ rfl ⟨_,_,_,_,_,_,rfl,hU,hD,hB⟩;simp [results,Tryz.f10,go_sem,qr0,qr1,qr2]
end
end Go.Proofs.YtkhcblihbalnbaaGreat
