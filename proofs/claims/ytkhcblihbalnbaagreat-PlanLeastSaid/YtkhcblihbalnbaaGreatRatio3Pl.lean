import Derived.Test.YtkhcblihbalnbaaGreatS0Pl
import Derived.Test.YtkhcblihbalnbaaGreatRatio1Pl
import Derived.Test.YtkhcblihbalnbaaGreatRegPl
set_option linter.unusedVariables false
set_option linter.unusedSimpArgs false
set_option maxHeartbeats 4000000
set_option maxRecDepth 100000
namespace Go.Proofs.YtkhcblihbalnbaaGreat
open Go.RowKit
def makeR (b:Bool) (l l2:List Nat):Ans:=if chkZ b l≠0 then .error 6 else if val l2=0 then .error 5 else .ok (mkRat (sg b (val l)) (val l2))
theorem make05_any (b:Bool) (a:Option Addr) (n c:Nat) (l:List Nat) (a2:Option Addr) (n2 c2:Nat) (l2:List Nat) (w:World) (g1:NatAt w a n c l) (g2:NatAt w a2 n2 c2 l2) (hs:n≤68719476736) (hs2:n2≤68719476736) :
 Calls Tryz.prog 82 #[.agg #[.bool b,.slice a n c],.slice a2 n2 c2] w (RetAns w (makeR b l l2)):=by
 by_cases h1:chkZ b l=0
 · by_cases h2:val l2=0
   · have e:makeR b l l2 = .error 5:=by unfold makeR;rw [if_neg (by simp [h1]),if_pos h2]
     rw [e];have H1:=hiD h1;have H2:=hiD (show nbits (val l2)=0 by rw [h2];rfl);clear h1 h2 e
     go_enter Tryz.func82,Tryz.ntmps82
     have hB:=bRf w.heap.size w
     go_wp2_with fail
     obtain ⟨w1,hW,hz0,hb,q,f⟩:=box1g w (w.heap.size) (by omega) #[.bool b,.slice a n c] 26;rw [hW];clear hW;have g1:=g1.past hb;have g2:=g2.past hb;have hB:=bLt hB hb;clear hb;have lb1:w.heap.size<w1.heap.size:=by omega
     have qb10:=q 0;have qb11:=q 1;simp only [lgA,lgZ,lgS] at qb10 qb11;clear q f;obtain ⟨w2,hW,hz1,hb,q,f⟩:=box1g w1 (w.heap.size+1) (by omega) #[.bool false,.slice none 0 0,.slice none 0 0] 28;rw [hW];clear hW;have g1:=g1.past hb;have g2:=g2.past hb;obtain ⟨qb10,qb11,lb1⟩:=bq2 hb lb1 qb10 qb11;have hB:=bLt hB hb;clear hb;have lr:w.heap.size+1<w2.heap.size:=by omega
     have qr0:=q 0;have qr1:=q 1;have qr2:=q 2;simp only [lgA,lgZ,lgS] at qr0 qr1 qr2;have xr:BoxAt w2 (w.heap.size+1) 3:=BoxAt.of q f rfl (by simp [notU_bool,notU_slice,notU_i64]);clear q f;clear hz0;clear hz1
     with_reducible refine (scheck_any b _ _ _ l _ g1).mono ?_
     rintro e w3 ⟨rfl,hb⟩;have g1:=g1.past hb;have g2:=g2.past hb;obtain ⟨qb10,qb11,lb1⟩:=bq2 hb lb1 qb10 qb11;have xr:=xr.past hb lr;obtain ⟨qr0,qr1,qr2,lr⟩:=bq3 hb lr qr0 qr1 qr2;have hB:=bLt hB hb;clear hb;rw [H1.out]
     go_wp2_with fail
     with_reducible refine (len_any _ _ _ l2 _ g2 (by omega)).mono ?_
     rintro e w' ⟨rfl,rfl⟩;rw [H2.out];have zf0:=xr.f 0 (by decide);have zf1:=xr.f 1 (by decide);have zf2:=xr.f 2 (by decide)
     go_wp2
     obtain ⟨w4,hW,hO,qN0,qN1,qN2,xN⟩:=store3 xr (.bool false) (.slice none 0 0) (.slice none 0 0) (nu rfl) (nu rfl) (nu rfl);try rw [hW]
     clear hW;have g1:=hO.nat g1;have g2:=hO.nat g2;have qb10:=(hO.cell (b2:=w.heap.size) (k:=0) (by omega)).trans qb10;have qb11:=(hO.cell (b2:=w.heap.size) (k:=1) (by omega)).trans qb11;have lb1:w.heap.size<w4.heap.size:=by rw [hO.size];exact lb1
     have lr:w.heap.size+1<w4.heap.size:=by rw [hO.size];exact lr
     have qr0:=qN0;have qr1:=qN1;have qr2:=qN2;have xr:=xN;have hB:=hO.below (by omega) hB;clear hO qN0 qN1 qN2 xN zf0 zf1 zf2;refine bodyPost_ret (v:=.tuple #[.agg #[.bool false,.slice none 0 0,.slice none 0 0],.int .i64 5]) ?_ rfl ⟨_,_,_,_,_,_,rfl,OwnAt.nil _ _,OwnAt.nil _ _,hB⟩;simp [results,Tryz.f82,go_sem,qr0,qr1,qr2]
   have e:makeR b l l2 = .ok (mkRat (sg b (val l)) (val l2)):=by unfold makeR;rw [if_neg (by simp [h1]),if_neg h2]
   rw [e]
   have t3:((((nbits (val l2):Nat):Int)) == 0)=false:=by
    rw [beq_eq_false_iff_ne];intro h0;exact h2 (by have:=nbits_pos (n:=val l2);by_cases hh:val l2=0;exact hh;have:=this hh;omega)
   have H1:=hiD h1;have H2:=hiD h2;clear h1 h2 e
   go_enter Tryz.func82,Tryz.ntmps82
   have hB:=bRf w.heap.size w
   go_wp2_with fail
   obtain ⟨w1,hW,hz0,hb,q,f⟩:=box1g w (w.heap.size) (by omega) #[.bool b,.slice a n c] 26;rw [hW];clear hW;have g1:=g1.past hb;have g2:=g2.past hb;have hB:=bLt hB hb;clear hb;have lb1:w.heap.size<w1.heap.size:=by omega
   have qb10:=q 0;have qb11:=q 1;simp only [lgA,lgZ,lgS] at qb10 qb11;clear q f;obtain ⟨w2,hW,hz1,hb,q,f⟩:=box1g w1 (w.heap.size+1) (by omega) #[.bool false,.slice none 0 0,.slice none 0 0] 28;rw [hW];clear hW;have g1:=g1.past hb;have g2:=g2.past hb;obtain ⟨qb10,qb11,lb1⟩:=bq2 hb lb1 qb10 qb11;have hB:=bLt hB hb;clear hb;have lr:w.heap.size+1<w2.heap.size:=by omega
   have qr0:=q 0;have qr1:=q 1;have qr2:=q 2;simp only [lgA,lgZ,lgS] at qr0 qr1 qr2;have xr:BoxAt w2 (w.heap.size+1) 3:=BoxAt.of q f rfl (by simp [notU_bool,notU_slice,notU_i64]);clear q f;clear hz0;clear hz1
   with_reducible refine (scheck_any b _ _ _ l _ g1).mono ?_
   rintro e w3 ⟨rfl,hb⟩;have g1:=g1.past hb;have g2:=g2.past hb;obtain ⟨qb10,qb11,lb1⟩:=bq2 hb lb1 qb10 qb11;have xr:=xr.past hb lr;obtain ⟨qr0,qr1,qr2,lr⟩:=bq3 hb lr qr0 qr1 qr2;have hB:=bLt hB hb;clear hb;rw [H1.out]
   go_wp2_with fail
   with_reducible refine (len_any _ _ _ l2 _ g2 (by omega)).mono ?_
   rintro e w' ⟨rfl,rfl⟩
   go_wp2_with fail
   with_reducible refine (lowest_any b _ _ _ l _ _ _ l2 _ g1 g2 (by omega) (by omega) H2.out).mono ?_
   rintro e w4 ⟨ahU,nhU,chU,ahD,nhD,chD,rfl,hU,hD,hb⟩;have hU:=hU.mono hB.size;have hD:=hD.mono hB.size;have g1:=g1.past hb;have g2:=g2.past hb;obtain ⟨qb10,qb11,lb1⟩:=bq2 hb lb1 qb10 qb11;have xr:=xr.past hb lr;obtain ⟨qr0,qr1,qr2,lr⟩:=bq3 hb lr qr0 qr1 qr2;have hB:=bLt hB hb;clear hb;have zf0:=xr.f 0 (by decide);have zf1:=xr.f 1 (by decide);have zf2:=xr.f 2 (by decide)
   go_wp2
   obtain ⟨w5,hW,hO,qN0,qN1,qN2,xN⟩:=store3 xr (.bool (neg (mkRat (sg b (val l)) (val l2)).num)) (.slice ahU nhU chU) (.slice ahD nhD chD) (nu rfl) (nu rfl) (nu rfl);try rw [hW]
   clear hW;have g1:=hO.nat g1;have g2:=hO.nat g2;have hU:=hO.own hU;have hD:=hO.own hD;have qb10:=(hO.cell (b2:=w.heap.size) (k:=0) (by omega)).trans qb10;have qb11:=(hO.cell (b2:=w.heap.size) (k:=1) (by omega)).trans qb11;have lb1:w.heap.size<w5.heap.size:=by rw [hO.size];exact lb1
   have lr:w.heap.size+1<w5.heap.size:=by rw [hO.size];exact lr
   have qr0:=qN0;have qr1:=qN1;have qr2:=qN2;have xr:=xN;have hB:=hO.below (by omega) hB;clear hO qN0 qN1 qN2 xN zf0 zf1 zf2;refine bodyPost_ret (v:=.tuple #[.agg #[.bool (neg (mkRat (sg b (val l)) (val l2)).num),.slice ahU nhU chU,.slice ahD nhD chD],.int .i64 0]) ?_ rfl ⟨_,_,_,_,_,_,rfl,hU,hD,hB⟩;simp [results,Tryz.f82,go_sem,qr0,qr1,qr2]
 have e:makeR b l l2 = .error 6:=by unfold makeR;rw [if_pos h1]
 rw [e];have H1:=hiD (chkZ_six h1);clear h1 e
 go_enter Tryz.func82,Tryz.ntmps82
 have hB:=bRf w.heap.size w
 go_wp2_with fail
 obtain ⟨w1,hW,hz0,hb,q,f⟩:=box1g w (w.heap.size) (by omega) #[.bool b,.slice a n c] 26;rw [hW];clear hW;have g1:=g1.past hb;have g2:=g2.past hb;have hB:=bLt hB hb;clear hb;have lb1:w.heap.size<w1.heap.size:=by omega
 have qb10:=q 0;have qb11:=q 1;simp only [lgA,lgZ,lgS] at qb10 qb11;clear q f;obtain ⟨w2,hW,hz1,hb,q,f⟩:=box1g w1 (w.heap.size+1) (by omega) #[.bool false,.slice none 0 0,.slice none 0 0] 28;rw [hW];clear hW;have g1:=g1.past hb;have g2:=g2.past hb;obtain ⟨qb10,qb11,lb1⟩:=bq2 hb lb1 qb10 qb11;have hB:=bLt hB hb;clear hb;have lr:w.heap.size+1<w2.heap.size:=by omega
 have qr0:=q 0;have qr1:=q 1;have qr2:=q 2;simp only [lgA,lgZ,lgS] at qr0 qr1 qr2;have xr:BoxAt w2 (w.heap.size+1) 3:=BoxAt.of q f rfl (by simp [notU_bool,notU_slice,notU_i64]);clear q f;clear hz0;clear hz1
 with_reducible refine (scheck_any b _ _ _ l _ g1).mono ?_
 rintro e w3 ⟨rfl,hb⟩;have g1:=g1.past hb;have g2:=g2.past hb;obtain ⟨qb10,qb11,lb1⟩:=bq2 hb lb1 qb10 qb11;have xr:=xr.past hb lr;obtain ⟨qr0,qr1,qr2,lr⟩:=bq3 hb lr qr0 qr1 qr2;have hB:=bLt hB hb;clear hb;rw [H1.out];have zf0:=xr.f 0 (by decide);have zf1:=xr.f 1 (by decide);have zf2:=xr.f 2 (by decide)
 go_wp2
 obtain ⟨w4,hW,hO,qN0,qN1,qN2,xN⟩:=store3 xr (.bool false) (.slice none 0 0) (.slice none 0 0) (nu rfl) (nu rfl) (nu rfl);try rw [hW]
 clear hW;have g1:=hO.nat g1;have g2:=hO.nat g2;have qb10:=(hO.cell (b2:=w.heap.size) (k:=0) (by omega)).trans qb10;have qb11:=(hO.cell (b2:=w.heap.size) (k:=1) (by omega)).trans qb11;have lb1:w.heap.size<w4.heap.size:=by rw [hO.size];exact lb1
 have lr:w.heap.size+1<w4.heap.size:=by rw [hO.size];exact lr
 have qr0:=qN0;have qr1:=qN1;have qr2:=qN2;have xr:=xN;have hB:=hO.below (by omega) hB;clear hO qN0 qN1 qN2 xN zf0 zf1 zf2;refine bodyPost_ret (v:=.tuple #[.agg #[.bool false,.slice none 0 0,.slice none 0 0],.int .i64 6]) ?_ rfl ⟨_,_,_,_,_,_,rfl,OwnAt.nil _ _,OwnAt.nil _ _,hB⟩;simp [results,Tryz.f82,go_sem,qr0,qr1,qr2]
def pairR (x y:Int):Ans:=makeR (neg (sg (neg x != neg y) x.natAbs)) (digs (sg (neg x != neg y) x.natAbs).natAbs) (digs y.natAbs)
theorem pair05_any (x y:Int) (w:World) (hx:-9223372036854775808≤x∧x≤9223372036854775807) (hy:-9223372036854775808≤y∧y≤9223372036854775807) :
 Calls Tryz.prog 47 #[.int .i64 x,.int .i64 y] w (RetAns w (pairR x y)):=by
 have lx:(digs x.natAbs).length≤2:=digs_length_le.2 (by omega);have ly:(digs y.natAbs).length≤2:=digs_length_le.2 (by omega);have LX:=hiD lx;have LY:=hiD ly;have hv:sg (!(neg x == neg y)) (val (digs x.natAbs))=sg (neg x != neg y) x.natAbs:=by rw [val_digs];rfl
 have hlz:(digs (sg (neg x != neg y) x.natAbs).natAbs).length≤2:=by rw [natAbs_sg];exact lx
 have hr:makeR (neg (sg (neg x != neg y) x.natAbs)) (digs (sg (neg x != neg y) x.natAbs).natAbs) (digs y.natAbs)=pairR x y:=rfl;have HV:=hiD hv;have HLZ:=hiD hlz;have HR:=hiD hr;generalize pairR x y=R at HR ⊢;clear lx ly hv hlz hr
 go_enter Tryz.func47,Tryz.ntmps47
 have hB:=bRf w.heap.size w
 go_wp2_with fail
 obtain ⟨w1,hW,hz0,hb,q,f⟩:=box1g w (w.heap.size) (by omega) #[.bool false,.slice none 0 0,.slice none 0 0] 28;rw [hW];clear hW;have hB:=bLt hB hb;clear hb;have lr:w.heap.size<w1.heap.size:=by omega
 have qr0:=q 0;have qr1:=q 1;have qr2:=q 2;simp only [lgA,lgZ,lgS] at qr0 qr1 qr2;have xr:BoxAt w1 (w.heap.size) 3:=BoxAt.of q f rfl (by simp [notU_bool,notU_slice,notU_i64]);clear q f;clear hz0
 with_reducible refine (sof_any y _ (by omega) (by omega)).mono ?_
 rintro e w2 ⟨ahD,nhD,chD,rfl,hD,hb⟩;have hD:=hD.mono hB.size;have xr:=xr.past hb lr;obtain ⟨qr0,qr1,qr2,lr⟩:=bq3 hb lr qr0 qr1 qr2;have hB:=bLt hB hb;clear hb;have lD:nhD≤2:=by rw [← hD.len];exact LY.out
 go_wp2_with fail
 obtain ⟨w3,hW,hz0,hb,q,f⟩:=box1g w2 (w2.heap.size) (by omega) #[.bool (neg y),.slice ahD nhD chD] 26;rw [hW];clear hW;have hD:=hD.past hb;have xr:=xr.past hb lr;obtain ⟨qr0,qr1,qr2,lr⟩:=bq3 hb lr qr0 qr1 qr2;have hB:=bLt hB hb;clear hb;have ld:w2.heap.size<w3.heap.size:=by omega
 have qd0:=q 0;have qd1:=q 1;simp only [lgA,lgZ,lgS] at qd0 qd1;clear q f;clear hz0
 with_reducible refine (sof_any x _ (by omega) (by omega)).mono ?_
 rintro e w4 ⟨ahU,nhU,chU,rfl,hU,hb⟩;have hU:=hU.mono hB.size;have hD:=hD.past hb;have xr:=xr.past hb lr;obtain ⟨qr0,qr1,qr2,lr⟩:=bq3 hb lr qr0 qr1 qr2;obtain ⟨qd0,qd1,ld⟩:=bq2 hb ld qd0 qd1;have hB:=bLt hB hb;clear hb;have lU:nhU≤2:=by rw [← hU.len];exact LX.out
 go_wp2_with fail
 obtain ⟨w5,hW,hz0,hb,q,f⟩:=box1g w4 (w4.heap.size) (by omega) #[.bool (neg x),.slice ahU nhU chU] 26;rw [hW];clear hW;have hD:=hD.past hb;have hU:=hU.past hb;have xr:=xr.past hb lr;obtain ⟨qr0,qr1,qr2,lr⟩:=bq3 hb lr qr0 qr1 qr2;obtain ⟨qd0,qd1,ld⟩:=bq2 hb ld qd0 qd1;have hB:=bLt hB hb;clear hb;have lu:w4.heap.size<w5.heap.size:=by omega
 have qu0:=q 0;have qu1:=q 1;simp only [lgA,lgZ,lgS] at qu0 qu1;clear q f;clear hz0;have szW:=hB.size;refine wp_region_inv (by kernel_rfl) rfl (by kernel_rfl) (fun A0 V0 dd aa ww=>∃ (y12 y13 y14 y15 y16 y17 y18 y19 y20 y21 y22 y23 y24 y5:Value),aa=puts A0 [(12,y12),(13,y13),(14,y14),(15,y15),(16,y16),(17,y17),(18,y18),(19,y19),(20,y20),(21,y21),(22,y22),(23,y23),(24,y24),(5,y5)]∧Below (w).heap.size (w) ww∧V0.heap.size≤ww.heap.size∧OwnAt ww w.heap.size ahU nhU chU (digs x.natAbs)∧OwnAt ww w.heap.size ahD nhD chD (digs y.natAbs)∧Cells ww (w2.heap.size) [.bool (neg y),.slice ahD nhD chD]∧Cells ww (w4.heap.size) [.bool (neg x),.slice ahU nhU chU]∧BoxAt ww (w.heap.size) 3∧Shut (dd 13=false→Cells ww (w.heap.size) [.bool false,.slice none 0 0,.slice none 0 0])∧Shut (dd 0=true→y12 = .pointer (some ⟨w4.heap.size,0,none⟩))∧Shut (dd 1=true→y13 = .bool (neg x))∧Shut (dd 2=true→y14 = .pointer (some ⟨w2.heap.size,0,none⟩))∧Shut (dd 3=true→y15 = .bool (neg y))∧Shut (dd 4=true→y16 = .bool (!(neg x == neg y)))∧Shut (dd 5=true→y17 = .pointer (some ⟨w4.heap.size,1,none⟩))∧Shut (dd 6=true→y18 = .slice ahU nhU chU)∧Shut (dd 7=true→CopyV V0.heap.size (neg (sg (neg x != neg y) x.natAbs)) (digs (sg (neg x != neg y) x.natAbs).natAbs) y19 ww)∧Shut (dd 8=true→y20 = .pointer (some ⟨w2.heap.size,1,none⟩))∧Shut (dd 9=true→y21 = .slice ahD nhD chD)∧Shut (dd 10=true→AnsV V0.heap.size (R) y22 ww)∧Shut (dd 11=true→y23=part 0 y22)∧Shut (dd 12=true→y24=part 1 y22)∧Shut (dd 13=true→CellsV (w.heap.size) y23 ww)∧Shut (dd 14=true→y5=y24)∧True) ?_ ?_ ?_
 · exact ⟨_,_,_,_,_,_,_,_,_,_,_,_,_,_,puts_self _ [12,13,14,15,16,17,18,19,20,21,22,23,24,5],hB.drew,nRf _,hU.drew,hD.drew,(by intro k hk;simp at hk;rcases (by omega:k=0∨k=1) with rfl | rfl<;>assumption),(by intro k hk;simp at hk;rcases (by omega:k=0∨k=1) with rfl | rfl<;>assumption),xr.drew,(fun _=>by intro k hk;simp at hk;rcases (by omega:k=0∨k=1∨k=2) with rfl | rfl | rfl<;>assumption),fun h=>(by cases h),fun h=>(by cases h),fun h=>(by cases h),fun h=>(by cases h),fun h=>(by cases h),fun h=>(by cases h),fun h=>(by cases h),fun h=>(by cases h),fun h=>(by cases h),fun h=>(by cases h),fun h=>(by cases h),fun h=>(by cases h),fun h=>(by cases h),fun h=>(by cases h),fun h=>(by cases h),trivial⟩
 · refine Steps.cons ?_ (Steps.cons ?_ (Steps.cons ?_ (Steps.cons ?_ (Steps.cons ?_ (Steps.cons ?_ (Steps.cons ?_ (Steps.cons ?_ (Steps.cons ?_ (Steps.cons ?_ (Steps.cons ?_ (Steps.cons ?_ (Steps.cons ?_ (Steps.cons ?_ (Steps.cons ?_ (Steps.nil)))))))))))))))
   all_goals (intro dd aa ww K hc hun hn hI hK;obtain ⟨y12,y13,y14,y15,y16,y17,y18,y19,y20,y21,y22,y23,y24,y5,ea,hb,hsz,vhU,vhD,cd,cu,xr,pr,f0,f1,f2,f3,f4,f5,f6,f7,f8,f9,f10,f11,f12,f13,f14,_⟩:=hI;subst ea;simp only [pu])
   · go_simp;exact hK.out _ _ ⟨_,_,_,_,_,_,_,_,_,_,_,_,_,_,by simp only [pu]<;>rfl,hb,hsz,vhU,vhD,cd,cu,xr,fun h=>(pr.out (upd_off h)),fun _=>rfl,uo f1,uo f2,uo f3,uo f4,uo f5,uo f6,uo f7,uo f8,uo f9,uo f10,uo f11,uo f12,uo f13,uo f14,trivial⟩
   · obtain rfl:=f0.out (hc.see hn);have e0:=cu 0 (by simp);simp only [lgZ,lgS] at e0;go_simp;exact hK.out _ _ ⟨_,_,_,_,_,_,_,_,_,_,_,_,_,_,by simp only [pu]<;>rfl,hb,hsz,vhU,vhD,cd,cu,xr,fun h=>(pr.out (upd_off h)),fun h=>rfl,fun _=>rfl,uo f2,uo f3,uo f4,uo f5,uo f6,uo f7,uo f8,uo f9,uo f10,uo f11,uo f12,uo f13,uo f14,trivial⟩
   · go_simp;exact hK.out _ _ ⟨_,_,_,_,_,_,_,_,_,_,_,_,_,_,by simp only [pu]<;>rfl,hb,hsz,vhU,vhD,cd,cu,xr,fun h=>(pr.out (upd_off h)),uo f0,uo f1,fun _=>rfl,uo f3,uo f4,uo f5,uo f6,uo f7,uo f8,uo f9,uo f10,uo f11,uo f12,uo f13,uo f14,trivial⟩
   · obtain rfl:=f2.out (hc.see hn);have e0:=cd 0 (by simp);simp only [lgZ,lgS] at e0;go_simp;exact hK.out _ _ ⟨_,_,_,_,_,_,_,_,_,_,_,_,_,_,by simp only [pu]<;>rfl,hb,hsz,vhU,vhD,cd,cu,xr,fun h=>(pr.out (upd_off h)),uo f0,uo f1,fun h=>rfl,fun _=>rfl,uo f4,uo f5,uo f6,uo f7,uo f8,uo f9,uo f10,uo f11,uo f12,uo f13,uo f14,trivial⟩
   · obtain rfl:=f1.out (hc.see hn);obtain rfl:=f3.out (hc.see hn);go_simp;exact hK.out _ _ ⟨_,_,_,_,_,_,_,_,_,_,_,_,_,_,by simp only [pu]<;>rfl,hb,hsz,vhU,vhD,cd,cu,xr,fun h=>(pr.out (upd_off h)),uo f0,fun h=>rfl,uo f2,fun h=>rfl,fun _=>rfl,uo f5,uo f6,uo f7,uo f8,uo f9,uo f10,uo f11,uo f12,uo f13,uo f14,trivial⟩
   · go_simp;exact hK.out _ _ ⟨_,_,_,_,_,_,_,_,_,_,_,_,_,_,by simp only [pu]<;>rfl,hb,hsz,vhU,vhD,cd,cu,xr,fun h=>(pr.out (upd_off h)),uo f0,uo f1,uo f2,uo f3,uo f4,fun _=>rfl,uo f6,uo f7,uo f8,uo f9,uo f10,uo f11,uo f12,uo f13,uo f14,trivial⟩
   · obtain rfl:=f5.out (hc.see hn);have e1:=cu 1 (by simp);simp only [lgZ,lgS] at e1;go_simp;exact hK.out _ _ ⟨_,_,_,_,_,_,_,_,_,_,_,_,_,_,by simp only [pu]<;>rfl,hb,hsz,vhU,vhD,cd,cu,xr,fun h=>(pr.out (upd_off h)),uo f0,uo f1,uo f2,uo f3,uo f4,fun h=>rfl,fun _=>rfl,uo f7,uo f8,uo f9,uo f10,uo f11,uo f12,uo f13,uo f14,trivial⟩
   · obtain rfl:=f4.out (hc.see hn);obtain rfl:=f6.out (hc.see hn);go_simp
     with_reducible refine (make_any (!(neg x == neg y)) _ _ _ (digs x.natAbs) _ vhU.toNatAt (by omega)).mono ?_
     rintro e w1 ⟨ahM,nhM,chM,rfl,hM,h1⟩;rw [HV.out] at hM ⊢;have lM:=(hM.len ▸ HLZ.out);exact hK.out _ _ ⟨_,_,_,_,_,_,_,_,_,_,_,_,_,_,by simp only [pu]<;>rfl,bLt hb h1,nTr hsz h1.size,vhU.past h1,vhD.past h1,cd.past h1 (nLt ld hsz),cu.past h1 (nLt lu hsz),xr.past h1 (nLt lr hsz),fun h=>(pr.out (upd_off h)).past h1 (nLt lr hsz),uo f0,uo f1,uo f2,uo f3,fun h=>rfl,uo f5,fun h=>rfl,fun _=>⟨_,_,_,rfl,hM.mono hsz⟩,uo f8,uo f9,fun h=>(f10.out (upd_of rfl h)).past h1,uo f11,uo f12,fun h=>(f13.out (upd_of rfl h)).past h1 (nLt lr hsz),uo f14,trivial⟩
   · go_simp;exact hK.out _ _ ⟨_,_,_,_,_,_,_,_,_,_,_,_,_,_,by simp only [pu]<;>rfl,hb,hsz,vhU,vhD,cd,cu,xr,fun h=>(pr.out (upd_off h)),uo f0,uo f1,uo f2,uo f3,uo f4,uo f5,uo f6,uo f7,fun _=>rfl,uo f9,uo f10,uo f11,uo f12,uo f13,uo f14,trivial⟩
   · obtain rfl:=f8.out (hc.see hn);have e1:=cd 1 (by simp);simp only [lgZ,lgS] at e1;go_simp;exact hK.out _ _ ⟨_,_,_,_,_,_,_,_,_,_,_,_,_,_,by simp only [pu]<;>rfl,hb,hsz,vhU,vhD,cd,cu,xr,fun h=>(pr.out (upd_off h)),uo f0,uo f1,uo f2,uo f3,uo f4,uo f5,uo f6,uo f7,fun h=>rfl,fun _=>rfl,uo f10,uo f11,uo f12,uo f13,uo f14,trivial⟩
   · obtain ⟨ahM,nhM,chM,ex,hM⟩:=f7.out (hc.see hn);subst ex;obtain rfl:=f9.out (hc.see hn);go_simp
     with_reducible refine (make05_any (neg (sg (neg x != neg y) x.natAbs)) _ _ _ (digs (sg (neg x != neg y) x.natAbs).natAbs) _ _ _ (digs y.natAbs) _ hM.toNatAt vhD.toNatAt (by have:=hM.len;have:=HLZ.out;omega) (by omega)).mono ?_
     rintro e w1 ⟨ahAU,nhAU,chAU,ahAD,nhAD,chAD,rfl,hAU,hAD,h1⟩;rw [HR.out] at hAU hAD ⊢;exact hK.out _ _ ⟨_,_,_,_,_,_,_,_,_,_,_,_,_,_,by simp only [pu]<;>rfl,bLt hb h1,nTr hsz h1.size,vhU.past h1,vhD.past h1,cd.past h1 (nLt ld hsz),cu.past h1 (nLt lu hsz),xr.past h1 (nLt lr hsz),fun h=>(pr.out (upd_off h)).past h1 (nLt lr hsz),uo f0,uo f1,uo f2,uo f3,uo f4,uo f5,uo f6,fun h=>(f7.out (upd_of rfl h)).past h1,uo f8,fun h=>rfl,fun _=>⟨_,_,_,_,_,_,rfl,hAU.mono hsz,hAD.mono hsz⟩,hc.abs hun,hc.abs hun,fun h=>(f13.out (upd_of rfl h)).past h1 (nLt lr hsz),uo f14,trivial⟩
   · obtain ⟨ahAU,nhAU,chAU,ahAD,nhAD,chAD,ex,hAU,hAD⟩:=f10.out (hc.see hn);subst ex;go_simp;exact hK.out _ _ ⟨_,_,_,_,_,_,_,_,_,_,_,_,_,_,by simp only [pu]<;>rfl,hb,hsz,vhU,vhD,cd,cu,xr,fun h=>(pr.out (upd_off h)),uo f0,uo f1,uo f2,uo f3,uo f4,uo f5,uo f6,uo f7,uo f8,uo f9,uo f10,fun _=>rfl,uo f12,hc.abs hun,uo f14,trivial⟩
   · obtain ⟨ahAU,nhAU,chAU,ahAD,nhAD,chAD,ex,hAU,hAD⟩:=f10.out (hc.see hn);subst ex;go_simp;exact hK.out _ _ ⟨_,_,_,_,_,_,_,_,_,_,_,_,_,_,by simp only [pu]<;>rfl,hb,hsz,vhU,vhD,cd,cu,xr,fun h=>(pr.out (upd_off h)),uo f0,uo f1,uo f2,uo f3,uo f4,uo f5,uo f6,uo f7,uo f8,uo f9,uo f10,uo f11,fun _=>rfl,uo f13,hc.abs hun,trivial⟩
   · obtain ⟨ahAU,nhAU,chAU,ahAD,nhAD,chAD,ex,hAU,hAD⟩:=f10.out (hc.see hn);subst ex;have ex:y23 = .agg #[.bool (neg (Ans.up (R))),.slice ahAU nhAU chAU,.slice ahAD nhAD chAD]:=f11.out (hc.see hn);subst ex;have x3:=xr;obtain ⟨v0,v1,v2,z0,z1,z2,z3,z4,z5,_,_,_⟩:=x3.three;have hv:∀ v ∈ ([.bool (neg (Ans.up (R))),.slice ahAU nhAU chAU,.slice ahAD nhAD chAD]:List Value),notU v:=by simp [notU_bool,notU_slice,notU_i64]
     go_simp;exact hK.out _ _ ⟨_,_,_,_,_,_,_,_,_,_,_,_,_,_,by simp only [pu]<;>rfl,hb.trans (below_setCells _ _ (by omega) [.bool (neg (Ans.up (R))),.slice ahAU nhAU chAU,.slice ahAD nhAD chAD] 0 _),(by simpa using hsz),OwnAt.sets [.bool (neg (Ans.up (R))),.slice ahAU nhAU chAU,.slice ahAD nhAD chAD] 0 _ vhU x3 (by simp) hv,OwnAt.sets [.bool (neg (Ans.up (R))),.slice ahAU nhAU chAU,.slice ahAD nhAD chAD] 0 _ vhD x3 (by simp) hv,Cells.sets (by omega) [.bool (neg (Ans.up (R))),.slice ahAU nhAU chAU,.slice ahAD nhAD chAD] 0 _ cd,Cells.sets (by omega) [.bool (neg (Ans.up (R))),.slice ahAU nhAU chAU,.slice ahAD nhAD chAD] 0 _ cu,BoxAt.sets [.bool (neg (Ans.up (R))),.slice ahAU nhAU chAU,.slice ahAD nhAD chAD] _ 0 _ xr hv,fun h=>absurd h (by simp [upd]),uo f0,uo f1,uo f2,uo f3,uo f4,uo f5,uo f6,fun h=>((f7.out (upd_of rfl h)).setsOff lr [.bool (neg (Ans.up (R))),.slice ahAU nhAU chAU,.slice ahAD nhAD chAD]),uo f8,uo f9,fun h=>((f10.out (upd_of rfl h)).setsOff lr [.bool (neg (Ans.up (R))),.slice ahAU nhAU chAU,.slice ahAD nhAD chAD]),fun h=>rfl,uo f12,fun _=>⟨[.bool (neg (Ans.up (R))),.slice ahAU nhAU chAU,.slice ahAD nhAD chAD],rfl,Cells.new x3 [.bool (neg (Ans.up (R))),.slice ahAU nhAU chAU,.slice ahAD nhAD chAD] (by simp)⟩,uo f14,trivial⟩
   obtain ⟨ahAU,nhAU,chAU,ahAD,nhAD,chAD,ex,hAU,hAD⟩:=f10.out (hc.see hn);subst ex;have ex:y24 = .int .i64 (Ans.why (R)):=f12.out (hc.see hn);subst ex;go_simp;exact hK.out _ _ ⟨_,_,_,_,_,_,_,_,_,_,_,_,_,_,by simp only [pu]<;>rfl,hb,hsz,vhU,vhD,cd,cu,xr,fun h=>(pr.out (upd_off h)),uo f0,uo f1,uo f2,uo f3,uo f4,uo f5,uo f6,uo f7,uo f8,uo f9,uo f10,uo f11,fun h=>rfl,uo f13,fun _=>rfl,trivial⟩
 intro dd aa w6 hd hI;obtain ⟨y12,y13,y14,y15,y16,y17,y18,y19,y20,y21,y22,y23,y24,y5,ea,hb,hsz,vhU,vhD,cd,cu,xr,pr,f0,f1,f2,f3,f4,f5,f6,f7,f8,f9,f10,f11,f12,f13,f14,_⟩:=hI;obtain rfl:=f0.out (hd 0 (by simp));obtain rfl:=f1.out (hd 1 (by simp));obtain rfl:=f2.out (hd 2 (by simp));obtain rfl:=f3.out (hd 3 (by simp));obtain rfl:=f4.out (hd 4 (by simp));obtain rfl:=f5.out (hd 5 (by simp));obtain rfl:=f6.out (hd 6 (by simp));obtain ⟨ahM,nhM,chM,ex,hM⟩:=f7.out (hd 7 (by simp));subst ex;obtain rfl:=f8.out (hd 8 (by simp));obtain rfl:=f9.out (hd 9 (by simp));obtain ⟨ahAU,nhAU,chAU,ahAD,nhAD,chAD,ex,hAU,hAD⟩:=f10.out (hd 10 (by simp));subst ex;have ex:y23 = .agg #[.bool (neg (Ans.up (R))),.slice ahAU nhAU chAU,.slice ahAD nhAD chAD]:=f11.out (hd 11 (by simp));subst ex;have ex:y24 = .int .i64 (Ans.why (R)):=f12.out (hd 12 (by simp));subst ex;obtain ⟨vs13,e,h13⟩:=f13.out (hd 13 (by simp));cases e;have ex:y5 = .int .i64 (Ans.why (R)):=f14.out (hd 14 (by simp));subst ex;have lr:=nLt lr hsz;have qr0:=h13 0 (by simp);simp only [lgZ,lgS] at qr0;have qr1:=h13 1 (by simp);simp only [lgZ,lgS] at qr1;have qr2:=h13 2 (by simp);simp only [lgZ,lgS] at qr2;subst ea;simp only [pu];have hM:=hM.mono szW;have hAU:=hAU.mono szW;have hAD:=hAD.mono szW;have hD:=vhD;have hU:=vhU;have ld:=nLt ld hsz;have qd0:=cd 0 (by simp)
 simp only [lgZ,lgS] at qd0;have qd1:=cd 1 (by simp);simp only [lgZ,lgS] at qd1;clear cd;have lu:=nLt lu hsz;have qu0:=cu 0 (by simp);simp only [lgZ,lgS] at qu0;have qu1:=cu 1 (by simp);simp only [lgZ,lgS] at qu1;clear cu;have hB:=hb;clear pr;clear hb hd
 go_wp2
 refine bodyPost_ret (v:=.tuple #[.agg #[.bool (neg R.up),.slice ahAU nhAU chAU,.slice ahAD nhAD chAD],.int .i64 R.why]) ?_ rfl ⟨_,_,_,_,_,_,rfl,hAU,hAD,hB⟩;simp [results,Tryz.f47,go_sem,qr0,qr1,qr2]
end Go.Proofs.YtkhcblihbalnbaaGreat
