import Derived.RangeFuncNested
import Derived.RangeFuncBound
import Derived.RangeFuncCalls
import Derived.RangeFuncLeaves
import Derived.Shelf.Abstract
import Derived.Shelf.RegionOpen
import Derived.WalkKit
import Derived.OwnWalkIn
import Derived.TacticsInMore
import Derived.LoopNIn
import Derived.LoopIn
import Derived.Test.YtkhcblihbalnbaaGreatS0Pl
import Derived.Test.YtkhcblihbalnbaaGreatSoli1Pl
import Derived.Test.YtkhcblihbalnbaaGreatRegPl
import Derived.Test.YtkhcblihbalnbaaGreatRatio10Pl
import Derived.Test.YtkhcblihbalnbaaGreatRatio6Pl
import Derived.Test.YtkhcblihbalnbaaGreatRatio12Pl
import Derived.Test.YtkhcblihbalnbaaGreatKit5Pl
import Derived.Test.YtkhcblihbalnbaaGreatSigned2Pl
import Derived.Test.YtkhcblihbalnbaaGreatLimbs1Pl
set_option linter.unusedVariables false
set_option linter.unusedSimpArgs false
set_option maxHeartbeats 16000000
set_option maxRecDepth 100000
namespace Go.Proofs.YtkhcblihbalnbaaGreat
section
open Go.RowKit Go.Shelf
attribute [local go_sem] Oper.semAt_some
theorem meets_len {k u j d:Nat} (hk:k≤1024) (hu:u≤k) (hj:j≤u) (hd:d≤k):rlen (meetsR k u j d)≤k+2:=by
 unfold meetsR;have l1:=ch_len (n:=u) (by omega) j;have l3:=ch_len (n:=k) (by omega) d
 have l2:(digs (chz (k-u) ((d:Int)-(j:Int)))).length≤k-u+1:=by
  unfold chz
  split
  · rename_i h;have:=ch_len (n:=k-u) (by omega) ((d:Int)-(j:Int)).toNat;omega
  exact Nat.zero_le _
 have l4:=digs_len_prod (ch u j) (chz (k-u) ((d:Int)-(j:Int)));exact rlen_mkRat (Nat.pos_iff_ne_zero.1 (ch_pos hd)) (by rw [Int.natAbs_natCast];omega) (by omega)
def inE (g:Nat→Int) (T k u j i:Nat):Rat:=mkRat (g i) T*meetsR k u j (i+1)
theorem in1_in (f:Nat) (hf:1≤f) (lp bT bS bK bU bJ:Nat) (a:Option Addr) (n c:Nat) (zs:List Int) (T k u j:Nat) (w0:World) (g:IntsAt w0 a n c zs) (hok:okT zs (k:Int)) (hT0:0<T) (hT1:T<9223372036854775808) (hk:k≤1024) (hu:u≤k) (hj:j≤u)
 (lT:bT<w0.heap.size) (lS:bS<w0.heap.size) (lK:bK<w0.heap.size) (lU:bU<w0.heap.size) (lJ:bJ<w0.heap.size)
 (qT0:w0.cell? ⟨bT,0,none⟩=some (.slice a n c)) (qS0:w0.cell? ⟨bS,0,none⟩=some (.int .i64 (T:Int))) (qK0:w0.cell? ⟨bK,0,none⟩=some (.int .i64 (k:Int))) (qU0:w0.cell? ⟨bU,0,none⟩=some (.int .i64 (u:Int))) (qJ0:w0.cell? ⟨bJ,0,none⟩=some (.int .i64 (j:Int)))
 (J:Nat→World→Prop)
 (hY : ∀ i (a1 : Option Addr) (n1 c1 : Nat) (a2 : Option Addr) (n2 c2 : Nat) W, i < n → J i W → Below w0.heap.size w0 W → NatAt W a1 n1 c1 (digs (inE (fun i => zs.getD i 0) T k u j i).num.natAbs) → NatAt W a2 n2 c2 (digs (inE (fun i => zs.getD i 0) T k u j i).den) →
   YieldAt Fence.wide (f-1) Tryz.prog lp #[.agg #[.bool (neg (inE (fun i=>zs.getD i 0) T k u j i).num),.slice a1 n1 c1,.slice a2 n2 c2]] W fun e W'=>e = .returned (.bool true)∧J (i+1) W'∧Below w0.heap.size W W')
 (hJ:∀ i W W',J i W→Below W.heap.size W W'→J i W')
 (W:World) (hb0:Below w0.heap.size w0 W) (h0:J 0 W) :
 CallsIn Fence.wide f Tryz.prog 224 #[.func (.yield lp) #[] #[],.pointer (some ⟨bT,0,none⟩),.pointer (some ⟨bS,0,none⟩),.pointer (some ⟨bK,0,none⟩),.pointer (some ⟨bU,0,none⟩),.pointer (some ⟨bJ,0,none⟩)] W fun e W'=>(∃ v,e = .returned v)∧J n W'∧Below w0.heap.size w0 W':=by
 have hcl:c≤9223372036854775807:=by have h1:=g.cle;simp only [maxLen] at h1;omega
 have hle:=g.le;have hlen:=g.len;have hnk:n≤k:=by have:=hok.2.2.2.1;omega
 have hin:=okT_in hok;rw [hlen] at hin;have HIN:=hiD hin;have HY:=hiD hY;have HJ:=hiD hJ;have qt:=(hb0.cell (p:=⟨bT,0,none⟩) lT).trans qT0;clear hin hY hJ hok;refine callsIn_of_wp Tryz.func224 rfl trivial ?_ rfl;simp only [Tryz.ntmps224,List.size_toArray,List.length_cons,List.length_nil,Nat.reduceAdd,Nat.reduceSub,Array.replicate_succ,Array.replicate_zero,List.push_toArray,List.append_toArray,List.nil_append,List.cons_append]
 gi_wp2
 clear qt
 gi_loopw [7,8,13] (fun x y i wr=>∃ m:Nat,m≤n∧i = .int .i64 (m:Int)∧J m wr∧Below w0.heap.size w0 wr) (fun x y i _=>n-(intOf i).toNat)
 case atStart=>exact ⟨0,Nat.zero_le _,rfl,h0,hb0⟩
 case round =>
  obtain ⟨m,hm,rfl,hJm,hB⟩:=hrel
  by_cases hlt:m<n
  · have hz:=HIN.out m hlt;have hcel:=(g.past hB).cell;obtain ⟨z,hzz⟩:∃ z,zs.getD m 0=z:=⟨_,rfl⟩;obtain ⟨D,hD⟩:∃ D,m+1=D:=⟨_,rfl⟩
    have hq:∃ b o,a=some ⟨b,o,none⟩∧wr.cell? ⟨b,o+m,none⟩=some (.int .i64 z):=by
     rcases hcel with h | ⟨b,o,h1,h2,h3⟩
     · omega
     exact ⟨b,o,h1,by rw [← hzz];exact h3 m hlt⟩
    obtain ⟨b,o,rfl,hq⟩:=hq;have hY1:=fun x1 x2 x3 x4 x5 x6 W=>HY.out m x1 x2 x3 x4 x5 x6 W hlt
    have hE:inE (fun i=>zs.getD i 0) T k u j m=mkRat z T*meetsR k u j D:=by
     show mkRat (zs.getD m 0) T*meetsR k u j (m+1)=_;rw [hzz,hD]
    rw [hzz] at hz;have hpr:=fun w=>cpair_any z T w (by omega) hT0 (by omega)
    have hmt:=fun w=>meets_any k u j D w hk hu hj (by omega)
    have lp0:rlen (mkRat z T)≤1:=rlen_mkRat (by omega) (digs_length_le.2 (by simp;omega)) (digs_length_le.2 (by simp;omega));have lm0:rlen (meetsR k u j D)≤k+2:=meets_len hk hu hj (by omega);obtain ⟨P,hP⟩:∃ P,mkRat z T=P:=⟨_,rfl⟩;obtain ⟨M,hM⟩:∃ M,meetsR k u j D=M:=⟨_,rfl⟩;rw [hP,hM] at hE;rw [hP] at lp0;rw [hM] at lm0;simp only [hP] at hpr;simp only [hM] at hmt;rw [hE] at hY1;obtain ⟨X,hX⟩:∃ X,P*M=X:=⟨_,rfl⟩;rw [hX] at hY1;have HY1:=hiD hY1;have HPR:=hiD hpr;have HMT:=hiD hmt;have HX:=hiD hX;have LP:=hiD (show rlen P≤1048576 by omega);have LM:=hiD (show rlen M≤1048576 by omega);have HTD:=hiD (show IntKind.i64.wrap ((m:Int)+1)=(D:Int) by rw [IntKind.wrap_i64];omega);have lS:=nLt lS hB.size;have lK:=nLt lK hB.size;have lU:=nLt lU hB.size;have lJ:=nLt lJ hB.size;have qS0:=(hB.cell (p:=⟨bS,0,none⟩) (by assumption)).trans qS0;have qK0:=(hB.cell (p:=⟨bK,0,none⟩) (by assumption)).trans qK0;have qU0:=(hB.cell (p:=⟨bU,0,none⟩) (by assumption)).trans qU0;have qJ0:=(hB.cell (p:=⟨bJ,0,none⟩) (by assumption)).trans qJ0;have hR0:=bRf wr.heap.size wr;clear hcel hz hzz hD hY1 hE hpr hmt lp0 lm0 hP hM hX
    gi_wp2_with fail
    refine wpIn_wide.2 ?_;refine wp_region_invA (by kernel_rfl) rfl (by kernel_rfl) (fun A0 V0 dd aa ww=>∃ (blk:Nat→Nat) (y19 y20 y21 y22 y23 y24 y25 y26 y27 y28 y29 y18 y30 y31 y9 y10:Value),aa=puts A0 [(19,y19),(20,y20),(21,y21),(22,y22),(23,y23),(24,y24),(25,y25),(26,y26),(27,y27),(28,y28),(29,y29),(18,y18),(30,y30),(31,y31),(9,y9),(10,y10)]∧Below V0.heap.size V0 ww∧Boxes [(14,3)] V0.heap.size dd blk ww∧Shut (dd 0=true→y19 = .int .i64 z)∧Shut (dd 1=true→y20 = .int .i64 (T:Int))∧Shut (dd 2=true→RatV V0.heap.size (P) y21 ww)∧Shut (dd 3=true→y22 = .int .i64 (k:Int))∧Shut (dd 4=true→y23 = .int .i64 (u:Int))∧Shut (dd 5=true→y24 = .int .i64 (j:Int))∧Shut (dd 6=true→y25 = .int .i64 (m:Int))∧Shut (dd 7=true→y26 = .int .i64 (D:Int))∧Shut (dd 8=true→RatV V0.heap.size (M) y27 ww)∧Shut (dd 9=true→dd 10=false→LstV V0.heap.size 2 ([y21,y27].flatMap cellsOf) y28 ww)∧Shut (dd 10=true→OkV V0.heap.size (X) y29 ww)∧Shut (dd 11=true→y18=y29)∧Shut (dd 12=true→y30=part 0 y18)∧Shut (dd 13=true→y31=part 1 y18)∧Shut (dd 14=true→y9 = .pointer (some ⟨blk 14,0,none⟩))∧Shut (dd 15=true→HoldsV dd 14 12 (blk 14) y30 ww)∧Shut (dd 16=true→y10=y31)∧True) ?_ ?_ ?_
    · exact ⟨fun _=>0,_,_,_,_,_,_,_,_,_,_,_,_,_,_,_,_,puts_self _ [19,20,21,22,23,24,25,26,27,28,29,18,30,31,9,10],(bRf _ _).drew,Boxes.none _ _ _ _,fun h=>(by cases h),fun h=>(by cases h),fun h=>(by cases h),fun h=>(by cases h),fun h=>(by cases h),fun h=>(by cases h),fun h=>(by cases h),fun h=>(by cases h),fun h=>(by cases h),fun h=>(by cases h),fun h=>(by cases h),fun h=>(by cases h),fun h=>(by cases h),fun h=>(by cases h),fun h=>(by cases h),fun h=>(by cases h),fun h=>(by cases h),trivial⟩
    · refine Steps.cons ?_ (Steps.cons ?_ (Steps.cons ?_ (Steps.cons ?_ (Steps.cons ?_ (Steps.cons ?_ (Steps.cons ?_ (Steps.cons ?_ (Steps.cons ?_ (Steps.cons ?_ (Steps.cons ?_ (Steps.cons ?_ (Steps.cons ?_ (Steps.cons ?_ (Steps.cons ?_ (Steps.cons ?_ (Steps.cons ?_ (Steps.nil)))))))))))))))))
      all_goals (intro dd aa ww K hc hun hn hI hK;obtain ⟨blk,y19,y20,y21,y22,y23,y24,y25,y26,y27,y28,y29,y18,y30,y31,y9,y10,ea,hb,hX,f0,f1,f2,f3,f4,f5,f6,f7,f8,f9,f10,f11,f12,f13,f14,f15,f16,_⟩:=hI;subst ea;simp only [pu])
      · go_simp;exact hK.out _ _ ⟨blk,_,_,_,_,_,_,_,_,_,_,_,_,_,_,_,_,by simp only [pu]<;>rfl,hb,hX.same 0 rfl,fun _=>rfl,uo f1,uo f2,uo f3,uo f4,uo f5,uo f6,uo f7,uo f8,fun h h2=>((f9.out (upd_of rfl h)) (upd_off h2)),uo f10,uo f11,uo f12,uo f13,uo f14,fun h=>(f15.out (upd_of rfl h)).same 0,uo f16,trivial⟩
      · have e0:=(hb.cell (p:=⟨bS,0,none⟩) lS).trans qS0;go_simp;exact hK.out _ _ ⟨blk,_,_,_,_,_,_,_,_,_,_,_,_,_,_,_,_,by simp only [pu]<;>rfl,hb,hX.same 1 rfl,uo f0,fun _=>rfl,uo f2,uo f3,uo f4,uo f5,uo f6,uo f7,uo f8,fun h h2=>((f9.out (upd_of rfl h)) (upd_off h2)),uo f10,uo f11,uo f12,uo f13,uo f14,fun h=>(f15.out (upd_of rfl h)).same 1,uo f16,trivial⟩
      · obtain rfl:=f0.out (hc.see hn);obtain rfl:=f1.out (hc.see hn);go_simp
        with_reducible refine (HPR.out _).mono ?_
        rintro e w1 ⟨ahPU,nhPU,chPU,ahPD,nhPD,chPD,rfl,hPU,hPD,h1⟩;exact hK.out _ _ ⟨blk,_,_,_,_,_,_,_,_,_,_,_,_,_,_,_,_,by simp only [pu]<;>rfl,bLt hb h1,hX.past h1 2 rfl,fun h=>rfl,fun h=>rfl,fun _=>⟨_,_,_,_,_,_,rfl,hPU.mono hb.size,hPD.mono hb.size⟩,uo f3,uo f4,uo f5,uo f6,uo f7,fun h=>(f8.out (upd_of rfl h)).past h1,hc.abs hun,fun h=>(f10.out (upd_of rfl h)).past h1,uo f11,uo f12,uo f13,uo f14,fun h=>(f15.out (upd_of rfl h)).past h1 2,uo f16,trivial⟩
      · have e0:=(hb.cell (p:=⟨bK,0,none⟩) lK).trans qK0;go_simp;exact hK.out _ _ ⟨blk,_,_,_,_,_,_,_,_,_,_,_,_,_,_,_,_,by simp only [pu]<;>rfl,hb,hX.same 3 rfl,uo f0,uo f1,uo f2,fun _=>rfl,uo f4,uo f5,uo f6,uo f7,uo f8,fun h h2=>((f9.out (upd_of rfl h)) (upd_off h2)),uo f10,uo f11,uo f12,uo f13,uo f14,fun h=>(f15.out (upd_of rfl h)).same 3,uo f16,trivial⟩
      · have e0:=(hb.cell (p:=⟨bU,0,none⟩) lU).trans qU0;go_simp;exact hK.out _ _ ⟨blk,_,_,_,_,_,_,_,_,_,_,_,_,_,_,_,_,by simp only [pu]<;>rfl,hb,hX.same 4 rfl,uo f0,uo f1,uo f2,uo f3,fun _=>rfl,uo f5,uo f6,uo f7,uo f8,fun h h2=>((f9.out (upd_of rfl h)) (upd_off h2)),uo f10,uo f11,uo f12,uo f13,uo f14,fun h=>(f15.out (upd_of rfl h)).same 4,uo f16,trivial⟩
      · have e0:=(hb.cell (p:=⟨bJ,0,none⟩) lJ).trans qJ0;go_simp;exact hK.out _ _ ⟨blk,_,_,_,_,_,_,_,_,_,_,_,_,_,_,_,_,by simp only [pu]<;>rfl,hb,hX.same 5 rfl,uo f0,uo f1,uo f2,uo f3,uo f4,fun _=>rfl,uo f6,uo f7,uo f8,fun h h2=>((f9.out (upd_of rfl h)) (upd_off h2)),uo f10,uo f11,uo f12,uo f13,uo f14,fun h=>(f15.out (upd_of rfl h)).same 5,uo f16,trivial⟩
      · go_simp;exact hK.out _ _ ⟨blk,_,_,_,_,_,_,_,_,_,_,_,_,_,_,_,_,by simp only [pu]<;>rfl,hb,hX.same 6 rfl,uo f0,uo f1,uo f2,uo f3,uo f4,uo f5,fun _=>rfl,uo f7,uo f8,fun h h2=>((f9.out (upd_of rfl h)) (upd_off h2)),uo f10,uo f11,uo f12,uo f13,uo f14,fun h=>(f15.out (upd_of rfl h)).same 6,uo f16,trivial⟩
      · obtain rfl:=f6.out (hc.see hn);go_simp;rw [HTD.out];exact hK.out _ _ ⟨blk,_,_,_,_,_,_,_,_,_,_,_,_,_,_,_,_,by simp only [pu]<;>rfl,hb,hX.same 7 rfl,uo f0,uo f1,uo f2,uo f3,uo f4,uo f5,fun h=>rfl,fun _=>rfl,uo f8,fun h h2=>((f9.out (upd_of rfl h)) (upd_off h2)),uo f10,uo f11,uo f12,uo f13,uo f14,fun h=>(f15.out (upd_of rfl h)).same 7,uo f16,trivial⟩
      · obtain rfl:=f3.out (hc.see hn);obtain rfl:=f4.out (hc.see hn);obtain rfl:=f5.out (hc.see hn);obtain rfl:=f7.out (hc.see hn);go_simp
        with_reducible refine (HMT.out _).mono ?_
        rintro e w1 ⟨ahMU,nhMU,chMU,ahMD,nhMD,chMD,rfl,hMU,hMD,h1⟩;exact hK.out _ _ ⟨blk,_,_,_,_,_,_,_,_,_,_,_,_,_,_,_,_,by simp only [pu]<;>rfl,bLt hb h1,hX.past h1 8 rfl,uo f0,uo f1,fun h=>(f2.out (upd_of rfl h)).past h1,fun h=>rfl,fun h=>rfl,fun h=>rfl,uo f6,fun h=>rfl,fun _=>⟨_,_,_,_,_,_,rfl,hMU.mono hb.size,hMD.mono hb.size⟩,hc.abs hun,fun h=>(f10.out (upd_of rfl h)).past h1,uo f11,uo f12,uo f13,uo f14,fun h=>(f15.out (upd_of rfl h)).past h1 8,uo f16,trivial⟩
      · obtain ⟨ahPU,nhPU,chPU,ahPD,nhPD,chPD,ex,hPU,hPD⟩:=f2.out (hc.see hn);subst ex;obtain ⟨ahMU,nhMU,chMU,ahMD,nhMD,chMD,ex,hMU,hMD⟩:=f8.out (hc.see hn);subst ex;go_simp;exact hK.out _ _ ⟨blk,_,_,_,_,_,_,_,_,_,_,_,_,_,_,_,_,by simp only [pu]<;>rfl,below_alloc hb _,hX.past ((bRf _ _).alloc (nRf _) _) 9 rfl,uo f0,uo f1,fun h=>(f2.out (upd_of rfl h)).past ((bRf _ _).alloc (nRf _) _),uo f3,uo f4,uo f5,uo f6,uo f7,fun h=>(f8.out (upd_of rfl h)).past ((bRf _ _).alloc (nRf _) _),fun _ _=>LstV.new hb.size _ _,fun h=>(f10.out (upd_of rfl h)).past ((bRf _ _).alloc (nRf _) _),uo f11,uo f12,uo f13,uo f14,fun h=>(f15.out (upd_of rfl h)).past ((bRf _ _).alloc (nRf _) _) 9,uo f16,trivial⟩
      · obtain ⟨ahPU,nhPU,chPU,ahPD,nhPD,chPD,ex,hPU,hPD⟩:=f2.out (hc.see hn);subst ex;obtain ⟨ahMU,nhMU,chMU,ahMD,nhMD,chMD,ex,hMU,hMD⟩:=f8.out (hc.see hn);subst ex;obtain ⟨G9,ex,hg1,hg2,hg3⟩:=f9.out (hc.see hn) hun;subst ex;have z0:=hg3 0 (by simp [cellsOf]);have z1:=hg3 1 (by simp [cellsOf]);have z2:=hg3 2 (by simp [cellsOf]);have z3:=hg3 3 (by simp [cellsOf]);have z4:=hg3 4 (by simp [cellsOf]);have z5:=hg3 5 (by simp [cellsOf]);simp only [List.flatMap_cons,List.flatMap_nil,cellsOf,List.cons_append,List.nil_append,List.append_nil,lgZ,lgS] at z0 z1 z2 z3 z4 z5;go_simp
        with_reducible refine (mul_two (RatsAt.two hg2 z0 z1 z2 z3 z4 z5 hPU.toNatAt hPD.toNatAt hMU.toNatAt hMD.toNatAt) LP.out LM.out).mono ?_
        rintro e w1 ⟨ahXU,nhXU,chXU,ahXD,nhXD,chXD,rfl,hXU,hXD,h1⟩;rw [HX.out] at hXU hXD ⊢;exact hK.out _ _ ⟨blk,_,_,_,_,_,_,_,_,_,_,_,_,_,_,_,_,by simp only [pu]<;>rfl,bLt hb h1,hX.past h1 10 rfl,uo f0,uo f1,fun h=>(f2.out (upd_of rfl h)).past h1,uo f3,uo f4,uo f5,uo f6,uo f7,fun h=>(f8.out (upd_of rfl h)).past h1,fun _ h2=>absurd h2 (by simp [upd]),fun _=>⟨_,_,_,_,_,_,rfl,hXU.mono hb.size,hXD.mono hb.size⟩,hc.abs hun,uo f12,uo f13,uo f14,fun h=>(f15.out (upd_of rfl h)).past h1 10,uo f16,trivial⟩
      · obtain ⟨ahXU,nhXU,chXU,ahXD,nhXD,chXD,ex,hXU,hXD⟩:=f10.out (hc.see hn);subst ex;go_simp;exact hK.out _ _ ⟨blk,_,_,_,_,_,_,_,_,_,_,_,_,_,_,_,_,by simp only [pu]<;>rfl,hb,hX.same 11 rfl,uo f0,uo f1,uo f2,uo f3,uo f4,uo f5,uo f6,uo f7,uo f8,fun _ h2=>absurd (show dd 10=true from (hc.see hn)) (by rw [upd_off h2];decide),uo f10,fun _=>rfl,hc.abs hun,hc.abs hun,uo f14,fun h=>(f15.out (upd_of rfl h)).same 11,uo f16,trivial⟩
      · obtain ⟨ahXU,nhXU,chXU,ahXD,nhXD,chXD,ex,hXU,hXD⟩:=f10.out (hc.see hn);subst ex;have ex:y18 = .tuple #[.agg #[.bool (neg (X).num),.slice ahXU nhXU chXU,.slice ahXD nhXD chXD],.int .i64 0]:=f11.out (hc.see hn);subst ex;go_simp;exact hK.out _ _ ⟨blk,_,_,_,_,_,_,_,_,_,_,_,_,_,_,_,_,by simp only [pu]<;>rfl,hb,hX.same 12 rfl,uo f0,uo f1,uo f2,uo f3,uo f4,uo f5,uo f6,uo f7,uo f8,fun _ h2=>absurd (show dd 10=true from (hc.see hn)) (by rw [upd_off h2];decide),uo f10,fun h=>rfl,fun _=>rfl,uo f13,uo f14,fun h=>absurd (HoldsV.vp (f15.out (upd_of rfl h))) (by rw [hun];decide),uo f16,trivial⟩
      · obtain ⟨ahXU,nhXU,chXU,ahXD,nhXD,chXD,ex,hXU,hXD⟩:=f10.out (hc.see hn);subst ex;have ex:y18 = .tuple #[.agg #[.bool (neg (X).num),.slice ahXU nhXU chXU,.slice ahXD nhXD chXD],.int .i64 0]:=f11.out (hc.see hn);subst ex;go_simp;exact hK.out _ _ ⟨blk,_,_,_,_,_,_,_,_,_,_,_,_,_,_,_,_,by simp only [pu]<;>rfl,hb,hX.same 13 rfl,uo f0,uo f1,uo f2,uo f3,uo f4,uo f5,uo f6,uo f7,uo f8,fun _ h2=>absurd (show dd 10=true from (hc.see hn)) (by rw [upd_off h2];decide),uo f10,fun h=>rfl,uo f12,fun _=>rfl,uo f14,fun h=>(f15.out (upd_of rfl h)).same 13,hc.abs hun,trivial⟩
      · go_simp;exact hK.out _ _ ⟨setB blk 14 ww.heap.size,_,_,_,_,_,_,_,_,_,_,_,_,_,_,_,_,by simp only [pu]<;>rfl,below_alloc hb _,hX.new hb.size 14 #[.bool false,.slice none 0 0,.slice none 0 0] _ rfl (by simp [notU_bool,notU_slice,notU_i64]),uo f0,uo f1,fun h=>(f2.out (upd_of rfl h)).past ((bRf _ _).alloc (nRf _) _),uo f3,uo f4,uo f5,uo f6,uo f7,fun h=>(f8.out (upd_of rfl h)).past ((bRf _ _).alloc (nRf _) _),fun h h2=>((f9.out (upd_of rfl h)) (upd_off h2)).past ((bRf _ _).alloc (nRf _) _),fun h=>(f10.out (upd_of rfl h)).past ((bRf _ _).alloc (nRf _) _),uo f11,uo f12,uo f13,fun _=>rfl,fun h=>absurd (HoldsV.up (f15.out (upd_of rfl h))) (by rw [hun];decide),uo f16,trivial⟩
      · obtain rfl:=f14.out (hc.see hn);obtain ⟨ahXU,nhXU,chXU,ahXD,nhXD,chXD,ex,hXU,hXD⟩:=f10.out (hc.see hn);subst ex;have ex:y18 = .tuple #[.agg #[.bool (neg (X).num),.slice ahXU nhXU chXU,.slice ahXD nhXD chXD],.int .i64 0]:=f11.out (hc.see hn);subst ex;have ex:y30 = .agg #[.bool (neg (X).num),.slice ahXU nhXU chXU,.slice ahXD nhXD chXD]:=f12.out (hc.see hn);subst ex;have hd14:dd 14=true:=hc.see hn;have hv12:dd 12=true:=hc.see hn;obtain ⟨x1,x2,x3⟩:=hX.at_ (14,3) (by simp) hd14;obtain ⟨v0,v1,v2,z0,z1,z2,z3,z4,z5,_,_,_⟩:=x3.three;have hv:∀ v ∈ ([.bool (neg (X).num),.slice ahXU nhXU chXU,.slice ahXD nhXD chXD]:List Value),notU v:=by simp [notU_bool,notU_slice,notU_i64]
        go_simp;exact hK.out _ _ ⟨blk,_,_,_,_,_,_,_,_,_,_,_,_,_,_,_,_,by simp only [pu]<;>rfl,hb.trans (below_setCells _ _ x1 [.bool (neg (X).num),.slice ahXU nhXU chXU,.slice ahXD nhXD chXD] 0 _),(hX.sets [.bool (neg (X).num),.slice ahXU nhXU chXU,.slice ahXD nhXD chXD] _ 0 _ hv).same 15 rfl,uo f0,uo f1,fun h=>((f2.out (upd_of rfl h)).sets [.bool (neg (X).num),.slice ahXU nhXU chXU,.slice ahXD nhXD chXD] x3 (by simp) hv),uo f3,uo f4,uo f5,uo f6,uo f7,fun h=>((f8.out (upd_of rfl h)).sets [.bool (neg (X).num),.slice ahXU nhXU chXU,.slice ahXD nhXD chXD] x3 (by simp) hv),fun _ h2=>absurd (show dd 10=true from (hc.see hn)) (by rw [upd_off h2];decide),fun h=>((f10.out (upd_of rfl h)).sets [.bool (neg (X).num),.slice ahXU nhXU chXU,.slice ahXD nhXD chXD] x3 (by simp) hv),fun h=>rfl,fun h=>rfl,uo f13,fun h=>rfl,fun _=>(HoldsV.new hd14 hv12 x2 x3 [.bool (neg (X).num),.slice ahXU nhXU chXU,.slice ahXD nhXD chXD] (by simp)).same 15,uo f16,trivial⟩
      obtain ⟨ahXU,nhXU,chXU,ahXD,nhXD,chXD,ex,hXU,hXD⟩:=f10.out (hc.see hn);subst ex;have ex:y18 = .tuple #[.agg #[.bool (neg (X).num),.slice ahXU nhXU chXU,.slice ahXD nhXD chXD],.int .i64 0]:=f11.out (hc.see hn);subst ex;have ex:y31 = .int .i64 0:=f13.out (hc.see hn);subst ex;go_simp;exact hK.out _ _ ⟨blk,_,_,_,_,_,_,_,_,_,_,_,_,_,_,_,_,by simp only [pu]<;>rfl,hb,hX.same 16 rfl,uo f0,uo f1,uo f2,uo f3,uo f4,uo f5,uo f6,uo f7,uo f8,fun _ h2=>absurd (show dd 10=true from (hc.see hn)) (by rw [upd_off h2];decide),uo f10,fun h=>rfl,uo f12,fun h=>rfl,uo f14,fun h=>(f15.out (upd_of rfl h)).same 16,fun _=>rfl,trivial⟩
    intro dd aa w1 hd hI;obtain ⟨blk,y19,y20,y21,y22,y23,y24,y25,y26,y27,y28,y29,y18,y30,y31,y9,y10,ea,hb,hX,f0,f1,f2,f3,f4,f5,f6,f7,f8,f9,f10,f11,f12,f13,f14,f15,f16,_⟩:=hI;obtain rfl:=f0.out (hd 0 (by simp));obtain rfl:=f1.out (hd 1 (by simp));obtain ⟨ahPU,nhPU,chPU,ahPD,nhPD,chPD,ex,hPU,hPD⟩:=f2.out (hd 2 (by simp));subst ex;obtain rfl:=f3.out (hd 3 (by simp));obtain rfl:=f4.out (hd 4 (by simp));obtain rfl:=f5.out (hd 5 (by simp));obtain rfl:=f6.out (hd 6 (by simp));obtain rfl:=f7.out (hd 7 (by simp));obtain ⟨ahMU,nhMU,chMU,ahMD,nhMD,chMD,ex,hMU,hMD⟩:=f8.out (hd 8 (by simp));subst ex;obtain ⟨ahXU,nhXU,chXU,ahXD,nhXD,chXD,ex,hXU,hXD⟩:=f10.out (hd 10 (by simp));subst ex;have ex:y18 = .tuple #[.agg #[.bool (neg (X).num),.slice ahXU nhXU chXU,.slice ahXD nhXD chXD],.int .i64 0]:=f11.out (hd 11 (by simp));subst ex;have ex:y30 = .agg #[.bool (neg (X).num),.slice ahXU nhXU chXU,.slice ahXD nhXD chXD]:=f12.out (hd 12 (by simp));subst ex;have ex:y31 = .int .i64 0:=f13.out (hd 13 (by simp));subst ex;obtain rfl:=f14.out (hd 14 (by simp));obtain ⟨vs15,e,h15⟩:=f15.out (hd 15 (by simp));cases e;have ex:y10 = .int .i64 0:=f16.out (hd 16 (by simp));subst ex;have lr:=h15.lt;have qr0:=h15.at_ 0 (by simp);simp only [lgZ,lgS] at qr0;have qr1:=h15.at_ 1 (by simp);simp only [lgZ,lgS] at qr1;have qr2:=h15.at_ 2 (by simp);simp only [lgZ,lgS] at qr2
    generalize blk 14=Br at *;subst ea;simp only [pu];have qS0:=bq hb lS qS0;have lS:=bl hb lS;have qK0:=bq hb lK qK0;have lK:=bl hb lK;have qU0:=bq hb lU qU0;have lU:=bl hb lU;have qJ0:=bq hb lJ qJ0;have lJ:=bl hb lJ;have hB:=bLt hB hb;have hR0:=bLt hR0 hb;clear hX;clear hb hd;have hJ1:=HJ.out m _ _ hJm hR0;obtain ⟨fn,tmps,assign,body,hy,hR⟩:=HY1.out _ _ _ _ _ _ w1 hJ1 hB hXU.toNatAt hXD.toNatAt
    gi_wp2_with (first | (refine hR.mono ?_;rintro e W3 ⟨rfl,hJ3,hk3⟩))
    exact ⟨⟨m+1,by omega,by go_num,hJ3,hB.trans hk3⟩,by simp [intOf];omega⟩
  obtain rfl:m=n:=by omega
  gi_wp2
  go_end0
  exact ⟨⟨_,rfl⟩,hJm,hB⟩
end
section
open Go.RowKit Go.Shelf
theorem in1_hands (bT bS bK bU bJ:Nat) (a:Option Addr) (n c:Nat) (zs:List Int) (T k u j:Nat) (w0:World) (g:IntsAt w0 a n c zs) (hok:okT zs (k:Int)) (hT0:0<T) (hT1:T<9223372036854775808) (hk:k≤1024) (hu:u≤k) (hj:j≤u)
 (lT:bT<w0.heap.size) (lS:bS<w0.heap.size) (lK:bK<w0.heap.size) (lU:bU<w0.heap.size) (lJ:bJ<w0.heap.size)
 (qT0:w0.cell? ⟨bT,0,none⟩=some (.slice a n c)) (qS0:w0.cell? ⟨bS,0,none⟩=some (.int .i64 (T:Int))) (qK0:w0.cell? ⟨bK,0,none⟩=some (.int .i64 (k:Int))) (qU0:w0.cell? ⟨bU,0,none⟩=some (.int .i64 (u:Int))) (qJ0:w0.cell? ⟨bJ,0,none⟩=some (.int .i64 (j:Int))) :
 Hands 2 Tryz.prog 224 #[.pointer (some ⟨bT,0,none⟩),.pointer (some ⟨bS,0,none⟩),.pointer (some ⟨bK,0,none⟩),.pointer (some ⟨bU,0,none⟩),.pointer (some ⟨bJ,0,none⟩)] w0 w0.heap.size none n (RatOk (inE (fun i=>zs.getD i 0) T k u j)):=fun l J W hb hJ _ hY h0 =>
 in1_in 2 (by decide) l bT bS bK bU bJ a n c zs T k u j w0 g hok hT0 hT1 hk hu hj lT lS lK lU lJ qT0 qS0 qK0 qU0 qJ0 J (fun i a1 n1 c1 a2 n2 c2 W hi h1 h2 h3 h4=>hY i _ W W hi h1 (bRf _ W) h1 h2 ⟨a1,n1,c1,a2,n2,c2,rfl,h3,h4⟩) hJ W hb h0
theorem cpair_zero (w:World):Calls Tryz.prog 208 #[.int .i64 0,.int .i64 1] w (RetRat w 0):=by
 have h:=cpair_any 0 1 w (by decide) (by decide) (by decide)
 rwa [show mkRat 0 1=0 by simp] at h
theorem inE_len {g:Nat→Int} {T k u j i:Nat} (hg:0≤g i∧g i≤16777215) (hT0:0<T) (hT1:T<9223372036854775808) (hk:k≤1024) (hu:u≤k) (hj:j≤u) (hi:i<k):rlen (inE g T k u j i)≤k+4:=by
 unfold inE;have h1:rlen (mkRat (g i) T)≤1:=rlen_mkRat (by omega) (digs_length_le.2 (by simp;omega)) (digs_length_le.2 (by simp;omega));have h2:=meets_len (d:=i+1) hk hu hj (by omega);have h3:rlen (mkRat (g i) T*meetsR k u j (i+1))≤rlen (mkRat (g i) T)+rlen (meetsR k u j (i+1))+1:=product_short _ _;omega
theorem sumQ_len {q:Nat→Rat} {L N:Nat} (h:∀ i,i<N→rlen (q i)≤L):∀ i,i≤N→rlen (sumQ 0 q i)≤1+i*(L+1)
 | 0, _ => by
   show rlen 0≤_;have:rlen 0=1:=by decide
   omega
 | i + 1, hi => by
   have h1:=sumQ_len h i (by omega);have h2:=h i (by omega);have h3:rlen (sumQ 0 q i+q i)≤rlen (sumQ 0 q i)+rlen (q i)+1:=sum_short _ _;rw [Nat.succ_mul];show rlen (sumQ 0 q i+q i)≤_;omega
def inR24 (zs:List Int) (k u j:Nat):Rat:=sumQ 0 (inE (fun i=>zs.getD i 0) (totS (fun i=>zs.getD i 0) zs.length).toNat k u j) zs.length
theorem in_any (a:Option Addr) (n c:Nat) (zs:List Int) (k u j:Nat) (w:World) (g:IntsAt w a n c zs) (hok:okT zs (k:Int)) (hk:k≤20) (hu:u≤k) (hj:j≤u) :
 Calls Tryz.prog 203 #[.slice a n c,.int .i64 (k:Int),.int .i64 (u:Int),.int .i64 (j:Int)] w (RetRat w (inR24 zs k u j)):=by
 have hlen:=g.len;have hin:=okT_in hok;rw [hlen] at hin;have hnk:n≤k:=by have:=hok.2.2.2.1;omega
 have htot:=sumW_tot n (by omega) hin;have hpos:=okT_pos hok;rw [hlen] at hpos;have htin:=totS_in (g:=fun i=>zs.getD i 0) n hin;obtain ⟨T,hT⟩:∃ T:Nat,totS (fun i=>zs.getD i 0) n=(T:Int):=⟨(totS (fun i=>zs.getD i 0) n).toNat,by omega⟩;have hT0:0<T:=by omega
 have hT1:T<9223372036854775808:=by omega
 have hql:=fun i (hi:i<n)=>inE_len (g:=fun i=>zs.getD i 0) (T:=T) (k:=k) (u:=u) (j:=j) (i:=i) (hin i hi) hT0 hT1 (by omega) hu hj (by omega)
 have hsl:=sumQ_len hql;have hres:inR24 zs k u j=sumQ 0 (inE (fun i=>zs.getD i 0) T k u j) n:=by unfold inR24;rw [hlen,hT,Int.toNat_natCast]
 have hha:=fun bT bS bK bU bJ c0 w0 g0=>in1_hands bT bS bK bU bJ a n c0 zs T k u j w0 g0 hok hT0 hT1 (by omega) hu hj
 have hlen1:∀ i,i<n→rlen (inE (fun i=>zs.getD i 0) T k u j i)≤1000000:=fun i hi=>nTr (hql i hi) (by omega)
 have hlen2:∀ i,i≤n→rlen (sumQ 0 (inE (fun i=>zs.getD i 0) T k u j) i)≤1000000:=fun i hi=>nTr (hsl i hi) (by
  have:i*(k+4+1)≤20*25:=Nat.mul_le_mul (by omega) (by omega);omega)
 rw [hT] at htot;rw [hres];obtain ⟨q,hq⟩:∃ q,inE (fun i=>zs.getD i 0) T k u j=q:=⟨_,rfl⟩;rw [hq] at hlen1 hlen2 ⊢;simp only [hq] at hha;have HTOT:=hiD htot;have HHA:=hiD hha;have HL1:=hiD hlen1;have HL2:=hiD hlen2;obtain ⟨R,hR⟩:∃ R,sumQ 0 q n=R:=⟨_,rfl⟩;rw [hR];have HRR:=hiD hR;clear hin htot hpos htin hT hql hsl hres hha hlen1 hlen2 hq hok hR
 go_enter Tryz.func203,Tryz.ntmps203
 have hB:=bRf w.heap.size w
 go_wp2_with fail
 obtain ⟨w1,hW,hz0,hb,q,f⟩:=box1g w (w.heap.size) (by omega) #[.slice a n c] 22;rw [hW];clear hW;have g:=g.past hb;have hB:=bLt hB hb;clear hb;have lt:w.heap.size<w1.heap.size:=by omega
 have qt0:=q 0;simp only [lgA,lgZ,lgS] at qt0;clear q f;obtain ⟨w2,hW,hz1,hb,q,f⟩:=box1g w1 (w.heap.size+1) (by omega) #[.int .i64 (k:Int)] 3;rw [hW];clear hW;have g:=g.past hb;have qt0:=bq hb lt qt0;have lt:=bl hb lt;have hB:=bLt hB hb;clear hb;have lk:w.heap.size+1<w2.heap.size:=by omega
 have qk0:=q 0;simp only [lgA,lgZ,lgS] at qk0;clear q f;obtain ⟨w3,hW,hz2,hb,q,f⟩:=box1g w2 (w.heap.size+1+1) (by omega) #[.int .i64 (u:Int)] 3;rw [hW];clear hW;have g:=g.past hb;have qt0:=bq hb lt qt0;have lt:=bl hb lt;have qk0:=bq hb lk qk0;have lk:=bl hb lk;have hB:=bLt hB hb;clear hb;have lu:w.heap.size+1+1<w3.heap.size:=by omega
 have qu0:=q 0;simp only [lgA,lgZ,lgS] at qu0;clear q f;obtain ⟨w4,hW,hz3,hb,q,f⟩:=box1g w3 (w.heap.size+1+1+1) (by omega) #[.int .i64 (j:Int)] 3;rw [hW];clear hW;have g:=g.past hb;have qt0:=bq hb lt qt0;have lt:=bl hb lt;have qk0:=bq hb lk qk0;have lk:=bl hb lk;have qu0:=bq hb lu qu0;have lu:=bl hb lu;have hB:=bLt hB hb;clear hb;have lj:w.heap.size+1+1+1<w4.heap.size:=by omega
 have qj0:=q 0;simp only [lgA,lgZ,lgS] at qj0;clear q f;obtain ⟨w5,hW,hz4,hb,q,f⟩:=box1g w4 (w.heap.size+1+1+1+1) (by omega) #[.bool false,.slice none 0 0,.slice none 0 0] 28;rw [hW];clear hW;have g:=g.past hb;have qt0:=bq hb lt qt0;have lt:=bl hb lt;have qk0:=bq hb lk qk0;have lk:=bl hb lk;have qu0:=bq hb lu qu0;have lu:=bl hb lu;have qj0:=bq hb lj qj0;have lj:=bl hb lj;have hB:=bLt hB hb;clear hb;have lr:w.heap.size+1+1+1+1<w5.heap.size:=by omega
 have qr0:=q 0;have qr1:=q 1;have qr2:=q 2;simp only [lgA,lgZ,lgS] at qr0 qr1 qr2;have xr:BoxAt w5 (w.heap.size+1+1+1+1) 3:=BoxAt.of q f rfl (by simp [notU_bool,notU_slice,notU_i64]);clear q f;clear hz0;clear hz1;clear hz2;clear hz3;clear hz4
 with_reducible refine (total_any _ _ _ zs _ g).mono ?_
 rintro e w6 ⟨rfl,hb⟩;have g:=g.past hb;have qt0:=bq hb lt qt0;have lt:=bl hb lt;have qk0:=bq hb lk qk0;have lk:=bl hb lk;have qu0:=bq hb lu qu0;have lu:=bl hb lu;have qj0:=bq hb lj qj0;have lj:=bl hb lj;have xr:=xr.past hb lr;obtain ⟨qr0,qr1,qr2,lr⟩:=bq3 hb lr qr0 qr1 qr2;have hB:=bLt hB hb;clear hb;rw [HTOT.out]
 go_wp2_with fail
 obtain ⟨w7,hW,hz0,hb,q,f⟩:=box1g w6 (w6.heap.size) (by omega) #[.int .i64 (T:Int)] 3;rw [hW];clear hW;have g:=g.past hb;have qt0:=bq hb lt qt0;have lt:=bl hb lt;have qk0:=bq hb lk qk0;have lk:=bl hb lk;have qu0:=bq hb lu qu0;have lu:=bl hb lu;have qj0:=bq hb lj qj0;have lj:=bl hb lj;have xr:=xr.past hb lr;obtain ⟨qr0,qr1,qr2,lr⟩:=bq3 hb lr qr0 qr1 qr2;have hB:=bLt hB hb;clear hb;have ls:w6.heap.size<w7.heap.size:=by omega
 have qs0:=q 0;simp only [lgA,lgZ,lgS] at qs0;clear q f;clear hz0
 with_reducible refine (cpair_zero _).mono ?_
 rintro e w8 ⟨ahZU,nhZU,chZU,ahZD,nhZD,chZD,rfl,hZU,hZD,hb⟩;have hZU:=hZU.mono hB.size;have hZD:=hZD.mono hB.size;have g:=g.past hb;have qt0:=bq hb lt qt0;have lt:=bl hb lt;have qk0:=bq hb lk qk0;have lk:=bl hb lk;have qu0:=bq hb lu qu0;have lu:=bl hb lu;have qj0:=bq hb lj qj0;have lj:=bl hb lj;have xr:=xr.past hb lr;obtain ⟨qr0,qr1,qr2,lr⟩:=bq3 hb lr qr0 qr1 qr2;have qs0:=bq hb ls qs0;have ls:=bl hb ls;have hB:=bLt hB hb;clear hb
 go_wp2_with fail
 refine (fold_any w.heap.size 224 _ n 0 q _ _ _ _ _ _ _ hZU hZD hB.size _ none (nRf _) (fun b e=>by cases e) (HHA.out _ _ _ _ _ _ _ g lt ls lk lu lj qt0 qs0 qk0 qu0 qj0) (enters_of Tryz.func224 (by kernel_rfl) rfl) HL1.out HL2.out).mono ?_;rintro e w9 ⟨ahAU,nhAU,chAU,ahAD,nhAD,chAD,rfl,hAU,hAD,hb⟩;rw [HRR.out] at hAU hAD ⊢;have xr:=xr.past hb lr;obtain ⟨qr0,qr1,qr2,lr⟩:=bq3 hb lr qr0 qr1 qr2;have hB:=bLt hB hb;clear hb;have zf0:=xr.f 0 (by decide);have zf1:=xr.f 1 (by decide);have zf2:=xr.f 2 (by decide)
 go_wp2
 obtain ⟨w10,hW,hO,qN0,qN1,qN2,xN⟩:=store3 xr (.bool (neg (R).num)) (.slice ahAU nhAU chAU) (.slice ahAD nhAD chAD) (nu rfl) (nu rfl) (nu rfl);try rw [hW]
 clear hW;have hAU:=hO.own hAU;have hAD:=hO.own hAD;have lr:w.heap.size+1+1+1+1<w10.heap.size:=by rw [hO.size];exact lr
 have qr0:=qN0;have qr1:=qN1;have qr2:=qN2;have xr:=xN;have hB:=hO.below (by omega) hB;clear hO qN0 qN1 qN2 xN zf0 zf1 zf2;refine bodyPost_ret (v:=.agg #[.bool (neg R.num),.slice ahAU nhAU chAU,.slice ahAD nhAD chAD]) ?_ rfl ⟨_,_,_,_,_,_,rfl,hAU,hAD,hB⟩;simp [results,Tryz.f203,go_sem,qr0,qr1,qr2]
end
section
open Go.RowKit Go.Shelf
theorem refA_ok {zs:List Int} {k u:Nat} (h:okT zs (k:Int)) (hk:1≤k) (hk2:k≤1024) (hu:u≤k):refA zs (k:Int) (u:Int)=0:=by
 unfold refA;rw [if_pos (by omega),chkT_yes h]
theorem In_ok (a:Option Addr) (n c:Nat) (zs:List Int) (k u j:Nat) (w:World) (g:IntsAt w a n c zs) (hok:okT zs (k:Int)) (hk1:1≤k) (hk:k≤20) (hu:u≤k) (hj:j≤u) :
 Calls Tryz.prog 181 #[.slice a n c,.int .i64 (k:Int),.int .i64 (u:Int),.int .i64 (j:Int)] w (RetOk w (inR24 zs k u j)):=by
 have h:=refA_ok hok hk1 (by omega) hu;have H:=hiD h;have HOK:=hiD hok;have tj:decide (u<j)=false:=decide_eq_false (by omega);obtain ⟨R,hR⟩:∃ R,inR24 zs k u j=R:=⟨_,rfl⟩;rw [hR];have HR:=hiD hR;clear h hok hR
 go_enter Tryz.func181,Tryz.ntmps181
 have hB:=bRf w.heap.size w
 go_wp2_with fail
 obtain ⟨w1,hW,hz0,hb,q,f⟩:=box1g w (w.heap.size) (by omega) #[.bool false,.slice none 0 0,.slice none 0 0] 28;rw [hW];clear hW;have g:=g.past hb;have hB:=bLt hB hb;clear hb;have lr:w.heap.size<w1.heap.size:=by omega
 have qr0:=q 0;have qr1:=q 1;have qr2:=q 2;simp only [lgA,lgZ,lgS] at qr0 qr1 qr2;have xr:BoxAt w1 (w.heap.size) 3:=BoxAt.of q f rfl (by simp [notU_bool,notU_slice,notU_i64]);clear q f;clear hz0
 with_reducible refine (refuses_any _ _ _ zs (k:Int) (u:Int) _ g).mono ?_
 rintro e w2 ⟨rfl,hb⟩;have g:=g.past hb;have xr:=xr.past hb lr;obtain ⟨qr0,qr1,qr2,lr⟩:=bq3 hb lr qr0 qr1 qr2;have hB:=bLt hB hb;clear hb;rw [H.out]
 go_wp2_with fail
 with_reducible refine (in_any _ _ _ zs k u j _ g HOK.out hk hu hj).mono ?_
 rintro e w3 ⟨ahAU,nhAU,chAU,ahAD,nhAD,chAD,rfl,hAU,hAD,hb⟩;have hAU:=hAU.mono hB.size;have hAD:=hAD.mono hB.size;have xr:=xr.past hb lr;obtain ⟨qr0,qr1,qr2,lr⟩:=bq3 hb lr qr0 qr1 qr2;have hB:=bLt hB hb;clear hb;rw [HR.out] at hAU hAD ⊢;have zf0:=xr.f 0 (by decide);have zf1:=xr.f 1 (by decide);have zf2:=xr.f 2 (by decide)
 go_wp2
 obtain ⟨w4,hW,hO,qN0,qN1,qN2,xN⟩:=store3 xr (.bool (neg (R).num)) (.slice ahAU nhAU chAU) (.slice ahAD nhAD chAD) (nu rfl) (nu rfl) (nu rfl);try rw [hW]
 clear hW;have hAU:=hO.own hAU;have hAD:=hO.own hAD;have lr:w.heap.size<w4.heap.size:=by rw [hO.size];exact lr
 have qr0:=qN0;have qr1:=qN1;have qr2:=qN2;have xr:=xN;have hB:=hO.below (by omega) hB;clear hO qN0 qN1 qN2 xN zf0 zf1 zf2;refine bodyPost_ret (v:=.tuple #[.agg #[.bool (neg R.num),.slice ahAU nhAU chAU,.slice ahAD nhAD chAD],.int .i64 0]) ?_ rfl ⟨_,_,_,_,_,_,rfl,hAU,hAD,hB⟩;simp [results,Tryz.f181,go_sem,qr0,qr1,qr2]
end
section
open Go.RowKit Go.Shelf
attribute [local go_sem] Oper.semAt_some
theorem IntsAt.low {w0 w:World} {n0:Nat} {a:Option Addr} {n c:Nat} {zs:List Int} (g:IntsAt w0 a n c zs) (hn:n=0∨∀ x,a=some x→x.block<n0) (hb:Below n0 w0 w):IntsAt w a n c zs:=by
 refine ⟨g.len,g.le,g.cle,?_,g.nilc,g.wf⟩;rcases g.cell with h0 | ⟨b,o,rfl,hl,hc⟩
 · exact .inl h0
 rcases hn with h0 | hn
 · exact .inl h0
 exact .inr ⟨b,o,rfl,nLt hl hb.size,fun i hi=>(hb.cell (p:=⟨b,o+i,none⟩) (show b<n0 from hn ⟨b,o,none⟩ rfl)).trans (hc i hi)⟩
theorem IntsAt.under {w:World} {a:Option Addr} {n c:Nat} {zs:List Int} (g:IntsAt w a n c zs):n=0∨∀ x,a=some x→x.block<w.heap.size:=by
 rcases g.cell with h0 | ⟨b,o,rfl,hl,hc⟩
 · exact .inl h0
 exact .inr fun x hx=>by cases hx;exact hl
theorem row1_in (f:Nat) (hf:1≤f) (lp bJ bU bT bK n0:Nat) (a:Option Addr) (n c:Nat) (zs:List Int) (k u j0 N:Nat) (w0:World) (g:IntsAt w0 a n c zs) (hna:n=0∨∀ x,a=some x→x.block<n0) (hok:okT zs (k:Int)) (hk:k≤20) (hu:u≤k) (hj0:j0≤2) (hN:N=u+1-j0)
 (lJ:bJ<w0.heap.size) (hn0:n0≤bJ) (lU:bU<n0) (lT:bT<n0) (lK:bK<n0)
 (qJ:w0.cell? ⟨bJ,0,none⟩=some (.int .i64 (j0:Int))) (fJ:w0.frozen? ⟨bJ,0,none⟩=false) (qU:w0.cell? ⟨bU,0,none⟩=some (.int .i64 (u:Int))) (qT:w0.cell? ⟨bT,0,none⟩=some (.slice a n c)) (qK:w0.cell? ⟨bK,0,none⟩=some (.int .i64 (k:Int)))
 (J:Nat→World→Prop)
 (hY : ∀ i (a1 : Option Addr) (n1 c1 : Nat) (a2 : Option Addr) (n2 c2 : Nat) W0 W, i < N → J i W0 → Below W0.heap.size W0 W → J i W → Below n0 w0 W → OwnAt W W0.heap.size a1 n1 c1 (digs (inR24 zs k u (j0 + i)).num.natAbs) → OwnAt W W0.heap.size a2 n2 c2 (digs (inR24 zs k u (j0 + i)).den) →
   YieldAt Fence.wide (f-1) Tryz.prog lp #[.agg #[.bool (neg (inR24 zs k u (j0+i)).num),.slice a1 n1 c1,.slice a2 n2 c2]] W fun e W'=>e = .returned (.bool true)∧J (i+1) W'∧Below w0.heap.size W W')
 (hJ:∀ i W W',J i W→Below W.heap.size W W'→J i W')
 (hJ2:∀ i W x y,J i W→W.cell? ⟨bJ,0,none⟩=some (.int .i64 x)→J i (W.setCell ⟨bJ,0,none⟩ (.int .i64 y)))
 (W:World) (hb0:Below w0.heap.size w0 W) (h0:J 0 W) :
 CallsIn Fence.wide f Tryz.prog 236 #[.func (.yield lp) #[] #[],.pointer (some ⟨bJ,0,none⟩),.pointer (some ⟨bU,0,none⟩),.pointer (some ⟨bT,0,none⟩),.pointer (some ⟨bK,0,none⟩)] W fun e W'=>(∃ v,e = .returned v)∧J N W'∧Below n0 w0 W':=by
 have HY:=hiD hY;have HJ:=hiD hJ;have HJ2:=hiD hJ2;have HOK:=hiD hok;have qJW:=(hb0.cell (p:=⟨bJ,0,none⟩) lJ).trans qJ;have fJW:W.frozen? ⟨bJ,0,none⟩=false:=(hb0.frozen (p:=⟨bJ,0,none⟩) lJ).trans fJ;have hszW:=hb0.size;have hbn:=hb0.mono (show n0≤w0.heap.size by omega);clear hY hJ hJ2 hok;refine callsIn_of_wp Tryz.func236 rfl trivial ?_ rfl;simp only [Tryz.ntmps236,List.size_toArray,List.length_cons,List.length_nil,Nat.reduceAdd,Nat.reduceSub,Array.replicate_succ,Array.replicate_zero,List.push_toArray,List.append_toArray,List.nil_append,List.cons_append]
 gi_wp2
 gi_loopw [] (fun wr=>∃ i,i≤N∧J i wr∧Below n0 w0 wr∧w0.heap.size≤wr.heap.size∧wr.cell? ⟨bJ,0,none⟩=some (.int .i64 ((j0+i:Nat):Int))∧wr.frozen? ⟨bJ,0,none⟩=false)
  (fun wr => match wr.cell? ⟨bJ, 0, none⟩ with
    | some v=>u+1-(intOf v).toNat
    | none=>0)
 case atStart=>exact ⟨0,Nat.zero_le _,h0,hbn,hszW,qJW,fJW⟩
 case round =>
  clear qJ fJ h0 hb0 qJW fJW hbn hszW;obtain ⟨i,hi,hJi,hB,hsz,qJ,fJ⟩:=hrel;have qU:=(hB.cell (p:=⟨bU,0,none⟩) lU).trans qU;have qT:=(hB.cell (p:=⟨bT,0,none⟩) lT).trans qT;have qK:=(hB.cell (p:=⟨bK,0,none⟩) lK).trans qK;have g:=g.low hna hB;obtain ⟨m,hm⟩:∃ m,j0+i=m:=⟨_,rfl⟩;rw [hm] at qJ;have lJ2:bJ<wr.heap.size:=by omega
  by_cases hlt:m≤u
  · have hi2:i<N:=by omega
    have qJ0:=qJ;have HY1:=hiD (fun a1 n1 c1 a2 n2 c2 W=>HY.out i a1 n1 c1 a2 n2 c2 wr W hi2 hJi);have t0:decide (m≤u)=true:=decide_eq_true hlt;have HIN:=hiD (in_any _ _ _ zs k u m wr g HOK.out hk hu hlt);rw [hm] at HY1
    gi_wp2_with (first | (refine ⟨trivial,?_⟩;gi_at_call 203;refine (callsIn_wide.2 HIN.out).mono ?_;rintro e W2 ⟨a1,n1,c1,a2,n2,c2,rfl,u1,u2,hb⟩;obtain ⟨fn,tmps,assign,body,hy,hR⟩:=HY1.out _ _ _ _ _ _ W2 hb (HJ.out i _ _ hJi hb) (hB.trans (hb.mono (by omega))) u1 u2;have qJ:=(hb.cell (p:=⟨bJ,0,none⟩) lJ2).trans qJ;have fJ:W2.frozen? ⟨bJ,0,none⟩=false:=(hb.frozen (p:=⟨bJ,0,none⟩) lJ2).trans fJ;have hB2:=hB.trans (hb.mono (show n0≤wr.heap.size by omega));have hsz2:w0.heap.size≤W2.heap.size:=nTr hsz hb.size;clear u1 u2 hb) | (refine hR.mono ?_;rintro e W3 ⟨rfl,hJ3,hk3⟩;have qJ:=(hk3.cell (p:=⟨bJ,0,none⟩) lJ).trans qJ;have fJ:W3.frozen? ⟨bJ,0,none⟩=false:=(hk3.frozen (p:=⟨bJ,0,none⟩) lJ).trans fJ;have hB3:=hB2.trans (hk3.mono (show n0≤w0.heap.size by omega));have hsz3:w0.heap.size≤W3.heap.size:=nTr hsz2 hk3.size))
    have q2:=World.cell?_setCell_same W3 ⟨bJ,0,none⟩ (.int .i64 ((m:Int)+1)) qJ;refine ⟨⟨i+1,by omega,HJ2.out _ _ _ _ hJ3 qJ,hB3.setCell (p:=⟨bJ,0,none⟩) hn0 _,by simpa using hsz3,by rw [q2];congr 2;omega,by simpa using fJ⟩,?_⟩;rw [q2,qJ0];simp only [intOf];omega
  have t0:decide (m≤u)=false:=decide_eq_false hlt;obtain rfl:i=N:=by omega
  gi_wp2_with (refine ⟨trivial,?_⟩)
  refine ⟨fun f hf=>(by cases hf),?_⟩
  gi_wp2
  go_end0
  exact ⟨⟨_,rfl⟩,hJi,hB⟩
end
section
open Go.RowKit Go.Shelf
theorem in_len {zs:List Int} {k u j:Nat} (hok:okT zs (k:Int)) (hk:k≤20) (hu:u≤k) (hj:j≤u):rlen (inR24 zs k u j)≤501:=by
 have hin:=okT_in hok;have hnk:zs.length≤k:=by have:=hok.2.2.2.1;omega
 have hpos:=okT_pos hok;have htin:=totS_in (g:=fun i=>zs.getD i 0) zs.length hin;obtain ⟨T,hT⟩:∃ T:Nat,totS (fun i=>zs.getD i 0) zs.length=(T:Int):=⟨(totS (fun i=>zs.getD i 0) zs.length).toNat,by omega⟩;have hT0:0<T:=by omega
 have hT1:T<9223372036854775808:=by omega
 have hql:=fun i (hi:i<zs.length)=>inE_len (g:=fun i=>zs.getD i 0) (T:=T) (k:=k) (u:=u) (j:=j) (i:=i) (hin i hi) hT0 hT1 (by omega) hu hj (by omega)
 have hsl:=sumQ_len hql zs.length (nRf _);have hres:inR24 zs k u j=sumQ 0 (inE (fun i=>zs.getD i 0) T k u j) zs.length:=by unfold inR24;rw [hT,Int.toNat_natCast]
 rw [hres];have:zs.length*(k+4+1)≤20*25:=Nat.mul_le_mul (by omega) (by omega);omega
def cloudR (zs:List Int) (k u:Nat):Rat:=sumQ 0 (fun i=>inR24 zs k u (2+i)) (u+1-2)
theorem cloud_len {zs:List Int} {k u:Nat} (hok:okT zs (k:Int)) (hk:k≤20) (hu:u≤k):∀ i,i≤u+1-2→rlen (sumQ 0 (fun i=>inR24 zs k u (2+i)) i)≤20000:=fun i hi=>by
 have h:=sumQ_len (q:=fun i=>inR24 zs k u (2+i)) (L:=501) (N:=u+1-2) (fun i hi=>in_len hok hk hu (by omega)) i hi;omega
theorem row_any (a:Option Addr) (n c:Nat) (k u j:Nat) (w:World) :
 Calls Tryz.prog 227 #[.slice a n c,.int .i64 (k:Int),.int .i64 (u:Int),.int .i64 (j:Int)] w fun e w'=>e = .returned (.func (.func 236) #[] #[.pointer (some ⟨w.heap.size+1+1+1,0,none⟩),.pointer (some ⟨w.heap.size+1+1,0,none⟩),.pointer (some ⟨w.heap.size,0,none⟩),.pointer (some ⟨w.heap.size+1,0,none⟩)]) ∧
  w'.heap.size=w.heap.size+1+1+1+1∧w'.cell? ⟨w.heap.size,0,none⟩=some (.slice a n c)∧w'.cell? ⟨w.heap.size+1,0,none⟩=some (.int .i64 (k:Int))∧w'.cell? ⟨w.heap.size+1+1,0,none⟩=some (.int .i64 (u:Int))∧w'.cell? ⟨w.heap.size+1+1+1,0,none⟩=some (.int .i64 (j:Int))∧BoxAt w' (w.heap.size+1+1+1) 1∧Below w.heap.size w w':=by
 go_enter Tryz.func227,Tryz.ntmps227
 have hB:=bRf w.heap.size w
 go_wp2_with fail
 obtain ⟨w1,hW,hz0,hb,q,f⟩:=box1g w (w.heap.size) (by omega) #[.slice a n c] 22;rw [hW];clear hW;have hB:=bLt hB hb;clear hb;have lt:w.heap.size<w1.heap.size:=by omega
 have qt0:=q 0;simp only [lgA,lgZ,lgS] at qt0;clear q f;obtain ⟨w2,hW,hz1,hb,q,f⟩:=box1g w1 (w.heap.size+1) (by omega) #[.int .i64 (k:Int)] 3;rw [hW];clear hW;have qt0:=bq hb lt qt0;have lt:=bl hb lt;have hB:=bLt hB hb;clear hb;have lk:w.heap.size+1<w2.heap.size:=by omega
 have qk0:=q 0;simp only [lgA,lgZ,lgS] at qk0;clear q f;obtain ⟨w3,hW,hz2,hb,q,f⟩:=box1g w2 (w.heap.size+1+1) (by omega) #[.int .i64 (u:Int)] 3;rw [hW];clear hW;have qt0:=bq hb lt qt0;have lt:=bl hb lt;have qk0:=bq hb lk qk0;have lk:=bl hb lk;have hB:=bLt hB hb;clear hb;have lu:w.heap.size+1+1<w3.heap.size:=by omega
 have qu0:=q 0;simp only [lgA,lgZ,lgS] at qu0;clear q f;obtain ⟨w4,hW,hz3,hb,q,f⟩:=box1g w3 (w.heap.size+1+1+1) (by omega) #[.int .i64 (j:Int)] 3;rw [hW];clear hW;have qt0:=bq hb lt qt0;have lt:=bl hb lt;have qk0:=bq hb lk qk0;have lk:=bl hb lk;have qu0:=bq hb lu qu0;have lu:=bl hb lu;have hB:=bLt hB hb;clear hb;have lj:w.heap.size+1+1+1<w4.heap.size:=by omega
 have qj0:=q 0;simp only [lgA,lgZ,lgS] at qj0;have xj:BoxAt w4 (w.heap.size+1+1+1) 1:=BoxAt.of q f rfl (by simp [notU_bool,notU_slice,notU_i64]);clear q f
 go_ret
 exact ⟨rfl,by omega,qt0,qk0,qu0,qj0,xj,hB⟩
theorem row1_hands (bJ bU bT bK n0:Nat) (a:Option Addr) (n c:Nat) (zs:List Int) (k u j0 N:Nat) (w0:World) (g:IntsAt w0 a n c zs) (hna:n=0∨∀ x,a=some x→x.block<n0) (hok:okT zs (k:Int)) (hk:k≤20) (hu:u≤k) (hj0:j0≤2) (hN:N=u+1-j0)
 (lJ:bJ<w0.heap.size) (hn0:n0≤bJ) (lU:bU<n0) (lT:bT<n0) (lK:bK<n0)
 (qJ:w0.cell? ⟨bJ,0,none⟩=some (.int .i64 (j0:Int))) (fJ:w0.frozen? ⟨bJ,0,none⟩=false) (qU:w0.cell? ⟨bU,0,none⟩=some (.int .i64 (u:Int))) (qT:w0.cell? ⟨bT,0,none⟩=some (.slice a n c)) (qK:w0.cell? ⟨bK,0,none⟩=some (.int .i64 (k:Int))) :
 Hands 2 Tryz.prog 236 #[.pointer (some ⟨bJ,0,none⟩),.pointer (some ⟨bU,0,none⟩),.pointer (some ⟨bT,0,none⟩),.pointer (some ⟨bK,0,none⟩)] w0 n0 (some bJ) N (RatNew (fun i=>inR24 zs k u (j0+i))):=fun l J W hb hJ hJ2 hY h0 =>
 row1_in 2 (by decide) l bJ bU bT bK n0 a n c zs k u j0 N w0 g hna hok hk hu hj0 hN lJ hn0 lU lT lK qJ fJ qU qT qK J (fun i a1 n1 c1 a2 n2 c2 W0 W hi h1 h2 h3 h4 h5 h6=>hY i _ W0 W hi h1 h2 h3 h4 ⟨a1,n1,c1,a2,n2,c2,rfl,h5,h6⟩) hJ (fun i W x y h hc=>hJ2 bJ rfl i W x y h hc) W hb h0
theorem Cloud_ok (a:Option Addr) (n c:Nat) (zs:List Int) (k u:Nat) (w:World) (g:IntsAt w a n c zs) (hok:okT zs (k:Int)) (hk1:1≤k) (hk:k≤20) (hu:u≤k) :
 Calls Tryz.prog 207 #[.slice a n c,.int .i64 (k:Int),.int .i64 (u:Int)] w (RetOk w (cloudR zs k u)):=by
 have h:=refA_ok hok hk1 (by omega) hu;have H:=hiD h;have HOK:=hiD hok;have hq:∀ i,i<u+1-2→rlen (inR24 zs k u (2+i))≤1000000:=fun i hi=>nTr (in_len hok hk hu (by omega)) (by decide)
 have hs:∀ i,i≤u+1-2→rlen (sumQ 0 (fun i=>inR24 zs k u (2+i)) i)≤1000000:=fun i hi=>nTr (cloud_len hok hk hu i hi) (by decide)
 have HQ:=hiD hq;have HS:=hiD hs;obtain ⟨R,hR⟩:∃ R,cloudR zs k u=R:=⟨_,rfl⟩;rw [hR];have HR:=hiD (show sumQ 0 (fun i=>inR24 zs k u (2+i)) (u+1-2)=R from hR);clear h hok hq hs hR
 go_enter Tryz.func207,Tryz.ntmps207
 have hB:=bRf w.heap.size w
 go_wp2_with fail
 obtain ⟨w1,hW,hz0,hb,q,f⟩:=box1g w (w.heap.size) (by omega) #[.bool false,.slice none 0 0,.slice none 0 0] 28;rw [hW];clear hW;have g:=g.past hb;have hB:=bLt hB hb;clear hb;have lr:w.heap.size<w1.heap.size:=by omega
 have qr0:=q 0;have qr1:=q 1;have qr2:=q 2;simp only [lgA,lgZ,lgS] at qr0 qr1 qr2;have xr:BoxAt w1 (w.heap.size) 3:=BoxAt.of q f rfl (by simp [notU_bool,notU_slice,notU_i64]);clear q f;clear hz0
 with_reducible refine (refuses_any _ _ _ zs (k:Int) (u:Int) _ g).mono ?_
 rintro e w2 ⟨rfl,hb⟩;have g:=g.past hb;have xr:=xr.past hb lr;obtain ⟨qr0,qr1,qr2,lr⟩:=bq3 hb lr qr0 qr1 qr2;have hB:=bLt hB hb;clear hb;rw [H.out]
 go_wp2_with fail
 have HUN:=hiD g.under;have hs1:=hB.size
 go_wp2_with fail
 refine (row_any _ _ _ k u 2 _).mono ?_;rintro e w3 ⟨rfl,hzR,qt0,qk0,qu0,qj0,xj,hb⟩;have g:=g.past hb;have xr:=xr.past hb lr;obtain ⟨qr0,qr1,qr2,lr⟩:=bq3 hb lr qr0 qr1 qr2;have hB:=bLt hB hb;clear hb;have lt:w2.heap.size<w3.heap.size:=by omega
 have lk:w2.heap.size+1<w3.heap.size:=by omega
 have lu:w2.heap.size+1+1<w3.heap.size:=by omega
 have lj:w2.heap.size+1+1+1<w3.heap.size:=by omega
 go_wp2_with fail
 with_reducible refine (cpair_zero _).mono ?_
 rintro e w4 ⟨ahZU,nhZU,chZU,ahZD,nhZD,chZD,rfl,hZU,hZD,hb⟩;have hZU:=hZU.mono hB.size;have hZD:=hZD.mono hB.size;have g:=g.past hb;have xr:=xr.past hb lr;obtain ⟨qr0,qr1,qr2,lr⟩:=bq3 hb lr qr0 qr1 qr2;have qt0:=bq hb lt qt0;have lt:=bl hb lt;have qk0:=bq hb lk qk0;have lk:=bl hb lk;have qu0:=bq hb lu qu0;have lu:=bl hb lu;have qj0:=bq hb lj qj0;have xj:=xj.past hb lj;have lj:=bl hb lj;have hB:=bLt hB hb;clear hb
 go_wp2_with fail
 have hsz:=hB.size;have lr2:w.heap.size<w2.heap.size+1+1+1:=by omega
 refine (fold_any w.heap.size 236 _ (u+1-2) 0 (fun i=>inR24 zs k u (2+i)) _ _ _ _ _ _ _ hZU hZD hB.size (w2.heap.size+1+1+1) (some (w2.heap.size+1+1+1)) (by omega) (fun b e=>by cases e;exact lj) ((row1_hands (w2.heap.size+1+1+1) (w2.heap.size+1+1) w2.heap.size (w2.heap.size+1) (w2.heap.size+1+1+1) _ _ _ zs k u 2 _ _ g (HUN.out.imp id fun h x hx=>by have:=h x hx;omega) HOK.out hk hu (by decide) rfl lj (nRf _) (by omega) (by omega) (by omega) qj0 (xj.f 0 (by decide)) qu0 qt0 qk0).weak fun _ _ _ _ _ h=>h.ok) (enters_of Tryz.func236 (by kernel_rfl) rfl) HQ.out HS.out).mono ?_;rintro e w5 ⟨ahAU,nhAU,chAU,ahAD,nhAD,chAD,rfl,hAU,hAD,hb⟩;rw [HR.out] at hAU hAD ⊢;have qr0:=(hb.cell (p:=⟨w.heap.size,0,none⟩) lr2).trans qr0;have qr1:=(hb.cell (p:=⟨w.heap.size,1,none⟩) lr2).trans qr1;have qr2:=(hb.cell (p:=⟨w.heap.size,2,none⟩) lr2).trans qr2;have xr:=xr.low hb lr2;have lr:=nLt lr hb.size;have hB:=hB.trans (hb.mono (by omega));clear hb;have zf0:=xr.f 0 (by decide);have zf1:=xr.f 1 (by decide);have zf2:=xr.f 2 (by decide)
 go_wp2
 obtain ⟨w6,hW,hO,qN0,qN1,qN2,xN⟩:=store3 xr (.bool (neg (R).num)) (.slice ahAU nhAU chAU) (.slice ahAD nhAD chAD) (nu rfl) (nu rfl) (nu rfl);try rw [hW]
 clear hW;have hAU:=hO.own hAU;have hAD:=hO.own hAD;have lr:w.heap.size<w6.heap.size:=by rw [hO.size];exact lr
 have qr0:=qN0;have qr1:=qN1;have qr2:=qN2;have xr:=xN;have hB:=hO.below (by omega) hB;clear hO qN0 qN1 qN2 xN zf0 zf1 zf2;refine bodyPost_ret (v:=.tuple #[.agg #[.bool (neg R.num),.slice ahAU nhAU chAU,.slice ahAD nhAD chAD],.int .i64 0]) ?_ rfl ⟨_,_,_,_,_,_,rfl,hAU,hAD,hB⟩;simp [results,Tryz.f207,go_sem,qr0,qr1,qr2]
end
section
open Go.RowKit Go.Shelf
theorem div24 {p q:Rat} {a1:Option Addr} {n1 c1:Nat} {a2:Option Addr} {n2 c2:Nat} {a3:Option Addr} {n3 c3:Nat} {a4:Option Addr} {n4 c4:Nat} {w:World} (g1:NatAt w a1 n1 c1 (digs p.num.natAbs)) (g2:NatAt w a2 n2 c2 (digs p.den)) (g3:NatAt w a3 n3 c3 (digs q.num.natAbs)) (g4:NatAt w a4 n4 c4 (digs q.den)) (hp:rlen p≤1048576) (hq:rlen q≤1048576) (h0:q≠0) :
 Calls Tryz.prog 209 #[.agg #[.bool (neg p.num),.slice a1 n1 c1,.slice a2 n2 c2],.agg #[.bool (neg q.num),.slice a3 n3 c3,.slice a4 n4 c4]] w (RetOk w (p/q)):=by
 unfold rlen at hp hq;exact div05_rat p q _ _ _ _ _ _ _ _ _ _ _ _ w g1 g2 g3 g4 (by have:=g1.len;omega) (by have:=g2.len;omega) (by have:=g3.len;omega) (by have:=g4.len;omega) h0
def freeR (zs:List Int) (k u:Nat):Rat:=mkRat 2 u*inR24 zs k u 2/cloudR zs k u
theorem in_any2 (a:Option Addr) (n c:Nat) (zs:List Int) (k u:Nat) (w:World) (g:IntsAt w a n c zs) (hok:okT zs (k:Int)) (hk:k≤20) (hu:u≤k) (hj:2≤u) :
 Calls Tryz.prog 203 #[.slice a n c,.int .i64 (k:Int),.int .i64 (u:Int),.int .i64 2] w (RetRat w (inR24 zs k u 2)):=in_any a n c zs k u 2 w g hok hk hu hj
theorem cloud_one {zs:List Int} {k u:Nat} (h:u≤1):cloudR zs k u=0:=by
 unfold cloudR;rw [show u+1-2=0 by omega];rfl
theorem Free_none (a:Option Addr) (n c:Nat) (zs:List Int) (k u:Nat) (w:World) (g:IntsAt w a n c zs) (hok:okT zs (k:Int)) (hk1:1≤k) (hk:k≤20) (hu:u≤k) (hu1:1≤u) (h0:cloudR zs k u=0) :
 Calls Tryz.prog 184 #[.slice a n c,.int .i64 (k:Int),.int .i64 (u:Int)] w (RetOk w 0):=by
 have HOK:=hiD hok;have t0:((u:Int) == 0)=false:=by rw [beq_eq_false_iff_ne];omega
 obtain ⟨C,hC⟩:∃ C,cloudR zs k u=C:=⟨_,rfl⟩;have HC:=hiD (fun w g=>Cloud_ok a n c zs k u w g hok hk1 hk hu);have HCC:=hiD hC;have ll:(digs C.num.natAbs).length≤1:=by rw [← hC,h0];decide
 have HS:=hiD (show C.num.sign=0 by rw [← hC,h0];rfl);have HZ:=hiD (show C=0 by rw [← hC,h0]);clear hok hC h0
 go_enter Tryz.func184,Tryz.ntmps184
 have hB:=bRf w.heap.size w
 go_wp2_with fail
 obtain ⟨w1,hW,hz0,hb,q,f⟩:=box1g w (w.heap.size) (by omega) #[.bool false,.slice none 0 0,.slice none 0 0] 28;rw [hW];clear hW;have g:=g.past hb;have hB:=bLt hB hb;clear hb;have lr:w.heap.size<w1.heap.size:=by omega
 have qr0:=q 0;have qr1:=q 1;have qr2:=q 2;simp only [lgA,lgZ,lgS] at qr0 qr1 qr2;have xr:BoxAt w1 (w.heap.size) 3:=BoxAt.of q f rfl (by simp [notU_bool,notU_slice,notU_i64]);clear q f;clear hz0
 with_reducible refine (HC.out _ g).mono ?_
 rintro e w2 ⟨ahCU,nhCU,chCU,ahCD,nhCD,chCD,rfl,hCU,hCD,hb⟩;have hCU:=hCU.mono hB.size;have hCD:=hCD.mono hB.size;have xr:=xr.past hb lr;obtain ⟨qr0,qr1,qr2,lr⟩:=bq3 hb lr qr0 qr1 qr2;have hB:=bLt hB hb;clear hb;rw [HCC.out] at hCU hCD ⊢
 go_wp2_with fail
 obtain ⟨w3,hW,hz0,hb,q,f⟩:=box1g w2 (w2.heap.size) (by omega) #[.bool (neg (C).num),.slice ahCU nhCU chCU,.slice ahCD nhCD chCD] 28;rw [hW];clear hW;have hCU:=hCU.past hb;have hCD:=hCD.past hb;have xr:=xr.past hb lr;obtain ⟨qr0,qr1,qr2,lr⟩:=bq3 hb lr qr0 qr1 qr2;have hB:=bLt hB hb;clear hb;have lx:w2.heap.size<w3.heap.size:=by omega
 have qx0:=q 0;have qx1:=q 1;have qx2:=q 2;simp only [lgA,lgZ,lgS] at qx0 qx1 qx2;clear q f;clear hz0
 with_reducible refine (sign_c hCU.toNatAt (by have:=hCU.len;omega)).mono ?_
 rintro e w4 ⟨rfl,hb⟩;have hCU:=hCU.past hb;have hCD:=hCD.past hb;have xr:=xr.past hb lr;obtain ⟨qr0,qr1,qr2,lr⟩:=bq3 hb lr qr0 qr1 qr2;obtain ⟨qx0,qx1,qx2,lx⟩:=bq3 hb lx qx0 qx1 qx2;have hB:=bLt hB hb;clear hb;rw [HS.out];have zf0:=xr.f 0 (by decide);have zf1:=xr.f 1 (by decide);have zf2:=xr.f 2 (by decide)
 go_wp2
 obtain ⟨w5,hW,hO,qN0,qN1,qN2,xN⟩:=store3 xr (.bool (neg (C).num)) (.slice ahCU nhCU chCU) (.slice ahCD nhCD chCD) (nu rfl) (nu rfl) (nu rfl);try rw [hW]
 clear hW;have hCU:=hO.own hCU;have hCD:=hO.own hCD;have lr:w.heap.size<w5.heap.size:=by rw [hO.size];exact lr
 have qx0:=(hO.cell (b2:=w2.heap.size) (k:=0) (by omega)).trans qx0;have qx1:=(hO.cell (b2:=w2.heap.size) (k:=1) (by omega)).trans qx1;have qx2:=(hO.cell (b2:=w2.heap.size) (k:=2) (by omega)).trans qx2;have lx:w2.heap.size<w5.heap.size:=by rw [hO.size];exact lx
 have qr0:=qN0;have qr1:=qN1;have qr2:=qN2;have xr:=xN;have hB:=hO.below (by omega) hB;clear hO qN0 qN1 qN2 xN zf0 zf1 zf2;rw [HZ.out] at *;refine bodyPost_ret (v:=.tuple #[.agg #[.bool (neg (0:Rat).num),.slice ahCU nhCU chCU,.slice ahCD nhCD chCD],.int .i64 0]) ?_ rfl ⟨_,_,_,_,_,_,rfl,hCU,hCD,hB⟩;simp [results,Tryz.f184,go_sem,qr0,qr1,qr2]
theorem Free_ok (a:Option Addr) (n c:Nat) (zs:List Int) (k u:Nat) (w:World) (g:IntsAt w a n c zs) (hok:okT zs (k:Int)) (hk1:1≤k) (hk:k≤20) (hu:u≤k) (hu2:2≤u) (h0:cloudR zs k u≠0) :
 Calls Tryz.prog 184 #[.slice a n c,.int .i64 (k:Int),.int .i64 (u:Int)] w (RetOk w (freeR zs k u)):=by
 have hpr:=fun w=>cpair_any 2 u w (by omega) (by omega) (by omega)
 have hin:=fun w g=>in_any2 a n c zs k u w g hok hk hu hu2
 have lp0:rlen (mkRat 2 u)≤1:=rlen_mkRat (by omega) (by decide) (digs_length_le.2 (by simp;omega));have li0:=in_len hok hk hu hu2;have lc0:rlen (cloudR zs k u)≤20000:=cloud_len hok hk hu _ (nRf _);have HOK:=hiD hok;have t0:((u:Int) == 0)=false:=by rw [beq_eq_false_iff_ne];omega
 obtain ⟨C,hC⟩:∃ C,cloudR zs k u=C:=⟨_,rfl⟩;have HC:=hiD (fun w g=>Cloud_ok a n c zs k u w g hok hk1 hk hu);have HCC:=hiD hC;have ll:(digs C.num.natAbs).length≤20000:=by rw [← hC];unfold rlen at lc0;omega
 rw [hC] at h0 lc0;have hns:C.num.sign≠0:=fun h=>h0 (Rat.num_eq_zero.1 (Int.sign_eq_zero_iff_zero.1 h))
 have t1:(C.num.sign == 0)=false:=by rw [beq_eq_false_iff_ne];exact hns
 obtain ⟨S,hS⟩:∃ S,C.num.sign=S:=⟨_,rfl⟩;rw [hS] at t1;have HS:=hiD hS;obtain ⟨P,hP⟩:∃ P,mkRat 2 u=P:=⟨_,rfl⟩;obtain ⟨I,hI⟩:∃ I,inR24 zs k u 2=I:=⟨_,rfl⟩;have hF:freeR zs k u=P*I/C:=by unfold freeR;rw [hP,hI,hC]
 rw [hF];obtain ⟨X,hX⟩:∃ X,P*I=X:=⟨_,rfl⟩;obtain ⟨R,hR⟩:∃ R,X/C=R:=⟨_,rfl⟩;rw [hX,hR];simp only [hP] at hpr;simp only [hI] at hin;rw [hP] at lp0;rw [hI] at li0;have lx0:rlen (P*I)≤rlen P+rlen I+1:=product_short P I;rw [hX] at lx0;have HPR:=hiD hpr;have HIN:=hiD hin;have HX:=hiD hX;have HR:=hiD hR;have LP:=hiD (show rlen P≤1048576 by omega);have LI:=hiD (show rlen I≤1048576 by omega);have LX:=hiD (show rlen X≤1048576 by omega);have LC:=hiD (show rlen C≤1048576 by omega);have H0:=hiD h0;clear hok hC h0 hpr hin lp0 li0 lc0 hns hS hP hI hF hX hR lx0
 go_enter Tryz.func184,Tryz.ntmps184
 have hB:=bRf w.heap.size w
 go_wp2_with fail
 obtain ⟨w1,hW,hz0,hb,q,f⟩:=box1g w (w.heap.size) (by omega) #[.bool false,.slice none 0 0,.slice none 0 0] 28;rw [hW];clear hW;have g:=g.past hb;have hB:=bLt hB hb;clear hb;have lr:w.heap.size<w1.heap.size:=by omega
 have qr0:=q 0;have qr1:=q 1;have qr2:=q 2;simp only [lgA,lgZ,lgS] at qr0 qr1 qr2;have xr:BoxAt w1 (w.heap.size) 3:=BoxAt.of q f rfl (by simp [notU_bool,notU_slice,notU_i64]);clear q f;clear hz0
 with_reducible refine (HC.out _ g).mono ?_
 rintro e w2 ⟨ahCU,nhCU,chCU,ahCD,nhCD,chCD,rfl,hCU,hCD,hb⟩;have hCU:=hCU.mono hB.size;have hCD:=hCD.mono hB.size;have g:=g.past hb;have xr:=xr.past hb lr;obtain ⟨qr0,qr1,qr2,lr⟩:=bq3 hb lr qr0 qr1 qr2;have hB:=bLt hB hb;clear hb;rw [HCC.out] at hCU hCD ⊢
 go_wp2_with fail
 obtain ⟨w3,hW,hz0,hb,q,f⟩:=box1g w2 (w2.heap.size) (by omega) #[.bool (neg (C).num),.slice ahCU nhCU chCU,.slice ahCD nhCD chCD] 28;rw [hW];clear hW;have g:=g.past hb;have hCU:=hCU.past hb;have hCD:=hCD.past hb;have xr:=xr.past hb lr;obtain ⟨qr0,qr1,qr2,lr⟩:=bq3 hb lr qr0 qr1 qr2;have hB:=bLt hB hb;clear hb;have lx:w2.heap.size<w3.heap.size:=by omega
 have qx0:=q 0;have qx1:=q 1;have qx2:=q 2;simp only [lgA,lgZ,lgS] at qx0 qx1 qx2;clear q f;clear hz0
 with_reducible refine (sign_c hCU.toNatAt (by have:=hCU.len;omega)).mono ?_
 rintro e w4 ⟨rfl,hb⟩;have g:=g.past hb;have hCU:=hCU.past hb;have hCD:=hCD.past hb;have xr:=xr.past hb lr;obtain ⟨qr0,qr1,qr2,lr⟩:=bq3 hb lr qr0 qr1 qr2;obtain ⟨qx0,qx1,qx2,lx⟩:=bq3 hb lx qx0 qx1 qx2;have hB:=bLt hB hb;clear hb;rw [HS.out]
 go_wp2_with fail
 with_reducible refine (HPR.out _).mono ?_
 rintro e w5 ⟨ahPU,nhPU,chPU,ahPD,nhPD,chPD,rfl,hPU,hPD,hb⟩;have hPU:=hPU.mono hB.size;have hPD:=hPD.mono hB.size;have g:=g.past hb;have hCU:=hCU.past hb;have hCD:=hCD.past hb;have xr:=xr.past hb lr;obtain ⟨qr0,qr1,qr2,lr⟩:=bq3 hb lr qr0 qr1 qr2;obtain ⟨qx0,qx1,qx2,lx⟩:=bq3 hb lx qx0 qx1 qx2;have hB:=bLt hB hb;clear hb
 go_wp2_with fail
 with_reducible refine (HIN.out _ g).mono ?_
 rintro e w6 ⟨ahIU,nhIU,chIU,ahID,nhID,chID,rfl,hIU,hID,hb⟩;have hIU:=hIU.mono hB.size;have hID:=hID.mono hB.size;have hCU:=hCU.past hb;have hCD:=hCD.past hb;have hPU:=hPU.past hb;have hPD:=hPD.past hb;have xr:=xr.past hb lr;obtain ⟨qr0,qr1,qr2,lr⟩:=bq3 hb lr qr0 qr1 qr2;obtain ⟨qx0,qx1,qx2,lx⟩:=bq3 hb lx qx0 qx1 qx2;have hB:=bLt hB hb;clear hb
 go_wp2_with fail
 obtain ⟨w7,hW,hz0,hb,q,f⟩:=box1g w6 (w6.heap.size) (by omega) #[.bool (neg (P).num),.slice ahPU nhPU chPU,.slice ahPD nhPD chPD,.bool (neg (I).num),.slice ahIU nhIU chIU,.slice ahID nhID chID] 28;rw [hW];clear hW;have hCU:=hCU.past hb;have hCD:=hCD.past hb;have hPU:=hPU.past hb;have hPD:=hPD.past hb;have hIU:=hIU.past hb;have hID:=hID.past hb;have xr:=xr.past hb lr;obtain ⟨qr0,qr1,qr2,lr⟩:=bq3 hb lr qr0 qr1 qr2;obtain ⟨qx0,qx1,qx2,lx⟩:=bq3 hb lx qx0 qx1 qx2;have hB:=bLt hB hb;clear hb;have lv:w6.heap.size<w7.heap.size:=by omega
 have qv0:=q 0;have qv1:=q 1;have qv2:=q 2;have qv3:=q 3;have qv4:=q 4;have qv5:=q 5;simp only [lgA,lgZ,lgS] at qv0 qv1 qv2 qv3 qv4 qv5;clear q f;clear hz0
 with_reducible refine (mul_two (RatsAt.two lv qv0 qv1 qv2 qv3 qv4 qv5 hPU.toNatAt hPD.toNatAt hIU.toNatAt hID.toNatAt) LP.out LI.out).mono ?_
 rintro e w8 ⟨ahXU,nhXU,chXU,ahXD,nhXD,chXD,rfl,hXU,hXD,hb⟩;have hXU:=hXU.mono hB.size;have hXD:=hXD.mono hB.size;have hCU:=hCU.past hb;have hCD:=hCD.past hb;have xr:=xr.past hb lr;obtain ⟨qr0,qr1,qr2,lr⟩:=bq3 hb lr qr0 qr1 qr2;obtain ⟨qx0,qx1,qx2,lx⟩:=bq3 hb lx qx0 qx1 qx2;have qv0:=bq hb lv qv0;have qv1:=bq hb lv qv1;have qv2:=bq hb lv qv2;have qv3:=bq hb lv qv3;have qv4:=bq hb lv qv4;have qv5:=bq hb lv qv5;have lv:=bl hb lv;have hB:=bLt hB hb;clear hb;rw [HX.out] at hXU hXD ⊢
 go_wp2_with fail
 obtain ⟨w9,hW,hz0,hb,q,f⟩:=box1g w8 (w8.heap.size) (by omega) #[.bool (neg (X).num),.slice ahXU nhXU chXU,.slice ahXD nhXD chXD] 28;rw [hW];clear hW;have hCU:=hCU.past hb;have hCD:=hCD.past hb;have hXU:=hXU.past hb;have hXD:=hXD.past hb;have xr:=xr.past hb lr;obtain ⟨qr0,qr1,qr2,lr⟩:=bq3 hb lr qr0 qr1 qr2;obtain ⟨qx0,qx1,qx2,lx⟩:=bq3 hb lx qx0 qx1 qx2;have hB:=bLt hB hb;clear hb;have ly:w8.heap.size<w9.heap.size:=by omega
 have qy0:=q 0;have qy1:=q 1;have qy2:=q 2;simp only [lgA,lgZ,lgS] at qy0 qy1 qy2;clear q f;clear hz0
 with_reducible refine (div24 hXU.toNatAt hXD.toNatAt hCU.toNatAt hCD.toNatAt LX.out LC.out H0.out).mono ?_
 rintro e w10 ⟨ahAU,nhAU,chAU,ahAD,nhAD,chAD,rfl,hAU,hAD,hb⟩;have hAU:=hAU.mono hB.size;have hAD:=hAD.mono hB.size;have hCU:=hCU.past hb;have hCD:=hCD.past hb;have hXU:=hXU.past hb;have hXD:=hXD.past hb;have xr:=xr.past hb lr;obtain ⟨qr0,qr1,qr2,lr⟩:=bq3 hb lr qr0 qr1 qr2;obtain ⟨qx0,qx1,qx2,lx⟩:=bq3 hb lx qx0 qx1 qx2;obtain ⟨qy0,qy1,qy2,ly⟩:=bq3 hb ly qy0 qy1 qy2;have hB:=bLt hB hb;clear hb;rw [HR.out] at hAU hAD ⊢;have zf0:=xr.f 0 (by decide);have zf1:=xr.f 1 (by decide);have zf2:=xr.f 2 (by decide)
 go_wp2
 obtain ⟨w11,hW,hO,qN0,qN1,qN2,xN⟩:=store3 xr (.bool (neg (R).num)) (.slice ahAU nhAU chAU) (.slice ahAD nhAD chAD) (nu rfl) (nu rfl) (nu rfl);try rw [hW]
 clear hW;have hCU:=hO.own hCU;have hCD:=hO.own hCD;have hXU:=hO.own hXU;have hXD:=hO.own hXD;have hAU:=hO.own hAU;have hAD:=hO.own hAD;have lr:w.heap.size<w11.heap.size:=by rw [hO.size];exact lr
 have qx0:=(hO.cell (b2:=w2.heap.size) (k:=0) (by omega)).trans qx0;have qx1:=(hO.cell (b2:=w2.heap.size) (k:=1) (by omega)).trans qx1;have qx2:=(hO.cell (b2:=w2.heap.size) (k:=2) (by omega)).trans qx2;have lx:w2.heap.size<w11.heap.size:=by rw [hO.size];exact lx
 have qy0:=(hO.cell (b2:=w8.heap.size) (k:=0) (by omega)).trans qy0;have qy1:=(hO.cell (b2:=w8.heap.size) (k:=1) (by omega)).trans qy1;have qy2:=(hO.cell (b2:=w8.heap.size) (k:=2) (by omega)).trans qy2;have ly:w8.heap.size<w11.heap.size:=by rw [hO.size];exact ly
 have qr0:=qN0;have qr1:=qN1;have qr2:=qN2;have xr:=xN;have hB:=hO.below (by omega) hB;clear hO qN0 qN1 qN2 xN zf0 zf1 zf2;refine bodyPost_ret (v:=.tuple #[.agg #[.bool (neg R.num),.slice ahAU nhAU chAU,.slice ahAD nhAD chAD],.int .i64 0]) ?_ rfl ⟨_,_,_,_,_,_,rfl,hAU,hAD,hB⟩;simp [results,Tryz.f184,go_sem,qr0,qr1,qr2]
end
def shareQ (p:Rat) (many so:Nat):Rat:=(ch many so:Rat)*p ^ so*(1-p) ^ (many-so)
def firstG (p:Rat) (n:Nat):List Rat:=(List.range (n+1)).foldl (fun g r=>g.set ((n-r)*(n+1)+r) (shareQ p n r)) (List.replicate ((n+1)*(n+1)) 0)
def handG (free same:Rat) (n:Nat) (mass:Rat) (c r:Nat) (out:List Rat):List Rat :=
 if r=0∨mass=0 then out else
 (List.range (c + 1)).foldl (fun out a =>
   if shareQ free c a=0 then out else
   (List.range r).foldl (fun out b=>out.set ((c-a)*(n+1)+(r-1-b+a)) (out.getD ((c-a)*(n+1)+(r-1-b+a)) 0+mass*shareQ free c a*shareQ same (r-1) b)) out) out
def nextG (free same:Rat) (n:Nat) (g:List Rat):List Rat :=
 (List.range ((n+1)*(n+1))).foldl (fun out i=>handG free same n (g.getD i 0) (i/(n+1)) (i % (n+1)) out) (List.replicate ((n+1)*(n+1)) 0)
def levelG (zs:List Int) (k n:Nat):Nat→List Rat
 | 0=>firstG (inR24 zs k k 1) n
 | i+1=>nextG (freeR zs k (k-i)) (mkRat 1 (k-i)) n (levelG zs k n i)
def stuckG (n u:Nat) (g:List Rat):Rat:=(List.range ((n+1)*(n+1))).foldl (fun q i=>if u=0∨i % (n+1)=0 then q+g.getD i 0 else q) 0
def stuckR (zs:List Int) (k n u:Nat):Rat:=stuckG n u (levelG zs k n (k-u))
def failR (zs:List Int) (k n:Nat):Rat:=(List.range k).foldl (fun q i=>q+stuckR zs k n (1+i)) 0
theorem fail_two:failR [1,1] 2 0=1∧failR [1,1] 2 1=1∧failR [1,1] 2 2=mkRat 3 8:=by decide +kernel
theorem fail_one:failR [1] 1 0=1∧failR [1] 1 1=0:=by decide +kernel
theorem getD_set {L:List Rat} {k i:Nat} {q:Rat} (hk:k<L.length):(L.set k q).getD i 0=if i=k then q else L.getD i 0:=by
 rw [List.getD_eq_getElem?_getD,List.getD_eq_getElem?_getD]
 by_cases e:i=k
 · subst e;rw [if_pos rfl,List.getElem?_set_self hk];rfl
 rw [if_neg e,List.getElem?_set_ne (fun h=>e h.symm)]
theorem getD_rep {m i:Nat}:(List.replicate m (0:Rat)).getD i 0=0:=by
 rw [List.getD_eq_getElem?_getD,List.getElem?_replicate]
 split<;>rfl
def firstL (p:Rat) (n r:Nat):List Rat:=(List.range r).foldl (fun g r=>g.set ((n-r)*(n+1)+r) (shareQ p n r)) (List.replicate ((n+1)*(n+1)) 0)
theorem firstL_zero (p:Rat) (n:Nat):firstL p n 0=List.replicate ((n+1)*(n+1)) 0:=rfl
theorem firstL_succ (p:Rat) (n r:Nat):firstL p n (r+1)=(firstL p n r).set ((n-r)*(n+1)+r) (shareQ p n r):=by
 unfold firstL;rw [List.range_succ,List.foldl_append];rfl
theorem firstL_len (p:Rat) (n:Nat):∀ r,(firstL p n r).length=(n+1)*(n+1)
 | 0=>by rw [firstL_zero,List.length_replicate]
 | r+1=>by rw [firstL_succ,List.length_set,firstL_len p n r]
theorem firstL_all (p:Rat) (n:Nat):firstL p n (n+1)=firstG p n:=rfl
theorem place_lt {n i k:Nat} (hi:i≤n) (hk:k≤n):i*(n+1)+k<(n+1)*(n+1):=by
 have h1:i*(n+1)≤n*(n+1):=Nat.mul_le_mul_right _ hi;have h2:(n+1)*(n+1)=n*(n+1)+(n+1):=Nat.succ_mul _ _;omega
def stepB (same m q:Rat) (n c r a b:Nat) (out:List Rat):List Rat:=out.set ((c-a)*(n+1)+(r-1-b+a)) (out.getD ((c-a)*(n+1)+(r-1-b+a)) 0+m*q*shareQ same (r-1) b)
def rowB (same m q:Rat) (n c r a b:Nat) (out:List Rat):List Rat:=(List.range b).foldl (fun out b=>stepB same m q n c r a b out) out
def stepA (free same m:Rat) (n c r a:Nat) (out:List Rat):List Rat:=if shareQ free c a=0 then out else rowB same m (shareQ free c a) n c r a r out
def rowA (free same m:Rat) (n c r a:Nat) (out:List Rat):List Rat:=(List.range a).foldl (fun out a=>stepA free same m n c r a out) out
def stepPl (free same:Rat) (n:Nat) (g:List Rat) (i:Nat) (out:List Rat):List Rat :=
 if i % (n+1)=0∨g.getD i 0=0 then out else rowA free same (g.getD i 0) n (i/(n+1)) (i % (n+1)) (i/(n+1)+1) out
def nextL (free same:Rat) (n:Nat) (g:List Rat) (i:Nat):List Rat:=(List.range i).foldl (fun out i=>stepPl free same n g i out) (List.replicate ((n+1)*(n+1)) 0)
theorem nextL_all (free same:Rat) (n:Nat) (g:List Rat):nextL free same n g ((n+1)*(n+1))=nextG free same n g:=rfl
theorem rowB_succ (same m q:Rat) (n c r a b:Nat) (out:List Rat):rowB same m q n c r a (b+1) out=stepB same m q n c r a b (rowB same m q n c r a b out):=by
 unfold rowB;rw [List.range_succ,List.foldl_append];rfl
theorem rowA_succ (free same m:Rat) (n c r a:Nat) (out:List Rat):rowA free same m n c r (a+1) out=stepA free same m n c r a (rowA free same m n c r a out):=by
 unfold rowA;rw [List.range_succ,List.foldl_append];rfl
theorem nextL_succ (free same:Rat) (n:Nat) (g:List Rat) (i:Nat):nextL free same n g (i+1)=stepPl free same n g i (nextL free same n g i):=by
 unfold nextL;rw [List.range_succ,List.foldl_append];rfl
theorem rowB_len (same m q:Rat) (n c r a:Nat) (out:List Rat):∀ b,(rowB same m q n c r a b out).length=out.length
 | 0=>rfl
 | b+1=>by rw [rowB_succ,stepB,List.length_set,rowB_len same m q n c r a out b]
theorem stepA_len (free same m:Rat) (n c r a:Nat) (out:List Rat):(stepA free same m n c r a out).length=out.length:=by
 unfold stepA;split
 · rfl
 exact rowB_len _ _ _ _ _ _ _ _ _
theorem rowA_len (free same m:Rat) (n c r:Nat) (out:List Rat):∀ a,(rowA free same m n c r a out).length=out.length
 | 0=>rfl
 | a+1=>by rw [rowA_succ,stepA_len,rowA_len free same m n c r out a]
theorem stepPl_len (free same:Rat) (n:Nat) (g:List Rat) (i:Nat) (out:List Rat):(stepPl free same n g i out).length=out.length:=by
 unfold stepPl;split
 · rfl
 exact rowA_len _ _ _ _ _ _ _ _
theorem nextL_len (free same:Rat) (n:Nat) (g:List Rat):∀ i,(nextL free same n g i).length=(n+1)*(n+1)
 | 0=>List.length_replicate
 | i+1=>by rw [nextL_succ,stepPl_len,nextL_len free same n g i]
def stuckL (n u:Nat) (g:List Rat) (i:Nat):Rat:=(List.range i).foldl (fun q i=>if u=0∨i % (n+1)=0 then q+g.getD i 0 else q) 0
theorem stuckL_succ (n u:Nat) (g:List Rat) (i:Nat):stuckL n u g (i+1)=if u=0∨i % (n+1)=0 then stuckL n u g i+g.getD i 0 else stuckL n u g i:=by
 unfold stuckL;rw [List.range_succ,List.foldl_append];rfl
def Good (M A:Nat) (L:List Rat):Prop:=∀ i,Fit M A (L.getD i 0)
theorem Good.weak {M A B:Nat} {L:List Rat} (h:Good M A L) (hab:A≤B):Good M B L:=fun i=>(h i).weak hab
theorem Good.zero (M m:Nat):Good M 0 (List.replicate m 0):=fun i=>by rw [getD_rep];exact Fit.zero M
theorem Good.set {M A K:Nat} {L:List Rat} {q:Rat} (h:Good M A L) (hq:Fit M A q):Good M A (L.set K q):=by
 intro i
 by_cases hK:K<L.length
 · rw [getD_set hK]
   split
   · exact hq
   exact h i
 rw [List.set_eq_of_length_le (by omega)];exact h i
theorem stepB_good {M X T:Nat} {same m q:Rat} {n c r a b:Nat} {out:List Rat} (h:Good M X out) (ht:Fit M T (m*q*shareQ same (r-1) b)):Good M (X+T) (stepB same m q n c r a b out):=by
 unfold stepB;exact (h.weak (Nat.le_add_right X T)).set ((h _).add ht)
theorem rowB_good {M X T:Nat} {same m q:Rat} {n c r a:Nat} {out:List Rat} (h:Good M X out) (ht:∀ b,b<r→Fit M T (m*q*shareQ same (r-1) b)):∀ b,b≤r→Good M (X+b*T) (rowB same m q n c r a b out)
 | 0,_=>by rw [Nat.zero_mul];exact h
 | b + 1, hb => by
   rw [rowB_succ,Nat.succ_mul,← Nat.add_assoc];exact stepB_good (rowB_good h ht b (by omega)) (ht b (by omega))
theorem rowA_good {M X T:Nat} {free same m:Rat} {n c r:Nat} {out:List Rat} (h:Good M X out) (ht:∀ a b,a≤c→b<r→Fit M T (m*shareQ free c a*shareQ same (r-1) b)):∀ a,a≤c+1→Good M (X+a*(r*T)) (rowA free same m n c r a out)
 | 0,_=>by rw [Nat.zero_mul];exact h
 | a + 1, ha => by
   have h1:=rowA_good (n:=n) h ht a (by omega);rw [rowA_succ,stepA,Nat.succ_mul,← Nat.add_assoc]
   split
   · exact h1.weak (Nat.le_add_right _ _)
   exact rowB_good h1 (fun b hb=>ht a b (by omega) hb) r (nRf _)
def TermOk (M T:Nat) (free same:Rat) (n:Nat) (g:List Rat):Prop:=∀ i a b,i<(n+1)*(n+1)→a≤i/(n+1)→b<i % (n+1)→Fit M T (g.getD i 0*shareQ free (i/(n+1)) a*shareQ same (i % (n+1)-1) b)
theorem div_le' {n i:Nat} (h:i<(n+1)*(n+1)):i/(n+1)≤n∧i % (n+1)≤n:=by
 have h1:i/(n+1)<n+1:=Nat.div_lt_of_lt_mul h;have h2:i % (n+1)<n+1:=Nat.mod_lt _ (Nat.succ_pos n);omega
theorem nextL_good {M T:Nat} {free same:Rat} {n:Nat} {g:List Rat} (ht:TermOk M T free same n g):∀ i,i≤(n+1)*(n+1)→Good M (i*((n+1)*(n*T))) (nextL free same n g i)
 | 0,_=>by rw [Nat.zero_mul];exact Good.zero M _
 | i + 1, hi => by
   have h1:=nextL_good ht i (by omega);obtain ⟨hd,hmd⟩:=div_le' (n:=n) (i:=i) (by omega);rw [nextL_succ,stepPl,Nat.succ_mul]
   split
   · exact h1.weak (Nat.le_add_right _ _)
   refine (rowA_good h1 (fun a b ha hb=>ht i a b (by omega) ha hb) _ (nRf _)).weak (Nat.add_le_add_left ?_ _);exact Nat.mul_le_mul (by omega) (Nat.mul_le_mul hmd (nRf T))
theorem part_good {M T:Nat} {free same:Rat} {n:Nat} {g:List Rat} (ht:TermOk M T free same n g) {i a b:Nat} (hi:i<(n+1)*(n+1)) (ha:a≤i/(n+1)) (hb:b≤i % (n+1)) :
 Good M ((n+1)*(n+1)*((n+1)*(n*T))) (rowB same (g.getD i 0) (shareQ free (i/(n+1)) a) n (i/(n+1)) (i % (n+1)) a b (rowA free same (g.getD i 0) n (i/(n+1)) (i % (n+1)) a (nextL free same n g i))):=by
 have h1:=nextL_good ht i (by omega);have h2:=rowA_good (n:=n) h1 (fun a b ha hb=>ht i a b hi ha hb) a (by omega);have h3:=rowB_good (n:=n) (c:=i/(n+1)) (a:=a) h2 (fun b hb=>ht i a b hi ha hb) b hb;obtain ⟨hd,hmd⟩:=div_le' hi;refine h3.weak ?_;have h4:b*T≤(i % (n+1))*T:=Nat.mul_le_mul_right T hb;have h5:a*(i % (n+1)*T)+i % (n+1)*T=(a+1)*(i % (n+1)*T):=(Nat.succ_mul _ _).symm;have h6:(a+1)*(i % (n+1)*T)≤(n+1)*(n*T):=Nat.mul_le_mul (by omega) (Nat.mul_le_mul hmd (nRf T));have h7:i*((n+1)*(n*T))+(n+1)*(n*T)=(i+1)*((n+1)*(n*T)):=(Nat.succ_mul _ _).symm;have h8:(i+1)*((n+1)*(n*T))≤(n+1)*(n+1)*((n+1)*(n*T)):=Nat.mul_le_mul_right _ (by omega);omega
theorem Fit.one_sub {M A:Nat} {x:Rat} (h:Fit M A x):Fit M (A+1) (1-x):=by
 obtain ⟨z,e,l⟩:=h;refine ⟨(M:Int)-z,?_,?_⟩
 · rw [Rat.intCast_sub,Rat.intCast_natCast,← e]
   grind
 rw [Nat.add_mul];omega
theorem Fit.cast {M N A B:Nat} {x:Rat} (h:Fit M A x) (e1:M=N) (e2:A≤B):Fit N B x:=by
 subst e1;exact h.weak e2
theorem share_fit {D P n c a C:Nat} {p:Rat} (h:Fit D P p) (hc:c≤n) (ha:a≤c) (hC:ch c a≤C):Fit (D ^ n) (C*(P+1) ^ n) (shareQ p c a):=by
 unfold shareQ;have h1:=(h.weak (Nat.le_succ P)).pow a;have h2:=h.one_sub.pow (c-a);have h3:=((Fit.nat (ch c a)).mul h1).mul h2;have h4:=h3.wide (D ^ (n-c));refine h4.cast ?_ ?_
 · rw [Nat.one_mul,← Nat.pow_add,← Nat.pow_add]
   congr 1
   omega
 rw [Nat.mul_assoc,← Nat.pow_add,show a+(c-a)=c by omega];exact Nat.mul_le_mul hC (Nat.pow_le_pow_right (Nat.succ_pos P) hc)
theorem firstL_good {D P n C:Nat} {p:Rat} (h:Fit D P p) (hC:∀ r,r≤n→ch n r≤C):∀ r,r≤n+1→Good (D ^ n) (C*(P+1) ^ n) (firstL p n r)
 | 0,_=>(Good.zero _ _).weak (Nat.zero_le _)
 | r + 1, hr => by
   rw [firstL_succ];exact (firstL_good h hC r (by omega)).set (share_fit h (nRf n) (by omega) (hC r (by omega)))
theorem term_ok {M A Df Pf Ds Ps n C:Nat} {free same:Rat} {g:List Rat} (hg:Good M A g) (hf:Fit Df Pf free) (hs:Fit Ds Ps same) (hC:∀ c,c≤n→∀ a,a≤c→ch c a≤C) :
 TermOk (M*Df ^ n*Ds ^ n) (A*(C*(Pf+1) ^ n)*(C*(Ps+1) ^ n)) free same n g:=by
 intro i a b hi ha hb;obtain ⟨hd,hm⟩:=div_le' hi;exact ((hg i).mul (share_fit hf hd ha (hC _ hd a ha))).mul (share_fit hs (by omega) (by omega) (hC _ (by omega) b (by omega)))
theorem ch_small:∀ n,n≤3→∀ a,a≤n→ch n a≤3:=by decide
def Tri (n:Nat) (L:List Rat):Prop:=∀ i,L.getD i 0≠0→i/(n+1)+i % (n+1)≤n
theorem place_div {n i k:Nat} (hk:k≤n):(i*(n+1)+k)/(n+1)=i∧(i*(n+1)+k) % (n+1)=k:=by
 have h1:i*(n+1)+k=k+(n+1)*i:=by rw [Nat.mul_comm i,Nat.add_comm]
 rw [h1];exact ⟨by rw [Nat.add_mul_div_left _ _ (Nat.succ_pos n),Nat.div_eq_of_lt (by omega),Nat.zero_add],by rw [Nat.add_mul_mod_self_left,Nat.mod_eq_of_lt (by omega)]⟩
theorem Tri.set {n K:Nat} {L:List Rat} {q:Rat} (h:Tri n L) (hK:K/(n+1)+K % (n+1)≤n):Tri n (L.set K q):=by
 intro i hi
 by_cases e:i=K
 · subst e;exact hK
 refine h i (fun h0=>hi ?_);rw [List.getD_eq_getElem?_getD] at h0 ⊢;rw [List.getElem?_set_ne (fun h=>e h.symm)];exact h0
theorem Tri.zero (n m:Nat):Tri n (List.replicate m 0):=fun i h=>absurd getD_rep h
theorem firstL_tri (p:Rat) (n:Nat):∀ r,r≤n+1→Tri n (firstL p n r)
 | 0,_=>Tri.zero _ _
 | r + 1, hr => by
   rw [firstL_succ];refine (firstL_tri p n r (by omega)).set ?_;obtain ⟨h1,h2⟩:=place_div (n:=n) (i:=n-r) (k:=r) (by omega);rw [h1,h2];omega
theorem firstG_tri (p:Rat) (n:Nat):Tri n (firstG p n):=firstL_tri p n (n+1) (nRf _)
theorem stepB_tri {same m q:Rat} {n c r a b:Nat} {out:List Rat} (h:Tri n out) (hcr:c+r≤n) (ha:a≤c) (hb:b<r):Tri n (stepB same m q n c r a b out):=by
 unfold stepB;refine h.set ?_;obtain ⟨h1,h2⟩:=place_div (n:=n) (i:=c-a) (k:=r-1-b+a) (by omega);rw [h1,h2];omega
theorem rowB_tri {same m q:Rat} {n c r a:Nat} {out:List Rat} (h:Tri n out) (hcr:c+r≤n) (ha:a≤c):∀ b,b≤r→Tri n (rowB same m q n c r a b out)
 | 0,_=>h
 | b + 1, hb => by
   rw [rowB_succ];exact stepB_tri (rowB_tri h hcr ha b (by omega)) hcr ha (by omega)
theorem rowA_tri {free same m:Rat} {n c r:Nat} {out:List Rat} (h:Tri n out) (hcr:c+r≤n):∀ a,a≤c+1→Tri n (rowA free same m n c r a out)
 | 0,_=>h
 | a + 1, ha => by
   rw [rowA_succ,stepA];have h1:=rowA_tri (free:=free) (same:=same) (m:=m) h hcr a (by omega)
   split
   · exact h1
   exact rowB_tri h1 hcr (by omega) r (nRf _)
theorem nextL_tri {free same:Rat} {n:Nat} {g:List Rat} (hg:Tri n g):∀ i,Tri n (nextL free same n g i)
 | 0=>Tri.zero _ _
 | i + 1 => by
   rw [nextL_succ,stepPl]
   split
   · exact nextL_tri hg i
   rename_i hne;exact rowA_tri (nextL_tri hg i) (hg i (fun h0=>hne (.inr h0))) _ (nRf _)
theorem nextG_tri {free same:Rat} {n:Nat} {g:List Rat} (hg:Tri n g):Tri n (nextG free same n g):=nextL_tri hg _
theorem levelG_tri (zs:List Int) (k n:Nat):∀ i,Tri n (levelG zs k n i)
 | 0=>firstG_tri _ _
 | i+1=>nextG_tri (levelG_tri zs k n i)
theorem len_pow (A:Nat):∀ n,(digs (A ^ n)).length≤n*(digs A).length+1
 | 0 => by
   rw [Nat.pow_zero,Nat.zero_mul]
   decide
 | n + 1 => by
   rw [Nat.pow_succ,Nat.succ_mul];have h1:=len_pow A n;have h2:=digs_len_prod (A ^ n) A;omega
theorem Fit.short {M A K L:Nat} {x:Rat} (hM:M≠0) (h:Fit M A x) (h1:(digs A).length≤K) (h2:(digs M).length≤L):rlen x≤K+L:=by
 have h3:=digs_len_prod A M;exact h.len hM (by omega) (by omega)
theorem rlen_one_sub {p:Rat} {K:Nat} (h:rlen p≤K):rlen (1-p)≤K+2:=by
 rw [Rat.sub_eq_add_neg];have h1:rlen (1 + -p)≤rlen 1+rlen (-p)+1:=sum_short _ _;have h2:rlen (1:Rat)=1:=by decide
 rw [rlen_neg] at h1;omega
theorem rlen_pows {p:Rat} {K j n:Nat} (h:rlen p≤K) (hj:j≤n):rlen (p ^ j)≤n*K+1:=by
 have h1:=rlen_pow p j;have h2:j*rlen p≤n*K:=Nat.mul_le_mul hj h;omega
theorem rlen_share {p:Rat} {K n c a:Nat} (h:rlen p≤K) (hc:c≤n) (ha:a≤c) (hn:n≤3):rlen (shareQ p c a)≤1+(n*K+1)+1+(n*(K+2)+1)+1:=by
 unfold shareQ;have h1:=rlen_pows (p:=p) h (show a≤n by omega);have h2:=rlen_pows (p:=1-p) (rlen_one_sub h) (show c-a≤n by omega)
 have h3:rlen ((ch c a:Nat):Rat)≤1:=by
  have h4:=ch_small c (by omega) a ha;have h5:=rlen_mkRat (z:=((ch c a:Nat):Int)) (d:=1) (L:=1) (by decide) (by rw [Int.natAbs_natCast];exact digs_length_le.2 (by simp;omega)) (by decide);rw [Rat.mkRat_one] at h5;exact h5
 have h6:rlen ((ch c a:Nat)*p ^ a)≤rlen ((ch c a:Nat):Rat)+rlen (p ^ a)+1:=product_short _ _;have h7:rlen ((ch c a:Nat)*p ^ a*(1-p) ^ (c-a))≤rlen ((ch c a:Nat)*p ^ a)+rlen ((1-p) ^ (c-a))+1:=product_short _ _;omega
section
open Go.RowKit
theorem foldR_sum (q:Nat→Rat):∀ n,foldR (· + ·) 0 (fun i=>partsOf (q i)) n=sumQ 0 q n
 | 0=>rfl
 | n + 1 => by
   have h:=foldR_sum q n;simp only [foldR] at h ⊢;rw [h,ratOf_parts];rfl
theorem add_rats {w:World} {a:Option Addr} {n c:Nat} {q:Nat→Rat} (K:Nat) (gr:RatsAt w a n c (fun i=>partsOf (q i))) (hK:∀ i,i<n→rlen (q i)≤K) (h1:1≤K) (h2:K+n*(K+1)≤17179869184):Calls Tryz.prog 63 #[.slice a n c] w (RetOk w (sumQ 0 q n)):=by
 have h:=add05_any a n c _ K w gr h1 (fun i hi=>rlen_parts _ (hK i hi)) h2
 have e:foldA (· + ·) 0 (fun i=>partsOf (q i)) n = .ok (sumQ 0 q n):=by
  unfold foldA;rw [if_pos (allR_iff.2 fun _ _=>chk3_parts _),foldR_sum]
 rw [e] at h;exact h.mono fun e w' h=>h.ok
section
variable {zs:List Int} {k u:Nat}
end
end
section
open Go.RowKit
def fewT (a b k:Nat):List Int:=if k=2∧0<b then [((Nat.max 1 b+a:Nat):Int),(b:Int)] else [((Nat.max 1 b+a:Nat):Int)]
def leastB (zs:List Int) (k:Nat) (E:Rat) (N:Nat):Bool :=
 decide (okT zs (k:Int)) && decide (1≤N) && decide (N≤3) && decide (failR zs k N≤E) && (List.range N).all (fun i=>decide (E<failR zs k i)) && (List.range (N+1)).all (fun i=>decide (rlen (failR zs k i)≤4))
def leastN (zs:List Int) (k:Nat) (E:Rat):Nat:=if failR zs k 1≤E then 1 else if failR zs k 2≤E then 2 else 3
theorem few_1:∀ a,a<4→∀ b,b<4→∀ e,e<3→leastB (fewT a b 1) 1 (mkRat ((e+1:Nat):Int) 4) (leastN (fewT a b 1) 1 (mkRat ((e+1:Nat):Int) 4))=true:=by decide +kernel
theorem few_2:∀ a,a<4→∀ b,b<4→∀ e,e<3→leastB (fewT a b 2) 2 (mkRat ((e+1:Nat):Int) 4) (leastN (fewT a b 2) 2 (mkRat ((e+1:Nat):Int) 4))=true:=by decide +kernel
end
end Go.Proofs.YtkhcblihbalnbaaGreat
