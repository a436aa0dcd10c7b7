import Derived.Test.YtkhcblihbalnbaaGreatS0Pk
import Derived.Test.YtkhcblihbalnbaaGreatSigned2Pk
import Derived.Test.YtkhcblihbalnbaaGreatRegPk
set_option linter.unusedVariables false
set_option linter.unusedSimpArgs false
set_option maxHeartbeats 4000000
set_option maxRecDepth 100000
namespace Go.Proofs.YtkhcblihbalnbaaGreat
section
open Go.RowKit
def eqR (b:Bool) (l l2:List Nat) (b3:Bool) (l3 l4:List Nat):Bool:=decide (b=b3∧l=l3∧l2=l4)
theorem sameRatio_any (b:Bool) (a:Option Addr) (n c:Nat) (l:List Nat) (a2:Option Addr) (n2 c2:Nat) (l2:List Nat) (b3:Bool) (a3:Option Addr) (n3 c3:Nat) (l3:List Nat) (a4:Option Addr) (n4 c4:Nat) (l4:List Nat) (w:World) (g1:NatAt w a n c l) (g2:NatAt w a2 n2 c2 l2) (g3:NatAt w a3 n3 c3 l3) (g4:NatAt w a4 n4 c4 l4) :
 Calls Tryz.prog 15 #[.agg #[.bool b,.slice a n c,.slice a2 n2 c2],.agg #[.bool b3,.slice a3 n3 c3,.slice a4 n4 c4]] w (RetVal w (.bool (eqR b l l2 b3 l3 l4))):=by
 by_cases hb:b=b3
 · by_cases hl:l=l3
   · subst hb hl;have e:eqR b l l2 b l l4=eqL l2 l4:=by unfold eqR eqL;simp
     rw [e];clear e
     go_enter Tryz.func15,Tryz.ntmps15
     have hB:=bRf w.heap.size w
     go_wp2_with fail
     obtain ⟨w1,hW,hz0,hb,q,f⟩:=box1g w (w.heap.size) (by omega) #[.bool b,.slice a n c,.slice a2 n2 c2] 28;rw [hW];clear hW;have g1:=g1.past hb;have g2:=g2.past hb;have g3:=g3.past hb;have g4:=g4.past hb;have hB:=bLt hB hb;clear hb;have lx:w.heap.size<w1.heap.size:=by omega
     have qx0:=q 0;have qx1:=q 1;have qx2:=q 2;simp only [lgA,lgZ,lgS] at qx0 qx1 qx2;clear q f;obtain ⟨w2,hW,hz1,hb,q,f⟩:=box1g w1 (w.heap.size+1) (by omega) #[.bool b,.slice a3 n3 c3,.slice a4 n4 c4] 28;rw [hW];clear hW;have g1:=g1.past hb;have g2:=g2.past hb;have g3:=g3.past hb;have g4:=g4.past hb;obtain ⟨qx0,qx1,qx2,lx⟩:=bq3 hb lx qx0 qx1 qx2;have hB:=bLt hB hb;clear hb;have ly:w.heap.size+1<w2.heap.size:=by omega
     have qy0:=q 0;have qy1:=q 1;have qy2:=q 2;simp only [lgA,lgZ,lgS] at qy0 qy1 qy2;clear q f;clear hz0;clear hz1
     with_reducible refine (sameWhole_yes g1 g3).mono ?_
     rintro e w3 ⟨rfl,hb⟩;have g1:=g1.past hb;have g2:=g2.past hb;have g3:=g3.past hb;have g4:=g4.past hb;obtain ⟨qx0,qx1,qx2,lx⟩:=bq3 hb lx qx0 qx1 qx2;obtain ⟨qy0,qy1,qy2,ly⟩:=bq3 hb ly qy0 qy1 qy2;have hB:=bLt hB hb;clear hb
     go_wp2_with fail
     with_reducible refine (sameNat_below g2 g4).mono ?_
     rintro e w4 ⟨rfl,hb⟩;have g1:=g1.past hb;have g3:=g3.past hb;obtain ⟨qx0,qx1,qx2,lx⟩:=bq3 hb lx qx0 qx1 qx2;obtain ⟨qy0,qy1,qy2,ly⟩:=bq3 hb ly qy0 qy1 qy2;have hB:=bLt hB hb;clear hb
     go_wp2
     go_ret
     exact ⟨rfl,hB⟩
   have e:eqR b l l2 b3 l3 l4=false:=by unfold eqR;simp [hl]
   rw [e];subst hb;have E:=hiD (show eqL l l3=false from eqL_false.2 hl);clear e hl
   go_enter Tryz.func15,Tryz.ntmps15
   have hB:=bRf w.heap.size w
   go_wp2_with fail
   obtain ⟨w1,hW,hz0,hb,q,f⟩:=box1g w (w.heap.size) (by omega) #[.bool b,.slice a n c,.slice a2 n2 c2] 28;rw [hW];clear hW;have g1:=g1.past hb;have g3:=g3.past hb;have hB:=bLt hB hb;clear hb;have lx:w.heap.size<w1.heap.size:=by omega
   have qx0:=q 0;have qx1:=q 1;have qx2:=q 2;simp only [lgA,lgZ,lgS] at qx0 qx1 qx2;clear q f;obtain ⟨w2,hW,hz1,hb,q,f⟩:=box1g w1 (w.heap.size+1) (by omega) #[.bool b,.slice a3 n3 c3,.slice a4 n4 c4] 28;rw [hW];clear hW;have g1:=g1.past hb;have g3:=g3.past hb;obtain ⟨qx0,qx1,qx2,lx⟩:=bq3 hb lx qx0 qx1 qx2;have hB:=bLt hB hb;clear hb;have ly:w.heap.size+1<w2.heap.size:=by omega
   have qy0:=q 0;have qy1:=q 1;have qy2:=q 2;simp only [lgA,lgZ,lgS] at qy0 qy1 qy2;clear q f;clear hz0;clear hz1
   with_reducible refine (sameWhole_eq _ _ _ _ l _ _ _ l3 _ g1 g3).mono ?_
   rintro e w3 ⟨rfl,hb⟩;obtain ⟨qx0,qx1,qx2,lx⟩:=bq3 hb lx qx0 qx1 qx2;obtain ⟨qy0,qy1,qy2,ly⟩:=bq3 hb ly qy0 qy1 qy2;have hB:=bLt hB hb;clear hb;rw [E.out]
   go_wp2
   go_ret
   exact ⟨rfl,hB⟩
 have e:eqR b l l2 b3 l3 l4=false:=by unfold eqR;simp [hb]
 rw [e];have hb':(b == b3)=false:=by simpa using hb
 clear e hb
 go_enter Tryz.func15,Tryz.ntmps15
 have hB:=bRf w.heap.size w
 go_wp2_with fail
 obtain ⟨w1,hW,hz0,hb,q,f⟩:=box1g w (w.heap.size) (by omega) #[.bool b,.slice a n c,.slice a2 n2 c2] 28;rw [hW];clear hW;have hB:=bLt hB hb;clear hb;have lx:w.heap.size<w1.heap.size:=by omega
 have qx0:=q 0;have qx1:=q 1;have qx2:=q 2;simp only [lgA,lgZ,lgS] at qx0 qx1 qx2;clear q f;obtain ⟨w2,hW,hz1,hb,q,f⟩:=box1g w1 (w.heap.size+1) (by omega) #[.bool b3,.slice a3 n3 c3,.slice a4 n4 c4] 28;rw [hW];clear hW;obtain ⟨qx0,qx1,qx2,lx⟩:=bq3 hb lx qx0 qx1 qx2;have hB:=bLt hB hb;clear hb;have ly:w.heap.size+1<w2.heap.size:=by omega
 have qy0:=q 0;have qy1:=q 1;have qy2:=q 2;simp only [lgA,lgZ,lgS] at qy0 qy1 qy2;clear q f;clear hz0;clear hz1
 with_reducible refine (sameWhole_no _ _ _ _ _ _ _ _ _ hb').mono ?_
 rintro e w3 ⟨rfl,hb⟩;obtain ⟨qx0,qx1,qx2,lx⟩:=bq3 hb lx qx0 qx1 qx2;obtain ⟨qy0,qy1,qy2,ly⟩:=bq3 hb ly qy0 qy1 qy2;have hB:=bLt hB hb;clear hb
 go_wp2
 go_ret
 exact ⟨rfl,hB⟩
end
section
open Go.RowKit
def RetCopyR (w:World) (b:Bool) (l l2:List Nat) (e:Ending) (w':World):Prop :=
 ∃ a n c a2 n2 c2,e = .returned (.agg #[.bool b,.slice a n c,.slice a2 n2 c2])∧OwnAt w' w.heap.size a n c l∧OwnAt w' w.heap.size a2 n2 c2 l2∧Below w.heap.size w w'
end
end Go.Proofs.YtkhcblihbalnbaaGreat
