import Derived.Test.YtoecndogaklngaaDoorS0Db
import Derived.Test.YtoecndogaklngaaDoorTimes3Db
import Derived.Test.YtoecndogaklngaaDoorLimbs1Db
import Derived.Test.YtoecndogaklngaaDoorKit3Db
set_option linter.unusedVariables false
set_option linter.unusedSimpArgs false
namespace Go.Proofs.YtoecndogaklngaaDoor
open Go.RowKit
set_option maxRecDepth 100000 in
theorem sameWhole_no (b b2 : Bool) (a : Option Addr) (n c : Nat) (a2 : Option Addr) (n2 c2 : Nat) (w : World) (hb : (b == b2) = false) :
 Calls Tryd.prog 45 #[.agg #[.bool b, .slice a n c], .agg #[.bool b2, .slice a2 n2 c2]] w (RetVal w (.bool false)) := by
 go_enter Tryd.func45, Tryd.ntmps45
 go_wp2
 go_ret
 exact ⟨rfl, ((Below.refl _ _).alloc (Nat.le_refl _) _).alloc (by simp) _⟩
set_option maxRecDepth 100000 in
theorem sameWhole_eq (b : Bool) (a : Option Addr) (n c : Nat) (l : List Nat) (a2 : Option Addr) (n2 c2 : Nat) (l2 : List Nat) (w : World) (h : NatAt w a n c l) (h2 : NatAt w a2 n2 c2 l2) :
 Calls Tryd.prog 45 #[.agg #[.bool b, .slice a n c], .agg #[.bool b, .slice a2 n2 c2]] w (RetVal w (.bool (eqL l l2))) := by
 go_enter Tryd.func45, Tryd.ntmps45
 go_wp2_with fail
 with_reducible refine (sameNat_below ((h.alloc _).alloc _) ((h2.alloc _).alloc _)).mono ?_
 rintro e w1 ⟨rfl, hb⟩
 go_wp2
 go_ret
 exact ⟨rfl, below_later (((Below.refl _ _).alloc (Nat.le_refl _) _).alloc (by simp) _) hb⟩
theorem sameWhole_yes {b : Bool} {a : Option Addr} {n c : Nat} {l : List Nat} {a2 : Option Addr} {n2 c2 : Nat} {w : World} (h : NatAt w a n c l) (h2 : NatAt w a2 n2 c2 l) :
 Calls Tryd.prog 45 #[.agg #[.bool b, .slice a n c], .agg #[.bool b, .slice a2 n2 c2]] w (RetVal w (.bool true)) := by
 have := sameWhole_eq b a n c l a2 n2 c2 l w h h2
 rwa [eqL_self] at this
theorem chkZ_canon (x : Int) : chkZ (neg x) (digs x.natAbs) = 0 := by
 unfold chkZ
 rw [if_neg, chk_top.2 (top_digs _)]
 rintro ⟨h1, h2⟩
 have := digs_eq_nil.1 h2
 have h3 := of_decide_eq_true h1
 omega
end Go.Proofs.YtoecndogaklngaaDoor
set_option linter.unusedVariables false
set_option linter.unusedSimpArgs false
namespace Go.Proofs.YtoecndogaklngaaDoor
theorem mkRat_parts {z : Int} {d : Nat} (hd : d ≠ 0) : (mkRat z d).num = z / ((Nat.gcd z.natAbs d : Nat) : Int) ∧ (mkRat z d).den = d / Nat.gcd z.natAbs d := by
 rw [← Rat.normalize_eq_mkRat hd, Rat.normalize_eq hd]
 exact ⟨rfl, rfl⟩
theorem sg_div (b : Bool) {v g : Nat} (h : g ∣ v) : sg b (v / g) = sg b v / (g : Int) := by
 cases b
 · simp [sg]
 · simp only [sg, if_true]
   rw [Int.natCast_ediv, Int.neg_ediv_of_dvd (by exact_mod_cast h)]
theorem low_parts {b : Bool} {v d : Nat} (hd : d ≠ 0) : sg b (v / Nat.gcd v d) = (mkRat (sg b v) d).num ∧ d / Nat.gcd v d = (mkRat (sg b v) d).den := by
 obtain ⟨h1, h2⟩ := mkRat_parts (z := sg b v) hd
 rw [natAbs_sg] at h1 h2
 exact ⟨by rw [h1, sg_div b (Nat.gcd_dvd_left v d)], h2.symm⟩
theorem gcd_ne {v d : Nat} (hd : d ≠ 0) : Nat.gcd v d ≠ 0 := Nat.pos_iff_ne_zero.1 (Nat.gcd_pos_of_pos_right _ (Nat.pos_of_ne_zero hd))
def chkR (b : Bool) (l l2 : List Nat) : Int := if chkZ b l = 0 ∧ chk l2 = 0 ∧ l2 ≠ [] ∧ Nat.gcd (val l) (val l2) = 1 then 0 else 6
theorem chkR_no {b : Bool} {l l2 : List Nat} (h : chkR b l l2 ≠ 0) : chkR b l l2 = 6 := by
 unfold chkR at h ⊢
 split
 · rename_i hh; rw [if_pos hh] at h; exact absurd rfl h
 · rfl
end Go.Proofs.YtoecndogaklngaaDoor
