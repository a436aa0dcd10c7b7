/- several texts as one: Refs10, Signed3, Kit1, Kit3, Kit2. -/
import Derived.Test.YtlkoenpdmlbhlaaA4
import Derived.Test.YtlkoenpdmlbhlaaA5
import Derived.Test.YtlkoenpdmlbhlaaA2
import Derived.Deep.RegionHeld3

/- the reference of signed. -/
set_option linter.unusedVariables false
set_option linter.unusedSimpArgs false
namespace Go.Proofs.Ytlkoenpdmlbhlaa
open Go.RowKit

theorem boxes3f (w : World) (A B C : Array Value) (E F G : Nat) : ∃ W, ((w.alloc (.cells A E)).alloc (.cells B F)).alloc (.cells C G) = W ∧ W.heap.size = w.heap.size + 3 ∧ Below w.heap.size w W ∧
    (∀ i, W.cell? ⟨w.heap.size, i, none⟩ = A[i]?) ∧ (∀ i, W.cell? ⟨w.heap.size + 1, i, none⟩ = B[i]?) ∧ (∀ i, W.cell? ⟨w.heap.size + 1 + 1, i, none⟩ = C[i]?) ∧ (∀ i, W.frozen? ⟨w.heap.size + 1 + 1, i, none⟩ = false) ∧
    (∀ i, W.frozen? ⟨w.heap.size, i, none⟩ = false) ∧ (∀ i, W.frozen? ⟨w.heap.size + 1, i, none⟩ = false) := by
  obtain ⟨W, hW, h1, h2, h3, h4, h5, h6⟩ := boxes3 w A B C E F G
  refine ⟨W, hW, h1, h2, h3, h4, h5, h6, ?_⟩
  subst hW
  refine ⟨fun i => ?_, fun i => ?_⟩
  · rw [World.frozen?_alloc_past _ _ _ (by simp; omega), World.frozen?_alloc_past _ _ _ (by simp), World.frozen?_alloc_at _ _ _ _ rfl]
  · rw [World.frozen?_alloc_past _ _ _ (by simp), World.frozen?_alloc_at _ _ _ _ (by simp)]
end Go.Proofs.Ytlkoenpdmlbhlaa

/- signed, third part: One; and the reference's One. -/
set_option linter.unusedVariables false
set_option linter.unusedSimpArgs false
namespace Go.Proofs.Ytlkoenpdmlbhlaa
open Go.RowKit

/-- a whole number as an int, if it is one -/
def isI (z : Int) : Bool := decide (-9223372036854775808 ≤ z ∧ z ≤ 9223372036854775807)
def oneI (z : Int) : Int := if -9223372036854775808 ≤ z ∧ z ≤ 9223372036854775807 then z else 0
theorem one_yes {z : Int} (h : -9223372036854775808 ≤ z ∧ z ≤ 9223372036854775807) : isI z = true ∧ oneI z = z := ⟨decide_eq_true h, if_pos h⟩
theorem one_no {z : Int} (h : ¬ (-9223372036854775808 ≤ z ∧ z ≤ 9223372036854775807)) : isI z = false ∧ oneI z = 0 := ⟨decide_eq_false h, if_neg h⟩
theorem oneN_yes {v : Nat} (h : v < 18446744073709551616) : oneN v = v ∧ oneB v = true := ⟨if_pos h, decide_eq_true h⟩
theorem oneN_no {v : Nat} (h : ¬ v < 18446744073709551616) : oneN v = 0 ∧ oneB v = false := ⟨if_neg h, decide_eq_false h⟩
theorem back_neg {v : Nat} (h : v ≤ 9223372036854775808) : IntKind.i64.wrap (IntKind.u64.wrap (-(v : Int))) = -(v : Int) := by
  rw [IntKind.wrap_u64, IntKind.wrap_i64]; omega
theorem back_pos {v : Nat} (h : v < 9223372036854775808) : IntKind.i64.wrap (v : Int) = (v : Int) := by
  rw [IntKind.wrap_i64]; omega

set_option maxRecDepth 100000 in
theorem sone_any (b : Bool) (a : Option Addr) (n c : Nat) (l : List Nat) (w : World) (h : NatAt w a n c l) :
    Calls Try.prog 69 #[.agg #[.bool b, .slice a n c]] w (RetVal w (.tuple #[.int .i64 (oneI (sg b (val l))), .bool (isI (sg b (val l)))])) := by
  have hcall := one_any a n c l (w.alloc (.cells #[.bool b, .slice a n c] 34)) (h.alloc _)
  have HC := Lib.hid hcall
  clear hcall h
  generalize val l = v at *
  by_cases hs' : ¬ v < 18446744073709551616
  · obtain ⟨r1, r2⟩ := one_no (z := sg b v) (by unfold sg; split <;> omega)
    obtain ⟨s1, s2⟩ := oneN_no hs'
    rw [r1, r2]
    have S1 := Lib.hid s1
    have S2 := Lib.hid s2
    clear r1 r2 s1 s2
    try clear hv
    try clear hs
    try clear hs'
    go_enter Try.func69, Try.ntmps69
    go_wp2_with fail
    refine HC.out.mono ?_
    rintro e w' ⟨rfl, rfl⟩
    rw [S1.out, S2.out]
    go_wp2
    go_ret2
    exact ⟨rfl, (Below.refl _ _).alloc (Nat.le_refl _) _⟩
  have hs : v < 18446744073709551616 := Decidable.byContradiction hs'
  clear hs'
  cases b
  · by_cases hv : v < 9223372036854775808
    · obtain ⟨r1, r2⟩ := one_yes (z := sg false v) (by unfold sg; simp; omega)
      obtain ⟨s1, s2⟩ := oneN_yes hs
      rw [r1, r2]
      rw [sg_false]
      have hbk := back_pos hv
      have hv2 : (v : Int) < 9223372036854775808 := by omega
      have S1 := Lib.hid s1
      have S2 := Lib.hid s2
      clear r1 r2 s1 s2
      try clear hv
      try clear hs
      try clear hs'
      go_enter Try.func69, Try.ntmps69
      go_wp2_with fail
      refine HC.out.mono ?_
      rintro e w' ⟨rfl, rfl⟩
      rw [S1.out, S2.out]
      go_wp2
      go_ret2
      exact ⟨rfl, (Below.refl _ _).alloc (Nat.le_refl _) _⟩
    · obtain ⟨r1, r2⟩ := one_no (z := sg false v) (by unfold sg; simp; omega)
      obtain ⟨s1, s2⟩ := oneN_yes hs
      rw [r1, r2]
      have hv2 : decide ((v : Int) < 9223372036854775808) = false := decide_eq_false (by omega)
      have S1 := Lib.hid s1
      have S2 := Lib.hid s2
      clear r1 r2 s1 s2
      try clear hv
      try clear hs
      try clear hs'
      go_enter Try.func69, Try.ntmps69
      go_wp2_with fail
      refine HC.out.mono ?_
      rintro e w' ⟨rfl, rfl⟩
      rw [S1.out, S2.out]
      go_wp2
      go_ret2
      exact ⟨rfl, (Below.refl _ _).alloc (Nat.le_refl _) _⟩
  · by_cases hv : v ≤ 9223372036854775808
    · obtain ⟨r1, r2⟩ := one_yes (z := sg true v) (by unfold sg; simp; omega)
      obtain ⟨s1, s2⟩ := oneN_yes hs
      rw [r1, r2]
      rw [sg_true]
      have hbk := back_neg hv
      have hv2 : (v : Int) ≤ 9223372036854775808 := by omega
      have S1 := Lib.hid s1
      have S2 := Lib.hid s2
      clear r1 r2 s1 s2
      try clear hv
      try clear hs
      try clear hs'
      go_enter Try.func69, Try.ntmps69
      go_wp2_with fail
      refine HC.out.mono ?_
      rintro e w' ⟨rfl, rfl⟩
      rw [S1.out, S2.out]
      go_wp2
      go_ret2
      exact ⟨rfl, (Below.refl _ _).alloc (Nat.le_refl _) _⟩
    · obtain ⟨r1, r2⟩ := one_no (z := sg true v) (by unfold sg; simp; omega)
      obtain ⟨s1, s2⟩ := oneN_yes hs
      rw [r1, r2]
      have hv2 : ¬ (v : Int) ≤ 9223372036854775808 := by omega
      have S1 := Lib.hid s1
      have S2 := Lib.hid s2
      clear r1 r2 s1 s2
      try clear hv
      try clear hs
      try clear hs'
      go_enter Try.func69, Try.ntmps69
      go_wp2_with fail
      refine HC.out.mono ?_
      rintro e w' ⟨rfl, rfl⟩
      rw [S1.out, S2.out]
      go_wp2
      go_ret2
      exact ⟨rfl, (Below.refl _ _).alloc (Nat.le_refl _) _⟩

end Go.Proofs.Ytlkoenpdmlbhlaa

/- what the laws share: SameNat, OverNat, LongNat, Pick. -/
set_option linter.unusedVariables false
set_option linter.unusedSimpArgs false
namespace Go.Proofs.Ytlkoenpdmlbhlaa
open Go.RowKit

/-- are two lists the same? -/
def eqL (l l2 : List Nat) : Bool := decide (l = l2)
theorem eqL_self (l : List Nat) : eqL l l = true := decide_eq_true rfl
theorem eqL_iff {l l2 : List Nat} : eqL l l2 = true ↔ l = l2 := decide_eq_true_iff
theorem eqL_false {l l2 : List Nat} : eqL l l2 = false ↔ l ≠ l2 := decide_eq_false_iff_not
theorem eq_of_D {l l2 : List Nat} (h : l.length = l2.length) (hd : ∀ j, j < l.length → D l j = D l2 j) : l = l2 := by
  refine List.ext_getElem h fun i h1 h2 => ?_
  have := hd i h1
  unfold D at this
  rw [List.getD_eq_getElem?_getD, List.getD_eq_getElem?_getD, List.getElem?_eq_getElem h1, List.getElem?_eq_getElem h2] at this
  exact this

set_option maxRecDepth 100000 in
theorem sameNat_any (a : Option Addr) (n c : Nat) (l : List Nat) (a2 : Option Addr) (n2 c2 : Nat) (l2 : List Nat) (w : World) (h : NatAt w a n c l) (h2 : NatAt w a2 n2 c2 l2) :
    Calls Try.prog 51 #[.slice a n c, .slice a2 n2 c2] w fun e w' => e = .returned (.bool (eqL l l2)) ∧ ∃ m, w' = w.drewN m := by
  have hl := h.cle
  have hl' := h.le
  by_cases hn : n = n2
  · subst hn
    have t0 : ((n : Int) != (n : Int)) = false := by simp
    have HL := Lib.hid h.len
    have HL2 := Lib.hid h2.len
    go_enter Try.func51, Try.ntmps51
    go_wp2
    go_loopw [5] (fun i wr => ∃ (k m : Nat), k ≤ n ∧ i = .int .i64 ((k : Nat) : Int) ∧ (∀ j, j < k → D l j = D l2 j) ∧ wr = w.drewN m) (fun i _ => n - (intOf i).toNat)
    case atStart => exact ⟨0, 0, Nat.zero_le _, rfl, fun j hj => by omega, rfl⟩
    case round =>
      obtain ⟨k, m, hk, rfl, hd, rfl⟩ := hrel
      have HD := Lib.hid hd
      clear hd
      by_cases hlt : k < n
      · have e1 := h.draws m
        have e2 := h2.draws m
        rcases e1.parts with h' | ⟨ba, oa, rfl, _, hca⟩
        · omega
        rcases e2.parts with h' | ⟨bb, ob, rfl, _, hcb⟩
        · omega
        have ca := hca k hlt
        have cb := hcb k hlt
        clear hca hcb
        by_cases he : D l k = D l2 k
        · have t1 : ((D l k : Int) != (D l2 k : Int)) = false := by rw [he]; simp
          have HE := Lib.hid he
          clear he
          go_wp2_with fail
          generalize hW : w.drewN m = W at ca cb ⊢
          have HW := Lib.hid hW
          clear hW
          go_quiet (fail)
          go_wp2
          go_roundw
          case rel => exact ⟨k + 1, m + nq, by omega, by go_num, fun j hj => by
            by_cases hjk : j = k
            · subst hjk; exact HE.out
            · exact HD.out j (by omega), by rw [← HW.out, World.drewN_drewN]⟩
          case measure => simp [intOf]; omega
        · have t1 : ((D l k : Int) != (D l2 k : Int)) = true := by rw [bne_iff_ne]; omega
          have hf : eqL l l2 = false := eqL_false.2 fun e => he (by rw [e])
          have HF := Lib.hid hf
          clear he hf
          go_wp2_with fail
          generalize hW : w.drewN m = W at ca cb ⊢
          have HW := Lib.hid hW
          clear hW
          go_quiet (fail)
          go_wp2
          go_ret
          exact ⟨ret_bool HF.out.symm, m + nq, by rw [← HW.out, World.drewN_drewN]⟩
      · obtain rfl : k = n := by omega
        have ht : eqL l l2 = true := eqL_iff.2 (eq_of_D (by rw [HL.out, HL2.out]) (fun j hj => HD.out j (by rw [HL.out] at hj; exact hj)))
        have HT := Lib.hid ht
        clear ht
        go_wp2
        go_ret
        exact ⟨ret_bool HT.out.symm, m, rfl⟩
  · have t0 : ((n : Int) != (n2 : Int)) = true := by rw [bne_iff_ne]; omega
    have hf : eqL l l2 = false := eqL_false.2 fun e => hn (by rw [← h.len, ← h2.len, e])
    have HF := Lib.hid hf
    clear hn hf
    go_enter Try.func51, Try.ntmps51
    go_wp2
    go_ret
    exact ⟨ret_bool HF.out.symm, 0, rfl⟩

theorem sameNat_below {a : Option Addr} {n c : Nat} {l : List Nat} {a2 : Option Addr} {n2 c2 : Nat} {l2 : List Nat} {w : World} (h : NatAt w a n c l) (h2 : NatAt w a2 n2 c2 l2) :
    Calls Try.prog 51 #[.slice a n c, .slice a2 n2 c2] w (RetVal w (.bool (eqL l l2))) :=
  (sameNat_any a n c l a2 n2 c2 l2 w h h2).mono fun e w' ⟨he, m, hm⟩ => ⟨he, by rw [hm]; exact Below.draws (Below.refl _ _) m⟩
theorem sameNat_yes {a : Option Addr} {n c : Nat} {l : List Nat} {a2 : Option Addr} {n2 c2 : Nat} {w : World} (h : NatAt w a n c l) (h2 : NatAt w a2 n2 c2 l) :
    Calls Try.prog 51 #[.slice a n c, .slice a2 n2 c2] w (RetVal w (.bool true)) := by
  have := sameNat_below h h2
  rwa [eqL_self] at this

/-- a slice of digits, whichever, that may be written, in memory from block B on -/
structure WritAt (w : World) (B : Nat) (a : Option Addr) (n c : Nat) : Prop where
  le : n ≤ c
  cle : c ≤ 9223372036854775807
  cell : n = 0 ∨ ∃ b o, a = some ⟨b, o, none⟩ ∧ B ≤ b ∧ ∃ f : Nat → Int, (∀ i, i < n → w.cell? ⟨b, o + i, none⟩ = some (.int .u64 (f i))) ∧ (∀ i, i < n → w.frozen? ⟨b, o + i, none⟩ = false)
/-- integers of one kind stay such, all other cells stay, and what may be written stays so -/
def Touched (k : IntKind) (w w' : World) : Prop := (∀ p v, w.cell? p = some (.int k v) → ∃ v', w'.cell? p = some (.int k v')) ∧ (∀ p, w'.frozen? p = w.frozen? p) ∧ ∀ p u, w.cell? p = some u → (∀ x, u ≠ .int k x) → w'.cell? p = some u
theorem Touched.refl (k : IntKind) (w : World) : Touched k w w := ⟨fun p v h => ⟨v, h⟩, fun _ => rfl, fun _ _ h _ => h⟩
theorem Touched.set {k : IntKind} {w w' : World} (h : Touched k w w') (q : Addr) (x : Int) {y : Int} (hq : w'.cell? q = some (.int k y)) : Touched k w (w'.setCell q (.int k x)) := by
  refine ⟨fun p v hp => ?_, fun p => by rw [World.frozen?_setCell]; exact h.2.1 p, fun p u hp hu => ?_⟩
  · obtain ⟨v', hv⟩ := h.1 p v hp
    by_cases e : q = p
    · subst e
      exact ⟨x, World.cell?_setCell_same _ _ _ hq⟩
    · exact ⟨v', by rw [World.cell?_setCell_other _ (a := q) (b := p) _ e]; exact hv⟩
  · have h1 := h.2.2 p u hp hu
    have e : q ≠ p := by
      intro e
      subst e
      rw [hq] at h1
      exact hu y (Option.some.inj h1).symm
    rw [World.cell?_setCell_other _ (a := q) (b := p) _ e]
    exact h1
theorem Touched.trans {k : IntKind} {w w1 w2 : World} (h : Touched k w w1) (h2 : Touched k w1 w2) : Touched k w w2 := by
  refine ⟨fun p v hp => ?_, fun p => (h2.2.1 p).trans (h.2.1 p), fun p u hp hu => h2.2.2 p u (h.2.2 p u hp hu) hu⟩
  obtain ⟨v', hv⟩ := h.1 p v hp
  exact h2.1 p v' hv
/-- digits stay digits -/
abbrev Digital (w w' : World) : Prop := Touched .u64 w w'
theorem Digital.refl (w : World) : Digital w w := Touched.refl _ w
theorem WritAt.keep {w w' : World} {B : Nat} {a : Option Addr} {n c : Nat} (h : WritAt w B a n c) (hd : Digital w w') : WritAt w' B a n c := by
  refine ⟨h.le, h.cle, ?_⟩
  rcases h.cell with h0 | ⟨b, o, he, hB, f, hc, hf⟩
  · exact .inl h0
  · refine .inr ⟨b, o, he, hB, fun i => if hi : i < n then Classical.choose (hd.1 _ _ (hc i hi)) else 0, fun i hi => ?_, fun i hi => by rw [hd.2.1]; exact hf i hi⟩
    dsimp only
    rw [dif_pos hi]
    exact Classical.choose_spec (hd.1 _ _ (hc i hi))
theorem OwnAt.writ {w : World} {B : Nat} {a : Option Addr} {n c : Nat} {l : List Nat} (h : OwnAt w B a n c l) : WritAt w B a n c := by
  refine ⟨h.le, h.cle, ?_⟩
  rcases h.own with h0 | ⟨b, o, he, hB, hf⟩
  · exact .inl h0
  · rcases h.cell with h0 | ⟨b', o', he', hc⟩
    · exact .inl h0
    · rw [he] at he'; cases he'
      exact .inr ⟨b, o, he, hB, _, hc, hf⟩
theorem WritAt.mono {w : World} {B B' : Nat} {a : Option Addr} {n c : Nat} (h : WritAt w B a n c) (hB : B' ≤ B) : WritAt w B' a n c := by
  refine ⟨h.le, h.cle, ?_⟩
  rcases h.cell with h0 | ⟨b, o, he, hb, r⟩
  · exact .inl h0
  · exact .inr ⟨b, o, he, by omega, r⟩

/-- one of the numbers from 0 on below n, by any number -/
def pickI (x n : Int) : Int := if n ≤ 0 then 0 else x % n
set_option maxRecDepth 100000 in
theorem pick_any (x n : Int) (w : World) (hx : -9223372036854775808 ≤ x) (hx2 : x ≤ 9223372036854775807) (hn : n ≤ 9223372036854775807) :
    Calls Try.prog 12 #[.int .i64 x, .int .i64 n] w fun e w' => e = .returned (.int .i64 (pickI x n)) ∧ w = w' := by
  by_cases h0 : n ≤ 0
  · have e : pickI x n = 0 := if_pos h0
    have E := Lib.hid e
    clear e
    go_enter Try.func12, Try.ntmps12
    go_wp2
    go_ret
    exact ⟨by rw [E.out]; rfl, rfl⟩
  · have e : pickI x n = x % n := if_neg h0
    have E := Lib.hid e
    clear e
    by_cases hx0 : 0 ≤ x
    · have h1 := Int.emod_nonneg x (show n ≠ 0 by omega)
      go_enter Try.func12, Try.ntmps12
      go_wp2
      go_ret
      exact ⟨by rw [E.out]; rfl, rfl⟩
    · obtain ⟨t, ht⟩ : ∃ t, x.tmod n = t := ⟨_, rfl⟩
      have h1 := Int.tmod_lt_of_pos x (show 0 < n by omega)
      have h2 : -n < x.tmod n := by have h0 := Int.tmod_lt_of_pos (-x) (show 0 < n by omega); rw [Int.neg_tmod] at h0; omega
      have h3 : x % n = if t < 0 then t + n else t := by
        have h4 : x.tmod n ≤ 0 := by
          have := Int.tmod_nonneg n (show 0 ≤ -x by omega)
          rw [Int.neg_tmod] at this
          omega
        rw [← ht]
        have h5 : x % n = (x.tmod n) % n := by
          have h6 := Int.mul_tdiv_add_tmod x n
          conv => lhs; rw [← h6]
          rw [Int.mul_add_emod_self_left]
        rw [h5]
        split
        · rw [← Int.add_emod_right, Int.emod_eq_of_lt (by omega) (by omega)]
        · rw [Int.emod_eq_of_lt (by omega) (by omega)]
      rw [ht] at h1 h2
      by_cases ht0 : t < 0
      · rw [if_pos ht0] at h3
        have H3 := Lib.hid h3
        clear h3
        go_enter Try.func12, Try.ntmps12
        go_wp2
        go_ret
        exact ⟨by rw [E.out, H3.out]; rfl, rfl⟩
      · rw [if_neg ht0] at h3
        have H3 := Lib.hid h3
        clear h3
        go_enter Try.func12, Try.ntmps12
        go_wp2
        go_ret
        exact ⟨by rw [E.out, H3.out]; rfl, rfl⟩

theorem digs_two {x y : Nat} (hx : x < 18446744073709551616) (hy : y < 18446744073709551616) (h0 : y ≠ 0) : digs (x + 18446744073709551616 * y) = [x, y] := by
  have e : val [x, y] = x + 18446744073709551616 * y := by simp [val]
  rw [← e]
  exact digs_val (dig_cons.2 ⟨hx, dig_cons.2 ⟨hy, dig_nil⟩⟩) ((top_cons (by simp)).2 (top_one.2 h0))

end Go.Proofs.Ytlkoenpdmlbhlaa

/- What walks of laws use: new boxes, written lists. -/
set_option linter.unusedVariables false
set_option linter.unusedSimpArgs false
namespace Go.Proofs.Ytlkoenpdmlbhlaa
open Go.RowKit

theorem OwnAt.past {w w' : World} {B : Nat} {a : Option Addr} {n c : Nat} {l : List Nat} (h : OwnAt w B a n c l) (hb : Below w.heap.size w w') : OwnAt w' B a n c l := h.later hb (Nat.le_refl _)
/-- a new box, its place known by its number -/
theorem box1g (w : World) (g : Nat) (hg : g = w.heap.size) (A : Array Value) (E : Nat) : ∃ W, w.alloc (.cells A E) = W ∧ W.heap.size = w.heap.size + 1 ∧ Below w.heap.size w W ∧ (∀ i, W.cell? ⟨g, i, none⟩ = A[i]?) ∧ (∀ i, W.frozen? ⟨g, i, none⟩ = false) := by
  subst hg
  exact ⟨_, rfl, by simp, (Below.refl _ _).alloc (Nat.le_refl _) _, fun i => World.cell?_alloc_at _ _ _ _ rfl, fun i => World.frozen?_alloc_at _ _ _ _ rfl⟩
/-- a written list, of whatever length -/
theorem litG {E : Nat} (w : World) (g : Nat) (vs : Array Value) (l : List Nat) (n : Nat) (hg : g = w.heap.size) (hv : vs.toList = dv l) (hn : l.length = n) (hm : n ≤ 1000) (hd : l.all (fun x => decide (x < 18446744073709551616)) = true) :
    OwnAt (w.alloc (.cells vs E)) w.heap.size (some ⟨g, 0, none⟩) n n l := by
  subst hg
  refine OwnAt.ofRow (E := E) (v := .slice (some ⟨w.heap.size, 0, none⟩) n n) (n := n) ?_ (fun x hx => by simpa using List.all_eq_true.1 hd x hx) |>.elim fun a h => by
    obtain ⟨c, he, ho⟩ := h
    cases he
    exact ho
  rw [← hv]
  exact World.ownsRow_lit w vs n (Nat.le_refl _) (by simp only [maxLen]; omega) (by rw [← Array.length_toList, hv, dv_length, hn, Nat.mul_one])
theorem digs_of {N : Nat} (l : List Nat) (hd : l.all (fun x => decide (x < 18446744073709551616)) = true) (ht : l.getLast? ≠ some 0) (hN : N = val l) : digs N = l := by
  rw [hN]; exact digs_val (fun x hx => by simpa using List.all_eq_true.1 hd x hx) ht

end Go.Proofs.Ytlkoenpdmlbhlaa

/- artesiankit on whole numbers; and the contracts of signed for numbers as Make has them. -/
set_option linter.unusedVariables false
set_option linter.unusedSimpArgs false
namespace Go.Proofs.Ytlkoenpdmlbhlaa
open Go.RowKit


/-- an Int in memory of its own -/
def RetCopy (w : World) (b : Bool) (l : List Nat) (e : Ending) (w' : World) : Prop :=
  ∃ a n c, e = .returned (.agg #[.bool b, .slice a n c]) ∧ OwnAt w' w.heap.size a n c l ∧ Below w.heap.size w w'

set_option maxRecDepth 100000 in
theorem sameWhole_no (b b2 : Bool) (a : Option Addr) (n c : Nat) (a2 : Option Addr) (n2 c2 : Nat) (w : World) (hb : (b == b2) = false) :
    Calls Try.prog 50 #[.agg #[.bool b, .slice a n c], .agg #[.bool b2, .slice a2 n2 c2]] w (RetVal w (.bool false)) := by
  go_enter Try.func50, Try.ntmps50
  go_wp2
  go_ret
  exact ⟨rfl, ((Below.refl _ _).alloc (Nat.le_refl _) _).alloc (by simp) _⟩
set_option maxRecDepth 100000 in
theorem sameWhole_eq (b : Bool) (a : Option Addr) (n c : Nat) (l : List Nat) (a2 : Option Addr) (n2 c2 : Nat) (l2 : List Nat) (w : World) (h : NatAt w a n c l) (h2 : NatAt w a2 n2 c2 l2) :
    Calls Try.prog 50 #[.agg #[.bool b, .slice a n c], .agg #[.bool b, .slice a2 n2 c2]] w (RetVal w (.bool (eqL l l2))) := by
  go_enter Try.func50, Try.ntmps50
  go_wp2_with fail
  with_reducible refine (sameNat_below ((h.alloc _).alloc _) ((h2.alloc _).alloc _)).mono ?_
  rintro e w1 ⟨rfl, hb⟩
  go_wp2
  go_ret
  exact ⟨rfl, below_later (((Below.refl _ _).alloc (Nat.le_refl _) _).alloc (by simp) _) hb⟩
theorem sameWhole_yes {b : Bool} {a : Option Addr} {n c : Nat} {l : List Nat} {a2 : Option Addr} {n2 c2 : Nat} {w : World} (h : NatAt w a n c l) (h2 : NatAt w a2 n2 c2 l) :
    Calls Try.prog 50 #[.agg #[.bool b, .slice a n c], .agg #[.bool b, .slice a2 n2 c2]] w (RetVal w (.bool true)) := by
  have := sameWhole_eq b a n c l a2 n2 c2 l w h h2
  rwa [eqL_self] at this

/-! numbers as Make has them -/
theorem digs_abs_inj {x y : Int} (hs : neg x = neg y) (h : digs x.natAbs = digs y.natAbs) : x = y := by
  rw [← sg_canon x, ← sg_canon y, hs, h]
def eqZ (x y : Int) : Bool := decide (x = y)
theorem sameInt_any {x y : Int} {a : Option Addr} {n c : Nat} {a2 : Option Addr} {n2 c2 : Nat} {w : World} (h : NatAt w a n c (digs x.natAbs)) (h2 : NatAt w a2 n2 c2 (digs y.natAbs)) :
    Calls Try.prog 50 #[.agg #[.bool (neg x), .slice a n c], .agg #[.bool (neg y), .slice a2 n2 c2]] w (RetVal w (.bool (eqZ x y))) := by
  by_cases hn : neg x = neg y
  · rw [hn]
    have e : eqZ x y = eqL (digs x.natAbs) (digs y.natAbs) := by
      unfold eqZ eqL
      rw [decide_eq_decide]
      exact ⟨fun e => by rw [e], fun e => digs_abs_inj hn e⟩
    rw [e]
    exact sameWhole_eq _ _ _ _ _ _ _ _ _ _ h h2
  · have e : eqZ x y = false := decide_eq_false fun e => hn (by rw [e])
    rw [e]
    exact sameWhole_no _ _ _ _ _ _ _ _ _ (by simpa using hn)
theorem sadd_c {x y : Int} {a : Option Addr} {n c : Nat} {a2 : Option Addr} {n2 c2 : Nat} {w : World} (h : NatAt w a n c (digs x.natAbs)) (h2 : NatAt w a2 n2 c2 (digs y.natAbs)) (hs : n ≤ 274877906944) (hs2 : n2 ≤ 274877906944) :
    Calls Try.prog 46 #[.agg #[.bool (neg x), .slice a n c], .agg #[.bool (neg y), .slice a2 n2 c2]] w (RetInt w (x + y)) := by
  have := sadd_any (neg x) a n c _ (neg y) a2 n2 c2 _ w h h2 hs hs2
  rwa [sg_canon, sg_canon] at this
theorem smul_c {x y : Int} {a : Option Addr} {n c : Nat} {a2 : Option Addr} {n2 c2 : Nat} {w : World} (h : NatAt w a n c (digs x.natAbs)) (h2 : NatAt w a2 n2 c2 (digs y.natAbs)) (hs : n ≤ 68719476736) (hs2 : n2 ≤ 68719476736) :
    Calls Try.prog 84 #[.agg #[.bool (neg x), .slice a n c], .agg #[.bool (neg y), .slice a2 n2 c2]] w (RetInt w (x * y)) := by
  have := smul_any (neg x) a n c _ (neg y) a2 n2 c2 _ w h h2 hs hs2
  rwa [sg_canon, sg_canon] at this
theorem sneg_c {x : Int} {a : Option Addr} {n c : Nat} {w : World} (h : NatAt w a n c (digs x.natAbs)) (hs : n ≤ 1099511627776) :
    Calls Try.prog 86 #[.agg #[.bool (neg x), .slice a n c]] w (RetInt w (-x)) := by
  have := sneg_any (neg x) a n c _ w h hs
  rwa [sg_canon] at this
theorem sign_c {x : Int} {a : Option Addr} {n c : Nat} {w : World} (h : NatAt w a n c (digs x.natAbs)) (hs : n ≤ 1099511627776) :
    Calls Try.prog 43 #[.agg #[.bool (neg x), .slice a n c]] w (RetVal w (.int .i64 x.sign)) := by
  have := sign_any (neg x) a n c _ w h hs
  rwa [sg_canon] at this
theorem sone_c {x : Int} {a : Option Addr} {n c : Nat} {w : World} (h : NatAt w a n c (digs x.natAbs)) :
    Calls Try.prog 69 #[.agg #[.bool (neg x), .slice a n c]] w (RetVal w (.tuple #[.int .i64 (oneI x), .bool (isI x)])) := by
  have := sone_any (neg x) a n c _ w h
  rwa [sg_canon] at this
theorem chkZ_canon (x : Int) : chkZ (neg x) (digs x.natAbs) = 0 := by
  unfold chkZ
  rw [if_neg, chk_top.2 (top_digs _)]
  rintro ⟨h1, h2⟩
  have := digs_eq_nil.1 h2
  have h3 := of_decide_eq_true h1
  omega
theorem scheck_c {x : Int} {a : Option Addr} {n c : Nat} {w : World} (h : NatAt w a n c (digs x.natAbs)) :
    Calls Try.prog 71 #[.agg #[.bool (neg x), .slice a n c]] w (RetVal w (.int .i64 0)) := by
  have := scheck_any (neg x) a n c _ w h
  rwa [chkZ_canon] at this

/-! how long sums and products are -/
theorem ilen_add {x y : Int} {p q : Nat} (h1 : (digs x.natAbs).length ≤ p) (h2 : (digs y.natAbs).length ≤ q) : (digs (x + y).natAbs).length ≤ max p q + 1 := by
  have h := digs_len_mono (a := (x + y).natAbs) (b := x.natAbs + y.natAbs) (by omega)
  have h3 := digs_len_add x.natAbs y.natAbs
  omega
theorem ilen_sub {x y : Int} {p q : Nat} (h1 : (digs x.natAbs).length ≤ p) (h2 : (digs y.natAbs).length ≤ q) : (digs (x - y).natAbs).length ≤ max p q + 1 := by
  have h := digs_len_mono (a := (x - y).natAbs) (b := x.natAbs + y.natAbs) (by omega)
  have h3 := digs_len_add x.natAbs y.natAbs
  omega
theorem ilen_mul {x y : Int} {p q : Nat} (h1 : (digs x.natAbs).length ≤ p) (h2 : (digs y.natAbs).length ≤ q) : (digs (x * y).natAbs).length ≤ p + q := by
  rw [Int.natAbs_mul]
  have h3 := digs_len_prod x.natAbs y.natAbs
  omega
theorem ilen_neg {x : Int} {p : Nat} (h1 : (digs x.natAbs).length ≤ p) : (digs (-x).natAbs).length ≤ p := by
  rwa [Int.natAbs_neg]

end Go.Proofs.Ytlkoenpdmlbhlaa
