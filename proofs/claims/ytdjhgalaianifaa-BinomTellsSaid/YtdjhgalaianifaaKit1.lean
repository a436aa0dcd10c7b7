/- what the laws share: SameNat, OverNat, LongNat, Pick. -/
import Derived.Test.YtdjhgalaianifaaLimbs1
set_option linter.unusedVariables false
set_option linter.unusedSimpArgs false
namespace Go.Proofs.Ytdjhgalaianifaa
open Go.RowKit

/-- are two lists the same? -/
def eqL (l l2 : List Nat) : Bool := decide (l = l2)
theorem eqL_self (l : List Nat) : eqL l l = true := decide_eq_true rfl
theorem eqL_iff {l l2 : List Nat} : eqL l l2 = true ↔ l = l2 := decide_eq_true_iff
theorem eqL_false {l l2 : List Nat} : eqL l l2 = false ↔ l ≠ l2 := decide_eq_false_iff_not
theorem eq_of_D {l l2 : List Nat} (h : l.length = l2.length) (hd : ∀ j, j < l.length → D l j = D l2 j) : l = l2 := by
  refine List.ext_getElem h fun i h1 h2 => ?_
  have := hd i h1
  unfold D at this
  rw [List.getD_eq_getElem?_getD, List.getD_eq_getElem?_getD, List.getElem?_eq_getElem h1, List.getElem?_eq_getElem h2] at this
  exact this

set_option maxRecDepth 100000 in
theorem sameNat_any (a : Option Addr) (n c : Nat) (l : List Nat) (a2 : Option Addr) (n2 c2 : Nat) (l2 : List Nat) (w : World) (h : NatAt w a n c l) (h2 : NatAt w a2 n2 c2 l2) :
    Calls Try.prog 19 #[.slice a n c, .slice a2 n2 c2] w fun e w' => e = .returned (.bool (eqL l l2)) ∧ ∃ m, w' = w.drewN m := by
  have hl := h.cle
  have hl' := h.le
  by_cases hn : n = n2
  · subst hn
    have t0 : ((n : Int) != (n : Int)) = false := by simp
    have HL := Lib.hid h.len
    have HL2 := Lib.hid h2.len
    go_enter Try.func19, Try.ntmps19
    go_wp2
    go_loopw [5] (fun i wr => ∃ (k m : Nat), k ≤ n ∧ i = .int .i64 ((k : Nat) : Int) ∧ (∀ j, j < k → D l j = D l2 j) ∧ wr = w.drewN m) (fun i _ => n - (intOf i).toNat)
    case atStart => exact ⟨0, 0, Nat.zero_le _, rfl, fun j hj => by omega, rfl⟩
    case round =>
      obtain ⟨k, m, hk, rfl, hd, rfl⟩ := hrel
      have HD := Lib.hid hd
      clear hd
      by_cases hlt : k < n
      · have e1 := h.draws m
        have e2 := h2.draws m
        rcases e1.parts with h' | ⟨ba, oa, rfl, _, hca⟩
        · omega
        rcases e2.parts with h' | ⟨bb, ob, rfl, _, hcb⟩
        · omega
        have ca := hca k hlt
        have cb := hcb k hlt
        clear hca hcb
        by_cases he : D l k = D l2 k
        · have t1 : ((D l k : Int) != (D l2 k : Int)) = false := by rw [he]; simp
          have HE := Lib.hid he
          clear he
          go_wp2_with fail
          generalize hW : w.drewN m = W at ca cb ⊢
          have HW := Lib.hid hW
          clear hW
          go_quiet (fail)
          go_wp2
          go_roundw
          case rel => exact ⟨k + 1, m + nq, by omega, by go_num, fun j hj => by
            by_cases hjk : j = k
            · subst hjk; exact HE.out
            · exact HD.out j (by omega), by rw [← HW.out, World.drewN_drewN]⟩
          case measure => simp [intOf]; omega
        · have t1 : ((D l k : Int) != (D l2 k : Int)) = true := by rw [bne_iff_ne]; omega
          have hf : eqL l l2 = false := eqL_false.2 fun e => he (by rw [e])
          have HF := Lib.hid hf
          clear he hf
          go_wp2_with fail
          generalize hW : w.drewN m = W at ca cb ⊢
          have HW := Lib.hid hW
          clear hW
          go_quiet (fail)
          go_wp2
          go_ret
          exact ⟨ret_bool HF.out.symm, m + nq, by rw [← HW.out, World.drewN_drewN]⟩
      · obtain rfl : k = n := by omega
        have ht : eqL l l2 = true := eqL_iff.2 (eq_of_D (by rw [HL.out, HL2.out]) (fun j hj => HD.out j (by rw [HL.out] at hj; exact hj)))
        have HT := Lib.hid ht
        clear ht
        go_wp2
        go_ret
        exact ⟨ret_bool HT.out.symm, m, rfl⟩
  · have t0 : ((n : Int) != (n2 : Int)) = true := by rw [bne_iff_ne]; omega
    have hf : eqL l l2 = false := eqL_false.2 fun e => hn (by rw [← h.len, ← h2.len, e])
    have HF := Lib.hid hf
    clear hn hf
    go_enter Try.func19, Try.ntmps19
    go_wp2
    go_ret
    exact ⟨ret_bool HF.out.symm, 0, rfl⟩

theorem sameNat_below {a : Option Addr} {n c : Nat} {l : List Nat} {a2 : Option Addr} {n2 c2 : Nat} {l2 : List Nat} {w : World} (h : NatAt w a n c l) (h2 : NatAt w a2 n2 c2 l2) :
    Calls Try.prog 19 #[.slice a n c, .slice a2 n2 c2] w (RetVal w (.bool (eqL l l2))) :=
  (sameNat_any a n c l a2 n2 c2 l2 w h h2).mono fun e w' ⟨he, m, hm⟩ => ⟨he, by rw [hm]; exact Below.draws (Below.refl _ _) m⟩
theorem sameNat_yes {a : Option Addr} {n c : Nat} {l : List Nat} {a2 : Option Addr} {n2 c2 : Nat} {w : World} (h : NatAt w a n c l) (h2 : NatAt w a2 n2 c2 l) :
    Calls Try.prog 19 #[.slice a n c, .slice a2 n2 c2] w (RetVal w (.bool true)) := by
  have := sameNat_below h h2
  rwa [eqL_self] at this

/-- a slice of digits, whichever, that may be written, in memory from block B on -/
structure WritAt (w : World) (B : Nat) (a : Option Addr) (n c : Nat) : Prop where
  le : n ≤ c
  cle : c ≤ 9223372036854775807
  cell : n = 0 ∨ ∃ b o, a = some ⟨b, o, none⟩ ∧ B ≤ b ∧ ∃ f : Nat → Int, (∀ i, i < n → w.cell? ⟨b, o + i, none⟩ = some (.int .u64 (f i))) ∧ (∀ i, i < n → w.frozen? ⟨b, o + i, none⟩ = false)
/-- integers of one kind stay such, all other cells stay, and what may be written stays so -/
def Touched (k : IntKind) (w w' : World) : Prop := (∀ p v, w.cell? p = some (.int k v) → ∃ v', w'.cell? p = some (.int k v')) ∧ (∀ p, w'.frozen? p = w.frozen? p) ∧ ∀ p u, w.cell? p = some u → (∀ x, u ≠ .int k x) → w'.cell? p = some u
theorem Touched.refl (k : IntKind) (w : World) : Touched k w w := ⟨fun p v h => ⟨v, h⟩, fun _ => rfl, fun _ _ h _ => h⟩
theorem Touched.set {k : IntKind} {w w' : World} (h : Touched k w w') (q : Addr) (x : Int) {y : Int} (hq : w'.cell? q = some (.int k y)) : Touched k w (w'.setCell q (.int k x)) := by
  refine ⟨fun p v hp => ?_, fun p => by rw [World.frozen?_setCell]; exact h.2.1 p, fun p u hp hu => ?_⟩
  · obtain ⟨v', hv⟩ := h.1 p v hp
    by_cases e : q = p
    · subst e
      exact ⟨x, World.cell?_setCell_same _ _ _ hq⟩
    · exact ⟨v', by rw [World.cell?_setCell_other _ (a := q) (b := p) _ e]; exact hv⟩
  · have h1 := h.2.2 p u hp hu
    have e : q ≠ p := by
      intro e
      subst e
      rw [hq] at h1
      exact hu y (Option.some.inj h1).symm
    rw [World.cell?_setCell_other _ (a := q) (b := p) _ e]
    exact h1
theorem Touched.trans {k : IntKind} {w w1 w2 : World} (h : Touched k w w1) (h2 : Touched k w1 w2) : Touched k w w2 := by
  refine ⟨fun p v hp => ?_, fun p => (h2.2.1 p).trans (h.2.1 p), fun p u hp hu => h2.2.2 p u (h.2.2 p u hp hu) hu⟩
  obtain ⟨v', hv⟩ := h.1 p v hp
  exact h2.1 p v' hv
/-- digits stay digits -/
abbrev Digital (w w' : World) : Prop := Touched .u64 w w'
theorem Digital.refl (w : World) : Digital w w := Touched.refl _ w
theorem WritAt.keep {w w' : World} {B : Nat} {a : Option Addr} {n c : Nat} (h : WritAt w B a n c) (hd : Digital w w') : WritAt w' B a n c := by
  refine ⟨h.le, h.cle, ?_⟩
  rcases h.cell with h0 | ⟨b, o, he, hB, f, hc, hf⟩
  · exact .inl h0
  · refine .inr ⟨b, o, he, hB, fun i => if hi : i < n then Classical.choose (hd.1 _ _ (hc i hi)) else 0, fun i hi => ?_, fun i hi => by rw [hd.2.1]; exact hf i hi⟩
    dsimp only
    rw [dif_pos hi]
    exact Classical.choose_spec (hd.1 _ _ (hc i hi))
theorem OwnAt.writ {w : World} {B : Nat} {a : Option Addr} {n c : Nat} {l : List Nat} (h : OwnAt w B a n c l) : WritAt w B a n c := by
  refine ⟨h.le, h.cle, ?_⟩
  rcases h.own with h0 | ⟨b, o, he, hB, hf⟩
  · exact .inl h0
  · rcases h.cell with h0 | ⟨b', o', he', hc⟩
    · exact .inl h0
    · rw [he] at he'; cases he'
      exact .inr ⟨b, o, he, hB, _, hc, hf⟩
theorem WritAt.mono {w : World} {B B' : Nat} {a : Option Addr} {n c : Nat} (h : WritAt w B a n c) (hB : B' ≤ B) : WritAt w B' a n c := by
  refine ⟨h.le, h.cle, ?_⟩
  rcases h.cell with h0 | ⟨b, o, he, hb, r⟩
  · exact .inl h0
  · exact .inr ⟨b, o, he, by omega, r⟩

set_option maxRecDepth 100000 in
theorem overNat_any (B : Nat) (a : Option Addr) (n c : Nat) (w : World) (h : WritAt w B a n c) :
    Calls Try.prog 21 #[.slice a n c] w fun e w' => e = .returned (.tuple #[]) ∧ Below B w w' ∧ Digital w w' := by
  have hl := h.cle
  have hl' := h.le
  go_enter Try.func21, Try.ntmps21
  go_wp2
  by_cases hn : n = 0
  · subst hn
    refine wp_loop_rounds 1 ?_
    rw [rounds_succ]
    go_wp2
    go_end0
    exact ⟨rfl, Below.refl _ _, Digital.refl _⟩
  rcases h.cell with h' | ⟨b, o, rfl, hB, f, hc, hf⟩
  · omega
  go_loopw [2] (fun i wr => ∃ (k : Nat), k ≤ n ∧ i = .int .i64 ((k : Nat) : Int) ∧ Below B w wr ∧ Digital w wr) (fun i _ => n - (intOf i).toNat)
  case atStart => exact ⟨0, Nat.zero_le _, rfl, Below.refl _ _, Digital.refl _⟩
  case round =>
    obtain ⟨k, hk, rfl, hb, hg⟩ := hrel
    by_cases hlt : k < n
    · obtain ⟨v, c1⟩ := hg.1 _ _ (hc k hlt)
      have f1 : wr.frozen? ⟨b, o + k, none⟩ = false := by rw [hg.2.1]; exact hf k hlt
      clear hc hf
      go_wp2
      go_roundw
      case rel => exact ⟨k + 1, by omega, by go_num, hb.setCell (p := ⟨b, o + k, none⟩) hB _, Touched.set hg _ _ c1⟩
      case measure => simp [intOf]; omega
    · clear hc hf
      go_wp2
      go_end0
      exact ⟨rfl, hb, hg⟩

set_option maxRecDepth 100000 in
theorem longNat_any (a : Option Addr) (n c : Nat) (k : Int) (w : World) (hc : n ≤ 9223372036854775807) :
    Calls Try.prog 15 #[.slice a n c, .int .i64 k] w fun e w' => e = .returned (.bool (decide (k < (n : Int)))) ∧ w = w' := by
  go_enter Try.func15, Try.ntmps15
  go_wp2
  go_ret
  exact ⟨rfl, rfl⟩

/-- one of the numbers from 0 on below n, by any number -/
def pickI (x n : Int) : Int := if n ≤ 0 then 0 else x % n
set_option maxRecDepth 100000 in
theorem pick_any (x n : Int) (w : World) (hx : -9223372036854775808 ≤ x) (hx2 : x ≤ 9223372036854775807) (hn : n ≤ 9223372036854775807) :
    Calls Try.prog 50 #[.int .i64 x, .int .i64 n] w fun e w' => e = .returned (.int .i64 (pickI x n)) ∧ w = w' := by
  by_cases h0 : n ≤ 0
  · have e : pickI x n = 0 := if_pos h0
    have E := Lib.hid e
    clear e
    go_enter Try.func50, Try.ntmps50
    go_wp2
    go_ret
    exact ⟨by rw [E.out]; rfl, rfl⟩
  · have e : pickI x n = x % n := if_neg h0
    have E := Lib.hid e
    clear e
    by_cases hx0 : 0 ≤ x
    · have h1 := Int.emod_nonneg x (show n ≠ 0 by omega)
      go_enter Try.func50, Try.ntmps50
      go_wp2
      go_ret
      exact ⟨by rw [E.out]; rfl, rfl⟩
    · obtain ⟨t, ht⟩ : ∃ t, x.tmod n = t := ⟨_, rfl⟩
      have h1 := Int.tmod_lt_of_pos x (show 0 < n by omega)
      have h2 : -n < x.tmod n := by have h0 := Int.tmod_lt_of_pos (-x) (show 0 < n by omega); rw [Int.neg_tmod] at h0; omega
      have h3 : x % n = if t < 0 then t + n else t := by
        have h4 : x.tmod n ≤ 0 := by
          have := Int.tmod_nonneg n (show 0 ≤ -x by omega)
          rw [Int.neg_tmod] at this
          omega
        rw [← ht]
        have h5 : x % n = (x.tmod n) % n := by
          have h6 := Int.mul_tdiv_add_tmod x n
          conv => lhs; rw [← h6]
          rw [Int.mul_add_emod_self_left]
        rw [h5]
        split
        · rw [← Int.add_emod_right, Int.emod_eq_of_lt (by omega) (by omega)]
        · rw [Int.emod_eq_of_lt (by omega) (by omega)]
      rw [ht] at h1 h2
      by_cases ht0 : t < 0
      · rw [if_pos ht0] at h3
        have H3 := Lib.hid h3
        clear h3
        go_enter Try.func50, Try.ntmps50
        go_wp2
        go_ret
        exact ⟨by rw [E.out, H3.out]; rfl, rfl⟩
      · rw [if_neg ht0] at h3
        have H3 := Lib.hid h3
        clear h3
        go_enter Try.func50, Try.ntmps50
        go_wp2
        go_ret
        exact ⟨by rw [E.out, H3.out]; rfl, rfl⟩

theorem digs_two {x y : Nat} (hx : x < 18446744073709551616) (hy : y < 18446744073709551616) (h0 : y ≠ 0) : digs (x + 18446744073709551616 * y) = [x, y] := by
  have e : val [x, y] = x + 18446744073709551616 * y := by simp [val]
  rw [← e]
  exact digs_val (dig_cons.2 ⟨hx, dig_cons.2 ⟨hy, dig_nil⟩⟩) ((top_cons (by simp)).2 (top_one.2 h0))

end Go.Proofs.Ytdjhgalaianifaa
