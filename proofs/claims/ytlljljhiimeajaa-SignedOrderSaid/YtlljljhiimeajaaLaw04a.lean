/- the laws of signed: long, is, awake. -/
import Derived.Test.YtlljljhiimeajaaKit2
import Derived.Deep.RegionHeld3
set_option linter.unusedVariables false
set_option linter.unusedSimpArgs false
namespace Go.Proofs.Ytlljljhiimeajaa
open Go.RowKit

/-- a new box, its place known by its number -/
theorem box1g (w : World) (g : Nat) (hg : g = w.heap.size) (A : Array Value) (E : Nat) : ∃ W, w.alloc (.cells A E) = W ∧ W.heap.size = w.heap.size + 1 ∧ Below w.heap.size w W ∧ (∀ i, W.cell? ⟨g, i, none⟩ = A[i]?) ∧ (∀ i, W.frozen? ⟨g, i, none⟩ = false) := by
  subst hg
  exact ⟨_, rfl, by simp, (Below.refl _ _).alloc (Nat.le_refl _) _, fun i => World.cell?_alloc_at _ _ _ _ rfl, fun i => World.frozen?_alloc_at _ _ _ _ rfl⟩
/-- a written list, of whatever length -/
theorem litG {E : Nat} (w : World) (g : Nat) (vs : Array Value) (l : List Nat) (n : Nat) (hg : g = w.heap.size) (hv : vs.toList = dv l) (hn : l.length = n) (hm : n ≤ 1000) (hd : l.all (fun x => decide (x < 18446744073709551616)) = true) :
    OwnAt (w.alloc (.cells vs E)) w.heap.size (some ⟨g, 0, none⟩) n n l := by
  subst hg
  refine OwnAt.ofRow (E := E) (v := .slice (some ⟨w.heap.size, 0, none⟩) n n) (n := n) ?_ (fun x hx => by simpa using List.all_eq_true.1 hd x hx) |>.elim fun a h => by
    obtain ⟨c, he, ho⟩ := h
    cases he
    exact ho
  rw [← hv]
  exact World.ownsRow_lit w vs n (Nat.le_refl _) (by simp only [maxLen]; omega) (by rw [← Array.length_toList, hv, dv_length, hn, Nat.mul_one])
theorem digs_of {N : Nat} (l : List Nat) (hd : l.all (fun x => decide (x < 18446744073709551616)) = true) (ht : l.getLast? ≠ some 0) (hN : N = val l) : digs N = l := by
  rw [hN]; exact digs_val (fun x hx => by simpa using List.all_eq_true.1 hd x hx) ht

theorem long04_any (b : Bool) (a : Option Addr) (n c : Nat) (w : World) (hc : n ≤ 9223372036854775807) :
    Calls Try.prog 33 #[.agg #[.bool b, .slice a n c]] w (RetVal w (.bool (decide ((30 : Int) < (n : Int))))) := by
  go_enter Try.func33, Try.ntmps33
  go_wp2_with fail
  with_reducible refine (longNat_any _ _ _ _ _ hc).mono ?_
  rintro e w' ⟨rfl, rfl⟩
  go_wp2
  go_ret
  exact ⟨rfl, (Below.refl _ _).alloc (Nat.le_refl _) _⟩

/-- is that just an int? -/
theorem is04_yes {x : Int} {a : Option Addr} {n c : Nat} {w : World} (h : NatAt w a n c (digs x.natAbs)) (h0 : -9223372036854775808 ≤ x) (h1 : x ≤ 9223372036854775807) :
    Calls Try.prog 57 #[.agg #[.bool (neg x), .slice a n c], .int .i64 x] w (RetVal w (.bool true)) := by
  obtain ⟨r1, r2⟩ := one_yes ⟨h0, h1⟩
  have R1 := Lib.hid r1
  have R2 := Lib.hid r2
  clear r1 r2 h0 h1
  go_enter Try.func57, Try.ntmps57
  have hB := Below.refl w.heap.size w
  go_wp2_with fail
  obtain ⟨w1, hW, hz0, hb, q, f⟩ := box1g w (w.heap.size) (by omega) #[.bool (neg x), .slice a n c] 42
  rw [hW]
  clear hW
  have h := h.past hb
  have hB := below_later hB hb
  clear hb
  have lb1 : w.heap.size < w1.heap.size := by omega
  have qb10 := q 0
  simp only [List.getElem?_toArray, List.getElem?_cons_zero, List.getElem?_cons_succ] at qb10
  have qb11 := q 1
  simp only [List.getElem?_toArray, List.getElem?_cons_zero, List.getElem?_cons_succ] at qb11
  clear q f
  clear hz0
  with_reducible refine (sone_c h).mono ?_
  rintro e w2 ⟨rfl, hb⟩
  have h := h.past hb
  have qb10 := (hb.cell (p := ⟨w.heap.size, 0, none⟩) lb1).trans qb10
  have qb11 := (hb.cell (p := ⟨w.heap.size, 1, none⟩) lb1).trans qb11
  have lb1 := Nat.lt_of_lt_of_le lb1 hb.size
  have hB := below_later hB hb
  clear hb
  rw [R1.out, R2.out]
  go_wp2_with fail
  with_reducible refine (scheck_c h).mono ?_
  rintro e w3 ⟨rfl, hb⟩
  have h := h.past hb
  have qb10 := (hb.cell (p := ⟨w.heap.size, 0, none⟩) lb1).trans qb10
  have qb11 := (hb.cell (p := ⟨w.heap.size, 1, none⟩) lb1).trans qb11
  have lb1 := Nat.lt_of_lt_of_le lb1 hb.size
  have hB := below_later hB hb
  clear hb
  go_wp2
  go_ret
  exact ⟨rfl, hB⟩

theorem awake04 (w : World) : Calls Try.prog 34 #[] w (RetVal w (.bool true)) := by
  go_enter Try.func34, Try.ntmps34
  have hB := Below.refl w.heap.size w
  go_wp2_with fail
  with_reducible refine (sof_any (5) _ (by decide) (by decide)).mono ?_
  rintro e w1 ⟨ah1, nh1, ch1, rfl, h1, hb⟩
  have hB := below_later hB hb
  clear hb
  have kh1 : nh1 ≤ 1 := by rw [← h1.len]; exact digs_length_le.2 (by decide)
  go_wp2_with fail
  with_reducible refine (sof_any (-7) _ (by decide) (by decide)).mono ?_
  rintro e w2 ⟨ah2, nh2, ch2, rfl, h2, hb⟩
  have h1 := h1.past hb
  have hB := below_later hB hb
  clear hb
  have kh2 : nh2 ≤ 1 := by rw [← h2.len]; exact digs_length_le.2 (by decide)
  go_wp2_with fail
  with_reducible refine (sadd_c h1.toNatAt h2.toNatAt (by omega) (by omega)).mono ?_
  rintro e w3 ⟨ah3, nh3, ch3, rfl, h3, hb⟩
  have h1 := h1.past hb
  have h2 := h2.past hb
  have hB := below_later hB hb
  clear hb
  go_wp2_with fail
  refine (is04_yes h3.toNatAt (by decide) (by decide)).mono ?_
  rintro e w4 ⟨rfl, hb⟩
  have h1 := h1.past hb
  have h2 := h2.past hb
  have h3 := h3.past hb
  have hB := below_later hB hb
  clear hb
  go_wp2_with fail
  with_reducible refine (sof_any (-5) _ (by decide) (by decide)).mono ?_
  rintro e w5 ⟨ah1, nh1, ch1, rfl, h1, hb⟩
  have hB := below_later hB hb
  clear hb
  have kh1 : nh1 ≤ 1 := by rw [← h1.len]; exact digs_length_le.2 (by decide)
  go_wp2_with fail
  with_reducible refine (sof_any (-7) _ (by decide) (by decide)).mono ?_
  rintro e w6 ⟨ah2, nh2, ch2, rfl, h2, hb⟩
  have h1 := h1.past hb
  have hB := below_later hB hb
  clear hb
  have kh2 : nh2 ≤ 1 := by rw [← h2.len]; exact digs_length_le.2 (by decide)
  go_wp2_with fail
  with_reducible refine (ssub_c h1.toNatAt h2.toNatAt (by omega) (by omega)).mono ?_
  rintro e w7 ⟨ah3, nh3, ch3, rfl, h3, hb⟩
  have h1 := h1.past hb
  have h2 := h2.past hb
  have hB := below_later hB hb
  clear hb
  go_wp2_with fail
  refine (is04_yes h3.toNatAt (by decide) (by decide)).mono ?_
  rintro e w8 ⟨rfl, hb⟩
  have h1 := h1.past hb
  have h2 := h2.past hb
  have h3 := h3.past hb
  have hB := below_later hB hb
  clear hb
  go_wp2_with fail
  with_reducible refine (sof_any (-3) _ (by decide) (by decide)).mono ?_
  rintro e w9 ⟨ah1, nh1, ch1, rfl, h1, hb⟩
  have hB := below_later hB hb
  clear hb
  have kh1 : nh1 ≤ 1 := by rw [← h1.len]; exact digs_length_le.2 (by decide)
  go_wp2_with fail
  with_reducible refine (sof_any (4) _ (by decide) (by decide)).mono ?_
  rintro e w10 ⟨ah2, nh2, ch2, rfl, h2, hb⟩
  have h1 := h1.past hb
  have hB := below_later hB hb
  clear hb
  have kh2 : nh2 ≤ 1 := by rw [← h2.len]; exact digs_length_le.2 (by decide)
  go_wp2_with fail
  with_reducible refine (smul_c h1.toNatAt h2.toNatAt (by omega) (by omega)).mono ?_
  rintro e w11 ⟨ah3, nh3, ch3, rfl, h3, hb⟩
  have h1 := h1.past hb
  have h2 := h2.past hb
  have hB := below_later hB hb
  clear hb
  go_wp2_with fail
  refine (is04_yes h3.toNatAt (by decide) (by decide)).mono ?_
  rintro e w12 ⟨rfl, hb⟩
  have h1 := h1.past hb
  have h2 := h2.past hb
  have h3 := h3.past hb
  have hB := below_later hB hb
  clear hb
  go_wp2
  go_ret
  exact ⟨rfl, hB⟩

end Go.Proofs.Ytlljljhiimeajaa
