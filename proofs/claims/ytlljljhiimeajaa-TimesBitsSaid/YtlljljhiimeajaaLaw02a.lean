/- the laws of times: of, awake. -/
import Derived.Test.YtlljljhiimeajaaKit1
import Derived.Test.YtlljljhiimeajaaTimes4
import Derived.Test.YtlljljhiimeajaaRefs8
set_option linter.unusedVariables false
set_option linter.unusedSimpArgs false
namespace Go.Proofs.Ytlljljhiimeajaa
open Go.RowKit

theorem of02_any (v : Value) (w : World) : Calls Try.prog 30 #[v] w fun e w' => e = .returned v ∧ w = w' := by
  go_enter Try.func30, Try.ntmps30
  go_wp2
  go_ret
  exact ⟨rfl, rfl⟩

/-- a written list, of whatever length -/
theorem litG {E : Nat} (w : World) (g : Nat) (vs : Array Value) (l : List Nat) (n : Nat) (hg : g = w.heap.size) (hv : vs.toList = dv l) (hn : l.length = n) (hm : n ≤ 1000) (hd : l.all (fun x => decide (x < 18446744073709551616)) = true) :
    OwnAt (w.alloc (.cells vs E)) w.heap.size (some ⟨g, 0, none⟩) n n l := by
  subst hg
  refine OwnAt.ofRow2 (E := E) ?_ (fun x hx => by simpa using List.all_eq_true.1 hd x hx)
  rw [← hv]
  exact World.ownsRow_lit w vs n (Nat.le_refl _) (by simp only [maxLen]; omega) (by rw [← Array.length_toList, hv, dv_length, hn, Nat.mul_one])
theorem digs_of {N : Nat} (l : List Nat) (hd : l.all (fun x => decide (x < 18446744073709551616)) = true) (ht : l.getLast? ≠ some 0) (hN : N = val l) : digs N = l := by
  rw [hN]; exact digs_val (fun x hx => by simpa using List.all_eq_true.1 hd x hx) ht

set_option maxHeartbeats 2000000 in
theorem awake02 (w : World) : Calls Try.prog 16 #[] w (RetVal w (.bool true)) := by
  have e1 : digs (val [1, 2, 3] * val [4, 5]) = [4, 13, 22, 15] := digs_of _ (by decide) (by decide) (by decide)
  have e2 : digs (val [18446744073709551615] * val [18446744073709551615]) = [1, 18446744073709551614] := digs_of _ (by decide) (by decide) (by decide)
  have E1 := Lib.hid e1
  have E2 := Lib.hid e2
  clear e1 e2
  go_enter Try.func16, Try.ntmps16
  have hB := Below.refl w.heap.size w
  go_wp2_with fail
  refine (of02_any _ _).mono ?_
  rintro e w' ⟨rfl, rfl⟩
  go_wp2_with fail
  refine (of02_any _ _).mono ?_
  rintro e w' ⟨rfl, rfl⟩
  go_wp2_with fail
  refine (kara_yes _ _ _ [1, 2, 3] _ _ _ [4, 5] _ _ (((litG _ _ _ [1, 2, 3] 3 (by simp) rfl rfl (by decide) (by decide)).toNatAt).alloc _) ((litG _ _ _ [4, 5] 2 (by simp) rfl rfl (by decide) (by decide)).toNatAt) (by decide) (by decide) (by decide) (by decide)).mono ?_
  rintro e w1 ⟨ahK, nhK, chK, rfl, hK, hb⟩
  have hB := below_later (below_alloc (below_alloc hB _) _) hb
  clear hb
  rw [E1.out] at hK
  go_wp2_with fail
  refine (of02_any _ _).mono ?_
  rintro e w' ⟨rfl, rfl⟩
  go_wp2_with fail
  refine (of02_any _ _).mono ?_
  rintro e w' ⟨rfl, rfl⟩
  go_wp2_with fail
  refine (school_any _ _ _ [18446744073709551615] _ _ _ [18446744073709551615] _ (((litG _ _ _ [18446744073709551615] 1 (by simp) rfl rfl (by decide) (by decide)).toNatAt).alloc _) ((litG _ _ _ [18446744073709551615] 1 (by simp) rfl rfl (by decide) (by decide)).toNatAt) (by decide) (by decide)).mono ?_
  rintro e w2 ⟨ahS, nhS, chS, rfl, hS, hb⟩
  have hK := (((hK).alloc _).alloc _).later hb (Nat.le_refl _)
  have hB := below_later (below_alloc (below_alloc hB _) _) hb
  clear hb
  rw [E2.out] at hS
  go_wp2_with fail
  refine (of02_any _ _).mono ?_
  rintro e w' ⟨rfl, rfl⟩
  go_wp2_with fail
  refine (sameNat_yes ((hS.toNatAt).alloc _) ((litG _ _ _ [1, 18446744073709551614] 2 (by simp) rfl rfl (by decide) (by decide)).toNatAt)).mono ?_
  rintro e w3 ⟨rfl, hb⟩
  have hK := ((hK).alloc _).later hb (Nat.le_refl _)
  have hS := ((hS).alloc _).later hb (Nat.le_refl _)
  have hB := below_later (below_alloc hB _) hb
  clear hb
  go_wp2_with fail
  refine (of02_any _ _).mono ?_
  rintro e w' ⟨rfl, rfl⟩
  go_wp2_with fail
  refine (sameNat_yes ((hK.toNatAt).alloc _) ((litG _ _ _ [4, 13, 22, 15] 4 (by simp) rfl rfl (by decide) (by decide)).toNatAt)).mono ?_
  rintro e w4 ⟨rfl, hb⟩
  have hK := ((hK).alloc _).later hb (Nat.le_refl _)
  have hB := below_later (below_alloc hB _) hb
  clear hb
  go_wp2
  go_ret
  exact ⟨rfl, hB⟩

end Go.Proofs.Ytlljljhiimeajaa
