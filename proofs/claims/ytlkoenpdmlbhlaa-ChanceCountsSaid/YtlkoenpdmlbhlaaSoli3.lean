/- soliton, third part: Total. -/
import Derived.Test.YtlkoenpdmlbhlaaSoliP
set_option linter.unusedVariables false
set_option linter.unusedSimpArgs false
namespace Go.Proofs.Ytlkoenpdmlbhlaa
open Go.RowKit


set_option maxRecDepth 100000 in
set_option maxHeartbeats 4000000 in
theorem total_any (a : Option Addr) (n c : Nat) (zs : List Int) (w : World) (g : IntsAt w a n c zs) :
    Calls Try.prog 14 #[.slice a n c] w (RetVal w (.int .i64 (sumW zs n))) := by
  have hcle := g.cle
  have hle := g.le
  have hm : n ≤ 9223372036854775807 := by unfold maxLen at hcle; omega
  have h0 : sumW zs 0 = 0 := rfl
  obtain ⟨SF, hSF⟩ : ∃ SF, sumW zs = SF := ⟨_, rfl⟩
  rw [hSF] at h0 ⊢
  have hs : ∀ j, SF (j + 1) = wrap64 (SF j + zs.getD j 0) := fun j => by rw [← hSF]; rfl
  have HS := Lib.hid hs
  have H0 := Lib.hid h0
  clear hs h0 hSF
  go_enter Try.func14, Try.ntmps14
  go_wp2
  obtain ⟨w1, hW, hz, hb, q, f⟩ := box1g w w.heap.size rfl #[.int .i64 0] 3
  rw [hW]
  clear hW
  have x0 : BoxAt w1 w.heap.size 1 := BoxAt.of q f rfl (by simp [notU_i64])
  have q0 := q 0
  simp only [List.getElem?_toArray, List.getElem?_cons_zero] at q0
  have hlt : w.heap.size < w1.heap.size := by omega
  clear q f hz
  generalize hBB : w.heap.size = BB at *
  go_loopw [5, 9] (fun x i wr => ∃ (j : Nat), j ≤ n ∧ i = .int .i64 (j : Int) ∧ Below w.heap.size w wr ∧ BB < wr.heap.size ∧ wr.cell? ⟨BB, 0, none⟩ = some (.int .i64 (SF j)) ∧ BoxAt wr BB 1) (fun x i _ => n - (intOf i).toNat)
  case atStart => exact ⟨0, Nat.zero_le _, rfl, by rw [hBB]; exact hb, hlt, by rw [H0.out]; exact q0, x0⟩
  case round =>
    clear hb hlt q0 x0
    obtain ⟨j, hj, rfl, hB, hlt2, q0, x0⟩ := hrel
    by_cases hlt : j < n
    · rcases (g.past hB).cell with h0 | ⟨b, o, rfl, hbl, hc⟩
      · omega
      have q := hc j hlt
      have hs := HS.out j
      obtain ⟨z, hz⟩ : ∃ z, zs.getD j 0 = z := ⟨_, rfl⟩
      rw [hz] at q hs
      obtain ⟨S, hS⟩ : ∃ S, SF j = S := ⟨_, rfl⟩
      rw [hS] at hs q0
      have HSS := Lib.hid hs
      clear hs hS hz hc
      go_wp2_with fail
      have hf := x0.f 0 (by decide)
      with_reducible refine (total1_any _ S z _ q0 hf).mono ?_
      rintro e w2 ⟨rfl, rfl⟩
      go_wp2
      go_roundw
      case rel => exact ⟨j + 1, by omega, by go_num, hB.setCell (p := ⟨BB, 0, none⟩) (Nat.le_of_eq hBB) _, by simpa using hlt2, by rw [HSS.out]; exact World.cell?_setCell_same _ _ _ q0, x0.set ⟨BB, 0, none⟩ _ (notU_i64 _)⟩
      case measure => simp [intOf]; omega
    · obtain rfl : j = n := by omega
      obtain ⟨S, hS⟩ : ∃ S, SF j = S := ⟨_, rfl⟩
      rw [hS] at q0
      have HSS := Lib.hid hS
      clear hS
      have hf := x0.f 0 (by decide)
      go_wp2
      refine bodyPost_ret (v := .int .i64 S) ?_ rfl ⟨by rw [HSS.out], hB.setCell (p := ⟨BB, 0, none⟩) (Nat.le_of_eq hBB) _⟩
      simp [results, Try.f14, go_sem, World.cell?_setCell_same _ _ _ q0]

end Go.Proofs.Ytlkoenpdmlbhlaa
