/- the laws of binom: BinomCounts, BinomKnown. -/
import Derived.Test.YtdjhgalaianifaaLaw07a
import Derived.Test.YtdjhgalaianifaaBinom4
import Derived.Test.YtdjhgalaianifaaKit3
set_option linter.unusedVariables false
set_option linter.unusedSimpArgs false
namespace Go.Proofs.Ytdjhgalaianifaa
open Go.RowKit

set_option maxRecDepth 100000 in
set_option maxHeartbeats 2000000 in
theorem binomCounts_any (a : Option Addr) (n c : Nat) (zs : List Int) (w : World) (g1 : IntsAt w a n c zs) :
    Calls Try.prog 4 #[.slice a n c] w (RetVal w (.bool true)) := by
  have hcl : c ≤ 9223372036854775807 := by have := g1.cle; simp only [maxLen] at this; omega
  have hle := g1.le
  by_cases h12 : 12 < n
  · have t1 : decide ((12 : Int) < (n : Int)) = true := by simp; omega
    go_enter Try.func4, Try.ntmps4
    have hB := Below.refl w.heap.size w
    go_wp2_with fail
    with_reducible refine (awake07 _).mono ?_
    rintro e w1 ⟨rfl, hb⟩
    have hB := below_later hB hb
    clear hb
    go_wp2
    go_ret
    exact ⟨rfl, hB⟩
  have t1 : decide ((12 : Int) < (n : Int)) = false := by simp; omega
  go_enter Try.func4, Try.ntmps4
  go_wp2_with fail
  go_loopw [3] (fun s3 wr => ∃ (k : Nat), k ≤ n ∧ s3 = .int .i64 ((k : Nat) : Int) ∧ Below w.heap.size w wr) (fun s3 _ => n - (intOf s3).toNat)
  case atStart => exact ⟨0, Nat.zero_le _, rfl, Below.refl _ _⟩
  case round =>
    obtain ⟨k, hk, rfl, hB⟩ := hrel
    by_cases hlt : k < n
    · rcases (g1.past hB).cell with h' | ⟨b, o, rfl, hbl, hc⟩
      · omega
      have hc0 := hc k hlt
      obtain ⟨z, hz⟩ : ∃ z, zs.getD k 0 = z := ⟨_, rfl⟩
      rw [hz] at hc0
      clear hc hz
      by_cases z0 : 60 < z
      · by_cases z1 : z ≤ 65536
        · go_wp2_with fail
          with_reducible refine (awake07 _).mono ?_
          rintro e w1 ⟨rfl, hb⟩
          have hB := below_later hB hb
          go_wp2
          go_ret
          exact ⟨rfl, hB⟩
        · go_wp2
          go_roundw
          case measure => simp [intOf] <;> omega
          case rel => exact ⟨k + 1, by omega, by go_num, hB⟩
      · go_wp2
        go_roundw
        case measure => simp [intOf] <;> omega
        case rel => exact ⟨k + 1, by omega, by go_num, hB⟩
    · obtain rfl : n = k := by omega
      have g1 := g1.past hB
      by_cases hok : okInts zs
      · obtain ⟨ns, rfl, hsum⟩ := okInts_nat hok
        have HS := Lib.hid hsum
        clear hok hsum hlt
        go_wp2_with fail
        with_reducible refine (copyInts_any _ _ _ _ _ g1 (by omega)).mono ?_
        rintro e w1 ⟨ahI, nhI, chI, rfl, hI, hb⟩
        have g1 := g1.past hb
        have hB := below_later hB hb
        clear hb
        go_wp2_with fail
        with_reducible refine (count_yes ns _ _ _ _ hI HS.out).mono ?_
        rintro e w2 ⟨ahX, nhX, chX, rfl, hX, hb⟩
        have g1 := g1.past hb
        have hI := hI.past hb
        have hB := below_later hB hb
        clear hb
        go_wp2_with fail
        with_reducible refine (rcount_yes ns _ _ _ _ g1 HS.out).mono ?_
        rintro e w3 ⟨ahY, nhY, chY, rfl, hY, hb⟩
        have g1 := g1.past hb
        have hI := hI.past hb
        have hX := hX.past hb
        have hB := below_later hB hb
        clear hb
        go_wp2_with fail
        with_reducible refine (sameNat_yes hX.toNatAt hY.toNatAt).mono ?_
        rintro e w4 ⟨rfl, hb⟩
        have g1 := g1.past hb
        have hI := hI.past hb
        have hX := hX.past hb
        have hY := hY.past hb
        have hB := below_later hB hb
        clear hb
        go_wp2_with fail
        with_reducible refine (sameInts_yes hI g1).mono ?_
        rintro e w5 ⟨rfl, hb⟩
        have g1 := g1.past hb
        have hI := hI.past hb
        have hX := hX.past hb
        have hY := hY.past hb
        have hB := below_later hB hb
        clear hb
        go_wp2_with fail
        with_reducible refine (awake07 _).mono ?_
        rintro e w6 ⟨rfl, hb⟩
        have g1 := g1.past hb
        have hI := hI.past hb
        have hX := hX.past hb
        have hY := hY.past hb
        have hB := below_later hB hb
        clear hb
        go_wp2
        go_ret
        exact ⟨rfl, hB⟩
      · have HNO := Lib.hid hok
        clear hok hlt
        go_wp2_with fail
        with_reducible refine (copyInts_any _ _ _ _ _ g1 (by omega)).mono ?_
        rintro e w1 ⟨ahI, nhI, chI, rfl, hI, hb⟩
        have g1 := g1.past hb
        have hB := below_later hB hb
        clear hb
        go_wp2_with fail
        with_reducible refine (count_no zs _ _ _ _ hI HNO.out).mono ?_
        rintro e w2 ⟨rfl, hb⟩
        have g1 := g1.past hb
        have hI := hI.past hb
        have hB := below_later hB hb
        clear hb
        go_wp2_with fail
        with_reducible refine (rcount_no zs _ _ _ _ g1 HNO.out).mono ?_
        rintro e w3 ⟨rfl, hb⟩
        have g1 := g1.past hb
        have hI := hI.past hb
        have hB := below_later hB hb
        clear hb
        go_wp2_with fail
        refine (sameNat_yes (NatAt.nil _) (NatAt.nil _)).mono ?_
        rintro e w4 ⟨rfl, hb⟩
        have g1 := g1.past hb
        have hI := hI.past hb
        have hB := below_later hB hb
        clear hb
        go_wp2_with fail
        with_reducible refine (sameInts_yes hI g1).mono ?_
        rintro e w5 ⟨rfl, hb⟩
        have g1 := g1.past hb
        have hI := hI.past hb
        have hB := below_later hB hb
        clear hb
        go_wp2_with fail
        with_reducible refine (awake07 _).mono ?_
        rintro e w6 ⟨rfl, hb⟩
        have g1 := g1.past hb
        have hI := hI.past hb
        have hB := below_later hB hb
        clear hb
        go_wp2
        go_ret
        exact ⟨rfl, hB⟩

end Go.Proofs.Ytdjhgalaianifaa
