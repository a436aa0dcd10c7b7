/- binom, second part: the rows of the reference. -/
import Derived.Test.YtdjhgalaianifaaNats
import Derived.Test.YtdjhgalaianifaaBinom1
import Derived.Test.YtdjhgalaianifaaRefs8
import Derived.Deep.RegionHeld3
import Derived.Deep.DeepFit
set_option linter.unusedVariables false
set_option linter.unusedSimpArgs false
namespace Go.Proofs.Ytdjhgalaianifaa
open Go.RowKit

/-- a row of binomials -/
def bin (n i : Nat) : List Nat := digs (ch n i)
/-- A call that tells a row of binomials, in new memory. -/
def RetBin (w : World) (k : Nat) (e : Ending) (w' : World) : Prop :=
  ∃ g cap, e = .returned (.slice (some ⟨g, 0, none⟩) (k + 1) cap) ∧ Nats w' w.heap.size g cap (k + 1) (bin k) ∧ Below w.heap.size w w'

theorem bin_step (k p : Nat) : digs (val (bin k p) + val (bin k (p + 1))) = bin (k + 1) (p + 1) := by unfold bin; rw [val_digs, val_digs]; rfl
theorem bin_zero (k : Nat) : digs 1 = bin k 0 := by unfold bin; rw [ch_zero]
theorem bin_last (k : Nat) : digs 1 = bin k k := by unfold bin; rw [ch_self]
theorem ch_le (n : Nat) : ∀ k, ch n k ≤ 2 ^ n := by
  induction n with
  | zero => intro k; cases k with
    | zero => rw [ch_zero]; decide
    | succ k => rw [ch_gt (by omega)]; exact Nat.zero_le _
  | succ n ih =>
    intro k
    cases k with
    | zero => rw [ch_zero]; exact Nat.pow_pos (by decide)
    | succ k => rw [ch_succ, Nat.pow_succ]; have := ih k; have := ih (k + 1); omega
theorem bin_len {n : Nat} (hn : n ≤ 65536) (k : Nat) : (bin n k).length ≤ 65538 := by
  unfold bin
  by_cases h : k ≤ n
  · have := ch_len (n := n) (by omega) k; omega
  · rw [ch_gt (by omega)]; exact Nat.zero_le _

set_option maxRecDepth 100000 in
set_option maxHeartbeats 4000000 in
theorem rnext_any (g cap k : Nat) (B : Nat) (w : World) (h : Nats w B g cap (k + 1) (bin k)) (hk : k ≤ 65536) :
    Calls Try.prog 102 #[.slice (some ⟨g, 0, none⟩) (k + 1) cap] w (RetBin w (k + 1)) := by
  have hcb := h.bnd
  have hcap : cap ≤ 9223372036854775807 := by have := hcb.2; simp only [maxLen] at this; omega
  go_enter Try.func102, Try.ntmps102
  go_wp2_with fail
  refine (rof_any 1 _ (by decide)).mono ?_
  rintro e w1 ⟨a1, n1, c1, rfl, h1, hb1⟩
  rw [bin_zero (k + 1)] at h1
  go_wp2_with fail
  have hN : Nats (w1.alloc (.cells #[.slice a1 n1 c1] 23)) w.heap.size w1.heap.size 1 1 (bin (k + 1)) := (Nats.lit h1 hb1.size).congr (fun i hi => by rw [show i = 0 by omega])
  have hB := below_alloc hb1 (.cells #[.slice a1 n1 c1] 23)
  have hlg := h.lt.2
  go_loopw [3, 4] (fun s3 s4 wr => ∃ (j g' cap' : Nat), 1 ≤ j ∧ j ≤ k + 1 ∧ s3 = .slice (some ⟨g', 0, none⟩) j cap' ∧ s4 = .int .i64 ((j : Nat) : Int) ∧ Nats wr w.heap.size g' cap' j (bin (k + 1)) ∧ Below w.heap.size w wr) (fun _ s4 _ => k + 1 - (intOf s4).toNat)
  case atStart => exact ⟨1, _, _, by omega, by omega, rfl, rfl, hN, hB⟩
  case round =>
    clear hN hB h1 hb1
    obtain ⟨j, g', cap', hj1, hj2, rfl, rfl, hN, hB⟩ := hrel
    have hNl := hN.lt
    by_cases hlt : j < k + 1
    · obtain ⟨p, hp⟩ : ∃ p, p + 1 = j := ⟨j - 1, by omega⟩
      obtain ⟨am, m, cm, hc1, ho1, _⟩ := h.get (i := p) (by omega)
      obtain ⟨an, m2, cn, hc2, ho2, _⟩ := h.get (i := j) hlt
      have ei : (j : Int) - 1 = (p : Int) := by omega
      have b1 : m ≤ 65538 := by rw [← ho1.len]; exact bin_len hk p
      have b2 : m2 ≤ 65538 := by rw [← ho2.len]; exact bin_len hk j
      have ev : digs (val (bin k p) + val (bin k j)) = bin (k + 1) j := by rw [← hp]; exact bin_step k p
      have EV := Lib.hid ev
      have b3 : (0 : Int) ≤ (p : Int) := Int.natCast_nonneg _
      have b4 : (p : Int) < ((k + 1 : Nat) : Int) := by omega
      have b5 : (0 : Int) ≤ (j : Int) := Int.natCast_nonneg _
      have b6 : (j : Int) < ((k + 1 : Nat) : Int) := by omega
      have b7 : (p : Int) < (k : Int) + 1 := by omega
      have b8 : (j : Int) < (k : Int) + 1 := by omega
      have c5 : IntKind.i64.wrap (p : Int) = (p : Int) := IntWalk.i64_in _ (by omega)
      have hB9 : Hid (w.heap.size ≤ wr.heap.size) := Lib.hid hB.size
      have hG9 : Hid (w.heap.size ≤ g' ∧ g' < wr.heap.size) := Lib.hid hNl
      have hM1 : m ≤ 549755813888 := by omega
      have hM2 : m2 ≤ 549755813888 := by omega
      have HM1 := Lib.hid hM1
      have HM2 := Lib.hid hM2
      have hJ : j ≤ 1000000 := by omega
      have HJ := Lib.hid hJ
      have HLG := Lib.hid hlg
      have HN := Lib.hid hN
      have HP := Lib.hid hp
      have q1 := (hB.cell (p := ⟨g, p, none⟩) hlg).trans hc1
      have q2 := (hB.cell (p := ⟨g, j, none⟩) hlg).trans hc2
      clear ev hNl hM1 hM2 hJ hN hp
      go_wp2_with fail
      go_region_held3 (fun w' => (w'.cell? ⟨g, p, none⟩ = some (.slice am m cm) ∧ w'.cell? ⟨g, j, none⟩ = some (.slice an m2 cn)) ∧ Below w.heap.size w w')
        (first
          | assumption
          | exact ⟨⟨q1, q2⟩, hB.drew⟩
          | (rename _ ∧ Below w.heap.size w _ => hT
             first
               | exact ⟨⟨((hP.below hT.2 (Nat.le_trans hB9.out hT8) hG9.out.1).cell (p := ⟨g, p, none⟩) HLG.out).trans hc1, ((hP.below hT.2 (Nat.le_trans hB9.out hT8) hG9.out.1).cell (p := ⟨g, j, none⟩) HLG.out).trans hc2⟩, hP.below hT.2 (Nat.le_trans hB9.out hT8) hG9.out.1⟩
               | exact ⟨⟨((below_later hT.2 hb8).cell (p := ⟨g, p, none⟩) HLG.out).trans hc1, ((below_later hT.2 hb8).cell (p := ⟨g, j, none⟩) HLG.out).trans hc2⟩, below_later hT.2 hb8⟩
               | exact ⟨⟨((below_alloc hT.2 _).cell (p := ⟨g, p, none⟩) HLG.out).trans hc1, ((below_alloc hT.2 _).cell (p := ⟨g, j, none⟩) HLG.out).trans hc2⟩, below_alloc hT.2 _⟩))
        (first
          | (refine step_push_nats ?_ (.tmp 13) (.tmp 24) ?_ w.heap.size g' cap' j (bin (k + 1)) ?_ hN9 w8.heap.size a8 n8 c8 (bin (k + 1) j) ?_ (lit_cell _ _ _) h9 hne8 HJ.out ?_
             rfl
             rfl
             rfl
             rfl
             intro g9 c9 w9 hP)
          | (go_at_call 94; rename _ ∧ Below w.heap.size w _ => hT
             go_fit (radd_any _ _ _ (bin k p) _ _ _ (bin k j) _ (ho1.past hT.2).toNatAt (ho2.past hT.2).toNatAt HM1.out HM2.out)
             rintro e w8 ⟨a8, n8, c8, rfl, h8, hb8⟩
             rw [EV.out] at h8
             have hT8 := (below_alloc (Below.refl w8.heap.size w8) (.cells #[.slice a8 n8 c8] 23)).size
             have hT8 := Nat.le_trans hb8.size hT8
             have hne8 := h8.apart hG9.out.2
             have hN9 := ((HN.out.drew).past hb8).past ((Below.refl w8.heap.size w8).alloc (Nat.le_refl _) (.cells #[.slice a8 n8 c8] 23))
             have h9 := (h8.mono hB9.out).past ((Below.refl w8.heap.size w8).alloc (Nat.le_refl _) (.cells #[.slice a8 n8 c8] 23))))
      all_goals
        rename _ ∧ Below w.heap.size w w9 => hT
        have hN2 : Nats w9 w.heap.size g9 c9 (j + 1) (bin (k + 1)) := hP.row.congr (fun i hi => by by_cases e : i = j <;> simp [e])
        have hB2 := hT.2
        go_wp2
        go_roundw
        case measure => simp [intOf] <;> omega
        case rel => exact ⟨j + 1, _, _, by omega, by omega, rfl, by go_num, hN2, hB2⟩
    · obtain rfl : j = k + 1 := by omega
      have hne9 : Hid (w.heap.size ≤ g' ∧ g' < wr.heap.size) := Lib.hid hNl
      have hk2 : k + 1 ≤ 1000000 := by omega
      clear hNl hj1 hj2 hlt
      go_wp2_with fail
      refine (rof_any 1 _ (by decide)).mono ?_
      rintro e w8 ⟨a8, n8, c8, rfl, h8, hb8⟩
      rw [bin_last (k + 1)] at h8
      have hne8 := h8.apart hne9.out.2
      have hN9 := (hN.past hb8).past ((Below.refl w8.heap.size w8).alloc (Nat.le_refl _) (.cells #[.slice a8 n8 c8] 23))
      have h9 := (h8.mono hB.size).past ((Below.refl w8.heap.size w8).alloc (Nat.le_refl _) (.cells #[.slice a8 n8 c8] 23))
      have hB8 := below_alloc (below_later hB hb8) (.cells #[.slice a8 n8 c8] 23)
      clear hN h8 hb8 hB
      go_wp2_with (at_builtin; refine wpList_push_nats rfl (.tmp 26) (.tmp 28) rfl w.heap.size g' cap' (k + 1) (bin (k + 1)) rfl hN9 w8.heap.size a8 n8 c8 (bin (k + 1) (k + 1)) rfl (lit_cell _ _ _) h9 hne8 hk2 ?_; intro g9 c9 w9 hP)
      go_ret
      exact ⟨g9, c9, rfl, hP.row.congr (fun i hi => by by_cases e : i = k + 1 <;> simp [e]), hP.below hB8 hB8.size hne9.out.1⟩

set_option maxRecDepth 100000 in
theorem rrow_any (n : Nat) (w : World) (hn : n ≤ 65536) :
    Calls Try.prog 85 #[.int .i64 (n : Int)] w (RetBin w n) := by
  go_enter Try.func85, Try.ntmps85
  go_wp2_with fail
  refine (rof_any 1 _ (by decide)).mono ?_
  rintro e w1 ⟨a1, n1, c1, rfl, h1, hb1⟩
  rw [bin_zero 0] at h1
  go_wp2_with fail
  have hN : Nats (w1.alloc (.cells #[.slice a1 n1 c1] 23)) w.heap.size w1.heap.size 1 (0 + 1) (bin 0) := (Nats.lit h1 hb1.size).congr (fun i hi => by rw [show i = 0 by omega])
  have hB := below_alloc hb1 (.cells #[.slice a1 n1 c1] 23)
  go_loopw [3, 4] (fun s3 s4 wr => ∃ (j g cap : Nat), j ≤ n ∧ s3 = .slice (some ⟨g, 0, none⟩) (j + 1) cap ∧ s4 = .int .i64 ((j : Nat) : Int) ∧ Nats wr w.heap.size g cap (j + 1) (bin j) ∧ Below w.heap.size w wr) (fun _ s4 _ => n - (intOf s4).toNat)
  case atStart => exact ⟨0, _, _, by omega, rfl, rfl, hN, hB⟩
  case round =>
    clear hN hB h1 hb1
    obtain ⟨j, g, cap, hj, rfl, rfl, hN, hB⟩ := hrel
    by_cases hlt : j < n
    · go_wp2_with fail
      with_reducible refine (rnext_any g cap j _ _ hN (by omega)).mono ?_
      rintro e w2 ⟨g2, cap2, rfl, hN2, hb2⟩
      have hN2 := hN2.mono hB.size
      have hB2 := below_later hB hb2
      go_wp2
      go_roundw
      case measure => simp [intOf] <;> omega
      case rel => exact ⟨j + 1, _, _, by omega, rfl, by go_num, hN2, hB2⟩
    · obtain rfl : j = n := by omega
      go_wp2
      go_ret
      exact ⟨_, _, rfl, hN, hB⟩

/-! Choose, Falling, Row of the reference -/
set_option maxRecDepth 100000 in
theorem rchoose_no (n k : Int) (w : World) (h : n < 0 ∨ 65536 < n) :
    Calls Try.prog 43 #[.int .i64 n, .int .i64 k] w (RetVal w (.tuple #[.slice none 0 0, .int .i64 3])) := by
  rcases h with h | h
  all_goals
    try have h0 : ¬ n < 0 := by omega
    go_enter Try.func43, Try.ntmps43
    go_wp2
    go_ret2
    exact ⟨rfl, Below.refl _ _⟩
set_option maxRecDepth 100000 in
theorem rchoose_out (n : Nat) (k : Int) (w : World) (hn : n ≤ 65536) (h : k < 0 ∨ (n : Int) < k) :
    Calls Try.prog 43 #[.int .i64 (n : Int), .int .i64 k] w (RetVal w (.tuple #[.slice none 0 0, .int .i64 0])) := by
  have t : (decide ((n : Int) < 0) || decide (65536 < (n : Int))) = false := by simp; omega
  rcases h with h | h
  all_goals
    try have h0 : ¬ k < 0 := by omega
    go_enter Try.func43, Try.ntmps43
    go_wp2
    go_ret2
    exact ⟨rfl, Below.refl _ _⟩
set_option maxRecDepth 100000 in
theorem rchoose_in (n k : Nat) (w : World) (hn : n ≤ 65536) (hk : k ≤ n) :
    Calls Try.prog 43 #[.int .i64 (n : Int), .int .i64 (k : Int)] w (RetNE w (ch n k) 0) := by
  have t : (decide ((n : Int) < 0) || decide (65536 < (n : Int))) = false := by simp; omega
  have t2 : (decide ((k : Int) < 0) || decide ((n : Int) < (k : Int))) = false := by simp; omega
  have b3 : (0 : Int) ≤ (k : Int) := Int.natCast_nonneg _
  have b4 : (k : Int) < (n : Int) + 1 := by omega
  go_enter Try.func43, Try.ntmps43
  go_wp2_with fail
  with_reducible refine (rrow_any n _ hn).mono ?_
  rintro e w2 ⟨g, cap, rfl, hN, hb⟩
  obtain ⟨a, m, c, hc, ho, _⟩ := hN.get (i := k) (by omega)
  go_wp2
  go_ret2
  exact ⟨_, _, _, rfl, ho, hb⟩

set_option maxRecDepth 100000 in
theorem rfalling_no (n k : Int) (w : World) (h : n < 0 ∨ 65536 < n ∨ k < 0) :
    Calls Try.prog 45 #[.int .i64 n, .int .i64 k] w (RetVal w (.tuple #[.slice none 0 0, .int .i64 3])) := by
  by_cases h1 : n < 0
  · go_enter Try.func45, Try.ntmps45
    go_wp2
    go_ret2
    exact ⟨rfl, Below.refl _ _⟩
  · by_cases h2 : 65536 < n
    · go_enter Try.func45, Try.ntmps45
      go_wp2
      go_ret2
      exact ⟨rfl, Below.refl _ _⟩
    · have h3 : k < 0 := by omega
      go_enter Try.func45, Try.ntmps45
      go_wp2
      go_ret2
      exact ⟨rfl, Below.refl _ _⟩
set_option maxRecDepth 100000 in
set_option maxHeartbeats 1000000 in
theorem rfalling_yes (n k : Nat) (w : World) (hn : n ≤ 65536) (hk : k ≤ 9223372036854775807) :
    Calls Try.prog 45 #[.int .i64 (n : Int), .int .i64 (k : Int)] w (RetNE w (fall n k) 0) := by
  have t : (decide ((n : Int) < 0) || decide (65536 < (n : Int))) = false := by simp; omega
  by_cases hkn : n < k
  · rw [fall_gt hkn]
    go_enter Try.func45, Try.ntmps45
    go_wp2
    go_ret2
    exact ⟨_, _, _, rfl, OwnAt.nil _ _, Below.refl _ _⟩
  have hkn2 : k ≤ n := by omega
  go_enter Try.func45, Try.ntmps45
  go_wp2_with fail
  refine (rof_any 1 _ (by decide)).mono ?_
  rintro e w1 ⟨a1, n1, c1, rfl, h1, hb1⟩
  go_wp2_with fail
  go_loopw [6, 7] (fun s6 s7 wr => ∃ (j : Nat) (a : Option Addr) (n' c : Nat), j ≤ k ∧ s6 = .slice a n' c ∧ s7 = .int .i64 ((j : Nat) : Int) ∧ OwnAt wr w.heap.size a n' c (digs (fall n j)) ∧ Below w.heap.size w wr) (fun _ s7 _ => k - (intOf s7).toNat)
  case atStart => exact ⟨0, _, _, _, Nat.zero_le _, rfl, rfl, h1, hb1⟩
  case round =>
    clear h1 hb1
    obtain ⟨j, a, n', c, hj, rfl, rfl, h, hb⟩ := hrel
    have hlen := fall_len (n := n) (by omega) j
    have hl := h.len
    have bn : n' ≤ 65538 := by omega
    clear hlen hl
    by_cases hq : j < k
    · obtain ⟨p, hp⟩ : ∃ p, n - j = p := ⟨_, rfl⟩
      have hpi : (n : Int) - (j : Int) = (p : Int) := by omega
      have hp1 : p ≤ 65536 := by omega
      have hst : digs (val (digs (fall n j)) * p) = digs (fall n (j + 1)) := by rw [val_digs, ← hp]; rfl
      have HST := Lib.hid hst
      clear hst hp
      go_wp2_with fail
      with_reducible refine (rgrow_any _ _ _ (digs (fall n j)) p _ h.toNatAt (by omega) (by omega)).mono ?_
      rintro e w2 ⟨a2, n2, c2, rfl, h2, hb2⟩
      rw [HST.out] at h2
      have h2 := h2.mono hb.size
      have hb3 := below_later hb hb2
      clear hb2 hb h
      go_wp2
      go_roundw
      case measure => simp [intOf] <;> omega
      case rel => exact ⟨j + 1, _, _, _, by omega, rfl, by go_num, h2, hb3⟩
    · obtain rfl : j = k := by omega
      go_wp2
      go_ret2
      exact ⟨_, _, _, rfl, h, hb⟩

/-- A call that tells a row of binomials, and no errno. -/
def RetBinE (w : World) (k : Nat) (e : Ending) (w' : World) : Prop :=
  ∃ g cap, e = .returned (.tuple #[.slice (some ⟨g, 0, none⟩) (k + 1) cap, .int .i64 0]) ∧ Nats w' w.heap.size g cap (k + 1) (bin k) ∧ Below w.heap.size w w'
set_option maxRecDepth 100000 in
theorem rrowE_no (n : Int) (w : World) (h : n < 0 ∨ 1024 < n) :
    Calls Try.prog 47 #[.int .i64 n] w (RetVal w (.tuple #[.slice none 0 0, .int .i64 3])) := by
  rcases h with h | h
  all_goals
    try have h0 : ¬ n < 0 := by omega
    go_enter Try.func47, Try.ntmps47
    go_wp2
    go_ret2
    exact ⟨rfl, Below.refl _ _⟩
set_option maxRecDepth 100000 in
theorem rrowE_yes (n : Nat) (w : World) (hn : n ≤ 1024) :
    Calls Try.prog 47 #[.int .i64 (n : Int)] w (RetBinE w n) := by
  have t : (decide ((n : Int) < 0) || decide (1024 < (n : Int))) = false := by simp; omega
  go_enter Try.func47, Try.ntmps47
  go_wp2_with fail
  with_reducible refine (rrow_any n _ (by omega)).mono ?_
  rintro e w2 ⟨g, cap, rfl, hN, hb⟩
  go_wp2
  go_ret2
  exact ⟨_, _, rfl, hN, hb⟩

end Go.Proofs.Ytdjhgalaianifaa
