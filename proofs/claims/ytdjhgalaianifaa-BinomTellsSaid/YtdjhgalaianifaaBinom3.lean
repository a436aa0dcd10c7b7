/- binom, third part: the rows of the program. -/
import Derived.Test.YtdjhgalaianifaaNats2
import Derived.Test.YtdjhgalaianifaaBinom2
import Derived.Deep.RegionHeld3
import Derived.Deep.RegionWith
import Derived.Deep.DeepFit
set_option linter.unusedVariables false
set_option linter.unusedSimpArgs false
namespace Go.Proofs.Ytdjhgalaianifaa
open Go.RowKit

set_option maxRecDepth 100000 in
theorem rowE_no (n : Int) (w : World) (h : n < 0 ∨ 1024 < n) :
    Calls Try.prog 46 #[.int .i64 n] w (RetVal w (.tuple #[.slice none 0 0, .int .i64 3])) := by
  rcases h with h | h
  all_goals
    try have h0 : ¬ n < 0 := by omega
    go_enter Try.func46, Try.ntmps46
    go_wp2
    go_ret2
    exact ⟨rfl, Below.refl _ _⟩

/-- the row, on its way to the next one -/
def mid (j i t : Nat) : List Nat := if t < i then bin (j + 1) t else if t = j + 1 then [] else bin j t

theorem mid_sum {j i : Nat} (h : i < j + 1 + 1) : digs (val (mid j i i) + val (if i = 0 then [] else bin j (i - 1))) = bin (j + 1) i := by
  unfold mid
  rw [if_neg (Nat.lt_irrefl i)]
  by_cases h0 : i = 0
  · subst h0
    rw [if_neg (by omega), if_pos rfl]
    unfold bin
    rw [val_digs, ch_zero, ch_zero]; rfl
  · rw [if_neg h0]
    by_cases h1 : i = j + 1
    · subst h1
      rw [if_pos rfl, Nat.add_sub_cancel]
      unfold bin
      rw [val_digs, ch_self, ch_self]; rfl
    · rw [if_neg h1]
      obtain ⟨p, rfl⟩ : ∃ p, i = p + 1 := ⟨i - 1, by omega⟩
      rw [Nat.add_sub_cancel, Nat.add_comm]
      exact bin_step j p
theorem mid_len {j i t : Nat} (hj : j + 1 ≤ 65536) : (mid j i t).length ≤ 65538 := by
  unfold mid
  split
  · exact bin_len hj t
  · split
    · exact Nat.zero_le _
    · exact bin_len (by omega) t
theorem sh_len {j i : Nat} (hj : j + 1 ≤ 65536) : (if i = 0 then ([] : List Nat) else bin j (i - 1)).length ≤ 65538 := by
  split
  · exact Nat.zero_le _
  · exact bin_len (by omega) _

/-- A call that tells a row of binomials that lie apart from one another, and no errno. -/
def RetBinA (w : World) (k : Nat) (e : Ending) (w' : World) : Prop :=
  ∃ g cap, e = .returned (.tuple #[.slice (some ⟨g, 0, none⟩) (k + 1) cap, .int .i64 0]) ∧ Nats w' w.heap.size g cap (k + 1) (bin k) ∧ ApartAt w' g (k + 1) ∧ Below w.heap.size w w'

set_option maxRecDepth 100000 in
set_option maxHeartbeats 4000000 in
theorem rowA_yes (n : Nat) (w : World) (hn : n ≤ 1024) :
    Calls Try.prog 46 #[.int .i64 (n : Int)] w (RetBinA w n) := by
  have t : (decide ((n : Int) < 0) || decide (1024 < (n : Int))) = false := by simp; omega
  obtain ⟨i0, hi0, hz0, hz1, hz2⟩ := info_parts nat_info
  go_enter Try.func46, Try.ntmps46
  go_wp2_with fail
  refine (of_any 1 _ (by decide)).mono ?_
  rintro e w1 ⟨a1, n1, c1, rfl, h1, hb1⟩
  rw [bin_zero 0] at h1
  go_wp2_with fail
  have hN : Nats (w1.alloc (.cells #[.slice a1 n1 c1] 23)) w.heap.size w1.heap.size 1 (0 + 1) (bin 0) := (Nats.lit h1 hb1.size).congr (fun i hi => by rw [show i = 0 by omega])
  have hB := below_alloc hb1 (.cells #[.slice a1 n1 c1] 23)
  go_loopw [4, 16] (fun s4 s16 wr => ∃ (j g cap : Nat), j ≤ n ∧ s4 = .slice (some ⟨g, 0, none⟩) (j + 1) cap ∧ s16 = .int .i64 ((j : Nat) : Int) ∧ Nats wr w.heap.size g cap (j + 1) (bin j) ∧ ApartAt wr g (j + 1) ∧ Below w.heap.size w wr) (fun _ s16 _ => n - (intOf s16).toNat)
  case atStart => exact ⟨0, _, _, by omega, rfl, rfl, hN, ApartAt.few (by decide), hB⟩
  case round =>
    clear hN hB h1 hb1
    obtain ⟨j, g, cap, hj, rfl, rfl, hN, hAp, hB⟩ := hrel
    by_cases hlt : j < n
    · obtain ⟨N, hNN⟩ : ∃ N, j + 1 + 1 = N := ⟨_, rfl⟩
      have hw : ((j : Nat) : Int) + 1 + 1 = (N : Int) := by omega
      have hBS : Hid (w.heap.size ≤ wr.heap.size) := Lib.hid hB.size
      go_wp2_with (at_make; refine wpList_make_full _ rfl _ _ 51 rfl wr.heap.size 23 i0 (.slice none 0 0) 1 Try.underlying51 hi0 hz0 hz1 .i64 .i64 _ _ N rfl rfl rfl rfl (by rw [hz2]; omega) (by simp only [maxLen]; omega) (Nat.le_refl _) ?_; intro w3 hr3 hg3)
      have hw1 : (wr.drew).heap.size = wr.heap.size := rfl
      have hb3 : Below wr.heap.size wr w3 := (Below.refl _ _).grown hg3 (Nat.le_refl _) (fun k e => by cases e)
      have hrow : w3.ownsRow w.heap.size 23 1 (.slice (some ⟨wr.heap.size, 0, none⟩) (j + 1 + 1) (j + 1 + 1)) (j + 1 + 1) (List.replicate (j + 1 + 1) (.slice none 0 0)) := by
        have h := ownsRow_from hr3 hB.size
        rw [Nat.mul_one, show (Value.slice none 0 0).cells = #[.slice none 0 0] from rfl, toList_madeCells_one] at h
        rw [hNN]; exact h
      have hNl := hN.lt
      have hN3 := hN.past hb3
      have hB3 := below_later hB hb3
      obtain ⟨w4, hcp, hN4, hR4, hg4⟩ := copy_rows hN3 (Nat.succ_pos j) hrow (Nat.ne_of_lt hNl.2) (fun i hi a m c hc => by
        obtain ⟨a', m', c', hc', ho, _⟩ := hN.get hi
        rw [hb3.cell (p := ⟨g, i, none⟩) hNl.2, hc'] at hc
        cases hc
        exact ho.ltBlock.imp id fun h x hx => Nat.ne_of_lt (h x hx)) 3
      have hB4 : Below w.heap.size w w4 := hB3.grown hg4 hB3.size (fun k e => by cases e; exact hB.size)
      have hsz4 : wr.heap.size < w4.heap.size := Nat.lt_of_lt_of_le hR4.lt.2 (Nat.le_refl _)
      rw [show N - 1 = j + 1 by omega, hcp]
      have hal := (Below.refl w4.heap.size w4).alloc (Nat.le_refl _) (.cells #[.slice none 0 0] 23)
      have hN5 := hN4.past hal
      have hR5 := hR4.past hal
      have hB5 := below_alloc hB4 (.cells #[.slice none 0 0] 23)
      have hj2 : j + 1 ≤ 1000000 := by omega
      clear hcp hg4 hN3 hrow hr3 hg3 hb3 hN hB3 hN4 hR4 hal
      go_wp2_with (at_builtin; refine wpList_push_nats rfl (.tmp 26) (.tmp 27) rfl w.heap.size g cap (j + 1) (bin j) rfl hN5 w4.heap.size none 0 0 [] rfl (lit_cell _ _ _) (OwnAt.nil _ _) (.inl rfl) hj2 ?_; intro g9 c9 w9 hP)
      have hR9 := hR5.pushed hP (by simp) (Nat.ne_of_gt hNl.2)
      have hg9 : g9 ≠ wr.heap.size := by
        rcases hP.where_ with h | h
        · rw [h]; exact Nat.ne_of_lt hNl.2
        · rw [h]; simp; omega
      have hN9 : Nats w9 w.heap.size g9 c9 (j + 1 + 1) (mid j 0) := hP.row.congr (fun i hi => by unfold mid; rw [if_neg (Nat.not_lt_zero i)])
      have hB9 := hP.below hB5 hB5.size hNl.1
      rw [hNN] at hN9 hR9
      have HG9 := Lib.hid hg9
      have hNe : Hid (j + 1 + 1 = N) := Lib.hid hNN
      have hjn : Hid (j < n ∧ n ≤ 1024) := Lib.hid ⟨hlt, hn⟩
      have hGS := Lib.hid hR9.lt
      clear hP hR5 hN5 hB5 hB4 hNl hB hg9 hNN hsz4 hw1 hAp
      generalize wr.heap.size = gs at *
      go_loopw [6, 31] (fun s6 s31 wq => ∃ (i : Nat), i ≤ N ∧ s31 = .int .i64 ((i : Nat) : Int) ∧ Nats wq w.heap.size g9 c9 N (mid j i) ∧ ApartAt wq g9 i ∧ Rows wq w.heap.size gs N N (fun i => if i = 0 then [] else bin j (i - 1)) [g, gs] ∧ Below w.heap.size w wq) (fun _ s31 _ => N - (intOf s31).toNat)
      case atStart => exact ⟨0, Nat.zero_le _, rfl, hN9, ApartAt.few (by decide), hR9, hB9⟩
      case round =>
        clear hN9 hR9 hB9
        obtain ⟨i, hi, rfl, hN, hAp, hR, hB⟩ := hrel
        by_cases hlt2 : i < N
        · obtain ⟨a, m, c, hc1, ho1, _⟩ := hN.get hlt2
          obtain ⟨a2, m2, c2, hc2, ho2⟩ := hR.get hlt2
          have hfz := hN.frozen i
          have hl1 := hN.lt
          have hl2 := hR.lt
          have b1 : m ≤ 65538 := by rw [← ho1.len]; exact mid_len (by have := hjn.out; omega)
          have b2 : m2 ≤ 65538 := by rw [← ho2.len]; exact sh_len (by have := hjn.out; omega)
          have ev := mid_sum (j := j) (i := i) (by have := hNe.out; omega)
          have EV := Lib.hid ev
          have b3 : (0 : Int) ≤ (i : Int) := Int.natCast_nonneg _
          have b4 : (i : Int) < (N : Int) := by omega
          have hM1 : Hid (m ≤ 549755813888) := Lib.hid (by omega)
          have hM2 : Hid (m2 ≤ 549755813888) := Lib.hid (by omega)
          have HL1 := Lib.hid hl1
          have HN := Lib.hid hN
          have HR := Lib.hid hR
          have HAP := Lib.hid hAp
          have HLT := Lib.hid hlt2
          have hB9 : Hid (w.heap.size ≤ wr.heap.size) := Lib.hid hB.size
          clear ev hl1 hl2 hN hR hAp
          go_wp2_with fail
          go_region_with (first
              | (go_at_call 37
                 go_fit (add_any _ _ _ (mid j i i) _ _ _ (if i = 0 then [] else bin j (i - 1)) _ (ho1.past (Below.refl _ _).drew).toNatAt (ho2.past (Below.refl _ _).drew).toNatAt hM1.out hM2.out)
                 rintro e w8 ⟨a8, n8, c8, rfl, h8, hb8⟩
                 rw [EV.out] at h8
                 have h0 := h8
                 have hq8 := (hb8.cell (p := ⟨g9, i, none⟩) HL1.out.2).trans hc1
                 have hf8 := (hb8.frozen (p := ⟨g9, i, none⟩) HL1.out.2).trans hfz
                 have hN8 := HN.out.drew.past hb8
                 have hR8 := HR.out.drew.past hb8
                 have hne8 := h8.apart HL1.out.2
                 have h8 := h8.mono hB9.out))
          all_goals
            have hA8 : ApartAt (w8.setCell ⟨g9, i, none⟩ (.slice a8 n8 c8)) g9 (i + 1) := by
              have hsame : ∀ t, w8.cell? ⟨g9, t, none⟩ = wr.cell? ⟨g9, t, none⟩ := fun t => hb8.cell (p := ⟨g9, t, none⟩) HL1.out.2
              refine (HAP.out.same (fun t _ => hsame t)).snoc hq8 (fun s hs a2 m2 c2 hc => ?_)
              obtain ⟨a', m', c', hc', ho', _⟩ := HN.out.get (i := s) (by have := HLT.out; omega)
              rw [hsame s, hc'] at hc
              cases hc
              rcases h0.own with z | ⟨b', o', rfl, hge, _⟩
              · exact .inl z
              · rcases ho'.ltBlock with z | hlt'
                · exact .inr (.inl z)
                · refine .inr (.inr fun x y hx hy e => ?_)
                  cases hx
                  have h1 := hlt' y hy
                  have h2 : wr.heap.size ≤ b' := hge
                  have h3 : b' = y.block := e
                  omega
            have hB2 := (below_later hB.drew hb8).setCell (p := ⟨g9, i, none⟩) HL1.out.1 (.slice a8 n8 c8)
            have hN2 := (hN8.set HLT.out h8 hne8).congr (f' := mid j (i + 1)) (fun t ht => by
              by_cases e : t = i
              · subst e; rw [if_pos rfl]; unfold mid; rw [if_pos (Nat.lt_succ_self t)]
              · rw [if_neg e]; unfold mid; by_cases e2 : t < i
                · rw [if_pos e2, if_pos (by omega)]
                · have e3 : ¬ t < i + 1 := by omega
                  rw [if_neg e2, if_neg e3])
            have hR2 := hR8.store (p := ⟨g9, i, none⟩) HG9.out hq8 (notU_slice _ _ _) (.slice a8 n8 c8)
            clear hq8 hf8 hN8 hR8 h0
            go_wp2
            go_roundw
            case measure => simp [intOf] <;> omega
            case rel => exact ⟨i + 1, by omega, by go_num, hN2, hA8, hR2, hB2⟩
        · obtain rfl : N = i := by omega
          have hN2 : Nats wr w.heap.size g9 c9 (j + 1 + 1) (bin (j + 1)) := by
            rw [hNe.out]
            exact hN.congr (fun t ht => by unfold mid; rw [if_pos ht])
          have hjn2 : j + 1 ≤ n := hjn.out.1
          have hNe3 : Hid (N = j + 1 + 1) := Lib.hid hNe.out.symm
          clear hN hR hi hlt2
          go_wp2
          go_roundw
          case measure => have := hjn.out.1; simp [intOf] <;> omega
          case rel => exact ⟨j + 1, _, _, hjn2, by rw [hNe3.out], by go_num, hN2, (by rw [← hNe3.out]; exact hAp), hB⟩
    · obtain rfl : j = n := by omega
      go_wp2
      go_ret2
      exact ⟨_, _, rfl, hN, hAp, hB⟩
theorem rowE_yes (n : Nat) (w : World) (hn : n ≤ 1024) :
    Calls Try.prog 46 #[.int .i64 (n : Int)] w (RetBinE w n) :=
  (rowA_yes n w hn).mono fun e w' ⟨g, cap, h1, h2, _, h3⟩ => ⟨g, cap, h1, h2, h3⟩

end Go.Proofs.Ytdjhgalaianifaa
