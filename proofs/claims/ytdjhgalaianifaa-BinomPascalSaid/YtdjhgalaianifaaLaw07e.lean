/- the laws of binom: BinomPascal. -/
import Derived.Test.YtdjhgalaianifaaLaw07d
import Derived.Test.YtdjhgalaianifaaLimbs8
import Derived.Test.YtdjhgalaianifaaBinom4
import Derived.Test.YtdjhgalaianifaaKit3
set_option linter.unusedVariables false
set_option linter.unusedSimpArgs false
namespace Go.Proofs.Ytdjhgalaianifaa
open Go.RowKit

/-- the first j of a row, together -/
def psum (n : Nat) : Nat → Nat
  | 0 => 0
  | j + 1 => psum n j + ch n j
theorem psum_succ (n : Nat) : ∀ j, psum (n + 1) (j + 1) = psum n (j + 1) + psum n j
  | 0 => by unfold psum psum; simp [ch_zero]
  | j + 1 => by
    have ih := psum_succ n j
    show psum (n + 1) (j + 1) + ch (n + 1) (j + 1) = psum n (j + 1) + ch n (j + 1) + (psum n j + ch n j)
    rw [ih, ch_succ]; omega
theorem psum_all : ∀ n : Nat, psum n (n + 1) = 2 ^ n ∧ psum n (n + 2) = 2 ^ n
  | 0 => by decide
  | n + 1 => by
    obtain ⟨h1, h2⟩ := psum_all n
    have e1 := psum_succ n (n + 1)
    rw [h2, h1] at e1
    have e2 : psum (n + 1) (n + 1 + 1) = 2 ^ (n + 1) := by rw [e1, Nat.pow_succ]; omega
    refine ⟨e2, ?_⟩
    show psum (n + 1) (n + 1 + 1) + ch (n + 1) (n + 1 + 1) = _
    rw [e2, ch_gt (by omega), Nat.add_zero]
theorem psum_le (n : Nat) : ∀ j d, psum n j ≤ psum n (j + d)
  | j, 0 => Nat.le_refl _
  | j, d + 1 => Nat.le_trans (psum_le n j d) (Nat.le_add_right _ _)
theorem two_len : ∀ n : Nat, (digs (2 ^ n)).length ≤ n + 1
  | 0 => show (digs 1).length ≤ 1 from digs_length_le.2 (by decide)
  | n + 1 => by rw [Nat.pow_succ]; exact len_mulN (two_len n) (digs_length_le.2 (by decide))
theorem psum_len {n j : Nat} (h : j ≤ n + 1) (hn : n ≤ 300) : (digs (psum n j)).length ≤ 301 := by
  obtain ⟨d, hd⟩ : ∃ d, j + d = n + 1 := ⟨n + 1 - j, by omega⟩
  have h1 := psum_le n j d
  rw [hd, (psum_all n).1] at h1
  exact Nat.le_trans (digs_len_mono h1) (Nat.le_trans (two_len n) (by omega))

set_option maxRecDepth 100000 in
set_option maxHeartbeats 4000000 in
theorem binomPascal0 (n0 k0 : Int) (w : World) (b1 : -9223372036854775808 ≤ n0) (b2 : n0 ≤ 9223372036854775807) (b3 : -9223372036854775808 ≤ k0) (b4 : k0 ≤ 9223372036854775807)
    (p N M k : Nat) (hp : pickI n0 300 = (p : Int)) (hN : p + 1 = N) (hM : M + 1 = N) (hN3 : N ≤ 300) (hk : pickI k0 ((N : Int) + 1) = (k : Int)) (hkN : k ≤ N) (h0 : k = 0) :
    Calls Try.prog 12 #[.int .i64 n0, .int .i64 k0] w (RetVal w (.bool true)) := by
  have r1 : (1 : Int) + (p : Int) = (N : Int) := by omega
  have r2 : (N : Int) - 1 = (M : Int) := by omega
  obtain ⟨q, hq⟩ : ∃ q, N - k = q := ⟨_, rfl⟩
  have r3 : (N : Int) - (k : Int) = (q : Int) := by omega
  have hqN : q ≤ N := by omega
  have e1 : digs (ch N q) = digs (ch N k) := by rw [← hq, ← ch_symm hkN]
  have HP := Lib.hid hp
  have HK := Lib.hid hk
  have E1 := Lib.hid e1
  have l1 := ch_len (n := M) (by omega) k
  have bk1 : (0 : Int) ≤ (k : Int) := Int.natCast_nonneg _
  have bk2 : (k : Int) < (N : Int) + 1 := by omega
  have r4 : (k : Int) - 1 = -1 := by omega
  have hc : k ≤ M := by omega
  have e2 : digs (val (digs (ch M k)) + val []) = digs (ch N k) := by rw [val_digs, h0, ch_zero, ch_zero]; rfl
  have E2 := Lib.hid e2
  have LC : Hid ((digs (ch M k)).length ≤ 400) := Lib.hid (by omega)
  clear e2 h0
  have HM := Lib.hid hM
  clear hp hk e1 hq hN hM
  go_enter Try.func12, Try.ntmps12
  have hB := Below.refl w.heap.size w
  go_wp2_with fail
  with_reducible refine (binomKnown_any _).mono ?_
  rintro e w1 ⟨rfl, hb⟩
  have hB := below_later hB hb
  clear hb
  go_wp2_with fail
  with_reducible refine (pick_any n0 300 _ b1 b2 (by decide)).mono ?_
  rintro e w' ⟨rfl, rfl⟩
  rw [HP.out]
  go_wp2_with fail
  with_reducible refine (pick_any k0 ((N : Int) + 1) _ b3 b4 (by omega)).mono ?_
  rintro e w' ⟨rfl, rfl⟩
  rw [HK.out]
  go_wp2_with fail
  with_reducible refine (choose_in N k _ (by omega) hkN).mono ?_
  rintro e w2 ⟨ahA, nhA, chA, rfl, hA, hb⟩
  have hB := below_later hB hb
  clear hb
  go_wp2_with fail
  with_reducible refine (choose_in N q _ (by omega) hqN).mono ?_
  rintro e w3 ⟨ahQ, nhQ, chQ, rfl, hQ, hb⟩
  have hA := hA.past hb
  have hB := below_later hB hb
  clear hb
  rw [E1.out] at hQ
  go_wp2_with fail
  with_reducible refine (choose_in M k _ (by omega) hc).mono ?_
  rintro e w4 ⟨ahC, nhC, chC, rfl, hC, hb⟩
  have hA := hA.past hb
  have hQ := hQ.past hb
  have hB := below_later hB hb
  clear hb
  have nC : nhC ≤ 400 := by have := hC.len; have := LC.out; omega
  go_wp2_with fail
  refine (choose_out M (-1) _ (by omega) (.inl (by decide))).mono ?_
  rintro e w5 ⟨rfl, hb⟩
  have hA := hA.past hb
  have hQ := hQ.past hb
  have hC := hC.past hb
  have hB := below_later hB hb
  clear hb
  go_wp2_with fail
  with_reducible refine (rowE_yes N _ (by omega)).mono ?_
  rintro e w6 ⟨gR, cR, rfl, hR, hb⟩
  have hA := hA.past hb
  have hQ := hQ.past hb
  have hC := hC.past hb
  have hB := below_later hB hb
  clear hb
  go_wp2_with fail
  with_reducible refine (sameNat_yes hA.toNatAt hQ.toNatAt).mono ?_
  rintro e w7 ⟨rfl, hb⟩
  have hA := hA.past hb
  have hQ := hQ.past hb
  have hC := hC.past hb
  have hR := hR.past hb
  have hB := below_later hB hb
  clear hb
  go_wp2_with fail
  with_reducible refine (add_any _ _ _ (digs (ch M k)) _ _ _ ([]) _ hC.toNatAt (NatAt.nil _) (by omega) (by omega)).mono ?_
  rintro e w8 ⟨ahS, nhS, chS, rfl, hS, hb⟩
  have hA := hA.past hb
  have hQ := hQ.past hb
  have hC := hC.past hb
  have hR := hR.past hb
  have hB := below_later hB hb
  clear hb
  rw [E2.out] at hS
  go_wp2_with fail
  with_reducible refine (sameNat_yes hA.toNatAt hS.toNatAt).mono ?_
  rintro e w9 ⟨rfl, hb⟩
  have hA := hA.past hb
  have hR := hR.past hb
  have hS := hS.past hb
  have hB := below_later hB hb
  clear hb
  obtain ⟨aL, nL, cL, qL, oL, _⟩ := hR.get (i := k) (by omega)
  go_wp2_with fail
  refine (sameNat_yes (l := digs (ch N k)) oL.toNatAt hA.toNatAt).mono ?_
  rintro e w10 ⟨rfl, hb⟩
  have hA := hA.past hb
  have hR := hR.past hb
  have oL := oL.past hb
  have hB := below_later hB hb
  clear hb
  have kR := hR.bnd
  have hN9 : N ≤ 300 := hN3
  go_wp2_with fail
  go_loopw [16, 17] (fun s16 s17 wq => ∃ (j : Nat) (a : Option Addr) (n c : Nat), j ≤ N + 1 ∧ s16 = .slice a n c ∧ s17 = .int .i64 ((j : Nat) : Int) ∧ OwnAt wq w10.heap.size a n c (digs (psum N j)) ∧ Below w10.heap.size w10 wq) (fun _ s17 _ => N + 1 - (intOf s17).toNat)
  case atStart => exact ⟨0, _, _, _, Nat.zero_le _, rfl, rfl, OwnAt.nil _ _, Below.refl _ _⟩
  case round =>
    obtain ⟨j, a, n, c, hj, rfl, rfl, h, hb⟩ := hrel
    have bn : n ≤ 301 := by rw [← h.len]; exact psum_len hj hN9
    by_cases hlt : j < N + 1
    · obtain ⟨aL, nL, cL, qL, oL, _⟩ := hR.get (i := j) hlt
      have q1 := (hb.cell (p := ⟨gR, j, none⟩) hR.lt.2).trans qL
      have o1 := oL.past hb
      have bL : nL ≤ 65538 := by rw [← oL.len]; exact bin_len (by omega) j
      have z1 : (j : Int) ≤ (N : Int) := by omega
      have z2 : (0 : Int) ≤ (j : Int) := Int.natCast_nonneg _
      have z3 : (j : Int) < (N : Int) + 1 := by omega
      have e : digs (val (digs (psum N j)) + val (bin N j)) = digs (psum N (j + 1)) := by unfold bin; rw [val_digs, val_digs]; rfl
      have E := Lib.hid e
      clear e
      go_wp2_with fail
      with_reducible refine (add_any _ _ _ (digs (psum N j)) _ _ _ (bin N j) _ h.toNatAt o1.toNatAt (by omega) (by omega)).mono ?_
      rintro e w2 ⟨a2, n2, c2, rfl, h2, hb2⟩
      rw [E.out] at h2
      have h2 := h2.mono hb.size
      have hb3 := below_later hb hb2
      clear hb2 hb h q1 o1 qL
      go_wp2
      go_roundw
      case measure => simp [intOf] <;> omega
      case rel => exact ⟨j + 1, _, _, _, by omega, rfl, by go_num, h2, hb3⟩
    · have hjN : j = N + 1 := by omega
      have hz : ¬ (j : Int) ≤ (N : Int) := by omega
      have e3 : digs (psum N j) = digs (val [1] * 2 ^ ((N : Int).toNat)) := by rw [hjN, (psum_all N).1, Int.toNat_natCast, show val [1] = 1 by decide, Nat.one_mul]
      have E3 := Lib.hid e3
      rw [e3] at h
      have hB := below_later hB hb
      have h := h.mono (Nat.le_refl _)
      clear e3 hjN hlt hj hb
      go_wp2_with fail
      obtain ⟨w1, hW, hz0, hb, q, f⟩ := box1g wr (wr.heap.size) (by omega) #[.int .u64 1] 37
      have h0k1 : OwnAt w1 wr.heap.size (some ⟨wr.heap.size, 0, none⟩) 1 1 [1] := by rw [← hW]; exact litG _ _ _ [1] 1 (by omega) rfl rfl (by decide) (by decide)
      rw [hW]
      clear hW
      have h := h.past hb
      have hB := below_later hB hb
      clear hb
      have k1 := h0k1
      clear h0k1
      clear q f
      clear hz0
      refine (shiftUp_clip _ _ _ [1] (N : Int) _ k1.toNatAt (by decide) (by omega) (by omega)).mono ?_
      rintro e w2 ⟨aU, nU, rfl, hU, hb⟩
      have h := h.past hb
      have k1 := k1.past hb
      have hB := below_later hB hb
      clear hb
      go_wp2_with fail
      with_reducible refine (sameNat_yes h.toNatAt hU.toNatAt).mono ?_
      rintro e w3 ⟨rfl, hb⟩
      have h := h.past hb
      have k1 := k1.past hb
      have hU := hU.past hb
      have hB := below_later hB hb
      clear hb
      go_wp2
      go_ret
      exact ⟨rfl, hB⟩

set_option maxRecDepth 100000 in
set_option maxHeartbeats 4000000 in
theorem binomPascal1 (n0 k0 : Int) (w : World) (b1 : -9223372036854775808 ≤ n0) (b2 : n0 ≤ 9223372036854775807) (b3 : -9223372036854775808 ≤ k0) (b4 : k0 ≤ 9223372036854775807)
    (p N M k : Nat) (hp : pickI n0 300 = (p : Int)) (hN : p + 1 = N) (hM : M + 1 = N) (hN3 : N ≤ 300) (hk : pickI k0 ((N : Int) + 1) = (k : Int)) (hkN : k ≤ N) (h0 : 0 < k) (h1 : k < N) :
    Calls Try.prog 12 #[.int .i64 n0, .int .i64 k0] w (RetVal w (.bool true)) := by
  have r1 : (1 : Int) + (p : Int) = (N : Int) := by omega
  have r2 : (N : Int) - 1 = (M : Int) := by omega
  obtain ⟨q, hq⟩ : ∃ q, N - k = q := ⟨_, rfl⟩
  have r3 : (N : Int) - (k : Int) = (q : Int) := by omega
  have hqN : q ≤ N := by omega
  have e1 : digs (ch N q) = digs (ch N k) := by rw [← hq, ← ch_symm hkN]
  have HP := Lib.hid hp
  have HK := Lib.hid hk
  have E1 := Lib.hid e1
  have l1 := ch_len (n := M) (by omega) k
  have bk1 : (0 : Int) ≤ (k : Int) := Int.natCast_nonneg _
  have bk2 : (k : Int) < (N : Int) + 1 := by omega
  obtain ⟨j, hj⟩ : ∃ j, j + 1 = k := ⟨k - 1, by omega⟩
  have r4 : (k : Int) - 1 = (j : Int) := by omega
  have hc : k ≤ M := by omega
  have hd : j ≤ M := by omega
  have e2 : digs (val (digs (ch M k)) + val (digs (ch M j))) = digs (ch N k) := by rw [val_digs, val_digs, ← hM, ← hj, ch_succ, Nat.add_comm]
  have E2 := Lib.hid e2
  have LC : Hid ((digs (ch M k)).length ≤ 400) := Lib.hid (by omega)
  have l2 := ch_len (n := M) (by omega) j
  have LD : Hid ((digs (ch M j)).length ≤ 400) := Lib.hid (by omega)
  clear e2 h0 h1 hj
  have HM := Lib.hid hM
  clear hp hk e1 hq hN hM
  go_enter Try.func12, Try.ntmps12
  have hB := Below.refl w.heap.size w
  go_wp2_with fail
  with_reducible refine (binomKnown_any _).mono ?_
  rintro e w1 ⟨rfl, hb⟩
  have hB := below_later hB hb
  clear hb
  go_wp2_with fail
  with_reducible refine (pick_any n0 300 _ b1 b2 (by decide)).mono ?_
  rintro e w' ⟨rfl, rfl⟩
  rw [HP.out]
  go_wp2_with fail
  with_reducible refine (pick_any k0 ((N : Int) + 1) _ b3 b4 (by omega)).mono ?_
  rintro e w' ⟨rfl, rfl⟩
  rw [HK.out]
  go_wp2_with fail
  with_reducible refine (choose_in N k _ (by omega) hkN).mono ?_
  rintro e w2 ⟨ahA, nhA, chA, rfl, hA, hb⟩
  have hB := below_later hB hb
  clear hb
  go_wp2_with fail
  with_reducible refine (choose_in N q _ (by omega) hqN).mono ?_
  rintro e w3 ⟨ahQ, nhQ, chQ, rfl, hQ, hb⟩
  have hA := hA.past hb
  have hB := below_later hB hb
  clear hb
  rw [E1.out] at hQ
  go_wp2_with fail
  with_reducible refine (choose_in M k _ (by omega) hc).mono ?_
  rintro e w4 ⟨ahC, nhC, chC, rfl, hC, hb⟩
  have hA := hA.past hb
  have hQ := hQ.past hb
  have hB := below_later hB hb
  clear hb
  have nC : nhC ≤ 400 := by have := hC.len; have := LC.out; omega
  go_wp2_with fail
  with_reducible refine (choose_in M j _ (by omega) hd).mono ?_
  rintro e w5 ⟨ahD, nhD, chD, rfl, hD, hb⟩
  have hA := hA.past hb
  have hQ := hQ.past hb
  have hC := hC.past hb
  have hB := below_later hB hb
  clear hb
  have nD : nhD ≤ 400 := by have := hD.len; have := LD.out; omega
  go_wp2_with fail
  with_reducible refine (rowE_yes N _ (by omega)).mono ?_
  rintro e w6 ⟨gR, cR, rfl, hR, hb⟩
  have hA := hA.past hb
  have hQ := hQ.past hb
  have hC := hC.past hb
  have hD := hD.past hb
  have hB := below_later hB hb
  clear hb
  go_wp2_with fail
  with_reducible refine (sameNat_yes hA.toNatAt hQ.toNatAt).mono ?_
  rintro e w7 ⟨rfl, hb⟩
  have hA := hA.past hb
  have hQ := hQ.past hb
  have hC := hC.past hb
  have hD := hD.past hb
  have hR := hR.past hb
  have hB := below_later hB hb
  clear hb
  go_wp2_with fail
  with_reducible refine (add_any _ _ _ (digs (ch M k)) _ _ _ (digs (ch M j)) _ hC.toNatAt hD.toNatAt (by omega) (by omega)).mono ?_
  rintro e w8 ⟨ahS, nhS, chS, rfl, hS, hb⟩
  have hA := hA.past hb
  have hQ := hQ.past hb
  have hC := hC.past hb
  have hD := hD.past hb
  have hR := hR.past hb
  have hB := below_later hB hb
  clear hb
  rw [E2.out] at hS
  go_wp2_with fail
  with_reducible refine (sameNat_yes hA.toNatAt hS.toNatAt).mono ?_
  rintro e w9 ⟨rfl, hb⟩
  have hA := hA.past hb
  have hR := hR.past hb
  have hS := hS.past hb
  have hB := below_later hB hb
  clear hb
  obtain ⟨aL, nL, cL, qL, oL, _⟩ := hR.get (i := k) (by omega)
  go_wp2_with fail
  refine (sameNat_yes (l := digs (ch N k)) oL.toNatAt hA.toNatAt).mono ?_
  rintro e w10 ⟨rfl, hb⟩
  have hA := hA.past hb
  have hR := hR.past hb
  have oL := oL.past hb
  have hB := below_later hB hb
  clear hb
  have kR := hR.bnd
  have hN9 : N ≤ 300 := hN3
  go_wp2_with fail
  go_loopw [16, 17] (fun s16 s17 wq => ∃ (j : Nat) (a : Option Addr) (n c : Nat), j ≤ N + 1 ∧ s16 = .slice a n c ∧ s17 = .int .i64 ((j : Nat) : Int) ∧ OwnAt wq w10.heap.size a n c (digs (psum N j)) ∧ Below w10.heap.size w10 wq) (fun _ s17 _ => N + 1 - (intOf s17).toNat)
  case atStart => exact ⟨0, _, _, _, Nat.zero_le _, rfl, rfl, OwnAt.nil _ _, Below.refl _ _⟩
  case round =>
    obtain ⟨j, a, n, c, hj, rfl, rfl, h, hb⟩ := hrel
    have bn : n ≤ 301 := by rw [← h.len]; exact psum_len hj hN9
    by_cases hlt : j < N + 1
    · obtain ⟨aL, nL, cL, qL, oL, _⟩ := hR.get (i := j) hlt
      have q1 := (hb.cell (p := ⟨gR, j, none⟩) hR.lt.2).trans qL
      have o1 := oL.past hb
      have bL : nL ≤ 65538 := by rw [← oL.len]; exact bin_len (by omega) j
      have z1 : (j : Int) ≤ (N : Int) := by omega
      have z2 : (0 : Int) ≤ (j : Int) := Int.natCast_nonneg _
      have z3 : (j : Int) < (N : Int) + 1 := by omega
      have e : digs (val (digs (psum N j)) + val (bin N j)) = digs (psum N (j + 1)) := by unfold bin; rw [val_digs, val_digs]; rfl
      have E := Lib.hid e
      clear e
      go_wp2_with fail
      with_reducible refine (add_any _ _ _ (digs (psum N j)) _ _ _ (bin N j) _ h.toNatAt o1.toNatAt (by omega) (by omega)).mono ?_
      rintro e w2 ⟨a2, n2, c2, rfl, h2, hb2⟩
      rw [E.out] at h2
      have h2 := h2.mono hb.size
      have hb3 := below_later hb hb2
      clear hb2 hb h q1 o1 qL
      go_wp2
      go_roundw
      case measure => simp [intOf] <;> omega
      case rel => exact ⟨j + 1, _, _, _, by omega, rfl, by go_num, h2, hb3⟩
    · have hjN : j = N + 1 := by omega
      have hz : ¬ (j : Int) ≤ (N : Int) := by omega
      have e3 : digs (psum N j) = digs (val [1] * 2 ^ ((N : Int).toNat)) := by rw [hjN, (psum_all N).1, Int.toNat_natCast, show val [1] = 1 by decide, Nat.one_mul]
      have E3 := Lib.hid e3
      rw [e3] at h
      have hB := below_later hB hb
      have h := h.mono (Nat.le_refl _)
      clear e3 hjN hlt hj hb
      go_wp2_with fail
      obtain ⟨w1, hW, hz0, hb, q, f⟩ := box1g wr (wr.heap.size) (by omega) #[.int .u64 1] 37
      have h0k1 : OwnAt w1 wr.heap.size (some ⟨wr.heap.size, 0, none⟩) 1 1 [1] := by rw [← hW]; exact litG _ _ _ [1] 1 (by omega) rfl rfl (by decide) (by decide)
      rw [hW]
      clear hW
      have h := h.past hb
      have hB := below_later hB hb
      clear hb
      have k1 := h0k1
      clear h0k1
      clear q f
      clear hz0
      refine (shiftUp_clip _ _ _ [1] (N : Int) _ k1.toNatAt (by decide) (by omega) (by omega)).mono ?_
      rintro e w2 ⟨aU, nU, rfl, hU, hb⟩
      have h := h.past hb
      have k1 := k1.past hb
      have hB := below_later hB hb
      clear hb
      go_wp2_with fail
      with_reducible refine (sameNat_yes h.toNatAt hU.toNatAt).mono ?_
      rintro e w3 ⟨rfl, hb⟩
      have h := h.past hb
      have k1 := k1.past hb
      have hU := hU.past hb
      have hB := below_later hB hb
      clear hb
      go_wp2
      go_ret
      exact ⟨rfl, hB⟩

set_option maxRecDepth 100000 in
set_option maxHeartbeats 4000000 in
theorem binomPascal2 (n0 k0 : Int) (w : World) (b1 : -9223372036854775808 ≤ n0) (b2 : n0 ≤ 9223372036854775807) (b3 : -9223372036854775808 ≤ k0) (b4 : k0 ≤ 9223372036854775807)
    (p N M k : Nat) (hp : pickI n0 300 = (p : Int)) (hN : p + 1 = N) (hM : M + 1 = N) (hN3 : N ≤ 300) (hk : pickI k0 ((N : Int) + 1) = (k : Int)) (hkN : k ≤ N) (h1 : k = N) :
    Calls Try.prog 12 #[.int .i64 n0, .int .i64 k0] w (RetVal w (.bool true)) := by
  have r1 : (1 : Int) + (p : Int) = (N : Int) := by omega
  have r2 : (N : Int) - 1 = (M : Int) := by omega
  obtain ⟨q, hq⟩ : ∃ q, N - k = q := ⟨_, rfl⟩
  have r3 : (N : Int) - (k : Int) = (q : Int) := by omega
  have hqN : q ≤ N := by omega
  have e1 : digs (ch N q) = digs (ch N k) := by rw [← hq, ← ch_symm hkN]
  have HP := Lib.hid hp
  have HK := Lib.hid hk
  have E1 := Lib.hid e1
  have l1 := ch_len (n := M) (by omega) k
  have bk1 : (0 : Int) ≤ (k : Int) := Int.natCast_nonneg _
  have bk2 : (k : Int) < (N : Int) + 1 := by omega
  obtain ⟨j, hj⟩ : ∃ j, j + 1 = k := ⟨k - 1, by omega⟩
  have r4 : (k : Int) - 1 = (j : Int) := by omega
  have hc : (M : Int) < (k : Int) := by omega
  have hd : j ≤ M := by omega
  have e2 : digs (val [] + val (digs (ch M j))) = digs (ch N k) := by rw [val_digs, ← hM, ← hj, ch_succ, ch_gt (show M < j + 1 by omega)]; simp [val]
  have E2 := Lib.hid e2
  have l2 := ch_len (n := M) (by omega) j
  have LD : Hid ((digs (ch M j)).length ≤ 400) := Lib.hid (by omega)
  clear e2 h1 hj
  have HM := Lib.hid hM
  clear hp hk e1 hq hN hM
  go_enter Try.func12, Try.ntmps12
  have hB := Below.refl w.heap.size w
  go_wp2_with fail
  with_reducible refine (binomKnown_any _).mono ?_
  rintro e w1 ⟨rfl, hb⟩
  have hB := below_later hB hb
  clear hb
  go_wp2_with fail
  with_reducible refine (pick_any n0 300 _ b1 b2 (by decide)).mono ?_
  rintro e w' ⟨rfl, rfl⟩
  rw [HP.out]
  go_wp2_with fail
  with_reducible refine (pick_any k0 ((N : Int) + 1) _ b3 b4 (by omega)).mono ?_
  rintro e w' ⟨rfl, rfl⟩
  rw [HK.out]
  go_wp2_with fail
  with_reducible refine (choose_in N k _ (by omega) hkN).mono ?_
  rintro e w2 ⟨ahA, nhA, chA, rfl, hA, hb⟩
  have hB := below_later hB hb
  clear hb
  go_wp2_with fail
  with_reducible refine (choose_in N q _ (by omega) hqN).mono ?_
  rintro e w3 ⟨ahQ, nhQ, chQ, rfl, hQ, hb⟩
  have hA := hA.past hb
  have hB := below_later hB hb
  clear hb
  rw [E1.out] at hQ
  go_wp2_with fail
  with_reducible refine (choose_out M (k : Int) _ (by omega) (.inr hc)).mono ?_
  rintro e w4 ⟨rfl, hb⟩
  have hA := hA.past hb
  have hQ := hQ.past hb
  have hB := below_later hB hb
  clear hb
  go_wp2_with fail
  with_reducible refine (choose_in M j _ (by omega) hd).mono ?_
  rintro e w5 ⟨ahD, nhD, chD, rfl, hD, hb⟩
  have hA := hA.past hb
  have hQ := hQ.past hb
  have hB := below_later hB hb
  clear hb
  have nD : nhD ≤ 400 := by have := hD.len; have := LD.out; omega
  go_wp2_with fail
  with_reducible refine (rowE_yes N _ (by omega)).mono ?_
  rintro e w6 ⟨gR, cR, rfl, hR, hb⟩
  have hA := hA.past hb
  have hQ := hQ.past hb
  have hD := hD.past hb
  have hB := below_later hB hb
  clear hb
  go_wp2_with fail
  with_reducible refine (sameNat_yes hA.toNatAt hQ.toNatAt).mono ?_
  rintro e w7 ⟨rfl, hb⟩
  have hA := hA.past hb
  have hQ := hQ.past hb
  have hD := hD.past hb
  have hR := hR.past hb
  have hB := below_later hB hb
  clear hb
  go_wp2_with fail
  with_reducible refine (add_any _ _ _ ([]) _ _ _ (digs (ch M j)) _ (NatAt.nil _) hD.toNatAt (by omega) (by omega)).mono ?_
  rintro e w8 ⟨ahS, nhS, chS, rfl, hS, hb⟩
  have hA := hA.past hb
  have hQ := hQ.past hb
  have hD := hD.past hb
  have hR := hR.past hb
  have hB := below_later hB hb
  clear hb
  rw [E2.out] at hS
  go_wp2_with fail
  with_reducible refine (sameNat_yes hA.toNatAt hS.toNatAt).mono ?_
  rintro e w9 ⟨rfl, hb⟩
  have hA := hA.past hb
  have hR := hR.past hb
  have hS := hS.past hb
  have hB := below_later hB hb
  clear hb
  obtain ⟨aL, nL, cL, qL, oL, _⟩ := hR.get (i := k) (by omega)
  go_wp2_with fail
  refine (sameNat_yes (l := digs (ch N k)) oL.toNatAt hA.toNatAt).mono ?_
  rintro e w10 ⟨rfl, hb⟩
  have hA := hA.past hb
  have hR := hR.past hb
  have oL := oL.past hb
  have hB := below_later hB hb
  clear hb
  have kR := hR.bnd
  have hN9 : N ≤ 300 := hN3
  go_wp2_with fail
  go_loopw [16, 17] (fun s16 s17 wq => ∃ (j : Nat) (a : Option Addr) (n c : Nat), j ≤ N + 1 ∧ s16 = .slice a n c ∧ s17 = .int .i64 ((j : Nat) : Int) ∧ OwnAt wq w10.heap.size a n c (digs (psum N j)) ∧ Below w10.heap.size w10 wq) (fun _ s17 _ => N + 1 - (intOf s17).toNat)
  case atStart => exact ⟨0, _, _, _, Nat.zero_le _, rfl, rfl, OwnAt.nil _ _, Below.refl _ _⟩
  case round =>
    obtain ⟨j, a, n, c, hj, rfl, rfl, h, hb⟩ := hrel
    have bn : n ≤ 301 := by rw [← h.len]; exact psum_len hj hN9
    by_cases hlt : j < N + 1
    · obtain ⟨aL, nL, cL, qL, oL, _⟩ := hR.get (i := j) hlt
      have q1 := (hb.cell (p := ⟨gR, j, none⟩) hR.lt.2).trans qL
      have o1 := oL.past hb
      have bL : nL ≤ 65538 := by rw [← oL.len]; exact bin_len (by omega) j
      have z1 : (j : Int) ≤ (N : Int) := by omega
      have z2 : (0 : Int) ≤ (j : Int) := Int.natCast_nonneg _
      have z3 : (j : Int) < (N : Int) + 1 := by omega
      have e : digs (val (digs (psum N j)) + val (bin N j)) = digs (psum N (j + 1)) := by unfold bin; rw [val_digs, val_digs]; rfl
      have E := Lib.hid e
      clear e
      go_wp2_with fail
      with_reducible refine (add_any _ _ _ (digs (psum N j)) _ _ _ (bin N j) _ h.toNatAt o1.toNatAt (by omega) (by omega)).mono ?_
      rintro e w2 ⟨a2, n2, c2, rfl, h2, hb2⟩
      rw [E.out] at h2
      have h2 := h2.mono hb.size
      have hb3 := below_later hb hb2
      clear hb2 hb h q1 o1 qL
      go_wp2
      go_roundw
      case measure => simp [intOf] <;> omega
      case rel => exact ⟨j + 1, _, _, _, by omega, rfl, by go_num, h2, hb3⟩
    · have hjN : j = N + 1 := by omega
      have hz : ¬ (j : Int) ≤ (N : Int) := by omega
      have e3 : digs (psum N j) = digs (val [1] * 2 ^ ((N : Int).toNat)) := by rw [hjN, (psum_all N).1, Int.toNat_natCast, show val [1] = 1 by decide, Nat.one_mul]
      have E3 := Lib.hid e3
      rw [e3] at h
      have hB := below_later hB hb
      have h := h.mono (Nat.le_refl _)
      clear e3 hjN hlt hj hb
      go_wp2_with fail
      obtain ⟨w1, hW, hz0, hb, q, f⟩ := box1g wr (wr.heap.size) (by omega) #[.int .u64 1] 37
      have h0k1 : OwnAt w1 wr.heap.size (some ⟨wr.heap.size, 0, none⟩) 1 1 [1] := by rw [← hW]; exact litG _ _ _ [1] 1 (by omega) rfl rfl (by decide) (by decide)
      rw [hW]
      clear hW
      have h := h.past hb
      have hB := below_later hB hb
      clear hb
      have k1 := h0k1
      clear h0k1
      clear q f
      clear hz0
      refine (shiftUp_clip _ _ _ [1] (N : Int) _ k1.toNatAt (by decide) (by omega) (by omega)).mono ?_
      rintro e w2 ⟨aU, nU, rfl, hU, hb⟩
      have h := h.past hb
      have k1 := k1.past hb
      have hB := below_later hB hb
      clear hb
      go_wp2_with fail
      with_reducible refine (sameNat_yes h.toNatAt hU.toNatAt).mono ?_
      rintro e w3 ⟨rfl, hb⟩
      have h := h.past hb
      have k1 := k1.past hb
      have hU := hU.past hb
      have hB := below_later hB hb
      clear hb
      go_wp2
      go_ret
      exact ⟨rfl, hB⟩

theorem binomPascal_any (n0 k0 : Int) (w : World) (b1 : -9223372036854775808 ≤ n0) (b2 : n0 ≤ 9223372036854775807) (b3 : -9223372036854775808 ≤ k0) (b4 : k0 ≤ 9223372036854775807) :
    Calls Try.prog 12 #[.int .i64 n0, .int .i64 k0] w (RetVal w (.bool true)) := by
  have hp1 : pickI n0 300 = n0 % 300 := rfl
  obtain ⟨p, hp⟩ := Int.eq_ofNat_of_zero_le (show 0 ≤ pickI n0 300 by rw [hp1]; omega)
  have hp2 : p ≤ 299 := by rw [hp1] at hp; omega
  obtain ⟨N, hN⟩ : ∃ N, p + 1 = N := ⟨_, rfl⟩
  have hk1 : pickI k0 ((N : Int) + 1) = k0 % ((N : Int) + 1) := if_neg (by omega)
  obtain ⟨k, hk⟩ := Int.eq_ofNat_of_zero_le (show 0 ≤ pickI k0 ((N : Int) + 1) by rw [hk1]; exact Int.emod_nonneg _ (by omega))
  have hk2 : k ≤ N := by
    have := Int.emod_lt_of_pos k0 (show 0 < (N : Int) + 1 by omega)
    rw [hk1] at hk
    omega
  rcases Nat.eq_zero_or_pos k with h0 | h0
  · exact binomPascal0 n0 k0 w b1 b2 b3 b4 p N p k hp hN hN (by omega) hk hk2 h0
  · rcases Nat.lt_or_ge k N with h1 | h1
    · exact binomPascal1 n0 k0 w b1 b2 b3 b4 p N p k hp hN hN (by omega) hk hk2 h0 h1
    · exact binomPascal2 n0 k0 w b1 b2 b3 b4 p N p k hp hN hN (by omega) hk hk2 (by omega)

end Go.Proofs.Ytdjhgalaianifaa
