/- the laws of signed: SignedInts. -/
import Derived.Test.YtlljljhiimeajaaLaw04a
set_option linter.unusedVariables false
set_option linter.unusedSimpArgs false
namespace Go.Proofs.Ytlljljhiimeajaa
open Go.RowKit

set_option maxRecDepth 100000 in
set_option maxHeartbeats 8000000 in
theorem signedInts_any (x y : Int) (w : World) (b1 : -9223372036854775808 ≤ x) (b2 : x ≤ 9223372036854775807) (b3 : -9223372036854775808 ≤ y) (b4 : y ≤ 9223372036854775807) :
    Calls Try.prog 13 #[.int .i64 x, .int .i64 y] w (RetVal w (.bool true)) := by
  obtain ⟨p, hp⟩ : ∃ p, x / 8589934592 = p := ⟨_, rfl⟩
  obtain ⟨q, hq⟩ : ∃ q, y / 8589934592 = q := ⟨_, rfl⟩
  have p1 : -1073741824 ≤ p := by omega
  have p2 : p ≤ 1073741823 := by omega
  have q1 : -1073741824 ≤ q := by omega
  have q2 : q ≤ 1073741823 := by omega
  have HP := Lib.hid hp
  have HQ := Lib.hid hq
  have kp : (digs p.natAbs).length ≤ 1 := digs_length_le.2 (by omega)
  have kq : (digs q.natAbs).length ≤ 1 := digs_length_le.2 (by omega)
  have KP := Lib.hid kp
  have KQ := Lib.hid kq
  have P1 : Hid (-9223372036854775808 ≤ p) := Lib.hid (by omega)
  have P2 : Hid (p ≤ 9223372036854775807) := Lib.hid (by omega)
  have Q1 : Hid (-9223372036854775808 ≤ q) := Lib.hid (by omega)
  have Q2 : Hid (q ≤ 9223372036854775807) := Lib.hid (by omega)
  have A1 : Hid (-9223372036854775808 ≤ p + q) := Lib.hid (by omega)
  have A2 : Hid (p + q ≤ 9223372036854775807) := Lib.hid (by omega)
  have S1 : Hid (-9223372036854775808 ≤ p - q) := Lib.hid (by omega)
  have S2 : Hid (p - q ≤ 9223372036854775807) := Lib.hid (by omega)
  have hm : (p * q).natAbs ≤ 1073741824 * 1073741824 := by rw [Int.natAbs_mul]; exact Nat.mul_le_mul (by omega) (by omega)
  have m1 : -9223372036854775808 ≤ p * q := by omega
  have m2 : p * q ≤ 9223372036854775807 := by omega
  have M1 := Lib.hid m1
  have M2 := Lib.hid m2
  have wm : IntKind.i64.wrap (p * q) = p * q := IntWalk.i64_in _ ⟨m1, m2⟩
  clear hp hq kp kq hm m1 m2
  rcases Int.lt_trichotomy x y with hxy | hxy | hxy
  · have sg' : (x - y).sign = -1 := Int.sign_eq_neg_one_of_neg (by omega)
    have SG := Lib.hid sg'
    have hne : (x == y) = false := by simp; omega
    clear sg'
    go_enter Try.func13, Try.ntmps13
    have hB := Below.refl w.heap.size w
    go_wp2_with fail
    with_reducible refine (awake04 _).mono ?_
    rintro e w1 ⟨rfl, hb⟩
    have hB := below_later hB hb
    clear hb
    go_wp2_with fail
    refine (sof_any x _ b1 b2).mono ?_
    rintro e w2 ⟨ah1, nh1, ch1, rfl, h1, hb⟩
    have hB := below_later hB hb
    clear hb
    have kh1 : nh1 ≤ 1 := by rw [← h1.len]; exact digs_length_le.2 (by omega)
    go_wp2_with fail
    with_reducible refine (is04_yes h1.toNatAt b1 b2).mono ?_
    rintro e w3 ⟨rfl, hb⟩
    have h1 := h1.past hb
    have hB := below_later hB hb
    clear hb
    go_wp2_with fail
    refine (sof_any x _ b1 b2).mono ?_
    rintro e w4 ⟨ah1, nh1, ch1, rfl, h1, hb⟩
    have hB := below_later hB hb
    clear hb
    have kh1 : nh1 ≤ 1 := by rw [← h1.len]; exact digs_length_le.2 (by omega)
    go_wp2_with fail
    refine (sof_any y _ b3 b4).mono ?_
    rintro e w5 ⟨ah2, nh2, ch2, rfl, h2, hb⟩
    have h1 := h1.past hb
    have hB := below_later hB hb
    clear hb
    have kh2 : nh2 ≤ 1 := by rw [← h2.len]; exact digs_length_le.2 (by omega)
    go_wp2_with fail
    with_reducible refine (scmp_c h1.toNatAt h2.toNatAt (by omega) (by omega)).mono ?_
    rintro e w6 ⟨rfl, hb⟩
    have h1 := h1.past hb
    have h2 := h2.past hb
    have hB := below_later hB hb
    clear hb
    rw [SG.out]
    go_wp2_with fail
    rw [HP.out, HQ.out]
    with_reducible refine (sof_any p _ P1.out P2.out).mono ?_
    rintro e w7 ⟨ah1, nh1, ch1, rfl, h1, hb⟩
    have hB := below_later hB hb
    clear hb
    have kh1 : nh1 ≤ 1 := by rw [← h1.len]; exact KP.out
    go_wp2_with fail
    with_reducible refine (sof_any q _ Q1.out Q2.out).mono ?_
    rintro e w8 ⟨ah2, nh2, ch2, rfl, h2, hb⟩
    have h1 := h1.past hb
    have hB := below_later hB hb
    clear hb
    have kh2 : nh2 ≤ 1 := by rw [← h2.len]; exact KQ.out
    go_wp2_with fail
    with_reducible refine (sadd_c h1.toNatAt h2.toNatAt (by omega) (by omega)).mono ?_
    rintro e w9 ⟨ah3, nh3, ch3, rfl, h3, hb⟩
    have h1 := h1.past hb
    have h2 := h2.past hb
    have hB := below_later hB hb
    clear hb
    go_wp2_with fail
    with_reducible refine (is04_yes h3.toNatAt A1.out A2.out).mono ?_
    rintro e w10 ⟨rfl, hb⟩
    have h1 := h1.past hb
    have h2 := h2.past hb
    have h3 := h3.past hb
    have hB := below_later hB hb
    clear hb
    go_wp2_with fail
    with_reducible refine (sof_any p _ P1.out P2.out).mono ?_
    rintro e w11 ⟨ah1, nh1, ch1, rfl, h1, hb⟩
    have hB := below_later hB hb
    clear hb
    have kh1 : nh1 ≤ 1 := by rw [← h1.len]; exact KP.out
    go_wp2_with fail
    with_reducible refine (sof_any q _ Q1.out Q2.out).mono ?_
    rintro e w12 ⟨ah2, nh2, ch2, rfl, h2, hb⟩
    have h1 := h1.past hb
    have hB := below_later hB hb
    clear hb
    have kh2 : nh2 ≤ 1 := by rw [← h2.len]; exact KQ.out
    go_wp2_with fail
    with_reducible refine (ssub_c h1.toNatAt h2.toNatAt (by omega) (by omega)).mono ?_
    rintro e w13 ⟨ah3, nh3, ch3, rfl, h3, hb⟩
    have h1 := h1.past hb
    have h2 := h2.past hb
    have hB := below_later hB hb
    clear hb
    go_wp2_with fail
    with_reducible refine (is04_yes h3.toNatAt S1.out S2.out).mono ?_
    rintro e w14 ⟨rfl, hb⟩
    have h1 := h1.past hb
    have h2 := h2.past hb
    have h3 := h3.past hb
    have hB := below_later hB hb
    clear hb
    go_wp2_with fail
    with_reducible refine (sof_any p _ P1.out P2.out).mono ?_
    rintro e w15 ⟨ah1, nh1, ch1, rfl, h1, hb⟩
    have hB := below_later hB hb
    clear hb
    have kh1 : nh1 ≤ 1 := by rw [← h1.len]; exact KP.out
    go_wp2_with fail
    with_reducible refine (sof_any q _ Q1.out Q2.out).mono ?_
    rintro e w16 ⟨ah2, nh2, ch2, rfl, h2, hb⟩
    have h1 := h1.past hb
    have hB := below_later hB hb
    clear hb
    have kh2 : nh2 ≤ 1 := by rw [← h2.len]; exact KQ.out
    go_wp2_with fail
    with_reducible refine (smul_c h1.toNatAt h2.toNatAt (by omega) (by omega)).mono ?_
    rintro e w17 ⟨ah3, nh3, ch3, rfl, h3, hb⟩
    have h1 := h1.past hb
    have h2 := h2.past hb
    have hB := below_later hB hb
    clear hb
    go_wp2_with fail
    with_reducible refine (is04_yes h3.toNatAt M1.out M2.out).mono ?_
    rintro e w18 ⟨rfl, hb⟩
    have h1 := h1.past hb
    have h2 := h2.past hb
    have h3 := h3.past hb
    have hB := below_later hB hb
    clear hb
    go_wp2
    go_ret
    exact ⟨rfl, hB⟩
  · have sg' : (x - y).sign = 0 := by rw [hxy, Int.sub_self]; rfl
    subst hxy
    obtain rfl : q = p := HQ.out.symm.trans HP.out
    have SG := Lib.hid sg'
    clear sg'
    go_enter Try.func13, Try.ntmps13
    have hB := Below.refl w.heap.size w
    go_wp2_with fail
    with_reducible refine (awake04 _).mono ?_
    rintro e w1 ⟨rfl, hb⟩
    have hB := below_later hB hb
    clear hb
    go_wp2_with fail
    refine (sof_any x _ b1 b2).mono ?_
    rintro e w2 ⟨ah1, nh1, ch1, rfl, h1, hb⟩
    have hB := below_later hB hb
    clear hb
    have kh1 : nh1 ≤ 1 := by rw [← h1.len]; exact digs_length_le.2 (by omega)
    go_wp2_with fail
    with_reducible refine (is04_yes h1.toNatAt b1 b2).mono ?_
    rintro e w3 ⟨rfl, hb⟩
    have h1 := h1.past hb
    have hB := below_later hB hb
    clear hb
    go_wp2_with fail
    refine (sof_any x _ b1 b2).mono ?_
    rintro e w4 ⟨ah1, nh1, ch1, rfl, h1, hb⟩
    have hB := below_later hB hb
    clear hb
    have kh1 : nh1 ≤ 1 := by rw [← h1.len]; exact digs_length_le.2 (by omega)
    go_wp2_with fail
    refine (sof_any x _ b1 b2).mono ?_
    rintro e w5 ⟨ah2, nh2, ch2, rfl, h2, hb⟩
    have h1 := h1.past hb
    have hB := below_later hB hb
    clear hb
    have kh2 : nh2 ≤ 1 := by rw [← h2.len]; exact digs_length_le.2 (by omega)
    go_wp2_with fail
    with_reducible refine (scmp_c h1.toNatAt h2.toNatAt (by omega) (by omega)).mono ?_
    rintro e w6 ⟨rfl, hb⟩
    have h1 := h1.past hb
    have h2 := h2.past hb
    have hB := below_later hB hb
    clear hb
    rw [SG.out]
    go_wp2_with fail
    rw [HP.out]
    with_reducible refine (sof_any q _ P1.out P2.out).mono ?_
    rintro e w7 ⟨ah1, nh1, ch1, rfl, h1, hb⟩
    have hB := below_later hB hb
    clear hb
    have kh1 : nh1 ≤ 1 := by rw [← h1.len]; exact KP.out
    go_wp2_with fail
    with_reducible refine (sof_any q _ Q1.out Q2.out).mono ?_
    rintro e w8 ⟨ah2, nh2, ch2, rfl, h2, hb⟩
    have h1 := h1.past hb
    have hB := below_later hB hb
    clear hb
    have kh2 : nh2 ≤ 1 := by rw [← h2.len]; exact KQ.out
    go_wp2_with fail
    with_reducible refine (sadd_c h1.toNatAt h2.toNatAt (by omega) (by omega)).mono ?_
    rintro e w9 ⟨ah3, nh3, ch3, rfl, h3, hb⟩
    have h1 := h1.past hb
    have h2 := h2.past hb
    have hB := below_later hB hb
    clear hb
    go_wp2_with fail
    with_reducible refine (is04_yes h3.toNatAt A1.out A2.out).mono ?_
    rintro e w10 ⟨rfl, hb⟩
    have h1 := h1.past hb
    have h2 := h2.past hb
    have h3 := h3.past hb
    have hB := below_later hB hb
    clear hb
    go_wp2_with fail
    with_reducible refine (sof_any q _ P1.out P2.out).mono ?_
    rintro e w11 ⟨ah1, nh1, ch1, rfl, h1, hb⟩
    have hB := below_later hB hb
    clear hb
    have kh1 : nh1 ≤ 1 := by rw [← h1.len]; exact KP.out
    go_wp2_with fail
    with_reducible refine (sof_any q _ Q1.out Q2.out).mono ?_
    rintro e w12 ⟨ah2, nh2, ch2, rfl, h2, hb⟩
    have h1 := h1.past hb
    have hB := below_later hB hb
    clear hb
    have kh2 : nh2 ≤ 1 := by rw [← h2.len]; exact KQ.out
    go_wp2_with fail
    with_reducible refine (ssub_c h1.toNatAt h2.toNatAt (by omega) (by omega)).mono ?_
    rintro e w13 ⟨ah3, nh3, ch3, rfl, h3, hb⟩
    have h1 := h1.past hb
    have h2 := h2.past hb
    have hB := below_later hB hb
    clear hb
    go_wp2_with fail
    with_reducible refine (is04_yes (x := 0) (by have := h3.toNatAt; rwa [Int.sub_self] at this) (by decide) (by decide)).mono ?_
    rintro e w14 ⟨rfl, hb⟩
    have h1 := h1.past hb
    have h2 := h2.past hb
    have h3 := h3.past hb
    have hB := below_later hB hb
    clear hb
    go_wp2_with fail
    with_reducible refine (sof_any q _ P1.out P2.out).mono ?_
    rintro e w15 ⟨ah1, nh1, ch1, rfl, h1, hb⟩
    have hB := below_later hB hb
    clear hb
    have kh1 : nh1 ≤ 1 := by rw [← h1.len]; exact KP.out
    go_wp2_with fail
    with_reducible refine (sof_any q _ Q1.out Q2.out).mono ?_
    rintro e w16 ⟨ah2, nh2, ch2, rfl, h2, hb⟩
    have h1 := h1.past hb
    have hB := below_later hB hb
    clear hb
    have kh2 : nh2 ≤ 1 := by rw [← h2.len]; exact KQ.out
    go_wp2_with fail
    with_reducible refine (smul_c h1.toNatAt h2.toNatAt (by omega) (by omega)).mono ?_
    rintro e w17 ⟨ah3, nh3, ch3, rfl, h3, hb⟩
    have h1 := h1.past hb
    have h2 := h2.past hb
    have hB := below_later hB hb
    clear hb
    go_wp2_with fail
    with_reducible refine (is04_yes h3.toNatAt M1.out M2.out).mono ?_
    rintro e w18 ⟨rfl, hb⟩
    have h1 := h1.past hb
    have h2 := h2.past hb
    have h3 := h3.past hb
    have hB := below_later hB hb
    clear hb
    go_wp2
    go_ret
    exact ⟨rfl, hB⟩
  · have sg' : (x - y).sign = 1 := Int.sign_eq_one_of_pos (by omega)
    have SG := Lib.hid sg'
    have hne : (x == y) = false := by simp; omega
    have hnl : ¬ x < y := by omega
    clear sg' hxy
    go_enter Try.func13, Try.ntmps13
    have hB := Below.refl w.heap.size w
    go_wp2_with fail
    with_reducible refine (awake04 _).mono ?_
    rintro e w1 ⟨rfl, hb⟩
    have hB := below_later hB hb
    clear hb
    go_wp2_with fail
    refine (sof_any x _ b1 b2).mono ?_
    rintro e w2 ⟨ah1, nh1, ch1, rfl, h1, hb⟩
    have hB := below_later hB hb
    clear hb
    have kh1 : nh1 ≤ 1 := by rw [← h1.len]; exact digs_length_le.2 (by omega)
    go_wp2_with fail
    with_reducible refine (is04_yes h1.toNatAt b1 b2).mono ?_
    rintro e w3 ⟨rfl, hb⟩
    have h1 := h1.past hb
    have hB := below_later hB hb
    clear hb
    go_wp2_with fail
    refine (sof_any x _ b1 b2).mono ?_
    rintro e w4 ⟨ah1, nh1, ch1, rfl, h1, hb⟩
    have hB := below_later hB hb
    clear hb
    have kh1 : nh1 ≤ 1 := by rw [← h1.len]; exact digs_length_le.2 (by omega)
    go_wp2_with fail
    refine (sof_any y _ b3 b4).mono ?_
    rintro e w5 ⟨ah2, nh2, ch2, rfl, h2, hb⟩
    have h1 := h1.past hb
    have hB := below_later hB hb
    clear hb
    have kh2 : nh2 ≤ 1 := by rw [← h2.len]; exact digs_length_le.2 (by omega)
    go_wp2_with fail
    with_reducible refine (scmp_c h1.toNatAt h2.toNatAt (by omega) (by omega)).mono ?_
    rintro e w6 ⟨rfl, hb⟩
    have h1 := h1.past hb
    have h2 := h2.past hb
    have hB := below_later hB hb
    clear hb
    rw [SG.out]
    go_wp2_with fail
    rw [HP.out, HQ.out]
    with_reducible refine (sof_any p _ P1.out P2.out).mono ?_
    rintro e w7 ⟨ah1, nh1, ch1, rfl, h1, hb⟩
    have hB := below_later hB hb
    clear hb
    have kh1 : nh1 ≤ 1 := by rw [← h1.len]; exact KP.out
    go_wp2_with fail
    with_reducible refine (sof_any q _ Q1.out Q2.out).mono ?_
    rintro e w8 ⟨ah2, nh2, ch2, rfl, h2, hb⟩
    have h1 := h1.past hb
    have hB := below_later hB hb
    clear hb
    have kh2 : nh2 ≤ 1 := by rw [← h2.len]; exact KQ.out
    go_wp2_with fail
    with_reducible refine (sadd_c h1.toNatAt h2.toNatAt (by omega) (by omega)).mono ?_
    rintro e w9 ⟨ah3, nh3, ch3, rfl, h3, hb⟩
    have h1 := h1.past hb
    have h2 := h2.past hb
    have hB := below_later hB hb
    clear hb
    go_wp2_with fail
    with_reducible refine (is04_yes h3.toNatAt A1.out A2.out).mono ?_
    rintro e w10 ⟨rfl, hb⟩
    have h1 := h1.past hb
    have h2 := h2.past hb
    have h3 := h3.past hb
    have hB := below_later hB hb
    clear hb
    go_wp2_with fail
    with_reducible refine (sof_any p _ P1.out P2.out).mono ?_
    rintro e w11 ⟨ah1, nh1, ch1, rfl, h1, hb⟩
    have hB := below_later hB hb
    clear hb
    have kh1 : nh1 ≤ 1 := by rw [← h1.len]; exact KP.out
    go_wp2_with fail
    with_reducible refine (sof_any q _ Q1.out Q2.out).mono ?_
    rintro e w12 ⟨ah2, nh2, ch2, rfl, h2, hb⟩
    have h1 := h1.past hb
    have hB := below_later hB hb
    clear hb
    have kh2 : nh2 ≤ 1 := by rw [← h2.len]; exact KQ.out
    go_wp2_with fail
    with_reducible refine (ssub_c h1.toNatAt h2.toNatAt (by omega) (by omega)).mono ?_
    rintro e w13 ⟨ah3, nh3, ch3, rfl, h3, hb⟩
    have h1 := h1.past hb
    have h2 := h2.past hb
    have hB := below_later hB hb
    clear hb
    go_wp2_with fail
    with_reducible refine (is04_yes h3.toNatAt S1.out S2.out).mono ?_
    rintro e w14 ⟨rfl, hb⟩
    have h1 := h1.past hb
    have h2 := h2.past hb
    have h3 := h3.past hb
    have hB := below_later hB hb
    clear hb
    go_wp2_with fail
    with_reducible refine (sof_any p _ P1.out P2.out).mono ?_
    rintro e w15 ⟨ah1, nh1, ch1, rfl, h1, hb⟩
    have hB := below_later hB hb
    clear hb
    have kh1 : nh1 ≤ 1 := by rw [← h1.len]; exact KP.out
    go_wp2_with fail
    with_reducible refine (sof_any q _ Q1.out Q2.out).mono ?_
    rintro e w16 ⟨ah2, nh2, ch2, rfl, h2, hb⟩
    have h1 := h1.past hb
    have hB := below_later hB hb
    clear hb
    have kh2 : nh2 ≤ 1 := by rw [← h2.len]; exact KQ.out
    go_wp2_with fail
    with_reducible refine (smul_c h1.toNatAt h2.toNatAt (by omega) (by omega)).mono ?_
    rintro e w17 ⟨ah3, nh3, ch3, rfl, h3, hb⟩
    have h1 := h1.past hb
    have h2 := h2.past hb
    have hB := below_later hB hb
    clear hb
    go_wp2_with fail
    with_reducible refine (is04_yes h3.toNatAt M1.out M2.out).mono ?_
    rintro e w18 ⟨rfl, hb⟩
    have h1 := h1.past hb
    have h2 := h2.past hb
    have h3 := h3.past hb
    have hB := below_later hB hb
    clear hb
    go_wp2
    go_ret
    exact ⟨rfl, hB⟩

end Go.Proofs.Ytlljljhiimeajaa
