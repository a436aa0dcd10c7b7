/- the laws of chance: met, weigh. -/
import Derived.Test.YtlkoenpdmlbhlaaLaw24b
set_option linter.unusedVariables false
set_option linter.unusedSimpArgs false
namespace Go.Proofs.Ytlkoenpdmlbhlaa
open Go.RowKit

/-- how many of the first u bits are set -/
def metN (s : Nat) : Nat → Nat
  | 0 => 0
  | u + 1 => metN s u + s / 2 ^ u % 2
theorem metN_le (s : Nat) : ∀ u, metN s u ≤ u
  | 0 => Nat.le_refl _
  | u + 1 => by have := metN_le s u; show metN s u + s / 2 ^ u % 2 ≤ u + 1; omega

set_option maxRecDepth 100000 in
set_option maxHeartbeats 4000000 in
theorem met24 (s u : Nat) (w : World) (hs : s < 64) (hu : u ≤ 6) : Calls Try.prog 32 #[.int .i64 (s : Int), .int .i64 (u : Int)] w (RetVal w (.int .i64 (metN s u : Int))) := by
  go_enter Try.func32, Try.ntmps32
  go_wp2
  go_loopw [5, 6] (fun x i wr => ∃ (k : Nat), k ≤ u ∧ x = .int .i64 (metN s k : Int) ∧ i = .int .i64 ((k : Nat) : Int) ∧ wr = w) (fun x i _ => u - (intOf i).toNat)
  case atStart => exact ⟨0, Nat.zero_le _, rfl, rfl, rfl⟩
  case round =>
    obtain ⟨k, hk, rfl, rfl, rfl⟩ := hrel
    by_cases hlt : k < u
    · have hm := metN_le s k
      obtain ⟨M, hM⟩ : ∃ M, metN s k = M := ⟨_, rfl⟩
      rw [hM] at hm ⊢
      have hb : s / 2 ^ k % 2 < 2 := Nat.mod_lt _ (by decide)
      have e1 : ((s : Int) / 2 ^ k).tmod 2 = ((s / 2 ^ k % 2 : Nat) : Int) := by
        have e : (s : Int) / 2 ^ k = ((s / 2 ^ k : Nat) : Int) := by simp
        rw [e]
        rfl
      have hS : metN s (k + 1) = M + s / 2 ^ k % 2 := by rw [← hM]; rfl
      obtain ⟨R, hR⟩ : ∃ R, s / 2 ^ k % 2 = R := ⟨_, rfl⟩
      rw [hR] at e1 hS hb
      have HS := Lib.hid hS
      clear hM hS hR
      go_wp2
      refine ⟨⟨k + 1, by omega, ?_, by go_num, trivial⟩, by simp [intOf]; omega⟩
      rw [HS.out, Int.natCast_add]
    · obtain rfl : k = u := by omega
      go_wp2
      go_ret
      exact ⟨rfl, Below.refl _ _⟩

/-- the chance of one set, as bits: its degree's weight over the total, and over how many sets of that degree there are -/
def degQ (zs : List Int) (k d : Nat) : Rat := if 1 ≤ d ∧ d ≤ zs.length then mkRat (zs.getD (d - 1) 0) (totS (fun i => zs.getD i 0) zs.length).toNat / mkRat (ch k d : Int) 1 else 0
def weighQ (zs : List Int) (k s : Nat) : Rat := degQ zs k (metN s k)
theorem make_natX {x : Int} {d : Nat} {q : Rat} {a : Option Addr} {n c : Nat} {a2 : Option Addr} {n2 c2 : Nat} {w : World} (g1 : NatAt w a n c (digs x.natAbs)) (g2 : NatAt w a2 n2 c2 [d]) (hd : d ≠ 0) (hq : mkRat x d = q) (hs : n ≤ 68719476736) :
    Calls Try.prog 47 #[.agg #[.bool (neg x), .slice a n c], .slice a2 n2 c2] w (RetOk w q) := by
  have h := make05_any (neg x) a n c _ a2 n2 c2 _ w g1 g2 hs (by have := g2.len; simp at this; omega)
  have e : makeR (neg x) (digs x.natAbs) [d] = .ok q := by
    unfold makeR
    have hv : val [d] = d := by simp [val]
    rw [if_neg (by rw [chkZ_canon]; simp), if_neg (by rw [hv]; exact hd), sg_canon, hv, hq]
  rw [e] at h
  exact h
set_option maxRecDepth 100000 in
set_option maxHeartbeats 4000000 in
theorem weigh_off (a : Option Addr) (n c : Nat) (zs : List Int) (k s : Nat) (w : World) (g : IntsAt w a n c zs) (hs : s < 64) (hk : k ≤ 6) (h : metN s k < 1 ∨ n < metN s k) :
    Calls Try.prog 31 #[.slice a n c, .int .i64 (k : Int), .int .i64 (s : Int)] w (RetOk w 0) := by
  have hm := metN_le s k
  obtain ⟨D, hD⟩ : ∃ D, metN s k = D := ⟨_, rfl⟩
  rw [hD] at h hm
  have HD := Lib.hid hD
  have hcl : c ≤ 9223372036854775807 := by have h1 := g.cle; simp only [maxLen] at h1; omega
  have hle := g.le
  obtain ⟨Z, hZ0⟩ : ∃ Z : Rat, (0 : Rat) = Z := ⟨_, rfl⟩
  rw [hZ0]
  have HZ := Lib.hid (show mkRat 0 1 = Z by rw [← hZ0]; simp)
  clear hD hZ0 g
  rcases h with h | h
  · obtain rfl : D = 0 := by omega
    go_enter Try.func31, Try.ntmps31
    have hB := Below.refl w.heap.size w
    go_wp2_with fail
    obtain ⟨w1, hW, hz0, hb, q, f⟩ := box1g w (w.heap.size) (by omega) #[.bool false, .slice none 0 0, .slice none 0 0] 36
    rw [hW]
    clear hW
    have hB := below_later hB hb
    clear hb
    have lr : w.heap.size < w1.heap.size := by omega
    have qr0 := q 0; have qr1 := q 1; have qr2 := q 2
    simp only [List.getElem?_toArray, List.getElem?_cons_zero, List.getElem?_cons_succ] at qr0 qr1 qr2
    have xr : BoxAt w1 (w.heap.size) 3 := BoxAt.of q f rfl (by simp [notU_bool, notU_slice, notU_i64])
    clear q f
    clear hz0
    with_reducible refine (met24 s k _ hs hk).mono ?_
    rintro e w2 ⟨rfl, hb⟩
    have qr0 := bq hb lr qr0; have qr1 := bq hb lr qr1; have qr2 := bq hb lr qr2
    have xr := xr.past hb lr
    have lr := bl hb lr
    have hB := below_later hB hb
    clear hb
    rw [HD.out]
    go_wp2_with fail
    refine (pair24 (x := 0) (y := 1) HZ.out _ (by decide) (by decide) (by decide)).mono ?_
    rintro e w3 ⟨ahAU, nhAU, chAU, ahAD, nhAD, chAD, rfl, hAU, hAD, hb⟩
    have hAU := hAU.mono hB.size
    have hAD := hAD.mono hB.size
    have qr0 := bq hb lr qr0; have qr1 := bq hb lr qr1; have qr2 := bq hb lr qr2
    have xr := xr.past hb lr
    have lr := bl hb lr
    have hB := below_later hB hb
    clear hb
    have zf0 := xr.f 0 (by decide)
    have zf1 := xr.f 1 (by decide)
    have zf2 := xr.f 2 (by decide)
    go_wp2
    obtain ⟨w4, hW, hO, qN0, qN1, qN2, xN⟩ := store3 xr (.bool (neg (Z).num)) (.slice ahAU nhAU chAU) (.slice ahAD nhAD chAD) (nu rfl) (nu rfl) (nu rfl)
    try rw [hW]
    clear hW
    have hAU := hO.own hAU
    have hAD := hO.own hAD
    have lr : w.heap.size < w4.heap.size := by rw [hO.size]; exact lr
    have qr0 := qN0
    have qr1 := qN1
    have qr2 := qN2
    have xr := xN
    have hB := hO.below (by omega) hB
    clear hO qN0 qN1 qN2 xN zf0 zf1 zf2
    refine bodyPost_ret (v := .tuple #[.agg #[.bool (neg Z.num), .slice ahAU nhAU chAU, .slice ahAD nhAD chAD], .int .i64 0]) ?_ rfl ⟨_, _, _, _, _, _, rfl, hAU, hAD, hB⟩
    simp [results, Try.f31, go_sem, qr0, qr1, qr2]
  · have t0 : decide ((D : Int) < 1) = false := decide_eq_false (by omega)
    have t1 : decide (n < D) = true := decide_eq_true h
    have t2 : decide ((n : Int) < (D : Int)) = true := decide_eq_true (by omega)
    go_enter Try.func31, Try.ntmps31
    have hB := Below.refl w.heap.size w
    go_wp2_with fail
    obtain ⟨w1, hW, hz0, hb, q, f⟩ := box1g w (w.heap.size) (by omega) #[.bool false, .slice none 0 0, .slice none 0 0] 36
    rw [hW]
    clear hW
    have hB := below_later hB hb
    clear hb
    have lr : w.heap.size < w1.heap.size := by omega
    have qr0 := q 0; have qr1 := q 1; have qr2 := q 2
    simp only [List.getElem?_toArray, List.getElem?_cons_zero, List.getElem?_cons_succ] at qr0 qr1 qr2
    have xr : BoxAt w1 (w.heap.size) 3 := BoxAt.of q f rfl (by simp [notU_bool, notU_slice, notU_i64])
    clear q f
    clear hz0
    with_reducible refine (met24 s k _ hs hk).mono ?_
    rintro e w2 ⟨rfl, hb⟩
    have qr0 := bq hb lr qr0; have qr1 := bq hb lr qr1; have qr2 := bq hb lr qr2
    have xr := xr.past hb lr
    have lr := bl hb lr
    have hB := below_later hB hb
    clear hb
    rw [HD.out]
    go_wp2_with fail
    refine (pair24 (x := 0) (y := 1) HZ.out _ (by decide) (by decide) (by decide)).mono ?_
    rintro e w3 ⟨ahAU, nhAU, chAU, ahAD, nhAD, chAD, rfl, hAU, hAD, hb⟩
    have hAU := hAU.mono hB.size
    have hAD := hAD.mono hB.size
    have qr0 := bq hb lr qr0; have qr1 := bq hb lr qr1; have qr2 := bq hb lr qr2
    have xr := xr.past hb lr
    have lr := bl hb lr
    have hB := below_later hB hb
    clear hb
    have zf0 := xr.f 0 (by decide)
    have zf1 := xr.f 1 (by decide)
    have zf2 := xr.f 2 (by decide)
    go_wp2
    obtain ⟨w4, hW, hO, qN0, qN1, qN2, xN⟩ := store3 xr (.bool (neg (Z).num)) (.slice ahAU nhAU chAU) (.slice ahAD nhAD chAD) (nu rfl) (nu rfl) (nu rfl)
    try rw [hW]
    clear hW
    have hAU := hO.own hAU
    have hAD := hO.own hAD
    have lr : w.heap.size < w4.heap.size := by rw [hO.size]; exact lr
    have qr0 := qN0
    have qr1 := qN1
    have qr2 := qN2
    have xr := xN
    have hB := hO.below (by omega) hB
    clear hO qN0 qN1 qN2 xN zf0 zf1 zf2
    refine bodyPost_ret (v := .tuple #[.agg #[.bool (neg Z.num), .slice ahAU nhAU chAU, .slice ahAD nhAD chAD], .int .i64 0]) ?_ rfl ⟨_, _, _, _, _, _, rfl, hAU, hAD, hB⟩
    simp [results, Try.f31, go_sem, qr0, qr1, qr2]

set_option maxRecDepth 100000 in
set_option maxHeartbeats 16000000 in
theorem weigh_on (a : Option Addr) (n c : Nat) (zs : List Int) (k s D : Nat) (w : World) (g : IntsAt w a n c zs) (hok : okT zs (k : Int)) (hs : s < 64) (hk : k ≤ 6) (hD : metN s k = D) (h1 : 1 ≤ D) (h2 : D ≤ n) :
    Calls Try.prog 31 #[.slice a n c, .int .i64 (k : Int), .int .i64 (s : Int)] w (RetOk w (degQ zs k D)) := by
  have hm := metN_le s k
  rw [hD] at hm
  have HD := Lib.hid hD
  have hcl : c ≤ 9223372036854775807 := by have h1 := g.cle; simp only [maxLen] at h1; omega
  have hle := g.le
  have hlen := g.len
  have hin := okT_in hok
  rw [hlen] at hin
  have hnk : n ≤ k := by have := hok.2.2.2.1; omega
  have htot := sumW_tot n (by omega) hin
  have hpos := okT_pos hok
  rw [hlen] at hpos
  have htin := totS_in (g := fun i => zs.getD i 0) n hin
  obtain ⟨T, hT⟩ : ∃ T : Nat, totS (fun i => zs.getD i 0) n = (T : Int) := ⟨(totS (fun i => zs.getD i 0) n).toNat, by omega⟩
  have hT0 : 0 < T := by omega
  have hT1 : T < 9223372036854775808 := by omega
  obtain ⟨i, rfl⟩ : ∃ i, D = i + 1 := ⟨D - 1, by omega⟩
  have hz := hin i (by omega)
  have hres : degQ zs k (i + 1) = mkRat (zs.getD i 0) T / mkRat (ch k (i + 1) : Int) 1 := by unfold degQ; rw [hlen, if_pos ⟨h1, h2⟩, hT, Int.toNat_natCast, Nat.add_sub_cancel]
  rw [hT] at htot
  have hq : ∃ b o, a = some ⟨b, o, none⟩ ∧ b < w.heap.size ∧ w.cell? ⟨b, o + i, none⟩ = some (.int .i64 (zs.getD i 0)) := by
    rcases g.cell with h | ⟨b, o, h1, h2, h3⟩
    · omega
    · exact ⟨b, o, h1, h2, h3 i (by omega)⟩
  obtain ⟨z, hzz⟩ : ∃ z, zs.getD i 0 = z := ⟨_, rfl⟩
  rw [hzz] at hz hres hq
  have hpr := fun w => pair24 (x := z) (y := T) rfl w (by omega) hT0 (by omega)
  have lp0 : rlen (mkRat z T) ≤ 1 := rlen_mkRat (by omega) (digs_length_le.2 (by simp; omega)) (digs_length_le.2 (by simp; omega))
  have lc := ch_len (n := k) (by omega) (i + 1)
  have hcp := ch_pos (n := k) (k := i + 1) (by omega)
  have hch := fun w => choose_in k (i + 1) w (by omega) (by omega)
  obtain ⟨N, hN⟩ : ∃ N, i + 1 = N := ⟨_, rfl⟩
  have t0 : decide ((N : Int) < 1) = false := decide_eq_false (by omega)
  have t1 : decide (n < N) = false := decide_eq_false (by omega)
  have t2 : decide ((n : Int) < (N : Int)) = false := decide_eq_false (by omega)
  have t3 : (N : Int) - 1 = (i : Int) := by omega
  obtain ⟨C, hC⟩ : ∃ C, ch k (i + 1) = C := ⟨_, rfl⟩
  rw [hC] at lc hcp hres
  simp only [hC] at hch
  have hv : sg false (val (digs C)) = (C : Int) := by rw [val_digs]; rfl
  have hne : mkRat (C : Int) 1 ≠ 0 := by
    intro h
    rw [Rat.mkRat_one] at h
    have h2 : ((C : Int) : Rat) = ((0 : Int) : Rat) := h
    have := Rat.intCast_inj.1 h2
    omega
  have lq : rlen (mkRat (C : Int) 1) ≤ 100 := rlen_mkRat (by decide) (by rw [Int.natAbs_natCast]; omega) (by decide)
  obtain ⟨X, hX⟩ : ∃ X : Int, (C : Int) = X := ⟨_, rfl⟩
  have hXn : X.natAbs = C := by omega
  rw [hX] at hv hne lq hres
  obtain ⟨P, hP⟩ : ∃ P, mkRat z T = P := ⟨_, rfl⟩
  obtain ⟨Q, hQ⟩ : ∃ Q, mkRat X 1 = Q := ⟨_, rfl⟩
  rw [hP] at hres lp0
  rw [hQ] at hres lq hne
  simp only [hP] at hpr
  rw [hres]
  obtain ⟨R, hR⟩ : ∃ R, P / Q = R := ⟨_, rfl⟩
  rw [hR]
  rw [hN] at HD h1 h2 hm hch
  have HPR := Lib.hid hpr
  have HCH := Lib.hid hch
  have HV := Lib.hid hv
  have HQ := Lib.hid hQ
  have HR := Lib.hid hR
  have HNE := Lib.hid hne
  have HTOT := Lib.hid htot
  have LP := Lib.hid (show rlen P ≤ 1048576 by omega)
  have LQ := Lib.hid (show rlen Q ≤ 1048576 by omega)
  have LC := Lib.hid lc
  have HXN := Lib.hid hXn
  have hin3 : i < n := by omega
  have HWI := Lib.hid (show IntKind.i64.wrap (i : Int) = (i : Int) by rw [IntKind.wrap_i64]; omega)
  obtain ⟨b, o, rfl, lb, hq⟩ := hq
  clear hok hin htot hpos htin hT hzz hpr lp0 hch hC hv hne lq hX hXn hP hQ hR hres hN hD lc
  go_enter Try.func31, Try.ntmps31
  have hB := Below.refl w.heap.size w
  go_wp2_with fail
  obtain ⟨w1, hW, hz0, hb, q, f⟩ := box1g w (w.heap.size) (by omega) #[.bool false, .slice none 0 0, .slice none 0 0] 36
  rw [hW]
  clear hW
  have g := g.past hb
  have hB := below_later hB hb
  clear hb
  have lr : w.heap.size < w1.heap.size := by omega
  have qr0 := q 0; have qr1 := q 1; have qr2 := q 2
  simp only [List.getElem?_toArray, List.getElem?_cons_zero, List.getElem?_cons_succ] at qr0 qr1 qr2
  have xr : BoxAt w1 (w.heap.size) 3 := BoxAt.of q f rfl (by simp [notU_bool, notU_slice, notU_i64])
  clear q f
  clear hz0
  with_reducible refine (met24 s k _ hs hk).mono ?_
  rintro e w2 ⟨rfl, hb⟩
  have g := g.past hb
  have qr0 := bq hb lr qr0; have qr1 := bq hb lr qr1; have qr2 := bq hb lr qr2
  have xr := xr.past hb lr
  have lr := bl hb lr
  have hB := below_later hB hb
  clear hb
  rw [HD.out]
  go_wp2_with fail
  have lb := Nat.lt_of_lt_of_le lb hB.size
  have hq := (hB.cell (p := ⟨b, o + i, none⟩) (by assumption)).trans hq
  go_wp2_with fail
  have szW := hB.size
  refine wp_region_invA (by kernel_rfl) rfl (by kernel_rfl) (fun A0 V0 dd aa ww => ∃ (blk : Nat → Nat) (y30 y31 y32 y33 y34 y35 y36 y37 y29 y38 y39 y9 y10 : Value), aa = puts A0 [(30, y30), (31, y31), (32, y32), (33, y33), (34, y34), (35, y35), (36, y36), (37, y37), (29, y29), (38, y38), (39, y39), (9, y9), (10, y10)] ∧ Below V0.heap.size V0 ww ∧ Boxes [(11, 3)] V0.heap.size dd blk ww ∧ Shut (dd 0 = true → y30 = .slice (some ⟨b, o, none⟩) n c) ∧ Shut (dd 1 = true → y31 = .int .i64 (N : Int)) ∧ Shut (dd 2 = true → y32 = .int .i64 (i : Int)) ∧ Shut (dd 3 = true → y33 = .pointer (some ⟨b, o + i, none⟩)) ∧ Shut (dd 4 = true → y34 = .int .i64 z) ∧ Shut (dd 5 = true → y35 = .slice (some ⟨b, o, none⟩) n c) ∧ Shut (dd 6 = true → y36 = .int .i64 (T : Int)) ∧ Shut (dd 7 = true → OkV V0.heap.size (P) y37 ww) ∧ Shut (dd 8 = true → y29 = y37) ∧ Shut (dd 9 = true → y38 = part 0 y29) ∧ Shut (dd 10 = true → y39 = part 1 y29) ∧ Shut (dd 11 = true → y9 = .pointer (some ⟨blk 11, 0, none⟩)) ∧ Shut (dd 12 = true → HoldsV dd 11 9 (blk 11) y38 ww) ∧ Shut (dd 13 = true → y10 = y39) ∧ True) ?_ ?_ ?_
  · exact ⟨fun _ => 0, _, _, _, _, _, _, _, _, _, _, _, _, _, puts_self _ [30, 31, 32, 33, 34, 35, 36, 37, 29, 38, 39, 9, 10], (Below.refl _ _).drew, Boxes.none _ _ _ _, fun h => (by cases h), fun h => (by cases h), fun h => (by cases h), fun h => (by cases h), fun h => (by cases h), fun h => (by cases h), fun h => (by cases h), fun h => (by cases h), fun h => (by cases h), fun h => (by cases h), fun h => (by cases h), fun h => (by cases h), fun h => (by cases h), fun h => (by cases h), trivial⟩
  · refine Steps.cons ?_ (Steps.cons ?_ (Steps.cons ?_ (Steps.cons ?_ (Steps.cons ?_ (Steps.cons ?_ (Steps.cons ?_ (Steps.cons ?_ (Steps.cons ?_ (Steps.cons ?_ (Steps.cons ?_ (Steps.cons ?_ (Steps.cons ?_ (Steps.cons ?_ (Steps.nil))))))))))))))
    · intro dd aa ww K hc hun hn hI hK
      obtain ⟨blk, y30, y31, y32, y33, y34, y35, y36, y37, y29, y38, y39, y9, y10, ea, hb, hX, f0, f1, f2, f3, f4, f5, f6, f7, f8, f9, f10, f11, f12, f13, _⟩ := hI
      try simp [Region.binds] at hn
      subst ea
      simp only [puts, Act.put, List.setIfInBounds_toArray, List.set_cons_zero, List.set_cons_succ]
      go_simp
      refine hK.out _ _ ?_
      exact ⟨blk, .slice (some ⟨b, o, none⟩) n c, y31, y32, y33, y34, y35, y36, y37, y29, y38, y39, y9, y10, by simp only [puts, Act.put, List.setIfInBounds_toArray, List.set_cons_zero, List.set_cons_succ], hb, hX.same 0 rfl, fun _ => rfl, fun h => (f1.out (upd_of rfl h)), fun h => (f2.out (upd_of rfl h)), fun h => (f3.out (upd_of rfl h)), fun h => (f4.out (upd_of rfl h)), fun h => (f5.out (upd_of rfl h)), fun h => (f6.out (upd_of rfl h)), fun h => (f7.out (upd_of rfl h)), fun h => (f8.out (upd_of rfl h)), fun h => (f9.out (upd_of rfl h)), fun h => (f10.out (upd_of rfl h)), fun h => (f11.out (upd_of rfl h)), fun h => (f12.out (upd_of rfl h)).same 0, fun h => (f13.out (upd_of rfl h)), trivial⟩
    · intro dd aa ww K hc hun hn hI hK
      obtain ⟨blk, y30, y31, y32, y33, y34, y35, y36, y37, y29, y38, y39, y9, y10, ea, hb, hX, f0, f1, f2, f3, f4, f5, f6, f7, f8, f9, f10, f11, f12, f13, _⟩ := hI
      try simp [Region.binds] at hn
      subst ea
      simp only [puts, Act.put, List.setIfInBounds_toArray, List.set_cons_zero, List.set_cons_succ]
      go_simp
      refine hK.out _ _ ?_
      exact ⟨blk, y30, .int .i64 (N : Int), y32, y33, y34, y35, y36, y37, y29, y38, y39, y9, y10, by simp only [puts, Act.put, List.setIfInBounds_toArray, List.set_cons_zero, List.set_cons_succ], hb, hX.same 1 rfl, fun h => (f0.out (upd_of rfl h)), fun _ => rfl, fun h => (f2.out (upd_of rfl h)), fun h => (f3.out (upd_of rfl h)), fun h => (f4.out (upd_of rfl h)), fun h => (f5.out (upd_of rfl h)), fun h => (f6.out (upd_of rfl h)), fun h => (f7.out (upd_of rfl h)), fun h => (f8.out (upd_of rfl h)), fun h => (f9.out (upd_of rfl h)), fun h => (f10.out (upd_of rfl h)), fun h => (f11.out (upd_of rfl h)), fun h => (f12.out (upd_of rfl h)).same 1, fun h => (f13.out (upd_of rfl h)), trivial⟩
    · intro dd aa ww K hc hun hn hI hK
      obtain ⟨blk, y30, y31, y32, y33, y34, y35, y36, y37, y29, y38, y39, y9, y10, ea, hb, hX, f0, f1, f2, f3, f4, f5, f6, f7, f8, f9, f10, f11, f12, f13, _⟩ := hI
      try simp [Region.binds] at hn
      have ex := f1.out (by first | (simp [hn]; done) | exact hc.reach (f := 8) (by decide +kernel) hn | exact hc.reach (f := 8) (by decide +kernel) hn.1 | exact hc.reach (f := 8) (by decide +kernel) hn.2 | exact hc.reach (f := 8) (by decide +kernel) hn.2.1 | exact hc.reach (f := 8) (by decide +kernel) hn.2.2 | exact hc.reach (f := 8) (by decide +kernel) hn.2.2.1 | exact hc.reach (f := 8) (by decide +kernel) hn.2.2.2)
      subst ex
      subst ea
      simp only [puts, Act.put, List.setIfInBounds_toArray, List.set_cons_zero, List.set_cons_succ]
      go_simp
      rw [HWI.out]
      refine hK.out _ _ ?_
      exact ⟨blk, y30, .int .i64 (N : Int), .int .i64 (i : Int), y33, y34, y35, y36, y37, y29, y38, y39, y9, y10, by simp only [puts, Act.put, List.setIfInBounds_toArray, List.set_cons_zero, List.set_cons_succ], hb, hX.same 2 rfl, fun h => (f0.out (upd_of rfl h)), fun h => rfl, fun _ => rfl, fun h => (f3.out (upd_of rfl h)), fun h => (f4.out (upd_of rfl h)), fun h => (f5.out (upd_of rfl h)), fun h => (f6.out (upd_of rfl h)), fun h => (f7.out (upd_of rfl h)), fun h => (f8.out (upd_of rfl h)), fun h => (f9.out (upd_of rfl h)), fun h => (f10.out (upd_of rfl h)), fun h => (f11.out (upd_of rfl h)), fun h => (f12.out (upd_of rfl h)).same 2, fun h => (f13.out (upd_of rfl h)), trivial⟩
    · intro dd aa ww K hc hun hn hI hK
      obtain ⟨blk, y30, y31, y32, y33, y34, y35, y36, y37, y29, y38, y39, y9, y10, ea, hb, hX, f0, f1, f2, f3, f4, f5, f6, f7, f8, f9, f10, f11, f12, f13, _⟩ := hI
      try simp [Region.binds] at hn
      have ex := f0.out (by first | (simp [hn]; done) | exact hc.reach (f := 8) (by decide +kernel) hn | exact hc.reach (f := 8) (by decide +kernel) hn.1 | exact hc.reach (f := 8) (by decide +kernel) hn.2 | exact hc.reach (f := 8) (by decide +kernel) hn.2.1 | exact hc.reach (f := 8) (by decide +kernel) hn.2.2 | exact hc.reach (f := 8) (by decide +kernel) hn.2.2.1 | exact hc.reach (f := 8) (by decide +kernel) hn.2.2.2)
      subst ex
      have ex := f2.out (by first | (simp [hn]; done) | exact hc.reach (f := 8) (by decide +kernel) hn | exact hc.reach (f := 8) (by decide +kernel) hn.1 | exact hc.reach (f := 8) (by decide +kernel) hn.2 | exact hc.reach (f := 8) (by decide +kernel) hn.2.1 | exact hc.reach (f := 8) (by decide +kernel) hn.2.2 | exact hc.reach (f := 8) (by decide +kernel) hn.2.2.1 | exact hc.reach (f := 8) (by decide +kernel) hn.2.2.2)
      subst ex
      subst ea
      simp only [puts, Act.put, List.setIfInBounds_toArray, List.set_cons_zero, List.set_cons_succ]
      go_simp
      refine hK.out _ _ ?_
      exact ⟨blk, .slice (some ⟨b, o, none⟩) n c, y31, .int .i64 (i : Int), .pointer (some ⟨b, o + i, none⟩), y34, y35, y36, y37, y29, y38, y39, y9, y10, by simp only [puts, Act.put, List.setIfInBounds_toArray, List.set_cons_zero, List.set_cons_succ], hb, hX.same 3 rfl, fun h => rfl, fun h => (f1.out (upd_of rfl h)), fun h => rfl, fun _ => rfl, fun h => (f4.out (upd_of rfl h)), fun h => (f5.out (upd_of rfl h)), fun h => (f6.out (upd_of rfl h)), fun h => (f7.out (upd_of rfl h)), fun h => (f8.out (upd_of rfl h)), fun h => (f9.out (upd_of rfl h)), fun h => (f10.out (upd_of rfl h)), fun h => (f11.out (upd_of rfl h)), fun h => (f12.out (upd_of rfl h)).same 3, fun h => (f13.out (upd_of rfl h)), trivial⟩
    · intro dd aa ww K hc hun hn hI hK
      obtain ⟨blk, y30, y31, y32, y33, y34, y35, y36, y37, y29, y38, y39, y9, y10, ea, hb, hX, f0, f1, f2, f3, f4, f5, f6, f7, f8, f9, f10, f11, f12, f13, _⟩ := hI
      try simp [Region.binds] at hn
      have ex := f3.out (by first | (simp [hn]; done) | exact hc.reach (f := 8) (by decide +kernel) hn | exact hc.reach (f := 8) (by decide +kernel) hn.1 | exact hc.reach (f := 8) (by decide +kernel) hn.2 | exact hc.reach (f := 8) (by decide +kernel) hn.2.1 | exact hc.reach (f := 8) (by decide +kernel) hn.2.2 | exact hc.reach (f := 8) (by decide +kernel) hn.2.2.1 | exact hc.reach (f := 8) (by decide +kernel) hn.2.2.2)
      subst ex
      have e0 := (hb.cell (p := ⟨b, o + i, none⟩) lb).trans hq
      subst ea
      simp only [puts, Act.put, List.setIfInBounds_toArray, List.set_cons_zero, List.set_cons_succ]
      go_simp
      refine hK.out _ _ ?_
      exact ⟨blk, y30, y31, y32, .pointer (some ⟨b, o + i, none⟩), .int .i64 z, y35, y36, y37, y29, y38, y39, y9, y10, by simp only [puts, Act.put, List.setIfInBounds_toArray, List.set_cons_zero, List.set_cons_succ], hb, hX.same 4 rfl, fun h => (f0.out (upd_of rfl h)), fun h => (f1.out (upd_of rfl h)), fun h => (f2.out (upd_of rfl h)), fun h => rfl, fun _ => rfl, fun h => (f5.out (upd_of rfl h)), fun h => (f6.out (upd_of rfl h)), fun h => (f7.out (upd_of rfl h)), fun h => (f8.out (upd_of rfl h)), fun h => (f9.out (upd_of rfl h)), fun h => (f10.out (upd_of rfl h)), fun h => (f11.out (upd_of rfl h)), fun h => (f12.out (upd_of rfl h)).same 4, fun h => (f13.out (upd_of rfl h)), trivial⟩
    · intro dd aa ww K hc hun hn hI hK
      obtain ⟨blk, y30, y31, y32, y33, y34, y35, y36, y37, y29, y38, y39, y9, y10, ea, hb, hX, f0, f1, f2, f3, f4, f5, f6, f7, f8, f9, f10, f11, f12, f13, _⟩ := hI
      try simp [Region.binds] at hn
      subst ea
      simp only [puts, Act.put, List.setIfInBounds_toArray, List.set_cons_zero, List.set_cons_succ]
      go_simp
      refine hK.out _ _ ?_
      exact ⟨blk, y30, y31, y32, y33, y34, .slice (some ⟨b, o, none⟩) n c, y36, y37, y29, y38, y39, y9, y10, by simp only [puts, Act.put, List.setIfInBounds_toArray, List.set_cons_zero, List.set_cons_succ], hb, hX.same 5 rfl, fun h => (f0.out (upd_of rfl h)), fun h => (f1.out (upd_of rfl h)), fun h => (f2.out (upd_of rfl h)), fun h => (f3.out (upd_of rfl h)), fun h => (f4.out (upd_of rfl h)), fun _ => rfl, fun h => (f6.out (upd_of rfl h)), fun h => (f7.out (upd_of rfl h)), fun h => (f8.out (upd_of rfl h)), fun h => (f9.out (upd_of rfl h)), fun h => (f10.out (upd_of rfl h)), fun h => (f11.out (upd_of rfl h)), fun h => (f12.out (upd_of rfl h)).same 5, fun h => (f13.out (upd_of rfl h)), trivial⟩
    · intro dd aa ww K hc hun hn hI hK
      obtain ⟨blk, y30, y31, y32, y33, y34, y35, y36, y37, y29, y38, y39, y9, y10, ea, hb, hX, f0, f1, f2, f3, f4, f5, f6, f7, f8, f9, f10, f11, f12, f13, _⟩ := hI
      try simp [Region.binds] at hn
      have ex := f5.out (by first | (simp [hn]; done) | exact hc.reach (f := 8) (by decide +kernel) hn | exact hc.reach (f := 8) (by decide +kernel) hn.1 | exact hc.reach (f := 8) (by decide +kernel) hn.2 | exact hc.reach (f := 8) (by decide +kernel) hn.2.1 | exact hc.reach (f := 8) (by decide +kernel) hn.2.2 | exact hc.reach (f := 8) (by decide +kernel) hn.2.2.1 | exact hc.reach (f := 8) (by decide +kernel) hn.2.2.2)
      subst ex
      subst ea
      simp only [puts, Act.put, List.setIfInBounds_toArray, List.set_cons_zero, List.set_cons_succ]
      go_simp
      with_reducible refine (total_any _ _ _ zs _ (g.past hb)).mono ?_
      rintro e w1 ⟨rfl, h1⟩
      rw [HTOT.out]
      refine hK.out _ _ ?_
      exact ⟨blk, y30, y31, y32, y33, y34, .slice (some ⟨b, o, none⟩) n c, .int .i64 (T : Int), y37, y29, y38, y39, y9, y10, by simp only [puts, Act.put, List.setIfInBounds_toArray, List.set_cons_zero, List.set_cons_succ], below_later hb h1, hX.past h1 6 rfl, fun h => (f0.out (upd_of rfl h)), fun h => (f1.out (upd_of rfl h)), fun h => (f2.out (upd_of rfl h)), fun h => (f3.out (upd_of rfl h)), fun h => (f4.out (upd_of rfl h)), fun h => rfl, fun _ => rfl, fun h => (f7.out (upd_of rfl h)).past h1, fun h => (f8.out (upd_of rfl h)), fun h => (f9.out (upd_of rfl h)), fun h => (f10.out (upd_of rfl h)), fun h => (f11.out (upd_of rfl h)), fun h => (f12.out (upd_of rfl h)).past h1 6, fun h => (f13.out (upd_of rfl h)), trivial⟩
    · intro dd aa ww K hc hun hn hI hK
      obtain ⟨blk, y30, y31, y32, y33, y34, y35, y36, y37, y29, y38, y39, y9, y10, ea, hb, hX, f0, f1, f2, f3, f4, f5, f6, f7, f8, f9, f10, f11, f12, f13, _⟩ := hI
      try simp [Region.binds] at hn
      have ex := f4.out (by first | (simp [hn]; done) | exact hc.reach (f := 8) (by decide +kernel) hn | exact hc.reach (f := 8) (by decide +kernel) hn.1 | exact hc.reach (f := 8) (by decide +kernel) hn.2 | exact hc.reach (f := 8) (by decide +kernel) hn.2.1 | exact hc.reach (f := 8) (by decide +kernel) hn.2.2 | exact hc.reach (f := 8) (by decide +kernel) hn.2.2.1 | exact hc.reach (f := 8) (by decide +kernel) hn.2.2.2)
      subst ex
      have ex := f6.out (by first | (simp [hn]; done) | exact hc.reach (f := 8) (by decide +kernel) hn | exact hc.reach (f := 8) (by decide +kernel) hn.1 | exact hc.reach (f := 8) (by decide +kernel) hn.2 | exact hc.reach (f := 8) (by decide +kernel) hn.2.1 | exact hc.reach (f := 8) (by decide +kernel) hn.2.2 | exact hc.reach (f := 8) (by decide +kernel) hn.2.2.1 | exact hc.reach (f := 8) (by decide +kernel) hn.2.2.2)
      subst ex
      subst ea
      simp only [puts, Act.put, List.setIfInBounds_toArray, List.set_cons_zero, List.set_cons_succ]
      go_simp
      with_reducible refine (HPR.out _).mono ?_
      rintro e w1 ⟨ahPU, nhPU, chPU, ahPD, nhPD, chPD, rfl, hPU, hPD, h1⟩
      refine hK.out _ _ ?_
      exact ⟨blk, y30, y31, y32, y33, .int .i64 z, y35, .int .i64 (T : Int), .tuple #[.agg #[.bool (neg (P).num), .slice ahPU nhPU chPU, .slice ahPD nhPD chPD], .int .i64 0], y29, y38, y39, y9, y10, by simp only [puts, Act.put, List.setIfInBounds_toArray, List.set_cons_zero, List.set_cons_succ], below_later hb h1, hX.past h1 7 rfl, fun h => (f0.out (upd_of rfl h)), fun h => (f1.out (upd_of rfl h)), fun h => (f2.out (upd_of rfl h)), fun h => (f3.out (upd_of rfl h)), fun h => rfl, fun h => (f5.out (upd_of rfl h)), fun h => rfl, fun _ => ⟨_, _, _, _, _, _, rfl, hPU.mono hb.size, hPD.mono hb.size⟩, fun h => absurd (hc.reach (f := 8) (s := 8) (l := 7) (by kernel_rfl) (upd_of rfl h)) (by rw [hun]; decide), fun h => (f9.out (upd_of rfl h)), fun h => (f10.out (upd_of rfl h)), fun h => (f11.out (upd_of rfl h)), fun h => (f12.out (upd_of rfl h)).past h1 7, fun h => (f13.out (upd_of rfl h)), trivial⟩
    · intro dd aa ww K hc hun hn hI hK
      obtain ⟨blk, y30, y31, y32, y33, y34, y35, y36, y37, y29, y38, y39, y9, y10, ea, hb, hX, f0, f1, f2, f3, f4, f5, f6, f7, f8, f9, f10, f11, f12, f13, _⟩ := hI
      try simp [Region.binds] at hn
      obtain ⟨ahPU, nhPU, chPU, ahPD, nhPD, chPD, ex, hPU, hPD⟩ := f7.out (by first | (simp [hn]; done) | exact hc.reach (f := 8) (by decide +kernel) hn | exact hc.reach (f := 8) (by decide +kernel) hn.1 | exact hc.reach (f := 8) (by decide +kernel) hn.2 | exact hc.reach (f := 8) (by decide +kernel) hn.2.1 | exact hc.reach (f := 8) (by decide +kernel) hn.2.2 | exact hc.reach (f := 8) (by decide +kernel) hn.2.2.1 | exact hc.reach (f := 8) (by decide +kernel) hn.2.2.2)
      subst ex
      subst ea
      simp only [puts, Act.put, List.setIfInBounds_toArray, List.set_cons_zero, List.set_cons_succ]
      go_simp
      refine hK.out _ _ ?_
      exact ⟨blk, y30, y31, y32, y33, y34, y35, y36, .tuple #[.agg #[.bool (neg (P).num), .slice ahPU nhPU chPU, .slice ahPD nhPD chPD], .int .i64 0], .tuple #[.agg #[.bool (neg (P).num), .slice ahPU nhPU chPU, .slice ahPD nhPD chPD], .int .i64 0], y38, y39, y9, y10, by simp only [puts, Act.put, List.setIfInBounds_toArray, List.set_cons_zero, List.set_cons_succ], hb, hX.same 8 rfl, fun h => (f0.out (upd_of rfl h)), fun h => (f1.out (upd_of rfl h)), fun h => (f2.out (upd_of rfl h)), fun h => (f3.out (upd_of rfl h)), fun h => (f4.out (upd_of rfl h)), fun h => (f5.out (upd_of rfl h)), fun h => (f6.out (upd_of rfl h)), fun h => (f7.out (upd_of rfl h)), fun _ => rfl, fun h => absurd (hc.reach (f := 8) (s := 9) (l := 8) (by kernel_rfl) (upd_of rfl h)) (by rw [hun]; decide), fun h => absurd (hc.reach (f := 8) (s := 10) (l := 8) (by kernel_rfl) (upd_of rfl h)) (by rw [hun]; decide), fun h => (f11.out (upd_of rfl h)), fun h => (f12.out (upd_of rfl h)).same 8, fun h => (f13.out (upd_of rfl h)), trivial⟩
    · intro dd aa ww K hc hun hn hI hK
      obtain ⟨blk, y30, y31, y32, y33, y34, y35, y36, y37, y29, y38, y39, y9, y10, ea, hb, hX, f0, f1, f2, f3, f4, f5, f6, f7, f8, f9, f10, f11, f12, f13, _⟩ := hI
      try simp [Region.binds] at hn
      obtain ⟨ahPU, nhPU, chPU, ahPD, nhPD, chPD, ex, hPU, hPD⟩ := f7.out (by first | (simp [hn]; done) | exact hc.reach (f := 8) (by decide +kernel) hn | exact hc.reach (f := 8) (by decide +kernel) hn.1 | exact hc.reach (f := 8) (by decide +kernel) hn.2 | exact hc.reach (f := 8) (by decide +kernel) hn.2.1 | exact hc.reach (f := 8) (by decide +kernel) hn.2.2 | exact hc.reach (f := 8) (by decide +kernel) hn.2.2.1 | exact hc.reach (f := 8) (by decide +kernel) hn.2.2.2)
      subst ex
      have ex : y29 = .tuple #[.agg #[.bool (neg (P).num), .slice ahPU nhPU chPU, .slice ahPD nhPD chPD], .int .i64 0] := f8.out (by first | (simp [hn]; done) | exact hc.reach (f := 8) (by decide +kernel) hn | exact hc.reach (f := 8) (by decide +kernel) hn.1 | exact hc.reach (f := 8) (by decide +kernel) hn.2 | exact hc.reach (f := 8) (by decide +kernel) hn.2.1 | exact hc.reach (f := 8) (by decide +kernel) hn.2.2 | exact hc.reach (f := 8) (by decide +kernel) hn.2.2.1 | exact hc.reach (f := 8) (by decide +kernel) hn.2.2.2)
      subst ex
      subst ea
      simp only [puts, Act.put, List.setIfInBounds_toArray, List.set_cons_zero, List.set_cons_succ]
      go_simp
      refine hK.out _ _ ?_
      exact ⟨blk, y30, y31, y32, y33, y34, y35, y36, .tuple #[.agg #[.bool (neg (P).num), .slice ahPU nhPU chPU, .slice ahPD nhPD chPD], .int .i64 0], .tuple #[.agg #[.bool (neg (P).num), .slice ahPU nhPU chPU, .slice ahPD nhPD chPD], .int .i64 0], .agg #[.bool (neg (P).num), .slice ahPU nhPU chPU, .slice ahPD nhPD chPD], y39, y9, y10, by simp only [puts, Act.put, List.setIfInBounds_toArray, List.set_cons_zero, List.set_cons_succ], hb, hX.same 9 rfl, fun h => (f0.out (upd_of rfl h)), fun h => (f1.out (upd_of rfl h)), fun h => (f2.out (upd_of rfl h)), fun h => (f3.out (upd_of rfl h)), fun h => (f4.out (upd_of rfl h)), fun h => (f5.out (upd_of rfl h)), fun h => (f6.out (upd_of rfl h)), fun h => (f7.out (upd_of rfl h)), fun h => rfl, fun _ => rfl, fun h => (f10.out (upd_of rfl h)), fun h => (f11.out (upd_of rfl h)), fun h => absurd (HoldsV.vp (f12.out (upd_of rfl h))) (by rw [hun]; decide), fun h => (f13.out (upd_of rfl h)), trivial⟩
    · intro dd aa ww K hc hun hn hI hK
      obtain ⟨blk, y30, y31, y32, y33, y34, y35, y36, y37, y29, y38, y39, y9, y10, ea, hb, hX, f0, f1, f2, f3, f4, f5, f6, f7, f8, f9, f10, f11, f12, f13, _⟩ := hI
      try simp [Region.binds] at hn
      obtain ⟨ahPU, nhPU, chPU, ahPD, nhPD, chPD, ex, hPU, hPD⟩ := f7.out (by first | (simp [hn]; done) | exact hc.reach (f := 8) (by decide +kernel) hn | exact hc.reach (f := 8) (by decide +kernel) hn.1 | exact hc.reach (f := 8) (by decide +kernel) hn.2 | exact hc.reach (f := 8) (by decide +kernel) hn.2.1 | exact hc.reach (f := 8) (by decide +kernel) hn.2.2 | exact hc.reach (f := 8) (by decide +kernel) hn.2.2.1 | exact hc.reach (f := 8) (by decide +kernel) hn.2.2.2)
      subst ex
      have ex : y29 = .tuple #[.agg #[.bool (neg (P).num), .slice ahPU nhPU chPU, .slice ahPD nhPD chPD], .int .i64 0] := f8.out (by first | (simp [hn]; done) | exact hc.reach (f := 8) (by decide +kernel) hn | exact hc.reach (f := 8) (by decide +kernel) hn.1 | exact hc.reach (f := 8) (by decide +kernel) hn.2 | exact hc.reach (f := 8) (by decide +kernel) hn.2.1 | exact hc.reach (f := 8) (by decide +kernel) hn.2.2 | exact hc.reach (f := 8) (by decide +kernel) hn.2.2.1 | exact hc.reach (f := 8) (by decide +kernel) hn.2.2.2)
      subst ex
      subst ea
      simp only [puts, Act.put, List.setIfInBounds_toArray, List.set_cons_zero, List.set_cons_succ]
      go_simp
      refine hK.out _ _ ?_
      exact ⟨blk, y30, y31, y32, y33, y34, y35, y36, .tuple #[.agg #[.bool (neg (P).num), .slice ahPU nhPU chPU, .slice ahPD nhPD chPD], .int .i64 0], .tuple #[.agg #[.bool (neg (P).num), .slice ahPU nhPU chPU, .slice ahPD nhPD chPD], .int .i64 0], y38, .int .i64 0, y9, y10, by simp only [puts, Act.put, List.setIfInBounds_toArray, List.set_cons_zero, List.set_cons_succ], hb, hX.same 10 rfl, fun h => (f0.out (upd_of rfl h)), fun h => (f1.out (upd_of rfl h)), fun h => (f2.out (upd_of rfl h)), fun h => (f3.out (upd_of rfl h)), fun h => (f4.out (upd_of rfl h)), fun h => (f5.out (upd_of rfl h)), fun h => (f6.out (upd_of rfl h)), fun h => (f7.out (upd_of rfl h)), fun h => rfl, fun h => (f9.out (upd_of rfl h)), fun _ => rfl, fun h => (f11.out (upd_of rfl h)), fun h => (f12.out (upd_of rfl h)).same 10, fun h => absurd (hc.reach (f := 8) (s := 13) (l := 10) (by kernel_rfl) (upd_of rfl h)) (by rw [hun]; decide), trivial⟩
    · intro dd aa ww K hc hun hn hI hK
      obtain ⟨blk, y30, y31, y32, y33, y34, y35, y36, y37, y29, y38, y39, y9, y10, ea, hb, hX, f0, f1, f2, f3, f4, f5, f6, f7, f8, f9, f10, f11, f12, f13, _⟩ := hI
      try simp [Region.binds] at hn
      subst ea
      simp only [puts, Act.put, List.setIfInBounds_toArray, List.set_cons_zero, List.set_cons_succ]
      go_simp
      refine hK.out _ _ ?_
      exact ⟨setB blk 11 ww.heap.size, y30, y31, y32, y33, y34, y35, y36, y37, y29, y38, y39, .pointer (some ⟨ww.heap.size, 0, none⟩), y10, by simp only [puts, Act.put, List.setIfInBounds_toArray, List.set_cons_zero, List.set_cons_succ], below_alloc hb _, hX.new hb.size 11 #[.bool false, .slice none 0 0, .slice none 0 0] _ rfl (by simp [notU_bool, notU_slice, notU_i64]), fun h => (f0.out (upd_of rfl h)), fun h => (f1.out (upd_of rfl h)), fun h => (f2.out (upd_of rfl h)), fun h => (f3.out (upd_of rfl h)), fun h => (f4.out (upd_of rfl h)), fun h => (f5.out (upd_of rfl h)), fun h => (f6.out (upd_of rfl h)), fun h => (f7.out (upd_of rfl h)).past ((Below.refl _ _).alloc (Nat.le_refl _) _), fun h => (f8.out (upd_of rfl h)), fun h => (f9.out (upd_of rfl h)), fun h => (f10.out (upd_of rfl h)), fun _ => rfl, fun h => absurd (HoldsV.up (f12.out (upd_of rfl h))) (by rw [hun]; decide), fun h => (f13.out (upd_of rfl h)), trivial⟩
    · intro dd aa ww K hc hun hn hI hK
      obtain ⟨blk, y30, y31, y32, y33, y34, y35, y36, y37, y29, y38, y39, y9, y10, ea, hb, hX, f0, f1, f2, f3, f4, f5, f6, f7, f8, f9, f10, f11, f12, f13, _⟩ := hI
      try simp [Region.binds] at hn
      have ex := f11.out (by first | (simp [hn]; done) | exact hc.reach (f := 8) (by decide +kernel) hn | exact hc.reach (f := 8) (by decide +kernel) hn.1 | exact hc.reach (f := 8) (by decide +kernel) hn.2 | exact hc.reach (f := 8) (by decide +kernel) hn.2.1 | exact hc.reach (f := 8) (by decide +kernel) hn.2.2 | exact hc.reach (f := 8) (by decide +kernel) hn.2.2.1 | exact hc.reach (f := 8) (by decide +kernel) hn.2.2.2)
      subst ex
      obtain ⟨ahPU, nhPU, chPU, ahPD, nhPD, chPD, ex, hPU, hPD⟩ := f7.out (by first | (simp [hn]; done) | exact hc.reach (f := 8) (by decide +kernel) hn | exact hc.reach (f := 8) (by decide +kernel) hn.1 | exact hc.reach (f := 8) (by decide +kernel) hn.2 | exact hc.reach (f := 8) (by decide +kernel) hn.2.1 | exact hc.reach (f := 8) (by decide +kernel) hn.2.2 | exact hc.reach (f := 8) (by decide +kernel) hn.2.2.1 | exact hc.reach (f := 8) (by decide +kernel) hn.2.2.2)
      subst ex
      have ex : y29 = .tuple #[.agg #[.bool (neg (P).num), .slice ahPU nhPU chPU, .slice ahPD nhPD chPD], .int .i64 0] := f8.out (by first | (simp [hn]; done) | exact hc.reach (f := 8) (by decide +kernel) hn | exact hc.reach (f := 8) (by decide +kernel) hn.1 | exact hc.reach (f := 8) (by decide +kernel) hn.2 | exact hc.reach (f := 8) (by decide +kernel) hn.2.1 | exact hc.reach (f := 8) (by decide +kernel) hn.2.2 | exact hc.reach (f := 8) (by decide +kernel) hn.2.2.1 | exact hc.reach (f := 8) (by decide +kernel) hn.2.2.2)
      subst ex
      have ex : y38 = .agg #[.bool (neg (P).num), .slice ahPU nhPU chPU, .slice ahPD nhPD chPD] := f9.out (by first | (simp [hn]; done) | exact hc.reach (f := 8) (by decide +kernel) hn | exact hc.reach (f := 8) (by decide +kernel) hn.1 | exact hc.reach (f := 8) (by decide +kernel) hn.2 | exact hc.reach (f := 8) (by decide +kernel) hn.2.1 | exact hc.reach (f := 8) (by decide +kernel) hn.2.2 | exact hc.reach (f := 8) (by decide +kernel) hn.2.2.1 | exact hc.reach (f := 8) (by decide +kernel) hn.2.2.2)
      subst ex
      have hd11 : dd 11 = true := by simp [hn]
      have hv9 : dd 9 = true := by simp [hn]
      obtain ⟨x1, x2, x3⟩ := hX.at_ (11, 3) (by simp) hd11
      obtain ⟨v0, v1, v2, z0, z1, z2, z3, z4, z5, _, _, _⟩ := x3.three
      have hv : ∀ v ∈ ([.bool (neg (P).num), .slice ahPU nhPU chPU, .slice ahPD nhPD chPD] : List Value), notU v := by simp [notU_bool, notU_slice, notU_i64]
      subst ea
      simp only [puts, Act.put, List.setIfInBounds_toArray, List.set_cons_zero, List.set_cons_succ]
      go_simp
      refine hK.out _ _ ?_
      exact ⟨blk, y30, y31, y32, y33, y34, y35, y36, .tuple #[.agg #[.bool (neg (P).num), .slice ahPU nhPU chPU, .slice ahPD nhPD chPD], .int .i64 0], .tuple #[.agg #[.bool (neg (P).num), .slice ahPU nhPU chPU, .slice ahPD nhPD chPD], .int .i64 0], .agg #[.bool (neg (P).num), .slice ahPU nhPU chPU, .slice ahPD nhPD chPD], y39, .pointer (some ⟨blk 11, 0, none⟩), y10, by simp only [puts, Act.put, List.setIfInBounds_toArray, List.set_cons_zero, List.set_cons_succ], hb.trans (below_setCells _ _ x1 [.bool (neg (P).num), .slice ahPU nhPU chPU, .slice ahPD nhPD chPD] 0 _), (hX.sets [.bool (neg (P).num), .slice ahPU nhPU chPU, .slice ahPD nhPD chPD] _ 0 _ hv).same 12 rfl, fun h => (f0.out (upd_of rfl h)), fun h => (f1.out (upd_of rfl h)), fun h => (f2.out (upd_of rfl h)), fun h => (f3.out (upd_of rfl h)), fun h => (f4.out (upd_of rfl h)), fun h => (f5.out (upd_of rfl h)), fun h => (f6.out (upd_of rfl h)), fun h => ((f7.out (upd_of rfl h)).sets [.bool (neg (P).num), .slice ahPU nhPU chPU, .slice ahPD nhPD chPD] x3 (by simp) hv), fun h => rfl, fun h => rfl, fun h => (f10.out (upd_of rfl h)), fun h => rfl, fun _ => (HoldsV.new hd11 hv9 x2 x3 [.bool (neg (P).num), .slice ahPU nhPU chPU, .slice ahPD nhPD chPD] (by simp)).same 12, fun h => (f13.out (upd_of rfl h)), trivial⟩
    · intro dd aa ww K hc hun hn hI hK
      obtain ⟨blk, y30, y31, y32, y33, y34, y35, y36, y37, y29, y38, y39, y9, y10, ea, hb, hX, f0, f1, f2, f3, f4, f5, f6, f7, f8, f9, f10, f11, f12, f13, _⟩ := hI
      try simp [Region.binds] at hn
      obtain ⟨ahPU, nhPU, chPU, ahPD, nhPD, chPD, ex, hPU, hPD⟩ := f7.out (by first | (simp [hn]; done) | exact hc.reach (f := 8) (by decide +kernel) hn | exact hc.reach (f := 8) (by decide +kernel) hn.1 | exact hc.reach (f := 8) (by decide +kernel) hn.2 | exact hc.reach (f := 8) (by decide +kernel) hn.2.1 | exact hc.reach (f := 8) (by decide +kernel) hn.2.2 | exact hc.reach (f := 8) (by decide +kernel) hn.2.2.1 | exact hc.reach (f := 8) (by decide +kernel) hn.2.2.2)
      subst ex
      have ex : y29 = .tuple #[.agg #[.bool (neg (P).num), .slice ahPU nhPU chPU, .slice ahPD nhPD chPD], .int .i64 0] := f8.out (by first | (simp [hn]; done) | exact hc.reach (f := 8) (by decide +kernel) hn | exact hc.reach (f := 8) (by decide +kernel) hn.1 | exact hc.reach (f := 8) (by decide +kernel) hn.2 | exact hc.reach (f := 8) (by decide +kernel) hn.2.1 | exact hc.reach (f := 8) (by decide +kernel) hn.2.2 | exact hc.reach (f := 8) (by decide +kernel) hn.2.2.1 | exact hc.reach (f := 8) (by decide +kernel) hn.2.2.2)
      subst ex
      have ex : y39 = .int .i64 0 := f10.out (by first | (simp [hn]; done) | exact hc.reach (f := 8) (by decide +kernel) hn | exact hc.reach (f := 8) (by decide +kernel) hn.1 | exact hc.reach (f := 8) (by decide +kernel) hn.2 | exact hc.reach (f := 8) (by decide +kernel) hn.2.1 | exact hc.reach (f := 8) (by decide +kernel) hn.2.2 | exact hc.reach (f := 8) (by decide +kernel) hn.2.2.1 | exact hc.reach (f := 8) (by decide +kernel) hn.2.2.2)
      subst ex
      subst ea
      simp only [puts, Act.put, List.setIfInBounds_toArray, List.set_cons_zero, List.set_cons_succ]
      go_simp
      refine hK.out _ _ ?_
      exact ⟨blk, y30, y31, y32, y33, y34, y35, y36, .tuple #[.agg #[.bool (neg (P).num), .slice ahPU nhPU chPU, .slice ahPD nhPD chPD], .int .i64 0], .tuple #[.agg #[.bool (neg (P).num), .slice ahPU nhPU chPU, .slice ahPD nhPD chPD], .int .i64 0], y38, .int .i64 0, y9, .int .i64 0, by simp only [puts, Act.put, List.setIfInBounds_toArray, List.set_cons_zero, List.set_cons_succ], hb, hX.same 13 rfl, fun h => (f0.out (upd_of rfl h)), fun h => (f1.out (upd_of rfl h)), fun h => (f2.out (upd_of rfl h)), fun h => (f3.out (upd_of rfl h)), fun h => (f4.out (upd_of rfl h)), fun h => (f5.out (upd_of rfl h)), fun h => (f6.out (upd_of rfl h)), fun h => (f7.out (upd_of rfl h)), fun h => rfl, fun h => (f9.out (upd_of rfl h)), fun h => rfl, fun h => (f11.out (upd_of rfl h)), fun h => (f12.out (upd_of rfl h)).same 13, fun _ => rfl, trivial⟩
  intro dd aa w3 hd hI
  obtain ⟨blk, y30, y31, y32, y33, y34, y35, y36, y37, y29, y38, y39, y9, y10, ea, hb, hX, f0, f1, f2, f3, f4, f5, f6, f7, f8, f9, f10, f11, f12, f13, _⟩ := hI
  have ex := f0.out (hd 0 (by simp))
  subst ex
  have ex := f1.out (hd 1 (by simp))
  subst ex
  have ex := f2.out (hd 2 (by simp))
  subst ex
  have ex := f3.out (hd 3 (by simp))
  subst ex
  have ex := f4.out (hd 4 (by simp))
  subst ex
  have ex := f5.out (hd 5 (by simp))
  subst ex
  have ex := f6.out (hd 6 (by simp))
  subst ex
  obtain ⟨ahPU, nhPU, chPU, ahPD, nhPD, chPD, ex, hPU, hPD⟩ := f7.out (hd 7 (by simp))
  subst ex
  have ex : y29 = .tuple #[.agg #[.bool (neg (P).num), .slice ahPU nhPU chPU, .slice ahPD nhPD chPD], .int .i64 0] := f8.out (hd 8 (by simp))
  subst ex
  have ex : y38 = .agg #[.bool (neg (P).num), .slice ahPU nhPU chPU, .slice ahPD nhPD chPD] := f9.out (hd 9 (by simp))
  subst ex
  have ex : y39 = .int .i64 0 := f10.out (hd 10 (by simp))
  subst ex
  have ex := f11.out (hd 11 (by simp))
  subst ex
  obtain ⟨vs12, e, h12⟩ := f12.out (hd 12 (by simp))
  cases e
  have ex : y10 = .int .i64 0 := f13.out (hd 13 (by simp))
  subst ex
  have lx := h12.lt
  have qx0 := h12.at_ 0 (by simp)
  simp only [List.getElem?_cons_zero, List.getElem?_cons_succ] at qx0
  have qx1 := h12.at_ 1 (by simp)
  simp only [List.getElem?_cons_zero, List.getElem?_cons_succ] at qx1
  have qx2 := h12.at_ 2 (by simp)
  simp only [List.getElem?_cons_zero, List.getElem?_cons_succ] at qx2
  have uxr : w.heap.size < blk 11 := Nat.lt_of_lt_of_le lr (hX.at_ (11, 3) (by simp) (hd 11 (by simp))).1
  generalize blk 11 = Bx at *
  subst ea
  simp only [puts, Act.put, List.setIfInBounds_toArray, List.set_cons_zero, List.set_cons_succ]
  have hPU := hPU.mono szW
  have hPD := hPD.mono szW
  have g := g.past hb
  have qr0 := bq hb lr qr0; have qr1 := bq hb lr qr1; have qr2 := bq hb lr qr2
  have xr := xr.past hb lr
  have lr := bl hb lr
  have hB := below_later hB hb
  clear hX
  clear hb hd
  go_wp2_with fail
  with_reducible refine (HCH.out _).mono ?_
  rintro e w4 ⟨aC, nC, cC, rfl, hC, hb⟩
  have hC := hC.mono hB.size
  have g := g.past hb
  have hPU := hPU.past hb
  have hPD := hPD.past hb
  have qr0 := bq hb lr qr0; have qr1 := bq hb lr qr1; have qr2 := bq hb lr qr2
  have xr := xr.past hb lr
  have lr := bl hb lr
  have qx0 := bq hb lx qx0; have qx1 := bq hb lx qx1; have qx2 := bq hb lx qx2
  have lx := bl hb lx
  have hB := below_later hB hb
  clear hb
  go_wp2_with fail
  with_reducible refine (make_any false _ _ _ _ _ hC.toNatAt (by have := hC.len; have := LC.out; omega)).mono ?_
  rintro e w5 ⟨aM, nM, cM, rfl, hM, hb⟩
  have hM := hM.mono hB.size
  have g := g.past hb
  have hPU := hPU.past hb
  have hPD := hPD.past hb
  have hC := hC.past hb
  have qr0 := bq hb lr qr0; have qr1 := bq hb lr qr1; have qr2 := bq hb lr qr2
  have xr := xr.past hb lr
  have lr := bl hb lr
  have qx0 := bq hb lx qx0; have qx1 := bq hb lx qx1; have qx2 := bq hb lx qx2
  have lx := bl hb lx
  have hB := below_later hB hb
  clear hb
  rw [HV.out] at hM ⊢
  go_wp2_with fail
  obtain ⟨w6, hW, hz0, hb, q, f⟩ := box1g w5 (w5.heap.size) (by omega) #[.int .u64 1] 73
  have h0d : OwnAt w6 w5.heap.size (some ⟨w5.heap.size, 0, none⟩) 1 1 [1] := by rw [← hW]; exact litG _ _ _ [1] 1 (by omega) rfl rfl (by decide) (by first | decide | (simp; omega))
  rw [hW]
  clear hW
  have g := g.past hb
  have hPU := hPU.past hb
  have hPD := hPD.past hb
  have hC := hC.past hb
  have hM := hM.past hb
  have qr0 := bq hb lr qr0; have qr1 := bq hb lr qr1; have qr2 := bq hb lr qr2
  have xr := xr.past hb lr
  have lr := bl hb lr
  have qx0 := bq hb lx qx0; have qx1 := bq hb lx qx1; have qx2 := bq hb lx qx2
  have lx := bl hb lx
  have hB := below_later hB hb
  clear hb
  have d := h0d
  clear h0d
  have d := d.mono (B' := w.heap.size) (by omega)
  clear q f
  clear hz0
  with_reducible refine (make_natX hM.toNatAt d.toNatAt (by decide) HQ.out (by have h9 := hM.len; rw [HXN.out] at h9; have := LC.out; omega)).mono ?_
  rintro e w7 ⟨ahQU, nhQU, chQU, ahQD, nhQD, chQD, rfl, hQU, hQD, hb⟩
  have hQU := hQU.mono hB.size
  have hQD := hQD.mono hB.size
  have g := g.past hb
  have hPU := hPU.past hb
  have hPD := hPD.past hb
  have hC := hC.past hb
  have hM := hM.past hb
  have d := d.past hb
  have qr0 := bq hb lr qr0; have qr1 := bq hb lr qr1; have qr2 := bq hb lr qr2
  have xr := xr.past hb lr
  have lr := bl hb lr
  have qx0 := bq hb lx qx0; have qx1 := bq hb lx qx1; have qx2 := bq hb lx qx2
  have lx := bl hb lx
  have hB := below_later hB hb
  clear hb
  go_wp2_with fail
  obtain ⟨w8, hW, hz0, hb, q, f⟩ := box1g w7 (w7.heap.size) (by omega) #[.bool (neg (Q).num), .slice ahQU nhQU chQU, .slice ahQD nhQD chQD] 36
  rw [hW]
  clear hW
  have hPU := hPU.past hb
  have hPD := hPD.past hb
  have hQU := hQU.past hb
  have hQD := hQD.past hb
  have qr0 := bq hb lr qr0; have qr1 := bq hb lr qr1; have qr2 := bq hb lr qr2
  have xr := xr.past hb lr
  have lr := bl hb lr
  have qx0 := bq hb lx qx0; have qx1 := bq hb lx qx1; have qx2 := bq hb lx qx2
  have lx := bl hb lx
  have hB := below_later hB hb
  clear hb
  have ly : w7.heap.size < w8.heap.size := by omega
  have qy0 := q 0; have qy1 := q 1; have qy2 := q 2
  simp only [List.getElem?_toArray, List.getElem?_cons_zero, List.getElem?_cons_succ] at qy0 qy1 qy2
  clear q f
  clear hz0
  with_reducible refine (div24 hPU.toNatAt hPD.toNatAt hQU.toNatAt hQD.toNatAt LP.out LQ.out HNE.out).mono ?_
  rintro e w9 ⟨ahAU, nhAU, chAU, ahAD, nhAD, chAD, rfl, hAU, hAD, hb⟩
  have hAU := hAU.mono hB.size
  have hAD := hAD.mono hB.size
  have hPU := hPU.past hb
  have hPD := hPD.past hb
  have hQU := hQU.past hb
  have hQD := hQD.past hb
  have qr0 := bq hb lr qr0; have qr1 := bq hb lr qr1; have qr2 := bq hb lr qr2
  have xr := xr.past hb lr
  have lr := bl hb lr
  have qx0 := bq hb lx qx0; have qx1 := bq hb lx qx1; have qx2 := bq hb lx qx2
  have lx := bl hb lx
  have qy0 := bq hb ly qy0; have qy1 := bq hb ly qy1; have qy2 := bq hb ly qy2
  have ly := bl hb ly
  have hB := below_later hB hb
  clear hb
  rw [HR.out] at hAU hAD ⊢
  have zf0 := xr.f 0 (by decide)
  have zf1 := xr.f 1 (by decide)
  have zf2 := xr.f 2 (by decide)
  go_wp2
  obtain ⟨w10, hW, hO, qN0, qN1, qN2, xN⟩ := store3 xr (.bool (neg (R).num)) (.slice ahAU nhAU chAU) (.slice ahAD nhAD chAD) (nu rfl) (nu rfl) (nu rfl)
  try rw [hW]
  clear hW
  have hPU := hO.own hPU
  have hPD := hO.own hPD
  have hQU := hO.own hQU
  have hQD := hO.own hQD
  have hAU := hO.own hAU
  have hAD := hO.own hAD
  have lr : w.heap.size < w10.heap.size := by rw [hO.size]; exact lr
  have qx0 := (hO.cell (b2 := Bx) (k := 0) (by omega)).trans qx0
  have qx1 := (hO.cell (b2 := Bx) (k := 1) (by omega)).trans qx1
  have qx2 := (hO.cell (b2 := Bx) (k := 2) (by omega)).trans qx2
  have lx : Bx < w10.heap.size := by rw [hO.size]; exact lx
  have qy0 := (hO.cell (b2 := w7.heap.size) (k := 0) (by omega)).trans qy0
  have qy1 := (hO.cell (b2 := w7.heap.size) (k := 1) (by omega)).trans qy1
  have qy2 := (hO.cell (b2 := w7.heap.size) (k := 2) (by omega)).trans qy2
  have ly : w7.heap.size < w10.heap.size := by rw [hO.size]; exact ly
  have qr0 := qN0
  have qr1 := qN1
  have qr2 := qN2
  have xr := xN
  have hB := hO.below (by omega) hB
  clear hO qN0 qN1 qN2 xN zf0 zf1 zf2
  refine bodyPost_ret (v := .tuple #[.agg #[.bool (neg R.num), .slice ahAU nhAU chAU, .slice ahAD nhAD chAD], .int .i64 0]) ?_ rfl ⟨_, _, _, _, _, _, rfl, hAU, hAD, hB⟩
  simp [results, Try.f31, go_sem, qr0, qr1, qr2]

theorem weigh24 (a : Option Addr) (n c : Nat) (zs : List Int) (k s : Nat) (w : World) (g : IntsAt w a n c zs) (hok : okT zs (k : Int)) (hs : s < 64) (hk : k ≤ 6) :
    Calls Try.prog 31 #[.slice a n c, .int .i64 (k : Int), .int .i64 (s : Int)] w (RetOk w (weighQ zs k s)) := by
  unfold weighQ
  by_cases h : 1 ≤ metN s k ∧ metN s k ≤ n
  · exact weigh_on a n c zs k s _ w g hok hs hk rfl h.1 h.2
  · have e : degQ zs k (metN s k) = 0 := by unfold degQ; rw [g.len, if_neg h]
    rw [e]
    exact weigh_off a n c zs k s w g hs hk (by omega)

end Go.Proofs.Ytlkoenpdmlbhlaa
