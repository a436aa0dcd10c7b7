import Derived.Test.YtoecndogaklngaaDoorS0Db
import Derived.Test.YtoecndogaklngaaDoorByt4Db
import Derived.Test.YtoecndogaklngaaDoorLimbs1Db
set_option linter.unusedVariables false
set_option linter.unusedSimpArgs false
namespace Go.Proofs.YtoecndogaklngaaDoor
open Go.RowKit Go.Shelf
attribute [local go_sem] Oper.semAt_some
def RetByt (w : World) (L : List Nat) (e : Ending) (w' : World) : Prop :=
 ∃ a n c, e = .returned (.slice a n c) ∧ OwnBytes w' w.heap.size a n c L ∧ Below w.heap.size w w'
def BytM (B0 Bq : Nat) (w : World) (a : Option Addr) (n c : Nat) (a1 : Option Addr) (n1 c1 bS : Nat) (l : List Nat) (i : Nat) (x : Array Value) (b : Act) (W : World) : Prop :=
 ∃ x0 X : Nat, D l (n1 - 1 - i) = X ∧ b = { tmps := #[.slice a n c, undef, .slice none 0 0, .pointer (some ⟨B0, 0, none⟩), undef, .int .u64 (X : Int), undef, undef, .slice a n c, .slice a1 n1 c1, .func (.func 54) #[] #[.pointer (some ⟨bS, 0, none⟩)], .int .i64 (x0 : Int), .int .u64 (X : Int), undef, undef, undef, undef, undef, undef, undef, undef, undef, undef, undef, undef, undef, undef, undef, undef, undef, undef, undef, undef], defers := [] } ∧ BytI B0 Bq w (digL 256 (hi l (n1 - i))) W
set_option maxRecDepth 100000 in
set_option maxHeartbeats 16000000 in
theorem bytes_any (a : Option Addr) (n c : Nat) (l : List Nat) (w : World) (h : NatAt w a n c l) (hs : n ≤ 1073741824) :
 Calls Tryd.prog 12 #[.slice a n c] w (RetByt w (digL 256 (val l))) := by
 obtain ⟨i0, hi0, hz0, hz1, hz2⟩ := info_parts u8_info
 refine (callsIn_wide (n := 3)).1 ?_
 refine callsIn_of_wp_marks Tryd.func12 rfl trivial ?_ rfl
 simp only [Tryd.ntmps12, List.size_toArray, List.length_cons, List.length_nil, Nat.reduceAdd, Nat.reduceSub, Array.replicate_succ, Array.replicate_zero, List.push_toArray, List.append_toArray, List.nil_append, List.cons_append]
 gi_wp2_with fail
 obtain ⟨wA, hwA⟩ : ∃ wA, w.alloc (.cells #[.slice none 0 0] 27) = wA := ⟨_, rfl⟩
 have hbA : Below w.heap.size w wA := by rw [← hwA]; exact (Below.refl _ _).alloc (Nat.le_refl _) _
 have qA : wA.cell? ⟨w.heap.size, 0, none⟩ = some (.slice none 0 0) := by rw [← hwA, World.cell?_alloc_at _ _ _ _ rfl]; rfl
 have fA : wA.frozen? ⟨w.heap.size, 0, none⟩ = false := by rw [← hwA]; exact World.frozen?_alloc_at _ _ _ _ rfl
 have sA : wA.heap.size = w.heap.size + 1 := by rw [← hwA]; simp
 have h1 := h.past hbA
 rw [hwA]
 have SA := Lib.hid sA
 clear hwA sA
 refine ⟨trivial, ?_⟩
 refine (callsIn_wide.2 (trim_any _ _ _ _ _ h1 (by omega))).mono ?_
 rintro e w1 ⟨a1, n1, c1, rfl, h2, hb1⟩
 have hlim : (digL 256 (val l)).length ≤ 8589934592 := by have h3 := digL8_limbs h.dig; rw [h.len] at h3; omega
 have HL1 := Lib.hid h2.len
 gi_wp2_with fail
 refine ⟨trivial, ?_⟩
 refine (callsIn_wide.2 (backward_any _ _ _ _)).mono ?_
 rintro e w2 ⟨rfl, hw2⟩
 have hb2 : Below w1.heap.size w1 w2 := by rw [← hw2]; exact (Below.refl _ _).alloc (Nat.le_refl _) _
 have q2 : w2.cell? ⟨w1.heap.size, 0, none⟩ = some (.slice a1 n1 c1) := by rw [← hw2, World.cell?_alloc_at _ _ _ _ rfl]; rfl
 have s2 : w2.heap.size = w1.heap.size + 1 := by rw [← hw2]; simp
 have hfix : FixBack w1.heap.size a1 n1 c1 (digs (val l)) w2 := ⟨q2, h2.toNatAt.past hb2⟩
 have S2 := Lib.hid s2
 have hb12 := below_later hb1 hb2
 have hsA : wA.heap.size ≤ w2.heap.size := hb12.size
 have hBq : w.heap.size < w2.heap.size := by have := SA.out; omega
 have hbS : w.heap.size < w1.heap.size ∧ w1.heap.size < w2.heap.size := by have := SA.out; have := S2.out; have := hb1.size; omega
 have hdg : n1 = 0 ∨ ∀ x, a1 = some x → w.heap.size < x.block ∧ x.block < w2.heap.size := by
  rcases h2.own with h0 | ⟨b, o, rfl, hB, _⟩
  · exact .inl h0
  · rcases h2.toNatAt.parts with h0 | ⟨b', o', e, hlt, _⟩
    · exact .inl h0
    · cases e
      exact .inr fun x hx => by cases hx; have := SA.out; exact ⟨by show w.heap.size < b; omega, by show b < w2.heap.size; omega⟩
 have hI0 : BytI w.heap.size w2.heap.size w (digL 256 (hi (digs (val l)) (n1 - 0))) w2 := by
  refine ⟨.slice none 0 0, (hb12.cell (p := ⟨w.heap.size, 0, none⟩) (by have := SA.out; show w.heap.size < wA.heap.size; omega)).trans qA, (hb12.frozen (p := ⟨w.heap.size, 0, none⟩) (by have := SA.out; show w.heap.size < wA.heap.size; omega)).trans fA, ?_, Nat.le_refl _, below_later hbA hb12⟩
  rw [hi_all (by rw [HL1.out]; omega)]
  exact World.ownsRow_nil _ _ _ _
 have hmx : ∀ i H X, i < n1 → hi (digs (val l)) (n1 - i) = H → D (digs (val l)) (n1 - 1 - i) = X → X < 18446744073709551616 ∧ hi (digs (val l)) (n1 - (i + 1)) = H * 18446744073709551616 + X ∧ ∀ j, j ≤ 8 → (digL 256 (bytV H X j)).length ≤ 8589934592 := by
  intro i H X hin hH hX
  obtain ⟨p, hp⟩ : ∃ p, n1 - 1 - i = p := ⟨_, rfl⟩
  rw [show n1 - i = p + 1 by omega] at hH
  rw [hp] at hX
  rw [show n1 - (i + 1) = p by omega]
  have hx := (dig_digs (val l)).at_ p
  have hstep := hi_step (digs (val l)) p
  have hhi : hi (digs (val l)) p ≤ val l := by have := lo_hi (digs (val l)) p; rw [val_digs] at this; have := Nat.le_mul_of_pos_left (hi (digs (val l)) p) (show 0 < 18446744073709551616 ^ p from Nat.pow_pos (by decide)); omega
  rw [hX] at hx hstep
  rw [hH] at hstep
  refine ⟨hx, by omega, fun j hj => ?_⟩
  have := bytV_le H X j hj
  have := digL_mono (b := 256) (by decide) (m := bytV H X j) (n := val l) (by omega)
  omega
 have HMX := Lib.hid hmx
 have HBQ := Lib.hid hBq
 have HBS := Lib.hid hbS
 have HDG := Lib.hid hdg
 have HH := Lib.hid h
 clear h1 h2 hb1 hw2 hb2 q2 s2 hb12 hsA hBq hbS hdg hlim hmx qA fA h
 obtain ⟨bS, hbSe⟩ : ∃ bS, w1.heap.size = bS := ⟨_, rfl⟩
 rw [hbSe] at HBS hfix S2 ⊢
 clear hbSe
 gi_wp2_with fail
 refine wpIn_roundsF (by decide) rfl (enters_of Tryd.func54 (by kernel_rfl) rfl) (N := n1) (Ok := OkBack (digs (val l)) n1) (Fix := FixBack bS a1 n1 c1 (digs (val l))) ?_ (backward1_hands bS a1 n1 c1 (digs (val l))) (fun _ _ h hb => h.past hb) (fun W l o o' h hl ho _ => h.turn o' hl ho) hfix
  (fun i W => BytI w.heap.size w2.heap.size w (digL 256 (hi (digs (val l)) (n1 - i))) W) (BytM w.heap.size w2.heap.size w a n c a1 n1 c1 bS (digs (val l)))
  (fun i W W' h hb => h.past HBQ.out hb) (fun i W l o o' h hl ho hB => h.turn o' hl ho (by have := HBQ.out; omega)) ?_ hI0 ?_ ?_ ?_
 · intro i x W hx; rw [hx]; rfl
 · intro i x b W l o o' h hl ho hB
   obtain ⟨x0, X, e1, e2, e3⟩ := h
   exact ⟨x0, X, e1, e2, e3.turn o' hl ho (by have := HBQ.out; omega)⟩
 · intro lp i x W hi1 hI hF hx
   subst hx
   have hall := And.intro (KeepsOthers.refl W) (And.intro hF (⟨n1 - 1 - i, _, rfl, rfl, hI⟩ : BytM w.heap.size w2.heap.size w a n c a1 n1 c1 bS (digs (val l)) i #[.int .i64 ((n1 - 1 - i : Nat) : Int), .int .u64 ((D (digs (val l)) (n1 - 1 - i) : Nat) : Int)] _ W))
   gi_wp2
   first | exact hall | exact hall.2.2
 · rintro lp i x b W hi1 hF ⟨x0, X, hXe, rfl, hI⟩
   obtain ⟨H, hH⟩ : ∃ H, hi (digs (val l)) (n1 - i) = H := ⟨_, rfl⟩
   obtain ⟨hX, hstep, hmx⟩ := HMX.out i H X hi1 hH hXe
   rw [hH] at hI
   have HX := Lib.hid hX
   have HS := Lib.hid hstep
   have HM := Lib.hid hmx
   have HF := Lib.hid hF
   have HI := Lib.hid hI
   clear hH hXe hX hstep hmx hF hI
   gi_wp2_with fail
   gi_loopw [6] (fun s6 wq => ∃ (j : Nat) (L : List Nat), j ≤ 8 ∧ s6 = .int .i64 (8 * (j : Int) - 8) ∧ L = digL 256 (bytV H X j) ∧ BytI w.heap.size w2.heap.size w L wq ∧ FixBack bS a1 n1 c1 (digs (val l)) wq ∧ KeepsOthers W wq) (fun s6 _ => (intOf s6 + 8).toNat)
   case atStart => exact ⟨8, _, Nat.le_refl _, rfl, by rw [bytV_top HX.out], HI.out, HF.out, KeepsOthers.refl W⟩
   case round =>
    obtain ⟨j, L, hj, rfl, hL, hI, hF, hK⟩ := hrel
    by_cases hj0 : 0 < j
    · obtain ⟨k, rfl⟩ : ∃ k, j = k + 1 := ⟨j - 1, by omega⟩
      obtain ⟨v, k1, k2, k3, k4, k5⟩ := hI
      obtain ⟨a3, c3, rfl, hc3, hc3m⟩ := row_shape k3
      simp only [maxLen] at hc3m
      have hl2 : L.length ≤ 8589934592 := by rw [hL]; exact HM.out _ hj
      have HF2 := Lib.hid hF
      have HK2 := Lib.hid hK
      clear hF hK
      rcases (by omega : k = 0 ∨ k = 1 ∨ k = 2 ∨ k = 3 ∨ k = 4 ∨ k = 5 ∨ k = 6 ∨ k = 7) with rfl | rfl | rfl | rfl | rfl | rfl | rfl | rfl
      · rw [show (8 * ((0 + 1 : Nat) : Int) - 8) = 0 from rfl]
        have HL2 := Lib.hid hL
        clear hL hj hj0
        by_cases hB : 0 < X / 256 ^ 0 % 256
        · have hB2 : (0 : Int) < (X : Int) % 256 := by have : ((X / 256 ^ 0 % 256 : Nat) : Int) = (X : Int) % 256 := (byte_zero X); omega
          have HB := Lib.hid hB
          clear hB
          gi_wp2_with (gi_at_builtin; refine wpListIn_append_own _ rfl _ _ 27 rfl w2.heap.size 5 i0 (.int .u8 0) 1 1 Tryd.underlying27 hi0 hz0 hz1 hz2 rfl (by decide) _ _ _ rfl (row_past8 k3 ((Below.refl _ _).alloc (Nat.le_refl _) _)) ⟨wr.heap.size, 0, none⟩ 1 1 [Value.int .u8 ((X : Int) % 256)] rfl rfl (one_new8 _ _ _) (by simp [Value.oneCell']) (by simp only [maxLen]; omega) (by omega) (by simp; omega) ?_; intro v' w7 hown7 hg7 _; have e := byt_more (H := H) (X := X) (j := 0) (by decide) HL2.out (.inr HB.out); have hown8 : w7.ownsRow w2.heap.size 5 1 v' (L ++ [X / 256 ^ 0 % 256]).length (bv (L ++ [X / 256 ^ 0 % 256])) := (by rw [List.length_append, ← bv_snoc, show ((X / 256 ^ 0 % 256 : Nat) : Int) = (X : Int) % 256 from (byte_zero X)]; exact hown7); obtain ⟨g7, p7, rfl, _, _⟩ := row_form8 hown7 (by omega); obtain ⟨⟨m1, m2⟩, m3, m4, m5⟩ := BytI.more HBQ.out k1 k2 k3 k4 k5 hg7 hown8; have E := Lib.hid e; clear e; have M := Lib.hid (And.intro m3 (And.intro m4 m5)); clear m3 m4 m5)
          go_roundw
          case measure => simp [intOf]
          case rel => exact ⟨0, L ++ [X / 256 ^ 0 % 256], by decide, rfl, E.out, M.out.1, HF2.out.amid M.out.2.2 HBS.out.1 HBS.out.2 HDG.out, HK2.out.trans M.out.2.1⟩
        · have hB2 : ¬ (0 : Int) < (X : Int) % 256 := by have : ((X / 256 ^ 0 % 256 : Nat) : Int) = (X : Int) % 256 := (byte_zero X); omega
          have hB0 : X / 256 ^ 0 % 256 = 0 := by omega
          have HB0 := Lib.hid hB0
          clear hB hB0
          by_cases h0 : 0 < L.length
          · skip
            gi_wp2_with (gi_at_builtin; refine wpListIn_append_own _ rfl _ _ 27 rfl w2.heap.size 5 i0 (.int .u8 0) 1 1 Tryd.underlying27 hi0 hz0 hz1 hz2 rfl (by decide) _ _ _ rfl (row_past8 k3 ((Below.refl _ _).alloc (Nat.le_refl _) _)) ⟨wr.heap.size, 0, none⟩ 1 1 [Value.int .u8 ((X : Int) % 256)] rfl rfl (one_new8 _ _ _) (by simp [Value.oneCell']) (by simp only [maxLen]; omega) (by omega) (by simp; omega) ?_; intro v' w7 hown7 hg7 _; have e := byt_more (H := H) (X := X) (j := 0) (by decide) HL2.out (.inl h0); have hown8 : w7.ownsRow w2.heap.size 5 1 v' (L ++ [X / 256 ^ 0 % 256]).length (bv (L ++ [X / 256 ^ 0 % 256])) := (by rw [List.length_append, ← bv_snoc, show ((X / 256 ^ 0 % 256 : Nat) : Int) = (X : Int) % 256 from (byte_zero X)]; exact hown7); obtain ⟨g7, p7, rfl, _, _⟩ := row_form8 hown7 (by omega); obtain ⟨⟨m1, m2⟩, m3, m4, m5⟩ := BytI.more HBQ.out k1 k2 k3 k4 k5 hg7 hown8; have E := Lib.hid e; clear e; have M := Lib.hid (And.intro m3 (And.intro m4 m5)); clear m3 m4 m5)
            go_roundw
            case measure => simp [intOf]
            case rel => exact ⟨0, L ++ [X / 256 ^ 0 % 256], by decide, rfl, E.out, M.out.1, HF2.out.amid M.out.2.2 HBS.out.1 HBS.out.2 HDG.out, HK2.out.trans M.out.2.1⟩
          · gi_wp2_with fail
            go_roundw
            case measure => simp [intOf]
            case rel => exact ⟨0, L, by decide, rfl, byt_none (by decide) HL2.out (by omega) HB0.out, ⟨_, k1, k2, k3, k4, k5⟩, HF2.out, HK2.out⟩
      · rw [show (8 * ((1 + 1 : Nat) : Int) - 8) = 8 from rfl]
        have HL2 := Lib.hid hL
        clear hL hj hj0
        by_cases hB : 0 < X / 256 ^ 1 % 256
        · have hB2 : (0 : Int) < (X : Int) / 256 % 256 := by have : ((X / 256 ^ 1 % 256 : Nat) : Int) = (X : Int) / 256 % 256 := rfl; omega
          have HB := Lib.hid hB
          clear hB
          gi_wp2_with (gi_at_builtin; refine wpListIn_append_own _ rfl _ _ 27 rfl w2.heap.size 5 i0 (.int .u8 0) 1 1 Tryd.underlying27 hi0 hz0 hz1 hz2 rfl (by decide) _ _ _ rfl (row_past8 k3 ((Below.refl _ _).alloc (Nat.le_refl _) _)) ⟨wr.heap.size, 0, none⟩ 1 1 [Value.int .u8 ((X : Int) / 256 % 256)] rfl rfl (one_new8 _ _ _) (by simp [Value.oneCell']) (by simp only [maxLen]; omega) (by omega) (by simp; omega) ?_; intro v' w7 hown7 hg7 _; have e := byt_more (H := H) (X := X) (j := 1) (by decide) HL2.out (.inr HB.out); have hown8 : w7.ownsRow w2.heap.size 5 1 v' (L ++ [X / 256 ^ 1 % 256]).length (bv (L ++ [X / 256 ^ 1 % 256])) := (by rw [List.length_append, ← bv_snoc, show ((X / 256 ^ 1 % 256 : Nat) : Int) = (X : Int) / 256 % 256 from rfl]; exact hown7); obtain ⟨g7, p7, rfl, _, _⟩ := row_form8 hown7 (by omega); obtain ⟨⟨m1, m2⟩, m3, m4, m5⟩ := BytI.more HBQ.out k1 k2 k3 k4 k5 hg7 hown8; have E := Lib.hid e; clear e; have M := Lib.hid (And.intro m3 (And.intro m4 m5)); clear m3 m4 m5)
          go_roundw
          case measure => simp [intOf]
          case rel => exact ⟨1, L ++ [X / 256 ^ 1 % 256], by decide, rfl, E.out, M.out.1, HF2.out.amid M.out.2.2 HBS.out.1 HBS.out.2 HDG.out, HK2.out.trans M.out.2.1⟩
        · have hB2 : ¬ (0 : Int) < (X : Int) / 256 % 256 := by have : ((X / 256 ^ 1 % 256 : Nat) : Int) = (X : Int) / 256 % 256 := rfl; omega
          have hB0 : X / 256 ^ 1 % 256 = 0 := by omega
          have HB0 := Lib.hid hB0
          clear hB hB0
          by_cases h0 : 0 < L.length
          · skip
            gi_wp2_with (gi_at_builtin; refine wpListIn_append_own _ rfl _ _ 27 rfl w2.heap.size 5 i0 (.int .u8 0) 1 1 Tryd.underlying27 hi0 hz0 hz1 hz2 rfl (by decide) _ _ _ rfl (row_past8 k3 ((Below.refl _ _).alloc (Nat.le_refl _) _)) ⟨wr.heap.size, 0, none⟩ 1 1 [Value.int .u8 ((X : Int) / 256 % 256)] rfl rfl (one_new8 _ _ _) (by simp [Value.oneCell']) (by simp only [maxLen]; omega) (by omega) (by simp; omega) ?_; intro v' w7 hown7 hg7 _; have e := byt_more (H := H) (X := X) (j := 1) (by decide) HL2.out (.inl h0); have hown8 : w7.ownsRow w2.heap.size 5 1 v' (L ++ [X / 256 ^ 1 % 256]).length (bv (L ++ [X / 256 ^ 1 % 256])) := (by rw [List.length_append, ← bv_snoc, show ((X / 256 ^ 1 % 256 : Nat) : Int) = (X : Int) / 256 % 256 from rfl]; exact hown7); obtain ⟨g7, p7, rfl, _, _⟩ := row_form8 hown7 (by omega); obtain ⟨⟨m1, m2⟩, m3, m4, m5⟩ := BytI.more HBQ.out k1 k2 k3 k4 k5 hg7 hown8; have E := Lib.hid e; clear e; have M := Lib.hid (And.intro m3 (And.intro m4 m5)); clear m3 m4 m5)
            go_roundw
            case measure => simp [intOf]
            case rel => exact ⟨1, L ++ [X / 256 ^ 1 % 256], by decide, rfl, E.out, M.out.1, HF2.out.amid M.out.2.2 HBS.out.1 HBS.out.2 HDG.out, HK2.out.trans M.out.2.1⟩
          · gi_wp2_with fail
            go_roundw
            case measure => simp [intOf]
            case rel => exact ⟨1, L, by decide, rfl, byt_none (by decide) HL2.out (by omega) HB0.out, ⟨_, k1, k2, k3, k4, k5⟩, HF2.out, HK2.out⟩
      · rw [show (8 * ((2 + 1 : Nat) : Int) - 8) = 16 from rfl]
        have HL2 := Lib.hid hL
        clear hL hj hj0
        by_cases hB : 0 < X / 256 ^ 2 % 256
        · have hB2 : (0 : Int) < (X : Int) / 65536 % 256 := by have : ((X / 256 ^ 2 % 256 : Nat) : Int) = (X : Int) / 65536 % 256 := rfl; omega
          have HB := Lib.hid hB
          clear hB
          gi_wp2_with (gi_at_builtin; refine wpListIn_append_own _ rfl _ _ 27 rfl w2.heap.size 5 i0 (.int .u8 0) 1 1 Tryd.underlying27 hi0 hz0 hz1 hz2 rfl (by decide) _ _ _ rfl (row_past8 k3 ((Below.refl _ _).alloc (Nat.le_refl _) _)) ⟨wr.heap.size, 0, none⟩ 1 1 [Value.int .u8 ((X : Int) / 65536 % 256)] rfl rfl (one_new8 _ _ _) (by simp [Value.oneCell']) (by simp only [maxLen]; omega) (by omega) (by simp; omega) ?_; intro v' w7 hown7 hg7 _; have e := byt_more (H := H) (X := X) (j := 2) (by decide) HL2.out (.inr HB.out); have hown8 : w7.ownsRow w2.heap.size 5 1 v' (L ++ [X / 256 ^ 2 % 256]).length (bv (L ++ [X / 256 ^ 2 % 256])) := (by rw [List.length_append, ← bv_snoc, show ((X / 256 ^ 2 % 256 : Nat) : Int) = (X : Int) / 65536 % 256 from rfl]; exact hown7); obtain ⟨g7, p7, rfl, _, _⟩ := row_form8 hown7 (by omega); obtain ⟨⟨m1, m2⟩, m3, m4, m5⟩ := BytI.more HBQ.out k1 k2 k3 k4 k5 hg7 hown8; have E := Lib.hid e; clear e; have M := Lib.hid (And.intro m3 (And.intro m4 m5)); clear m3 m4 m5)
          go_roundw
          case measure => simp [intOf]
          case rel => exact ⟨2, L ++ [X / 256 ^ 2 % 256], by decide, rfl, E.out, M.out.1, HF2.out.amid M.out.2.2 HBS.out.1 HBS.out.2 HDG.out, HK2.out.trans M.out.2.1⟩
        · have hB2 : ¬ (0 : Int) < (X : Int) / 65536 % 256 := by have : ((X / 256 ^ 2 % 256 : Nat) : Int) = (X : Int) / 65536 % 256 := rfl; omega
          have hB0 : X / 256 ^ 2 % 256 = 0 := by omega
          have HB0 := Lib.hid hB0
          clear hB hB0
          by_cases h0 : 0 < L.length
          · skip
            gi_wp2_with (gi_at_builtin; refine wpListIn_append_own _ rfl _ _ 27 rfl w2.heap.size 5 i0 (.int .u8 0) 1 1 Tryd.underlying27 hi0 hz0 hz1 hz2 rfl (by decide) _ _ _ rfl (row_past8 k3 ((Below.refl _ _).alloc (Nat.le_refl _) _)) ⟨wr.heap.size, 0, none⟩ 1 1 [Value.int .u8 ((X : Int) / 65536 % 256)] rfl rfl (one_new8 _ _ _) (by simp [Value.oneCell']) (by simp only [maxLen]; omega) (by omega) (by simp; omega) ?_; intro v' w7 hown7 hg7 _; have e := byt_more (H := H) (X := X) (j := 2) (by decide) HL2.out (.inl h0); have hown8 : w7.ownsRow w2.heap.size 5 1 v' (L ++ [X / 256 ^ 2 % 256]).length (bv (L ++ [X / 256 ^ 2 % 256])) := (by rw [List.length_append, ← bv_snoc, show ((X / 256 ^ 2 % 256 : Nat) : Int) = (X : Int) / 65536 % 256 from rfl]; exact hown7); obtain ⟨g7, p7, rfl, _, _⟩ := row_form8 hown7 (by omega); obtain ⟨⟨m1, m2⟩, m3, m4, m5⟩ := BytI.more HBQ.out k1 k2 k3 k4 k5 hg7 hown8; have E := Lib.hid e; clear e; have M := Lib.hid (And.intro m3 (And.intro m4 m5)); clear m3 m4 m5)
            go_roundw
            case measure => simp [intOf]
            case rel => exact ⟨2, L ++ [X / 256 ^ 2 % 256], by decide, rfl, E.out, M.out.1, HF2.out.amid M.out.2.2 HBS.out.1 HBS.out.2 HDG.out, HK2.out.trans M.out.2.1⟩
          · gi_wp2_with fail
            go_roundw
            case measure => simp [intOf]
            case rel => exact ⟨2, L, by decide, rfl, byt_none (by decide) HL2.out (by omega) HB0.out, ⟨_, k1, k2, k3, k4, k5⟩, HF2.out, HK2.out⟩
      · rw [show (8 * ((3 + 1 : Nat) : Int) - 8) = 24 from rfl]
        have HL2 := Lib.hid hL
        clear hL hj hj0
        by_cases hB : 0 < X / 256 ^ 3 % 256
        · have hB2 : (0 : Int) < (X : Int) / 16777216 % 256 := by have : ((X / 256 ^ 3 % 256 : Nat) : Int) = (X : Int) / 16777216 % 256 := rfl; omega
          have HB := Lib.hid hB
          clear hB
          gi_wp2_with (gi_at_builtin; refine wpListIn_append_own _ rfl _ _ 27 rfl w2.heap.size 5 i0 (.int .u8 0) 1 1 Tryd.underlying27 hi0 hz0 hz1 hz2 rfl (by decide) _ _ _ rfl (row_past8 k3 ((Below.refl _ _).alloc (Nat.le_refl _) _)) ⟨wr.heap.size, 0, none⟩ 1 1 [Value.int .u8 ((X : Int) / 16777216 % 256)] rfl rfl (one_new8 _ _ _) (by simp [Value.oneCell']) (by simp only [maxLen]; omega) (by omega) (by simp; omega) ?_; intro v' w7 hown7 hg7 _; have e := byt_more (H := H) (X := X) (j := 3) (by decide) HL2.out (.inr HB.out); have hown8 : w7.ownsRow w2.heap.size 5 1 v' (L ++ [X / 256 ^ 3 % 256]).length (bv (L ++ [X / 256 ^ 3 % 256])) := (by rw [List.length_append, ← bv_snoc, show ((X / 256 ^ 3 % 256 : Nat) : Int) = (X : Int) / 16777216 % 256 from rfl]; exact hown7); obtain ⟨g7, p7, rfl, _, _⟩ := row_form8 hown7 (by omega); obtain ⟨⟨m1, m2⟩, m3, m4, m5⟩ := BytI.more HBQ.out k1 k2 k3 k4 k5 hg7 hown8; have E := Lib.hid e; clear e; have M := Lib.hid (And.intro m3 (And.intro m4 m5)); clear m3 m4 m5)
          go_roundw
          case measure => simp [intOf]
          case rel => exact ⟨3, L ++ [X / 256 ^ 3 % 256], by decide, rfl, E.out, M.out.1, HF2.out.amid M.out.2.2 HBS.out.1 HBS.out.2 HDG.out, HK2.out.trans M.out.2.1⟩
        · have hB2 : ¬ (0 : Int) < (X : Int) / 16777216 % 256 := by have : ((X / 256 ^ 3 % 256 : Nat) : Int) = (X : Int) / 16777216 % 256 := rfl; omega
          have hB0 : X / 256 ^ 3 % 256 = 0 := by omega
          have HB0 := Lib.hid hB0
          clear hB hB0
          by_cases h0 : 0 < L.length
          · skip
            gi_wp2_with (gi_at_builtin; refine wpListIn_append_own _ rfl _ _ 27 rfl w2.heap.size 5 i0 (.int .u8 0) 1 1 Tryd.underlying27 hi0 hz0 hz1 hz2 rfl (by decide) _ _ _ rfl (row_past8 k3 ((Below.refl _ _).alloc (Nat.le_refl _) _)) ⟨wr.heap.size, 0, none⟩ 1 1 [Value.int .u8 ((X : Int) / 16777216 % 256)] rfl rfl (one_new8 _ _ _) (by simp [Value.oneCell']) (by simp only [maxLen]; omega) (by omega) (by simp; omega) ?_; intro v' w7 hown7 hg7 _; have e := byt_more (H := H) (X := X) (j := 3) (by decide) HL2.out (.inl h0); have hown8 : w7.ownsRow w2.heap.size 5 1 v' (L ++ [X / 256 ^ 3 % 256]).length (bv (L ++ [X / 256 ^ 3 % 256])) := (by rw [List.length_append, ← bv_snoc, show ((X / 256 ^ 3 % 256 : Nat) : Int) = (X : Int) / 16777216 % 256 from rfl]; exact hown7); obtain ⟨g7, p7, rfl, _, _⟩ := row_form8 hown7 (by omega); obtain ⟨⟨m1, m2⟩, m3, m4, m5⟩ := BytI.more HBQ.out k1 k2 k3 k4 k5 hg7 hown8; have E := Lib.hid e; clear e; have M := Lib.hid (And.intro m3 (And.intro m4 m5)); clear m3 m4 m5)
            go_roundw
            case measure => simp [intOf]
            case rel => exact ⟨3, L ++ [X / 256 ^ 3 % 256], by decide, rfl, E.out, M.out.1, HF2.out.amid M.out.2.2 HBS.out.1 HBS.out.2 HDG.out, HK2.out.trans M.out.2.1⟩
          · gi_wp2_with fail
            go_roundw
            case measure => simp [intOf]
            case rel => exact ⟨3, L, by decide, rfl, byt_none (by decide) HL2.out (by omega) HB0.out, ⟨_, k1, k2, k3, k4, k5⟩, HF2.out, HK2.out⟩
      · rw [show (8 * ((4 + 1 : Nat) : Int) - 8) = 32 from rfl]
        have HL2 := Lib.hid hL
        clear hL hj hj0
        by_cases hB : 0 < X / 256 ^ 4 % 256
        · have hB2 : (0 : Int) < (X : Int) / 4294967296 % 256 := by have : ((X / 256 ^ 4 % 256 : Nat) : Int) = (X : Int) / 4294967296 % 256 := rfl; omega
          have HB := Lib.hid hB
          clear hB
          gi_wp2_with (gi_at_builtin; refine wpListIn_append_own _ rfl _ _ 27 rfl w2.heap.size 5 i0 (.int .u8 0) 1 1 Tryd.underlying27 hi0 hz0 hz1 hz2 rfl (by decide) _ _ _ rfl (row_past8 k3 ((Below.refl _ _).alloc (Nat.le_refl _) _)) ⟨wr.heap.size, 0, none⟩ 1 1 [Value.int .u8 ((X : Int) / 4294967296 % 256)] rfl rfl (one_new8 _ _ _) (by simp [Value.oneCell']) (by simp only [maxLen]; omega) (by omega) (by simp; omega) ?_; intro v' w7 hown7 hg7 _; have e := byt_more (H := H) (X := X) (j := 4) (by decide) HL2.out (.inr HB.out); have hown8 : w7.ownsRow w2.heap.size 5 1 v' (L ++ [X / 256 ^ 4 % 256]).length (bv (L ++ [X / 256 ^ 4 % 256])) := (by rw [List.length_append, ← bv_snoc, show ((X / 256 ^ 4 % 256 : Nat) : Int) = (X : Int) / 4294967296 % 256 from rfl]; exact hown7); obtain ⟨g7, p7, rfl, _, _⟩ := row_form8 hown7 (by omega); obtain ⟨⟨m1, m2⟩, m3, m4, m5⟩ := BytI.more HBQ.out k1 k2 k3 k4 k5 hg7 hown8; have E := Lib.hid e; clear e; have M := Lib.hid (And.intro m3 (And.intro m4 m5)); clear m3 m4 m5)
          go_roundw
          case measure => simp [intOf]
          case rel => exact ⟨4, L ++ [X / 256 ^ 4 % 256], by decide, rfl, E.out, M.out.1, HF2.out.amid M.out.2.2 HBS.out.1 HBS.out.2 HDG.out, HK2.out.trans M.out.2.1⟩
        · have hB2 : ¬ (0 : Int) < (X : Int) / 4294967296 % 256 := by have : ((X / 256 ^ 4 % 256 : Nat) : Int) = (X : Int) / 4294967296 % 256 := rfl; omega
          have hB0 : X / 256 ^ 4 % 256 = 0 := by omega
          have HB0 := Lib.hid hB0
          clear hB hB0
          by_cases h0 : 0 < L.length
          · skip
            gi_wp2_with (gi_at_builtin; refine wpListIn_append_own _ rfl _ _ 27 rfl w2.heap.size 5 i0 (.int .u8 0) 1 1 Tryd.underlying27 hi0 hz0 hz1 hz2 rfl (by decide) _ _ _ rfl (row_past8 k3 ((Below.refl _ _).alloc (Nat.le_refl _) _)) ⟨wr.heap.size, 0, none⟩ 1 1 [Value.int .u8 ((X : Int) / 4294967296 % 256)] rfl rfl (one_new8 _ _ _) (by simp [Value.oneCell']) (by simp only [maxLen]; omega) (by omega) (by simp; omega) ?_; intro v' w7 hown7 hg7 _; have e := byt_more (H := H) (X := X) (j := 4) (by decide) HL2.out (.inl h0); have hown8 : w7.ownsRow w2.heap.size 5 1 v' (L ++ [X / 256 ^ 4 % 256]).length (bv (L ++ [X / 256 ^ 4 % 256])) := (by rw [List.length_append, ← bv_snoc, show ((X / 256 ^ 4 % 256 : Nat) : Int) = (X : Int) / 4294967296 % 256 from rfl]; exact hown7); obtain ⟨g7, p7, rfl, _, _⟩ := row_form8 hown7 (by omega); obtain ⟨⟨m1, m2⟩, m3, m4, m5⟩ := BytI.more HBQ.out k1 k2 k3 k4 k5 hg7 hown8; have E := Lib.hid e; clear e; have M := Lib.hid (And.intro m3 (And.intro m4 m5)); clear m3 m4 m5)
            go_roundw
            case measure => simp [intOf]
            case rel => exact ⟨4, L ++ [X / 256 ^ 4 % 256], by decide, rfl, E.out, M.out.1, HF2.out.amid M.out.2.2 HBS.out.1 HBS.out.2 HDG.out, HK2.out.trans M.out.2.1⟩
          · gi_wp2_with fail
            go_roundw
            case measure => simp [intOf]
            case rel => exact ⟨4, L, by decide, rfl, byt_none (by decide) HL2.out (by omega) HB0.out, ⟨_, k1, k2, k3, k4, k5⟩, HF2.out, HK2.out⟩
      · rw [show (8 * ((5 + 1 : Nat) : Int) - 8) = 40 from rfl]
        have HL2 := Lib.hid hL
        clear hL hj hj0
        by_cases hB : 0 < X / 256 ^ 5 % 256
        · have hB2 : (0 : Int) < (X : Int) / 1099511627776 % 256 := by have : ((X / 256 ^ 5 % 256 : Nat) : Int) = (X : Int) / 1099511627776 % 256 := rfl; omega
          have HB := Lib.hid hB
          clear hB
          gi_wp2_with (gi_at_builtin; refine wpListIn_append_own _ rfl _ _ 27 rfl w2.heap.size 5 i0 (.int .u8 0) 1 1 Tryd.underlying27 hi0 hz0 hz1 hz2 rfl (by decide) _ _ _ rfl (row_past8 k3 ((Below.refl _ _).alloc (Nat.le_refl _) _)) ⟨wr.heap.size, 0, none⟩ 1 1 [Value.int .u8 ((X : Int) / 1099511627776 % 256)] rfl rfl (one_new8 _ _ _) (by simp [Value.oneCell']) (by simp only [maxLen]; omega) (by omega) (by simp; omega) ?_; intro v' w7 hown7 hg7 _; have e := byt_more (H := H) (X := X) (j := 5) (by decide) HL2.out (.inr HB.out); have hown8 : w7.ownsRow w2.heap.size 5 1 v' (L ++ [X / 256 ^ 5 % 256]).length (bv (L ++ [X / 256 ^ 5 % 256])) := (by rw [List.length_append, ← bv_snoc, show ((X / 256 ^ 5 % 256 : Nat) : Int) = (X : Int) / 1099511627776 % 256 from rfl]; exact hown7); obtain ⟨g7, p7, rfl, _, _⟩ := row_form8 hown7 (by omega); obtain ⟨⟨m1, m2⟩, m3, m4, m5⟩ := BytI.more HBQ.out k1 k2 k3 k4 k5 hg7 hown8; have E := Lib.hid e; clear e; have M := Lib.hid (And.intro m3 (And.intro m4 m5)); clear m3 m4 m5)
          go_roundw
          case measure => simp [intOf]
          case rel => exact ⟨5, L ++ [X / 256 ^ 5 % 256], by decide, rfl, E.out, M.out.1, HF2.out.amid M.out.2.2 HBS.out.1 HBS.out.2 HDG.out, HK2.out.trans M.out.2.1⟩
        · have hB2 : ¬ (0 : Int) < (X : Int) / 1099511627776 % 256 := by have : ((X / 256 ^ 5 % 256 : Nat) : Int) = (X : Int) / 1099511627776 % 256 := rfl; omega
          have hB0 : X / 256 ^ 5 % 256 = 0 := by omega
          have HB0 := Lib.hid hB0
          clear hB hB0
          by_cases h0 : 0 < L.length
          · skip
            gi_wp2_with (gi_at_builtin; refine wpListIn_append_own _ rfl _ _ 27 rfl w2.heap.size 5 i0 (.int .u8 0) 1 1 Tryd.underlying27 hi0 hz0 hz1 hz2 rfl (by decide) _ _ _ rfl (row_past8 k3 ((Below.refl _ _).alloc (Nat.le_refl _) _)) ⟨wr.heap.size, 0, none⟩ 1 1 [Value.int .u8 ((X : Int) / 1099511627776 % 256)] rfl rfl (one_new8 _ _ _) (by simp [Value.oneCell']) (by simp only [maxLen]; omega) (by omega) (by simp; omega) ?_; intro v' w7 hown7 hg7 _; have e := byt_more (H := H) (X := X) (j := 5) (by decide) HL2.out (.inl h0); have hown8 : w7.ownsRow w2.heap.size 5 1 v' (L ++ [X / 256 ^ 5 % 256]).length (bv (L ++ [X / 256 ^ 5 % 256])) := (by rw [List.length_append, ← bv_snoc, show ((X / 256 ^ 5 % 256 : Nat) : Int) = (X : Int) / 1099511627776 % 256 from rfl]; exact hown7); obtain ⟨g7, p7, rfl, _, _⟩ := row_form8 hown7 (by omega); obtain ⟨⟨m1, m2⟩, m3, m4, m5⟩ := BytI.more HBQ.out k1 k2 k3 k4 k5 hg7 hown8; have E := Lib.hid e; clear e; have M := Lib.hid (And.intro m3 (And.intro m4 m5)); clear m3 m4 m5)
            go_roundw
            case measure => simp [intOf]
            case rel => exact ⟨5, L ++ [X / 256 ^ 5 % 256], by decide, rfl, E.out, M.out.1, HF2.out.amid M.out.2.2 HBS.out.1 HBS.out.2 HDG.out, HK2.out.trans M.out.2.1⟩
          · gi_wp2_with fail
            go_roundw
            case measure => simp [intOf]
            case rel => exact ⟨5, L, by decide, rfl, byt_none (by decide) HL2.out (by omega) HB0.out, ⟨_, k1, k2, k3, k4, k5⟩, HF2.out, HK2.out⟩
      · rw [show (8 * ((6 + 1 : Nat) : Int) - 8) = 48 from rfl]
        have HL2 := Lib.hid hL
        clear hL hj hj0
        by_cases hB : 0 < X / 256 ^ 6 % 256
        · have hB2 : (0 : Int) < (X : Int) / 281474976710656 % 256 := by have : ((X / 256 ^ 6 % 256 : Nat) : Int) = (X : Int) / 281474976710656 % 256 := rfl; omega
          have HB := Lib.hid hB
          clear hB
          gi_wp2_with (gi_at_builtin; refine wpListIn_append_own _ rfl _ _ 27 rfl w2.heap.size 5 i0 (.int .u8 0) 1 1 Tryd.underlying27 hi0 hz0 hz1 hz2 rfl (by decide) _ _ _ rfl (row_past8 k3 ((Below.refl _ _).alloc (Nat.le_refl _) _)) ⟨wr.heap.size, 0, none⟩ 1 1 [Value.int .u8 ((X : Int) / 281474976710656 % 256)] rfl rfl (one_new8 _ _ _) (by simp [Value.oneCell']) (by simp only [maxLen]; omega) (by omega) (by simp; omega) ?_; intro v' w7 hown7 hg7 _; have e := byt_more (H := H) (X := X) (j := 6) (by decide) HL2.out (.inr HB.out); have hown8 : w7.ownsRow w2.heap.size 5 1 v' (L ++ [X / 256 ^ 6 % 256]).length (bv (L ++ [X / 256 ^ 6 % 256])) := (by rw [List.length_append, ← bv_snoc, show ((X / 256 ^ 6 % 256 : Nat) : Int) = (X : Int) / 281474976710656 % 256 from rfl]; exact hown7); obtain ⟨g7, p7, rfl, _, _⟩ := row_form8 hown7 (by omega); obtain ⟨⟨m1, m2⟩, m3, m4, m5⟩ := BytI.more HBQ.out k1 k2 k3 k4 k5 hg7 hown8; have E := Lib.hid e; clear e; have M := Lib.hid (And.intro m3 (And.intro m4 m5)); clear m3 m4 m5)
          go_roundw
          case measure => simp [intOf]
          case rel => exact ⟨6, L ++ [X / 256 ^ 6 % 256], by decide, rfl, E.out, M.out.1, HF2.out.amid M.out.2.2 HBS.out.1 HBS.out.2 HDG.out, HK2.out.trans M.out.2.1⟩
        · have hB2 : ¬ (0 : Int) < (X : Int) / 281474976710656 % 256 := by have : ((X / 256 ^ 6 % 256 : Nat) : Int) = (X : Int) / 281474976710656 % 256 := rfl; omega
          have hB0 : X / 256 ^ 6 % 256 = 0 := by omega
          have HB0 := Lib.hid hB0
          clear hB hB0
          by_cases h0 : 0 < L.length
          · skip
            gi_wp2_with (gi_at_builtin; refine wpListIn_append_own _ rfl _ _ 27 rfl w2.heap.size 5 i0 (.int .u8 0) 1 1 Tryd.underlying27 hi0 hz0 hz1 hz2 rfl (by decide) _ _ _ rfl (row_past8 k3 ((Below.refl _ _).alloc (Nat.le_refl _) _)) ⟨wr.heap.size, 0, none⟩ 1 1 [Value.int .u8 ((X : Int) / 281474976710656 % 256)] rfl rfl (one_new8 _ _ _) (by simp [Value.oneCell']) (by simp only [maxLen]; omega) (by omega) (by simp; omega) ?_; intro v' w7 hown7 hg7 _; have e := byt_more (H := H) (X := X) (j := 6) (by decide) HL2.out (.inl h0); have hown8 : w7.ownsRow w2.heap.size 5 1 v' (L ++ [X / 256 ^ 6 % 256]).length (bv (L ++ [X / 256 ^ 6 % 256])) := (by rw [List.length_append, ← bv_snoc, show ((X / 256 ^ 6 % 256 : Nat) : Int) = (X : Int) / 281474976710656 % 256 from rfl]; exact hown7); obtain ⟨g7, p7, rfl, _, _⟩ := row_form8 hown7 (by omega); obtain ⟨⟨m1, m2⟩, m3, m4, m5⟩ := BytI.more HBQ.out k1 k2 k3 k4 k5 hg7 hown8; have E := Lib.hid e; clear e; have M := Lib.hid (And.intro m3 (And.intro m4 m5)); clear m3 m4 m5)
            go_roundw
            case measure => simp [intOf]
            case rel => exact ⟨6, L ++ [X / 256 ^ 6 % 256], by decide, rfl, E.out, M.out.1, HF2.out.amid M.out.2.2 HBS.out.1 HBS.out.2 HDG.out, HK2.out.trans M.out.2.1⟩
          · gi_wp2_with fail
            go_roundw
            case measure => simp [intOf]
            case rel => exact ⟨6, L, by decide, rfl, byt_none (by decide) HL2.out (by omega) HB0.out, ⟨_, k1, k2, k3, k4, k5⟩, HF2.out, HK2.out⟩
      · rw [show (8 * ((7 + 1 : Nat) : Int) - 8) = 56 from rfl]
        have HL2 := Lib.hid hL
        clear hL hj hj0
        by_cases hB : 0 < X / 256 ^ 7 % 256
        · have hB2 : (0 : Int) < (X : Int) / 72057594037927936 % 256 := by have : ((X / 256 ^ 7 % 256 : Nat) : Int) = (X : Int) / 72057594037927936 % 256 := rfl; omega
          have HB := Lib.hid hB
          clear hB
          gi_wp2_with (gi_at_builtin; refine wpListIn_append_own _ rfl _ _ 27 rfl w2.heap.size 5 i0 (.int .u8 0) 1 1 Tryd.underlying27 hi0 hz0 hz1 hz2 rfl (by decide) _ _ _ rfl (row_past8 k3 ((Below.refl _ _).alloc (Nat.le_refl _) _)) ⟨wr.heap.size, 0, none⟩ 1 1 [Value.int .u8 ((X : Int) / 72057594037927936 % 256)] rfl rfl (one_new8 _ _ _) (by simp [Value.oneCell']) (by simp only [maxLen]; omega) (by omega) (by simp; omega) ?_; intro v' w7 hown7 hg7 _; have e := byt_more (H := H) (X := X) (j := 7) (by decide) HL2.out (.inr HB.out); have hown8 : w7.ownsRow w2.heap.size 5 1 v' (L ++ [X / 256 ^ 7 % 256]).length (bv (L ++ [X / 256 ^ 7 % 256])) := (by rw [List.length_append, ← bv_snoc, show ((X / 256 ^ 7 % 256 : Nat) : Int) = (X : Int) / 72057594037927936 % 256 from rfl]; exact hown7); obtain ⟨g7, p7, rfl, _, _⟩ := row_form8 hown7 (by omega); obtain ⟨⟨m1, m2⟩, m3, m4, m5⟩ := BytI.more HBQ.out k1 k2 k3 k4 k5 hg7 hown8; have E := Lib.hid e; clear e; have M := Lib.hid (And.intro m3 (And.intro m4 m5)); clear m3 m4 m5)
          go_roundw
          case measure => simp [intOf]
          case rel => exact ⟨7, L ++ [X / 256 ^ 7 % 256], by decide, rfl, E.out, M.out.1, HF2.out.amid M.out.2.2 HBS.out.1 HBS.out.2 HDG.out, HK2.out.trans M.out.2.1⟩
        · have hB2 : ¬ (0 : Int) < (X : Int) / 72057594037927936 % 256 := by have : ((X / 256 ^ 7 % 256 : Nat) : Int) = (X : Int) / 72057594037927936 % 256 := rfl; omega
          have hB0 : X / 256 ^ 7 % 256 = 0 := by omega
          have HB0 := Lib.hid hB0
          clear hB hB0
          by_cases h0 : 0 < L.length
          · skip
            gi_wp2_with (gi_at_builtin; refine wpListIn_append_own _ rfl _ _ 27 rfl w2.heap.size 5 i0 (.int .u8 0) 1 1 Tryd.underlying27 hi0 hz0 hz1 hz2 rfl (by decide) _ _ _ rfl (row_past8 k3 ((Below.refl _ _).alloc (Nat.le_refl _) _)) ⟨wr.heap.size, 0, none⟩ 1 1 [Value.int .u8 ((X : Int) / 72057594037927936 % 256)] rfl rfl (one_new8 _ _ _) (by simp [Value.oneCell']) (by simp only [maxLen]; omega) (by omega) (by simp; omega) ?_; intro v' w7 hown7 hg7 _; have e := byt_more (H := H) (X := X) (j := 7) (by decide) HL2.out (.inl h0); have hown8 : w7.ownsRow w2.heap.size 5 1 v' (L ++ [X / 256 ^ 7 % 256]).length (bv (L ++ [X / 256 ^ 7 % 256])) := (by rw [List.length_append, ← bv_snoc, show ((X / 256 ^ 7 % 256 : Nat) : Int) = (X : Int) / 72057594037927936 % 256 from rfl]; exact hown7); obtain ⟨g7, p7, rfl, _, _⟩ := row_form8 hown7 (by omega); obtain ⟨⟨m1, m2⟩, m3, m4, m5⟩ := BytI.more HBQ.out k1 k2 k3 k4 k5 hg7 hown8; have E := Lib.hid e; clear e; have M := Lib.hid (And.intro m3 (And.intro m4 m5)); clear m3 m4 m5)
            go_roundw
            case measure => simp [intOf]
            case rel => exact ⟨7, L ++ [X / 256 ^ 7 % 256], by decide, rfl, E.out, M.out.1, HF2.out.amid M.out.2.2 HBS.out.1 HBS.out.2 HDG.out, HK2.out.trans M.out.2.1⟩
          · gi_wp2_with fail
            go_roundw
            case measure => simp [intOf]
            case rel => exact ⟨7, L, by decide, rfl, byt_none (by decide) HL2.out (by omega) HB0.out, ⟨_, k1, k2, k3, k4, k5⟩, HF2.out, HK2.out⟩
    · obtain rfl : j = 0 := by omega
      have hLL : L = digL 256 (hi (digs (val l)) (n1 - (i + 1))) := by rw [HS.out, hL, bytV_all]
      have hI2 : BytI w.heap.size w2.heap.size w (digL 256 (hi (digs (val l)) (n1 - (i + 1)))) wr := by rw [← hLL]; exact hI
      have hall := And.intro hK (And.intro hF hI2)
      clear hL hLL hI hI2 hF hK
      gi_wp2_with fail
      try exact hall
 · intro Dd W hD hI hF hdef
   obtain ⟨v, k1, k2, k3, k4, k5⟩ := hI
   rw [Nat.sub_self, hi_zero, val_digs] at k3
   obtain ⟨a3, c3, rfl, hob⟩ := OwnBytes.ofRow k3 (digL_lt (by decide) _)
   have hob2 : OwnBytes (W.putObj Dd (.deferred none)) w2.heap.size a3 (digL 256 (val l)).length c3 (digL 256 (val l)) := by
    obtain ⟨a4, c4, e, hob4⟩ := OwnBytes.ofRow (ownsRow_putObj k3 (.deferred none) hdef rfl) (digL_lt (by decide) _)
    cases e
    exact hob4
   have HOB := Lib.hid hob2
   clear hob hob2 k3
   gi_wp2_with fail
   refine ⟨by simp, .inl ⟨_, _, rfl, run_takeDeferred hdef, ?_⟩⟩
   exact ⟨_, results_tmp rfl _ _ _, ⟨_, _, _, rfl, HOB.out.mono (by have := HBQ.out; omega), k5.trans (below_put (.deferred none) (by have := HBQ.out; omega))⟩⟩
end Go.Proofs.YtoecndogaklngaaDoor
