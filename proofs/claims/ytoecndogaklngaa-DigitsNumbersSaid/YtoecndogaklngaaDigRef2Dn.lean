import Derived.Test.YtoecndogaklngaaS0Dn
import Derived.Test.YtoecndogaklngaaByt3Dn
import Derived.Test.YtoecndogaklngaaRefs1Dn
set_option linter.unusedVariables false
set_option linter.unusedSimpArgs false
namespace Go.Proofs.Ytoecndogaklngaa
open Go.RowKit
def RetBytes (w : World) (L : List Nat) (e : Ending) (w' : World) : Prop :=
 ∃ a n c, e = .returned (.slice a n c) ∧ OwnBytes w' w.heap.size a n c L ∧ Below w.heap.size w w'
set_option maxRecDepth 100000 in
set_option maxHeartbeats 8000000 in
theorem rbytes_any (a : Option Addr) (n c : Nat) (l : List Nat) (w : World) (h : NatAt w a n c l) (hs : n ≤ 1073741824) :
 Calls Try.prog 12 #[.slice a n c] w (RetBytes w (digL 256 (val l))) := by
 obtain ⟨i0, hi0, hz0, hz1, hz2⟩ := info_parts u8_info
 go_enter Try.func12, Try.ntmps12
 go_wp2_with fail
 with_reducible refine (rtrim_any _ _ _ _ _ h (by omega)).mono ?_
 rintro e w1 ⟨a1, n1, c1, rfl, h1, hb1⟩
 have hl1 := h1.len
 have hn1 : n1 ≤ n := by have := h.short; omega
 have hlim : (digL 256 (val l)).length ≤ 8589934592 := by have h3 := digL8_limbs h.dig; rw [h.len] at h3; omega
 have HL1 := Lib.hid hl1
 clear hl1
 go_wp2_with fail
 go_loopw [3, 4] (fun s3 s4 wr => ∃ (m : Nat) (L : List Nat), m ≤ n1 ∧ s4 = .int .i64 ((m : Int) - 1) ∧ L = digL 256 (hi (digs (val l)) m) ∧ wr.ownsRow w1.heap.size 5 1 s3 L.length (bv L) ∧ Below w1.heap.size w1 wr) (fun _ s4 _ => (intOf s4 + 1).toNat)
 case atStart => exact ⟨n1, [], Nat.le_refl _, rfl, by rw [hi_all (by rw [HL1.out]; exact Nat.le_refl _)]; rfl, World.ownsRow_nil _ _ _ _, Below.refl _ _⟩
 case round =>
  obtain ⟨m, L, hm, rfl, hL, hown, hb⟩ := hrel
  by_cases hlt : 0 < m
  · obtain ⟨p, rfl⟩ : ∃ p, m = p + 1 := ⟨m - 1, by omega⟩
    have ej : ((p + 1 : Nat) : Int) - 1 = (p : Int) := by omega
    rw [ej]
    clear ej
    have hdd := dig_digs (val l)
    have hX := hdd.at_ p
    have hstep := hi_step (digs (val l)) p
    have hhi : hi (digs (val l)) p ≤ val l := by have := lo_hi (digs (val l)) p; rw [val_digs] at this; have := Nat.le_mul_of_pos_left (hi (digs (val l)) p) (show 0 < 18446744073709551616 ^ p from Nat.pow_pos (by decide)); omega
    obtain ⟨H, hH⟩ : ∃ H, hi (digs (val l)) (p + 1) = H := ⟨_, rfl⟩
    obtain ⟨X, hXe⟩ : ∃ X, D (digs (val l)) p = X := ⟨_, rfl⟩
    have hcell : ∃ b o, a1 = some ⟨b, o, none⟩ ∧ b < w1.heap.size ∧ w1.cell? ⟨b, o + p, none⟩ = some (.int .u64 ((X : Nat) : Int)) ∧ True := by
     rcases h1.toNatAt.parts with h' | ⟨b, o, e, hlb, hc⟩
     · omega
     · exact ⟨b, o, e, hlb, by rw [← hXe]; exact hc p (by omega), trivial⟩
    obtain ⟨b, o, rfl, hlb, hc, _⟩ := hcell
    rw [hXe] at hX hstep
    rw [hH] at hL hstep
    have hmx : ∀ j, j ≤ 8 → (digL 256 (bytV H X j)).length ≤ 8589934592 := by
     intro j hj
     have := bytV_le H X j hj
     have := digL_mono (b := 256) (by decide) (m := bytV H X j) (n := val l) (by omega)
     omega
    have HL := Lib.hid hL
    have HS := Lib.hid hstep
    have HX := Lib.hid hX
    have H1 := Lib.hid h1
    have HMX := Lib.hid hmx
    clear hL hH hXe hstep h1 hdd hX hhi hmx
    go_wp2_with fail
    obtain ⟨wo, hwo⟩ : ∃ wo : World, wo = wr := ⟨_, rfl⟩
    go_loopw [3, 5] (fun s3 s5 wq => ∃ (j : Nat) (L : List Nat), j ≤ 8 ∧ s5 = .int .i64 ((j : Int) - 1) ∧ L = digL 256 (bytV H X j) ∧ wq.ownsRow w1.heap.size 5 1 s3 L.length (bv L) ∧ Below w1.heap.size w1 wq) (fun _ s5 _ => (intOf s5 + 1).toNat)
    case atStart => exact ⟨8, L, Nat.le_refl _, rfl, by rw [bytV_top HX.out]; exact HL.out, hown, hb⟩
    case round =>
     clear hown hb
     obtain ⟨j, L2, hj, rfl, hL2, hown2, hb2⟩ := hrel
     by_cases hj0 : 0 < j
     · obtain ⟨k, rfl⟩ : ∃ k, j = k + 1 := ⟨j - 1, by omega⟩
       obtain ⟨a3, c3, rfl, hc3, hc3m⟩ := row_shape hown2
       simp only [maxLen] at hc3m
       have hl2 : L2.length ≤ 8589934592 := by rw [hL2]; exact HMX.out _ hj
       have hc2 := (hb2.cell (p := ⟨b, o + p, none⟩) hlb).trans hc
       have hsz2 := hb2.size
       rcases (by omega : k = 0 ∨ k = 1 ∨ k = 2 ∨ k = 3 ∨ k = 4 ∨ k = 5 ∨ k = 6 ∨ k = 7) with rfl | rfl | rfl | rfl | rfl | rfl | rfl | rfl
       · rw [show ((0 + 1 : Nat) : Int) - 1 = 0 from rfl]
         have HL2 := Lib.hid hL2
         clear hL2 hj hj0
         by_cases h0 : 0 < L2.length
         · skip
           go_wp2_with (at_builtin; refine wpList_append_own _ rfl _ _ 27 rfl w1.heap.size 5 i0 (.int .u8 0) 1 1 Try.underlying27 hi0 hz0 hz1 hz2 rfl (by decide) _ _ _ rfl (row_past8 hown2 ((Below.refl _ _).alloc (Nat.le_refl _) _)) ⟨wr.heap.size, 0, none⟩ 1 1 [Value.int .u8 ((X : Int) % 256)] rfl rfl (one_new8 _ _ _) (by simp [Value.oneCell']) (by simp only [maxLen]; omega) (by omega) (by simp; omega) ?_; intro v' w7 hown7 hg7 _)
           have hb7 : Below w1.heap.size w1 w7 := (hb2.alloc hsz2 _).grown hg7 (by simp; omega) (fun q e => (hown2.lt q e).1)
           go_roundw
           case measure => simp [intOf]
           case rel =>
            have e := byt_more (H := H) (X := X) (j := 0) (by decide) HL2.out (.inl h0)
            refine ⟨0, L2 ++ [X / 256 ^ 0 % 256], by decide, rfl, e, ?_, hb7⟩
            rw [List.length_append, ← bv_snoc, show ((X / 256 ^ 0 % 256 : Nat) : Int) = (X : Int) % 256 from (byte_zero X)]
            exact hown7
         · by_cases hB : 0 < X / 256 ^ 0 % 256
           · have hB2 : (0 : Int) < (X : Int) % 256 := by have : ((X / 256 ^ 0 % 256 : Nat) : Int) = (X : Int) % 256 := (byte_zero X); omega
             have HB := Lib.hid hB
             have hL0 : L2.length = 0 := by omega
             have HL0 := Lib.hid hL0
             clear hB hL0
             go_wp2_with (at_builtin; refine wpList_append_own _ rfl _ _ 27 rfl w1.heap.size 5 i0 (.int .u8 0) 1 1 Try.underlying27 hi0 hz0 hz1 hz2 rfl (by decide) _ _ _ rfl (row_past8 hown2 ((Below.refl _ _).alloc (Nat.le_refl _) _)) ⟨wr.heap.size, 0, none⟩ 1 1 [Value.int .u8 ((X : Int) % 256)] rfl rfl (one_new8 _ _ _) (by simp [Value.oneCell']) (by simp only [maxLen]; omega) (by omega) (by simp; omega) ?_; intro v' w7 hown7 hg7 _)
             have hb7 : Below w1.heap.size w1 w7 := (hb2.alloc hsz2 _).grown hg7 (by simp; omega) (fun q e => (hown2.lt q e).1)
             go_roundw
             case measure => simp [intOf]
             case rel =>
              have e := byt_more (H := H) (X := X) (j := 0) (by decide) HL2.out (.inr HB.out)
              refine ⟨0, L2 ++ [X / 256 ^ 0 % 256], by decide, rfl, e, ?_, hb7⟩
              rw [List.length_append, ← bv_snoc, show ((X / 256 ^ 0 % 256 : Nat) : Int) = (X : Int) % 256 from (byte_zero X)]
              exact hown7
           · have hB2 : ¬ (0 : Int) < (X : Int) % 256 := by have : ((X / 256 ^ 0 % 256 : Nat) : Int) = (X : Int) % 256 := (byte_zero X); omega
             have hB0 : X / 256 ^ 0 % 256 = 0 := by omega
             have HB0 := Lib.hid hB0
             clear hB hB0
             go_wp2_with fail
             go_roundw
             case measure => simp [intOf]
             case rel => exact ⟨0, L2, by decide, rfl, byt_none (by decide) HL2.out (by omega) HB0.out, hown2, hb2⟩
       · rw [show ((1 + 1 : Nat) : Int) - 1 = 1 from rfl]
         have HL2 := Lib.hid hL2
         clear hL2 hj hj0
         by_cases h0 : 0 < L2.length
         · skip
           go_wp2_with (at_builtin; refine wpList_append_own _ rfl _ _ 27 rfl w1.heap.size 5 i0 (.int .u8 0) 1 1 Try.underlying27 hi0 hz0 hz1 hz2 rfl (by decide) _ _ _ rfl (row_past8 hown2 ((Below.refl _ _).alloc (Nat.le_refl _) _)) ⟨wr.heap.size, 0, none⟩ 1 1 [Value.int .u8 ((X : Int) / 256 % 256)] rfl rfl (one_new8 _ _ _) (by simp [Value.oneCell']) (by simp only [maxLen]; omega) (by omega) (by simp; omega) ?_; intro v' w7 hown7 hg7 _)
           have hb7 : Below w1.heap.size w1 w7 := (hb2.alloc hsz2 _).grown hg7 (by simp; omega) (fun q e => (hown2.lt q e).1)
           go_roundw
           case measure => simp [intOf]
           case rel =>
            have e := byt_more (H := H) (X := X) (j := 1) (by decide) HL2.out (.inl h0)
            refine ⟨1, L2 ++ [X / 256 ^ 1 % 256], by decide, rfl, e, ?_, hb7⟩
            rw [List.length_append, ← bv_snoc, show ((X / 256 ^ 1 % 256 : Nat) : Int) = (X : Int) / 256 % 256 from rfl]
            exact hown7
         · by_cases hB : 0 < X / 256 ^ 1 % 256
           · have hB2 : (0 : Int) < (X : Int) / 256 % 256 := by have : ((X / 256 ^ 1 % 256 : Nat) : Int) = (X : Int) / 256 % 256 := rfl; omega
             have HB := Lib.hid hB
             have hL0 : L2.length = 0 := by omega
             have HL0 := Lib.hid hL0
             clear hB hL0
             go_wp2_with (at_builtin; refine wpList_append_own _ rfl _ _ 27 rfl w1.heap.size 5 i0 (.int .u8 0) 1 1 Try.underlying27 hi0 hz0 hz1 hz2 rfl (by decide) _ _ _ rfl (row_past8 hown2 ((Below.refl _ _).alloc (Nat.le_refl _) _)) ⟨wr.heap.size, 0, none⟩ 1 1 [Value.int .u8 ((X : Int) / 256 % 256)] rfl rfl (one_new8 _ _ _) (by simp [Value.oneCell']) (by simp only [maxLen]; omega) (by omega) (by simp; omega) ?_; intro v' w7 hown7 hg7 _)
             have hb7 : Below w1.heap.size w1 w7 := (hb2.alloc hsz2 _).grown hg7 (by simp; omega) (fun q e => (hown2.lt q e).1)
             go_roundw
             case measure => simp [intOf]
             case rel =>
              have e := byt_more (H := H) (X := X) (j := 1) (by decide) HL2.out (.inr HB.out)
              refine ⟨1, L2 ++ [X / 256 ^ 1 % 256], by decide, rfl, e, ?_, hb7⟩
              rw [List.length_append, ← bv_snoc, show ((X / 256 ^ 1 % 256 : Nat) : Int) = (X : Int) / 256 % 256 from rfl]
              exact hown7
           · have hB2 : ¬ (0 : Int) < (X : Int) / 256 % 256 := by have : ((X / 256 ^ 1 % 256 : Nat) : Int) = (X : Int) / 256 % 256 := rfl; omega
             have hB0 : X / 256 ^ 1 % 256 = 0 := by omega
             have HB0 := Lib.hid hB0
             clear hB hB0
             go_wp2_with fail
             go_roundw
             case measure => simp [intOf]
             case rel => exact ⟨1, L2, by decide, rfl, byt_none (by decide) HL2.out (by omega) HB0.out, hown2, hb2⟩
       · rw [show ((2 + 1 : Nat) : Int) - 1 = 2 from rfl]
         have HL2 := Lib.hid hL2
         clear hL2 hj hj0
         by_cases h0 : 0 < L2.length
         · skip
           go_wp2_with (at_builtin; refine wpList_append_own _ rfl _ _ 27 rfl w1.heap.size 5 i0 (.int .u8 0) 1 1 Try.underlying27 hi0 hz0 hz1 hz2 rfl (by decide) _ _ _ rfl (row_past8 hown2 ((Below.refl _ _).alloc (Nat.le_refl _) _)) ⟨wr.heap.size, 0, none⟩ 1 1 [Value.int .u8 ((X : Int) / 65536 % 256)] rfl rfl (one_new8 _ _ _) (by simp [Value.oneCell']) (by simp only [maxLen]; omega) (by omega) (by simp; omega) ?_; intro v' w7 hown7 hg7 _)
           have hb7 : Below w1.heap.size w1 w7 := (hb2.alloc hsz2 _).grown hg7 (by simp; omega) (fun q e => (hown2.lt q e).1)
           go_roundw
           case measure => simp [intOf]
           case rel =>
            have e := byt_more (H := H) (X := X) (j := 2) (by decide) HL2.out (.inl h0)
            refine ⟨2, L2 ++ [X / 256 ^ 2 % 256], by decide, rfl, e, ?_, hb7⟩
            rw [List.length_append, ← bv_snoc, show ((X / 256 ^ 2 % 256 : Nat) : Int) = (X : Int) / 65536 % 256 from rfl]
            exact hown7
         · by_cases hB : 0 < X / 256 ^ 2 % 256
           · have hB2 : (0 : Int) < (X : Int) / 65536 % 256 := by have : ((X / 256 ^ 2 % 256 : Nat) : Int) = (X : Int) / 65536 % 256 := rfl; omega
             have HB := Lib.hid hB
             have hL0 : L2.length = 0 := by omega
             have HL0 := Lib.hid hL0
             clear hB hL0
             go_wp2_with (at_builtin; refine wpList_append_own _ rfl _ _ 27 rfl w1.heap.size 5 i0 (.int .u8 0) 1 1 Try.underlying27 hi0 hz0 hz1 hz2 rfl (by decide) _ _ _ rfl (row_past8 hown2 ((Below.refl _ _).alloc (Nat.le_refl _) _)) ⟨wr.heap.size, 0, none⟩ 1 1 [Value.int .u8 ((X : Int) / 65536 % 256)] rfl rfl (one_new8 _ _ _) (by simp [Value.oneCell']) (by simp only [maxLen]; omega) (by omega) (by simp; omega) ?_; intro v' w7 hown7 hg7 _)
             have hb7 : Below w1.heap.size w1 w7 := (hb2.alloc hsz2 _).grown hg7 (by simp; omega) (fun q e => (hown2.lt q e).1)
             go_roundw
             case measure => simp [intOf]
             case rel =>
              have e := byt_more (H := H) (X := X) (j := 2) (by decide) HL2.out (.inr HB.out)
              refine ⟨2, L2 ++ [X / 256 ^ 2 % 256], by decide, rfl, e, ?_, hb7⟩
              rw [List.length_append, ← bv_snoc, show ((X / 256 ^ 2 % 256 : Nat) : Int) = (X : Int) / 65536 % 256 from rfl]
              exact hown7
           · have hB2 : ¬ (0 : Int) < (X : Int) / 65536 % 256 := by have : ((X / 256 ^ 2 % 256 : Nat) : Int) = (X : Int) / 65536 % 256 := rfl; omega
             have hB0 : X / 256 ^ 2 % 256 = 0 := by omega
             have HB0 := Lib.hid hB0
             clear hB hB0
             go_wp2_with fail
             go_roundw
             case measure => simp [intOf]
             case rel => exact ⟨2, L2, by decide, rfl, byt_none (by decide) HL2.out (by omega) HB0.out, hown2, hb2⟩
       · rw [show ((3 + 1 : Nat) : Int) - 1 = 3 from rfl]
         have HL2 := Lib.hid hL2
         clear hL2 hj hj0
         by_cases h0 : 0 < L2.length
         · skip
           go_wp2_with (at_builtin; refine wpList_append_own _ rfl _ _ 27 rfl w1.heap.size 5 i0 (.int .u8 0) 1 1 Try.underlying27 hi0 hz0 hz1 hz2 rfl (by decide) _ _ _ rfl (row_past8 hown2 ((Below.refl _ _).alloc (Nat.le_refl _) _)) ⟨wr.heap.size, 0, none⟩ 1 1 [Value.int .u8 ((X : Int) / 16777216 % 256)] rfl rfl (one_new8 _ _ _) (by simp [Value.oneCell']) (by simp only [maxLen]; omega) (by omega) (by simp; omega) ?_; intro v' w7 hown7 hg7 _)
           have hb7 : Below w1.heap.size w1 w7 := (hb2.alloc hsz2 _).grown hg7 (by simp; omega) (fun q e => (hown2.lt q e).1)
           go_roundw
           case measure => simp [intOf]
           case rel =>
            have e := byt_more (H := H) (X := X) (j := 3) (by decide) HL2.out (.inl h0)
            refine ⟨3, L2 ++ [X / 256 ^ 3 % 256], by decide, rfl, e, ?_, hb7⟩
            rw [List.length_append, ← bv_snoc, show ((X / 256 ^ 3 % 256 : Nat) : Int) = (X : Int) / 16777216 % 256 from rfl]
            exact hown7
         · by_cases hB : 0 < X / 256 ^ 3 % 256
           · have hB2 : (0 : Int) < (X : Int) / 16777216 % 256 := by have : ((X / 256 ^ 3 % 256 : Nat) : Int) = (X : Int) / 16777216 % 256 := rfl; omega
             have HB := Lib.hid hB
             have hL0 : L2.length = 0 := by omega
             have HL0 := Lib.hid hL0
             clear hB hL0
             go_wp2_with (at_builtin; refine wpList_append_own _ rfl _ _ 27 rfl w1.heap.size 5 i0 (.int .u8 0) 1 1 Try.underlying27 hi0 hz0 hz1 hz2 rfl (by decide) _ _ _ rfl (row_past8 hown2 ((Below.refl _ _).alloc (Nat.le_refl _) _)) ⟨wr.heap.size, 0, none⟩ 1 1 [Value.int .u8 ((X : Int) / 16777216 % 256)] rfl rfl (one_new8 _ _ _) (by simp [Value.oneCell']) (by simp only [maxLen]; omega) (by omega) (by simp; omega) ?_; intro v' w7 hown7 hg7 _)
             have hb7 : Below w1.heap.size w1 w7 := (hb2.alloc hsz2 _).grown hg7 (by simp; omega) (fun q e => (hown2.lt q e).1)
             go_roundw
             case measure => simp [intOf]
             case rel =>
              have e := byt_more (H := H) (X := X) (j := 3) (by decide) HL2.out (.inr HB.out)
              refine ⟨3, L2 ++ [X / 256 ^ 3 % 256], by decide, rfl, e, ?_, hb7⟩
              rw [List.length_append, ← bv_snoc, show ((X / 256 ^ 3 % 256 : Nat) : Int) = (X : Int) / 16777216 % 256 from rfl]
              exact hown7
           · have hB2 : ¬ (0 : Int) < (X : Int) / 16777216 % 256 := by have : ((X / 256 ^ 3 % 256 : Nat) : Int) = (X : Int) / 16777216 % 256 := rfl; omega
             have hB0 : X / 256 ^ 3 % 256 = 0 := by omega
             have HB0 := Lib.hid hB0
             clear hB hB0
             go_wp2_with fail
             go_roundw
             case measure => simp [intOf]
             case rel => exact ⟨3, L2, by decide, rfl, byt_none (by decide) HL2.out (by omega) HB0.out, hown2, hb2⟩
       · rw [show ((4 + 1 : Nat) : Int) - 1 = 4 from rfl]
         have HL2 := Lib.hid hL2
         clear hL2 hj hj0
         by_cases h0 : 0 < L2.length
         · skip
           go_wp2_with (at_builtin; refine wpList_append_own _ rfl _ _ 27 rfl w1.heap.size 5 i0 (.int .u8 0) 1 1 Try.underlying27 hi0 hz0 hz1 hz2 rfl (by decide) _ _ _ rfl (row_past8 hown2 ((Below.refl _ _).alloc (Nat.le_refl _) _)) ⟨wr.heap.size, 0, none⟩ 1 1 [Value.int .u8 ((X : Int) / 4294967296 % 256)] rfl rfl (one_new8 _ _ _) (by simp [Value.oneCell']) (by simp only [maxLen]; omega) (by omega) (by simp; omega) ?_; intro v' w7 hown7 hg7 _)
           have hb7 : Below w1.heap.size w1 w7 := (hb2.alloc hsz2 _).grown hg7 (by simp; omega) (fun q e => (hown2.lt q e).1)
           go_roundw
           case measure => simp [intOf]
           case rel =>
            have e := byt_more (H := H) (X := X) (j := 4) (by decide) HL2.out (.inl h0)
            refine ⟨4, L2 ++ [X / 256 ^ 4 % 256], by decide, rfl, e, ?_, hb7⟩
            rw [List.length_append, ← bv_snoc, show ((X / 256 ^ 4 % 256 : Nat) : Int) = (X : Int) / 4294967296 % 256 from rfl]
            exact hown7
         · by_cases hB : 0 < X / 256 ^ 4 % 256
           · have hB2 : (0 : Int) < (X : Int) / 4294967296 % 256 := by have : ((X / 256 ^ 4 % 256 : Nat) : Int) = (X : Int) / 4294967296 % 256 := rfl; omega
             have HB := Lib.hid hB
             have hL0 : L2.length = 0 := by omega
             have HL0 := Lib.hid hL0
             clear hB hL0
             go_wp2_with (at_builtin; refine wpList_append_own _ rfl _ _ 27 rfl w1.heap.size 5 i0 (.int .u8 0) 1 1 Try.underlying27 hi0 hz0 hz1 hz2 rfl (by decide) _ _ _ rfl (row_past8 hown2 ((Below.refl _ _).alloc (Nat.le_refl _) _)) ⟨wr.heap.size, 0, none⟩ 1 1 [Value.int .u8 ((X : Int) / 4294967296 % 256)] rfl rfl (one_new8 _ _ _) (by simp [Value.oneCell']) (by simp only [maxLen]; omega) (by omega) (by simp; omega) ?_; intro v' w7 hown7 hg7 _)
             have hb7 : Below w1.heap.size w1 w7 := (hb2.alloc hsz2 _).grown hg7 (by simp; omega) (fun q e => (hown2.lt q e).1)
             go_roundw
             case measure => simp [intOf]
             case rel =>
              have e := byt_more (H := H) (X := X) (j := 4) (by decide) HL2.out (.inr HB.out)
              refine ⟨4, L2 ++ [X / 256 ^ 4 % 256], by decide, rfl, e, ?_, hb7⟩
              rw [List.length_append, ← bv_snoc, show ((X / 256 ^ 4 % 256 : Nat) : Int) = (X : Int) / 4294967296 % 256 from rfl]
              exact hown7
           · have hB2 : ¬ (0 : Int) < (X : Int) / 4294967296 % 256 := by have : ((X / 256 ^ 4 % 256 : Nat) : Int) = (X : Int) / 4294967296 % 256 := rfl; omega
             have hB0 : X / 256 ^ 4 % 256 = 0 := by omega
             have HB0 := Lib.hid hB0
             clear hB hB0
             go_wp2_with fail
             go_roundw
             case measure => simp [intOf]
             case rel => exact ⟨4, L2, by decide, rfl, byt_none (by decide) HL2.out (by omega) HB0.out, hown2, hb2⟩
       · rw [show ((5 + 1 : Nat) : Int) - 1 = 5 from rfl]
         have HL2 := Lib.hid hL2
         clear hL2 hj hj0
         by_cases h0 : 0 < L2.length
         · skip
           go_wp2_with (at_builtin; refine wpList_append_own _ rfl _ _ 27 rfl w1.heap.size 5 i0 (.int .u8 0) 1 1 Try.underlying27 hi0 hz0 hz1 hz2 rfl (by decide) _ _ _ rfl (row_past8 hown2 ((Below.refl _ _).alloc (Nat.le_refl _) _)) ⟨wr.heap.size, 0, none⟩ 1 1 [Value.int .u8 ((X : Int) / 1099511627776 % 256)] rfl rfl (one_new8 _ _ _) (by simp [Value.oneCell']) (by simp only [maxLen]; omega) (by omega) (by simp; omega) ?_; intro v' w7 hown7 hg7 _)
           have hb7 : Below w1.heap.size w1 w7 := (hb2.alloc hsz2 _).grown hg7 (by simp; omega) (fun q e => (hown2.lt q e).1)
           go_roundw
           case measure => simp [intOf]
           case rel =>
            have e := byt_more (H := H) (X := X) (j := 5) (by decide) HL2.out (.inl h0)
            refine ⟨5, L2 ++ [X / 256 ^ 5 % 256], by decide, rfl, e, ?_, hb7⟩
            rw [List.length_append, ← bv_snoc, show ((X / 256 ^ 5 % 256 : Nat) : Int) = (X : Int) / 1099511627776 % 256 from rfl]
            exact hown7
         · by_cases hB : 0 < X / 256 ^ 5 % 256
           · have hB2 : (0 : Int) < (X : Int) / 1099511627776 % 256 := by have : ((X / 256 ^ 5 % 256 : Nat) : Int) = (X : Int) / 1099511627776 % 256 := rfl; omega
             have HB := Lib.hid hB
             have hL0 : L2.length = 0 := by omega
             have HL0 := Lib.hid hL0
             clear hB hL0
             go_wp2_with (at_builtin; refine wpList_append_own _ rfl _ _ 27 rfl w1.heap.size 5 i0 (.int .u8 0) 1 1 Try.underlying27 hi0 hz0 hz1 hz2 rfl (by decide) _ _ _ rfl (row_past8 hown2 ((Below.refl _ _).alloc (Nat.le_refl _) _)) ⟨wr.heap.size, 0, none⟩ 1 1 [Value.int .u8 ((X : Int) / 1099511627776 % 256)] rfl rfl (one_new8 _ _ _) (by simp [Value.oneCell']) (by simp only [maxLen]; omega) (by omega) (by simp; omega) ?_; intro v' w7 hown7 hg7 _)
             have hb7 : Below w1.heap.size w1 w7 := (hb2.alloc hsz2 _).grown hg7 (by simp; omega) (fun q e => (hown2.lt q e).1)
             go_roundw
             case measure => simp [intOf]
             case rel =>
              have e := byt_more (H := H) (X := X) (j := 5) (by decide) HL2.out (.inr HB.out)
              refine ⟨5, L2 ++ [X / 256 ^ 5 % 256], by decide, rfl, e, ?_, hb7⟩
              rw [List.length_append, ← bv_snoc, show ((X / 256 ^ 5 % 256 : Nat) : Int) = (X : Int) / 1099511627776 % 256 from rfl]
              exact hown7
           · have hB2 : ¬ (0 : Int) < (X : Int) / 1099511627776 % 256 := by have : ((X / 256 ^ 5 % 256 : Nat) : Int) = (X : Int) / 1099511627776 % 256 := rfl; omega
             have hB0 : X / 256 ^ 5 % 256 = 0 := by omega
             have HB0 := Lib.hid hB0
             clear hB hB0
             go_wp2_with fail
             go_roundw
             case measure => simp [intOf]
             case rel => exact ⟨5, L2, by decide, rfl, byt_none (by decide) HL2.out (by omega) HB0.out, hown2, hb2⟩
       · rw [show ((6 + 1 : Nat) : Int) - 1 = 6 from rfl]
         have HL2 := Lib.hid hL2
         clear hL2 hj hj0
         by_cases h0 : 0 < L2.length
         · skip
           go_wp2_with (at_builtin; refine wpList_append_own _ rfl _ _ 27 rfl w1.heap.size 5 i0 (.int .u8 0) 1 1 Try.underlying27 hi0 hz0 hz1 hz2 rfl (by decide) _ _ _ rfl (row_past8 hown2 ((Below.refl _ _).alloc (Nat.le_refl _) _)) ⟨wr.heap.size, 0, none⟩ 1 1 [Value.int .u8 ((X : Int) / 281474976710656 % 256)] rfl rfl (one_new8 _ _ _) (by simp [Value.oneCell']) (by simp only [maxLen]; omega) (by omega) (by simp; omega) ?_; intro v' w7 hown7 hg7 _)
           have hb7 : Below w1.heap.size w1 w7 := (hb2.alloc hsz2 _).grown hg7 (by simp; omega) (fun q e => (hown2.lt q e).1)
           go_roundw
           case measure => simp [intOf]
           case rel =>
            have e := byt_more (H := H) (X := X) (j := 6) (by decide) HL2.out (.inl h0)
            refine ⟨6, L2 ++ [X / 256 ^ 6 % 256], by decide, rfl, e, ?_, hb7⟩
            rw [List.length_append, ← bv_snoc, show ((X / 256 ^ 6 % 256 : Nat) : Int) = (X : Int) / 281474976710656 % 256 from rfl]
            exact hown7
         · by_cases hB : 0 < X / 256 ^ 6 % 256
           · have hB2 : (0 : Int) < (X : Int) / 281474976710656 % 256 := by have : ((X / 256 ^ 6 % 256 : Nat) : Int) = (X : Int) / 281474976710656 % 256 := rfl; omega
             have HB := Lib.hid hB
             have hL0 : L2.length = 0 := by omega
             have HL0 := Lib.hid hL0
             clear hB hL0
             go_wp2_with (at_builtin; refine wpList_append_own _ rfl _ _ 27 rfl w1.heap.size 5 i0 (.int .u8 0) 1 1 Try.underlying27 hi0 hz0 hz1 hz2 rfl (by decide) _ _ _ rfl (row_past8 hown2 ((Below.refl _ _).alloc (Nat.le_refl _) _)) ⟨wr.heap.size, 0, none⟩ 1 1 [Value.int .u8 ((X : Int) / 281474976710656 % 256)] rfl rfl (one_new8 _ _ _) (by simp [Value.oneCell']) (by simp only [maxLen]; omega) (by omega) (by simp; omega) ?_; intro v' w7 hown7 hg7 _)
             have hb7 : Below w1.heap.size w1 w7 := (hb2.alloc hsz2 _).grown hg7 (by simp; omega) (fun q e => (hown2.lt q e).1)
             go_roundw
             case measure => simp [intOf]
             case rel =>
              have e := byt_more (H := H) (X := X) (j := 6) (by decide) HL2.out (.inr HB.out)
              refine ⟨6, L2 ++ [X / 256 ^ 6 % 256], by decide, rfl, e, ?_, hb7⟩
              rw [List.length_append, ← bv_snoc, show ((X / 256 ^ 6 % 256 : Nat) : Int) = (X : Int) / 281474976710656 % 256 from rfl]
              exact hown7
           · have hB2 : ¬ (0 : Int) < (X : Int) / 281474976710656 % 256 := by have : ((X / 256 ^ 6 % 256 : Nat) : Int) = (X : Int) / 281474976710656 % 256 := rfl; omega
             have hB0 : X / 256 ^ 6 % 256 = 0 := by omega
             have HB0 := Lib.hid hB0
             clear hB hB0
             go_wp2_with fail
             go_roundw
             case measure => simp [intOf]
             case rel => exact ⟨6, L2, by decide, rfl, byt_none (by decide) HL2.out (by omega) HB0.out, hown2, hb2⟩
       · rw [show ((7 + 1 : Nat) : Int) - 1 = 7 from rfl]
         have HL2 := Lib.hid hL2
         clear hL2 hj hj0
         by_cases h0 : 0 < L2.length
         · skip
           go_wp2_with (at_builtin; refine wpList_append_own _ rfl _ _ 27 rfl w1.heap.size 5 i0 (.int .u8 0) 1 1 Try.underlying27 hi0 hz0 hz1 hz2 rfl (by decide) _ _ _ rfl (row_past8 hown2 ((Below.refl _ _).alloc (Nat.le_refl _) _)) ⟨wr.heap.size, 0, none⟩ 1 1 [Value.int .u8 ((X : Int) / 72057594037927936 % 256)] rfl rfl (one_new8 _ _ _) (by simp [Value.oneCell']) (by simp only [maxLen]; omega) (by omega) (by simp; omega) ?_; intro v' w7 hown7 hg7 _)
           have hb7 : Below w1.heap.size w1 w7 := (hb2.alloc hsz2 _).grown hg7 (by simp; omega) (fun q e => (hown2.lt q e).1)
           go_roundw
           case measure => simp [intOf]
           case rel =>
            have e := byt_more (H := H) (X := X) (j := 7) (by decide) HL2.out (.inl h0)
            refine ⟨7, L2 ++ [X / 256 ^ 7 % 256], by decide, rfl, e, ?_, hb7⟩
            rw [List.length_append, ← bv_snoc, show ((X / 256 ^ 7 % 256 : Nat) : Int) = (X : Int) / 72057594037927936 % 256 from rfl]
            exact hown7
         · by_cases hB : 0 < X / 256 ^ 7 % 256
           · have hB2 : (0 : Int) < (X : Int) / 72057594037927936 % 256 := by have : ((X / 256 ^ 7 % 256 : Nat) : Int) = (X : Int) / 72057594037927936 % 256 := rfl; omega
             have HB := Lib.hid hB
             have hL0 : L2.length = 0 := by omega
             have HL0 := Lib.hid hL0
             clear hB hL0
             go_wp2_with (at_builtin; refine wpList_append_own _ rfl _ _ 27 rfl w1.heap.size 5 i0 (.int .u8 0) 1 1 Try.underlying27 hi0 hz0 hz1 hz2 rfl (by decide) _ _ _ rfl (row_past8 hown2 ((Below.refl _ _).alloc (Nat.le_refl _) _)) ⟨wr.heap.size, 0, none⟩ 1 1 [Value.int .u8 ((X : Int) / 72057594037927936 % 256)] rfl rfl (one_new8 _ _ _) (by simp [Value.oneCell']) (by simp only [maxLen]; omega) (by omega) (by simp; omega) ?_; intro v' w7 hown7 hg7 _)
             have hb7 : Below w1.heap.size w1 w7 := (hb2.alloc hsz2 _).grown hg7 (by simp; omega) (fun q e => (hown2.lt q e).1)
             go_roundw
             case measure => simp [intOf]
             case rel =>
              have e := byt_more (H := H) (X := X) (j := 7) (by decide) HL2.out (.inr HB.out)
              refine ⟨7, L2 ++ [X / 256 ^ 7 % 256], by decide, rfl, e, ?_, hb7⟩
              rw [List.length_append, ← bv_snoc, show ((X / 256 ^ 7 % 256 : Nat) : Int) = (X : Int) / 72057594037927936 % 256 from rfl]
              exact hown7
           · have hB2 : ¬ (0 : Int) < (X : Int) / 72057594037927936 % 256 := by have : ((X / 256 ^ 7 % 256 : Nat) : Int) = (X : Int) / 72057594037927936 % 256 := rfl; omega
             have hB0 : X / 256 ^ 7 % 256 = 0 := by omega
             have HB0 := Lib.hid hB0
             clear hB hB0
             go_wp2_with fail
             go_roundw
             case measure => simp [intOf]
             case rel => exact ⟨7, L2, by decide, rfl, byt_none (by decide) HL2.out (by omega) HB0.out, hown2, hb2⟩
     · obtain rfl : j = 0 := by omega
       have hLL : L2 = digL 256 (hi (digs (val l)) p) := by rw [HS.out, hL2, bytV_all]; congr 1; omega
       have HLL := Lib.hid hLL
       clear hL2 hLL
       go_wp2_with fail
       go_roundw
       case measure => simp [intOf] <;> omega
       case rel => exact ⟨p, L2, by omega, rfl, HLL.out, hown2, hb2⟩
  · obtain rfl : m = 0 := by omega
    rw [hi_zero, val_digs] at hL
    subst hL
    obtain ⟨a3, c3, rfl, hob⟩ := OwnBytes.ofRow hown (digL_lt (by decide) _)
    go_wp2_with fail
    go_ret
    exact ⟨_, _, _, rfl, hob.mono hb1.size, below_later hb1 hb⟩
end Go.Proofs.Ytoecndogaklngaa
