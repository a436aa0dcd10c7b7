/- the laws of soliton: SolitonKnown. -/
import Derived.Test.YtlkoenpdmlbhlaaLaw13a
import Derived.Test.YtlkoenpdmlbhlaaA9
import Derived.Test.YtlkoenpdmlbhlaaTake
set_option linter.unusedVariables false
set_option linter.unusedSimpArgs false
namespace Go.Proofs.Ytlkoenpdmlbhlaa
open Go.RowKit

theorem same13_yes {q : Rat} {a1 : Option Addr} {n1 c1 : Nat} {a2 : Option Addr} {n2 c2 : Nat} {a3 : Option Addr} {n3 c3 : Nat} {a4 : Option Addr} {n4 c4 : Nat} {w : World} (g1 : NatAt w a1 n1 c1 (digs q.num.natAbs)) (g2 : NatAt w a2 n2 c2 (digs q.den)) (g3 : NatAt w a3 n3 c3 (digs q.num.natAbs)) (g4 : NatAt w a4 n4 c4 (digs q.den)) :
    Calls Try.prog 19 #[.agg #[.bool (neg q.num), .slice a1 n1 c1, .slice a2 n2 c2], .agg #[.bool (neg q.num), .slice a3 n3 c3, .slice a4 n4 c4]] w (RetVal w (.bool true)) := by
  have h := sameRatio_any (neg q.num) _ _ _ _ _ _ _ _ (neg q.num) _ _ _ _ _ _ _ _ w g1 g2 g3 g4
  rwa [show eqR (neg q.num) (digs q.num.natAbs) (digs q.den) (neg q.num) (digs q.num.natAbs) (digs q.den) = true by simp [eqR]] at h
theorem known_e1 : idealT 1 7 = .ok [7] := by kernel_rfl
theorem known_e2 : idealT 4 1 = .error 13 := by kernel_rfl
theorem known_e3 : idealT 0 5 = .error 3 := by kernel_rfl
theorem known_e4 : robustT 3 60 4 (fr 1 4) = .error 3 := by kernel_rfl
theorem known_e5 : robustT 3 60 2 (fr (-1) 4) = .error 3 := by kernel_rfl
theorem known_m : meanR [1, 3] = fr 7 4 := by decide +kernel
theorem known_o : okT [1, 3] 65536 := by decide +kernel
theorem known_n : ¬ okT [] 65536 := by decide +kernel

set_option maxRecDepth 100000 in
set_option maxHeartbeats 16000000 in
theorem solitonKnown_any (w : World) : Calls Try.prog 4 #[] w (RetVal w (.bool true)) := by
  go_enter Try.func4, Try.ntmps4
  have hB := Below.refl w.heap.size w
  go_wp2_with fail
  with_reducible refine (ideal_ok (k := 1) (s := 7) known_e1 _).mono ?_
  rintro e w1 ⟨a1, n1, c1, rfl, h1, hb⟩
  have hB := below_later hB hb
  clear hb
  go_wp2_with fail
  with_reducible refine (ideal_err (k := 4) (s := 1) known_e2 _).mono ?_
  rintro e w2 ⟨a2, n2, c2, rfl, hb⟩
  have h1 := h1.past hb
  have hB := below_later hB hb
  clear hb
  go_wp2_with fail
  with_reducible refine (ideal_err (k := 0) (s := 5) known_e3 _).mono ?_
  rintro e w3 ⟨a3, n3, c3, rfl, hb⟩
  have h1 := h1.past hb
  have hB := below_later hB hb
  clear hb
  go_wp2_with fail
  refine (part13_q (x := 1) (y := 4) (q := fr 1 4) rfl _ (by decide) (by decide) (by decide)).mono ?_
  rintro e w4 ⟨ahMU, nhMU, chMU, ahMD, nhMD, chMD, rfl, hMU, hMD, hb⟩
  have h1 := h1.past hb
  have hB := below_later hB hb
  clear hb
  go_wp2_with fail
  with_reducible refine (robust_err (k := 3) (s := 60) (sp := 4) known_e4 hMU.toNatAt hMD.toNatAt (by decide)).mono ?_
  rintro e w5 ⟨a4, n4, c4, rfl, hb⟩
  have h1 := h1.past hb
  have hMU := hMU.past hb
  have hMD := hMD.past hb
  have hB := below_later hB hb
  clear hb
  go_wp2_with fail
  refine (part13_q (x := -1) (y := 4) (q := fr (-1) 4) rfl _ (by decide) (by decide) (by decide)).mono ?_
  rintro e w6 ⟨ahMU, nhMU, chMU, ahMD, nhMD, chMD, rfl, hMU, hMD, hb⟩
  have h1 := h1.past hb
  have hB := below_later hB hb
  clear hb
  go_wp2_with fail
  with_reducible refine (robust_err (k := 3) (s := 60) (sp := 2) known_e5 hMU.toNatAt hMD.toNatAt (by decide)).mono ?_
  rintro e w7 ⟨a5, n5, c5, rfl, hb⟩
  have h1 := h1.past hb
  have hMU := hMU.past hb
  have hMD := hMD.past hb
  have hB := below_later hB hb
  clear hb
  go_wp2_with fail
  have h0z1 := litI (E := 3) w7 #[.int .i64 1, .int .i64 3] [1, 3] 2 rfl rfl (by decide) (by decide)
  obtain ⟨w8, hW⟩ : ∃ W, w7.alloc (.cells #[.int .i64 1, .int .i64 3] 3) = W := ⟨_, rfl⟩
  have hb : Below w7.heap.size w7 w8 := by rw [← hW]; exact (Below.refl _ _).alloc (Nat.le_refl _) _
  rw [hW] at h0z1 ⊢
  clear hW
  have h1 := h1.past hb
  have hB := below_later hB hb
  clear hb
  have z1 := h0z1
  clear h0z1
  go_wp2_with fail
  with_reducible refine (mean_yes _ _ _ [1, 3] _ z1 known_o).mono ?_
  rintro e w9 ⟨ahQU, nhQU, chQU, ahQD, nhQD, chQD, rfl, hQU, hQD, hb⟩
  have h1 := h1.past hb
  have z1 := z1.past hb
  have hB := below_later hB hb
  clear hb
  rw [known_m] at hQU hQD ⊢
  go_wp2_with fail
  obtain ⟨w10, hW, hz0, hb, q, f⟩ := box1g w9 (w9.heap.size) (by omega) #[.bool (neg (fr 7 4).num), .slice ahQU nhQU chQU, .slice ahQD nhQD chQD] 36
  rw [hW]
  clear hW
  have h1 := h1.past hb
  have hQU := hQU.past hb
  have hQD := hQD.past hb
  have hB := below_later hB hb
  clear hb
  have lm : w9.heap.size < w10.heap.size := by omega
  have qm0 := q 0; have qm1 := q 1; have qm2 := q 2
  simp only [List.getElem?_toArray, List.getElem?_cons_zero, List.getElem?_cons_succ] at qm0 qm1 qm2
  clear q f
  clear hz0
  with_reducible refine (mean_no _ _ _ [] _ (IntsAt.nil _) known_n).mono ?_
  rintro e w11 ⟨rfl, hb⟩
  have h1 := h1.past hb
  have hQU := hQU.past hb
  have hQD := hQD.past hb
  have qm0 := bq hb lm qm0; have qm1 := bq hb lm qm1; have qm2 := bq hb lm qm2
  have lm := bl hb lm
  have hB := below_later hB hb
  clear hb
  go_wp2_with fail
  obtain ⟨w12, hW, hz0, hb, q, f⟩ := box1g w11 (w11.heap.size) (by omega) #[.bool false, .slice none 0 0, .slice none 0 0] 36
  rw [hW]
  clear hW
  have h1 := h1.past hb
  have hQU := hQU.past hb
  have hQD := hQD.past hb
  have qm0 := bq hb lm qm0; have qm1 := bq hb lm qm1; have qm2 := bq hb lm qm2
  have lm := bl hb lm
  have hB := below_later hB hb
  clear hb
  have lk : w11.heap.size < w12.heap.size := by omega
  have qk0 := q 0; have qk1 := q 1; have qk2 := q 2
  simp only [List.getElem?_toArray, List.getElem?_cons_zero, List.getElem?_cons_succ] at qk0 qk1 qk2
  clear q f
  have hzz : w12.heap.size = w11.heap.size + 1 := by omega
  clear hz0
  have h0z2 := litI (E := 3) w12 #[.int .i64 7] [7] 1 rfl rfl (by decide) (by decide)
  obtain ⟨w13, hW⟩ : ∃ W, w12.alloc (.cells #[.int .i64 7] 3) = W := ⟨_, rfl⟩
  have hb : Below w12.heap.size w12 w13 := by rw [← hW]; exact (Below.refl _ _).alloc (Nat.le_refl _) _
  rw [hW] at h0z2 ⊢
  clear hW
  have h1 := h1.past hb
  have hQU := hQU.past hb
  have hQD := hQD.past hb
  have qm0 := bq hb lm qm0; have qm1 := bq hb lm qm1; have qm2 := bq hb lm qm2
  have lm := bl hb lm
  have qk0 := bq hb lk qk0; have qk1 := bq hb lk qk1; have qk2 := bq hb lk qk2
  have lk := bl hb lk
  have hB := below_later hB hb
  clear hb
  rw [hzz] at h0z2
  clear hzz
  have z2 := h0z2
  clear h0z2
  go_wp2_with fail
  with_reducible refine (is13_yes h1 z2).mono ?_
  rintro e w14 ⟨rfl, hb⟩
  have h1 := h1.past hb
  have hQU := hQU.past hb
  have hQD := hQD.past hb
  have z2 := z2.past hb
  have qm0 := bq hb lm qm0; have qm1 := bq hb lm qm1; have qm2 := bq hb lm qm2
  have lm := bl hb lm
  have qk0 := bq hb lk qk0; have qk1 := bq hb lk qk1; have qk2 := bq hb lk qk2
  have lk := bl hb lk
  have hB := below_later hB hb
  clear hb
  go_wp2_with fail
  refine wp_region_held_drew (S := fun w' => (w'.cell? ⟨w9.heap.size, 0, none⟩ = some (.bool (neg (fr 7 4).num)) ∧ w'.cell? ⟨w9.heap.size, 1, none⟩ = some (.slice ahQU nhQU chQU) ∧ w'.cell? ⟨w9.heap.size, 2, none⟩ = some (.slice ahQD nhQD chQD)) ∧ Below w14.heap.size w14 w') (by kernel_rfl) ⟨⟨((Below.refl w14.heap.size w14).drew.cell (p := ⟨w9.heap.size, 0, none⟩) lm).trans qm0, ((Below.refl w14.heap.size w14).drew.cell (p := ⟨w9.heap.size, 1, none⟩) lm).trans qm1, ((Below.refl w14.heap.size w14).drew.cell (p := ⟨w9.heap.size, 2, none⟩) lm).trans qm2⟩, (Below.refl _ _).drew⟩ (fun hHeld => ?_)
  refine wpAnyH_ready (rs := [0]) (by kernel_rfl) (by simp) ?_
  refine consL rfl (fun K hK => ?_) AllReadyH.nil
  go_simp
  have hS := hHeld
  with_reducible refine (awake13 _).mono ?_
  rintro e w15 ⟨rfl, hbw15⟩
  refine hK.out _ _ ⟨⟨((below_later hS.2 hbw15).cell (p := ⟨w9.heap.size, 0, none⟩) lm).trans qm0, ((below_later hS.2 hbw15).cell (p := ⟨w9.heap.size, 1, none⟩) lm).trans qm1, ((below_later hS.2 hbw15).cell (p := ⟨w9.heap.size, 2, none⟩) lm).trans qm2⟩, below_later hS.2 hbw15⟩ (fun hHeld => ?_)
  clear hK K hS
  try simp only [Act.put, List.setIfInBounds_toArray, List.set_cons_zero, List.set_cons_succ]
  refine takeL 1 (?_) rfl (by kernel_rfl) (by kernel_rfl) (by kernel_rfl) (fun _ _ _ h => h) (Or.inl ⟨by rfl, ?_⟩) (by assumption) ?_
  rotate_left
  · intro ws hSw; obtain ⟨⟨s0, s1, s2⟩, sB⟩ := hSw; go_simp; with_reducible rfl
  try simp only [Act.put, List.setIfInBounds_toArray, List.set_cons_zero, List.set_cons_succ]
  refine takeL 2 (?_) rfl (by kernel_rfl) (by kernel_rfl) (by kernel_rfl) (fun _ _ _ h => h) (Or.inl ⟨by rfl, ?_⟩) (by assumption) ?_
  rotate_left
  · intro ws hSw; obtain ⟨⟨s0, s1, s2⟩, sB⟩ := hSw; go_simp; with_reducible rfl
  try simp only [Act.put, List.setIfInBounds_toArray, List.set_cons_zero, List.set_cons_succ]
  refine takeL 3 (?_) rfl (by kernel_rfl) (by kernel_rfl) (by kernel_rfl) (fun _ _ _ h => h) (Or.inl ⟨by rfl, ?_⟩) (by assumption) ?_
  rotate_left
  · intro ws hSw; obtain ⟨⟨s0, s1, s2⟩, sB⟩ := hSw; go_simp; with_reducible rfl
  try simp only [Act.put, List.setIfInBounds_toArray, List.set_cons_zero, List.set_cons_succ]
  refine takeL 4 (?_) rfl (by kernel_rfl) (by kernel_rfl) (by kernel_rfl) (fun _ _ _ h => h) (Or.inl ⟨by rfl, ?_⟩) (by assumption) ?_
  rotate_left
  · intro ws hSw; obtain ⟨⟨s0, s1, s2⟩, sB⟩ := hSw; go_simp; with_reducible rfl
  try simp only [Act.put, List.setIfInBounds_toArray, List.set_cons_zero, List.set_cons_succ]
  refine takeL 5 (?_) rfl (by kernel_rfl) (by kernel_rfl) (by kernel_rfl) (fun _ _ _ h => h) (Or.inl ⟨by rfl, ?_⟩) (by assumption) ?_
  rotate_left
  · intro ws hSw; obtain ⟨⟨s0, s1, s2⟩, sB⟩ := hSw; go_simp; with_reducible rfl
  try simp only [Act.put, List.setIfInBounds_toArray, List.set_cons_zero, List.set_cons_succ]
  refine takeL 6 (?_) rfl (by kernel_rfl) (by kernel_rfl) (by kernel_rfl) (fun _ _ _ h => h) (Or.inl ⟨by rfl, ?_⟩) (by assumption) ?_
  rotate_left
  · intro ws hSw; obtain ⟨⟨s0, s1, s2⟩, sB⟩ := hSw; go_simp; with_reducible rfl
  try simp only [Act.put, List.setIfInBounds_toArray, List.set_cons_zero, List.set_cons_succ]
  refine takeL 7 (?_) rfl (by kernel_rfl) (by kernel_rfl) (by kernel_rfl) (fun _ _ _ h => h) (Or.inl ⟨by rfl, ?_⟩) (by assumption) ?_
  rotate_left
  · intro ws hSw; obtain ⟨⟨s0, s1, s2⟩, sB⟩ := hSw; go_simp; with_reducible rfl
  try simp only [Act.put, List.setIfInBounds_toArray, List.set_cons_zero, List.set_cons_succ]
  refine takeL 8 (?_) rfl (by kernel_rfl) (by kernel_rfl) (by kernel_rfl) (fun _ _ _ h => h) (Or.inl ⟨by rfl, ?_⟩) (by assumption) ?_
  rotate_left
  · intro ws hSw; obtain ⟨⟨s0, s1, s2⟩, sB⟩ := hSw; go_simp; with_reducible rfl
  try simp only [Act.put, List.setIfInBounds_toArray, List.set_cons_zero, List.set_cons_succ]
  refine takeL 9 (.agg #[.bool (neg (fr 7 4).num), .slice ahQU nhQU chQU, .slice ahQD nhQD chQD]) rfl (by kernel_rfl) (by kernel_rfl) (by kernel_rfl) (fun _ _ _ h => h) (Or.inl ⟨by rfl, ?_⟩) (by assumption) ?_
  · intro ws hSw; obtain ⟨⟨s0, s1, s2⟩, sB⟩ := hSw; go_simp
  try simp only [Act.put, List.setIfInBounds_toArray, List.set_cons_zero, List.set_cons_succ]
  refine wpAnyH_ready (rs := [10]) (by kernel_rfl) (by simp) ?_
  refine consL rfl (fun K hK => ?_) AllReadyH.nil
  go_simp
  have hS := hHeld
  refine (part13_q (x := 7) (y := 4) (q := fr 7 4) rfl _ (by decide) (by decide) (by decide)).mono ?_
  rintro e w16 ⟨ahPU, nhPU, chPU, ahPD, nhPD, chPD, rfl, hPU, hPD, hbw16⟩
  refine hK.out _ _ ⟨⟨((below_later hS.2 hbw16).cell (p := ⟨w9.heap.size, 0, none⟩) lm).trans qm0, ((below_later hS.2 hbw16).cell (p := ⟨w9.heap.size, 1, none⟩) lm).trans qm1, ((below_later hS.2 hbw16).cell (p := ⟨w9.heap.size, 2, none⟩) lm).trans qm2⟩, below_later hS.2 hbw16⟩ (fun hHeld => ?_)
  clear hK K hS
  try simp only [Act.put, List.setIfInBounds_toArray, List.set_cons_zero, List.set_cons_succ]
  refine wpAnyH_ready (rs := [11]) (by kernel_rfl) (by simp) ?_
  refine consL rfl (fun K hK => ?_) AllReadyH.nil
  go_simp
  have hS := hHeld
  with_reducible refine (same13_yes (hQU.past hS.2).toNatAt (hQD.past hS.2).toNatAt hPU.toNatAt hPD.toNatAt).mono ?_
  rintro e w17 ⟨rfl, hbw17⟩
  have hPU := hPU.past hbw17
  have hPD := hPD.past hbw17
  refine hK.out _ _ ⟨⟨((below_later hS.2 hbw17).cell (p := ⟨w9.heap.size, 0, none⟩) lm).trans qm0, ((below_later hS.2 hbw17).cell (p := ⟨w9.heap.size, 1, none⟩) lm).trans qm1, ((below_later hS.2 hbw17).cell (p := ⟨w9.heap.size, 2, none⟩) lm).trans qm2⟩, below_later hS.2 hbw17⟩ (fun hHeld => ?_)
  clear hK K hS
  try simp only [Act.put, List.setIfInBounds_toArray, List.set_cons_zero, List.set_cons_succ]
  refine takeL 12 (?_) rfl (by kernel_rfl) (by kernel_rfl) (by kernel_rfl) (fun _ _ _ h => h) (Or.inl ⟨by rfl, ?_⟩) (by assumption) ?_
  rotate_left
  · intro ws hSw; obtain ⟨⟨s0, s1, s2⟩, sB⟩ := hSw; go_simp; with_reducible rfl
  try simp only [Act.put, List.setIfInBounds_toArray, List.set_cons_zero, List.set_cons_succ]
  refine takeL 13 (?_) rfl (by kernel_rfl) (by kernel_rfl) (by kernel_rfl) (fun _ _ _ h => h) (Or.inl ⟨by rfl, ?_⟩) (by assumption) ?_
  rotate_left
  · intro ws hSw; obtain ⟨⟨s0, s1, s2⟩, sB⟩ := hSw; go_simp; with_reducible rfl
  try simp only [Act.put, List.setIfInBounds_toArray, List.set_cons_zero, List.set_cons_succ]
  refine takeL 14 (?_) rfl (by kernel_rfl) (by kernel_rfl) (by kernel_rfl) (fun _ _ _ h => h) (Or.inl ⟨by rfl, ?_⟩) (by assumption) ?_
  rotate_left
  · intro ws hSw; obtain ⟨⟨s0, s1, s2⟩, sB⟩ := hSw; go_simp; with_reducible rfl
  try simp only [Act.put, List.setIfInBounds_toArray, List.set_cons_zero, List.set_cons_succ]
  refine takeL 15 (?_) rfl (by kernel_rfl) (by kernel_rfl) (by kernel_rfl) (fun _ _ _ h => h) (Or.inl ⟨by rfl, ?_⟩) (by assumption) ?_
  rotate_left
  · intro ws hSw; obtain ⟨⟨s0, s1, s2⟩, sB⟩ := hSw; go_simp; with_reducible rfl
  try simp only [Act.put, List.setIfInBounds_toArray, List.set_cons_zero, List.set_cons_succ]
  refine takeL 16 (?_) rfl (by kernel_rfl) (by kernel_rfl) (by kernel_rfl) (fun _ _ _ h => h) (Or.inl ⟨by rfl, ?_⟩) (by assumption) ?_
  rotate_left
  · intro ws hSw; obtain ⟨⟨s0, s1, s2⟩, sB⟩ := hSw; go_simp; with_reducible rfl
  try simp only [Act.put, List.setIfInBounds_toArray, List.set_cons_zero, List.set_cons_succ]
  refine takeL 17 (?_) rfl (by kernel_rfl) (by kernel_rfl) (by kernel_rfl) (fun _ _ _ h => h) (Or.inl ⟨by rfl, ?_⟩) (by assumption) ?_
  rotate_left
  · intro ws hSw; obtain ⟨⟨s0, s1, s2⟩, sB⟩ := hSw; go_simp; with_reducible rfl
  try simp only [Act.put, List.setIfInBounds_toArray, List.set_cons_zero, List.set_cons_succ]
  refine wpAnyH_ready (rs := [18]) (by kernel_rfl) (by simp) ?_
  refine consL rfl (fun K hK => ?_) AllReadyH.nil
  go_simp
  have hS := hHeld
  have z3 := litI (E := 3) (w17) #[.int .i64 1, .int .i64 2] [1, 2] 2 rfl rfl (by decide) (by decide)
  have hbw18 : Below (w17).heap.size (w17) ((w17).alloc (.cells #[.int .i64 1, .int .i64 2] 3)) := (Below.refl _ _).alloc (Nat.le_refl _) _
  generalize (w17).alloc (.cells #[.int .i64 1, .int .i64 2] 3) = w18 at *
  have hPU := hPU.past hbw18
  have hPD := hPD.past hbw18
  refine hK.out _ _ ⟨⟨((below_later hS.2 hbw18).cell (p := ⟨w9.heap.size, 0, none⟩) lm).trans qm0, ((below_later hS.2 hbw18).cell (p := ⟨w9.heap.size, 1, none⟩) lm).trans qm1, ((below_later hS.2 hbw18).cell (p := ⟨w9.heap.size, 2, none⟩) lm).trans qm2⟩, below_later hS.2 hbw18⟩ (fun hHeld => ?_)
  clear hK K hS
  try simp only [Act.put, List.setIfInBounds_toArray, List.set_cons_zero, List.set_cons_succ]
  refine wpAnyH_ready (rs := [19]) (by kernel_rfl) (by simp) ?_
  refine consL rfl (fun K hK => ?_) AllReadyH.nil
  go_simp
  have hS := hHeld
  with_reducible refine (soliCheck_any _ _ _ [1, 2] 1 _ z3).mono ?_
  rintro e w19 ⟨rfl, hbw19⟩
  have hPU := hPU.past hbw19
  have hPD := hPD.past hbw19
  have z3 := z3.past hbw19
  rw [show chkT [1, 2] 1 = 13 from by decide +kernel]
  refine hK.out _ _ ⟨⟨((below_later hS.2 hbw19).cell (p := ⟨w9.heap.size, 0, none⟩) lm).trans qm0, ((below_later hS.2 hbw19).cell (p := ⟨w9.heap.size, 1, none⟩) lm).trans qm1, ((below_later hS.2 hbw19).cell (p := ⟨w9.heap.size, 2, none⟩) lm).trans qm2⟩, below_later hS.2 hbw19⟩ (fun hHeld => ?_)
  clear hK K hS
  try simp only [Act.put, List.setIfInBounds_toArray, List.set_cons_zero, List.set_cons_succ]
  refine takeL 20 (?_) rfl (by kernel_rfl) (by kernel_rfl) (by kernel_rfl) (fun _ _ _ h => h) (Or.inl ⟨by rfl, ?_⟩) (by assumption) ?_
  rotate_left
  · intro ws hSw; obtain ⟨⟨s0, s1, s2⟩, sB⟩ := hSw; go_simp; with_reducible rfl
  try simp only [Act.put, List.setIfInBounds_toArray, List.set_cons_zero, List.set_cons_succ]
  refine takeL 21 (?_) rfl (by kernel_rfl) (by kernel_rfl) (by kernel_rfl) (fun _ _ _ h => h) (Or.inl ⟨by rfl, ?_⟩) (by assumption) ?_
  rotate_left
  · intro ws hSw; obtain ⟨⟨s0, s1, s2⟩, sB⟩ := hSw; go_simp; with_reducible rfl
  try simp only [Act.put, List.setIfInBounds_toArray, List.set_cons_zero, List.set_cons_succ]
  refine takeL 22 (?_) rfl (by kernel_rfl) (by kernel_rfl) (by kernel_rfl) (fun _ _ _ h => h) (Or.inl ⟨by rfl, ?_⟩) (by assumption) ?_
  rotate_left
  · intro ws hSw; obtain ⟨⟨s0, s1, s2⟩, sB⟩ := hSw; go_simp; with_reducible rfl
  try simp only [Act.put, List.setIfInBounds_toArray, List.set_cons_zero, List.set_cons_succ]
  refine wpAnyH_ready (rs := [23]) (by kernel_rfl) (by simp) ?_
  refine consL rfl (fun K hK => ?_) AllReadyH.nil
  go_simp
  have hS := hHeld
  have z4 := litI (E := 3) (w19) #[.int .i64 0, .int .i64 0] [0, 0] 2 rfl rfl (by decide) (by decide)
  have hbw20 : Below (w19).heap.size (w19) ((w19).alloc (.cells #[.int .i64 0, .int .i64 0] 3)) := (Below.refl _ _).alloc (Nat.le_refl _) _
  generalize (w19).alloc (.cells #[.int .i64 0, .int .i64 0] 3) = w20 at *
  have hPU := hPU.past hbw20
  have hPD := hPD.past hbw20
  have z3 := z3.past hbw20
  refine hK.out _ _ ⟨⟨((below_later hS.2 hbw20).cell (p := ⟨w9.heap.size, 0, none⟩) lm).trans qm0, ((below_later hS.2 hbw20).cell (p := ⟨w9.heap.size, 1, none⟩) lm).trans qm1, ((below_later hS.2 hbw20).cell (p := ⟨w9.heap.size, 2, none⟩) lm).trans qm2⟩, below_later hS.2 hbw20⟩ (fun hHeld => ?_)
  clear hK K hS
  try simp only [Act.put, List.setIfInBounds_toArray, List.set_cons_zero, List.set_cons_succ]
  refine wpAnyH_ready (rs := [24]) (by kernel_rfl) (by simp) ?_
  refine consL rfl (fun K hK => ?_) AllReadyH.nil
  go_simp
  have hS := hHeld
  with_reducible refine (soliCheck_any _ _ _ [0, 0] 2 _ z4).mono ?_
  rintro e w21 ⟨rfl, hbw21⟩
  have hPU := hPU.past hbw21
  have hPD := hPD.past hbw21
  have z3 := z3.past hbw21
  have z4 := z4.past hbw21
  rw [show chkT [0, 0] 2 = 13 from by decide +kernel]
  refine hK.out _ _ ⟨⟨((below_later hS.2 hbw21).cell (p := ⟨w9.heap.size, 0, none⟩) lm).trans qm0, ((below_later hS.2 hbw21).cell (p := ⟨w9.heap.size, 1, none⟩) lm).trans qm1, ((below_later hS.2 hbw21).cell (p := ⟨w9.heap.size, 2, none⟩) lm).trans qm2⟩, below_later hS.2 hbw21⟩ (fun hHeld => ?_)
  clear hK K hS
  try simp only [Act.put, List.setIfInBounds_toArray, List.set_cons_zero, List.set_cons_succ]
  refine takeL 25 (?_) rfl (by kernel_rfl) (by kernel_rfl) (by kernel_rfl) (fun _ _ _ h => h) (Or.inl ⟨by rfl, ?_⟩) (by assumption) ?_
  rotate_left
  · intro ws hSw; obtain ⟨⟨s0, s1, s2⟩, sB⟩ := hSw; go_simp; with_reducible rfl
  try simp only [Act.put, List.setIfInBounds_toArray, List.set_cons_zero, List.set_cons_succ]
  refine takeL 26 (?_) rfl (by kernel_rfl) (by kernel_rfl) (by kernel_rfl) (fun _ _ _ h => h) (Or.inl ⟨by rfl, ?_⟩) (by assumption) ?_
  rotate_left
  · intro ws hSw; obtain ⟨⟨s0, s1, s2⟩, sB⟩ := hSw; go_simp; with_reducible rfl
  try simp only [Act.put, List.setIfInBounds_toArray, List.set_cons_zero, List.set_cons_succ]
  refine takeL 27 (?_) rfl (by kernel_rfl) (by kernel_rfl) (by kernel_rfl) (fun _ _ _ h => h) (Or.inl ⟨by rfl, ?_⟩) (by assumption) ?_
  rotate_left
  · intro ws hSw; obtain ⟨⟨s0, s1, s2⟩, sB⟩ := hSw; go_simp; with_reducible rfl
  try simp only [Act.put, List.setIfInBounds_toArray, List.set_cons_zero, List.set_cons_succ]
  refine wpAnyH_done (by kernel_rfl) ?_ _
  have hbR := hHeld.2
  have hQU := hQU.past hbR
  have hQD := hQD.past hbR
  have qm0 := bq hbR lm qm0; have qm1 := bq hbR lm qm1; have qm2 := bq hbR lm qm2
  have lm := bl hbR lm
  have hB := below_later hB hbR
  clear hHeld hbR
  go_wp2
  go_ret
  exact ⟨rfl, hB⟩

end Go.Proofs.Ytlkoenpdmlbhlaa
