/- the laws of signed: SignedForms, SignedReckons. -/
import Derived.Test.YtlljljhiimeajaaLaw04a
set_option linter.unusedVariables false
set_option linter.unusedSimpArgs false
namespace Go.Proofs.Ytlljljhiimeajaa
open Go.RowKit

set_option maxRecDepth 100000 in
set_option maxHeartbeats 8000000 in
theorem signedForms_any (b : Bool) (a : Option Addr) (n c : Nat) (l : List Nat) (x : Int) (w : World) (g1 : NatAt w a n c l) (b1 : -9223372036854775808 ≤ x) (b2 : x ≤ 9223372036854775807) :
    Calls Try.prog 8 #[.agg #[.bool b, .slice a n c], .int .i64 x] w (RetVal w (.bool true)) := by
  have hc1 := Nat.le_trans g1.le g1.cle
  by_cases hl1 : 30 < n
  · have t1 : decide ((30 : Int) < (n : Int)) = true := by simp; omega
    go_enter Try.func8, Try.ntmps8
    have hB := Below.refl w.heap.size w
    go_wp2_with fail
    obtain ⟨w1, hW, hz0, hb, q, f⟩ := box1g w (w.heap.size) (by omega) #[.bool b, .slice a n c] 42
    rw [hW]
    clear hW
    have hB := below_later hB hb
    clear hb
    have lb1 : w.heap.size < w1.heap.size := by omega
    have qb10 := q 0
    simp only [List.getElem?_toArray, List.getElem?_cons_zero, List.getElem?_cons_succ] at qb10
    have qb11 := q 1
    simp only [List.getElem?_toArray, List.getElem?_cons_zero, List.getElem?_cons_succ] at qb11
    clear q f
    clear hz0
    with_reducible refine (long04_any _ _ _ _ _ hc1).mono ?_
    rintro e w2 ⟨rfl, hb⟩
    have qb10 := (hb.cell (p := ⟨w.heap.size, 0, none⟩) lb1).trans qb10
    have qb11 := (hb.cell (p := ⟨w.heap.size, 1, none⟩) lb1).trans qb11
    have lb1 := Nat.lt_of_lt_of_le lb1 hb.size
    have hB := below_later hB hb
    clear hb
    go_wp2_with fail
    with_reducible refine (awake04 _).mono ?_
    rintro e w3 ⟨rfl, hb⟩
    have qb10 := (hb.cell (p := ⟨w.heap.size, 0, none⟩) lb1).trans qb10
    have qb11 := (hb.cell (p := ⟨w.heap.size, 1, none⟩) lb1).trans qb11
    have lb1 := Nat.lt_of_lt_of_le lb1 hb.size
    have hB := below_later hB hb
    clear hb
    go_wp2
    go_ret
    exact ⟨rfl, hB⟩
  have t1 : decide ((30 : Int) < (n : Int)) = false := by simp; omega
  obtain ⟨v, hv⟩ : ∃ v, sg b (val l) = v := ⟨_, rfl⟩
  have HV := Lib.hid hv
  clear hv
  go_enter Try.func8, Try.ntmps8
  have hB := Below.refl w.heap.size w
  go_wp2_with fail
  obtain ⟨w1, hW, hz0, hb, q, f⟩ := box1g w (w.heap.size) (by omega) #[.bool b, .slice a n c] 42
  rw [hW]
  clear hW
  have g1 := g1.past hb
  have hB := below_later hB hb
  clear hb
  have lb1 : w.heap.size < w1.heap.size := by omega
  have qb10 := q 0
  simp only [List.getElem?_toArray, List.getElem?_cons_zero, List.getElem?_cons_succ] at qb10
  have qb11 := q 1
  simp only [List.getElem?_toArray, List.getElem?_cons_zero, List.getElem?_cons_succ] at qb11
  clear q f
  clear hz0
  with_reducible refine (long04_any _ _ _ _ _ hc1).mono ?_
  rintro e w2 ⟨rfl, hb⟩
  have g1 := g1.past hb
  have qb10 := (hb.cell (p := ⟨w.heap.size, 0, none⟩) lb1).trans qb10
  have qb11 := (hb.cell (p := ⟨w.heap.size, 1, none⟩) lb1).trans qb11
  have lb1 := Nat.lt_of_lt_of_le lb1 hb.size
  have hB := below_later hB hb
  clear hb
  go_wp2_with fail
  with_reducible refine (copyWhole_any _ _ _ _ l _ g1 (by omega)).mono ?_
  rintro e w3 ⟨ahI, nhI, chI, rfl, hI, hb⟩
  have g1 := g1.past hb
  have qb10 := (hb.cell (p := ⟨w.heap.size, 0, none⟩) lb1).trans qb10
  have qb11 := (hb.cell (p := ⟨w.heap.size, 1, none⟩) lb1).trans qb11
  have lb1 := Nat.lt_of_lt_of_le lb1 hb.size
  have hB := below_later hB hb
  clear hb
  have bI : nhI ≤ n := by have h1 := hI.len; have h2 := g1.len; omega
  go_wp2_with fail
  obtain ⟨w4, hW, hz0, hb, q, f⟩ := box1g w3 (w3.heap.size) (by omega) #[.bool b, .slice ahI nhI chI] 42
  rw [hW]
  clear hW
  have g1 := g1.past hb
  have hI := hI.past hb
  have qb10 := (hb.cell (p := ⟨w.heap.size, 0, none⟩) lb1).trans qb10
  have qb11 := (hb.cell (p := ⟨w.heap.size, 1, none⟩) lb1).trans qb11
  have lb1 := Nat.lt_of_lt_of_le lb1 hb.size
  have hB := below_later hB hb
  clear hb
  have lb5 : w3.heap.size < w4.heap.size := by omega
  have qb50 := q 0
  simp only [List.getElem?_toArray, List.getElem?_cons_zero, List.getElem?_cons_succ] at qb50
  have qb51 := q 1
  simp only [List.getElem?_toArray, List.getElem?_cons_zero, List.getElem?_cons_succ] at qb51
  clear q f
  clear hz0
  have hZ := Below.refl w4.heap.size w4
  have zB := hB
  have zg1 := g1
  have zhI := hI.toNatAt
  go_wp2_with fail
  with_reducible refine (make_any _ _ _ _ l _ hI.toNatAt (by omega)).mono ?_
  rintro e w5 ⟨ahM, nhM, chM, rfl, hM, hb⟩
  have hM := hM.mono hZ.size
  have g1 := g1.past hb
  have hI := hI.past hb
  have qb10 := (hb.cell (p := ⟨w.heap.size, 0, none⟩) lb1).trans qb10
  have qb11 := (hb.cell (p := ⟨w.heap.size, 1, none⟩) lb1).trans qb11
  have lb1 := Nat.lt_of_lt_of_le lb1 hb.size
  have qb50 := (hb.cell (p := ⟨w3.heap.size, 0, none⟩) lb5).trans qb50
  have qb51 := (hb.cell (p := ⟨w3.heap.size, 1, none⟩) lb5).trans qb51
  have lb5 := Nat.lt_of_lt_of_le lb5 hb.size
  have hB := below_later hB hb
  have hZ := below_later hZ hb
  clear hb
  rw [HV.out] at hM ⊢
  go_wp2_with fail
  with_reducible refine (sof_any _ _ b1 b2).mono ?_
  rintro e w6 ⟨ahF, nhF, chF, rfl, hF, hb⟩
  have hF := hF.mono hZ.size
  have g1 := g1.past hb
  have hI := hI.past hb
  have hM := hM.past hb
  have qb10 := (hb.cell (p := ⟨w.heap.size, 0, none⟩) lb1).trans qb10
  have qb11 := (hb.cell (p := ⟨w.heap.size, 1, none⟩) lb1).trans qb11
  have lb1 := Nat.lt_of_lt_of_le lb1 hb.size
  have qb50 := (hb.cell (p := ⟨w3.heap.size, 0, none⟩) lb5).trans qb50
  have qb51 := (hb.cell (p := ⟨w3.heap.size, 1, none⟩) lb5).trans qb51
  have lb5 := Nat.lt_of_lt_of_le lb5 hb.size
  have hB := below_later hB hb
  have hZ := below_later hZ hb
  clear hb
  go_wp2_with fail
  obtain ⟨w7, hW, hz0, hb, q, f⟩ := box1g w6 (w6.heap.size) (by omega) #[.bool (neg (v)), .slice ahM nhM chM] 42
  rw [hW]
  clear hW
  have g1 := g1.past hb
  have hI := hI.past hb
  have hM := hM.past hb
  have hF := hF.past hb
  have qb10 := (hb.cell (p := ⟨w.heap.size, 0, none⟩) lb1).trans qb10
  have qb11 := (hb.cell (p := ⟨w.heap.size, 1, none⟩) lb1).trans qb11
  have lb1 := Nat.lt_of_lt_of_le lb1 hb.size
  have qb50 := (hb.cell (p := ⟨w3.heap.size, 0, none⟩) lb5).trans qb50
  have qb51 := (hb.cell (p := ⟨w3.heap.size, 1, none⟩) lb5).trans qb51
  have lb5 := Nat.lt_of_lt_of_le lb5 hb.size
  have hB := below_later hB hb
  have hZ := below_later hZ hb
  clear hb
  have lb6 : w6.heap.size < w7.heap.size := by omega
  have qb60 := q 0
  simp only [List.getElem?_toArray, List.getElem?_cons_zero, List.getElem?_cons_succ] at qb60
  have qb61 := q 1
  simp only [List.getElem?_toArray, List.getElem?_cons_zero, List.getElem?_cons_succ] at qb61
  clear q f
  obtain ⟨w8, hW, hz1, hb, q, f⟩ := box1g w7 (w6.heap.size + 1) (by omega) #[.bool (neg (x)), .slice ahF nhF chF] 42
  rw [hW]
  clear hW
  have g1 := g1.past hb
  have hI := hI.past hb
  have hM := hM.past hb
  have hF := hF.past hb
  have qb10 := (hb.cell (p := ⟨w.heap.size, 0, none⟩) lb1).trans qb10
  have qb11 := (hb.cell (p := ⟨w.heap.size, 1, none⟩) lb1).trans qb11
  have lb1 := Nat.lt_of_lt_of_le lb1 hb.size
  have qb50 := (hb.cell (p := ⟨w3.heap.size, 0, none⟩) lb5).trans qb50
  have qb51 := (hb.cell (p := ⟨w3.heap.size, 1, none⟩) lb5).trans qb51
  have lb5 := Nat.lt_of_lt_of_le lb5 hb.size
  have qb60 := (hb.cell (p := ⟨w6.heap.size, 0, none⟩) lb6).trans qb60
  have qb61 := (hb.cell (p := ⟨w6.heap.size, 1, none⟩) lb6).trans qb61
  have lb6 := Nat.lt_of_lt_of_le lb6 hb.size
  have hB := below_later hB hb
  have hZ := below_later hZ hb
  clear hb
  have lb7 : w6.heap.size + 1 < w8.heap.size := by omega
  have qb70 := q 0
  simp only [List.getElem?_toArray, List.getElem?_cons_zero, List.getElem?_cons_succ] at qb70
  have qb71 := q 1
  simp only [List.getElem?_toArray, List.getElem?_cons_zero, List.getElem?_cons_succ] at qb71
  clear q f
  clear hz0
  clear hz1
  with_reducible refine (sone_any _ _ _ _ l _ hI.toNatAt).mono ?_
  rintro e w9 ⟨rfl, hb⟩
  have g1 := g1.past hb
  have hI := hI.past hb
  have hM := hM.past hb
  have hF := hF.past hb
  have qb10 := (hb.cell (p := ⟨w.heap.size, 0, none⟩) lb1).trans qb10
  have qb11 := (hb.cell (p := ⟨w.heap.size, 1, none⟩) lb1).trans qb11
  have lb1 := Nat.lt_of_lt_of_le lb1 hb.size
  have qb50 := (hb.cell (p := ⟨w3.heap.size, 0, none⟩) lb5).trans qb50
  have qb51 := (hb.cell (p := ⟨w3.heap.size, 1, none⟩) lb5).trans qb51
  have lb5 := Nat.lt_of_lt_of_le lb5 hb.size
  have qb60 := (hb.cell (p := ⟨w6.heap.size, 0, none⟩) lb6).trans qb60
  have qb61 := (hb.cell (p := ⟨w6.heap.size, 1, none⟩) lb6).trans qb61
  have lb6 := Nat.lt_of_lt_of_le lb6 hb.size
  have qb70 := (hb.cell (p := ⟨w6.heap.size + 1, 0, none⟩) lb7).trans qb70
  have qb71 := (hb.cell (p := ⟨w6.heap.size + 1, 1, none⟩) lb7).trans qb71
  have lb7 := Nat.lt_of_lt_of_le lb7 hb.size
  have hB := below_later hB hb
  have hZ := below_later hZ hb
  clear hb
  rw [HV.out]
  go_wp2_with fail
  with_reducible refine (rsone_any _ _ _ _ l _ g1 (by omega)).mono ?_
  rintro e w10 ⟨rfl, hb⟩
  have g1 := g1.past hb
  have hI := hI.past hb
  have hM := hM.past hb
  have hF := hF.past hb
  have qb10 := (hb.cell (p := ⟨w.heap.size, 0, none⟩) lb1).trans qb10
  have qb11 := (hb.cell (p := ⟨w.heap.size, 1, none⟩) lb1).trans qb11
  have lb1 := Nat.lt_of_lt_of_le lb1 hb.size
  have qb50 := (hb.cell (p := ⟨w3.heap.size, 0, none⟩) lb5).trans qb50
  have qb51 := (hb.cell (p := ⟨w3.heap.size, 1, none⟩) lb5).trans qb51
  have lb5 := Nat.lt_of_lt_of_le lb5 hb.size
  have qb60 := (hb.cell (p := ⟨w6.heap.size, 0, none⟩) lb6).trans qb60
  have qb61 := (hb.cell (p := ⟨w6.heap.size, 1, none⟩) lb6).trans qb61
  have lb6 := Nat.lt_of_lt_of_le lb6 hb.size
  have qb70 := (hb.cell (p := ⟨w6.heap.size + 1, 0, none⟩) lb7).trans qb70
  have qb71 := (hb.cell (p := ⟨w6.heap.size + 1, 1, none⟩) lb7).trans qb71
  have lb7 := Nat.lt_of_lt_of_le lb7 hb.size
  have hB := below_later hB hb
  have hZ := below_later hZ hb
  clear hb
  rw [HV.out]
  go_wp2_with fail
  go_region_held3 (fun w' => (w'.cell? ⟨w.heap.size, 0, none⟩ = some (.bool b) ∧ w'.cell? ⟨w.heap.size, 1, none⟩ = some (.slice a n c) ∧ w'.cell? ⟨w6.heap.size, 0, none⟩ = some (.bool (neg (v))) ∧ w'.cell? ⟨w6.heap.size, 1, none⟩ = some (.slice ahM nhM chM) ∧ w'.cell? ⟨w6.heap.size + 1, 0, none⟩ = some (.bool (neg (x))) ∧ w'.cell? ⟨w6.heap.size + 1, 1, none⟩ = some (.slice ahF nhF chF)) ∧ Below w10.heap.size w10 w')
    (first
      | exact ⟨⟨((Below.refl w10.heap.size w10).drew.cell (p := ⟨w.heap.size, 0, none⟩) lb1).trans qb10, ((Below.refl w10.heap.size w10).drew.cell (p := ⟨w.heap.size, 1, none⟩) lb1).trans qb11, ((Below.refl w10.heap.size w10).drew.cell (p := ⟨w6.heap.size, 0, none⟩) lb6).trans qb60, ((Below.refl w10.heap.size w10).drew.cell (p := ⟨w6.heap.size, 1, none⟩) lb6).trans qb61, ((Below.refl w10.heap.size w10).drew.cell (p := ⟨w6.heap.size + 1, 0, none⟩) lb7).trans qb70, ((Below.refl w10.heap.size w10).drew.cell (p := ⟨w6.heap.size + 1, 1, none⟩) lb7).trans qb71⟩, (Below.refl _ _).drew⟩
      | (rename _ ∧ Below w10.heap.size w10 _ => hS
         first
           | exact ⟨⟨((below_later hS.2 hbw14).cell (p := ⟨w.heap.size, 0, none⟩) lb1).trans qb10, ((below_later hS.2 hbw14).cell (p := ⟨w.heap.size, 1, none⟩) lb1).trans qb11, ((below_later hS.2 hbw14).cell (p := ⟨w6.heap.size, 0, none⟩) lb6).trans qb60, ((below_later hS.2 hbw14).cell (p := ⟨w6.heap.size, 1, none⟩) lb6).trans qb61, ((below_later hS.2 hbw14).cell (p := ⟨w6.heap.size + 1, 0, none⟩) lb7).trans qb70, ((below_later hS.2 hbw14).cell (p := ⟨w6.heap.size + 1, 1, none⟩) lb7).trans qb71⟩, below_later hS.2 hbw14⟩
           | exact ⟨⟨((below_later hS.2 hbw13).cell (p := ⟨w.heap.size, 0, none⟩) lb1).trans qb10, ((below_later hS.2 hbw13).cell (p := ⟨w.heap.size, 1, none⟩) lb1).trans qb11, ((below_later hS.2 hbw13).cell (p := ⟨w6.heap.size, 0, none⟩) lb6).trans qb60, ((below_later hS.2 hbw13).cell (p := ⟨w6.heap.size, 1, none⟩) lb6).trans qb61, ((below_later hS.2 hbw13).cell (p := ⟨w6.heap.size + 1, 0, none⟩) lb7).trans qb70, ((below_later hS.2 hbw13).cell (p := ⟨w6.heap.size + 1, 1, none⟩) lb7).trans qb71⟩, below_later hS.2 hbw13⟩
           | exact ⟨⟨((below_later hS.2 hbw12).cell (p := ⟨w.heap.size, 0, none⟩) lb1).trans qb10, ((below_later hS.2 hbw12).cell (p := ⟨w.heap.size, 1, none⟩) lb1).trans qb11, ((below_later hS.2 hbw12).cell (p := ⟨w6.heap.size, 0, none⟩) lb6).trans qb60, ((below_later hS.2 hbw12).cell (p := ⟨w6.heap.size, 1, none⟩) lb6).trans qb61, ((below_later hS.2 hbw12).cell (p := ⟨w6.heap.size + 1, 0, none⟩) lb7).trans qb70, ((below_later hS.2 hbw12).cell (p := ⟨w6.heap.size + 1, 1, none⟩) lb7).trans qb71⟩, below_later hS.2 hbw12⟩
           | exact ⟨⟨((below_later hS.2 hbw11).cell (p := ⟨w.heap.size, 0, none⟩) lb1).trans qb10, ((below_later hS.2 hbw11).cell (p := ⟨w.heap.size, 1, none⟩) lb1).trans qb11, ((below_later hS.2 hbw11).cell (p := ⟨w6.heap.size, 0, none⟩) lb6).trans qb60, ((below_later hS.2 hbw11).cell (p := ⟨w6.heap.size, 1, none⟩) lb6).trans qb61, ((below_later hS.2 hbw11).cell (p := ⟨w6.heap.size + 1, 0, none⟩) lb7).trans qb70, ((below_later hS.2 hbw11).cell (p := ⟨w6.heap.size + 1, 1, none⟩) lb7).trans qb71⟩, below_later hS.2 hbw11⟩
           | exact ⟨⟨((hS.2.drew).cell (p := ⟨w.heap.size, 0, none⟩) lb1).trans qb10, ((hS.2.drew).cell (p := ⟨w.heap.size, 1, none⟩) lb1).trans qb11, ((hS.2.drew).cell (p := ⟨w6.heap.size, 0, none⟩) lb6).trans qb60, ((hS.2.drew).cell (p := ⟨w6.heap.size, 1, none⟩) lb6).trans qb61, ((hS.2.drew).cell (p := ⟨w6.heap.size + 1, 0, none⟩) lb7).trans qb70, ((hS.2.drew).cell (p := ⟨w6.heap.size + 1, 1, none⟩) lb7).trans qb71⟩, hS.2.drew⟩)
      | assumption)
    (first
      | (go_at_call 41; rename _ ∧ Below w10.heap.size w10 _ => hS
         go_fit (rsmake_any _ _ _ _ l _ (g1.past hS.2) (by omega))
         rintro e w11 ⟨ahK, nhK, chK, rfl, hK, hbw11⟩
         have hK := hK.mono (Nat.le_trans hZ.size hS.2.size)
         rw [HV.out] at hK ⊢)
      | (go_at_call 40; rename _ ∧ Below w10.heap.size w10 _ => hS
         go_fit (sameWhole_yes (hM.past hS.2).toNatAt hK.toNatAt)
         rintro e w12 ⟨rfl, hbw12⟩
         have hK := hK.past hbw12)
      | (go_at_call 42; rename _ ∧ Below w10.heap.size w10 _ => hS
         go_fit (rsof_any _ _ b1 b2)
         rintro e w13 ⟨ahL, nhL, chL, rfl, hL, hbw13⟩
         have hK := hK.past hbw13
         have hL := hL.mono (Nat.le_trans hZ.size hS.2.size))
      | (go_at_call 40; rename _ ∧ Below w10.heap.size w10 _ => hS
         go_fit (sameWhole_yes (hF.past hS.2).toNatAt hL.toNatAt)
         rintro e w14 ⟨rfl, hbw14⟩
         have hK := hK.past hbw14
         have hL := hL.past hbw14))
  rename _ ∧ Below w10.heap.size w10 w14 => hS
  have hbR := hS.2
  have g1 := g1.past hbR
  have hI := hI.past hbR
  have hM := hM.past hbR
  have hF := hF.past hbR
  have qb10 := (hbR.cell (p := ⟨w.heap.size, 0, none⟩) lb1).trans qb10
  have qb11 := (hbR.cell (p := ⟨w.heap.size, 1, none⟩) lb1).trans qb11
  have lb1 := Nat.lt_of_lt_of_le lb1 hbR.size
  have qb50 := (hbR.cell (p := ⟨w3.heap.size, 0, none⟩) lb5).trans qb50
  have qb51 := (hbR.cell (p := ⟨w3.heap.size, 1, none⟩) lb5).trans qb51
  have lb5 := Nat.lt_of_lt_of_le lb5 hbR.size
  have qb60 := (hbR.cell (p := ⟨w6.heap.size, 0, none⟩) lb6).trans qb60
  have qb61 := (hbR.cell (p := ⟨w6.heap.size, 1, none⟩) lb6).trans qb61
  have lb6 := Nat.lt_of_lt_of_le lb6 hbR.size
  have qb70 := (hbR.cell (p := ⟨w6.heap.size + 1, 0, none⟩) lb7).trans qb70
  have qb71 := (hbR.cell (p := ⟨w6.heap.size + 1, 1, none⟩) lb7).trans qb71
  have lb7 := Nat.lt_of_lt_of_le lb7 hbR.size
  have hB := below_later hB hbR
  have hZ := below_later hZ hbR
  clear hS hbR
  have hM := hM.writ
  have hF := hF.writ
  go_wp2_with fail
  with_reducible refine (overNat_any w4.heap.size _ _ _ _ hM).mono ?_
  rintro e w15 ⟨rfl, hb, hg⟩
  have hF := hF.keep hg
  have qb10 := hg.2.2 _ _ qb10 (fun x e => by cases e)
  have qb11 := hg.2.2 _ _ qb11 (fun x e => by cases e)
  have lb1 := Nat.lt_of_lt_of_le lb1 hb.size
  have qb50 := hg.2.2 _ _ qb50 (fun x e => by cases e)
  have qb51 := hg.2.2 _ _ qb51 (fun x e => by cases e)
  have lb5 := Nat.lt_of_lt_of_le lb5 hb.size
  have qb60 := hg.2.2 _ _ qb60 (fun x e => by cases e)
  have qb61 := hg.2.2 _ _ qb61 (fun x e => by cases e)
  have lb6 := Nat.lt_of_lt_of_le lb6 hb.size
  have qb70 := hg.2.2 _ _ qb70 (fun x e => by cases e)
  have qb71 := hg.2.2 _ _ qb71 (fun x e => by cases e)
  have lb7 := Nat.lt_of_lt_of_le lb7 hb.size
  have hZ := hZ.trans hb
  clear hb hg
  go_wp2_with fail
  with_reducible refine (overNat_any w4.heap.size _ _ _ _ hF).mono ?_
  rintro e w16 ⟨rfl, hb, hg⟩
  have qb10 := hg.2.2 _ _ qb10 (fun x e => by cases e)
  have qb11 := hg.2.2 _ _ qb11 (fun x e => by cases e)
  have lb1 := Nat.lt_of_lt_of_le lb1 hb.size
  have qb50 := hg.2.2 _ _ qb50 (fun x e => by cases e)
  have qb51 := hg.2.2 _ _ qb51 (fun x e => by cases e)
  have lb5 := Nat.lt_of_lt_of_le lb5 hb.size
  have qb60 := hg.2.2 _ _ qb60 (fun x e => by cases e)
  have qb61 := hg.2.2 _ _ qb61 (fun x e => by cases e)
  have lb6 := Nat.lt_of_lt_of_le lb6 hb.size
  have qb70 := hg.2.2 _ _ qb70 (fun x e => by cases e)
  have qb71 := hg.2.2 _ _ qb71 (fun x e => by cases e)
  have lb7 := Nat.lt_of_lt_of_le lb7 hb.size
  have hZ := hZ.trans hb
  clear hb hg
  have g1 := zg1.past hZ
  have hI := zhI.past hZ
  have hB := below_later zB hZ
  go_wp2_with fail
  go_region_held3 (fun w' => (w'.cell? ⟨w.heap.size, 0, none⟩ = some (.bool b) ∧ w'.cell? ⟨w.heap.size, 1, none⟩ = some (.slice a n c) ∧ w'.cell? ⟨w3.heap.size, 0, none⟩ = some (.bool b) ∧ w'.cell? ⟨w3.heap.size, 1, none⟩ = some (.slice ahI nhI chI)) ∧ Below w16.heap.size w16 w')
    (first
      | exact ⟨⟨((Below.refl w16.heap.size w16).drew.cell (p := ⟨w.heap.size, 0, none⟩) lb1).trans qb10, ((Below.refl w16.heap.size w16).drew.cell (p := ⟨w.heap.size, 1, none⟩) lb1).trans qb11, ((Below.refl w16.heap.size w16).drew.cell (p := ⟨w3.heap.size, 0, none⟩) lb5).trans qb50, ((Below.refl w16.heap.size w16).drew.cell (p := ⟨w3.heap.size, 1, none⟩) lb5).trans qb51⟩, (Below.refl _ _).drew⟩
      | (rename _ ∧ Below w16.heap.size w16 _ => hS
         first
           | exact ⟨⟨((below_later hS.2 hbw22).cell (p := ⟨w.heap.size, 0, none⟩) lb1).trans qb10, ((below_later hS.2 hbw22).cell (p := ⟨w.heap.size, 1, none⟩) lb1).trans qb11, ((below_later hS.2 hbw22).cell (p := ⟨w3.heap.size, 0, none⟩) lb5).trans qb50, ((below_later hS.2 hbw22).cell (p := ⟨w3.heap.size, 1, none⟩) lb5).trans qb51⟩, below_later hS.2 hbw22⟩
           | exact ⟨⟨((below_later hS.2 hbw21).cell (p := ⟨w.heap.size, 0, none⟩) lb1).trans qb10, ((below_later hS.2 hbw21).cell (p := ⟨w.heap.size, 1, none⟩) lb1).trans qb11, ((below_later hS.2 hbw21).cell (p := ⟨w3.heap.size, 0, none⟩) lb5).trans qb50, ((below_later hS.2 hbw21).cell (p := ⟨w3.heap.size, 1, none⟩) lb5).trans qb51⟩, below_later hS.2 hbw21⟩
           | exact ⟨⟨((below_later hS.2 hbw20).cell (p := ⟨w.heap.size, 0, none⟩) lb1).trans qb10, ((below_later hS.2 hbw20).cell (p := ⟨w.heap.size, 1, none⟩) lb1).trans qb11, ((below_later hS.2 hbw20).cell (p := ⟨w3.heap.size, 0, none⟩) lb5).trans qb50, ((below_later hS.2 hbw20).cell (p := ⟨w3.heap.size, 1, none⟩) lb5).trans qb51⟩, below_later hS.2 hbw20⟩
           | exact ⟨⟨((below_later hS.2 hbw19).cell (p := ⟨w.heap.size, 0, none⟩) lb1).trans qb10, ((below_later hS.2 hbw19).cell (p := ⟨w.heap.size, 1, none⟩) lb1).trans qb11, ((below_later hS.2 hbw19).cell (p := ⟨w3.heap.size, 0, none⟩) lb5).trans qb50, ((below_later hS.2 hbw19).cell (p := ⟨w3.heap.size, 1, none⟩) lb5).trans qb51⟩, below_later hS.2 hbw19⟩
           | exact ⟨⟨((below_later hS.2 hbw18).cell (p := ⟨w.heap.size, 0, none⟩) lb1).trans qb10, ((below_later hS.2 hbw18).cell (p := ⟨w.heap.size, 1, none⟩) lb1).trans qb11, ((below_later hS.2 hbw18).cell (p := ⟨w3.heap.size, 0, none⟩) lb5).trans qb50, ((below_later hS.2 hbw18).cell (p := ⟨w3.heap.size, 1, none⟩) lb5).trans qb51⟩, below_later hS.2 hbw18⟩
           | exact ⟨⟨((below_later hS.2 hbw17).cell (p := ⟨w.heap.size, 0, none⟩) lb1).trans qb10, ((below_later hS.2 hbw17).cell (p := ⟨w.heap.size, 1, none⟩) lb1).trans qb11, ((below_later hS.2 hbw17).cell (p := ⟨w3.heap.size, 0, none⟩) lb5).trans qb50, ((below_later hS.2 hbw17).cell (p := ⟨w3.heap.size, 1, none⟩) lb5).trans qb51⟩, below_later hS.2 hbw17⟩
           | exact ⟨⟨((hS.2.drew).cell (p := ⟨w.heap.size, 0, none⟩) lb1).trans qb10, ((hS.2.drew).cell (p := ⟨w.heap.size, 1, none⟩) lb1).trans qb11, ((hS.2.drew).cell (p := ⟨w3.heap.size, 0, none⟩) lb5).trans qb50, ((hS.2.drew).cell (p := ⟨w3.heap.size, 1, none⟩) lb5).trans qb51⟩, hS.2.drew⟩)
      | assumption)
    (first
      | (go_at_call 43; rename _ ∧ Below w16.heap.size w16 _ => hS
         go_fit (scheck_any _ _ _ _ l _ (hI.past hS.2))
         rintro e w17 ⟨rfl, hbw17⟩)
      | (go_at_call 44; rename _ ∧ Below w16.heap.size w16 _ => hS
         go_fit (rscheck_any _ _ _ _ l _ (g1.past hS.2))
         rintro e w18 ⟨rfl, hbw18⟩)
      | (go_at_call 45; rename _ ∧ Below w16.heap.size w16 _ => hS
         go_fit (sign_any _ _ _ _ l _ (hI.past hS.2) (by omega))
         rintro e w19 ⟨rfl, hbw19⟩
         rw [HV.out])
      | (go_at_call 46; rename _ ∧ Below w16.heap.size w16 _ => hS
         go_fit (rssign_any _ _ _ _ l _ (g1.past hS.2) (by omega))
         rintro e w20 ⟨rfl, hbw20⟩
         rw [HV.out])
      | (go_at_call 40; rename _ ∧ Below w16.heap.size w16 _ => hS
         go_fit (sameWhole_yes (hI.past hS.2) (g1.past hS.2))
         rintro e w21 ⟨rfl, hbw21⟩)
      | (go_at_call 34; rename _ ∧ Below w16.heap.size w16 _ => hS
         go_fit (awake04 _)
         rintro e w22 ⟨rfl, hbw22⟩))
  rename _ ∧ Below w16.heap.size w16 w22 => hS
  have hbR := hS.2
  have g1 := g1.past hbR
  have hI := hI.past hbR
  have qb10 := (hbR.cell (p := ⟨w.heap.size, 0, none⟩) lb1).trans qb10
  have qb11 := (hbR.cell (p := ⟨w.heap.size, 1, none⟩) lb1).trans qb11
  have lb1 := Nat.lt_of_lt_of_le lb1 hbR.size
  have qb50 := (hbR.cell (p := ⟨w3.heap.size, 0, none⟩) lb5).trans qb50
  have qb51 := (hbR.cell (p := ⟨w3.heap.size, 1, none⟩) lb5).trans qb51
  have lb5 := Nat.lt_of_lt_of_le lb5 hbR.size
  have qb60 := (hbR.cell (p := ⟨w6.heap.size, 0, none⟩) lb6).trans qb60
  have qb61 := (hbR.cell (p := ⟨w6.heap.size, 1, none⟩) lb6).trans qb61
  have lb6 := Nat.lt_of_lt_of_le lb6 hbR.size
  have qb70 := (hbR.cell (p := ⟨w6.heap.size + 1, 0, none⟩) lb7).trans qb70
  have qb71 := (hbR.cell (p := ⟨w6.heap.size + 1, 1, none⟩) lb7).trans qb71
  have lb7 := Nat.lt_of_lt_of_le lb7 hbR.size
  have hB := below_later hB hbR
  clear hS hbR
  go_wp2
  go_ret
  exact ⟨rfl, hB⟩

end Go.Proofs.Ytlljljhiimeajaa
