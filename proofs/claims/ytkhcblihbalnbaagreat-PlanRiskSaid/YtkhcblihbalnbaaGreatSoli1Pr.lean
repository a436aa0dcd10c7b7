import Derived.Test.YtkhcblihbalnbaaGreatS0Pr
import Derived.Test.YtkhcblihbalnbaaGreatRatio6Pr
import Derived.Test.YtkhcblihbalnbaaGreatIntsPr
import Derived.Test.YtkhcblihbalnbaaGreatRegPr
import Derived.Test.YtkhcblihbalnbaaGreatKit2Pr
import Derived.Test.YtkhcblihbalnbaaGreatKit5Pr
import Derived.Test.YtkhcblihbalnbaaGreatRatio1Pr
set_option linter.unusedVariables false
set_option linter.unusedSimpArgs false
set_option maxHeartbeats 4000000
set_option maxRecDepth 100000
namespace Go.Proofs.YtkhcblihbalnbaaGreat
section
open Go.RowKit
def okT (zs : List Int) (k : Int) : Prop := 1 ≤ k ∧ k ≤ 65536 ∧ 1 ≤ zs.length ∧ (zs.length : Int) ≤ k ∧ (∀ z ∈ zs, 0 ≤ z ∧ z ≤ 16777215) ∧ ∃ z ∈ zs, 0 < z
instance (zs : List Int) (k : Int) : Decidable (okT zs k) := by unfold okT; infer_instance
def chkT (zs : List Int) (k : Int) : Int := if okT zs k then 0 else 13
theorem chkT_no {zs : List Int} {k : Int} (h : ¬ okT zs k) : chkT zs k = 13 := if_neg h
theorem chkT_yes {zs : List Int} {k : Int} (h : okT zs k) : chkT zs k = 0 := if_pos h
def someT (zs : List Int) (j : Nat) : Bool := (zs.take j).any fun z => decide (0 < z)
theorem someT_succ {zs : List Int} {j : Nat} (h : j < zs.length) : someT zs (j + 1) = (someT zs j || decide (0 < zs.getD j 0)) := by
 unfold someT; rw [List.take_add_one, List.any_append, List.getD_eq_getElem?_getD, List.getElem?_eq_getElem h]; simp
theorem getD_mem' {zs : List Int} {j : Nat} (h : j < zs.length) : zs.getD j 0 ∈ zs := by
 rw [List.getD_eq_getElem?_getD, List.getElem?_eq_getElem h]; exact List.getElem_mem h
def sumW (zs : List Int) : Nat → Int
 | 0 => 0
 | j + 1 => wrap64 (sumW zs j + zs.getD j 0)
theorem soliCheck_any (a : Option Addr) (n c : Nat) (zs : List Int) (k : Int) (w : World) (g : IntsAt w a n c zs) :
 Calls Tryz.prog 30 #[.slice a n c, .int .i64 k] w (RetVal w (.int .i64 (chkT zs k))) := by
 have hcle := g.cle; have hle := g.le; have hlen := g.len; have hm : n ≤ 9223372036854775807 := by unfold maxLen at hcle; omega
 by_cases hb : 1 ≤ k ∧ k ≤ 65536 ∧ 1 ≤ n ∧ (n : Int) ≤ k
 · obtain ⟨h1, h2, h3, h4⟩ := hb
   have hgo : ∀ j, j < n → (0 ≤ zs.getD j 0 ∧ zs.getD j 0 ≤ 16777215) ∨ chkT zs k = 13 := fun j hj => by
    by_cases hz : 0 ≤ zs.getD j 0 ∧ zs.getD j 0 ≤ 16777215
    · exact .inl hz
    exact .inr (chkT_no fun h => hz (h.2.2.2.2.1 _ (getD_mem' (by omega))))
   have hend : (∀ j, j < n → 0 ≤ zs.getD j 0 ∧ zs.getD j 0 ≤ 16777215) → chkT zs k = if someT zs n = true then 0 else 13 := fun hall => by
    have hiff : okT zs k ↔ someT zs n = true := by
     constructor
     · intro h; unfold someT; rw [← hlen, List.take_length, List.any_eq_true]; obtain ⟨z, hz, h0⟩ := h.2.2.2.2.2; exact ⟨z, hz, decide_eq_true h0⟩
     intro h; refine ⟨h1, h2, by omega, by omega, fun z hz => ?_, ?_⟩
     · obtain ⟨i, hi, rfl⟩ := List.getElem_of_mem hz; have := hall i (by omega)
       rwa [List.getD_eq_getElem?_getD, List.getElem?_eq_getElem hi] at this
     unfold someT at h; rw [← hlen, List.take_length, List.any_eq_true] at h; obtain ⟨z, hz, h0⟩ := h; exact ⟨z, hz, of_decide_eq_true h0⟩
    unfold chkT; simp only [hiff]
   have hs := fun j (hj : j < n) => someT_succ (zs := zs) (j := j) (by omega)
   obtain ⟨R, hR⟩ : ∃ R, chkT zs k = R := ⟨_, rfl⟩; rw [hR] at hend ⊢; have HGO := Lib.hid hgo; have HEND := Lib.hid hend; have HS := Lib.hid hs; have HR := Lib.hid hR; have g0 := g; clear hgo hend hs hR g
   go_enter Tryz.func30, Tryz.ntmps30
   go_wp2
   go_loopw [5, 7, 27] (fun s x i wr => ∃ (j : Nat), j ≤ n ∧ s = .bool (someT zs j) ∧ i = .int .i64 (j : Int) ∧ wr = w ∧ Hid (∀ i, i < j → 0 ≤ zs.getD i 0 ∧ zs.getD i 0 ≤ 16777215)) (fun s x i _ => n - (intOf i).toNat)
   case atStart => exact ⟨0, Nat.zero_le _, rfl, rfl, rfl, Lib.hid fun i hi => absurd hi (Nat.not_lt_zero i)⟩
   case round =>
    obtain ⟨j, hj, rfl, rfl, rfl, HALL⟩ := hrel
    by_cases hlt : j < n
    · rcases g0.cell with h0 | ⟨b, o, rfl, hbl, hc⟩
      · omega
      have q := hc j hlt; have hs1 := HS.out j hlt; have hg := HGO.out j hlt; have hall := HALL.out; obtain ⟨z, hz⟩ : ∃ z, zs.getD j 0 = z := ⟨_, rfl⟩; rw [hz] at q hs1 hg; obtain ⟨s, hs⟩ : ∃ s, someT zs j = s := ⟨_, rfl⟩; rw [hs] at hs1 ⊢; have HS1 := Lib.hid hs1; have HZ := Lib.hid hz; clear hc hs1 hz hs
      by_cases hz1 : z < 0
      · have e : R = 13 := (hg.resolve_left (by omega)) ▸ HR.out.symm; subst e; clear hg
        go_wp2
        go_ret
        exact ⟨rfl, Below.refl _ _⟩
      by_cases hz2 : 16777215 < z
      · have e : R = 13 := (hg.resolve_left (by omega)) ▸ HR.out.symm; subst e; clear hg
        go_wp2
        go_ret
        exact ⟨rfl, Below.refl _ _⟩
      clear hg
      have HN := Lib.hid (show ∀ i, i < j + 1 → 0 ≤ zs.getD i 0 ∧ zs.getD i 0 ≤ 16777215 from fun i hi => by
       by_cases e : i = j
       · subst e; rw [HZ.out]; omega
       exact hall i (by omega))
      clear hall; cases s
      · go_wp2
        go_roundw
        case rel => exact ⟨j + 1, by omega, by rw [HS1.out]; rfl, by go_num, trivial, HN⟩
        case measure => simp [intOf]; omega
      go_wp2
      go_roundw
      case rel => exact ⟨j + 1, by omega, by rw [HS1.out]; rfl, by go_num, trivial, HN⟩
      case measure => simp [intOf]; omega
    obtain rfl : j = n := by omega
    have he := HEND.out HALL.out; obtain ⟨s, hs⟩ : ∃ s, someT zs j = s := ⟨_, rfl⟩; rw [hs] at he ⊢; have HE := Lib.hid he; clear he hs; cases s
    · go_wp2
      go_ret
      exact ⟨by rw [HE.out]; rfl, Below.refl _ _⟩
    go_wp2
    go_ret
    exact ⟨by rw [HE.out]; rfl, Below.refl _ _⟩
 have e : chkT zs k = 13 := chkT_no fun h => hb ⟨h.1, h.2.1, by have := h.2.2.1; omega, by have := h.2.2.2.1; omega⟩
 rw [e]; clear e
 by_cases h1 : k < 1
 · go_enter Tryz.func30, Tryz.ntmps30
   go_wp2
   go_ret
   exact ⟨rfl, Below.refl _ _⟩
 by_cases h2 : 65536 < k
 · go_enter Tryz.func30, Tryz.ntmps30
   go_wp2
   go_ret
   exact ⟨rfl, Below.refl _ _⟩
 by_cases h3 : n < 1
 · obtain rfl : n = 0 := by omega
   go_enter Tryz.func30, Tryz.ntmps30
   go_wp2
   go_ret
   exact ⟨rfl, Below.refl _ _⟩
 have h4 : k < (n : Int) := by omega
 clear hb
 go_enter Tryz.func30, Tryz.ntmps30
 go_wp2
 go_ret
 exact ⟨rfl, Below.refl _ _⟩
theorem total1_any (b : Nat) (s x : Int) (w : World) (hc : w.cell? ⟨b, 0, none⟩ = some (.int .i64 s)) (hf : w.frozen? ⟨b, 0, none⟩ = false) :
 Calls Tryz.prog 235 #[.int .i64 x, .pointer (some ⟨b, 0, none⟩)] w fun e w' => e = .returned (.tuple #[]) ∧ w' = w.setCell ⟨b, 0, none⟩ (.int .i64 (wrap64 (s + x))) := by
 go_enter Tryz.func235, Tryz.ntmps235
 go_wp2
 go_end0
 exact ⟨rfl, rfl⟩
theorem pr_pos {x : Int} {y : Nat} (hy : 0 < y) : mkRat (sg (neg x != neg (y : Int)) x.natAbs) (y : Int).natAbs = mkRat x y := by
 have h1 : neg (y : Int) = false := decide_eq_false (by omega)
 have h2 : sg (neg x) x.natAbs = x := by
  have h := sg_canon x
  rwa [val_digs] at h
 rw [h1, Bool.bne_false, h2, Int.natAbs_natCast]
end
section
open Go.RowKit
def upS (g : Nat → Int) : Nat → Int
 | 0 => 0
 | i + 1 => upS g i + g i * ((i + 1 : Nat) : Int)
def totS (g : Nat → Int) : Nat → Int
 | 0 => 0
 | i + 1 => totS g i + g i
theorem totS_in {g : Nat → Int} : ∀ n, (∀ i, i < n → 0 ≤ g i ∧ g i ≤ 16777215) → 0 ≤ totS g n ∧ totS g n ≤ n * 16777215
 | 0, _ => by simp [totS]
 | n + 1, e => by
   have h := totS_in n fun i hi => e i (by omega)
   have := e n (by omega); rw [totS]; omega
theorem upS_in {g : Nat → Int} : ∀ n, (∀ i, i < n → 0 ≤ g i) → totS g n ≤ upS g n ∧ upS g n ≤ n * totS g n ∧ 0 ≤ totS g n
 | 0, _ => by simp [totS, upS]
 | n + 1, e => by
   obtain ⟨h1, h2, h3⟩ := upS_in n fun i hi => e i (by omega)
   have := e n (by omega); rw [totS, upS]; generalize totS g n = t at *; generalize upS g n = u at *; generalize g n = x at *; have e1 : x * ((n + 1 : Nat) : Int) = x * n + x := by rw [Int.natCast_add, Int.mul_add, Int.natCast_one, Int.mul_one]
   have e2 : ((n + 1 : Nat) : Int) * (t + x) = n * t + t + (n * x + x) := by rw [Int.natCast_add, Int.add_mul, Int.natCast_one, Int.one_mul, Int.mul_add]; omega
   have e3 : (n : Int) * x = x * n := Int.mul_comm _ _; have e4 : 0 ≤ x * n := Int.mul_nonneg this (by omega); rw [e1, e2, e3]; omega
theorem sumW_tot {zs : List Int} : ∀ n, n ≤ 65536 → (∀ i, i < n → 0 ≤ zs.getD i 0 ∧ zs.getD i 0 ≤ 16777215) → sumW zs n = totS (fun i => zs.getD i 0) n
 | 0, _, _ => rfl
 | n + 1, h, e => by
   have h1 := totS_in (g := fun i => zs.getD i 0) n fun i hi => e i (by omega)
   have h2 := e n (by omega); rw [sumW, totS, sumW_tot n (by omega) fun i hi => e i (by omega)]; unfold wrap64; generalize totS (fun i => zs.getD i 0) n = t at *; generalize zs.getD n 0 = x at *; omega
theorem okT_in {zs : List Int} {k : Int} (h : okT zs k) : ∀ i, i < zs.length → 0 ≤ zs.getD i 0 ∧ zs.getD i 0 ≤ 16777215 := fun i hi => h.2.2.2.2.1 _ (getD_mem' hi)
theorem totS_pos {g : Nat → Int} : ∀ n, (∀ i, i < n → 0 ≤ g i) → (∃ i, i < n ∧ 0 < g i) → 0 < totS g n
 | 0, _, h => by obtain ⟨i, hi, _⟩ := h; omega
 | n + 1, e, h => by
   have h3 := (upS_in n fun i hi => e i (by omega)).2.2; obtain ⟨i, hi, hp⟩ := h; rw [totS]
   by_cases hin : i = n
   · subst hin; omega
   have := totS_pos n (fun i hi => e i (by omega)) ⟨i, by omega, hp⟩; have := e n (by omega); omega
theorem okT_pos {zs : List Int} {k : Int} (h : okT zs k) : 0 < totS (fun i => zs.getD i 0) zs.length := by
 obtain ⟨z, hz, h0⟩ := h.2.2.2.2.2; obtain ⟨i, hi, rfl⟩ := List.getElem_of_mem hz; refine totS_pos _ (fun i hi => (okT_in h i hi).1) ⟨i, hi, ?_⟩; simp only [List.getD_eq_getElem?_getD, List.getElem?_eq_getElem hi]; exact h0
end
section
open Go.RowKit
theorem total_any (a : Option Addr) (n c : Nat) (zs : List Int) (w : World) (g : IntsAt w a n c zs) :
 Calls Tryz.prog 222 #[.slice a n c] w (RetVal w (.int .i64 (sumW zs n))) := by
 have hcle := g.cle; have hle := g.le; have hm : n ≤ 9223372036854775807 := by unfold maxLen at hcle; omega
 have h0 : sumW zs 0 = 0 := rfl; obtain ⟨SF, hSF⟩ : ∃ SF, sumW zs = SF := ⟨_, rfl⟩; rw [hSF] at h0 ⊢; have hs : ∀ j, SF (j + 1) = wrap64 (SF j + zs.getD j 0) := fun j => by rw [← hSF]; rfl
 have HS := Lib.hid hs; have H0 := Lib.hid h0; clear hs h0 hSF
 go_enter Tryz.func222, Tryz.ntmps222
 go_wp2
 obtain ⟨w1, hW, hz, hb, q, f⟩ := box1g w w.heap.size rfl #[.int .i64 0] 3; rw [hW]; clear hW; have x0 : BoxAt w1 w.heap.size 1 := BoxAt.of q f rfl (by simp [notU_i64]); have q0 := q 0; simp only [lgA, lgZ] at q0; have hlt : w.heap.size < w1.heap.size := by omega
 clear q f hz; generalize hBB : w.heap.size = BB at *
 go_loopw [5, 9] (fun x i wr => ∃ (j : Nat), j ≤ n ∧ i = .int .i64 (j : Int) ∧ Below w.heap.size w wr ∧ BB < wr.heap.size ∧ wr.cell? ⟨BB, 0, none⟩ = some (.int .i64 (SF j)) ∧ BoxAt wr BB 1) (fun x i _ => n - (intOf i).toNat)
 case atStart => exact ⟨0, Nat.zero_le _, rfl, by rw [hBB]; exact hb, hlt, by rw [H0.out]; exact q0, x0⟩
 case round =>
  clear hb hlt q0 x0; obtain ⟨j, hj, rfl, hB, hlt2, q0, x0⟩ := hrel
  by_cases hlt : j < n
  · rcases (g.past hB).cell with h0 | ⟨b, o, rfl, hbl, hc⟩
    · omega
    have q := hc j hlt; have hs := HS.out j; obtain ⟨z, hz⟩ : ∃ z, zs.getD j 0 = z := ⟨_, rfl⟩; rw [hz] at q hs; obtain ⟨S, hS⟩ : ∃ S, SF j = S := ⟨_, rfl⟩; rw [hS] at hs q0; have HSS := Lib.hid hs; clear hs hS hz hc
    go_wp2_with fail
    have hf := x0.f 0 (by decide)
    with_reducible refine (total1_any _ S z _ q0 hf).mono ?_
    rintro e w2 ⟨rfl, rfl⟩
    go_wp2
    go_roundw
    case rel => exact ⟨j + 1, by omega, by go_num, hB.setCell (p := ⟨BB, 0, none⟩) (Nat.le_of_eq hBB) _, by simpa using hlt2, by rw [HSS.out]; exact World.cell?_setCell_same _ _ _ q0, x0.set ⟨BB, 0, none⟩ _ (notU_i64 _)⟩
    case measure => simp [intOf]; omega
  obtain rfl : j = n := by omega
  obtain ⟨S, hS⟩ : ∃ S, SF j = S := ⟨_, rfl⟩; rw [hS] at q0; have HSS := Lib.hid hS; clear hS; have hf := x0.f 0 (by decide)
  go_wp2
  refine bodyPost_ret (v := .int .i64 S) ?_ rfl ⟨by rw [HSS.out], hB.setCell (p := ⟨BB, 0, none⟩) (Nat.le_of_eq hBB) _⟩; simp [results, Tryz.f222, go_sem, World.cell?_setCell_same _ _ _ q0]
end
section
open Go.RowKit
theorem make_okR {z : Int} {T : Nat} {q : Rat} {a : Option Addr} {n c : Nat} {a2 : Option Addr} {n2 c2 : Nat} {w : World} (g1 : NatAt w a n c (digs z.natAbs)) (g2 : NatAt w a2 n2 c2 (digs T)) (hq : makeR (neg z) (digs z.natAbs) (digs T) = .ok q) (hs : n ≤ 68719476736) (hs2 : n2 ≤ 68719476736) :
 Calls Tryz.prog 82 #[.agg #[.bool (neg z), .slice a n c], .slice a2 n2 c2] w (RetOk w q) := by
 have h := make05_any (neg z) a n c _ a2 n2 c2 _ w g1 g2 hs hs2; rw [hq] at h; exact h
end
end Go.Proofs.YtkhcblihbalnbaaGreat
