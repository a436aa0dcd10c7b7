import Derived.Deep.RegionHeld3
import Derived.Deep.DeepFit
import Derived.Test.YtlkoenpdmlbhlaaGreatS0Cm
import Derived.Test.YtlkoenpdmlbhlaaGreatA2Cm
import Derived.Test.YtlkoenpdmlbhlaaGreatA5Cm
import Derived.Test.YtlkoenpdmlbhlaaGreatA1Cm
import Derived.Test.YtlkoenpdmlbhlaaGreatLaw24aCm
import Derived.Test.YtlkoenpdmlbhlaaGreatRatio7Cm
import Derived.Test.YtlkoenpdmlbhlaaGreatRatio13Cm
import Derived.Test.YtlkoenpdmlbhlaaGreatRatio15Cm
import Derived.Test.YtlkoenpdmlbhlaaGreatRatio10Cm
import Derived.Test.YtlkoenpdmlbhlaaGreatA9Cm
import Derived.Test.YtlkoenpdmlbhlaaGreatA3Cm
import Derived.Test.YtlkoenpdmlbhlaaGreatNatsCm
import Derived.Test.YtlkoenpdmlbhlaaGreatSoliPCm
set_option linter.unusedVariables false
set_option linter.unusedSimpArgs false
namespace Go.Proofs.YtlkoenpdmlbhlaaGreat
open Go.RowKit Go.Shelf
attribute [local go_sem] Oper.semAt_some
def num (l : List Bool) : Nat := l.foldl (fun s b => 2 * s + b.toNat) 0
end Go.Proofs.YtlkoenpdmlbhlaaGreat
set_option linter.unusedVariables false
set_option linter.unusedSimpArgs false
namespace Go.Proofs.YtlkoenpdmlbhlaaGreat
open Go.RowKit
theorem rpair_ok {x y : Int} {q : Rat} (hy : y ≠ 0) (hq : mkRat (sg (neg x != neg y) x.natAbs) y.natAbs = q) (w : World) (hx : -9223372036854775808 ≤ x ∧ x ≤ 9223372036854775807) (hy2 : -9223372036854775808 ≤ y ∧ y ≤ 9223372036854775807) :
 Calls Tryz.prog 61 #[.int .i64 x, .int .i64 y] w (RetOk w q) := by
 have h := rpair05_any x y w hx hy2
 rw [pairR_ok hy, hq] at h
 exact h
theorem rpair_q (x : Int) (y : Nat) (w : World) (hx : -9223372036854775808 ≤ x ∧ x ≤ 9223372036854775807) (hy : 0 < y) (hy2 : y ≤ 9223372036854775807) :
 Calls Tryz.prog 61 #[.int .i64 x, .int .i64 (y : Int)] w (RetOk w (mkRat x y)) := rpair_ok (by omega) (pr_pos hy) w hx (by omega)
theorem radd_two {w : World} {a : Option Addr} {p q : Rat} (gr : RatsAt w a 2 2 (ratsF [p, q])) (h1 : rlen p ≤ 10000) (h2 : rlen q ≤ 10000) : Calls Tryz.prog 45 #[.slice a 2 2] w (RetOk w (p + q)) := by
 have h := radd05_any a 2 2 (ratsF [p, q]) 10000 w gr (by decide) (fun i hi => by
  match i, hi with
  | 0, _ => exact rlen_parts _ h1
  | 1, _ => exact rlen_parts _ h2) (by decide)
 rw [foldA_two, show (0 : Rat) + p = p from Rat.zero_add p] at h
 exact h.mono fun e w' h => h.ok
theorem rmul_two {w : World} {a : Option Addr} {p q : Rat} (gr : RatsAt w a 2 2 (ratsF [p, q])) (h1 : rlen p ≤ 10000) (h2 : rlen q ≤ 10000) : Calls Tryz.prog 62 #[.slice a 2 2] w (RetOk w (p * q)) := by
 have h := rmul05_any a 2 2 (ratsF [p, q]) 10000 w gr (by decide) (fun i hi => by
  match i, hi with
  | 0, _ => exact rlen_parts _ h1
  | 1, _ => exact rlen_parts _ h2) (by decide)
 rw [foldA_two, show (1 : Rat) * p = p from Rat.one_mul p] at h
 exact h.mono fun e w' h => h.ok
set_option maxRecDepth 100000 in
set_option maxHeartbeats 4000000 in
theorem rCheck13 (a : Option Addr) (n c : Nat) (zs : List Int) (k : Int) (w : World) (g : IntsAt w a n c zs) :
 Calls Tryz.prog 79 #[.slice a n c, .int .i64 k] w (RetVal w (.int .i64 (chkT zs k))) := by
 have hcle := g.cle
 have hle := g.le
 have hlen := g.len
 have hm : n ≤ 9223372036854775807 := by unfold maxLen at hcle; omega
 by_cases hb : 1 ≤ k ∧ k ≤ 65536 ∧ 1 ≤ n ∧ (n : Int) ≤ k
 · obtain ⟨h1, h2, h3, h4⟩ := hb
   have hgo : ∀ j, j < n → (0 ≤ zs.getD j 0 ∧ zs.getD j 0 ≤ 16777215) ∨ chkT zs k = 13 := fun j hj => by
    by_cases hz : 0 ≤ zs.getD j 0 ∧ zs.getD j 0 ≤ 16777215
    · exact .inl hz
    · exact .inr (chkT_no fun h => hz (h.2.2.2.2.1 _ (getD_mem' (by omega))))
   have hend : (∀ j, j < n → 0 ≤ zs.getD j 0 ∧ zs.getD j 0 ≤ 16777215) → chkT zs k = if someT zs n = true then 0 else 13 := fun hall => by
    have hiff : okT zs k ↔ someT zs n = true := by
     constructor
     · intro h
       unfold someT
       rw [← hlen, List.take_length, List.any_eq_true]
       obtain ⟨z, hz, h0⟩ := h.2.2.2.2.2
       exact ⟨z, hz, decide_eq_true h0⟩
     · intro h
       refine ⟨h1, h2, by omega, by omega, fun z hz => ?_, ?_⟩
       · obtain ⟨i, hi, rfl⟩ := List.getElem_of_mem hz
         have := hall i (by omega)
         rwa [List.getD_eq_getElem?_getD, List.getElem?_eq_getElem hi] at this
       · unfold someT at h
         rw [← hlen, List.take_length, List.any_eq_true] at h
         obtain ⟨z, hz, h0⟩ := h
         exact ⟨z, hz, of_decide_eq_true h0⟩
    unfold chkT
    simp only [hiff]
   have hs := fun j (hj : j < n) => someT_succ (zs := zs) (j := j) (by omega)
   obtain ⟨R, hR⟩ : ∃ R, chkT zs k = R := ⟨_, rfl⟩
   rw [hR] at hend ⊢
   have HGO := Lib.hid hgo
   have HEND := Lib.hid hend
   have HS := Lib.hid hs
   have HR := Lib.hid hR
   have g0 := g
   clear hgo hend hs hR g
   go_enter Tryz.func79, Tryz.ntmps79
   go_wp2
   go_loopw [5, 6] (fun s i wr => ∃ (j : Nat), j ≤ n ∧ s = .bool (someT zs j) ∧ i = .int .i64 (j : Int) ∧ wr = w ∧ Hid (∀ i, i < j → 0 ≤ zs.getD i 0 ∧ zs.getD i 0 ≤ 16777215)) (fun s i _ => n - (intOf i).toNat)
   case atStart => exact ⟨0, Nat.zero_le _, rfl, rfl, rfl, Lib.hid fun i hi => absurd hi (Nat.not_lt_zero i)⟩
   case round =>
    obtain ⟨j, hj, rfl, rfl, rfl, HALL⟩ := hrel
    by_cases hlt : j < n
    · rcases g0.cell with h0 | ⟨b, o, rfl, hbl, hc⟩
      · omega
      have q := hc j hlt
      have hs1 := HS.out j hlt
      have hg := HGO.out j hlt
      have hall := HALL.out
      obtain ⟨z, hz⟩ : ∃ z, zs.getD j 0 = z := ⟨_, rfl⟩
      rw [hz] at q hs1 hg
      obtain ⟨s, hs⟩ : ∃ s, someT zs j = s := ⟨_, rfl⟩
      rw [hs] at hs1 ⊢
      have HS1 := Lib.hid hs1
      have HZ := Lib.hid hz
      clear hc hs1 hz hs
      by_cases hz1 : z < 0
      · have e : R = 13 := (hg.resolve_left (by omega)) ▸ HR.out.symm
        subst e
        clear hg
        go_wp2
        go_ret
        exact ⟨rfl, Below.refl _ _⟩
      by_cases hz2 : 16777215 < z
      · have e : R = 13 := (hg.resolve_left (by omega)) ▸ HR.out.symm
        subst e
        clear hg
        go_wp2
        go_ret
        exact ⟨rfl, Below.refl _ _⟩
      clear hg
      have HN := Lib.hid (show ∀ i, i < j + 1 → 0 ≤ zs.getD i 0 ∧ zs.getD i 0 ≤ 16777215 from fun i hi => by
       by_cases e : i = j
       · subst e; rw [HZ.out]; omega
       · exact hall i (by omega))
      clear hall
      cases s
      · go_wp2
        go_roundw
        case rel => exact ⟨j + 1, by omega, by rw [HS1.out]; rfl, by go_num, trivial, HN⟩
        case measure => simp [intOf]; omega
      · go_wp2
        go_roundw
        case rel => exact ⟨j + 1, by omega, by rw [HS1.out]; rfl, by go_num, trivial, HN⟩
        case measure => simp [intOf]; omega
    · obtain rfl : j = n := by omega
      have he := HEND.out HALL.out
      obtain ⟨s, hs⟩ : ∃ s, someT zs j = s := ⟨_, rfl⟩
      rw [hs] at he ⊢
      have HE := Lib.hid he
      clear he hs
      cases s
      · go_wp2
        go_ret
        exact ⟨by rw [HE.out]; rfl, Below.refl _ _⟩
      · go_wp2
        go_ret
        exact ⟨by rw [HE.out]; rfl, Below.refl _ _⟩
 · have e : chkT zs k = 13 := chkT_no fun h => hb ⟨h.1, h.2.1, by have := h.2.2.1; omega, by have := h.2.2.2.1; omega⟩
   rw [e]
   clear e
   by_cases h1 : k < 1
   · go_enter Tryz.func79, Tryz.ntmps79
     go_wp2
     go_ret
     exact ⟨rfl, Below.refl _ _⟩
   by_cases h2 : 65536 < k
   · go_enter Tryz.func79, Tryz.ntmps79
     go_wp2
     go_ret
     exact ⟨rfl, Below.refl _ _⟩
   by_cases h3 : n < 1
   · obtain rfl : n = 0 := by omega
     go_enter Tryz.func79, Tryz.ntmps79
     go_wp2
     go_ret
     exact ⟨rfl, Below.refl _ _⟩
   have h4 : k < (n : Int) := by omega
   clear hb
   go_enter Tryz.func79, Tryz.ntmps79
   go_wp2
   go_ret
   exact ⟨rfl, Below.refl _ _⟩
end Go.Proofs.YtlkoenpdmlbhlaaGreat
set_option linter.unusedVariables false
set_option linter.unusedSimpArgs false
namespace Go.Proofs.YtlkoenpdmlbhlaaGreat
open Go.RowKit
def bin (n i : Nat) : List Nat := digs (ch n i)
def RetBin (w : World) (k : Nat) (e : Ending) (w' : World) : Prop :=
 ∃ g cap, e = .returned (.slice (some ⟨g, 0, none⟩) (k + 1) cap) ∧ Nats w' w.heap.size g cap (k + 1) (bin k) ∧ Below w.heap.size w w'
theorem bin_step (k p : Nat) : digs (val (bin k p) + val (bin k (p + 1))) = bin (k + 1) (p + 1) := by unfold bin; rw [val_digs, val_digs]; rfl
theorem bin_zero (k : Nat) : digs 1 = bin k 0 := by unfold bin; rw [ch_zero]
theorem bin_last (k : Nat) : digs 1 = bin k k := by unfold bin; rw [ch_self]
theorem bin_len {n : Nat} (hn : n ≤ 65536) (k : Nat) : (bin n k).length ≤ 65538 := by
 unfold bin
 by_cases h : k ≤ n
 · have := ch_len (n := n) (by omega) k; omega
 · rw [ch_gt (by omega)]; exact Nat.zero_le _
set_option maxRecDepth 100000 in
set_option maxHeartbeats 4000000 in
theorem rnext_any (g cap k : Nat) (B : Nat) (w : World) (h : Nats w B g cap (k + 1) (bin k)) (hk : k ≤ 65536) :
 Calls Tryz.prog 162 #[.slice (some ⟨g, 0, none⟩) (k + 1) cap] w (RetBin w (k + 1)) := by
 have hcb := h.bnd
 have hcap : cap ≤ 9223372036854775807 := by have := hcb.2; simp only [maxLen] at this; omega
 go_enter Tryz.func162, Tryz.ntmps162
 go_wp2_with fail
 refine (rof_any 1 _ (by decide)).mono ?_
 rintro e w1 ⟨a1, n1, c1, rfl, h1, hb1⟩
 rw [bin_zero (k + 1)] at h1
 go_wp2_with fail
 have hN : Nats (w1.alloc (.cells #[.slice a1 n1 c1] 23)) w.heap.size w1.heap.size 1 1 (bin (k + 1)) := (Nats.lit h1 hb1.size).congr (fun i hi => by rw [show i = 0 by omega])
 have hB := below_alloc hb1 (.cells #[.slice a1 n1 c1] 23)
 have hlg := h.lt.2
 go_loopw [3, 4] (fun s3 s4 wr => ∃ (j g' cap' : Nat), 1 ≤ j ∧ j ≤ k + 1 ∧ s3 = .slice (some ⟨g', 0, none⟩) j cap' ∧ s4 = .int .i64 ((j : Nat) : Int) ∧ Nats wr w.heap.size g' cap' j (bin (k + 1)) ∧ Below w.heap.size w wr) (fun _ s4 _ => k + 1 - (intOf s4).toNat)
 case atStart => exact ⟨1, _, _, by omega, by omega, rfl, rfl, hN, hB⟩
 case round =>
  clear hN hB h1 hb1
  obtain ⟨j, g', cap', hj1, hj2, rfl, rfl, hN, hB⟩ := hrel
  have hNl := hN.lt
  by_cases hlt : j < k + 1
  · obtain ⟨p, hp⟩ : ∃ p, p + 1 = j := ⟨j - 1, by omega⟩
    obtain ⟨am, m, cm, hc1, ho1, _⟩ := h.get (i := p) (by omega)
    obtain ⟨an, m2, cn, hc2, ho2, _⟩ := h.get (i := j) hlt
    have ei : (j : Int) - 1 = (p : Int) := by omega
    have b1 : m ≤ 65538 := by rw [← ho1.len]; exact bin_len hk p
    have b2 : m2 ≤ 65538 := by rw [← ho2.len]; exact bin_len hk j
    have ev : digs (val (bin k p) + val (bin k j)) = bin (k + 1) j := by rw [← hp]; exact bin_step k p
    have EV := Lib.hid ev
    have b3 : (0 : Int) ≤ (p : Int) := Int.natCast_nonneg _
    have b4 : (p : Int) < ((k + 1 : Nat) : Int) := by omega
    have b5 : (0 : Int) ≤ (j : Int) := Int.natCast_nonneg _
    have b6 : (j : Int) < ((k + 1 : Nat) : Int) := by omega
    have b7 : (p : Int) < (k : Int) + 1 := by omega
    have b8 : (j : Int) < (k : Int) + 1 := by omega
    have c5 : IntKind.i64.wrap (p : Int) = (p : Int) := IntWalk.i64_in _ (by omega)
    have hB9 : Hid (w.heap.size ≤ wr.heap.size) := Lib.hid hB.size
    have hG9 : Hid (w.heap.size ≤ g' ∧ g' < wr.heap.size) := Lib.hid hNl
    have hM1 : m ≤ 549755813888 := by omega
    have hM2 : m2 ≤ 549755813888 := by omega
    have HM1 := Lib.hid hM1
    have HM2 := Lib.hid hM2
    have hJ : j ≤ 1000000 := by omega
    have HJ := Lib.hid hJ
    have HLG := Lib.hid hlg
    have HN := Lib.hid hN
    have HP := Lib.hid hp
    have q1 := (hB.cell (p := ⟨g, p, none⟩) hlg).trans hc1
    have q2 := (hB.cell (p := ⟨g, j, none⟩) hlg).trans hc2
    clear ev hNl hM1 hM2 hJ hN hp
    go_wp2_with fail
    go_region_held3 (fun w' => (w'.cell? ⟨g, p, none⟩ = some (.slice am m cm) ∧ w'.cell? ⟨g, j, none⟩ = some (.slice an m2 cn)) ∧ Below w.heap.size w w')
     (first
       | assumption
       | exact ⟨⟨q1, q2⟩, hB.drew⟩
       | (rename _ ∧ Below w.heap.size w _ => hT
          first
           | exact ⟨⟨((hP.below hT.2 (Nat.le_trans hB9.out hT8) hG9.out.1).cell (p := ⟨g, p, none⟩) HLG.out).trans hc1, ((hP.below hT.2 (Nat.le_trans hB9.out hT8) hG9.out.1).cell (p := ⟨g, j, none⟩) HLG.out).trans hc2⟩, hP.below hT.2 (Nat.le_trans hB9.out hT8) hG9.out.1⟩
           | exact ⟨⟨((below_later hT.2 hb8).cell (p := ⟨g, p, none⟩) HLG.out).trans hc1, ((below_later hT.2 hb8).cell (p := ⟨g, j, none⟩) HLG.out).trans hc2⟩, below_later hT.2 hb8⟩
           | exact ⟨⟨((below_alloc hT.2 _).cell (p := ⟨g, p, none⟩) HLG.out).trans hc1, ((below_alloc hT.2 _).cell (p := ⟨g, j, none⟩) HLG.out).trans hc2⟩, below_alloc hT.2 _⟩))
     (first
       | (refine step_push_nats ?_ (.tmp 13) (.tmp 24) ?_ w.heap.size g' cap' j (bin (k + 1)) ?_ hN9 w8.heap.size a8 n8 c8 (bin (k + 1) j) ?_ (lit_cell _ _ _) h9 hne8 HJ.out ?_
          rfl
          rfl
          rfl
          rfl
          intro g9 c9 w9 hP)
       | (go_at_call 121; rename _ ∧ Below w.heap.size w _ => hT
          go_fit (radd_any _ _ _ (bin k p) _ _ _ (bin k j) _ (ho1.past hT.2).toNatAt (ho2.past hT.2).toNatAt HM1.out HM2.out)
          rintro e w8 ⟨a8, n8, c8, rfl, h8, hb8⟩
          rw [EV.out] at h8
          have hT8 := (below_alloc (Below.refl w8.heap.size w8) (.cells #[.slice a8 n8 c8] 23)).size
          have hT8 := Nat.le_trans hb8.size hT8
          have hne8 := h8.apart hG9.out.2
          have hN9 := ((HN.out.drew).past hb8).past ((Below.refl w8.heap.size w8).alloc (Nat.le_refl _) (.cells #[.slice a8 n8 c8] 23))
          have h9 := (h8.mono hB9.out).past ((Below.refl w8.heap.size w8).alloc (Nat.le_refl _) (.cells #[.slice a8 n8 c8] 23))))
    all_goals
     rename _ ∧ Below w.heap.size w w9 => hT
     have hN2 : Nats w9 w.heap.size g9 c9 (j + 1) (bin (k + 1)) := hP.row.congr (fun i hi => by by_cases e : i = j <;> simp [e])
     have hB2 := hT.2
     go_wp2
     go_roundw
     case measure => simp [intOf] <;> omega
     case rel => exact ⟨j + 1, _, _, by omega, by omega, rfl, by go_num, hN2, hB2⟩
  · obtain rfl : j = k + 1 := by omega
    have hne9 : Hid (w.heap.size ≤ g' ∧ g' < wr.heap.size) := Lib.hid hNl
    have hk2 : k + 1 ≤ 1000000 := by omega
    clear hNl hj1 hj2 hlt
    go_wp2_with fail
    refine (rof_any 1 _ (by decide)).mono ?_
    rintro e w8 ⟨a8, n8, c8, rfl, h8, hb8⟩
    rw [bin_last (k + 1)] at h8
    have hne8 := h8.apart hne9.out.2
    have hN9 := (hN.past hb8).past ((Below.refl w8.heap.size w8).alloc (Nat.le_refl _) (.cells #[.slice a8 n8 c8] 23))
    have h9 := (h8.mono hB.size).past ((Below.refl w8.heap.size w8).alloc (Nat.le_refl _) (.cells #[.slice a8 n8 c8] 23))
    have hB8 := below_alloc (below_later hB hb8) (.cells #[.slice a8 n8 c8] 23)
    clear hN h8 hb8 hB
    go_wp2_with (at_builtin; refine wpList_push_nats rfl (.tmp 26) (.tmp 28) rfl w.heap.size g' cap' (k + 1) (bin (k + 1)) rfl hN9 w8.heap.size a8 n8 c8 (bin (k + 1) (k + 1)) rfl (lit_cell _ _ _) h9 hne8 hk2 ?_; intro g9 c9 w9 hP)
    go_ret
    exact ⟨g9, c9, rfl, hP.row.congr (fun i hi => by by_cases e : i = k + 1 <;> simp [e]), hP.below hB8 hB8.size hne9.out.1⟩
set_option maxRecDepth 100000 in
theorem rrow_any (n : Nat) (w : World) (hn : n ≤ 65536) :
 Calls Tryz.prog 134 #[.int .i64 (n : Int)] w (RetBin w n) := by
 go_enter Tryz.func134, Tryz.ntmps134
 go_wp2_with fail
 refine (rof_any 1 _ (by decide)).mono ?_
 rintro e w1 ⟨a1, n1, c1, rfl, h1, hb1⟩
 rw [bin_zero 0] at h1
 go_wp2_with fail
 have hN : Nats (w1.alloc (.cells #[.slice a1 n1 c1] 23)) w.heap.size w1.heap.size 1 (0 + 1) (bin 0) := (Nats.lit h1 hb1.size).congr (fun i hi => by rw [show i = 0 by omega])
 have hB := below_alloc hb1 (.cells #[.slice a1 n1 c1] 23)
 go_loopw [3, 4] (fun s3 s4 wr => ∃ (j g cap : Nat), j ≤ n ∧ s3 = .slice (some ⟨g, 0, none⟩) (j + 1) cap ∧ s4 = .int .i64 ((j : Nat) : Int) ∧ Nats wr w.heap.size g cap (j + 1) (bin j) ∧ Below w.heap.size w wr) (fun _ s4 _ => n - (intOf s4).toNat)
 case atStart => exact ⟨0, _, _, by omega, rfl, rfl, hN, hB⟩
 case round =>
  clear hN hB h1 hb1
  obtain ⟨j, g, cap, hj, rfl, rfl, hN, hB⟩ := hrel
  by_cases hlt : j < n
  · go_wp2_with fail
    with_reducible refine (rnext_any g cap j _ _ hN (by omega)).mono ?_
    rintro e w2 ⟨g2, cap2, rfl, hN2, hb2⟩
    have hN2 := hN2.mono hB.size
    have hB2 := below_later hB hb2
    go_wp2
    go_roundw
    case measure => simp [intOf] <;> omega
    case rel => exact ⟨j + 1, _, _, by omega, rfl, by go_num, hN2, hB2⟩
  · obtain rfl : j = n := by omega
    go_wp2
    go_ret
    exact ⟨_, _, rfl, hN, hB⟩
set_option maxRecDepth 100000 in
theorem rchoose_in (n k : Nat) (w : World) (hn : n ≤ 65536) (hk : k ≤ n) :
 Calls Tryz.prog 108 #[.int .i64 (n : Int), .int .i64 (k : Int)] w (RetNE w (ch n k) 0) := by
 have t : (decide ((n : Int) < 0) || decide (65536 < (n : Int))) = false := by simp; omega
 have t2 : (decide ((k : Int) < 0) || decide ((n : Int) < (k : Int))) = false := by simp; omega
 have b3 : (0 : Int) ≤ (k : Int) := Int.natCast_nonneg _
 have b4 : (k : Int) < (n : Int) + 1 := by omega
 go_enter Tryz.func108, Tryz.ntmps108
 go_wp2_with fail
 with_reducible refine (rrow_any n _ hn).mono ?_
 rintro e w2 ⟨g, cap, rfl, hN, hb⟩
 obtain ⟨a, m, c, hc, ho, _⟩ := hN.get (i := k) (by omega)
 go_wp2
 go_ret2
 exact ⟨_, _, _, rfl, ho, hb⟩
end Go.Proofs.YtlkoenpdmlbhlaaGreat
