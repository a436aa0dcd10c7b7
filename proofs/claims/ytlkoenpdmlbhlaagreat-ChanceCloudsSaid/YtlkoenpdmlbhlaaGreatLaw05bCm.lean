import Derived.ProofKit
import Derived.OpenShut
import Derived.ShutString
import Derived.ChangeOld
import Derived.Below
import Derived.Test.YtlkoenpdmlbhlaaGreatS0Cm
import Derived.Test.YtlkoenpdmlbhlaaGreatA9Cm
import Derived.Test.YtlkoenpdmlbhlaaGreatB1Cm
import Derived.Test.YtlkoenpdmlbhlaaGreatB3Cm
import Derived.Test.YtlkoenpdmlbhlaaGreatA1Cm
import Derived.Test.YtlkoenpdmlbhlaaGreatA6Cm
set_option linter.unusedVariables false
set_option linter.unusedSimpArgs false
namespace Go.Proofs.YtlkoenpdmlbhlaaGreat
open Go.RowKit
theorem pairR_ok {x y : Int} (hy : y ≠ 0) : pairR x y = .ok (mkRat (sg (neg x != neg y) x.natAbs) y.natAbs) := by
 unfold pairR makeR
 rw [if_neg (by rw [chkZ_canon]; simp), val_digs, val_digs, if_neg (by omega), natAbs_sg]
 congr 2
 have h := sg_canon (sg (neg x != neg y) x.natAbs)
 rw [natAbs_sg, val_digs] at h
 exact h
theorem pair_ok {x y : Int} {q : Rat} (hy : y ≠ 0) (hq : mkRat (sg (neg x != neg y) x.natAbs) y.natAbs = q) (w : World) (hx : -9223372036854775808 ≤ x ∧ x ≤ 9223372036854775807) (hy2 : -9223372036854775808 ≤ y ∧ y ≤ 9223372036854775807) :
 Calls Tryz.prog 69 #[.int .i64 x, .int .i64 y] w (RetOk w q) := by
 have h := pair05_any x y w hx hy2
 rw [pairR_ok hy, hq] at h
 exact h
end Go.Proofs.YtlkoenpdmlbhlaaGreat
set_option linter.unusedVariables false
set_option linter.unusedSimpArgs false
namespace Go.Proofs.YtlkoenpdmlbhlaaGreat
open Go.RowKit
theorem i64_row {x : Int} (h : (Lit.int .i64 x).wf = true) : -9223372036854775808 ≤ x ∧ x ≤ 9223372036854775807 := by
 simp only [Lit.wf, IntKind.min, IntKind.max, IntKind.signed, IntKind.bits, Bool.and_eq_true, decide_eq_true_eq, if_true] at h
 simpa using h
end Go.Proofs.YtlkoenpdmlbhlaaGreat
set_option linter.unusedVariables false
set_option linter.unusedSimpArgs false
namespace Go.Proofs.YtlkoenpdmlbhlaaGreat
open Go.RowKit Go.ChangeShapes Go.WideShapes Go.ChangeAt
def RowIn (k : IntKind) (w : World) (a : Option Addr) (len cap : Nat) (zs : List Int) : Prop :=
 (a = none ∧ len = 0 ∧ cap = 0 ∧ zs = []) ∨
 ∃ x, a = some x ∧ len ≤ cap ∧ cap ≤ maxLen ∧ zs.length = cap ∧ (∀ i, i < zs.length → w.cell? (x.add i) = some (.int k (zs.getD i 0))) ∧ ∀ n ∈ zs, (Lit.int k n).wf = true
section
variable {H : Type} {enc : TypeId × Value → H} {P : Program} {W : World}
theorem open_row {t e : TypeId} {k : IntKind} {fuel : Nat} {c : Value} {x : DataW H × List MemPlace} (ht : P.underlying t = some (.slice e)) (he : P.underlying e = some (.int k)) (hc : P.cellsOf e = 1)
 (h : DataW.trod enc P W 0 (fun _ => true) true fuel t [c] = some x) : ∃ a len cap zs, c = .slice a len cap ∧ RowIn k W a len cap zs := by
 rcases open_ints ht he hc h with ⟨hcs, _⟩ | ⟨x, l, c', zs, hcs, _, hl, hm, hz, _, hcell, hwz⟩
 · simp at hcs
   subst hcs
   exact ⟨_, _, _, [], rfl, .inl ⟨rfl, rfl, rfl, rfl⟩⟩
 · simp at hcs
   subst hcs
   exact ⟨_, _, _, zs, rfl, .inr ⟨_, rfl, hl, hm, by simpa using hz, hcell, hwz⟩⟩
end
end Go.Proofs.YtlkoenpdmlbhlaaGreat
set_option linter.unusedVariables false
set_option linter.unusedSimpArgs false
namespace Go.Proofs.YtlkoenpdmlbhlaaGreat
open Go.RowKit
structure IntsAt (w : World) (a : Option Addr) (n c : Nat) (zs : List Int) : Prop where
 len : zs.length = n
 le : n ≤ c
 cle : c ≤ maxLen
 cell : n = 0 ∨ ∃ b o, a = some ⟨b, o, none⟩ ∧ b < w.heap.size ∧ ∀ i, i < n → w.cell? ⟨b, o + i, none⟩ = some (.int .i64 (zs.getD i 0))
 nilc : a = none → c = 0
 wf : ∀ z ∈ zs, -9223372036854775808 ≤ z ∧ z ≤ 9223372036854775807
theorem IntsAt.past {w w' : World} {a : Option Addr} {n c : Nat} {zs : List Int} (h : IntsAt w a n c zs) (hb : Below w.heap.size w w') : IntsAt w' a n c zs :=
 ⟨h.len, h.le, h.cle, h.cell.imp id fun ⟨b, o, e, hl, hc⟩ => ⟨b, o, e, Nat.lt_of_lt_of_le hl hb.size, fun i hi => (hb.cell (p := ⟨b, o + i, none⟩) hl).trans (hc i hi)⟩, h.nilc, h.wf⟩
theorem intsAt_row {w : World} {a : Option Addr} {len cap : Nat} {zs : List Int} (h : RowIn .i64 w a len cap zs) : IntsAt w a len cap (zs.take len) := by
 rcases h with ⟨rfl, rfl, rfl, rfl⟩ | ⟨x, rfl, h1, h2, h3, h4, h5⟩
 · exact ⟨rfl, Nat.le_refl _, Nat.zero_le _, .inl rfl, fun _ => rfl, by simp⟩
 · refine ⟨by rw [List.length_take]; omega, h1, h2, ?_, (fun e => by cases e), fun z hz => i64_row (h5 z (List.mem_of_mem_take hz))⟩
   by_cases h0 : len = 0
   · exact .inl h0
   · have hc0 := h4 0 (by omega)
     have hsp : x.spot = none := by
      rw [show x.add 0 = x from rfl] at hc0
      unfold World.cell? at hc0
      split at hc0
      · cases hs : x.spot with
        | none => rfl
        | some s => simp [hs] at hc0
      · simp at hc0
     obtain ⟨b, o, s⟩ := x
     cases hsp
     have hl := World.block_lt_of_cell? w _ hc0
     refine .inr ⟨b, o, rfl, hl, fun i hi => ?_⟩
     have hc := h4 i (by omega)
     rw [addr_add] at hc
     rw [hc, List.getD_eq_getElem?_getD, List.getD_eq_getElem?_getD, List.getElem?_take, if_pos hi]
theorem litI {E : Nat} (w : World) (vs : Array Value) (zs : List Int) (n : Nat) (hv : vs.toList = zs.map (fun z => Value.int .i64 z)) (hn : zs.length = n) (hm : n ≤ 1000) (hd : ∀ z ∈ zs, -9223372036854775808 ≤ z ∧ z ≤ 9223372036854775807) :
 IntsAt (w.alloc (.cells vs E)) (some ⟨w.heap.size, 0, none⟩) n n zs := by
 refine ⟨hn, Nat.le_refl _, by simp only [maxLen]; omega, .inr ⟨w.heap.size, 0, rfl, by simp, fun i hi => ?_⟩, (fun e => by cases e), hd⟩
 rw [Nat.zero_add, World.cell?_alloc_at _ _ _ _ rfl, ← Array.getElem?_toList, hv, List.getElem?_map, List.getD_eq_getElem?_getD, List.getElem?_eq_getElem (by omega)]
 rfl
theorem i64_info : (Tryz.prog.info? 3).map (fun i => (i.zero, i.size, i.bytes)) = some (some (.int .i64 0), 1, 8) := by kernel_rfl
set_option maxRecDepth 100000 in
theorem copyInts_any (a : Option Addr) (n c : Nat) (zs : List Int) (w : World) (h : IntsAt w a n c zs) (hs : n ≤ 1000) :
 Calls Tryz.prog 19 #[.slice a n c] w fun e w' => ∃ a' n' c', e = .returned (.slice a' n' c') ∧ IntsAt w' a' n' c' zs ∧ Below w.heap.size w w' := by
 obtain ⟨i0, hi, hz0, hz1, hz2⟩ := info_parts i64_info
 have hal : Below w.heap.size w (w.alloc (.cells #[] 3)) := (Below.refl _ _).alloc (Nat.le_refl _) _
 cases a with
 | none =>
   have hc := h.nilc rfl
   have hm : n = 0 := by have := h.le; omega
   subst hc
   subst hm
   have hl : zs = [] := List.eq_nil_of_length_eq_zero h.len
   subst hl
   go_enter Tryz.func19, Tryz.ntmps19
   go_wp2_with (at_builtin; refine wpList_append_own_none rfl _ _ 32 rfl w.heap.size 3 i0 1 Tryz.underlying32 hi _ 0 [] rfl (World.ownsRow_lit w #[] 0 (Nat.le_refl _) (by simp) rfl) rfl ?_)
   go_ret
   exact ⟨_, _, _, rfl, ⟨rfl, Nat.le_refl _, Nat.zero_le _, .inl rfl, fun _ => rfl, by simp⟩, hal⟩
 | some ad =>
   have hnews : ∀ j u, (zs.map (fun z => Value.int .i64 z))[j]? = some u → (w.alloc (.cells #[] 3)).cell? (ad.add j) = some u := by
    intro j u hu
    have hj : j < zs.length := by
     have := (List.getElem?_eq_some_iff.1 hu).1
     rwa [List.length_map] at this
    rw [List.getElem?_map, List.getElem?_eq_getElem hj] at hu
    cases hu
    rcases (h.past hal).cell with h0 | ⟨b, o, he, _, hc⟩
    · have := h.len; omega
    · cases he
      rw [addr_add, hc j (by have := h.len; omega), List.getD_eq_getElem?_getD, List.getElem?_eq_getElem hj]
      rfl
   have hlen := h.len
   have hwf := h.wf
   go_enter Tryz.func19, Tryz.ntmps19
   go_wp2_with (at_builtin; refine wpList_append_own _ rfl _ _ 32 rfl w.heap.size 3 i0 (.int .i64 0) 1 8 Tryz.underlying32 hi hz0 hz1 hz2 rfl (by decide) _ 0 [] rfl (World.ownsRow_lit w #[] 0 (Nat.le_refl _) (by simp) rfl) ad n c (zs.map (fun z => Value.int .i64 z)) rfl (by rw [List.length_map, hlen, Nat.mul_one]) hnews (by simp [Value.oneCell']) (by simp only [maxLen]; omega) (by omega) (by simp) ?_; intro v' w1 hown hgrow hnil)
   go_ret
   rw [Nat.zero_add, List.nil_append] at hown
   have hB : Below w.heap.size w w1 := hal.grown hgrow (by simp) (fun k e => by cases e; exact Nat.le_refl _)
   rcases hown.2 with ⟨rfl, hn0⟩ | ⟨g, cap, cur, rfl, hg, hgg, hnc, hcm, _⟩
   · exact ⟨_, _, _, rfl, ⟨by rw [hlen]; exact hn0, Nat.le_refl _, Nat.zero_le _, .inl rfl, fun _ => rfl, hwf⟩, hB⟩
   · refine ⟨_, _, _, rfl, ⟨hlen, hnc, hcm, .inr ⟨g, 0, rfl, (Array.getElem?_eq_some_iff.1 hgg).1, fun i hi => ?_⟩, (fun e => by cases e), hwf⟩, hB⟩
     rw [Nat.zero_add, World.ownsRow.cellAt hown i (by omega), List.getElem?_map, List.getD_eq_getElem?_getD, List.getElem?_eq_getElem (by omega)]
     rfl
set_option maxRecDepth 100000 in
theorem sameInts_yes {a : Option Addr} {n c : Nat} {zs : List Int} {a2 : Option Addr} {n2 c2 : Nat} {w : World} (h : IntsAt w a n c zs) (h2 : IntsAt w a2 n2 c2 zs) :
 Calls Tryz.prog 14 #[.slice a n c, .slice a2 n2 c2] w (RetVal w (.bool true)) := by
 have hl : c ≤ 9223372036854775807 := by have := h.cle; simp only [maxLen] at this; omega
 have hl' := h.le
 obtain rfl : n = n2 := h.len.symm.trans h2.len
 have t0 : ((n : Int) != (n : Int)) = false := by simp
 go_enter Tryz.func14, Tryz.ntmps14
 go_wp2
 go_loopw [5] (fun i wr => ∃ (k m : Nat), k ≤ n ∧ i = .int .i64 ((k : Nat) : Int) ∧ wr = w.drewN m) (fun i _ => n - (intOf i).toNat)
 case atStart => exact ⟨0, 0, Nat.zero_le _, rfl, rfl⟩
 case round =>
  obtain ⟨k, m, hk, rfl, rfl⟩ := hrel
  by_cases hlt : k < n
  · have e1 := h.past (Below.draws (Below.refl _ _) m)
    have e2 := h2.past (Below.draws (Below.refl _ _) m)
    rcases e1.cell with h' | ⟨ba, oa, rfl, _, hca⟩
    · omega
    rcases e2.cell with h' | ⟨bb, ob, rfl, _, hcb⟩
    · omega
    have ca := hca k hlt
    have cb := hcb k hlt
    clear hca hcb e1 e2
    obtain ⟨z, hz⟩ : ∃ z, zs.getD k 0 = z := ⟨_, rfl⟩
    rw [hz] at ca cb
    have t1 : (z != z) = false := by simp
    clear hz
    go_wp2_with fail
    generalize hW : w.drewN m = W at ca cb ⊢
    have HW := Lib.hid hW
    clear hW
    go_quiet (fail)
    go_wp2
    go_roundw
    case rel => exact ⟨k + 1, m + nq, by omega, by go_num, by rw [← HW.out, World.drewN_drewN]⟩
    case measure => simp [intOf]; omega
  · obtain rfl : k = n := by omega
    go_wp2
    go_ret
    exact ⟨rfl, Below.draws (Below.refl _ _) m⟩
end Go.Proofs.YtlkoenpdmlbhlaaGreat
set_option linter.unusedVariables false
set_option linter.unusedSimpArgs false
namespace Go.Proofs.YtlkoenpdmlbhlaaGreat
open Go.RowKit
def okT (zs : List Int) (k : Int) : Prop := 1 ≤ k ∧ k ≤ 65536 ∧ 1 ≤ zs.length ∧ (zs.length : Int) ≤ k ∧ (∀ z ∈ zs, 0 ≤ z ∧ z ≤ 16777215) ∧ ∃ z ∈ zs, 0 < z
instance (zs : List Int) (k : Int) : Decidable (okT zs k) := by unfold okT; infer_instance
def chkT (zs : List Int) (k : Int) : Int := if okT zs k then 0 else 13
theorem chkT_no {zs : List Int} {k : Int} (h : ¬ okT zs k) : chkT zs k = 13 := if_neg h
theorem chkT_yes {zs : List Int} {k : Int} (h : okT zs k) : chkT zs k = 0 := if_pos h
theorem chkT_iff {zs : List Int} {k : Int} : chkT zs k = 0 ↔ okT zs k := by
 unfold chkT
 split <;> simp [*]
def someT (zs : List Int) (j : Nat) : Bool := (zs.take j).any fun z => decide (0 < z)
theorem someT_succ {zs : List Int} {j : Nat} (h : j < zs.length) : someT zs (j + 1) = (someT zs j || decide (0 < zs.getD j 0)) := by
 unfold someT
 rw [List.take_add_one, List.any_append, List.getD_eq_getElem?_getD, List.getElem?_eq_getElem h]
 simp
theorem getD_mem' {zs : List Int} {j : Nat} (h : j < zs.length) : zs.getD j 0 ∈ zs := by
 rw [List.getD_eq_getElem?_getD, List.getElem?_eq_getElem h]
 exact List.getElem_mem h
def sumW (zs : List Int) : Nat → Int
 | 0 => 0
 | j + 1 => wrap64 (sumW zs j + zs.getD j 0)
set_option maxRecDepth 100000 in
set_option maxHeartbeats 4000000 in
theorem soliCheck_any (a : Option Addr) (n c : Nat) (zs : List Int) (k : Int) (w : World) (g : IntsAt w a n c zs) :
 Calls Tryz.prog 32 #[.slice a n c, .int .i64 k] w (RetVal w (.int .i64 (chkT zs k))) := by
 have hcle := g.cle
 have hle := g.le
 have hlen := g.len
 have hm : n ≤ 9223372036854775807 := by unfold maxLen at hcle; omega
 by_cases hb : 1 ≤ k ∧ k ≤ 65536 ∧ 1 ≤ n ∧ (n : Int) ≤ k
 · obtain ⟨h1, h2, h3, h4⟩ := hb
   have hgo : ∀ j, j < n → (0 ≤ zs.getD j 0 ∧ zs.getD j 0 ≤ 16777215) ∨ chkT zs k = 13 := fun j hj => by
    by_cases hz : 0 ≤ zs.getD j 0 ∧ zs.getD j 0 ≤ 16777215
    · exact .inl hz
    · exact .inr (chkT_no fun h => hz (h.2.2.2.2.1 _ (getD_mem' (by omega))))
   have hend : (∀ j, j < n → 0 ≤ zs.getD j 0 ∧ zs.getD j 0 ≤ 16777215) → chkT zs k = if someT zs n = true then 0 else 13 := fun hall => by
    have hiff : okT zs k ↔ someT zs n = true := by
     constructor
     · intro h
       unfold someT
       rw [← hlen, List.take_length, List.any_eq_true]
       obtain ⟨z, hz, h0⟩ := h.2.2.2.2.2
       exact ⟨z, hz, decide_eq_true h0⟩
     · intro h
       refine ⟨h1, h2, by omega, by omega, fun z hz => ?_, ?_⟩
       · obtain ⟨i, hi, rfl⟩ := List.getElem_of_mem hz
         have := hall i (by omega)
         rwa [List.getD_eq_getElem?_getD, List.getElem?_eq_getElem hi] at this
       · unfold someT at h
         rw [← hlen, List.take_length, List.any_eq_true] at h
         obtain ⟨z, hz, h0⟩ := h
         exact ⟨z, hz, of_decide_eq_true h0⟩
    unfold chkT
    simp only [hiff]
   have hs := fun j (hj : j < n) => someT_succ (zs := zs) (j := j) (by omega)
   obtain ⟨R, hR⟩ : ∃ R, chkT zs k = R := ⟨_, rfl⟩
   rw [hR] at hend ⊢
   have HGO := Lib.hid hgo
   have HEND := Lib.hid hend
   have HS := Lib.hid hs
   have HR := Lib.hid hR
   have g0 := g
   clear hgo hend hs hR g
   go_enter Tryz.func32, Tryz.ntmps32
   go_wp2
   go_loopw [5, 7, 27] (fun s x i wr => ∃ (j : Nat), j ≤ n ∧ s = .bool (someT zs j) ∧ i = .int .i64 (j : Int) ∧ wr = w ∧ Hid (∀ i, i < j → 0 ≤ zs.getD i 0 ∧ zs.getD i 0 ≤ 16777215)) (fun s x i _ => n - (intOf i).toNat)
   case atStart => exact ⟨0, Nat.zero_le _, rfl, rfl, rfl, Lib.hid fun i hi => absurd hi (Nat.not_lt_zero i)⟩
   case round =>
    obtain ⟨j, hj, rfl, rfl, rfl, HALL⟩ := hrel
    by_cases hlt : j < n
    · rcases g0.cell with h0 | ⟨b, o, rfl, hbl, hc⟩
      · omega
      have q := hc j hlt
      have hs1 := HS.out j hlt
      have hg := HGO.out j hlt
      have hall := HALL.out
      obtain ⟨z, hz⟩ : ∃ z, zs.getD j 0 = z := ⟨_, rfl⟩
      rw [hz] at q hs1 hg
      obtain ⟨s, hs⟩ : ∃ s, someT zs j = s := ⟨_, rfl⟩
      rw [hs] at hs1 ⊢
      have HS1 := Lib.hid hs1
      have HZ := Lib.hid hz
      clear hc hs1 hz hs
      by_cases hz1 : z < 0
      · have e : R = 13 := (hg.resolve_left (by omega)) ▸ HR.out.symm
        subst e
        clear hg
        go_wp2
        go_ret
        exact ⟨rfl, Below.refl _ _⟩
      by_cases hz2 : 16777215 < z
      · have e : R = 13 := (hg.resolve_left (by omega)) ▸ HR.out.symm
        subst e
        clear hg
        go_wp2
        go_ret
        exact ⟨rfl, Below.refl _ _⟩
      clear hg
      have HN := Lib.hid (show ∀ i, i < j + 1 → 0 ≤ zs.getD i 0 ∧ zs.getD i 0 ≤ 16777215 from fun i hi => by
       by_cases e : i = j
       · subst e; rw [HZ.out]; omega
       · exact hall i (by omega))
      clear hall
      cases s
      · go_wp2
        go_roundw
        case rel => exact ⟨j + 1, by omega, by rw [HS1.out]; rfl, by go_num, trivial, HN⟩
        case measure => simp [intOf]; omega
      · go_wp2
        go_roundw
        case rel => exact ⟨j + 1, by omega, by rw [HS1.out]; rfl, by go_num, trivial, HN⟩
        case measure => simp [intOf]; omega
    · obtain rfl : j = n := by omega
      have he := HEND.out HALL.out
      obtain ⟨s, hs⟩ : ∃ s, someT zs j = s := ⟨_, rfl⟩
      rw [hs] at he ⊢
      have HE := Lib.hid he
      clear he hs
      cases s
      · go_wp2
        go_ret
        exact ⟨by rw [HE.out]; rfl, Below.refl _ _⟩
      · go_wp2
        go_ret
        exact ⟨by rw [HE.out]; rfl, Below.refl _ _⟩
 · have e : chkT zs k = 13 := chkT_no fun h => hb ⟨h.1, h.2.1, by have := h.2.2.1; omega, by have := h.2.2.2.1; omega⟩
   rw [e]
   clear e
   by_cases h1 : k < 1
   · go_enter Tryz.func32, Tryz.ntmps32
     go_wp2
     go_ret
     exact ⟨rfl, Below.refl _ _⟩
   by_cases h2 : 65536 < k
   · go_enter Tryz.func32, Tryz.ntmps32
     go_wp2
     go_ret
     exact ⟨rfl, Below.refl _ _⟩
   by_cases h3 : n < 1
   · obtain rfl : n = 0 := by omega
     go_enter Tryz.func32, Tryz.ntmps32
     go_wp2
     go_ret
     exact ⟨rfl, Below.refl _ _⟩
   have h4 : k < (n : Int) := by omega
   clear hb
   go_enter Tryz.func32, Tryz.ntmps32
   go_wp2
   go_ret
   exact ⟨rfl, Below.refl _ _⟩
set_option maxRecDepth 100000 in
theorem total1_any (b : Nat) (s x : Int) (w : World) (hc : w.cell? ⟨b, 0, none⟩ = some (.int .i64 s)) (hf : w.frozen? ⟨b, 0, none⟩ = false) :
 Calls Tryz.prog 70 #[.int .i64 x, .pointer (some ⟨b, 0, none⟩)] w fun e w' => e = .returned (.tuple #[]) ∧ w' = w.setCell ⟨b, 0, none⟩ (.int .i64 (wrap64 (s + x))) := by
 go_enter Tryz.func70, Tryz.ntmps70
 go_wp2
 go_end0
 exact ⟨rfl, rfl⟩
theorem pr_pos {x : Int} {y : Nat} (hy : 0 < y) : mkRat (sg (neg x != neg (y : Int)) x.natAbs) (y : Int).natAbs = mkRat x y := by
 have h1 : neg (y : Int) = false := decide_eq_false (by omega)
 have h2 : sg (neg x) x.natAbs = x := by
  have h := sg_canon x
  rwa [val_digs] at h
 rw [h1, Bool.bne_false, h2, Int.natAbs_natCast]
end Go.Proofs.YtlkoenpdmlbhlaaGreat
