/- soliton, first part: Check, Total, pair, the shares. -/
import Derived.Test.YtlkoenpdmlbhlaaLaw05b
import Derived.Test.YtlkoenpdmlbhlaaInts
import Derived.Test.YtlkoenpdmlbhlaaReg5
set_option linter.unusedVariables false
set_option linter.unusedSimpArgs false
namespace Go.Proofs.Ytlkoenpdmlbhlaa
open Go.RowKit

/-- is a list a table of k? -/
def okT (zs : List Int) (k : Int) : Prop := 1 ≤ k ∧ k ≤ 65536 ∧ 1 ≤ zs.length ∧ (zs.length : Int) ≤ k ∧ (∀ z ∈ zs, 0 ≤ z ∧ z ≤ 16777215) ∧ ∃ z ∈ zs, 0 < z
instance (zs : List Int) (k : Int) : Decidable (okT zs k) := by unfold okT; infer_instance
def chkT (zs : List Int) (k : Int) : Int := if okT zs k then 0 else 13
theorem chkT_no {zs : List Int} {k : Int} (h : ¬ okT zs k) : chkT zs k = 13 := if_neg h
theorem chkT_yes {zs : List Int} {k : Int} (h : okT zs k) : chkT zs k = 0 := if_pos h
theorem chkT_iff {zs : List Int} {k : Int} : chkT zs k = 0 ↔ okT zs k := by
  unfold chkT
  split <;> simp [*]
/-- one of the first j is above 0 -/
def someT (zs : List Int) (j : Nat) : Bool := (zs.take j).any fun z => decide (0 < z)
theorem someT_succ {zs : List Int} {j : Nat} (h : j < zs.length) : someT zs (j + 1) = (someT zs j || decide (0 < zs.getD j 0)) := by
  unfold someT
  rw [List.take_add_one, List.any_append, List.getD_eq_getElem?_getD, List.getElem?_eq_getElem h]
  simp
theorem getD_mem' {zs : List Int} {j : Nat} (h : j < zs.length) : zs.getD j 0 ∈ zs := by
  rw [List.getD_eq_getElem?_getD, List.getElem?_eq_getElem h]
  exact List.getElem_mem h
/-- the sum, as ints are added -/
def sumW (zs : List Int) : Nat → Int
  | 0 => 0
  | j + 1 => wrap64 (sumW zs j + zs.getD j 0)

set_option maxRecDepth 100000 in
set_option maxHeartbeats 4000000 in
theorem soliCheck_any (a : Option Addr) (n c : Nat) (zs : List Int) (k : Int) (w : World) (g : IntsAt w a n c zs) :
    Calls Try.prog 20 #[.slice a n c, .int .i64 k] w (RetVal w (.int .i64 (chkT zs k))) := by
  have hcle := g.cle
  have hle := g.le
  have hlen := g.len
  have hm : n ≤ 9223372036854775807 := by unfold maxLen at hcle; omega
  by_cases hb : 1 ≤ k ∧ k ≤ 65536 ∧ 1 ≤ n ∧ (n : Int) ≤ k
  · obtain ⟨h1, h2, h3, h4⟩ := hb
    have hgo : ∀ j, j < n → (0 ≤ zs.getD j 0 ∧ zs.getD j 0 ≤ 16777215) ∨ chkT zs k = 13 := fun j hj => by
      by_cases hz : 0 ≤ zs.getD j 0 ∧ zs.getD j 0 ≤ 16777215
      · exact .inl hz
      · exact .inr (chkT_no fun h => hz (h.2.2.2.2.1 _ (getD_mem' (by omega))))
    have hend : (∀ j, j < n → 0 ≤ zs.getD j 0 ∧ zs.getD j 0 ≤ 16777215) → chkT zs k = if someT zs n = true then 0 else 13 := fun hall => by
      have hiff : okT zs k ↔ someT zs n = true := by
        constructor
        · intro h
          unfold someT
          rw [← hlen, List.take_length, List.any_eq_true]
          obtain ⟨z, hz, h0⟩ := h.2.2.2.2.2
          exact ⟨z, hz, decide_eq_true h0⟩
        · intro h
          refine ⟨h1, h2, by omega, by omega, fun z hz => ?_, ?_⟩
          · obtain ⟨i, hi, rfl⟩ := List.getElem_of_mem hz
            have := hall i (by omega)
            rwa [List.getD_eq_getElem?_getD, List.getElem?_eq_getElem hi] at this
          · unfold someT at h
            rw [← hlen, List.take_length, List.any_eq_true] at h
            obtain ⟨z, hz, h0⟩ := h
            exact ⟨z, hz, of_decide_eq_true h0⟩
      unfold chkT
      simp only [hiff]
    have hs := fun j (hj : j < n) => someT_succ (zs := zs) (j := j) (by omega)
    obtain ⟨R, hR⟩ : ∃ R, chkT zs k = R := ⟨_, rfl⟩
    rw [hR] at hend ⊢
    have HGO := Lib.hid hgo
    have HEND := Lib.hid hend
    have HS := Lib.hid hs
    have HR := Lib.hid hR
    have g0 := g
    clear hgo hend hs hR g
    go_enter Try.func20, Try.ntmps20
    go_wp2
    go_loopw [5, 7, 27] (fun s x i wr => ∃ (j : Nat), j ≤ n ∧ s = .bool (someT zs j) ∧ i = .int .i64 (j : Int) ∧ wr = w ∧ Hid (∀ i, i < j → 0 ≤ zs.getD i 0 ∧ zs.getD i 0 ≤ 16777215)) (fun s x i _ => n - (intOf i).toNat)
    case atStart => exact ⟨0, Nat.zero_le _, rfl, rfl, rfl, Lib.hid fun i hi => absurd hi (Nat.not_lt_zero i)⟩
    case round =>
      obtain ⟨j, hj, rfl, rfl, rfl, HALL⟩ := hrel
      by_cases hlt : j < n
      · rcases g0.cell with h0 | ⟨b, o, rfl, hbl, hc⟩
        · omega
        have q := hc j hlt
        have hs1 := HS.out j hlt
        have hg := HGO.out j hlt
        have hall := HALL.out
        obtain ⟨z, hz⟩ : ∃ z, zs.getD j 0 = z := ⟨_, rfl⟩
        rw [hz] at q hs1 hg
        obtain ⟨s, hs⟩ : ∃ s, someT zs j = s := ⟨_, rfl⟩
        rw [hs] at hs1 ⊢
        have HS1 := Lib.hid hs1
        have HZ := Lib.hid hz
        clear hc hs1 hz hs
        by_cases hz1 : z < 0
        · have e : R = 13 := (hg.resolve_left (by omega)) ▸ HR.out.symm
          subst e
          clear hg
          go_wp2
          go_ret
          exact ⟨rfl, Below.refl _ _⟩
        by_cases hz2 : 16777215 < z
        · have e : R = 13 := (hg.resolve_left (by omega)) ▸ HR.out.symm
          subst e
          clear hg
          go_wp2
          go_ret
          exact ⟨rfl, Below.refl _ _⟩
        clear hg
        have HN := Lib.hid (show ∀ i, i < j + 1 → 0 ≤ zs.getD i 0 ∧ zs.getD i 0 ≤ 16777215 from fun i hi => by
          by_cases e : i = j
          · subst e; rw [HZ.out]; omega
          · exact hall i (by omega))
        clear hall
        cases s
        · go_wp2
          go_roundw
          case rel => exact ⟨j + 1, by omega, by rw [HS1.out]; rfl, by go_num, trivial, HN⟩
          case measure => simp [intOf]; omega
        · go_wp2
          go_roundw
          case rel => exact ⟨j + 1, by omega, by rw [HS1.out]; rfl, by go_num, trivial, HN⟩
          case measure => simp [intOf]; omega
      · obtain rfl : j = n := by omega
        have he := HEND.out HALL.out
        obtain ⟨s, hs⟩ : ∃ s, someT zs j = s := ⟨_, rfl⟩
        rw [hs] at he ⊢
        have HE := Lib.hid he
        clear he hs
        cases s
        · go_wp2
          go_ret
          exact ⟨by rw [HE.out]; rfl, Below.refl _ _⟩
        · go_wp2
          go_ret
          exact ⟨by rw [HE.out]; rfl, Below.refl _ _⟩
  · have e : chkT zs k = 13 := chkT_no fun h => hb ⟨h.1, h.2.1, by have := h.2.2.1; omega, by have := h.2.2.2.1; omega⟩
    rw [e]
    clear e
    by_cases h1 : k < 1
    · go_enter Try.func20, Try.ntmps20
      go_wp2
      go_ret
      exact ⟨rfl, Below.refl _ _⟩
    by_cases h2 : 65536 < k
    · go_enter Try.func20, Try.ntmps20
      go_wp2
      go_ret
      exact ⟨rfl, Below.refl _ _⟩
    by_cases h3 : n < 1
    · obtain rfl : n = 0 := by omega
      go_enter Try.func20, Try.ntmps20
      go_wp2
      go_ret
      exact ⟨rfl, Below.refl _ _⟩
    have h4 : k < (n : Int) := by omega
    clear hb
    go_enter Try.func20, Try.ntmps20
    go_wp2
    go_ret
    exact ⟨rfl, Below.refl _ _⟩

set_option maxRecDepth 100000 in
theorem total1_any (b : Nat) (s x : Int) (w : World) (hc : w.cell? ⟨b, 0, none⟩ = some (.int .i64 s)) (hf : w.frozen? ⟨b, 0, none⟩ = false) :
    Calls Try.prog 41 #[.int .i64 x, .pointer (some ⟨b, 0, none⟩)] w fun e w' => e = .returned (.tuple #[]) ∧ w' = w.setCell ⟨b, 0, none⟩ (.int .i64 (wrap64 (s + x))) := by
  go_enter Try.func41, Try.ntmps41
  go_wp2
  go_end0
  exact ⟨rfl, rfl⟩

theorem pr_pos {x : Int} {y : Nat} (hy : 0 < y) : mkRat (sg (neg x != neg (y : Int)) x.natAbs) (y : Int).natAbs = mkRat x y := by
  have h1 : neg (y : Int) = false := decide_eq_false (by omega)
  have h2 : sg (neg x) x.natAbs = x := by
    have h := sg_canon x
    rwa [val_digs] at h
  rw [h1, Bool.bne_false, h2, Int.natAbs_natCast]

set_option maxRecDepth 100000 in
set_option maxHeartbeats 4000000 in
theorem soliPair_any (x : Int) (y : Nat) (w : World) (hx : -9223372036854775808 ≤ x ∧ x ≤ 9223372036854775807) (hy : 0 < y) (hy2 : y ≤ 9223372036854775807) :
    Calls Try.prog 67 #[.int .i64 x, .int .i64 (y : Int)] w (RetRat w (mkRat x y)) := by
  have hp := fun w => pair_ok (x := x) (y := (y : Int)) (q := mkRat x y) (by omega) (pr_pos hy) w hx (by omega)
  have HP := Lib.hid hp
  obtain ⟨Q, hQ⟩ : ∃ Q, mkRat x y = Q := ⟨_, rfl⟩
  rw [hQ] at HP ⊢
  clear hp hQ
  go_enter Try.func67, Try.ntmps67
  have hB := Below.refl w.heap.size w
  go_wp2_with fail
  obtain ⟨w1, hW, hz0, hb, q, f⟩ := box1g w (w.heap.size) (by omega) #[.bool false, .slice none 0 0, .slice none 0 0] 36
  rw [hW]
  clear hW
  have hB := below_later hB hb
  clear hb
  have lr : w.heap.size < w1.heap.size := by omega
  have qr0 := q 0; have qr1 := q 1; have qr2 := q 2
  simp only [List.getElem?_toArray, List.getElem?_cons_zero, List.getElem?_cons_succ] at qr0 qr1 qr2
  have xr : BoxAt w1 (w.heap.size) 3 := BoxAt.of q f rfl (by simp [notU_bool, notU_slice, notU_i64])
  clear q f
  clear hz0
  with_reducible refine (HP.out _).mono ?_
  rintro e w2 ⟨ahAU, nhAU, chAU, ahAD, nhAD, chAD, rfl, hAU, hAD, hb⟩
  have hAU := hAU.mono hB.size
  have hAD := hAD.mono hB.size
  have qr0 := bq hb lr qr0; have qr1 := bq hb lr qr1; have qr2 := bq hb lr qr2
  have xr := xr.past hb lr
  have lr := bl hb lr
  have hB := below_later hB hb
  clear hb
  have zf0 := xr.f 0 (by decide)
  have zf1 := xr.f 1 (by decide)
  have zf2 := xr.f 2 (by decide)
  go_wp2
  have zf0 := xr.f 0 (by decide)
  have zf1 := xr.f 1 (by decide)
  have zf2 := xr.f 2 (by decide)
  obtain ⟨w3, hW, hO, qN0, qN1, qN2, xN⟩ := store3 xr (.bool (neg (Q).num)) (.slice ahAU nhAU chAU) (.slice ahAD nhAD chAD) (nu rfl) (nu rfl) (nu rfl)
  try rw [hW]
  clear hW
  have hAU := hO.own hAU
  have hAD := hO.own hAD
  have lr : w.heap.size < w3.heap.size := by rw [hO.size]; exact lr
  have qr0 := qN0
  have qr1 := qN1
  have qr2 := qN2
  have xr := xN
  have hB := hO.below (by omega) hB
  clear hO qN0 qN1 qN2 xN zf0 zf1 zf2
  obtain ⟨w4, hW, hz0, hb, q, f⟩ := box1g w3 (w3.heap.size) (by omega) #[.bool (neg (Q).num), .slice ahAU nhAU chAU, .slice ahAD nhAD chAD] 36
  rw [hW]
  clear hW
  have hAU := hAU.past hb
  have hAD := hAD.past hb
  have qr0 := bq hb lr qr0; have qr1 := bq hb lr qr1; have qr2 := bq hb lr qr2
  have xr := xr.past hb lr
  have lr := bl hb lr
  have hB := below_later hB hb
  clear hb
  have lx : w3.heap.size < w4.heap.size := by omega
  have qx0 := q 0; have qx1 := q 1; have qx2 := q 2
  simp only [List.getElem?_toArray, List.getElem?_cons_zero, List.getElem?_cons_succ] at qx0 qx1 qx2
  clear q f
  clear hz0
  refine bodyPost_ret (v := .agg #[.bool (neg Q.num), .slice ahAU nhAU chAU, .slice ahAD nhAD chAD]) ?_ rfl ⟨_, _, _, _, _, _, rfl, hAU, hAD, hB⟩
  simp [results, Try.f67, go_sem, qr0, qr1, qr2]
theorem soliZero (w : World) : Calls Try.prog 67 #[.int .i64 0, .int .i64 1] w (RetRat w 0) := by
  have h := soliPair_any 0 1 w (by decide) (by decide) (by decide)
  rwa [show mkRat 0 1 = 0 by simp] at h
/-- the shares -/
def idealR (k d : Nat) : Rat := if d = 1 then mkRat 1 k else mkRat 1 (d * (d - 1))
def spikeR (s : Nat) (m : Rat) (d : Nat) : Rat := if d < s then mkRat 1 (d * s) else if d = s then m else 0
theorem soliIdeal_any (k : Int) (w : World) :
    Calls Try.prog 40 #[.int .i64 k] w fun e w' => e = .returned (.func (.func 70) #[] #[.pointer (some ⟨w.heap.size, 0, none⟩)]) ∧ w.alloc (.cells #[.int .i64 k] 3) = w' := by
  go_enter Try.func40, Try.ntmps40
  go_wp2
  go_ret
  exact ⟨rfl, rfl⟩
theorem soliSpiked_any (s : Int) (r0 r1 r2 : Value) (w : World) :
    Calls Try.prog 44 #[.int .i64 s, .agg #[r0, r1, r2]] w fun e w' => e = .returned (.func (.func 76) #[] #[.pointer (some ⟨w.heap.size, 0, none⟩), .pointer (some ⟨w.heap.size + 1, 0, none⟩)]) ∧ (w.alloc (.cells #[.int .i64 s] 3)).alloc (.cells #[r0, r1, r2] 36) = w' := by
  go_enter Try.func44, Try.ntmps44
  go_wp2
  go_ret
  exact ⟨rfl, rfl⟩
/-- a fraction that is told, in whatever memory -/
def RetRatN (w : World) (q : Rat) (e : Ending) (w' : World) : Prop :=
  ∃ a n c a2 n2 c2, e = .returned (.agg #[.bool (neg q.num), .slice a n c, .slice a2 n2 c2]) ∧ NatAt w' a n c (digs q.num.natAbs) ∧ NatAt w' a2 n2 c2 (digs q.den) ∧ Below w.heap.size w w'

set_option maxRecDepth 100000 in
set_option maxHeartbeats 4000000 in
theorem ideal1_one (k b : Nat) (w : World) (hk : 0 < k) (hk2 : k ≤ 65536) (hl : b < w.heap.size) (hc : w.cell? ⟨b, 0, none⟩ = some (.int .i64 (k : Int))) :
    Calls Try.prog 70 #[.int .i64 1, .pointer (some ⟨b, 0, none⟩)] w (RetRatN w (mkRat 1 k)) := by
  have lk := hl
  have qk0 := hc
  clear hl hc
  go_enter Try.func70, Try.ntmps70
  have hB := Below.refl w.heap.size w
  go_wp2_with fail
  obtain ⟨w1, hW, hz0, hb, q, f⟩ := box1g w (w.heap.size) (by omega) #[.bool false, .slice none 0 0, .slice none 0 0] 36
  rw [hW]
  clear hW
  have qk0 := bq hb lk qk0
  have lk := bl hb lk
  have hB := below_later hB hb
  clear hb
  have lr : w.heap.size < w1.heap.size := by omega
  have qr0 := q 0; have qr1 := q 1; have qr2 := q 2
  simp only [List.getElem?_toArray, List.getElem?_cons_zero, List.getElem?_cons_succ] at qr0 qr1 qr2
  have xr : BoxAt w1 (w.heap.size) 3 := BoxAt.of q f rfl (by simp [notU_bool, notU_slice, notU_i64])
  clear q f
  clear hz0
  with_reducible refine (soliPair_any 1 k _ (by decide) (by omega) (by omega)).mono ?_
  rintro e w2 ⟨ahAU, nhAU, chAU, ahAD, nhAD, chAD, rfl, hAU, hAD, hb⟩
  have hAU := hAU.mono hB.size
  have hAD := hAD.mono hB.size
  have qk0 := bq hb lk qk0
  have lk := bl hb lk
  have qr0 := bq hb lr qr0; have qr1 := bq hb lr qr1; have qr2 := bq hb lr qr2
  have xr := xr.past hb lr
  have lr := bl hb lr
  have hB := below_later hB hb
  clear hb
  obtain ⟨Q, hQ⟩ : ∃ Q, mkRat 1 k = Q := ⟨_, rfl⟩
  rw [hQ] at hAU hAD ⊢
  have HQ := Lib.hid hQ
  clear hQ
  have zf0 := xr.f 0 (by decide)
  have zf1 := xr.f 1 (by decide)
  have zf2 := xr.f 2 (by decide)
  go_wp2
  obtain ⟨w3, hW, hO, qN0, qN1, qN2, xN⟩ := store3 xr (.bool (neg (Q).num)) (.slice ahAU nhAU chAU) (.slice ahAD nhAD chAD) (nu rfl) (nu rfl) (nu rfl)
  try rw [hW]
  clear hW
  have hAU := hO.own hAU
  have hAD := hO.own hAD
  have qk0 := (hO.cell (b2 := b) (k := 0) (by omega)).trans qk0
  have lk : b < w3.heap.size := by rw [hO.size]; exact lk
  have lr : w.heap.size < w3.heap.size := by rw [hO.size]; exact lr
  have qr0 := qN0
  have qr1 := qN1
  have qr2 := qN2
  have xr := xN
  have hB := hO.below (by omega) hB
  clear hO qN0 qN1 qN2 xN zf0 zf1 zf2
  obtain rfl := HQ.out
  refine bodyPost_ret (v := .agg #[.bool (neg (mkRat 1 k).num), .slice ahAU nhAU chAU, .slice ahAD nhAD chAD]) ?_ rfl ⟨_, _, _, _, _, _, rfl, hAU.toNatAt, hAD.toNatAt, hB⟩
  simp [results, Try.f70, go_sem, qr0, qr1, qr2]

set_option maxRecDepth 100000 in
set_option maxHeartbeats 4000000 in
theorem ideal1_more (k b : Nat) (d : Nat) (hd : 2 ≤ d) (hd2 : d ≤ 65536) (w : World) (hk : 0 < k) (hk2 : k ≤ 65536) (hl : b < w.heap.size) (hc : w.cell? ⟨b, 0, none⟩ = some (.int .i64 (k : Int))) :
    Calls Try.prog 70 #[.int .i64 (d : Int), .pointer (some ⟨b, 0, none⟩)] w (RetRatN w (mkRat 1 (d * (d - 1)))) := by
  obtain ⟨i, rfl⟩ : ∃ i, d = i + 1 := ⟨d - 1, by omega⟩
  have t0 : (((i + 1 : Nat) : Int) == 1) = false := by rw [beq_eq_false_iff_ne]; omega
  have hm : (i + 1) * i ≤ 65536 * 65536 := Nat.mul_le_mul (by omega) (by omega)
  have hm0 : 0 < (i + 1) * i := Nat.mul_pos (by omega) (by omega)
  have t1 : wrap64 (((i + 1 : Nat) : Int) - 1) = (i : Int) := by unfold wrap64; omega
  have t2 : wrap64 (((i + 1 : Nat) : Int) * (i : Int)) = (((i + 1) * i : Nat) : Int) := by rw [Int.natCast_mul]; unfold wrap64; omega
  rw [Nat.add_sub_cancel]
  obtain ⟨M, hM⟩ : ∃ M, (i + 1) * i = M := ⟨_, rfl⟩
  rw [hM] at hm hm0 t2 ⊢
  obtain ⟨D, hD⟩ : ∃ D : Int, ((i + 1 : Nat) : Int) = D := ⟨_, rfl⟩
  rw [hD] at t0 t1 t2 ⊢
  clear hM hD
  have lk := hl
  have qk0 := hc
  clear hl hc
  go_enter Try.func70, Try.ntmps70
  have hB := Below.refl w.heap.size w
  go_wp2_with fail
  obtain ⟨w1, hW, hz0, hb, q, f⟩ := box1g w (w.heap.size) (by omega) #[.bool false, .slice none 0 0, .slice none 0 0] 36
  rw [hW]
  clear hW
  have qk0 := bq hb lk qk0
  have lk := bl hb lk
  have hB := below_later hB hb
  clear hb
  have lr : w.heap.size < w1.heap.size := by omega
  have qr0 := q 0; have qr1 := q 1; have qr2 := q 2
  simp only [List.getElem?_toArray, List.getElem?_cons_zero, List.getElem?_cons_succ] at qr0 qr1 qr2
  have xr : BoxAt w1 (w.heap.size) 3 := BoxAt.of q f rfl (by simp [notU_bool, notU_slice, notU_i64])
  clear q f
  clear hz0
  with_reducible refine (soliPair_any 1 M _ (by decide) (by omega) (by omega)).mono ?_
  rintro e w2 ⟨ahAU, nhAU, chAU, ahAD, nhAD, chAD, rfl, hAU, hAD, hb⟩
  have hAU := hAU.mono hB.size
  have hAD := hAD.mono hB.size
  have qk0 := bq hb lk qk0
  have lk := bl hb lk
  have qr0 := bq hb lr qr0; have qr1 := bq hb lr qr1; have qr2 := bq hb lr qr2
  have xr := xr.past hb lr
  have lr := bl hb lr
  have hB := below_later hB hb
  clear hb
  obtain ⟨Q, hQ⟩ : ∃ Q, mkRat 1 M = Q := ⟨_, rfl⟩
  rw [hQ] at hAU hAD ⊢
  have HQ := Lib.hid hQ
  clear hQ
  have zf0 := xr.f 0 (by decide)
  have zf1 := xr.f 1 (by decide)
  have zf2 := xr.f 2 (by decide)
  go_wp2
  obtain ⟨w3, hW, hO, qN0, qN1, qN2, xN⟩ := store3 xr (.bool (neg (Q).num)) (.slice ahAU nhAU chAU) (.slice ahAD nhAD chAD) (nu rfl) (nu rfl) (nu rfl)
  try rw [hW]
  clear hW
  have hAU := hO.own hAU
  have hAD := hO.own hAD
  have qk0 := (hO.cell (b2 := b) (k := 0) (by omega)).trans qk0
  have lk : b < w3.heap.size := by rw [hO.size]; exact lk
  have lr : w.heap.size < w3.heap.size := by rw [hO.size]; exact lr
  have qr0 := qN0
  have qr1 := qN1
  have qr2 := qN2
  have xr := xN
  have hB := hO.below (by omega) hB
  clear hO qN0 qN1 qN2 xN zf0 zf1 zf2
  obtain rfl := HQ.out
  refine bodyPost_ret (v := .agg #[.bool (neg (mkRat 1 M).num), .slice ahAU nhAU chAU, .slice ahAD nhAD chAD]) ?_ rfl ⟨_, _, _, _, _, _, rfl, hAU.toNatAt, hAD.toNatAt, hB⟩
  simp [results, Try.f70, go_sem, qr0, qr1, qr2]

theorem ideal1_any (k b d : Nat) (w : World) (hk : 0 < k) (hk2 : k ≤ 65536) (hd : 1 ≤ d) (hd2 : d ≤ 65536) (hl : b < w.heap.size) (hc : w.cell? ⟨b, 0, none⟩ = some (.int .i64 (k : Int))) :
    Calls Try.prog 70 #[.int .i64 (d : Int), .pointer (some ⟨b, 0, none⟩)] w (RetRatN w (idealR k d)) := by
  unfold idealR
  by_cases h1 : d = 1
  · subst h1
    rw [if_pos rfl]
    exact ideal1_one k b w hk hk2 hl hc
  · rw [if_neg h1]
    exact ideal1_more k b d (by omega) hd2 w hk hk2 hl hc

set_option maxRecDepth 100000 in
set_option maxHeartbeats 4000000 in
theorem spiked1_lt (s d b2 b3 : Nat) (m : Rat) (a1 : Option Addr) (n1 c1 : Nat) (a2 : Option Addr) (n2 c2 : Nat) (w : World) (hs : 1 ≤ s) (hs2 : s ≤ 65536) (hd : 1 ≤ d) (hd2 : d ≤ 65536) (l2 : b2 < w.heap.size) (l3 : b3 < w.heap.size) (hc : w.cell? ⟨b2, 0, none⟩ = some (.int .i64 (s : Int))) (q0 : w.cell? ⟨b3, 0, none⟩ = some (.bool (neg m.num))) (q1 : w.cell? ⟨b3, 1, none⟩ = some (.slice a1 n1 c1)) (q2 : w.cell? ⟨b3, 2, none⟩ = some (.slice a2 n2 c2)) (g1 : NatAt w a1 n1 c1 (digs m.num.natAbs)) (g2 : NatAt w a2 n2 c2 (digs m.den)) (h : d < s) :
    Calls Try.prog 76 #[.int .i64 (d : Int), .pointer (some ⟨b2, 0, none⟩), .pointer (some ⟨b3, 0, none⟩)] w (RetRatN w (mkRat 1 (d * s))) := by
  have lq := l2
  have qq0 := hc
  have lm := l3
  have qm0 := q0
  have qm1 := q1
  have qm2 := q2
  clear l2 hc l3 q0 q1 q2
  have hm : d * s ≤ 65536 * 65536 := Nat.mul_le_mul (by omega) (by omega)
  have hm0 : 0 < d * s := Nat.mul_pos (by omega) (by omega)
  have t2 : wrap64 ((d : Int) * (s : Int)) = ((d * s : Nat) : Int) := by rw [Int.natCast_mul]; unfold wrap64; omega
  obtain ⟨M, hM⟩ : ∃ M, d * s = M := ⟨_, rfl⟩
  rw [hM] at hm hm0 t2 ⊢
  clear hM
  go_enter Try.func76, Try.ntmps76
  have hB := Below.refl w.heap.size w
  go_wp2_with fail
  obtain ⟨w1, hW, hz0, hb, q, f⟩ := box1g w (w.heap.size) (by omega) #[.bool false, .slice none 0 0, .slice none 0 0] 36
  rw [hW]
  clear hW
  have g1 := g1.past hb
  have g2 := g2.past hb
  have qq0 := bq hb lq qq0
  have lq := bl hb lq
  have qm0 := bq hb lm qm0; have qm1 := bq hb lm qm1; have qm2 := bq hb lm qm2
  have lm := bl hb lm
  have hB := below_later hB hb
  clear hb
  have lr : w.heap.size < w1.heap.size := by omega
  have qr0 := q 0; have qr1 := q 1; have qr2 := q 2
  simp only [List.getElem?_toArray, List.getElem?_cons_zero, List.getElem?_cons_succ] at qr0 qr1 qr2
  have xr : BoxAt w1 (w.heap.size) 3 := BoxAt.of q f rfl (by simp [notU_bool, notU_slice, notU_i64])
  clear q f
  clear hz0
  with_reducible refine (soliPair_any 1 M _ (by decide) (by omega) (by omega)).mono ?_
  rintro e w2 ⟨ahAU, nhAU, chAU, ahAD, nhAD, chAD, rfl, hAU, hAD, hb⟩
  have hAU := hAU.mono hB.size
  have hAD := hAD.mono hB.size
  have g1 := g1.past hb
  have g2 := g2.past hb
  have qq0 := bq hb lq qq0
  have lq := bl hb lq
  have qm0 := bq hb lm qm0; have qm1 := bq hb lm qm1; have qm2 := bq hb lm qm2
  have lm := bl hb lm
  have qr0 := bq hb lr qr0; have qr1 := bq hb lr qr1; have qr2 := bq hb lr qr2
  have xr := xr.past hb lr
  have lr := bl hb lr
  have hB := below_later hB hb
  clear hb
  obtain ⟨Q, hQ⟩ : ∃ Q, mkRat 1 M = Q := ⟨_, rfl⟩
  rw [hQ] at hAU hAD ⊢
  have HQ := Lib.hid hQ
  clear hQ
  have zf0 := xr.f 0 (by decide)
  have zf1 := xr.f 1 (by decide)
  have zf2 := xr.f 2 (by decide)
  go_wp2
  obtain ⟨w3, hW, hO, qN0, qN1, qN2, xN⟩ := store3 xr (.bool (neg (Q).num)) (.slice ahAU nhAU chAU) (.slice ahAD nhAD chAD) (nu rfl) (nu rfl) (nu rfl)
  try rw [hW]
  clear hW
  have g1 := hO.nat g1
  have g2 := hO.nat g2
  have hAU := hO.own hAU
  have hAD := hO.own hAD
  have qq0 := (hO.cell (b2 := b2) (k := 0) (by omega)).trans qq0
  have lq : b2 < w3.heap.size := by rw [hO.size]; exact lq
  have qm0 := (hO.cell (b2 := b3) (k := 0) (by omega)).trans qm0
  have qm1 := (hO.cell (b2 := b3) (k := 1) (by omega)).trans qm1
  have qm2 := (hO.cell (b2 := b3) (k := 2) (by omega)).trans qm2
  have lm : b3 < w3.heap.size := by rw [hO.size]; exact lm
  have lr : w.heap.size < w3.heap.size := by rw [hO.size]; exact lr
  have qr0 := qN0
  have qr1 := qN1
  have qr2 := qN2
  have xr := xN
  have hB := hO.below (by omega) hB
  clear hO qN0 qN1 qN2 xN zf0 zf1 zf2
  obtain rfl := HQ.out
  refine bodyPost_ret (v := .agg #[.bool (neg (mkRat 1 M).num), .slice ahAU nhAU chAU, .slice ahAD nhAD chAD]) ?_ rfl ⟨_, _, _, _, _, _, rfl, hAU.toNatAt, hAD.toNatAt, hB⟩
  simp [results, Try.f76, go_sem, qr0, qr1, qr2]

set_option maxRecDepth 100000 in
set_option maxHeartbeats 4000000 in
theorem spiked1_eq (s d b2 b3 : Nat) (m : Rat) (a1 : Option Addr) (n1 c1 : Nat) (a2 : Option Addr) (n2 c2 : Nat) (w : World) (hs : 1 ≤ s) (hs2 : s ≤ 65536) (hd : 1 ≤ d) (hd2 : d ≤ 65536) (l2 : b2 < w.heap.size) (l3 : b3 < w.heap.size) (hc : w.cell? ⟨b2, 0, none⟩ = some (.int .i64 (s : Int))) (q0 : w.cell? ⟨b3, 0, none⟩ = some (.bool (neg m.num))) (q1 : w.cell? ⟨b3, 1, none⟩ = some (.slice a1 n1 c1)) (q2 : w.cell? ⟨b3, 2, none⟩ = some (.slice a2 n2 c2)) (g1 : NatAt w a1 n1 c1 (digs m.num.natAbs)) (g2 : NatAt w a2 n2 c2 (digs m.den)) (h : d = s) :
    Calls Try.prog 76 #[.int .i64 (d : Int), .pointer (some ⟨b2, 0, none⟩), .pointer (some ⟨b3, 0, none⟩)] w (RetRatN w (m)) := by
  have lq := l2
  have qq0 := hc
  have lm := l3
  have qm0 := q0
  have qm1 := q1
  have qm2 := q2
  clear l2 hc l3 q0 q1 q2
  subst h
  go_enter Try.func76, Try.ntmps76
  have hB := Below.refl w.heap.size w
  go_wp2
  obtain ⟨w1, hW, hz0, hb, q, f⟩ := box1g w (w.heap.size) (by omega) #[.bool (neg m.num), .slice a1 n1 c1, .slice a2 n2 c2] 36
  rw [hW]
  clear hW
  have g1 := g1.past hb
  have g2 := g2.past hb
  have qq0 := bq hb lq qq0
  have lq := bl hb lq
  have qm0 := bq hb lm qm0; have qm1 := bq hb lm qm1; have qm2 := bq hb lm qm2
  have lm := bl hb lm
  have hB := below_later hB hb
  clear hb
  have lr : w.heap.size < w1.heap.size := by omega
  have qr0 := q 0; have qr1 := q 1; have qr2 := q 2
  simp only [List.getElem?_toArray, List.getElem?_cons_zero, List.getElem?_cons_succ] at qr0 qr1 qr2
  have xr : BoxAt w1 (w.heap.size) 3 := BoxAt.of q f rfl (by simp [notU_bool, notU_slice, notU_i64])
  clear q f
  clear hz0
  refine bodyPost_ret (v := .agg #[.bool (neg m.num), .slice a1 n1 c1, .slice a2 n2 c2]) ?_ rfl ⟨_, _, _, _, _, _, rfl, g1, g2, hB⟩
  simp [results, Try.f76, go_sem, qr0, qr1, qr2]

set_option maxRecDepth 100000 in
set_option maxHeartbeats 4000000 in
theorem spiked1_gt (s d b2 b3 : Nat) (m : Rat) (a1 : Option Addr) (n1 c1 : Nat) (a2 : Option Addr) (n2 c2 : Nat) (w : World) (hs : 1 ≤ s) (hs2 : s ≤ 65536) (hd : 1 ≤ d) (hd2 : d ≤ 65536) (l2 : b2 < w.heap.size) (l3 : b3 < w.heap.size) (hc : w.cell? ⟨b2, 0, none⟩ = some (.int .i64 (s : Int))) (q0 : w.cell? ⟨b3, 0, none⟩ = some (.bool (neg m.num))) (q1 : w.cell? ⟨b3, 1, none⟩ = some (.slice a1 n1 c1)) (q2 : w.cell? ⟨b3, 2, none⟩ = some (.slice a2 n2 c2)) (g1 : NatAt w a1 n1 c1 (digs m.num.natAbs)) (g2 : NatAt w a2 n2 c2 (digs m.den)) (h : s < d) :
    Calls Try.prog 76 #[.int .i64 (d : Int), .pointer (some ⟨b2, 0, none⟩), .pointer (some ⟨b3, 0, none⟩)] w (RetRatN w ((0 : Rat))) := by
  have lq := l2
  have qq0 := hc
  have lm := l3
  have qm0 := q0
  have qm1 := q1
  have qm2 := q2
  clear l2 hc l3 q0 q1 q2
  go_enter Try.func76, Try.ntmps76
  have hB := Below.refl w.heap.size w
  go_wp2_with fail
  obtain ⟨w1, hW, hz0, hb, q, f⟩ := box1g w (w.heap.size) (by omega) #[.bool false, .slice none 0 0, .slice none 0 0] 36
  rw [hW]
  clear hW
  have g1 := g1.past hb
  have g2 := g2.past hb
  have qq0 := bq hb lq qq0
  have lq := bl hb lq
  have qm0 := bq hb lm qm0; have qm1 := bq hb lm qm1; have qm2 := bq hb lm qm2
  have lm := bl hb lm
  have hB := below_later hB hb
  clear hb
  have lr : w.heap.size < w1.heap.size := by omega
  have qr0 := q 0; have qr1 := q 1; have qr2 := q 2
  simp only [List.getElem?_toArray, List.getElem?_cons_zero, List.getElem?_cons_succ] at qr0 qr1 qr2
  have xr : BoxAt w1 (w.heap.size) 3 := BoxAt.of q f rfl (by simp [notU_bool, notU_slice, notU_i64])
  clear q f
  clear hz0
  with_reducible refine (soliZero _).mono ?_
  rintro e w2 ⟨ahAU, nhAU, chAU, ahAD, nhAD, chAD, rfl, hAU, hAD, hb⟩
  have hAU := hAU.mono hB.size
  have hAD := hAD.mono hB.size
  have g1 := g1.past hb
  have g2 := g2.past hb
  have qq0 := bq hb lq qq0
  have lq := bl hb lq
  have qm0 := bq hb lm qm0; have qm1 := bq hb lm qm1; have qm2 := bq hb lm qm2
  have lm := bl hb lm
  have qr0 := bq hb lr qr0; have qr1 := bq hb lr qr1; have qr2 := bq hb lr qr2
  have xr := xr.past hb lr
  have lr := bl hb lr
  have hB := below_later hB hb
  clear hb
  obtain ⟨Q, hQ⟩ : ∃ Q, (0 : Rat) = Q := ⟨_, rfl⟩
  rw [hQ] at hAU hAD ⊢
  have HQ := Lib.hid hQ
  clear hQ
  have zf0 := xr.f 0 (by decide)
  have zf1 := xr.f 1 (by decide)
  have zf2 := xr.f 2 (by decide)
  go_wp2
  obtain ⟨w3, hW, hO, qN0, qN1, qN2, xN⟩ := store3 xr (.bool (neg (Q).num)) (.slice ahAU nhAU chAU) (.slice ahAD nhAD chAD) (nu rfl) (nu rfl) (nu rfl)
  try rw [hW]
  clear hW
  have g1 := hO.nat g1
  have g2 := hO.nat g2
  have hAU := hO.own hAU
  have hAD := hO.own hAD
  have qq0 := (hO.cell (b2 := b2) (k := 0) (by omega)).trans qq0
  have lq : b2 < w3.heap.size := by rw [hO.size]; exact lq
  have qm0 := (hO.cell (b2 := b3) (k := 0) (by omega)).trans qm0
  have qm1 := (hO.cell (b2 := b3) (k := 1) (by omega)).trans qm1
  have qm2 := (hO.cell (b2 := b3) (k := 2) (by omega)).trans qm2
  have lm : b3 < w3.heap.size := by rw [hO.size]; exact lm
  have lr : w.heap.size < w3.heap.size := by rw [hO.size]; exact lr
  have qr0 := qN0
  have qr1 := qN1
  have qr2 := qN2
  have xr := xN
  have hB := hO.below (by omega) hB
  clear hO qN0 qN1 qN2 xN zf0 zf1 zf2
  obtain rfl := HQ.out
  refine bodyPost_ret (v := .agg #[.bool (neg ((0 : Rat)).num), .slice ahAU nhAU chAU, .slice ahAD nhAD chAD]) ?_ rfl ⟨_, _, _, _, _, _, rfl, hAU.toNatAt, hAD.toNatAt, hB⟩
  simp [results, Try.f76, go_sem, qr0, qr1, qr2]

theorem spiked1_any (s d b2 b3 : Nat) (m : Rat) (a1 : Option Addr) (n1 c1 : Nat) (a2 : Option Addr) (n2 c2 : Nat) (w : World) (hs : 1 ≤ s) (hs2 : s ≤ 65536) (hd : 1 ≤ d) (hd2 : d ≤ 65536) (l2 : b2 < w.heap.size) (l3 : b3 < w.heap.size) (hc : w.cell? ⟨b2, 0, none⟩ = some (.int .i64 (s : Int))) (q0 : w.cell? ⟨b3, 0, none⟩ = some (.bool (neg m.num))) (q1 : w.cell? ⟨b3, 1, none⟩ = some (.slice a1 n1 c1)) (q2 : w.cell? ⟨b3, 2, none⟩ = some (.slice a2 n2 c2)) (g1 : NatAt w a1 n1 c1 (digs m.num.natAbs)) (g2 : NatAt w a2 n2 c2 (digs m.den)) :
    Calls Try.prog 76 #[.int .i64 (d : Int), .pointer (some ⟨b2, 0, none⟩), .pointer (some ⟨b3, 0, none⟩)] w (RetRatN w (spikeR s m d)) := by
  unfold spikeR
  by_cases h : d < s
  · rw [if_pos h]
    exact spiked1_lt s d b2 b3 m _ _ _ _ _ _ w hs hs2 hd hd2 l2 l3 hc q0 q1 q2 g1 g2 h
  · rw [if_neg h]
    by_cases h2 : d = s
    · rw [if_pos h2]
      exact spiked1_eq s d b2 b3 m _ _ _ _ _ _ w hs hs2 hd hd2 l2 l3 hc q0 q1 q2 g1 g2 h2
    · rw [if_neg h2]
      exact spiked1_gt s d b2 b3 m _ _ _ _ _ _ w hs hs2 hd hd2 l2 l3 hc q0 q1 q2 g1 g2 (by omega)

end Go.Proofs.Ytlkoenpdmlbhlaa
