/- the laws of soliton: SolitonMean. -/
import Derived.Test.YtlkoenpdmlbhlaaLaw13c
set_option linter.unusedVariables false
set_option linter.unusedSimpArgs false
namespace Go.Proofs.Ytlkoenpdmlbhlaa
open Go.RowKit

def zerosL (n : Nat) : List Int := outL (fun _ => 0) n 0
def MkV (B n : Nat) (y : Value) (w : World) : Prop := ∃ g, y = .slice (some ⟨g, 0, none⟩) n n ∧ IntsOwn w B g n (zerosL n)
theorem MkV.past {B n : Nat} {y : Value} {w w' : World} (h : MkV B n y w) (hb : Below w.heap.size w w') : MkV B n y w' := by
  obtain ⟨g, e, h1⟩ := h
  exact ⟨g, e, h1.past hb⟩
theorem mk_ne {B n : Nat} {y : Value} {w : World} (h : MkV B n y w) : Value.slice (some ⟨w.heap.size, 0, none⟩) n n ≠ y := by
  obtain ⟨g, rfl, h1⟩ := h
  intro e
  injection e with e
  injection e with e
  injection e with e
  have := h1.hi
  omega
theorem intsOwn_made {w1 w : World} {B n : Nat} (hown : w1.ownsRow B 3 1 (.slice (some ⟨w.heap.size, 0, none⟩) n n) n (madeCells (Value.cells (.int .i64 0)) (n * 1)).toList) (hB : B ≤ w.heap.size) : IntsOwn w1 B w.heap.size n (zerosL n) := by
  have hlt := hown.lt w.heap.size rfl
  refine ⟨outL_len _ _ _, ?_, hB, hlt.2, fun i hi => ?_, fun i => World.ownsRow.frozenAt hown i⟩
  · rcases hown.2 with ⟨h, _⟩ | ⟨g, cap, cur, h1, _, _, h4, h5, _⟩
    · cases h
    · injection h1 with _ h6 h7
      omega
  · rw [World.ownsRow.cellAt hown i (by omega), zerosL, outL_get hi, if_neg (Nat.not_lt_zero i)]
    simp [madeCells, Value.cells, hi, Nat.mod_one]
theorem oper_make {P : Program} (w : World) {o : Oper} {a : Act} {Q : Exit → Act → World → Prop} {K : Act → World → Prop} (l c : Operand) (t : TypeId) (hop : o.op = Op.makeSlice t l c)
    (base : Nat) (e : TypeId) (i : TypeInfo) (z : Value) (size : Nat) (h1 : P.underlying t = some (.slice e)) (h2 : P.info? e = some i) (h3 : i.zero = some z) (h4 : i.size = size)
    (kl kc : IntKind) (L C : Int) (n : Nat) (hl : a.eval l = .int kl L) (hc : a.eval c = .int kc C) (hL : L = (n : Int)) (hC : C = (n : Int)) (b2 : i.bytes * n ≤ 281474976710656) (b3 : n ≤ maxLen) (b4 : base ≤ w.heap.size)
    (hK : ∀ w', w'.ownsRow base e size (.slice (some ⟨w.heap.size, 0, none⟩) n n) n (madeCells z.cells (n * size)).toList → w.grownBy w' none → K (a.put o.dst (.slice (some ⟨w.heap.size, 0, none⟩) n n)) w') :
    Oper.wp P o a w K Q := by
  obtain ⟨w', hrun, r1, r2⟩ := run_make_full (P := P) w base t e i z size h1 h2 h3 h4 kl kc n b2 b3 b4
  subst hL
  subst hC
  unfold Oper.wp
  simp [execOp, hop, hl, hc, hrun, Result.andThen]
  exact hK w' r1 r2
theorem outL_zero (W : Nat → Int) (n : Nat) : outL W n 0 = zerosL n := by simp [outL, zerosL]
/-- halves, and these doubled -/
def hlfW (zs : List Int) (d : Nat) : Int := zs.getD (d - 1) 0 / 2
def twcW (zs : List Int) (d : Nat) : Int := 2 * (zs.getD (d - 1) 0 / 2)
def oneL (n p : Nat) : List Int := (zerosL n).set p 5
theorem zerosL_len (n : Nat) : (zerosL n).length = n := outL_len _ _ _
theorem oneL_len (n p : Nat) : (oneL n p).length = n := by unfold oneL; rw [List.length_set, zerosL_len]
theorem oneL_get {n p i : Nat} (hi : i < n) : (oneL n p).getD i 0 = if i = p then 5 else 0 := by
  unfold oneL
  rw [List.getD_eq_getElem?_getD]
  by_cases e : i = p
  · subst e
    rw [List.getElem?_set_self (by rw [zerosL_len]; exact hi), if_pos rfl]
    rfl
  · have h := outL_get (W := fun _ => 0) (K := n) (j := 0) hi
    rw [List.getElem?_set_ne (fun h => e h.symm), if_neg e, ← List.getD_eq_getElem?_getD]
    unfold zerosL
    rw [h, if_neg (Nat.not_lt_zero i)]
theorem oneL_ok {n p : Nat} (hp : p < n) (hn : n ≤ 60) : okT (oneL n p) 65536 ∧ meanR (oneL n p) = mkRat ((p + 1 : Nat) : Int) 1 := by
  have hl := oneL_len n p
  have hg := fun i (hi : i < n) => oneL_get (p := p) hi
  refine ⟨⟨by decide, by decide, by omega, by omega, fun z hz => ?_, ?_⟩, ?_⟩
  · obtain ⟨i, hi, rfl⟩ := List.getElem_of_mem hz
    have h := hg i (by omega)
    rw [List.getD_eq_getElem?_getD, List.getElem?_eq_getElem hi] at h
    simp only [Option.getD_some] at h
    rw [h]
    split <;> omega
  · refine ⟨(oneL n p).getD p 0, getD_mem' (by omega), ?_⟩
    rw [hg p hp, if_pos rfl]
    decide
  · unfold meanR
    rw [hl]
    exact mean_one (x := 5) (by decide) (by rw [hg p hp, if_pos rfl]) hp (fun i hi hne => by rw [hg i hi, if_neg hne])
theorem tabL_wf {W : Nat → Int} {n : Nat} (h : ∀ i, i < n → 0 ≤ W (i + 1) ∧ W (i + 1) ≤ 16777215) : ∀ z ∈ tabL W n, -9223372036854775808 ≤ z ∧ z ≤ 9223372036854775807 := fun z hz => by
  obtain ⟨i, hi, rfl⟩ := List.mem_map.1 hz
  have := h i (List.mem_range.1 hi)
  omega
theorem oneL_wf (n p : Nat) : ∀ z ∈ oneL n p, -9223372036854775808 ≤ z ∧ z ≤ 9223372036854775807 := fun z hz => by
  obtain ⟨i, hi, rfl⟩ := List.getElem_of_mem hz
  have h := oneL_get (n := n) (p := p) (i := i) (by rw [oneL_len] at hi; exact hi)
  rw [List.getD_eq_getElem?_getD, List.getElem?_eq_getElem hi] at h
  simp only [Option.getD_some] at h
  rw [h]
  split <;> omega
theorem half_twice {zs : List Int} {n : Nat} (hn : n ≤ 60) (hlen : zs.length = n) (h : okT zs 60) :
    (okT (tabL (hlfW zs) n) 65536 ∧ okT (tabL (twcW zs) n) 65536 ∧ meanR (tabL (twcW zs) n) = meanR (tabL (hlfW zs) n)) ∨ (¬ okT (tabL (hlfW zs) n) 65536 ∧ ¬ okT (tabL (twcW zs) n) 65536) := by
  have hin := okT_in h
  rw [hlen] at hin
  have h0 := h.2.2.1
  rw [hlen] at h0
  have hw : ∀ i, i < n → hlfW zs (i + 1) = zs.getD i 0 / 2 := fun i hi => rfl
  have ht : ∀ i, i < n → twcW zs (i + 1) = 2 * (zs.getD i 0 / 2) := fun i hi => rfl
  have hbase : ∀ W : Nat → Int, (∀ i, i < n → 0 ≤ W (i + 1) ∧ W (i + 1) ≤ 16777215) → (okT (tabL W n) 65536 ↔ ∃ i, i < n ∧ 0 < W (i + 1)) := fun W hW => by
    constructor
    · intro hk
      obtain ⟨z, hz, hp⟩ := hk.2.2.2.2.2
      obtain ⟨i, hi, rfl⟩ := List.mem_map.1 hz
      exact ⟨i, List.mem_range.1 hi, hp⟩
    · intro ⟨i, hi, hp⟩
      refine ⟨by decide, by decide, by rw [tabL_len]; exact h0, by rw [tabL_len]; omega, fun z hz => ?_, _, List.mem_map.2 ⟨i, List.mem_range.2 hi, rfl⟩, hp⟩
      obtain ⟨j, hj, rfl⟩ := List.mem_map.1 hz
      exact hW j (List.mem_range.1 hj)
  have b1 := hbase (hlfW zs) (fun i hi => by rw [hw i hi]; have := hin i hi; omega)
  have b2 := hbase (twcW zs) (fun i hi => by rw [ht i hi]; have := hin i hi; omega)
  have e12 : (∃ i, i < n ∧ 0 < twcW zs (i + 1)) ↔ ∃ i, i < n ∧ 0 < hlfW zs (i + 1) := by
    constructor
    · rintro ⟨i, hi, hp⟩
      rw [ht i hi] at hp
      exact ⟨i, hi, by rw [hw i hi]; omega⟩
    · rintro ⟨i, hi, hp⟩
      rw [hw i hi] at hp
      exact ⟨i, hi, by rw [ht i hi]; omega⟩
  by_cases hk : okT (tabL (hlfW zs) n) 65536
  · refine .inl ⟨hk, b2.2 (e12.2 (b1.1 hk)), ?_⟩
    have hp := okT_pos hk
    rw [tabL_len] at hp
    unfold meanR
    rw [tabL_len, tabL_len]
    have e : meanF (fun i => (tabL (twcW zs) n).getD i 0) n = meanF (fun i => 2 * (tabL (hlfW zs) n).getD i 0) n := by
      have hco : ∀ i, i < n → (fun i => (tabL (twcW zs) n).getD i 0) i = (fun i => 2 * (tabL (hlfW zs) n).getD i 0) i := fun i hi => by
        show (tabL (twcW zs) n).getD i 0 = 2 * (tabL (hlfW zs) n).getD i 0
        rw [tabL_get hi, tabL_get hi]
        rfl
      unfold meanF
      rw [upS_congr n hco, totS_congr n hco]
    rw [e]
    exact mean_twice (by omega)
  · exact .inr ⟨hk, fun h2 => hk (b1.2 (e12.1 (b2.1 h2)))⟩
theorem part13_11 (w : World) : Calls Try.prog 16 #[.int .i64 1, .int .i64 1] w (RetRat w (mkRat 1 1)) := part13_any 1 1 w (by decide) (by decide) (by decide)
theorem sign_ge {p q : Rat} (h : q ≤ p) : ¬ (p - q).num.sign < 0 := by
  intro h2
  rcases sgn_any p q with h3 | h3 | h3
  · rw [h3] at h2; exact absurd h2 (by decide)
  · rw [h3] at h2; exact absurd h2 (by decide)
  · exact absurd (sgn_neg1.1 h3) (Rat.not_lt.2 h)
theorem sign_le {p q : Rat} (h : p ≤ q) : ¬ 0 < (p - q).num.sign := by
  intro h2
  rcases sgn_any p q with h3 | h3 | h3
  · exact absurd (sgn_one.1 h3) (Rat.not_lt.2 h)
  · rw [h3] at h2; exact absurd h2 (by decide)
  · rw [h3] at h2; exact absurd h2 (by decide)
theorem sameNil {w : World} : Calls Try.prog 19 #[.agg #[.bool false, .slice none 0 0, .slice none 0 0], .agg #[.bool false, .slice none 0 0, .slice none 0 0]] w (RetVal w (.bool true)) := by
  have h := sameRatio_any false _ _ _ _ _ _ _ _ false _ _ _ _ _ _ _ _ w (NatAt.nil w) (NatAt.nil w) (NatAt.nil w) (NatAt.nil w)
  rwa [eqR_same] at h
theorem mkR_len {p : Nat} (h : p ≤ 1000) : rlen (mkRat (p : Int) 1) ≤ 1 := n_rlen_small (by decide) (by omega) (by decide)
theorem meanR_len {zs : List Int} (hz : zs.length ≤ 60) (h : okT zs 65536) : rlen (meanR zs) ≤ 1 := by
  have h1 := upS_in (g := fun i => zs.getD i 0) zs.length fun i hi => (okT_in h i hi).1
  have h2 := totS_in (g := fun i => zs.getD i 0) zs.length fun i hi => okT_in h i hi
  have h3 := okT_pos h
  have h4 : (zs.length : Int) * totS (fun i => zs.getD i 0) zs.length ≤ 60 * (60 * 16777215) := Int.mul_le_mul (by omega) (by omega) h1.2.2 (by decide)
  exact n_rlen_small (by omega) (by omega) (by omega)

set_option maxRecDepth 100000 in
set_option maxHeartbeats 8000000 in
theorem solitonMean_long (a : Option Addr) (n c : Nat) (zs : List Int) (y : Int) (w : World) (g : IntsAt w a n c zs) (hy : -9223372036854775808 ≤ y ∧ y ≤ 9223372036854775807) (hn : ¬ n ≤ 60) :
    Calls Try.prog 9 #[.slice a n c, .int .i64 y] w (RetVal w (.bool true)) := by
  have hcl : n ≤ 9223372036854775807 := by have h1 := g.cle; have h2 := g.le; simp only [maxLen] at h1; omega
  go_enter Try.func9, Try.ntmps9
  have hB := Below.refl w.heap.size w
  go_wp2_with fail
  with_reducible refine (awake13 _).mono ?_
  rintro e w1 ⟨rfl, hb⟩
  have g := g.past hb
  have hB := below_later hB hb
  clear hb
  go_wp2
  go_ret
  exact ⟨rfl, hB⟩

set_option maxRecDepth 100000 in
set_option maxHeartbeats 8000000 in
theorem solitonMean_bad (a : Option Addr) (n c : Nat) (zs : List Int) (y : Int) (w : World) (g : IntsAt w a n c zs) (hy : -9223372036854775808 ≤ y ∧ y ≤ 9223372036854775807) (hn : n ≤ 60) (h : ¬ okT zs 60) :
    Calls Try.prog 9 #[.slice a n c, .int .i64 y] w (RetVal w (.bool true)) := by
  have hcl : n ≤ 9223372036854775807 := by have h1 := g.cle; have h2 := g.le; simp only [maxLen] at h1; omega
  have hc := chkT_no h
  have HC := Lib.hid hc
  clear hc h
  go_enter Try.func9, Try.ntmps9
  have hB := Below.refl w.heap.size w
  go_wp2_with fail
  with_reducible refine (awake13 _).mono ?_
  rintro e w1 ⟨rfl, hb⟩
  have g := g.past hb
  have hB := below_later hB hb
  clear hb
  go_wp2_with fail
  with_reducible refine (soliCheck_any _ _ _ zs 60 _ g).mono ?_
  rintro e w2 ⟨rfl, hb⟩
  have g := g.past hb
  have hB := below_later hB hb
  clear hb
  rw [HC.out]
  go_wp2
  go_ret
  exact ⟨rfl, hB⟩

set_option maxRecDepth 100000 in
set_option maxHeartbeats 32000000 in
theorem solitonMean_go (a : Option Addr) (n c : Nat) (zs : List Int) (y : Int) (w : World) (g : IntsAt w a n c zs) (hy : -9223372036854775808 ≤ y ∧ y ≤ 9223372036854775807) (hn : n ≤ 60) (h : okT zs 60) :
    Calls Try.prog 9 #[.slice a n c, .int .i64 y] w (RetVal w (.bool true)) := by
  obtain ⟨i0, hi, hz0, hz1, hz2⟩ := info_parts int_info
  have hcl : n ≤ 9223372036854775807 := by omega
  have hlen := g.len
  have hc := chkT_yes h
  have hok := okT_mono h (k2 := 65536) (by decide) (by decide)
  have hn1 : 1 ≤ n := by have := h.2.2.1; omega
  have hlow := sign_ge (meanR_low h)
  have hhigh := sign_le (meanR_high h)
  rw [hlen] at hhigh
  have hml := meanR_len (by omega) hok
  have hin := okT_in h
  rw [hlen] at hin
  obtain ⟨Q, hQ⟩ : ∃ Q, meanR zs = Q := ⟨_, rfl⟩
  rw [hQ] at hlow hhigh hml
  obtain ⟨C1, hC1⟩ : ∃ C1, (Q - mkRat 1 1).num.sign = C1 := ⟨_, rfl⟩
  obtain ⟨C2, hC2⟩ : ∃ C2, (Q - mkRat (n : Int) 1).num.sign = C2 := ⟨_, rfl⟩
  rw [hC1] at hlow
  rw [hC2] at hhigh
  obtain ⟨p, hp, hp2⟩ := n_pickN y (n : Int) (by omega)
  have hpn : p < n := by omega
  obtain ⟨ho1, ho2⟩ := oneL_ok hpn hn
  have hht := half_twice hn hlen h
  have lnr := mkR_len (p := n) (by omega)
  have HC := Lib.hid hc
  have HOK := Lib.hid hok
  have HQ := Lib.hid hQ
  have HC1 := Lib.hid hC1
  have HC2 := Lib.hid hC2
  have HML := Lib.hid (Nat.le_trans hml (show 1 ≤ 1048576 by decide))
  have HNR := Lib.hid (Nat.le_trans lnr (show 1 ≤ 1048576 by decide))
  have HP := Lib.hid hp
  have HO1 := Lib.hid ho1
  have HO2 := Lib.hid ho2
  have HHT := Lib.hid hht
  have HIN := Lib.hid hin
  have HY := Lib.hid hy
  have g0 := g
  clear hc h hok hQ hC1 hC2 hml lnr hp ho1 ho2 hht hin hy hp2
  go_enter Try.func9, Try.ntmps9
  have hB := Below.refl w.heap.size w
  go_wp2_with fail
  with_reducible refine (awake13 _).mono ?_
  rintro e w1 ⟨rfl, hb⟩
  have g := g.past hb
  have hB := below_later hB hb
  clear hb
  go_wp2_with fail
  with_reducible refine (soliCheck_any _ _ _ zs 60 _ g).mono ?_
  rintro e w2 ⟨rfl, hb⟩
  have g := g.past hb
  have hB := below_later hB hb
  clear hb
  rw [HC.out]
  go_wp2_with fail
  with_reducible refine (mean_yes _ _ _ zs _ g HOK.out).mono ?_
  rintro e w3 ⟨ahQU, nhQU, chQU, ahQD, nhQD, chQD, rfl, hQU, hQD, hb⟩
  have g := g.past hb
  have hB := below_later hB hb
  clear hb
  rw [HQ.out] at hQU hQD ⊢
  go_wp2_with fail
  obtain ⟨w4, hW, hz0, hb, q, f⟩ := box1g w3 (w3.heap.size) (by omega) #[.bool (neg (Q).num), .slice ahQU nhQU chQU, .slice ahQD nhQD chQD] 36
  rw [hW]
  clear hW
  have g := g.past hb
  have hQU := hQU.past hb
  have hQD := hQD.past hb
  have hB := below_later hB hb
  clear hb
  have lm : w3.heap.size < w4.heap.size := by omega
  have qm0 := q 0; have qm1 := q 1; have qm2 := q 2
  simp only [List.getElem?_toArray, List.getElem?_cons_zero, List.getElem?_cons_succ] at qm0 qm1 qm2
  clear q f
  clear hz0
  refine wp_region_held_drew (S := fun w' => (w'.cell? ⟨w3.heap.size, 0, none⟩ = some (.bool (neg (Q).num)) ∧ w'.cell? ⟨w3.heap.size, 1, none⟩ = some (.slice ahQU nhQU chQU) ∧ w'.cell? ⟨w3.heap.size, 2, none⟩ = some (.slice ahQD nhQD chQD)) ∧ Below w4.heap.size w4 w') (by kernel_rfl) ⟨⟨((Below.refl w4.heap.size w4).drew.cell (p := ⟨w3.heap.size, 0, none⟩) lm).trans qm0, ((Below.refl w4.heap.size w4).drew.cell (p := ⟨w3.heap.size, 1, none⟩) lm).trans qm1, ((Below.refl w4.heap.size w4).drew.cell (p := ⟨w3.heap.size, 2, none⟩) lm).trans qm2⟩, (Below.refl _ _).drew⟩ (fun hHeld => ?_)
  refine takeL 0 (.agg #[.bool (neg (Q).num), .slice ahQU nhQU chQU, .slice ahQD nhQD chQD]) rfl (by kernel_rfl) (by kernel_rfl) (by kernel_rfl) (fun _ _ _ h => h) (Or.inl ⟨by rfl, ?_⟩) (by assumption) ?_
  · intro ws hSw; obtain ⟨⟨s0, s1, s2⟩, sB⟩ := hSw; go_simp
  try simp only [Act.put, List.setIfInBounds_toArray, List.set_cons_zero, List.set_cons_succ]
  refine wpAnyH_ready (rs := [1]) (by kernel_rfl) (by simp) ?_
  refine consL rfl (fun K hK => ?_) AllReadyH.nil
  go_simp
  have hS := hHeld
  with_reducible refine (part13_11 _).mono ?_
  rintro e w5 ⟨ahXU, nhXU, chXU, ahXD, nhXD, chXD, rfl, hXU, hXD, hbw5⟩
  refine hK.out _ _ ⟨⟨((below_later hS.2 hbw5).cell (p := ⟨w3.heap.size, 0, none⟩) lm).trans qm0, ((below_later hS.2 hbw5).cell (p := ⟨w3.heap.size, 1, none⟩) lm).trans qm1, ((below_later hS.2 hbw5).cell (p := ⟨w3.heap.size, 2, none⟩) lm).trans qm2⟩, below_later hS.2 hbw5⟩ (fun hHeld => ?_)
  clear hK K hS
  try simp only [Act.put, List.setIfInBounds_toArray, List.set_cons_zero, List.set_cons_succ]
  refine wpAnyH_ready (rs := [2]) (by kernel_rfl) (by simp) ?_
  refine consL rfl (fun K hK => ?_) AllReadyH.nil
  go_simp
  have hS := hHeld
  with_reducible refine (n_cmp_rat (hQU.past hS.2).toNatAt (hQD.past hS.2).toNatAt hXU.toNatAt hXD.toNatAt HML.out (by decide)).mono ?_
  rintro e w6 ⟨rfl, hbw6⟩
  have hXU := hXU.past hbw6
  have hXD := hXD.past hbw6
  rw [HC1.out]
  refine hK.out _ _ ⟨⟨((below_later hS.2 hbw6).cell (p := ⟨w3.heap.size, 0, none⟩) lm).trans qm0, ((below_later hS.2 hbw6).cell (p := ⟨w3.heap.size, 1, none⟩) lm).trans qm1, ((below_later hS.2 hbw6).cell (p := ⟨w3.heap.size, 2, none⟩) lm).trans qm2⟩, below_later hS.2 hbw6⟩ (fun hHeld => ?_)
  clear hK K hS
  try simp only [Act.put, List.setIfInBounds_toArray, List.set_cons_zero, List.set_cons_succ]
  refine takeL 3 (?_) rfl (by kernel_rfl) (by kernel_rfl) (by kernel_rfl) (fun _ _ _ h => h) (Or.inl ⟨by rfl, ?_⟩) (by assumption) ?_
  rotate_left
  · intro ws hSw; obtain ⟨⟨s0, s1, s2⟩, sB⟩ := hSw; go_simp; with_reducible rfl
  try simp only [Act.put, List.setIfInBounds_toArray, List.set_cons_zero, List.set_cons_succ]
  refine takeL 4 (?_) rfl (by kernel_rfl) (by kernel_rfl) (by kernel_rfl) (fun _ _ _ h => h) (Or.inl ⟨by rfl, ?_⟩) (by assumption) ?_
  rotate_left
  · intro ws hSw; obtain ⟨⟨s0, s1, s2⟩, sB⟩ := hSw; go_simp; with_reducible rfl
  try simp only [Act.put, List.setIfInBounds_toArray, List.set_cons_zero, List.set_cons_succ]
  refine takeL 5 (?_) rfl (by kernel_rfl) (by kernel_rfl) (by kernel_rfl) (fun _ _ _ h => h) (Or.inl ⟨by rfl, ?_⟩) (by assumption) ?_
  rotate_left
  · intro ws hSw; obtain ⟨⟨s0, s1, s2⟩, sB⟩ := hSw; go_simp; with_reducible rfl
  try simp only [Act.put, List.setIfInBounds_toArray, List.set_cons_zero, List.set_cons_succ]
  refine takeL 6 (?_) rfl (by kernel_rfl) (by kernel_rfl) (by kernel_rfl) (fun _ _ _ h => h) (Or.inl ⟨by rfl, ?_⟩) (by assumption) ?_
  rotate_left
  · intro ws hSw; obtain ⟨⟨s0, s1, s2⟩, sB⟩ := hSw; go_simp; with_reducible rfl
  try simp only [Act.put, List.setIfInBounds_toArray, List.set_cons_zero, List.set_cons_succ]
  refine takeL 7 (?_) rfl (by kernel_rfl) (by kernel_rfl) (by kernel_rfl) (fun _ _ _ h => h) (Or.inl ⟨by rfl, ?_⟩) (by assumption) ?_
  rotate_left
  · intro ws hSw; obtain ⟨⟨s0, s1, s2⟩, sB⟩ := hSw; go_simp; with_reducible rfl
  try simp only [Act.put, List.setIfInBounds_toArray, List.set_cons_zero, List.set_cons_succ]
  refine wpAnyH_done (by kernel_rfl) ?_ _
  have hbR := hHeld.2
  have g := g.past hbR
  have hQU := hQU.past hbR
  have hQD := hQD.past hbR
  have qm0 := bq hbR lm qm0; have qm1 := bq hbR lm qm1; have qm2 := bq hbR lm qm2
  have lm := bl hbR lm
  have hB := below_later hB hbR
  clear hHeld hbR
  go_wp2_with fail
  refine wp_region_held_drew (S := fun w' => (w'.cell? ⟨w3.heap.size, 0, none⟩ = some (.bool (neg (Q).num)) ∧ w'.cell? ⟨w3.heap.size, 1, none⟩ = some (.slice ahQU nhQU chQU) ∧ w'.cell? ⟨w3.heap.size, 2, none⟩ = some (.slice ahQD nhQD chQD)) ∧ Below w6.heap.size w6 w') (by kernel_rfl) ⟨⟨((Below.refl w6.heap.size w6).drew.cell (p := ⟨w3.heap.size, 0, none⟩) lm).trans qm0, ((Below.refl w6.heap.size w6).drew.cell (p := ⟨w3.heap.size, 1, none⟩) lm).trans qm1, ((Below.refl w6.heap.size w6).drew.cell (p := ⟨w3.heap.size, 2, none⟩) lm).trans qm2⟩, (Below.refl _ _).drew⟩ (fun hHeld => ?_)
  refine takeL 0 (.agg #[.bool (neg (Q).num), .slice ahQU nhQU chQU, .slice ahQD nhQD chQD]) rfl (by kernel_rfl) (by kernel_rfl) (by kernel_rfl) (fun _ _ _ h => h) (Or.inl ⟨by rfl, ?_⟩) (by assumption) ?_
  · intro ws hSw; obtain ⟨⟨s0, s1, s2⟩, sB⟩ := hSw; go_simp
  try simp only [Act.put, List.setIfInBounds_toArray, List.set_cons_zero, List.set_cons_succ]
  refine takeL 1 (?_) rfl (by kernel_rfl) (by kernel_rfl) (by kernel_rfl) (fun _ _ _ h => h) (Or.inl ⟨by rfl, ?_⟩) (by assumption) ?_
  rotate_left
  · intro ws hSw; obtain ⟨⟨s0, s1, s2⟩, sB⟩ := hSw; go_simp; with_reducible rfl
  try simp only [Act.put, List.setIfInBounds_toArray, List.set_cons_zero, List.set_cons_succ]
  refine takeL 2 (.int .i64 (n : Int)) rfl (by kernel_rfl) (by kernel_rfl) (by kernel_rfl) (fun _ _ _ h => h) (Or.inl ⟨by rfl, ?_⟩) (by assumption) ?_
  · intro ws hSw; obtain ⟨⟨s0, s1, s2⟩, sB⟩ := hSw; go_simp
  try simp only [Act.put, List.setIfInBounds_toArray, List.set_cons_zero, List.set_cons_succ]
  refine wpAnyH_ready (rs := [3]) (by kernel_rfl) (by simp) ?_
  refine consL rfl (fun K hK => ?_) AllReadyH.nil
  go_simp
  have hS := hHeld
  with_reducible refine (part13_one (n : Int) _ (by omega)).mono ?_
  rintro e w7 ⟨ahXU, nhXU, chXU, ahXD, nhXD, chXD, rfl, hXU, hXD, hbw7⟩
  refine hK.out _ _ ⟨⟨((below_later hS.2 hbw7).cell (p := ⟨w3.heap.size, 0, none⟩) lm).trans qm0, ((below_later hS.2 hbw7).cell (p := ⟨w3.heap.size, 1, none⟩) lm).trans qm1, ((below_later hS.2 hbw7).cell (p := ⟨w3.heap.size, 2, none⟩) lm).trans qm2⟩, below_later hS.2 hbw7⟩ (fun hHeld => ?_)
  clear hK K hS
  try simp only [Act.put, List.setIfInBounds_toArray, List.set_cons_zero, List.set_cons_succ]
  refine wpAnyH_ready (rs := [4]) (by kernel_rfl) (by simp) ?_
  refine consL rfl (fun K hK => ?_) AllReadyH.nil
  go_simp
  have hS := hHeld
  with_reducible refine (n_cmp_rat (hQU.past hS.2).toNatAt (hQD.past hS.2).toNatAt hXU.toNatAt hXD.toNatAt HML.out HNR.out).mono ?_
  rintro e w8 ⟨rfl, hbw8⟩
  have hXU := hXU.past hbw8
  have hXD := hXD.past hbw8
  rw [HC2.out]
  refine hK.out _ _ ⟨⟨((below_later hS.2 hbw8).cell (p := ⟨w3.heap.size, 0, none⟩) lm).trans qm0, ((below_later hS.2 hbw8).cell (p := ⟨w3.heap.size, 1, none⟩) lm).trans qm1, ((below_later hS.2 hbw8).cell (p := ⟨w3.heap.size, 2, none⟩) lm).trans qm2⟩, below_later hS.2 hbw8⟩ (fun hHeld => ?_)
  clear hK K hS
  try simp only [Act.put, List.setIfInBounds_toArray, List.set_cons_zero, List.set_cons_succ]
  refine takeL 5 (?_) rfl (by kernel_rfl) (by kernel_rfl) (by kernel_rfl) (fun _ _ _ h => h) (Or.inl ⟨by rfl, ?_⟩) (by assumption) ?_
  rotate_left
  · intro ws hSw; obtain ⟨⟨s0, s1, s2⟩, sB⟩ := hSw; go_simp; with_reducible rfl
  try simp only [Act.put, List.setIfInBounds_toArray, List.set_cons_zero, List.set_cons_succ]
  refine takeL 6 (?_) rfl (by kernel_rfl) (by kernel_rfl) (by kernel_rfl) (fun _ _ _ h => h) (Or.inl ⟨by rfl, ?_⟩) (by assumption) ?_
  rotate_left
  · intro ws hSw; obtain ⟨⟨s0, s1, s2⟩, sB⟩ := hSw; go_simp; with_reducible rfl
  try simp only [Act.put, List.setIfInBounds_toArray, List.set_cons_zero, List.set_cons_succ]
  refine takeL 7 (?_) rfl (by kernel_rfl) (by kernel_rfl) (by kernel_rfl) (fun _ _ _ h => h) (Or.inl ⟨by rfl, ?_⟩) (by assumption) ?_
  rotate_left
  · intro ws hSw; obtain ⟨⟨s0, s1, s2⟩, sB⟩ := hSw; go_simp; with_reducible rfl
  try simp only [Act.put, List.setIfInBounds_toArray, List.set_cons_zero, List.set_cons_succ]
  refine takeL 8 (?_) rfl (by kernel_rfl) (by kernel_rfl) (by kernel_rfl) (fun _ _ _ h => h) (Or.inl ⟨by rfl, ?_⟩) (by assumption) ?_
  rotate_left
  · intro ws hSw; obtain ⟨⟨s0, s1, s2⟩, sB⟩ := hSw; go_simp; with_reducible rfl
  try simp only [Act.put, List.setIfInBounds_toArray, List.set_cons_zero, List.set_cons_succ]
  refine takeL 9 (?_) rfl (by kernel_rfl) (by kernel_rfl) (by kernel_rfl) (fun _ _ _ h => h) (Or.inl ⟨by rfl, ?_⟩) (by assumption) ?_
  rotate_left
  · intro ws hSw; obtain ⟨⟨s0, s1, s2⟩, sB⟩ := hSw; go_simp; with_reducible rfl
  try simp only [Act.put, List.setIfInBounds_toArray, List.set_cons_zero, List.set_cons_succ]
  refine wpAnyH_done (by kernel_rfl) ?_ _
  have hbR := hHeld.2
  have g := g.past hbR
  have hQU := hQU.past hbR
  have hQD := hQD.past hbR
  have qm0 := bq hbR lm qm0; have qm1 := bq hbR lm qm1; have qm2 := bq hbR lm qm2
  have lm := bl hbR lm
  have hB := below_later hB hbR
  clear hHeld hbR
  go_wp2_with fail
  with_reducible refine (pick_any y (n : Int) _ HY.out.1 HY.out.2 (by omega)).mono ?_
  rintro e w' ⟨rfl, rfl⟩
  rw [HP.out]
  go_wp2_with fail
  go_wp2_with fail
  have szW := hB.size
  refine wp_region_invA (by kernel_rfl) rfl (by kernel_rfl) (fun A0 V0 dd aa ww => ∃ (y73 y74 y75 y76 y77 y78 y79 y80 y81 y12 y13 y14 : Value), aa = puts A0 [(73, y73), (74, y74), (75, y75), (76, y76), (77, y77), (78, y78), (79, y79), (80, y80), (81, y81), (12, y12), (13, y13), (14, y14)] ∧ Below V0.heap.size V0 ww ∧ Shut (dd 0 = true → y73 = .slice a n c) ∧ Shut (dd 1 = true → y74 = .int .i64 (n : Int)) ∧ Shut (dd 2 = true → MkV V0.heap.size n y75 ww) ∧ Shut (dd 3 = true → y76 = .slice a n c) ∧ Shut (dd 4 = true → y77 = .int .i64 (n : Int)) ∧ Shut (dd 5 = true → MkV V0.heap.size n y78 ww) ∧ Shut (dd 6 = true → y79 = .slice a n c) ∧ Shut (dd 7 = true → y80 = .int .i64 (n : Int)) ∧ Shut (dd 8 = true → MkV V0.heap.size n y81 ww) ∧ Shut (dd 9 = true → y12 = y75) ∧ Shut (dd 10 = true → y13 = y78) ∧ Shut (dd 11 = true → y14 = y81) ∧ Shut (dd 2 = true → dd 5 = true → y75 ≠ y78) ∧ Shut (dd 2 = true → dd 8 = true → y75 ≠ y81) ∧ Shut (dd 5 = true → dd 8 = true → y78 ≠ y81) ∧ True) ?_ ?_ ?_
  · exact ⟨_, _, _, _, _, _, _, _, _, _, _, _, puts_self _ [73, 74, 75, 76, 77, 78, 79, 80, 81, 12, 13, 14], (Below.refl _ _).drew, fun h => (by cases h), fun h => (by cases h), fun h => (by cases h), fun h => (by cases h), fun h => (by cases h), fun h => (by cases h), fun h => (by cases h), fun h => (by cases h), fun h => (by cases h), fun h => (by cases h), fun h => (by cases h), fun h => (by cases h), fun h => (by cases h), fun h => (by cases h), fun h => (by cases h), trivial⟩
  · refine Steps.cons ?_ (Steps.cons ?_ (Steps.cons ?_ (Steps.cons ?_ (Steps.cons ?_ (Steps.cons ?_ (Steps.cons ?_ (Steps.cons ?_ (Steps.cons ?_ (Steps.cons ?_ (Steps.cons ?_ (Steps.cons ?_ (Steps.nil))))))))))))
    · intro dd aa ww K hc hun hn hI hK
      obtain ⟨y73, y74, y75, y76, y77, y78, y79, y80, y81, y12, y13, y14, ea, hb, f0, f1, f2, f3, f4, f5, f6, f7, f8, f9, f10, f11, p0, p1, p2, _⟩ := hI
      try simp [Region.binds] at hn
      subst ea
      simp only [puts, Act.put, List.setIfInBounds_toArray, List.set_cons_zero, List.set_cons_succ]
      go_simp
      refine hK.out _ _ ?_
      exact ⟨.slice a n c, y74, y75, y76, y77, y78, y79, y80, y81, y12, y13, y14, by simp only [puts, Act.put, List.setIfInBounds_toArray, List.set_cons_zero, List.set_cons_succ], hb, fun _ => rfl, fun h => (f1.out (upd_of rfl h)), fun h => absurd (hc.reach (f := 8) (s := 2) (l := 0) (by kernel_rfl) (upd_of rfl h)) (by rw [hun]; decide), fun h => (f3.out (upd_of rfl h)), fun h => (f4.out (upd_of rfl h)), fun h => (f5.out (upd_of rfl h)), fun h => (f6.out (upd_of rfl h)), fun h => (f7.out (upd_of rfl h)), fun h => (f8.out (upd_of rfl h)), fun h => (f9.out (upd_of rfl h)), fun h => (f10.out (upd_of rfl h)), fun h => (f11.out (upd_of rfl h)), fun h h2 => p0.out (upd_of rfl h) (upd_of rfl h2), fun h h2 => p1.out (upd_of rfl h) (upd_of rfl h2), fun h h2 => p2.out (upd_of rfl h) (upd_of rfl h2), trivial⟩
    · intro dd aa ww K hc hun hn hI hK
      obtain ⟨y73, y74, y75, y76, y77, y78, y79, y80, y81, y12, y13, y14, ea, hb, f0, f1, f2, f3, f4, f5, f6, f7, f8, f9, f10, f11, p0, p1, p2, _⟩ := hI
      try simp [Region.binds] at hn
      have ex := f0.out (by first | (simp [hn]; done) | exact hc.reach (f := 8) (by decide +kernel) hn | exact hc.reach (f := 8) (by decide +kernel) hn.1 | exact hc.reach (f := 8) (by decide +kernel) hn.2 | exact hc.reach (f := 8) (by decide +kernel) hn.2.1 | exact hc.reach (f := 8) (by decide +kernel) hn.2.2 | exact hc.reach (f := 8) (by decide +kernel) hn.2.2.1 | exact hc.reach (f := 8) (by decide +kernel) hn.2.2.2)
      subst ex
      subst ea
      simp only [puts, Act.put, List.setIfInBounds_toArray, List.set_cons_zero, List.set_cons_succ]
      go_simp
      refine hK.out _ _ ?_
      exact ⟨.slice a n c, .int .i64 (n : Int), y75, y76, y77, y78, y79, y80, y81, y12, y13, y14, by simp only [puts, Act.put, List.setIfInBounds_toArray, List.set_cons_zero, List.set_cons_succ], hb, fun h => rfl, fun _ => rfl, fun h => absurd (hc.reach (f := 8) (s := 2) (l := 1) (by kernel_rfl) (upd_of rfl h)) (by rw [hun]; decide), fun h => (f3.out (upd_of rfl h)), fun h => (f4.out (upd_of rfl h)), fun h => (f5.out (upd_of rfl h)), fun h => (f6.out (upd_of rfl h)), fun h => (f7.out (upd_of rfl h)), fun h => (f8.out (upd_of rfl h)), fun h => (f9.out (upd_of rfl h)), fun h => (f10.out (upd_of rfl h)), fun h => (f11.out (upd_of rfl h)), fun h h2 => p0.out (upd_of rfl h) (upd_of rfl h2), fun h h2 => p1.out (upd_of rfl h) (upd_of rfl h2), fun h h2 => p2.out (upd_of rfl h) (upd_of rfl h2), trivial⟩
    · intro dd aa ww K hc hun hn hI hK
      obtain ⟨y73, y74, y75, y76, y77, y78, y79, y80, y81, y12, y13, y14, ea, hb, f0, f1, f2, f3, f4, f5, f6, f7, f8, f9, f10, f11, p0, p1, p2, _⟩ := hI
      try simp [Region.binds] at hn
      have ex := f1.out (by first | (simp [hn]; done) | exact hc.reach (f := 8) (by decide +kernel) hn | exact hc.reach (f := 8) (by decide +kernel) hn.1 | exact hc.reach (f := 8) (by decide +kernel) hn.2 | exact hc.reach (f := 8) (by decide +kernel) hn.2.1 | exact hc.reach (f := 8) (by decide +kernel) hn.2.2 | exact hc.reach (f := 8) (by decide +kernel) hn.2.2.1 | exact hc.reach (f := 8) (by decide +kernel) hn.2.2.2)
      subst ex
      subst ea
      simp only [puts, Act.put, List.setIfInBounds_toArray, List.set_cons_zero, List.set_cons_succ]
      rw [if_pos (by rfl)]
      refine oper_make ww _ _ 24 rfl _ 3 i0 (.int .i64 0) 1 Try.underlying24 hi hz0 hz1 .i64 .i64 _ _ n rfl rfl rfl rfl (by rw [hz2]; omega) (by simp only [maxLen]; omega) hb.size ?_
      intro w1 hown hgrow
      have h1 : Below ww.heap.size ww w1 := (Below.refl _ _).grown hgrow (Nat.le_refl _) (fun k e => by cases e)
      have hM2 := intsOwn_made hown hb.size
      refine hK.out _ _ ?_
      exact ⟨y73, .int .i64 (n : Int), .slice (some ⟨ww.heap.size, 0, none⟩) n n, y76, y77, y78, y79, y80, y81, y12, y13, y14, by simp only [puts, Act.put, List.setIfInBounds_toArray, List.set_cons_zero, List.set_cons_succ], below_later hb h1, fun h => (f0.out (upd_of rfl h)), fun h => rfl, fun _ => ⟨_, rfl, hM2⟩, fun h => (f3.out (upd_of rfl h)), fun h => (f4.out (upd_of rfl h)), fun h => (f5.out (upd_of rfl h)).past h1, fun h => (f6.out (upd_of rfl h)), fun h => (f7.out (upd_of rfl h)), fun h => (f8.out (upd_of rfl h)).past h1, fun h => absurd (hc.reach (f := 8) (s := 9) (l := 2) (by kernel_rfl) (upd_of rfl h)) (by rw [hun]; decide), fun h => (f10.out (upd_of rfl h)), fun h => (f11.out (upd_of rfl h)), fun _ h => mk_ne (f5.out (upd_of rfl h)), fun _ h => mk_ne (f8.out (upd_of rfl h)), fun h h2 => p2.out (upd_of rfl h) (upd_of rfl h2), trivial⟩
    · intro dd aa ww K hc hun hn hI hK
      obtain ⟨y73, y74, y75, y76, y77, y78, y79, y80, y81, y12, y13, y14, ea, hb, f0, f1, f2, f3, f4, f5, f6, f7, f8, f9, f10, f11, p0, p1, p2, _⟩ := hI
      try simp [Region.binds] at hn
      subst ea
      simp only [puts, Act.put, List.setIfInBounds_toArray, List.set_cons_zero, List.set_cons_succ]
      go_simp
      refine hK.out _ _ ?_
      exact ⟨y73, y74, y75, .slice a n c, y77, y78, y79, y80, y81, y12, y13, y14, by simp only [puts, Act.put, List.setIfInBounds_toArray, List.set_cons_zero, List.set_cons_succ], hb, fun h => (f0.out (upd_of rfl h)), fun h => (f1.out (upd_of rfl h)), fun h => (f2.out (upd_of rfl h)), fun _ => rfl, fun h => (f4.out (upd_of rfl h)), fun h => absurd (hc.reach (f := 8) (s := 5) (l := 3) (by kernel_rfl) (upd_of rfl h)) (by rw [hun]; decide), fun h => (f6.out (upd_of rfl h)), fun h => (f7.out (upd_of rfl h)), fun h => (f8.out (upd_of rfl h)), fun h => (f9.out (upd_of rfl h)), fun h => (f10.out (upd_of rfl h)), fun h => (f11.out (upd_of rfl h)), fun h h2 => p0.out (upd_of rfl h) (upd_of rfl h2), fun h h2 => p1.out (upd_of rfl h) (upd_of rfl h2), fun h h2 => p2.out (upd_of rfl h) (upd_of rfl h2), trivial⟩
    · intro dd aa ww K hc hun hn hI hK
      obtain ⟨y73, y74, y75, y76, y77, y78, y79, y80, y81, y12, y13, y14, ea, hb, f0, f1, f2, f3, f4, f5, f6, f7, f8, f9, f10, f11, p0, p1, p2, _⟩ := hI
      try simp [Region.binds] at hn
      have ex := f3.out (by first | (simp [hn]; done) | exact hc.reach (f := 8) (by decide +kernel) hn | exact hc.reach (f := 8) (by decide +kernel) hn.1 | exact hc.reach (f := 8) (by decide +kernel) hn.2 | exact hc.reach (f := 8) (by decide +kernel) hn.2.1 | exact hc.reach (f := 8) (by decide +kernel) hn.2.2 | exact hc.reach (f := 8) (by decide +kernel) hn.2.2.1 | exact hc.reach (f := 8) (by decide +kernel) hn.2.2.2)
      subst ex
      subst ea
      simp only [puts, Act.put, List.setIfInBounds_toArray, List.set_cons_zero, List.set_cons_succ]
      go_simp
      refine hK.out _ _ ?_
      exact ⟨y73, y74, y75, .slice a n c, .int .i64 (n : Int), y78, y79, y80, y81, y12, y13, y14, by simp only [puts, Act.put, List.setIfInBounds_toArray, List.set_cons_zero, List.set_cons_succ], hb, fun h => (f0.out (upd_of rfl h)), fun h => (f1.out (upd_of rfl h)), fun h => (f2.out (upd_of rfl h)), fun h => rfl, fun _ => rfl, fun h => absurd (hc.reach (f := 8) (s := 5) (l := 4) (by kernel_rfl) (upd_of rfl h)) (by rw [hun]; decide), fun h => (f6.out (upd_of rfl h)), fun h => (f7.out (upd_of rfl h)), fun h => (f8.out (upd_of rfl h)), fun h => (f9.out (upd_of rfl h)), fun h => (f10.out (upd_of rfl h)), fun h => (f11.out (upd_of rfl h)), fun h h2 => p0.out (upd_of rfl h) (upd_of rfl h2), fun h h2 => p1.out (upd_of rfl h) (upd_of rfl h2), fun h h2 => p2.out (upd_of rfl h) (upd_of rfl h2), trivial⟩
    · intro dd aa ww K hc hun hn hI hK
      obtain ⟨y73, y74, y75, y76, y77, y78, y79, y80, y81, y12, y13, y14, ea, hb, f0, f1, f2, f3, f4, f5, f6, f7, f8, f9, f10, f11, p0, p1, p2, _⟩ := hI
      try simp [Region.binds] at hn
      have ex := f4.out (by first | (simp [hn]; done) | exact hc.reach (f := 8) (by decide +kernel) hn | exact hc.reach (f := 8) (by decide +kernel) hn.1 | exact hc.reach (f := 8) (by decide +kernel) hn.2 | exact hc.reach (f := 8) (by decide +kernel) hn.2.1 | exact hc.reach (f := 8) (by decide +kernel) hn.2.2 | exact hc.reach (f := 8) (by decide +kernel) hn.2.2.1 | exact hc.reach (f := 8) (by decide +kernel) hn.2.2.2)
      subst ex
      subst ea
      simp only [puts, Act.put, List.setIfInBounds_toArray, List.set_cons_zero, List.set_cons_succ]
      rw [if_pos (by rfl)]
      refine oper_make ww _ _ 24 rfl _ 3 i0 (.int .i64 0) 1 Try.underlying24 hi hz0 hz1 .i64 .i64 _ _ n rfl rfl rfl rfl (by rw [hz2]; omega) (by simp only [maxLen]; omega) hb.size ?_
      intro w1 hown hgrow
      have h1 : Below ww.heap.size ww w1 := (Below.refl _ _).grown hgrow (Nat.le_refl _) (fun k e => by cases e)
      have hM5 := intsOwn_made hown hb.size
      refine hK.out _ _ ?_
      exact ⟨y73, y74, y75, y76, .int .i64 (n : Int), .slice (some ⟨ww.heap.size, 0, none⟩) n n, y79, y80, y81, y12, y13, y14, by simp only [puts, Act.put, List.setIfInBounds_toArray, List.set_cons_zero, List.set_cons_succ], below_later hb h1, fun h => (f0.out (upd_of rfl h)), fun h => (f1.out (upd_of rfl h)), fun h => (f2.out (upd_of rfl h)).past h1, fun h => (f3.out (upd_of rfl h)), fun h => rfl, fun _ => ⟨_, rfl, hM5⟩, fun h => (f6.out (upd_of rfl h)), fun h => (f7.out (upd_of rfl h)), fun h => (f8.out (upd_of rfl h)).past h1, fun h => (f9.out (upd_of rfl h)), fun h => absurd (hc.reach (f := 8) (s := 10) (l := 5) (by kernel_rfl) (upd_of rfl h)) (by rw [hun]; decide), fun h => (f11.out (upd_of rfl h)), fun h _ => (mk_ne (f2.out (upd_of rfl h))).symm, fun h h2 => p1.out (upd_of rfl h) (upd_of rfl h2), fun _ h => mk_ne (f8.out (upd_of rfl h)), trivial⟩
    · intro dd aa ww K hc hun hn hI hK
      obtain ⟨y73, y74, y75, y76, y77, y78, y79, y80, y81, y12, y13, y14, ea, hb, f0, f1, f2, f3, f4, f5, f6, f7, f8, f9, f10, f11, p0, p1, p2, _⟩ := hI
      try simp [Region.binds] at hn
      subst ea
      simp only [puts, Act.put, List.setIfInBounds_toArray, List.set_cons_zero, List.set_cons_succ]
      go_simp
      refine hK.out _ _ ?_
      exact ⟨y73, y74, y75, y76, y77, y78, .slice a n c, y80, y81, y12, y13, y14, by simp only [puts, Act.put, List.setIfInBounds_toArray, List.set_cons_zero, List.set_cons_succ], hb, fun h => (f0.out (upd_of rfl h)), fun h => (f1.out (upd_of rfl h)), fun h => (f2.out (upd_of rfl h)), fun h => (f3.out (upd_of rfl h)), fun h => (f4.out (upd_of rfl h)), fun h => (f5.out (upd_of rfl h)), fun _ => rfl, fun h => (f7.out (upd_of rfl h)), fun h => absurd (hc.reach (f := 8) (s := 8) (l := 6) (by kernel_rfl) (upd_of rfl h)) (by rw [hun]; decide), fun h => (f9.out (upd_of rfl h)), fun h => (f10.out (upd_of rfl h)), fun h => (f11.out (upd_of rfl h)), fun h h2 => p0.out (upd_of rfl h) (upd_of rfl h2), fun h h2 => p1.out (upd_of rfl h) (upd_of rfl h2), fun h h2 => p2.out (upd_of rfl h) (upd_of rfl h2), trivial⟩
    · intro dd aa ww K hc hun hn hI hK
      obtain ⟨y73, y74, y75, y76, y77, y78, y79, y80, y81, y12, y13, y14, ea, hb, f0, f1, f2, f3, f4, f5, f6, f7, f8, f9, f10, f11, p0, p1, p2, _⟩ := hI
      try simp [Region.binds] at hn
      have ex := f6.out (by first | (simp [hn]; done) | exact hc.reach (f := 8) (by decide +kernel) hn | exact hc.reach (f := 8) (by decide +kernel) hn.1 | exact hc.reach (f := 8) (by decide +kernel) hn.2 | exact hc.reach (f := 8) (by decide +kernel) hn.2.1 | exact hc.reach (f := 8) (by decide +kernel) hn.2.2 | exact hc.reach (f := 8) (by decide +kernel) hn.2.2.1 | exact hc.reach (f := 8) (by decide +kernel) hn.2.2.2)
      subst ex
      subst ea
      simp only [puts, Act.put, List.setIfInBounds_toArray, List.set_cons_zero, List.set_cons_succ]
      go_simp
      refine hK.out _ _ ?_
      exact ⟨y73, y74, y75, y76, y77, y78, .slice a n c, .int .i64 (n : Int), y81, y12, y13, y14, by simp only [puts, Act.put, List.setIfInBounds_toArray, List.set_cons_zero, List.set_cons_succ], hb, fun h => (f0.out (upd_of rfl h)), fun h => (f1.out (upd_of rfl h)), fun h => (f2.out (upd_of rfl h)), fun h => (f3.out (upd_of rfl h)), fun h => (f4.out (upd_of rfl h)), fun h => (f5.out (upd_of rfl h)), fun h => rfl, fun _ => rfl, fun h => absurd (hc.reach (f := 8) (s := 8) (l := 7) (by kernel_rfl) (upd_of rfl h)) (by rw [hun]; decide), fun h => (f9.out (upd_of rfl h)), fun h => (f10.out (upd_of rfl h)), fun h => (f11.out (upd_of rfl h)), fun h h2 => p0.out (upd_of rfl h) (upd_of rfl h2), fun h h2 => p1.out (upd_of rfl h) (upd_of rfl h2), fun h h2 => p2.out (upd_of rfl h) (upd_of rfl h2), trivial⟩
    · intro dd aa ww K hc hun hn hI hK
      obtain ⟨y73, y74, y75, y76, y77, y78, y79, y80, y81, y12, y13, y14, ea, hb, f0, f1, f2, f3, f4, f5, f6, f7, f8, f9, f10, f11, p0, p1, p2, _⟩ := hI
      try simp [Region.binds] at hn
      have ex := f7.out (by first | (simp [hn]; done) | exact hc.reach (f := 8) (by decide +kernel) hn | exact hc.reach (f := 8) (by decide +kernel) hn.1 | exact hc.reach (f := 8) (by decide +kernel) hn.2 | exact hc.reach (f := 8) (by decide +kernel) hn.2.1 | exact hc.reach (f := 8) (by decide +kernel) hn.2.2 | exact hc.reach (f := 8) (by decide +kernel) hn.2.2.1 | exact hc.reach (f := 8) (by decide +kernel) hn.2.2.2)
      subst ex
      subst ea
      simp only [puts, Act.put, List.setIfInBounds_toArray, List.set_cons_zero, List.set_cons_succ]
      rw [if_pos (by rfl)]
      refine oper_make ww _ _ 24 rfl _ 3 i0 (.int .i64 0) 1 Try.underlying24 hi hz0 hz1 .i64 .i64 _ _ n rfl rfl rfl rfl (by rw [hz2]; omega) (by simp only [maxLen]; omega) hb.size ?_
      intro w1 hown hgrow
      have h1 : Below ww.heap.size ww w1 := (Below.refl _ _).grown hgrow (Nat.le_refl _) (fun k e => by cases e)
      have hM8 := intsOwn_made hown hb.size
      refine hK.out _ _ ?_
      exact ⟨y73, y74, y75, y76, y77, y78, y79, .int .i64 (n : Int), .slice (some ⟨ww.heap.size, 0, none⟩) n n, y12, y13, y14, by simp only [puts, Act.put, List.setIfInBounds_toArray, List.set_cons_zero, List.set_cons_succ], below_later hb h1, fun h => (f0.out (upd_of rfl h)), fun h => (f1.out (upd_of rfl h)), fun h => (f2.out (upd_of rfl h)).past h1, fun h => (f3.out (upd_of rfl h)), fun h => (f4.out (upd_of rfl h)), fun h => (f5.out (upd_of rfl h)).past h1, fun h => (f6.out (upd_of rfl h)), fun h => rfl, fun _ => ⟨_, rfl, hM8⟩, fun h => (f9.out (upd_of rfl h)), fun h => (f10.out (upd_of rfl h)), fun h => absurd (hc.reach (f := 8) (s := 11) (l := 8) (by kernel_rfl) (upd_of rfl h)) (by rw [hun]; decide), fun h h2 => p0.out (upd_of rfl h) (upd_of rfl h2), fun h _ => (mk_ne (f2.out (upd_of rfl h))).symm, fun h _ => (mk_ne (f5.out (upd_of rfl h))).symm, trivial⟩
    · intro dd aa ww K hc hun hn hI hK
      obtain ⟨y73, y74, y75, y76, y77, y78, y79, y80, y81, y12, y13, y14, ea, hb, f0, f1, f2, f3, f4, f5, f6, f7, f8, f9, f10, f11, p0, p1, p2, _⟩ := hI
      try simp [Region.binds] at hn
      obtain ⟨G2, ex, hM2⟩ := f2.out (by first | (simp [hn]; done) | exact hc.reach (f := 8) (by decide +kernel) hn | exact hc.reach (f := 8) (by decide +kernel) hn.1 | exact hc.reach (f := 8) (by decide +kernel) hn.2 | exact hc.reach (f := 8) (by decide +kernel) hn.2.1 | exact hc.reach (f := 8) (by decide +kernel) hn.2.2 | exact hc.reach (f := 8) (by decide +kernel) hn.2.2.1 | exact hc.reach (f := 8) (by decide +kernel) hn.2.2.2)
      subst ex
      subst ea
      simp only [puts, Act.put, List.setIfInBounds_toArray, List.set_cons_zero, List.set_cons_succ]
      go_simp
      refine hK.out _ _ ?_
      exact ⟨y73, y74, .slice (some ⟨G2, 0, none⟩) n n, y76, y77, y78, y79, y80, y81, .slice (some ⟨G2, 0, none⟩) n n, y13, y14, by simp only [puts, Act.put, List.setIfInBounds_toArray, List.set_cons_zero, List.set_cons_succ], hb, fun h => (f0.out (upd_of rfl h)), fun h => (f1.out (upd_of rfl h)), fun h => (f2.out (upd_of rfl h)), fun h => (f3.out (upd_of rfl h)), fun h => (f4.out (upd_of rfl h)), fun h => (f5.out (upd_of rfl h)), fun h => (f6.out (upd_of rfl h)), fun h => (f7.out (upd_of rfl h)), fun h => (f8.out (upd_of rfl h)), fun _ => rfl, fun h => (f10.out (upd_of rfl h)), fun h => (f11.out (upd_of rfl h)), fun h h2 => p0.out (upd_of rfl h) (upd_of rfl h2), fun h h2 => p1.out (upd_of rfl h) (upd_of rfl h2), fun h h2 => p2.out (upd_of rfl h) (upd_of rfl h2), trivial⟩
    · intro dd aa ww K hc hun hn hI hK
      obtain ⟨y73, y74, y75, y76, y77, y78, y79, y80, y81, y12, y13, y14, ea, hb, f0, f1, f2, f3, f4, f5, f6, f7, f8, f9, f10, f11, p0, p1, p2, _⟩ := hI
      try simp [Region.binds] at hn
      obtain ⟨G5, ex, hM5⟩ := f5.out (by first | (simp [hn]; done) | exact hc.reach (f := 8) (by decide +kernel) hn | exact hc.reach (f := 8) (by decide +kernel) hn.1 | exact hc.reach (f := 8) (by decide +kernel) hn.2 | exact hc.reach (f := 8) (by decide +kernel) hn.2.1 | exact hc.reach (f := 8) (by decide +kernel) hn.2.2 | exact hc.reach (f := 8) (by decide +kernel) hn.2.2.1 | exact hc.reach (f := 8) (by decide +kernel) hn.2.2.2)
      subst ex
      subst ea
      simp only [puts, Act.put, List.setIfInBounds_toArray, List.set_cons_zero, List.set_cons_succ]
      go_simp
      refine hK.out _ _ ?_
      exact ⟨y73, y74, y75, y76, y77, .slice (some ⟨G5, 0, none⟩) n n, y79, y80, y81, y12, .slice (some ⟨G5, 0, none⟩) n n, y14, by simp only [puts, Act.put, List.setIfInBounds_toArray, List.set_cons_zero, List.set_cons_succ], hb, fun h => (f0.out (upd_of rfl h)), fun h => (f1.out (upd_of rfl h)), fun h => (f2.out (upd_of rfl h)), fun h => (f3.out (upd_of rfl h)), fun h => (f4.out (upd_of rfl h)), fun h => (f5.out (upd_of rfl h)), fun h => (f6.out (upd_of rfl h)), fun h => (f7.out (upd_of rfl h)), fun h => (f8.out (upd_of rfl h)), fun h => (f9.out (upd_of rfl h)), fun _ => rfl, fun h => (f11.out (upd_of rfl h)), fun h h2 => p0.out (upd_of rfl h) (upd_of rfl h2), fun h h2 => p1.out (upd_of rfl h) (upd_of rfl h2), fun h h2 => p2.out (upd_of rfl h) (upd_of rfl h2), trivial⟩
    · intro dd aa ww K hc hun hn hI hK
      obtain ⟨y73, y74, y75, y76, y77, y78, y79, y80, y81, y12, y13, y14, ea, hb, f0, f1, f2, f3, f4, f5, f6, f7, f8, f9, f10, f11, p0, p1, p2, _⟩ := hI
      try simp [Region.binds] at hn
      obtain ⟨G8, ex, hM8⟩ := f8.out (by first | (simp [hn]; done) | exact hc.reach (f := 8) (by decide +kernel) hn | exact hc.reach (f := 8) (by decide +kernel) hn.1 | exact hc.reach (f := 8) (by decide +kernel) hn.2 | exact hc.reach (f := 8) (by decide +kernel) hn.2.1 | exact hc.reach (f := 8) (by decide +kernel) hn.2.2 | exact hc.reach (f := 8) (by decide +kernel) hn.2.2.1 | exact hc.reach (f := 8) (by decide +kernel) hn.2.2.2)
      subst ex
      subst ea
      simp only [puts, Act.put, List.setIfInBounds_toArray, List.set_cons_zero, List.set_cons_succ]
      go_simp
      refine hK.out _ _ ?_
      exact ⟨y73, y74, y75, y76, y77, y78, y79, y80, .slice (some ⟨G8, 0, none⟩) n n, y12, y13, .slice (some ⟨G8, 0, none⟩) n n, by simp only [puts, Act.put, List.setIfInBounds_toArray, List.set_cons_zero, List.set_cons_succ], hb, fun h => (f0.out (upd_of rfl h)), fun h => (f1.out (upd_of rfl h)), fun h => (f2.out (upd_of rfl h)), fun h => (f3.out (upd_of rfl h)), fun h => (f4.out (upd_of rfl h)), fun h => (f5.out (upd_of rfl h)), fun h => (f6.out (upd_of rfl h)), fun h => (f7.out (upd_of rfl h)), fun h => (f8.out (upd_of rfl h)), fun h => (f9.out (upd_of rfl h)), fun h => (f10.out (upd_of rfl h)), fun _ => rfl, fun h h2 => p0.out (upd_of rfl h) (upd_of rfl h2), fun h h2 => p1.out (upd_of rfl h) (upd_of rfl h2), fun h h2 => p2.out (upd_of rfl h) (upd_of rfl h2), trivial⟩
  intro dd aa w9 hd hI
  obtain ⟨y73, y74, y75, y76, y77, y78, y79, y80, y81, y12, y13, y14, ea, hb, f0, f1, f2, f3, f4, f5, f6, f7, f8, f9, f10, f11, p0, p1, p2, _⟩ := hI
  have ex := f0.out (hd 0 (by simp))
  subst ex
  have ex := f1.out (hd 1 (by simp))
  subst ex
  obtain ⟨G2, ex, hM2⟩ := f2.out (hd 2 (by simp))
  subst ex
  have ex := f3.out (hd 3 (by simp))
  subst ex
  have ex := f4.out (hd 4 (by simp))
  subst ex
  obtain ⟨G5, ex, hM5⟩ := f5.out (hd 5 (by simp))
  subst ex
  have ex := f6.out (hd 6 (by simp))
  subst ex
  have ex := f7.out (hd 7 (by simp))
  subst ex
  obtain ⟨G8, ex, hM8⟩ := f8.out (hd 8 (by simp))
  subst ex
  have ex : y12 = .slice (some ⟨G2, 0, none⟩) n n := f9.out (hd 9 (by simp))
  subst ex
  have ex : y13 = .slice (some ⟨G5, 0, none⟩) n n := f10.out (hd 10 (by simp))
  subst ex
  have ex : y14 = .slice (some ⟨G8, 0, none⟩) n n := f11.out (hd 11 (by simp))
  subst ex
  have ne25 : G2 ≠ G5 := fun e => p0.out (hd 2 (by simp)) (hd 5 (by simp)) (by rw [e])
  have ne28 : G2 ≠ G8 := fun e => p1.out (hd 2 (by simp)) (hd 8 (by simp)) (by rw [e])
  have ne58 : G5 ≠ G8 := fun e => p2.out (hd 5 (by simp)) (hd 8 (by simp)) (by rw [e])
  subst ea
  simp only [puts, Act.put, List.setIfInBounds_toArray, List.set_cons_zero, List.set_cons_succ]
  have hB := below_later hB hb
  clear hb hd
  have hBW := szW
  have hMc := hM2.cell p hpn
  have hMf := hM2.free p
  go_wp2
  have hOne := hM2.set hpn 5
  have hH := IntsOwn.sets ne25 [.int .i64 5] p _ hM5
  have hT := IntsOwn.sets ne28 [.int .i64 5] p _ hM8
  rw [← outL_zero (hlfW zs)] at hH
  rw [← outL_zero (twcW zs)] at hT
  have hB := hB.setCell (p := ⟨G2, p, none⟩) (Nat.le_trans hBW hM2.lo) (.int .i64 5)
  obtain ⟨BW, hBWe⟩ : ∃ BW, w8.heap.size = BW := ⟨_, rfl⟩
  rw [hBWe] at hBW hOne hH hT
  clear hMc hMf hM2 hM5 hM8 hBWe
  go_loopw [15] (fun i wr => ∃ (j : Nat), j ≤ n ∧ i = .int .i64 (j : Int) ∧ IntsOwn wr BW G2 n (oneL n p) ∧ IntsOwn wr BW G5 n (outL (hlfW zs) n j) ∧ IntsOwn wr BW G8 n (outL (twcW zs) n j) ∧ Below w.heap.size w wr) (fun i _ => n - (intOf i).toNat)
  case atStart => exact ⟨0, Nat.zero_le _, rfl, hOne, hH, hT, hB⟩
  case round =>
    clear hOne hH hT hB
    obtain ⟨j, hj, rfl, hOne, hH, hT, hB⟩ := hrel
    by_cases hlt : j < n
    · have hz := HIN.out j hlt
      rcases (g0.past hB).cell with h0 | ⟨b, o, rfl, hbl, hcl2⟩
      · omega
      have hq := hcl2 j hlt
      obtain ⟨z, hzz⟩ : ∃ z, zs.getD j 0 = z := ⟨_, rfl⟩
      rw [hzz] at hq hz
      obtain ⟨X, hX⟩ : ∃ X, z / 2 = X := ⟨_, rfl⟩
      have e1 : hlfW zs (j + 1) = X := by unfold hlfW; rw [Nat.add_sub_cancel, hzz, hX]
      have e2 : twcW zs (j + 1) = 2 * X := by unfold twcW; rw [Nat.add_sub_cancel, hzz, hX]
      have hc5 := hH.cell j hlt
      have hf5 := hH.free j
      have hc8 := hT.cell j hlt
      have hf8 := hT.free j
      have E1 := Lib.hid e1
      have E2 := Lib.hid e2
      clear hcl2 e1 e2
      have tq : z.tdiv 2 = X := by rw [← hX]; exact Int.tdiv_eq_ediv_of_nonneg hz.1
      have tx : wrap64 (2 * X) = 2 * X := by unfold wrap64; omega
      have hB5 := hB.setCell (p := ⟨G5, j, none⟩) (Nat.le_trans hBW hH.lo) (.int .i64 X)
      have hB8 := hB5.setCell (p := ⟨G8, j, none⟩) (Nat.le_trans hBW hT.lo) (.int .i64 (2 * X))
      go_wp2
      go_roundw
      case rel => exact ⟨j + 1, by omega, by go_num, IntsOwn.sets ne28.symm [.int .i64 (2 * X)] j _ (IntsOwn.sets ne25.symm [.int .i64 X] j _ hOne), IntsOwn.sets ne58.symm [.int .i64 (2 * X)] j _ (by rw [← outL_set hlt, E1.out]; exact hH.set hlt X), by rw [← outL_set hlt, E2.out]; exact (IntsOwn.sets ne58 [.int .i64 X] j _ hT).set hlt (2 * X), hB8⟩
      case measure => simp [intOf]; omega
    · obtain rfl : j = n := by omega
      rw [outL_all] at hH hT
      have hin := HIN.out
      have w1f : ∀ i, i < j → 0 ≤ hlfW zs (i + 1) ∧ hlfW zs (i + 1) ≤ 16777215 := fun i hi => by
        have := hin i hi
        show 0 ≤ zs.getD i 0 / 2 ∧ zs.getD i 0 / 2 ≤ 16777215
        omega
      have w2f : ∀ i, i < j → 0 ≤ twcW zs (i + 1) ∧ twcW zs (i + 1) ≤ 16777215 := fun i hi => by
        have := hin i hi
        show 0 ≤ 2 * (zs.getD i 0 / 2) ∧ 2 * (zs.getD i 0 / 2) ≤ 16777215
        omega
      have a1 := hOne.at_ (oneL_wf j p)
      have a2 := hH.at_ (tabL_wf w1f)
      have a3 := hT.at_ (tabL_wf w2f)
      obtain ⟨pp, hpp⟩ : ∃ pp, p + 1 = pp := ⟨_, rfl⟩
      have TPP := Lib.hid (show IntKind.i64.wrap ((p : Int) + 1) = (pp : Int) by rw [IntKind.wrap_i64]; omega)
      have hpb : -9223372036854775808 ≤ (pp : Int) ∧ (pp : Int) ≤ 9223372036854775807 := by omega
      have ho := HO2.out
      rw [hpp] at ho
      obtain ⟨R1, hR1⟩ : ∃ R1, mkRat (pp : Int) 1 = R1 := ⟨_, rfl⟩
      rw [hR1] at ho
      have HR1 := Lib.hid hR1
      have HO := Lib.hid ho
      have HPB := Lib.hid hpb
      clear hin w1f w2f hOne hH hT hlt hpp hpb ho hR1
      go_wp2_with fail
      with_reducible refine (mean_yes _ _ _ (oneL j p) _ a1 HO1.out).mono ?_
      rintro e w1 ⟨ahNU, nhNU, chNU, ahND, nhND, chND, rfl, hNU, hND, hb⟩
      have a1 := a1.past hb
      have a2 := a2.past hb
      have a3 := a3.past hb
      have hB := below_later hB hb
      clear hb
      rw [HO.out] at hNU hND ⊢
      go_wp2_with fail
      obtain ⟨w2, hW, hz0, hb, q, f⟩ := box1g w1 (w1.heap.size) (by omega) #[.bool (neg (R1).num), .slice ahNU nhNU chNU, .slice ahND nhND chND] 36
      rw [hW]
      clear hW
      have a2 := a2.past hb
      have a3 := a3.past hb
      have hNU := hNU.past hb
      have hND := hND.past hb
      have hB := below_later hB hb
      clear hb
      have lnn : w1.heap.size < w2.heap.size := by omega
      have qnn0 := q 0; have qnn1 := q 1; have qnn2 := q 2
      simp only [List.getElem?_toArray, List.getElem?_cons_zero, List.getElem?_cons_succ] at qnn0 qnn1 qnn2
      clear q f
      clear hz0
      refine wp_region_held_drew (S := fun w' => (w'.cell? ⟨w1.heap.size, 0, none⟩ = some (.bool (neg (R1).num)) ∧ w'.cell? ⟨w1.heap.size, 1, none⟩ = some (.slice ahNU nhNU chNU) ∧ w'.cell? ⟨w1.heap.size, 2, none⟩ = some (.slice ahND nhND chND)) ∧ Below w2.heap.size w2 w') (by kernel_rfl) ⟨⟨((Below.refl w2.heap.size w2).drew.cell (p := ⟨w1.heap.size, 0, none⟩) lnn).trans qnn0, ((Below.refl w2.heap.size w2).drew.cell (p := ⟨w1.heap.size, 1, none⟩) lnn).trans qnn1, ((Below.refl w2.heap.size w2).drew.cell (p := ⟨w1.heap.size, 2, none⟩) lnn).trans qnn2⟩, (Below.refl _ _).drew⟩ (fun hHeld => ?_)
      refine takeL 0 (?_) rfl (by kernel_rfl) (by kernel_rfl) (by kernel_rfl) (fun _ _ _ h => h) (Or.inl ⟨by rfl, ?_⟩) (by assumption) ?_
      rotate_left
      · intro ws hSw; obtain ⟨⟨s0, s1, s2⟩, sB⟩ := hSw; go_simp; with_reducible rfl
      try simp only [Act.put, List.setIfInBounds_toArray, List.set_cons_zero, List.set_cons_succ]
      refine takeL 1 (?_) rfl (by kernel_rfl) (by kernel_rfl) (by kernel_rfl) (fun _ _ _ h => h) (Or.inl ⟨by rfl, ?_⟩) (by assumption) ?_
      rotate_left
      · intro ws hSw; obtain ⟨⟨s0, s1, s2⟩, sB⟩ := hSw; go_simp; with_reducible rfl
      try simp only [Act.put, List.setIfInBounds_toArray, List.set_cons_zero, List.set_cons_succ]
      refine takeL 2 (?_) rfl (by kernel_rfl) (by kernel_rfl) (by kernel_rfl) (fun _ _ _ h => h) (Or.inl ⟨by rfl, ?_⟩) (by assumption) ?_
      rotate_left
      · intro ws hSw; obtain ⟨⟨s0, s1, s2⟩, sB⟩ := hSw; go_simp; with_reducible rfl
      try simp only [Act.put, List.setIfInBounds_toArray, List.set_cons_zero, List.set_cons_succ]
      refine takeL 3 (.agg #[.bool (neg (R1).num), .slice ahNU nhNU chNU, .slice ahND nhND chND]) rfl (by kernel_rfl) (by kernel_rfl) (by kernel_rfl) (fun _ _ _ h => h) (Or.inl ⟨by rfl, ?_⟩) (by assumption) ?_
      · intro ws hSw; obtain ⟨⟨s0, s1, s2⟩, sB⟩ := hSw; go_simp
      try simp only [Act.put, List.setIfInBounds_toArray, List.set_cons_zero, List.set_cons_succ]
      refine takeL 4 (?_) rfl (by kernel_rfl) (by kernel_rfl) (by kernel_rfl) (fun _ _ _ h => h) (Or.inl ⟨by rfl, ?_⟩) (by assumption) ?_
      rotate_left
      · intro ws hSw; obtain ⟨⟨s0, s1, s2⟩, sB⟩ := hSw; go_simp; with_reducible rfl
      try simp only [Act.put, List.setIfInBounds_toArray, List.set_cons_zero, List.set_cons_succ]
      refine takeL 5 (.int .i64 (pp : Int)) rfl (by kernel_rfl) (by kernel_rfl) (by kernel_rfl) (fun _ _ _ h => h) (Or.inl ⟨by rfl, ?_⟩) (by assumption) ?_
      · intro ws hSw; obtain ⟨⟨s0, s1, s2⟩, sB⟩ := hSw; have tpp := TPP.out; go_simp
      try simp only [Act.put, List.setIfInBounds_toArray, List.set_cons_zero, List.set_cons_succ]
      refine wpAnyH_ready (rs := [6]) (by kernel_rfl) (by simp) ?_
      refine consL rfl (fun K hK => ?_) AllReadyH.nil
      go_simp
      have hS := hHeld
      with_reducible refine (part13_one (pp : Int) _ HPB.out).mono ?_
      rintro e w3 ⟨ahXU, nhXU, chXU, ahXD, nhXD, chXD, rfl, hXU, hXD, hbw3⟩
      rw [HR1.out] at hXU hXD ⊢
      refine hK.out _ _ ⟨⟨((below_later hS.2 hbw3).cell (p := ⟨w1.heap.size, 0, none⟩) lnn).trans qnn0, ((below_later hS.2 hbw3).cell (p := ⟨w1.heap.size, 1, none⟩) lnn).trans qnn1, ((below_later hS.2 hbw3).cell (p := ⟨w1.heap.size, 2, none⟩) lnn).trans qnn2⟩, below_later hS.2 hbw3⟩ (fun hHeld => ?_)
      clear hK K hS
      try simp only [Act.put, List.setIfInBounds_toArray, List.set_cons_zero, List.set_cons_succ]
      refine wpAnyH_ready (rs := [7]) (by kernel_rfl) (by simp) ?_
      refine consL rfl (fun K hK => ?_) AllReadyH.nil
      go_simp
      have hS := hHeld
      with_reducible refine (same13_yes (hNU.past hS.2).toNatAt (hND.past hS.2).toNatAt hXU.toNatAt hXD.toNatAt).mono ?_
      rintro e w4 ⟨rfl, hbw4⟩
      have hXU := hXU.past hbw4
      have hXD := hXD.past hbw4
      refine hK.out _ _ ⟨⟨((below_later hS.2 hbw4).cell (p := ⟨w1.heap.size, 0, none⟩) lnn).trans qnn0, ((below_later hS.2 hbw4).cell (p := ⟨w1.heap.size, 1, none⟩) lnn).trans qnn1, ((below_later hS.2 hbw4).cell (p := ⟨w1.heap.size, 2, none⟩) lnn).trans qnn2⟩, below_later hS.2 hbw4⟩ (fun hHeld => ?_)
      clear hK K hS
      try simp only [Act.put, List.setIfInBounds_toArray, List.set_cons_zero, List.set_cons_succ]
      refine takeL 8 (?_) rfl (by kernel_rfl) (by kernel_rfl) (by kernel_rfl) (fun _ _ _ h => h) (Or.inl ⟨by rfl, ?_⟩) (by assumption) ?_
      rotate_left
      · intro ws hSw; obtain ⟨⟨s0, s1, s2⟩, sB⟩ := hSw; go_simp; with_reducible rfl
      try simp only [Act.put, List.setIfInBounds_toArray, List.set_cons_zero, List.set_cons_succ]
      refine takeL 9 (?_) rfl (by kernel_rfl) (by kernel_rfl) (by kernel_rfl) (fun _ _ _ h => h) (Or.inl ⟨by rfl, ?_⟩) (by assumption) ?_
      rotate_left
      · intro ws hSw; obtain ⟨⟨s0, s1, s2⟩, sB⟩ := hSw; go_simp; with_reducible rfl
      try simp only [Act.put, List.setIfInBounds_toArray, List.set_cons_zero, List.set_cons_succ]
      refine wpAnyH_done (by kernel_rfl) ?_ _
      have hbR := hHeld.2
      have a2 := a2.past hbR
      have a3 := a3.past hbR
      have hNU := hNU.past hbR
      have hND := hND.past hbR
      have qnn0 := bq hbR lnn qnn0; have qnn1 := bq hbR lnn qnn1; have qnn2 := bq hbR lnn qnn2
      have lnn := bl hbR lnn
      have hB := below_later hB hbR
      clear hHeld hbR
      go_wp2_with fail
      rcases HHT.out with ⟨k1, k2, k3⟩ | ⟨k1, k2⟩
      · have K1 := Lib.hid k1
        have K2 := Lib.hid k2
        obtain ⟨V, hV⟩ : ∃ V, meanR (tabL (hlfW zs) j) = V := ⟨_, rfl⟩
        rw [hV] at k3
        have K3 := Lib.hid k3
        have K4 := Lib.hid hV
        clear k1 k2 k3 hV
        go_wp2_with fail
        with_reducible refine (mean_yes _ _ _ _ _ a3 K2.out).mono ?_
        rintro e w5 ⟨ahPU, nhPU, chPU, ahPD, nhPD, chPD, rfl, hPU, hPD, hb⟩
        have a2 := a2.past hb
        have a3 := a3.past hb
        have hB := below_later hB hb
        clear hb
        rw [K3.out] at hPU hPD ⊢
        go_wp2_with fail
        obtain ⟨w6, hW, hz0, hb, q, f⟩ := box1g w5 (w5.heap.size) (by omega) #[.bool (neg (V).num), .slice ahPU nhPU chPU, .slice ahPD nhPD chPD] 36
        rw [hW]
        clear hW
        have a2 := a2.past hb
        have a3 := a3.past hb
        have hPU := hPU.past hb
        have hPD := hPD.past hb
        have hB := below_later hB hb
        clear hb
        have lpb : w5.heap.size < w6.heap.size := by omega
        have qpb0 := q 0; have qpb1 := q 1; have qpb2 := q 2
        simp only [List.getElem?_toArray, List.getElem?_cons_zero, List.getElem?_cons_succ] at qpb0 qpb1 qpb2
        clear q f
        clear hz0
        with_reducible refine (mean_yes _ _ _ _ _ a2 K1.out).mono ?_
        rintro e w7 ⟨ahRU, nhRU, chRU, ahRD, nhRD, chRD, rfl, hRU, hRD, hb⟩
        have a2 := a2.past hb
        have a3 := a3.past hb
        have hPU := hPU.past hb
        have hPD := hPD.past hb
        have qpb0 := bq hb lpb qpb0; have qpb1 := bq hb lpb qpb1; have qpb2 := bq hb lpb qpb2
        have lpb := bl hb lpb
        have hB := below_later hB hb
        clear hb
        rw [K4.out] at hRU hRD ⊢
        go_wp2_with fail
        obtain ⟨w8, hW, hz0, hb, q, f⟩ := box1g w7 (w7.heap.size) (by omega) #[.bool (neg (V).num), .slice ahRU nhRU chRU, .slice ahRD nhRD chRD] 36
        rw [hW]
        clear hW
        have hPU := hPU.past hb
        have hPD := hPD.past hb
        have hRU := hRU.past hb
        have hRD := hRD.past hb
        have qpb0 := bq hb lpb qpb0; have qpb1 := bq hb lpb qpb1; have qpb2 := bq hb lpb qpb2
        have lpb := bl hb lpb
        have hB := below_later hB hb
        clear hb
        have lqb : w7.heap.size < w8.heap.size := by omega
        have qqb0 := q 0; have qqb1 := q 1; have qqb2 := q 2
        simp only [List.getElem?_toArray, List.getElem?_cons_zero, List.getElem?_cons_succ] at qqb0 qqb1 qqb2
        clear q f
        clear hz0
        with_reducible refine (same13_yes hPU.toNatAt hPD.toNatAt hRU.toNatAt hRD.toNatAt).mono ?_
        rintro e w9 ⟨rfl, hb⟩
        have hPU := hPU.past hb
        have hPD := hPD.past hb
        have hRU := hRU.past hb
        have hRD := hRD.past hb
        have qpb0 := bq hb lpb qpb0; have qpb1 := bq hb lpb qpb1; have qpb2 := bq hb lpb qpb2
        have lpb := bl hb lpb
        have qqb0 := bq hb lqb qqb0; have qqb1 := bq hb lqb qqb1; have qqb2 := bq hb lqb qqb2
        have lqb := bl hb lqb
        have hB := below_later hB hb
        clear hb
        go_wp2
        go_ret
        exact ⟨rfl, hB⟩
      · have K1 := Lib.hid k1
        have K2 := Lib.hid k2
        clear k1 k2
        go_wp2_with fail
        with_reducible refine (mean_no _ _ _ _ _ a3 K2.out).mono ?_
        rintro e w5 ⟨rfl, hb⟩
        have a2 := a2.past hb
        have a3 := a3.past hb
        have hB := below_later hB hb
        clear hb
        go_wp2_with fail
        obtain ⟨w6, hW, hz0, hb, q, f⟩ := box1g w5 (w5.heap.size) (by omega) #[.bool false, .slice none 0 0, .slice none 0 0] 36
        rw [hW]
        clear hW
        have a2 := a2.past hb
        have a3 := a3.past hb
        have hB := below_later hB hb
        clear hb
        have lpb : w5.heap.size < w6.heap.size := by omega
        have qpb0 := q 0; have qpb1 := q 1; have qpb2 := q 2
        simp only [List.getElem?_toArray, List.getElem?_cons_zero, List.getElem?_cons_succ] at qpb0 qpb1 qpb2
        clear q f
        clear hz0
        with_reducible refine (mean_no _ _ _ _ _ a2 K1.out).mono ?_
        rintro e w7 ⟨rfl, hb⟩
        have a2 := a2.past hb
        have a3 := a3.past hb
        have qpb0 := bq hb lpb qpb0; have qpb1 := bq hb lpb qpb1; have qpb2 := bq hb lpb qpb2
        have lpb := bl hb lpb
        have hB := below_later hB hb
        clear hb
        go_wp2_with fail
        obtain ⟨w8, hW, hz0, hb, q, f⟩ := box1g w7 (w7.heap.size) (by omega) #[.bool false, .slice none 0 0, .slice none 0 0] 36
        rw [hW]
        clear hW
        have qpb0 := bq hb lpb qpb0; have qpb1 := bq hb lpb qpb1; have qpb2 := bq hb lpb qpb2
        have lpb := bl hb lpb
        have hB := below_later hB hb
        clear hb
        have lqb : w7.heap.size < w8.heap.size := by omega
        have qqb0 := q 0; have qqb1 := q 1; have qqb2 := q 2
        simp only [List.getElem?_toArray, List.getElem?_cons_zero, List.getElem?_cons_succ] at qqb0 qqb1 qqb2
        clear q f
        clear hz0
        with_reducible refine (sameNil).mono ?_
        rintro e w9 ⟨rfl, hb⟩
        have qpb0 := bq hb lpb qpb0; have qpb1 := bq hb lpb qpb1; have qpb2 := bq hb lpb qpb2
        have lpb := bl hb lpb
        have qqb0 := bq hb lqb qqb0; have qqb1 := bq hb lqb qqb1; have qqb2 := bq hb lqb qqb2
        have lqb := bl hb lqb
        have hB := below_later hB hb
        clear hb
        go_wp2
        go_ret
        exact ⟨rfl, hB⟩

theorem solitonMean_any (a : Option Addr) (n c : Nat) (zs : List Int) (y : Int) (w : World) (g : IntsAt w a n c zs) (hy : -9223372036854775808 ≤ y ∧ y ≤ 9223372036854775807) :
    Calls Try.prog 9 #[.slice a n c, .int .i64 y] w (RetVal w (.bool true)) := by
  by_cases hn : n ≤ 60
  · by_cases h : okT zs 60
    · exact solitonMean_go a n c zs y w g hy hn h
    · exact solitonMean_bad a n c zs y w g hy hn h
  · exact solitonMean_long a n c zs y w g hy hn

end Go.Proofs.Ytlkoenpdmlbhlaa
