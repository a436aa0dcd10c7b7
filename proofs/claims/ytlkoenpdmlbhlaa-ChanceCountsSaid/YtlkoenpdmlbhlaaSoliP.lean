/- plain: what tables are, and what their weights come to. -/
import Derived.Test.YtlkoenpdmlbhlaaSoli1
import Derived.Test.YtlkoenpdmlbhlaaRat5
set_option linter.unusedVariables false
set_option linter.unusedSimpArgs false
namespace Go.Proofs.Ytlkoenpdmlbhlaa
open Go.RowKit

def tabL (W : Nat → Int) (K : Nat) : List Int := (List.range K).map fun i => W (i + 1)
theorem rndN_le {v d N : Nat} (hd : 0 < d) (h : v ≤ N * d) : rndN v d ≤ N := by
  have h1 := Nat.div_add_mod v d
  have h2 := Nat.mod_lt v hd
  have h3 : v / d ≤ N := by
    rcases Nat.lt_or_ge N (v / d) with h | h
    · have : d * (N + 1) ≤ d * (v / d) := Nat.mul_le_mul_left d h
      rw [Nat.mul_comm d (N + 1), Nat.succ_mul] at this
      omega
    · exact h
  by_cases e : v / d = N
  · have : v % d = 0 := by rw [e, Nat.mul_comm] at h1; omega
    unfold rndN
    rw [this, if_neg (by omega), e]
    exact Nat.le_refl _
  · unfold rndN
    split <;> omega
theorem rndN_pos {v d : Nat} (hd : 0 < d) (h : d < 2 * v) : 1 ≤ rndN v d := by
  unfold rndN
  rcases Nat.lt_or_ge v d with h1 | h1
  · rw [Nat.mod_eq_of_lt h1, if_pos (.inl h)]
    exact Nat.le_add_left 1 _
  · have : 1 ≤ v / d := (Nat.one_le_div_iff hd).2 h1
    split
    · exact Nat.le_succ_of_le this
    · exact this
theorem rndN_whole {v d t : Nat} (hd : 0 < d) (h : v = t * d) : rndN v d = t := by
  unfold rndN
  subst h
  rw [Nat.mul_mod_left, Nat.mul_div_cancel _ hd, if_neg (by omega)]
theorem rndR_nonneg {q : Rat} (h : 0 ≤ q) : rndR q = (rndN q.num.natAbs q.den : Int) := by
  have : ¬ q.num < 0 := Int.not_lt.2 (Rat.num_nonneg.2 h)
  unfold rndR sg neg
  rw [if_neg (by simpa using this)]
theorem rndN_scale {v d g : Nat} (hg : 0 < g) : rndN (v * g) (d * g) = rndN v d := by
  unfold rndN
  rw [Nat.mul_mod_mul_right, Nat.mul_div_mul_right _ _ hg]
  have e1 : (d * g < 2 * (v % d * g)) = (d < 2 * (v % d)) := by
    rw [← Nat.mul_assoc]
    exact propext ⟨fun h => Nat.lt_of_mul_lt_mul_right h, fun h => Nat.mul_lt_mul_of_pos_right h hg⟩
  have e2 : (2 * (v % d * g) = d * g) = (2 * (v % d) = d) := by
    rw [← Nat.mul_assoc]
    exact propext ⟨fun h => Nat.eq_of_mul_eq_mul_right hg h, fun h => by rw [h]⟩
  simp only [e1, e2]
theorem tabL_len (W : Nat → Int) (K : Nat) : (tabL W K).length = K := by simp [tabL]
theorem tabL_get {W : Nat → Int} {K i : Nat} (hi : i < K) : (tabL W K).getD i 0 = W (i + 1) := by
  rw [List.getD_eq_getElem?_getD]
  simp [tabL, hi]
theorem okT_of {W : Nat → Int} {K : Nat} (hk : 1 ≤ K) (hk2 : K ≤ 65536) (h : ∀ d, 1 ≤ d → d ≤ K → 0 ≤ W d ∧ W d ≤ 16777215) (h1 : 1 ≤ W 1) : okT (tabL W K) (K : Int) := by
  refine ⟨by omega, by omega, by rw [tabL_len]; exact hk, by rw [tabL_len]; exact Int.le_refl _, fun z hz => ?_, W 1, List.mem_map.2 ⟨0, List.mem_range.2 hk, rfl⟩, by omega⟩
  obtain ⟨i, hi, rfl⟩ := List.mem_map.1 hz
  exact h _ (by omega) (List.mem_range.1 hi)
theorem okT_mono {zs : List Int} {k k2 : Int} (h : okT zs k) (h1 : k ≤ k2) (h2 : k2 ≤ 65536) : okT zs k2 :=
  ⟨by have := h.1; omega, h2, h.2.2.1, Int.le_trans h.2.2.2.1 h1, h.2.2.2.2⟩
/-- sums, weighed and not -/
def upS (g : Nat → Int) : Nat → Int
  | 0 => 0
  | i + 1 => upS g i + g i * ((i + 1 : Nat) : Int)
def totS (g : Nat → Int) : Nat → Int
  | 0 => 0
  | i + 1 => totS g i + g i
theorem upS_congr {g h : Nat → Int} : ∀ n, (∀ i, i < n → g i = h i) → upS g n = upS h n
  | 0, _ => rfl
  | n + 1, e => by rw [upS, upS, upS_congr n fun i hi => e i (by omega), e n (by omega)]
theorem totS_congr {g h : Nat → Int} : ∀ n, (∀ i, i < n → g i = h i) → totS g n = totS h n
  | 0, _ => rfl
  | n + 1, e => by rw [totS, totS, totS_congr n fun i hi => e i (by omega), e n (by omega)]
theorem totS_in {g : Nat → Int} : ∀ n, (∀ i, i < n → 0 ≤ g i ∧ g i ≤ 16777215) → 0 ≤ totS g n ∧ totS g n ≤ n * 16777215
  | 0, _ => by simp [totS]
  | n + 1, e => by
    have h := totS_in n fun i hi => e i (by omega)
    have := e n (by omega)
    rw [totS]
    omega
theorem upS_in {g : Nat → Int} : ∀ n, (∀ i, i < n → 0 ≤ g i) → totS g n ≤ upS g n ∧ upS g n ≤ n * totS g n ∧ 0 ≤ totS g n
  | 0, _ => by simp [totS, upS]
  | n + 1, e => by
    obtain ⟨h1, h2, h3⟩ := upS_in n fun i hi => e i (by omega)
    have := e n (by omega)
    rw [totS, upS]
    generalize totS g n = t at *
    generalize upS g n = u at *
    generalize g n = x at *
    have e1 : x * ((n + 1 : Nat) : Int) = x * n + x := by rw [Int.natCast_add, Int.mul_add, Int.natCast_one, Int.mul_one]
    have e2 : ((n + 1 : Nat) : Int) * (t + x) = n * t + t + (n * x + x) := by rw [Int.natCast_add, Int.add_mul, Int.natCast_one, Int.one_mul, Int.mul_add]; omega
    have e3 : (n : Int) * x = x * n := Int.mul_comm _ _
    have e4 : 0 ≤ x * n := Int.mul_nonneg this (by omega)
    rw [e1, e2, e3]
    omega
theorem sumW_tot {zs : List Int} : ∀ n, n ≤ 65536 → (∀ i, i < n → 0 ≤ zs.getD i 0 ∧ zs.getD i 0 ≤ 16777215) → sumW zs n = totS (fun i => zs.getD i 0) n
  | 0, _, _ => rfl
  | n + 1, h, e => by
    have h1 := totS_in (g := fun i => zs.getD i 0) n fun i hi => e i (by omega)
    have h2 := e n (by omega)
    rw [sumW, totS, sumW_tot n (by omega) fun i hi => e i (by omega)]
    unfold wrap64
    generalize totS (fun i => zs.getD i 0) n = t at *
    generalize zs.getD n 0 = x at *
    omega
theorem okT_in {zs : List Int} {k : Int} (h : okT zs k) : ∀ i, i < zs.length → 0 ≤ zs.getD i 0 ∧ zs.getD i 0 ≤ 16777215 := fun i hi => h.2.2.2.2.1 _ (getD_mem' hi)
theorem totS_pos {g : Nat → Int} : ∀ n, (∀ i, i < n → 0 ≤ g i) → (∃ i, i < n ∧ 0 < g i) → 0 < totS g n
  | 0, _, h => by obtain ⟨i, hi, _⟩ := h; omega
  | n + 1, e, h => by
    have h3 := (upS_in n fun i hi => e i (by omega)).2.2
    obtain ⟨i, hi, hp⟩ := h
    rw [totS]
    by_cases hin : i = n
    · subst hin; omega
    · have := totS_pos n (fun i hi => e i (by omega)) ⟨i, by omega, hp⟩
      have := e n (by omega)
      omega
theorem okT_pos {zs : List Int} {k : Int} (h : okT zs k) : 0 < totS (fun i => zs.getD i 0) zs.length := by
  obtain ⟨z, hz, h0⟩ := h.2.2.2.2.2
  obtain ⟨i, hi, rfl⟩ := List.getElem_of_mem hz
  refine totS_pos _ (fun i hi => (okT_in h i hi).1) ⟨i, hi, ?_⟩
  simp only [List.getD_eq_getElem?_getD, List.getElem?_eq_getElem hi]
  exact h0
def meanF (g : Nat → Int) (n : Nat) : Rat := mkRat (upS g n) (totS g n).natAbs
/-- the mean degree -/
def meanR (zs : List Int) : Rat := meanF (fun i => zs.getD i 0) zs.length
theorem mk_one (c : Int) : mkRat c 1 = (c : Rat) := by rw [Rat.mkRat_eq_div, Rat.div_def, show ((1 : Nat) : Rat)⁻¹ = 1 by decide +kernel, Rat.mul_one]
theorem mk_le {a : Int} {b : Nat} {c : Int} (hb : 0 < b) : mkRat a b ≤ mkRat c 1 ↔ a ≤ c * b := by
  have h0 : (0 : Rat) < (b : Rat) := Rat.natCast_pos.2 hb
  rw [← Rat.not_lt, mk_one, Rat.mkRat_eq_div, Rat.lt_div_iff h0, Rat.not_lt, show (c : Rat) * (b : Rat) = ((c * (b : Int) : Int) : Rat) by rw [Rat.intCast_mul]; rfl]
  exact Rat.intCast_le_intCast
theorem mk_ge {a : Int} {b : Nat} {c : Int} (hb : 0 < b) : mkRat c 1 ≤ mkRat a b ↔ c * b ≤ a := by
  have h0 : (0 : Rat) < (b : Rat) := Rat.natCast_pos.2 hb
  rw [← Rat.not_lt, mk_one, Rat.mkRat_eq_div, Rat.div_lt_iff h0, Rat.not_lt, show (c : Rat) * (b : Rat) = ((c * (b : Int) : Int) : Rat) by rw [Rat.intCast_mul]; rfl]
  exact Rat.intCast_le_intCast
theorem meanR_low {zs : List Int} {k : Int} (h : okT zs k) : mkRat 1 1 ≤ meanR zs := by
  have h1 := okT_pos h
  have h2 := upS_in (g := fun i => zs.getD i 0) zs.length fun i hi => (okT_in h i hi).1
  exact (mk_ge (by omega)).2 (by omega)
theorem meanR_high {zs : List Int} {k : Int} (h : okT zs k) : meanR zs ≤ mkRat (zs.length : Int) 1 := by
  have h1 := okT_pos h
  have h2 := upS_in (g := fun i => zs.getD i 0) zs.length fun i hi => (okT_in h i hi).1
  refine (mk_le (by omega)).2 ?_
  have : ((totS (fun i => zs.getD i 0) zs.length).natAbs : Int) = totS (fun i => zs.getD i 0) zs.length := by omega
  rw [this]
  exact h2.2.1
/-- a list of one number above 0 -/
theorem totS_zero {g : Nat → Int} : ∀ n, (∀ i, i < n → g i = 0) → totS g n = 0 ∧ upS g n = 0
  | 0, _ => ⟨rfl, rfl⟩
  | n + 1, e => by
    obtain ⟨h1, h2⟩ := totS_zero n fun i hi => e i (by omega)
    rw [totS, upS, h1, h2, e n (by omega)]
    simp
theorem sum_one {g : Nat → Int} {w : Nat} {x : Int} (hw : g w = x) : ∀ n, w < n → (∀ i, i < n → i ≠ w → g i = 0) → totS g n = x ∧ upS g n = x * ((w + 1 : Nat) : Int)
  | 0, h, _ => absurd h (Nat.not_lt_zero _)
  | n + 1, h, e => by
    rw [totS, upS]
    by_cases hn : n = w
    · subst hn
      obtain ⟨h1, h2⟩ := totS_zero n fun i hi => e i (by omega) (by omega)
      rw [h1, h2, hw]
      simp
    · obtain ⟨h1, h2⟩ := sum_one hw n (by omega) fun i hi hne => e i (by omega) hne
      rw [h1, h2, e n (by omega) hn]
      simp
theorem sum_twice {g : Nat → Int} : ∀ n, totS (fun i => 2 * g i) n = 2 * totS g n ∧ upS (fun i => 2 * g i) n = 2 * upS g n
  | 0 => ⟨rfl, rfl⟩
  | n + 1 => by
    obtain ⟨h1, h2⟩ := sum_twice (g := g) n
    rw [totS, upS, totS, upS, h1, h2, Int.mul_assoc]
    omega
theorem mean_twice {g : Nat → Int} {n : Nat} (h : totS g n ≠ 0) : meanF (fun i => 2 * g i) n = meanF g n := by
  unfold meanF
  rw [(sum_twice n).1, (sum_twice n).2, Rat.mkRat_eq_iff (by omega) (by omega)]
  have : ((2 * totS g n).natAbs : Int) = 2 * ((totS g n).natAbs : Int) := by omega
  rw [this, Int.mul_assoc, Int.mul_left_comm]
theorem mean_one {g : Nat → Int} {n w : Nat} {x : Int} (hx : 0 < x) (hw : g w = x) (hn : w < n) (h0 : ∀ i, i < n → i ≠ w → g i = 0) : meanF g n = mkRat ((w + 1 : Nat) : Int) 1 := by
  unfold meanF
  rw [(sum_one hw n hn h0).1, (sum_one hw n hn h0).2, Rat.mkRat_eq_iff (by omega) (by omega)]
  have : (x.natAbs : Int) = x := by omega
  rw [this]
  simp [Int.mul_comm]
theorem rndR_mk (v : Nat) {d : Nat} (hd : d ≠ 0) : rndR (mkRat (v : Int) d) = (rndN v d : Int) := by
  have h0 : 0 < Nat.gcd v d := Nat.gcd_pos_of_pos_right _ (Nat.pos_of_ne_zero hd)
  obtain ⟨e1, e2⟩ := mkRat_parts (z := (v : Int)) hd
  rw [Int.natAbs_natCast, ← Int.natCast_ediv] at e1
  rw [Int.natAbs_natCast] at e2
  have hn : neg (((v / Nat.gcd v d : Nat) : Int)) = false := decide_eq_false (Int.not_lt.2 (Int.natCast_nonneg _))
  have hv := Nat.div_mul_cancel (Nat.gcd_dvd_left v d)
  have hw := Nat.div_mul_cancel (Nat.gcd_dvd_right v d)
  unfold rndR
  rw [e1, e2, hn, Int.natAbs_natCast, ← rndN_scale h0, hv, hw]
  rfl
/-- what the weights come to -/
theorem ideal_wt {K S d : Nat} (hK : 1 ≤ K) (hd : 1 ≤ d) : ∃ D, 1 ≤ D ∧ (d = 1 → D = K) ∧ (d ≠ 1 → D = d * (d - 1)) ∧ idealR K d = mkRat 1 D ∧ rndR (idealR K d * mkRat (S : Int) 1) = (rndN S D : Int) := by
  unfold idealR
  by_cases h : d = 1
  · rw [if_pos h]
    refine ⟨K, hK, fun _ => rfl, fun e => absurd h e, rfl, ?_⟩
    rw [Rat.mkRat_mul_mkRat, Int.one_mul, Nat.mul_one]
    exact rndR_mk S (by omega)
  · rw [if_neg h]
    have hD : 1 ≤ d * (d - 1) := Nat.mul_pos (by omega) (by omega)
    refine ⟨_, hD, fun e => absurd e h, fun _ => rfl, rfl, ?_⟩
    rw [Rat.mkRat_mul_mkRat, Int.one_mul, Nat.mul_one]
    exact rndR_mk S (by omega)
theorem spike_wt {sp d m : Nat} (hs : 1 ≤ sp) (hd : 1 ≤ d) (hm : m ≤ 300) : ∃ A B : Nat, 1 ≤ B ∧ A ≤ 3 * B ∧ spikeR sp (mkRat (m : Int) 100) d = mkRat (A : Int) B := by
  unfold spikeR
  by_cases h : d < sp
  · rw [if_pos h]
    have hD : 1 ≤ d * sp := Nat.mul_pos (by omega) (by omega)
    exact ⟨1, _, hD, by omega, rfl⟩
  · rw [if_neg h]
    by_cases h2 : d = sp
    · rw [if_pos h2]
      exact ⟨m, 100, by omega, by omega, rfl⟩
    · rw [if_neg h2]
      exact ⟨0, 1, by omega, by omega, by simp⟩
theorem both_wt {K S sp d m : Nat} (hK : 1 ≤ K) (hs : 1 ≤ sp) (hd : 1 ≤ d) (hm : m ≤ 300) :
    0 ≤ rndR ((idealR K d + spikeR sp (mkRat (m : Int) 100) d) * mkRat (S : Int) 1) ∧ rndR ((idealR K d + spikeR sp (mkRat (m : Int) 100) d) * mkRat (S : Int) 1) ≤ ((4 * S : Nat) : Int) ∧
    (d = 1 → K < S → 1 ≤ rndR ((idealR K d + spikeR sp (mkRat (m : Int) 100) d) * mkRat (S : Int) 1)) := by
  obtain ⟨D, hD, h1, h2, e, _⟩ := ideal_wt (S := S) hK hd
  obtain ⟨A, B, hB, hA, e2⟩ := spike_wt hs hd hm
  have hDB : D * B ≠ 0 := Nat.mul_ne_zero (by omega) (by omega)
  have e3 : (1 * (B : Int) + (A : Int) * (D : Int)) * (S : Int) = (((B + A * D) * S : Nat) : Int) := by rw [Int.natCast_mul, Int.natCast_add, Int.natCast_mul, Int.one_mul]
  rw [e, e2, Rat.mkRat_add_mkRat _ _ (by omega) (by omega), Rat.mkRat_mul_mkRat, Nat.mul_one, e3, rndR_mk _ hDB]
  have hDB0 : 0 < D * B := Nat.pos_of_ne_zero hDB
  refine ⟨by omega, ?_, fun hd1 hKS => ?_⟩
  · have : B + A * D ≤ 4 * (D * B) := by
      have h3 : A * D ≤ 3 * B * D := Nat.mul_le_mul_right D hA
      have h4 : 1 * B ≤ D * B := Nat.mul_le_mul_right B hD
      have h5 : 3 * B * D = 3 * (D * B) := by rw [Nat.mul_assoc, Nat.mul_comm B D]
      omega
    have h3 := Nat.mul_le_mul_right S this
    have := rndN_le (N := 4 * S) hDB0 (by rw [show 4 * S * (D * B) = 4 * (D * B) * S by rw [Nat.mul_assoc, Nat.mul_comm S, ← Nat.mul_assoc]]; exact h3)
    omega
  · have hk := h1 hd1
    subst hk
    have h3 : B * S ≤ (B + A * D) * S := Nat.mul_le_mul_right S (by omega)
    have h4 : D * B ≤ B * S := by rw [Nat.mul_comm D B]; exact Nat.mul_le_mul_left B (by omega)
    have := rndN_pos hDB0 (show D * B < 2 * ((B + A * D) * S) by omega)
    omega

/-- sums of shares -/
def sumS (f : Nat → Nat → Rat) (d : Nat) : Nat → Rat
  | 0 => 0
  | i + 1 => sumS f d i + f i d
def shR (k sp : Nat) (m : Rat) (i d : Nat) : Rat := if i = 0 then idealR k d else spikeR sp m d
def wtR (f : Nat → Nat → Rat) (n : Nat) (s : Int) (d : Nat) : Int := rndR (sumS f d n * (mkRat s 1))
theorem sumS_one (k sp : Nat) (m : Rat) (d : Nat) : sumS (shR k sp m) d 1 = idealR k d := Rat.zero_add _
theorem sumS_two (k sp : Nat) (m : Rat) (d : Nat) : sumS (shR k sp m) d 2 = idealR k d + spikeR sp m d := by
  show 0 + idealR k d + spikeR sp m d = _
  rw [Rat.zero_add]
theorem wt_one {K S sp d : Nat} {m : Rat} (hK : 1 ≤ K) (hd : 1 ≤ d) : ∃ D, 1 ≤ D ∧ (d = 1 → D = K) ∧ (d ≠ 1 → D = d * (d - 1)) ∧ idealR K d = mkRat 1 D ∧ wtR (shR K sp m) 1 (S : Int) d = (rndN S D : Int) := by
  unfold wtR
  rw [sumS_one]
  exact ideal_wt hK hd
/-- an ideal table is one, if the scale is above k -/
theorem ok_one {K S sp : Nat} {m : Rat} (hK : 1 ≤ K) (hK2 : K ≤ 65536) (hS : S ≤ 16777215) (h : K < S) : okT (tabL (wtR (shR K sp m) 1 (S : Int)) K) (K : Int) := by
  refine okT_of hK hK2 (fun d h1 h2 => ?_) ?_
  · obtain ⟨D, hD, _, _, _, e⟩ := wt_one (S := S) (sp := sp) (m := m) hK h1
    rw [e]
    have := rndN_le (v := S) (d := D) (N := S) hD (Nat.le_mul_of_pos_right S hD)
    omega
  · obtain ⟨D, hD, h1, _, _, e⟩ := wt_one (S := S) (sp := sp) (m := m) hK (Nat.le_refl 1)
    rw [e]
    have := rndN_pos (v := S) (d := D) hD (by have := h1 rfl; omega)
    omega
theorem ok_two {K S sp m : Nat} (hK : 1 ≤ K) (hK2 : K ≤ 65536) (hS : S ≤ 10000) (hs : 1 ≤ sp) (hm : m ≤ 300) (h : K < S) : okT (tabL (wtR (shR K sp (mkRat (m : Int) 100)) 2 (S : Int)) K) (K : Int) := by
  refine okT_of hK hK2 (fun d h1 h2 => ?_) ?_
  · have := both_wt (S := S) hK hs h1 hm
    unfold wtR
    rw [sumS_two]
    omega
  · have := both_wt (S := S) hK hs (Nat.le_refl 1) hm
    unfold wtR
    rw [sumS_two]
    exact this.2.2 rfl h
/-- where all is whole -/
theorem wt_whole {K S sp d t : Nat} {m : Rat} (hK : 1 ≤ K) (hd : 1 ≤ d) (h1 : d = 1 → S = t * K) (h2 : d ≠ 1 → S = t * (d * (d - 1))) : wtR (shR K sp m) 1 (S : Int) d = (t : Int) := by
  obtain ⟨D, hD, e1, e2, _, e⟩ := wt_one (S := S) (sp := sp) (m := m) hK hd
  rw [e]
  congr 1
  refine rndN_whole hD ?_
  by_cases h : d = 1
  · rw [e1 h]; exact h1 h
  · rw [e2 h]; exact h2 h
theorem whole_all {K M sp : Nat} {m : Rat} (hK : 1 ≤ K) (hK2 : K ≤ 12) : totS (fun i => wtR (shR K sp m) 1 ((27720 * K * M : Nat) : Int) (i + 1)) K = ((27720 * K * M : Nat) : Int) ∧ ∀ d, 1 ≤ d → d ≤ K → (d = 1 → wtR (shR K sp m) 1 ((27720 * K * M : Nat) : Int) d * K = ((27720 * K * M : Nat) : Int)) ∧ (d ≠ 1 → wtR (shR K sp m) 1 ((27720 * K * M : Nat) : Int) d * d * (d - 1) = ((27720 * K * M : Nat) : Int)) := by
  have hw1 : ∀ t, 27720 * K * M = t * K → wtR (shR K sp m) 1 ((27720 * K * M : Nat) : Int) 1 = (t : Int) := fun t h => wt_whole hK (Nat.le_refl 1) (fun _ => h) (fun e => absurd rfl e)
  have hw : ∀ d t, 2 ≤ d → 27720 * K * M = t * (d * (d - 1)) → wtR (shR K sp m) 1 ((27720 * K * M : Nat) : Int) d = (t : Int) := fun d t h1 h => wt_whole hK (by omega) (fun e => by omega) (fun _ => h)
  generalize wtR (shR K sp m) 1 ((27720 * K * M : Nat) : Int) = W at *
  have w1 := hw1 (27720 * M) (by rw [Nat.mul_assoc, Nat.mul_assoc, Nat.mul_comm K M])
  have w2 := hw 2 (13860 * (K * M)) (by decide) (by rw [Nat.mul_assoc 27720 K M]; generalize K * M = X; omega)
  have w3 := hw 3 (4620 * (K * M)) (by decide) (by rw [Nat.mul_assoc 27720 K M]; generalize K * M = X; omega)
  have w4 := hw 4 (2310 * (K * M)) (by decide) (by rw [Nat.mul_assoc 27720 K M]; generalize K * M = X; omega)
  have w5 := hw 5 (1386 * (K * M)) (by decide) (by rw [Nat.mul_assoc 27720 K M]; generalize K * M = X; omega)
  have w6 := hw 6 (924 * (K * M)) (by decide) (by rw [Nat.mul_assoc 27720 K M]; generalize K * M = X; omega)
  have w7 := hw 7 (660 * (K * M)) (by decide) (by rw [Nat.mul_assoc 27720 K M]; generalize K * M = X; omega)
  have w8 := hw 8 (495 * (K * M)) (by decide) (by rw [Nat.mul_assoc 27720 K M]; generalize K * M = X; omega)
  have w9 := hw 9 (385 * (K * M)) (by decide) (by rw [Nat.mul_assoc 27720 K M]; generalize K * M = X; omega)
  have w10 := hw 10 (308 * (K * M)) (by decide) (by rw [Nat.mul_assoc 27720 K M]; generalize K * M = X; omega)
  have w11 := hw 11 (252 * (K * M)) (by decide) (by rw [Nat.mul_assoc 27720 K M]; generalize K * M = X; omega)
  have w12 := hw 12 (210 * (K * M)) (by decide) (by rw [Nat.mul_assoc 27720 K M]; generalize K * M = X; omega)
  clear hw hw1
  rcases (by omega : K = 1 ∨ K = 2 ∨ K = 3 ∨ K = 4 ∨ K = 5 ∨ K = 6 ∨ K = 7 ∨ K = 8 ∨ K = 9 ∨ K = 10 ∨ K = 11 ∨ K = 12) with rfl | rfl | rfl | rfl | rfl | rfl | rfl | rfl | rfl | rfl | rfl | rfl
  all_goals
    refine ⟨by simp only [totS, Nat.zero_add, Nat.reduceAdd, w1, w2, w3, w4, w5, w6, w7, w8, w9, w10, w11, w12]; omega, fun d h1 h2 => ⟨fun e => by subst e; rw [w1]; omega, fun e => ?_⟩⟩
    rcases (by omega : d = 2 ∨ d = 3 ∨ d = 4 ∨ d = 5 ∨ d = 6 ∨ d = 7 ∨ d = 8 ∨ d = 9 ∨ d = 10 ∨ d = 11 ∨ d = 12) with rfl | rfl | rfl | rfl | rfl | rfl | rfl | rfl | rfl | rfl | rfl
    all_goals first | omega | (first | rw [w2] | rw [w3] | rw [w4] | rw [w5] | rw [w6] | rw [w7] | rw [w8] | rw [w9] | rw [w10] | rw [w11] | rw [w12]) <;> simp only [Int.mul_assoc] <;> omega

end Go.Proofs.Ytlkoenpdmlbhlaa
