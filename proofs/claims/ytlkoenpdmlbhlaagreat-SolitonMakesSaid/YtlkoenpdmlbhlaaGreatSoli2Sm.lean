import Derived.Test.YtlkoenpdmlbhlaaGreatS0Sm
import Derived.Test.YtlkoenpdmlbhlaaGreatSoliPSm
import Derived.Test.YtlkoenpdmlbhlaaGreatReg7Sm
import Derived.Test.YtlkoenpdmlbhlaaGreatRatio11Sm
set_option linter.unusedVariables false
set_option linter.unusedSimpArgs false
namespace Go.Proofs.YtlkoenpdmlbhlaaGreat
open Go.RowKit
structure IntsOwn (w : World) (B g n : Nat) (zs : List Int) : Prop where
 len : zs.length = n
 big : n ≤ maxLen
 lo : B ≤ g
 hi : g < w.heap.size
 cell : ∀ i, i < n → w.cell? ⟨g, i, none⟩ = some (.int .i64 (zs.getD i 0))
 free : ∀ i, w.frozen? ⟨g, i, none⟩ = false
theorem IntsOwn.past {w w' : World} {B g n : Nat} {zs : List Int} (h : IntsOwn w B g n zs) (hb : Below w.heap.size w w') : IntsOwn w' B g n zs :=
 ⟨h.len, h.big, h.lo, Nat.lt_of_lt_of_le h.hi hb.size, fun i hi => (hb.cell (p := ⟨g, i, none⟩) h.hi).trans (h.cell i hi), fun i => (hb.frozen (p := ⟨g, i, none⟩) h.hi).trans (h.free i)⟩
theorem IntsOwn.drew {w : World} {B g n : Nat} {zs : List Int} (h : IntsOwn w B g n zs) : IntsOwn w.drew B g n zs := h.past (Below.refl _ _).drew
theorem IntsOwn.sets {B g n b2 : Nat} {zs : List Int} (hne : b2 ≠ g) : ∀ (vs : List Value) (o : Nat) (w : World), IntsOwn w B g n zs → IntsOwn (w.setCells b2 o vs) B g n zs
 | [], _, _, h => h
 | v :: r, o, w, h => IntsOwn.sets hne r (o + 1) _ ⟨h.len, h.big, h.lo, by simpa using h.hi, fun i hi => by rw [World.cell?_setCell_other _ _ _ _ (fun e => hne (congrArg Addr.block e))]; exact h.cell i hi, fun i => by rw [World.frozen?_setCell]; exact h.free i⟩
theorem IntsOwn.at_ {w : World} {B g n : Nat} {zs : List Int} (h : IntsOwn w B g n zs) (hw : ∀ z ∈ zs, -9223372036854775808 ≤ z ∧ z ≤ 9223372036854775807) : IntsAt w (some ⟨g, 0, none⟩) n n zs :=
 ⟨h.len, Nat.le_refl _, h.big, .inr ⟨g, 0, rfl, h.hi, fun i hi => by rw [Nat.zero_add]; exact h.cell i hi⟩, (fun e => by cases e), hw⟩
theorem IntsOwn.set {w : World} {B g n : Nat} {zs : List Int} (h : IntsOwn w B g n zs) {i : Nat} (hi : i < n) (z : Int) : IntsOwn (w.setCell ⟨g, i, none⟩ (.int .i64 z)) B g n (zs.set i z) := by
 refine ⟨by rw [List.length_set]; exact h.len, h.big, h.lo, by simpa using h.hi, fun j hj => ?_, fun j => by rw [World.frozen?_setCell]; exact h.free j⟩
 have hl := h.len
 by_cases e : i = j
 · subst e
   rw [World.cell?_setCell_same _ _ _ (h.cell i hi), List.getD_eq_getElem?_getD, List.getElem?_set_self (by omega)]
   rfl
 · rw [World.cell?_setCell_other _ _ _ _ (fun x => e (by injection x)), h.cell j hj, List.getD_eq_getElem?_getD, List.getD_eq_getElem?_getD, List.getElem?_set_ne e]
def outL (W : Nat → Int) (K j : Nat) : List Int := (List.range K).map fun i => if i < j then W (i + 1) else 0
theorem outL_len (W : Nat → Int) (K j : Nat) : (outL W K j).length = K := by simp [outL]
theorem outL_get {W : Nat → Int} {K j i : Nat} (hi : i < K) : (outL W K j).getD i 0 = if i < j then W (i + 1) else 0 := by
 rw [List.getD_eq_getElem?_getD]
 simp [outL, hi]
theorem outL_set {W : Nat → Int} {K j : Nat} (hj : j < K) : (outL W K j).set j (W (j + 1)) = outL W K (j + 1) := by
 apply List.ext_getElem?
 intro i
 by_cases hi : i < K
 · by_cases e : j = i
   · subst e
     rw [List.getElem?_set_self (by rw [outL_len]; exact hj)]
     simp [outL, hj]
   · rw [List.getElem?_set_ne e]
     simp only [outL, List.getElem?_map, List.getElem?_range hi, Option.map_some]
     congr 1
     by_cases h : i < j
     · rw [if_pos h, if_pos (by omega)]
     · rw [if_neg h, if_neg (by omega)]
 · rw [List.getElem?_eq_none (by rw [List.length_set, outL_len]; omega), List.getElem?_eq_none (by rw [outL_len]; omega)]
theorem outL_all (W : Nat → Int) (K : Nat) : outL W K K = tabL W K := by
 unfold outL tabL
 exact List.map_congr_left fun i hi => by rw [if_pos (List.mem_range.1 hi)]
abbrev Tab := Except Int (List Int)
def Tab.list : Tab → List Int
 | .ok l => l
 | .error _ => []
def Tab.why : Tab → Int
 | .ok _ => 0
 | .error e => e
def RetTab (w : World) (r : Tab) (e : Ending) (w' : World) : Prop :=
 ∃ a n c, e = .returned (.tuple #[.slice a n c, .int .i64 r.why]) ∧ IntsAt w' a n c r.list ∧ (n = 0 ∨ ∃ b, a = some ⟨b, 0, none⟩ ∧ w.heap.size ≤ b ∧ ∀ i, w'.frozen? ⟨b, i, none⟩ = false) ∧ Below w.heap.size w w'
theorem IntsAt.nil (w : World) : IntsAt w none 0 0 [] := ⟨rfl, Nat.le_refl _, Nat.zero_le _, .inl rfl, fun _ => rfl, by simp⟩
def inR (k s : Int) : Prop := 1 ≤ k ∧ k ≤ 65536 ∧ 1 ≤ s ∧ s ≤ 16777215
instance (k s : Int) : Decidable (inR k s) := by unfold inR; infer_instance
def tabA (k s : Int) (W : Nat → Int) : Tab := if inR k s then (if okT (tabL W k.toNat) k then .ok (tabL W k.toNat) else .error 13) else .error 3
theorem tab_bad {W : Nat → Int} {K j : Nat} (hj : j < K) (h : ¬ W (j + 1) ≤ 16777215) : ¬ okT (tabL W K) K := fun ⟨_, _, _, _, h5, _⟩ =>
 h (h5 _ (List.mem_map.2 ⟨j, List.mem_range.2 hj, rfl⟩)).2
theorem tab_int {W : Nat → Int} {K j : Nat} (hj : j < K) (h : ¬ (-9223372036854775808 ≤ W (j + 1) ∧ W (j + 1) ≤ 9223372036854775807)) : ¬ okT (tabL W K) K := fun ⟨_, _, _, _, h5, _⟩ => by
 have := h5 _ (List.mem_map.2 ⟨j, List.mem_range.2 hj, rfl⟩)
 exact h ⟨by omega, by omega⟩
def RetWh (w : World) (z : Int) (e : Ending) (w' : World) : Prop :=
 ∃ a n c, e = .returned (.tuple #[.agg #[.bool (neg z), .slice a n c], .int .i64 0]) ∧ OwnAt w' w.heap.size a n c (digs z.natAbs) ∧ Below w.heap.size w w'
theorem round_wh {q : Rat} {a1 : Option Addr} {n1 c1 : Nat} {a2 : Option Addr} {n2 c2 : Nat} {w : World} (g1 : NatAt w a1 n1 c1 (digs q.num.natAbs)) (g2 : NatAt w a2 n2 c2 (digs q.den)) (hs : rlen q ≤ 1048576) :
 Calls Tryz.prog 73 #[.agg #[.bool (neg q.num), .slice a1 n1 c1, .slice a2 n2 c2]] w (RetWh w (rndR q)) := by
 unfold rlen at hs
 exact round05_rat q _ _ _ _ _ _ w g1 g2 (by have := g1.len; omega) (by have := g2.len; omega)
theorem soliScale {s : Nat} (w : World) (hs : s ≤ 16777215) : Calls Tryz.prog 71 #[.int .i64 (s : Int), .int .i64 1] w (RetRat w (mkRat s 1)) := by
 have h := soliPair_any (s : Int) 1 w (by omega) (by decide) (by decide)
 exact h
theorem rlen_small {z : Int} {d : Nat} (hd : d ≠ 0) (h1 : z.natAbs < 18446744073709551616) (h2 : d < 18446744073709551616) : rlen (mkRat z d) ≤ 1 :=
 rlen_mkRat hd (digs_length_le.2 (by simpa using h1)) (digs_length_le.2 (by simpa using h2))
theorem idealR_len {k d : Nat} (hk : 0 < k) (hk2 : k ≤ 65536) (hd : 1 ≤ d) (hd2 : d ≤ 65536) : rlen (idealR k d) ≤ 1 := by
 unfold idealR
 split
 · exact rlen_small (by omega) (by decide) (by omega)
 · have hm : d * (d - 1) ≤ 65536 * 65536 := Nat.mul_le_mul (by omega) (by omega)
   exact rlen_small (Nat.mul_ne_zero (by omega) (by omega)) (by decide) (by omega)
theorem spikeR_len {s d : Nat} {m : Rat} {L : Nat} (hs : 1 ≤ s) (hs2 : s ≤ 65536) (hd : 1 ≤ d) (hd2 : d ≤ 65536) (hm : rlen m ≤ L) (hL : 1 ≤ L) : rlen (spikeR s m d) ≤ L := by
 unfold spikeR
 split
 · have hm : d * s ≤ 65536 * 65536 := Nat.mul_le_mul (by omega) (by omega)
   exact Nat.le_trans (rlen_small (Nat.mul_ne_zero (by omega) (by omega)) (by decide) (by omega)) hL
 · split
   · exact hm
   · exact Nat.le_trans (by decide) hL
theorem shR_len {k s d i : Nat} {m : Rat} (hk : 0 < k) (hk2 : k ≤ 65536) (hs : 1 ≤ s) (hs2 : s ≤ 65536) (hd : 1 ≤ d) (hd2 : d ≤ 65536) (hm : rlen m ≤ 1000) : rlen (shR k s m i d) ≤ 1000 := by
 unfold shR
 split
 · exact Nat.le_trans (idealR_len hk hk2 hd hd2) (by decide)
 · exact spikeR_len hs hs2 hd hd2 hm (by decide)
theorem sumS_len {f : Nat → Nat → Rat} {d : Nat} (h : ∀ i, rlen (f i d) ≤ 1000) : ∀ n, n ≤ 2 → rlen (sumS f d n) ≤ 10000
 | 0, _ => by show rlen 0 ≤ 10000; decide
 | 1, _ => by
   have h1 := h 0
   have : sumS f d 1 = f 0 d := Rat.zero_add _
   rw [this]; omega
 | 2, _ => by
   have h1 := h 0
   have h2 := h 1
   have : sumS f d 2 = f 0 d + f 1 d := by show 0 + f 0 d + f 1 d = _; rw [Rat.zero_add]
   rw [this]
   have h3 : rlen (f 0 d + f 1 d) ≤ rlen (f 0 d) + rlen (f 1 d) + 1 := sum_short _ _
   omega
theorem int_info : (Tryz.prog.info? 3).map (fun i => (i.zero, i.size, i.bytes)) = some (some (.int .i64 0), 1, 8) := by kernel_rfl
set_option maxRecDepth 100000 in
set_option maxHeartbeats 4000000 in
theorem together_no (k s : Int) (lB n : Nat) (w : World) (h : ¬ inR k s) :
 Calls Tryz.prog 35 #[.int .i64 k, .int .i64 s, .slice (some ⟨lB, 0, none⟩) n n] w (RetTab w (.error 3)) := by
 have hall : ∀ (b1 : k < 1 ∨ (¬ k < 1 ∧ 65536 < k) ∨ (¬ k < 1 ∧ ¬ 65536 < k ∧ s < 1) ∨ (¬ k < 1 ∧ ¬ 65536 < k ∧ ¬ s < 1 ∧ 16777215 < s)), True := fun _ => trivial
 have hc : k < 1 ∨ (¬ k < 1 ∧ 65536 < k) ∨ (¬ k < 1 ∧ ¬ 65536 < k ∧ s < 1) ∨ (¬ k < 1 ∧ ¬ 65536 < k ∧ ¬ s < 1 ∧ 16777215 < s) := by unfold inR at h; omega
 clear hall h
 rcases hc with h1 | ⟨h1, h2⟩ | ⟨h1, h2, h3⟩ | ⟨h1, h2, h3, h4⟩
 all_goals
  go_enter Tryz.func35, Tryz.ntmps35
  go_wp2
  go_ret2
  exact ⟨_, _, _, rfl, IntsAt.nil _, .inl rfl, Below.refl _ _⟩
set_option maxRecDepth 100000 in
set_option maxHeartbeats 16000000 in
theorem together_yes (kN S n sp : Nat) (m : Rat) (lB b1 b2 b3 : Nat) (a1 : Option Addr) (n1 c1 : Nat) (a2 : Option Addr) (n2 c2 : Nat) (w : World) (hk : 1 ≤ kN) (hk2 : kN ≤ 65536) (hS : 1 ≤ S) (hS2 : S ≤ 16777215) (hn : n = 1 ∨ n = 2) (hsp : 1 ≤ sp) (hsp2 : sp ≤ 65536) (hm : rlen m ≤ 1000)
 (ll : lB < w.heap.size) (l1 : b1 < w.heap.size) (ql0 : w.cell? ⟨lB, 0, none⟩ = some (.func (.func 75) #[] #[.pointer (some ⟨b1, 0, none⟩)])) (qk0 : w.cell? ⟨b1, 0, none⟩ = some (.int .i64 (kN : Int)))
 (h2 : n = 2 → b2 < w.heap.size ∧ b3 < w.heap.size ∧ w.cell? ⟨lB, 1, none⟩ = some (.func (.func 86) #[] #[.pointer (some ⟨b2, 0, none⟩), .pointer (some ⟨b3, 0, none⟩)]) ∧ w.cell? ⟨b2, 0, none⟩ = some (.int .i64 (sp : Int)) ∧ w.cell? ⟨b3, 0, none⟩ = some (.bool (neg m.num)) ∧ w.cell? ⟨b3, 1, none⟩ = some (.slice a1 n1 c1) ∧ w.cell? ⟨b3, 2, none⟩ = some (.slice a2 n2 c2) ∧ NatAt w a1 n1 c1 (digs m.num.natAbs) ∧ NatAt w a2 n2 c2 (digs m.den)) :
 Calls Tryz.prog 35 #[.int .i64 (kN : Int), .int .i64 (S : Int), .slice (some ⟨lB, 0, none⟩) n n] w (RetTab w (if okT (tabL (wtR (shR kN sp m) n (S : Int)) kN) (kN : Int) then .ok (tabL (wtR (shR kN sp m) n (S : Int)) kN) else .error 13)) := by
 obtain ⟨i0, hi, hz0, hz1, hz2⟩ := info_parts int_info
 have H2 := Lib.hid h2
 clear h2
 have hsum := fun d (hd1 : 1 ≤ d) (hd2 : d ≤ 65536) => sumS_len (f := shR kN sp m) (d := d) (fun i => shR_len hk hk2 hsp hsp2 hd1 hd2 hm)
 have hshl := fun i d (hd1 : 1 ≤ d) (hd2 : d ≤ 65536) => shR_len (i := i) hk hk2 hsp hsp2 hd1 hd2 hm
 have hbad := fun j (hj : j < kN) => tab_bad (W := wtR (shR kN sp m) n (S : Int)) hj
 have hlow := fun j (hj : j < kN) => tab_int (W := wtR (shR kN sp m) n (S : Int)) hj
 have hW : ∀ d, wtR (shR kN sp m) n (S : Int) d = rndR (sumS (shR kN sp m) d n * mkRat (S : Int) 1) := fun d => rfl
 have hf0 : ∀ d, shR kN sp m 0 d = idealR kN d := fun d => rfl
 have hf1 : ∀ d, shR kN sp m 1 d = spikeR sp m d := fun d => rfl
 obtain ⟨F, hF⟩ : ∃ F, shR kN sp m = F := ⟨_, rfl⟩
 rw [hF] at hsum hshl hW hbad hlow hf0 hf1 ⊢
 obtain ⟨W, hWW⟩ : ∃ W, wtR F n (S : Int) = W := ⟨_, rfl⟩
 rw [hWW] at hW hbad hlow ⊢
 have HSUM := Lib.hid hsum
 have HSHL := Lib.hid hshl
 have HBAD := Lib.hid hbad
 have HBL := Lib.hid hlow
 have HW := Lib.hid hW
 have HF0 := Lib.hid hf0
 have HF1 := Lib.hid hf1
 have HM := Lib.hid hm
 have HN := Lib.hid hn
 have hn1 : 1 ≤ n := by omega
 have hk0 : 0 < kN := by omega
 have hn2 : n ≤ 2 := by omega
 obtain ⟨R, hR⟩ : ∃ R : Tab, (if okT (tabL W kN) (kN : Int) then Except.ok (tabL W kN) else Except.error 13) = R := ⟨_, rfl⟩
 rw [hR]
 have HR := Lib.hid hR
 clear hsum hshl hW hbad hlow hf0 hf1 hF hWW hm hn hR
 go_enter Tryz.func35, Tryz.ntmps35
 go_wp2_with (at_make; refine wpList_make_full _ rfl _ _ 32 rfl w.heap.size 3 i0 (.int .i64 0) 1 Tryz.underlying32 hi hz0 hz1 .i64 .i64 _ _ kN rfl rfl rfl rfl (by rw [hz2]; omega) (by simp only [maxLen]; omega) (Nat.le_refl _) ?_; intro w1 hown hgrow)
 have hB : Below w.heap.size w w1 := (Below.refl _ _).grown hgrow (Nat.le_refl _) (fun k e => by cases e)
 have hlt := hown.lt w.heap.size rfl
 have hO : IntsOwn w1 w.heap.size w.heap.size kN (outL W kN 0) := by
  refine ⟨outL_len _ _ _, by simp only [maxLen]; omega, Nat.le_refl _, hlt.2, fun i hi => ?_, fun i => World.ownsRow.frozenAt hown i⟩
  rw [World.ownsRow.cellAt hown i (by omega), outL_get hi, if_neg (Nat.not_lt_zero i)]
  simp [madeCells, Value.cells, hi, Nat.mod_one]
 clear hown hgrow hlt
 go_loopw [36] (fun i wr => ∃ (j : Nat), j ≤ kN ∧ i = .int .i64 (j : Int) ∧ IntsOwn wr w.heap.size w.heap.size kN (outL W kN j) ∧ Hid (∀ i, i < j → -9223372036854775808 ≤ W (i + 1) ∧ W (i + 1) ≤ 16777215) ∧ Below w.heap.size w wr) (fun i _ => kN - (intOf i).toNat)
 case atStart => exact ⟨0, Nat.zero_le _, rfl, hO, Lib.hid fun i hi => absurd hi (Nat.not_lt_zero i), hB⟩
 case round =>
  clear hO hB
  obtain ⟨j, hj, rfl, hO, HALL, hB⟩ := hrel
  by_cases hlt : j < kN
  · obtain ⟨D, hD⟩ : ∃ D, j + 1 = D := ⟨_, rfl⟩
    have hd1 : 1 ≤ D := by omega
    have hd2 : D ≤ 65536 := by omega
    have htd : IntKind.i64.wrap ((j : Int) + 1) = (D : Int) := by rw [IntKind.wrap_i64]; omega
    have HTD := Lib.hid htd
    have HD := Lib.hid hD
    clear htd hD
    have hzero : ∀ w, Calls Tryz.prog 71 #[.int .i64 0, .int .i64 1] w (RetRat w (sumS F D 0)) := fun w => soliZero w
    obtain ⟨P0, hP0⟩ : ∃ P0, sumS F D 0 = P0 := ⟨_, rfl⟩
    rw [hP0] at hzero
    have HZERO := Lib.hid hzero
    have HP0 := Lib.hid hP0
    clear hzero hP0
    go_wp2_with fail
    with_reducible refine (HZERO.out _).mono ?_
    rintro e w1 ⟨ahzU, nhzU, chzU, ahzD, nhzD, chzD, rfl, hzU, hzD, hb⟩
    have hzU := hzU.mono hB.size
    have hzD := hzD.mono hB.size
    have hO := hO.past hb
    have hB := below_later hB hb
    clear hb
    have hgs := hO.hi
    go_wp2_with fail
    obtain ⟨w2, hW, hz0, hb, q, f⟩ := box1g w1 (w1.heap.size) (by omega) #[.bool (neg P0.num), .slice ahzU nhzU chzU, .slice ahzD nhzD chzD] 27
    rw [hW]
    clear hW
    have hO := hO.past hb
    have hzU := hzU.past hb
    have hzD := hzD.past hb
    have hB := below_later hB hb
    clear hb
    have lsum : w1.heap.size < w2.heap.size := by omega
    have qsum0 := q 0; have qsum1 := q 1; have qsum2 := q 2
    simp only [lgA, lgZ, lgS] at qsum0 qsum1 qsum2
    have xsum : BoxAt w2 (w1.heap.size) 3 := BoxAt.of q f rfl (by simp [notU_bool, notU_slice, notU_i64])
    clear q f
    clear hz0
    generalize w1.heap.size = BS at *
    have lsum : BS < w2.heap.size := by first | assumption | omega
    go_loopw [42] (fun q wr => ∃ (i : Nat) (au : Option Addr) (nu cu : Nat) (ad : Option Addr) (nd cd : Nat), i ≤ n ∧ q = .int .i64 (i : Int) ∧ OwnAt wr w.heap.size au nu cu (digs (sumS F D i).num.natAbs) ∧ OwnAt wr w.heap.size ad nd cd (digs (sumS F D i).den) ∧ IntsOwn wr w.heap.size w.heap.size kN (outL W kN j) ∧ Below w.heap.size w wr ∧ BS < wr.heap.size ∧ wr.cell? ⟨BS, 0, none⟩ = some (.bool (neg (sumS F D i).num)) ∧ wr.cell? ⟨BS, 1, none⟩ = some (.slice au nu cu) ∧ wr.cell? ⟨BS, 2, none⟩ = some (.slice ad nd cd) ∧ BoxAt wr BS 3) (fun q _ => n - (intOf q).toNat)
    case atStart => exact ⟨0, _, _, _, _, _, _, Nat.zero_le _, rfl, by rw [HP0.out]; exact hzU, by rw [HP0.out]; exact hzD, hO, hB, lsum, by rw [HP0.out]; exact qsum0, qsum1, qsum2, xsum⟩
    case round =>
     clear hzU hzD hO hB lsum qsum0 qsum1 qsum2 xsum
     obtain ⟨i, au, nu, cu, ad, nd, cd, hi, rfl, gu, gd, hO, hB, lsum, qsum0, qsum1, qsum2, xsum⟩ := hrel
     by_cases hin : i < n
     · have hfs : sumS F D i + F i D = sumS F D (i + 1) := rfl
       have lp := HSUM.out D hd1 hd2 i (by omega)
       have lq := HSHL.out i D hd1 hd2
       rcases (by omega : i = 0 ∨ i = 1) with rfl | rfl
       · have hq0 : idealR kN D = F 0 D := (HF0.out D).symm
         have ql := (hB.cell (p := ⟨lB, 0, none⟩) ll).trans ql0
         obtain ⟨Q, hQ⟩ : ∃ Q, F 0 D = Q := ⟨_, rfl⟩
         obtain ⟨P, hP⟩ : ∃ P, sumS F D 0 = P := ⟨_, rfl⟩
         obtain ⟨P2, hP2⟩ : ∃ P2, sumS F D (0 + 1) = P2 := ⟨_, rfl⟩
         rw [hQ, hP, hP2] at hfs
         rw [hP] at gu gd qsum0 lp
         rw [hQ] at lq hq0
         have HFS := Lib.hid hfs
         have HP2 := Lib.hid hP2
         have HQ := Lib.hid hq0
         have LP := Lib.hid (show rlen P ≤ 1048576 by omega)
         have LQ := Lib.hid (show rlen Q ≤ 1048576 by omega)
         clear hfs hQ hP hP2 hq0 lp lq
         simp only [show ((0 : Nat) : Int) = 0 from rfl]
         go_wp2_with fail
         have szW := hB.size
         refine wp_region_invA (by kernel_rfl) rfl (by kernel_rfl) (fun A0 V0 dd aa ww => ∃ (y47 y48 y49 y50 y51 y52 y53 y46 y54 y55 : Value), aa = puts A0 [(47, y47), (48, y48), (49, y49), (50, y50), (51, y51), (52, y52), (53, y53), (46, y46), (54, y54), (55, y55)] ∧ Below (w).heap.size (w) ww ∧ V0.heap.size ≤ ww.heap.size ∧ OwnAt ww w.heap.size au nu cu (digs P.num.natAbs) ∧ OwnAt ww w.heap.size ad nd cd (digs P.den) ∧ IntsOwn ww w.heap.size w.heap.size kN (outL W kN j) ∧ BoxAt ww (BS) 3 ∧ Shut (dd 10 = false → Cells ww (BS) [.bool (neg P.num), .slice au nu cu, .slice ad nd cd]) ∧ Shut (dd 0 = true → y47 = .agg #[.bool (neg P.num), .slice au nu cu, .slice ad nd cd]) ∧ Shut (dd 1 = true → y48 = .func (.func 75) #[] #[.pointer (some ⟨b1, 0, none⟩)]) ∧ Shut (dd 2 = true → y49 = .int .i64 (j : Int)) ∧ Shut (dd 3 = true → y50 = .int .i64 (D : Int)) ∧ Shut (dd 4 = true → RatNV (Q) y51 ww) ∧ Shut (dd 5 = true → dd 6 = false → LstV V0.heap.size 2 ([y47, y51].flatMap cellsOf) y52 ww) ∧ Shut (dd 6 = true → OkV V0.heap.size (P2) y53 ww) ∧ Shut (dd 7 = true → y46 = y53) ∧ Shut (dd 8 = true → y54 = part 0 y46) ∧ Shut (dd 9 = true → y55 = part 1 y46) ∧ Shut (dd 10 = true → CellsV (BS) y54 ww) ∧ True) ?_ ?_ ?_
         · exact ⟨_, _, _, _, _, _, _, _, _, _, puts_self _ [47, 48, 49, 50, 51, 52, 53, 46, 54, 55], hB.drew, Nat.le_refl _, gu.drew, gd.drew, hO.drew, xsum.drew, (fun _ => by intro k hk; simp at hk; rcases (by omega : k = 0 ∨ k = 1 ∨ k = 2) with rfl | rfl | rfl <;> assumption), fun h => (by cases h), fun h => (by cases h), fun h => (by cases h), fun h => (by cases h), fun h => (by cases h), fun h => (by cases h), fun h => (by cases h), fun h => (by cases h), fun h => (by cases h), fun h => (by cases h), fun h => (by cases h), trivial⟩
         · refine Steps.cons ?_ (Steps.cons ?_ (Steps.cons ?_ (Steps.cons ?_ (Steps.cons ?_ (Steps.cons ?_ (Steps.cons ?_ (Steps.cons ?_ (Steps.cons ?_ (Steps.cons ?_ (Steps.cons ?_ (Steps.nil)))))))))))
           · intro dd aa ww K hc hun hn hI hK
             obtain ⟨y47, y48, y49, y50, y51, y52, y53, y46, y54, y55, ea, hb, hsz, vgu, vgd, vhO, xsum, psum, f0, f1, f2, f3, f4, f5, f6, f7, f8, f9, f10, _⟩ := hI
             try simp [Region.binds] at hn
             have hs := hc.not (f := 8) (s := 10) (l := 0) (by kernel_rfl) hun
             have e0 := psum.out hs 0 (by simp)
             simp only [lgZ, lgS] at e0
             have e1 := psum.out hs 1 (by simp)
             simp only [lgZ, lgS] at e1
             have e2 := psum.out hs 2 (by simp)
             simp only [lgZ, lgS] at e2
             subst ea
             simp only [puts, Act.put, lsA, lsZ, lsS]
             go_simp
             refine hK.out _ _ ?_
             exact ⟨.agg #[.bool (neg P.num), .slice au nu cu, .slice ad nd cd], y48, y49, y50, y51, y52, y53, y46, y54, y55, by simp only [puts, Act.put, lsA, lsZ, lsS], hb, hsz, vgu, vgd, vhO, xsum, fun h => (psum.out (upd_off h)), fun _ => rfl, uo f1 rfl, uo f2 rfl, uo f3 rfl, uo f4 rfl, fun h => absurd (hc.reach (f := 8) (s := 5) (l := 0) (by kernel_rfl) (upd_of rfl h)) (by rw [hun]; decide), uo f6 rfl, uo f7 rfl, uo f8 rfl, uo f9 rfl, uo f10 rfl, trivial⟩
           · intro dd aa ww K hc hun hn hI hK
             obtain ⟨y47, y48, y49, y50, y51, y52, y53, y46, y54, y55, ea, hb, hsz, vgu, vgd, vhO, xsum, psum, f0, f1, f2, f3, f4, f5, f6, f7, f8, f9, f10, _⟩ := hI
             try simp [Region.binds] at hn
             subst ea
             simp only [puts, Act.put, lsA, lsZ, lsS]
             go_simp
             refine hK.out _ _ ?_
             exact ⟨y47, .func (.func 75) #[] #[.pointer (some ⟨b1, 0, none⟩)], y49, y50, y51, y52, y53, y46, y54, y55, by simp only [puts, Act.put, lsA, lsZ, lsS], hb, hsz, vgu, vgd, vhO, xsum, fun h => (psum.out (upd_off h)), uo f0 rfl, fun _ => rfl, uo f2 rfl, uo f3 rfl, uo f4 rfl, fun h h2 => ((f5.out (upd_of rfl h)) (upd_off h2)), uo f6 rfl, uo f7 rfl, uo f8 rfl, uo f9 rfl, uo f10 rfl, trivial⟩
           · intro dd aa ww K hc hun hn hI hK
             obtain ⟨y47, y48, y49, y50, y51, y52, y53, y46, y54, y55, ea, hb, hsz, vgu, vgd, vhO, xsum, psum, f0, f1, f2, f3, f4, f5, f6, f7, f8, f9, f10, _⟩ := hI
             try simp [Region.binds] at hn
             subst ea
             simp only [puts, Act.put, lsA, lsZ, lsS]
             go_simp
             refine hK.out _ _ ?_
             exact ⟨y47, y48, .int .i64 (j : Int), y50, y51, y52, y53, y46, y54, y55, by simp only [puts, Act.put, lsA, lsZ, lsS], hb, hsz, vgu, vgd, vhO, xsum, fun h => (psum.out (upd_off h)), uo f0 rfl, uo f1 rfl, fun _ => rfl, uo f3 rfl, uo f4 rfl, fun h h2 => ((f5.out (upd_of rfl h)) (upd_off h2)), uo f6 rfl, uo f7 rfl, uo f8 rfl, uo f9 rfl, uo f10 rfl, trivial⟩
           · intro dd aa ww K hc hun hn hI hK
             obtain ⟨y47, y48, y49, y50, y51, y52, y53, y46, y54, y55, ea, hb, hsz, vgu, vgd, vhO, xsum, psum, f0, f1, f2, f3, f4, f5, f6, f7, f8, f9, f10, _⟩ := hI
             try simp [Region.binds] at hn
             have ex := f2.out (by first | (simp [hn]; done) | exact rc hc hn | exact rc hc hn.1 | exact rc hc hn.2 | exact rc hc hn.2.1 | exact rc hc hn.2.2)
             subst ex
             subst ea
             simp only [puts, Act.put, lsA, lsZ, lsS]
             go_simp
             rw [HTD.out]
             refine hK.out _ _ ?_
             exact ⟨y47, y48, .int .i64 (j : Int), .int .i64 (D : Int), y51, y52, y53, y46, y54, y55, by simp only [puts, Act.put, lsA, lsZ, lsS], hb, hsz, vgu, vgd, vhO, xsum, fun h => (psum.out (upd_off h)), uo f0 rfl, uo f1 rfl, fun h => rfl, fun _ => rfl, uo f4 rfl, fun h h2 => ((f5.out (upd_of rfl h)) (upd_off h2)), uo f6 rfl, uo f7 rfl, uo f8 rfl, uo f9 rfl, uo f10 rfl, trivial⟩
           · intro dd aa ww K hc hun hn hI hK
             obtain ⟨y47, y48, y49, y50, y51, y52, y53, y46, y54, y55, ea, hb, hsz, vgu, vgd, vhO, xsum, psum, f0, f1, f2, f3, f4, f5, f6, f7, f8, f9, f10, _⟩ := hI
             try simp [Region.binds] at hn
             have ex := f1.out (by first | (simp [hn]; done) | exact rc hc hn | exact rc hc hn.1 | exact rc hc hn.2 | exact rc hc hn.2.1 | exact rc hc hn.2.2)
             subst ex
             have ex := f3.out (by first | (simp [hn]; done) | exact rc hc hn | exact rc hc hn.1 | exact rc hc hn.2 | exact rc hc hn.2.1 | exact rc hc hn.2.2)
             subst ex
             subst ea
             simp only [puts, Act.put, lsA, lsZ, lsS]
             go_simp
             with_reducible refine (ideal1_any kN b1 D _ hk0 hk2 hd1 hd2 (Nat.lt_of_lt_of_le l1 hb.size) ((hb.cell (p := ⟨b1, 0, none⟩) l1).trans qk0)).mono ?_
             rintro e w1 ⟨ahIU, nhIU, chIU, ahID, nhID, chID, rfl, hIU, hID, h1⟩
             rw [HQ.out] at hIU hID ⊢
             refine hK.out _ _ ?_
             exact ⟨y47, .func (.func 75) #[] #[.pointer (some ⟨b1, 0, none⟩)], y49, .int .i64 (D : Int), .agg #[.bool (neg (Q).num), .slice ahIU nhIU chIU, .slice ahID nhID chID], y52, y53, y46, y54, y55, by simp only [puts, Act.put, lsA, lsZ, lsS], below_later hb h1, Nat.le_trans hsz h1.size, vgu.past h1, vgd.past h1, vhO.past h1, xsum.past h1 (Nat.lt_of_lt_of_le lsum hsz), fun h => (psum.out (upd_off h)).past h1 (Nat.lt_of_lt_of_le lsum hsz), uo f0 rfl, fun h => rfl, uo f2 rfl, fun h => rfl, fun _ => ⟨_, _, _, _, _, _, rfl, hIU, hID⟩, fun h => absurd (hc.reach (f := 8) (s := 5) (l := 4) (by kernel_rfl) (upd_of rfl h)) (by rw [hun]; decide), fun h => (f6.out (upd_of rfl h)).past h1, uo f7 rfl, uo f8 rfl, uo f9 rfl, fun h => (f10.out (upd_of rfl h)).past h1 (Nat.lt_of_lt_of_le lsum hsz), trivial⟩
           · intro dd aa ww K hc hun hn hI hK
             obtain ⟨y47, y48, y49, y50, y51, y52, y53, y46, y54, y55, ea, hb, hsz, vgu, vgd, vhO, xsum, psum, f0, f1, f2, f3, f4, f5, f6, f7, f8, f9, f10, _⟩ := hI
             try simp [Region.binds] at hn
             have ex := f0.out (by first | (simp [hn]; done) | exact rc hc hn | exact rc hc hn.1 | exact rc hc hn.2 | exact rc hc hn.2.1 | exact rc hc hn.2.2)
             subst ex
             obtain ⟨ahIU, nhIU, chIU, ahID, nhID, chID, ex, hIU, hID⟩ := f4.out (by first | (simp [hn]; done) | exact rc hc hn | exact rc hc hn.1 | exact rc hc hn.2 | exact rc hc hn.2.1 | exact rc hc hn.2.2)
             subst ex
             subst ea
             simp only [puts, Act.put, lsA, lsZ, lsS]
             go_simp
             refine hK.out _ _ ?_
             exact ⟨.agg #[.bool (neg P.num), .slice au nu cu, .slice ad nd cd], y48, y49, y50, .agg #[.bool (neg (Q).num), .slice ahIU nhIU chIU, .slice ahID nhID chID], .slice (some ⟨ww.heap.size, 0, none⟩) 2 2, y53, y46, y54, y55, by simp only [puts, Act.put, lsA, lsZ, lsS], below_alloc hb _, (by simp; omega), vgu.past ((Below.refl _ _).alloc (Nat.le_refl _) _), vgd.past ((Below.refl _ _).alloc (Nat.le_refl _) _), vhO.past ((Below.refl _ _).alloc (Nat.le_refl _) _), xsum.past ((Below.refl _ _).alloc (Nat.le_refl _) _) (Nat.lt_of_lt_of_le lsum hsz), fun h => (psum.out (upd_off h)).past ((Below.refl _ _).alloc (Nat.le_refl _) _) (Nat.lt_of_lt_of_le lsum hsz), fun h => rfl, uo f1 rfl, uo f2 rfl, uo f3 rfl, fun h => (f4.out (upd_of rfl h)).past ((Below.refl _ _).alloc (Nat.le_refl _) _), fun _ _ => LstV.new hsz _ _, fun h => (f6.out (upd_of rfl h)).past ((Below.refl _ _).alloc (Nat.le_refl _) _), uo f7 rfl, uo f8 rfl, uo f9 rfl, fun h => (f10.out (upd_of rfl h)).past ((Below.refl _ _).alloc (Nat.le_refl _) _) (Nat.lt_of_lt_of_le lsum hsz), trivial⟩
           · intro dd aa ww K hc hun hn hI hK
             obtain ⟨y47, y48, y49, y50, y51, y52, y53, y46, y54, y55, ea, hb, hsz, vgu, vgd, vhO, xsum, psum, f0, f1, f2, f3, f4, f5, f6, f7, f8, f9, f10, _⟩ := hI
             try simp [Region.binds] at hn
             have ex := f0.out (by first | (simp [hn]; done) | exact rc hc hn | exact rc hc hn.1 | exact rc hc hn.2 | exact rc hc hn.2.1 | exact rc hc hn.2.2)
             subst ex
             obtain ⟨ahIU, nhIU, chIU, ahID, nhID, chID, ex, hIU, hID⟩ := f4.out (by first | (simp [hn]; done) | exact rc hc hn | exact rc hc hn.1 | exact rc hc hn.2 | exact rc hc hn.2.1 | exact rc hc hn.2.2)
             subst ex
             obtain ⟨G5, ex, hg1, hg2, hg3⟩ := f5.out (by first | (simp [hn]; done) | exact rc hc hn | exact rc hc hn.1 | exact rc hc hn.2 | exact rc hc hn.2.1 | exact rc hc hn.2.2) hun
             subst ex
             have z0 := hg3 0 (by simp [cellsOf])
             have z1 := hg3 1 (by simp [cellsOf])
             have z2 := hg3 2 (by simp [cellsOf])
             have z3 := hg3 3 (by simp [cellsOf])
             have z4 := hg3 4 (by simp [cellsOf])
             have z5 := hg3 5 (by simp [cellsOf])
             simp only [List.flatMap_cons, List.flatMap_nil, cellsOf, List.cons_append, List.nil_append, List.append_nil, lgZ, lgS] at z0 z1 z2 z3 z4 z5
             subst ea
             simp only [puts, Act.put, lsA, lsZ, lsS]
             go_simp
             with_reducible refine (add_two (RatsAt.two hg2 z0 z1 z2 z3 z4 z5 vgu.toNatAt vgd.toNatAt hIU hID) LP.out LQ.out).mono ?_
             rintro e w1 ⟨ahAU, nhAU, chAU, ahAD, nhAD, chAD, rfl, hAU, hAD, h1⟩
             rw [HFS.out] at hAU hAD ⊢
             refine hK.out _ _ ?_
             exact ⟨.agg #[.bool (neg P.num), .slice au nu cu, .slice ad nd cd], y48, y49, y50, .agg #[.bool (neg (Q).num), .slice ahIU nhIU chIU, .slice ahID nhID chID], .slice (some ⟨G5, 0, none⟩) 2 2, .tuple #[.agg #[.bool (neg (P2).num), .slice ahAU nhAU chAU, .slice ahAD nhAD chAD], .int .i64 0], y46, y54, y55, by simp only [puts, Act.put, lsA, lsZ, lsS], below_later hb h1, Nat.le_trans hsz h1.size, vgu.past h1, vgd.past h1, vhO.past h1, xsum.past h1 (Nat.lt_of_lt_of_le lsum hsz), fun h => (psum.out (upd_off h)).past h1 (Nat.lt_of_lt_of_le lsum hsz), fun h => rfl, uo f1 rfl, uo f2 rfl, uo f3 rfl, fun h => (f4.out (upd_of rfl h)).past h1, fun _ h2 => absurd h2 (by simp [upd]), fun _ => ⟨_, _, _, _, _, _, rfl, hAU.mono hsz, hAD.mono hsz⟩, fun h => absurd (hc.reach (f := 8) (s := 7) (l := 6) (by kernel_rfl) (upd_of rfl h)) (by rw [hun]; decide), uo f8 rfl, uo f9 rfl, fun h => (f10.out (upd_of rfl h)).past h1 (Nat.lt_of_lt_of_le lsum hsz), trivial⟩
           · intro dd aa ww K hc hun hn hI hK
             obtain ⟨y47, y48, y49, y50, y51, y52, y53, y46, y54, y55, ea, hb, hsz, vgu, vgd, vhO, xsum, psum, f0, f1, f2, f3, f4, f5, f6, f7, f8, f9, f10, _⟩ := hI
             try simp [Region.binds] at hn
             obtain ⟨ahAU, nhAU, chAU, ahAD, nhAD, chAD, ex, hAU, hAD⟩ := f6.out (by first | (simp [hn]; done) | exact rc hc hn | exact rc hc hn.1 | exact rc hc hn.2 | exact rc hc hn.2.1 | exact rc hc hn.2.2)
             subst ex
             subst ea
             simp only [puts, Act.put, lsA, lsZ, lsS]
             go_simp
             refine hK.out _ _ ?_
             exact ⟨y47, y48, y49, y50, y51, y52, .tuple #[.agg #[.bool (neg (P2).num), .slice ahAU nhAU chAU, .slice ahAD nhAD chAD], .int .i64 0], .tuple #[.agg #[.bool (neg (P2).num), .slice ahAU nhAU chAU, .slice ahAD nhAD chAD], .int .i64 0], y54, y55, by simp only [puts, Act.put, lsA, lsZ, lsS], hb, hsz, vgu, vgd, vhO, xsum, fun h => (psum.out (upd_off h)), uo f0 rfl, uo f1 rfl, uo f2 rfl, uo f3 rfl, uo f4 rfl, fun _ h2 => absurd (show dd 6 = true from (by first | (simp [hn]; done) | exact rc hc hn | exact rc hc hn.1 | exact rc hc hn.2 | exact rc hc hn.2.1 | exact rc hc hn.2.2)) (by rw [upd_off h2]; decide), uo f6 rfl, fun _ => rfl, fun h => absurd (hc.reach (f := 8) (s := 8) (l := 7) (by kernel_rfl) (upd_of rfl h)) (by rw [hun]; decide), fun h => absurd (hc.reach (f := 8) (s := 9) (l := 7) (by kernel_rfl) (upd_of rfl h)) (by rw [hun]; decide), uo f10 rfl, trivial⟩
           · intro dd aa ww K hc hun hn hI hK
             obtain ⟨y47, y48, y49, y50, y51, y52, y53, y46, y54, y55, ea, hb, hsz, vgu, vgd, vhO, xsum, psum, f0, f1, f2, f3, f4, f5, f6, f7, f8, f9, f10, _⟩ := hI
             try simp [Region.binds] at hn
             obtain ⟨ahAU, nhAU, chAU, ahAD, nhAD, chAD, ex, hAU, hAD⟩ := f6.out (by first | (simp [hn]; done) | exact rc hc hn | exact rc hc hn.1 | exact rc hc hn.2 | exact rc hc hn.2.1 | exact rc hc hn.2.2)
             subst ex
             have ex : y46 = .tuple #[.agg #[.bool (neg (P2).num), .slice ahAU nhAU chAU, .slice ahAD nhAD chAD], .int .i64 0] := f7.out (by first | (simp [hn]; done) | exact rc hc hn | exact rc hc hn.1 | exact rc hc hn.2 | exact rc hc hn.2.1 | exact rc hc hn.2.2)
             subst ex
             subst ea
             simp only [puts, Act.put, lsA, lsZ, lsS]
             go_simp
             refine hK.out _ _ ?_
             exact ⟨y47, y48, y49, y50, y51, y52, .tuple #[.agg #[.bool (neg (P2).num), .slice ahAU nhAU chAU, .slice ahAD nhAD chAD], .int .i64 0], .tuple #[.agg #[.bool (neg (P2).num), .slice ahAU nhAU chAU, .slice ahAD nhAD chAD], .int .i64 0], .agg #[.bool (neg (P2).num), .slice ahAU nhAU chAU, .slice ahAD nhAD chAD], y55, by simp only [puts, Act.put, lsA, lsZ, lsS], hb, hsz, vgu, vgd, vhO, xsum, fun h => (psum.out (upd_off h)), uo f0 rfl, uo f1 rfl, uo f2 rfl, uo f3 rfl, uo f4 rfl, fun _ h2 => absurd (show dd 6 = true from (by first | (simp [hn]; done) | exact rc hc hn | exact rc hc hn.1 | exact rc hc hn.2 | exact rc hc hn.2.1 | exact rc hc hn.2.2)) (by rw [upd_off h2]; decide), uo f6 rfl, fun h => rfl, fun _ => rfl, uo f9 rfl, fun h => absurd (hc.reach (f := 8) (s := 10) (l := 8) (by kernel_rfl) (upd_of rfl h)) (by rw [hun]; decide), trivial⟩
           · intro dd aa ww K hc hun hn hI hK
             obtain ⟨y47, y48, y49, y50, y51, y52, y53, y46, y54, y55, ea, hb, hsz, vgu, vgd, vhO, xsum, psum, f0, f1, f2, f3, f4, f5, f6, f7, f8, f9, f10, _⟩ := hI
             try simp [Region.binds] at hn
             obtain ⟨ahAU, nhAU, chAU, ahAD, nhAD, chAD, ex, hAU, hAD⟩ := f6.out (by first | (simp [hn]; done) | exact rc hc hn | exact rc hc hn.1 | exact rc hc hn.2 | exact rc hc hn.2.1 | exact rc hc hn.2.2)
             subst ex
             have ex : y46 = .tuple #[.agg #[.bool (neg (P2).num), .slice ahAU nhAU chAU, .slice ahAD nhAD chAD], .int .i64 0] := f7.out (by first | (simp [hn]; done) | exact rc hc hn | exact rc hc hn.1 | exact rc hc hn.2 | exact rc hc hn.2.1 | exact rc hc hn.2.2)
             subst ex
             subst ea
             simp only [puts, Act.put, lsA, lsZ, lsS]
             go_simp
             refine hK.out _ _ ?_
             exact ⟨y47, y48, y49, y50, y51, y52, .tuple #[.agg #[.bool (neg (P2).num), .slice ahAU nhAU chAU, .slice ahAD nhAD chAD], .int .i64 0], .tuple #[.agg #[.bool (neg (P2).num), .slice ahAU nhAU chAU, .slice ahAD nhAD chAD], .int .i64 0], y54, .int .i64 0, by simp only [puts, Act.put, lsA, lsZ, lsS], hb, hsz, vgu, vgd, vhO, xsum, fun h => (psum.out (upd_off h)), uo f0 rfl, uo f1 rfl, uo f2 rfl, uo f3 rfl, uo f4 rfl, fun _ h2 => absurd (show dd 6 = true from (by first | (simp [hn]; done) | exact rc hc hn | exact rc hc hn.1 | exact rc hc hn.2 | exact rc hc hn.2.1 | exact rc hc hn.2.2)) (by rw [upd_off h2]; decide), uo f6 rfl, fun h => rfl, uo f8 rfl, fun _ => rfl, uo f10 rfl, trivial⟩
           · intro dd aa ww K hc hun hn hI hK
             obtain ⟨y47, y48, y49, y50, y51, y52, y53, y46, y54, y55, ea, hb, hsz, vgu, vgd, vhO, xsum, psum, f0, f1, f2, f3, f4, f5, f6, f7, f8, f9, f10, _⟩ := hI
             try simp [Region.binds] at hn
             obtain ⟨ahAU, nhAU, chAU, ahAD, nhAD, chAD, ex, hAU, hAD⟩ := f6.out (by first | (simp [hn]; done) | exact rc hc hn | exact rc hc hn.1 | exact rc hc hn.2 | exact rc hc hn.2.1 | exact rc hc hn.2.2)
             subst ex
             have ex : y46 = .tuple #[.agg #[.bool (neg (P2).num), .slice ahAU nhAU chAU, .slice ahAD nhAD chAD], .int .i64 0] := f7.out (by first | (simp [hn]; done) | exact rc hc hn | exact rc hc hn.1 | exact rc hc hn.2 | exact rc hc hn.2.1 | exact rc hc hn.2.2)
             subst ex
             have ex : y54 = .agg #[.bool (neg (P2).num), .slice ahAU nhAU chAU, .slice ahAD nhAD chAD] := f8.out (by first | (simp [hn]; done) | exact rc hc hn | exact rc hc hn.1 | exact rc hc hn.2 | exact rc hc hn.2.1 | exact rc hc hn.2.2)
             subst ex
             have x3 := xsum
             obtain ⟨v0, v1, v2, z0, z1, z2, z3, z4, z5, _, _, _⟩ := x3.three
             have hv : ∀ v ∈ ([.bool (neg (P2).num), .slice ahAU nhAU chAU, .slice ahAD nhAD chAD] : List Value), notU v := by simp [notU_bool, notU_slice, notU_i64]
             subst ea
             simp only [puts, Act.put, lsA, lsZ, lsS]
             go_simp
             refine hK.out _ _ ?_
             exact ⟨y47, y48, y49, y50, y51, y52, .tuple #[.agg #[.bool (neg (P2).num), .slice ahAU nhAU chAU, .slice ahAD nhAD chAD], .int .i64 0], .tuple #[.agg #[.bool (neg (P2).num), .slice ahAU nhAU chAU, .slice ahAD nhAD chAD], .int .i64 0], .agg #[.bool (neg (P2).num), .slice ahAU nhAU chAU, .slice ahAD nhAD chAD], y55, by simp only [puts, Act.put, lsA, lsZ, lsS], hb.trans (below_setCells _ _ (by omega) [.bool (neg (P2).num), .slice ahAU nhAU chAU, .slice ahAD nhAD chAD] 0 _), (by simpa using hsz), OwnAt.sets [.bool (neg (P2).num), .slice ahAU nhAU chAU, .slice ahAD nhAD chAD] 0 _ vgu x3 (by simp) hv, OwnAt.sets [.bool (neg (P2).num), .slice ahAU nhAU chAU, .slice ahAD nhAD chAD] 0 _ vgd x3 (by simp) hv, IntsOwn.sets (by omega) [.bool (neg (P2).num), .slice ahAU nhAU chAU, .slice ahAD nhAD chAD] 0 _ vhO, BoxAt.sets [.bool (neg (P2).num), .slice ahAU nhAU chAU, .slice ahAD nhAD chAD] _ 0 _ xsum hv, fun h => absurd h (by simp [upd]), uo f0 rfl, uo f1 rfl, uo f2 rfl, uo f3 rfl, fun h => (f4.out (upd_of rfl h)).sets [.bool (neg (P2).num), .slice ahAU nhAU chAU, .slice ahAD nhAD chAD] x3 (by simp) hv, fun _ h2 => absurd (show dd 6 = true from (by first | (simp [hn]; done) | exact rc hc hn | exact rc hc hn.1 | exact rc hc hn.2 | exact rc hc hn.2.1 | exact rc hc hn.2.2)) (by rw [upd_off h2]; decide), fun h => ((f6.out (upd_of rfl h)).setsOff lsum [.bool (neg (P2).num), .slice ahAU nhAU chAU, .slice ahAD nhAD chAD]), fun h => rfl, fun h => rfl, uo f9 rfl, fun _ => ⟨[.bool (neg (P2).num), .slice ahAU nhAU chAU, .slice ahAD nhAD chAD], rfl, Cells.new x3 [.bool (neg (P2).num), .slice ahAU nhAU chAU, .slice ahAD nhAD chAD] (by simp)⟩, trivial⟩
         intro dd aa w1 hd hI
         obtain ⟨y47, y48, y49, y50, y51, y52, y53, y46, y54, y55, ea, hb, hsz, vgu, vgd, vhO, xsum, psum, f0, f1, f2, f3, f4, f5, f6, f7, f8, f9, f10, _⟩ := hI
         have ex := f0.out (hd 0 (by simp))
         subst ex
         have ex := f1.out (hd 1 (by simp))
         subst ex
         have ex := f2.out (hd 2 (by simp))
         subst ex
         have ex := f3.out (hd 3 (by simp))
         subst ex
         obtain ⟨ahIU, nhIU, chIU, ahID, nhID, chID, ex, hIU, hID⟩ := f4.out (hd 4 (by simp))
         subst ex
         obtain ⟨ahAU, nhAU, chAU, ahAD, nhAD, chAD, ex, hAU, hAD⟩ := f6.out (hd 6 (by simp))
         subst ex
         have ex : y46 = .tuple #[.agg #[.bool (neg (P2).num), .slice ahAU nhAU chAU, .slice ahAD nhAD chAD], .int .i64 0] := f7.out (hd 7 (by simp))
         subst ex
         have ex : y54 = .agg #[.bool (neg (P2).num), .slice ahAU nhAU chAU, .slice ahAD nhAD chAD] := f8.out (hd 8 (by simp))
         subst ex
         have ex : y55 = .int .i64 0 := f9.out (hd 9 (by simp))
         subst ex
         obtain ⟨vs10, e, h10⟩ := f10.out (hd 10 (by simp))
         cases e
         have lsum := Nat.lt_of_lt_of_le lsum hsz
         have qsum0 := h10 0 (by simp)
         simp only [lgZ, lgS] at qsum0
         have qsum1 := h10 1 (by simp)
         simp only [lgZ, lgS] at qsum1
         have qsum2 := h10 2 (by simp)
         simp only [lgZ, lgS] at qsum2
         subst ea
         simp only [puts, Act.put, lsA, lsZ, lsS]
         have hAU := hAU.mono szW
         have hAD := hAD.mono szW
         have gu := vgu
         have gd := vgd
         have hO := vhO
         have hB := hb
         clear psum
         clear hb hd
         go_wp2
         go_roundw
         case rel => exact ⟨0 + 1, _, _, _, _, _, _, by omega, by go_num, by rw [HP2.out]; exact hAU, by rw [HP2.out]; exact hAD, hO, hB, lsum, by rw [HP2.out]; exact qsum0, qsum1, qsum2, xsum⟩
         case measure => simp [intOf]; omega
       · have hq0 : spikeR sp m D = F 1 D := (HF1.out D).symm
         have tn : (1 : Int) < (n : Int) := by omega
         obtain ⟨l2, l3, ql1, qs0, qm0, qm1, qm2, gm1, gm2⟩ := H2.out (by omega)
         have ql := (hB.cell (p := ⟨lB, 1, none⟩) ll).trans ql1
         obtain ⟨Q, hQ⟩ : ∃ Q, F 1 D = Q := ⟨_, rfl⟩
         obtain ⟨P, hP⟩ : ∃ P, sumS F D 1 = P := ⟨_, rfl⟩
         obtain ⟨P2, hP2⟩ : ∃ P2, sumS F D (1 + 1) = P2 := ⟨_, rfl⟩
         rw [hQ, hP, hP2] at hfs
         rw [hP] at gu gd qsum0 lp
         rw [hQ] at lq hq0
         have HFS := Lib.hid hfs
         have HP2 := Lib.hid hP2
         have HQ := Lib.hid hq0
         have LP := Lib.hid (show rlen P ≤ 1048576 by omega)
         have LQ := Lib.hid (show rlen Q ≤ 1048576 by omega)
         clear hfs hQ hP hP2 hq0 lp lq
         simp only [show ((1 : Nat) : Int) = 1 from rfl]
         go_wp2_with fail
         have szW := hB.size
         refine wp_region_invA (by kernel_rfl) rfl (by kernel_rfl) (fun A0 V0 dd aa ww => ∃ (y47 y48 y49 y50 y51 y52 y53 y46 y54 y55 : Value), aa = puts A0 [(47, y47), (48, y48), (49, y49), (50, y50), (51, y51), (52, y52), (53, y53), (46, y46), (54, y54), (55, y55)] ∧ Below (w).heap.size (w) ww ∧ V0.heap.size ≤ ww.heap.size ∧ OwnAt ww w.heap.size au nu cu (digs P.num.natAbs) ∧ OwnAt ww w.heap.size ad nd cd (digs P.den) ∧ IntsOwn ww w.heap.size w.heap.size kN (outL W kN j) ∧ BoxAt ww (BS) 3 ∧ Shut (dd 10 = false → Cells ww (BS) [.bool (neg P.num), .slice au nu cu, .slice ad nd cd]) ∧ Shut (dd 0 = true → y47 = .agg #[.bool (neg P.num), .slice au nu cu, .slice ad nd cd]) ∧ Shut (dd 1 = true → y48 = .func (.func 86) #[] #[.pointer (some ⟨b2, 0, none⟩), .pointer (some ⟨b3, 0, none⟩)]) ∧ Shut (dd 2 = true → y49 = .int .i64 (j : Int)) ∧ Shut (dd 3 = true → y50 = .int .i64 (D : Int)) ∧ Shut (dd 4 = true → RatNV (Q) y51 ww) ∧ Shut (dd 5 = true → dd 6 = false → LstV V0.heap.size 2 ([y47, y51].flatMap cellsOf) y52 ww) ∧ Shut (dd 6 = true → OkV V0.heap.size (P2) y53 ww) ∧ Shut (dd 7 = true → y46 = y53) ∧ Shut (dd 8 = true → y54 = part 0 y46) ∧ Shut (dd 9 = true → y55 = part 1 y46) ∧ Shut (dd 10 = true → CellsV (BS) y54 ww) ∧ True) ?_ ?_ ?_
         · exact ⟨_, _, _, _, _, _, _, _, _, _, puts_self _ [47, 48, 49, 50, 51, 52, 53, 46, 54, 55], hB.drew, Nat.le_refl _, gu.drew, gd.drew, hO.drew, xsum.drew, (fun _ => by intro k hk; simp at hk; rcases (by omega : k = 0 ∨ k = 1 ∨ k = 2) with rfl | rfl | rfl <;> assumption), fun h => (by cases h), fun h => (by cases h), fun h => (by cases h), fun h => (by cases h), fun h => (by cases h), fun h => (by cases h), fun h => (by cases h), fun h => (by cases h), fun h => (by cases h), fun h => (by cases h), fun h => (by cases h), trivial⟩
         · refine Steps.cons ?_ (Steps.cons ?_ (Steps.cons ?_ (Steps.cons ?_ (Steps.cons ?_ (Steps.cons ?_ (Steps.cons ?_ (Steps.cons ?_ (Steps.cons ?_ (Steps.cons ?_ (Steps.cons ?_ (Steps.nil)))))))))))
           · intro dd aa ww K hc hun hn hI hK
             obtain ⟨y47, y48, y49, y50, y51, y52, y53, y46, y54, y55, ea, hb, hsz, vgu, vgd, vhO, xsum, psum, f0, f1, f2, f3, f4, f5, f6, f7, f8, f9, f10, _⟩ := hI
             try simp [Region.binds] at hn
             have hs := hc.not (f := 8) (s := 10) (l := 0) (by kernel_rfl) hun
             have e0 := psum.out hs 0 (by simp)
             simp only [lgZ, lgS] at e0
             have e1 := psum.out hs 1 (by simp)
             simp only [lgZ, lgS] at e1
             have e2 := psum.out hs 2 (by simp)
             simp only [lgZ, lgS] at e2
             subst ea
             simp only [puts, Act.put, lsA, lsZ, lsS]
             go_simp
             refine hK.out _ _ ?_
             exact ⟨.agg #[.bool (neg P.num), .slice au nu cu, .slice ad nd cd], y48, y49, y50, y51, y52, y53, y46, y54, y55, by simp only [puts, Act.put, lsA, lsZ, lsS], hb, hsz, vgu, vgd, vhO, xsum, fun h => (psum.out (upd_off h)), fun _ => rfl, uo f1 rfl, uo f2 rfl, uo f3 rfl, uo f4 rfl, fun h => absurd (hc.reach (f := 8) (s := 5) (l := 0) (by kernel_rfl) (upd_of rfl h)) (by rw [hun]; decide), uo f6 rfl, uo f7 rfl, uo f8 rfl, uo f9 rfl, uo f10 rfl, trivial⟩
           · intro dd aa ww K hc hun hn hI hK
             obtain ⟨y47, y48, y49, y50, y51, y52, y53, y46, y54, y55, ea, hb, hsz, vgu, vgd, vhO, xsum, psum, f0, f1, f2, f3, f4, f5, f6, f7, f8, f9, f10, _⟩ := hI
             try simp [Region.binds] at hn
             subst ea
             simp only [puts, Act.put, lsA, lsZ, lsS]
             go_simp
             refine hK.out _ _ ?_
             exact ⟨y47, .func (.func 86) #[] #[.pointer (some ⟨b2, 0, none⟩), .pointer (some ⟨b3, 0, none⟩)], y49, y50, y51, y52, y53, y46, y54, y55, by simp only [puts, Act.put, lsA, lsZ, lsS], hb, hsz, vgu, vgd, vhO, xsum, fun h => (psum.out (upd_off h)), uo f0 rfl, fun _ => rfl, uo f2 rfl, uo f3 rfl, uo f4 rfl, fun h h2 => ((f5.out (upd_of rfl h)) (upd_off h2)), uo f6 rfl, uo f7 rfl, uo f8 rfl, uo f9 rfl, uo f10 rfl, trivial⟩
           · intro dd aa ww K hc hun hn hI hK
             obtain ⟨y47, y48, y49, y50, y51, y52, y53, y46, y54, y55, ea, hb, hsz, vgu, vgd, vhO, xsum, psum, f0, f1, f2, f3, f4, f5, f6, f7, f8, f9, f10, _⟩ := hI
             try simp [Region.binds] at hn
             subst ea
             simp only [puts, Act.put, lsA, lsZ, lsS]
             go_simp
             refine hK.out _ _ ?_
             exact ⟨y47, y48, .int .i64 (j : Int), y50, y51, y52, y53, y46, y54, y55, by simp only [puts, Act.put, lsA, lsZ, lsS], hb, hsz, vgu, vgd, vhO, xsum, fun h => (psum.out (upd_off h)), uo f0 rfl, uo f1 rfl, fun _ => rfl, uo f3 rfl, uo f4 rfl, fun h h2 => ((f5.out (upd_of rfl h)) (upd_off h2)), uo f6 rfl, uo f7 rfl, uo f8 rfl, uo f9 rfl, uo f10 rfl, trivial⟩
           · intro dd aa ww K hc hun hn hI hK
             obtain ⟨y47, y48, y49, y50, y51, y52, y53, y46, y54, y55, ea, hb, hsz, vgu, vgd, vhO, xsum, psum, f0, f1, f2, f3, f4, f5, f6, f7, f8, f9, f10, _⟩ := hI
             try simp [Region.binds] at hn
             have ex := f2.out (by first | (simp [hn]; done) | exact rc hc hn | exact rc hc hn.1 | exact rc hc hn.2 | exact rc hc hn.2.1 | exact rc hc hn.2.2)
             subst ex
             subst ea
             simp only [puts, Act.put, lsA, lsZ, lsS]
             go_simp
             rw [HTD.out]
             refine hK.out _ _ ?_
             exact ⟨y47, y48, .int .i64 (j : Int), .int .i64 (D : Int), y51, y52, y53, y46, y54, y55, by simp only [puts, Act.put, lsA, lsZ, lsS], hb, hsz, vgu, vgd, vhO, xsum, fun h => (psum.out (upd_off h)), uo f0 rfl, uo f1 rfl, fun h => rfl, fun _ => rfl, uo f4 rfl, fun h h2 => ((f5.out (upd_of rfl h)) (upd_off h2)), uo f6 rfl, uo f7 rfl, uo f8 rfl, uo f9 rfl, uo f10 rfl, trivial⟩
           · intro dd aa ww K hc hun hn hI hK
             obtain ⟨y47, y48, y49, y50, y51, y52, y53, y46, y54, y55, ea, hb, hsz, vgu, vgd, vhO, xsum, psum, f0, f1, f2, f3, f4, f5, f6, f7, f8, f9, f10, _⟩ := hI
             try simp [Region.binds] at hn
             have ex := f1.out (by first | (simp [hn]; done) | exact rc hc hn | exact rc hc hn.1 | exact rc hc hn.2 | exact rc hc hn.2.1 | exact rc hc hn.2.2)
             subst ex
             have ex := f3.out (by first | (simp [hn]; done) | exact rc hc hn | exact rc hc hn.1 | exact rc hc hn.2 | exact rc hc hn.2.1 | exact rc hc hn.2.2)
             subst ex
             subst ea
             simp only [puts, Act.put, lsA, lsZ, lsS]
             go_simp
             with_reducible refine (spiked1_any sp D b2 b3 m _ _ _ _ _ _ _ hsp hsp2 hd1 hd2 (Nat.lt_of_lt_of_le l2 hb.size) (Nat.lt_of_lt_of_le l3 hb.size) ((hb.cell (p := ⟨b2, 0, none⟩) l2).trans qs0) ((hb.cell (p := ⟨b3, 0, none⟩) l3).trans qm0) ((hb.cell (p := ⟨b3, 1, none⟩) l3).trans qm1) ((hb.cell (p := ⟨b3, 2, none⟩) l3).trans qm2) (gm1.past hb) (gm2.past hb)).mono ?_
             rintro e w1 ⟨ahIU, nhIU, chIU, ahID, nhID, chID, rfl, hIU, hID, h1⟩
             rw [HQ.out] at hIU hID ⊢
             refine hK.out _ _ ?_
             exact ⟨y47, .func (.func 86) #[] #[.pointer (some ⟨b2, 0, none⟩), .pointer (some ⟨b3, 0, none⟩)], y49, .int .i64 (D : Int), .agg #[.bool (neg (Q).num), .slice ahIU nhIU chIU, .slice ahID nhID chID], y52, y53, y46, y54, y55, by simp only [puts, Act.put, lsA, lsZ, lsS], below_later hb h1, Nat.le_trans hsz h1.size, vgu.past h1, vgd.past h1, vhO.past h1, xsum.past h1 (Nat.lt_of_lt_of_le lsum hsz), fun h => (psum.out (upd_off h)).past h1 (Nat.lt_of_lt_of_le lsum hsz), uo f0 rfl, fun h => rfl, uo f2 rfl, fun h => rfl, fun _ => ⟨_, _, _, _, _, _, rfl, hIU, hID⟩, fun h => absurd (hc.reach (f := 8) (s := 5) (l := 4) (by kernel_rfl) (upd_of rfl h)) (by rw [hun]; decide), fun h => (f6.out (upd_of rfl h)).past h1, uo f7 rfl, uo f8 rfl, uo f9 rfl, fun h => (f10.out (upd_of rfl h)).past h1 (Nat.lt_of_lt_of_le lsum hsz), trivial⟩
           · intro dd aa ww K hc hun hn hI hK
             obtain ⟨y47, y48, y49, y50, y51, y52, y53, y46, y54, y55, ea, hb, hsz, vgu, vgd, vhO, xsum, psum, f0, f1, f2, f3, f4, f5, f6, f7, f8, f9, f10, _⟩ := hI
             try simp [Region.binds] at hn
             have ex := f0.out (by first | (simp [hn]; done) | exact rc hc hn | exact rc hc hn.1 | exact rc hc hn.2 | exact rc hc hn.2.1 | exact rc hc hn.2.2)
             subst ex
             obtain ⟨ahIU, nhIU, chIU, ahID, nhID, chID, ex, hIU, hID⟩ := f4.out (by first | (simp [hn]; done) | exact rc hc hn | exact rc hc hn.1 | exact rc hc hn.2 | exact rc hc hn.2.1 | exact rc hc hn.2.2)
             subst ex
             subst ea
             simp only [puts, Act.put, lsA, lsZ, lsS]
             go_simp
             refine hK.out _ _ ?_
             exact ⟨.agg #[.bool (neg P.num), .slice au nu cu, .slice ad nd cd], y48, y49, y50, .agg #[.bool (neg (Q).num), .slice ahIU nhIU chIU, .slice ahID nhID chID], .slice (some ⟨ww.heap.size, 0, none⟩) 2 2, y53, y46, y54, y55, by simp only [puts, Act.put, lsA, lsZ, lsS], below_alloc hb _, (by simp; omega), vgu.past ((Below.refl _ _).alloc (Nat.le_refl _) _), vgd.past ((Below.refl _ _).alloc (Nat.le_refl _) _), vhO.past ((Below.refl _ _).alloc (Nat.le_refl _) _), xsum.past ((Below.refl _ _).alloc (Nat.le_refl _) _) (Nat.lt_of_lt_of_le lsum hsz), fun h => (psum.out (upd_off h)).past ((Below.refl _ _).alloc (Nat.le_refl _) _) (Nat.lt_of_lt_of_le lsum hsz), fun h => rfl, uo f1 rfl, uo f2 rfl, uo f3 rfl, fun h => (f4.out (upd_of rfl h)).past ((Below.refl _ _).alloc (Nat.le_refl _) _), fun _ _ => LstV.new hsz _ _, fun h => (f6.out (upd_of rfl h)).past ((Below.refl _ _).alloc (Nat.le_refl _) _), uo f7 rfl, uo f8 rfl, uo f9 rfl, fun h => (f10.out (upd_of rfl h)).past ((Below.refl _ _).alloc (Nat.le_refl _) _) (Nat.lt_of_lt_of_le lsum hsz), trivial⟩
           · intro dd aa ww K hc hun hn hI hK
             obtain ⟨y47, y48, y49, y50, y51, y52, y53, y46, y54, y55, ea, hb, hsz, vgu, vgd, vhO, xsum, psum, f0, f1, f2, f3, f4, f5, f6, f7, f8, f9, f10, _⟩ := hI
             try simp [Region.binds] at hn
             have ex := f0.out (by first | (simp [hn]; done) | exact rc hc hn | exact rc hc hn.1 | exact rc hc hn.2 | exact rc hc hn.2.1 | exact rc hc hn.2.2)
             subst ex
             obtain ⟨ahIU, nhIU, chIU, ahID, nhID, chID, ex, hIU, hID⟩ := f4.out (by first | (simp [hn]; done) | exact rc hc hn | exact rc hc hn.1 | exact rc hc hn.2 | exact rc hc hn.2.1 | exact rc hc hn.2.2)
             subst ex
             obtain ⟨G5, ex, hg1, hg2, hg3⟩ := f5.out (by first | (simp [hn]; done) | exact rc hc hn | exact rc hc hn.1 | exact rc hc hn.2 | exact rc hc hn.2.1 | exact rc hc hn.2.2) hun
             subst ex
             have z0 := hg3 0 (by simp [cellsOf])
             have z1 := hg3 1 (by simp [cellsOf])
             have z2 := hg3 2 (by simp [cellsOf])
             have z3 := hg3 3 (by simp [cellsOf])
             have z4 := hg3 4 (by simp [cellsOf])
             have z5 := hg3 5 (by simp [cellsOf])
             simp only [List.flatMap_cons, List.flatMap_nil, cellsOf, List.cons_append, List.nil_append, List.append_nil, lgZ, lgS] at z0 z1 z2 z3 z4 z5
             subst ea
             simp only [puts, Act.put, lsA, lsZ, lsS]
             go_simp
             with_reducible refine (add_two (RatsAt.two hg2 z0 z1 z2 z3 z4 z5 vgu.toNatAt vgd.toNatAt hIU hID) LP.out LQ.out).mono ?_
             rintro e w1 ⟨ahAU, nhAU, chAU, ahAD, nhAD, chAD, rfl, hAU, hAD, h1⟩
             rw [HFS.out] at hAU hAD ⊢
             refine hK.out _ _ ?_
             exact ⟨.agg #[.bool (neg P.num), .slice au nu cu, .slice ad nd cd], y48, y49, y50, .agg #[.bool (neg (Q).num), .slice ahIU nhIU chIU, .slice ahID nhID chID], .slice (some ⟨G5, 0, none⟩) 2 2, .tuple #[.agg #[.bool (neg (P2).num), .slice ahAU nhAU chAU, .slice ahAD nhAD chAD], .int .i64 0], y46, y54, y55, by simp only [puts, Act.put, lsA, lsZ, lsS], below_later hb h1, Nat.le_trans hsz h1.size, vgu.past h1, vgd.past h1, vhO.past h1, xsum.past h1 (Nat.lt_of_lt_of_le lsum hsz), fun h => (psum.out (upd_off h)).past h1 (Nat.lt_of_lt_of_le lsum hsz), fun h => rfl, uo f1 rfl, uo f2 rfl, uo f3 rfl, fun h => (f4.out (upd_of rfl h)).past h1, fun _ h2 => absurd h2 (by simp [upd]), fun _ => ⟨_, _, _, _, _, _, rfl, hAU.mono hsz, hAD.mono hsz⟩, fun h => absurd (hc.reach (f := 8) (s := 7) (l := 6) (by kernel_rfl) (upd_of rfl h)) (by rw [hun]; decide), uo f8 rfl, uo f9 rfl, fun h => (f10.out (upd_of rfl h)).past h1 (Nat.lt_of_lt_of_le lsum hsz), trivial⟩
           · intro dd aa ww K hc hun hn hI hK
             obtain ⟨y47, y48, y49, y50, y51, y52, y53, y46, y54, y55, ea, hb, hsz, vgu, vgd, vhO, xsum, psum, f0, f1, f2, f3, f4, f5, f6, f7, f8, f9, f10, _⟩ := hI
             try simp [Region.binds] at hn
             obtain ⟨ahAU, nhAU, chAU, ahAD, nhAD, chAD, ex, hAU, hAD⟩ := f6.out (by first | (simp [hn]; done) | exact rc hc hn | exact rc hc hn.1 | exact rc hc hn.2 | exact rc hc hn.2.1 | exact rc hc hn.2.2)
             subst ex
             subst ea
             simp only [puts, Act.put, lsA, lsZ, lsS]
             go_simp
             refine hK.out _ _ ?_
             exact ⟨y47, y48, y49, y50, y51, y52, .tuple #[.agg #[.bool (neg (P2).num), .slice ahAU nhAU chAU, .slice ahAD nhAD chAD], .int .i64 0], .tuple #[.agg #[.bool (neg (P2).num), .slice ahAU nhAU chAU, .slice ahAD nhAD chAD], .int .i64 0], y54, y55, by simp only [puts, Act.put, lsA, lsZ, lsS], hb, hsz, vgu, vgd, vhO, xsum, fun h => (psum.out (upd_off h)), uo f0 rfl, uo f1 rfl, uo f2 rfl, uo f3 rfl, uo f4 rfl, fun _ h2 => absurd (show dd 6 = true from (by first | (simp [hn]; done) | exact rc hc hn | exact rc hc hn.1 | exact rc hc hn.2 | exact rc hc hn.2.1 | exact rc hc hn.2.2)) (by rw [upd_off h2]; decide), uo f6 rfl, fun _ => rfl, fun h => absurd (hc.reach (f := 8) (s := 8) (l := 7) (by kernel_rfl) (upd_of rfl h)) (by rw [hun]; decide), fun h => absurd (hc.reach (f := 8) (s := 9) (l := 7) (by kernel_rfl) (upd_of rfl h)) (by rw [hun]; decide), uo f10 rfl, trivial⟩
           · intro dd aa ww K hc hun hn hI hK
             obtain ⟨y47, y48, y49, y50, y51, y52, y53, y46, y54, y55, ea, hb, hsz, vgu, vgd, vhO, xsum, psum, f0, f1, f2, f3, f4, f5, f6, f7, f8, f9, f10, _⟩ := hI
             try simp [Region.binds] at hn
             obtain ⟨ahAU, nhAU, chAU, ahAD, nhAD, chAD, ex, hAU, hAD⟩ := f6.out (by first | (simp [hn]; done) | exact rc hc hn | exact rc hc hn.1 | exact rc hc hn.2 | exact rc hc hn.2.1 | exact rc hc hn.2.2)
             subst ex
             have ex : y46 = .tuple #[.agg #[.bool (neg (P2).num), .slice ahAU nhAU chAU, .slice ahAD nhAD chAD], .int .i64 0] := f7.out (by first | (simp [hn]; done) | exact rc hc hn | exact rc hc hn.1 | exact rc hc hn.2 | exact rc hc hn.2.1 | exact rc hc hn.2.2)
             subst ex
             subst ea
             simp only [puts, Act.put, lsA, lsZ, lsS]
             go_simp
             refine hK.out _ _ ?_
             exact ⟨y47, y48, y49, y50, y51, y52, .tuple #[.agg #[.bool (neg (P2).num), .slice ahAU nhAU chAU, .slice ahAD nhAD chAD], .int .i64 0], .tuple #[.agg #[.bool (neg (P2).num), .slice ahAU nhAU chAU, .slice ahAD nhAD chAD], .int .i64 0], .agg #[.bool (neg (P2).num), .slice ahAU nhAU chAU, .slice ahAD nhAD chAD], y55, by simp only [puts, Act.put, lsA, lsZ, lsS], hb, hsz, vgu, vgd, vhO, xsum, fun h => (psum.out (upd_off h)), uo f0 rfl, uo f1 rfl, uo f2 rfl, uo f3 rfl, uo f4 rfl, fun _ h2 => absurd (show dd 6 = true from (by first | (simp [hn]; done) | exact rc hc hn | exact rc hc hn.1 | exact rc hc hn.2 | exact rc hc hn.2.1 | exact rc hc hn.2.2)) (by rw [upd_off h2]; decide), uo f6 rfl, fun h => rfl, fun _ => rfl, uo f9 rfl, fun h => absurd (hc.reach (f := 8) (s := 10) (l := 8) (by kernel_rfl) (upd_of rfl h)) (by rw [hun]; decide), trivial⟩
           · intro dd aa ww K hc hun hn hI hK
             obtain ⟨y47, y48, y49, y50, y51, y52, y53, y46, y54, y55, ea, hb, hsz, vgu, vgd, vhO, xsum, psum, f0, f1, f2, f3, f4, f5, f6, f7, f8, f9, f10, _⟩ := hI
             try simp [Region.binds] at hn
             obtain ⟨ahAU, nhAU, chAU, ahAD, nhAD, chAD, ex, hAU, hAD⟩ := f6.out (by first | (simp [hn]; done) | exact rc hc hn | exact rc hc hn.1 | exact rc hc hn.2 | exact rc hc hn.2.1 | exact rc hc hn.2.2)
             subst ex
             have ex : y46 = .tuple #[.agg #[.bool (neg (P2).num), .slice ahAU nhAU chAU, .slice ahAD nhAD chAD], .int .i64 0] := f7.out (by first | (simp [hn]; done) | exact rc hc hn | exact rc hc hn.1 | exact rc hc hn.2 | exact rc hc hn.2.1 | exact rc hc hn.2.2)
             subst ex
             subst ea
             simp only [puts, Act.put, lsA, lsZ, lsS]
             go_simp
             refine hK.out _ _ ?_
             exact ⟨y47, y48, y49, y50, y51, y52, .tuple #[.agg #[.bool (neg (P2).num), .slice ahAU nhAU chAU, .slice ahAD nhAD chAD], .int .i64 0], .tuple #[.agg #[.bool (neg (P2).num), .slice ahAU nhAU chAU, .slice ahAD nhAD chAD], .int .i64 0], y54, .int .i64 0, by simp only [puts, Act.put, lsA, lsZ, lsS], hb, hsz, vgu, vgd, vhO, xsum, fun h => (psum.out (upd_off h)), uo f0 rfl, uo f1 rfl, uo f2 rfl, uo f3 rfl, uo f4 rfl, fun _ h2 => absurd (show dd 6 = true from (by first | (simp [hn]; done) | exact rc hc hn | exact rc hc hn.1 | exact rc hc hn.2 | exact rc hc hn.2.1 | exact rc hc hn.2.2)) (by rw [upd_off h2]; decide), uo f6 rfl, fun h => rfl, uo f8 rfl, fun _ => rfl, uo f10 rfl, trivial⟩
           · intro dd aa ww K hc hun hn hI hK
             obtain ⟨y47, y48, y49, y50, y51, y52, y53, y46, y54, y55, ea, hb, hsz, vgu, vgd, vhO, xsum, psum, f0, f1, f2, f3, f4, f5, f6, f7, f8, f9, f10, _⟩ := hI
             try simp [Region.binds] at hn
             obtain ⟨ahAU, nhAU, chAU, ahAD, nhAD, chAD, ex, hAU, hAD⟩ := f6.out (by first | (simp [hn]; done) | exact rc hc hn | exact rc hc hn.1 | exact rc hc hn.2 | exact rc hc hn.2.1 | exact rc hc hn.2.2)
             subst ex
             have ex : y46 = .tuple #[.agg #[.bool (neg (P2).num), .slice ahAU nhAU chAU, .slice ahAD nhAD chAD], .int .i64 0] := f7.out (by first | (simp [hn]; done) | exact rc hc hn | exact rc hc hn.1 | exact rc hc hn.2 | exact rc hc hn.2.1 | exact rc hc hn.2.2)
             subst ex
             have ex : y54 = .agg #[.bool (neg (P2).num), .slice ahAU nhAU chAU, .slice ahAD nhAD chAD] := f8.out (by first | (simp [hn]; done) | exact rc hc hn | exact rc hc hn.1 | exact rc hc hn.2 | exact rc hc hn.2.1 | exact rc hc hn.2.2)
             subst ex
             have x3 := xsum
             obtain ⟨v0, v1, v2, z0, z1, z2, z3, z4, z5, _, _, _⟩ := x3.three
             have hv : ∀ v ∈ ([.bool (neg (P2).num), .slice ahAU nhAU chAU, .slice ahAD nhAD chAD] : List Value), notU v := by simp [notU_bool, notU_slice, notU_i64]
             subst ea
             simp only [puts, Act.put, lsA, lsZ, lsS]
             go_simp
             refine hK.out _ _ ?_
             exact ⟨y47, y48, y49, y50, y51, y52, .tuple #[.agg #[.bool (neg (P2).num), .slice ahAU nhAU chAU, .slice ahAD nhAD chAD], .int .i64 0], .tuple #[.agg #[.bool (neg (P2).num), .slice ahAU nhAU chAU, .slice ahAD nhAD chAD], .int .i64 0], .agg #[.bool (neg (P2).num), .slice ahAU nhAU chAU, .slice ahAD nhAD chAD], y55, by simp only [puts, Act.put, lsA, lsZ, lsS], hb.trans (below_setCells _ _ (by omega) [.bool (neg (P2).num), .slice ahAU nhAU chAU, .slice ahAD nhAD chAD] 0 _), (by simpa using hsz), OwnAt.sets [.bool (neg (P2).num), .slice ahAU nhAU chAU, .slice ahAD nhAD chAD] 0 _ vgu x3 (by simp) hv, OwnAt.sets [.bool (neg (P2).num), .slice ahAU nhAU chAU, .slice ahAD nhAD chAD] 0 _ vgd x3 (by simp) hv, IntsOwn.sets (by omega) [.bool (neg (P2).num), .slice ahAU nhAU chAU, .slice ahAD nhAD chAD] 0 _ vhO, BoxAt.sets [.bool (neg (P2).num), .slice ahAU nhAU chAU, .slice ahAD nhAD chAD] _ 0 _ xsum hv, fun h => absurd h (by simp [upd]), uo f0 rfl, uo f1 rfl, uo f2 rfl, uo f3 rfl, fun h => (f4.out (upd_of rfl h)).sets [.bool (neg (P2).num), .slice ahAU nhAU chAU, .slice ahAD nhAD chAD] x3 (by simp) hv, fun _ h2 => absurd (show dd 6 = true from (by first | (simp [hn]; done) | exact rc hc hn | exact rc hc hn.1 | exact rc hc hn.2 | exact rc hc hn.2.1 | exact rc hc hn.2.2)) (by rw [upd_off h2]; decide), fun h => ((f6.out (upd_of rfl h)).setsOff lsum [.bool (neg (P2).num), .slice ahAU nhAU chAU, .slice ahAD nhAD chAD]), fun h => rfl, fun h => rfl, uo f9 rfl, fun _ => ⟨[.bool (neg (P2).num), .slice ahAU nhAU chAU, .slice ahAD nhAD chAD], rfl, Cells.new x3 [.bool (neg (P2).num), .slice ahAU nhAU chAU, .slice ahAD nhAD chAD] (by simp)⟩, trivial⟩
         intro dd aa w1 hd hI
         obtain ⟨y47, y48, y49, y50, y51, y52, y53, y46, y54, y55, ea, hb, hsz, vgu, vgd, vhO, xsum, psum, f0, f1, f2, f3, f4, f5, f6, f7, f8, f9, f10, _⟩ := hI
         have ex := f0.out (hd 0 (by simp))
         subst ex
         have ex := f1.out (hd 1 (by simp))
         subst ex
         have ex := f2.out (hd 2 (by simp))
         subst ex
         have ex := f3.out (hd 3 (by simp))
         subst ex
         obtain ⟨ahIU, nhIU, chIU, ahID, nhID, chID, ex, hIU, hID⟩ := f4.out (hd 4 (by simp))
         subst ex
         obtain ⟨ahAU, nhAU, chAU, ahAD, nhAD, chAD, ex, hAU, hAD⟩ := f6.out (hd 6 (by simp))
         subst ex
         have ex : y46 = .tuple #[.agg #[.bool (neg (P2).num), .slice ahAU nhAU chAU, .slice ahAD nhAD chAD], .int .i64 0] := f7.out (hd 7 (by simp))
         subst ex
         have ex : y54 = .agg #[.bool (neg (P2).num), .slice ahAU nhAU chAU, .slice ahAD nhAD chAD] := f8.out (hd 8 (by simp))
         subst ex
         have ex : y55 = .int .i64 0 := f9.out (hd 9 (by simp))
         subst ex
         obtain ⟨vs10, e, h10⟩ := f10.out (hd 10 (by simp))
         cases e
         have lsum := Nat.lt_of_lt_of_le lsum hsz
         have qsum0 := h10 0 (by simp)
         simp only [lgZ, lgS] at qsum0
         have qsum1 := h10 1 (by simp)
         simp only [lgZ, lgS] at qsum1
         have qsum2 := h10 2 (by simp)
         simp only [lgZ, lgS] at qsum2
         subst ea
         simp only [puts, Act.put, lsA, lsZ, lsS]
         have hAU := hAU.mono szW
         have hAD := hAD.mono szW
         have gu := vgu
         have gd := vgd
         have hO := vhO
         have hB := hb
         clear psum
         clear hb hd
         go_wp2
         go_roundw
         case rel => exact ⟨1 + 1, _, _, _, _, _, _, by omega, by go_num, by rw [HP2.out]; exact hAU, by rw [HP2.out]; exact hAD, hO, hB, lsum, by rw [HP2.out]; exact qsum0, qsum1, qsum2, xsum⟩
         case measure => simp [intOf]; omega
     · obtain rfl : i = n := by omega
       have lp := HSUM.out D hd1 hd2 i hn2
       have hw := HW.out D
       have lsc : rlen (mkRat (S : Int) 1) ≤ 1 := rlen_small (by decide) (by omega) (by decide)
       obtain ⟨P, hP⟩ : ∃ P, sumS F D i = P := ⟨_, rfl⟩
       obtain ⟨Sc, hSc⟩ : ∃ Sc, mkRat (S : Int) 1 = Sc := ⟨_, rfl⟩
       have hv : rlen (P * Sc) ≤ rlen P + rlen Sc + 1 := product_short P Sc
       rw [hP, hSc] at hw
       rw [hP] at gu gd qsum0 lp
       rw [hSc] at lsc
       obtain ⟨V, hV⟩ : ∃ V, P * Sc = V := ⟨_, rfl⟩
       rw [hV] at hw hv
       obtain ⟨Z, hZ⟩ : ∃ Z, W D = Z := ⟨_, rfl⟩
       rw [hZ] at hw
       have HSC := Lib.hid hSc
       have HV := Lib.hid hV
       have HZ := Lib.hid hw.symm
       have HWZ := Lib.hid (show W (j + 1) = Z by rw [HD.out]; exact hZ)
       have LP := Lib.hid (show rlen P ≤ 1048576 by omega)
       have LSC := Lib.hid (show rlen Sc ≤ 1048576 by omega)
       have LV := Lib.hid (show rlen V ≤ 1048576 by omega)
       have hbadj := HBAD.out j hlt
       rw [HD.out, hZ] at hbadj
       have HBJ := Lib.hid hbadj
       clear hP hSc hV hw hZ lp lsc hv hbadj
       go_wp2_with fail
       have szW := hB.size
       refine wp_region_invA (by kernel_rfl) rfl (by kernel_rfl) (fun A0 V0 dd aa ww => ∃ (blk : Nat → Nat) (y58 y59 y60 y61 y62 y57 y63 y64 y13 y14 : Value), aa = puts A0 [(58, y58), (59, y59), (60, y60), (61, y61), (62, y62), (57, y57), (63, y63), (64, y64), (13, y13), (14, y14)] ∧ Below V0.heap.size V0 ww ∧ Boxes [(8, 3)] V0.heap.size dd blk ww ∧ Shut (dd 0 = true → y58 = .agg #[.bool (neg P.num), .slice au nu cu, .slice ad nd cd]) ∧ Shut (dd 1 = true → y59 = .int .i64 (S : Int)) ∧ Shut (dd 2 = true → RatV V0.heap.size (Sc) y60 ww) ∧ Shut (dd 3 = true → dd 4 = false → LstV V0.heap.size 2 ([y58, y60].flatMap cellsOf) y61 ww) ∧ Shut (dd 4 = true → OkV V0.heap.size (V) y62 ww) ∧ Shut (dd 5 = true → y57 = y62) ∧ Shut (dd 6 = true → y63 = part 0 y57) ∧ Shut (dd 7 = true → y64 = part 1 y57) ∧ Shut (dd 8 = true → y13 = .pointer (some ⟨blk 8, 0, none⟩)) ∧ Shut (dd 9 = true → HoldsV dd 8 6 (blk 8) y63 ww) ∧ Shut (dd 10 = true → y14 = y64) ∧ True) ?_ ?_ ?_
       · exact ⟨fun _ => 0, _, _, _, _, _, _, _, _, _, _, puts_self _ [58, 59, 60, 61, 62, 57, 63, 64, 13, 14], (Below.refl _ _).drew, Boxes.none _ _ _ _, fun h => (by cases h), fun h => (by cases h), fun h => (by cases h), fun h => (by cases h), fun h => (by cases h), fun h => (by cases h), fun h => (by cases h), fun h => (by cases h), fun h => (by cases h), fun h => (by cases h), fun h => (by cases h), trivial⟩
       · refine Steps.cons ?_ (Steps.cons ?_ (Steps.cons ?_ (Steps.cons ?_ (Steps.cons ?_ (Steps.cons ?_ (Steps.cons ?_ (Steps.cons ?_ (Steps.cons ?_ (Steps.cons ?_ (Steps.cons ?_ (Steps.nil)))))))))))
         · intro dd aa ww K hc hun hn hI hK
           obtain ⟨blk, y58, y59, y60, y61, y62, y57, y63, y64, y13, y14, ea, hb, hX, f0, f1, f2, f3, f4, f5, f6, f7, f8, f9, f10, _⟩ := hI
           try simp [Region.binds] at hn
           have e0 := (hb.cell (p := ⟨BS, 0, none⟩) lsum).trans qsum0
           have e1 := (hb.cell (p := ⟨BS, 1, none⟩) lsum).trans qsum1
           have e2 := (hb.cell (p := ⟨BS, 2, none⟩) lsum).trans qsum2
           subst ea
           simp only [puts, Act.put, lsA, lsZ, lsS]
           go_simp
           refine hK.out _ _ ?_
           exact ⟨blk, .agg #[.bool (neg P.num), .slice au nu cu, .slice ad nd cd], y59, y60, y61, y62, y57, y63, y64, y13, y14, by simp only [puts, Act.put, lsA, lsZ, lsS], hb, hX.same 0 rfl, fun _ => rfl, uo f1 rfl, uo f2 rfl, fun h => absurd (hc.reach (f := 8) (s := 3) (l := 0) (by kernel_rfl) (upd_of rfl h)) (by rw [hun]; decide), uo f4 rfl, uo f5 rfl, uo f6 rfl, uo f7 rfl, uo f8 rfl, fun h => (f9.out (upd_of rfl h)).same 0, uo f10 rfl, trivial⟩
         · intro dd aa ww K hc hun hn hI hK
           obtain ⟨blk, y58, y59, y60, y61, y62, y57, y63, y64, y13, y14, ea, hb, hX, f0, f1, f2, f3, f4, f5, f6, f7, f8, f9, f10, _⟩ := hI
           try simp [Region.binds] at hn
           subst ea
           simp only [puts, Act.put, lsA, lsZ, lsS]
           go_simp
           refine hK.out _ _ ?_
           exact ⟨blk, y58, .int .i64 (S : Int), y60, y61, y62, y57, y63, y64, y13, y14, by simp only [puts, Act.put, lsA, lsZ, lsS], hb, hX.same 1 rfl, uo f0 rfl, fun _ => rfl, uo f2 rfl, fun h h2 => ((f3.out (upd_of rfl h)) (upd_off h2)), uo f4 rfl, uo f5 rfl, uo f6 rfl, uo f7 rfl, uo f8 rfl, fun h => (f9.out (upd_of rfl h)).same 1, uo f10 rfl, trivial⟩
         · intro dd aa ww K hc hun hn hI hK
           obtain ⟨blk, y58, y59, y60, y61, y62, y57, y63, y64, y13, y14, ea, hb, hX, f0, f1, f2, f3, f4, f5, f6, f7, f8, f9, f10, _⟩ := hI
           try simp [Region.binds] at hn
           have ex := f1.out (by first | (simp [hn]; done) | exact rc hc hn | exact rc hc hn.1 | exact rc hc hn.2 | exact rc hc hn.2.1 | exact rc hc hn.2.2)
           subst ex
           subst ea
           simp only [puts, Act.put, lsA, lsZ, lsS]
           go_simp
           with_reducible refine (soliScale _ hS2).mono ?_
           rintro e w1 ⟨ahCU, nhCU, chCU, ahCD, nhCD, chCD, rfl, hCU, hCD, h1⟩
           rw [HSC.out] at hCU hCD ⊢
           refine hK.out _ _ ?_
           exact ⟨blk, y58, .int .i64 (S : Int), .agg #[.bool (neg (Sc).num), .slice ahCU nhCU chCU, .slice ahCD nhCD chCD], y61, y62, y57, y63, y64, y13, y14, by simp only [puts, Act.put, lsA, lsZ, lsS], below_later hb h1, hX.past h1 2 rfl, uo f0 rfl, fun h => rfl, fun _ => ⟨_, _, _, _, _, _, rfl, hCU.mono hb.size, hCD.mono hb.size⟩, fun h => absurd (hc.reach (f := 8) (s := 3) (l := 2) (by kernel_rfl) (upd_of rfl h)) (by rw [hun]; decide), fun h => (f4.out (upd_of rfl h)).past h1, uo f5 rfl, uo f6 rfl, uo f7 rfl, uo f8 rfl, fun h => (f9.out (upd_of rfl h)).past h1 2, uo f10 rfl, trivial⟩
         · intro dd aa ww K hc hun hn hI hK
           obtain ⟨blk, y58, y59, y60, y61, y62, y57, y63, y64, y13, y14, ea, hb, hX, f0, f1, f2, f3, f4, f5, f6, f7, f8, f9, f10, _⟩ := hI
           try simp [Region.binds] at hn
           have ex := f0.out (by first | (simp [hn]; done) | exact rc hc hn | exact rc hc hn.1 | exact rc hc hn.2 | exact rc hc hn.2.1 | exact rc hc hn.2.2)
           subst ex
           obtain ⟨ahCU, nhCU, chCU, ahCD, nhCD, chCD, ex, hCU, hCD⟩ := f2.out (by first | (simp [hn]; done) | exact rc hc hn | exact rc hc hn.1 | exact rc hc hn.2 | exact rc hc hn.2.1 | exact rc hc hn.2.2)
           subst ex
           subst ea
           simp only [puts, Act.put, lsA, lsZ, lsS]
           go_simp
           refine hK.out _ _ ?_
           exact ⟨blk, .agg #[.bool (neg P.num), .slice au nu cu, .slice ad nd cd], y59, .agg #[.bool (neg (Sc).num), .slice ahCU nhCU chCU, .slice ahCD nhCD chCD], .slice (some ⟨ww.heap.size, 0, none⟩) 2 2, y62, y57, y63, y64, y13, y14, by simp only [puts, Act.put, lsA, lsZ, lsS], below_alloc hb _, hX.past ((Below.refl _ _).alloc (Nat.le_refl _) _) 3 rfl, fun h => rfl, uo f1 rfl, fun h => (f2.out (upd_of rfl h)).past ((Below.refl _ _).alloc (Nat.le_refl _) _), fun _ _ => LstV.new hb.size _ _, fun h => (f4.out (upd_of rfl h)).past ((Below.refl _ _).alloc (Nat.le_refl _) _), uo f5 rfl, uo f6 rfl, uo f7 rfl, uo f8 rfl, fun h => (f9.out (upd_of rfl h)).past ((Below.refl _ _).alloc (Nat.le_refl _) _) 3, uo f10 rfl, trivial⟩
         · intro dd aa ww K hc hun hn hI hK
           obtain ⟨blk, y58, y59, y60, y61, y62, y57, y63, y64, y13, y14, ea, hb, hX, f0, f1, f2, f3, f4, f5, f6, f7, f8, f9, f10, _⟩ := hI
           try simp [Region.binds] at hn
           have ex := f0.out (by first | (simp [hn]; done) | exact rc hc hn | exact rc hc hn.1 | exact rc hc hn.2 | exact rc hc hn.2.1 | exact rc hc hn.2.2)
           subst ex
           obtain ⟨ahCU, nhCU, chCU, ahCD, nhCD, chCD, ex, hCU, hCD⟩ := f2.out (by first | (simp [hn]; done) | exact rc hc hn | exact rc hc hn.1 | exact rc hc hn.2 | exact rc hc hn.2.1 | exact rc hc hn.2.2)
           subst ex
           obtain ⟨G3, ex, hg1, hg2, hg3⟩ := f3.out (by first | (simp [hn]; done) | exact rc hc hn | exact rc hc hn.1 | exact rc hc hn.2 | exact rc hc hn.2.1 | exact rc hc hn.2.2) hun
           subst ex
           have z0 := hg3 0 (by simp [cellsOf])
           have z1 := hg3 1 (by simp [cellsOf])
           have z2 := hg3 2 (by simp [cellsOf])
           have z3 := hg3 3 (by simp [cellsOf])
           have z4 := hg3 4 (by simp [cellsOf])
           have z5 := hg3 5 (by simp [cellsOf])
           simp only [List.flatMap_cons, List.flatMap_nil, cellsOf, List.cons_append, List.nil_append, List.append_nil, lgZ, lgS] at z0 z1 z2 z3 z4 z5
           subst ea
           simp only [puts, Act.put, lsA, lsZ, lsS]
           go_simp
           with_reducible refine (mul_two (RatsAt.two hg2 z0 z1 z2 z3 z4 z5 (gu.past hb).toNatAt (gd.past hb).toNatAt hCU.toNatAt hCD.toNatAt) LP.out LSC.out).mono ?_
           rintro e w1 ⟨ahVU, nhVU, chVU, ahVD, nhVD, chVD, rfl, hVU, hVD, h1⟩
           rw [HV.out] at hVU hVD ⊢
           refine hK.out _ _ ?_
           exact ⟨blk, .agg #[.bool (neg P.num), .slice au nu cu, .slice ad nd cd], y59, .agg #[.bool (neg (Sc).num), .slice ahCU nhCU chCU, .slice ahCD nhCD chCD], .slice (some ⟨G3, 0, none⟩) 2 2, .tuple #[.agg #[.bool (neg (V).num), .slice ahVU nhVU chVU, .slice ahVD nhVD chVD], .int .i64 0], y57, y63, y64, y13, y14, by simp only [puts, Act.put, lsA, lsZ, lsS], below_later hb h1, hX.past h1 4 rfl, fun h => rfl, uo f1 rfl, fun h => (f2.out (upd_of rfl h)).past h1, fun _ h2 => absurd h2 (by simp [upd]), fun _ => ⟨_, _, _, _, _, _, rfl, hVU.mono hb.size, hVD.mono hb.size⟩, fun h => absurd (hc.reach (f := 8) (s := 5) (l := 4) (by kernel_rfl) (upd_of rfl h)) (by rw [hun]; decide), uo f6 rfl, uo f7 rfl, uo f8 rfl, fun h => (f9.out (upd_of rfl h)).past h1 4, uo f10 rfl, trivial⟩
         · intro dd aa ww K hc hun hn hI hK
           obtain ⟨blk, y58, y59, y60, y61, y62, y57, y63, y64, y13, y14, ea, hb, hX, f0, f1, f2, f3, f4, f5, f6, f7, f8, f9, f10, _⟩ := hI
           try simp [Region.binds] at hn
           obtain ⟨ahVU, nhVU, chVU, ahVD, nhVD, chVD, ex, hVU, hVD⟩ := f4.out (by first | (simp [hn]; done) | exact rc hc hn | exact rc hc hn.1 | exact rc hc hn.2 | exact rc hc hn.2.1 | exact rc hc hn.2.2)
           subst ex
           subst ea
           simp only [puts, Act.put, lsA, lsZ, lsS]
           go_simp
           refine hK.out _ _ ?_
           exact ⟨blk, y58, y59, y60, y61, .tuple #[.agg #[.bool (neg (V).num), .slice ahVU nhVU chVU, .slice ahVD nhVD chVD], .int .i64 0], .tuple #[.agg #[.bool (neg (V).num), .slice ahVU nhVU chVU, .slice ahVD nhVD chVD], .int .i64 0], y63, y64, y13, y14, by simp only [puts, Act.put, lsA, lsZ, lsS], hb, hX.same 5 rfl, uo f0 rfl, uo f1 rfl, uo f2 rfl, fun _ h2 => absurd (show dd 4 = true from (by first | (simp [hn]; done) | exact rc hc hn | exact rc hc hn.1 | exact rc hc hn.2 | exact rc hc hn.2.1 | exact rc hc hn.2.2)) (by rw [upd_off h2]; decide), uo f4 rfl, fun _ => rfl, fun h => absurd (hc.reach (f := 8) (s := 6) (l := 5) (by kernel_rfl) (upd_of rfl h)) (by rw [hun]; decide), fun h => absurd (hc.reach (f := 8) (s := 7) (l := 5) (by kernel_rfl) (upd_of rfl h)) (by rw [hun]; decide), uo f8 rfl, fun h => (f9.out (upd_of rfl h)).same 5, uo f10 rfl, trivial⟩
         · intro dd aa ww K hc hun hn hI hK
           obtain ⟨blk, y58, y59, y60, y61, y62, y57, y63, y64, y13, y14, ea, hb, hX, f0, f1, f2, f3, f4, f5, f6, f7, f8, f9, f10, _⟩ := hI
           try simp [Region.binds] at hn
           obtain ⟨ahVU, nhVU, chVU, ahVD, nhVD, chVD, ex, hVU, hVD⟩ := f4.out (by first | (simp [hn]; done) | exact rc hc hn | exact rc hc hn.1 | exact rc hc hn.2 | exact rc hc hn.2.1 | exact rc hc hn.2.2)
           subst ex
           have ex : y57 = .tuple #[.agg #[.bool (neg (V).num), .slice ahVU nhVU chVU, .slice ahVD nhVD chVD], .int .i64 0] := f5.out (by first | (simp [hn]; done) | exact rc hc hn | exact rc hc hn.1 | exact rc hc hn.2 | exact rc hc hn.2.1 | exact rc hc hn.2.2)
           subst ex
           subst ea
           simp only [puts, Act.put, lsA, lsZ, lsS]
           go_simp
           refine hK.out _ _ ?_
           exact ⟨blk, y58, y59, y60, y61, .tuple #[.agg #[.bool (neg (V).num), .slice ahVU nhVU chVU, .slice ahVD nhVD chVD], .int .i64 0], .tuple #[.agg #[.bool (neg (V).num), .slice ahVU nhVU chVU, .slice ahVD nhVD chVD], .int .i64 0], .agg #[.bool (neg (V).num), .slice ahVU nhVU chVU, .slice ahVD nhVD chVD], y64, y13, y14, by simp only [puts, Act.put, lsA, lsZ, lsS], hb, hX.same 6 rfl, uo f0 rfl, uo f1 rfl, uo f2 rfl, fun _ h2 => absurd (show dd 4 = true from (by first | (simp [hn]; done) | exact rc hc hn | exact rc hc hn.1 | exact rc hc hn.2 | exact rc hc hn.2.1 | exact rc hc hn.2.2)) (by rw [upd_off h2]; decide), uo f4 rfl, fun h => rfl, fun _ => rfl, uo f7 rfl, uo f8 rfl, fun h => absurd (HoldsV.vp (f9.out (upd_of rfl h))) (by rw [hun]; decide), uo f10 rfl, trivial⟩
         · intro dd aa ww K hc hun hn hI hK
           obtain ⟨blk, y58, y59, y60, y61, y62, y57, y63, y64, y13, y14, ea, hb, hX, f0, f1, f2, f3, f4, f5, f6, f7, f8, f9, f10, _⟩ := hI
           try simp [Region.binds] at hn
           obtain ⟨ahVU, nhVU, chVU, ahVD, nhVD, chVD, ex, hVU, hVD⟩ := f4.out (by first | (simp [hn]; done) | exact rc hc hn | exact rc hc hn.1 | exact rc hc hn.2 | exact rc hc hn.2.1 | exact rc hc hn.2.2)
           subst ex
           have ex : y57 = .tuple #[.agg #[.bool (neg (V).num), .slice ahVU nhVU chVU, .slice ahVD nhVD chVD], .int .i64 0] := f5.out (by first | (simp [hn]; done) | exact rc hc hn | exact rc hc hn.1 | exact rc hc hn.2 | exact rc hc hn.2.1 | exact rc hc hn.2.2)
           subst ex
           subst ea
           simp only [puts, Act.put, lsA, lsZ, lsS]
           go_simp
           refine hK.out _ _ ?_
           exact ⟨blk, y58, y59, y60, y61, .tuple #[.agg #[.bool (neg (V).num), .slice ahVU nhVU chVU, .slice ahVD nhVD chVD], .int .i64 0], .tuple #[.agg #[.bool (neg (V).num), .slice ahVU nhVU chVU, .slice ahVD nhVD chVD], .int .i64 0], y63, .int .i64 0, y13, y14, by simp only [puts, Act.put, lsA, lsZ, lsS], hb, hX.same 7 rfl, uo f0 rfl, uo f1 rfl, uo f2 rfl, fun _ h2 => absurd (show dd 4 = true from (by first | (simp [hn]; done) | exact rc hc hn | exact rc hc hn.1 | exact rc hc hn.2 | exact rc hc hn.2.1 | exact rc hc hn.2.2)) (by rw [upd_off h2]; decide), uo f4 rfl, fun h => rfl, uo f6 rfl, fun _ => rfl, uo f8 rfl, fun h => (f9.out (upd_of rfl h)).same 7, fun h => absurd (hc.reach (f := 8) (s := 10) (l := 7) (by kernel_rfl) (upd_of rfl h)) (by rw [hun]; decide), trivial⟩
         · intro dd aa ww K hc hun hn hI hK
           obtain ⟨blk, y58, y59, y60, y61, y62, y57, y63, y64, y13, y14, ea, hb, hX, f0, f1, f2, f3, f4, f5, f6, f7, f8, f9, f10, _⟩ := hI
           try simp [Region.binds] at hn
           subst ea
           simp only [puts, Act.put, lsA, lsZ, lsS]
           go_simp
           refine hK.out _ _ ?_
           exact ⟨setB blk 8 ww.heap.size, y58, y59, y60, y61, y62, y57, y63, y64, .pointer (some ⟨ww.heap.size, 0, none⟩), y14, by simp only [puts, Act.put, lsA, lsZ, lsS], below_alloc hb _, hX.new hb.size 8 #[.bool false, .slice none 0 0, .slice none 0 0] _ rfl (by simp [notU_bool, notU_slice, notU_i64]), uo f0 rfl, uo f1 rfl, fun h => (f2.out (upd_of rfl h)).past ((Below.refl _ _).alloc (Nat.le_refl _) _), fun h h2 => ((f3.out (upd_of rfl h)) (upd_off h2)).past ((Below.refl _ _).alloc (Nat.le_refl _) _), fun h => (f4.out (upd_of rfl h)).past ((Below.refl _ _).alloc (Nat.le_refl _) _), uo f5 rfl, uo f6 rfl, uo f7 rfl, fun _ => rfl, fun h => absurd (HoldsV.up (f9.out (upd_of rfl h))) (by rw [hun]; decide), uo f10 rfl, trivial⟩
         · intro dd aa ww K hc hun hn hI hK
           obtain ⟨blk, y58, y59, y60, y61, y62, y57, y63, y64, y13, y14, ea, hb, hX, f0, f1, f2, f3, f4, f5, f6, f7, f8, f9, f10, _⟩ := hI
           try simp [Region.binds] at hn
           have ex := f8.out (by first | (simp [hn]; done) | exact rc hc hn | exact rc hc hn.1 | exact rc hc hn.2 | exact rc hc hn.2.1 | exact rc hc hn.2.2)
           subst ex
           obtain ⟨ahVU, nhVU, chVU, ahVD, nhVD, chVD, ex, hVU, hVD⟩ := f4.out (by first | (simp [hn]; done) | exact rc hc hn | exact rc hc hn.1 | exact rc hc hn.2 | exact rc hc hn.2.1 | exact rc hc hn.2.2)
           subst ex
           have ex : y57 = .tuple #[.agg #[.bool (neg (V).num), .slice ahVU nhVU chVU, .slice ahVD nhVD chVD], .int .i64 0] := f5.out (by first | (simp [hn]; done) | exact rc hc hn | exact rc hc hn.1 | exact rc hc hn.2 | exact rc hc hn.2.1 | exact rc hc hn.2.2)
           subst ex
           have ex : y63 = .agg #[.bool (neg (V).num), .slice ahVU nhVU chVU, .slice ahVD nhVD chVD] := f6.out (by first | (simp [hn]; done) | exact rc hc hn | exact rc hc hn.1 | exact rc hc hn.2 | exact rc hc hn.2.1 | exact rc hc hn.2.2)
           subst ex
           have hd8 : dd 8 = true := by simp [hn]
           have hv6 : dd 6 = true := by simp [hn]
           obtain ⟨x1, x2, x3⟩ := hX.at_ (8, 3) (by simp) hd8
           obtain ⟨v0, v1, v2, z0, z1, z2, z3, z4, z5, _, _, _⟩ := x3.three
           have hv : ∀ v ∈ ([.bool (neg (V).num), .slice ahVU nhVU chVU, .slice ahVD nhVD chVD] : List Value), notU v := by simp [notU_bool, notU_slice, notU_i64]
           subst ea
           simp only [puts, Act.put, lsA, lsZ, lsS]
           go_simp
           refine hK.out _ _ ?_
           exact ⟨blk, y58, y59, y60, y61, .tuple #[.agg #[.bool (neg (V).num), .slice ahVU nhVU chVU, .slice ahVD nhVD chVD], .int .i64 0], .tuple #[.agg #[.bool (neg (V).num), .slice ahVU nhVU chVU, .slice ahVD nhVD chVD], .int .i64 0], .agg #[.bool (neg (V).num), .slice ahVU nhVU chVU, .slice ahVD nhVD chVD], y64, .pointer (some ⟨blk 8, 0, none⟩), y14, by simp only [puts, Act.put, lsA, lsZ, lsS], hb.trans (below_setCells _ _ x1 [.bool (neg (V).num), .slice ahVU nhVU chVU, .slice ahVD nhVD chVD] 0 _), (hX.sets [.bool (neg (V).num), .slice ahVU nhVU chVU, .slice ahVD nhVD chVD] _ 0 _ hv).same 9 rfl, uo f0 rfl, uo f1 rfl, fun h => ((f2.out (upd_of rfl h)).sets [.bool (neg (V).num), .slice ahVU nhVU chVU, .slice ahVD nhVD chVD] x3 (by simp) hv), fun _ h2 => absurd (show dd 4 = true from (by first | (simp [hn]; done) | exact rc hc hn | exact rc hc hn.1 | exact rc hc hn.2 | exact rc hc hn.2.1 | exact rc hc hn.2.2)) (by rw [upd_off h2]; decide), fun h => ((f4.out (upd_of rfl h)).sets [.bool (neg (V).num), .slice ahVU nhVU chVU, .slice ahVD nhVD chVD] x3 (by simp) hv), fun h => rfl, fun h => rfl, uo f7 rfl, fun h => rfl, fun _ => (HoldsV.new hd8 hv6 x2 x3 [.bool (neg (V).num), .slice ahVU nhVU chVU, .slice ahVD nhVD chVD] (by simp)).same 9, uo f10 rfl, trivial⟩
         · intro dd aa ww K hc hun hn hI hK
           obtain ⟨blk, y58, y59, y60, y61, y62, y57, y63, y64, y13, y14, ea, hb, hX, f0, f1, f2, f3, f4, f5, f6, f7, f8, f9, f10, _⟩ := hI
           try simp [Region.binds] at hn
           obtain ⟨ahVU, nhVU, chVU, ahVD, nhVD, chVD, ex, hVU, hVD⟩ := f4.out (by first | (simp [hn]; done) | exact rc hc hn | exact rc hc hn.1 | exact rc hc hn.2 | exact rc hc hn.2.1 | exact rc hc hn.2.2)
           subst ex
           have ex : y57 = .tuple #[.agg #[.bool (neg (V).num), .slice ahVU nhVU chVU, .slice ahVD nhVD chVD], .int .i64 0] := f5.out (by first | (simp [hn]; done) | exact rc hc hn | exact rc hc hn.1 | exact rc hc hn.2 | exact rc hc hn.2.1 | exact rc hc hn.2.2)
           subst ex
           have ex : y64 = .int .i64 0 := f7.out (by first | (simp [hn]; done) | exact rc hc hn | exact rc hc hn.1 | exact rc hc hn.2 | exact rc hc hn.2.1 | exact rc hc hn.2.2)
           subst ex
           subst ea
           simp only [puts, Act.put, lsA, lsZ, lsS]
           go_simp
           refine hK.out _ _ ?_
           exact ⟨blk, y58, y59, y60, y61, .tuple #[.agg #[.bool (neg (V).num), .slice ahVU nhVU chVU, .slice ahVD nhVD chVD], .int .i64 0], .tuple #[.agg #[.bool (neg (V).num), .slice ahVU nhVU chVU, .slice ahVD nhVD chVD], .int .i64 0], y63, .int .i64 0, y13, .int .i64 0, by simp only [puts, Act.put, lsA, lsZ, lsS], hb, hX.same 10 rfl, uo f0 rfl, uo f1 rfl, uo f2 rfl, fun _ h2 => absurd (show dd 4 = true from (by first | (simp [hn]; done) | exact rc hc hn | exact rc hc hn.1 | exact rc hc hn.2 | exact rc hc hn.2.1 | exact rc hc hn.2.2)) (by rw [upd_off h2]; decide), uo f4 rfl, fun h => rfl, uo f6 rfl, fun h => rfl, uo f8 rfl, fun h => (f9.out (upd_of rfl h)).same 10, fun _ => rfl, trivial⟩
       intro dd aa w1 hd hI
       obtain ⟨blk, y58, y59, y60, y61, y62, y57, y63, y64, y13, y14, ea, hb, hX, f0, f1, f2, f3, f4, f5, f6, f7, f8, f9, f10, _⟩ := hI
       have ex := f0.out (hd 0 (by simp))
       subst ex
       have ex := f1.out (hd 1 (by simp))
       subst ex
       obtain ⟨ahCU, nhCU, chCU, ahCD, nhCD, chCD, ex, hCU, hCD⟩ := f2.out (hd 2 (by simp))
       subst ex
       obtain ⟨ahVU, nhVU, chVU, ahVD, nhVD, chVD, ex, hVU, hVD⟩ := f4.out (hd 4 (by simp))
       subst ex
       have ex : y57 = .tuple #[.agg #[.bool (neg (V).num), .slice ahVU nhVU chVU, .slice ahVD nhVD chVD], .int .i64 0] := f5.out (hd 5 (by simp))
       subst ex
       have ex : y63 = .agg #[.bool (neg (V).num), .slice ahVU nhVU chVU, .slice ahVD nhVD chVD] := f6.out (hd 6 (by simp))
       subst ex
       have ex : y64 = .int .i64 0 := f7.out (hd 7 (by simp))
       subst ex
       have ex := f8.out (hd 8 (by simp))
       subst ex
       obtain ⟨vs9, e, h9⟩ := f9.out (hd 9 (by simp))
       cases e
       have ex : y14 = .int .i64 0 := f10.out (hd 10 (by simp))
       subst ex
       have lwhole := h9.lt
       have qwhole0 := h9.at_ 0 (by simp)
       simp only [lgZ, lgS] at qwhole0
       have qwhole1 := h9.at_ 1 (by simp)
       simp only [lgZ, lgS] at qwhole1
       have qwhole2 := h9.at_ 2 (by simp)
       simp only [lgZ, lgS] at qwhole2
       have uwholesum : BS < blk 8 := Nat.lt_of_lt_of_le lsum (hX.at_ (8, 3) (by simp) (hd 8 (by simp))).1
       generalize blk 8 = Bwhole at *
       subst ea
       simp only [puts, Act.put, lsA, lsZ, lsS]
       have hCU := hCU.mono szW
       have hCD := hCD.mono szW
       have hVU := hVU.mono szW
       have hVD := hVD.mono szW
       have gu := gu.past hb
       have gd := gd.past hb
       have hO := hO.past hb
       have xsum := xsum.past hb lsum
       obtain ⟨qsum0, qsum1, qsum2, lsum⟩ := bq3 hb lsum qsum0 qsum1 qsum2
       have hB := below_later hB hb
       clear hX
       clear hb hd
       go_wp2_with fail
       with_reducible refine (round_wh hVU.toNatAt hVD.toNatAt LV.out).mono ?_
       rintro e w2 ⟨ahZ, nhZ, chZ, rfl, hZ, hb⟩
       have hZ := hZ.mono hB.size
       have hO := hO.past hb
       have hVU := hVU.past hb
       have hVD := hVD.past hb
       obtain ⟨qwhole0, qwhole1, qwhole2, lwhole⟩ := bq3 hb lwhole qwhole0 qwhole1 qwhole2
       have hB := below_later hB hb
       clear hb
       rw [HZ.out] at hZ ⊢
       by_cases hz1 : -9223372036854775808 ≤ Z ∧ Z ≤ 9223372036854775807
       · obtain ⟨y1, y2⟩ := one_yes hz1
         by_cases hz2 : Z ≤ 16777215
         · have Y1 := Lib.hid y1
           have Y2 := Lib.hid y2
           clear y1 y2
           go_wp2_with fail
           obtain ⟨w3, hW, hz0, hb, q, f⟩ := box1g w2 (w2.heap.size) (by omega) #[.bool (neg Z), .slice ahZ nhZ chZ] 25
           rw [hW]
           clear hW
           have hO := hO.past hb
           have hZ := hZ.past hb
           have hB := below_later hB hb
           clear hb
           have lnI : w2.heap.size < w3.heap.size := by omega
           have qnI0 := q 0; have qnI1 := q 1
           simp only [lgA, lgZ, lgS] at qnI0 qnI1
           clear q f
           clear hz0
           with_reducible refine (sone_c hZ.toNatAt).mono ?_
           rintro e w4 ⟨rfl, hb⟩
           have hO := hO.past hb
           have hZ := hZ.past hb
           obtain ⟨qnI0, qnI1, lnI⟩ := bq2 hb lnI qnI0 qnI1
           have hB := below_later hB hb
           clear hb
           rw [Y1.out, Y2.out]
           have hc := hO.cell j hlt
           have hfr := hO.free j
           go_wp2
           go_roundw
           case rel => exact ⟨j + 1, by omega, by go_num, by rw [← outL_set hlt, HWZ.out]; exact hO.set hlt Z, Lib.hid (fun i hi => by
            by_cases e : i = j
            · subst e; rw [HWZ.out]; exact ⟨hz1.1, hz2⟩
            · exact HALL.out i (by omega)), hB.setCell (Nat.le_refl _) _⟩
           case measure => simp [intOf]; omega
         · have Y1 := Lib.hid y1
           have Y2 := Lib.hid y2
           clear y1 y2
           have e : R = .error 13 := by rw [← HR.out, if_neg (HBJ.out (by omega))]
           subst e
           clear HR
           go_wp2_with fail
           obtain ⟨w3, hW, hz0, hb, q, f⟩ := box1g w2 (w2.heap.size) (by omega) #[.bool (neg Z), .slice ahZ nhZ chZ] 25
           rw [hW]
           clear hW
           have hO := hO.past hb
           have hZ := hZ.past hb
           have hB := below_later hB hb
           clear hb
           have lnI : w2.heap.size < w3.heap.size := by omega
           have qnI0 := q 0; have qnI1 := q 1
           simp only [lgA, lgZ, lgS] at qnI0 qnI1
           clear q f
           clear hz0
           with_reducible refine (sone_c hZ.toNatAt).mono ?_
           rintro e w4 ⟨rfl, hb⟩
           have hO := hO.past hb
           have hZ := hZ.past hb
           obtain ⟨qnI0, qnI1, lnI⟩ := bq2 hb lnI qnI0 qnI1
           have hB := below_later hB hb
           clear hb
           rw [Y1.out, Y2.out]
           go_wp2
           go_ret2
           exact ⟨_, _, _, rfl, IntsAt.nil _, .inl rfl, hB⟩
       · obtain ⟨y1, y2⟩ := one_no hz1
         have hz2 : ¬ Z ≤ 16777215 ∨ Z < -9223372036854775808 := by omega
         have Y1 := Lib.hid y1
         have Y2 := Lib.hid y2
         clear y1 y2
         have e : R = .error 13 := by rw [← HR.out, if_neg (HBL.out j hlt (by rw [HWZ.out]; exact hz1))]
         subst e
         clear HR
         go_wp2_with fail
         obtain ⟨w3, hW, hz0, hb, q, f⟩ := box1g w2 (w2.heap.size) (by omega) #[.bool (neg Z), .slice ahZ nhZ chZ] 25
         rw [hW]
         clear hW
         have hO := hO.past hb
         have hZ := hZ.past hb
         have hB := below_later hB hb
         clear hb
         have lnI : w2.heap.size < w3.heap.size := by omega
         have qnI0 := q 0; have qnI1 := q 1
         simp only [lgA, lgZ, lgS] at qnI0 qnI1
         clear q f
         clear hz0
         with_reducible refine (sone_c hZ.toNatAt).mono ?_
         rintro e w4 ⟨rfl, hb⟩
         have hO := hO.past hb
         have hZ := hZ.past hb
         obtain ⟨qnI0, qnI1, lnI⟩ := bq2 hb lnI qnI0 qnI1
         have hB := below_later hB hb
         clear hb
         rw [Y1.out, Y2.out]
         go_wp2
         go_ret2
         exact ⟨_, _, _, rfl, IntsAt.nil _, .inl rfl, hB⟩
  · obtain rfl : j = kN := by omega
    rw [outL_all] at hO
    have hwf : ∀ z ∈ tabL W j, -9223372036854775808 ≤ z ∧ z ≤ 9223372036854775807 := fun z hz => by
     obtain ⟨i, hi, rfl⟩ := List.mem_map.1 hz
     have := HALL.out i (List.mem_range.1 hi)
     omega
    have hA := hO.at_ hwf
    clear hlt hwf
    by_cases hok : okT (tabL W j) (j : Int)
    · have e : R = .ok (tabL W j) := by rw [← HR.out, if_pos hok]
      have ec := Lib.hid (chkT_yes hok)
      subst e
      clear HR hok
      go_wp2_with fail
      with_reducible refine (soliCheck_any _ _ _ (tabL W j) (j : Int) _ hA).mono ?_
      rintro e w9 ⟨rfl, hb⟩
      rw [ec.out]
      have hA := hA.past hb
      have hO := hO.past hb
      have hB := below_later hB hb
      go_wp2
      go_ret2
      exact ⟨_, _, _, rfl, hA, .inr ⟨_, rfl, Nat.le_refl _, hO.free⟩, hB⟩
    · have e : R = .error 13 := by rw [← HR.out, if_neg hok]
      have ec := Lib.hid (chkT_no hok)
      subst e
      clear HR hok
      go_wp2_with fail
      with_reducible refine (soliCheck_any _ _ _ (tabL W j) (j : Int) _ hA).mono ?_
      rintro e w9 ⟨rfl, hb⟩
      rw [ec.out]
      have hB := below_later hB hb
      go_wp2
      go_ret2
      exact ⟨_, _, _, rfl, IntsAt.nil _, .inl rfl, hB⟩
end Go.Proofs.YtlkoenpdmlbhlaaGreat
