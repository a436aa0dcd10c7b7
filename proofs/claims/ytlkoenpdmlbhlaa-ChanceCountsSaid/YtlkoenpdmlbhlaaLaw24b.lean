/- the laws of chance: share, ChanceWhole. -/
import Derived.Test.YtlkoenpdmlbhlaaLaw24a
import Derived.Test.YtlkoenpdmlbhlaaChanP
import Derived.Test.YtlkoenpdmlbhlaaReg7
import Derived.Test.YtlkoenpdmlbhlaaA6
import Derived.ArgAppend
set_option linter.unusedVariables false
set_option linter.unusedSimpArgs false
namespace Go.Proofs.Ytlkoenpdmlbhlaa
open Go.RowKit

theorem cmp24 {p q : Rat} {a1 : Option Addr} {n1 c1 : Nat} {a2 : Option Addr} {n2 c2 : Nat} {a3 : Option Addr} {n3 c3 : Nat} {a4 : Option Addr} {n4 c4 : Nat} {w : World} (g1 : NatAt w a1 n1 c1 (digs p.num.natAbs)) (g2 : NatAt w a2 n2 c2 (digs p.den)) (g3 : NatAt w a3 n3 c3 (digs q.num.natAbs)) (g4 : NatAt w a4 n4 c4 (digs q.den)) (hp : rlen p ≤ 1048576) (hq : rlen q ≤ 1048576) :
    Calls Try.prog 35 #[.agg #[.bool (neg p.num), .slice a1 n1 c1, .slice a2 n2 c2], .agg #[.bool (neg q.num), .slice a3 n3 c3, .slice a4 n4 c4]] w (RetVal w (.tuple #[.int .i64 (p - q).num.sign, .int .i64 0])) := by
  unfold rlen at hp hq
  have h := cmp05_any (neg p.num) (neg q.num) a1 n1 c1 a2 n2 c2 a3 n3 c3 a4 n4 c4 _ _ _ _ w g1 g2 g3 g4 (by have := g1.len; omega) (by have := g2.len; omega) (by have := g3.len; omega) (by have := g4.len; omega)
  have e := subA_rat p q
  unfold partsOf at e
  rw [e] at h
  exact h
/-- one more ahead of a row -/
def consQ (C : Rat) (q : Nat → Rat) : Nat → Rat
  | 0 => C
  | i + 1 => q i
def AppV (n : Nat) (q : Nat → Rat) (y : Value) (w : World) : Prop := ∃ g c, y = .slice (some ⟨g, 0, none⟩) n c ∧ RatsAt w (some ⟨g, 0, none⟩) n c (fun i => partsOf (q i))
theorem AppV.past {n : Nat} {q : Nat → Rat} {y : Value} {w w' : World} (h : AppV n q y w) (hb : Below w.heap.size w w') : AppV n q y w' := by
  obtain ⟨g, c, e, h1⟩ := h
  exact ⟨g, c, e, h1.past hb⟩
set_option maxRecDepth 100000 in
theorem oper_app_rats {w : World} {o : Oper} {a : Act} {Q : Exit → Act → World → Prop} {K : Act → World → Prop} (s x : Operand)
    (ho : o.op = .call { callee := .builtin .append, args := #[s, x], argTypes := #[49, 49] })
    (g : Nat) (C : Rat) (a1 : Option Addr) (n1 c1 : Nat) (a2 : Option Addr) (n2 c2 : Nat) (hs : a.eval s = .slice (some ⟨g, 0, none⟩) 1 1)
    (z0 : w.cell? ⟨g, 0, none⟩ = some (.bool (neg C.num))) (z1 : w.cell? ⟨g, 1, none⟩ = some (.slice a1 n1 c1)) (z2 : w.cell? ⟨g, 2, none⟩ = some (.slice a2 n2 c2)) (u1 : NatAt w a1 n1 c1 (digs C.num.natAbs)) (u2 : NatAt w a2 n2 c2 (digs C.den))
    (al : Option Addr) (m cl : Nat) (q : Nat → Rat) (hx : a.eval x = .slice al m cl) (gl : RatsAt w al m cl (fun i => partsOf (q i))) (hm : 1 ≤ m) (hm2 : m ≤ 1000)
    (hK : ∀ w' g' c', RatsAt w' (some ⟨g', 0, none⟩) (m + 1) c' (fun i => partsOf (consQ C q i)) → Below w.heap.size w w' → K (a.put o.dst (.slice (some ⟨g', 0, none⟩) (m + 1) c')) w') :
    Oper.wp Try.prog o a w K Q := by
  obtain ⟨i0, hi, hz, hsize, hby⟩ := info_parts rat_info
  rcases gl.cell with h0 | ⟨b, k, rfl, hbl, hc⟩
  · omega
  obtain ⟨news, hnl, hnew⟩ : ∃ news : List Value, news.length = m * 3 ∧ ∀ j, j < m * 3 → ∃ v, news[j]? = some v ∧ w.cell? ⟨b, k + j, none⟩ = some v := by
    refine ⟨(List.range (m * 3)).map (fun j => (w.cell? ⟨b, k + j, none⟩).getD undef), by simp, fun j hj => ?_⟩
    obtain ⟨b1, n3, c3, b2, n4, c4, e1, e2, e3, _, _⟩ := hc (j / 3) (by omega)
    have hx : ∃ v, w.cell? ⟨b, k + j, none⟩ = some v := by
      rcases (by omega : j = j / 3 * 3 ∨ j = j / 3 * 3 + 1 ∨ j = j / 3 * 3 + 2) with h | h | h
      · exact ⟨_, by rw [h]; exact e1⟩
      · exact ⟨_, by rw [h, ← Nat.add_assoc]; exact e2⟩
      · exact ⟨_, by rw [h, ← Nat.add_assoc]; exact e3⟩
    obtain ⟨v, hv⟩ := hx
    refine ⟨v, ?_, hv⟩
    rw [List.getElem?_map, List.getElem?_range hj]
    simp [hv]
  obtain ⟨v', w', hr, k1, k2⟩ := run_append_arg_grows (P := Try.prog) (w := w) 49 o.type 36 i0 _ 3 56 Try.underlying49 hi hz hsize hby rfl (by decide) ⟨g, 0, none⟩ 1 1 [.bool (neg C.num), .slice a1 n1 c1, .slice a2 n2 c2] rfl
    (fun j y hj => by match j, hj with | 0, hj => (simp at hj; subst hj; exact z0) | 1, hj => (simp at hj; subst hj; exact z1) | 2, hj => (simp at hj; subst hj; exact z2)) ⟨b, k, none⟩ m cl news hnl
    (fun j y hj => by
      have hlt : j < m * 3 := by rw [← hnl]; exact (List.getElem?_eq_some_iff.1 hj).1
      obtain ⟨v, e1, e2⟩ := hnew j hlt
      rw [e1] at hj
      cases hj
      rw [Addr.add_lit]
      exact e2) (by omega) (by simp only [maxLen]; omega) (by omega)
  have hB : Below w.heap.size w w' := (Below.refl _ _).grown k2 (Nat.le_refl _) (fun k e => by cases e)
  have hlist := k1
  rcases k1.2 with ⟨_, hn⟩ | ⟨g', cap', cur, rfl, hb, hg, h5, h6, _⟩
  · omega
  have hat : RatsAt w' (some ⟨g', 0, none⟩) (m + 1) cap' (fun i => partsOf (consQ C q i)) := by
    refine ⟨by omega, h6, .inr ⟨g', 0, rfl, (Array.getElem?_eq_some_iff.1 hg).1, fun i hi => ?_⟩⟩
    cases i with
    | zero =>
      refine ⟨a1, n1, c1, a2, n2, c2, ?_, ?_, ?_, u1.past hB, u2.past hB⟩
      · have := World.ownsRow.cellAt hlist 0 (by omega); rw [Nat.zero_mul]; exact this
      · have := World.ownsRow.cellAt hlist 1 (by omega); rw [Nat.zero_mul]; exact this
      · have := World.ownsRow.cellAt hlist 2 (by omega); rw [Nat.zero_mul]; exact this
    | succ i =>
      obtain ⟨b1, n3, c3, b2, n4, c4, e1, e2, e3, f1, f2⟩ := hc i (by omega)
      have rd : ∀ t, t < 3 → ∀ v, w.cell? ⟨b, k + (i * 3 + t), none⟩ = some v → w'.cell? ⟨g', 0 + ((i + 1) * 3 + t), none⟩ = some v := fun t ht v hv => by
        have h7 := World.ownsRow.cellAt hlist ((i + 1) * 3 + t) (by omega)
        rw [Nat.zero_add, h7, List.getElem?_append_right (by simp; omega)]
        obtain ⟨v2, e4, e5⟩ := hnew (i * 3 + t) (by omega)
        rw [e5] at hv
        cases hv
        rw [← e4]
        congr 1
        simp
        omega
      exact ⟨b1, n3, c3, b2, n4, c4, rd 0 (by omega) _ e1, rd 1 (by omega) _ e2, rd 2 (by omega) _ e3, f1.past hB, f2.past hB⟩
  have hcomm : 1 + m = m + 1 := Nat.add_comm 1 m
  unfold Oper.wp execOp
  simp only [ho, resolve, invoke, builtin, Sem.run_bind, Sem.run_pure, Result.andThen_ok, List.map_toArray, List.map_cons, List.map_nil, hs, hx, hr]
  rw [hcomm]
  exact hK w' g' cap' hat hB
theorem foldR_sum (q : Nat → Rat) : ∀ n, foldR (· + ·) 0 (fun i => partsOf (q i)) n = sumQ 0 q n
  | 0 => rfl
  | n + 1 => by
    have h := foldR_sum q n
    simp only [foldR] at h ⊢
    rw [h, ratOf_parts]
    rfl
theorem add_rats {w : World} {a : Option Addr} {n c : Nat} {q : Nat → Rat} (K : Nat) (gr : RatsAt w a n c (fun i => partsOf (q i))) (hK : ∀ i, i < n → rlen (q i) ≤ K) (h1 : 1 ≤ K) (h2 : K + n * (K + 1) ≤ 17179869184) : Calls Try.prog 21 #[.slice a n c] w (RetOk w (sumQ 0 q n)) := by
  have h := add05_any a n c _ K w gr h1 (fun i hi => rlen_parts _ (hK i hi)) h2
  have e : foldA (· + ·) 0 (fun i => partsOf (q i)) n = .ok (sumQ 0 q n) := by
    unfold foldA
    rw [if_pos (allR_iff.2 fun _ _ => chk3_parts _), foldR_sum]
  rw [e] at h
  exact h.mono fun e w' h => h.ok

theorem share_sign {q : Rat} (h : q ≤ 1) : (q - 1).num.sign ≤ 0 := by
  rcases sgn_any q 1 with h1 | h1 | h1
  · exact absurd (sgn_one.1 h1) (Rat.not_lt.2 h)
  · omega
  · omega
set_option maxRecDepth 100000 in
set_option maxHeartbeats 4000000 in
theorem share24 {q : Rat} (h0 : 0 ≤ q) (h1 : q ≤ 1) {a1 : Option Addr} {n1 c1 : Nat} {a2 : Option Addr} {n2 c2 : Nat} {w : World} (g1 : NatAt w a1 n1 c1 (digs q.num.natAbs)) (g2 : NatAt w a2 n2 c2 (digs q.den)) (hl : rlen q ≤ 1000000) :
    Calls Try.prog 37 #[.agg #[.bool (neg q.num), .slice a1 n1 c1, .slice a2 n2 c2]] w (RetVal w (.bool true)) := by
  have s0 := share_sign h1
  obtain ⟨O, hO⟩ : ∃ O : Rat, (1 : Rat) = O := ⟨_, rfl⟩
  rw [hO] at s0
  have HO := Lib.hid (show mkRat 1 1 = O by rw [← hO]; decide +kernel)
  have LO := Lib.hid (show rlen O ≤ 1048576 by rw [← hO]; decide +kernel)
  clear hO
  have s1 : 0 ≤ q.num.sign := Int.sign_nonneg_iff.2 (Rat.num_nonneg.2 h0)
  obtain ⟨X, hX⟩ : ∃ X, (q - O).num.sign = X := ⟨_, rfl⟩
  obtain ⟨Y, hY⟩ : ∃ Y, q.num.sign = Y := ⟨_, rfl⟩
  rw [hX] at s0
  rw [hY] at s1
  have t0 : decide (X ≤ 0) = true := decide_eq_true s0
  have t1 : decide (0 ≤ Y) = true := decide_eq_true s1
  have HX := Lib.hid hX
  have HY := Lib.hid hY
  have HL := Lib.hid (show rlen q ≤ 1048576 by omega)
  have HN : n1 ≤ 1099511627776 := by have := g1.len; unfold rlen at hl; omega
  clear h0 h1 hX hY hl
  go_enter Try.func37, Try.ntmps37
  have hB := Below.refl w.heap.size w
  go_wp2_with fail
  obtain ⟨w1, hW, hz0, hb, q, f⟩ := box1g w (w.heap.size) (by omega) #[.bool (neg q.num), .slice a1 n1 c1, .slice a2 n2 c2] 36
  rw [hW]
  clear hW
  have g1 := g1.past hb
  have g2 := g2.past hb
  have hB := below_later hB hb
  clear hb
  have lp : w.heap.size < w1.heap.size := by omega
  have qp0 := q 0; have qp1 := q 1; have qp2 := q 2
  simp only [List.getElem?_toArray, List.getElem?_cons_zero, List.getElem?_cons_succ] at qp0 qp1 qp2
  clear q f
  clear hz0
  refine (pair24 (x := 1) (y := 1) HO.out _ (by decide) (by decide) (by decide)).mono ?_
  rintro e w2 ⟨ahAU, nhAU, chAU, ahAD, nhAD, chAD, rfl, hAU, hAD, hb⟩
  have g1 := g1.past hb
  have g2 := g2.past hb
  have qp0 := bq hb lp qp0; have qp1 := bq hb lp qp1; have qp2 := bq hb lp qp2
  have lp := bl hb lp
  have hB := below_later hB hb
  clear hb
  go_wp2_with fail
  obtain ⟨w3, hW, hz0, hb, q, f⟩ := box1g w2 (w2.heap.size) (by omega) #[.bool (neg (O).num), .slice ahAU nhAU chAU, .slice ahAD nhAD chAD] 36
  rw [hW]
  clear hW
  have g1 := g1.past hb
  have g2 := g2.past hb
  have hAU := hAU.past hb
  have hAD := hAD.past hb
  have qp0 := bq hb lp qp0; have qp1 := bq hb lp qp1; have qp2 := bq hb lp qp2
  have lp := bl hb lp
  have hB := below_later hB hb
  clear hb
  have lx : w2.heap.size < w3.heap.size := by omega
  have qx0 := q 0; have qx1 := q 1; have qx2 := q 2
  simp only [List.getElem?_toArray, List.getElem?_cons_zero, List.getElem?_cons_succ] at qx0 qx1 qx2
  clear q f
  clear hz0
  with_reducible refine (cmp24 g1 g2 hAU.toNatAt hAD.toNatAt HL.out LO.out).mono ?_
  rintro e w4 ⟨rfl, hb⟩
  have g1 := g1.past hb
  have g2 := g2.past hb
  have hAU := hAU.past hb
  have hAD := hAD.past hb
  have qp0 := bq hb lp qp0; have qp1 := bq hb lp qp1; have qp2 := bq hb lp qp2
  have lp := bl hb lp
  have qx0 := bq hb lx qx0; have qx1 := bq hb lx qx1; have qx2 := bq hb lx qx2
  have lx := bl hb lx
  have hB := below_later hB hb
  clear hb
  rw [HX.out]
  go_wp2_with fail
  with_reducible refine (sign_c g1 HN).mono ?_
  rintro e w5 ⟨rfl, hb⟩
  have g1 := g1.past hb
  have g2 := g2.past hb
  have hAU := hAU.past hb
  have hAD := hAD.past hb
  have qp0 := bq hb lp qp0; have qp1 := bq hb lp qp1; have qp2 := bq hb lp qp2
  have lp := bl hb lp
  have qx0 := bq hb lx qx0; have qx1 := bq hb lx qx1; have qx2 := bq hb lx qx2
  have lx := bl hb lx
  have hB := below_later hB hb
  clear hb
  rw [HY.out]
  go_wp2
  go_ret
  exact ⟨rfl, hB⟩

theorem cons_len {C : Rat} {q : Nat → Rat} {N : Nat} (h : rlen C ≤ 1000000) (hq : ∀ i, i < N → 0 ≤ q i ∧ q i ≤ 1 ∧ rlen (q i) ≤ 501) : ∀ i, i < N + 1 → rlen (consQ C q i) ≤ 1000000
  | 0, _ => h
  | i + 1, hi => Nat.le_trans (hq i (by omega)).2.2 (by decide)
theorem RatsAt.take {w : World} {a : Option Addr} {n c m : Nat} {f : Nat → Bool × List Nat × List Nat} (h : RatsAt w a n c f) (hm : m ≤ n) : RatsAt w a m c f :=
  ⟨Nat.le_trans hm h.le, h.cle, h.cell.elim (fun e => .inl (by omega)) fun ⟨b, o, e, hl, hc⟩ => .inr ⟨b, o, e, hl, fun i hi => hc i (by omega)⟩⟩
theorem consQ_sum (C : Rat) (q : Nat → Rat) : ∀ n, sumQ 0 (consQ C q) (n + 1) = C + sumQ 0 q n
  | 0 => by show (0 : Rat) + C = C + 0; rw [Rat.zero_add, Rat.add_zero]
  | n + 1 => by show sumQ 0 (consQ C q) (n + 1) + q n = C + (sumQ 0 q n + q n); rw [consQ_sum C q n, Rat.add_assoc]
section
variable {zs : List Int} {k u : Nat}
theorem cloud_first (hok : okT zs (k : Int)) (hk : k ≤ 12) (hu : u ≤ k) : sumQ 0 (consQ (cloudR zs k u) (fun i => inR24 zs k u (0 + i))) (min 2 (u + 1) + 1) = 1 := by
  rw [consQ_sum, ← row_whole hok hk hu]
  by_cases h : u = 0
  · subst h
    rw [cloud_one (by omega), Rat.zero_add]
    rfl
  · have e : min 2 (u + 1) = 2 := by omega
    have e2 : u + 1 = 2 + (u + 1 - 2) := by omega
    rw [e]
    conv => rhs; rw [e2, sumQ_split]
    unfold cloudR
    rw [Rat.add_comm]
    simp
theorem cloud_nonneg (hok : okT zs (k : Int)) : 0 ≤ cloudR zs k u := sumQ_nonneg _ fun i _ => inR24_nonneg hok _
theorem cloud_share (hok : okT zs (k : Int)) (hk : k ≤ 12) (hu : u ≤ k) : 0 ≤ cloudR zs k u ∧ cloudR zs k u ≤ 1 := by
  refine ⟨cloud_nonneg hok, ?_⟩
  have h := cloud_first hok hk hu
  rw [consQ_sum] at h
  rw [← h]
  exact le_plus (sumQ_nonneg _ fun i _ => inR24_nonneg hok _)
theorem in_cloud (hok : okT zs (k : Int)) (hu : 2 ≤ u) : inR24 zs k u 2 ≤ cloudR zs k u :=
  sumQ_term (f := fun i => inR24 zs k u (2 + i)) (u + 1 - 2) (fun i _ => inR24_nonneg hok _) 0 (by omega)
theorem free_share (hok : okT zs (k : Int)) (hk : k ≤ 12) (hu : u ≤ k) (h0 : cloudR zs k u ≠ 0) : 0 ≤ freeR zs k u ∧ freeR zs k u ≤ 1 ∧ rlen (freeR zs k u) ≤ 1000000 := by
  have hu2 : 2 ≤ u := by have := mt (cloud_one (zs := zs) (k := k) (u := u)) h0; omega
  have hp : 0 < cloudR zs k u := Rat.lt_of_le_of_ne (cloud_nonneg hok) (fun e => h0 e.symm)
  have hi := Rat.le_of_lt (Rat.inv_pos.2 hp)
  have h2 : 0 ≤ mkRat 2 u := mkRat_nonneg (by decide)
  have h21 : mkRat 2 u ≤ 1 := by
    have h := sumQ_term (f := fun i => if i = 0 then mkRat 2 u else mkRat ((u : Int) - 2) u) 2 (fun i _ => by show 0 ≤ ite _ _ _; split; exact h2; exact mkRat_nonneg (by omega)) 0 (by decide)
    have e : sumQ 0 (fun i => if i = 0 then mkRat 2 u else mkRat ((u : Int) - 2) u) 2 = 1 := by
      show 0 + mkRat 2 u + mkRat ((u : Int) - 2) u = 1
      rw [Rat.zero_add, mkRat_mul, mkRat_mul, ← Rat.add_mul, ← Rat.intCast_add, show (2 : Int) + ((u : Int) - 2) = (u : Int) by omega, ← mkRat_mul]
      exact mkRat_one (by omega)
    rw [e] at h
    exact h
  have hn := inR24_nonneg (u := u) hok 2
  have hle : mkRat 2 u * inR24 zs k u 2 ≤ cloudR zs k u := by
    have h3 := Rat.mul_le_mul_of_nonneg_right h21 hn
    rw [Rat.one_mul] at h3
    exact Rat.le_trans h3 (in_cloud hok hu2)
  refine ⟨?_, ?_, ?_⟩
  · unfold freeR
    rw [Rat.div_def]
    exact Rat.mul_nonneg (Rat.mul_nonneg h2 hn) hi
  · unfold freeR
    rw [Rat.div_def]
    have h4 := Rat.mul_le_mul_of_nonneg_right hle hi
    rwa [Rat.mul_inv_cancel _ h0] at h4
  · have l1 := in_len hok (show k ≤ 20 by omega) hu hu2
    have l2 := cloud_len hok (show k ≤ 20 by omega) hu (u + 1 - 2) (Nat.le_refl _)
    have l3 : rlen (mkRat 2 u) ≤ 1 := rlen_mkRat (by omega) (by decide) (digs_length_le.2 (by simp; omega))
    have l4 : rlen (mkRat 2 u * inR24 zs k u 2) ≤ rlen (mkRat 2 u) + rlen (inR24 zs k u 2) + 1 := product_short _ _
    have l5 : rlen (mkRat 2 u * inR24 zs k u 2 * (cloudR zs k u)⁻¹) ≤ rlen (mkRat 2 u * inR24 zs k u 2) + rlen (cloudR zs k u)⁻¹ + 1 := product_short _ _
    rw [rlen_inv h0] at l5
    have l6 : rlen (cloudR zs k u) ≤ 20000 := l2
    unfold freeR
    rw [Rat.div_def]
    omega
end

set_option maxRecDepth 100000 in
set_option maxHeartbeats 16000000 in
theorem whole_far (a : Option Addr) (n c : Nat) (zs : List Int) (k u : Int) (K U : Nat) (w : World) (g : IntsAt w a n c zs) (hx : -9223372036854775808 ≤ k ∧ k ≤ 9223372036854775807) (hy : -9223372036854775808 ≤ u ∧ u ≤ 9223372036854775807) (hK : pickI k 12 + 1 = (K : Int)) (hK1 : 1 ≤ K) (hK2 : K ≤ 12) (hU : pickI u ((K : Int) + 1) = (U : Int)) (hU2 : U ≤ K) (hn : 12 < n) :
    Calls Try.prog 10 #[.slice a n c, .int .i64 k, .int .i64 u] w (RetVal w (.bool true)) := by
  have hcl : c ≤ 9223372036854775807 := by have h1 := g.cle; simp only [maxLen] at h1; omega
  have hle := g.le
  have hK' := Lib.hid (show 1 + pickI k 12 = (K : Int) by omega)
  have HUU := Lib.hid hU
  have tA : decide (12 < n) = true := decide_eq_true hn
  clear hU
  go_enter Try.func10, Try.ntmps10
  have hB := Below.refl w.heap.size w
  go_wp2_with fail
  with_reducible refine (chanceKnown_any _).mono ?_
  rintro e w1 ⟨rfl, hb⟩
  have g := g.past hb
  have hB := below_later hB hb
  clear hb
  go_wp2_with fail
  with_reducible refine (pick_any _ _ _ hx.1 hx.2 (by decide)).mono ?_
  rintro e w' ⟨rfl, rfl⟩
  obtain ⟨P, hP⟩ : ∃ P, pickI k 12 = P := ⟨_, rfl⟩
  have HP := Lib.hid hP
  rw [hP] at hK ⊢
  clear hP
  have hPK : 1 + P = (K : Int) := by omega
  go_wp2_with fail
  with_reducible refine (pick_any _ _ _ hy.1 hy.2 (by omega)).mono ?_
  rintro e w' ⟨rfl, rfl⟩
  rw [HUU.out]
  go_wp2
  go_ret
  exact ⟨rfl, hB⟩

set_option maxRecDepth 100000 in
set_option maxHeartbeats 16000000 in
theorem whole_bad (a : Option Addr) (n c : Nat) (zs : List Int) (k u : Int) (K U : Nat) (w : World) (g : IntsAt w a n c zs) (hx : -9223372036854775808 ≤ k ∧ k ≤ 9223372036854775807) (hy : -9223372036854775808 ≤ u ∧ u ≤ 9223372036854775807) (hK : pickI k 12 + 1 = (K : Int)) (hK1 : 1 ≤ K) (hK2 : K ≤ 12) (hU : pickI u ((K : Int) + 1) = (U : Int)) (hU2 : U ≤ K) (hn : n ≤ 12) (hok : ¬ okT zs (K : Int)) :
    Calls Try.prog 10 #[.slice a n c, .int .i64 k, .int .i64 u] w (RetVal w (.bool true)) := by
  have hcl : c ≤ 9223372036854775807 := by have h1 := g.cle; simp only [maxLen] at h1; omega
  have hle := g.le
  have hK' := Lib.hid (show 1 + pickI k 12 = (K : Int) by omega)
  have HUU := Lib.hid hU
  have tA : decide (12 < n) = false := decide_eq_false (by omega)
  have HC := Lib.hid (chkT_no hok)
  clear hU hok
  go_enter Try.func10, Try.ntmps10
  have hB := Below.refl w.heap.size w
  go_wp2_with fail
  with_reducible refine (chanceKnown_any _).mono ?_
  rintro e w1 ⟨rfl, hb⟩
  have g := g.past hb
  have hB := below_later hB hb
  clear hb
  go_wp2_with fail
  with_reducible refine (pick_any _ _ _ hx.1 hx.2 (by decide)).mono ?_
  rintro e w' ⟨rfl, rfl⟩
  obtain ⟨P, hP⟩ : ∃ P, pickI k 12 = P := ⟨_, rfl⟩
  have HP := Lib.hid hP
  rw [hP] at hK ⊢
  clear hP
  have hPK : 1 + P = (K : Int) := by omega
  go_wp2_with fail
  with_reducible refine (pick_any _ _ _ hy.1 hy.2 (by omega)).mono ?_
  rintro e w' ⟨rfl, rfl⟩
  rw [HUU.out]
  go_wp2_with fail
  with_reducible refine (soliCheck_any _ _ _ zs (K : Int) _ g).mono ?_
  rintro e w2 ⟨rfl, hb⟩
  have g := g.past hb
  have hB := below_later hB hb
  clear hb
  rw [HC.out]
  go_wp2
  go_ret
  exact ⟨rfl, hB⟩

set_option maxRecDepth 100000 in
set_option maxHeartbeats 16000000 in
theorem whole_main (a : Option Addr) (n c : Nat) (zs : List Int) (k u : Int) (K U : Nat) (w : World) (g : IntsAt w a n c zs) (hx : -9223372036854775808 ≤ k ∧ k ≤ 9223372036854775807) (hy : -9223372036854775808 ≤ u ∧ u ≤ 9223372036854775807) (hK : pickI k 12 + 1 = (K : Int)) (hK1 : 1 ≤ K) (hK2 : K ≤ 12) (hU : pickI u ((K : Int) + 1) = (U : Int)) (hU2 : U ≤ K) (hn : n ≤ 12) (hok : okT zs (K : Int)) :
    Calls Try.prog 10 #[.slice a n c, .int .i64 k, .int .i64 u] w (RetVal w (.bool true)) := by
  have hcl : c ≤ 9223372036854775807 := by have h1 := g.cle; simp only [maxLen] at h1; omega
  have hle := g.le
  have hK' := Lib.hid (show 1 + pickI k 12 = (K : Int) by omega)
  have HUU := Lib.hid hU
  have tA : decide (12 < n) = false := decide_eq_false (by omega)
  have HC := Lib.hid (chkT_yes hok)
  have HOK := Lib.hid hok
  have hrow := fun w g => Row_ok a n c zs K U w g hok hK1 (by omega) hU2
  have hcl2 := fun w g => Cloud_ok a n c zs K U w g hok hK1 (by omega) hU2
  have hq1 : ∀ i, i < U + 1 → 0 ≤ inR24 zs K U (0 + i) ∧ inR24 zs K U (0 + i) ≤ 1 ∧ rlen (inR24 zs K U (0 + i)) ≤ 501 := fun i hi => ⟨inR24_nonneg hok _, row_term hok hK2 hU2 (by omega), in_len hok (by omega) hU2 (by omega)⟩
  have hsum := row_whole hok hK2 hU2
  have hc01 := cloud_share hok hK2 hU2
  have hcons := cloud_first hok hK2 hU2
  have hcl3 : rlen (cloudR zs K U) ≤ 20000 := cloud_len hok (show K ≤ 20 by omega) hU2 (U + 1 - 2) (Nat.le_refl _)
  have hfr : U ≠ 0 → cloudR zs K U = 0 → ∀ w, IntsAt w a n c zs → Calls Try.prog 25 #[.slice a n c, .int .i64 (K : Int), .int .i64 (U : Int)] w (RetOk w 0) := fun h1 h2 w g => Free_none a n c zs K U w g hok hK1 (by omega) hU2 (by omega) h2
  have hfr2 : cloudR zs K U ≠ 0 → ∀ w, IntsAt w a n c zs → Calls Try.prog 25 #[.slice a n c, .int .i64 (K : Int), .int .i64 (U : Int)] w (RetOk w (freeR zs K U)) := fun h2 w g => Free_ok a n c zs K U w g hok hK1 (by omega) hU2 (by have := mt (cloud_one (zs := zs) (k := K) (u := U)) h2; omega) h2
  have hfs : cloudR zs K U ≠ 0 → 0 ≤ freeR zs K U ∧ freeR zs K U ≤ 1 ∧ rlen (freeR zs K U) ≤ 1000000 := fun h2 => free_share hok hK2 hU2 h2
  obtain ⟨q, hq⟩ : ∃ q : Nat → Rat, (fun i => inR24 zs K U (0 + i)) = q := ⟨_, rfl⟩
  obtain ⟨C, hC⟩ : ∃ C, cloudR zs K U = C := ⟨_, rfl⟩
  obtain ⟨F, hF⟩ : ∃ F, freeR zs K U = F := ⟨_, rfl⟩
  obtain ⟨M, hM⟩ : ∃ M, min 2 (U + 1) = M := ⟨_, rfl⟩
  have hq2 : ∀ i, inR24 zs K U (0 + i) = q i := fun i => by rw [← hq]
  simp only [hq2] at hrow hq1 hsum hcons
  rw [hC] at hc01 hcl3 hcons hfr hfr2 hfs
  simp only [hC] at hcl2
  rw [hF] at hfr2 hfs
  rw [hM] at hcons
  have hM1 : 1 ≤ M ∧ M ≤ U + 1 ∧ M ≤ 2 := by omega
  have tM : min (2 : Int) ((U : Int) + 1) = (M : Int) := by omega
  obtain ⟨O, hO⟩ : ∃ O : Rat, (1 : Rat) = O := ⟨_, rfl⟩
  have HO := Lib.hid (show mkRat 1 1 = O by rw [← hO]; decide +kernel)
  rw [hO] at hsum hcons
  have HROW := Lib.hid hrow
  have HCL := Lib.hid hcl2
  have HQ := Lib.hid hq1
  have HS := Lib.hid hsum
  have HCO := Lib.hid hcons
  have HF1 := Lib.hid hfr
  have HF2 := Lib.hid hfr2
  have HFS := Lib.hid hfs
  have HC0 := Lib.hid hc01
  have HC3 := Lib.hid (show rlen C ≤ 1000000 by omega)
  have HTM := Lib.hid tM
  clear hU hok hrow hcl2 hq1 hsum hc01 hcons hcl3 hfr hfr2 hfs hq hC hF hM hq2 tM hO
  go_enter Try.func10, Try.ntmps10
  have hB := Below.refl w.heap.size w
  go_wp2_with fail
  with_reducible refine (chanceKnown_any _).mono ?_
  rintro e w1 ⟨rfl, hb⟩
  have g := g.past hb
  have hB := below_later hB hb
  clear hb
  go_wp2_with fail
  with_reducible refine (pick_any _ _ _ hx.1 hx.2 (by decide)).mono ?_
  rintro e w' ⟨rfl, rfl⟩
  obtain ⟨P, hP⟩ : ∃ P, pickI k 12 = P := ⟨_, rfl⟩
  have HP := Lib.hid hP
  rw [hP] at hK ⊢
  clear hP
  have hPK : 1 + P = (K : Int) := by omega
  go_wp2_with fail
  with_reducible refine (pick_any _ _ _ hy.1 hy.2 (by omega)).mono ?_
  rintro e w' ⟨rfl, rfl⟩
  rw [HUU.out]
  go_wp2_with fail
  with_reducible refine (soliCheck_any _ _ _ zs (K : Int) _ g).mono ?_
  rintro e w2 ⟨rfl, hb⟩
  have g := g.past hb
  have hB := below_later hB hb
  clear hb
  rw [HC.out]
  go_wp2_with fail
  refine (HROW.out _ g).mono ?_
  rintro e w3 ⟨v, B0, U0, rfl, hB0, hR, hb⟩
  have g := g.past hb
  have hB := below_later hB hb
  clear hb
  obtain ⟨al, cl, rfl, gl⟩ := hR.own.at_
  have hMl : M ≤ cl := Nat.le_trans hM1.2.1 gl.le
  clear hR hB0
  go_wp2_with fail
  refine (HCL.out _ g).mono ?_
  rintro e w4 ⟨ahCU, nhCU, chCU, ahCD, nhCD, chCD, rfl, hCU, hCD, hb⟩
  have hCU := hCU.mono hB.size
  have hCD := hCD.mono hB.size
  have g := g.past hb
  have gl := gl.past hb
  have hB := below_later hB hb
  clear hb
  go_wp2_with fail
  obtain ⟨w5, hW, hz0, hb, q, f⟩ := box1g w4 (w4.heap.size) (by omega) #[.bool (neg (C).num), .slice ahCU nhCU chCU, .slice ahCD nhCD chCD] 36
  rw [hW]
  clear hW
  have g := g.past hb
  have gl := gl.past hb
  have hCU := hCU.past hb
  have hCD := hCD.past hb
  have hB := below_later hB hb
  clear hb
  have lc : w4.heap.size < w5.heap.size := by omega
  have qc0 := q 0; have qc1 := q 1; have qc2 := q 2
  simp only [List.getElem?_toArray, List.getElem?_cons_zero, List.getElem?_cons_succ] at qc0 qc1 qc2
  clear q f
  clear hz0
  with_reducible refine (share24 HC0.out.1 HC0.out.2 hCU.toNatAt hCD.toNatAt HC3.out).mono ?_
  rintro e w6 ⟨rfl, hb⟩
  have g := g.past hb
  have gl := gl.past hb
  have hCU := hCU.past hb
  have hCD := hCD.past hb
  have qc0 := bq hb lc qc0; have qc1 := bq hb lc qc1; have qc2 := bq hb lc qc2
  have lc := bl hb lc
  have hB := below_later hB hb
  clear hb
  go_wp2_with fail
  have hR0 := Below.refl w6.heap.size w6
  go_loopw [12] (fun i wr => ∃ (j : Nat), j ≤ U + 1 ∧ i = .int .i64 ((j : Nat) : Int) ∧ Below w6.heap.size w6 wr) (fun i _ => U + 1 - (intOf i).toNat)
  case atStart => exact ⟨0, Nat.zero_le _, rfl, hR0⟩
  case round =>
    obtain ⟨j, hj, rfl, hW⟩ := hrel
    by_cases hlt : j < U + 1
    · have gl2 := gl.past hW
      rcases gl2.cell with h0 | ⟨b, o, rfl, hbl, hc⟩
      · omega
      obtain ⟨a5, n5, c5, a6, n6, c6, q1, q2, q3, h5, h6⟩ := hc j hlt
      have hj3 := HQ.out j hlt
      simp only [partsOf] at q1 q2 q3 h5 h6
      obtain ⟨X, hX⟩ : ∃ X, q j = X := ⟨_, rfl⟩
      rw [hX] at q1 h5 h6 hj3
      have HX3 := Lib.hid hj3
      clear hc hX hj3 gl2
      go_wp2_with fail
      with_reducible refine (share24 HX3.out.1 HX3.out.2.1 h5 h6 (Nat.le_trans HX3.out.2.2 (by decide))).mono ?_
      rintro e w2 ⟨rfl, hb⟩
      go_wp2
      go_roundw
      case rel => exact ⟨j + 1, by omega, by go_num, below_later hW hb⟩
      case measure => simp [intOf]; omega
    · obtain rfl : j = U + 1 := by omega
      have g := g.past hW
      have gl := gl.past hW
      have hCU := hCU.past hW
      have hCD := hCD.past hW
      have qc0 := bq hW lc qc0; have qc1 := bq hW lc qc1; have qc2 := bq hW lc qc2
      have lc := bl hW lc
      have hB := below_later hB hW
      clear hW
      go_wp2_with fail
      refine (add_rats 501 gl (fun i hi => (HQ.out i hi).2.2) (by decide) (by omega)).mono ?_
      rintro e w7 ⟨ahSU, nhSU, chSU, ahSD, nhSD, chSD, rfl, hSU, hSD, hb⟩
      have hSU := hSU.mono hB.size
      have hSD := hSD.mono hB.size
      have g := g.past hb
      have gl := gl.past hb
      have hCU := hCU.past hb
      have hCD := hCD.past hb
      have qc0 := bq hb lc qc0; have qc1 := bq hb lc qc1; have qc2 := bq hb lc qc2
      have lc := bl hb lc
      have hB := below_later hB hb
      clear hb
      rw [HS.out] at hSU hSD ⊢
      go_wp2_with fail
      obtain ⟨w8, hW, hz0, hb, q, f⟩ := box1g w7 (w7.heap.size) (by omega) #[.bool (neg (O).num), .slice ahSU nhSU chSU, .slice ahSD nhSD chSD] 36
      rw [hW]
      clear hW
      have g := g.past hb
      have gl := gl.past hb
      have hCU := hCU.past hb
      have hCD := hCD.past hb
      have hSU := hSU.past hb
      have hSD := hSD.past hb
      have qc0 := bq hb lc qc0; have qc1 := bq hb lc qc1; have qc2 := bq hb lc qc2
      have lc := bl hb lc
      have hB := below_later hB hb
      clear hb
      have ls : w7.heap.size < w8.heap.size := by omega
      have qs0 := q 0; have qs1 := q 1; have qs2 := q 2
      simp only [List.getElem?_toArray, List.getElem?_cons_zero, List.getElem?_cons_succ] at qs0 qs1 qs2
      clear q f
      clear hz0
      have szW := hB.size
      refine wp_region_invA (by kernel_rfl) rfl (by kernel_rfl) (fun A0 V0 dd aa ww => ∃ (blk : Nat → Nat) (y87 y88 y89 y90 y91 y92 y93 y94 y95 y86 y96 y97 y15 y16 : Value), aa = puts A0 [(87, y87), (88, y88), (89, y89), (90, y90), (91, y91), (92, y92), (93, y93), (94, y94), (95, y95), (86, y86), (96, y96), (97, y97), (15, y15), (16, y16)] ∧ Below V0.heap.size V0 ww ∧ Boxes [(12, 3)] V0.heap.size dd blk ww ∧ Shut (dd 0 = true → y87 = .agg #[.bool (neg (C).num), .slice ahCU nhCU chCU, .slice ahCD nhCD chCD]) ∧ Shut (dd 1 = true → dd 7 = false → LstV V0.heap.size 1 ([y87].flatMap cellsOf) y88 ww) ∧ Shut (dd 2 = true → y89 = .slice al (U + 1) cl) ∧ Shut (dd 3 = true → y90 = .slice al (U + 1) cl) ∧ Shut (dd 4 = true → y91 = .int .i64 ((U : Int) + 1)) ∧ Shut (dd 5 = true → y92 = .int .i64 (M : Int)) ∧ Shut (dd 6 = true → y93 = .slice al M cl) ∧ Shut (dd 7 = true → dd 8 = false → AppV (M + 1) (consQ C q) y94 ww) ∧ Shut (dd 8 = true → OkV V0.heap.size (O) y95 ww) ∧ Shut (dd 9 = true → y86 = y95) ∧ Shut (dd 10 = true → y96 = part 0 y86) ∧ Shut (dd 11 = true → y97 = part 1 y86) ∧ Shut (dd 12 = true → y15 = .pointer (some ⟨blk 12, 0, none⟩)) ∧ Shut (dd 13 = true → HoldsV dd 12 10 (blk 12) y96 ww) ∧ Shut (dd 14 = true → y16 = y97) ∧ True) ?_ ?_ ?_
      · exact ⟨fun _ => 0, _, _, _, _, _, _, _, _, _, _, _, _, _, _, puts_self _ [87, 88, 89, 90, 91, 92, 93, 94, 95, 86, 96, 97, 15, 16], (Below.refl _ _).drew, Boxes.none _ _ _ _, fun h => (by cases h), fun h => (by cases h), fun h => (by cases h), fun h => (by cases h), fun h => (by cases h), fun h => (by cases h), fun h => (by cases h), fun h => (by cases h), fun h => (by cases h), fun h => (by cases h), fun h => (by cases h), fun h => (by cases h), fun h => (by cases h), fun h => (by cases h), fun h => (by cases h), trivial⟩
      · refine Steps.cons ?_ (Steps.cons ?_ (Steps.cons ?_ (Steps.cons ?_ (Steps.cons ?_ (Steps.cons ?_ (Steps.cons ?_ (Steps.cons ?_ (Steps.cons ?_ (Steps.cons ?_ (Steps.cons ?_ (Steps.cons ?_ (Steps.cons ?_ (Steps.cons ?_ (Steps.cons ?_ (Steps.nil)))))))))))))))
        · intro dd aa ww K hc hun hn hI hK
          obtain ⟨blk, y87, y88, y89, y90, y91, y92, y93, y94, y95, y86, y96, y97, y15, y16, ea, hb, hX, f0, f1, f2, f3, f4, f5, f6, f7, f8, f9, f10, f11, f12, f13, f14, _⟩ := hI
          try simp [Region.binds] at hn
          have e0 := (hb.cell (p := ⟨w4.heap.size, 0, none⟩) lc).trans qc0
          have e1 := (hb.cell (p := ⟨w4.heap.size, 1, none⟩) lc).trans qc1
          have e2 := (hb.cell (p := ⟨w4.heap.size, 2, none⟩) lc).trans qc2
          subst ea
          simp only [puts, Act.put, List.setIfInBounds_toArray, List.set_cons_zero, List.set_cons_succ]
          go_simp
          refine hK.out _ _ ?_
          exact ⟨blk, .agg #[.bool (neg (C).num), .slice ahCU nhCU chCU, .slice ahCD nhCD chCD], y88, y89, y90, y91, y92, y93, y94, y95, y86, y96, y97, y15, y16, by simp only [puts, Act.put, List.setIfInBounds_toArray, List.set_cons_zero, List.set_cons_succ], hb, hX.same 0 rfl, fun _ => rfl, fun h => absurd (hc.reach (f := 8) (s := 1) (l := 0) (by kernel_rfl) (upd_of rfl h)) (by rw [hun]; decide), fun h => (f2.out (upd_of rfl h)), fun h => (f3.out (upd_of rfl h)), fun h => (f4.out (upd_of rfl h)), fun h => (f5.out (upd_of rfl h)), fun h => (f6.out (upd_of rfl h)), fun h h2 => ((f7.out (upd_of rfl h)) (upd_off h2)), fun h => (f8.out (upd_of rfl h)), fun h => (f9.out (upd_of rfl h)), fun h => (f10.out (upd_of rfl h)), fun h => (f11.out (upd_of rfl h)), fun h => (f12.out (upd_of rfl h)), fun h => (f13.out (upd_of rfl h)).same 0, fun h => (f14.out (upd_of rfl h)), trivial⟩
        · intro dd aa ww K hc hun hn hI hK
          obtain ⟨blk, y87, y88, y89, y90, y91, y92, y93, y94, y95, y86, y96, y97, y15, y16, ea, hb, hX, f0, f1, f2, f3, f4, f5, f6, f7, f8, f9, f10, f11, f12, f13, f14, _⟩ := hI
          try simp [Region.binds] at hn
          have ex := f0.out (by first | (simp [hn]; done) | exact hc.reach (f := 8) (by decide +kernel) hn | exact hc.reach (f := 8) (by decide +kernel) hn.1 | exact hc.reach (f := 8) (by decide +kernel) hn.2 | exact hc.reach (f := 8) (by decide +kernel) hn.2.1 | exact hc.reach (f := 8) (by decide +kernel) hn.2.2 | exact hc.reach (f := 8) (by decide +kernel) hn.2.2.1 | exact hc.reach (f := 8) (by decide +kernel) hn.2.2.2)
          subst ex
          subst ea
          simp only [puts, Act.put, List.setIfInBounds_toArray, List.set_cons_zero, List.set_cons_succ]
          go_simp
          refine hK.out _ _ ?_
          exact ⟨blk, .agg #[.bool (neg (C).num), .slice ahCU nhCU chCU, .slice ahCD nhCD chCD], .slice (some ⟨ww.heap.size, 0, none⟩) 1 1, y89, y90, y91, y92, y93, y94, y95, y86, y96, y97, y15, y16, by simp only [puts, Act.put, List.setIfInBounds_toArray, List.set_cons_zero, List.set_cons_succ], below_alloc hb _, hX.past ((Below.refl _ _).alloc (Nat.le_refl _) _) 1 rfl, fun h => rfl, fun _ _ => LstV.new hb.size _ _, fun h => (f2.out (upd_of rfl h)), fun h => (f3.out (upd_of rfl h)), fun h => (f4.out (upd_of rfl h)), fun h => (f5.out (upd_of rfl h)), fun h => (f6.out (upd_of rfl h)), fun h h2 => ((f7.out (upd_of rfl h)) (upd_off h2)).past ((Below.refl _ _).alloc (Nat.le_refl _) _), fun h => (f8.out (upd_of rfl h)).past ((Below.refl _ _).alloc (Nat.le_refl _) _), fun h => (f9.out (upd_of rfl h)), fun h => (f10.out (upd_of rfl h)), fun h => (f11.out (upd_of rfl h)), fun h => (f12.out (upd_of rfl h)), fun h => (f13.out (upd_of rfl h)).past ((Below.refl _ _).alloc (Nat.le_refl _) _) 1, fun h => (f14.out (upd_of rfl h)), trivial⟩
        · intro dd aa ww K hc hun hn hI hK
          obtain ⟨blk, y87, y88, y89, y90, y91, y92, y93, y94, y95, y86, y96, y97, y15, y16, ea, hb, hX, f0, f1, f2, f3, f4, f5, f6, f7, f8, f9, f10, f11, f12, f13, f14, _⟩ := hI
          try simp [Region.binds] at hn
          subst ea
          simp only [puts, Act.put, List.setIfInBounds_toArray, List.set_cons_zero, List.set_cons_succ]
          go_simp
          refine hK.out _ _ ?_
          exact ⟨blk, y87, y88, .slice al (U + 1) cl, y90, y91, y92, y93, y94, y95, y86, y96, y97, y15, y16, by simp only [puts, Act.put, List.setIfInBounds_toArray, List.set_cons_zero, List.set_cons_succ], hb, hX.same 2 rfl, fun h => (f0.out (upd_of rfl h)), fun h h2 => ((f1.out (upd_of rfl h)) (upd_off h2)), fun _ => rfl, fun h => (f3.out (upd_of rfl h)), fun h => (f4.out (upd_of rfl h)), fun h => (f5.out (upd_of rfl h)), fun h => (f6.out (upd_of rfl h)), fun h h2 => ((f7.out (upd_of rfl h)) (upd_off h2)), fun h => (f8.out (upd_of rfl h)), fun h => (f9.out (upd_of rfl h)), fun h => (f10.out (upd_of rfl h)), fun h => (f11.out (upd_of rfl h)), fun h => (f12.out (upd_of rfl h)), fun h => (f13.out (upd_of rfl h)).same 2, fun h => (f14.out (upd_of rfl h)), trivial⟩
        · intro dd aa ww K hc hun hn hI hK
          obtain ⟨blk, y87, y88, y89, y90, y91, y92, y93, y94, y95, y86, y96, y97, y15, y16, ea, hb, hX, f0, f1, f2, f3, f4, f5, f6, f7, f8, f9, f10, f11, f12, f13, f14, _⟩ := hI
          try simp [Region.binds] at hn
          subst ea
          simp only [puts, Act.put, List.setIfInBounds_toArray, List.set_cons_zero, List.set_cons_succ]
          go_simp
          refine hK.out _ _ ?_
          exact ⟨blk, y87, y88, y89, .slice al (U + 1) cl, y91, y92, y93, y94, y95, y86, y96, y97, y15, y16, by simp only [puts, Act.put, List.setIfInBounds_toArray, List.set_cons_zero, List.set_cons_succ], hb, hX.same 3 rfl, fun h => (f0.out (upd_of rfl h)), fun h h2 => ((f1.out (upd_of rfl h)) (upd_off h2)), fun h => (f2.out (upd_of rfl h)), fun _ => rfl, fun h => (f4.out (upd_of rfl h)), fun h => (f5.out (upd_of rfl h)), fun h => (f6.out (upd_of rfl h)), fun h h2 => ((f7.out (upd_of rfl h)) (upd_off h2)), fun h => (f8.out (upd_of rfl h)), fun h => (f9.out (upd_of rfl h)), fun h => (f10.out (upd_of rfl h)), fun h => (f11.out (upd_of rfl h)), fun h => (f12.out (upd_of rfl h)), fun h => (f13.out (upd_of rfl h)).same 3, fun h => (f14.out (upd_of rfl h)), trivial⟩
        · intro dd aa ww K hc hun hn hI hK
          obtain ⟨blk, y87, y88, y89, y90, y91, y92, y93, y94, y95, y86, y96, y97, y15, y16, ea, hb, hX, f0, f1, f2, f3, f4, f5, f6, f7, f8, f9, f10, f11, f12, f13, f14, _⟩ := hI
          try simp [Region.binds] at hn
          have ex := f3.out (by first | (simp [hn]; done) | exact hc.reach (f := 8) (by decide +kernel) hn | exact hc.reach (f := 8) (by decide +kernel) hn.1 | exact hc.reach (f := 8) (by decide +kernel) hn.2 | exact hc.reach (f := 8) (by decide +kernel) hn.2.1 | exact hc.reach (f := 8) (by decide +kernel) hn.2.2 | exact hc.reach (f := 8) (by decide +kernel) hn.2.2.1 | exact hc.reach (f := 8) (by decide +kernel) hn.2.2.2)
          subst ex
          subst ea
          simp only [puts, Act.put, List.setIfInBounds_toArray, List.set_cons_zero, List.set_cons_succ]
          go_simp
          refine hK.out _ _ ?_
          exact ⟨blk, y87, y88, y89, .slice al (U + 1) cl, .int .i64 ((U : Int) + 1), y92, y93, y94, y95, y86, y96, y97, y15, y16, by simp only [puts, Act.put, List.setIfInBounds_toArray, List.set_cons_zero, List.set_cons_succ], hb, hX.same 4 rfl, fun h => (f0.out (upd_of rfl h)), fun h h2 => ((f1.out (upd_of rfl h)) (upd_off h2)), fun h => (f2.out (upd_of rfl h)), fun h => rfl, fun _ => rfl, fun h => (f5.out (upd_of rfl h)), fun h => (f6.out (upd_of rfl h)), fun h h2 => ((f7.out (upd_of rfl h)) (upd_off h2)), fun h => (f8.out (upd_of rfl h)), fun h => (f9.out (upd_of rfl h)), fun h => (f10.out (upd_of rfl h)), fun h => (f11.out (upd_of rfl h)), fun h => (f12.out (upd_of rfl h)), fun h => (f13.out (upd_of rfl h)).same 4, fun h => (f14.out (upd_of rfl h)), trivial⟩
        · intro dd aa ww K hc hun hn hI hK
          obtain ⟨blk, y87, y88, y89, y90, y91, y92, y93, y94, y95, y86, y96, y97, y15, y16, ea, hb, hX, f0, f1, f2, f3, f4, f5, f6, f7, f8, f9, f10, f11, f12, f13, f14, _⟩ := hI
          try simp [Region.binds] at hn
          have ex := f4.out (by first | (simp [hn]; done) | exact hc.reach (f := 8) (by decide +kernel) hn | exact hc.reach (f := 8) (by decide +kernel) hn.1 | exact hc.reach (f := 8) (by decide +kernel) hn.2 | exact hc.reach (f := 8) (by decide +kernel) hn.2.1 | exact hc.reach (f := 8) (by decide +kernel) hn.2.2 | exact hc.reach (f := 8) (by decide +kernel) hn.2.2.1 | exact hc.reach (f := 8) (by decide +kernel) hn.2.2.2)
          subst ex
          subst ea
          simp only [puts, Act.put, List.setIfInBounds_toArray, List.set_cons_zero, List.set_cons_succ]
          go_simp
          rw [HTM.out]
          refine hK.out _ _ ?_
          exact ⟨blk, y87, y88, y89, y90, .int .i64 ((U : Int) + 1), .int .i64 (M : Int), y93, y94, y95, y86, y96, y97, y15, y16, by simp only [puts, Act.put, List.setIfInBounds_toArray, List.set_cons_zero, List.set_cons_succ], hb, hX.same 5 rfl, fun h => (f0.out (upd_of rfl h)), fun h h2 => ((f1.out (upd_of rfl h)) (upd_off h2)), fun h => (f2.out (upd_of rfl h)), fun h => (f3.out (upd_of rfl h)), fun h => rfl, fun _ => rfl, fun h => (f6.out (upd_of rfl h)), fun h h2 => ((f7.out (upd_of rfl h)) (upd_off h2)), fun h => (f8.out (upd_of rfl h)), fun h => (f9.out (upd_of rfl h)), fun h => (f10.out (upd_of rfl h)), fun h => (f11.out (upd_of rfl h)), fun h => (f12.out (upd_of rfl h)), fun h => (f13.out (upd_of rfl h)).same 5, fun h => (f14.out (upd_of rfl h)), trivial⟩
        · intro dd aa ww K hc hun hn hI hK
          obtain ⟨blk, y87, y88, y89, y90, y91, y92, y93, y94, y95, y86, y96, y97, y15, y16, ea, hb, hX, f0, f1, f2, f3, f4, f5, f6, f7, f8, f9, f10, f11, f12, f13, f14, _⟩ := hI
          try simp [Region.binds] at hn
          have ex := f2.out (by first | (simp [hn]; done) | exact hc.reach (f := 8) (by decide +kernel) hn | exact hc.reach (f := 8) (by decide +kernel) hn.1 | exact hc.reach (f := 8) (by decide +kernel) hn.2 | exact hc.reach (f := 8) (by decide +kernel) hn.2.1 | exact hc.reach (f := 8) (by decide +kernel) hn.2.2 | exact hc.reach (f := 8) (by decide +kernel) hn.2.2.1 | exact hc.reach (f := 8) (by decide +kernel) hn.2.2.2)
          subst ex
          have ex := f5.out (by first | (simp [hn]; done) | exact hc.reach (f := 8) (by decide +kernel) hn | exact hc.reach (f := 8) (by decide +kernel) hn.1 | exact hc.reach (f := 8) (by decide +kernel) hn.2 | exact hc.reach (f := 8) (by decide +kernel) hn.2.1 | exact hc.reach (f := 8) (by decide +kernel) hn.2.2 | exact hc.reach (f := 8) (by decide +kernel) hn.2.2.1 | exact hc.reach (f := 8) (by decide +kernel) hn.2.2.2)
          subst ex
          subst ea
          simp only [puts, Act.put, List.setIfInBounds_toArray, List.set_cons_zero, List.set_cons_succ]
          go_simp
          refine hK.out _ _ ?_
          exact ⟨blk, y87, y88, .slice al (U + 1) cl, y90, y91, .int .i64 (M : Int), .slice al M cl, y94, y95, y86, y96, y97, y15, y16, by simp only [puts, Act.put, List.setIfInBounds_toArray, List.set_cons_zero, List.set_cons_succ], hb, hX.same 6 rfl, fun h => (f0.out (upd_of rfl h)), fun h h2 => ((f1.out (upd_of rfl h)) (upd_off h2)), fun h => rfl, fun h => (f3.out (upd_of rfl h)), fun h => (f4.out (upd_of rfl h)), fun h => rfl, fun _ => rfl, fun h h2 => ((f7.out (upd_of rfl h)) (upd_off h2)), fun h => (f8.out (upd_of rfl h)), fun h => (f9.out (upd_of rfl h)), fun h => (f10.out (upd_of rfl h)), fun h => (f11.out (upd_of rfl h)), fun h => (f12.out (upd_of rfl h)), fun h => (f13.out (upd_of rfl h)).same 6, fun h => (f14.out (upd_of rfl h)), trivial⟩
        · intro dd aa ww K hc hun hn hI hK
          obtain ⟨blk, y87, y88, y89, y90, y91, y92, y93, y94, y95, y86, y96, y97, y15, y16, ea, hb, hX, f0, f1, f2, f3, f4, f5, f6, f7, f8, f9, f10, f11, f12, f13, f14, _⟩ := hI
          try simp [Region.binds] at hn
          have ex := f0.out (by first | (simp [hn]; done) | exact hc.reach (f := 8) (by decide +kernel) hn | exact hc.reach (f := 8) (by decide +kernel) hn.1 | exact hc.reach (f := 8) (by decide +kernel) hn.2 | exact hc.reach (f := 8) (by decide +kernel) hn.2.1 | exact hc.reach (f := 8) (by decide +kernel) hn.2.2 | exact hc.reach (f := 8) (by decide +kernel) hn.2.2.1 | exact hc.reach (f := 8) (by decide +kernel) hn.2.2.2)
          subst ex
          obtain ⟨G1, ex, hg1, hg2, hg3⟩ := f1.out (by first | (simp [hn]; done) | exact hc.reach (f := 8) (by decide +kernel) hn | exact hc.reach (f := 8) (by decide +kernel) hn.1 | exact hc.reach (f := 8) (by decide +kernel) hn.2 | exact hc.reach (f := 8) (by decide +kernel) hn.2.1 | exact hc.reach (f := 8) (by decide +kernel) hn.2.2 | exact hc.reach (f := 8) (by decide +kernel) hn.2.2.1 | exact hc.reach (f := 8) (by decide +kernel) hn.2.2.2) hun
          subst ex
          have z0 := hg3 0 (by simp [cellsOf])
          have z1 := hg3 1 (by simp [cellsOf])
          have z2 := hg3 2 (by simp [cellsOf])
          simp only [List.flatMap_cons, List.flatMap_nil, cellsOf, List.cons_append, List.nil_append, List.append_nil, List.getElem?_cons_zero, List.getElem?_cons_succ] at z0 z1 z2
          have ex := f6.out (by first | (simp [hn]; done) | exact hc.reach (f := 8) (by decide +kernel) hn | exact hc.reach (f := 8) (by decide +kernel) hn.1 | exact hc.reach (f := 8) (by decide +kernel) hn.2 | exact hc.reach (f := 8) (by decide +kernel) hn.2.1 | exact hc.reach (f := 8) (by decide +kernel) hn.2.2 | exact hc.reach (f := 8) (by decide +kernel) hn.2.2.1 | exact hc.reach (f := 8) (by decide +kernel) hn.2.2.2)
          subst ex
          subst ea
          simp only [puts, Act.put, List.setIfInBounds_toArray, List.set_cons_zero, List.set_cons_succ]
          rw [if_pos (by rfl)]
          refine oper_app_rats _ _ rfl G1 C _ _ _ _ _ _ rfl z0 z1 z2 (hCU.past hb).toNatAt (hCD.past hb).toNatAt al M cl q rfl (RatsAt.take (gl.past hb) hM1.2.1) hM1.1 (by omega) ?_
          intro w1 ga ca hM7 h1
          refine hK.out _ _ ?_
          exact ⟨blk, .agg #[.bool (neg (C).num), .slice ahCU nhCU chCU, .slice ahCD nhCD chCD], .slice (some ⟨G1, 0, none⟩) 1 1, y89, y90, y91, y92, .slice al M cl, .slice (some ⟨ga, 0, none⟩) (M + 1) ca, y95, y86, y96, y97, y15, y16, by simp only [puts, Act.put, List.setIfInBounds_toArray, List.set_cons_zero, List.set_cons_succ], below_later hb h1, hX.past h1 7 rfl, fun h => rfl, fun _ h2 => absurd h2 (by simp [upd]), fun h => (f2.out (upd_of rfl h)), fun h => (f3.out (upd_of rfl h)), fun h => (f4.out (upd_of rfl h)), fun h => (f5.out (upd_of rfl h)), fun h => rfl, fun _ _ => ⟨_, _, rfl, hM7⟩, fun h => (f8.out (upd_of rfl h)).past h1, fun h => (f9.out (upd_of rfl h)), fun h => (f10.out (upd_of rfl h)), fun h => (f11.out (upd_of rfl h)), fun h => (f12.out (upd_of rfl h)), fun h => (f13.out (upd_of rfl h)).past h1 7, fun h => (f14.out (upd_of rfl h)), trivial⟩
        · intro dd aa ww K hc hun hn hI hK
          obtain ⟨blk, y87, y88, y89, y90, y91, y92, y93, y94, y95, y86, y96, y97, y15, y16, ea, hb, hX, f0, f1, f2, f3, f4, f5, f6, f7, f8, f9, f10, f11, f12, f13, f14, _⟩ := hI
          try simp [Region.binds] at hn
          obtain ⟨ga, ca, ex, hM7⟩ := f7.out (by first | (simp [hn]; done) | exact hc.reach (f := 8) (by decide +kernel) hn | exact hc.reach (f := 8) (by decide +kernel) hn.1 | exact hc.reach (f := 8) (by decide +kernel) hn.2 | exact hc.reach (f := 8) (by decide +kernel) hn.2.1 | exact hc.reach (f := 8) (by decide +kernel) hn.2.2 | exact hc.reach (f := 8) (by decide +kernel) hn.2.2.1 | exact hc.reach (f := 8) (by decide +kernel) hn.2.2.2) hun
          subst ex
          subst ea
          simp only [puts, Act.put, List.setIfInBounds_toArray, List.set_cons_zero, List.set_cons_succ]
          go_simp
          with_reducible refine (add_rats 1000000 hM7 (fun i hi => cons_len HC3.out HQ.out i (by omega)) (by decide) (by omega)).mono ?_
          rintro e w1 ⟨ahTU, nhTU, chTU, ahTD, nhTD, chTD, rfl, hTU, hTD, h1⟩
          rw [HCO.out] at hTU hTD ⊢
          refine hK.out _ _ ?_
          exact ⟨blk, y87, y88, y89, y90, y91, y92, y93, .slice (some ⟨ga, 0, none⟩) (M + 1) ca, .tuple #[.agg #[.bool (neg (O).num), .slice ahTU nhTU chTU, .slice ahTD nhTD chTD], .int .i64 0], y86, y96, y97, y15, y16, by simp only [puts, Act.put, List.setIfInBounds_toArray, List.set_cons_zero, List.set_cons_succ], below_later hb h1, hX.past h1 8 rfl, fun h => (f0.out (upd_of rfl h)), fun _ h2 => absurd (show dd 7 = true from (by first | (simp [hn]; done) | exact hc.reach (f := 8) (by decide +kernel) hn | exact hc.reach (f := 8) (by decide +kernel) hn.1 | exact hc.reach (f := 8) (by decide +kernel) hn.2 | exact hc.reach (f := 8) (by decide +kernel) hn.2.1 | exact hc.reach (f := 8) (by decide +kernel) hn.2.2 | exact hc.reach (f := 8) (by decide +kernel) hn.2.2.1 | exact hc.reach (f := 8) (by decide +kernel) hn.2.2.2)) (by rw [upd_off h2]; decide), fun h => (f2.out (upd_of rfl h)), fun h => (f3.out (upd_of rfl h)), fun h => (f4.out (upd_of rfl h)), fun h => (f5.out (upd_of rfl h)), fun h => (f6.out (upd_of rfl h)), fun _ h2 => absurd h2 (by simp [upd]), fun _ => ⟨_, _, _, _, _, _, rfl, hTU.mono hb.size, hTD.mono hb.size⟩, fun h => absurd (hc.reach (f := 8) (s := 9) (l := 8) (by kernel_rfl) (upd_of rfl h)) (by rw [hun]; decide), fun h => (f10.out (upd_of rfl h)), fun h => (f11.out (upd_of rfl h)), fun h => (f12.out (upd_of rfl h)), fun h => (f13.out (upd_of rfl h)).past h1 8, fun h => (f14.out (upd_of rfl h)), trivial⟩
        · intro dd aa ww K hc hun hn hI hK
          obtain ⟨blk, y87, y88, y89, y90, y91, y92, y93, y94, y95, y86, y96, y97, y15, y16, ea, hb, hX, f0, f1, f2, f3, f4, f5, f6, f7, f8, f9, f10, f11, f12, f13, f14, _⟩ := hI
          try simp [Region.binds] at hn
          obtain ⟨ahTU, nhTU, chTU, ahTD, nhTD, chTD, ex, hTU, hTD⟩ := f8.out (by first | (simp [hn]; done) | exact hc.reach (f := 8) (by decide +kernel) hn | exact hc.reach (f := 8) (by decide +kernel) hn.1 | exact hc.reach (f := 8) (by decide +kernel) hn.2 | exact hc.reach (f := 8) (by decide +kernel) hn.2.1 | exact hc.reach (f := 8) (by decide +kernel) hn.2.2 | exact hc.reach (f := 8) (by decide +kernel) hn.2.2.1 | exact hc.reach (f := 8) (by decide +kernel) hn.2.2.2)
          subst ex
          subst ea
          simp only [puts, Act.put, List.setIfInBounds_toArray, List.set_cons_zero, List.set_cons_succ]
          go_simp
          refine hK.out _ _ ?_
          exact ⟨blk, y87, y88, y89, y90, y91, y92, y93, y94, .tuple #[.agg #[.bool (neg (O).num), .slice ahTU nhTU chTU, .slice ahTD nhTD chTD], .int .i64 0], .tuple #[.agg #[.bool (neg (O).num), .slice ahTU nhTU chTU, .slice ahTD nhTD chTD], .int .i64 0], y96, y97, y15, y16, by simp only [puts, Act.put, List.setIfInBounds_toArray, List.set_cons_zero, List.set_cons_succ], hb, hX.same 9 rfl, fun h => (f0.out (upd_of rfl h)), fun _ h2 => absurd (show dd 7 = true from (by first | (simp [hn]; done) | exact hc.reach (f := 8) (by decide +kernel) hn | exact hc.reach (f := 8) (by decide +kernel) hn.1 | exact hc.reach (f := 8) (by decide +kernel) hn.2 | exact hc.reach (f := 8) (by decide +kernel) hn.2.1 | exact hc.reach (f := 8) (by decide +kernel) hn.2.2 | exact hc.reach (f := 8) (by decide +kernel) hn.2.2.1 | exact hc.reach (f := 8) (by decide +kernel) hn.2.2.2)) (by rw [upd_off h2]; decide), fun h => (f2.out (upd_of rfl h)), fun h => (f3.out (upd_of rfl h)), fun h => (f4.out (upd_of rfl h)), fun h => (f5.out (upd_of rfl h)), fun h => (f6.out (upd_of rfl h)), fun _ h2 => absurd (show dd 8 = true from (by first | (simp [hn]; done) | exact hc.reach (f := 8) (by decide +kernel) hn | exact hc.reach (f := 8) (by decide +kernel) hn.1 | exact hc.reach (f := 8) (by decide +kernel) hn.2 | exact hc.reach (f := 8) (by decide +kernel) hn.2.1 | exact hc.reach (f := 8) (by decide +kernel) hn.2.2 | exact hc.reach (f := 8) (by decide +kernel) hn.2.2.1 | exact hc.reach (f := 8) (by decide +kernel) hn.2.2.2)) (by rw [upd_off h2]; decide), fun h => (f8.out (upd_of rfl h)), fun _ => rfl, fun h => absurd (hc.reach (f := 8) (s := 10) (l := 9) (by kernel_rfl) (upd_of rfl h)) (by rw [hun]; decide), fun h => absurd (hc.reach (f := 8) (s := 11) (l := 9) (by kernel_rfl) (upd_of rfl h)) (by rw [hun]; decide), fun h => (f12.out (upd_of rfl h)), fun h => (f13.out (upd_of rfl h)).same 9, fun h => (f14.out (upd_of rfl h)), trivial⟩
        · intro dd aa ww K hc hun hn hI hK
          obtain ⟨blk, y87, y88, y89, y90, y91, y92, y93, y94, y95, y86, y96, y97, y15, y16, ea, hb, hX, f0, f1, f2, f3, f4, f5, f6, f7, f8, f9, f10, f11, f12, f13, f14, _⟩ := hI
          try simp [Region.binds] at hn
          obtain ⟨ahTU, nhTU, chTU, ahTD, nhTD, chTD, ex, hTU, hTD⟩ := f8.out (by first | (simp [hn]; done) | exact hc.reach (f := 8) (by decide +kernel) hn | exact hc.reach (f := 8) (by decide +kernel) hn.1 | exact hc.reach (f := 8) (by decide +kernel) hn.2 | exact hc.reach (f := 8) (by decide +kernel) hn.2.1 | exact hc.reach (f := 8) (by decide +kernel) hn.2.2 | exact hc.reach (f := 8) (by decide +kernel) hn.2.2.1 | exact hc.reach (f := 8) (by decide +kernel) hn.2.2.2)
          subst ex
          have ex : y86 = .tuple #[.agg #[.bool (neg (O).num), .slice ahTU nhTU chTU, .slice ahTD nhTD chTD], .int .i64 0] := f9.out (by first | (simp [hn]; done) | exact hc.reach (f := 8) (by decide +kernel) hn | exact hc.reach (f := 8) (by decide +kernel) hn.1 | exact hc.reach (f := 8) (by decide +kernel) hn.2 | exact hc.reach (f := 8) (by decide +kernel) hn.2.1 | exact hc.reach (f := 8) (by decide +kernel) hn.2.2 | exact hc.reach (f := 8) (by decide +kernel) hn.2.2.1 | exact hc.reach (f := 8) (by decide +kernel) hn.2.2.2)
          subst ex
          subst ea
          simp only [puts, Act.put, List.setIfInBounds_toArray, List.set_cons_zero, List.set_cons_succ]
          go_simp
          refine hK.out _ _ ?_
          exact ⟨blk, y87, y88, y89, y90, y91, y92, y93, y94, .tuple #[.agg #[.bool (neg (O).num), .slice ahTU nhTU chTU, .slice ahTD nhTD chTD], .int .i64 0], .tuple #[.agg #[.bool (neg (O).num), .slice ahTU nhTU chTU, .slice ahTD nhTD chTD], .int .i64 0], .agg #[.bool (neg (O).num), .slice ahTU nhTU chTU, .slice ahTD nhTD chTD], y97, y15, y16, by simp only [puts, Act.put, List.setIfInBounds_toArray, List.set_cons_zero, List.set_cons_succ], hb, hX.same 10 rfl, fun h => (f0.out (upd_of rfl h)), fun _ h2 => absurd (show dd 7 = true from (by first | (simp [hn]; done) | exact hc.reach (f := 8) (by decide +kernel) hn | exact hc.reach (f := 8) (by decide +kernel) hn.1 | exact hc.reach (f := 8) (by decide +kernel) hn.2 | exact hc.reach (f := 8) (by decide +kernel) hn.2.1 | exact hc.reach (f := 8) (by decide +kernel) hn.2.2 | exact hc.reach (f := 8) (by decide +kernel) hn.2.2.1 | exact hc.reach (f := 8) (by decide +kernel) hn.2.2.2)) (by rw [upd_off h2]; decide), fun h => (f2.out (upd_of rfl h)), fun h => (f3.out (upd_of rfl h)), fun h => (f4.out (upd_of rfl h)), fun h => (f5.out (upd_of rfl h)), fun h => (f6.out (upd_of rfl h)), fun _ h2 => absurd (show dd 8 = true from (by first | (simp [hn]; done) | exact hc.reach (f := 8) (by decide +kernel) hn | exact hc.reach (f := 8) (by decide +kernel) hn.1 | exact hc.reach (f := 8) (by decide +kernel) hn.2 | exact hc.reach (f := 8) (by decide +kernel) hn.2.1 | exact hc.reach (f := 8) (by decide +kernel) hn.2.2 | exact hc.reach (f := 8) (by decide +kernel) hn.2.2.1 | exact hc.reach (f := 8) (by decide +kernel) hn.2.2.2)) (by rw [upd_off h2]; decide), fun h => (f8.out (upd_of rfl h)), fun h => rfl, fun _ => rfl, fun h => (f11.out (upd_of rfl h)), fun h => (f12.out (upd_of rfl h)), fun h => absurd (HoldsV.vp (f13.out (upd_of rfl h))) (by rw [hun]; decide), fun h => (f14.out (upd_of rfl h)), trivial⟩
        · intro dd aa ww K hc hun hn hI hK
          obtain ⟨blk, y87, y88, y89, y90, y91, y92, y93, y94, y95, y86, y96, y97, y15, y16, ea, hb, hX, f0, f1, f2, f3, f4, f5, f6, f7, f8, f9, f10, f11, f12, f13, f14, _⟩ := hI
          try simp [Region.binds] at hn
          obtain ⟨ahTU, nhTU, chTU, ahTD, nhTD, chTD, ex, hTU, hTD⟩ := f8.out (by first | (simp [hn]; done) | exact hc.reach (f := 8) (by decide +kernel) hn | exact hc.reach (f := 8) (by decide +kernel) hn.1 | exact hc.reach (f := 8) (by decide +kernel) hn.2 | exact hc.reach (f := 8) (by decide +kernel) hn.2.1 | exact hc.reach (f := 8) (by decide +kernel) hn.2.2 | exact hc.reach (f := 8) (by decide +kernel) hn.2.2.1 | exact hc.reach (f := 8) (by decide +kernel) hn.2.2.2)
          subst ex
          have ex : y86 = .tuple #[.agg #[.bool (neg (O).num), .slice ahTU nhTU chTU, .slice ahTD nhTD chTD], .int .i64 0] := f9.out (by first | (simp [hn]; done) | exact hc.reach (f := 8) (by decide +kernel) hn | exact hc.reach (f := 8) (by decide +kernel) hn.1 | exact hc.reach (f := 8) (by decide +kernel) hn.2 | exact hc.reach (f := 8) (by decide +kernel) hn.2.1 | exact hc.reach (f := 8) (by decide +kernel) hn.2.2 | exact hc.reach (f := 8) (by decide +kernel) hn.2.2.1 | exact hc.reach (f := 8) (by decide +kernel) hn.2.2.2)
          subst ex
          subst ea
          simp only [puts, Act.put, List.setIfInBounds_toArray, List.set_cons_zero, List.set_cons_succ]
          go_simp
          refine hK.out _ _ ?_
          exact ⟨blk, y87, y88, y89, y90, y91, y92, y93, y94, .tuple #[.agg #[.bool (neg (O).num), .slice ahTU nhTU chTU, .slice ahTD nhTD chTD], .int .i64 0], .tuple #[.agg #[.bool (neg (O).num), .slice ahTU nhTU chTU, .slice ahTD nhTD chTD], .int .i64 0], y96, .int .i64 0, y15, y16, by simp only [puts, Act.put, List.setIfInBounds_toArray, List.set_cons_zero, List.set_cons_succ], hb, hX.same 11 rfl, fun h => (f0.out (upd_of rfl h)), fun _ h2 => absurd (show dd 7 = true from (by first | (simp [hn]; done) | exact hc.reach (f := 8) (by decide +kernel) hn | exact hc.reach (f := 8) (by decide +kernel) hn.1 | exact hc.reach (f := 8) (by decide +kernel) hn.2 | exact hc.reach (f := 8) (by decide +kernel) hn.2.1 | exact hc.reach (f := 8) (by decide +kernel) hn.2.2 | exact hc.reach (f := 8) (by decide +kernel) hn.2.2.1 | exact hc.reach (f := 8) (by decide +kernel) hn.2.2.2)) (by rw [upd_off h2]; decide), fun h => (f2.out (upd_of rfl h)), fun h => (f3.out (upd_of rfl h)), fun h => (f4.out (upd_of rfl h)), fun h => (f5.out (upd_of rfl h)), fun h => (f6.out (upd_of rfl h)), fun _ h2 => absurd (show dd 8 = true from (by first | (simp [hn]; done) | exact hc.reach (f := 8) (by decide +kernel) hn | exact hc.reach (f := 8) (by decide +kernel) hn.1 | exact hc.reach (f := 8) (by decide +kernel) hn.2 | exact hc.reach (f := 8) (by decide +kernel) hn.2.1 | exact hc.reach (f := 8) (by decide +kernel) hn.2.2 | exact hc.reach (f := 8) (by decide +kernel) hn.2.2.1 | exact hc.reach (f := 8) (by decide +kernel) hn.2.2.2)) (by rw [upd_off h2]; decide), fun h => (f8.out (upd_of rfl h)), fun h => rfl, fun h => (f10.out (upd_of rfl h)), fun _ => rfl, fun h => (f12.out (upd_of rfl h)), fun h => (f13.out (upd_of rfl h)).same 11, fun h => absurd (hc.reach (f := 8) (s := 14) (l := 11) (by kernel_rfl) (upd_of rfl h)) (by rw [hun]; decide), trivial⟩
        · intro dd aa ww K hc hun hn hI hK
          obtain ⟨blk, y87, y88, y89, y90, y91, y92, y93, y94, y95, y86, y96, y97, y15, y16, ea, hb, hX, f0, f1, f2, f3, f4, f5, f6, f7, f8, f9, f10, f11, f12, f13, f14, _⟩ := hI
          try simp [Region.binds] at hn
          subst ea
          simp only [puts, Act.put, List.setIfInBounds_toArray, List.set_cons_zero, List.set_cons_succ]
          go_simp
          refine hK.out _ _ ?_
          exact ⟨setB blk 12 ww.heap.size, y87, y88, y89, y90, y91, y92, y93, y94, y95, y86, y96, y97, .pointer (some ⟨ww.heap.size, 0, none⟩), y16, by simp only [puts, Act.put, List.setIfInBounds_toArray, List.set_cons_zero, List.set_cons_succ], below_alloc hb _, hX.new hb.size 12 #[.bool false, .slice none 0 0, .slice none 0 0] _ rfl (by simp [notU_bool, notU_slice, notU_i64]), fun h => (f0.out (upd_of rfl h)), fun h h2 => ((f1.out (upd_of rfl h)) (upd_off h2)).past ((Below.refl _ _).alloc (Nat.le_refl _) _), fun h => (f2.out (upd_of rfl h)), fun h => (f3.out (upd_of rfl h)), fun h => (f4.out (upd_of rfl h)), fun h => (f5.out (upd_of rfl h)), fun h => (f6.out (upd_of rfl h)), fun h h2 => ((f7.out (upd_of rfl h)) (upd_off h2)).past ((Below.refl _ _).alloc (Nat.le_refl _) _), fun h => (f8.out (upd_of rfl h)).past ((Below.refl _ _).alloc (Nat.le_refl _) _), fun h => (f9.out (upd_of rfl h)), fun h => (f10.out (upd_of rfl h)), fun h => (f11.out (upd_of rfl h)), fun _ => rfl, fun h => absurd (HoldsV.up (f13.out (upd_of rfl h))) (by rw [hun]; decide), fun h => (f14.out (upd_of rfl h)), trivial⟩
        · intro dd aa ww K hc hun hn hI hK
          obtain ⟨blk, y87, y88, y89, y90, y91, y92, y93, y94, y95, y86, y96, y97, y15, y16, ea, hb, hX, f0, f1, f2, f3, f4, f5, f6, f7, f8, f9, f10, f11, f12, f13, f14, _⟩ := hI
          try simp [Region.binds] at hn
          have ex := f12.out (by first | (simp [hn]; done) | exact hc.reach (f := 8) (by decide +kernel) hn | exact hc.reach (f := 8) (by decide +kernel) hn.1 | exact hc.reach (f := 8) (by decide +kernel) hn.2 | exact hc.reach (f := 8) (by decide +kernel) hn.2.1 | exact hc.reach (f := 8) (by decide +kernel) hn.2.2 | exact hc.reach (f := 8) (by decide +kernel) hn.2.2.1 | exact hc.reach (f := 8) (by decide +kernel) hn.2.2.2)
          subst ex
          obtain ⟨ahTU, nhTU, chTU, ahTD, nhTD, chTD, ex, hTU, hTD⟩ := f8.out (by first | (simp [hn]; done) | exact hc.reach (f := 8) (by decide +kernel) hn | exact hc.reach (f := 8) (by decide +kernel) hn.1 | exact hc.reach (f := 8) (by decide +kernel) hn.2 | exact hc.reach (f := 8) (by decide +kernel) hn.2.1 | exact hc.reach (f := 8) (by decide +kernel) hn.2.2 | exact hc.reach (f := 8) (by decide +kernel) hn.2.2.1 | exact hc.reach (f := 8) (by decide +kernel) hn.2.2.2)
          subst ex
          have ex : y86 = .tuple #[.agg #[.bool (neg (O).num), .slice ahTU nhTU chTU, .slice ahTD nhTD chTD], .int .i64 0] := f9.out (by first | (simp [hn]; done) | exact hc.reach (f := 8) (by decide +kernel) hn | exact hc.reach (f := 8) (by decide +kernel) hn.1 | exact hc.reach (f := 8) (by decide +kernel) hn.2 | exact hc.reach (f := 8) (by decide +kernel) hn.2.1 | exact hc.reach (f := 8) (by decide +kernel) hn.2.2 | exact hc.reach (f := 8) (by decide +kernel) hn.2.2.1 | exact hc.reach (f := 8) (by decide +kernel) hn.2.2.2)
          subst ex
          have ex : y96 = .agg #[.bool (neg (O).num), .slice ahTU nhTU chTU, .slice ahTD nhTD chTD] := f10.out (by first | (simp [hn]; done) | exact hc.reach (f := 8) (by decide +kernel) hn | exact hc.reach (f := 8) (by decide +kernel) hn.1 | exact hc.reach (f := 8) (by decide +kernel) hn.2 | exact hc.reach (f := 8) (by decide +kernel) hn.2.1 | exact hc.reach (f := 8) (by decide +kernel) hn.2.2 | exact hc.reach (f := 8) (by decide +kernel) hn.2.2.1 | exact hc.reach (f := 8) (by decide +kernel) hn.2.2.2)
          subst ex
          have hd12 : dd 12 = true := by simp [hn]
          have hv10 : dd 10 = true := by simp [hn]
          obtain ⟨x1, x2, x3⟩ := hX.at_ (12, 3) (by simp) hd12
          obtain ⟨v0, v1, v2, z0, z1, z2, z3, z4, z5, _, _, _⟩ := x3.three
          have hv : ∀ v ∈ ([.bool (neg (O).num), .slice ahTU nhTU chTU, .slice ahTD nhTD chTD] : List Value), notU v := by simp [notU_bool, notU_slice, notU_i64]
          subst ea
          simp only [puts, Act.put, List.setIfInBounds_toArray, List.set_cons_zero, List.set_cons_succ]
          go_simp
          refine hK.out _ _ ?_
          exact ⟨blk, y87, y88, y89, y90, y91, y92, y93, y94, .tuple #[.agg #[.bool (neg (O).num), .slice ahTU nhTU chTU, .slice ahTD nhTD chTD], .int .i64 0], .tuple #[.agg #[.bool (neg (O).num), .slice ahTU nhTU chTU, .slice ahTD nhTD chTD], .int .i64 0], .agg #[.bool (neg (O).num), .slice ahTU nhTU chTU, .slice ahTD nhTD chTD], y97, .pointer (some ⟨blk 12, 0, none⟩), y16, by simp only [puts, Act.put, List.setIfInBounds_toArray, List.set_cons_zero, List.set_cons_succ], hb.trans (below_setCells _ _ x1 [.bool (neg (O).num), .slice ahTU nhTU chTU, .slice ahTD nhTD chTD] 0 _), (hX.sets [.bool (neg (O).num), .slice ahTU nhTU chTU, .slice ahTD nhTD chTD] _ 0 _ hv).same 13 rfl, fun h => (f0.out (upd_of rfl h)), fun _ h2 => absurd (show dd 7 = true from (by first | (simp [hn]; done) | exact hc.reach (f := 8) (by decide +kernel) hn | exact hc.reach (f := 8) (by decide +kernel) hn.1 | exact hc.reach (f := 8) (by decide +kernel) hn.2 | exact hc.reach (f := 8) (by decide +kernel) hn.2.1 | exact hc.reach (f := 8) (by decide +kernel) hn.2.2 | exact hc.reach (f := 8) (by decide +kernel) hn.2.2.1 | exact hc.reach (f := 8) (by decide +kernel) hn.2.2.2)) (by rw [upd_off h2]; decide), fun h => (f2.out (upd_of rfl h)), fun h => (f3.out (upd_of rfl h)), fun h => (f4.out (upd_of rfl h)), fun h => (f5.out (upd_of rfl h)), fun h => (f6.out (upd_of rfl h)), fun _ h2 => absurd (show dd 8 = true from (by first | (simp [hn]; done) | exact hc.reach (f := 8) (by decide +kernel) hn | exact hc.reach (f := 8) (by decide +kernel) hn.1 | exact hc.reach (f := 8) (by decide +kernel) hn.2 | exact hc.reach (f := 8) (by decide +kernel) hn.2.1 | exact hc.reach (f := 8) (by decide +kernel) hn.2.2 | exact hc.reach (f := 8) (by decide +kernel) hn.2.2.1 | exact hc.reach (f := 8) (by decide +kernel) hn.2.2.2)) (by rw [upd_off h2]; decide), fun h => ((f8.out (upd_of rfl h)).sets [.bool (neg (O).num), .slice ahTU nhTU chTU, .slice ahTD nhTD chTD] x3 (by simp) hv), fun h => rfl, fun h => rfl, fun h => (f11.out (upd_of rfl h)), fun h => rfl, fun _ => (HoldsV.new hd12 hv10 x2 x3 [.bool (neg (O).num), .slice ahTU nhTU chTU, .slice ahTD nhTD chTD] (by simp)).same 13, fun h => (f14.out (upd_of rfl h)), trivial⟩
        · intro dd aa ww K hc hun hn hI hK
          obtain ⟨blk, y87, y88, y89, y90, y91, y92, y93, y94, y95, y86, y96, y97, y15, y16, ea, hb, hX, f0, f1, f2, f3, f4, f5, f6, f7, f8, f9, f10, f11, f12, f13, f14, _⟩ := hI
          try simp [Region.binds] at hn
          obtain ⟨ahTU, nhTU, chTU, ahTD, nhTD, chTD, ex, hTU, hTD⟩ := f8.out (by first | (simp [hn]; done) | exact hc.reach (f := 8) (by decide +kernel) hn | exact hc.reach (f := 8) (by decide +kernel) hn.1 | exact hc.reach (f := 8) (by decide +kernel) hn.2 | exact hc.reach (f := 8) (by decide +kernel) hn.2.1 | exact hc.reach (f := 8) (by decide +kernel) hn.2.2 | exact hc.reach (f := 8) (by decide +kernel) hn.2.2.1 | exact hc.reach (f := 8) (by decide +kernel) hn.2.2.2)
          subst ex
          have ex : y86 = .tuple #[.agg #[.bool (neg (O).num), .slice ahTU nhTU chTU, .slice ahTD nhTD chTD], .int .i64 0] := f9.out (by first | (simp [hn]; done) | exact hc.reach (f := 8) (by decide +kernel) hn | exact hc.reach (f := 8) (by decide +kernel) hn.1 | exact hc.reach (f := 8) (by decide +kernel) hn.2 | exact hc.reach (f := 8) (by decide +kernel) hn.2.1 | exact hc.reach (f := 8) (by decide +kernel) hn.2.2 | exact hc.reach (f := 8) (by decide +kernel) hn.2.2.1 | exact hc.reach (f := 8) (by decide +kernel) hn.2.2.2)
          subst ex
          have ex : y97 = .int .i64 0 := f11.out (by first | (simp [hn]; done) | exact hc.reach (f := 8) (by decide +kernel) hn | exact hc.reach (f := 8) (by decide +kernel) hn.1 | exact hc.reach (f := 8) (by decide +kernel) hn.2 | exact hc.reach (f := 8) (by decide +kernel) hn.2.1 | exact hc.reach (f := 8) (by decide +kernel) hn.2.2 | exact hc.reach (f := 8) (by decide +kernel) hn.2.2.1 | exact hc.reach (f := 8) (by decide +kernel) hn.2.2.2)
          subst ex
          subst ea
          simp only [puts, Act.put, List.setIfInBounds_toArray, List.set_cons_zero, List.set_cons_succ]
          go_simp
          refine hK.out _ _ ?_
          exact ⟨blk, y87, y88, y89, y90, y91, y92, y93, y94, .tuple #[.agg #[.bool (neg (O).num), .slice ahTU nhTU chTU, .slice ahTD nhTD chTD], .int .i64 0], .tuple #[.agg #[.bool (neg (O).num), .slice ahTU nhTU chTU, .slice ahTD nhTD chTD], .int .i64 0], y96, .int .i64 0, y15, .int .i64 0, by simp only [puts, Act.put, List.setIfInBounds_toArray, List.set_cons_zero, List.set_cons_succ], hb, hX.same 14 rfl, fun h => (f0.out (upd_of rfl h)), fun _ h2 => absurd (show dd 7 = true from (by first | (simp [hn]; done) | exact hc.reach (f := 8) (by decide +kernel) hn | exact hc.reach (f := 8) (by decide +kernel) hn.1 | exact hc.reach (f := 8) (by decide +kernel) hn.2 | exact hc.reach (f := 8) (by decide +kernel) hn.2.1 | exact hc.reach (f := 8) (by decide +kernel) hn.2.2 | exact hc.reach (f := 8) (by decide +kernel) hn.2.2.1 | exact hc.reach (f := 8) (by decide +kernel) hn.2.2.2)) (by rw [upd_off h2]; decide), fun h => (f2.out (upd_of rfl h)), fun h => (f3.out (upd_of rfl h)), fun h => (f4.out (upd_of rfl h)), fun h => (f5.out (upd_of rfl h)), fun h => (f6.out (upd_of rfl h)), fun _ h2 => absurd (show dd 8 = true from (by first | (simp [hn]; done) | exact hc.reach (f := 8) (by decide +kernel) hn | exact hc.reach (f := 8) (by decide +kernel) hn.1 | exact hc.reach (f := 8) (by decide +kernel) hn.2 | exact hc.reach (f := 8) (by decide +kernel) hn.2.1 | exact hc.reach (f := 8) (by decide +kernel) hn.2.2 | exact hc.reach (f := 8) (by decide +kernel) hn.2.2.1 | exact hc.reach (f := 8) (by decide +kernel) hn.2.2.2)) (by rw [upd_off h2]; decide), fun h => (f8.out (upd_of rfl h)), fun h => rfl, fun h => (f10.out (upd_of rfl h)), fun h => rfl, fun h => (f12.out (upd_of rfl h)), fun h => (f13.out (upd_of rfl h)).same 14, fun _ => rfl, trivial⟩
      intro dd aa w9 hd hI
      obtain ⟨blk, y87, y88, y89, y90, y91, y92, y93, y94, y95, y86, y96, y97, y15, y16, ea, hb, hX, f0, f1, f2, f3, f4, f5, f6, f7, f8, f9, f10, f11, f12, f13, f14, _⟩ := hI
      have ex := f0.out (hd 0 (by simp))
      subst ex
      have ex := f2.out (hd 2 (by simp))
      subst ex
      have ex := f3.out (hd 3 (by simp))
      subst ex
      have ex := f4.out (hd 4 (by simp))
      subst ex
      have ex := f5.out (hd 5 (by simp))
      subst ex
      have ex := f6.out (hd 6 (by simp))
      subst ex
      obtain ⟨ahTU, nhTU, chTU, ahTD, nhTD, chTD, ex, hTU, hTD⟩ := f8.out (hd 8 (by simp))
      subst ex
      have ex : y86 = .tuple #[.agg #[.bool (neg (O).num), .slice ahTU nhTU chTU, .slice ahTD nhTD chTD], .int .i64 0] := f9.out (hd 9 (by simp))
      subst ex
      have ex : y96 = .agg #[.bool (neg (O).num), .slice ahTU nhTU chTU, .slice ahTD nhTD chTD] := f10.out (hd 10 (by simp))
      subst ex
      have ex : y97 = .int .i64 0 := f11.out (hd 11 (by simp))
      subst ex
      have ex := f12.out (hd 12 (by simp))
      subst ex
      obtain ⟨vs13, e, h13⟩ := f13.out (hd 13 (by simp))
      cases e
      have ex : y16 = .int .i64 0 := f14.out (hd 14 (by simp))
      subst ex
      have lf := h13.lt
      have qf0 := h13.at_ 0 (by simp)
      simp only [List.getElem?_cons_zero, List.getElem?_cons_succ] at qf0
      have qf1 := h13.at_ 1 (by simp)
      simp only [List.getElem?_cons_zero, List.getElem?_cons_succ] at qf1
      have qf2 := h13.at_ 2 (by simp)
      simp only [List.getElem?_cons_zero, List.getElem?_cons_succ] at qf2
      generalize blk 12 = Bf at *
      subst ea
      simp only [puts, Act.put, List.setIfInBounds_toArray, List.set_cons_zero, List.set_cons_succ]
      have hTU := hTU.mono szW
      have hTD := hTD.mono szW
      have g := g.past hb
      have gl := gl.past hb
      have hCU := hCU.past hb
      have hCD := hCD.past hb
      have hSU := hSU.past hb
      have hSD := hSD.past hb
      have qc0 := bq hb lc qc0; have qc1 := bq hb lc qc1; have qc2 := bq hb lc qc2
      have lc := bl hb lc
      have qs0 := bq hb ls qs0; have qs1 := bq hb ls qs1; have qs2 := bq hb ls qs2
      have ls := bl hb ls
      have hB := below_later hB hb
      clear hX
      clear hb hd
      go_wp2_with fail
      refine (is24 (x := 1) (y := 1) HO.out (by decide) (by decide) (by decide) hSU.toNatAt hSD.toNatAt).mono ?_
      rintro e w10 ⟨rfl, hb⟩
      have g := g.past hb
      have gl := gl.past hb
      have hCU := hCU.past hb
      have hCD := hCD.past hb
      have hSU := hSU.past hb
      have hSD := hSD.past hb
      have hTU := hTU.past hb
      have hTD := hTD.past hb
      have qc0 := bq hb lc qc0; have qc1 := bq hb lc qc1; have qc2 := bq hb lc qc2
      have lc := bl hb lc
      have qs0 := bq hb ls qs0; have qs1 := bq hb ls qs1; have qs2 := bq hb ls qs2
      have ls := bl hb ls
      have qf0 := bq hb lf qf0; have qf1 := bq hb lf qf1; have qf2 := bq hb lf qf2
      have lf := bl hb lf
      have hB := below_later hB hb
      clear hb
      go_wp2_with fail
      refine (is24 (x := 1) (y := 1) HO.out (by decide) (by decide) (by decide) hTU.toNatAt hTD.toNatAt).mono ?_
      rintro e w11 ⟨rfl, hb⟩
      have g := g.past hb
      have gl := gl.past hb
      have hCU := hCU.past hb
      have hCD := hCD.past hb
      have hSU := hSU.past hb
      have hSD := hSD.past hb
      have hTU := hTU.past hb
      have hTD := hTD.past hb
      have qc0 := bq hb lc qc0; have qc1 := bq hb lc qc1; have qc2 := bq hb lc qc2
      have lc := bl hb lc
      have qs0 := bq hb ls qs0; have qs1 := bq hb ls qs1; have qs2 := bq hb ls qs2
      have ls := bl hb ls
      have qf0 := bq hb lf qf0; have qf1 := bq hb lf qf1; have qf2 := bq hb lf qf2
      have lf := bl hb lf
      have hB := below_later hB hb
      clear hb
      by_cases hu0 : U = 0
      · subst hu0
        go_wp2
        go_ret
        exact ⟨rfl, hB⟩
      · have tU : ((U : Int) == 0) = false := by rw [beq_eq_false_iff_ne]; omega
        by_cases hz0 : C = 0
        · have HZ0 := Lib.hid hz0
          clear hz0
          obtain ⟨Z, hZe⟩ : ∃ Z : Rat, (0 : Rat) = Z := ⟨_, rfl⟩
          have HZF := HF1.out hu0 HZ0.out
          rw [hZe] at HZF
          have HZe := Lib.hid hZe
          have HZG := Lib.hid HZF
          clear hZe HZF
          go_wp2_with fail
          refine (HZG.out _ g).mono ?_
          rintro e w12 ⟨ahEU, nhEU, chEU, ahED, nhED, chED, rfl, hEU, hED, hb⟩
          have hEU := hEU.mono hB.size
          have hED := hED.mono hB.size
          have g := g.past hb
          have gl := gl.past hb
          have hCU := hCU.past hb
          have hCD := hCD.past hb
          have hSU := hSU.past hb
          have hSD := hSD.past hb
          have hTU := hTU.past hb
          have hTD := hTD.past hb
          have qc0 := bq hb lc qc0; have qc1 := bq hb lc qc1; have qc2 := bq hb lc qc2
          have lc := bl hb lc
          have qs0 := bq hb ls qs0; have qs1 := bq hb ls qs1; have qs2 := bq hb ls qs2
          have ls := bl hb ls
          have qf0 := bq hb lf qf0; have qf1 := bq hb lf qf1; have qf2 := bq hb lf qf2
          have lf := bl hb lf
          have hB := below_later hB hb
          clear hb
          go_wp2_with fail
          obtain ⟨w13, hW, hz0, hb, q, f⟩ := box1g w12 (w12.heap.size) (by omega) #[.bool (neg (Z).num), .slice ahEU nhEU chEU, .slice ahED nhED chED] 36
          rw [hW]
          clear hW
          have g := g.past hb
          have gl := gl.past hb
          have hCU := hCU.past hb
          have hCD := hCD.past hb
          have hSU := hSU.past hb
          have hSD := hSD.past hb
          have hTU := hTU.past hb
          have hTD := hTD.past hb
          have hEU := hEU.past hb
          have hED := hED.past hb
          have qc0 := bq hb lc qc0; have qc1 := bq hb lc qc1; have qc2 := bq hb lc qc2
          have lc := bl hb lc
          have qs0 := bq hb ls qs0; have qs1 := bq hb ls qs1; have qs2 := bq hb ls qs2
          have ls := bl hb ls
          have qf0 := bq hb lf qf0; have qf1 := bq hb lf qf1; have qf2 := bq hb lf qf2
          have lf := bl hb lf
          have hB := below_later hB hb
          clear hb
          have le : w12.heap.size < w13.heap.size := by omega
          have qe0 := q 0; have qe1 := q 1; have qe2 := q 2
          simp only [List.getElem?_toArray, List.getElem?_cons_zero, List.getElem?_cons_succ] at qe0 qe1 qe2
          clear q f
          clear hz0
          refine (share24 (q := Z) (by rw [← HZe.out]; decide) (by rw [← HZe.out]; decide +kernel) hEU.toNatAt hED.toNatAt (by rw [← HZe.out]; decide +kernel)).mono ?_
          rintro e w14 ⟨rfl, hb⟩
          have g := g.past hb
          have gl := gl.past hb
          have hCU := hCU.past hb
          have hCD := hCD.past hb
          have hSU := hSU.past hb
          have hSD := hSD.past hb
          have hTU := hTU.past hb
          have hTD := hTD.past hb
          have hEU := hEU.past hb
          have hED := hED.past hb
          have qc0 := bq hb lc qc0; have qc1 := bq hb lc qc1; have qc2 := bq hb lc qc2
          have lc := bl hb lc
          have qs0 := bq hb ls qs0; have qs1 := bq hb ls qs1; have qs2 := bq hb ls qs2
          have ls := bl hb ls
          have qf0 := bq hb lf qf0; have qf1 := bq hb lf qf1; have qf2 := bq hb lf qf2
          have lf := bl hb lf
          have qe0 := bq hb le qe0; have qe1 := bq hb le qe1; have qe2 := bq hb le qe2
          have le := bl hb le
          have hB := below_later hB hb
          clear hb
          go_wp2
          go_ret
          exact ⟨rfl, hB⟩
        · have HZ0 := Lib.hid hz0
          clear hz0
          go_wp2_with fail
          refine (HF2.out HZ0.out _ g).mono ?_
          rintro e w12 ⟨ahEU, nhEU, chEU, ahED, nhED, chED, rfl, hEU, hED, hb⟩
          have hEU := hEU.mono hB.size
          have hED := hED.mono hB.size
          have g := g.past hb
          have gl := gl.past hb
          have hCU := hCU.past hb
          have hCD := hCD.past hb
          have hSU := hSU.past hb
          have hSD := hSD.past hb
          have hTU := hTU.past hb
          have hTD := hTD.past hb
          have qc0 := bq hb lc qc0; have qc1 := bq hb lc qc1; have qc2 := bq hb lc qc2
          have lc := bl hb lc
          have qs0 := bq hb ls qs0; have qs1 := bq hb ls qs1; have qs2 := bq hb ls qs2
          have ls := bl hb ls
          have qf0 := bq hb lf qf0; have qf1 := bq hb lf qf1; have qf2 := bq hb lf qf2
          have lf := bl hb lf
          have hB := below_later hB hb
          clear hb
          go_wp2_with fail
          obtain ⟨w13, hW, hz0, hb, q, f⟩ := box1g w12 (w12.heap.size) (by omega) #[.bool (neg (F).num), .slice ahEU nhEU chEU, .slice ahED nhED chED] 36
          rw [hW]
          clear hW
          have g := g.past hb
          have gl := gl.past hb
          have hCU := hCU.past hb
          have hCD := hCD.past hb
          have hSU := hSU.past hb
          have hSD := hSD.past hb
          have hTU := hTU.past hb
          have hTD := hTD.past hb
          have hEU := hEU.past hb
          have hED := hED.past hb
          have qc0 := bq hb lc qc0; have qc1 := bq hb lc qc1; have qc2 := bq hb lc qc2
          have lc := bl hb lc
          have qs0 := bq hb ls qs0; have qs1 := bq hb ls qs1; have qs2 := bq hb ls qs2
          have ls := bl hb ls
          have qf0 := bq hb lf qf0; have qf1 := bq hb lf qf1; have qf2 := bq hb lf qf2
          have lf := bl hb lf
          have hB := below_later hB hb
          clear hb
          have le : w12.heap.size < w13.heap.size := by omega
          have qe0 := q 0; have qe1 := q 1; have qe2 := q 2
          simp only [List.getElem?_toArray, List.getElem?_cons_zero, List.getElem?_cons_succ] at qe0 qe1 qe2
          clear q f
          clear hz0
          refine (share24 (HFS.out HZ0.out).1 (HFS.out HZ0.out).2.1 hEU.toNatAt hED.toNatAt (HFS.out HZ0.out).2.2).mono ?_
          rintro e w14 ⟨rfl, hb⟩
          have g := g.past hb
          have gl := gl.past hb
          have hCU := hCU.past hb
          have hCD := hCD.past hb
          have hSU := hSU.past hb
          have hSD := hSD.past hb
          have hTU := hTU.past hb
          have hTD := hTD.past hb
          have hEU := hEU.past hb
          have hED := hED.past hb
          have qc0 := bq hb lc qc0; have qc1 := bq hb lc qc1; have qc2 := bq hb lc qc2
          have lc := bl hb lc
          have qs0 := bq hb ls qs0; have qs1 := bq hb ls qs1; have qs2 := bq hb ls qs2
          have ls := bl hb ls
          have qf0 := bq hb lf qf0; have qf1 := bq hb lf qf1; have qf2 := bq hb lf qf2
          have lf := bl hb lf
          have qe0 := bq hb le qe0; have qe1 := bq hb le qe1; have qe2 := bq hb le qe2
          have le := bl hb le
          have hB := below_later hB hb
          clear hb
          go_wp2
          go_ret
          exact ⟨rfl, hB⟩

theorem chanceWhole_any (a : Option Addr) (n c : Nat) (zs : List Int) (k u : Int) (w : World) (g : IntsAt w a n c zs) (hx : -9223372036854775808 ≤ k ∧ k ≤ 9223372036854775807) (hy : -9223372036854775808 ≤ u ∧ u ≤ 9223372036854775807) :
    Calls Try.prog 10 #[.slice a n c, .int .i64 k, .int .i64 u] w (RetVal w (.bool true)) := by
  have e1 : pickI k 12 = k % 12 := by unfold pickI; rw [if_neg (by decide)]
  obtain ⟨K, hK⟩ : ∃ K : Nat, pickI k 12 + 1 = (K : Int) := ⟨(k % 12 + 1).toNat, by rw [e1]; omega⟩
  have hK3 : k % 12 + 1 = (K : Int) := by rw [← e1]; exact hK
  have e2 : pickI u ((K : Int) + 1) = u % ((K : Int) + 1) := by unfold pickI; rw [if_neg (by omega)]
  have b1 := Int.emod_nonneg u (show (K : Int) + 1 ≠ 0 by omega)
  have b2 := Int.emod_lt_of_pos u (show 0 < (K : Int) + 1 by omega)
  obtain ⟨U, hU⟩ : ∃ U : Nat, pickI u ((K : Int) + 1) = (U : Int) := ⟨(u % ((K : Int) + 1)).toNat, by rw [e2]; omega⟩
  have hU2 : U ≤ K := by rw [e2] at hU; omega
  by_cases hn : 12 < n
  · exact whole_far a n c zs k u K U w g hx hy hK (by omega) (by omega) hU hU2 hn
  · by_cases hok : okT zs (K : Int)
    · exact whole_main a n c zs k u K U w g hx hy hK (by omega) (by omega) hU hU2 (by omega) hok
    · exact whole_bad a n c zs k u K U w g hx hy hK (by omega) (by omega) hU hU2 (by omega) hok

end Go.Proofs.Ytlkoenpdmlbhlaa
