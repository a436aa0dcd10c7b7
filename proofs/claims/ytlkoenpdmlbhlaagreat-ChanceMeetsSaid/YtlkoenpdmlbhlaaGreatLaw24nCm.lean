import Derived.Test.YtlkoenpdmlbhlaaGreatS0Cm
import Derived.Test.YtlkoenpdmlbhlaaGreatLaw24mCm
import Derived.Test.YtlkoenpdmlbhlaaGreatSoliPCm
set_option linter.unusedVariables false
set_option linter.unusedSimpArgs false
namespace Go.Proofs.YtlkoenpdmlbhlaaGreat
open Go.RowKit
theorem ownsRow_within {L U : Nat} {w w' : World} {base : Nat} {e : TypeId} {size n : Nat} {v : Value} {xs : List Value} (h : w.ownsRow base e size v n xs) (hW : Within L U w w') (hk : ∀ k, v.ownBlock = some k → k < L ∨ U ≤ k) : w'.ownsRow base e size v n xs := by
 refine ⟨h.1, ?_⟩
 rcases h.2 with h0 | ⟨g, cap, cur, rfl, hb, hg, h5, h6, h7⟩
 · exact .inl h0
 · exact .inr ⟨g, cap, cur, rfl, hb, (hW.block g (Array.getElem?_eq_some_iff.1 hg).1 (hk g rfl)).trans hg, h5, h6, h7⟩
theorem digs_den_pos (q : Rat) : 0 < (digs q.den).length := by
 rcases Nat.eq_zero_or_pos (digs q.den).length with h | h
 · have := digs_eq_nil.1 (List.length_eq_zero_iff.1 h)
   exact absurd this q.den_nz
 · exact h
def RatsFrom (w : World) (B U : Nat) (v : Value) (n : Nat) (q : Nat → Rat) (j : Nat) : Prop :=
 ∃ (xs : List Value) (lo hi : Nat → Nat), w.ownsRow B 27 3 v n xs ∧ (∀ i j, i < j → j < n → hi i ≤ lo j) ∧ (∀ i, i < n → B ≤ lo i ∧ hi i ≤ U ∧ ∀ k, v.ownBlock = some k → k < lo i ∨ hi i ≤ k) ∧
  ∀ i, j ≤ i → i < n → ∃ a1 n1 c1 a2 n2 c2, xs[i * 3]? = some (.bool (neg (q i).num)) ∧ xs[i * 3 + 1]? = some (.slice a1 n1 c1) ∧ xs[i * 3 + 2]? = some (.slice a2 n2 c2) ∧
   InAt w (lo i) (hi i) a1 n1 c1 (digs (q i).num.natAbs) ∧ InAt w (lo i) (hi i) a2 n2 c2 (digs (q i).den)
theorem RatsSep.from_ {w : World} {B U n : Nat} {v : Value} {q : Nat → Rat} (h : RatsSep w B U v n q) : RatsFrom w B U v n q 0 := by
 obtain ⟨xs, lo, hi, h1, hv, hU, ho, h2⟩ := h
 refine ⟨xs, lo, hi, h1, ho, fun i hi => ?_, fun i _ hi => ?_⟩
 · obtain ⟨_, _, _, _, _, _, _, _, _, _, _, r⟩ := h2 i hi
   exact r
 · obtain ⟨a1, n1, c1, a2, n2, c2, e1, e2, e3, o1, o2, _⟩ := h2 i hi
   exact ⟨a1, n1, c1, a2, n2, c2, e1, e2, e3, o1, o2⟩
theorem RatsFrom.past {w w' : World} {B U n j : Nat} {v : Value} {q : Nat → Rat} (h : RatsFrom w B U v n q j) (hb : Below w.heap.size w w') : RatsFrom w' B U v n q j := by
 obtain ⟨xs, lo, hi, h1, ho, h3, h2⟩ := h
 refine ⟨xs, lo, hi, h1.kept (below_grown hb none) (by cases v.ownBlock <;> simp), ho, h3, fun i hj hi => ?_⟩
 obtain ⟨a1, n1, c1, a2, n2, c2, e1, e2, e3, ⟨o1, p1⟩, ⟨o2, p2⟩⟩ := h2 i hj hi
 exact ⟨a1, n1, c1, a2, n2, c2, e1, e2, e3, ⟨o1.past hb, p1⟩, ⟨o2.past hb, p2⟩⟩
theorem RatsFrom.at_ {w : World} {B U n j : Nat} {v : Value} {q : Nat → Rat} (h : RatsFrom w B U v n q j) (hn : 0 < n) : ∃ g c, v = .slice (some ⟨g, 0, none⟩) n c ∧ g < w.heap.size ∧ n ≤ c ∧ c ≤ maxLen := by
 obtain ⟨xs, lo, hi, h1, _⟩ := h
 rcases h1.2 with ⟨_, h0⟩ | ⟨g, cap, cur, rfl, hb, hg, h5, h6, _⟩
 · omega
 · exact ⟨g, cap, rfl, (Array.getElem?_eq_some_iff.1 hg).1, h5, h6⟩
theorem RatsFrom.step {w : World} {B U n j g c : Nat} {q : Nat → Rat} (h : RatsFrom w B U (.slice (some ⟨g, 0, none⟩) n c) n q j) (hj : j < n) :
 ∃ L H a1 n1 c1 a2 n2 c2, w.cell? ⟨g, j * 3, none⟩ = some (.bool (neg (q j).num)) ∧ w.cell? ⟨g, j * 3 + 1, none⟩ = some (.slice a1 n1 c1) ∧ w.cell? ⟨g, j * 3 + 2, none⟩ = some (.slice a2 n2 c2) ∧
  InAt w L H a1 n1 c1 (digs (q j).num.natAbs) ∧ InAt w L H a2 n2 c2 (digs (q j).den) ∧ B ≤ L ∧ H ≤ U ∧ ∀ w', Within L H w w' → RatsFrom w' B U (.slice (some ⟨g, 0, none⟩) n c) n q (j + 1) := by
 obtain ⟨xs, lo, hi, h1, ho, h3, h2⟩ := h
 obtain ⟨a1, n1, c1, a2, n2, c2, e1, e2, e3, o1, o2⟩ := h2 j (Nat.le_refl _) hj
 obtain ⟨r1, r2, r3⟩ := h3 j hj
 refine ⟨lo j, hi j, a1, n1, c1, a2, n2, c2, ?_, ?_, ?_, o1, o2, r1, r2, fun w' hW => ⟨xs, lo, hi, ownsRow_within h1 hW r3, ho, h3, fun i hji hi' => ?_⟩⟩
 · rw [World.ownsRow.cellAt h1 (j * 3) (by omega), e1]
 · rw [World.ownsRow.cellAt h1 (j * 3 + 1) (by omega), e2]
 · rw [World.ownsRow.cellAt h1 (j * 3 + 2) (by omega), e3]
 · obtain ⟨b1, m1, d1, b2, m2, d2, f1, f2, f3, p1, p2⟩ := h2 i (by omega) hi'
   have hle := ho j i (by omega) hi'
   exact ⟨b1, m1, d1, b2, m2, d2, f1, f2, f3, ⟨p1.1.after hW hle, p1.2⟩, ⟨p2.1.after hW hle, p2.2⟩⟩
theorem RatsOwn.after {L U : Nat} {w w' : World} {B n : Nat} {v : Value} {f : Nat → Bool × List Nat × List Nat} (h : RatsOwn w B v n f) (hW : Within L U w w') (hB : U ≤ B) : RatsOwn w' B v n f := by
 have hlt := h.lt
 obtain ⟨xs, h1, h2⟩ := h
 refine ⟨xs, ownsRow_within h1 hW (fun k e => .inr (Nat.le_trans hB (hlt k e).1)), fun i hi => ?_⟩
 obtain ⟨a1, n1, c1, a2, n2, c2, e1, e2, e3, o1, o2, r⟩ := h2 i hi
 exact ⟨a1, n1, c1, a2, n2, c2, e1, e2, e3, o1.after hW hB, o2.after hW hB, r⟩
set_option maxRecDepth 100000 in
set_option maxHeartbeats 4000000 in
theorem meets_long (a : Option Addr) (n c : Nat) (zs : List Int) (k u j : Int) (w : World) (g : IntsAt w a n c zs) (h : 30 < n ∨ (20 < k ∧ k ≤ 1024)) :
 Calls Tryz.prog 5 #[.slice a n c, .int .i64 k, .int .i64 u, .int .i64 j] w (RetVal w (.bool true)) := by
 have H := Lib.hid h
 clear h
 go_enter Tryz.func5, Tryz.ntmps5
 have hB := Below.refl w.heap.size w
 go_wp2_with fail
 with_reducible refine (long24_yes _ _ _ zs k _ g H.out).mono ?_
 rintro e w1 ⟨rfl, hb⟩
 have g := g.past hb
 have hB := below_later hB hb
 clear hb
 go_wp2_with fail
 with_reducible refine (awake24 _).mono ?_
 rintro e w2 ⟨rfl, hb⟩
 have hB := below_later hB hb
 clear hb
 go_wp2
 go_ret
 exact ⟨rfl, hB⟩
set_option maxRecDepth 100000 in
set_option maxHeartbeats 16000000 in
theorem meets_none (a : Option Addr) (n c : Nat) (zs : List Int) (k u j : Int) (w : World) (g : IntsAt w a n c zs) (hn : n ≤ 30) (hL : k ≤ 20 ∨ 1024 < k) (hr : refA zs k u ≠ 0) :
 Calls Tryz.prog 5 #[.slice a n c, .int .i64 k, .int .i64 u, .int .i64 j] w (RetVal w (.bool true)) := by
 have HL := Lib.hid hL
 have HR1 := Lib.hid (fun (a : Option Addr) (n c : Nat) w g => Row_ref a n c zs k u w g _ rfl hr)
 have HR2 := Lib.hid (fun (a : Option Addr) (n c : Nat) w g => rRow_ref a n c zs k u w g _ rfl hr)
 obtain ⟨A, hA⟩ : ∃ A, ansIn zs k u j = A := ⟨_, rfl⟩
 obtain ⟨X, hX⟩ : ∃ X, refA zs k u = X := ⟨_, rfl⟩
 have HA := Lib.hid hA
 have HX := Lib.hid hX
 clear hL hA hr hX
 go_enter Tryz.func5, Tryz.ntmps5
 have hB := Below.refl w.heap.size w
 go_wp2_with fail
 with_reducible refine (long24_no _ _ _ zs k _ g hn HL.out).mono ?_
 rintro e w1 ⟨rfl, hb⟩
 have g := g.past hb
 have hB := below_later hB hb
 clear hb
 go_wp2_with fail
 with_reducible refine (copyInts_any _ _ _ zs _ g (by omega)).mono ?_
 rintro e w2 ⟨ai, ni, ci, rfl, gi, hb⟩
 have g := g.past hb
 have hB := below_later hB hb
 clear hb
 go_wp2_with fail
 have HU1 := Lib.hid g.under
 have HU2 := Lib.hid gi.under
 have z0 := hB.size
 go_wp2_with fail
 have rhA := Below.refl w2.heap.size w2
 go_wp2_with fail
 refine (In_ans _ _ _ zs k u j _ gi HL.out).mono ?_
 rintro e w3 ⟨ahAU, nhAU, chAU, ahAD, nhAD, chAD, rfl, hAU, hAD, hb⟩
 have g := g.past hb
 have gi := gi.past hb
 have hB := below_later hB hb
 have rhA := below_later rhA hb
 clear hb
 rw [HA.out] at hAU hAD ⊢
 have zhA := rhA.size
 have ThAU := Lib.hid hAU.ltBlock
 have ThAD := Lib.hid hAD.ltBlock
 have rU := Below.refl w3.heap.size w3
 go_wp2_with fail
 obtain ⟨w4, hW, hz0, hb, q, f⟩ := box1g w3 (w3.heap.size) (by omega) #[.bool (neg (Ans.up (A))), .slice ahAU nhAU chAU, .slice ahAD nhAD chAD] 27
 rw [hW]
 clear hW
 have g := g.past hb
 have gi := gi.past hb
 have hAU := hAU.past hb
 have hAD := hAD.past hb
 have hB := below_later hB hb
 have rhA := below_later rhA hb
 have rU := below_later rU hb
 clear hb
 have la : w3.heap.size < w4.heap.size := by omega
 have qa0 := q 0; have qa1 := q 1; have qa2 := q 2
 simp only [lgA, lgZ, lgS] at qa0 qa1 qa2
 clear q f
 clear hz0
 have rhB_ := Below.refl w4.heap.size w4
 go_wp2_with fail
 refine (rIn_ans _ _ _ zs k u j _ g HL.out).mono ?_
 rintro e w5 ⟨ahB_U, nhB_U, chB_U, ahB_D, nhB_D, chB_D, rfl, hB_U, hB_D, hb⟩
 have g := g.past hb
 have gi := gi.past hb
 have hAU := hAU.past hb
 have hAD := hAD.past hb
 obtain ⟨qa0, qa1, qa2, la⟩ := bq3 hb la qa0 qa1 qa2
 have hB := below_later hB hb
 have rhA := below_later rhA hb
 have rU := below_later rU hb
 have rhB_ := below_later rhB_ hb
 clear hb
 rw [HA.out] at hB_U hB_D ⊢
 have zhB_ := rhB_.size
 have ThB_U := Lib.hid hB_U.ltBlock
 have ThB_D := Lib.hid hB_D.ltBlock
 go_wp2_with fail
 obtain ⟨w6, hW, hz0, hb, q, f⟩ := box1g w5 (w5.heap.size) (by omega) #[.bool (neg (Ans.up (A))), .slice ahB_U nhB_U chB_U, .slice ahB_D nhB_D chB_D] 27
 rw [hW]
 clear hW
 have g := g.past hb
 have gi := gi.past hb
 have hAU := hAU.past hb
 have hAD := hAD.past hb
 have hB_U := hB_U.past hb
 have hB_D := hB_D.past hb
 obtain ⟨qa0, qa1, qa2, la⟩ := bq3 hb la qa0 qa1 qa2
 have hB := below_later hB hb
 have rhA := below_later rhA hb
 have rU := below_later rU hb
 have rhB_ := below_later rhB_ hb
 clear hb
 have lb : w5.heap.size < w6.heap.size := by omega
 have qb0 := q 0; have qb1 := q 1; have qb2 := q 2
 simp only [lgA, lgZ, lgS] at qb0 qb1 qb2
 clear q f
 clear hz0
 refine (HR1.out _ _ _ _ gi).mono ?_
 rintro e w7 ⟨rfl, hb⟩
 have g := g.past hb
 have gi := gi.past hb
 have hAU := hAU.past hb
 have hAD := hAD.past hb
 have hB_U := hB_U.past hb
 have hB_D := hB_D.past hb
 obtain ⟨qa0, qa1, qa2, la⟩ := bq3 hb la qa0 qa1 qa2
 obtain ⟨qb0, qb1, qb2, lb⟩ := bq3 hb lb qb0 qb1 qb2
 have hB := below_later hB hb
 have rhA := below_later rhA hb
 have rU := below_later rU hb
 have rhB_ := below_later rhB_ hb
 clear hb
 rw [HX.out]
 go_wp2_with fail
 refine (HR2.out _ _ _ _ g).mono ?_
 rintro e w8 ⟨rfl, hb⟩
 have g := g.past hb
 have gi := gi.past hb
 have hAU := hAU.past hb
 have hAD := hAD.past hb
 have hB_U := hB_U.past hb
 have hB_D := hB_D.past hb
 obtain ⟨qa0, qa1, qa2, la⟩ := bq3 hb la qa0 qa1 qa2
 obtain ⟨qb0, qb1, qb2, lb⟩ := bq3 hb lb qb0 qb1 qb2
 have hB := below_later hB hb
 have rhA := below_later rhA hb
 have rU := below_later rU hb
 have rhB_ := below_later rhB_ hb
 clear hb
 rw [HX.out]
 go_wp2_with fail
 with_reducible refine (sameAns hAU.toNatAt hAD.toNatAt hB_U.toNatAt hB_D.toNatAt).mono ?_
 rintro e w9 ⟨rfl, hb⟩
 have g := g.past hb
 have gi := gi.past hb
 have hAU := hAU.past hb
 have hAD := hAD.past hb
 have hB_U := hB_U.past hb
 have hB_D := hB_D.past hb
 obtain ⟨qa0, qa1, qa2, la⟩ := bq3 hb la qa0 qa1 qa2
 obtain ⟨qb0, qb1, qb2, lb⟩ := bq3 hb lb qb0 qb1 qb2
 have hB := below_later hB hb
 have rhA := below_later rhA hb
 have rU := below_later rU hb
 have rhB_ := below_later rhB_ hb
 clear hb
 go_wp2_with fail
 with_reducible refine (sameInts_yes gi g).mono ?_
 rintro e w10 ⟨rfl, hb⟩
 have g := g.past hb
 have gi := gi.past hb
 have hAU := hAU.past hb
 have hAD := hAD.past hb
 have hB_U := hB_U.past hb
 have hB_D := hB_D.past hb
 obtain ⟨qa0, qa1, qa2, la⟩ := bq3 hb la qa0 qa1 qa2
 obtain ⟨qb0, qb1, qb2, lb⟩ := bq3 hb lb qb0 qb1 qb2
 have hB := below_later hB hb
 have rhA := below_later rhA hb
 have rU := below_later rU hb
 have rhB_ := below_later rhB_ hb
 clear hb
 go_wp2_with fail
 have yA := rhA.size
 refine wp_loop_rounds 1 ?_
 rw [rounds_succ]
 go_wp2_with fail
 with_reducible refine (overRatio_within w2.heap.size w3.heap.size _ _ _ _ _ _ _ _ _ _ (.both hAU ThAU.out) (.both hAD ThAD.out)).mono ?_
 rintro e w11 ⟨rfl, hW⟩
 have hB := hB.trans ((hW.below (by omega)).mono (by omega))
 clear hW
 go_wp2_with fail
 with_reducible refine (awake24 _).mono ?_
 rintro e w12 ⟨rfl, hb⟩
 have hB := below_later hB hb
 clear hb
 go_wp2
 go_ret
 exact ⟨rfl, hB⟩
set_option maxRecDepth 100000 in
set_option maxHeartbeats 16000000 in
theorem meets_main (a : Option Addr) (n c : Nat) (zs : List Int) (K U : Nat) (j : Int) (w : World) (g : IntsAt w a n c zs) (hn : n ≤ 30) (hok : okT zs (K : Int)) (hK1 : 1 ≤ K) (hK : K ≤ 20) (hU : U ≤ K) :
 Calls Tryz.prog 5 #[.slice a n c, .int .i64 (K : Int), .int .i64 (U : Int), .int .i64 j] w (RetVal w (.bool true)) := by
 have HL := Lib.hid (show (K : Int) ≤ 20 ∨ 1024 < (K : Int) by omega)
 have hr1 := fun (a : Option Addr) (n c : Nat) w g => Row_ok a n c zs K U w g hok hK1 hK hU
 have hr2 := fun (a : Option Addr) (n c : Nat) w g => rRow_ok a n c zs K U w g hok hK1 hK hU
 simp only [Nat.zero_add] at hr1
 obtain ⟨q, hq⟩ : ∃ q : Nat → Rat, (fun i => inR24 zs K U i) = q := ⟨_, rfl⟩
 have hq2 : ∀ i, inR24 zs K U i = q i := fun i => by rw [← hq]
 simp only [hq2] at hr1 hr2
 have HR1 := Lib.hid hr1
 have HR2 := Lib.hid hr2
 obtain ⟨A, hA⟩ : ∃ A, ansIn zs (K : Int) (U : Int) j = A := ⟨_, rfl⟩
 have HA := Lib.hid hA
 clear hA hok hr1 hr2 hq hq2
 go_enter Tryz.func5, Tryz.ntmps5
 have hB := Below.refl w.heap.size w
 go_wp2_with fail
 with_reducible refine (long24_no _ _ _ zs (K : Int) _ g hn HL.out).mono ?_
 rintro e w1 ⟨rfl, hb⟩
 have g := g.past hb
 have hB := below_later hB hb
 clear hb
 go_wp2_with fail
 with_reducible refine (copyInts_any _ _ _ zs _ g (by omega)).mono ?_
 rintro e w2 ⟨ai, ni, ci, rfl, gi, hb⟩
 have g := g.past hb
 have hB := below_later hB hb
 clear hb
 go_wp2_with fail
 have HU1 := Lib.hid g.under
 have HU2 := Lib.hid gi.under
 have z0 := hB.size
 go_wp2_with fail
 have rhA := Below.refl w2.heap.size w2
 go_wp2_with fail
 refine (In_ans _ _ _ zs (K : Int) (U : Int) j _ gi HL.out).mono ?_
 rintro e w3 ⟨ahAU, nhAU, chAU, ahAD, nhAD, chAD, rfl, hAU, hAD, hb⟩
 have g := g.past hb
 have gi := gi.past hb
 have hB := below_later hB hb
 have rhA := below_later rhA hb
 clear hb
 rw [HA.out] at hAU hAD ⊢
 have zhA := rhA.size
 have ThAU := Lib.hid hAU.ltBlock
 have ThAD := Lib.hid hAD.ltBlock
 have rU := Below.refl w3.heap.size w3
 go_wp2_with fail
 obtain ⟨w4, hW, hz0, hb, q, f⟩ := box1g w3 (w3.heap.size) (by omega) #[.bool (neg (Ans.up (A))), .slice ahAU nhAU chAU, .slice ahAD nhAD chAD] 27
 rw [hW]
 clear hW
 have g := g.past hb
 have gi := gi.past hb
 have hAU := hAU.past hb
 have hAD := hAD.past hb
 have hB := below_later hB hb
 have rhA := below_later rhA hb
 have rU := below_later rU hb
 clear hb
 have la : w3.heap.size < w4.heap.size := by omega
 have qa0 := q 0; have qa1 := q 1; have qa2 := q 2
 simp only [lgA, lgZ, lgS] at qa0 qa1 qa2
 clear q f
 clear hz0
 have rhB_ := Below.refl w4.heap.size w4
 go_wp2_with fail
 refine (rIn_ans _ _ _ zs (K : Int) (U : Int) j _ g HL.out).mono ?_
 rintro e w5 ⟨ahB_U, nhB_U, chB_U, ahB_D, nhB_D, chB_D, rfl, hB_U, hB_D, hb⟩
 have g := g.past hb
 have gi := gi.past hb
 have hAU := hAU.past hb
 have hAD := hAD.past hb
 obtain ⟨qa0, qa1, qa2, la⟩ := bq3 hb la qa0 qa1 qa2
 have hB := below_later hB hb
 have rhA := below_later rhA hb
 have rU := below_later rU hb
 have rhB_ := below_later rhB_ hb
 clear hb
 rw [HA.out] at hB_U hB_D ⊢
 have zhB_ := rhB_.size
 have ThB_U := Lib.hid hB_U.ltBlock
 have ThB_D := Lib.hid hB_D.ltBlock
 go_wp2_with fail
 obtain ⟨w6, hW, hz0, hb, q, f⟩ := box1g w5 (w5.heap.size) (by omega) #[.bool (neg (Ans.up (A))), .slice ahB_U nhB_U chB_U, .slice ahB_D nhB_D chB_D] 27
 rw [hW]
 clear hW
 have g := g.past hb
 have gi := gi.past hb
 have hAU := hAU.past hb
 have hAD := hAD.past hb
 have hB_U := hB_U.past hb
 have hB_D := hB_D.past hb
 obtain ⟨qa0, qa1, qa2, la⟩ := bq3 hb la qa0 qa1 qa2
 have hB := below_later hB hb
 have rhA := below_later rhA hb
 have rU := below_later rU hb
 have rhB_ := below_later rhB_ hb
 clear hb
 have lb : w5.heap.size < w6.heap.size := by omega
 have qb0 := q 0; have qb1 := q 1; have qb2 := q 2
 simp only [lgA, lgZ, lgS] at qb0 qb1 qb2
 clear q f
 clear hz0
 have yR := rU.size
 have yb := rhA.size
 go_wp2_with fail
 refine (HR1.out _ _ _ _ gi).mono ?_
 rintro e w7 ⟨v, B0, U0, rfl, hB0, hR, hb⟩
 have g := g.past hb
 have gi := gi.past hb
 have hAU := hAU.past hb
 have hAD := hAD.past hb
 have hB_U := hB_U.past hb
 have hB_D := hB_D.past hb
 obtain ⟨qa0, qa1, qa2, la⟩ := bq3 hb la qa0 qa1 qa2
 obtain ⟨qb0, qb1, qb2, lb⟩ := bq3 hb lb qb0 qb1 qb2
 have hB := below_later hB hb
 have rhA := below_later rhA hb
 have rU := below_later rU hb
 have rhB_ := below_later rhB_ hb
 clear hb
 have hRF := hR.from_
 have hU0 : U0 ≤ w7.heap.size := by obtain ⟨_, _, _, _, _, h, _⟩ := hR; exact h
 clear hR
 go_wp2_with fail
 go_wp2_with fail
 refine (HR2.out _ _ _ _ g).mono ?_
 rintro e w8 ⟨v2, rfl, hM, hb⟩
 have g := g.past hb
 have gi := gi.past hb
 have hAU := hAU.past hb
 have hAD := hAD.past hb
 have hB_U := hB_U.past hb
 have hB_D := hB_D.past hb
 have hRF := hRF.past hb
 obtain ⟨qa0, qa1, qa2, la⟩ := bq3 hb la qa0 qa1 qa2
 obtain ⟨qb0, qb1, qb2, lb⟩ := bq3 hb lb qb0 qb1 qb2
 have hB := below_later hB hb
 have rhA := below_later rhA hb
 have rU := below_later rU hb
 have rhB_ := below_later rhB_ hb
 clear hb
 obtain ⟨gl, cl, rfl, hgl, hlc, hcm⟩ := hRF.at_ (Nat.succ_pos U)
 obtain ⟨am, cm, rfl, hmat⟩ := hM.at_
 have hml := hmat.le
 have hmc := hmat.cle
 simp only [maxLen] at hcm hmc
 clear hmat
 go_wp2_with fail
 with_reducible refine (sameAns hAU.toNatAt hAD.toNatAt hB_U.toNatAt hB_D.toNatAt).mono ?_
 rintro e w9 ⟨rfl, hb⟩
 have g := g.past hb
 have gi := gi.past hb
 have hAU := hAU.past hb
 have hAD := hAD.past hb
 have hB_U := hB_U.past hb
 have hB_D := hB_D.past hb
 have hRF := hRF.past hb
 have hM := hM.past hb
 obtain ⟨qa0, qa1, qa2, la⟩ := bq3 hb la qa0 qa1 qa2
 obtain ⟨qb0, qb1, qb2, lb⟩ := bq3 hb lb qb0 qb1 qb2
 have hB := below_later hB hb
 have rhA := below_later rhA hb
 have rU := below_later rU hb
 have rhB_ := below_later rhB_ hb
 clear hb
 go_wp2_with fail
 with_reducible refine (sameInts_yes gi g).mono ?_
 rintro e w10 ⟨rfl, hb⟩
 have g := g.past hb
 have gi := gi.past hb
 have hAU := hAU.past hb
 have hAD := hAD.past hb
 have hB_U := hB_U.past hb
 have hB_D := hB_D.past hb
 have hRF := hRF.past hb
 have hM := hM.past hb
 obtain ⟨qa0, qa1, qa2, la⟩ := bq3 hb la qa0 qa1 qa2
 obtain ⟨qb0, qb1, qb2, lb⟩ := bq3 hb lb qb0 qb1 qb2
 have hB := below_later hB hb
 have rhA := below_later rhA hb
 have rU := below_later rU hb
 have rhB_ := below_later rhB_ hb
 clear hb
 go_wp2_with fail
 have yA := rhA.size
 have xba : w3.heap.size < B0 := by omega
 go_loopw [18] (fun i wr => ∃ (m : Nat), m ≤ U + 1 ∧ i = .int .i64 ((m : Nat) : Int) ∧ RatsFrom wr B0 U0 (.slice (some ⟨gl, 0, none⟩) (U + 1) cl) (U + 1) q m ∧ RatsOwn wr w7.heap.size (.slice am (U + 1) cm) (U + 1) (fun i => partsOf (q i)) ∧ Within B0 U0 w10 wr ∧ Below w.heap.size w wr) (fun i _ => U + 1 - (intOf i).toNat)
 case atStart => exact ⟨0, Nat.zero_le _, rfl, hRF, hM, Within.refl _ _ _, hB⟩
 case round =>
  clear hRF hM hB
  obtain ⟨m, hm, rfl, hRF, hM, hWX, hB⟩ := hrel
  by_cases hlt : m < U + 1
  · obtain ⟨L, H, a5, n5, c5, a6, n6, c6, q1, q2, q3, h5, h6, hL1, hH1, hstep⟩ := hRF.step hlt
    obtain ⟨g2, rfl⟩ : ∃ g2, am = some ⟨g2, 0, none⟩ := by
     obtain ⟨xs, h1, _⟩ := hM
     rcases h1.2 with ⟨_, h0⟩ | ⟨g', cap, cur, e, _⟩
     · omega
     · cases e; exact ⟨_, rfl⟩
    obtain ⟨a', c', e', hmat⟩ := hM.at_
    obtain rfl : a' = some ⟨g2, 0, none⟩ := by injection e' with e1 e2 e3; exact e1.symm
    rcases hmat.cell with h0 | ⟨b3, o3, e3, hbi, hc⟩
    · omega
    obtain ⟨rfl, rfl⟩ : b3 = g2 ∧ o3 = 0 := by cases e3; exact ⟨rfl, rfl⟩
    obtain ⟨a7, n7, c7, a8, n8, c8, p1, p2, p3, h7, h8⟩ := hc m hlt
    simp only [partsOf, Nat.zero_add] at p1 p2 p3 h7 h8
    obtain ⟨hg1, hg2, hg3⟩ : gl < wr.heap.size ∧ L ≤ wr.heap.size ∧ True := ⟨World.block_lt_of_cell? wr _ q1, by
     rcases h6.1.ltBlock with h0 | h0
     · have := h6.1.len; have := digs_den_pos (q m); omega
     · rcases h6.1.own with h9 | ⟨b9, o9, rfl, hb9, _⟩
       · have := h6.1.len; have := digs_den_pos (q m); omega
       · exact Nat.le_of_lt (Nat.lt_of_le_of_lt hb9 (h0 _ rfl)), trivial⟩
    have h5n := h5.1.toNatAt
    have h6n := h6.1.toNatAt
    obtain ⟨X, hX⟩ : ∃ X, q m = X := ⟨_, rfl⟩
    rw [hX] at q1 p1 h5 h6 h7 h8 h5n h6n
    have HST := Lib.hid hstep
    have HXX := Lib.hid hX
    clear hc hmat hstep hX e' e3
    have sR := Below.refl wr.heap.size wr
    go_wp2_with fail
    refine wp_region_held_drew (S := fun w' => (True) ∧ Below wr.heap.size wr w') (by kernel_rfl) ⟨trivial, (Below.refl _ _).drew⟩ (fun hHeld => ?_)
    refine takeL 0 (.slice (some ⟨gl, 0, none⟩) (U + 1) cl) rfl (by kernel_rfl) (by kernel_rfl) (by kernel_rfl) (fun _ _ _ h => h) (Or.inl ⟨by rfl, ?_⟩) (by assumption) ?_
    · intro ws hSw; obtain ⟨s0, sB⟩ := hSw; go_simp
    try simp only [Act.put, lsA, lsZ, lsS]
    refine takeL 1 (.int .i64 (m : Int)) rfl (by kernel_rfl) (by kernel_rfl) (by kernel_rfl) (fun _ _ _ h => h) (Or.inl ⟨by rfl, ?_⟩) (by assumption) ?_
    · intro ws hSw; obtain ⟨s0, sB⟩ := hSw; go_simp
    try simp only [Act.put, lsA, lsZ, lsS]
    refine takeL 2 (.pointer (some ⟨gl, m * 3, none⟩)) rfl (by kernel_rfl) (by kernel_rfl) (by kernel_rfl) (fun _ _ _ h => h) (Or.inl ⟨by rfl, ?_⟩) (by assumption) ?_
    · intro ws hSw; obtain ⟨s0, sB⟩ := hSw; go_simp
    try simp only [Act.put, lsA, lsZ, lsS]
    refine takeL 3 (.agg #[.bool (neg X.num), .slice a5 n5 c5, .slice a6 n6 c6]) rfl (by kernel_rfl) (by kernel_rfl) (by kernel_rfl) (fun _ _ _ h => h) (Or.inl ⟨by rfl, ?_⟩) (by assumption) ?_
    · intro ws hSw; obtain ⟨s0, sB⟩ := hSw; have e5 := (sB.cell (p := ⟨gl, _, none⟩) hg1).trans q1; have e6 := (sB.cell (p := ⟨gl, _, none⟩) hg1).trans q2; have e7 := (sB.cell (p := ⟨gl, _, none⟩) hg1).trans q3; go_simp
    try simp only [Act.put, lsA, lsZ, lsS]
    refine takeL 4 (.slice (some ⟨b3, 0, none⟩) (U + 1) cm) rfl (by kernel_rfl) (by kernel_rfl) (by kernel_rfl) (fun _ _ _ h => h) (Or.inl ⟨by rfl, ?_⟩) (by assumption) ?_
    · intro ws hSw; obtain ⟨s0, sB⟩ := hSw; go_simp
    try simp only [Act.put, lsA, lsZ, lsS]
    refine takeL 5 (.int .i64 (m : Int)) rfl (by kernel_rfl) (by kernel_rfl) (by kernel_rfl) (fun _ _ _ h => h) (Or.inl ⟨by rfl, ?_⟩) (by assumption) ?_
    · intro ws hSw; obtain ⟨s0, sB⟩ := hSw; go_simp
    try simp only [Act.put, lsA, lsZ, lsS]
    refine takeL 6 (.pointer (some ⟨b3, m * 3, none⟩)) rfl (by kernel_rfl) (by kernel_rfl) (by kernel_rfl) (fun _ _ _ h => h) (Or.inl ⟨by rfl, ?_⟩) (by assumption) ?_
    · intro ws hSw; obtain ⟨s0, sB⟩ := hSw; go_simp
    try simp only [Act.put, lsA, lsZ, lsS]
    refine takeL 7 (.agg #[.bool (neg X.num), .slice a7 n7 c7, .slice a8 n8 c8]) rfl (by kernel_rfl) (by kernel_rfl) (by kernel_rfl) (fun _ _ _ h => h) (Or.inl ⟨by rfl, ?_⟩) (by assumption) ?_
    · intro ws hSw; obtain ⟨s0, sB⟩ := hSw; have e5 := (sB.cell (p := ⟨b3, _, none⟩) hbi).trans p1; have e6 := (sB.cell (p := ⟨b3, _, none⟩) hbi).trans p2; have e7 := (sB.cell (p := ⟨b3, _, none⟩) hbi).trans p3; go_simp
    try simp only [Act.put, lsA, lsZ, lsS]
    refine wpAnyH_ready (rs := [8]) (by kernel_rfl) (by simp) ?_
    refine consL rfl (fun K hK => ?_) AllReadyH.nil
    go_simp
    have hS := hHeld
    with_reducible refine (same24 (h5n.past hS.2) (h6n.past hS.2) (h7.past hS.2) (h8.past hS.2)).mono ?_
    rintro e w11 ⟨rfl, hbw11⟩
    refine hK.out _ _ ⟨trivial, below_later hS.2 hbw11⟩ (fun hHeld => ?_)
    clear hK K hS
    try simp only [Act.put, lsA, lsZ, lsS]
    refine takeL 9 (?_) rfl (by kernel_rfl) (by kernel_rfl) (by kernel_rfl) (fun _ _ _ h => h) (Or.inl ⟨by rfl, ?_⟩) (by assumption) ?_
    rotate_left
    · intro ws hSw; obtain ⟨s0, sB⟩ := hSw; go_simp; with_reducible rfl
    try simp only [Act.put, lsA, lsZ, lsS]
    refine wpAnyH_done (by kernel_rfl) ?_ _
    have hbR := hHeld.2
    have h5n := h5n.past hbR
    have h6n := h6n.past hbR
    have h7 := h7.past hbR
    have h8 := h8.past hbR
    have hB := below_later hB hbR
    have sR := below_later sR hbR
    clear hHeld hbR
    have q1 := (sR.cell (p := ⟨gl, _, none⟩) hg1).trans q1
    have q2 := (sR.cell (p := ⟨gl, _, none⟩) hg1).trans q2
    have q3 := (sR.cell (p := ⟨gl, _, none⟩) hg1).trans q3
    go_wp2_with fail
    with_reducible refine (overRatio_within L H _ _ _ _ _ _ _ _ _ _ (.both (h5.own.past sR) h5.lt) (.both (h6.own.past sR) h6.lt)).mono ?_
    rintro e wz ⟨rfl, hW⟩
    have hW2 := (Within.ofBelow sR).trans hW
    have hRF := HST.out _ hW2
    have hM := hM.after hW2 (Nat.le_trans hH1 hU0)
    have hB := hB.trans ((hW.below (Nat.le_trans hg2 sR.size)).mono (by omega))
    have hWX := hWX.trans (hW2.wide hL1 hH1)
    clear q1 q2 q3 p1 p2 p3 hW hW2
    go_wp2
    go_roundw
    case rel => exact ⟨m + 1, by omega, by go_num, hRF, hM, hWX, hB⟩
    case measure => simp [intOf]; omega
  · obtain rfl : m = U + 1 := by omega
    have hAU := hAU.within hWX (ThAU.out.imp id fun h x hx => .inl (by have := h x hx; omega))
    have hAD := hAD.within hWX (ThAD.out.imp id fun h x hx => .inl (by have := h x hx; omega))
    have qa0 := hWX.cell (.inl xba) qa0; have qa1 := hWX.cell (.inl xba) qa1; have qa2 := hWX.cell (.inl xba) qa2
    have yA := Nat.le_trans yA hWX.size
    go_wp2_with fail
    with_reducible refine (overRatio_within w2.heap.size w3.heap.size _ _ _ _ _ _ _ _ _ _ (.both hAU ThAU.out) (.both hAD ThAD.out)).mono ?_
    rintro e w11 ⟨rfl, hW⟩
    have hB := hB.trans ((hW.below (by omega)).mono (by omega))
    clear hW
    go_wp2_with fail
    with_reducible refine (awake24 _).mono ?_
    rintro e w12 ⟨rfl, hb⟩
    have hB := below_later hB hb
    clear hb
    go_wp2
    go_ret
    exact ⟨rfl, hB⟩
theorem chanceMeets_any (a : Option Addr) (n c : Nat) (zs : List Int) (k u j : Int) (w : World) (g : IntsAt w a n c zs) :
 Calls Tryz.prog 5 #[.slice a n c, .int .i64 k, .int .i64 u, .int .i64 j] w (RetVal w (.bool true)) := by
 by_cases h : 30 < n ∨ (20 < k ∧ k ≤ 1024)
 · exact meets_long a n c zs k u j w g h
 · by_cases hr : refA zs k u = 0
   · obtain ⟨h1, h2, h3, h4, h5⟩ := refA_zero hr
     obtain ⟨K, rfl⟩ : ∃ K : Nat, k = K := ⟨k.toNat, by omega⟩
     obtain ⟨U, rfl⟩ : ∃ U : Nat, u = U := ⟨u.toNat, by omega⟩
     exact meets_main a n c zs K U j w g (by omega) h5 (by omega) (by omega) (by omega)
   · exact meets_none a n c zs k u j w g (by omega) (by omega) hr
end Go.Proofs.YtlkoenpdmlbhlaaGreat
