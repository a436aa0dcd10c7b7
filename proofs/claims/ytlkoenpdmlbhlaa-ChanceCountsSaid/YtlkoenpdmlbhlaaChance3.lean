/- chance, third part: in. -/
import Derived.Test.YtlkoenpdmlbhlaaChance2
import Derived.Test.YtlkoenpdmlbhlaaFold2
set_option linter.unusedVariables false
set_option linter.unusedSimpArgs false
namespace Go.Proofs.Ytlkoenpdmlbhlaa
open Go.RowKit Go.Shelf

theorem in1_hands (bT bS bK bU bJ : Nat) (a : Option Addr) (n c : Nat) (zs : List Int) (T k u j : Nat) (w0 : World) (g : IntsAt w0 a n c zs) (hok : okT zs (k : Int)) (hT0 : 0 < T) (hT1 : T < 9223372036854775808) (hk : k ≤ 1024) (hu : u ≤ k) (hj : j ≤ u)
    (lT : bT < w0.heap.size) (lS : bS < w0.heap.size) (lK : bK < w0.heap.size) (lU : bU < w0.heap.size) (lJ : bJ < w0.heap.size)
    (qT0 : w0.cell? ⟨bT, 0, none⟩ = some (.slice a n c)) (qS0 : w0.cell? ⟨bS, 0, none⟩ = some (.int .i64 (T : Int))) (qK0 : w0.cell? ⟨bK, 0, none⟩ = some (.int .i64 (k : Int))) (qU0 : w0.cell? ⟨bU, 0, none⟩ = some (.int .i64 (u : Int))) (qJ0 : w0.cell? ⟨bJ, 0, none⟩ = some (.int .i64 (j : Int))) :
    Hands 2 Try.prog 87 #[.pointer (some ⟨bT, 0, none⟩), .pointer (some ⟨bS, 0, none⟩), .pointer (some ⟨bK, 0, none⟩), .pointer (some ⟨bU, 0, none⟩), .pointer (some ⟨bJ, 0, none⟩)] w0 w0.heap.size none n (RatOk (inE (fun i => zs.getD i 0) T k u j)) := fun l J W hb hJ _ hY h0 =>
  in1_in 2 (by decide) l bT bS bK bU bJ a n c zs T k u j w0 g hok hT0 hT1 hk hu hj lT lS lK lU lJ qT0 qS0 qK0 qU0 qJ0 J (fun i a1 n1 c1 a2 n2 c2 W hi h1 h2 h3 h4 => hY i _ W W hi h1 (Below.refl _ W) h1 h2 ⟨a1, n1, c1, a2, n2, c2, rfl, h3, h4⟩) hJ W hb h0
theorem cpair_zero (w : World) : Calls Try.prog 58 #[.int .i64 0, .int .i64 1] w (RetRat w 0) := by
  have h := cpair_any 0 1 w (by decide) (by decide) (by decide)
  rwa [show mkRat 0 1 = 0 by simp] at h
theorem inE_len {g : Nat → Int} {T k u j i : Nat} (hg : 0 ≤ g i ∧ g i ≤ 16777215) (hT0 : 0 < T) (hT1 : T < 9223372036854775808) (hk : k ≤ 1024) (hu : u ≤ k) (hj : j ≤ u) (hi : i < k) : rlen (inE g T k u j i) ≤ k + 4 := by
  unfold inE
  have h1 : rlen (mkRat (g i) T) ≤ 1 := rlen_mkRat (by omega) (digs_length_le.2 (by simp; omega)) (digs_length_le.2 (by simp; omega))
  have h2 := meets_len (d := i + 1) hk hu hj (by omega)
  have h3 : rlen (mkRat (g i) T * meetsR k u j (i + 1)) ≤ rlen (mkRat (g i) T) + rlen (meetsR k u j (i + 1)) + 1 := product_short _ _
  omega
theorem sumQ_len {q : Nat → Rat} {L N : Nat} (h : ∀ i, i < N → rlen (q i) ≤ L) : ∀ i, i ≤ N → rlen (sumQ 0 q i) ≤ 1 + i * (L + 1)
  | 0, _ => by
    show rlen 0 ≤ _
    have : rlen 0 = 1 := by decide
    omega
  | i + 1, hi => by
    have h1 := sumQ_len h i (by omega)
    have h2 := h i (by omega)
    have h3 : rlen (sumQ 0 q i + q i) ≤ rlen (sumQ 0 q i) + rlen (q i) + 1 := sum_short _ _
    rw [Nat.succ_mul]
    show rlen (sumQ 0 q i + q i) ≤ _
    omega
/-- the chance of just j -/
def inR24 (zs : List Int) (k u j : Nat) : Rat := sumQ 0 (inE (fun i => zs.getD i 0) (totS (fun i => zs.getD i 0) zs.length).toNat k u j) zs.length

set_option maxRecDepth 100000 in
set_option maxHeartbeats 8000000 in
theorem in_any (a : Option Addr) (n c : Nat) (zs : List Int) (k u j : Nat) (w : World) (g : IntsAt w a n c zs) (hok : okT zs (k : Int)) (hk : k ≤ 20) (hu : u ≤ k) (hj : j ≤ u) :
    Calls Try.prog 57 #[.slice a n c, .int .i64 (k : Int), .int .i64 (u : Int), .int .i64 (j : Int)] w (RetRat w (inR24 zs k u j)) := by
  have hlen := g.len
  have hin := okT_in hok
  rw [hlen] at hin
  have hnk : n ≤ k := by have := hok.2.2.2.1; omega
  have htot := sumW_tot n (by omega) hin
  have hpos := okT_pos hok
  rw [hlen] at hpos
  have htin := totS_in (g := fun i => zs.getD i 0) n hin
  obtain ⟨T, hT⟩ : ∃ T : Nat, totS (fun i => zs.getD i 0) n = (T : Int) := ⟨(totS (fun i => zs.getD i 0) n).toNat, by omega⟩
  have hT0 : 0 < T := by omega
  have hT1 : T < 9223372036854775808 := by omega
  have hql := fun i (hi : i < n) => inE_len (g := fun i => zs.getD i 0) (T := T) (k := k) (u := u) (j := j) (i := i) (hin i hi) hT0 hT1 (by omega) hu hj (by omega)
  have hsl := sumQ_len hql
  have hres : inR24 zs k u j = sumQ 0 (inE (fun i => zs.getD i 0) T k u j) n := by unfold inR24; rw [hlen, hT, Int.toNat_natCast]
  have hha := fun bT bS bK bU bJ c0 w0 g0 => in1_hands bT bS bK bU bJ a n c0 zs T k u j w0 g0 hok hT0 hT1 (by omega) hu hj
  have hlen1 : ∀ i, i < n → rlen (inE (fun i => zs.getD i 0) T k u j i) ≤ 1000000 := fun i hi => Nat.le_trans (hql i hi) (by omega)
  have hlen2 : ∀ i, i ≤ n → rlen (sumQ 0 (inE (fun i => zs.getD i 0) T k u j) i) ≤ 1000000 := fun i hi => Nat.le_trans (hsl i hi) (by
    have : i * (k + 4 + 1) ≤ 20 * 25 := Nat.mul_le_mul (by omega) (by omega)
    omega)
  rw [hT] at htot
  rw [hres]
  obtain ⟨q, hq⟩ : ∃ q, inE (fun i => zs.getD i 0) T k u j = q := ⟨_, rfl⟩
  rw [hq] at hlen1 hlen2 ⊢
  simp only [hq] at hha
  have HTOT := Lib.hid htot
  have HHA := Lib.hid hha
  have HL1 := Lib.hid hlen1
  have HL2 := Lib.hid hlen2
  obtain ⟨R, hR⟩ : ∃ R, sumQ 0 q n = R := ⟨_, rfl⟩
  rw [hR]
  have HRR := Lib.hid hR
  clear hin htot hpos htin hT hql hsl hres hha hlen1 hlen2 hq hok hR
  go_enter Try.func57, Try.ntmps57
  have hB := Below.refl w.heap.size w
  go_wp2_with fail
  obtain ⟨w1, hW, hz0, hb, q, f⟩ := box1g w (w.heap.size) (by omega) #[.slice a n c] 24
  rw [hW]
  clear hW
  have g := g.past hb
  have hB := below_later hB hb
  clear hb
  have lt : w.heap.size < w1.heap.size := by omega
  have qt0 := q 0
  simp only [List.getElem?_toArray, List.getElem?_cons_zero, List.getElem?_cons_succ] at qt0
  clear q f
  obtain ⟨w2, hW, hz1, hb, q, f⟩ := box1g w1 (w.heap.size + 1) (by omega) #[.int .i64 (k : Int)] 3
  rw [hW]
  clear hW
  have g := g.past hb
  have qt0 := bq hb lt qt0
  have lt := bl hb lt
  have hB := below_later hB hb
  clear hb
  have lk : w.heap.size + 1 < w2.heap.size := by omega
  have qk0 := q 0
  simp only [List.getElem?_toArray, List.getElem?_cons_zero, List.getElem?_cons_succ] at qk0
  clear q f
  obtain ⟨w3, hW, hz2, hb, q, f⟩ := box1g w2 (w.heap.size + 1 + 1) (by omega) #[.int .i64 (u : Int)] 3
  rw [hW]
  clear hW
  have g := g.past hb
  have qt0 := bq hb lt qt0
  have lt := bl hb lt
  have qk0 := bq hb lk qk0
  have lk := bl hb lk
  have hB := below_later hB hb
  clear hb
  have lu : w.heap.size + 1 + 1 < w3.heap.size := by omega
  have qu0 := q 0
  simp only [List.getElem?_toArray, List.getElem?_cons_zero, List.getElem?_cons_succ] at qu0
  clear q f
  obtain ⟨w4, hW, hz3, hb, q, f⟩ := box1g w3 (w.heap.size + 1 + 1 + 1) (by omega) #[.int .i64 (j : Int)] 3
  rw [hW]
  clear hW
  have g := g.past hb
  have qt0 := bq hb lt qt0
  have lt := bl hb lt
  have qk0 := bq hb lk qk0
  have lk := bl hb lk
  have qu0 := bq hb lu qu0
  have lu := bl hb lu
  have hB := below_later hB hb
  clear hb
  have lj : w.heap.size + 1 + 1 + 1 < w4.heap.size := by omega
  have qj0 := q 0
  simp only [List.getElem?_toArray, List.getElem?_cons_zero, List.getElem?_cons_succ] at qj0
  clear q f
  obtain ⟨w5, hW, hz4, hb, q, f⟩ := box1g w4 (w.heap.size + 1 + 1 + 1 + 1) (by omega) #[.bool false, .slice none 0 0, .slice none 0 0] 36
  rw [hW]
  clear hW
  have g := g.past hb
  have qt0 := bq hb lt qt0
  have lt := bl hb lt
  have qk0 := bq hb lk qk0
  have lk := bl hb lk
  have qu0 := bq hb lu qu0
  have lu := bl hb lu
  have qj0 := bq hb lj qj0
  have lj := bl hb lj
  have hB := below_later hB hb
  clear hb
  have lr : w.heap.size + 1 + 1 + 1 + 1 < w5.heap.size := by omega
  have qr0 := q 0; have qr1 := q 1; have qr2 := q 2
  simp only [List.getElem?_toArray, List.getElem?_cons_zero, List.getElem?_cons_succ] at qr0 qr1 qr2
  have xr : BoxAt w5 (w.heap.size + 1 + 1 + 1 + 1) 3 := BoxAt.of q f rfl (by simp [notU_bool, notU_slice, notU_i64])
  clear q f
  clear hz0
  clear hz1
  clear hz2
  clear hz3
  clear hz4
  with_reducible refine (total_any _ _ _ zs _ g).mono ?_
  rintro e w6 ⟨rfl, hb⟩
  have g := g.past hb
  have qt0 := bq hb lt qt0
  have lt := bl hb lt
  have qk0 := bq hb lk qk0
  have lk := bl hb lk
  have qu0 := bq hb lu qu0
  have lu := bl hb lu
  have qj0 := bq hb lj qj0
  have lj := bl hb lj
  have qr0 := bq hb lr qr0; have qr1 := bq hb lr qr1; have qr2 := bq hb lr qr2
  have xr := xr.past hb lr
  have lr := bl hb lr
  have hB := below_later hB hb
  clear hb
  rw [HTOT.out]
  go_wp2_with fail
  obtain ⟨w7, hW, hz0, hb, q, f⟩ := box1g w6 (w6.heap.size) (by omega) #[.int .i64 (T : Int)] 3
  rw [hW]
  clear hW
  have g := g.past hb
  have qt0 := bq hb lt qt0
  have lt := bl hb lt
  have qk0 := bq hb lk qk0
  have lk := bl hb lk
  have qu0 := bq hb lu qu0
  have lu := bl hb lu
  have qj0 := bq hb lj qj0
  have lj := bl hb lj
  have qr0 := bq hb lr qr0; have qr1 := bq hb lr qr1; have qr2 := bq hb lr qr2
  have xr := xr.past hb lr
  have lr := bl hb lr
  have hB := below_later hB hb
  clear hb
  have ls : w6.heap.size < w7.heap.size := by omega
  have qs0 := q 0
  simp only [List.getElem?_toArray, List.getElem?_cons_zero, List.getElem?_cons_succ] at qs0
  clear q f
  clear hz0
  with_reducible refine (cpair_zero _).mono ?_
  rintro e w8 ⟨ahZU, nhZU, chZU, ahZD, nhZD, chZD, rfl, hZU, hZD, hb⟩
  have hZU := hZU.mono hB.size
  have hZD := hZD.mono hB.size
  have g := g.past hb
  have qt0 := bq hb lt qt0
  have lt := bl hb lt
  have qk0 := bq hb lk qk0
  have lk := bl hb lk
  have qu0 := bq hb lu qu0
  have lu := bl hb lu
  have qj0 := bq hb lj qj0
  have lj := bl hb lj
  have qr0 := bq hb lr qr0; have qr1 := bq hb lr qr1; have qr2 := bq hb lr qr2
  have xr := xr.past hb lr
  have lr := bl hb lr
  have qs0 := bq hb ls qs0
  have ls := bl hb ls
  have hB := below_later hB hb
  clear hb
  go_wp2_with fail
  refine (fold_any w.heap.size 87 _ n 0 q _ _ _ _ _ _ _ hZU hZD hB.size _ none (Nat.le_refl _) (fun b e => by cases e) (HHA.out _ _ _ _ _ _ _ g lt ls lk lu lj qt0 qs0 qk0 qu0 qj0) (enters_of Try.func87 (by kernel_rfl) rfl) HL1.out HL2.out).mono ?_
  rintro e w9 ⟨ahAU, nhAU, chAU, ahAD, nhAD, chAD, rfl, hAU, hAD, hb⟩
  rw [HRR.out] at hAU hAD ⊢
  have qr0 := bq hb lr qr0; have qr1 := bq hb lr qr1; have qr2 := bq hb lr qr2
  have xr := xr.past hb lr
  have lr := bl hb lr
  have hB := below_later hB hb
  clear hb
  have zf0 := xr.f 0 (by decide)
  have zf1 := xr.f 1 (by decide)
  have zf2 := xr.f 2 (by decide)
  go_wp2
  obtain ⟨w10, hW, hO, qN0, qN1, qN2, xN⟩ := store3 xr (.bool (neg (R).num)) (.slice ahAU nhAU chAU) (.slice ahAD nhAD chAD) (nu rfl) (nu rfl) (nu rfl)
  try rw [hW]
  clear hW
  have hAU := hO.own hAU
  have hAD := hO.own hAD
  have lr : w.heap.size + 1 + 1 + 1 + 1 < w10.heap.size := by rw [hO.size]; exact lr
  have qr0 := qN0
  have qr1 := qN1
  have qr2 := qN2
  have xr := xN
  have hB := hO.below (by omega) hB
  clear hO qN0 qN1 qN2 xN zf0 zf1 zf2
  refine bodyPost_ret (v := .agg #[.bool (neg R.num), .slice ahAU nhAU chAU, .slice ahAD nhAD chAD]) ?_ rfl ⟨_, _, _, _, _, _, rfl, hAU, hAD, hB⟩
  simp [results, Try.f57, go_sem, qr0, qr1, qr2]

end Go.Proofs.Ytlkoenpdmlbhlaa
