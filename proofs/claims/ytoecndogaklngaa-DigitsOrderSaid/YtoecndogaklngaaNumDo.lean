import Derived.WalkKit
import Derived.Lib.Hide
import Derived.Laws.AppendOwnNone
import Derived.Laws.IdiomCopy
import Derived.Deep.QuietTactic
import Derived.Test.YtoecndogaklngaaS0Do
set_option linter.unusedVariables false
namespace Go.Proofs.Ytoecndogaklngaa
def val : List Nat → Nat
 | [] => 0
 | x :: r => x + 18446744073709551616 * val r
def Dig (l : List Nat) : Prop := ∀ x ∈ l, x < 18446744073709551616
def D (l : List Nat) (i : Nat) : Nat := l.getD i 0
def digsF : Nat → Nat → List Nat
 | 0, _ => []
 | f + 1, n => if n = 0 then [] else (n % 18446744073709551616) :: digsF f (n / 18446744073709551616)
def digs (n : Nat) : List Nat := digsF n n
def Top (l : List Nat) : Prop := l.getLast? ≠ some 0
theorem val_cons (x : Nat) (r : List Nat) : val (x :: r) = x + 18446744073709551616 * val r := rfl
theorem digsF_enough : ∀ (f g n : Nat), n ≤ f → n ≤ g → digsF f n = digsF g n
 | 0, g, n, h, _ => by
   have : n = 0 := by omega
   subst this
   cases g <;> simp [digsF]
 | f + 1, 0, n, _, h => by
   have : n = 0 := by omega
   subst this
   simp [digsF]
 | f + 1, g + 1, n, h1, h2 => by
   unfold digsF
   by_cases hn : n = 0
   · simp [hn]
   · rw [if_neg hn, if_neg hn, digsF_enough f g _ (by omega) (by omega)]
theorem digs_zero : digs 0 = [] := rfl
theorem digs_pos {n : Nat} (h : n ≠ 0) : digs n = (n % 18446744073709551616) :: digs (n / 18446744073709551616) := by
 unfold digs
 obtain ⟨m, rfl⟩ : ∃ m, n = m + 1 := ⟨n - 1, by omega⟩
 rw [digsF, if_neg h, digsF_enough m ((m + 1) / 18446744073709551616) _ (by omega) (by omega)]
theorem val_digs (n : Nat) : val (digs n) = n := by
 induction n using Nat.strongRecOn with
 | _ n ih =>
   by_cases h : n = 0
   · subst h; rfl
   · rw [digs_pos h, val_cons, ih _ (by omega)]
     omega
theorem dig_digs (n : Nat) : Dig (digs n) := by
 induction n using Nat.strongRecOn with
 | _ n ih =>
   by_cases h : n = 0
   · subst h; intro x hx; simp [digs_zero] at hx
   · rw [digs_pos h]
     intro x hx
     rcases List.mem_cons.1 hx with rfl | hx
     · omega
     · exact ih _ (by omega) x hx
theorem digs_eq_nil {n : Nat} : digs n = [] ↔ n = 0 := by
 constructor
 · intro h
   have := val_digs n
   rw [h] at this
   exact this.symm
 · rintro rfl; rfl
theorem top_nil : Top [] := by simp [Top]
theorem top_cons {x : Nat} {r : List Nat} (h : r ≠ []) : Top (x :: r) ↔ Top r := by
 unfold Top
 rw [List.getLast?_cons]
 obtain ⟨y, s, rfl⟩ := List.exists_cons_of_ne_nil h
 simp [List.getLast?_cons]
theorem top_one {x : Nat} : Top [x] ↔ x ≠ 0 := by simp [Top]
theorem top_digs (n : Nat) : Top (digs n) := by
 induction n using Nat.strongRecOn with
 | _ n ih =>
   by_cases h : n = 0
   · subst h; exact top_nil
   · rw [digs_pos h]
     by_cases h' : n / 18446744073709551616 = 0
     · rw [h', digs_zero, top_one]; omega
     · rw [top_cons (fun e => h' (digs_eq_nil.1 e))]
       exact ih _ (by omega)
theorem dig_cons {x : Nat} {r : List Nat} : Dig (x :: r) ↔ x < 18446744073709551616 ∧ Dig r := by
 unfold Dig; simp
theorem dig_nil : Dig [] := by intro x hx; cases hx
theorem Dig.take {l : List Nat} (h : Dig l) (n : Nat) : Dig (l.take n) := fun x hx => h x (List.mem_of_mem_take hx)
theorem Dig.at_ {l : List Nat} (h : Dig l) (i : Nat) : D l i < 18446744073709551616 := by
 by_cases hi : i < l.length
 · rw [D, List.getD_eq_getElem?_getD, List.getElem?_eq_getElem hi]; exact h _ (List.getElem_mem hi)
 · rw [D, List.getD_eq_getElem?_getD, List.getElem?_eq_none (by omega)]; decide
theorem Dig.set {l : List Nat} (h : Dig l) (i x : Nat) (hx : x < 18446744073709551616) : Dig (l.set i x) := by
 intro y hy
 rcases List.mem_or_eq_of_mem_set hy with hy | rfl
 · exact h y hy
 · exact hx
theorem dig_replicate (n : Nat) : Dig (List.replicate n 0) := by
 intro x hx
 rw [List.eq_of_mem_replicate hx]; decide
theorem digs_val : ∀ {l : List Nat}, Dig l → Top l → digs (val l) = l
 | [], _, _ => rfl
 | x :: r, hd, ht => by
   obtain ⟨hx, hr⟩ := dig_cons.1 hd
   by_cases hrn : r = []
   · subst hrn
     have hx0 : x ≠ 0 := top_one.1 ht
     have : val [x] = x := by simp [val]
     rw [this, digs_pos hx0]
     rw [Nat.mod_eq_of_lt hx, Nat.div_eq_of_lt hx, digs_zero]
   · have hr' := digs_val hr ((top_cons hrn).1 ht)
     have hv : val r ≠ 0 := fun e => hrn (by rw [← hr', e, digs_zero])
     have hne : val (x :: r) ≠ 0 := by rw [val_cons]; omega
     rw [digs_pos hne, val_cons, show (x + 18446744073709551616 * val r) % 18446744073709551616 = x by omega, show (x + 18446744073709551616 * val r) / 18446744073709551616 = val r by omega, hr']
theorem val_append (l m : List Nat) : val (l ++ m) = val l + 18446744073709551616 ^ l.length * val m := by
 induction l with
 | nil => simp [val]
 | cons x r ih =>
   simp only [List.cons_append, val_cons, ih, List.length_cons, Nat.pow_succ, Nat.mul_add]
   rw [← Nat.mul_assoc, Nat.mul_comm (18446744073709551616 ^ r.length) 18446744073709551616]
   omega
theorem val_lt {l : List Nat} (h : Dig l) : val l < 18446744073709551616 ^ l.length := by
 induction l with
 | nil => simp [val]
 | cons x r ih =>
   obtain ⟨hx, hr⟩ := dig_cons.1 h
   have := ih hr
   rw [val_cons, List.length_cons, Nat.pow_succ]
   have h2 : val r + 1 ≤ 18446744073709551616 ^ r.length := this
   have h3 := Nat.mul_le_mul_left 18446744073709551616 h2
   rw [Nat.mul_comm (18446744073709551616 ^ r.length)]
   omega
theorem val_replicate (n : Nat) : val (List.replicate n 0) = 0 := by
 induction n with
 | zero => rfl
 | succ n ih => rw [List.replicate_succ, val_cons, ih]
def lo (l : List Nat) (i : Nat) : Nat := val (l.take i)
def hi (l : List Nat) (i : Nat) : Nat := val (l.drop i)
theorem lo_zero (l : List Nat) : lo l 0 = 0 := by simp [lo, val]
theorem hi_zero (l : List Nat) : hi l 0 = val l := by simp [hi]
theorem lo_all {l : List Nat} {i : Nat} (h : l.length ≤ i) : lo l i = val l := by simp [lo, List.take_of_length_le h]
theorem hi_all {l : List Nat} {i : Nat} (h : l.length ≤ i) : hi l i = 0 := by simp [hi, List.drop_of_length_le h, val]
theorem D_out {l : List Nat} {i : Nat} (h : l.length ≤ i) : D l i = 0 := by simp [D, List.getD_eq_getElem?_getD, List.getElem?_eq_none h]
theorem hi_step (l : List Nat) (i : Nat) : hi l i = D l i + 18446744073709551616 * hi l (i + 1) := by
 by_cases h : i < l.length
 · unfold hi
   rw [List.drop_eq_getElem_cons h, val_cons]
   simp [D, List.getD_eq_getElem?_getD, List.getElem?_eq_getElem h]
 · rw [hi_all (by omega), hi_all (by omega), D_out (by omega)]
theorem lo_step (l : List Nat) (i : Nat) : lo l (i + 1) = lo l i + 18446744073709551616 ^ i * D l i := by
 by_cases h : i < l.length
 · unfold lo
   rw [List.take_succ_eq_append_getElem h, val_append]
   simp [D, List.getD_eq_getElem?_getD, List.getElem?_eq_getElem h, Nat.min_eq_left (Nat.le_of_lt h), val]
 · rw [lo_all (by omega), lo_all (by omega), D_out (by omega)]; omega
theorem lo_hi (l : List Nat) (i : Nat) : val l = lo l i + 18446744073709551616 ^ i * hi l i := by
 induction i with
 | zero => simp [lo_zero, hi_zero]
 | succ i ih =>
   rw [ih, lo_step, hi_step l i, Nat.mul_add, Nat.pow_succ, Nat.mul_assoc]
   omega
theorem lo_lt {l : List Nat} (h : Dig l) (i : Nat) : lo l i < 18446744073709551616 ^ i := by
 induction i with
 | zero => simp [lo_zero]
 | succ i ih =>
   rw [lo_step, Nat.pow_succ, Nat.mul_comm (18446744073709551616 ^ i) 18446744073709551616]
   have h1 : D l i + 1 ≤ 18446744073709551616 := h.at_ i
   have h2 := Nat.mul_le_mul_left (18446744073709551616 ^ i) h1
   rw [Nat.mul_add, Nat.mul_one, Nat.mul_comm _ 18446744073709551616] at h2
   omega
theorem lo_set {l : List Nat} {i j x : Nat} (h : i ≤ j) : lo (l.set j x) i = lo l i := by
 simp [lo, List.take_set_of_le h]
theorem hi_set {l : List Nat} {i j x : Nat} (h : j < i) : hi (l.set j x) i = hi l i := by
 simp [hi, List.drop_set_of_lt h]
theorem D_set_same {l : List Nat} {i x : Nat} (h : i < l.length) : D (l.set i x) i = x := by
 simp [D, List.getD_eq_getElem?_getD, h]
theorem D_set_other {l : List Nat} {i j x : Nat} (h : i ≠ j) : D (l.set i x) j = D l j := by
 simp [D, List.getD_eq_getElem?_getD, h]
theorem pow_pos' (i : Nat) : 0 < 18446744073709551616 ^ i := Nat.pow_pos (by decide)
theorem digs_length_le {n k : Nat} : (digs n).length ≤ k ↔ n < 18446744073709551616 ^ k := by
 induction k generalizing n with
 | zero =>
   rw [Nat.pow_zero, Nat.le_zero, List.length_eq_zero_iff, digs_eq_nil]; omega
 | succ k ih =>
   by_cases h : n = 0
   · subst h; simp [digs_zero, pow_pos']
   · rw [digs_pos h, List.length_cons, Nat.succ_le_succ_iff, ih, Nat.pow_succ, Nat.div_lt_iff_lt_mul (by decide)]
theorem digs_length_val {l : List Nat} (h : Dig l) : (digs (val l)).length ≤ l.length := digs_length_le.2 (val_lt h)
theorem take_digs {l : List Nat} (h : Dig l) {m : Nat} (hm : m ≤ l.length) (h0 : hi l m = 0) (ht : m = 0 ∨ D l (m - 1) ≠ 0) : l.take m = digs (val l) := by
 have hv : val (l.take m) = val l := by
  rw [lo_hi l m, h0]; simp [lo]
 have htop : Top (l.take m) := by
  rcases ht with rfl | ht
  · simpa using top_nil
  · by_cases hm0 : m = 0
    · subst hm0; simpa using top_nil
    · unfold Top
      rw [List.getLast?_eq_getElem?, List.length_take, Nat.min_eq_left hm, List.getElem?_take]
      have : m - 1 < m := by omega
      rw [if_pos this, List.getElem?_eq_getElem (by omega)]
      rw [D, List.getD_eq_getElem?_getD, List.getElem?_eq_getElem (by omega)] at ht
      intro e
      exact ht (by simpa using e)
 rw [← hv, digs_val (h.take m) htop]
theorem take_digs_length {l : List Nat} (h : Dig l) {m : Nat} (hm : m ≤ l.length) (h0 : hi l m = 0) (ht : m = 0 ∨ D l (m - 1) ≠ 0) : m = (digs (val l)).length := by
 rw [← take_digs h hm h0 ht, List.length_take, Nat.min_eq_left hm]
theorem add_step {a b o : List Nat} {i c x y : Nat} (h : lo o i + 18446744073709551616 ^ i * c = lo a i + lo b i) (hi : i < o.length)
 (hx : x + 18446744073709551616 * y = D a i + D b i + c) :
 lo (o.set i x) (i + 1) + 18446744073709551616 ^ (i + 1) * y = lo a (i + 1) + lo b (i + 1) := by
 rw [lo_step, lo_set (Nat.le_refl _), D_set_same hi, lo_step a, lo_step b, Nat.pow_succ, Nat.mul_assoc, Nat.add_assoc, ← Nat.mul_add, hx, Nat.mul_add, Nat.mul_add]
 omega
theorem add_end' {p vo va vb c : Nat} (hp : 0 < p) (h1 : va < p) (h2 : vb < p) (h : vo + 18446744073709551616 * p * c = va + vb) : vo = va + vb := by
 rcases Nat.eq_zero_or_pos c with h' | h'
 · subst h'; simpa using h
 · have h3 : 18446744073709551616 * p ≤ 18446744073709551616 * p * c := Nat.le_mul_of_pos_right _ h'
   omega
theorem add_end {a b o : List Nat} (ha : Dig a) (hb : Dig b) {n c : Nat} (hn : o.length = n + 1) (hla : a.length ≤ n) (hlb : b.length ≤ n)
 (h : lo o (n + 1) + 18446744073709551616 ^ (n + 1) * c = lo a (n + 1) + lo b (n + 1)) : val o = val a + val b := by
 rw [lo_all (by omega), lo_all (by omega), lo_all (by omega)] at h
 have h1 := lo_lt ha n
 have h2 := lo_lt hb n
 rw [lo_all hla] at h1
 rw [lo_all hlb] at h2
 rw [Nat.pow_succ, Nat.mul_comm (18446744073709551616 ^ n) 18446744073709551616] at h
 exact add_end' (pow_pos' n) h1 h2 h
theorem digs_len0 {n : Nat} : (digs n).length = 0 ↔ n = 0 := by rw [List.length_eq_zero_iff, digs_eq_nil]
theorem last_D {l : List Nat} (h : l ≠ []) : l.getLast? = some (D l (l.length - 1)) := by
 have hl : 0 < l.length := List.length_pos_iff.2 h
 rw [List.getLast?_eq_getElem?, D, List.getD_eq_getElem?_getD, List.getElem?_eq_getElem (by omega)]
 rfl
theorem D_digs_last {n : Nat} (h : n ≠ 0) : D (digs n) ((digs n).length - 1) ≠ 0 := by
 have h1 := top_digs n
 unfold Top at h1
 rw [last_D (fun e => h (digs_eq_nil.1 e))] at h1
 exact fun e => h1 (by rw [e])
def cmpI (x y : Nat) : Int := if x < y then -1 else if y < x then 1 else 0
theorem cmpI_lt {x y : Nat} (h : x < y) : cmpI x y = -1 := if_pos h
theorem cmpI_gt {x y : Nat} (h : y < x) : cmpI x y = 1 := by unfold cmpI; rw [if_neg (by omega), if_pos h]
theorem cmpI_eq (x : Nat) : cmpI x x = 0 := by unfold cmpI; rw [if_neg (by omega), if_neg (by omega)]
theorem cmpI_zero {x y : Nat} : cmpI x y = 0 ↔ x = y := by unfold cmpI; split <;> (try split) <;> omega
theorem cmpI_step {x y h h' : Nat} (hx : x < 18446744073709551616) (hy : y < 18446744073709551616) :
 cmpI (x + 18446744073709551616 * h) (y + 18446744073709551616 * h') = if h = h' then cmpI x y else cmpI h h' := by
 unfold cmpI
 split
 · subst_vars; split <;> (try split) <;> (try split) <;> (try split) <;> omega
 · split <;> (try split) <;> (try split) <;> (try split) <;> omega
def lexP : List (Nat × Nat) → Int
 | [] => 0
 | p :: r => if p.1 < p.2 then -1 else if p.2 < p.1 then 1 else lexP r
theorem lexP_append (a b : List (Nat × Nat)) : lexP (a ++ b) = if lexP a = 0 then lexP b else lexP a := by
 induction a with
 | nil => simp [lexP]
 | cons p r ih =>
   have e0 : lexP (p :: r ++ b) = (if p.1 < p.2 then -1 else if p.2 < p.1 then 1 else lexP (r ++ b)) := rfl
   have e1 : lexP (p :: r) = (if p.1 < p.2 then -1 else if p.2 < p.1 then 1 else lexP r) := rfl
   by_cases h1 : p.1 < p.2
   · rw [if_pos h1] at e0 e1
     rw [e0, e1, if_neg (by decide)]
   · rw [if_neg h1] at e0 e1
     by_cases h2 : p.2 < p.1
     · rw [if_pos h2] at e0 e1
       rw [e0, e1, if_neg (by decide)]
     · rw [if_neg h2] at e0 e1
       rw [e0, e1, ih]
theorem lexP_one (p : Nat × Nat) : lexP [p] = cmpI p.1 p.2 := rfl
def upto (l l2 : List Nat) (M k : Nat) : List (Nat × Nat) := (List.range k).map fun j => (D l (M - 1 - j), D l2 (M - 1 - j))
theorem upto_succ (l l2 : List Nat) (M k : Nat) : upto l l2 M (k + 1) = upto l l2 M k ++ [(D l (M - 1 - k), D l2 (M - 1 - k))] := by simp [upto, List.range_succ]
theorem upto_length (l l2 : List Nat) (M k : Nat) : (upto l l2 M k).length = k := by simp [upto]
theorem lexP_upto {l l2 : List Nat} (hd : Dig l) (hd2 : Dig l2) {M : Nat} (h1 : l.length ≤ M) (h2 : l2.length ≤ M) : ∀ k, k ≤ M → lexP (upto l l2 M k) = cmpI (hi l (M - k)) (hi l2 (M - k))
 | 0, _ => by rw [Nat.sub_zero, hi_all h1, hi_all h2]; rfl
 | k + 1, hk => by
   rw [upto_succ, lexP_append, lexP_upto hd hd2 h1 h2 k (by omega), lexP_one]
   rw [hi_step l (M - (k + 1)), hi_step l2 (M - (k + 1)), show M - (k + 1) + 1 = M - k by omega, show M - (k + 1) = M - 1 - k by omega, cmpI_step (hd.at_ _) (hd2.at_ _)]
   by_cases h : hi l (M - k) = hi l2 (M - k)
   · rw [if_pos h, if_pos (cmpI_zero.2 h)]
   · rw [if_neg h, if_neg (fun e => h (cmpI_zero.1 e))]
theorem lexP_all {l l2 : List Nat} (hd : Dig l) (hd2 : Dig l2) {M : Nat} (h1 : l.length ≤ M) (h2 : l2.length ≤ M) : lexP (upto l l2 M M) = cmpI (val l) (val l2) := by
 rw [lexP_upto hd hd2 h1 h2 M (Nat.le_refl _), Nat.sub_self, hi_zero, hi_zero]
theorem upto_split (l l2 : List Nat) (M k : Nat) : ∀ d, ∃ r, upto l l2 M (k + d) = upto l l2 M k ++ r
 | 0 => ⟨[], by simp⟩
 | d + 1 => by
   obtain ⟨r, hr⟩ := upto_split l l2 M k d
   exact ⟨r ++ [(D l (M - 1 - (k + d)), D l2 (M - 1 - (k + d)))], by rw [← Nat.add_assoc, upto_succ, hr, List.append_assoc]⟩
theorem lexP_part {l l2 : List Nat} (hd : Dig l) (hd2 : Dig l2) {M k : Nat} (h1 : l.length ≤ M) (h2 : l2.length ≤ M) (hk : k ≤ M) (h : lexP (upto l l2 M k) ≠ 0) : lexP (upto l l2 M k) = cmpI (val l) (val l2) := by
 obtain ⟨r, hr⟩ := upto_split l l2 M k (M - k)
 rw [show k + (M - k) = M by omega] at hr
 rw [← lexP_all hd hd2 h1 h2, hr, lexP_append, if_neg h]
end Go.Proofs.Ytoecndogaklngaa
set_option linter.unusedVariables false
set_option linter.unusedSimpArgs false
namespace Go.Proofs.Ytoecndogaklngaa
open Go.RowKit
structure NatAt (w : World) (a : Option Addr) (n c : Nat) (l : List Nat) : Prop where
 len : l.length = n
 le : n ≤ c
 cle : c ≤ 9223372036854775807
 dig : Dig l
 cell : n = 0 ∨ ∃ b o, a = some ⟨b, o, none⟩ ∧ ∀ i, i < n → w.cell? ⟨b, o + i, none⟩ = some (.int .u64 ((D l i : Nat) : Int))
 nilc : a = none → c = 0
structure OwnAt (w : World) (B : Nat) (a : Option Addr) (n c : Nat) (l : List Nat) : Prop extends NatAt w a n c l where
 own : n = 0 ∨ ∃ b o, a = some ⟨b, o, none⟩ ∧ B ≤ b ∧ ∀ i, i < n → w.frozen? ⟨b, o + i, none⟩ = false
theorem NatAt.nil (w : World) : NatAt w none 0 0 [] := ⟨rfl, Nat.le_refl _, by decide, dig_nil, .inl rfl, fun _ => rfl⟩
theorem OwnAt.nil (w : World) (B : Nat) : OwnAt w B none 0 0 [] := ⟨NatAt.nil w, .inl rfl⟩
theorem NatAt.parts {w : World} {a : Option Addr} {n c : Nat} {l : List Nat} (h : NatAt w a n c l) :
 n = 0 ∨ ∃ b o, a = some ⟨b, o, none⟩ ∧ b < w.heap.size ∧ ∀ i, i < n → w.cell? ⟨b, o + i, none⟩ = some (.int .u64 ((D l i : Nat) : Int)) := by
 rcases h.cell with h0 | ⟨b, o, ha, hc⟩
 · exact .inl h0
 · by_cases hn : n = 0
   · exact .inl hn
   · exact .inr ⟨b, o, ha, World.block_lt_of_cell? w ⟨b, o + 0, none⟩ (hc 0 (by omega)), hc⟩
theorem NatAt.below {w w' : World} {B : Nat} {a : Option Addr} {n c : Nat} {l : List Nat} (h : NatAt w a n c l) (hb : Below B w w') (ha : n = 0 ∨ ∀ x, a = some x → x.block < B) : NatAt w' a n c l := by
 refine ⟨h.len, h.le, h.cle, h.dig, ?_, h.nilc⟩
 rcases h.cell with h0 | ⟨b, o, he, hc⟩
 · exact .inl h0
 · rcases ha with ha | ha
   · exact .inl ha
   · refine .inr ⟨b, o, he, fun i hi => ?_⟩
     rw [hb.cell (p := ⟨b, o + i, none⟩) (show b < B from ha _ he)]
     exact hc i hi
theorem NatAt.later {w w' : World} {B : Nat} {a : Option Addr} {n c : Nat} {l : List Nat} (h : NatAt w a n c l) (hb : Below B w w') (hB : w.heap.size ≤ B) : NatAt w' a n c l := by
 rcases h.parts with h0 | ⟨b, o, he, hlt, _⟩
 · exact h.below hb (.inl h0)
 · exact h.below hb (.inr fun x hx => by rw [he] at hx; cases hx; show b < B; omega)
theorem OwnAt.later {w w' : World} {B B' : Nat} {a : Option Addr} {n c : Nat} {l : List Nat} (h : OwnAt w B a n c l) (hb : Below B' w w') (hB : w.heap.size ≤ B') : OwnAt w' B a n c l := by
 refine ⟨h.toNatAt.later hb hB, ?_⟩
 rcases h.own with h0 | ⟨b, o, he, hle, hf⟩
 · exact .inl h0
 · rcases h.toNatAt.parts with h0 | ⟨b', o', he', hlt, _⟩
   · exact .inl h0
   · rw [he] at he'
     cases he'
     refine .inr ⟨b, o, he, hle, fun i hi => ?_⟩
     rw [hb.frozen (p := ⟨b, o + i, none⟩) (show b < B' by omega)]
     exact hf i hi
theorem OwnAt.mono {w : World} {B B' : Nat} {a : Option Addr} {n c : Nat} {l : List Nat} (h : OwnAt w B a n c l) (hB : B' ≤ B) : OwnAt w B' a n c l := by
 refine ⟨h.toNatAt, ?_⟩
 rcases h.own with h0 | ⟨b, o, he, hle, hf⟩
 · exact .inl h0
 · exact .inr ⟨b, o, he, by omega, hf⟩
theorem NatAt.drew {w : World} {a : Option Addr} {n c : Nat} {l : List Nat} (h : NatAt w a n c l) : NatAt w.drew a n c l := h.later (B := w.heap.size) (Below.refl _ _).drew (Nat.le_refl _)
theorem NatAt.alloc {w : World} {a : Option Addr} {n c : Nat} {l : List Nat} (h : NatAt w a n c l) (o : Obj) : NatAt (w.alloc o) a n c l := h.later (B := w.heap.size) ((Below.refl _ _).alloc (Nat.le_refl _) o) (Nat.le_refl _)
theorem Below.draws {B : Nat} {a w : World} (h : Below B a w) (n : Nat) : Below B a (w.drewN n) := h.trans ⟨rfl, rfl, rfl, Nat.le_refl _, fun _ _ => rfl⟩
theorem NatAt.draws {w : World} {a : Option Addr} {n c : Nat} {l : List Nat} (h : NatAt w a n c l) (k : Nat) : NatAt (w.drewN k) a n c l := h.later (B := w.heap.size) (Below.draws (Below.refl _ _) k) (Nat.le_refl _)
theorem D_take {l : List Nat} {m i : Nat} (h : i < m) : D (l.take m) i = D l i := by
 simp [D, List.getD_eq_getElem?_getD, h]
theorem NatAt.take {w : World} {a : Option Addr} {n c m : Nat} {l : List Nat} (h : NatAt w a n c l) (hm : m ≤ n) : NatAt w a m c (l.take m) := by
 refine ⟨by have := h.len; rw [List.length_take]; omega, by have := h.le; omega, h.cle, h.dig.take m, ?_, h.nilc⟩
 by_cases h0 : m = 0
 · exact .inl h0
 · rcases h.cell with hn | ⟨b, o, he, hc⟩
   · omega
   · exact .inr ⟨b, o, he, fun i hi => by rw [D_take hi]; exact hc i (by omega)⟩
theorem OwnAt.take {w : World} {B : Nat} {a : Option Addr} {n c m : Nat} {l : List Nat} (h : OwnAt w B a n c l) (hm : m ≤ n) : OwnAt w B a m c (l.take m) := by
 refine ⟨h.toNatAt.take hm, ?_⟩
 rcases h.own with h0 | ⟨b, o, he, hle, hf⟩
 · exact .inl (by omega)
 · exact .inr ⟨b, o, he, hle, fun i hi => hf i (by omega)⟩
theorem NatAt.recap {w : World} {a : Option Addr} {n c c' : Nat} {l : List Nat} (h : NatAt w a n c l) (h1 : n ≤ c') (h2 : c' ≤ c) : NatAt w a n c' l :=
 ⟨h.len, h1, Nat.le_trans h2 h.cle, h.dig, h.cell, fun e => by have := h.nilc e; omega⟩
theorem OwnAt.recap {w : World} {B : Nat} {a : Option Addr} {n c c' : Nat} {l : List Nat} (h : OwnAt w B a n c l) (h1 : n ≤ c') (h2 : c' ≤ c) : OwnAt w B a n c' l := ⟨h.toNatAt.recap h1 h2, h.own⟩
def RetNat (w : World) (N : Nat) (e : Ending) (w' : World) : Prop :=
 ∃ a n c, e = .returned (.slice a n c) ∧ OwnAt w' w.heap.size a n c (digs N) ∧ Below w.heap.size w w'
def RetVal (w : World) (v : Value) (e : Ending) (w' : World) : Prop := e = .returned v ∧ Below w.heap.size w w'
theorem below_later {w w1 w2 : World} (h1 : Below w.heap.size w w1) (h2 : Below w1.heap.size w1 w2) : Below w.heap.size w w2 := h1.trans (h2.mono h1.size)
theorem OwnAt.set {w : World} {B : Nat} {b o n c : Nat} {l : List Nat} (h : OwnAt w B (some ⟨b, o, none⟩) n c l) {k d : Nat} (hk : k < n) (hd : d < 18446744073709551616) :
 OwnAt (w.setCell ⟨b, o + k, none⟩ (.int .u64 ((d : Nat) : Int))) B (some ⟨b, o, none⟩) n c (l.set k d) := by
 rcases h.cell with h0 | ⟨b', o', he, hc⟩
 · omega
 cases he
 rcases h.own with h0 | ⟨b', o', he, hle, hf⟩
 · omega
 cases he
 refine ⟨⟨by simpa using h.len, h.le, h.cle, h.dig.set k d hd, .inr ⟨b, o, rfl, fun i hi => ?_⟩, h.nilc⟩, .inr ⟨b, o, rfl, hle, fun i hi => by rw [World.frozen?_setCell]; exact hf i hi⟩⟩
 by_cases hik : i = k
 · subst hik
   rw [D_set_same (by rw [h.len]; exact hk)]
   exact World.cell?_setCell_same _ _ _ (hc i hi)
 · rw [D_set_other (fun e => hik e.symm), World.cell?_setCell_other _ (a := ⟨b, o + k, none⟩) (b := ⟨b, o + i, none⟩) _ (fun e => hik (by have := congrArg Addr.off e; simp at this; omega))]
   exact hc i hi
def dv (l : List Nat) : List Value := l.map fun d => Value.int .u64 ((d : Nat) : Int)
theorem dv_length (l : List Nat) : (dv l).length = l.length := by simp [dv]
theorem dv_at {l : List Nat} {i : Nat} (h : i < l.length) : (dv l)[i]? = some (.int .u64 ((D l i : Nat) : Int)) := by
 simp [dv, D, List.getD_eq_getElem?_getD, h]
theorem dv_one (l : List Nat) : ∀ u ∈ dv l, u.oneCell' = true := by
 intro u hu
 obtain ⟨d, _, rfl⟩ := List.mem_map.1 hu
 rfl
theorem OwnAt.ofRow {w : World} {B E : Nat} {v : Value} {n : Nat} {l : List Nat} (h : w.ownsRow B E 1 v n (dv l)) (hd : Dig l) : ∃ a c, v = .slice a n c ∧ OwnAt w B a n c l := by
 have hlen : l.length = n := by have := h.1; rw [dv_length] at this; omega
 rcases h.2 with ⟨rfl, hn⟩ | ⟨g, cap, cur, rfl, hb, hg, hnc, hcm, hcs, htake⟩
 · subst hn
   have : l = [] := List.eq_nil_of_length_eq_zero hlen
   subst this
   exact ⟨none, 0, rfl, OwnAt.nil w B⟩
 · have hm : cap ≤ 9223372036854775807 := hcm
   refine ⟨_, _, rfl, ⟨hlen, hnc, hm, hd, .inr ⟨g, 0, rfl, fun i hi => ?_⟩, fun e => by cases e⟩, .inr ⟨g, 0, rfl, hb, fun i hi => ?_⟩⟩
   · have := World.ownsRow.cellAt h i (by omega)
     rw [Nat.zero_add, this]
     exact dv_at (by omega)
   · rw [Nat.zero_add]
     exact World.ownsRow.frozenAt h i
theorem addr_add (b o i : Nat) : ((⟨b, o, none⟩ : Addr).add i) = ⟨b, o + i, none⟩ := by
 unfold Addr.add; split <;> simp_all
theorem wpList_append_nat {P : Program} {w : World} {ops : Array Oper} {rest : List Oper} {o : Oper} {a : Act} {Q : Exit → Act → World → Prop} (hgd : o.guard = none) (s x : Operand) (T : TypeId)
 (ho : o.op = .call { callee := .builtin .append, args := #[s, x], argTypes := #[T, T] })
 (base E : Nat) (i : TypeInfo) (ht : P.underlying T = some (.slice E)) (hi : P.info? E = some i) (hz : i.zero = some (.int .u64 0)) (hsize : i.size = 1) (hby : i.bytes = 8)
 (v : Value) (n : Nat) (xs : List Value) (hs : a.eval s = v) (hown : w.ownsRow base E 1 v n xs)
 (xa : Option Addr) (m xc : Nat) (l : List Nat) (hx : a.eval x = .slice xa m xc) (hn : NatAt w xa m xc l) (hsz : n + m ≤ 1099511627776) (hbase : base ≤ w.heap.size)
 (h : ∀ a' c' w', w'.ownsRow base E 1 (.slice a' (n + m) c') (n + m) (xs ++ dv l) → w.grownBy w' v.ownBlock → wpList P ops Q rest (a.put o.dst (.slice a' (n + m) c')) w') :
 wpList P ops Q (o :: rest) a w := by
 cases xa with
 | none =>
   have hc := hn.nilc rfl
   have hm : m = 0 := by have := hn.le; omega
   subst hc
   subst hm
   have hl : l = [] := List.eq_nil_of_length_eq_zero hn.len
   subst hl
   refine wpList_append_own_none hgd s x T ho base E i 1 ht hi v n xs hs hown hx ?_
   have hshape : ∃ a' c', v = .slice a' n c' := by
    rcases hown.2 with ⟨rfl, hn0⟩ | ⟨g, cap, cur, rfl, _⟩
    · subst hn0; exact ⟨_, _, rfl⟩
    · exact ⟨_, _, rfl⟩
   obtain ⟨a', c', rfl⟩ := hshape
   exact h a' c' w (by simpa [dv] using hown) ⟨rfl, rfl, rfl, Nat.le_refl _, fun _ _ _ => rfl⟩
 | some ad =>
   have hnews : ∀ j u, (dv l)[j]? = some u → w.cell? (ad.add j) = some u := by
    intro j u hu
    have hj : j < l.length := by
     have := (List.getElem?_eq_some_iff.1 hu).1
     rwa [dv_length] at this
    rw [dv_at hj] at hu
    cases hu
    rcases hn.cell with h0 | ⟨b, o, he, hc⟩
    · have := hn.len; omega
    · cases he
      rw [addr_add]
      exact hc j (by have := hn.len; omega)
   refine wpList_append_own (w := w) hgd s x T ho base E i (.int .u64 0) 1 8 ht hi hz hsize hby rfl (by decide) v n xs hs hown ad m xc (dv l) hx (by rw [dv_length, hn.len]; omega) hnews (dv_one l)
    (by simp only [maxLen]; omega) (by omega) hbase ?_
   intro v' w' h1 h2 _
   have hshape : ∃ a' c', v' = .slice a' (n + m) c' := by
    rcases h1.2 with ⟨rfl, hn0⟩ | ⟨g, cap, cur, rfl, _⟩
    · rw [hn0]; exact ⟨_, _, rfl⟩
    · exact ⟨_, _, rfl⟩
   obtain ⟨a', c', rfl⟩ := hshape
   exact h a' c' w' h1 h2
theorem below_setCells (B b : Nat) (hB : B ≤ b) : ∀ (vs : List Value) (o : Nat) (w : World), Below B w (w.setCells b o vs)
 | [], _, w => Below.refl B w
 | v :: r, o, w => ((Below.refl B w).setCell (p := ⟨b, o, none⟩) hB v).trans (below_setCells B b hB r (o + 1) _)
theorem size_setCells (b : Nat) : ∀ (vs : List Value) (o : Nat) (w : World), (w.setCells b o vs).heap.size = w.heap.size
 | [], _, w => rfl
 | v :: r, o, w => by rw [World.setCells, size_setCells b r, World.size_setCell]
theorem OwnAt.setAll {w : World} {B : Nat} {b o n c : Nat} {l l' : List Nat} (h : OwnAt w B (some ⟨b, o, none⟩) n c l) (hl : l'.length = n) (hd : Dig l') :
 OwnAt (w.setCells b o (dv l')) B (some ⟨b, o, none⟩) n c l' := by
 by_cases hn : n = 0
 · subst hn
   have : l' = [] := List.eq_nil_of_length_eq_zero hl
   subst this
   have h2 : l = [] := List.eq_nil_of_length_eq_zero h.len
   subst h2
   exact h
 rcases h.cell with h0 | ⟨b', o', he, hc⟩
 · omega
 cases he
 rcases h.own with h0 | ⟨b', o', he, hle, hf⟩
 · omega
 cases he
 refine ⟨⟨hl, h.le, h.cle, hd, .inr ⟨b, o, rfl, fun i hi => ?_⟩, h.nilc⟩, .inr ⟨b, o, rfl, hle, fun i hi => by rw [World.frozen?_setCells]; exact hf i hi⟩⟩
 rw [World.cell?_setCells_in b (dv l') o w (fun j hj => by rw [dv_length, hl] at hj; rw [hc j hj]; rfl) i (by rw [dv_length]; omega)]
 have := dv_at (l := l') (i := i) (by omega)
 rw [List.getElem?_eq_getElem (by rw [dv_length]; omega)] at this
 exact this
theorem dv_replicate (n : Nat) : dv (List.replicate n 0) = List.replicate n (.int .u64 0) := by simp [dv]
theorem lit1 {E : Nat} (w : World) (v : Int) (x : Nat) (hv : v = x) (hx : x < 18446744073709551616) : OwnAt (w.alloc (.cells #[.int .u64 v] E)) w.heap.size (some ⟨w.heap.size, 0, none⟩) 1 1 [x] := by
 subst hv
 refine ⟨⟨rfl, Nat.le_refl _, by decide, dig_cons.2 ⟨hx, dig_nil⟩, .inr ⟨_, _, rfl, fun i hi => ?_⟩, fun e => by cases e⟩, .inr ⟨_, _, rfl, Nat.le_refl _, fun i hi => ?_⟩⟩
 · obtain rfl : i = 0 := by omega
   rw [World.cell?_alloc_at _ _ _ _ rfl]; rfl
 · exact World.frozen?_alloc_at _ _ _ _ rfl
theorem lit2 {E : Nat} (w : World) (v u : Int) (x y : Nat) (hv : v = x) (hx : x < 18446744073709551616) (hu : u = y) (hy : y < 18446744073709551616) : OwnAt (w.alloc (.cells #[.int .u64 v, .int .u64 u] E)) w.heap.size (some ⟨w.heap.size, 0, none⟩) 2 2 [x, y] := by
 subst hv
 subst hu
 refine ⟨⟨rfl, Nat.le_refl _, by decide, dig_cons.2 ⟨hx, dig_cons.2 ⟨hy, dig_nil⟩⟩, .inr ⟨_, _, rfl, fun i hi => ?_⟩, fun e => by cases e⟩, .inr ⟨_, _, rfl, Nat.le_refl _, fun i hi => ?_⟩⟩
 · rcases (by omega : i = 0 ∨ i = 1) with rfl | rfl <;> (rw [World.cell?_alloc_at _ _ _ _ rfl]; rfl)
 · exact World.frozen?_alloc_at _ _ _ _ rfl
theorem digs_take {l : List Nat} (h : Dig l) : l.take (digs (val l)).length = digs (val l) := by
 have hle := digs_length_val h
 have h1 := val_lt (dig_digs (val l))
 rw [val_digs] at h1
 have h2 := lo_hi l (digs (val l)).length
 have h3 : hi l (digs (val l)).length = 0 := by
  rcases Nat.eq_zero_or_pos (hi l (digs (val l)).length) with h0 | h0
  · exact h0
  · have := Nat.le_mul_of_pos_right (18446744073709551616 ^ (digs (val l)).length) h0
    omega
 by_cases hv : val l = 0
 · rw [hv]; rfl
 · refine take_digs h hle h3 (.inr ?_)
   have h4 := D_digs_last hv
   intro e
   have h5 := lo_step l ((digs (val l)).length - 1)
   have hpos : 0 < (digs (val l)).length := by
    rcases Nat.eq_zero_or_pos (digs (val l)).length with h6 | h6
    · exact absurd (digs_len0.1 h6) hv
    · exact h6
   rw [show (digs (val l)).length - 1 + 1 = (digs (val l)).length by omega, e, Nat.mul_zero, Nat.add_zero] at h5
   rw [h3, Nat.mul_zero, Nat.add_zero, h5] at h2
   have h7 := lo_lt h ((digs (val l)).length - 1)
   rw [← h2] at h7
   have h8 := digs_length_le.2 h7
   omega
theorem NatAt.digs {w : World} {a : Option Addr} {n c : Nat} {l : List Nat} (h : NatAt w a n c l) : NatAt w a (digs (val l)).length c (Go.Proofs.Ytoecndogaklngaa.digs (val l)) := by
 have h1 := h.take (m := (Go.Proofs.Ytoecndogaklngaa.digs (val l)).length) (by have := digs_length_val h.dig; rw [h.len] at this; exact this)
 rwa [digs_take h.dig] at h1
theorem OwnAt.digs {w : World} {B : Nat} {a : Option Addr} {n c : Nat} {l : List Nat} (h : OwnAt w B a n c l) : OwnAt w B a (digs (val l)).length c (Go.Proofs.Ytoecndogaklngaa.digs (val l)) := by
 have h1 := h.take (m := (Go.Proofs.Ytoecndogaklngaa.digs (val l)).length) (by have := digs_length_val h.dig; rw [h.len] at this; exact this)
 rwa [digs_take h.dig] at h1
theorem NatAt.short {w : World} {a : Option Addr} {n c : Nat} {l : List Nat} (h : NatAt w a n c l) : (Go.Proofs.Ytoecndogaklngaa.digs (val l)).length ≤ n := by
 have := digs_length_val h.dig; rw [h.len] at this; exact this
theorem ret_len {a : Option Addr} {n m c : Nat} (h : n = m) : Ending.returned (.slice a n c) = .returned (.slice a m c) := by rw [h]
theorem ret_int {k : IntKind} {a b : Int} (h : a = b) : Ending.returned (.int k a) = .returned (.int k b) := by rw [h]
theorem ret_bool {a b : Bool} (h : a = b) : Ending.returned (.bool a) = .returned (.bool b) := by rw [h]
theorem NatAt.past {w w' : World} {a : Option Addr} {n c : Nat} {l : List Nat} (h : NatAt w a n c l) (hb : Below w.heap.size w w') : NatAt w' a n c l := h.later hb (Nat.le_refl _)
theorem below_alloc {w w1 : World} (hb : Below w.heap.size w w1) (o : Obj) : Below w.heap.size w (w1.alloc o) := hb.alloc hb.size o
end Go.Proofs.Ytoecndogaklngaa
