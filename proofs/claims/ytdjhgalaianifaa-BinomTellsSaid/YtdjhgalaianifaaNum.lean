/- Natural numbers as lists of digits of base 2^64, the lowest first: what a list comes to, its own list, and how lists compare. Plain Lean: no program. -/
set_option linter.unusedVariables false
namespace Go.Proofs.Ytdjhgalaianifaa

/-- what a list of digits comes to -/
def val : List Nat → Nat
  | [] => 0
  | x :: r => x + 18446744073709551616 * val r

/-- all digits are digits -/
def Dig (l : List Nat) : Prop := ∀ x ∈ l, x < 18446744073709551616

/-- the digit of a place; nought behind all -/
def D (l : List Nat) (i : Nat) : Nat := l.getD i 0

def digsF : Nat → Nat → List Nat
  | 0, _ => []
  | f + 1, n => if n = 0 then [] else (n % 18446744073709551616) :: digsF f (n / 18446744073709551616)
/-- the list of a number -/
def digs (n : Nat) : List Nat := digsF n n

/-- no highest digit is nought -/
def Top (l : List Nat) : Prop := l.getLast? ≠ some 0

theorem val_nil : val [] = 0 := rfl
theorem val_cons (x : Nat) (r : List Nat) : val (x :: r) = x + 18446744073709551616 * val r := rfl

theorem digsF_enough : ∀ (f g n : Nat), n ≤ f → n ≤ g → digsF f n = digsF g n
  | 0, g, n, h, _ => by
    have : n = 0 := by omega
    subst this
    cases g <;> simp [digsF]
  | f + 1, 0, n, _, h => by
    have : n = 0 := by omega
    subst this
    simp [digsF]
  | f + 1, g + 1, n, h1, h2 => by
    unfold digsF
    by_cases hn : n = 0
    · simp [hn]
    · rw [if_neg hn, if_neg hn, digsF_enough f g _ (by omega) (by omega)]

theorem digs_zero : digs 0 = [] := rfl
theorem digs_pos {n : Nat} (h : n ≠ 0) : digs n = (n % 18446744073709551616) :: digs (n / 18446744073709551616) := by
  unfold digs
  obtain ⟨m, rfl⟩ : ∃ m, n = m + 1 := ⟨n - 1, by omega⟩
  rw [digsF, if_neg h, digsF_enough m ((m + 1) / 18446744073709551616) _ (by omega) (by omega)]

theorem val_digs (n : Nat) : val (digs n) = n := by
  induction n using Nat.strongRecOn with
  | _ n ih =>
    by_cases h : n = 0
    · subst h; rfl
    · rw [digs_pos h, val_cons, ih _ (by omega)]
      omega

theorem dig_digs (n : Nat) : Dig (digs n) := by
  induction n using Nat.strongRecOn with
  | _ n ih =>
    by_cases h : n = 0
    · subst h; intro x hx; simp [digs_zero] at hx
    · rw [digs_pos h]
      intro x hx
      rcases List.mem_cons.1 hx with rfl | hx
      · omega
      · exact ih _ (by omega) x hx

theorem digs_eq_nil {n : Nat} : digs n = [] ↔ n = 0 := by
  constructor
  · intro h
    have := val_digs n
    rw [h] at this
    exact this.symm
  · rintro rfl; rfl

theorem top_nil : Top [] := by simp [Top]
theorem top_cons {x : Nat} {r : List Nat} (h : r ≠ []) : Top (x :: r) ↔ Top r := by
  unfold Top
  rw [List.getLast?_cons]
  obtain ⟨y, s, rfl⟩ := List.exists_cons_of_ne_nil h
  simp [List.getLast?_cons]
theorem top_one {x : Nat} : Top [x] ↔ x ≠ 0 := by simp [Top]

theorem top_digs (n : Nat) : Top (digs n) := by
  induction n using Nat.strongRecOn with
  | _ n ih =>
    by_cases h : n = 0
    · subst h; exact top_nil
    · rw [digs_pos h]
      by_cases h' : n / 18446744073709551616 = 0
      · rw [h', digs_zero, top_one]; omega
      · rw [top_cons (fun e => h' (digs_eq_nil.1 e))]
        exact ih _ (by omega)

theorem dig_cons {x : Nat} {r : List Nat} : Dig (x :: r) ↔ x < 18446744073709551616 ∧ Dig r := by
  unfold Dig; simp
theorem dig_nil : Dig [] := by intro x hx; cases hx
theorem dig_append {l m : List Nat} : Dig (l ++ m) ↔ Dig l ∧ Dig m := by
  unfold Dig
  constructor
  · intro h; exact ⟨fun x hx => h x (List.mem_append_left _ hx), fun x hx => h x (List.mem_append_right _ hx)⟩
  · rintro ⟨h1, h2⟩ x hx
    rcases List.mem_append.1 hx with hx | hx
    · exact h1 x hx
    · exact h2 x hx
theorem Dig.take {l : List Nat} (h : Dig l) (n : Nat) : Dig (l.take n) := fun x hx => h x (List.mem_of_mem_take hx)
theorem Dig.drop {l : List Nat} (h : Dig l) (n : Nat) : Dig (l.drop n) := fun x hx => h x (List.mem_of_mem_drop hx)
theorem Dig.at_ {l : List Nat} (h : Dig l) (i : Nat) : D l i < 18446744073709551616 := by
  by_cases hi : i < l.length
  · rw [D, List.getD_eq_getElem?_getD, List.getElem?_eq_getElem hi]; exact h _ (List.getElem_mem hi)
  · rw [D, List.getD_eq_getElem?_getD, List.getElem?_eq_none (by omega)]; decide
theorem Dig.set {l : List Nat} (h : Dig l) (i x : Nat) (hx : x < 18446744073709551616) : Dig (l.set i x) := by
  intro y hy
  rcases List.mem_or_eq_of_mem_set hy with hy | rfl
  · exact h y hy
  · exact hx
theorem dig_replicate (n : Nat) : Dig (List.replicate n 0) := by
  intro x hx
  rw [List.eq_of_mem_replicate hx]; decide

/-- a list with no highest nought is the list of what it comes to -/
theorem digs_val : ∀ {l : List Nat}, Dig l → Top l → digs (val l) = l
  | [], _, _ => rfl
  | x :: r, hd, ht => by
    obtain ⟨hx, hr⟩ := dig_cons.1 hd
    by_cases hrn : r = []
    · subst hrn
      have hx0 : x ≠ 0 := top_one.1 ht
      have : val [x] = x := by simp [val]
      rw [this, digs_pos hx0]
      rw [Nat.mod_eq_of_lt hx, Nat.div_eq_of_lt hx, digs_zero]
    · have hr' := digs_val hr ((top_cons hrn).1 ht)
      have hv : val r ≠ 0 := fun e => hrn (by rw [← hr', e, digs_zero])
      have hne : val (x :: r) ≠ 0 := by rw [val_cons]; omega
      rw [digs_pos hne, val_cons, show (x + 18446744073709551616 * val r) % 18446744073709551616 = x by omega, show (x + 18446744073709551616 * val r) / 18446744073709551616 = val r by omega, hr']

theorem val_append (l m : List Nat) : val (l ++ m) = val l + 18446744073709551616 ^ l.length * val m := by
  induction l with
  | nil => simp [val]
  | cons x r ih =>
    simp only [List.cons_append, val_cons, ih, List.length_cons, Nat.pow_succ, Nat.mul_add]
    rw [← Nat.mul_assoc, Nat.mul_comm (18446744073709551616 ^ r.length) 18446744073709551616]
    omega

theorem val_lt {l : List Nat} (h : Dig l) : val l < 18446744073709551616 ^ l.length := by
  induction l with
  | nil => simp [val]
  | cons x r ih =>
    obtain ⟨hx, hr⟩ := dig_cons.1 h
    have := ih hr
    rw [val_cons, List.length_cons, Nat.pow_succ]
    have h2 : val r + 1 ≤ 18446744073709551616 ^ r.length := this
    have h3 := Nat.mul_le_mul_left 18446744073709551616 h2
    rw [Nat.mul_comm (18446744073709551616 ^ r.length)]
    omega

theorem val_replicate (n : Nat) : val (List.replicate n 0) = 0 := by
  induction n with
  | zero => rfl
  | succ n ih => rw [List.replicate_succ, val_cons, ih]

/-- what the digits below a place come to -/
def lo (l : List Nat) (i : Nat) : Nat := val (l.take i)
/-- what the digits from a place on come to -/
def hi (l : List Nat) (i : Nat) : Nat := val (l.drop i)

theorem lo_zero (l : List Nat) : lo l 0 = 0 := by simp [lo, val]
theorem hi_zero (l : List Nat) : hi l 0 = val l := by simp [hi]
theorem lo_all {l : List Nat} {i : Nat} (h : l.length ≤ i) : lo l i = val l := by simp [lo, List.take_of_length_le h]
theorem hi_all {l : List Nat} {i : Nat} (h : l.length ≤ i) : hi l i = 0 := by simp [hi, List.drop_of_length_le h, val]
theorem D_out {l : List Nat} {i : Nat} (h : l.length ≤ i) : D l i = 0 := by simp [D, List.getD_eq_getElem?_getD, List.getElem?_eq_none h]

theorem hi_step (l : List Nat) (i : Nat) : hi l i = D l i + 18446744073709551616 * hi l (i + 1) := by
  by_cases h : i < l.length
  · unfold hi
    rw [List.drop_eq_getElem_cons h, val_cons]
    simp [D, List.getD_eq_getElem?_getD, List.getElem?_eq_getElem h]
  · rw [hi_all (by omega), hi_all (by omega), D_out (by omega)]

theorem lo_step (l : List Nat) (i : Nat) : lo l (i + 1) = lo l i + 18446744073709551616 ^ i * D l i := by
  by_cases h : i < l.length
  · unfold lo
    rw [List.take_succ_eq_append_getElem h, val_append]
    simp [D, List.getD_eq_getElem?_getD, List.getElem?_eq_getElem h, Nat.min_eq_left (Nat.le_of_lt h), val]
  · rw [lo_all (by omega), lo_all (by omega), D_out (by omega)]; omega

theorem lo_hi (l : List Nat) (i : Nat) : val l = lo l i + 18446744073709551616 ^ i * hi l i := by
  induction i with
  | zero => simp [lo_zero, hi_zero]
  | succ i ih =>
    rw [ih, lo_step, hi_step l i, Nat.mul_add, Nat.pow_succ, Nat.mul_assoc]
    omega

theorem lo_lt {l : List Nat} (h : Dig l) (i : Nat) : lo l i < 18446744073709551616 ^ i := by
  induction i with
  | zero => simp [lo_zero]
  | succ i ih =>
    rw [lo_step, Nat.pow_succ, Nat.mul_comm (18446744073709551616 ^ i) 18446744073709551616]
    have h1 : D l i + 1 ≤ 18446744073709551616 := h.at_ i
    have h2 := Nat.mul_le_mul_left (18446744073709551616 ^ i) h1
    rw [Nat.mul_add, Nat.mul_one, Nat.mul_comm _ 18446744073709551616] at h2
    omega

theorem lo_set {l : List Nat} {i j x : Nat} (h : i ≤ j) : lo (l.set j x) i = lo l i := by
  simp [lo, List.take_set_of_le h]
theorem hi_set {l : List Nat} {i j x : Nat} (h : j < i) : hi (l.set j x) i = hi l i := by
  simp [hi, List.drop_set_of_lt h]
theorem D_set_same {l : List Nat} {i x : Nat} (h : i < l.length) : D (l.set i x) i = x := by
  simp [D, List.getD_eq_getElem?_getD, h]
theorem D_set_other {l : List Nat} {i j x : Nat} (h : i ≠ j) : D (l.set i x) j = D l j := by
  simp [D, List.getD_eq_getElem?_getD, h]

theorem pow_pos' (i : Nat) : 0 < 18446744073709551616 ^ i := Nat.pow_pos (by decide)

/-- less at a place above which all is the same: less -/
theorem val_lt_of_hi {a b : List Nat} (ha : Dig a) {i : Nat} (h : hi a i < hi b i) : val a < val b := by
  rw [lo_hi a i, lo_hi b i]
  have h1 := lo_lt ha i
  have h2 := Nat.mul_le_mul_left (18446744073709551616 ^ i) (show hi a i + 1 ≤ hi b i from h)
  rw [Nat.mul_add] at h2
  omega

theorem hi_lt_of_digit {a b : List Nat} {i : Nat} (he : hi a (i + 1) = hi b (i + 1)) (h : D a i < D b i) : hi a i < hi b i := by
  rw [hi_step a i, hi_step b i, he]; omega

/-- Two lists with no highest noughts that come to the same are the same. -/
theorem eq_of_val {a b : List Nat} (ha : Dig a) (hb : Dig b) (ta : Top a) (tb : Top b) (h : val a = val b) : a = b := by
  rw [← digs_val ha ta, ← digs_val hb tb, h]

/-- as many digits as are wanted -/
theorem digs_length_le {n k : Nat} : (digs n).length ≤ k ↔ n < 18446744073709551616 ^ k := by
  induction k generalizing n with
  | zero =>
    rw [Nat.pow_zero, Nat.le_zero, List.length_eq_zero_iff, digs_eq_nil]; omega
  | succ k ih =>
    by_cases h : n = 0
    · subst h; simp [digs_zero, pow_pos']
    · rw [digs_pos h, List.length_cons, Nat.succ_le_succ_iff, ih, Nat.pow_succ, Nat.div_lt_iff_lt_mul (by decide)]

theorem digs_length_val {l : List Nat} (h : Dig l) : (digs (val l)).length ≤ l.length := digs_length_le.2 (val_lt h)

/-- the list without its highest noughts -/
theorem take_digs {l : List Nat} (h : Dig l) {m : Nat} (hm : m ≤ l.length) (h0 : hi l m = 0) (ht : m = 0 ∨ D l (m - 1) ≠ 0) : l.take m = digs (val l) := by
  have hv : val (l.take m) = val l := by
    rw [lo_hi l m, h0]; simp [lo]
  have htop : Top (l.take m) := by
    rcases ht with rfl | ht
    · simpa using top_nil
    · by_cases hm0 : m = 0
      · subst hm0; simpa using top_nil
      · unfold Top
        rw [List.getLast?_eq_getElem?, List.length_take, Nat.min_eq_left hm, List.getElem?_take]
        have : m - 1 < m := by omega
        rw [if_pos this, List.getElem?_eq_getElem (by omega)]
        rw [D, List.getD_eq_getElem?_getD, List.getElem?_eq_getElem (by omega)] at ht
        intro e
        exact ht (by simpa using e)
  rw [← hv, digs_val (h.take m) htop]

theorem take_digs_length {l : List Nat} (h : Dig l) {m : Nat} (hm : m ≤ l.length) (h0 : hi l m = 0) (ht : m = 0 ∨ D l (m - 1) ≠ 0) : m = (digs (val l)).length := by
  rw [← take_digs h hm h0 ht, List.length_take, Nat.min_eq_left hm]

/-- sums, digit by digit -/
theorem add_step {a b o : List Nat} {i c x y : Nat} (h : lo o i + 18446744073709551616 ^ i * c = lo a i + lo b i) (hi : i < o.length)
    (hx : x + 18446744073709551616 * y = D a i + D b i + c) :
    lo (o.set i x) (i + 1) + 18446744073709551616 ^ (i + 1) * y = lo a (i + 1) + lo b (i + 1) := by
  rw [lo_step, lo_set (Nat.le_refl _), D_set_same hi, lo_step a, lo_step b, Nat.pow_succ, Nat.mul_assoc, Nat.add_assoc, ← Nat.mul_add, hx, Nat.mul_add, Nat.mul_add]
  omega

theorem add_end' {p vo va vb c : Nat} (hp : 0 < p) (h1 : va < p) (h2 : vb < p) (h : vo + 18446744073709551616 * p * c = va + vb) : vo = va + vb := by
  rcases Nat.eq_zero_or_pos c with h' | h'
  · subst h'; simpa using h
  · have h3 : 18446744073709551616 * p ≤ 18446744073709551616 * p * c := Nat.le_mul_of_pos_right _ h'
    omega
theorem add_end {a b o : List Nat} (ha : Dig a) (hb : Dig b) {n c : Nat} (hn : o.length = n + 1) (hla : a.length ≤ n) (hlb : b.length ≤ n)
    (h : lo o (n + 1) + 18446744073709551616 ^ (n + 1) * c = lo a (n + 1) + lo b (n + 1)) : val o = val a + val b := by
  rw [lo_all (by omega), lo_all (by omega), lo_all (by omega)] at h
  have h1 := lo_lt ha n
  have h2 := lo_lt hb n
  rw [lo_all hla] at h1
  rw [lo_all hlb] at h2
  rw [Nat.pow_succ, Nat.mul_comm (18446744073709551616 ^ n) 18446744073709551616] at h
  exact add_end' (pow_pos' n) h1 h2 h

/-- differences, digit by digit -/
theorem sub_step {a b o : List Nat} {i c x y : Nat} (h : lo o i + lo b i = lo a i + 18446744073709551616 ^ i * c) (hi : i < o.length)
    (hx : x + D b i + c = D a i + 18446744073709551616 * y) :
    lo (o.set i x) (i + 1) + lo b (i + 1) = lo a (i + 1) + 18446744073709551616 ^ (i + 1) * y := by
  rw [lo_step, lo_set (Nat.le_refl _), D_set_same hi, lo_step a, lo_step b, Nat.pow_succ, Nat.mul_assoc]
  have e : 18446744073709551616 ^ i * (x + D b i + c) = 18446744073709551616 ^ i * (D a i + 18446744073709551616 * y) := by rw [hx]
  simp only [Nat.mul_add] at e
  omega

theorem sub_end {a b o : List Nat} (ha : Dig a) (ho : Dig o) {n c : Nat} (hn : o.length = n) (hla : a.length ≤ n)
    (hba : val b ≤ val a) (h : lo o n + lo b n = lo a n + 18446744073709551616 ^ n * c) : val o = val a - val b := by
  have hb := lo_hi b n
  have h4 := lo_lt ha n
  have h5 := lo_lt ho n
  rw [lo_all hla] at h4 h
  rw [lo_all (l := o) (by omega)] at h5 h
  have hpos : ∀ k, 1 ≤ k → 18446744073709551616 ^ n ≤ 18446744073709551616 ^ n * k := fun k hk => Nat.le_mul_of_pos_right _ hk
  have h0 : hi b n = 0 := by
    rcases Nat.eq_zero_or_pos (hi b n) with h | h
    · exact h
    · have h3 := hpos _ h
      omega
  rw [h0, Nat.mul_zero] at hb
  have hc : c = 0 := by
    rcases Nat.eq_zero_or_pos c with h' | h'
    · exact h'
    · have h3 := hpos _ h'
      omega
  subst hc
  omega

/-- a number as one digit, if it is one -/
def oneN (n : Nat) : Nat := if n < 18446744073709551616 then n else 0
def oneB (n : Nat) : Bool := decide (n < 18446744073709551616)
/-- why a list is no number: 6, or 0 if it is one -/
def chk (l : List Nat) : Int := if l.getLast? = some 0 then 6 else 0

theorem digs_small {n : Nat} (h : n ≠ 0) (h' : n < 18446744073709551616) : digs n = [n] := by
  rw [digs_pos h, Nat.mod_eq_of_lt h', Nat.div_eq_of_lt h', digs_zero]
theorem digs_len0 {n : Nat} : (digs n).length = 0 ↔ n = 0 := by rw [List.length_eq_zero_iff, digs_eq_nil]
theorem digs_len1 {n : Nat} (h : n ≠ 0) : (digs n).length = 1 ↔ n < 18446744073709551616 := by
  have h1 := digs_length_le (n := n) (k := 1)
  rw [Nat.pow_one] at h1
  have h0 : (digs n).length ≠ 0 := fun e => h (digs_len0.1 e)
  omega
theorem D_one (x : Nat) : D [x] 0 = x := rfl
theorem last_D {l : List Nat} (h : l ≠ []) : l.getLast? = some (D l (l.length - 1)) := by
  have hl : 0 < l.length := List.length_pos_iff.2 h
  rw [List.getLast?_eq_getElem?, D, List.getD_eq_getElem?_getD, List.getElem?_eq_getElem (by omega)]
  rfl
theorem chk_nil : chk [] = 0 := rfl
theorem chk_zero {l : List Nat} (h : l ≠ []) (h' : D l (l.length - 1) = 0) : chk l = 6 := by
  unfold chk; rw [last_D h, h', if_pos rfl]
theorem chk_pos {l : List Nat} (h : l ≠ []) (h' : D l (l.length - 1) ≠ 0) : chk l = 0 := by
  unfold chk; rw [last_D h, if_neg (fun e => h' (Option.some.inj e))]
theorem chk_top {l : List Nat} : chk l = 0 ↔ Top l := by
  unfold chk Top; split <;> simp_all
theorem dig_digs_eq {l : List Nat} (hd : Dig l) (ht : Top l) : digs (val l) = l := digs_val hd ht
theorem D_digs_last {n : Nat} (h : n ≠ 0) : D (digs n) ((digs n).length - 1) ≠ 0 := by
  have h1 := top_digs n
  unfold Top at h1
  rw [last_D (fun e => h (digs_eq_nil.1 e))] at h1
  exact fun e => h1 (by rw [e])

/-- how two numbers compare -/
def cmpI (x y : Nat) : Int := if x < y then -1 else if y < x then 1 else 0
theorem cmpI_lt {x y : Nat} (h : x < y) : cmpI x y = -1 := if_pos h
theorem cmpI_gt {x y : Nat} (h : y < x) : cmpI x y = 1 := by unfold cmpI; rw [if_neg (by omega), if_pos h]
theorem cmpI_eq (x : Nat) : cmpI x x = 0 := by unfold cmpI; rw [if_neg (by omega), if_neg (by omega)]
theorem cmpI_zero {x y : Nat} : cmpI x y = 0 ↔ x = y := by unfold cmpI; split <;> (try split) <;> omega
theorem cmpI_neg {x y : Nat} : cmpI x y < 0 ↔ x < y := by unfold cmpI; split <;> (try split) <;> omega
theorem cmpI_pos {x y : Nat} : 0 < cmpI x y ↔ y < x := by unfold cmpI; split <;> (try split) <;> omega
theorem cmpI_step {x y h h' : Nat} (hx : x < 18446744073709551616) (hy : y < 18446744073709551616) :
    cmpI (x + 18446744073709551616 * h) (y + 18446744073709551616 * h') = if h = h' then cmpI x y else cmpI h h' := by
  unfold cmpI
  split
  · subst_vars; split <;> (try split) <;> (try split) <;> (try split) <;> omega
  · split <;> (try split) <;> (try split) <;> (try split) <;> omega

/-- the first two that are not the same, of a row of twos, compare so -/
def lexP : List (Nat × Nat) → Int
  | [] => 0
  | p :: r => if p.1 < p.2 then -1 else if p.2 < p.1 then 1 else lexP r
theorem lexP_append (a b : List (Nat × Nat)) : lexP (a ++ b) = if lexP a = 0 then lexP b else lexP a := by
  induction a with
  | nil => simp [lexP]
  | cons p r ih =>
    have e0 : lexP (p :: r ++ b) = (if p.1 < p.2 then -1 else if p.2 < p.1 then 1 else lexP (r ++ b)) := rfl
    have e1 : lexP (p :: r) = (if p.1 < p.2 then -1 else if p.2 < p.1 then 1 else lexP r) := rfl
    by_cases h1 : p.1 < p.2
    · rw [if_pos h1] at e0 e1
      rw [e0, e1, if_neg (by decide)]
    · rw [if_neg h1] at e0 e1
      by_cases h2 : p.2 < p.1
      · rw [if_pos h2] at e0 e1
        rw [e0, e1, if_neg (by decide)]
      · rw [if_neg h2] at e0 e1
        rw [e0, e1, ih]
theorem lexP_one (p : Nat × Nat) : lexP [p] = cmpI p.1 p.2 := rfl
/-- what has come when k rounds are over: the digits of the k highest of M places -/
def upto (l l2 : List Nat) (M k : Nat) : List (Nat × Nat) := (List.range k).map fun j => (D l (M - 1 - j), D l2 (M - 1 - j))
theorem upto_succ (l l2 : List Nat) (M k : Nat) : upto l l2 M (k + 1) = upto l l2 M k ++ [(D l (M - 1 - k), D l2 (M - 1 - k))] := by simp [upto, List.range_succ]
theorem upto_length (l l2 : List Nat) (M k : Nat) : (upto l l2 M k).length = k := by simp [upto]
theorem lexP_upto {l l2 : List Nat} (hd : Dig l) (hd2 : Dig l2) {M : Nat} (h1 : l.length ≤ M) (h2 : l2.length ≤ M) : ∀ k, k ≤ M → lexP (upto l l2 M k) = cmpI (hi l (M - k)) (hi l2 (M - k))
  | 0, _ => by rw [Nat.sub_zero, hi_all h1, hi_all h2]; rfl
  | k + 1, hk => by
    rw [upto_succ, lexP_append, lexP_upto hd hd2 h1 h2 k (by omega), lexP_one]
    rw [hi_step l (M - (k + 1)), hi_step l2 (M - (k + 1)), show M - (k + 1) + 1 = M - k by omega, show M - (k + 1) = M - 1 - k by omega, cmpI_step (hd.at_ _) (hd2.at_ _)]
    by_cases h : hi l (M - k) = hi l2 (M - k)
    · rw [if_pos h, if_pos (cmpI_zero.2 h)]
    · rw [if_neg h, if_neg (fun e => h (cmpI_zero.1 e))]
theorem lexP_all {l l2 : List Nat} (hd : Dig l) (hd2 : Dig l2) {M : Nat} (h1 : l.length ≤ M) (h2 : l2.length ≤ M) : lexP (upto l l2 M M) = cmpI (val l) (val l2) := by
  rw [lexP_upto hd hd2 h1 h2 M (Nat.le_refl _), Nat.sub_self, hi_zero, hi_zero]
theorem upto_split (l l2 : List Nat) (M k : Nat) : ∀ d, ∃ r, upto l l2 M (k + d) = upto l l2 M k ++ r
  | 0 => ⟨[], by simp⟩
  | d + 1 => by
    obtain ⟨r, hr⟩ := upto_split l l2 M k d
    exact ⟨r ++ [(D l (M - 1 - (k + d)), D l2 (M - 1 - (k + d)))], by rw [← Nat.add_assoc, upto_succ, hr, List.append_assoc]⟩
theorem lexP_part {l l2 : List Nat} (hd : Dig l) (hd2 : Dig l2) {M k : Nat} (h1 : l.length ≤ M) (h2 : l2.length ≤ M) (hk : k ≤ M) (h : lexP (upto l l2 M k) ≠ 0) : lexP (upto l l2 M k) = cmpI (val l) (val l2) := by
  obtain ⟨r, hr⟩ := upto_split l l2 M k (M - k)
  rw [show k + (M - k) = M by omega] at hr
  rw [← lexP_all hd hd2 h1 h2, hr, lexP_append, if_neg h]

theorem lo_snoc {l : List Nat} {x k : Nat} (h : l.length = k) : lo (l ++ [x]) (k + 1) = lo l k + 18446744073709551616 ^ k * x := by
  subst h
  rw [lo_all (by simp), lo_all (Nat.le_refl _), val_append]
  simp [val]
theorem add_snoc {a b o : List Nat} {i c x y : Nat} (hl : o.length = i) (h : lo o i + 18446744073709551616 ^ i * c = lo a i + lo b i)
    (hx : x + 18446744073709551616 * y = D a i + D b i + c) :
    lo (o ++ [x]) (i + 1) + 18446744073709551616 ^ (i + 1) * y = lo a (i + 1) + lo b (i + 1) := by
  rw [lo_snoc hl, lo_step a, lo_step b, Nat.pow_succ, Nat.mul_assoc, Nat.add_assoc, ← Nat.mul_add, hx, Nat.mul_add, Nat.mul_add]
  omega
theorem sub_snoc {a b o : List Nat} {i c x y : Nat} (hl : o.length = i) (h : lo o i + lo b i = lo a i + 18446744073709551616 ^ i * c)
    (hx : x + D b i + c = D a i + 18446744073709551616 * y) :
    lo (o ++ [x]) (i + 1) + lo b (i + 1) = lo a (i + 1) + 18446744073709551616 ^ (i + 1) * y := by
  rw [lo_snoc hl, lo_step a, lo_step b, Nat.pow_succ, Nat.mul_assoc]
  have e : 18446744073709551616 ^ i * (x + D b i + c) = 18446744073709551616 ^ i * (D a i + 18446744073709551616 * y) := by rw [hx]
  simp only [Nat.mul_add] at e
  omega
theorem dig_snoc {l : List Nat} {x : Nat} (h : Dig l) (hx : x < 18446744073709551616) : Dig (l ++ [x]) := dig_append.2 ⟨h, dig_cons.2 ⟨hx, dig_nil⟩⟩

theorem digs_len_add (a b : Nat) : (digs (a + b)).length ≤ max (digs a).length (digs b).length + 1 := by
  rw [digs_length_le]
  have h1 : a < 18446744073709551616 ^ max (digs a).length (digs b).length := digs_length_le.1 (Nat.le_max_left _ _)
  have h2 : b < 18446744073709551616 ^ max (digs a).length (digs b).length := digs_length_le.1 (Nat.le_max_right _ _)
  rw [Nat.pow_succ]
  generalize 18446744073709551616 ^ max (digs a).length (digs b).length = p at *
  omega
theorem digs_len_mono {a b : Nat} (h : a ≤ b) : (digs a).length ≤ (digs b).length :=
  digs_length_le.2 (Nat.lt_of_le_of_lt h (digs_length_le.1 (Nat.le_refl _)))

end Go.Proofs.Ytdjhgalaianifaa
