import Derived.Laws.Strings
import Derived.Laws.BytesArg
import Derived.Laws.IdiomStrings
import Derived.Lib.Join
import Derived.Test.YtoecndogaklngaaS0Do
import Derived.Test.YtoecndogaklngaaNumDo
set_option linter.unusedVariables false
set_option linter.unusedSimpArgs false
namespace Go.Proofs.Ytoecndogaklngaa
def digF (b : Nat) : Nat → Nat → List Nat
 | 0, _ => []
 | f + 1, n => if n = 0 then [] else digF b f (n / b) ++ [n % b]
def digL (b n : Nat) : List Nat := digF b n n
theorem digF_enough {b : Nat} (hb : 2 ≤ b) : ∀ f g n, n ≤ f → n ≤ g → digF b f n = digF b g n
 | 0, 0, _, _, _ => rfl
 | 0, g + 1, n, h, _ => by
   obtain rfl : n = 0 := by omega
   rfl
 | f + 1, 0, n, _, h => by
   obtain rfl : n = 0 := by omega
   rfl
 | f + 1, g + 1, n, h1, h2 => by
   unfold digF
   by_cases h : n = 0
   · rw [if_pos h, if_pos h]
   · have hd : n / b < n := Nat.div_lt_self (by omega) (by omega)
     rw [if_neg h, if_neg h, digF_enough hb f g (n / b) (by omega) (by omega)]
theorem digL_step {b : Nat} (hb : 2 ≤ b) {n : Nat} (h : n ≠ 0) : digL b n = digL b (n / b) ++ [n % b] := by
 obtain ⟨k, rfl⟩ : ∃ k, n = k + 1 := ⟨n - 1, by omega⟩
 have hd : (k + 1) / b < k + 1 := Nat.div_lt_self (by omega) (by omega)
 show (if k + 1 = 0 then [] else digF b k ((k + 1) / b) ++ [(k + 1) % b]) = _
 rw [if_neg h, digF_enough hb k ((k + 1) / b) ((k + 1) / b) (by omega) (Nat.le_refl _)]
 rfl
theorem digL_zero {b : Nat} : digL b 0 = [] := rfl
theorem digL_lt {b : Nat} (hb : 2 ≤ b) : ∀ n, ∀ d ∈ digL b n, d < b := by
 intro n
 induction n using Nat.strongRecOn with
 | _ n ih =>
   intro d hd
   by_cases h : n = 0
   · subst h; simp [digL_zero] at hd
   · rw [digL_step hb h] at hd
     rcases List.mem_append.1 hd with h1 | h1
     · exact ih _ (Nat.div_lt_self (by omega) (by omega)) d h1
     · obtain rfl := List.mem_singleton.1 h1
       exact Nat.mod_lt _ (by omega)
def valL (b : Nat) : List Nat → Nat
 | [] => 0
 | d :: l => d * b ^ l.length + valL b l
theorem valL_snoc {b : Nat} (l : List Nat) (d : Nat) : valL b (l ++ [d]) = valL b l * b + d := by
 induction l with
 | nil => simp [valL]
 | cons x l ih =>
   show x * b ^ (l ++ [d]).length + valL b (l ++ [d]) = (x * b ^ l.length + valL b l) * b + d
   rw [ih, List.length_append, List.length_singleton, Nat.pow_succ, Nat.add_mul, Nat.mul_assoc, Nat.add_assoc]
theorem valL_digL {b : Nat} (hb : 2 ≤ b) : ∀ n, valL b (digL b n) = n := by
 intro n
 induction n using Nat.strongRecOn with
 | _ n ih =>
   by_cases h : n = 0
   · subst h; rfl
   · rw [digL_step hb h, valL_snoc, ih _ (Nat.div_lt_self (by omega) (by omega)), Nat.mul_comm]
     exact Nat.div_add_mod n b
theorem valL_lt {b : Nat} (l : List Nat) (h : ∀ d ∈ l, d < b) : valL b l < b ^ l.length := by
 induction l with
 | nil => simp [valL]
 | cons x l ih =>
   have h1 := ih fun d hd => h d (List.mem_cons_of_mem _ hd)
   have h2 := h x (List.mem_cons_self ..)
   show x * b ^ l.length + valL b l < b ^ (l.length + 1)
   rw [Nat.pow_succ, Nat.mul_comm (b ^ l.length)]
   have h3 : (x + 1) * b ^ l.length ≤ b * b ^ l.length := Nat.mul_le_mul_right _ h2
   rw [Nat.add_mul, Nat.one_mul] at h3
   omega
theorem digL_head {b : Nat} (hb : 2 ≤ b) (n : Nat) : (digL b n).head? ≠ some 0 := by
 induction n using Nat.strongRecOn with
 | _ n ih =>
   by_cases h : n = 0
   · subst h; simp [digL_zero]
   · rw [digL_step hb h]
     by_cases h1 : n / b = 0
     · rw [h1, digL_zero]
       have : n < b := by
        rcases Nat.lt_or_ge n b with h2 | h2
        · exact h2
        · have := Nat.div_pos h2 (by omega); omega
       simp [Nat.mod_eq_of_lt this]
       exact h
     · have h2 := ih _ (Nat.div_lt_self (by omega) (show 1 < b by omega))
       have h3 : digL b (n / b) ≠ [] := by rw [digL_step hb h1]; simp
       obtain ⟨x, l, hx⟩ : ∃ x l, digL b (n / b) = x :: l := by
        cases hd : digL b (n / b) with
        | nil => exact absurd hd h3
        | cons x l => exact ⟨x, l, rfl⟩
       rw [hx] at h2 ⊢
       simpa using h2
def padL (b : Nat) : Nat → Nat → List Nat
 | 0, _ => []
 | k + 1, x => padL b k (x / b) ++ [x % b]
theorem padL_len {b : Nat} : ∀ k x, (padL b k x).length = k
 | 0, _ => rfl
 | k + 1, x => by show (padL b k (x / b) ++ [x % b]).length = k + 1; rw [List.length_append, padL_len k]; rfl
theorem digL_pad {b : Nat} (hb : 2 ≤ b) {q : Nat} (hq : 0 < q) : ∀ k r, r < b ^ k → digL b (q * b ^ k + r) = digL b q ++ padL b k r
 | 0, r, h => by
   obtain rfl : r = 0 := by simpa using h
   simp [padL]
 | k + 1, r, h => by
   have hp : 0 < q * b ^ (k + 1) := Nat.mul_pos hq (Nat.pow_pos (by omega))
   have e : q * b ^ (k + 1) + r = b * (q * b ^ k) + r := by rw [Nat.pow_succ]; congr 1; rw [← Nat.mul_assoc, Nat.mul_comm]
   have e1 : (q * b ^ (k + 1) + r) / b = q * b ^ k + r / b := by rw [e, Nat.mul_add_div (by omega)]
   have e2 : (q * b ^ (k + 1) + r) % b = r % b := by rw [e, Nat.mul_add_mod]
   have h1 : r / b < b ^ k := by
    rw [Nat.div_lt_iff_lt_mul (by omega)]
    rwa [Nat.pow_succ] at h
   rw [digL_step hb (by omega), e1, e2, digL_pad hb hq k (r / b) h1, List.append_assoc]
   rfl
def lexL : List Nat → List Nat → Bool
 | _, [] => false
 | [], _ :: _ => true
 | a :: x, b :: y => decide (a < b) || (a == b && lexL x y)
theorem lex_val {b : Nat} : ∀ (x y : List Nat), x.length = y.length → (∀ d ∈ x, d < b) → (∀ d ∈ y, d < b) → (lexL x y = true ↔ valL b x < valL b y)
 | [], [], _, _, _ => by simp [lexL, valL]
 | a :: x, c :: y, hl, hx, hy => by
   have hl' : x.length = y.length := by simpa using hl
   have ih := lex_val x y hl' (fun d hd => hx d (List.mem_cons_of_mem _ hd)) (fun d hd => hy d (List.mem_cons_of_mem _ hd))
   have vx := valL_lt (b := b) x fun d hd => hx d (List.mem_cons_of_mem _ hd)
   have vy := valL_lt (b := b) y fun d hd => hy d (List.mem_cons_of_mem _ hd)
   show (decide (a < c) || (a == c && lexL x y)) = true ↔ a * b ^ x.length + valL b x < c * b ^ y.length + valL b y
   rw [hl'] at vx ⊢
   generalize b ^ y.length = P at *
   rcases Nat.lt_trichotomy a c with h | h | h
   · have h1 : (a + 1) * P ≤ c * P := Nat.mul_le_mul_right _ h
     rw [Nat.add_mul, Nat.one_mul] at h1
     simp [h]
     omega
   · subst h
     simp [ih]
   · have h1 : (c + 1) * P ≤ a * P := Nat.mul_le_mul_right _ h
     rw [Nat.add_mul, Nat.one_mul] at h1
     have h2 : ¬ a < c := by omega
     have h3 : ¬ a = c := by omega
     simp [h2, h3]
     omega
theorem val_ge {b : Nat} : ∀ (l : List Nat), l ≠ [] → l.head? ≠ some 0 → b ^ (l.length - 1) ≤ valL b l
 | x :: l, _, h0 => by
   have hx : x ≠ 0 := fun e => h0 (by simp [e])
   show b ^ l.length ≤ x * b ^ l.length + valL b l
   have : 1 * b ^ l.length ≤ x * b ^ l.length := Nat.mul_le_mul_right _ (by omega)
   omega
theorem less_dig {b : Nat} (hb : 2 ≤ b) (m n : Nat) : m < n ↔ (digL b m).length < (digL b n).length ∨ ((digL b m).length = (digL b n).length ∧ lexL (digL b m) (digL b n) = true) := by
 have key : ∀ m n, (digL b m).length < (digL b n).length → m < n := fun m n h => by
  have h1 := valL_lt (b := b) (digL b m) (digL_lt hb m)
  have h2 := val_ge (b := b) (digL b n) (fun e => by rw [e] at h; simp at h) (digL_head hb n)
  rw [valL_digL hb] at h1 h2
  exact Nat.lt_of_lt_of_le h1 (Nat.le_trans (Nat.pow_le_pow_right (by omega) (by omega)) h2)
 constructor
 · intro h
   rcases Nat.lt_trichotomy (digL b m).length (digL b n).length with h1 | h1 | h1
   · exact .inl h1
   · refine .inr ⟨h1, (lex_val (b := b) _ _ h1 (digL_lt hb m) (digL_lt hb n)).2 ?_⟩
     rw [valL_digL hb, valL_digL hb]
     exact h
   · exact absurd (key n m h1) (by omega)
 · rintro (h | ⟨h1, h2⟩)
   · exact key m n h
   · have := (lex_val (b := b) _ _ h1 (digL_lt hb m) (digL_lt hb n)).1 h2
     rwa [valL_digL hb, valL_digL hb] at this
theorem digL_snoc {b : Nat} (hb : 2 ≤ b) (v d : Nat) (hd : d < b) : digL b (v * b + d) = if v = 0 ∧ d = 0 then [] else digL b v ++ [d] := by
 by_cases h : v = 0 ∧ d = 0
 · rw [if_pos h, h.1, h.2, Nat.zero_mul]
   rfl
 · rw [if_neg h]
   have hne : v * b + d ≠ 0 := by
    intro e
    have h1 : v * b = 0 := by omega
    rcases Nat.mul_eq_zero.1 h1 with h2 | h2
    · exact h ⟨h2, by omega⟩
    · omega
   have e1 : (v * b + d) / b = v := by rw [Nat.mul_comm, Nat.mul_add_div (by omega), Nat.div_eq_of_lt hd, Nat.add_zero]
   have e2 : (v * b + d) % b = d := by rw [Nat.mul_comm, Nat.mul_add_mod, Nat.mod_eq_of_lt hd]
   rw [digL_step hb hne, e1, e2]
theorem padL_front {b : Nat} : ∀ k x, padL b (k + 1) x = (x / b ^ k % b) :: padL b k x
 | 0, x => by simp [padL]
 | k + 1, x => by
   show padL b (k + 1) (x / b) ++ [x % b] = _
   rw [padL_front k (x / b), List.cons_append, Nat.div_div_eq_div_mul, ← Nat.pow_succ']
   rfl
theorem digL_short {b : Nat} (hb : 2 ≤ b) : ∀ k x, x < b ^ k → (k = 0 ∨ b ^ (k - 1) ≤ x) → digL b x = padL b k x
 | 0, x, h, _ => by
   obtain rfl : x = 0 := by simpa using h
   rfl
 | k + 1, x, h, h2 => by
   have h3 : b ^ k ≤ x := by rcases h2 with h2 | h2; omega; simpa using h2
   have hp : 0 < b ^ k := Nat.pow_pos (by omega)
   have h1 : x / b < b ^ k := by
    rw [Nat.div_lt_iff_lt_mul (by omega)]
    rwa [Nat.pow_succ] at h
   rw [digL_step hb (by omega), digL_short hb k (x / b) h1 ?_]
   · rfl
   · cases k with
     | zero => exact .inl rfl
     | succ k =>
       refine .inr ?_
       rw [Nat.le_div_iff_mul_le (by omega)]
       simpa [Nat.pow_succ] using h3
theorem digL_block {b : Nat} (hb : 2 ≤ b) (k n : Nat) (hn : n ≠ 0) (hk : 0 < k) : digL b n = digL b (n / b ^ k) ++ (if n / b ^ k = 0 then digL b (n % b ^ k) else padL b k (n % b ^ k)) := by
 have hp : 0 < b ^ k := Nat.pow_pos (by omega)
 have hm := Nat.div_add_mod n (b ^ k)
 by_cases h : n / b ^ k = 0
 · rw [if_pos h, h, digL_zero, List.nil_append]
   congr 1
   rw [h, Nat.mul_zero, Nat.zero_add] at hm
   exact hm.symm
 · rw [if_neg h, ← digL_pad hb (Nat.pos_iff_ne_zero.2 h) k (n % b ^ k) (Nat.mod_lt _ hp)]
   congr 1
   rw [Nat.mul_comm]
   exact hm.symm
end Go.Proofs.Ytoecndogaklngaa
set_option linter.unusedVariables false
set_option linter.unusedSimpArgs false
namespace Go.Proofs.Ytoecndogaklngaa
def dchr (d : Nat) : UInt8 := UInt8.ofNat (48 + d)
def strB (l : List Nat) : ByteArray := ⟨(l.map dchr).toArray⟩
def bytB (l : List Nat) : ByteArray := ⟨(l.map UInt8.ofNat).toArray⟩
def decL (n : Nat) : List Nat := if n = 0 then [0] else digL 10 n
def decS (n : Nat) : ByteArray := strB (decL n)
theorem dchr_lt {d e : Nat} (hd : d < 10) (he : e < 10) : dchr d < dchr e ↔ d < e := by
 unfold dchr
 rw [UInt8.lt_iff_toNat_lt, UInt8.toNat_ofNat', UInt8.toNat_ofNat']
 omega
theorem dchr_inj {d e : Nat} (hd : d < 10) (he : e < 10) (h : dchr d = dchr e) : d = e := by
 have h1 := congrArg UInt8.toNat h
 unfold dchr at h1
 rw [UInt8.toNat_ofNat', UInt8.toNat_ofNat'] at h1
 omega
theorem byte_lt {d e : Nat} (hd : d < 256) (he : e < 256) : UInt8.ofNat d < UInt8.ofNat e ↔ d < e := by
 rw [UInt8.lt_iff_toNat_lt, UInt8.toNat_ofNat', UInt8.toNat_ofNat']
 omega
theorem byte_inj {d e : Nat} (hd : d < 256) (he : e < 256) (h : UInt8.ofNat d = UInt8.ofNat e) : d = e := by
 have h1 := congrArg UInt8.toNat h
 rw [UInt8.toNat_ofNat', UInt8.toNat_ofNat'] at h1
 omega
theorem less_map {f : Nat → UInt8} {b : Nat} (hlt : ∀ d e, d < b → e < b → (f d < f e ↔ d < e)) (hinj : ∀ d e, d < b → e < b → f d = f e → d = e) : ∀ (x y : List Nat), (∀ d ∈ x, d < b) → (∀ d ∈ y, d < b) → Op.bytesLess (x.map f) (y.map f) = lexL x y
 | [], [], _, _ => rfl
 | [], _ :: _, _, _ => rfl
 | _ :: _, [], _, _ => rfl
 | a :: x, c :: y, hx, hy => by
   have ha := hx a (List.mem_cons_self ..)
   have hc := hy c (List.mem_cons_self ..)
   have ih := less_map hlt hinj x y (fun d hd => hx d (List.mem_cons_of_mem _ hd)) (fun d hd => hy d (List.mem_cons_of_mem _ hd))
   show (decide (f a < f c) || (f a == f c && Op.bytesLess (x.map f) (y.map f))) = (decide (a < c) || (a == c && lexL x y))
   rw [ih]
   have e1 : decide (f a < f c) = decide (a < c) := by simp [hlt a c ha hc]
   have e2 : (f a == f c) = (a == c) := by
    by_cases h : a = c
    · subst h; simp
    · rw [beq_eq_false_iff_ne.2 (fun e => h (hinj a c ha hc e)), beq_eq_false_iff_ne.2 h]
   rw [e1, e2]
theorem strB_toList (l : List Nat) : (strB l).toList = l.map dchr := ByteArray.toList_mk _
theorem bytB_toList (l : List Nat) : (bytB l).toList = l.map UInt8.ofNat := ByteArray.toList_mk _
theorem strB_size (l : List Nat) : (strB l).size = l.length := by simp [strB, ByteArray.size]
theorem bytB_size (l : List Nat) : (bytB l).size = l.length := by simp [bytB, ByteArray.size]
theorem strB_append (x y : List Nat) : strB x ++ strB y = strB (x ++ y) := by
 apply ByteArray.ext
 simp [strB]
theorem decL_lt (n : Nat) : ∀ d ∈ decL n, d < 10 := by
 unfold decL
 split
 · intro d hd; simp at hd; omega
 · exact digL_lt (by decide) n
theorem decL_val (n : Nat) : valL 10 (decL n) = n := by
 unfold decL
 split
 · rename_i h; subst h; rfl
 · exact valL_digL (by decide) n
theorem decL_pos (n : Nat) : 1 ≤ (decL n).length := by
 unfold decL
 split
 · exact Nat.le_refl _
 · rename_i h
   rw [digL_step (by decide) h, List.length_append]
   simp
def shorterB (x y : ByteArray) : Bool := decide (x.size < y.size) || (x.size == y.size && Op.bytesLess x.toList y.toList)
theorem less_dec (m n : Nat) : decide (m < n) = shorterB (decS m) (decS n) := by
 have key : ∀ m n, lexL (decL m) (decL n) = true → (decL m).length = (decL n).length → m < n := fun m n h hl => by
  have := (lex_val (b := 10) _ _ hl (decL_lt m) (decL_lt n)).1 h
  rwa [decL_val, decL_val] at this
 have key2 : ∀ m n, m < n → (decL m).length = (decL n).length → lexL (decL m) (decL n) = true := fun m n h hl => by
  refine (lex_val (b := 10) _ _ hl (decL_lt m) (decL_lt n)).2 ?_
  rwa [decL_val, decL_val]
 have key3 : ∀ m n, (decL m).length < (decL n).length → m < n := fun m n h => by
  have h1 := valL_lt (b := 10) (decL m) (decL_lt m)
  rw [decL_val] at h1
  have hn : n ≠ 0 := fun e => by
   subst e
   have h1 := decL_pos m
   have e : (decL 0).length = 1 := rfl
   rw [e] at h
   omega
  have h2 := val_ge (b := 10) (digL 10 n) (by rw [digL_step (by decide) hn]; simp) (digL_head (by decide) n)
  rw [valL_digL (by decide)] at h2
  unfold decL at h
  rw [if_neg hn] at h
  exact Nat.lt_of_lt_of_le h1 (Nat.le_trans (Nat.pow_le_pow_right (by decide) (by unfold decL; omega)) h2)
 unfold shorterB decS
 rw [strB_size, strB_size, strB_toList, strB_toList, less_map (fun _ _ => dchr_lt) (fun _ _ => dchr_inj) _ _ (decL_lt m) (decL_lt n)]
 apply Bool.eq_iff_iff.2
 simp only [decide_eq_true_eq, Bool.or_eq_true, Bool.and_eq_true, beq_iff_eq]
 constructor
 · intro h
   rcases Nat.lt_trichotomy (decL m).length (decL n).length with h1 | h1 | h1
   · exact .inl h1
   · exact .inr ⟨h1, key2 m n h h1⟩
   · exact absurd (key3 n m h1) (by omega)
 · rintro (h | ⟨h1, h2⟩)
   · exact key3 m n h
   · exact key m n h2 h1
theorem less_byt (m n : Nat) : decide (m < n) = shorterB (bytB (digL 256 m)) (bytB (digL 256 n)) := by
 unfold shorterB
 rw [bytB_size, bytB_size, bytB_toList, bytB_toList, less_map (fun _ _ => byte_lt) (fun _ _ => byte_inj) _ _ (digL_lt (by decide) m) (digL_lt (by decide) n)]
 apply Bool.eq_iff_iff.2
 simp only [decide_eq_true_eq, Bool.or_eq_true, Bool.and_eq_true, beq_iff_eq]
 exact less_dig (by decide) m n
end Go.Proofs.Ytoecndogaklngaa
set_option linter.unusedVariables false
set_option linter.unusedSimpArgs false
namespace Go.Proofs.Ytoecndogaklngaa
def L8 (l : List UInt8) (i : Nat) : Nat := (l.getD i 0).toNat
theorem L8_lt (l : List UInt8) (i : Nat) : L8 l i < 256 := UInt8.toNat_lt _
def badAt (l : List UInt8) (i : Nat) : Bool := decide (L8 l i < 48) || decide (57 < L8 l i) || (decide (i = 1) && decide (L8 l 0 = 48))
def formF (l : List UInt8) : Nat → Nat → Nat
 | 0, i => i
 | f + 1, i => if badAt l i then i else formF l f (i + 1)
def formL (l : List UInt8) : Nat := formF l l.length 0
theorem formF_stop (l : List UInt8) : ∀ f i k, (∀ j, i ≤ j → j < k → badAt l j = false) → i ≤ k → k < i + f → badAt l k = true → formF l f i = k
 | 0, i, k, _, h1, h2, _ => by omega
 | f + 1, i, k, h, h1, h2, hb => by
   unfold formF
   by_cases e : i = k
   · subst e; rw [if_pos hb]
   · rw [if_neg (by rw [h i (Nat.le_refl _) (by omega)]; decide)]
     exact formF_stop l f (i + 1) k (fun j h3 h4 => h j (by omega) h4) (by omega) (by omega) hb
theorem formF_all (l : List UInt8) : ∀ f i, (∀ j, i ≤ j → j < i + f → badAt l j = false) → formF l f i = i + f
 | 0, i, _ => rfl
 | f + 1, i, h => by
   unfold formF
   rw [if_neg (by rw [h i (Nat.le_refl _) (by omega)]; decide), formF_all l f (i + 1) (fun j h3 h4 => h j (by omega) (by omega))]
   omega
theorem formF_le (l : List UInt8) : ∀ f i, formF l f i ≤ i + f
 | 0, i => Nat.le_refl _
 | f + 1, i => by
   unfold formF
   split
   · omega
   · have := formF_le l f (i + 1); omega
theorem formF_fine (l : List UInt8) : ∀ f i j, i ≤ j → j < formF l f i → badAt l j = false
 | 0, i, j, h1, h2 => by have : j < i := h2; omega
 | f + 1, i, j, h1, h2 => by
   unfold formF at h2
   split at h2
   · omega
   · rename_i hb
     by_cases e : i = j
     · subst e; simpa using hb
     · exact formF_fine l f (i + 1) j (by omega) h2
theorem formL_stop {l : List UInt8} {k : Nat} (h : ∀ j, j < k → badAt l j = false) (hk : k < l.length) (hb : badAt l k = true) : formL l = k := formF_stop l _ 0 k (fun j _ => h j) (Nat.zero_le _) (by omega) hb
theorem formL_all {l : List UInt8} (h : ∀ j, j < l.length → badAt l j = false) : formL l = l.length := by
 have := formF_all l l.length 0 (fun j _ h2 => h j (by omega))
 unfold formL
 omega
theorem formL_le (l : List UInt8) : formL l ≤ l.length := by have := formF_le l l.length 0; unfold formL; omega
theorem formL_fine {l : List UInt8} {j : Nat} (h : j < formL l) : badAt l j = false := formF_fine l _ 0 j (Nat.zero_le _) h
def dvals (l : List UInt8) : List Nat := l.map fun c => c.toNat - 48
def fineL (l : List UInt8) : Bool := decide (formL l = l.length) && !l.isEmpty
def okL (l : List UInt8) : Bool := decide (l.length ≤ 10000) && fineL l
def getN (l : List UInt8) : Nat := if okL l then valL 10 (dvals l) else 0
def getE (l : List UInt8) : Nat := if 10000 < l.length then 4 else if fineL l then 0 else 6
def getA (l : List UInt8) : Nat := if 10000 < l.length then 10000 else if fineL l then 0 else formL l
theorem fineL_bytes {l : List UInt8} (h : fineL l = true) : ∀ j, j < l.length → 48 ≤ L8 l j ∧ L8 l j ≤ 57 ∧ ¬ (j = 1 ∧ L8 l 0 = 48) := by
 intro j hj
 unfold fineL at h
 simp only [Bool.and_eq_true, decide_eq_true_eq] at h
 have hb := formL_fine (l := l) (j := j) (by omega)
 unfold badAt at hb
 simp only [Bool.or_eq_false_iff, Bool.and_eq_false_iff, decide_eq_false_iff_not] at hb
 obtain ⟨⟨h1, h2⟩, h3⟩ := hb
 refine ⟨by omega, by omega, fun ⟨e1, e2⟩ => ?_⟩
 rcases h3 with h3 | h3
 · exact h3 e1
 · exact h3 e2
theorem fineL_ne {l : List UInt8} (h : fineL l = true) : l ≠ [] := by
 unfold fineL at h
 simp only [Bool.and_eq_true, Bool.not_eq_true', List.isEmpty_eq_false_iff] at h
 exact h.2
theorem dvals_take (l : List UInt8) (k : Nat) (h : k < l.length) : valL 10 (dvals (l.take (k + 1))) = valL 10 (dvals (l.take k)) * 10 + (L8 l k - 48) := by
 rw [List.take_succ_eq_append_getElem h]
 unfold dvals
 rw [List.map_append, List.map_singleton, valL_snoc]
 unfold L8
 rw [List.getD_eq_getElem?_getD, List.getElem?_eq_getElem h]
 rfl
end Go.Proofs.Ytoecndogaklngaa
set_option linter.unusedVariables false
set_option linter.unusedSimpArgs false
namespace Go.Proofs.Ytoecndogaklngaa
open Go.RowKit
structure BytesAt (w : World) (a : Option Addr) (n c : Nat) (l : List Nat) : Prop where
 len : l.length = n
 le : n ≤ c
 cle : c ≤ 9223372036854775807
 dig : ∀ d ∈ l, d < 256
 cell : n = 0 ∨ ∃ b o, a = some ⟨b, o, none⟩ ∧ ∀ i, i < n → w.cell? ⟨b, o + i, none⟩ = some (.int .u8 ((D l i : Nat) : Int))
 nilc : a = none → c = 0
structure OwnBytes (w : World) (B : Nat) (a : Option Addr) (n c : Nat) (l : List Nat) : Prop extends BytesAt w a n c l where
 own : n = 0 ∨ ∃ b o, a = some ⟨b, o, none⟩ ∧ B ≤ b ∧ ∀ i, i < n → w.frozen? ⟨b, o + i, none⟩ = false
theorem BytesAt.nil (w : World) : BytesAt w none 0 0 [] := ⟨rfl, Nat.le_refl _, by decide, by simp, .inl rfl, fun _ => rfl⟩
theorem OwnBytes.nil (w : World) (B : Nat) : OwnBytes w B none 0 0 [] := ⟨BytesAt.nil w, .inl rfl⟩
theorem BytesAt.below {w w' : World} {B : Nat} {a : Option Addr} {n c : Nat} {l : List Nat} (h : BytesAt w a n c l) (hb : Below B w w') (ha : n = 0 ∨ ∀ x, a = some x → x.block < B) : BytesAt w' a n c l := by
 refine ⟨h.len, h.le, h.cle, h.dig, ?_, h.nilc⟩
 rcases h.cell with h0 | ⟨b, o, he, hc⟩
 · exact .inl h0
 · rcases ha with ha | ha
   · exact .inl ha
   · refine .inr ⟨b, o, he, fun i hi => ?_⟩
     rw [hb.cell (p := ⟨b, o + i, none⟩) (show b < B from ha _ he)]
     exact hc i hi
theorem BytesAt.parts {w : World} {a : Option Addr} {n c : Nat} {l : List Nat} (h : BytesAt w a n c l) :
 n = 0 ∨ ∃ b o, a = some ⟨b, o, none⟩ ∧ b < w.heap.size ∧ ∀ i, i < n → w.cell? ⟨b, o + i, none⟩ = some (.int .u8 ((D l i : Nat) : Int)) := by
 rcases h.cell with h0 | ⟨b, o, ha, hc⟩
 · exact .inl h0
 · by_cases hn : n = 0
   · exact .inl hn
   · exact .inr ⟨b, o, ha, World.block_lt_of_cell? w ⟨b, o + 0, none⟩ (hc 0 (by omega)), hc⟩
theorem BytesAt.past {w w' : World} {a : Option Addr} {n c : Nat} {l : List Nat} (h : BytesAt w a n c l) (hb : Below w.heap.size w w') : BytesAt w' a n c l := by
 rcases h.parts with h0 | ⟨b, o, he, hlt, _⟩
 · exact h.below hb (.inl h0)
 · exact h.below hb (.inr fun x hx => by rw [he] at hx; cases hx; exact hlt)
theorem OwnBytes.mono {w : World} {B B' : Nat} {a : Option Addr} {n c : Nat} {l : List Nat} (h : OwnBytes w B a n c l) (hB : B' ≤ B) : OwnBytes w B' a n c l := by
 refine ⟨h.toBytesAt, ?_⟩
 rcases h.own with h0 | ⟨b, o, he, hle, hf⟩
 · exact .inl h0
 · exact .inr ⟨b, o, he, by omega, hf⟩
def bv (l : List Nat) : List Value := l.map fun d => Value.int .u8 ((d : Nat) : Int)
theorem bv_length (l : List Nat) : (bv l).length = l.length := by simp [bv]
theorem bv_at {l : List Nat} {i : Nat} (h : i < l.length) : (bv l)[i]? = some (.int .u8 ((D l i : Nat) : Int)) := by
 simp [bv, D, List.getD_eq_getElem?_getD, h]
theorem OwnBytes.ofRow {w : World} {B E : Nat} {v : Value} {n : Nat} {l : List Nat} (h : w.ownsRow B E 1 v n (bv l)) (hd : ∀ d ∈ l, d < 256) : ∃ a c, v = .slice a n c ∧ OwnBytes w B a n c l := by
 have hlen : l.length = n := by have := h.1; rw [bv_length] at this; omega
 rcases h.2 with ⟨rfl, hn⟩ | ⟨g, cap, cur, rfl, hb, hg, hnc, hcm, hcs, htake⟩
 · subst hn
   have : l = [] := List.eq_nil_of_length_eq_zero hlen
   subst this
   exact ⟨none, 0, rfl, OwnBytes.nil w B⟩
 · have hm : cap ≤ 9223372036854775807 := hcm
   refine ⟨_, _, rfl, ⟨hlen, hnc, hm, hd, .inr ⟨g, 0, rfl, fun i hi => ?_⟩, fun e => by cases e⟩, .inr ⟨g, 0, rfl, hb, fun i hi => ?_⟩⟩
   · have := World.ownsRow.cellAt h i (by omega)
     rw [Nat.zero_add, this]
     exact bv_at (by omega)
   · rw [Nat.zero_add]
     exact World.ownsRow.frozenAt h i
theorem strOfNums_bytB (l : List Nat) : strOfNums (l.map fun d => ((d : Nat) : Int)) = bytB l := by
 unfold strOfNums bytB
 rw [List.map_map]
 rfl
theorem BytesAt.text {P : Program} {w : World} {a : Option Addr} {n c : Nat} {l : List Nat} (h : BytesAt w a n c l) (src e dst : TypeId) (hs : P.underlying src = some (.slice e)) (he : P.underlying e = some (.int .u8)) (hd : P.underlying dst = some .string) :
 (convert src dst (.slice a n c)).run P w = .ok (.string (bytB l)) w := by
 rcases h.cell with h0 | ⟨b, o, rfl, hc⟩
 · subst h0
   have hl : l = [] := List.eq_nil_of_length_eq_zero h.len
   subst hl
   rw [run_convert_bytes_string w src dst e _ 0 c hs he hd]
   cases a <;> simp [Conv.bytesToString, loadCells]
   all_goals rfl
 · rw [run_convert_bytes_arg w src e hs he b o n c (l.map fun d => ((d : Nat) : Int)) (by rw [List.length_map]; exact h.len) ?_ dst hd, strOfNums_bytB]
   intro i hi
   rw [hc i hi]
   have hi' : i < l.length := by have := h.len; omega
   rw [List.getD_eq_getElem?_getD, List.getElem?_map, List.getElem?_eq_getElem hi']
   unfold D
   rw [List.getD_eq_getElem?_getD, List.getElem?_eq_getElem hi']
   rfl
def nums (l : List UInt8) : List Nat := l.map UInt8.toNat
theorem nums_len (l : List UInt8) : (nums l).length = l.length := by simp [nums]
theorem nums_lt (l : List UInt8) : ∀ d ∈ nums l, d < 256 := by
 intro d hd
 obtain ⟨c, _, rfl⟩ := List.mem_map.1 hd
 exact UInt8.toNat_lt c
theorem D_nums (l : List UInt8) (i : Nat) : D (nums l) i = L8 l i := by
 unfold D nums L8
 rw [List.getD_eq_getElem?_getD, List.getD_eq_getElem?_getD, List.getElem?_map]
 cases l[i]? <;> rfl
theorem size_list (s : ByteArray) : s.data.toList.length = s.size := Array.length_toList
theorem get_L8 (s : ByteArray) (i : Nat) (h : i < s.size) : (s[i].toNat : Nat) = L8 s.data.toList i := by
 unfold L8
 rw [List.getD_eq_getElem?_getD, List.getElem?_eq_getElem (by rw [size_list]; exact h)]
 rfl
theorem bytes_made (w : World) (s : ByteArray) (cap : Nat) (E : TypeId) (k : Nat × Nat) (h1 : s.size ≤ cap) (h2 : cap ≤ 9223372036854775807) : BytesAt (w.alloc (.cells (bytesRow s cap) E k)) (some ⟨w.heap.size, 0, none⟩) s.size cap (nums s.data.toList) := by
 refine ⟨by rw [nums_len, size_list], h1, h2, nums_lt _, .inr ⟨_, _, rfl, fun i hi => ?_⟩, fun e => by cases e⟩
 rw [Nat.zero_add, World.cell?_alloc_mark, bytesRow_at s cap i hi, D_nums, ← get_L8 s i hi]
 rfl
end Go.Proofs.Ytoecndogaklngaa
set_option linter.unusedVariables false
set_option linter.unusedSimpArgs false
namespace Go.Proofs.Ytoecndogaklngaa
open Go.RowKit
theorem OwnBytes.set {w : World} {B : Nat} {b o n c : Nat} {l : List Nat} (h : OwnBytes w B (some ⟨b, o, none⟩) n c l) {k d : Nat} (hk : k < n) (hd : d < 256) :
 OwnBytes (w.setCell ⟨b, o + k, none⟩ (.int .u8 ((d : Nat) : Int))) B (some ⟨b, o, none⟩) n c (l.set k d) := by
 rcases h.cell with h0 | ⟨b', o', he, hc⟩
 · omega
 cases he
 rcases h.own with h0 | ⟨b', o', he, hle, hf⟩
 · omega
 cases he
 refine ⟨⟨by simpa using h.len, h.le, h.cle, ?_, .inr ⟨b, o, rfl, fun i hi => ?_⟩, h.nilc⟩, .inr ⟨b, o, rfl, hle, fun i hi => by rw [World.frozen?_setCell]; exact hf i hi⟩⟩
 · intro x hx
   rcases List.mem_or_eq_of_mem_set hx with h1 | h1
   · exact h.dig x h1
   · rw [h1]; exact hd
 by_cases hik : i = k
 · subst hik
   rw [D_set_same (by rw [h.len]; exact hk)]
   exact World.cell?_setCell_same _ _ _ (hc i hi)
 · rw [D_set_other (fun e => hik e.symm), World.cell?_setCell_other _ (a := ⟨b, o + k, none⟩) (b := ⟨b, o + i, none⟩) _ (fun e => hik (by have := congrArg Addr.off e; simp at this; omega))]
   exact hc i hi
theorem litB {E : Nat} (w : World) (g : Nat) (vs : Array Value) (l : List Nat) (n : Nat) (hg : g = w.heap.size) (hv : vs.toList = bv l) (hn : l.length = n) (hm : n ≤ 1000) (hd : ∀ d ∈ l, d < 256) :
 OwnBytes (w.alloc (.cells vs E)) w.heap.size (some ⟨g, 0, none⟩) n n l := by
 subst hg
 refine ⟨⟨hn, Nat.le_refl _, by omega, hd, .inr ⟨_, 0, rfl, fun i hi => ?_⟩, (fun e => by cases e)⟩, .inr ⟨_, 0, rfl, Nat.le_refl _, fun i hi => ?_⟩⟩
 · rw [Nat.zero_add, World.cell?_alloc_at _ _ _ _ rfl, ← Array.getElem?_toList, hv]
   exact bv_at (by omega)
 · exact World.frozen?_alloc_at _ _ _ _ rfl
theorem D_drop (l : List Nat) (k i : Nat) : D (l.drop k) i = D l (k + i) := by
 simp [D, List.getD_eq_getElem?_getD, List.getElem?_drop]
theorem BytesAt.drop {w : World} {b o n c : Nat} {l : List Nat} (h : BytesAt w (some ⟨b, o, none⟩) n c l) {k : Nat} (hk : k ≤ n) : BytesAt w (some ⟨b, o + k, none⟩) (n - k) (c - k) (l.drop k) := by
 have h1 := h.len
 have h2 := h.le
 have h3 := h.cle
 refine ⟨by rw [List.length_drop, h1], by omega, by omega, fun x hx => h.dig x (List.mem_of_mem_drop hx), ?_, fun e => by cases e⟩
 rcases h.cell with h' | ⟨b', o', e, hc⟩
 · exact .inl (by omega)
 cases e
 refine .inr ⟨b, o + k, rfl, fun i hi => ?_⟩
 rw [Nat.add_assoc, D_drop]
 exact hc (k + i) (by omega)
theorem BytesAt.none_ (w : World) (a : Option Addr) (c : Nat) (h : c ≤ 9223372036854775807) (hn : a = none → c = 0) : BytesAt w a 0 c [] := ⟨rfl, Nat.zero_le _, h, by simp, .inl rfl, hn⟩
theorem BytesAt.take {w : World} {a : Option Addr} {n c m : Nat} {l : List Nat} (h : BytesAt w a n c l) (hm : m ≤ n) (c' : Nat) (h1 : m ≤ c') (h2 : c' ≤ c) : BytesAt w a m c' (l.take m) := by
 refine ⟨by have := h.len; rw [List.length_take]; omega, h1, by have := h.cle; omega, fun x hx => h.dig x (List.mem_of_mem_take hx), ?_, fun e => by have := h.nilc e; omega⟩
 rcases h.cell with h0 | ⟨b, o, he, hc⟩
 · exact .inl (by omega)
 · exact .inr ⟨b, o, he, fun i hi => by rw [D_take hi]; exact hc i (by omega)⟩
def chrs (l : List Nat) : List Nat := l.map (48 + ·)
theorem bytB_chrs (l : List Nat) : bytB (chrs l) = strB l := by
 unfold bytB chrs strB
 rw [List.map_map]
 rfl
theorem part_set (k d : Nat) (l : List Nat) (h : k < 19) : (List.replicate (19 - k) 0 ++ l).set (18 - k) d = List.replicate (18 - k) 0 ++ d :: l := by
 rw [show 19 - k = (18 - k) + 1 by omega, List.replicate_succ', List.append_assoc, List.set_append_right _ _ (by simp)]
 simp
theorem part_drop (k : Nat) (l : List Nat) : (List.replicate (19 - k) 0 ++ l).drop (19 - k) = l := by
 rw [List.drop_append]
 simp
theorem put_step {M : Nat} (hM : M ≠ 0) : digL 10 M = digL 10 (M / 10000000000000000000) ++ (if M / 10000000000000000000 = 0 then digL 10 (M % 10000000000000000000) else padL 10 19 (M % 10000000000000000000)) := by
 have := digL_block (b := 10) (by decide) 19 M hM (by decide)
 rwa [show (10 : Nat) ^ 19 = 10000000000000000000 by decide] at this
theorem join_empty (xs : List (List UInt8)) : Lib.join xs [] = xs.flatten := by
 cases xs with
 | nil => rfl
 | cons x r =>
   rw [Lib.join_cons]
   unfold Lib.joinTail
   simp
theorem digL_pow {x k : Nat} (h : x < 10 ^ k) : (digL 10 x).length ≤ k := by
 rcases Nat.lt_or_ge k (digL 10 x).length with h1 | h1
 · exfalso
   have hne : digL 10 x ≠ [] := fun e => by rw [e] at h1; simp at h1
   have h2 := val_ge (b := 10) (digL 10 x) hne (digL_head (by decide) x)
   rw [valL_digL (by decide)] at h2
   have h3 : (10 : Nat) ^ k ≤ 10 ^ ((digL 10 x).length - 1) := Nat.pow_le_pow_right (by decide) (by omega)
   omega
 · exact h1
theorem digL_limbs {l : List Nat} (hl : Dig l) : (digL 10 (val l)).length ≤ 20 * l.length := by
 refine digL_pow (Nat.lt_of_lt_of_le (val_lt hl) ?_)
 rw [Nat.pow_mul]
 exact Nat.pow_le_pow_left (by decide) _
theorem padL_stop {x k : Nat} (h : x / 10 ^ k = 0) (h2 : k = 0 ∨ x / 10 ^ (k - 1) ≠ 0) : digL 10 x = padL 10 k x := by
 have hp : 0 < 10 ^ k := Nat.pow_pos (by decide)
 refine digL_short (b := 10) (by decide) k x ?_ ?_
 · rcases Nat.lt_or_ge x (10 ^ k) with h3 | h3
   · exact h3
   · have := Nat.div_pos h3 hp; omega
 · rcases h2 with h2 | h2
   · exact .inl h2
   · refine .inr ?_
     rcases Nat.lt_or_ge x (10 ^ (k - 1)) with h3 | h3
     · exact absurd (Nat.div_eq_of_lt h3) h2
     · exact h3
end Go.Proofs.Ytoecndogaklngaa
