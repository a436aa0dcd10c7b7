import Derived.Lib.Split
import Derived.Test.YtoecndogaklngaaDoorS0Ds
import Derived.Test.YtoecndogaklngaaDoorNumDs
set_option linter.unusedVariables false
set_option linter.unusedSimpArgs false
namespace Go.Proofs.YtoecndogaklngaaDoor
def textP (b : Bool) (u d : Nat) : List UInt8 := (if b then [45] else []) ++ decB u ++ (if d = 1 then [] else 47 :: decB d)
def minusL (l : List UInt8) : Bool := l.head? == some 45
def bareL (l : List UInt8) : List UInt8 := if minusL l then l.drop 1 else l
def slashL (l : List UInt8) : Nat := (l.takeWhile (· != 47)).length
def readP (l : List UInt8) : Option (Bool × Nat × Nat) :=
 if okL ((bareL l).take (slashL (bareL l))) then
  if slashL (bareL l) < (bareL l).length then
   if okL ((bareL l).drop (slashL (bareL l) + 1)) then some (minusL l && decide (getN ((bareL l).take (slashL (bareL l))) ≠ 0), getN ((bareL l).take (slashL (bareL l))), getN ((bareL l).drop (slashL (bareL l) + 1))) else none
  else some (minusL l && decide (getN ((bareL l).take (slashL (bareL l))) ≠ 0), getN ((bareL l).take (slashL (bareL l))), 1)
 else none
def partsOk (l : List UInt8) (p : Bool × Nat × Nat) : Bool := decide (p.2.2 ≠ 0) && decide (Nat.gcd p.2.1 p.2.2 = 1) && decide (textP p.1 p.2.1 p.2.2 = l)
def readR (l : List UInt8) : Bool × Nat × Nat := if l.length ≤ 10000 then match readP l with | none => (false, 0, 0) | some p => if partsOk l p then p else (false, 0, 0) else (false, 0, 0)
def readOk (l : List UInt8) : Bool := decide ((readR l).2.2 ≠ 0)
def readE (l : List UInt8) : Nat := if 10000 < l.length then 4 else if readOk l then 0 else 6
def readA (l : List UInt8) : Nat := if 10000 < l.length then 10000 else 0
theorem slashL_le (l : List UInt8) : slashL l ≤ l.length := (List.takeWhile_prefix _).length_le
theorem slashL_none : ∀ (l : List UInt8), (∀ c ∈ l, c ≠ 47) → slashL l = l.length
 | [], _ => rfl
 | c :: l, h => by
   have hc := h c (List.mem_cons_self ..)
   have ih := slashL_none l fun x hx => h x (List.mem_cons_of_mem _ hx)
   unfold slashL at ih ⊢
   rw [List.takeWhile_cons_of_pos (by simpa using hc), List.length_cons, ih]
   rfl
theorem slashL_some : ∀ (l m : List UInt8), (∀ c ∈ l, c ≠ 47) → slashL (l ++ 47 :: m) = l.length
 | [], _, _ => rfl
 | c :: l, m, h => by
   have hc := h c (List.mem_cons_self ..)
   have ih := slashL_some l m fun x hx => h x (List.mem_cons_of_mem _ hx)
   unfold slashL at ih ⊢
   rw [List.cons_append, List.takeWhile_cons_of_pos (by simpa using hc), List.length_cons, ih]
   rfl
theorem slashL_at {l : List UInt8} (h : slashL l < l.length) : L8 l (slashL l) = 47 := by
 induction l with
 | nil => simp [slashL] at h
 | cons c l ih =>
   by_cases hc : c = 47
   · subst hc; rfl
   · have e : slashL (c :: l) = slashL l + 1 := by
      unfold slashL
      rw [List.takeWhile_cons_of_pos (by simpa using hc)]
      rfl
     rw [e] at h ⊢
     exact ih (by simpa using h)
theorem decB_byte {n : Nat} : ∀ c ∈ decB n, 48 ≤ c.toNat ∧ c.toNat ≤ 57 := by
 intro c hc
 unfold decB at hc
 obtain ⟨d, hd, rfl⟩ := List.mem_map.1 hc
 have := decL_lt n d hd
 unfold dchr
 rw [UInt8.toNat_ofNat']
 omega
theorem decB_noslash {n : Nat} : ∀ c ∈ decB n, c ≠ 47 := fun c hc e => by have := (decB_byte c hc).1; rw [e] at this; exact absurd this (by decide)
theorem decB_cons (n : Nat) : ∃ c l, decB n = c :: l ∧ 48 ≤ c.toNat := by
 have := decL_pos n
 have h2 := decB_len n
 cases h : decB n with
 | nil => rw [h] at h2; simp at h2; omega
 | cons c l => exact ⟨c, l, rfl, (decB_byte (n := n) c (by rw [h]; exact List.mem_cons_self ..)).1⟩
theorem textP_minus (b : Bool) (u d : Nat) : minusL (textP b u d) = b ∧ bareL (textP b u d) = decB u ++ (if d = 1 then [] else 47 :: decB d) := by
 have key : minusL (textP b u d) = b := by
  cases b
  · obtain ⟨c, l, h, hc⟩ := decB_cons u
    unfold minusL textP
    rw [h]
    simp
    intro e
    rw [e] at hc
    exact absurd hc (by decide)
  · rfl
 refine ⟨key, ?_⟩
 unfold bareL
 rw [key]
 cases b <;> rfl
theorem textP_len (b : Bool) (u d : Nat) : (decB u).length ≤ (textP b u d).length ∧ (d ≠ 1 → (decB d).length ≤ (textP b u d).length) := by
 unfold textP
 refine ⟨by simp; omega, fun h => ?_⟩
 rw [if_neg h]
 simp
 omega
theorem read_text {b : Bool} {u d : Nat} (hd : d ≠ 0) (hg : Nat.gcd u d = 1) (hb : b = true → u ≠ 0) (hl : (textP b u d).length ≤ 10000) : readR (textP b u d) = (b, u, d) := by
 obtain ⟨h1, h2⟩ := textP_minus b u d
 obtain ⟨l1, l2⟩ := textP_len b u d
 have hu := okL_dec (n := u) (by rw [← decB_len]; omega)
 have eb : (b && decide (u ≠ 0)) = b := by
  cases b
  · rfl
  · simp [hb rfl]
 have key : readP (textP b u d) = some (b, u, d) := by
  unfold readP
  rw [h2, h1]
  by_cases e : d = 1
  · subst e
    rw [if_pos rfl, List.append_nil, slashL_none _ decB_noslash, List.take_length, if_pos hu.1, if_neg (Nat.lt_irrefl _), hu.2, eb]
  · have hdd := okL_dec (n := d) (by rw [← decB_len]; have := l2 e; omega)
    rw [if_neg e, slashL_some _ _ decB_noslash, List.take_left, if_pos hu.1, if_pos (by simp)]
    have e2 : (decB u ++ 47 :: decB d).drop ((decB u).length + 1) = decB d := by
     rw [List.drop_append]
     simp
    rw [e2, if_pos hdd.1, hu.2, hdd.2, eb]
 unfold readR
 rw [if_pos hl, key]
 simp only
 rw [if_pos]
 unfold partsOk
 simp [hd, hg]
theorem readOk_back {l : List UInt8} (h : readOk l = true) : l.length ≤ 10000 ∧ (readR l).2.2 ≠ 0 ∧ Nat.gcd (readR l).2.1 (readR l).2.2 = 1 ∧ textP (readR l).1 (readR l).2.1 (readR l).2.2 = l ∧ ((readR l).1 = true → (readR l).2.1 ≠ 0) := by
 unfold readOk at h
 rw [decide_eq_true_eq] at h
 unfold readR at h ⊢
 by_cases hl : l.length ≤ 10000
 · rw [if_pos hl] at h ⊢
   cases hp : readP l with
   | none => rw [hp] at h; exact absurd rfl h
   | some p =>
     rw [hp] at h
     simp only at h ⊢
     by_cases hk : partsOk l p = true
     · rw [if_pos hk] at h ⊢
       unfold partsOk at hk
       simp only [Bool.and_eq_true, decide_eq_true_eq] at hk
       refine ⟨hl, hk.1.1, hk.1.2, hk.2, fun e => ?_⟩
       unfold readP at hp
       split at hp
       · split at hp
         · split at hp
           · cases hp; simp only [Bool.and_eq_true, decide_eq_true_eq] at e; exact e.2
           · cases hp
         · cases hp; simp only [Bool.and_eq_true, decide_eq_true_eq] at e; exact e.2
       · cases hp
     · rw [if_neg hk] at h; exact absurd rfl h
 · rw [if_neg hl] at h; exact absurd rfl h
theorem readE_ok (l : List UInt8) : readE l = 0 ↔ readOk l = true := by
 unfold readE
 by_cases h : 10000 < l.length
 · rw [if_pos h]
   refine ⟨fun e => absurd e (by decide), fun e => ?_⟩
   have := (readOk_back e).1
   omega
 · rw [if_neg h]
   cases readOk l <;> simp
end Go.Proofs.YtoecndogaklngaaDoor
set_option linter.unusedVariables false
set_option linter.unusedSimpArgs false
namespace Go.Proofs.YtoecndogaklngaaDoor
theorem indexByte_slash : ∀ l : List UInt8, Lib.indexByte l 47 = if slashL l < l.length then (slashL l : Int) else -1
 | [] => rfl
 | c :: l => by
   have ih := indexByte_slash l
   have hle := slashL_le l
   by_cases hc : c = 47
   · subst hc
     rfl
   · have e : slashL (c :: l) = slashL l + 1 := by
      unfold slashL
      rw [List.takeWhile_cons_of_pos (by simpa using hc)]
      rfl
     rw [e]
     unfold Lib.indexByte
     rw [ih]
     have hb : (c == 47) = false := by simpa using hc
     by_cases h : slashL l < l.length
     · have h2 : slashL l + 1 < (c :: l).length := by simpa using h
       have e3 : ((slashL l : Int) == -1) = false := beq_eq_false_iff_ne.2 (by omega)
       simp only [hb, hc, h, h2, e3, if_true, if_false, Bool.false_eq_true]
       omega
     · have h2 : ¬ slashL l + 1 < (c :: l).length := by simpa using h
       simp only [hb, hc, h, h2, if_true, if_false, Bool.false_eq_true]
       rfl
theorem index_slash (l : List UInt8) : Lib.index l [47] = if slashL l < l.length then (slashL l : Int) else -1 := by rw [Lib.index_one, indexByte_slash]
theorem countFrom_enough : ∀ (f g : Nat) (l : List UInt8), l.length < f → l.length < g → Lib.countFrom [47] f l = Lib.countFrom [47] g l
 | 0, _, l, h, _ => by omega
 | _ + 1, 0, l, _, h => by omega
 | f + 1, g + 1, l, h1, h2 => by
   unfold Lib.countFrom
   rw [index_slash]
   by_cases h : slashL l < l.length
   · rw [if_pos h]
     have e : ((slashL l : Int) == -1) = false := beq_eq_false_iff_ne.2 (by omega)
     rw [e]
     have e2 : ((slashL l : Int)).toNat = slashL l := by omega
     rw [e2]
     simp only [Bool.false_eq_true, if_false]
     rw [countFrom_enough f g (l.drop (slashL l + [(47 : UInt8)].length)) (by rw [List.length_drop]; simp; omega) (by rw [List.length_drop]; simp; omega)]
   · rw [if_neg h]
     rfl
theorem count_none {l : List UInt8} (h : ¬ slashL l < l.length) : Lib.count l [47] = 0 := by
 unfold Lib.count Lib.countFrom
 rw [index_slash, if_neg h]
 rfl
theorem count_some {l : List UInt8} (h : slashL l < l.length) : Lib.count l [47] = Lib.count (l.drop (slashL l + 1)) [47] + 1 := by
 conv => lhs; unfold Lib.count Lib.countFrom
 rw [index_slash, if_pos h]
 have e : ((slashL l : Int) == -1) = false := beq_eq_false_iff_ne.2 (by omega)
 have e2 : ((slashL l : Int)).toNat = slashL l := by omega
 rw [e, e2]
 simp only [Bool.false_eq_true, if_false]
 unfold Lib.count
 rw [countFrom_enough l.length ((l.drop (slashL l + 1)).length + 1) (l.drop (slashL l + [(47 : UInt8)].length)) (by rw [List.length_drop]; simp; omega) (by simp)]
 simp
 omega
def pcs (l : List UInt8) : List (List UInt8) := Lib.splitK [47] 0 (Lib.count l [47]) l
theorem pcs_none {l : List UInt8} (h : ¬ slashL l < l.length) : pcs l = [l] := by
 unfold pcs
 rw [count_none h]
 rfl
theorem pcs_some {l : List UInt8} (h : slashL l < l.length) : pcs l = l.take (slashL l) :: pcs (l.drop (slashL l + 1)) := by
 unfold pcs
 rw [count_some h]
 conv => lhs; unfold Lib.splitK
 rw [index_slash, if_pos h]
 have e : ((slashL l : Int) == -1) = false := beq_eq_false_iff_ne.2 (by omega)
 have e2 : ((slashL l : Int)).toNat = slashL l := by omega
 rw [e, e2]
 simp
theorem pcs_len : ∀ l : List UInt8, (pcs l).length = Lib.count l [47] + 1 := by
 intro l
 induction h : l.length using Nat.strongRecOn generalizing l with
 | _ n ih =>
   by_cases hs : slashL l < l.length
   · rw [pcs_some hs, count_some hs, List.length_cons, ih (l.drop (slashL l + 1)).length (by rw [List.length_drop]; omega) _ rfl]
   · rw [pcs_none hs, count_none hs]
     rfl
theorem pcs_le : ∀ l : List UInt8, ∀ x ∈ pcs l, x.length ≤ l.length := by
 intro l
 induction h : l.length using Nat.strongRecOn generalizing l with
 | _ n ih =>
   intro x hx
   by_cases hs : slashL l < l.length
   · rw [pcs_some hs] at hx
     rcases List.mem_cons.1 hx with h1 | h1
     · subst h1; rw [List.length_take]; omega
     · have := ih (l.drop (slashL l + 1)).length (by rw [List.length_drop]; omega) _ rfl x h1
       rw [List.length_drop] at this
       omega
   · rw [pcs_none hs] at hx
     obtain rfl := List.mem_singleton.1 hx
     omega
theorem pcs_many : ∀ l : List UInt8, (pcs l).length ≤ l.length + 1 := by
 intro l
 induction h : l.length using Nat.strongRecOn generalizing l with
 | _ n ih =>
   by_cases hs : slashL l < l.length
   · rw [pcs_some hs, List.length_cons]
     have := ih (l.drop (slashL l + 1)).length (by rw [List.length_drop]; omega) _ rfl
     rw [List.length_drop] at this
     omega
   · rw [pcs_none hs]
     simp
theorem slash_bad {l : List UInt8} (h : slashL l < l.length) : okL l = false := by
 cases hk : okL l with
 | false => rfl
 | true =>
   have hf : fineL l = true := by unfold okL at hk; simp only [Bool.and_eq_true] at hk; exact hk.2
   have h1 := (fineL_bytes hf (slashL l) h).1
   rw [slashL_at h] at h1
   exact absurd h1 (by decide)
def partsP (l : List UInt8) : Option (Nat × Nat) :=
 match pcs l with
 | [x] => if okL x then some (getN x, 1) else none
 | [x, y] => if okL x && okL y then some (getN x, getN y) else none
 | _ => none
theorem partsP_readP (l : List UInt8) : readP l = (partsP (bareL l)).map fun p => (minusL l && decide (p.1 ≠ 0), p.1, p.2) := by
 obtain ⟨R, hR⟩ : ∃ R, bareL l = R := ⟨_, rfl⟩
 unfold readP partsP
 rw [hR]
 by_cases h1 : slashL R < R.length
 · rw [pcs_some h1]
   obtain ⟨T, hT⟩ : ∃ T, R.drop (slashL R + 1) = T := ⟨_, rfl⟩
   rw [hT, if_pos h1]
   by_cases h2 : slashL T < T.length
   · rw [slash_bad h2]
     have h3 := pcs_some h2
     have h4 : pcs T ≠ [] := by rw [h3]; simp
     have h5 : ∃ y z r, pcs T = y :: z :: r := by
      rw [h3]
      cases h6 : pcs (T.drop (slashL T + 1)) with
      | nil => have := pcs_len (T.drop (slashL T + 1)); rw [h6] at this; simp at this
      | cons z r => exact ⟨_, z, r, rfl⟩
     obtain ⟨y, z, r, h5⟩ := h5
     rw [h5]
     simp
   · rw [pcs_none h2]
     cases ha : okL (R.take (slashL R)) <;> cases hb : okL T <;> simp [ha, hb]
 · rw [pcs_none h1, if_neg h1]
   have e : R.take (slashL R) = R := List.take_of_length_le (by have := slashL_le R; omega)
   rw [e]
   cases ha : okL R <;> simp [ha]
theorem hasPrefix_minus (l : List UInt8) : Lib.hasPrefix l [45] = minusL l := by
 unfold Lib.hasPrefix minusL
 cases l with
 | nil => rfl
 | cons c l => simp [List.isPrefixOf]; rw [Bool.eq_iff_iff]; simp; exact eq_comm
theorem trimPrefix_bare (l : List UInt8) : Lib.trimPrefix l [45] = bareL l := by
 unfold Lib.trimPrefix bareL
 rw [hasPrefix_minus]
 rfl
end Go.Proofs.YtoecndogaklngaaDoor
