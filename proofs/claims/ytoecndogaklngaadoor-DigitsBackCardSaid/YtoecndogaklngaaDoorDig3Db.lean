import Derived.Lib.Split
import Derived.Test.YtoecndogaklngaaDoorS0Db
import Derived.Test.YtoecndogaklngaaDoorNumDb
set_option linter.unusedVariables false
set_option linter.unusedSimpArgs false
namespace Go.Proofs.YtoecndogaklngaaDoor
theorem indexByte_slash : ∀ l : List UInt8, Lib.indexByte l 47 = if slashL l < l.length then (slashL l : Int) else -1
 | [] => rfl
 | c :: l => by
   have ih := indexByte_slash l
   have hle := slashL_le l
   by_cases hc : c = 47
   · subst hc
     rfl
   · have e : slashL (c :: l) = slashL l + 1 := by
      unfold slashL
      rw [List.takeWhile_cons_of_pos (by simpa using hc)]
      rfl
     rw [e]
     unfold Lib.indexByte
     rw [ih]
     have hb : (c == 47) = false := by simpa using hc
     by_cases h : slashL l < l.length
     · have h2 : slashL l + 1 < (c :: l).length := by simpa using h
       have e3 : ((slashL l : Int) == -1) = false := beq_eq_false_iff_ne.2 (by omega)
       simp only [hb, hc, h, h2, e3, if_true, if_false, Bool.false_eq_true]
       omega
     · have h2 : ¬ slashL l + 1 < (c :: l).length := by simpa using h
       simp only [hb, hc, h, h2, if_true, if_false, Bool.false_eq_true]
       rfl
theorem index_slash (l : List UInt8) : Lib.index l [47] = if slashL l < l.length then (slashL l : Int) else -1 := by rw [Lib.index_one, indexByte_slash]
theorem countFrom_enough : ∀ (f g : Nat) (l : List UInt8), l.length < f → l.length < g → Lib.countFrom [47] f l = Lib.countFrom [47] g l
 | 0, _, l, h, _ => by omega
 | _ + 1, 0, l, _, h => by omega
 | f + 1, g + 1, l, h1, h2 => by
   unfold Lib.countFrom
   rw [index_slash]
   by_cases h : slashL l < l.length
   · rw [if_pos h]
     have e : ((slashL l : Int) == -1) = false := beq_eq_false_iff_ne.2 (by omega)
     rw [e]
     have e2 : ((slashL l : Int)).toNat = slashL l := by omega
     rw [e2]
     simp only [Bool.false_eq_true, if_false]
     rw [countFrom_enough f g (l.drop (slashL l + [(47 : UInt8)].length)) (by rw [List.length_drop]; simp; omega) (by rw [List.length_drop]; simp; omega)]
   · rw [if_neg h]
     rfl
theorem count_none {l : List UInt8} (h : ¬ slashL l < l.length) : Lib.count l [47] = 0 := by
 unfold Lib.count Lib.countFrom
 rw [index_slash, if_neg h]
 rfl
theorem count_some {l : List UInt8} (h : slashL l < l.length) : Lib.count l [47] = Lib.count (l.drop (slashL l + 1)) [47] + 1 := by
 conv => lhs; unfold Lib.count Lib.countFrom
 rw [index_slash, if_pos h]
 have e : ((slashL l : Int) == -1) = false := beq_eq_false_iff_ne.2 (by omega)
 have e2 : ((slashL l : Int)).toNat = slashL l := by omega
 rw [e, e2]
 simp only [Bool.false_eq_true, if_false]
 unfold Lib.count
 rw [countFrom_enough l.length ((l.drop (slashL l + 1)).length + 1) (l.drop (slashL l + [(47 : UInt8)].length)) (by rw [List.length_drop]; simp; omega) (by simp)]
 simp
 omega
def pcs (l : List UInt8) : List (List UInt8) := Lib.splitK [47] 0 (Lib.count l [47]) l
theorem pcs_none {l : List UInt8} (h : ¬ slashL l < l.length) : pcs l = [l] := by
 unfold pcs
 rw [count_none h]
 rfl
theorem pcs_some {l : List UInt8} (h : slashL l < l.length) : pcs l = l.take (slashL l) :: pcs (l.drop (slashL l + 1)) := by
 unfold pcs
 rw [count_some h]
 conv => lhs; unfold Lib.splitK
 rw [index_slash, if_pos h]
 have e : ((slashL l : Int) == -1) = false := beq_eq_false_iff_ne.2 (by omega)
 have e2 : ((slashL l : Int)).toNat = slashL l := by omega
 rw [e, e2]
 simp
theorem pcs_len : ∀ l : List UInt8, (pcs l).length = Lib.count l [47] + 1 := by
 intro l
 induction h : l.length using Nat.strongRecOn generalizing l with
 | _ n ih =>
   by_cases hs : slashL l < l.length
   · rw [pcs_some hs, count_some hs, List.length_cons, ih (l.drop (slashL l + 1)).length (by rw [List.length_drop]; omega) _ rfl]
   · rw [pcs_none hs, count_none hs]
     rfl
theorem pcs_le : ∀ l : List UInt8, ∀ x ∈ pcs l, x.length ≤ l.length := by
 intro l
 induction h : l.length using Nat.strongRecOn generalizing l with
 | _ n ih =>
   intro x hx
   by_cases hs : slashL l < l.length
   · rw [pcs_some hs] at hx
     rcases List.mem_cons.1 hx with h1 | h1
     · subst h1; rw [List.length_take]; omega
     · have := ih (l.drop (slashL l + 1)).length (by rw [List.length_drop]; omega) _ rfl x h1
       rw [List.length_drop] at this
       omega
   · rw [pcs_none hs] at hx
     obtain rfl := List.mem_singleton.1 hx
     omega
theorem pcs_many : ∀ l : List UInt8, (pcs l).length ≤ l.length + 1 := by
 intro l
 induction h : l.length using Nat.strongRecOn generalizing l with
 | _ n ih =>
   by_cases hs : slashL l < l.length
   · rw [pcs_some hs, List.length_cons]
     have := ih (l.drop (slashL l + 1)).length (by rw [List.length_drop]; omega) _ rfl
     rw [List.length_drop] at this
     omega
   · rw [pcs_none hs]
     simp
theorem slash_bad {l : List UInt8} (h : slashL l < l.length) : okL l = false := by
 cases hk : okL l with
 | false => rfl
 | true =>
   have hf : fineL l = true := by unfold okL at hk; simp only [Bool.and_eq_true] at hk; exact hk.2
   have h1 := (fineL_bytes hf (slashL l) h).1
   rw [slashL_at h] at h1
   exact absurd h1 (by decide)
def partsP (l : List UInt8) : Option (Nat × Nat) :=
 match pcs l with
 | [x] => if okL x then some (getN x, 1) else none
 | [x, y] => if okL x && okL y then some (getN x, getN y) else none
 | _ => none
theorem partsP_readP (l : List UInt8) : readP l = (partsP (bareL l)).map fun p => (minusL l && decide (p.1 ≠ 0), p.1, p.2) := by
 obtain ⟨R, hR⟩ : ∃ R, bareL l = R := ⟨_, rfl⟩
 unfold readP partsP
 rw [hR]
 by_cases h1 : slashL R < R.length
 · rw [pcs_some h1]
   obtain ⟨T, hT⟩ : ∃ T, R.drop (slashL R + 1) = T := ⟨_, rfl⟩
   rw [hT, if_pos h1]
   by_cases h2 : slashL T < T.length
   · rw [slash_bad h2]
     have h3 := pcs_some h2
     have h4 : pcs T ≠ [] := by rw [h3]; simp
     have h5 : ∃ y z r, pcs T = y :: z :: r := by
      rw [h3]
      cases h6 : pcs (T.drop (slashL T + 1)) with
      | nil => have := pcs_len (T.drop (slashL T + 1)); rw [h6] at this; simp at this
      | cons z r => exact ⟨_, z, r, rfl⟩
     obtain ⟨y, z, r, h5⟩ := h5
     rw [h5]
     simp
   · rw [pcs_none h2]
     cases ha : okL (R.take (slashL R)) <;> cases hb : okL T <;> simp [ha, hb]
 · rw [pcs_none h1, if_neg h1]
   have e : R.take (slashL R) = R := List.take_of_length_le (by have := slashL_le R; omega)
   rw [e]
   cases ha : okL R <;> simp [ha]
theorem hasPrefix_minus (l : List UInt8) : Lib.hasPrefix l [45] = minusL l := by
 unfold Lib.hasPrefix minusL
 cases l with
 | nil => rfl
 | cons c l => simp [List.isPrefixOf]; rw [Bool.eq_iff_iff]; simp; exact eq_comm
theorem trimPrefix_bare (l : List UInt8) : Lib.trimPrefix l [45] = bareL l := by
 unfold Lib.trimPrefix bareL
 rw [hasPrefix_minus]
 rfl
end Go.Proofs.YtoecndogaklngaaDoor
