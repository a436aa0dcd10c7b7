namespace Go.Proofs.YtkhcblihbalnbaaGreatDoor
theorem lsA {α : Type} {l : List α} {i : Nat} {a : α} : l.toArray.setIfInBounds i a = (l.set i a).toArray := List.setIfInBounds_toArray ..
theorem lsZ {α : Type} {l : List α} {a b : α} : (a :: l).set 0 b = b :: l := rfl
theorem lsS {α : Type} {l : List α} {a b : α} {n : Nat} : (a :: l).set (n + 1) b = a :: l.set n b := rfl
theorem lgA {α : Type} {l : List α} {i : Nat} : l.toArray[i]? = l[i]? := List.getElem?_toArray ..
theorem lgZ {α : Type} {l : List α} {a : α} : (a :: l)[0]? = some a := rfl
theorem lgS {α : Type} {l : List α} {a : α} {i : Nat} : (a :: l)[i + 1]? = l[i]? := rfl
theorem nf {P : Prop} (h : false = true) : P := by cases h
theorem nLt {a b c : Nat} (h : a < b) (g : b ≤ c) : a < c := Nat.lt_of_lt_of_le h g
theorem nRf (a : Nat) : a ≤ a := Nat.le_refl a
theorem nTr {a b c : Nat} (h : a ≤ b) (g : b ≤ c) : a ≤ c := Nat.le_trans h g
theorem nOf {a b : Nat} (h : a < b) : a ≤ b := Nat.le_of_lt h
end Go.Proofs.YtkhcblihbalnbaaGreatDoor
