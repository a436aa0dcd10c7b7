/- ratio's functions as the laws call them. -/
import Derived.Test.YtlkoenpdmlbhlaaLaw05b
import Derived.Test.YtlkoenpdmlbhlaaRatio10
set_option linter.unusedVariables false
set_option linter.unusedSimpArgs false
namespace Go.Proofs.Ytlkoenpdmlbhlaa
open Go.RowKit

/-- a fraction's upper part -/
theorem fld0 (b : Bool) (a : Option Addr) (n c : Nat) (a2 : Option Addr) (n2 c2 : Nat) (w : World) : Sem.run Try.prog (Instr.field 36 (.agg #[.bool b, .slice a n c, .slice a2 n2 c2]) 0) w = Result.ok (.agg #[.bool b, .slice a n c]) w := by kernel_rfl
/-- none is told, and why -/
def RetErr (w : World) (x : Int) (e : Ending) (w' : World) : Prop :=
  ∃ a n c a2 n2 c2, e = .returned (.tuple #[.agg #[.bool false, .slice a n c, .slice a2 n2 c2], .int .i64 x]) ∧ Below w.heap.size w w'
theorem RetAns.err {w : World} {x : Int} {e : Ending} {w' : World} (h : RetAns w (.error x) e w') : RetErr w x e w' := by
  obtain ⟨a, n, c, a2, n2, c2, he, _, _, hb⟩ := h
  exact ⟨a, n, c, a2, n2, c2, he, hb⟩
def RetWh (w : World) (z : Int) (e : Ending) (w' : World) : Prop :=
  ∃ a n c, e = .returned (.tuple #[.agg #[.bool (neg z), .slice a n c], .int .i64 0]) ∧ OwnAt w' w.heap.size a n c (digs z.natAbs) ∧ Below w.heap.size w w'
theorem add_none0 (w : World) : Calls Try.prog 21 #[.slice none 0 0] w (RetOk w (fr 0 1)) := by
  have h := add_none w
  rwa [show (0 : Rat) = fr 0 1 from rfl] at h
theorem mul_none1 (w : World) : Calls Try.prog 34 #[.slice none 0 0] w (RetOk w (fr 1 1)) := by
  have h := mul_none w
  rwa [show (1 : Rat) = fr 1 1 from rfl] at h
theorem pair_zero (x : Int) (w : World) (hx : -9223372036854775808 ≤ x ∧ x ≤ 9223372036854775807) : Calls Try.prog 33 #[.int .i64 x, .int .i64 0] w (RetErr w 5) := by
  have h := pair05_any x 0 w hx (by decide)
  have e : pairR x 0 = .error 5 := by unfold pairR makeR; rw [if_neg (by rw [chkZ_canon]; simp), if_pos (by rw [val_digs]; rfl)]
  rw [e] at h
  exact h.mono fun _ _ h => h.err
theorem make_ok {p : Rat} {d : Nat} {q : Rat} {a : Option Addr} {n c : Nat} {a2 : Option Addr} {n2 c2 : Nat} {w : World} (g1 : NatAt w a n c (digs p.num.natAbs)) (g2 : NatAt w a2 n2 c2 [d]) (hd : d ≠ 0) (hq : mkRat p.num d = q) (hs : n ≤ 68719476736) (hs2 : n2 ≤ 68719476736) :
    Calls Try.prog 47 #[.agg #[.bool (neg p.num), .slice a n c], .slice a2 n2 c2] w (RetOk w q) := by
  have h := make05_any (neg p.num) a n c _ a2 n2 c2 _ w g1 g2 hs hs2
  have e : makeR (neg p.num) (digs p.num.natAbs) [d] = .ok q := by
    unfold makeR
    have hv : val [d] = d := by simp [val]
    rw [if_neg (by rw [chkZ_canon]; simp), if_neg (by rw [hv]; exact hd), sg_canon, hv, hq]
  rw [e] at h
  exact h
theorem cmp_rat {p q : Rat} {a1 : Option Addr} {n1 c1 : Nat} {a2 : Option Addr} {n2 c2 : Nat} {a3 : Option Addr} {n3 c3 : Nat} {a4 : Option Addr} {n4 c4 : Nat} {w : World} (g1 : NatAt w a1 n1 c1 (digs p.num.natAbs)) (g2 : NatAt w a2 n2 c2 (digs p.den)) (g3 : NatAt w a3 n3 c3 (digs q.num.natAbs)) (g4 : NatAt w a4 n4 c4 (digs q.den)) (hp : rlen p ≤ 1048576) (hq : rlen q ≤ 1048576) :
    Calls Try.prog 35 #[.agg #[.bool (neg p.num), .slice a1 n1 c1, .slice a2 n2 c2], .agg #[.bool (neg q.num), .slice a3 n3 c3, .slice a4 n4 c4]] w (RetVal w (.tuple #[.int .i64 (p - q).num.sign, .int .i64 0])) := by
  unfold rlen at hp hq
  have h := cmp05_any (neg p.num) (neg q.num) a1 n1 c1 a2 n2 c2 a3 n3 c3 a4 n4 c4 _ _ _ _ w g1 g2 g3 g4 (by have := g1.len; omega) (by have := g2.len; omega) (by have := g3.len; omega) (by have := g4.len; omega)
  have e := subA_rat p q
  unfold partsOf at e
  rw [e] at h
  exact h
theorem sub_rat {p q : Rat} {a1 : Option Addr} {n1 c1 : Nat} {a2 : Option Addr} {n2 c2 : Nat} {a3 : Option Addr} {n3 c3 : Nat} {a4 : Option Addr} {n4 c4 : Nat} {w : World} (g1 : NatAt w a1 n1 c1 (digs p.num.natAbs)) (g2 : NatAt w a2 n2 c2 (digs p.den)) (g3 : NatAt w a3 n3 c3 (digs q.num.natAbs)) (g4 : NatAt w a4 n4 c4 (digs q.den)) (hp : rlen p ≤ 1048576) (hq : rlen q ≤ 1048576) :
    Calls Try.prog 55 #[.agg #[.bool (neg p.num), .slice a1 n1 c1, .slice a2 n2 c2], .agg #[.bool (neg q.num), .slice a3 n3 c3, .slice a4 n4 c4]] w (RetOk w (p - q)) := by
  unfold rlen at hp hq
  exact sub05_rat p q _ _ _ _ _ _ _ _ _ _ _ _ w g1 g2 g3 g4 (by have := g1.len; omega) (by have := g2.len; omega) (by have := g3.len; omega) (by have := g4.len; omega)
theorem div_rat {p q : Rat} {a1 : Option Addr} {n1 c1 : Nat} {a2 : Option Addr} {n2 c2 : Nat} {a3 : Option Addr} {n3 c3 : Nat} {a4 : Option Addr} {n4 c4 : Nat} {w : World} (g1 : NatAt w a1 n1 c1 (digs p.num.natAbs)) (g2 : NatAt w a2 n2 c2 (digs p.den)) (g3 : NatAt w a3 n3 c3 (digs q.num.natAbs)) (g4 : NatAt w a4 n4 c4 (digs q.den)) (hp : rlen p ≤ 1048576) (hq : rlen q ≤ 1048576) (h0 : q ≠ 0) :
    Calls Try.prog 59 #[.agg #[.bool (neg p.num), .slice a1 n1 c1, .slice a2 n2 c2], .agg #[.bool (neg q.num), .slice a3 n3 c3, .slice a4 n4 c4]] w (RetOk w (p / q)) := by
  unfold rlen at hp hq
  exact div05_rat p q _ _ _ _ _ _ _ _ _ _ _ _ w g1 g2 g3 g4 (by have := g1.len; omega) (by have := g2.len; omega) (by have := g3.len; omega) (by have := g4.len; omega) h0
theorem div_zero05 {p q : Rat} {a1 : Option Addr} {n1 c1 : Nat} {a2 : Option Addr} {n2 c2 : Nat} {a3 : Option Addr} {n3 c3 : Nat} {a4 : Option Addr} {n4 c4 : Nat} {w : World} (g1 : NatAt w a1 n1 c1 (digs p.num.natAbs)) (g2 : NatAt w a2 n2 c2 (digs p.den)) (g3 : NatAt w a3 n3 c3 (digs q.num.natAbs)) (g4 : NatAt w a4 n4 c4 (digs q.den)) (hp : rlen p ≤ 1048576) (hq : rlen q ≤ 1048576) (h0 : q = 0) :
    Calls Try.prog 59 #[.agg #[.bool (neg p.num), .slice a1 n1 c1, .slice a2 n2 c2], .agg #[.bool (neg q.num), .slice a3 n3 c3, .slice a4 n4 c4]] w (RetErr w 5) := by
  unfold rlen at hp hq
  exact (div05_zero p q _ _ _ _ _ _ _ _ _ _ _ _ w g1 g2 g3 g4 (by have := g1.len; omega) (by have := g2.len; omega) (by have := g3.len; omega) (by have := g4.len; omega) h0).mono fun _ _ h => h.err

end Go.Proofs.Ytlkoenpdmlbhlaa
