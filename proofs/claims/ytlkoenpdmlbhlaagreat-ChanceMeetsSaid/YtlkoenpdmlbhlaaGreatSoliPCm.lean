import Derived.Deep.RegionHeld3
import Derived.Lib.MinMax
import Derived.Test.YtlkoenpdmlbhlaaGreatS0Cm
import Derived.Test.YtlkoenpdmlbhlaaGreatLaw05bCm
import Derived.Test.YtlkoenpdmlbhlaaGreatA9Cm
import Derived.Test.YtlkoenpdmlbhlaaGreatB1Cm
import Derived.Test.YtlkoenpdmlbhlaaGreatA1Cm
import Derived.Test.YtlkoenpdmlbhlaaGreatA7Cm
import Derived.Test.YtlkoenpdmlbhlaaGreatA6Cm
import Derived.Test.YtlkoenpdmlbhlaaGreatA5Cm
set_option linter.unusedVariables false
set_option linter.unusedSimpArgs false
namespace Go.Proofs.YtlkoenpdmlbhlaaGreat
open Go.RowKit
def upS (g : Nat → Int) : Nat → Int
 | 0 => 0
 | i + 1 => upS g i + g i * ((i + 1 : Nat) : Int)
def totS (g : Nat → Int) : Nat → Int
 | 0 => 0
 | i + 1 => totS g i + g i
theorem totS_in {g : Nat → Int} : ∀ n, (∀ i, i < n → 0 ≤ g i ∧ g i ≤ 16777215) → 0 ≤ totS g n ∧ totS g n ≤ n * 16777215
 | 0, _ => by simp [totS]
 | n + 1, e => by
   have h := totS_in n fun i hi => e i (by omega)
   have := e n (by omega)
   rw [totS]
   omega
theorem upS_in {g : Nat → Int} : ∀ n, (∀ i, i < n → 0 ≤ g i) → totS g n ≤ upS g n ∧ upS g n ≤ n * totS g n ∧ 0 ≤ totS g n
 | 0, _ => by simp [totS, upS]
 | n + 1, e => by
   obtain ⟨h1, h2, h3⟩ := upS_in n fun i hi => e i (by omega)
   have := e n (by omega)
   rw [totS, upS]
   generalize totS g n = t at *
   generalize upS g n = u at *
   generalize g n = x at *
   have e1 : x * ((n + 1 : Nat) : Int) = x * n + x := by rw [Int.natCast_add, Int.mul_add, Int.natCast_one, Int.mul_one]
   have e2 : ((n + 1 : Nat) : Int) * (t + x) = n * t + t + (n * x + x) := by rw [Int.natCast_add, Int.add_mul, Int.natCast_one, Int.one_mul, Int.mul_add]; omega
   have e3 : (n : Int) * x = x * n := Int.mul_comm _ _
   have e4 : 0 ≤ x * n := Int.mul_nonneg this (by omega)
   rw [e1, e2, e3]
   omega
theorem sumW_tot {zs : List Int} : ∀ n, n ≤ 65536 → (∀ i, i < n → 0 ≤ zs.getD i 0 ∧ zs.getD i 0 ≤ 16777215) → sumW zs n = totS (fun i => zs.getD i 0) n
 | 0, _, _ => rfl
 | n + 1, h, e => by
   have h1 := totS_in (g := fun i => zs.getD i 0) n fun i hi => e i (by omega)
   have h2 := e n (by omega)
   rw [sumW, totS, sumW_tot n (by omega) fun i hi => e i (by omega)]
   unfold wrap64
   generalize totS (fun i => zs.getD i 0) n = t at *
   generalize zs.getD n 0 = x at *
   omega
theorem okT_in {zs : List Int} {k : Int} (h : okT zs k) : ∀ i, i < zs.length → 0 ≤ zs.getD i 0 ∧ zs.getD i 0 ≤ 16777215 := fun i hi => h.2.2.2.2.1 _ (getD_mem' hi)
theorem totS_pos {g : Nat → Int} : ∀ n, (∀ i, i < n → 0 ≤ g i) → (∃ i, i < n ∧ 0 < g i) → 0 < totS g n
 | 0, _, h => by obtain ⟨i, hi, _⟩ := h; omega
 | n + 1, e, h => by
   have h3 := (upS_in n fun i hi => e i (by omega)).2.2
   obtain ⟨i, hi, hp⟩ := h
   rw [totS]
   by_cases hin : i = n
   · subst hin; omega
   · have := totS_pos n (fun i hi => e i (by omega)) ⟨i, by omega, hp⟩
     have := e n (by omega)
     omega
theorem okT_pos {zs : List Int} {k : Int} (h : okT zs k) : 0 < totS (fun i => zs.getD i 0) zs.length := by
 obtain ⟨z, hz, h0⟩ := h.2.2.2.2.2
 obtain ⟨i, hi, rfl⟩ := List.getElem_of_mem hz
 refine totS_pos _ (fun i hi => (okT_in h i hi).1) ⟨i, hi, ?_⟩
 simp only [List.getD_eq_getElem?_getD, List.getElem?_eq_getElem hi]
 exact h0
end Go.Proofs.YtlkoenpdmlbhlaaGreat
set_option linter.unusedVariables false
set_option linter.unusedSimpArgs false
namespace Go.Proofs.YtlkoenpdmlbhlaaGreat
open Go.RowKit
set_option maxRecDepth 100000 in
set_option maxHeartbeats 4000000 in
theorem total_any (a : Option Addr) (n c : Nat) (zs : List Int) (w : World) (g : IntsAt w a n c zs) :
 Calls Tryz.prog 31 #[.slice a n c] w (RetVal w (.int .i64 (sumW zs n))) := by
 have hcle := g.cle
 have hle := g.le
 have hm : n ≤ 9223372036854775807 := by unfold maxLen at hcle; omega
 have h0 : sumW zs 0 = 0 := rfl
 obtain ⟨SF, hSF⟩ : ∃ SF, sumW zs = SF := ⟨_, rfl⟩
 rw [hSF] at h0 ⊢
 have hs : ∀ j, SF (j + 1) = wrap64 (SF j + zs.getD j 0) := fun j => by rw [← hSF]; rfl
 have HS := Lib.hid hs
 have H0 := Lib.hid h0
 clear hs h0 hSF
 go_enter Tryz.func31, Tryz.ntmps31
 go_wp2
 obtain ⟨w1, hW, hz, hb, q, f⟩ := box1g w w.heap.size rfl #[.int .i64 0] 3
 rw [hW]
 clear hW
 have x0 : BoxAt w1 w.heap.size 1 := BoxAt.of q f rfl (by simp [notU_i64])
 have q0 := q 0
 simp only [lgA, lgZ] at q0
 have hlt : w.heap.size < w1.heap.size := by omega
 clear q f hz
 generalize hBB : w.heap.size = BB at *
 go_loopw [5, 9] (fun x i wr => ∃ (j : Nat), j ≤ n ∧ i = .int .i64 (j : Int) ∧ Below w.heap.size w wr ∧ BB < wr.heap.size ∧ wr.cell? ⟨BB, 0, none⟩ = some (.int .i64 (SF j)) ∧ BoxAt wr BB 1) (fun x i _ => n - (intOf i).toNat)
 case atStart => exact ⟨0, Nat.zero_le _, rfl, by rw [hBB]; exact hb, hlt, by rw [H0.out]; exact q0, x0⟩
 case round =>
  clear hb hlt q0 x0
  obtain ⟨j, hj, rfl, hB, hlt2, q0, x0⟩ := hrel
  by_cases hlt : j < n
  · rcases (g.past hB).cell with h0 | ⟨b, o, rfl, hbl, hc⟩
    · omega
    have q := hc j hlt
    have hs := HS.out j
    obtain ⟨z, hz⟩ : ∃ z, zs.getD j 0 = z := ⟨_, rfl⟩
    rw [hz] at q hs
    obtain ⟨S, hS⟩ : ∃ S, SF j = S := ⟨_, rfl⟩
    rw [hS] at hs q0
    have HSS := Lib.hid hs
    clear hs hS hz hc
    go_wp2_with fail
    have hf := x0.f 0 (by decide)
    with_reducible refine (total1_any _ S z _ q0 hf).mono ?_
    rintro e w2 ⟨rfl, rfl⟩
    go_wp2
    go_roundw
    case rel => exact ⟨j + 1, by omega, by go_num, hB.setCell (p := ⟨BB, 0, none⟩) (Nat.le_of_eq hBB) _, by simpa using hlt2, by rw [HSS.out]; exact World.cell?_setCell_same _ _ _ q0, x0.set ⟨BB, 0, none⟩ _ (notU_i64 _)⟩
    case measure => simp [intOf]; omega
  · obtain rfl : j = n := by omega
    obtain ⟨S, hS⟩ : ∃ S, SF j = S := ⟨_, rfl⟩
    rw [hS] at q0
    have HSS := Lib.hid hS
    clear hS
    have hf := x0.f 0 (by decide)
    go_wp2
    refine bodyPost_ret (v := .int .i64 S) ?_ rfl ⟨by rw [HSS.out], hB.setCell (p := ⟨BB, 0, none⟩) (Nat.le_of_eq hBB) _⟩
    simp [results, Tryz.f31, go_sem, World.cell?_setCell_same _ _ _ q0]
end Go.Proofs.YtlkoenpdmlbhlaaGreat
set_option linter.unusedVariables false
set_option linter.unusedSimpArgs false
namespace Go.Proofs.YtlkoenpdmlbhlaaGreat
open Go.RowKit
section
variable {P : Program} {Q : Exit → Act → World → Prop} {md : Region.Mode} {S : World → Prop}
theorem takeL {L : List Oper} (i : Nat) {oi : Oper} (v : Value) {fuel : Nat} {listed : Array Bool} {a : Act} {w : World} (hi : L[i]? = some oi)
 (hs : Region.noSelect L.toArray = true) (hf : Region.free md L.toArray listed i = true) (hr : (Region.ready md L.toArray listed).contains i = true)
 (hQ : ∀ c a w, Q (.panic c) (a.put oi.dst v) w → Q (.panic c) a w) (hy : YieldsIf P L.toArray S oi v a) (hS : S w)
 (h : wpAnyH P md L.toArray Q S fuel (listed.setIfInBounds i true) (a.put oi.dst v) w) : wpAnyH P md L.toArray Q S (fuel + 1) listed a w :=
 wpAnyH_take (ops := L.toArray) (by rw [lgA]; exact hi) hs hf hr hQ hy hS h
theorem consL {L : List Oper} {fuel : Nat} {listed : Array Bool} {a : Act} {w : World} {i : Nat} {o : Oper} {rs : List Nat} (ho : L[i]? = some o)
 (h : ∀ K' : Act → World → Prop, Shut (∀ a w, S w → (S w → wpAnyH P md L.toArray Q S fuel (listed.setIfInBounds i true) a w) → K' a w) → if Region.wanted o (yielded L.toArray a.tmps) = true then Oper.wp P o a w K' Q else K' (a.put o.dst undef) w)
 (hs : AllReadyH P md L.toArray Q S fuel listed a w rs) : AllReadyH P md L.toArray Q S fuel listed a w (i :: rs) :=
 AllReadyH.cons (ops := L.toArray) (by rw [lgA]; exact ho) h hs
end
end Go.Proofs.YtlkoenpdmlbhlaaGreat
set_option linter.unusedVariables false
set_option linter.unusedSimpArgs false
namespace Go.Proofs.YtlkoenpdmlbhlaaGreat
open Go.RowKit
def LstV (B n : Nat) (cs : List Value) (y : Value) (w : World) : Prop := ∃ g, y = .slice (some ⟨g, 0, none⟩) n n ∧ B ≤ g ∧ g < w.heap.size ∧ Cells w g cs
theorem LstV.past {B n : Nat} {cs : List Value} {y : Value} {w w' : World} (h : LstV B n cs y w) (hb : Below w.heap.size w w') : LstV B n cs y w' := by
 obtain ⟨g, e, h1, h2, h3⟩ := h; exact ⟨g, e, h1, Nat.lt_of_lt_of_le h2 hb.size, h3.past hb h2⟩
theorem LstV.new {B n : Nat} {w : World} (hB : B ≤ w.heap.size) (cs : List Value) (E : Nat) : LstV B n cs (.slice (some ⟨w.heap.size, 0, none⟩) n n) (w.alloc (.cells cs.toArray E)) :=
 ⟨_, rfl, hB, by simp, fun k hk => by rw [World.cell?_alloc_at _ _ _ _ rfl, lgA]⟩
def OkV (B : Nat) (q : Rat) (y : Value) (w : World) : Prop := ∃ a n c a2 n2 c2, y = .tuple #[.agg #[.bool (neg q.num), .slice a n c, .slice a2 n2 c2], .int .i64 0] ∧ OwnAt w B a n c (digs q.num.natAbs) ∧ OwnAt w B a2 n2 c2 (digs q.den)
theorem OkV.past {w w' : World} {B : Nat} {q : Rat} {y : Value} (h : OkV B q y w) (hb : Below w.heap.size w w') : OkV B q y w' := by
 obtain ⟨a, n, c, a2, n2, c2, e, h, h2⟩ := h; exact ⟨a, n, c, a2, n2, c2, e, h.later hb (Nat.le_refl _), h2.later hb (Nat.le_refl _)⟩
theorem OkV.sets {w : World} {B b k : Nat} {q : Rat} {y : Value} (h : OkV B q y w) (vs : List Value) (hx : BoxAt w b k) (hk : 0 + vs.length ≤ k) (hv : ∀ v ∈ vs, notU v) : OkV B q y (w.setCells b 0 vs) := by
 obtain ⟨a, n, c, a2, n2, c2, e, h, h2⟩ := h; exact ⟨a, n, c, a2, n2, c2, e, OwnAt.sets vs 0 w h hx hk hv, OwnAt.sets vs 0 w h2 hx hk hv⟩
end Go.Proofs.YtlkoenpdmlbhlaaGreat
set_option linter.unusedVariables false
set_option linter.unusedSimpArgs false
namespace Go.Proofs.YtlkoenpdmlbhlaaGreat
open Go.RowKit
theorem make_okR {z : Int} {T : Nat} {q : Rat} {a : Option Addr} {n c : Nat} {a2 : Option Addr} {n2 c2 : Nat} {w : World} (g1 : NatAt w a n c (digs z.natAbs)) (g2 : NatAt w a2 n2 c2 (digs T)) (hq : makeR (neg z) (digs z.natAbs) (digs T) = .ok q) (hs : n ≤ 68719476736) (hs2 : n2 ≤ 68719476736) :
 Calls Tryz.prog 112 #[.agg #[.bool (neg z), .slice a n c], .slice a2 n2 c2] w (RetOk w q) := by
 have h := make05_any (neg z) a n c _ a2 n2 c2 _ w g1 g2 hs hs2
 rw [hq] at h
 exact h
end Go.Proofs.YtlkoenpdmlbhlaaGreat
set_option linter.unusedVariables false
set_option linter.unusedSimpArgs false
namespace Go.Proofs.YtlkoenpdmlbhlaaGreat
def ch : Nat → Nat → Nat
 | _, 0 => 1
 | 0, _ + 1 => 0
 | n + 1, k + 1 => ch n k + ch n (k + 1)
theorem ch_zero (n : Nat) : ch n 0 = 1 := by cases n <;> rfl
theorem ch_succ (n k : Nat) : ch (n + 1) (k + 1) = ch n k + ch n (k + 1) := rfl
theorem ch_gt : ∀ {n k : Nat}, n < k → ch n k = 0
 | _, 0, h => by omega
 | 0, _ + 1, _ => rfl
 | n + 1, k + 1, h => by rw [ch_succ, ch_gt (show n < k by omega), ch_gt (show n < k + 1 by omega)]
theorem ch_self : ∀ n : Nat, ch n n = 1
 | 0 => rfl
 | n + 1 => by rw [ch_succ, ch_self n, ch_gt (Nat.lt_succ_self n)]
theorem ch_absorb : ∀ n k : Nat, (k + 1) * ch (n + 1) (k + 1) = (n + 1) * ch n k := by
 intro n
 induction n with
 | zero =>
   intro k
   cases k with
   | zero => rfl
   | succ k => rw [ch_succ, ch_gt (show 0 < k + 1 by omega), ch_gt (show 0 < k + 1 + 1 by omega)]; simp
 | succ n ih =>
   intro k
   cases k with
   | zero =>
     have h := ih 0
     rw [ch_zero] at h
     rw [ch_succ, ch_zero]
     omega
   | succ k =>
     have h1 := ih (k + 1)
     have h2 := ih k
     rw [ch_succ (n + 1) (k + 1), Nat.mul_add, h1, ch_succ n k, Nat.mul_add]
     have e1 : (k + 1 + 1) * ch (n + 1) (k + 1) = (k + 1) * ch (n + 1) (k + 1) + ch (n + 1) (k + 1) := Nat.succ_mul _ _
     rw [ch_succ n k] at e1 h2
     have e2 : (n + 1 + 1) * ch n k = (n + 1) * ch n k + ch n k := Nat.succ_mul _ _
     have e3 : (n + 1 + 1) * ch n (k + 1) = (n + 1) * ch n (k + 1) + ch n (k + 1) := Nat.succ_mul _ _
     rw [← Nat.mul_add, e1, Nat.mul_add (n + 1 + 1), e2, e3]
     omega
theorem ch_step {n k : Nat} (h : k ≤ n) : ch n k * (n - k) = ch n (k + 1) * (k + 1) := by
 have h1 := ch_absorb n k
 rw [ch_succ, Nat.mul_add] at h1
 obtain ⟨m, rfl⟩ : ∃ m, n = k + m := ⟨n - k, by omega⟩
 rw [show k + m - k = m by omega, Nat.mul_comm _ m, Nat.mul_comm _ (k + 1)]
 have e := Nat.add_mul (k + 1) m (ch (k + m) k)
 rw [show k + m + 1 = (k + 1) + m by omega, e] at h1
 omega
theorem ch_symm_add : ∀ s a b : Nat, a + b = s → ch s a = ch s b := by
 intro s
 induction s with
 | zero => intro a b h; rw [show a = 0 by omega, show b = 0 by omega]
 | succ s ih =>
   intro a b h
   cases a with
   | zero => rw [show b = s + 1 by omega, ch_zero, ch_self]
   | succ a =>
     cases b with
     | zero => rw [show a = s by omega, ch_zero, ch_self]
     | succ b =>
       rw [ch_succ, ch_succ, ih a (b + 1) (by omega), ih (a + 1) b (by omega), Nat.add_comm]
theorem ch_symm {n k : Nat} (h : k ≤ n) : ch n k = ch n (n - k) := ch_symm_add n k (n - k) (by omega)
theorem ch_len {n : Nat} (hn : n < 18446744073709551616) : ∀ k, (digs (ch n k)).length ≤ k + 1
 | 0 => by rw [ch_zero]; exact digs_length_le.2 (by decide)
 | k + 1 => by
   by_cases h : k ≤ n
   · have h1 := ch_len hn k
     have h2 := ch_step h
     have h3 : ch n (k + 1) ≤ ch n k * (n - k) := by rw [h2]; exact Nat.le_mul_of_pos_right _ (Nat.succ_pos k)
     exact Nat.le_trans (digs_len_mono h3) (len_mulN h1 (digs_length_le.2 (by rw [Nat.pow_one]; omega)))
   · rw [ch_gt (by omega)]; exact Nat.zero_le _
end Go.Proofs.YtlkoenpdmlbhlaaGreat
set_option linter.unusedVariables false
set_option linter.unusedSimpArgs false
namespace Go.Proofs.YtlkoenpdmlbhlaaGreat
open Go.RowKit
def RetNE (w : World) (N : Nat) (E : Int) (e : Ending) (w' : World) : Prop :=
 ∃ a n c, e = .returned (.tuple #[.slice a n c, .int .i64 E]) ∧ OwnAt w' w.heap.size a n c (digs N) ∧ Below w.heap.size w w'
set_option maxRecDepth 100000 in
theorem choose_out (n : Nat) (k : Int) (w : World) (hn : n ≤ 65536) (h : k < 0 ∨ (n : Int) < k) :
 Calls Tryz.prog 132 #[.int .i64 (n : Int), .int .i64 k] w (RetVal w (.tuple #[.slice none 0 0, .int .i64 0])) := by
 have t : (decide ((n : Int) < 0) || decide (65536 < (n : Int))) = false := by simp; omega
 rcases h with h | h
 all_goals
  try have h0 : ¬ k < 0 := by omega
  go_enter Tryz.func132, Tryz.ntmps132
  go_wp2
  go_ret2
  exact ⟨rfl, Below.refl _ _⟩
set_option maxRecDepth 100000 in
set_option maxHeartbeats 1000000 in
theorem choose_in (n k : Nat) (w : World) (hn : n ≤ 65536) (hk : k ≤ n) :
 Calls Tryz.prog 132 #[.int .i64 (n : Int), .int .i64 (k : Int)] w (RetNE w (ch n k) 0) := by
 have t : (decide ((n : Int) < 0) || decide (65536 < (n : Int))) = false := by simp; omega
 have t2 : (decide ((k : Int) < 0) || decide ((n : Int) < (k : Int))) = false := by simp; omega
 obtain ⟨m, hm⟩ : ∃ m, min k (n - k) = m := ⟨_, rfl⟩
 have hmn : m ≤ n := by omega
 have hch : ch n k = ch n m := by
  rcases Nat.le_total k (n - k) with h | h
  · rw [← hm, Nat.min_eq_left h]
  · rw [← hm, Nat.min_eq_right h]; exact ch_symm hk
 rw [hch]
 have hmi : min (k : Int) ((n : Int) - (k : Int)) = (m : Int) := by omega
 clear hm hch
 go_enter Tryz.func132, Tryz.ntmps132
 go_wp2_with fail
 refine (of_any 1 _ (by decide)).mono ?_
 rintro e w1 ⟨a1, n1, c1, rfl, h1, hb1⟩
 go_wp2_with fail
 have e1 : digs 1 = digs (ch n 0) := by rw [ch_zero]
 rw [e1] at h1
 go_loopw [6, 7, 8, 9] (fun s6 s7 s8 s9 wr => ∃ (j p q i : Nat) (a : Option Addr) (n' c : Nat), Hid (j + 1 = i ∧ n - j = p ∧ m - j = q ∧ j ≤ m) ∧ s6 = .slice a n' c ∧ s7 = .int .i64 ((i : Nat) : Int) ∧ s8 = .int .i64 ((p : Nat) : Int) ∧ s9 = .int .i64 ((q : Nat) : Int) ∧ OwnAt wr w.heap.size a n' c (digs (ch n j)) ∧ Below w.heap.size w wr) (fun _ _ _ s9 _ => (intOf s9).toNat)
 case atStart => exact ⟨0, n, m, 1, _, _, _, Lib.hid ⟨by omega, by omega, by omega, by omega⟩, rfl, rfl, rfl, rfl, h1, hb1⟩
 case round =>
  clear h1 hb1 e1
  obtain ⟨j, p, q, i, a, n', c, HJ, rfl, rfl, rfl, rfl, h, hb⟩ := hrel
  obtain ⟨j1, j2, j3, j4⟩ := HJ.out
  have hlen := ch_len (n := n) (by omega) j
  have hl := h.len
  have bn : n' ≤ 65537 := by omega
  clear hlen hl
  by_cases hq : 0 < q
  · have hi0 : 0 < i := by omega
    have hi1 : i ≤ 65537 := by omega
    have hp1 : p ≤ 65536 := by omega
    have hq1 : q ≤ 65536 := by omega
    have hst : val (digs (ch n j)) * p = ch n (j + 1) * i := by rw [val_digs, ← j2, ← j1]; exact ch_step (by omega)
    have hdv : val (digs (val (digs (ch n j)) * p)) / i = ch n (j + 1) := by rw [val_digs, hst]; exact Nat.mul_div_cancel _ hi0
    have hlp := len_mulN (a := val (digs (ch n j))) (b := p) (p := 65537) (q := 1) (by rw [val_digs]; have := ch_len (n := n) (by omega) j; omega) (digs_length_le.2 (by rw [Nat.pow_one]; omega))
    have HDV := Lib.hid hdv
    have HLP := Lib.hid hlp
    have HST : Hid (j + 1 + 1 = i + 1 ∧ n - (j + 1) = p - 1 ∧ m - (j + 1) = q - 1 ∧ j + 1 ≤ m) := Lib.hid (by omega)
    have hp0 : 1 ≤ p := by omega
    clear hst hdv hlp j1 j2 j3 j4
    go_wp2_with fail
    with_reducible refine (tgrow_any _ _ _ (digs (ch n j)) p _ h.toNatAt (by omega) (by omega)).mono ?_
    rintro e w2 ⟨a2, n2, c2, rfl, h2, hb2⟩
    have bn2 : n2 ≤ 65538 := by have := h2.len; have := HLP.out; omega
    have hb3 := below_later hb hb2
    clear hb2 h
    go_wp2_with fail
    with_reducible refine (part_yes _ _ _ (digs (val (digs (ch n j)) * p)) i _ h2.toNatAt (by omega) hi0 (by omega)).mono ?_
    rintro e w3 ⟨a3, n3, c3, rfl, h3, hb4⟩
    rw [HDV.out] at h3
    have h3 := h3.mono hb3.size
    have hb5 := below_later hb3 hb4
    clear hb4 hb3 h2 hb
    go_wp2
    go_roundw
    case measure => simp [intOf] <;> omega
    case rel => exact ⟨j + 1, p - 1, q - 1, i + 1, _, _, _, Lib.hid HST.out, rfl, by congr 1, by congr 1; omega, by congr 1; omega, h3, hb5⟩
  · obtain rfl : j = m := by omega
    clear j1 j2 j3 j4
    go_wp2
    go_ret2
    exact ⟨_, _, _, rfl, h, hb⟩
end Go.Proofs.YtlkoenpdmlbhlaaGreat
