/- times, sixth part: Power. -/
import Derived.Test.YtlljljhiimeajaaTimes4
import Derived.Test.YtlljljhiimeajaaTimes5
set_option linter.unusedVariables false
set_option linter.unusedSimpArgs false
namespace Go.Proofs.Ytlljljhiimeajaa
open Go.RowKit Go.Shelf
attribute [local go_sem] Oper.semAt_some

theorem NatAt.kept {A B : World} {row : Option Nat} {a : Option Addr} {n c : Nat} {l : List Nat} (h : NatAt A a n c l) (hg : A.grownBy B row) (hr : ∀ r, row = some r → ∃ o : Obj, A.heap[r]? = some o ∧ o.isCells = false) : NatAt B a n c l := by
  refine ⟨h.len, h.le, h.cle, h.dig, ?_, h.nilc⟩
  rcases h.cell with h0 | ⟨b, o, he, hc⟩
  · exact .inl h0
  · exact .inr ⟨b, o, he, fun i hi => cell_kept (hc i hi) hg hr⟩
theorem OwnAt.kept {A B : World} {C : Nat} {row : Option Nat} {a : Option Addr} {n c : Nat} {l : List Nat} (h : OwnAt A C a n c l) (hg : A.grownBy B row) (hr : ∀ r, row = some r → ∃ o : Obj, A.heap[r]? = some o ∧ o.isCells = false) : OwnAt B C a n c l := by
  refine ⟨h.toNatAt.kept hg hr, ?_⟩
  rcases h.own with h0 | ⟨b, o, he, hB, hf⟩
  · exact .inl h0
  · rcases h.cell with h0 | ⟨b', o', he', hc⟩
    · exact .inl h0
    · rw [he] at he'
      cases he'
      exact .inr ⟨b, o, he, hB, fun i hi => (frozen_kept (hc i hi) hg hr).trans (hf i hi)⟩
theorem KeepsOthers.of_below {W W' : World} (h : Below W.heap.size W W') : KeepsOthers W W' :=
  ⟨h.size, fun k o hk ho => (h.block k (Array.getElem?_eq_some_iff.1 hk).1).trans hk⟩
theorem OwnAt.setPast {w : World} {B : Nat} {a : Option Addr} {n c : Nat} {l : List Nat} (h : OwnAt w B a n c l) {b : Nat} (hb : b < B) (v : Value) : OwnAt (w.setCell ⟨b, 0, none⟩ v) B a n c l := by
  refine ⟨⟨h.len, h.le, h.cle, h.dig, ?_, h.nilc⟩, ?_⟩
  · rcases h.cell with h0 | ⟨b', o, he, hc⟩
    · exact .inl h0
    · rcases h.own with h0 | ⟨b2, o2, he2, hB, hf⟩
      · exact .inl h0
      · rw [he] at he2
        cases he2
        refine .inr ⟨b', o, he, fun i hi => ?_⟩
        rw [World.cell?_setCell_other _ (a := ⟨b, 0, none⟩) (b := ⟨b', o + i, none⟩) _ (fun e => by have := congrArg Addr.block e; simp at this; omega)]
        exact hc i hi
  · rcases h.own with h0 | ⟨b2, o2, he2, hB, hf⟩
    · exact .inl h0
    · exact .inr ⟨b2, o2, he2, hB, fun i hi => by rw [World.frozen?_setCell]; exact hf i hi⟩
theorem num_lt_from : ∀ (l : List Bool) (s : Nat), l.foldl (fun s b => 2 * s + b.toNat) s < (s + 1) * 2 ^ l.length
  | [], s => by simp
  | b :: r, s => by
    have h := num_lt_from r (2 * s + b.toNat)
    have hb : b.toNat ≤ 1 := by cases b <;> decide
    have h2 : (2 * s + b.toNat + 1) * 2 ^ r.length ≤ (2 * s + 2) * 2 ^ r.length := Nat.mul_le_mul_right _ (by omega)
    rw [List.length_cons, Nat.pow_succ, List.foldl_cons, show (s + 1) * (2 ^ r.length * 2) = (2 * s + 2) * 2 ^ r.length by rw [show 2 * s + 2 = (s + 1) * 2 by omega, Nat.mul_assoc, Nat.mul_comm 2]]
    omega
theorem num_lt (l : List Bool) : num l < 2 ^ l.length := by
  have := num_lt_from l 0
  rwa [Nat.zero_add, Nat.one_mul] at this

/-- how long powers are -/
theorem pow_len {x e N : Nat} (h : e * nbits x ≤ N) (k : Nat) (hk : k ≤ e) : (digs (x ^ k)).length ≤ N / 64 + 1 := by
  rw [digs_length_le, B_pow]
  have h1 : x ^ k ≤ (2 ^ nbits x) ^ k := Nat.pow_le_pow_left (Nat.le_of_lt (nbits_lt x)) k
  rw [← Nat.pow_mul] at h1
  refine Nat.lt_of_le_of_lt h1 (Nat.pow_lt_pow_right (by decide) ?_)
  have h2 : nbits x * k ≤ nbits x * e := Nat.mul_le_mul_left _ hk
  rw [Nat.mul_comm e] at h
  omega

theorem power_no (a : Option Addr) (n c : Nat) (e : Int) (w : World) (hv : e < 0 ∨ 65536 < e) :
    Calls Try.prog 27 #[.slice a n c, .int .i64 e] w (RetVal w (.tuple #[.slice none 0 0, .int .i64 3])) := by
  rcases hv with hv | hv
  · go_enter Try.func27, Try.ntmps27
    go_wp2_with fail
    go_ret2
    exact ⟨rfl, (Below.refl _ _).alloc (Nat.le_refl _) _⟩
  · have hv' : ¬ e < 0 := by omega
    go_enter Try.func27, Try.ntmps27
    go_wp2_with fail
    go_ret2
    exact ⟨rfl, (Below.refl _ _).alloc (Nat.le_refl _) _⟩

theorem power_long (a : Option Addr) (n c : Nat) (l : List Nat) (e : Nat) (w : World) (h : NatAt w a n c l) (hs : n ≤ 68719476736) (he : e ≤ 65536) (hv : 16777216 < e * nbits (val l)) :
    Calls Try.prog 27 #[.slice a n c, .int .i64 (e : Int)] w (RetVal w (.tuple #[.slice none 0 0, .int .i64 4])) := by
  obtain ⟨x, hx⟩ : ∃ x, nbits (val l) = x := ⟨_, rfl⟩
  have hb : x ≤ 64 * n := by rw [← hx, ← h.len]; exact nbits_le_len h.dig
  have hmul : e * x ≤ 65536 * x := Nat.mul_le_mul_right _ he
  rw [hx] at hv
  obtain ⟨y, hy⟩ : ∃ y, e * x = y := ⟨_, rfl⟩
  rw [hy] at hv hmul
  have v1 : IntKind.i64.wrap ((e : Int) * (x : Int)) = (y : Int) := by
    rw [show (e : Int) * (x : Int) = ((e * x : Nat) : Int) by simp, hy]; exact IntWalk.i64_in _ (by omega)
  have HX := Lib.hid hx
  clear hx hy hmul
  go_enter Try.func27, Try.ntmps27
  go_wp2_with fail
  refine (len_any _ _ _ l _ (h.alloc _) (by omega)).mono ?_
  rintro e2 w' ⟨rfl, rfl⟩
  rw [HX.out]
  go_wp2
  go_ret2
  exact ⟨rfl, (Below.refl _ _).alloc (Nat.le_refl _) _⟩

/-- a round's store of the number so far -/
theorem round_store {W w5 : World} {BO BA B1 e : Nat} {a a5 : Option Addr} {n c n5 c5 : Nat} {L : List Nat} {v0 : Value} (hb5 : Below W.heap.size W w5) (h5 : OwnAt w5 W.heap.size a5 n5 c5 L) (lO : BO < W.heap.size) (hAO : BA ≠ BO) (h1O : B1 ≠ BO)
    (k1 : W.cell? ⟨BO, 0, none⟩ = some v0) (k2 : W.frozen? ⟨BO, 0, none⟩ = false) (k4 : W.cell? ⟨BA, 0, none⟩ = some (.slice a n c)) :
    KeepsOthers W (w5.setCell ⟨BO, 0, none⟩ (.slice a5 n5 c5)) ∧ KeepN B1 e W (w5.setCell ⟨BO, 0, none⟩ (.slice a5 n5 c5)) ∧
    (w5.setCell ⟨BO, 0, none⟩ (.slice a5 n5 c5)).cell? ⟨BO, 0, none⟩ = some (.slice a5 n5 c5) ∧ (w5.setCell ⟨BO, 0, none⟩ (.slice a5 n5 c5)).frozen? ⟨BO, 0, none⟩ = false ∧
    OwnAt (w5.setCell ⟨BO, 0, none⟩ (.slice a5 n5 c5)) W.heap.size a5 n5 c5 L ∧ (w5.setCell ⟨BO, 0, none⟩ (.slice a5 n5 c5)).cell? ⟨BA, 0, none⟩ = some (.slice a n c) := by
  refine ⟨(KeepsOthers.of_below hb5).trans (KeepsOthers.setCell _ _ _), fun hk => ?_, ?_, ?_, h5.setPast lO _, ?_⟩
  · rw [World.cell?_setCell_other _ (a := ⟨BO, 0, none⟩) (b := ⟨B1, 0, none⟩) _ (fun e => h1O (by have := congrArg Addr.block e; exact this.symm))]
    exact (hb5.cell (p := ⟨B1, 0, none⟩) (World.block_lt_of_cell? W _ hk)).trans hk
  · exact World.cell?_setCell_same _ _ _ ((hb5.cell (p := ⟨BO, 0, none⟩) lO).trans k1)
  · rw [World.frozen?_setCell]; exact (hb5.frozen (p := ⟨BO, 0, none⟩) lO).trans k2
  · rw [World.cell?_setCell_other _ (a := ⟨BO, 0, none⟩) (b := ⟨BA, 0, none⟩) _ (fun e => hAO (by have := congrArg Addr.block e; exact this.symm))]
    exact (hb5.cell (p := ⟨BA, 0, none⟩) (World.block_lt_of_cell? W _ k4)).trans k4

set_option maxRecDepth 100000 in
set_option maxHeartbeats 2000000 in
theorem power_yes (a : Option Addr) (n c : Nat) (l : List Nat) (e : Nat) (w : World) (h : NatAt w a n c l) (hs : n ≤ 68719476736) (he : e ≤ 65536) (hv : e * nbits (val l) ≤ 16777216) :
    Calls Try.prog 27 #[.slice a n c, .int .i64 (e : Int)] w (RetNatOk w (val l ^ e) 0) := by
  obtain ⟨x', hx⟩ : ∃ x, nbits (val l) = x := ⟨_, rfl⟩
  obtain ⟨y, hy⟩ : ∃ y, e * x' = y := ⟨_, rfl⟩
  have hy2 : y ≤ 16777216 := by rw [← hy, ← hx]; exact hv
  have v1 : IntKind.i64.wrap ((e : Int) * (x' : Int)) = (y : Int) := by
    rw [show (e : Int) * (x' : Int) = ((e * x' : Nat) : Int) by simp, hy]; exact IntWalk.i64_in _ (by omega)
  have HX := Lib.hid hx
  clear hx hy
  refine (callsIn_wide (n := 9)).1 ?_
  refine callsIn_of_wp_marks Try.func27 rfl trivial ?_ rfl
  simp only [Try.ntmps27, List.size_toArray, List.length_cons, List.length_nil, Nat.reduceAdd, Nat.reduceSub, Array.replicate_succ, Array.replicate_zero, List.push_toArray, List.append_toArray, List.nil_append, List.cons_append]
  gi_wp2_with (first | (refine ⟨trivial, ?_⟩; gi_at_call 59; refine (callsIn_wide.2 (len_any _ _ _ l _ (h.alloc _) (by omega))).mono ?_; rintro e w' ⟨rfl, rfl⟩; rw [HX.out]) | (refine ⟨trivial, ?_⟩; gi_at_call 66; refine (callsIn_wide.2 (ones_any _ _)).mono ?_; rintro e w' ⟨rfl, rfl⟩))
  obtain ⟨w4, hw4⟩ : ∃ w4, (((w.alloc (Obj.cells #[Value.slice a n c] 23)).alloc (Obj.cells #[Value.int IntKind.u64 1] 24)).alloc (Obj.cells #[Value.slice (some { block := w.heap.size + 1, off := 0 }) 1 1] 23)).alloc (Obj.cells #[Value.int IntKind.i64 (e : Int)] 3) = w4 := ⟨_, rfl⟩
  have hs4 : w4.heap.size = w.heap.size + 4 := by rw [← hw4]; simp
  have hB4 : Below w.heap.size w w4 := by rw [← hw4]; exact ((((Below.refl _ _).alloc (Nat.le_refl _) _).alloc (by simp) _).alloc (by simp; omega) _).alloc (by simp; omega) _
  have hcA : w4.cell? ⟨w.heap.size, 0, none⟩ = some (.slice a n c) := by
    rw [← hw4, World.cell?_alloc_past _ _ _ (by simp; omega), World.cell?_alloc_past _ _ _ (by simp; omega), World.cell?_alloc_past _ _ _ (by simp), World.cell?_alloc_at _ _ _ _ rfl]; rfl
  have hcO : w4.cell? ⟨w.heap.size + 1 + 1, 0, none⟩ = some (.slice (some ⟨w.heap.size + 1, 0, none⟩) 1 1) := by
    rw [← hw4, World.cell?_alloc_past _ _ _ (by simp), World.cell?_alloc_at _ _ _ _ (by simp)]; rfl
  have hfO : w4.frozen? ⟨w.heap.size + 1 + 1, 0, none⟩ = false := by
    rw [← hw4, World.frozen?_alloc_past _ _ _ (by simp), World.frozen?_alloc_at _ _ _ _ (by simp)]
  have hc1 : w4.cell? ⟨w.heap.size + 1 + 1 + 1, 0, none⟩ = some (.int .i64 (e : Int)) := by
    rw [← hw4, World.cell?_alloc_at _ _ _ _ (by simp)]; rfl
  have hl1 : NatAt w4 (some ⟨w.heap.size + 1, 0, none⟩) 1 1 (digs (val l ^ num [])) := by
    rw [← hw4, num_nil, Nat.pow_zero, show digs 1 = [1] from digs_small (by decide) (by decide)]
    exact (((lit1g _ _ 1 1 (by simp) rfl (by decide)).toNatAt.alloc _).alloc _)
  rw [hw4]
  clear hw4
  have hlen := fun k (hk : k ≤ 131072) (he0 : 1 ≤ e) => pow_len (x := val l) (e := 131072) (N := 2199023255552) (by
    have : 1 * nbits (val l) ≤ e * nbits (val l) := Nat.mul_le_mul_right _ he0
    omega) k hk
  have HLEN := Lib.hid hlen
  clear hlen hv
  refine wpIn_rangeFunc_ownF rfl (by decide) (gf := 92) (lb := #[.pointer (some ⟨w.heap.size + 1 + 1 + 1, 0, none⟩)]) rfl trivial (enters_of Try.func92 (by kernel_rfl) rfl)
    (ones_stops _ (by decide) (w.heap.size + 1 + 1 + 1) e (nbits e) he rfl w4 hc1) keepN_t keepN_b (Below.refl _ _) (fun _ => rfl)
    (fun pre W => (∃ a' n' c', W.cell? ⟨w.heap.size + 1 + 1, 0, none⟩ = some (.slice a' n' c') ∧ W.frozen? ⟨w.heap.size + 1 + 1, 0, none⟩ = false ∧ NatAt W a' n' c' (digs (val l ^ num pre)) ∧ W.cell? ⟨w.heap.size, 0, none⟩ = some (.slice a n c)) ∧ Below w.heap.size w W)
    (fun c pre W => False ∧ Below w.heap.size w W)
    (OwnFrom.and (Own.from (fun s A B row hs hg hr => by
      obtain ⟨a', n', c', h1, h2, h3, h4⟩ := hs
      exact ⟨a', n', c', cell_kept h1 hg hr, (frozen_kept h1 hg hr).trans h2, h3.kept hg hr, cell_kept h4 hg hr⟩) _) (ownFrom_below (Nat.le_refl _) (by omega)))
    (fun _ => OwnFrom.and (Own.from (fun s A B row hs hg hr => hs) _) (ownFrom_below (Nat.le_refl _) (by omega)))
    ⟨⟨_, _, _, hcO, hfO, hl1, hcA⟩, hB4⟩
    (fun x => { tmps := #[Value.slice a n c, Value.int IntKind.i64 (e : Int), Value.pointer (some { block := w.heap.size, off := 0 }), undef,
          Value.slice none 0 0, Value.int IntKind.i64 0,
          Value.pointer (some { block := w.heap.size + 1 + 1, off := 0 }), .bool x,
          Value.bool (decide ((e : Int) < 0) || decide (65536 < (e : Int))), Value.int IntKind.i64 (e : Int), Value.bool (decide ((e : Int) < 0)),
          Value.bool (decide ((e : Int) < 0)), Value.int IntKind.i64 (e : Int), Value.bool (decide (65536 < (e : Int))),
          Value.bool (decide ((e : Int) < 0) || decide (65536 < (e : Int))), Value.bool (decide (16777216 < (y : Int))),
          Value.int IntKind.i64 (e : Int), Value.slice a n c, Value.int IntKind.i64 (x' : Int), Value.int IntKind.i64 (y : Int),
          Value.bool (decide (16777216 < (y : Int))), Value.slice (some { block := w.heap.size + 1, off := 0 }) 1 1,
          Value.int IntKind.i64 (e : Int),
          Value.func (Fn.func 92) #[] #[Value.pointer (some { block := w.heap.size + 1 + 1 + 1, off := 0 })], .bool x,
          undef, undef, undef, undef, undef, undef, undef, undef], defers := [] }) ?assign ?body ?done ?stop
  case assign =>
    intro lp x W K hK
    gi_wp2
    exact hK
  case stop =>
    rintro Dd cc pre W hD ⟨k, hk, rfl⟩ ⟨hF, _⟩ hK
    exact hF.elim
  case body =>
    rintro lp pre t W ⟨⟨a', n', c', k1, k2, k3, k4⟩, hBW⟩ hlt
    have he0 : 1 ≤ e := by
      rcases Nat.eq_zero_or_pos e with h0 | h0
      · rw [h0, nbits_zero] at hlt; omega
      · exact h0
    have hL17 : nbits e ≤ 17 := nbits_le (Nat.lt_of_le_of_lt he (by decide))
    have hp1 : num pre < 65536 := Nat.lt_of_lt_of_le (num_lt pre) (Nat.le_trans (Nat.pow_le_pow_right (by decide) (show pre.length ≤ 16 by omega)) (by decide))
    have q1 := HLEN.out (num pre) (by omega) he0
    have q2 := HLEN.out (2 * num pre) (by omega) he0
    have hn' : n' ≤ 68719476736 := by have := k3.len; omega
    have e1 : val l ^ num pre * val l ^ num pre = val l ^ (2 * num pre) := by rw [← Nat.pow_add, show num pre + num pre = 2 * num pre by omega]
    have HE1 := Lib.hid e1
    have HQ2 := Lib.hid q2
    clear hlt hL17 hp1 q1 q2 e1 he0
    have lO := World.block_lt_of_cell? W _ k1
    have lA := World.block_lt_of_cell? W _ k4
    simp only at lO lA
    have sq := square_any a' n' c' (digs (val l ^ num pre)) W k3 hn'
    have HSQ := Lib.hid sq
    clear sq
    cases t
    · have e2 : num (pre ++ [false]) = 2 * num pre := by rw [num_snoc]; rfl
      have HE2 := Lib.hid e2
      clear e2
      dsimp only
      gi_wp2_with (first | (refine ⟨trivial, ?_⟩; gi_at_call 23; refine (CallsIn.inRound lp (callsIn_wide.2 HSQ.out)).mono ?_; rintro e2 w5 ⟨a5, n5, c5, rfl, h5, hb5⟩; have m1 := (hb5.cell (p := ⟨w.heap.size + 1 + 1, 0, none⟩) lO).trans k1; have m2 := (hb5.frozen (p := ⟨w.heap.size + 1 + 1, 0, none⟩) lO).trans k2))
      obtain ⟨r1, r2, r3, r4, r5, r6⟩ := round_store (B1 := w.heap.size + 1 + 1 + 1) (e := e) hb5 h5 lO (show w.heap.size ≠ w.heap.size + 1 + 1 by omega) (by omega) k1 k2 k4
      have h6 := r5.toNatAt
      rw [val_digs, HE1.out, ← HE2.out] at h6
      exact ⟨r1, r2, ⟨_, _, _, r3, r4, h6, r6⟩, (below_later hBW hb5).setCell (p := ⟨w.heap.size + 1 + 1, 0, none⟩) (by simp; omega) _⟩
    · have e2 : num (pre ++ [true]) = 2 * num pre + 1 := by rw [num_snoc]; rfl
      have HE2 := Lib.hid e2
      clear e2
      dsimp only
      gi_wp2_with (first
        | (refine ⟨trivial, ?_⟩; gi_at_call 23; refine (CallsIn.inRound lp (callsIn_wide.2 HSQ.out)).mono ?_; rintro e2 w5 ⟨a5, n5, c5, rfl, h5, hb5⟩; have m1 := (hb5.cell (p := ⟨w.heap.size + 1 + 1, 0, none⟩) lO).trans k1; have m2 := (hb5.frozen (p := ⟨w.heap.size + 1 + 1, 0, none⟩) lO).trans k2
           obtain ⟨r1, r2, r3, r4, r5, r6⟩ := round_store (B1 := w.heap.size + 1 + 1 + 1) (e := e) hb5 h5 lO (show w.heap.size ≠ w.heap.size + 1 + 1 from fun x => by omega) (fun x => by omega) k1 k2 k4
           have hB6 : Below w.heap.size w (w5.setCell ⟨w.heap.size + 1 + 1, 0, none⟩ (.slice a5 n5 c5)) := (below_later hBW hb5).setCell (p := ⟨w.heap.size + 1 + 1, 0, none⟩) (by simp; omega) _
           have h6 := r5.toNatAt
           rw [val_digs, HE1.out] at h6
           have hA6 := h.later hB6 (Nat.le_refl _)
           have n5b : n5 ≤ 68719476736 := by have e3 := h6.len; have e4 := HQ2.out; omega)
        | (refine ⟨trivial, ?_⟩; gi_at_call 20; refine (CallsIn.inRound lp (callsIn_wide.2 (tmul_any a5 n5 c5 (digs (val l ^ (2 * num pre))) a n c l _ h6 hA6 n5b hs))).mono ?_; rintro e3 w7 ⟨a7, n7, c7, rfl, h7, hb7⟩; have m3 := (hb7.cell (p := ⟨w.heap.size + 1 + 1, 0, none⟩) (World.block_lt_of_cell? _ _ r3)).trans r3; have m4 := (hb7.frozen (p := ⟨w.heap.size + 1 + 1, 0, none⟩) (World.block_lt_of_cell? _ _ r3)).trans r4))
      obtain ⟨s1, s2, s3, s4, s5, s6⟩ := round_store (BO := w.heap.size + 1 + 1) (B1 := w.heap.size + 1 + 1 + 1) (e := e) hb7 h7 (World.block_lt_of_cell? _ _ r3) (show w.heap.size ≠ w.heap.size + 1 + 1 by omega) (by omega) r3 r4 r6
      have h8 := s5.toNatAt
      rw [val_digs, show val l ^ (2 * num pre) * val l = val l ^ num (pre ++ [true]) by rw [HE2.out, Nat.pow_succ]] at h8
      exact ⟨r1.trans s1, keepN_t r2 s2, ⟨_, _, _, s3, s4, h8, s6⟩, (below_later hB6 hb7).setCell (p := ⟨w.heap.size + 1 + 1, 0, none⟩) (by simp; omega) _⟩
  case done =>
    rintro Dd ys W hD rfl ⟨⟨a', n', c', k1, k2, k3, k4⟩, hBW⟩ hK
    have q1 : n' ≤ 1099511627776 := by
      rcases Nat.eq_zero_or_pos e with h0 | h0
      · have e3 := k3.len
        subst h0
        rw [num_full, Nat.pow_zero, show digs 1 = [1] from digs_small (by decide) (by decide)] at e3
        simp at e3; omega
      · have e3 := k3.len
        have e4 := HLEN.out (num (bitsK e (nbits e) (nbits e))) (by rw [num_full]; omega) h0
        omega
    rw [num_full] at k3
    dsimp only
    gi_wp2_with (first | (refine ⟨trivial, ?_⟩; gi_at_call 67; refine (callsIn_wide.2 (clone_any a' n' c' _ _ k3 q1)).mono ?_; rintro e2 w5 ⟨a5, n5, c5, rfl, h5, hb5⟩; have hK5 := (hb5.block Dd (Array.getElem?_eq_some_iff.1 hK).1).trans hK))
    refine ⟨by simp, .inl ⟨_, _, rfl, run_takeDeferred hK5, ?_⟩⟩
    refine ⟨.tuple #[.slice a5 n5 c5, .int .i64 0], ?_, _, _, _, rfl, ?_, ?_⟩
    · simp [results, Try.f27, go_sem]
    · exact (h5.mono hBW.size).kept (grownBy_putObj' _ Dd (.deferred none)) (fun r e => by cases e; exact ⟨_, hK5, rfl⟩)
    · exact (below_later hBW hb5).trans (belowK_b (w := w) (Nat.le_refl _) _ Dd _ _ (by omega) hK5 rfl rfl)

end Go.Proofs.Ytlljljhiimeajaa
