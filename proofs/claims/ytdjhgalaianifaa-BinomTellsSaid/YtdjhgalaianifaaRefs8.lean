/- the reference of times: Mul, Power. -/
import Derived.Test.YtdjhgalaianifaaRefs7
import Derived.Deep.RegionHeld3
import Derived.Deep.DeepFit
set_option linter.unusedVariables false
set_option linter.unusedSimpArgs false
namespace Go.Proofs.Ytdjhgalaianifaa
open Go.RowKit

/-- 'append(s, x...)', s the call's own row, x digits: at a step of a region that draws its order -/
theorem step_append_nat {P : Program} {w : World} {ops : Array Oper} {o : Oper} {a : Act} {K : Act → World → Prop} {Q : Exit → Act → World → Prop} {E0 : Prop} (hgd : o.guard = none) (s x : Operand) (T : TypeId)
    (ho : o.op = .call { callee := .builtin .append, args := #[s, x], argTypes := #[T, T] })
    (base E : Nat) (i : TypeInfo) (ht : P.underlying T = some (.slice E)) (hi : P.info? E = some i) (hz : i.zero = some (.int .u64 0)) (hsize : i.size = 1) (hby : i.bytes = 8)
    (v : Value) (n : Nat) (xs : List Value) (hs : a.eval s = v) (hown : w.ownsRow base E 1 v n xs)
    (xa : Option Addr) (m xc : Nat) (l : List Nat) (hx : a.eval x = .slice xa m xc) (hn : NatAt w xa m xc l) (hsz : n + m ≤ 1099511627776) (hbase : base ≤ w.heap.size)
    (h : ∀ a' c' w', w'.ownsRow base E 1 (.slice a' (n + m) c') (n + m) (xs ++ dv l) → w.grownBy w' v.ownBlock → K (a.put o.dst (.slice a' (n + m) c')) w') :
    if Region.wanted o (yielded ops a.tmps) = true then Oper.wp P o a w K Q else E0 := by
  rw [if_pos (by simp [Region.wanted, hgd])]
  cases xa with
  | none =>
    have hc := hn.nilc rfl
    have hm : m = 0 := by have := hn.le; omega
    subst hc
    subst hm
    have hl : l = [] := List.eq_nil_of_length_eq_zero hn.len
    subst hl
    have hrun := run_append_owned_none (P := P) (w := w) base T o.type E i 1 ht hi v n xs hown
    have hshape : ∃ a' c', v = .slice a' n c' := by
      rcases hown.2 with ⟨rfl, hn0⟩ | ⟨g, cap, cur, rfl, _⟩
      · subst hn0; exact ⟨_, _, rfl⟩
      · exact ⟨_, _, rfl⟩
    obtain ⟨a', c', rfl⟩ := hshape
    have hk := h a' c' w (by simpa [dv] using hown) ⟨rfl, rfl, rfl, Nat.le_refl _, fun _ _ _ => rfl⟩
    unfold Oper.wp
    simp [execOp, ho, resolve, invoke, builtin, hs, hx, hrun, Result.andThen]
    exact hk
  | some ad =>
    have hnews : ∀ j u, (dv l)[j]? = some u → w.cell? (ad.add j) = some u := by
      intro j u hu
      have hj : j < l.length := by
        have := (List.getElem?_eq_some_iff.1 hu).1
        rwa [dv_length] at this
      rw [dv_at hj] at hu
      cases hu
      rcases hn.cell with h0 | ⟨b, o, he, hc⟩
      · have := hn.len; omega
      · cases he
        rw [addr_add]
        exact hc j (by have := hn.len; omega)
    refine wp_append_own (w := w) s x T ho base E i (.int .u64 0) 1 8 ht hi hz hsize hby rfl (by decide) v n xs hs hown ad m xc (dv l) hx (by rw [dv_length, hn.len]; omega) hnews (dv_one l)
      (by simp only [maxLen]; omega) (by omega) hbase ?_
    intro v' w' h1 h2 _
    have hshape : ∃ a' c', v' = .slice a' (n + m) c' := by
      rcases h1.2 with ⟨rfl, hn0⟩ | ⟨g, cap, cur, rfl, _⟩
      · rw [hn0]; exact ⟨_, _, rfl⟩
      · exact ⟨_, _, rfl⟩
    obtain ⟨a', c', rfl⟩ := hshape
    exact h a' c' w' h1 h2

theorem OwnAt.ofRow2 {w : World} {B E : Nat} {a : Option Addr} {c : Nat} {n : Nat} {l : List Nat} (h : w.ownsRow B E 1 (.slice a n c) n (dv l)) (hd : Dig l) : OwnAt w B a n c l := by
  obtain ⟨a', c', e, h⟩ := OwnAt.ofRow h hd
  cases e
  exact h

set_option maxRecDepth 20000 in
set_option maxHeartbeats 4000000 in
theorem rmul_any (a : Option Addr) (n c : Nat) (l : List Nat) (a2 : Option Addr) (n2 c2 : Nat) (l2 : List Nat) (w : World) (h : NatAt w a n c l) (h2 : NatAt w a2 n2 c2 l2) (hs : n ≤ 68719476736) (hs2 : n2 ≤ 68719476736) :
    Calls Try.prog 65 #[.slice a n c, .slice a2 n2 c2] w (RetNat w (val l * val l2)) := by
  obtain ⟨i0, hi', hz0, hz1, hz2⟩ := info_parts info37
  have hcl := h2.cle
  have hcl2 := h2.le
  go_enter Try.func65, Try.ntmps65
  go_wp2_with fail
  go_loopw [5, 6] (fun v i wr => ∃ (k j m cc : Nat) (b : Option Addr), k + j = n2 ∧ i = .int .i64 ((j : Int) - 1) ∧ v = .slice b m cc ∧ NatAt wr b m cc (digs (val l * hi l2 j)) ∧ Below w.heap.size w wr) (fun _ i _ => (intOf i + 1).toNat)
  case atStart => exact ⟨0, n2, 0, 0, none, by omega, rfl, rfl, by rw [hi_all (by rw [h2.len]; exact Nat.le_refl _), Nat.mul_zero]; exact NatAt.nil _, Below.refl _ _⟩
  case round =>
    obtain ⟨k, j, m, cc, b, hkj, rfl, rfl, h3, h6⟩ := hrel
    have hdl := digs_len_prod (val l) (hi l2 j)
    have hlh : (digs (hi l2 j)).length ≤ n2 := by
      rw [digs_length_le, ← h2.len]
      refine Nat.lt_of_le_of_lt ?_ (val_lt h2.dig)
      rw [lo_hi l2 j]
      have := Nat.le_mul_of_pos_left (hi l2 j) (pow_pos' j)
      omega
    have hm : m ≤ 137438953472 := by have e1 := h3.len; have e2 := h.short; omega
    clear hdl hlh
    by_cases hlt : 0 < j
    · obtain ⟨p, rfl⟩ : ∃ p, j = p + 1 := ⟨j - 1, by omega⟩
      have e1 := h.past h6
      have e2 := h2.past h6
      rcases e2.parts with h' | ⟨ba, oa, rfl, _, hca⟩
      · omega
      have hca' := hca p (by omega)
      clear hca
      have d2 := h2.dig.at_ p
      have ei : ((p + 1 : Nat) : Int) - 1 = (p : Int) := by omega
      have es := hi_step l2 p
      have ev : val (0 :: digs (val l * hi l2 (p + 1))) + val (digs (val l * D l2 p)) = val l * hi l2 p := by
        rw [val_cons, val_digs, val_digs, es, Nat.mul_add, Nat.zero_add, Nat.add_comm]
        congr 1
        ac_rfl
      have HEV := Lib.hid ev
      clear es ev
      rw [ei]
      have lba := World.block_lt_of_cell? wr _ hca'
      have LBA := Lib.hid lba
      clear lba ei
      have hown0 : ((wr.alloc (.cells #[.int .u64 0] 37)).drew).ownsRow wr.heap.size 37 1 (.slice (some ⟨wr.heap.size, 0, none⟩) 1 1) 1 (dv [0]) := (World.ownsRow_lit wr #[.int .u64 0] 1 (Nat.le_refl _) (by simp only [maxLen]; omega) rfl).drew
      have h3' := (h3.alloc (.cells #[.int .u64 0] 37)).drew
      have hz3 : 1 + m ≤ 1099511627776 := by omega
      have hz4 : wr.heap.size ≤ ((wr.alloc (.cells #[.int .u64 0] 37)).drew).heap.size := by simp
      have hz5 : Below wr.heap.size wr ((wr.alloc (.cells #[.int .u64 0] 37)).drew) := ((Below.refl wr.heap.size wr).alloc (Nat.le_refl _) _).drew
      have hz6 : ∀ k, (Value.slice (some ⟨wr.heap.size, 0, none⟩) 1 1).ownBlock = some k → wr.heap.size ≤ k := fun k hk => (hown0.lt k hk).1
      have hn' : n ≤ 274877906944 := by omega
      have hz7 : 1 + m ≤ 549755813888 := by omega
      have hg1 : (digs (val l * D l2 p)).length ≤ 549755813888 := by
        have e3 := digs_len_prod (val l) (D l2 p)
        have e4 := h.short
        have e5 : (digs (D l2 p)).length ≤ 1 := digs_length_le.2 (by rw [Nat.pow_one]; exact d2)
        omega
      have hd0 : Dig (0 :: digs (val l * hi l2 (p + 1))) := dig_cons.2 ⟨by decide, dig_digs _⟩
      have Z7 := Lib.hid hz7
      have HG := Lib.hid hg1
      have HD0 := Lib.hid hd0
      clear hz7 hg1 hd0
      have HN := Lib.hid hn'
      have hb0 : (0 : Int) ≤ (p : Int) := Int.natCast_nonneg _
      have hbn : (p : Int) < (n2 : Int) := by omega
      have HO := Lib.hid hown0
      have H3 := Lib.hid h3'
      have Z3 := Lib.hid hz3
      have Z4 := Lib.hid hz4
      have Z5 := Lib.hid hz5
      have Z6 := Lib.hid hz6
      clear hown0 h3' hz3 hz4 hz5 hz6 hn'
      go_wp2_with fail
      go_region_held3 (fun w' => w'.cell? ⟨ba, oa + p, none⟩ = some (.int .u64 ((D l2 p : Nat) : Int)) ∧ Below wr.heap.size wr w')
        (first
          | assumption
          | exact ⟨hca', (Below.refl _ _).drew⟩
          | (rename _ ∧ Below wr.heap.size wr _ => hT
             first
               | exact ⟨((below_later hT.2 hb9).cell (p := ⟨ba, oa + p, none⟩) LBA.out).trans hca', below_later hT.2 hb9⟩
               | exact ⟨((below_later hT.2 hb8).cell (p := ⟨ba, oa + p, none⟩) LBA.out).trans hca', below_later hT.2 hb8⟩
               | exact ⟨(hb7.cell (p := ⟨ba, oa + p, none⟩) LBA.out).trans hca', hb7⟩
               | exact ⟨((below_alloc hT.2 _).cell (p := ⟨ba, oa + p, none⟩) LBA.out).trans hca', below_alloc hT.2 _⟩))
        (first
          | (refine step_append_nat ?_ (.tmp 14) (.tmp 15) 23 ?_ wr.heap.size 37 i0 Try.underlying23 hi' hz0 hz1 hz2 (.slice (some ⟨wr.heap.size, 0, none⟩) 1 1) 1 (dv [0]) ?_ HO.out b m cc (digs (val l * hi l2 (p + 1))) ?_ H3.out Z3.out Z4.out ?_
             rfl
             rfl
             rfl
             rfl
             intro a7 c7 w7 hown7 hgrow7
             have hb7 : Below wr.heap.size wr w7 := Z5.out.grown hgrow7 Z4.out Z6.out)
          | (go_at_call 86; rename _ ∧ Below wr.heap.size wr _ => hT
             go_fit (rgrow_any _ _ _ l (D l2 p) _ (e1.past hT.2) HN.out d2)
             rintro e w8 ⟨a8, n8, c8, rfl, h8, hb8⟩)
          | (go_at_call 94; rename _ ∧ Below wr.heap.size wr _ => hT
             have h9 := OwnAt.ofRow2 (l := 0 :: digs (val l * hi l2 (p + 1))) hown7 HD0.out
             go_fit (radd_any _ _ _ (0 :: digs (val l * hi l2 (p + 1))) _ _ _ (digs (val l * D l2 p)) _ (h9.toNatAt.past hb8) h8.toNatAt Z7.out (h8.len ▸ HG.out))
             rintro e w9 ⟨a10, n10, c10, rfl, h10, hb9⟩))
      all_goals
        rename _ ∧ Below wr.heap.size wr w9 => hT
        rw [HEV.out] at h10
        have h11 := h10.toNatAt
        have hbF := below_later h6 hT.2
        go_wp2_with fail
        exact ⟨⟨k + 1, p, _, _, _, by omega, by go_num, rfl, h11, hbF⟩, by first | (simp [intOf]; done) | (simp [intOf]; omega)⟩
    · obtain rfl : j = 0 := by omega
      rw [hi_zero] at h3
      clear hlt
      go_wp2_with fail
      refine (rtrim_any _ _ _ _ _ h3 (by omega)).mono ?_
      rintro e w6 ⟨a6, n6, c6, rfl, h8, hb6⟩
      go_wp2
      go_ret
      rw [val_digs] at h8
      exact RetNat.of h6 ⟨_, _, _, rfl, h8, hb6⟩

end Go.Proofs.Ytdjhgalaianifaa
