/- binom, fourth part: Count, of the program and of the reference. -/
import Derived.Test.YtdjhgalaianifaaComb2
import Derived.Test.YtdjhgalaianifaaInts
import Derived.Test.YtdjhgalaianifaaBinom2
import Derived.Test.YtdjhgalaianifaaTimes4
import Derived.Deep.RegionHeld3
import Derived.Deep.DeepFit
set_option linter.unusedVariables false
set_option linter.unusedSimpArgs false
namespace Go.Proofs.Ytdjhgalaianifaa
open Go.RowKit

def ints (ns : List Nat) : List Int := ns.map (fun x : Nat => (x : Int))
theorem ints_getD (ns : List Nat) (k : Nat) : (ints ns).getD k 0 = ((ns.getD k 0 : Nat) : Int) := by
  unfold ints
  rw [List.getD_eq_getElem?_getD, List.getD_eq_getElem?_getD, List.getElem?_map]
  cases ns[k]? <;> rfl
theorem ints_len (ns : List Nat) : (ints ns).length = ns.length := by unfold ints; rw [List.length_map]
theorem getD_le_sum {ns : List Nat} {k : Nat} (h : k < ns.length) : ns.getD k 0 + (ns.take k).sum ≤ ns.sum := by
  have h1 := sum_take_succ h
  have h2 := sum_take_le ns (k + 1)
  omega
theorem getD_le (ns : List Nat) (k : Nat) : ns.getD k 0 ≤ ns.sum := by
  by_cases h : k < ns.length
  · have := getD_le_sum h; omega
  · rw [List.getD_eq_getElem?_getD, List.getElem?_eq_none (by omega)]; exact Nat.zero_le _

set_option maxRecDepth 100000 in
set_option maxHeartbeats 1000000 in
theorem groups_any : ∀ (ns : List Nat) (a : Option Addr) (n c : Nat) (w : World), IntsAt w a n c (ints ns) → ns.sum ≤ 65536 →
    Calls Try.prog 63 #[.int .i64 ((ns.sum : Nat) : Int), .slice a n c] w (RetNat w (multi ns.sum ns)) := by
  intro ns
  induction ns with
  | nil =>
    intro a n c w h hs
    obtain rfl : n = 0 := h.len.symm
    have hcl : c ≤ 9223372036854775807 := by have := h.cle; simp only [maxLen] at this; omega
    go_enter Try.func63, Try.ntmps63
    go_wp2_with fail
    refine (of_any 1 _ (by decide)).mono ?_
    rintro e w1 ⟨a1, n1, c1, rfl, h1, hb1⟩
    go_wp2
    go_ret
    exact ⟨_, _, _, rfl, h1, hb1⟩
  | cons z r ih =>
    intro a n c w h hs
    have hcl : c ≤ 9223372036854775807 := by have := h.cle; simp only [maxLen] at this; omega
    have hle := h.le
    obtain ⟨m, rfl⟩ : ∃ m, n = m + 1 := ⟨r.length, by have := h.len; rw [ints_len] at this; simpa using this.symm⟩
    obtain ⟨s, hsum⟩ : ∃ s, (z :: r).sum = s := ⟨_, rfl⟩
    have hs2 : s = z + r.sum := by rw [← hsum, List.sum_cons]
    rw [hsum] at hs ⊢
    rcases h.cell with h' | ⟨b, o, rfl, hbl, hc⟩
    · omega
    have hc0 := hc 0 (by omega)
    rw [ints_getD, Nat.add_zero] at hc0
    have hc0 : w.cell? ⟨b, o, none⟩ = some (.int .i64 (z : Int)) := hc0
    have ht : IntsAt w (if c = 1 then some ⟨b, o, none⟩ else some ⟨b, o + 1, none⟩) m (c - 1) (ints r) := IntsAt.tail2 (z := (z : Int)) h
    obtain ⟨ta, hta⟩ : ∃ ta, (if c = 1 then some (⟨b, o, none⟩ : Addr) else some ⟨b, o + 1, none⟩) = ta := ⟨_, rfl⟩
    rw [hta] at ht
    have hsub : (s : Int) - (z : Int) = ((r.sum : Nat) : Int) := by omega
    have hm : multi s (z :: r) = ch s z * multi r.sum r := by show ch s z * multi (s - z) r = _; rw [show s - z = r.sum by omega]
    rw [hm]
    have l1 := ch_len (n := s) (by omega) z
    have l2 := multi_len (l := r) (s := r.sum) (Nat.le_refl _) (by omega)
    have hzs : z ≤ s := by omega
    have L1 : Hid ((digs (ch s z)).length ≤ 65537) := Lib.hid (by omega)
    have L2 := Lib.hid l2
    have HR : Hid (r.sum ≤ 65536) := Lib.hid (by omega)
    obtain ⟨q, hq⟩ : ∃ q, r.sum = q := ⟨_, rfl⟩
    rw [hq] at ih hsub L2 HR ⊢
    have IH := Lib.hid ih
    have HT := Lib.hid ht
    have BL := Lib.hid hbl
    have hq2 : q ≤ 65536 := HR.out
    have hw : IntKind.i64.wrap (q : Int) = (q : Int) := IntWalk.i64_in _ (by omega)
    have s1 : (1 : Int) ≤ (m : Int) + 1 := by omega
    have s2 : (1 : Int) ≤ ((m + 1 : Nat) : Int) := by omega
    have s3 : ((m + 1 : Nat) : Int) ≤ (c : Int) := by omega
    have s4 : (m : Int) + 1 ≤ (c : Int) := by omega
    have s5 : (1 : Int) ≤ (c : Int) := by omega
    have s6 : (0 : Int) ≤ (m : Int) := by omega
    have s7 : (0 : Int) < (m : Int) + 1 := by omega
    clear hc h hm l1 l2 hsum hs2 ih ht hq
    go_enter Try.func63, Try.ntmps63
    go_wp2_with fail
    with_reducible refine (choose_in s z _ hs hzs).mono ?_
    rintro e w1 ⟨a1, n1, c1, rfl, h1, hb1⟩
    have bn1 : n1 ≤ 68719476736 := by have := h1.len; have := L1.out; omega
    have HB1 := Lib.hid bn1
    have q1 := (hb1.cell (p := ⟨b, o, none⟩) BL.out).trans hc0
    clear bn1
    go_wp2_with fail
    go_region_held3 (fun w' => w'.cell? ⟨b, o, none⟩ = some (.int .i64 (z : Int)) ∧ Below w.heap.size w w')
      (first
        | assumption
        | exact ⟨q1, hb1.drew⟩
        | (rename _ ∧ Below w.heap.size w _ => hT
           first
             | exact ⟨((below_later hT.2 hb9).cell (p := ⟨b, o, none⟩) BL.out).trans hc0, below_later hT.2 hb9⟩
             | exact ⟨((below_later hT.2 hb8).cell (p := ⟨b, o, none⟩) BL.out).trans hc0, below_later hT.2 hb8⟩))
      (first
        | (go_at_call 63; rename _ ∧ Below w.heap.size w _ => hT
           go_fit (IH.out ta m (c - 1) _ (HT.out.past hT.2) HR.out)
           rintro e w8 ⟨a8, n8, c8, rfl, h8, hb8⟩
           have hB8 := Nat.le_trans (Nat.le_of_eq h8.len.symm) (Nat.le_trans L2.out (show 65537 ≤ 68719476736 by decide))
           have h19 := (h1.past (Below.refl _ _).drew).past hb8)
        | (go_at_call 93; rename _ ∧ Below w.heap.size w _ => hT
           go_fit (tmul_any _ _ _ (digs (ch s z)) _ _ _ (digs (multi q r)) _ h19.toNatAt h8.toNatAt HB1.out hB8)
           rintro e w9 ⟨a9, n9, c9, rfl, h9, hb9⟩
           rw [val_digs, val_digs] at h9))
    all_goals
      rename _ ∧ Below w.heap.size w _ => hT
      have h9 := h9.mono (Nat.le_trans hb1.size hb8.size)
      go_wp2
      go_ret
      exact ⟨_, _, _, rfl, h9, hT.2⟩

/-- what Count takes: no number below 0, and of all together no more than are gone through -/
def okInts (zs : List Int) : Prop := (∀ z ∈ zs, 0 ≤ z) ∧ zs.sum ≤ 65536
theorem okInts_nat {zs : List Int} (h : okInts zs) : ∃ ns : List Nat, zs = ints ns ∧ ns.sum ≤ 65536 := by
  refine ⟨zs.map Int.toNat, ?_, ?_⟩
  · unfold ints
    rw [List.map_map]
    refine (List.map_id zs).symm.trans (List.map_congr_left fun z hz => ?_)
    have := h.1 z hz
    simp; omega
  · have key : ∀ l : List Int, (∀ z ∈ l, 0 ≤ z) → (((l.map Int.toNat).sum : Nat) : Int) = l.sum := by
      intro l
      induction l with
      | nil => intro _; rfl
      | cons z r ih =>
        intro hp
        have := ih (fun x hx => hp x (by simp [hx]))
        have := hp z (by simp)
        simp only [List.map_cons, List.sum_cons]
        omega
    have := key zs h.1
    have := h.2
    omega

set_option maxRecDepth 100000 in
theorem count_yes (ns : List Nat) (a : Option Addr) (n c : Nat) (w : World) (h : IntsAt w a n c (ints ns)) (hs : ns.sum ≤ 65536) :
    Calls Try.prog 24 #[.slice a n c] w (RetNE w (multi ns.sum ns) 0) := by
  have hcl : c ≤ 9223372036854775807 := by have := h.cle; simp only [maxLen] at this; omega
  have hle := h.le
  have hlen : ns.length = n := by rw [← ints_len]; exact h.len
  go_enter Try.func24, Try.ntmps24
  go_wp2_with fail
  go_loopw [4, 6, 9] (fun s4 s6 s9 wr => ∃ (k s : Nat), k ≤ n ∧ s4 = .int .i64 ((s : Nat) : Int) ∧ s9 = .int .i64 ((k : Nat) : Int) ∧ Hid ((ns.take k).sum = s) ∧ Below w.heap.size w wr) (fun _ _ s9 _ => n - (intOf s9).toNat)
  case atStart => exact ⟨0, 0, Nat.zero_le _, rfl, rfl, Lib.hid rfl, Below.refl _ _⟩
  case round =>
    obtain ⟨k, s, hk, rfl, rfl, HS, hB⟩ := hrel
    by_cases hlt : k < n
    · rcases (h.past hB).cell with h' | ⟨b, o, rfl, hbl, hc⟩
      · omega
      have hc0 := hc k hlt
      rw [ints_getD] at hc0
      have hz1 := getD_le_sum (ns := ns) (k := k) (by omega)
      have hz2 := sum_take_succ (l := ns) (k := k) (by omega)
      obtain ⟨z, hz⟩ : ∃ z, ns.getD k 0 = z := ⟨_, rfl⟩
      rw [hz] at hc0 hz1 hz2
      rw [HS.out] at hz1 hz2
      have t1 : (decide ((z : Int) < 0) || decide ((65536 : Int) - (s : Int) < (z : Int))) = false := by simp; omega
      have b1 : z ≤ 65536 := by omega
      have b2 : s ≤ 65536 := by omega
      have t2 : ¬ ((65536 : Int) - (s : Int) < (z : Int)) := by omega
      have HZ2 := Lib.hid hz2
      clear hc hz hz1 hz2
      go_wp2
      go_roundw
      case measure => simp [intOf] <;> omega
      case rel => exact ⟨k + 1, s + z, by omega, by go_num, by go_num, Lib.hid HZ2.out, hB⟩
    · obtain rfl : k = n := by omega
      have hsum : s = ns.sum := by rw [← HS.out, List.take_of_length_le (by omega)]
      subst hsum
      have h := h.past hB
      have HS2 := Lib.hid hs
      clear HS hlt
      go_wp2_with fail
      with_reducible refine (groups_any ns a _ c _ h HS2.out).mono ?_
      rintro e w1 ⟨a1, n1, c1, rfl, h1, hb1⟩
      have h1 := h1.mono hB.size
      have hB := below_later hB hb1
      go_wp2
      go_ret2
      exact ⟨_, _, _, rfl, h1, hB⟩

theorem int_take_succ {l : List Int} {k : Nat} (h : k < l.length) : l.take (k + 1) = l.take k ++ [l.getD k 0] := by
  rw [List.take_add_one, List.getElem?_eq_getElem h, List.getD_eq_getElem?_getD, List.getElem?_eq_getElem h]; rfl

set_option maxRecDepth 100000 in
theorem count_no (zs : List Int) (a : Option Addr) (n c : Nat) (w : World) (h : IntsAt w a n c zs) (hno : ¬ okInts zs) :
    Calls Try.prog 24 #[.slice a n c] w (RetVal w (.tuple #[.slice none 0 0, .int .i64 3])) := by
  have hcl : c ≤ 9223372036854775807 := by have := h.cle; simp only [maxLen] at this; omega
  have hle := h.le
  have hlen := h.len
  go_enter Try.func24, Try.ntmps24
  go_wp2_with fail
  go_loopw [4, 6, 9] (fun s4 s6 s9 wr => ∃ (k s : Nat), k ≤ n ∧ s4 = .int .i64 ((s : Nat) : Int) ∧ s9 = .int .i64 ((k : Nat) : Int) ∧ Hid ((∀ z ∈ zs.take k, 0 ≤ z) ∧ (zs.take k).sum = (s : Int) ∧ s ≤ 65536) ∧ Below w.heap.size w wr) (fun _ _ s9 _ => n - (intOf s9).toNat)
  case atStart => exact ⟨0, 0, Nat.zero_le _, rfl, rfl, Lib.hid ⟨by simp, rfl, by decide⟩, Below.refl _ _⟩
  case round =>
    obtain ⟨k, s, hk, rfl, rfl, HS, hB⟩ := hrel
    have b2 : s ≤ 65536 := HS.out.2.2
    by_cases hlt : k < n
    · rcases (h.past hB).cell with h' | ⟨b, o, rfl, hbl, hc⟩
      · omega
      have hc0 := hc k hlt
      have htk := int_take_succ (l := zs) (k := k) (by omega)
      obtain ⟨z, hz⟩ : ∃ z, zs.getD k 0 = z := ⟨_, rfl⟩
      rw [hz] at hc0 htk
      have HT := Lib.hid htk
      clear hc hz htk
      by_cases z0 : z < 0
      · go_wp2
        go_ret2
        exact ⟨rfl, hB⟩
      · by_cases z1 : (65536 : Int) - (s : Int) < z
        · have hw : IntKind.i64.wrap ((65536 : Int) - (s : Int)) = 65536 - (s : Int) := IntWalk.i64_in _ (by omega)
          go_wp2
          go_ret2
          exact ⟨rfl, hB⟩
        · have hw : IntKind.i64.wrap ((65536 : Int) - (s : Int)) = 65536 - (s : Int) := IntWalk.i64_in _ (by omega)
          obtain ⟨y, rfl⟩ := Int.eq_ofNat_of_zero_le (show 0 ≤ z by omega)
          have HS2 : Hid ((∀ z ∈ zs.take (k + 1), 0 ≤ z) ∧ (zs.take (k + 1)).sum = ((s + y : Nat) : Int) ∧ s + y ≤ 65536) := Lib.hid (by
            obtain ⟨e1, e2, e3⟩ := HS.out
            rw [HT.out]
            refine ⟨fun x hx => ?_, ?_, by omega⟩
            · rcases List.mem_append.1 hx with h' | h'
              · exact e1 x h'
              · rw [List.mem_singleton] at h'; omega
            · rw [List.sum_append, e2]; simp)
          go_wp2
          go_roundw
          case measure => simp [intOf] <;> omega
          case rel => exact ⟨k + 1, s + y, by omega, by go_num, by go_num, HS2, hB⟩
    · exfalso
      obtain ⟨e1, e2, e3⟩ := HS.out
      rw [List.take_of_length_le (by omega)] at e1 e2
      exact hno ⟨e1, by omega⟩

/-! Count of the reference -/
set_option maxRecDepth 100000 in
theorem rcount_no (zs : List Int) (a : Option Addr) (n c : Nat) (w : World) (h : IntsAt w a n c zs) (hno : ¬ okInts zs) :
    Calls Try.prog 25 #[.slice a n c] w (RetVal w (.tuple #[.slice none 0 0, .int .i64 3])) := by
  have hcl : c ≤ 9223372036854775807 := by have := h.cle; simp only [maxLen] at this; omega
  have hle := h.le
  have hlen := h.len
  go_enter Try.func25, Try.ntmps25
  go_wp2_with fail
  go_loopw [4, 5] (fun s4 s5 wr => ∃ (k s : Nat), k ≤ n ∧ s4 = .int .i64 ((s : Nat) : Int) ∧ s5 = .int .i64 ((k : Nat) : Int) ∧ Hid ((∀ z ∈ zs.take k, 0 ≤ z) ∧ (zs.take k).sum = (s : Int) ∧ s ≤ 65536) ∧ Below w.heap.size w wr) (fun _ s5 _ => n - (intOf s5).toNat)
  case atStart => exact ⟨0, 0, Nat.zero_le _, rfl, rfl, Lib.hid ⟨by simp, rfl, by decide⟩, Below.refl _ _⟩
  case round =>
    obtain ⟨k, s, hk, rfl, rfl, HS, hB⟩ := hrel
    have b2 : s ≤ 65536 := HS.out.2.2
    by_cases hlt : k < n
    · rcases (h.past hB).cell with h' | ⟨b, o, rfl, hbl, hc⟩
      · omega
      have hc0 := hc k hlt
      have htk := int_take_succ (l := zs) (k := k) (by omega)
      obtain ⟨z, hz⟩ : ∃ z, zs.getD k 0 = z := ⟨_, rfl⟩
      rw [hz] at hc0 htk
      have HT := Lib.hid htk
      clear hc hz htk
      by_cases z0 : z < 0
      · go_wp2
        go_ret2
        exact ⟨rfl, hB⟩
      · by_cases z1 : (65536 : Int) < z
        · go_wp2
          go_ret2
          exact ⟨rfl, hB⟩
        · obtain ⟨y, rfl⟩ := Int.eq_ofNat_of_zero_le (show 0 ≤ z by omega)
          by_cases z2 : 65536 < s + y
          · have z3 : (65536 : Int) < (s : Int) + (y : Int) := by omega
            go_wp2
            go_ret2
            exact ⟨rfl, hB⟩
          · have z3 : ¬ (65536 : Int) < (s : Int) + (y : Int) := by omega
            have HS2 : Hid ((∀ z ∈ zs.take (k + 1), 0 ≤ z) ∧ (zs.take (k + 1)).sum = ((s + y : Nat) : Int) ∧ s + y ≤ 65536) := Lib.hid (by
              obtain ⟨e1, e2, e3⟩ := HS.out
              rw [HT.out]
              refine ⟨fun x hx => ?_, ?_, by omega⟩
              · rcases List.mem_append.1 hx with h' | h'
                · exact e1 x h'
                · rw [List.mem_singleton] at h'; omega
              · rw [List.sum_append, e2]; simp)
            go_wp2
            go_roundw
            case measure => simp [intOf] <;> omega
            case rel => exact ⟨k + 1, s + y, by omega, by go_num, by go_num, HS2, hB⟩
    · exfalso
      obtain ⟨e1, e2, e3⟩ := HS.out
      rw [List.take_of_length_le (by omega)] at e1 e2
      exact hno ⟨e1, by omega⟩

set_option maxRecDepth 100000 in
set_option maxHeartbeats 1000000 in
theorem rcount_yes (ns : List Nat) (a : Option Addr) (n c : Nat) (w : World) (h : IntsAt w a n c (ints ns)) (hs : ns.sum ≤ 65536) :
    Calls Try.prog 25 #[.slice a n c] w (RetNE w (multi ns.sum ns) 0) := by
  have hcl : c ≤ 9223372036854775807 := by have := h.cle; simp only [maxLen] at this; omega
  have hle := h.le
  have hlen : ns.length = n := by rw [← ints_len]; exact h.len
  have H0 := h
  go_enter Try.func25, Try.ntmps25
  go_wp2_with fail
  go_loopw [4, 5] (fun s4 s5 wr => ∃ (k s : Nat), k ≤ n ∧ s4 = .int .i64 ((s : Nat) : Int) ∧ s5 = .int .i64 ((k : Nat) : Int) ∧ Hid ((ns.take k).sum = s) ∧ Below w.heap.size w wr) (fun _ s5 _ => n - (intOf s5).toNat)
  case atStart => exact ⟨0, 0, Nat.zero_le _, rfl, rfl, Lib.hid rfl, Below.refl _ _⟩
  case round =>
    obtain ⟨k, s, hk, rfl, rfl, HS, hB⟩ := hrel
    by_cases hlt : k < n
    · rcases (h.past hB).cell with h' | ⟨b, o, rfl, hbl, hc⟩
      · omega
      have hc0 := hc k hlt
      rw [ints_getD] at hc0
      have hz1 := getD_le_sum (ns := ns) (k := k) (by omega)
      have hz2 := sum_take_succ (l := ns) (k := k) (by omega)
      obtain ⟨z, hz⟩ : ∃ z, ns.getD k 0 = z := ⟨_, rfl⟩
      rw [hz] at hc0 hz1 hz2
      rw [HS.out] at hz1 hz2
      have t1 : (decide ((z : Int) < 0) || decide ((65536 : Int) < (z : Int))) = false := by simp; omega
      have b1 : z ≤ 65536 := by omega
      have b2 : s ≤ 65536 := by omega
      have t2 : ¬ ((65536 : Int) < (s : Int) + (z : Int)) := by omega
      have HZ2 := Lib.hid hz2
      clear hc hz hz1 hz2
      go_wp2
      go_roundw
      case measure => simp [intOf] <;> omega
      case rel => exact ⟨k + 1, s + z, by omega, by go_num, by go_num, Lib.hid HZ2.out, hB⟩
    · obtain rfl : n = k := by omega
      have hsum : s = ns.sum := by rw [← HS.out, List.take_of_length_le (by omega)]
      subst hsum
      have h := h.past hB
      have HSM := Lib.hid hs
      obtain ⟨S, hS⟩ : ∃ S, ns.sum = S := ⟨_, rfl⟩
      rw [hS] at hs ⊢
      have HSS := Lib.hid hS
      clear HS hlt hS
      go_wp2_with fail
      refine (rof_any 1 _ (by decide)).mono ?_
      rintro e w1 ⟨a1, n1, c1, rfl, h1, hb1⟩
      have h1 := h1.mono hB.size
      have h := h.past hb1
      have hB := below_later hB hb1
      clear hb1
      go_wp2_with fail
      go_loopw [4, 6, 7, 8, 9] (fun s4 s6 s7 s8 s9 wq => ∃ (k s X : Nat) (a2 : Option Addr) (n2 c2 : Nat), k ≤ n ∧ s4 = .int .i64 ((s : Nat) : Int) ∧ s6 = .slice a2 n2 c2 ∧ s7 = .int .i64 ((k : Nat) : Int) ∧ Hid ((ns.drop k).sum = s ∧ X * multi s (ns.drop k) = multi S ns) ∧ OwnAt wq w.heap.size a2 n2 c2 (digs X) ∧ Below w.heap.size w wq) (fun _ _ s7 _ _ _ => n - (intOf s7).toNat)
      case atStart => exact ⟨0, S, 1, _, _, _, Nat.zero_le _, rfl, rfl, rfl, Lib.hid ⟨HSS.out, by rw [Nat.one_mul]; rfl⟩, h1, hB⟩
      case round =>
        clear h1 hB
        obtain ⟨k, s, X, a2, n2, c2, hk, rfl, rfl, rfl, HX, h2, hB⟩ := hrel
        by_cases hlt : k < n
        · rcases (H0.past hB).cell with h' | ⟨b, o, rfl, hbl, hc⟩
          · omega
          have hc0 := hc k hlt
          rw [ints_getD] at hc0
          have hdr := drop_cons (l := ns) (k := k) (by omega)
          obtain ⟨e1, e2⟩ := HX.out
          have hds : (ns.drop k).sum ≤ ns.sum := by
            have : ns.sum = (ns.take k).sum + (ns.drop k).sum := by rw [← List.sum_append, List.take_append_drop]
            omega
          have hmp := multi_pos (ns.drop k) s (by omega)
          have hml := multi_len (l := ns) (s := S) (by rw [HSS.out]; exact Nat.le_refl _) hs
          have hxl : (digs X).length ≤ 65537 := Nat.le_trans (digs_len_mono (by rw [← e2]; exact Nat.le_mul_of_pos_right _ hmp)) hml
          have hsS : s ≤ 65536 := by rw [HSS.out] at hds; omega
          obtain ⟨z, hz⟩ : ∃ z, ns.getD k 0 = z := ⟨_, rfl⟩
          rw [hz] at hc0 hdr
          obtain ⟨q, hq⟩ : ∃ q, (ns.drop (k + 1)).sum = q := ⟨_, rfl⟩
          have hszq : s = z + q := by rw [← e1, hdr, List.sum_cons, hq]
          have hsub : (s : Int) - (z : Int) = (q : Int) := by omega
          have hzs : z ≤ s := by omega
          have e3 : X * ch s z * multi q (ns.drop (k + 1)) = multi S ns := by
            rw [← e2, hdr]
            show _ = X * (ch s z * multi (s - z) _)
            rw [show s - z = q by omega, Nat.mul_assoc]
          have HX2 : Hid ((ns.drop (k + 1)).sum = q ∧ X * ch s z * multi q (ns.drop (k + 1)) = multi S ns) := Lib.hid ⟨hq, e3⟩
          have l1 := ch_len (n := s) (by omega) z
          have L1 : Hid ((digs (ch s z)).length ≤ 65537) := Lib.hid (by omega)
          have bn2 : n2 ≤ 65537 := by rw [← h2.len]; exact hxl
          have hq2 : q ≤ 65536 := by omega
          have BL := Lib.hid hbl
          clear hc hdr e1 e2 e3 hds hmp hml hxl hz hq hszq l1 hbl
          go_wp2_with fail
          with_reducible refine (rchoose_in s z _ hsS hzs).mono ?_
          rintro e w3 ⟨a3, n3, c3, rfl, h3, hb3⟩
          have bn3 : n3 ≤ 65537 := by have := h3.len; have := L1.out; omega
          have q1 := (hb3.cell (p := ⟨b, o + k, none⟩) BL.out).trans hc0
          have h2 := h2.past hb3
          have hB3 := below_later hB hb3
          have lt3 := Nat.lt_of_lt_of_le BL.out hb3.size
          clear hb3 hB
          go_wp2_with fail
          with_reducible refine (rmul_any _ _ _ (digs X) _ _ _ (digs (ch s z)) _ h2.toNatAt h3.toNatAt (by omega) (by omega)).mono ?_
          rintro e w4 ⟨a4, n4, c4, rfl, h4, hb4⟩
          rw [val_digs, val_digs] at h4
          have q2 := (hb4.cell (p := ⟨b, o + k, none⟩) lt3).trans q1
          have h4 := h4.mono hB3.size
          have hB4 := below_later hB3 hb4
          clear hb4 hB3 h2 h3 q1
          go_wp2
          go_roundw
          case measure => simp [intOf] <;> omega
          case rel => exact ⟨k + 1, q, X * ch s z, _, _, _, by omega, rfl, rfl, by go_num, HX2, h4, hB4⟩
        · obtain rfl : n = k := by omega
          have e2 := HX.out.2
          have e1 := HX.out.1
          rw [List.drop_of_length_le (by omega)] at e2
          have e3 : X = multi S ns := by rw [← e2]; exact (Nat.mul_one X).symm
          subst e3
          clear e1 e2 hlt
          go_wp2
          go_ret2
          exact ⟨_, _, _, rfl, (by rw [HSS.out]; exact h2), hB⟩

end Go.Proofs.Ytdjhgalaianifaa
