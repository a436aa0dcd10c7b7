import Derived.Test.YtkhcblihbalnbaaGreatDoorTimes2Pb
import Derived.Test.YtkhcblihbalnbaaGreatDoorLimbs6Pb
set_option linter.unusedVariables false
set_option linter.unusedSimpArgs false
set_option maxRecDepth 100000
namespace Go.Proofs.YtkhcblihbalnbaaGreatDoor
open Go.RowKit
theorem at_any (a:Option Addr) (n c:Nat) (l:List Nat) (d:Nat) (w:World) (h:NatAt w a n c l) (hs:n≤274877906944) (hd:d≤274877906944) :
 Calls Tryz.prog 192 #[.slice a n c,.int .i64 (d:Int)] w fun e w'=>∃ a' n' c' L,e = .returned (.slice a' n' c')∧OwnAt w' w.heap.size a' n' c' L∧val L=18446744073709551616 ^ d*val l∧n'≤d+n∧Below w.heap.size w w':=by
 obtain ⟨i0,hi,hz0,hz1,hz2⟩:=info_parts info109
 by_cases hn:n=0
 · subst hn;have hl:l=[]:=List.eq_nil_of_length_eq_zero h.len;have e:(0:Nat)=18446744073709551616 ^ d*val l:=by rw [hl];simp [val]
   have E:=hiD e;clear hl e
   go_enter Tryz.func192,Tryz.ntmps192
   go_wp2
   go_ret
   exact ⟨_,_,_,[],rfl,OwnAt.nil _ _,E.out,by omega,bRf _ _⟩
 have t1:((n:Int) == 0)=false:=by simp only [beq_eq_false_iff_ne];omega
 clear hn
 go_enter Tryz.func192,Tryz.ntmps192
 go_wp2_with (first
  | (at_make;refine wpList_make_full _ rfl _ _ 24 rfl w.heap.size 109 i0 (.int .u64 0) 1 Tryz.underlying24 hi hz0 hz1 .i64 .i64 _ _ d rfl rfl rfl rfl (by rw [hz2];omega) (by simp only [maxLen];omega) (nRf _) ?_;intro w2 hr2 hg2)
  | (at_builtin;refine wpList_append_nat rfl _ _ 24 rfl w.heap.size 109 i0 Tryz.underlying24 hi hz0 hz1 hz2 _ d (dv (List.replicate d 0)) rfl (by rw [dv_replicate,← toList_madeCells_one];rw [Nat.mul_one] at hr2;exact hr2) a n c l rfl (h.later ((bRf w.heap.size w).grown hg2 (nRf _) (fun k e=>by cases e)) (nRf _)) (by omega) hg2.size ?_;intro a' c' w1 hown hgrow))
 go_ret
 rw [← dv_append] at hown;obtain ⟨a5,c5,e5,h8⟩:=OwnAt.ofRow hown (dig_append.2 ⟨dig_replicate d,h.dig⟩);cases e5;have hb2:Below w.heap.size w w2:=(bRf _ _).grown hg2 (nRf _) (fun k e=>by cases e);exact ⟨_,_,_,_,rfl,h8,val_shift d l,nRf _,hb2.grown hgrow hb2.size (fun k hk=>(hr2.lt k hk).1)⟩
theorem D_drop (l:List Nat) (m i:Nat):D (l.drop m) i=D l (m+i):=by
 simp [D,List.getD_eq_getElem?_getD]
theorem NatAt.drop {w:World} {b o n c:Nat} {l:List Nat} (h:NatAt w (some ⟨b,o,none⟩) n c l) (m:Nat) (hm:m≤n):NatAt w (some ⟨b,o+m,none⟩) (n-m) (c-m) (l.drop m):=by
 refine ⟨by rw [List.length_drop,h.len],by have:=h.le;omega,by have:=h.cle;omega,h.dig.drop m,?_,fun e=>by cases e⟩
 by_cases h0:n-m=0
 · exact .inl h0
 rcases h.cell with hn | ⟨b',o',he,hc⟩
 · omega
 cases he;exact .inr ⟨b,o+m,rfl,fun i hi=>by rw [D_drop,Nat.add_assoc];exact hc (m+i) (by omega)⟩
theorem NatAt.drop_if {w:World} {b o n c:Nat} {l:List Nat} (h:NatAt w (some ⟨b,o,none⟩) n c l) (m:Nat) (hm:m≤n):NatAt w (if c=m then some ⟨b,o,none⟩ else some ⟨b,o+m,none⟩) (n-m) (c-m) (l.drop m):=by
 by_cases e:c=m
 · have h1:=h.drop m hm;have:=h.le;rw [if_pos e];exact ⟨h1.len,h1.le,h1.cle,h1.dig,.inl (by omega),fun e=>by cases e⟩
 rw [if_neg e];exact h.drop m hm
theorem cut_any (BH:Nat) (b o n c g m:Nat) (l:List Nat) (w:World) (hm:min g n=m) (hh:w.cell? ⟨BH,0,none⟩=some (.int .i64 (g:Int))) (hl:NatAt w (some ⟨b,o,none⟩) n c l) :
 Calls Tryz.prog 190 #[.slice (some ⟨b,o,none⟩) n c,.pointer (some ⟨BH,0,none⟩)] w fun e w'=>∃ a2 n2 c2,e = .returned (.tuple #[.slice (some ⟨b,o,none⟩) m c,.slice a2 n2 c2])∧n2=n-m∧NatAt w' (some ⟨b,o,none⟩) m c (l.take m)∧NatAt w' a2 n2 c2 (l.drop m)∧Below w.heap.size w w':=by
 have hle:=hl.le;have hcle:=hl.cle;have hm1:m≤n:=by omega
 have v1:min (g:Int) (n:Int)=(m:Int):=by omega
 have hd1:c=m→NatAt w (some ⟨b,o,none⟩) (n-m) 0 (l.drop m):=fun e=>by have:=hl.drop_if m hm1;rwa [if_pos e,show c-m=0 by omega] at this
 have hd2:¬ c=m→NatAt w (some ⟨b,o+m,none⟩) (n-m) (c-m) (l.drop m):=fun e=>by have:=hl.drop_if m hm1;rwa [if_neg e] at this
 have HD1:=hiD hd1;have HD2:=hiD hd2;clear hd1 hd2
 go_enter Tryz.func190,Tryz.ntmps190
 go_wp2_with fail
 go_quiet (fail)
 go_wp2
 all_goals (first | go_ret2 | skip)
 all_goals
  first
   | (subst h;exact ⟨_,_,_,rfl,rfl,(hl.take hm1).draws _,(HD1.out rfl).draws _,Below.draws (bRf _ _) _⟩)
   | exact ⟨_,_,_,rfl,rfl,(hl.take hm1).draws _,(HD2.out h).draws _,Below.draws (bRf _ _) _⟩
theorem less_any (a:Option Addr) (n c:Nat) (l:List Nat) (a1:Option Addr) (n1 c1:Nat) (l1:List Nat) (a2:Option Addr) (n2 c2:Nat) (l2:List Nat) (b o c3:Nat) (w:World) (h:NatAt w a n c l) (h1:NatAt w a1 n1 c1 l1) (h2:NatAt w a2 n2 c2 l2)
 (hc1:w.cell? ⟨b,o,none⟩=some (.slice a1 n1 c1)) (hc2:w.cell? ⟨b,o+1,none⟩=some (.slice a2 n2 c2)) (hc3:2≤c3∧c3≤9223372036854775807) (hs:n≤274877906944) (hv:val l1+val l2≤val l) :
 Calls Tryz.prog 191 #[.slice a n c,.slice (some ⟨b,o,none⟩) 2 c3] w (RetNat w (val l-val l1-val l2)):=by
 have hv1:val l1≤val l:=by omega
 have hv2:val l2≤val (digs (val l-val l1)):=by rw [val_digs];omega
 have hb:=World.block_lt_of_cell? w _ hc1
 go_enter Tryz.func191,Tryz.ntmps191
 go_wp2_with fail
 refine wp_loop_rounds 3 ?_;rw [rounds_succ]
 go_wp2_with fail
 refine (sub_yes _ _ _ l _ _ _ l1 _ h h1 (by omega) hv1).mono ?_;rintro e w1 ⟨a4,n4,c4,rfl,h4,hb4⟩;have b4:n4≤n:=by have e1:=h4.len;have e2:=digs_len_mono (Nat.sub_le (val l) (val l1));have e3:=h.short;omega
 have h2:=h2.later hb4 (nRf _);have hc2:w1.cell? ⟨b,o+1,none⟩=some (.slice a2 n2 c2):=(hb4.cell (p:=⟨b,o+1,none⟩) hb).trans hc2
 go_wp2_with fail
 rw [rounds_succ]
 go_wp2_with fail
 refine (sub_yes _ _ _ (digs (val l-val l1)) _ _ _ l2 _ h4.toNatAt h2 (by omega) hv2).mono ?_;rintro e w2 ⟨a5,n5,c5,rfl,h5,hb5⟩;rw [val_digs] at h5
 go_wp2_with fail
 rw [rounds_succ]
 go_wp2
 go_ret
 exact RetNat.of hb4 ⟨_,_,_,rfl,h5,hb5⟩
end Go.Proofs.YtkhcblihbalnbaaGreatDoor
