import Derived.Test.YtkhcblihbalnbaaGreatDoorDigits5Pb
import Derived.Test.YtkhcblihbalnbaaGreatDoorKit2Pb
set_option linter.unusedVariables false
set_option linter.unusedSimpArgs false
set_option maxHeartbeats 4000000
set_option maxRecDepth 100000
namespace Go.Proofs.YtkhcblihbalnbaaGreatDoor
open Go.RowKit
theorem get_long (s:ByteArray) (w:World) (h:10000<s.size) (hs:s.size≤9223372036854775807) :
 Calls Tryz.prog 76 #[.string s] w (RetGet w 0 4 10000):=by
 go_enter Tryz.func76,Tryz.ntmps76
 go_wp2
 refine bodyPost_ret (v:=.tuple #[.slice none 0 0,.agg #[.int .i64 4,.int .i64 10000]]) (by simp [results,Tryz.results76,go_sem]) rfl ⟨none,0,0,rfl,OwnAt.nil _ _,?_⟩;exact (bRf _ _).alloc (nRf _) _
theorem get_bad (s:ByteArray) (w:World) (h:s.size≤10000) (hf:fineL s.data.toList=false) :
 Calls Tryz.prog 76 #[.string s] w (RetGet w 0 6 (formL s.data.toList)):=by
 have hle:=formL_le s.data.toList;rw [size_list] at hle;have hff:=fun w=>form_any s w h
 have hcase:formL s.data.toList<s.size∨(formL s.data.toList=s.size∧s.toList.isEmpty=true):=by
  by_cases e:formL s.data.toList=s.size
  · refine .inr ⟨e,?_⟩;unfold fineL at hf;rw [size_list,e] at hf;simp at hf;rw [toList_data]
    simpa using hf
  exact .inl (by omega)
 obtain ⟨F,hF⟩:∃ F,formL s.data.toList=F:=⟨_,rfl⟩;simp only [hF] at hff hle hcase ⊢;have HFF:=hiD hff;clear hff hF hf;rcases hcase with hlt | ⟨rfl,hemp⟩
 · go_enter Tryz.func76,Tryz.ntmps76
   go_wp2_with fail
   obtain ⟨wA,hW,hz0,hbA,q,f⟩:=box1g w (w.heap.size) (by omega) #[.int .i64 0,.int .i64 0] 67;rw [hW];have lA:w.heap.size<wA.heap.size:=by omega
   have q0:=q 0;have q1:=q 1;have f0:=f 0;have f1:=f 1;simp only [lgA,lgZ,lgS] at q0 q1;clear q f hW hz0;refine (HFF.out _).mono ?_;rintro e w1 ⟨rfl,hb1⟩;have q0:=(hb1.cell (p:=⟨w.heap.size,0,none⟩) lA).trans q0;have q1:=(hb1.cell (p:=⟨w.heap.size,1,none⟩) lA).trans q1;have f0:=(hb1.frozen (p:=⟨w.heap.size,0,none⟩) lA).trans f0;have f1:=(hb1.frozen (p:=⟨w.heap.size,1,none⟩) lA).trans f1;have hB:=bLt hbA hb1;clear hb1 hbA HFF
   go_wp2_with fail
   obtain ⟨W3,hW3⟩:∃ W3,(w1.setCell ⟨w.heap.size,0,none⟩ (.int .i64 6)).setCell ⟨w.heap.size,1,none⟩ (.int .i64 (F:Int))=W3:=⟨_,rfl⟩
   have c0:W3.cell? ⟨w.heap.size,0,none⟩=some (.int .i64 6):=by
    rw [← hW3,World.cell?_setCell_other _ _ _ _ (by intro e;injection e with _ e;cases e)];exact World.cell?_setCell_same _ _ _ q0
   have c1:W3.cell? ⟨w.heap.size,1,none⟩=some (.int .i64 (F:Int)):=by
    rw [← hW3];exact World.cell?_setCell_same _ _ _ (by rw [World.cell?_setCell_other _ _ _ _ (by intro e;injection e with _ e;cases e)];exact q1)
   have hb3:Below w.heap.size w W3:=by
    rw [← hW3];exact (hB.setCell (p:=⟨w.heap.size,0,none⟩) (nRf _) _).setCell (p:=⟨w.heap.size,1,none⟩) (nRf _) _
   rw [hW3];refine bodyPost_ret (v:=.tuple #[.slice none 0 0,.agg #[.int .i64 6,.int .i64 (F:Int)]]) (by simp [results,Tryz.results76,go_sem,c0,c1]) rfl ⟨none,0,0,rfl,OwnAt.nil _ _,hb3⟩
 go_enter Tryz.func76,Tryz.ntmps76
 go_wp2_with fail
 obtain ⟨wA,hW,hz0,hbA,q,f⟩:=box1g w (w.heap.size) (by omega) #[.int .i64 0,.int .i64 0] 67;rw [hW];have lA:w.heap.size<wA.heap.size:=by omega
 have q0:=q 0;have q1:=q 1;have f0:=f 0;have f1:=f 1;simp only [lgA,lgZ,lgS] at q0 q1;clear q f hW hz0;refine (HFF.out _).mono ?_;rintro e w1 ⟨rfl,hb1⟩;have q0:=(hb1.cell (p:=⟨w.heap.size,0,none⟩) lA).trans q0;have q1:=(hb1.cell (p:=⟨w.heap.size,1,none⟩) lA).trans q1;have f0:=(hb1.frozen (p:=⟨w.heap.size,0,none⟩) lA).trans f0;have f1:=(hb1.frozen (p:=⟨w.heap.size,1,none⟩) lA).trans f1;have hB:=bLt hbA hb1;clear hb1 hbA HFF
 go_wp2_with fail
 obtain ⟨W3,hW3⟩:∃ W3,(w1.setCell ⟨w.heap.size,0,none⟩ (.int .i64 6)).setCell ⟨w.heap.size,1,none⟩ (.int .i64 (s.size:Int))=W3:=⟨_,rfl⟩
 have c0:W3.cell? ⟨w.heap.size,0,none⟩=some (.int .i64 6):=by
  rw [← hW3,World.cell?_setCell_other _ _ _ _ (by intro e;injection e with _ e;cases e)];exact World.cell?_setCell_same _ _ _ q0
 have c1:W3.cell? ⟨w.heap.size,1,none⟩=some (.int .i64 (s.size:Int)):=by
  rw [← hW3];exact World.cell?_setCell_same _ _ _ (by rw [World.cell?_setCell_other _ _ _ _ (by intro e;injection e with _ e;cases e)];exact q1)
 have hb3:Below w.heap.size w W3:=by
  rw [← hW3];exact (hB.setCell (p:=⟨w.heap.size,0,none⟩) (nRf _) _).setCell (p:=⟨w.heap.size,1,none⟩) (nRf _) _
 rw [hW3];refine bodyPost_ret (v:=.tuple #[.slice none 0 0,.agg #[.int .i64 6,.int .i64 (s.size:Int)]]) (by simp [results,Tryz.results76,go_sem,c0,c1]) rfl ⟨none,0,0,rfl,OwnAt.nil _ _,hb3⟩
theorem get_any (s:ByteArray) (w:World) (hs:s.size≤9223372036854775807) :
 Calls Tryz.prog 76 #[.string s] w (RetGet w (getN s.data.toList) (getE s.data.toList) (getA s.data.toList)):=by
 by_cases h:10000<s.size
 · have e:getN s.data.toList=0∧getE s.data.toList=4∧getA s.data.toList=10000:=by
    have hl:10000<s.data.toList.length:=by rw [size_list];exact h
    refine ⟨?_,if_pos hl,if_pos hl⟩;unfold getN okL;rw [if_neg];simp;omega
   rw [e.1,e.2.1,e.2.2];exact get_long s w h hs
 have hl:¬ 10000<s.data.toList.length:=by rw [size_list];exact h
 cases hf:fineL s.data.toList with
 | true =>
   have hok:okL s.data.toList=true:=by unfold okL;rw [hf];simp;omega
   have e:getE s.data.toList=0∧getA s.data.toList=0:=by
    unfold getE getA;rw [if_neg hl,if_neg hl,hf];exact ⟨rfl,rfl⟩
   rw [e.1,e.2];exact get_yes s w hok
 | false =>
   have e:getN s.data.toList=0∧getE s.data.toList=6∧getA s.data.toList=formL s.data.toList:=by
    unfold getN okL getE getA;rw [if_neg hl,if_neg hl,hf];simp
   rw [e.1,e.2.1,e.2.2];exact get_bad s w (by omega) hf
end Go.Proofs.YtkhcblihbalnbaaGreatDoor
