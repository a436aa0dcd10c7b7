import Derived.Deep.RegionHeld3
import Derived.Deep.RegionWith
import Derived.Test.YtkhcblihbalnbaaGreatS0Pl
import Derived.Test.YtkhcblihbalnbaaGreatLimbs6Pl
import Derived.Test.YtkhcblihbalnbaaGreatTimes4Pl
import Derived.Test.YtkhcblihbalnbaaGreatLimbs1Pl
import Derived.Test.YtkhcblihbalnbaaGreatNumPl
import Derived.Test.YtkhcblihbalnbaaGreatTimes1Pl
set_option linter.unusedVariables false
set_option linter.unusedSimpArgs false
set_option maxHeartbeats 4000000
set_option maxRecDepth 100000
namespace Go.Proofs.YtkhcblihbalnbaaGreat
section
open Go.RowKit
theorem OwnAt.ret2 {w w1 w3:World} {R:Nat} {a:Option Addr} {n c:Nat} {l:List Nat} (h:OwnAt w3 w1.heap.size a n c l) (hR:R<w1.heap.size) (hw:w.heap.size≤w1.heap.size) (x y:Value) :
 OwnAt ((w3.setCell ⟨R,0,none⟩ x).setCell ⟨R,1,none⟩ y) w.heap.size a n c l:=((h.setOff hR _).setOff hR _).mono hw
theorem along_any (b:Bool) (a:Option Addr) (n c:Nat) (l:List Nat) (b2:Bool) (a2:Option Addr) (n2 c2:Nat) (l2:List Nat) (w:World) (h:NatAt w a n c l) (h2:NatAt w a2 n2 c2 l2) (hs:n≤274877906944) (hs2:n2≤274877906944) :
 Calls Tryz.prog 167 #[.agg #[.bool b,.slice a n c],.agg #[.bool b2,.slice a2 n2 c2]] w (RetInt w (sg b (val l+val l2))):=by
 have hlen:(digs (val l+val l2)).length≤1099511627776:=by have:=h.short;have:=h2.short;have:=digs_len_add (val l) (val l2);omega
 have HL:=hiD hlen;clear hlen
 go_enter Tryz.func167,Tryz.ntmps167
 go_wp2_with fail
 obtain ⟨W,hW,hz,hBW,q0,q1,q2,q3⟩:=boxes3 w #[.bool b,.slice a n c] #[.bool b2,.slice a2 n2 c2] #[.bool false,.slice none 0 0] 26 26 26;rw [hW];have HLT:Hid (w.heap.size+1+1<W.heap.size):=hiD (by omega);have Q0:=hiD q0;have L0:Hid (w.heap.size<w.heap.size+1+1):=hiD (by omega);have Q1:=hiD q1;have L1:Hid (w.heap.size+1<w.heap.size+1+1):=hiD (by omega);have LR:Hid (w.heap.size≤w.heap.size+1+1):=hiD (by omega);have RM:=hiD (Room.of q2 q3);have HB:=hiD hBW;clear hW hz hBW q0 q1 q2 q3
 go_region_held3 (fun w'=>(w'.cell? ⟨w.heap.size,0,none⟩=some (.bool b)∧w'.cell? ⟨w.heap.size,1,none⟩=some (.slice a n c)∧w'.cell? ⟨w.heap.size+1,0,none⟩=some (.bool b2)∧w'.cell? ⟨w.heap.size+1,1,none⟩=some (.slice a2 n2 c2))∧(Room w' (w.heap.size+1+1) 2∧Below w.heap.size w w'∧Below (w.heap.size+1+1) W w'))
  (first
    | exact ⟨⟨((bRf (w.heap.size+1+1) W).drew.cell (p:=⟨w.heap.size,0,none⟩) L0.out).trans (Q0.out 0),((bRf (w.heap.size+1+1) W).drew.cell (p:=⟨w.heap.size,1,none⟩) L0.out).trans (Q0.out 1),((bRf (w.heap.size+1+1) W).drew.cell (p:=⟨w.heap.size+1,0,none⟩) L1.out).trans (Q1.out 0),((bRf (w.heap.size+1+1) W).drew.cell (p:=⟨w.heap.size+1,1,none⟩) L1.out).trans (Q1.out 1)⟩,RM.out.drew,HB.out.drew,(bRf _ _).drew⟩
    | (rename _ ∧ (Room _ _ _ ∧ Below w.heap.size w _ ∧ Below _ W _) => hS
       first
        | exact ⟨⟨((hS.2.2.2.trans (hb2.mono (nOf (nLt HLT.out hS.2.2.2.size)))).cell (p:=⟨w.heap.size,0,none⟩) L0.out).trans (Q0.out 0),((hS.2.2.2.trans (hb2.mono (nOf (nLt HLT.out hS.2.2.2.size)))).cell (p:=⟨w.heap.size,1,none⟩) L0.out).trans (Q0.out 1),((hS.2.2.2.trans (hb2.mono (nOf (nLt HLT.out hS.2.2.2.size)))).cell (p:=⟨w.heap.size+1,0,none⟩) L1.out).trans (Q1.out 0),((hS.2.2.2.trans (hb2.mono (nOf (nLt HLT.out hS.2.2.2.size)))).cell (p:=⟨w.heap.size+1,1,none⟩) L1.out).trans (Q1.out 1)⟩,hS.2.1.past hb2 (nLt HLT.out hS.2.2.2.size),bLt hS.2.2.1 hb2,(hS.2.2.2.trans (hb2.mono (nOf (nLt HLT.out hS.2.2.2.size))))⟩
        | exact ⟨⟨((hS.2.2.2.trans (hb1.mono (nOf (nLt HLT.out hS.2.2.2.size)))).cell (p:=⟨w.heap.size,0,none⟩) L0.out).trans (Q0.out 0),((hS.2.2.2.trans (hb1.mono (nOf (nLt HLT.out hS.2.2.2.size)))).cell (p:=⟨w.heap.size,1,none⟩) L0.out).trans (Q0.out 1),((hS.2.2.2.trans (hb1.mono (nOf (nLt HLT.out hS.2.2.2.size)))).cell (p:=⟨w.heap.size+1,0,none⟩) L1.out).trans (Q1.out 0),((hS.2.2.2.trans (hb1.mono (nOf (nLt HLT.out hS.2.2.2.size)))).cell (p:=⟨w.heap.size+1,1,none⟩) L1.out).trans (Q1.out 1)⟩,hS.2.1.past hb1 (nLt HLT.out hS.2.2.2.size),bLt hS.2.2.1 hb1,(hS.2.2.2.trans (hb1.mono (nOf (nLt HLT.out hS.2.2.2.size))))⟩
        | exact ⟨⟨((hS.2.2.2.alloc (nOf (nLt HLT.out hS.2.2.2.size)) _).cell (p:=⟨w.heap.size,0,none⟩) L0.out).trans (Q0.out 0),((hS.2.2.2.alloc (nOf (nLt HLT.out hS.2.2.2.size)) _).cell (p:=⟨w.heap.size,1,none⟩) L0.out).trans (Q0.out 1),((hS.2.2.2.alloc (nOf (nLt HLT.out hS.2.2.2.size)) _).cell (p:=⟨w.heap.size+1,0,none⟩) L1.out).trans (Q1.out 0),((hS.2.2.2.alloc (nOf (nLt HLT.out hS.2.2.2.size)) _).cell (p:=⟨w.heap.size+1,1,none⟩) L1.out).trans (Q1.out 1)⟩,hS.2.1.past ((bRf _ _).alloc (nRf _) _) (nLt HLT.out hS.2.2.2.size),below_alloc hS.2.2.1 _,(hS.2.2.2.alloc (nOf (nLt HLT.out hS.2.2.2.size)) _)⟩
        | exact ⟨⟨(((hS.2.2.2.setCell (p:=⟨w.heap.size+1+1,0,none⟩) (nRf _) _).setCell (p:=⟨w.heap.size+1+1,1,none⟩) (nRf _) _).cell (p:=⟨w.heap.size,0,none⟩) L0.out).trans (Q0.out 0),(((hS.2.2.2.setCell (p:=⟨w.heap.size+1+1,0,none⟩) (nRf _) _).setCell (p:=⟨w.heap.size+1+1,1,none⟩) (nRf _) _).cell (p:=⟨w.heap.size,1,none⟩) L0.out).trans (Q0.out 1),(((hS.2.2.2.setCell (p:=⟨w.heap.size+1+1,0,none⟩) (nRf _) _).setCell (p:=⟨w.heap.size+1+1,1,none⟩) (nRf _) _).cell (p:=⟨w.heap.size+1,0,none⟩) L1.out).trans (Q1.out 0),(((hS.2.2.2.setCell (p:=⟨w.heap.size+1+1,0,none⟩) (nRf _) _).setCell (p:=⟨w.heap.size+1+1,1,none⟩) (nRf _) _).cell (p:=⟨w.heap.size+1,1,none⟩) L1.out).trans (Q1.out 1)⟩,((hS.2.1.set _ _).set _ _),((hS.2.2.1.setCell (p:=⟨w.heap.size+1+1,0,none⟩) LR.out _).setCell (p:=⟨w.heap.size+1+1,1,none⟩) LR.out _),((hS.2.2.2.setCell (p:=⟨w.heap.size+1+1,0,none⟩) (nRf _) _).setCell (p:=⟨w.heap.size+1+1,1,none⟩) (nRf _) _)⟩)
    | assumption)
  (first
    | (go_at_call 173; rename _ ∧ (Room _ _ _ ∧ Below w.heap.size w _ ∧ Below _ W _) => hS
       go_fit (add_any _ _ _ l _ _ _ l2 _ (h.past hS.2.2.1) (h2.past hS.2.2.1) (by omega) (by omega))
       rintro e w1 ⟨a1,n1,c1,rfl,h1,hb1⟩)
    | (go_at_call 83; rename _ ∧ (Room _ _ _ ∧ Below w.heap.size w _ ∧ Below _ W _) => hS
       go_fit (make_any _ _ _ _ (digs (val l+val l2)) _ h1.toNatAt (h1.len ▸ HL.out))
       rintro e w3 ⟨a3,n3,c3,rfl,h3,hb2⟩;rw [val_digs] at h3 ⊢;have lt3:=nLt HLT.out hS.2.2.2.size;have le3:=hS.2.2.1.size;have rm3:=hS.2.1.past hb2 lt3;obtain ⟨v0,v1,m0,m1,m2,m3⟩:=rm3.two;have own3:=h3.ret2 lt3 le3 (.bool (neg (sg b (val l+val l2)))) (.slice a3 n3 c3)))
 all_goals
  rename _∧(Room _ _ _∧Below w.heap.size w _∧Below _ W _)=>hH
  have hs:=retIntOf (z:=sg b (val l+val l2)) ⟨own3,hH.2.2.1⟩ rfl _ rfl;clear hH
  go_wp2
  refine bodyPost_ret (v:=.agg #[.bool (neg (sg b (val l+val l2))),.slice a3 n3 c3]) ?_ rfl hs;simp [results,Tryz.f167,go_sem,m0,m1]
theorem smul_any (b:Bool) (a:Option Addr) (n c:Nat) (l:List Nat) (b2:Bool) (a2:Option Addr) (n2 c2:Nat) (l2:List Nat) (w:World) (h:NatAt w a n c l) (h2:NatAt w a2 n2 c2 l2) (hs:n≤68719476736) (hs2:n2≤68719476736) :
 Calls Tryz.prog 88 #[.agg #[.bool b,.slice a n c],.agg #[.bool b2,.slice a2 n2 c2]] w (RetInt w (sg b (val l)*sg b2 (val l2))):=by
 have hlen:(digs (val l*val l2)).length≤1099511627776:=by have:=h.short;have:=h2.short;have:=digs_len_prod (val l) (val l2);omega
 have HL:=hiD hlen;clear hlen;have he:sg b (val l)*sg b2 (val l2)=sg (!(b == b2)) (val l*val l2):=by cases b<;>cases b2<;>simp [sg,Int.neg_mul,Int.mul_neg,Int.neg_neg,Int.natCast_mul]
 rw [he];clear he
 go_enter Tryz.func88,Tryz.ntmps88
 go_wp2_with fail
 obtain ⟨W,hW,hz,hBW,q0,q1,q2,q3⟩:=boxes3 w #[.bool b,.slice a n c] #[.bool b2,.slice a2 n2 c2] #[.bool false,.slice none 0 0] 26 26 26;rw [hW];have HLT:Hid (w.heap.size+1+1<W.heap.size):=hiD (by omega);have Q0:=hiD q0;have L0:Hid (w.heap.size<w.heap.size+1+1):=hiD (by omega);have Q1:=hiD q1;have L1:Hid (w.heap.size+1<w.heap.size+1+1):=hiD (by omega);have LR:Hid (w.heap.size≤w.heap.size+1+1):=hiD (by omega);have RM:=hiD (Room.of q2 q3);have HB:=hiD hBW;clear hW hz hBW q0 q1 q2 q3
 go_region_held3 (fun w'=>(w'.cell? ⟨w.heap.size,0,none⟩=some (.bool b)∧w'.cell? ⟨w.heap.size,1,none⟩=some (.slice a n c)∧w'.cell? ⟨w.heap.size+1,0,none⟩=some (.bool b2)∧w'.cell? ⟨w.heap.size+1,1,none⟩=some (.slice a2 n2 c2))∧(Room w' (w.heap.size+1+1) 2∧Below w.heap.size w w'∧Below (w.heap.size+1+1) W w'))
  (first
    | exact ⟨⟨((bRf (w.heap.size+1+1) W).drew.cell (p:=⟨w.heap.size,0,none⟩) L0.out).trans (Q0.out 0),((bRf (w.heap.size+1+1) W).drew.cell (p:=⟨w.heap.size,1,none⟩) L0.out).trans (Q0.out 1),((bRf (w.heap.size+1+1) W).drew.cell (p:=⟨w.heap.size+1,0,none⟩) L1.out).trans (Q1.out 0),((bRf (w.heap.size+1+1) W).drew.cell (p:=⟨w.heap.size+1,1,none⟩) L1.out).trans (Q1.out 1)⟩,RM.out.drew,HB.out.drew,(bRf _ _).drew⟩
    | (rename _ ∧ (Room _ _ _ ∧ Below w.heap.size w _ ∧ Below _ W _) => hS
       first
        | exact ⟨⟨((hS.2.2.2.trans (hb2.mono (nOf (nLt HLT.out hS.2.2.2.size)))).cell (p:=⟨w.heap.size,0,none⟩) L0.out).trans (Q0.out 0),((hS.2.2.2.trans (hb2.mono (nOf (nLt HLT.out hS.2.2.2.size)))).cell (p:=⟨w.heap.size,1,none⟩) L0.out).trans (Q0.out 1),((hS.2.2.2.trans (hb2.mono (nOf (nLt HLT.out hS.2.2.2.size)))).cell (p:=⟨w.heap.size+1,0,none⟩) L1.out).trans (Q1.out 0),((hS.2.2.2.trans (hb2.mono (nOf (nLt HLT.out hS.2.2.2.size)))).cell (p:=⟨w.heap.size+1,1,none⟩) L1.out).trans (Q1.out 1)⟩,hS.2.1.past hb2 (nLt HLT.out hS.2.2.2.size),bLt hS.2.2.1 hb2,(hS.2.2.2.trans (hb2.mono (nOf (nLt HLT.out hS.2.2.2.size))))⟩
        | exact ⟨⟨((hS.2.2.2.trans (hb1.mono (nOf (nLt HLT.out hS.2.2.2.size)))).cell (p:=⟨w.heap.size,0,none⟩) L0.out).trans (Q0.out 0),((hS.2.2.2.trans (hb1.mono (nOf (nLt HLT.out hS.2.2.2.size)))).cell (p:=⟨w.heap.size,1,none⟩) L0.out).trans (Q0.out 1),((hS.2.2.2.trans (hb1.mono (nOf (nLt HLT.out hS.2.2.2.size)))).cell (p:=⟨w.heap.size+1,0,none⟩) L1.out).trans (Q1.out 0),((hS.2.2.2.trans (hb1.mono (nOf (nLt HLT.out hS.2.2.2.size)))).cell (p:=⟨w.heap.size+1,1,none⟩) L1.out).trans (Q1.out 1)⟩,hS.2.1.past hb1 (nLt HLT.out hS.2.2.2.size),bLt hS.2.2.1 hb1,(hS.2.2.2.trans (hb1.mono (nOf (nLt HLT.out hS.2.2.2.size))))⟩
        | exact ⟨⟨((hS.2.2.2.alloc (nOf (nLt HLT.out hS.2.2.2.size)) _).cell (p:=⟨w.heap.size,0,none⟩) L0.out).trans (Q0.out 0),((hS.2.2.2.alloc (nOf (nLt HLT.out hS.2.2.2.size)) _).cell (p:=⟨w.heap.size,1,none⟩) L0.out).trans (Q0.out 1),((hS.2.2.2.alloc (nOf (nLt HLT.out hS.2.2.2.size)) _).cell (p:=⟨w.heap.size+1,0,none⟩) L1.out).trans (Q1.out 0),((hS.2.2.2.alloc (nOf (nLt HLT.out hS.2.2.2.size)) _).cell (p:=⟨w.heap.size+1,1,none⟩) L1.out).trans (Q1.out 1)⟩,hS.2.1.past ((bRf _ _).alloc (nRf _) _) (nLt HLT.out hS.2.2.2.size),below_alloc hS.2.2.1 _,(hS.2.2.2.alloc (nOf (nLt HLT.out hS.2.2.2.size)) _)⟩
        | exact ⟨⟨(((hS.2.2.2.setCell (p:=⟨w.heap.size+1+1,0,none⟩) (nRf _) _).setCell (p:=⟨w.heap.size+1+1,1,none⟩) (nRf _) _).cell (p:=⟨w.heap.size,0,none⟩) L0.out).trans (Q0.out 0),(((hS.2.2.2.setCell (p:=⟨w.heap.size+1+1,0,none⟩) (nRf _) _).setCell (p:=⟨w.heap.size+1+1,1,none⟩) (nRf _) _).cell (p:=⟨w.heap.size,1,none⟩) L0.out).trans (Q0.out 1),(((hS.2.2.2.setCell (p:=⟨w.heap.size+1+1,0,none⟩) (nRf _) _).setCell (p:=⟨w.heap.size+1+1,1,none⟩) (nRf _) _).cell (p:=⟨w.heap.size+1,0,none⟩) L1.out).trans (Q1.out 0),(((hS.2.2.2.setCell (p:=⟨w.heap.size+1+1,0,none⟩) (nRf _) _).setCell (p:=⟨w.heap.size+1+1,1,none⟩) (nRf _) _).cell (p:=⟨w.heap.size+1,1,none⟩) L1.out).trans (Q1.out 1)⟩,((hS.2.1.set _ _).set _ _),((hS.2.2.1.setCell (p:=⟨w.heap.size+1+1,0,none⟩) LR.out _).setCell (p:=⟨w.heap.size+1+1,1,none⟩) LR.out _),((hS.2.2.2.setCell (p:=⟨w.heap.size+1+1,0,none⟩) (nRf _) _).setCell (p:=⟨w.heap.size+1+1,1,none⟩) (nRf _) _)⟩)
    | assumption)
  (first
    | (go_at_call 90; rename _ ∧ (Room _ _ _ ∧ Below w.heap.size w _ ∧ Below _ W _) => hS
       go_fit (tmul_any _ _ _ l _ _ _ l2 _ (h.past hS.2.2.1) (h2.past hS.2.2.1) (by omega) (by omega))
       rintro e w1 ⟨a1,n1,c1,rfl,h1,hb1⟩)
    | (go_at_call 83; rename _ ∧ (Room _ _ _ ∧ Below w.heap.size w _ ∧ Below _ W _) => hS
       go_fit (make_any _ _ _ _ (digs (val l*val l2)) _ h1.toNatAt (h1.len ▸ HL.out))
       rintro e w3 ⟨a3,n3,c3,rfl,h3,hb2⟩;rw [val_digs] at h3 ⊢;have lt3:=nLt HLT.out hS.2.2.2.size;have le3:=hS.2.2.1.size;have rm3:=hS.2.1.past hb2 lt3;obtain ⟨v0,v1,m0,m1,m2,m3⟩:=rm3.two;have own3:=h3.ret2 lt3 le3 (.bool (neg (sg (!(b == b2)) (val l*val l2)))) (.slice a3 n3 c3)))
 all_goals
  rename _∧(Room _ _ _∧Below w.heap.size w _∧Below _ W _)=>hH
  have hs:=retIntOf (z:=sg (!(b == b2)) (val l*val l2)) ⟨own3,hH.2.2.1⟩ rfl _ rfl;clear hH
  go_wp2
  refine bodyPost_ret (v:=.agg #[.bool (neg (sg (!(b == b2)) (val l*val l2))),.slice a3 n3 c3]) ?_ rfl hs;simp [results,Tryz.f88,go_sem,m0,m1]
theorem against_yes (b:Bool) (a:Option Addr) (n c:Nat) (l:List Nat) (b2:Bool) (a2:Option Addr) (n2 c2:Nat) (l2:List Nat) (w:World) (h:NatAt w a n c l) (h2:NatAt w a2 n2 c2 l2) (hs:n≤549755813888) (hs2:n2≤549755813888) (hv:val l2≤val l) :
 Calls Tryz.prog 168 #[.agg #[.bool b,.slice a n c],.agg #[.bool b2,.slice a2 n2 c2]] w (RetInt w (sg b (val l-val l2))):=by
 have hlen:(digs (val l-val l2)).length≤1099511627776:=nTr (digs_len_mono (Nat.sub_le _ _)) (by have:=h.short;have:=h2.short;omega);have HL:=hiD hlen;clear hlen
 go_enter Tryz.func168,Tryz.ntmps168
 go_wp2_with fail
 obtain ⟨W,hW,hz,hBW,q0,q1,q2,q3⟩:=boxes3 w #[.bool b,.slice a n c] #[.bool b2,.slice a2 n2 c2] #[.bool false,.slice none 0 0] 26 26 26;rw [hW];have HLT:Hid (w.heap.size+1+1<W.heap.size):=hiD (by omega);have Q0:=hiD q0;have L0:Hid (w.heap.size<w.heap.size+1+1):=hiD (by omega);have Q1:=hiD q1;have L1:Hid (w.heap.size+1<w.heap.size+1+1):=hiD (by omega);have LR:Hid (w.heap.size≤w.heap.size+1+1):=hiD (by omega);have RM:=hiD (Room.of q2 q3);have HB:=hiD hBW;clear hW hz hBW q0 q1 q2 q3;have hlt:=HLT.out;have q0:=Q0.out;have q1:=Q1.out;have rm:=RM.out;have k:=h.past HB.out;have k2:=h2.past HB.out;have hBW:=HB.out
 with_reducible refine (sub_yes _ _ _ l _ _ _ l2 _ k k2 (by omega) hv).mono ?_
 rintro e w2 ⟨a1,n1,c1,rfl,h1,hb2⟩;have q0:=cellsPast hb2 (Nat.lt_trans L0.out hlt) q0;have q1:=cellsPast hb2 (Nat.lt_trans L1.out hlt) q1;have rm:=rm.past hb2 hlt;have hlt:=nLt hlt hb2.size;have hBW:=bLt hBW hb2;clear hb2 k k2;have HV:=hiD hv;clear hv
 go_wp2_with fail
 with_reducible refine (make_any _ _ _ _ _ _ h1.toNatAt (h1.len ▸ HL.out)).mono ?_
 rintro e w3 ⟨a3,n3,c3,rfl,h3,hb3⟩;rw [val_digs] at h3 ⊢;have own3:=h3.ret2 hlt hBW.size (.bool (neg (sg b (val l-val l2)))) (.slice a3 n3 c3);have rm:=rm.past hb3 hlt;obtain ⟨v0,v1,m0,m1,m2,m3⟩:=rm.two;have hB3:=bLt hBW hb3;have hs:=retIntOf (z:=sg b (val l-val l2)) ⟨own3,(hB3.setCell (p:=⟨w.heap.size+1+1,0,none⟩) LR.out _).setCell (p:=⟨w.heap.size+1+1,1,none⟩) LR.out _⟩ rfl _ rfl;clear own3 rm hB3 hb3 hBW hlt q0 q1 h1 h3
 go_wp2
 refine bodyPost_ret (v:=.agg #[.bool (neg (sg b (val l-val l2))),.slice a3 n3 c3]) ?_ rfl hs;simp [results,Tryz.f168,go_sem,m0,m1]
theorem against_no (b:Bool) (a:Option Addr) (n c:Nat) (l:List Nat) (b2:Bool) (a2:Option Addr) (n2 c2:Nat) (l2:List Nat) (w:World) (h:NatAt w a n c l) (h2:NatAt w a2 n2 c2 l2) (hs:n≤549755813888) (hs2:n2≤549755813888) (hv:val l<val l2) :
 Calls Tryz.prog 168 #[.agg #[.bool b,.slice a n c],.agg #[.bool b2,.slice a2 n2 c2]] w (RetInt w (sg b2 (val l2-val l))):=by
 have hlen:(digs (val l2-val l)).length≤1099511627776:=nTr (digs_len_mono (Nat.sub_le _ _)) (by have:=h.short;have:=h2.short;omega);have HL:=hiD hlen;clear hlen
 go_enter Tryz.func168,Tryz.ntmps168
 go_wp2_with fail
 obtain ⟨W,hW,hz,hBW,q0,q1,q2,q3⟩:=boxes3 w #[.bool b,.slice a n c] #[.bool b2,.slice a2 n2 c2] #[.bool false,.slice none 0 0] 26 26 26;rw [hW];have HLT:Hid (w.heap.size+1+1<W.heap.size):=hiD (by omega);have Q0:=hiD q0;have L0:Hid (w.heap.size<w.heap.size+1+1):=hiD (by omega);have Q1:=hiD q1;have L1:Hid (w.heap.size+1<w.heap.size+1+1):=hiD (by omega);have LR:Hid (w.heap.size≤w.heap.size+1+1):=hiD (by omega);have RM:=hiD (Room.of q2 q3);have HB:=hiD hBW;clear hW hz hBW q0 q1 q2 q3;have hlt:=HLT.out;have q0:=Q0.out;have q1:=Q1.out;have rm:=RM.out;have k:=h.past HB.out;have k2:=h2.past HB.out
 with_reducible refine (sub_no _ _ _ l _ _ _ l2 _ k k2 hv).mono ?_
 rintro e w1 ⟨rfl,hb1⟩;have q0:=cellsPast hb1 (Nat.lt_trans L0.out hlt) q0;have q1:=cellsPast hb1 (Nat.lt_trans L1.out hlt) q1;have rm:=rm.past hb1 hlt;have hlt:=nLt hlt hb1.size;have k:=k.past hb1;have k2:=k2.past hb1;have hBW:=bLt HB.out hb1;clear hb1
 go_wp2_with fail
 with_reducible refine (sub_yes _ _ _ l2 _ _ _ l _ k2 k (by omega) (nOf hv)).mono ?_
 rintro e w2 ⟨a1,n1,c1,rfl,h1,hb2⟩;have q0:=cellsPast hb2 (Nat.lt_trans L0.out hlt) q0;have q1:=cellsPast hb2 (Nat.lt_trans L1.out hlt) q1;have rm:=rm.past hb2 hlt;have hlt:=nLt hlt hb2.size;have hBW:=bLt hBW hb2;clear hb2 k k2;have HV:=hiD hv;clear hv
 go_wp2_with fail
 with_reducible refine (make_any _ _ _ _ _ _ h1.toNatAt (h1.len ▸ HL.out)).mono ?_
 rintro e w3 ⟨a3,n3,c3,rfl,h3,hb3⟩;rw [val_digs] at h3 ⊢;have own3:=h3.ret2 hlt hBW.size (.bool (neg (sg b2 (val l2-val l)))) (.slice a3 n3 c3);have rm:=rm.past hb3 hlt;obtain ⟨v0,v1,m0,m1,m2,m3⟩:=rm.two;have hB3:=bLt hBW hb3;have hs:=retIntOf (z:=sg b2 (val l2-val l)) ⟨own3,(hB3.setCell (p:=⟨w.heap.size+1+1,0,none⟩) LR.out _).setCell (p:=⟨w.heap.size+1+1,1,none⟩) LR.out _⟩ rfl _ rfl;clear own3 rm hB3 hb3 hBW hlt q0 q1 h1 h3
 go_wp2
 refine bodyPost_ret (v:=.agg #[.bool (neg (sg b2 (val l2-val l))),.slice a3 n3 c3]) ?_ rfl hs;simp [results,Tryz.f168,go_sem,m0,m1]
theorem against_sum (b:Bool) (a:Option Addr) (n c:Nat) (l:List Nat) (b2:Bool) (a2:Option Addr) (n2 c2:Nat) (l2:List Nat) (w:World) (h:NatAt w a n c l) (h2:NatAt w a2 n2 c2 l2) (hs:n≤274877906944) (hs2:n2≤274877906944) (hb:b2 = !b) :
 Calls Tryz.prog 168 #[.agg #[.bool b,.slice a n c],.agg #[.bool b2,.slice a2 n2 c2]] w (RetInt w (sg b (val l)+sg b2 (val l2))):=by
 by_cases hv:val l2≤val l
 · have e:sg b (val l)+sg b2 (val l2)=sg b (val l-val l2):=by subst hb;cases b<;>simp [sg]<;>omega
   rw [e];exact against_yes b a n c l b2 a2 n2 c2 l2 w h h2 (by omega) (by omega) hv
 have e:sg b (val l)+sg b2 (val l2)=sg b2 (val l2-val l):=by subst hb;cases b<;>simp [sg]<;>omega
 rw [e];exact against_no b a n c l b2 a2 n2 c2 l2 w h h2 (by omega) (by omega) (by omega)
theorem along_sum (b:Bool) (a:Option Addr) (n c:Nat) (l:List Nat) (b2:Bool) (a2:Option Addr) (n2 c2:Nat) (l2:List Nat) (w:World) (h:NatAt w a n c l) (h2:NatAt w a2 n2 c2 l2) (hs:n≤274877906944) (hs2:n2≤274877906944) (hb:b2=b) :
 Calls Tryz.prog 167 #[.agg #[.bool b,.slice a n c],.agg #[.bool b2,.slice a2 n2 c2]] w (RetInt w (sg b (val l)+sg b2 (val l2))):=by
 have e:sg b (val l)+sg b2 (val l2)=sg b (val l+val l2):=by subst hb;cases b2<;>simp [sg]<;>omega
 rw [e];exact along_any b a n c l b2 a2 n2 c2 l2 w h h2 hs hs2
theorem sadd_any (b:Bool) (a:Option Addr) (n c:Nat) (l:List Nat) (b2:Bool) (a2:Option Addr) (n2 c2:Nat) (l2:List Nat) (w:World) (h:NatAt w a n c l) (h2:NatAt w a2 n2 c2 l2) (hs:n≤274877906944) (hs2:n2≤274877906944) :
 Calls Tryz.prog 134 #[.agg #[.bool b,.slice a n c],.agg #[.bool b2,.slice a2 n2 c2]] w (RetInt w (sg b (val l)+sg b2 (val l2))):=by
 have hal:=along_sum b a n c l b2 a2 n2 c2 l2;have hag:=against_sum b a n c l b2 a2 n2 c2 l2;generalize hZ:sg b (val l)+sg b2 (val l2)=Z at *;have hZ':=hiD hZ;have HAL:=hiD hal;have HAG:=hiD hag;clear hZ hal hag;cases b<;>cases b2
 · have HX:=hiD (fun (w:World) (k1:NatAt w a n c l) (k2:NatAt w a2 n2 c2 l2)=>HAL.out w k1 k2 hs hs2 rfl);clear HAL HAG;have hix:∀ w:World,(Instr.index 189 (.agg #[.func (.func 167) #[] #[],.func (.func 168) #[] #[]]) (.int .i64 0)).run Tryz.prog w = .ok (.func (.func 167) #[] #[]) w:=fun w=>by kernel_rfl
   go_enter Tryz.func134,Tryz.ntmps134
   go_wp2_with fail
   obtain ⟨W,hW,hz,hBW,q0,q1,q2,q3⟩:=boxes3 w #[.bool false,.slice a n c] #[.bool false,.slice a2 n2 c2] #[.bool false,.slice none 0 0] 26 26 26;rw [hW];have HLT:Hid (w.heap.size+1+1<W.heap.size):=hiD (by omega);have Q0:=hiD q0;have L0:Hid (w.heap.size<w.heap.size+1+1):=hiD (by omega);have Q1:=hiD q1;have L1:Hid (w.heap.size+1<w.heap.size+1+1):=hiD (by omega);have LR:Hid (w.heap.size≤w.heap.size+1+1):=hiD (by omega);have RM:=hiD (Room.of q2 q3);have HB:=hiD hBW;clear hW hz hBW q0 q1 q2 q3
   go_wp2_with fail
   go_region_held3 (fun w'=>(w'.cell? ⟨w.heap.size,0,none⟩=some (.bool false)∧w'.cell? ⟨w.heap.size,1,none⟩=some (.slice a n c)∧w'.cell? ⟨w.heap.size+1,0,none⟩=some (.bool false)∧w'.cell? ⟨w.heap.size+1,1,none⟩=some (.slice a2 n2 c2))∧(Room w' (w.heap.size+1+1) 2∧Below w.heap.size w w'∧Below (w.heap.size+1+1) W w'))
    (first
      | exact ⟨⟨((bRf (w.heap.size+1+1) W).drew.cell (p:=⟨w.heap.size,0,none⟩) L0.out).trans (Q0.out 0),((bRf (w.heap.size+1+1) W).drew.cell (p:=⟨w.heap.size,1,none⟩) L0.out).trans (Q0.out 1),((bRf (w.heap.size+1+1) W).drew.cell (p:=⟨w.heap.size+1,0,none⟩) L1.out).trans (Q1.out 0),((bRf (w.heap.size+1+1) W).drew.cell (p:=⟨w.heap.size+1,1,none⟩) L1.out).trans (Q1.out 1)⟩,RM.out.drew,HB.out.drew,(bRf _ _).drew⟩
      | (rename _ ∧ (Room _ _ _ ∧ Below w.heap.size w _ ∧ Below _ W _) => hS
         first
          | exact ⟨⟨((hS.2.2.2.trans (hb2.mono (nOf (nLt HLT.out hS.2.2.2.size)))).cell (p:=⟨w.heap.size,0,none⟩) L0.out).trans (Q0.out 0),((hS.2.2.2.trans (hb2.mono (nOf (nLt HLT.out hS.2.2.2.size)))).cell (p:=⟨w.heap.size,1,none⟩) L0.out).trans (Q0.out 1),((hS.2.2.2.trans (hb2.mono (nOf (nLt HLT.out hS.2.2.2.size)))).cell (p:=⟨w.heap.size+1,0,none⟩) L1.out).trans (Q1.out 0),((hS.2.2.2.trans (hb2.mono (nOf (nLt HLT.out hS.2.2.2.size)))).cell (p:=⟨w.heap.size+1,1,none⟩) L1.out).trans (Q1.out 1)⟩,hS.2.1.past hb2 (nLt HLT.out hS.2.2.2.size),bLt hS.2.2.1 hb2,(hS.2.2.2.trans (hb2.mono (nOf (nLt HLT.out hS.2.2.2.size))))⟩
          | exact ⟨⟨((hS.2.2.2.alloc (nOf (nLt HLT.out hS.2.2.2.size)) _).cell (p:=⟨w.heap.size,0,none⟩) L0.out).trans (Q0.out 0),((hS.2.2.2.alloc (nOf (nLt HLT.out hS.2.2.2.size)) _).cell (p:=⟨w.heap.size,1,none⟩) L0.out).trans (Q0.out 1),((hS.2.2.2.alloc (nOf (nLt HLT.out hS.2.2.2.size)) _).cell (p:=⟨w.heap.size+1,0,none⟩) L1.out).trans (Q1.out 0),((hS.2.2.2.alloc (nOf (nLt HLT.out hS.2.2.2.size)) _).cell (p:=⟨w.heap.size+1,1,none⟩) L1.out).trans (Q1.out 1)⟩,hS.2.1.past ((bRf _ _).alloc (nRf _) _) (nLt HLT.out hS.2.2.2.size),below_alloc hS.2.2.1 _,(hS.2.2.2.alloc (nOf (nLt HLT.out hS.2.2.2.size)) _)⟩
          | exact ⟨⟨(((hS.2.2.2.setCell (p:=⟨w.heap.size+1+1,0,none⟩) (nRf _) _).setCell (p:=⟨w.heap.size+1+1,1,none⟩) (nRf _) _).cell (p:=⟨w.heap.size,0,none⟩) L0.out).trans (Q0.out 0),(((hS.2.2.2.setCell (p:=⟨w.heap.size+1+1,0,none⟩) (nRf _) _).setCell (p:=⟨w.heap.size+1+1,1,none⟩) (nRf _) _).cell (p:=⟨w.heap.size,1,none⟩) L0.out).trans (Q0.out 1),(((hS.2.2.2.setCell (p:=⟨w.heap.size+1+1,0,none⟩) (nRf _) _).setCell (p:=⟨w.heap.size+1+1,1,none⟩) (nRf _) _).cell (p:=⟨w.heap.size+1,0,none⟩) L1.out).trans (Q1.out 0),(((hS.2.2.2.setCell (p:=⟨w.heap.size+1+1,0,none⟩) (nRf _) _).setCell (p:=⟨w.heap.size+1+1,1,none⟩) (nRf _) _).cell (p:=⟨w.heap.size+1,1,none⟩) L1.out).trans (Q1.out 1)⟩,((hS.2.1.set _ _).set _ _),((hS.2.2.1.setCell (p:=⟨w.heap.size+1+1,0,none⟩) LR.out _).setCell (p:=⟨w.heap.size+1+1,1,none⟩) LR.out _),((hS.2.2.2.setCell (p:=⟨w.heap.size+1+1,0,none⟩) (nRf _) _).setCell (p:=⟨w.heap.size+1+1,1,none⟩) (nRf _) _)⟩)
      | assumption)
    (first
      | (go_at_call 167; rename _ ∧ (Room _ _ _ ∧ Below w.heap.size w _ ∧ Below _ W _) => hS
         go_fit (HX.out _ (h.past hS.2.2.1) (h2.past hS.2.2.1))
         rintro e w3 ⟨a3,n3,c3,rfl,h3,hb2⟩;have lt3:=nLt HLT.out hS.2.2.2.size;have le3:=hS.2.2.1.size;have rm3:=hS.2.1.past hb2 lt3;obtain ⟨v0,v1,m0,m1,m2,m3⟩:=rm3.two;have own3:=h3.ret2 lt3 le3 (.bool (neg Z)) (.slice a3 n3 c3)))
   all_goals
    rename _∧(Room _ _ _∧Below w.heap.size w _∧Below _ W _)=>hH
    have hs:=retIntOf (z:=Z) ⟨own3,hH.2.2.1⟩ rfl _ rfl;clear hH
    go_wp2
    refine bodyPost_ret (v:=.agg #[.bool (neg (Z)),.slice a3 n3 c3]) ?_ rfl hs;simp [results,Tryz.f134,go_sem,m0,m1]
 · have HX:=hiD (fun (w:World) (k1:NatAt w a n c l) (k2:NatAt w a2 n2 c2 l2)=>HAG.out w k1 k2 hs hs2 rfl);clear HAL HAG;have hix:∀ w:World,(Instr.index 189 (.agg #[.func (.func 167) #[] #[],.func (.func 168) #[] #[]]) (.int .i64 1)).run Tryz.prog w = .ok (.func (.func 168) #[] #[]) w:=fun w=>by kernel_rfl
   go_enter Tryz.func134,Tryz.ntmps134
   go_wp2_with fail
   obtain ⟨W,hW,hz,hBW,q0,q1,q2,q3⟩:=boxes3 w #[.bool false,.slice a n c] #[.bool true,.slice a2 n2 c2] #[.bool false,.slice none 0 0] 26 26 26;rw [hW];have HLT:Hid (w.heap.size+1+1<W.heap.size):=hiD (by omega);have Q0:=hiD q0;have L0:Hid (w.heap.size<w.heap.size+1+1):=hiD (by omega);have Q1:=hiD q1;have L1:Hid (w.heap.size+1<w.heap.size+1+1):=hiD (by omega);have LR:Hid (w.heap.size≤w.heap.size+1+1):=hiD (by omega);have RM:=hiD (Room.of q2 q3);have HB:=hiD hBW;clear hW hz hBW q0 q1 q2 q3
   go_wp2_with fail
   go_region_held3 (fun w'=>(w'.cell? ⟨w.heap.size,0,none⟩=some (.bool false)∧w'.cell? ⟨w.heap.size,1,none⟩=some (.slice a n c)∧w'.cell? ⟨w.heap.size+1,0,none⟩=some (.bool true)∧w'.cell? ⟨w.heap.size+1,1,none⟩=some (.slice a2 n2 c2))∧(Room w' (w.heap.size+1+1) 2∧Below w.heap.size w w'∧Below (w.heap.size+1+1) W w'))
    (first
      | exact ⟨⟨((bRf (w.heap.size+1+1) W).drew.cell (p:=⟨w.heap.size,0,none⟩) L0.out).trans (Q0.out 0),((bRf (w.heap.size+1+1) W).drew.cell (p:=⟨w.heap.size,1,none⟩) L0.out).trans (Q0.out 1),((bRf (w.heap.size+1+1) W).drew.cell (p:=⟨w.heap.size+1,0,none⟩) L1.out).trans (Q1.out 0),((bRf (w.heap.size+1+1) W).drew.cell (p:=⟨w.heap.size+1,1,none⟩) L1.out).trans (Q1.out 1)⟩,RM.out.drew,HB.out.drew,(bRf _ _).drew⟩
      | (rename _ ∧ (Room _ _ _ ∧ Below w.heap.size w _ ∧ Below _ W _) => hS
         first
          | exact ⟨⟨((hS.2.2.2.trans (hb2.mono (nOf (nLt HLT.out hS.2.2.2.size)))).cell (p:=⟨w.heap.size,0,none⟩) L0.out).trans (Q0.out 0),((hS.2.2.2.trans (hb2.mono (nOf (nLt HLT.out hS.2.2.2.size)))).cell (p:=⟨w.heap.size,1,none⟩) L0.out).trans (Q0.out 1),((hS.2.2.2.trans (hb2.mono (nOf (nLt HLT.out hS.2.2.2.size)))).cell (p:=⟨w.heap.size+1,0,none⟩) L1.out).trans (Q1.out 0),((hS.2.2.2.trans (hb2.mono (nOf (nLt HLT.out hS.2.2.2.size)))).cell (p:=⟨w.heap.size+1,1,none⟩) L1.out).trans (Q1.out 1)⟩,hS.2.1.past hb2 (nLt HLT.out hS.2.2.2.size),bLt hS.2.2.1 hb2,(hS.2.2.2.trans (hb2.mono (nOf (nLt HLT.out hS.2.2.2.size))))⟩
          | exact ⟨⟨((hS.2.2.2.alloc (nOf (nLt HLT.out hS.2.2.2.size)) _).cell (p:=⟨w.heap.size,0,none⟩) L0.out).trans (Q0.out 0),((hS.2.2.2.alloc (nOf (nLt HLT.out hS.2.2.2.size)) _).cell (p:=⟨w.heap.size,1,none⟩) L0.out).trans (Q0.out 1),((hS.2.2.2.alloc (nOf (nLt HLT.out hS.2.2.2.size)) _).cell (p:=⟨w.heap.size+1,0,none⟩) L1.out).trans (Q1.out 0),((hS.2.2.2.alloc (nOf (nLt HLT.out hS.2.2.2.size)) _).cell (p:=⟨w.heap.size+1,1,none⟩) L1.out).trans (Q1.out 1)⟩,hS.2.1.past ((bRf _ _).alloc (nRf _) _) (nLt HLT.out hS.2.2.2.size),below_alloc hS.2.2.1 _,(hS.2.2.2.alloc (nOf (nLt HLT.out hS.2.2.2.size)) _)⟩
          | exact ⟨⟨(((hS.2.2.2.setCell (p:=⟨w.heap.size+1+1,0,none⟩) (nRf _) _).setCell (p:=⟨w.heap.size+1+1,1,none⟩) (nRf _) _).cell (p:=⟨w.heap.size,0,none⟩) L0.out).trans (Q0.out 0),(((hS.2.2.2.setCell (p:=⟨w.heap.size+1+1,0,none⟩) (nRf _) _).setCell (p:=⟨w.heap.size+1+1,1,none⟩) (nRf _) _).cell (p:=⟨w.heap.size,1,none⟩) L0.out).trans (Q0.out 1),(((hS.2.2.2.setCell (p:=⟨w.heap.size+1+1,0,none⟩) (nRf _) _).setCell (p:=⟨w.heap.size+1+1,1,none⟩) (nRf _) _).cell (p:=⟨w.heap.size+1,0,none⟩) L1.out).trans (Q1.out 0),(((hS.2.2.2.setCell (p:=⟨w.heap.size+1+1,0,none⟩) (nRf _) _).setCell (p:=⟨w.heap.size+1+1,1,none⟩) (nRf _) _).cell (p:=⟨w.heap.size+1,1,none⟩) L1.out).trans (Q1.out 1)⟩,((hS.2.1.set _ _).set _ _),((hS.2.2.1.setCell (p:=⟨w.heap.size+1+1,0,none⟩) LR.out _).setCell (p:=⟨w.heap.size+1+1,1,none⟩) LR.out _),((hS.2.2.2.setCell (p:=⟨w.heap.size+1+1,0,none⟩) (nRf _) _).setCell (p:=⟨w.heap.size+1+1,1,none⟩) (nRf _) _)⟩)
      | assumption)
    (first
      | (go_at_call 168; rename _ ∧ (Room _ _ _ ∧ Below w.heap.size w _ ∧ Below _ W _) => hS
         go_fit (HX.out _ (h.past hS.2.2.1) (h2.past hS.2.2.1))
         rintro e w3 ⟨a3,n3,c3,rfl,h3,hb2⟩;have lt3:=nLt HLT.out hS.2.2.2.size;have le3:=hS.2.2.1.size;have rm3:=hS.2.1.past hb2 lt3;obtain ⟨v0,v1,m0,m1,m2,m3⟩:=rm3.two;have own3:=h3.ret2 lt3 le3 (.bool (neg Z)) (.slice a3 n3 c3)))
   all_goals
    rename _∧(Room _ _ _∧Below w.heap.size w _∧Below _ W _)=>hH
    have hs:=retIntOf (z:=Z) ⟨own3,hH.2.2.1⟩ rfl _ rfl;clear hH
    go_wp2
    refine bodyPost_ret (v:=.agg #[.bool (neg (Z)),.slice a3 n3 c3]) ?_ rfl hs;simp [results,Tryz.f134,go_sem,m0,m1]
 · have HX:=hiD (fun (w:World) (k1:NatAt w a n c l) (k2:NatAt w a2 n2 c2 l2)=>HAG.out w k1 k2 hs hs2 rfl);clear HAL HAG;have hix:∀ w:World,(Instr.index 189 (.agg #[.func (.func 167) #[] #[],.func (.func 168) #[] #[]]) (.int .i64 1)).run Tryz.prog w = .ok (.func (.func 168) #[] #[]) w:=fun w=>by kernel_rfl
   go_enter Tryz.func134,Tryz.ntmps134
   go_wp2_with fail
   obtain ⟨W,hW,hz,hBW,q0,q1,q2,q3⟩:=boxes3 w #[.bool true,.slice a n c] #[.bool false,.slice a2 n2 c2] #[.bool false,.slice none 0 0] 26 26 26;rw [hW];have HLT:Hid (w.heap.size+1+1<W.heap.size):=hiD (by omega);have Q0:=hiD q0;have L0:Hid (w.heap.size<w.heap.size+1+1):=hiD (by omega);have Q1:=hiD q1;have L1:Hid (w.heap.size+1<w.heap.size+1+1):=hiD (by omega);have LR:Hid (w.heap.size≤w.heap.size+1+1):=hiD (by omega);have RM:=hiD (Room.of q2 q3);have HB:=hiD hBW;clear hW hz hBW q0 q1 q2 q3
   go_wp2_with fail
   go_region_held3 (fun w'=>(w'.cell? ⟨w.heap.size,0,none⟩=some (.bool true)∧w'.cell? ⟨w.heap.size,1,none⟩=some (.slice a n c)∧w'.cell? ⟨w.heap.size+1,0,none⟩=some (.bool false)∧w'.cell? ⟨w.heap.size+1,1,none⟩=some (.slice a2 n2 c2))∧(Room w' (w.heap.size+1+1) 2∧Below w.heap.size w w'∧Below (w.heap.size+1+1) W w'))
    (first
      | exact ⟨⟨((bRf (w.heap.size+1+1) W).drew.cell (p:=⟨w.heap.size,0,none⟩) L0.out).trans (Q0.out 0),((bRf (w.heap.size+1+1) W).drew.cell (p:=⟨w.heap.size,1,none⟩) L0.out).trans (Q0.out 1),((bRf (w.heap.size+1+1) W).drew.cell (p:=⟨w.heap.size+1,0,none⟩) L1.out).trans (Q1.out 0),((bRf (w.heap.size+1+1) W).drew.cell (p:=⟨w.heap.size+1,1,none⟩) L1.out).trans (Q1.out 1)⟩,RM.out.drew,HB.out.drew,(bRf _ _).drew⟩
      | (rename _ ∧ (Room _ _ _ ∧ Below w.heap.size w _ ∧ Below _ W _) => hS
         first
          | exact ⟨⟨((hS.2.2.2.trans (hb2.mono (nOf (nLt HLT.out hS.2.2.2.size)))).cell (p:=⟨w.heap.size,0,none⟩) L0.out).trans (Q0.out 0),((hS.2.2.2.trans (hb2.mono (nOf (nLt HLT.out hS.2.2.2.size)))).cell (p:=⟨w.heap.size,1,none⟩) L0.out).trans (Q0.out 1),((hS.2.2.2.trans (hb2.mono (nOf (nLt HLT.out hS.2.2.2.size)))).cell (p:=⟨w.heap.size+1,0,none⟩) L1.out).trans (Q1.out 0),((hS.2.2.2.trans (hb2.mono (nOf (nLt HLT.out hS.2.2.2.size)))).cell (p:=⟨w.heap.size+1,1,none⟩) L1.out).trans (Q1.out 1)⟩,hS.2.1.past hb2 (nLt HLT.out hS.2.2.2.size),bLt hS.2.2.1 hb2,(hS.2.2.2.trans (hb2.mono (nOf (nLt HLT.out hS.2.2.2.size))))⟩
          | exact ⟨⟨((hS.2.2.2.alloc (nOf (nLt HLT.out hS.2.2.2.size)) _).cell (p:=⟨w.heap.size,0,none⟩) L0.out).trans (Q0.out 0),((hS.2.2.2.alloc (nOf (nLt HLT.out hS.2.2.2.size)) _).cell (p:=⟨w.heap.size,1,none⟩) L0.out).trans (Q0.out 1),((hS.2.2.2.alloc (nOf (nLt HLT.out hS.2.2.2.size)) _).cell (p:=⟨w.heap.size+1,0,none⟩) L1.out).trans (Q1.out 0),((hS.2.2.2.alloc (nOf (nLt HLT.out hS.2.2.2.size)) _).cell (p:=⟨w.heap.size+1,1,none⟩) L1.out).trans (Q1.out 1)⟩,hS.2.1.past ((bRf _ _).alloc (nRf _) _) (nLt HLT.out hS.2.2.2.size),below_alloc hS.2.2.1 _,(hS.2.2.2.alloc (nOf (nLt HLT.out hS.2.2.2.size)) _)⟩
          | exact ⟨⟨(((hS.2.2.2.setCell (p:=⟨w.heap.size+1+1,0,none⟩) (nRf _) _).setCell (p:=⟨w.heap.size+1+1,1,none⟩) (nRf _) _).cell (p:=⟨w.heap.size,0,none⟩) L0.out).trans (Q0.out 0),(((hS.2.2.2.setCell (p:=⟨w.heap.size+1+1,0,none⟩) (nRf _) _).setCell (p:=⟨w.heap.size+1+1,1,none⟩) (nRf _) _).cell (p:=⟨w.heap.size,1,none⟩) L0.out).trans (Q0.out 1),(((hS.2.2.2.setCell (p:=⟨w.heap.size+1+1,0,none⟩) (nRf _) _).setCell (p:=⟨w.heap.size+1+1,1,none⟩) (nRf _) _).cell (p:=⟨w.heap.size+1,0,none⟩) L1.out).trans (Q1.out 0),(((hS.2.2.2.setCell (p:=⟨w.heap.size+1+1,0,none⟩) (nRf _) _).setCell (p:=⟨w.heap.size+1+1,1,none⟩) (nRf _) _).cell (p:=⟨w.heap.size+1,1,none⟩) L1.out).trans (Q1.out 1)⟩,((hS.2.1.set _ _).set _ _),((hS.2.2.1.setCell (p:=⟨w.heap.size+1+1,0,none⟩) LR.out _).setCell (p:=⟨w.heap.size+1+1,1,none⟩) LR.out _),((hS.2.2.2.setCell (p:=⟨w.heap.size+1+1,0,none⟩) (nRf _) _).setCell (p:=⟨w.heap.size+1+1,1,none⟩) (nRf _) _)⟩)
      | assumption)
    (first
      | (go_at_call 168; rename _ ∧ (Room _ _ _ ∧ Below w.heap.size w _ ∧ Below _ W _) => hS
         go_fit (HX.out _ (h.past hS.2.2.1) (h2.past hS.2.2.1))
         rintro e w3 ⟨a3,n3,c3,rfl,h3,hb2⟩;have lt3:=nLt HLT.out hS.2.2.2.size;have le3:=hS.2.2.1.size;have rm3:=hS.2.1.past hb2 lt3;obtain ⟨v0,v1,m0,m1,m2,m3⟩:=rm3.two;have own3:=h3.ret2 lt3 le3 (.bool (neg Z)) (.slice a3 n3 c3)))
   all_goals
    rename _∧(Room _ _ _∧Below w.heap.size w _∧Below _ W _)=>hH
    have hs:=retIntOf (z:=Z) ⟨own3,hH.2.2.1⟩ rfl _ rfl;clear hH
    go_wp2
    refine bodyPost_ret (v:=.agg #[.bool (neg (Z)),.slice a3 n3 c3]) ?_ rfl hs;simp [results,Tryz.f134,go_sem,m0,m1]
 have HX:=hiD (fun (w:World) (k1:NatAt w a n c l) (k2:NatAt w a2 n2 c2 l2)=>HAL.out w k1 k2 hs hs2 rfl);clear HAL HAG;have hix:∀ w:World,(Instr.index 189 (.agg #[.func (.func 167) #[] #[],.func (.func 168) #[] #[]]) (.int .i64 0)).run Tryz.prog w = .ok (.func (.func 167) #[] #[]) w:=fun w=>by kernel_rfl
 go_enter Tryz.func134,Tryz.ntmps134
 go_wp2_with fail
 obtain ⟨W,hW,hz,hBW,q0,q1,q2,q3⟩:=boxes3 w #[.bool true,.slice a n c] #[.bool true,.slice a2 n2 c2] #[.bool false,.slice none 0 0] 26 26 26;rw [hW];have HLT:Hid (w.heap.size+1+1<W.heap.size):=hiD (by omega);have Q0:=hiD q0;have L0:Hid (w.heap.size<w.heap.size+1+1):=hiD (by omega);have Q1:=hiD q1;have L1:Hid (w.heap.size+1<w.heap.size+1+1):=hiD (by omega);have LR:Hid (w.heap.size≤w.heap.size+1+1):=hiD (by omega);have RM:=hiD (Room.of q2 q3);have HB:=hiD hBW;clear hW hz hBW q0 q1 q2 q3
 go_wp2_with fail
 go_region_held3 (fun w'=>(w'.cell? ⟨w.heap.size,0,none⟩=some (.bool true)∧w'.cell? ⟨w.heap.size,1,none⟩=some (.slice a n c)∧w'.cell? ⟨w.heap.size+1,0,none⟩=some (.bool true)∧w'.cell? ⟨w.heap.size+1,1,none⟩=some (.slice a2 n2 c2))∧(Room w' (w.heap.size+1+1) 2∧Below w.heap.size w w'∧Below (w.heap.size+1+1) W w'))
  (first
    | exact ⟨⟨((bRf (w.heap.size+1+1) W).drew.cell (p:=⟨w.heap.size,0,none⟩) L0.out).trans (Q0.out 0),((bRf (w.heap.size+1+1) W).drew.cell (p:=⟨w.heap.size,1,none⟩) L0.out).trans (Q0.out 1),((bRf (w.heap.size+1+1) W).drew.cell (p:=⟨w.heap.size+1,0,none⟩) L1.out).trans (Q1.out 0),((bRf (w.heap.size+1+1) W).drew.cell (p:=⟨w.heap.size+1,1,none⟩) L1.out).trans (Q1.out 1)⟩,RM.out.drew,HB.out.drew,(bRf _ _).drew⟩
    | (rename _ ∧ (Room _ _ _ ∧ Below w.heap.size w _ ∧ Below _ W _) => hS
       first
        | exact ⟨⟨((hS.2.2.2.trans (hb2.mono (nOf (nLt HLT.out hS.2.2.2.size)))).cell (p:=⟨w.heap.size,0,none⟩) L0.out).trans (Q0.out 0),((hS.2.2.2.trans (hb2.mono (nOf (nLt HLT.out hS.2.2.2.size)))).cell (p:=⟨w.heap.size,1,none⟩) L0.out).trans (Q0.out 1),((hS.2.2.2.trans (hb2.mono (nOf (nLt HLT.out hS.2.2.2.size)))).cell (p:=⟨w.heap.size+1,0,none⟩) L1.out).trans (Q1.out 0),((hS.2.2.2.trans (hb2.mono (nOf (nLt HLT.out hS.2.2.2.size)))).cell (p:=⟨w.heap.size+1,1,none⟩) L1.out).trans (Q1.out 1)⟩,hS.2.1.past hb2 (nLt HLT.out hS.2.2.2.size),bLt hS.2.2.1 hb2,(hS.2.2.2.trans (hb2.mono (nOf (nLt HLT.out hS.2.2.2.size))))⟩
        | exact ⟨⟨((hS.2.2.2.alloc (nOf (nLt HLT.out hS.2.2.2.size)) _).cell (p:=⟨w.heap.size,0,none⟩) L0.out).trans (Q0.out 0),((hS.2.2.2.alloc (nOf (nLt HLT.out hS.2.2.2.size)) _).cell (p:=⟨w.heap.size,1,none⟩) L0.out).trans (Q0.out 1),((hS.2.2.2.alloc (nOf (nLt HLT.out hS.2.2.2.size)) _).cell (p:=⟨w.heap.size+1,0,none⟩) L1.out).trans (Q1.out 0),((hS.2.2.2.alloc (nOf (nLt HLT.out hS.2.2.2.size)) _).cell (p:=⟨w.heap.size+1,1,none⟩) L1.out).trans (Q1.out 1)⟩,hS.2.1.past ((bRf _ _).alloc (nRf _) _) (nLt HLT.out hS.2.2.2.size),below_alloc hS.2.2.1 _,(hS.2.2.2.alloc (nOf (nLt HLT.out hS.2.2.2.size)) _)⟩
        | exact ⟨⟨(((hS.2.2.2.setCell (p:=⟨w.heap.size+1+1,0,none⟩) (nRf _) _).setCell (p:=⟨w.heap.size+1+1,1,none⟩) (nRf _) _).cell (p:=⟨w.heap.size,0,none⟩) L0.out).trans (Q0.out 0),(((hS.2.2.2.setCell (p:=⟨w.heap.size+1+1,0,none⟩) (nRf _) _).setCell (p:=⟨w.heap.size+1+1,1,none⟩) (nRf _) _).cell (p:=⟨w.heap.size,1,none⟩) L0.out).trans (Q0.out 1),(((hS.2.2.2.setCell (p:=⟨w.heap.size+1+1,0,none⟩) (nRf _) _).setCell (p:=⟨w.heap.size+1+1,1,none⟩) (nRf _) _).cell (p:=⟨w.heap.size+1,0,none⟩) L1.out).trans (Q1.out 0),(((hS.2.2.2.setCell (p:=⟨w.heap.size+1+1,0,none⟩) (nRf _) _).setCell (p:=⟨w.heap.size+1+1,1,none⟩) (nRf _) _).cell (p:=⟨w.heap.size+1,1,none⟩) L1.out).trans (Q1.out 1)⟩,((hS.2.1.set _ _).set _ _),((hS.2.2.1.setCell (p:=⟨w.heap.size+1+1,0,none⟩) LR.out _).setCell (p:=⟨w.heap.size+1+1,1,none⟩) LR.out _),((hS.2.2.2.setCell (p:=⟨w.heap.size+1+1,0,none⟩) (nRf _) _).setCell (p:=⟨w.heap.size+1+1,1,none⟩) (nRf _) _)⟩)
    | assumption)
  (first
    | (go_at_call 167; rename _ ∧ (Room _ _ _ ∧ Below w.heap.size w _ ∧ Below _ W _) => hS
       go_fit (HX.out _ (h.past hS.2.2.1) (h2.past hS.2.2.1))
       rintro e w3 ⟨a3,n3,c3,rfl,h3,hb2⟩;have lt3:=nLt HLT.out hS.2.2.2.size;have le3:=hS.2.2.1.size;have rm3:=hS.2.1.past hb2 lt3;obtain ⟨v0,v1,m0,m1,m2,m3⟩:=rm3.two;have own3:=h3.ret2 lt3 le3 (.bool (neg Z)) (.slice a3 n3 c3)))
 all_goals
  rename _∧(Room _ _ _∧Below w.heap.size w _∧Below _ W _)=>hH
  have hs:=retIntOf (z:=Z) ⟨own3,hH.2.2.1⟩ rfl _ rfl;clear hH
  go_wp2
  refine bodyPost_ret (v:=.agg #[.bool (neg (Z)),.slice a3 n3 c3]) ?_ rfl hs;simp [results,Tryz.f134,go_sem,m0,m1]
end
section
open Go.RowKit
theorem oneN_yes {v:Nat} (h:v<18446744073709551616):oneN v=v∧oneB v=true:=⟨if_pos h,decide_eq_true h⟩
theorem oneN_no {v:Nat} (h:¬ v<18446744073709551616):oneN v=0∧oneB v=false:=⟨if_neg h,decide_eq_false h⟩
end
section
open Go.RowKit
def RetCopy (w:World) (b:Bool) (l:List Nat) (e:Ending) (w':World):Prop :=
 ∃ a n c,e = .returned (.agg #[.bool b,.slice a n c])∧OwnAt w' w.heap.size a n c l∧Below w.heap.size w w'
theorem copyWhole_any (b:Bool) (a:Option Addr) (n c:Nat) (l:List Nat) (w:World) (h:NatAt w a n c l) (hs:n≤1099511627776) :
 Calls Tryz.prog 37 #[.agg #[.bool b,.slice a n c]] w (RetCopy w b l):=by
 go_enter Tryz.func37,Tryz.ntmps37
 go_wp2_with fail
 obtain ⟨W,hW,hz,hBW,q1,q2,q3⟩:=boxes2 w #[.bool b,.slice a n c] #[.bool false,.slice none 0 0] 26 26
 have f1:∀ i,W.frozen? ⟨w.heap.size,i,none⟩=false:=by
  intro i;rw [← hW,World.frozen?_alloc_past _ _ _ (by simp),World.frozen?_alloc_at _ _ _ _ rfl]
 rw [hW];have hlt:w.heap.size+1<W.heap.size:=by omega
 have hlt0:w.heap.size<W.heap.size:=by omega
 with_reducible refine (copyNat_any _ _ _ l _ (h.past hBW) hs).mono ?_
 rintro e w1 ⟨a1,n1,c1,rfl,h1,hb⟩;obtain ⟨q2,q3⟩:=boxPast hb hlt q2 q3;obtain ⟨q1,f1⟩:=boxPast hb hlt0 q1 f1;have hB:=bLt hBW hb;have ho:=(((h1.setOff (b:=w.heap.size) (o:=1) hlt0 (.slice a1 n1 c1)).setOff (b:=w.heap.size+1) (o:=0) hlt (.bool b)).setOff (b:=w.heap.size+1) (o:=1) hlt (.slice a1 n1 c1)).mono hBW.size;have hBF:=((hB.setCell (p:=⟨w.heap.size,1,none⟩) (nRf _) (.slice a1 n1 c1)).setCell (p:=⟨w.heap.size+1,0,none⟩) (Nat.le_succ _) (.bool b)).setCell (p:=⟨w.heap.size+1,1,none⟩) (Nat.le_succ _) (.slice a1 n1 c1);clear hW hz hBW hlt hlt0 h hb h1 hB
 go_wp2
 refine bodyPost_ret (v:=.agg #[.bool b,.slice a1 n1 c1]) ?_ rfl ⟨_,_,_,rfl,ho,hBF⟩;simp [results,Tryz.f37,go_sem,q2,q1]
theorem sameWhole_no (b b2:Bool) (a:Option Addr) (n c:Nat) (a2:Option Addr) (n2 c2:Nat) (w:World) (hb:(b == b2)=false) :
 Calls Tryz.prog 43 #[.agg #[.bool b,.slice a n c],.agg #[.bool b2,.slice a2 n2 c2]] w (RetVal w (.bool false)):=by
 go_enter Tryz.func43,Tryz.ntmps43
 go_wp2
 go_ret
 exact ⟨rfl,((bRf _ _).alloc (nRf _) _).alloc (by simp) _⟩
theorem sameWhole_eq (b:Bool) (a:Option Addr) (n c:Nat) (l:List Nat) (a2:Option Addr) (n2 c2:Nat) (l2:List Nat) (w:World) (h:NatAt w a n c l) (h2:NatAt w a2 n2 c2 l2) :
 Calls Tryz.prog 43 #[.agg #[.bool b,.slice a n c],.agg #[.bool b,.slice a2 n2 c2]] w (RetVal w (.bool (eqL l l2))):=by
 go_enter Tryz.func43,Tryz.ntmps43
 go_wp2_with fail
 with_reducible refine (sameNat_below ((h.alloc _).alloc _) ((h2.alloc _).alloc _)).mono ?_
 rintro e w1 ⟨rfl,hb⟩
 go_wp2
 go_ret
 exact ⟨rfl,bLt (((bRf _ _).alloc (nRf _) _).alloc (by simp) _) hb⟩
theorem sameWhole_yes {b:Bool} {a:Option Addr} {n c:Nat} {l:List Nat} {a2:Option Addr} {n2 c2:Nat} {w:World} (h:NatAt w a n c l) (h2:NatAt w a2 n2 c2 l) :
 Calls Tryz.prog 43 #[.agg #[.bool b,.slice a n c],.agg #[.bool b,.slice a2 n2 c2]] w (RetVal w (.bool true)):=by
 have:=sameWhole_eq b a n c l a2 n2 c2 l w h h2
 rwa [eqL_self] at this
theorem smul_c {x y:Int} {a:Option Addr} {n c:Nat} {a2:Option Addr} {n2 c2:Nat} {w:World} (h:NatAt w a n c (digs x.natAbs)) (h2:NatAt w a2 n2 c2 (digs y.natAbs)) (hs:n≤68719476736) (hs2:n2≤68719476736) :
 Calls Tryz.prog 88 #[.agg #[.bool (neg x),.slice a n c],.agg #[.bool (neg y),.slice a2 n2 c2]] w (RetInt w (x*y)):=by
 have:=smul_any (neg x) a n c _ (neg y) a2 n2 c2 _ w h h2 hs hs2
 rwa [sg_canon,sg_canon] at this
theorem sneg_c {x:Int} {a:Option Addr} {n c:Nat} {w:World} (h:NatAt w a n c (digs x.natAbs)) (hs:n≤1099511627776) :
 Calls Tryz.prog 85 #[.agg #[.bool (neg x),.slice a n c]] w (RetInt w (-x)):=by
 have:=sneg_any (neg x) a n c _ w h hs
 rwa [sg_canon] at this
theorem sign_c {x:Int} {a:Option Addr} {n c:Nat} {w:World} (h:NatAt w a n c (digs x.natAbs)) (hs:n≤1099511627776) :
 Calls Tryz.prog 50 #[.agg #[.bool (neg x),.slice a n c]] w (RetVal w (.int .i64 x.sign)):=by
 have:=sign_any (neg x) a n c _ w h hs
 rwa [sg_canon] at this
theorem chkZ_canon (x:Int):chkZ (neg x) (digs x.natAbs)=0:=by
 unfold chkZ;rw [if_neg,chk_top.2 (top_digs _)];rintro ⟨h1,h2⟩;have:=digs_eq_nil.1 h2;have h3:=of_decide_eq_true h1;omega
end
theorem mkRat_parts {z:Int} {d:Nat} (hd:d≠0):(mkRat z d).num=z/((Nat.gcd z.natAbs d:Nat):Int)∧(mkRat z d).den=d/Nat.gcd z.natAbs d:=by
 rw [← Rat.normalize_eq_mkRat hd,Rat.normalize_eq hd];exact ⟨rfl,rfl⟩
theorem sg_div (b:Bool) {v g:Nat} (h:g ∣ v):sg b (v/g)=sg b v/(g:Int):=by
 cases b
 · simp [sg]
 simp only [sg,if_true];rw [Int.natCast_ediv,Int.neg_ediv_of_dvd (by exact_mod_cast h)]
theorem low_parts {b:Bool} {v d:Nat} (hd:d≠0):sg b (v/Nat.gcd v d)=(mkRat (sg b v) d).num∧d/Nat.gcd v d=(mkRat (sg b v) d).den:=by
 obtain ⟨h1,h2⟩:=mkRat_parts (z:=sg b v) hd;rw [natAbs_sg] at h1 h2;exact ⟨by rw [h1,sg_div b (Nat.gcd_dvd_left v d)],h2.symm⟩
theorem gcd_ne {v d:Nat} (hd:d≠0):Nat.gcd v d≠0:=Nat.pos_iff_ne_zero.1 (Nat.gcd_pos_of_pos_right _ (Nat.pos_of_ne_zero hd))
def chkR (b:Bool) (l l2:List Nat):Int:=if chkZ b l=0∧chk l2=0∧l2≠[]∧Nat.gcd (val l) (val l2)=1 then 0 else 6
theorem chkR_canon (q:Rat):chkR (neg q.num) (digs q.num.natAbs) (digs q.den)=0:=by
 unfold chkR;rw [if_pos ⟨chkZ_canon _,chk_top.2 (top_digs _),fun e=>q.den_nz (digs_eq_nil.1 e),by rw [val_digs,val_digs];exact q.reduced⟩]
theorem chkR_rat {b:Bool} {l l2:List Nat} (hl:Dig l) (hl2:Dig l2) (h:chkR b l l2=0):∃ q:Rat,b=neg q.num∧l=digs q.num.natAbs∧l2=digs q.den:=by
 unfold chkR at h
 split at h
 · rename_i hh;obtain ⟨h1,h2,h3,h4⟩:=hh;have e2:=digs_val hl2 (chk_top.1 h2)
   have hz:¬ (b=true∧l=[]):=by
    intro hc;unfold chkZ at h1;rw [if_pos hc] at h1;exact absurd h1 (by decide)
   have hc1:chk l=0:=by unfold chkZ at h1;rwa [if_neg hz] at h1
   have e1:=digs_val hl (chk_top.1 hc1);have hd:val l2≠0:=fun e=>h3 (by rw [← e2,e];rfl)
   refine ⟨⟨sg b (val l),val l2,hd,by rw [natAbs_sg];exact h4⟩,?_,by simp only [natAbs_sg];exact e1.symm,e2.symm⟩;simp only;rw [neg_sg];cases b
   · rfl
   have hv:0<val l:=by
    rcases Nat.eq_zero_or_pos (val l) with h0 | h0
    · exact absurd ⟨rfl,by rw [← e1,h0];rfl⟩ hz
    exact h0
   simp [hv]
 cases h
theorem chkR_no {b:Bool} {l l2:List Nat} (h:chkR b l l2≠0):chkR b l l2=6:=by
 unfold chkR at h ⊢
 split
 · rename_i hh;rw [if_pos hh] at h;exact absurd rfl h
 rfl
theorem rat_sum (p q:Rat):mkRat (p.num*q.den+q.num*p.den) (p.den*q.den)=p+q:=by
 rw [Rat.add_def,Rat.normalize_eq_mkRat]
theorem rat_prod (p q:Rat):mkRat (p.num*q.num) (p.den*q.den)=p*q:=by
 rw [Rat.mul_def,Rat.normalize_eq_mkRat]
def riskQ (f:Rat) (n:Nat):Rat:=1-(1-f) ^ n
theorem risk_none (f:Rat):riskQ f 0=0:=by
 unfold riskQ;rw [Rat.pow_zero]
 grind
theorem sg_neg (z:Int):sg (neg z) z.natAbs=z:=by
 have:=sg_canon z
 rwa [val_digs] at this
theorem mkRat_own {z:Int} {d:Nat} (hd:d≠0) (h:Nat.gcd z.natAbs d=1):(mkRat z d).num=z∧(mkRat z d).den=d:=by
 obtain ⟨h1,h2⟩:=mkRat_parts (z:=z) hd;rw [h] at h1 h2;exact ⟨by rw [h1];simp,by rw [h2,Nat.div_one]⟩
theorem sg_mul (x y:Int) (a b:Nat):sg (neg x != neg y) (a*b)=sg (neg x) a*sg (neg y) b:=by
 cases neg x<;>cases neg y<;>simp [sg,Int.neg_mul,Int.mul_neg]
theorem part_num (z:Int) {g:Nat} (h:g ∣ z.natAbs):sg (neg z) (z.natAbs/g)*(g:Int)=z:=by
 obtain ⟨k,hk⟩:=h;have hz:=sg_neg z
 by_cases hg:g=0
 · subst hg;rw [Nat.zero_mul] at hk;have:z=0:=by omega
   subst this;simp
 rw [hk,Nat.mul_div_cancel_left _ (Nat.pos_of_ne_zero hg)];rw [hk] at hz;cases hn:neg z<;>rw [hn] at hz<;>simp [sg] at hz ⊢ <;> rw [← hz]<;>first | exact Int.mul_comm _ _ | (rw [Int.neg_mul,Int.mul_comm])
theorem prod_parts (p q:Rat):sg (neg p.num != neg q.num) (p.num.natAbs/Nat.gcd p.num.natAbs q.den*(q.num.natAbs/Nat.gcd q.num.natAbs p.den))=(p*q).num ∧
 p.den/Nat.gcd q.num.natAbs p.den*(q.den/Nat.gcd p.num.natAbs q.den)=(p*q).den:=by
 obtain ⟨g,hg⟩:∃ g,Nat.gcd p.num.natAbs q.den=g:=⟨_,rfl⟩;obtain ⟨h,hh⟩:∃ h,Nat.gcd q.num.natAbs p.den=h:=⟨_,rfl⟩;have g1:g ∣ p.num.natAbs:=hg ▸ Nat.gcd_dvd_left _ _;have g2:g ∣ q.den:=hg ▸ Nat.gcd_dvd_right _ _;have h1:h ∣ q.num.natAbs:=hh ▸ Nat.gcd_dvd_left _ _;have h2:h ∣ p.den:=hh ▸ Nat.gcd_dvd_right _ _;have g0:g≠0:=hg ▸ gcd_ne q.den_nz;have h0:h≠0:=hh ▸ gcd_ne p.den_nz;rw [hg,hh]
 have cX:(p.num.natAbs/g).Coprime (q.den/g):=by
  have:=Nat.coprime_div_gcd_div_gcd (m:=p.num.natAbs) (n:=q.den) (by rw [hg];omega)
  rwa [hg] at this
 have cY:(q.num.natAbs/h).Coprime (p.den/h):=by
  have:=Nat.coprime_div_gcd_div_gcd (m:=q.num.natAbs) (n:=p.den) (by rw [hh];omega)
  rwa [hh] at this
 have cP:(p.num.natAbs/g).Coprime (p.den/h):=Nat.Coprime.coprime_dvd_left (Nat.div_dvd_of_dvd g1) (Nat.Coprime.coprime_dvd_right (Nat.div_dvd_of_dvd h2) p.reduced);have cQ:(q.num.natAbs/h).Coprime (q.den/g):=Nat.Coprime.coprime_dvd_left (Nat.div_dvd_of_dvd h1) (Nat.Coprime.coprime_dvd_right (Nat.div_dvd_of_dvd g2) q.reduced)
 have cop:(p.num.natAbs/g*(q.num.natAbs/h)).Coprime (p.den/h*(q.den/g)) :=
  Nat.Coprime.mul_left (Nat.Coprime.mul_right cP cX) (Nat.Coprime.mul_right cY cQ)
 have dz:p.den/h*(q.den/g)≠0:=Nat.mul_ne_zero (fun e=>p.den_nz (by rw [← Nat.div_mul_cancel h2,e,Nat.zero_mul])) (fun e=>q.den_nz (by rw [← Nat.div_mul_cancel g2,e,Nat.zero_mul]));have hn:(sg (neg p.num != neg q.num) (p.num.natAbs/g*(q.num.natAbs/h))).natAbs=p.num.natAbs/g*(q.num.natAbs/h):=natAbs_sg _ _;obtain ⟨e1,e2⟩:=mkRat_own (z:=sg (neg p.num != neg q.num) (p.num.natAbs/g*(q.num.natAbs/h))) dz (by rw [hn];exact cop)
 have e3:mkRat (sg (neg p.num != neg q.num) (p.num.natAbs/g*(q.num.natAbs/h))) (p.den/h*(q.den/g))=p*q:=by
  rw [← rat_prod,← Rat.mkRat_mul_right (a:=g*h) (Nat.mul_ne_zero g0 h0)]
  congr 1
  · rw [sg_mul,Int.natCast_mul,show ∀ a b c d:Int,a*b*(c*d)=(a*c)*(b*d) from fun a b c d=>by ac_rfl,part_num _ g1,part_num _ h1]
  rw [show ∀ a b c d:Nat,a*b*(c*d)=(a*d)*(b*c) from fun a b c d=>by ac_rfl,Nat.div_mul_cancel h2,Nat.div_mul_cancel g2]
 rw [e3] at e1 e2;exact ⟨e1.symm,e2.symm⟩
theorem inv_parts {q:Rat} (h:q.num≠0):sg (neg q.num) q.den=(q⁻¹).num∧q.num.natAbs=(q⁻¹).den:=by
 rw [Rat.num_inv,Rat.den_inv,if_neg h];refine ⟨?_,rfl⟩;unfold sg neg
 by_cases hn:q.num<0
 · rw [decide_eq_true hn,Int.sign_eq_neg_one_of_neg hn];simp
 rw [decide_eq_false hn,Int.sign_eq_one_of_pos (by omega)];simp
end Go.Proofs.YtkhcblihbalnbaaGreat
