import Derived.Test.YtkhcblihbalnbaaGreatDoorOct3Pb
import Derived.Test.YtkhcblihbalnbaaGreatDoorRats1Pb
import Derived.Test.YtkhcblihbalnbaaGreatDoorDigits9Pb
set_option linter.unusedVariables false
set_option linter.unusedSimpArgs false
set_option maxHeartbeats 4000000
set_option maxRecDepth 100000
namespace Go.Proofs.YtkhcblihbalnbaaGreatDoor
open Go.RowKit
theorem BytesAt.stays {X:Nat→Prop} {w w':World} {a:Option Addr} {n c:Nat} {l:List Nat} (g:BytesAt w a n c l) (h:Stays X w w') (hb:n=0∨∀ x,a=some x→¬ X x.block):BytesAt w' a n c l:=by
 refine ⟨g.len,g.le,g.cle,g.dig,?_,g.nilc⟩;rcases hb with h0 | hb
 · exact .inl h0
 exact g.cell.imp id fun ⟨b,o,e,hc⟩=>⟨b,o,e,fun i hi=>h.cell (hb _ e) (hc i hi)⟩
theorem BytesAt.blk {w w':World} {a:Option Addr} {n c:Nat} {l:List Nat} (g:BytesAt w a n c l) (hb:n=0∨∀ x,a=some x→w'.heap[x.block]? = w.heap[x.block]?):BytesAt w' a n c l:=by
 refine ⟨g.len,g.le,g.cle,g.dig,?_,g.nilc⟩;rcases hb with h0 | hb
 · exact .inl h0
 exact g.cell.imp id fun ⟨b,o,e,hc⟩=>⟨b,o,e,fun i hi=>(World.cell?_of_block (w:=w) (a:=⟨b,o+i,none⟩) (show w'.heap[b]? = w.heap[b]? from hb _ e)).trans (hc i hi)⟩
theorem BoxAt.blk {w w':World} {b k:Nat} (h:BoxAt w b k) (hb:w'.heap[b]? = w.heap[b]?):BoxAt w' b k :=
 ⟨fun i hi=>by obtain ⟨v,hv,hu⟩:=h.c i hi;exact ⟨v,(World.cell?_of_block (w:=w) (a:=⟨b,i,none⟩) hb).trans hv,hu⟩,fun i hi=>(World.frozen?_of_block (w:=w) (a:=⟨b,i,none⟩) hb).trans (h.f i hi)⟩
structure RdAt (w:World) (b:Nat) (L:List Nat) (s:Option (List Nat)):Prop where
 row:∃ a c,w.cell? ⟨b,0,none⟩=some (.slice a L.length c)∧BytesAt w a L.length c L∧(L.length=0∨∀ x,a=some x→x.block<b)
 q1:w.cell? ⟨b,1,none⟩=some (.bool true)
 pos:∃ (p:Nat) (E A:Int),w.cell? ⟨b,2,none⟩=some (.int .i64 (p:Int))∧w.cell? ⟨b,3,none⟩=some (.int .i64 E)∧w.cell? ⟨b,4,none⟩=some (.int .i64 A)∧p≤L.length∧(∀ R,s=some R→E=0∧A=0∧R=L.drop p)∧(s=none→E≠0)
 box:BoxAt w b 5
theorem RdAt.lt {w:World} {b:Nat} {L:List Nat} {s:Option (List Nat)} (h:RdAt w b L s):b<w.heap.size:=World.block_lt_of_cell? w ⟨b,1,none⟩ h.q1
theorem RdAt.low {w w':World} {b:Nat} {L:List Nat} {s:Option (List Nat)} (h:RdAt w b L s) (hk:∀ k,k≤b→w'.heap[k]? = w.heap[k]?):RdAt w' b L s:=by
 obtain ⟨a,c,r1,r2,r3⟩:=h.row;obtain ⟨p,E,A,p1,p2,p3,p4⟩:=h.pos;have cc:=fun {i:Nat} {v:Value} (q:w.cell? ⟨b,i,none⟩=some v)=>(World.cell?_of_block (w:=w) (a:=⟨b,i,none⟩) (hk b (nRf _))).trans q
 exact ⟨⟨a,c,cc r1,r2.blk (r3.imp id fun r3 x e=>hk _ (nOf (r3 x e))),r3⟩,cc h.q1,⟨p,E,A,cc p1,cc p2,cc p3,p4⟩,h.box.blk (hk b (nRf _))⟩
theorem RdAt.past {w w':World} {b:Nat} {L:List Nat} {s:Option (List Nat)} (h:RdAt w b L s) (hb:Below w.heap.size w w'):RdAt w' b L s:=h.low fun k hk=>hb.block k (Nat.lt_of_le_of_lt hk h.lt)
theorem RdAt.to {w:World} {b:Nat} {L:List Nat} {s s':Option (List Nat)} (h:RdAt w b L s) (vs:List Value) (o:Nat) (hl:o+vs.length≤5) (ho:2≤o) (hv:∀ v ∈ vs,notU v)
 (hp:∃ (p:Nat) (E A:Int),(w.setCells b o vs).cell? ⟨b,2,none⟩=some (.int .i64 (p:Int))∧(w.setCells b o vs).cell? ⟨b,3,none⟩=some (.int .i64 E)∧(w.setCells b o vs).cell? ⟨b,4,none⟩=some (.int .i64 A)∧p≤L.length∧(∀ R,s'=some R→E=0∧A=0∧R=L.drop p)∧(s'=none→E≠0)) :
 RdAt (w.setCells b o vs) b L s'∧Moves (fun k=>k=b) w (w.setCells b o vs):=by
 have hm:=Moves.sets vs o w h.box hl hv;have low:∀ i,i<o→(w.setCells b o vs).cell? ⟨b,i,none⟩=w.cell? ⟨b,i,none⟩:=fun i hi=>World.cell?_setCells_out _ _ _ _ _ (fun _ _=>by first | omega | (simp;omega))
 obtain ⟨a,c,r1,r2,r3⟩:=h.row;exact ⟨⟨⟨a,c,(low 0 (by omega)).trans r1,r2.stays hm.stays (r3.imp id fun r3 x e hX=>by have:=r3 x e;omega),r3⟩,(low 1 (by omega)).trans h.q1,hp,BoxAt.sets vs b o w h.box hv⟩,hm⟩
theorem rnone_any (b:Nat) (w:World) (q1:w.cell? ⟨b,1,none⟩=some (.bool true)) :
 Calls Tryz.prog 73 #[.pointer (some ⟨b,0,none⟩)] w fun e w'=>e = .returned (.bool false)∧w=w':=by
 go_enter Tryz.func73,Tryz.ntmps73
 go_wp2
 go_ret
 exact ⟨rfl,rfl⟩
theorem slice_part {w:World} {a:Option Addr} {N c:Nat} {L:List Nat} (h:BytesAt w a N c L) {p n:Nat} (hp:p+n≤N):∃ ad cc,(∀ W,(Instr.slice 31 (.slice a N c) (some (.int .i64 (p:Int))) (some (.int .i64 ((p:Int)+(n:Int)))) none).run Tryz.prog W = .ok (.slice ad n cc) W)∧BytesAt w ad n cc ((L.drop p).take n):=by
 have hel:Tryz.prog.elem 31=5:=by kernel_rfl
 have hun:Tryz.prog.underlying 31=some (.slice (Tryz.prog.elem 31)):=by rw [hel];exact Tryz.underlying31
 have hsz:∀ W,(sizeOf 5).run Tryz.prog W = .ok 1 W:=fun W=>by kernel_rfl
 have hle:=h.le;refine ⟨if c=p then a else a.map (·.add p),c-p,fun W => ?_,?_⟩
 · rw [run_slice_lh W _ a N c hun .i64 .i64 (p:Int) _ (by omega) (by omega) (by omega),hel,hsz];have e1:((p:Int)+(n:Int)).toNat=p+n:=by omega
   simp only [Result.andThen,sliced,Int.toNat_natCast,e1,Nat.mul_one,Nat.add_sub_cancel_left]
 have hcc:=h.cle;cases a with
 | none =>
   have hc:=h.nilc rfl;obtain rfl:N=0:=by omega
   obtain rfl:p=0:=by omega
   obtain rfl:n=0:=by omega
   subst hc
   simpa using BytesAt.nil w
 | some ad =>
   by_cases e:c=p
   · rw [if_pos e];obtain rfl:n=0:=by omega
     rw [List.take_zero];exact BytesAt.none_ w _ _ (by omega) (fun e=>by cases e)
   rw [if_neg e];refine BytesAt.take (n:=N-p) (c:=c-p) ?_ (by omega) _ (by omega) (nRf _);rcases h.cell with h0 | ⟨b1,o1,he,_⟩
   · obtain rfl:p=0:=by omega
     subst h0;have hl:=h.len;obtain rfl:L=[]:=List.eq_nil_of_length_eq_zero hl;exact BytesAt.none_ w _ _ (by omega) (fun e=>by cases e)
   cases he;rw [Option.map_some,addr_add];exact h.drop (k:=p) (by omega)
theorem newReader_any (a:Option Addr) (c:Nat) (L:List Nat) (w:World) (h:BytesAt w a L.length c L) (hL:L.length≤100000) :
 Calls Tryz.prog 30 #[.slice a L.length c] w fun e w'=>∃ b,e = .returned (.pointer (some ⟨b,0,none⟩))∧RdAt w' b L (some L)∧w.heap.size≤b∧Below w.heap.size w w':=by
 go_enter Tryz.func30,Tryz.ntmps30
 go_wp2_with fail
 refine (clone_bytes a L.length c L w h hL).mono ?_;rintro e w1 ⟨a',n',c',rfl,h1,h3⟩;obtain rfl:=h1.len;have h2:L.length=0∨∀ x,a'=some x→x.block<w1.heap.size:=h1.parts.imp id fun ⟨b,o,e,hl,_⟩ x e2=>by rw [e] at e2;cases e2;exact hl
 have H1:=hiD h1;clear h1
 go_wp2
 obtain ⟨W,hW,y1,hb,r,f⟩:=box1g w1 w1.heap.size rfl #[.slice a' L.length c',.bool true,.int .i64 0,.int .i64 0,.int .i64 0] 108;rw [hW];refine bodyPost_ret (v:=.pointer (some ⟨w1.heap.size,0,none⟩)) ?_ rfl ⟨_,rfl,⟨⟨a',c',r 0,H1.out.past hb,h2⟩,r 1,⟨0,0,0,r 2,r 3,r 4,Nat.zero_le _,fun R e=>⟨rfl,rfl,by cases e;rfl⟩,fun e=>by cases e⟩,BoxAt.of r f rfl (by simp [notU_bool,notU_slice,notU_i64])⟩,h3.size,bLt h3 hb⟩;simp [results,Tryz.f30,go_sem]
theorem BytesAt.setOff {w:World} {a:Option Addr} {n c:Nat} {l:List Nat} (h:BytesAt w a n c l) {p:Addr} {x:Int} (hc:w.cell? p=some (.int .i64 x)) (v:Value):BytesAt (w.setCell p v) a n c l :=
 ⟨h.len, h.le, h.cle, h.dig, h.cell.imp id fun ⟨b, o, e, hq⟩ => ⟨b, o, e, fun i hi => by
   rw [World.cell?_setCell_other _ _ _ _ (fun e2 => ?_)]
   · exact hq i hi
   have:=hq i hi;rw [← e2,hc] at this;cases this⟩,h.nilc⟩
def RetTk (b:Nat) (L:List Nat) (l:List Nat) (s:Option (List Nat)) (w:World) (e:Ending) (w':World):Prop:=∃ a m c,e = .returned (.slice a m c)∧BytesAt w' a m c l∧RdAt w' b L s∧Moves (fun k=>k=b) w w'
theorem takes_any (b n:Nat) (L:List Nat) (s:Option (List Nat)) (w:World) (h:RdAt w b L s) (hL:L.length≤100000) (hn:n≤100000) :
 Calls Tryz.prog 71 #[.pointer (some ⟨b,0,none⟩),.int .i64 (n:Int),.bool true] w (RetTk b L (tkL n s) (tkR n s) w):=by
 obtain ⟨a,c,r1,r2,r3⟩:=h.row;obtain ⟨p,E,A,p1,p2,p3,p4,p5,p6⟩:=h.pos;have q1:=h.q1;have lb:=h.lt;have z2:=h.box.f 2 (by decide);have z3:=h.box.f 3 (by decide);have z4:=h.box.f 4 (by decide);have HH:=hiD h;clear h;cases s with
 | none =>
   have hE:=p6 rfl;have t0:(E != 0)=true:=by simp [hE]
   clear r2 r3 p5 p6 hE
   go_enter Tryz.func71,Tryz.ntmps71
   go_wp2_with fail
   with_reducible refine (rnone_any b _ q1).mono ?_
   rintro e w' ⟨rfl,rfl⟩
   go_wp2
   go_ret
   exact ⟨_,_,_,rfl,BytesAt.nil _,HH.out,Moves.refl _ _⟩
 | some R =>
   obtain ⟨rfl,rfl,hR⟩:=p5 R rfl;have hRl:R.length=L.length-p:=by rw [hR,List.length_drop]
   clear p5 p6
   by_cases hf:n≤R.length
   · have e1:tkL n (some R)=(L.drop p).take n:=by rw [← hR];exact if_pos hf
     have e2:tkR n (some R)=some (L.drop (p+n)):=by rw [show tkR n (some R)=some (R.drop n) from if_pos hf,hR,List.drop_drop]
     rw [e1,e2];obtain ⟨ad,cc,hsl,hbS⟩:=slice_part r2 (p:=p) (n:=n) (by omega);have HR2:=hiD hbS;have t1:decide (((L.length:Int)-(p:Int))<(n:Int))=false:=decide_eq_false (by omega);have hpn:p+n≤L.length:=by omega
     have hwp:IntKind.i64.wrap ((p:Int)+(n:Int))=(p:Int)+(n:Int):=by rw [IntKind.wrap_i64];omega
     obtain ⟨T,hT⟩:∃ T,(L.drop p).take n=T:=⟨_,rfl⟩;have HT:=hiD hT;rw [hT];obtain ⟨N,hN⟩:∃ N,L.length=N:=⟨_,rfl⟩;rw [hN] at r1 hsl t1 hpn hL;have HN:=hiD hN;clear r2 r3 hR hRl hf e1 e2 hbS hT hN p4
     go_enter Tryz.func71,Tryz.ntmps71
     go_wp2_with fail
     with_reducible refine (rnone_any b _ q1).mono ?_
     rintro e w' ⟨rfl,rfl⟩
     go_wp2_with fail
     go_quiet (fail)
     have hD:Below w.heap.size w (w.drewN nq):=Below.draws (bRf _ _) nq;have hbS:=HR2.out.past hD;rw [HT.out] at hbS;have hR:=HH.out.past hD;have HM:=hiD (Moves.ofBelow (X:=fun k=>k=b) hD);have qr0:=bq hD lb r1;have qr1:=bq hD lb q1;have qr2:=bq hD lb p1;have qr3:=bq hD lb p2;have qr4:=bq hD lb p3;have z2:=(hD.frozen (p:=⟨b,2,none⟩) lb).trans z2;have lr:=bl hD lb;clear hD q1 r1 p1 p2 p3 z3 z4 HR2 lb;generalize w.drewN nq=V at *;have hB:=bRf V.heap.size V;have HL:=hiD lr
     go_wp2_with fail
     go_region_held3 (fun w'=>(w'.cell? ⟨b,0,none⟩=some (.slice a N c)∧w'.cell? ⟨b,1,none⟩=some (.bool true)∧w'.cell? ⟨b,2,none⟩=some (.int .i64 (p:Int))∧w'.cell? ⟨b,3,none⟩=some (.int .i64 0)∧w'.cell? ⟨b,4,none⟩=some (.int .i64 0))∧Below V.heap.size V w')
      (first
        | exact ⟨⟨((bRf V.heap.size V).drew.cell (p:=⟨b,0,none⟩) lr).trans qr0,((bRf V.heap.size V).drew.cell (p:=⟨b,1,none⟩) lr).trans qr1,((bRf V.heap.size V).drew.cell (p:=⟨b,2,none⟩) lr).trans qr2,((bRf V.heap.size V).drew.cell (p:=⟨b,3,none⟩) lr).trans qr3,((bRf V.heap.size V).drew.cell (p:=⟨b,4,none⟩) lr).trans qr4⟩,(bRf _ _).drew⟩
        | (rename _ ∧ Below V.heap.size V _ => hS
           first
            | exact ⟨⟨((bLt hS.2 hbw1).cell (p:=⟨b,0,none⟩) lr).trans qr0,((bLt hS.2 hbw1).cell (p:=⟨b,1,none⟩) lr).trans qr1,((bLt hS.2 hbw1).cell (p:=⟨b,2,none⟩) lr).trans qr2,((bLt hS.2 hbw1).cell (p:=⟨b,3,none⟩) lr).trans qr3,((bLt hS.2 hbw1).cell (p:=⟨b,4,none⟩) lr).trans qr4⟩,bLt hS.2 hbw1⟩
            | exact ⟨⟨((hS.2.drew).cell (p:=⟨b,0,none⟩) lr).trans qr0,((hS.2.drew).cell (p:=⟨b,1,none⟩) lr).trans qr1,((hS.2.drew).cell (p:=⟨b,2,none⟩) lr).trans qr2,((hS.2.drew).cell (p:=⟨b,3,none⟩) lr).trans qr3,((hS.2.drew).cell (p:=⟨b,4,none⟩) lr).trans qr4⟩,hS.2.drew⟩)
        | assumption)
      (first
        | (go_at_call 70; rename _ ∧ Below V.heap.size V _ => hS
           go_fit (clone_bytes _ _ _ _ _ (hbS.past hS.2) (by omega))
           rintro e w1 ⟨aC,nC,cC,rfl,hC,hbw1⟩))
     rename _∧Below V.heap.size V w1=>hS
     have hbR:=hS.2;have hR:=hR.past hbR;have qr0:=bq hbR lr qr0;have qr1:=bq hbR lr qr1;have qr2:=bq hbR lr qr2;have qr3:=bq hbR lr qr3;have qr4:=bq hbR lr qr4;have lr:=bl hbR lr;have hB:=bLt hB hbR;clear hS hbR;have z2:=(hB.frozen (p:=⟨b,2,none⟩) HL.out).trans z2;have HM2:=hiD (Moves.ofBelow (X:=fun k=>k=b) hB);have hB3:=hB;have HR3:=hiD hR;have HC:=hiD hC;clear hB hR hbS;have P23:=hiD (⟨qr2,qr3,qr4⟩:_∧_∧_);clear hB3 qr0 qr1 qr3 qr4
     go_wp2
     go_ret
     obtain ⟨p1,p2,p3⟩:=P23.out;obtain ⟨k1,k2⟩:=HR3.out.to (s':=some (L.drop (p+n))) [.int .i64 ((p:Int)+(n:Int))] 2 (by simp) (by decide) (by simp [notU_i64]) ⟨p+n,0,0,World.cell?_setCell_same _ _ _ p1,(World.cell?_setCell_other _ _ _ _ (fun e=>by cases e)).trans p2,(World.cell?_setCell_other _ _ _ _ (fun e=>by cases e)).trans p3,by rw [HN.out];exact hpn,fun R e=>⟨rfl,rfl,by cases e;rfl⟩,fun e=>by cases e⟩;exact ⟨_,_,_,rfl,HC.out.setOff p1 _,k1,(HM.out.trans HM2.out).trans k2⟩
   have e1:tkL n (some R)=[]:=if_neg hf;have e2:tkR n (some R)=none:=if_neg hf;rw [e1,e2];have t1:decide (((L.length:Int)-(p:Int))<(n:Int))=true:=decide_eq_true (by omega);obtain ⟨N,hN⟩:∃ N,L.length=N:=⟨_,rfl⟩;rw [hN] at r1 t1 hL p4;have HN:=hiD hN;clear r2 r3 hR hRl hf e1 e2 hN
   go_enter Tryz.func71,Tryz.ntmps71
   go_wp2_with fail
   with_reducible refine (rnone_any b _ q1).mono ?_
   rintro e w' ⟨rfl,rfl⟩
   go_wp2_with fail
   go_quiet (fail)
   have hD:Below w.heap.size w (w.drewN nq):=Below.draws (bRf _ _) nq;have HR:=hiD (HH.out.past hD);have HM:=hiD (Moves.ofBelow (X:=fun k=>k=b) hD);have r1:=(hD.cell (p:=⟨b,0,none⟩) lb).trans r1;have p1:=(hD.cell (p:=⟨b,2,none⟩) lb).trans p1;have p2:=(hD.cell (p:=⟨b,3,none⟩) lb).trans p2;have p3:=(hD.cell (p:=⟨b,4,none⟩) lb).trans p3;have z3:=(hD.frozen (p:=⟨b,3,none⟩) lb).trans z3;have z4:=(hD.frozen (p:=⟨b,4,none⟩) lb).trans z4;clear hD q1 z2;generalize w.drewN nq=V at *
   go_wp2
   go_ret
   obtain ⟨k1,k2⟩:=HR.out.to (s':=none) [.int .i64 7,.int .i64 (N:Int)] 3 (by simp) (by decide) (by simp [notU_i64]) ⟨p,7,N,(World.cell?_setCell_other _ _ _ _ (fun e=>by cases e)).trans ((World.cell?_setCell_other _ _ _ _ (fun e=>by cases e)).trans p1),(World.cell?_setCell_other _ _ _ _ (fun e=>by cases e)).trans (World.cell?_setCell_same _ _ _ p2),World.cell?_setCell_same _ _ _ ((World.cell?_setCell_other _ _ _ _ (fun e=>by cases e)).trans p3),by rw [HN.out];exact p4,fun R e=>(by cases e),fun _=>by decide⟩;exact ⟨_,_,_,rfl,BytesAt.nil _,k1,HM.out.trans k2⟩
theorem rdget_any (b wide:Nat) (L:List Nat) (s:Option (List Nat)) (w:World) (h:RdAt w b L s) (hL:L.length≤100000) (hw:wide=2∨wide=4) :
 Calls Tryz.prog 31 #[.pointer (some ⟨b,0,none⟩),.int .i64 (wide:Int)] w fun e w'=>e = .returned (.int .i64 ((gN wide s:Nat):Int))∧RdAt w' b L (tkR wide s)∧Moves (fun k=>k=b) w w'∧gN wide s<4294967296∧(wide=2→gN wide s<65536):=by
 have HT:=hiD (takes_any b wide L s w h hL (by omega));have hw8:wide≤4:=by omega
 have HW:=hiD (width_any wide w hw)
 have hlen:(tkL wide s).length≤wide:=by
  cases s with
  | none=>exact Nat.zero_le _
  | some R=>unfold tkL;simp only;split<;>simp;omega
 unfold gN;obtain ⟨T,hT⟩:∃ T,tkL wide s=T:=⟨_,rfl⟩;rw [hT] at hlen ⊢;have HTT:=hiD hT;clear h hw hT
 go_enter Tryz.func31,Tryz.ntmps31
 go_wp2_with fail
 with_reducible refine HW.out.mono ?_
 rintro e w' ⟨rfl,rfl⟩
 go_wp2_with fail
 with_reducible refine HT.out.mono ?_
 rintro e W ⟨a,m,c,rfl,hb,hR,hM⟩;rw [HTT.out] at hb;have HR:=hiD hR;have HM:=hiD hM;have HB:=hiD hb;have hl:=hb.len;have hcl:=hb.cle;have hle:=hb.le;obtain ⟨K,hK⟩:∃ K,valL 256 T=K:=⟨_,rfl⟩
 have hKl:K<4294967296:=by
  have h1:=valL_lt T hb.dig;rw [hK] at h1;exact nLt h1 (nTr (Nat.pow_le_pow_right (by decide) (by omega:T.length≤4)) (by decide))
 have hK2:wide=2→K<65536:=fun e=>by
  have h1:=valL_lt T HB.out.dig;rw [hK] at h1;exact nLt h1 (nTr (Nat.pow_le_pow_right (by decide) (by omega:T.length≤2)) (by decide))
 have HK:=hiD hK;have HK2:=hiD hK2;clear hR hM hb hK hK2
 go_wp2_with fail
 go_loopw [5,7,14] (fun s5 s7 s14 wr=>∃ i x:Nat,i≤m∧s14 = .int .i64 (i:Int)∧s5 = .int .u64 (x:Int)∧x<256 ^ i∧x=valL 256 (T.take i)∧wr=W) (fun _ _ s14 _=>m-(intOf s14).toNat)
 case atStart=>exact ⟨0,0,Nat.zero_le _,by go_num,by go_num,by decide,by simp;rfl,rfl⟩
 case round =>
  obtain ⟨i,x,hi,rfl,rfl,hx,hv,rfl⟩:=hrel;have HX:=hiD hx;have HV:=hiD hv;clear hx hv
  by_cases hlt:i<m
  · rcases HB.out.cell with h0 | ⟨ba,oa,rfl,hc⟩
    · omega
    have hcv:=hc i hlt
    have hdl:D T i<256:=HB.out.dig _ (by
     rw [show D T i=T[i]'(by omega) by simp [D,List.getD_eq_getElem?_getD,List.getElem?_eq_getElem (show i<T.length by omega)]];exact List.getElem_mem _)
    have hvm:=valL_take_more (L:=T) (lo:=0) (j:=i) (by omega);rw [List.drop_zero,Nat.zero_add,← HV.out] at hvm;obtain ⟨X,hX⟩:∃ X,D T i=X:=⟨_,rfl⟩;rw [hX] at hcv hdl hvm;obtain ⟨e1,e2,e3⟩:=fb_step HX.out (by omega:i<8) hdl;have E1:=hiD e1;have E2:=hiD e2;have E3:=hiD e3;have HVM:=hiD hvm;have hwx:IntKind.u64.wrap (X:Int)=(X:Int):=by rw [IntKind.wrap_u64];omega
    clear hc e1 e2 e3 hvm hX
    go_wp2_with fail
    rw [E1.out,E2.out];refine ⟨⟨i+1,x*256+X,by omega,by go_num,rfl,E3.out,HVM.out.symm,trivial⟩,?_⟩;simp [intOf]<;>omega
  obtain rfl:i=m:=by omega
  have hxk:x=K:=by rw [HV.out,List.take_of_length_le (by omega),HK.out]
  subst hxk;have t2:decide ((9223372036854775808:Int)≤(x:Int))=false:=decide_eq_false (by omega);have hwx:IntKind.i64.wrap (x:Int)=(x:Int):=by rw [IntKind.wrap_i64];omega
  go_wp2
  go_ret
  refine ⟨?_,HR.out,HM.out,by rw [HK.out];exact hKl,by rw [HK.out];exact HK2.out⟩;rw [HK.out];rfl
theorem raw_any (b n:Nat) (L:List Nat) (s:Option (List Nat)) (w:World) (h:RdAt w b L s) (hL:L.length≤100000) (hn:n≤100000) :
 Calls Tryz.prog 34 #[.pointer (some ⟨b,0,none⟩),.int .i64 (n:Int)] w (RetTk b L (tkL n s) (tkR n s) w):=by
 have HT:=hiD (takes_any b n L s w h hL hn);clear h
 go_enter Tryz.func34,Tryz.ntmps34
 go_wp2_with fail
 with_reducible refine HT.out.mono ?_
 rintro e W ⟨a,m,c,rfl,hb,hR,hM⟩;have H:=hiD (⟨hb,hR,hM⟩:_∧_∧_);clear hb hR hM
 go_wp2
 go_ret
 exact ⟨_,_,_,rfl,H.out.1,H.out.2.1,H.out.2.2⟩
theorem rest_any (b:Nat) (L:List Nat) (s:Option (List Nat)) (w:World) (h:RdAt w b L s) (hL:L.length≤100000) :
 Calls Tryz.prog 32 #[.pointer (some ⟨b,0,none⟩)] w fun e w'=>e = .returned (.int .i64 ((restL s:Nat):Int))∧Below w.heap.size w w':=by
 obtain ⟨a,c,r1,r2,r3⟩:=h.row;obtain ⟨p,E,A,p1,p2,p3,p4,p5,p6⟩:=h.pos;have q1:=h.q1;clear h r2 r3;cases s with
 | none =>
   have t0:(E != 0)=true:=by simp [p6 rfl]
   clear p5 p6
   go_enter Tryz.func32,Tryz.ntmps32
   go_wp2_with fail
   with_reducible refine (rnone_any b _ q1).mono ?_
   rintro e w' ⟨rfl,rfl⟩
   go_wp2
   go_ret
   exact ⟨rfl,bRf _ _⟩
 | some R =>
   obtain ⟨rfl,rfl,hR⟩:=p5 R rfl;have e:restL (some R)=L.length-p:=by rw [hR];simp [restL]
   rw [e];clear p5 p6 hR e
   go_enter Tryz.func32,Tryz.ntmps32
   go_wp2_with fail
   with_reducible refine (rnone_any b _ q1).mono ?_
   rintro e w' ⟨rfl,rfl⟩
   go_wp2_with fail
   go_quiet (fail)
   go_wp2
   go_ret
   refine ⟨?_,Below.draws (bRf _ _) nq⟩;rw [show ((L.length-p:Nat):Int)=(L.length:Int)-(p:Int) by omega];rfl
def RetEnd (w:World) (s:Option (List Nat)) (e:Ending) (w':World):Prop:=∃ E A:Int,e = .returned (.agg #[.int .i64 E,.int .i64 A])∧Below w.heap.size w w'∧((s=some []∧E=0∧A=0)∨(s≠some []∧E≠0))
theorem end_any (b:Nat) (L:List Nat) (s:Option (List Nat)) (w:World) (h:RdAt w b L s) (hL:L.length≤100000) :
 Calls Tryz.prog 35 #[.pointer (some ⟨b,0,none⟩)] w (RetEnd w s):=by
 obtain ⟨a,c,r1,r2,r3⟩:=h.row;obtain ⟨p,E,A,p1,p2,p3,p4,p5,p6⟩:=h.pos;have q1:=h.q1;have lb:=h.lt;clear h r2 r3;cases s with
 | none =>
   have hE:=p6 rfl;have t0:(E == 0)=false:=by simp [hE]
   clear p5 p6
   go_enter Tryz.func35,Tryz.ntmps35
   go_wp2_with fail
   obtain ⟨w1,hW,hz,hb,q,f⟩:=box1g w w.heap.size rfl #[.int .i64 0,.int .i64 0] 67;rw [hW];have q1:=(hb.cell (p:=⟨b,1,none⟩) lb).trans q1
   with_reducible refine (rnone_any b _ q1).mono ?_
   rintro e w' ⟨rfl,rfl⟩;have r1:=(hb.cell (p:=⟨b,0,none⟩) lb).trans r1;have p1:=(hb.cell (p:=⟨b,2,none⟩) lb).trans p1;have p2:=(hb.cell (p:=⟨b,3,none⟩) lb).trans p2;have p3:=(hb.cell (p:=⟨b,4,none⟩) lb).trans p3;have y0:=q 0;have y1:=q 1;have z0:=f 0;have z1:=f 1;have hne:¬ w.heap.size=b:=by omega
   have hbd:Below w.heap.size w w1:=hb;have HW:=hiD hW;clear hW hz hb q f
   go_wp2_with fail
   go_quiet (fail)
   have hD:Below w1.heap.size w1 (w1.drewN nq):=Below.draws (bRf _ _) nq;have hl1:w.heap.size<w1.heap.size:=World.block_lt_of_cell? w1 ⟨w.heap.size,0,none⟩ y0;have lb1:b<w1.heap.size:=by omega
   have r1:=bq hD lb1 r1;have p1:=bq hD lb1 p1;have p2:=bq hD lb1 p2;have p3:=bq hD lb1 p3;have y0:=bq hD hl1 y0;have y1:=bq hD hl1 y1;have z0:=(hD.frozen (p:=⟨w.heap.size,0,none⟩) hl1).trans z0;have z1:=(hD.frozen (p:=⟨w.heap.size,1,none⟩) hl1).trans z1;have hB:Below w.heap.size w (w1.drewN nq):=hbd.trans (hD.mono (by omega));clear hD hbd q1;generalize w1.drewN nq=V at *
   go_wp2
   refine bodyPost_ret (v:=.agg #[.int .i64 E,.int .i64 A]) ?_ rfl ⟨_,_,rfl,hB.trans (below_setCells _ _ (nRf _) [.int .i64 E,.int .i64 A] 0 _),?_⟩
   · have c1:=World.cell?_setCell_same V ⟨w.heap.size,0,none⟩ (.int .i64 E) y0;have y1':=(World.cell?_setCell_other V ⟨w.heap.size,0,none⟩ ⟨w.heap.size,1,none⟩ (.int .i64 E) (fun e=>by cases e)).trans y1;have c2:=World.cell?_setCell_same (V.setCell ⟨w.heap.size,0,none⟩ (.int .i64 E)) ⟨w.heap.size,1,none⟩ (.int .i64 A) y1';have c1':=(World.cell?_setCell_other (V.setCell ⟨w.heap.size,0,none⟩ (.int .i64 E)) ⟨w.heap.size,1,none⟩ ⟨w.heap.size,0,none⟩ (.int .i64 A) (fun e=>by cases e)).trans c1;simp [results,Tryz.f35,Tryz.results35,go_sem,c1',c2]
   exact .inr ⟨by simp,hE⟩
 | some R =>
   obtain ⟨rfl,rfl,hR⟩:=p5 R rfl;clear p5 p6
   by_cases hp:p<L.length
   · have hne0:R≠[]:=fun e=>by have:=congrArg List.length hR;rw [e,List.length_drop] at this;simp at this;omega
     clear hR
     go_enter Tryz.func35,Tryz.ntmps35
     go_wp2_with fail
     obtain ⟨w1,hW,hz,hb,q,f⟩:=box1g w w.heap.size rfl #[.int .i64 0,.int .i64 0] 67;rw [hW];have q1:=(hb.cell (p:=⟨b,1,none⟩) lb).trans q1
     with_reducible refine (rnone_any b _ q1).mono ?_
     rintro e w' ⟨rfl,rfl⟩;have r1:=(hb.cell (p:=⟨b,0,none⟩) lb).trans r1;have p1:=(hb.cell (p:=⟨b,2,none⟩) lb).trans p1;have p2:=(hb.cell (p:=⟨b,3,none⟩) lb).trans p2;have p3:=(hb.cell (p:=⟨b,4,none⟩) lb).trans p3;have y0:=q 0;have y1:=q 1;have z0:=f 0;have z1:=f 1;have hne:¬ w.heap.size=b:=by omega
     have hbd:Below w.heap.size w w1:=hb;have HW:=hiD hW;clear hW hz hb q f
     go_wp2_with fail
     go_quiet (fail)
     have hD:Below w1.heap.size w1 (w1.drewN nq):=Below.draws (bRf _ _) nq;have hl1:w.heap.size<w1.heap.size:=World.block_lt_of_cell? w1 ⟨w.heap.size,0,none⟩ y0;have lb1:b<w1.heap.size:=by omega
     have r1:=bq hD lb1 r1;have p1:=bq hD lb1 p1;have p2:=bq hD lb1 p2;have p3:=bq hD lb1 p3;have y0:=bq hD hl1 y0;have y1:=bq hD hl1 y1;have z0:=(hD.frozen (p:=⟨w.heap.size,0,none⟩) hl1).trans z0;have z1:=(hD.frozen (p:=⟨w.heap.size,1,none⟩) hl1).trans z1;have hB:Below w.heap.size w (w1.drewN nq):=hbd.trans (hD.mono (by omega));clear hD hbd q1;generalize w1.drewN nq=V at *
     go_wp2
     refine bodyPost_ret (v:=.agg #[.int .i64 4,.int .i64 (p:Int)]) ?_ rfl ⟨_,_,rfl,hB.trans (below_setCells _ _ (nRf _) [.int .i64 4,.int .i64 (p:Int)] 0 _),?_⟩
     · have c1:=World.cell?_setCell_same V ⟨w.heap.size,0,none⟩ (.int .i64 4) y0;have y1':=(World.cell?_setCell_other V ⟨w.heap.size,0,none⟩ ⟨w.heap.size,1,none⟩ (.int .i64 4) (fun e=>by cases e)).trans y1;have c2:=World.cell?_setCell_same (V.setCell ⟨w.heap.size,0,none⟩ (.int .i64 4)) ⟨w.heap.size,1,none⟩ (.int .i64 (p:Int)) y1';have c1':=(World.cell?_setCell_other (V.setCell ⟨w.heap.size,0,none⟩ (.int .i64 4)) ⟨w.heap.size,1,none⟩ ⟨w.heap.size,0,none⟩ (.int .i64 (p:Int)) (fun e=>by cases e)).trans c1;simp [results,Tryz.f35,Tryz.results35,go_sem,c1',c2]
     exact .inr ⟨fun e=>hne0 (by cases e;rfl),by decide⟩
   have he0:R=[]:=by rw [hR];exact List.drop_eq_nil_of_le (by omega)
   clear hR
   go_enter Tryz.func35,Tryz.ntmps35
   go_wp2_with fail
   obtain ⟨w1,hW,hz,hb,q,f⟩:=box1g w w.heap.size rfl #[.int .i64 0,.int .i64 0] 67;rw [hW];have q1:=(hb.cell (p:=⟨b,1,none⟩) lb).trans q1
   with_reducible refine (rnone_any b _ q1).mono ?_
   rintro e w' ⟨rfl,rfl⟩;have r1:=(hb.cell (p:=⟨b,0,none⟩) lb).trans r1;have p1:=(hb.cell (p:=⟨b,2,none⟩) lb).trans p1;have p2:=(hb.cell (p:=⟨b,3,none⟩) lb).trans p2;have p3:=(hb.cell (p:=⟨b,4,none⟩) lb).trans p3;have y0:=q 0;have y1:=q 1;have z0:=f 0;have z1:=f 1;have hne:¬ w.heap.size=b:=by omega
   have hbd:Below w.heap.size w w1:=hb;have HW:=hiD hW;clear hW hz hb q f
   go_wp2_with fail
   go_quiet (fail)
   have hD:Below w1.heap.size w1 (w1.drewN nq):=Below.draws (bRf _ _) nq;have hl1:w.heap.size<w1.heap.size:=World.block_lt_of_cell? w1 ⟨w.heap.size,0,none⟩ y0;have lb1:b<w1.heap.size:=by omega
   have r1:=bq hD lb1 r1;have p1:=bq hD lb1 p1;have p2:=bq hD lb1 p2;have p3:=bq hD lb1 p3;have y0:=bq hD hl1 y0;have y1:=bq hD hl1 y1;have z0:=(hD.frozen (p:=⟨w.heap.size,0,none⟩) hl1).trans z0;have z1:=(hD.frozen (p:=⟨w.heap.size,1,none⟩) hl1).trans z1;have hB:Below w.heap.size w (w1.drewN nq):=hbd.trans (hD.mono (by omega));clear hD hbd q1;generalize w1.drewN nq=V at *
   go_wp2
   refine bodyPost_ret (v:=.agg #[.int .i64 0,.int .i64 0]) ?_ rfl ⟨_,_,rfl,hB.trans (below_setCells _ _ (nRf _) [.int .i64 0,.int .i64 0] 0 _),?_⟩
   · have c1:=World.cell?_setCell_same V ⟨w.heap.size,0,none⟩ (.int .i64 0) y0;have y1':=(World.cell?_setCell_other V ⟨w.heap.size,0,none⟩ ⟨w.heap.size,1,none⟩ (.int .i64 0) (fun e=>by cases e)).trans y1;have c2:=World.cell?_setCell_same (V.setCell ⟨w.heap.size,0,none⟩ (.int .i64 0)) ⟨w.heap.size,1,none⟩ (.int .i64 0) y1';have c1':=(World.cell?_setCell_other (V.setCell ⟨w.heap.size,0,none⟩ (.int .i64 0)) ⟨w.heap.size,1,none⟩ ⟨w.heap.size,0,none⟩ (.int .i64 0) (fun e=>by cases e)).trans c1;simp [results,Tryz.f35,Tryz.results35,go_sem,c1',c2]
   exact .inl ⟨by rw [he0],rfl,rfl⟩
end Go.Proofs.YtkhcblihbalnbaaGreatDoor
