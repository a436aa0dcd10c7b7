import Derived.Deep.RegionWith
import Derived.Test.YtkhcblihbalnbaaGreatDoorLimbs3Pb
import Derived.Test.YtkhcblihbalnbaaGreatDoorLimbs4Pb
set_option linter.unusedVariables false
set_option linter.unusedSimpArgs false
set_option maxHeartbeats 1000000
set_option maxRecDepth 100000
namespace Go.Proofs.YtkhcblihbalnbaaGreatDoor
section
open Go.RowKit
theorem sub_no (a:Option Addr) (n c:Nat) (l:List Nat) (a2:Option Addr) (n2 c2:Nat) (l2:List Nat) (w:World) (h:NatAt w a n c l) (h2:NatAt w a2 n2 c2 l2) (hv:val l<val l2) :
 Calls Tryz.prog 218 #[.slice a n c,.slice a2 n2 c2] w (RetVal w (.tuple #[.slice none 0 0,.int .i64 3])):=by
 have ht:=cmpI_neg.2 hv
 go_enter Tryz.func218,Tryz.ntmps218
 go_wp2_with fail
 refine (cmp_any _ _ _ l _ _ _ l2 _ h h2).mono ?_;rintro e w1 ⟨rfl,hb⟩
 go_wp2
 go_ret2
 exact ⟨rfl,hb⟩
theorem sub_yes (a:Option Addr) (n c:Nat) (l:List Nat) (a2:Option Addr) (n2 c2:Nat) (l2:List Nat) (w:World) (h:NatAt w a n c l) (h2:NatAt w a2 n2 c2 l2) (hs:n≤549755813888) (hv:val l2≤val l) :
 Calls Tryz.prog 218 #[.slice a n c,.slice a2 n2 c2] w (RetNatOk w (val l-val l2) 0):=by
 have ht:0≤cmpI (val l) (val l2):=by
  rcases Int.lt_or_le (cmpI (val l) (val l2)) 0 with h' | h'
  · have:=cmpI_neg.1 h';omega
  exact h'
 have HV:=hiD hv;clear hv
 go_enter Tryz.func218,Tryz.ntmps218
 go_wp2_with fail
 refine (cmp_any _ _ _ l _ _ _ l2 _ h h2).mono ?_;rintro e w0 ⟨rfl,hb0⟩
 go_wp2_with fail
 refine (room_any _ _ (by omega) (by omega)).mono ?_;rintro e w1 ⟨a1,c1,rfl,h3,hb1⟩;rw [Int.toNat_natCast] at h3 ⊢;have hb:=bLt hb0 hb1;have hcle:=h3.cle;have hle:=h3.le;have h3:=h3.mono hb0.size
 by_cases hn0:n=0
 · subst hn0;have hl0:l=[]:=List.eq_nil_of_length_eq_zero h.len;have hz:val l-val l2=0:=by rw [hl0];simp [val]
   have HZ:=hiD hz;clear hz hl0
   go_wp2_with fail
   refine wp_loop_rounds 1 ?_;rw [rounds_succ]
   go_wp2_with fail
   refine (trimmed_any _ _ _ _ _ h3.toNatAt).mono ?_;rintro e w' ⟨rfl,rfl⟩;rw [show (digs (val (List.replicate 0 0))).length=0 from rfl]
   go_wp2_with fail
   refine (clip_any _ _ _ _ (by omega) hcle).mono ?_;rintro e w' ⟨rfl,rfl⟩
   go_wp2
   go_ret2
   refine ⟨_,_,_,rfl,?_,hb⟩;rw [HZ.out];exact h3.recap (nRf _) (by omega)
 rcases h3.own with h3' | ⟨b,o,rfl,hB,hf⟩
 · omega
 clear hf
 go_wp2_with fail
 go_loopw [7,8] (fun i cy wr=>∃ (k x:Nat) (os:List Nat),k≤n∧x≤1∧i = .int .i64 k∧cy = .int .u64 x∧OwnAt wr w.heap.size (some ⟨b,o,none⟩) n c1 os∧lo os k+lo l2 k=lo l k+18446744073709551616 ^ k*x∧Below w.heap.size w wr) (fun i _ _=>n-(intOf i).toNat)
 case atStart=>exact ⟨0,0,_,Nat.zero_le _,Nat.zero_le _,rfl,rfl,h3,by simp [lo_zero],hb⟩
 case round =>
  obtain ⟨k,x,os,hk,hx,rfl,rfl,h4,h5,h6⟩:=hrel
  by_cases hlt:k<n
  · have e1:=h.later h6 (nRf _);have e2:=(h2.later h6 (nRf _)).drew;have H5:=hiD h5;clear h5;have d1:=h.dig.at_ k;have d2:=h2.dig.at_ k
    have hcell:∃ v,wr.cell? ⟨b,o+k,none⟩=some v:=by
     rcases h4.cell with h' | ⟨b',o',he,hc⟩
     · omega
     cases he;exact ⟨_,hc k hlt⟩
    obtain ⟨v,hcell⟩:=hcell
    have hfro:wr.frozen? ⟨b,o+k,none⟩=false:=by
     rcases h4.own with h' | ⟨b',o',he,_,hf⟩
     · omega
     cases he;exact hf k hlt
    obtain ⟨d,cy,hd,hcy,hsum,hsub⟩:=sub64_call (D l k) (D l2 k) x d1 d2 hx;have HS:=hiD hsum;clear hsum;rcases e1.parts with h' | ⟨ba,oa,rfl,_,hca⟩
    · omega
    have hca':=hca k hlt;clear hca
    go_wp2_with fail
    have hfo:Tryz.prog.follows .mixedOrders=true:=by kernel_rfl
    go_region_with (first | (go_at_call 172;refine (digit_any _ _ _ l2 _ _ e2 (by omega)).mono ?_;rintro e w' ⟨rfl,rfl⟩;rw [Int.toNat_natCast]))
    all_goals
     have h7:=h4.drew.set hlt hd;have h8:=h6.drew.setCell (p:=⟨b,o+k,none⟩) hB (.int .u64 (d:Int));have h9:=sub_step H5.out (by rw [h4.len];exact hlt) HS.out
     go_wp2
     go_roundw
     case rel=>exact ⟨k+1,cy,_,by omega,hcy,by go_num,rfl,h7,h9,h8⟩
     case measure=>simp [intOf];omega
  obtain rfl:k=n:=by omega
  have h7:=sub_end h.dig h4.dig h4.len (by rw [h.len];exact nRf _) HV.out h5;have h8:=h4.digs;rw [h7] at h8;have h9:=h8.le;clear h5
  go_wp2_with fail
  refine (trimmed_any _ _ _ _ _ h4.toNatAt).mono ?_;rintro e w' ⟨rfl,rfl⟩;rw [h7]
  go_wp2_with fail
  refine (clip_any _ _ _ _ h9 hcle).mono ?_;rintro e w' ⟨rfl,rfl⟩
  go_wp2
  go_ret2
  exact ⟨_,_,_,rfl,h8.recap (nRf _) h9,h6⟩
end
section
open Go.RowKit
def sg (b:Bool) (v:Nat):Int:=if b then -(v:Int) else v
def neg (z:Int):Bool:=decide (z<0)
def RetInt (w:World) (z:Int) (e:Ending) (w':World):Prop :=
 ∃ a n c,e = .returned (.agg #[.bool (neg z),.slice a n c])∧OwnAt w' w.heap.size a n c (digs z.natAbs)∧Below w.heap.size w w'
theorem bcell {W w1:World} (hb:Below W.heap.size W w1):(∀ b o,b<W.heap.size→w1.cell? ⟨b,o,none⟩=W.cell? ⟨b,o,none⟩)∧(∀ b o,b<W.heap.size→w1.frozen? ⟨b,o,none⟩=W.frozen? ⟨b,o,none⟩) :=
 ⟨fun b o h=>hb.cell (p:=⟨b,o,none⟩) h,fun b o h=>hb.frozen (p:=⟨b,o,none⟩) h⟩
theorem sg_false (v:Nat):sg false v=v:=rfl
theorem sg_true (v:Nat):sg true v = -(v:Int):=rfl
theorem natAbs_sg (b:Bool) (v:Nat):(sg b v).natAbs=v:=by cases b<;>simp [sg]
theorem neg_sg (b:Bool) (v:Nat):neg (sg b v)=(b && decide (0<v)):=by cases b<;>simp [sg,neg]<;>omega
theorem sg_canon (z:Int):sg (neg z) (val (digs z.natAbs))=z:=by
 rw [val_digs];unfold sg neg;split<;>simp_all<;>omega
theorem OwnAt.setOff {w:World} {B:Nat} {a:Option Addr} {n c:Nat} {l:List Nat} (h:OwnAt w B a n c l) {b o:Nat} (hb:b<B) (v:Value):OwnAt (w.setCell ⟨b,o,none⟩ v) B a n c l:=by
 refine ⟨⟨h.len,h.le,h.cle,h.dig,?_,h.nilc⟩,?_⟩
 · rcases h.cell with h0 | ⟨b',o',he,hc⟩
   · exact .inl h0
   rcases h.own with h0 | ⟨b2,o2,he2,hB,hf⟩
   · exact .inl h0
   rw [he] at he2;cases he2;refine .inr ⟨b',o',he,fun i hi => ?_⟩;rw [World.cell?_setCell_other _ (a:=⟨b,o,none⟩) (b:=⟨b',o'+i,none⟩) _ (fun e=>by have:=congrArg Addr.block e;simp at this;omega)];exact hc i hi
 rcases h.own with h0 | ⟨b2,o2,he2,hB,hf⟩
 · exact .inl h0
 exact .inr ⟨b2,o2,he2,hB,fun i hi=>by rw [World.frozen?_setCell];exact hf i hi⟩
theorem boxes3 (w:World) (A B C:Array Value) (E F G:Nat):∃ W,((w.alloc (.cells A E)).alloc (.cells B F)).alloc (.cells C G)=W∧W.heap.size=w.heap.size+3∧Below w.heap.size w W ∧
 (∀ i,W.cell? ⟨w.heap.size,i,none⟩=A[i]?)∧(∀ i,W.cell? ⟨w.heap.size+1,i,none⟩=B[i]?)∧(∀ i,W.cell? ⟨w.heap.size+1+1,i,none⟩=C[i]?)∧(∀ i,W.frozen? ⟨w.heap.size+1+1,i,none⟩=false):=by
 refine ⟨_,rfl,by simp,(((bRf _ _).alloc (nRf _) _).alloc (by simp) _).alloc (by simp;omega) _,fun i => ?_,fun i => ?_,fun i => ?_,fun i => ?_⟩
 · rw [World.cell?_alloc_past _ _ _ (by simp;omega),World.cell?_alloc_past _ _ _ (by simp),World.cell?_alloc_at _ _ _ _ rfl]
 · rw [World.cell?_alloc_past _ _ _ (by simp),World.cell?_alloc_at _ _ _ _ (by simp)]
 · rw [World.cell?_alloc_at _ _ _ _ (by simp)]
 rw [World.frozen?_alloc_at _ _ _ _ (by simp)]
theorem boxes2 (w:World) (A B:Array Value) (E F:Nat):∃ W,(w.alloc (.cells A E)).alloc (.cells B F)=W∧W.heap.size=w.heap.size+2∧Below w.heap.size w W ∧
 (∀ i,W.cell? ⟨w.heap.size,i,none⟩=A[i]?)∧(∀ i,W.cell? ⟨w.heap.size+1,i,none⟩=B[i]?)∧(∀ i,W.frozen? ⟨w.heap.size+1,i,none⟩=false):=by
 refine ⟨_,rfl,by simp,((bRf _ _).alloc (nRf _) _).alloc (by simp) _,fun i => ?_,fun i => ?_,fun i => ?_⟩
 · rw [World.cell?_alloc_past _ _ _ (by simp),World.cell?_alloc_at _ _ _ _ rfl]
 · rw [World.cell?_alloc_at _ _ _ _ (by simp)]
 rw [World.frozen?_alloc_at _ _ _ _ (by simp)]
theorem RetInt.stored {w W w':World} {B:Nat} {a:Option Addr} {n c:Nat} {l:List Nat} {x:Value} (hW:Below w.heap.size w W) (hb:Below W.heap.size W w') (h:OwnAt w' W.heap.size a n c l) (hB:w.heap.size≤B) (hB2:B<W.heap.size) :
 OwnAt ((w'.setCell ⟨B,0,none⟩ x).setCell ⟨B,1,none⟩ (.slice a n c)) w.heap.size a n c l∧Below w.heap.size w ((w'.setCell ⟨B,0,none⟩ x).setCell ⟨B,1,none⟩ (.slice a n c)) :=
 ⟨((h.setOff hB2 _).setOff hB2 _).mono hW.size,((bLt hW hb).setCell (p:=⟨B,0,none⟩) hB _).setCell (p:=⟨B,1,none⟩) hB _⟩
theorem boxPast {W w1:World} {B:Nat} {A:Array Value} (hb:Below W.heap.size W w1) (hlt:B<W.heap.size) (q:∀ i,W.cell? ⟨B,i,none⟩=A[i]?) (f:∀ i,W.frozen? ⟨B,i,none⟩=false) :
 (∀ i,w1.cell? ⟨B,i,none⟩=A[i]?)∧(∀ i,w1.frozen? ⟨B,i,none⟩=false) :=
 ⟨fun i=>(hb.cell (p:=⟨B,i,none⟩) hlt).trans (q i),fun i=>(hb.frozen (p:=⟨B,i,none⟩) hlt).trans (f i)⟩
theorem cellsPast {W w1:World} {B:Nat} {A:Array Value} (hb:Below W.heap.size W w1) (hlt:B<W.heap.size) (q:∀ i,W.cell? ⟨B,i,none⟩=A[i]?):∀ i,w1.cell? ⟨B,i,none⟩=A[i]? :=
 fun i=>(hb.cell (p:=⟨B,i,none⟩) hlt).trans (q i)
theorem retIntOf {w w':World} {z:Int} {a:Option Addr} {n c v:Nat} (h:OwnAt w' w.heap.size a n c (digs v)∧Below w.heap.size w w') (e:v=z.natAbs) (e2:Ending) (he:e2 = .returned (.agg #[.bool (neg z),.slice a n c])):RetInt w z e2 w' :=
 ⟨a,n,c,he,e ▸ h.1,h.2⟩
structure Room (w:World) (R k:Nat):Prop where
 c:∀ i,i<k→∃ v,w.cell? ⟨R,i,none⟩=some v
 f:∀ i,i<k→w.frozen? ⟨R,i,none⟩=false
theorem Room.of {w:World} {R:Nat} {A:Array Value} (q:∀ i,w.cell? ⟨R,i,none⟩=A[i]?) (f:∀ i,w.frozen? ⟨R,i,none⟩=false):Room w R A.size :=
 ⟨fun i hi=>⟨A[i],by rw [q,Array.getElem?_eq_getElem hi]⟩,fun i _=>f i⟩
theorem Room.past {w w':World} {R k:Nat} (h:Room w R k) (hb:Below w.heap.size w w') (hR:R<w.heap.size):Room w' R k :=
 ⟨fun i hi=>by obtain ⟨v,hv⟩:=h.c i hi;exact ⟨v,(hb.cell (p:=⟨R,i,none⟩) hR).trans hv⟩,fun i hi=>(hb.frozen (p:=⟨R,i,none⟩) hR).trans (h.f i hi)⟩
theorem Room.drew {w:World} {R k:Nat} (h:Room w R k):Room w.drew R k:=⟨h.c,h.f⟩
theorem Room.set {w:World} {R k:Nat} (h:Room w R k) (p:Addr) (v:Value):Room (w.setCell p v) R k :=
 ⟨fun i hi => by
   obtain ⟨u,hu⟩:=h.c i hi
   by_cases e:p=⟨R,i,none⟩
   · subst e;exact ⟨v,World.cell?_setCell_same _ _ _ hu⟩
   exact ⟨u,by rw [World.cell?_setCell_other _ _ _ _ e];exact hu⟩,fun i hi=>by rw [World.frozen?_setCell];exact h.f i hi⟩
theorem Room.two {w:World} {R:Nat} (h:Room w R 2):∃ v0 v1,w.cell? ⟨R,0,none⟩=some v0∧w.cell? ⟨R,1,none⟩=some v1∧w.frozen? ⟨R,0,none⟩=false∧w.frozen? ⟨R,1,none⟩=false:=by
 obtain ⟨v0,h0⟩:=h.c 0 (by decide);obtain ⟨v1,h1⟩:=h.c 1 (by decide);exact ⟨v0,v1,h0,h1,h.f 0 (by decide),h.f 1 (by decide)⟩
theorem make_any (b:Bool) (a:Option Addr) (n c:Nat) (l:List Nat) (w:World) (h:NatAt w a n c l) (hs:n≤1099511627776) :
 Calls Tryz.prog 77 #[.bool b,.slice a n c] w (RetInt w (sg b (val l))):=by
 cases b
 all_goals
  go_enter Tryz.func77,Tryz.ntmps77
  go_wp2_with fail
  with_reducible refine (trim_any _ _ _ l _ (h.alloc _) hs).mono ?_
  rintro e w1 ⟨a1,n1,c1,rfl,h1,hb⟩;obtain ⟨hc,hf⟩:=bcell hb;have hz:w.heap.size<w1.heap.size:=by have:=hb.size;simp at this;omega
  go_wp2
  refine bodyPost_ret (v:=.agg #[.bool (neg (sg _ (val l))),.slice a1 n1 c1]) ?_ rfl ⟨_,_,_,rfl,?_,?_⟩
  · simp [results,Tryz.f77,go_sem,hc,hz];have hl:=h1.len;have h0:=digs_len0 (n:=val l);rw [neg_sg]
    first
     | rfl
     | (simp only [Bool.true_and,decide_eq_decide];omega)
  · rw [natAbs_sg];exact (((h1.setOff (by simp) _).setOff (by simp) _).alloc _).mono (by simp)
  have hB:=bLt ((bRf w.heap.size w).alloc (nRf _) _) hb;exact (((hB.setCell (p:=⟨w.heap.size,0,none⟩) (nRf _) _).setCell (p:=⟨w.heap.size,1,none⟩) (nRf _) _).alloc (by simp;omega) _)
theorem sneg_any (b:Bool) (a:Option Addr) (n c:Nat) (l:List Nat) (w:World) (h:NatAt w a n c l) (hs:n≤1099511627776) :
 Calls Tryz.prog 99 #[.agg #[.bool b,.slice a n c]] w (RetInt w (-sg b (val l))):=by
 have e:-sg b (val l)=sg (!b) (val l):=by cases b<;>simp [sg]
 rw [e]
 go_enter Tryz.func99,Tryz.ntmps99
 go_wp2_with fail
 obtain ⟨W,hW,hz,hBW,q1,q2,q3⟩:=boxes2 w #[.bool b,.slice a n c] #[.bool false,.slice none 0 0] 26 26;rw [hW];have hlt:w.heap.size+1<W.heap.size:=by omega
 with_reducible refine (make_any _ _ _ _ l _ (h.past hBW) hs).mono ?_
 rintro e w1 ⟨a1,n1,c1,rfl,h1,hb⟩;obtain ⟨q2,q3⟩:=boxPast hb hlt q2 q3;have hs:=RetInt.stored (x:=.bool (neg (sg (!b) (val l)))) hBW hb h1 (Nat.le_succ _) hlt;clear hW hz hBW q1 hlt h hb h1 e
 go_wp2
 refine bodyPost_ret (v:=.agg #[.bool (neg (sg (!b) (val l))),.slice a1 n1 c1]) ?_ rfl (retIntOf hs rfl _ rfl);simp [results,Tryz.f99,go_sem,q2]
theorem held_any (b:Bool) (a:Option Addr) (n c:Nat) (l:List Nat) (w:World) (h:NatAt w a n c l) (hs:n≤1099511627776) :
 Calls Tryz.prog 100 #[.agg #[.bool b,.slice a n c]] w (RetInt w (sg b (val l))):=by
 go_enter Tryz.func100,Tryz.ntmps100
 go_wp2_with fail
 obtain ⟨W,hW,hz,hBW,q1,q2,q3⟩:=boxes2 w #[.bool b,.slice a n c] #[.bool false,.slice none 0 0] 26 26;rw [hW];have hlt:w.heap.size+1<W.heap.size:=by omega
 with_reducible refine (make_any _ _ _ _ l _ (h.past hBW) hs).mono ?_
 rintro e w1 ⟨a1,n1,c1,rfl,h1,hb⟩;obtain ⟨q2,q3⟩:=boxPast hb hlt q2 q3;have hs:=RetInt.stored (x:=.bool (neg (sg b (val l)))) hBW hb h1 (Nat.le_succ _) hlt;clear hW hz hBW q1 hlt h hb h1
 go_wp2
 refine bodyPost_ret (v:=.agg #[.bool (neg (sg b (val l))),.slice a1 n1 c1]) ?_ rfl (retIntOf hs rfl _ rfl);simp [results,Tryz.f100,go_sem,q2]
def chkZ (b:Bool) (l:List Nat):Int:=if b=true∧l=[] then 6 else chk l
theorem scheck_any (b:Bool) (a:Option Addr) (n c:Nat) (l:List Nat) (w:World) (h:NatAt w a n c l) :
 Calls Tryz.prog 141 #[.agg #[.bool b,.slice a n c]] w (RetVal w (.int .i64 (chkZ b l))):=by
 have hlen:=h.len
 by_cases h0:b=true∧n=0
 · obtain ⟨rfl,rfl⟩:=h0;have hl:l=[]:=List.eq_nil_of_length_eq_zero hlen;subst hl
   go_enter Tryz.func141,Tryz.ntmps141
   go_wp2_with fail
   go_ret
   exact ⟨rfl,(bRf _ _).alloc (nRf _) _⟩
 have hk:chkZ b l=chk l:=by
  unfold chkZ;rw [if_neg];rintro ⟨rfl,rfl⟩;exact h0 ⟨rfl,hlen.symm⟩
 rw [hk];clear hk hlen;cases b
 · clear h0
   go_enter Tryz.func141,Tryz.ntmps141
   go_wp2_with fail
   with_reducible refine (check_any _ _ _ l _ (h.alloc _)).mono ?_
   rintro e w' ⟨rfl,rfl⟩
   go_wp2
   go_ret
   exact ⟨rfl,(bRf _ _).alloc (nRf _) _⟩
 have hn:¬ n=0:=fun e=>h0 ⟨rfl,e⟩
 clear h0
 go_enter Tryz.func141,Tryz.ntmps141
 go_wp2_with fail
 with_reducible refine (check_any _ _ _ l _ (h.alloc _)).mono ?_
 rintro e w' ⟨rfl,rfl⟩
 go_wp2
 go_ret
 exact ⟨rfl,(bRf _ _).alloc (nRf _) _⟩
theorem neg_digs0 {z:Int} {n:Nat} (h:(digs z.natAbs).length=n):(z=0 ↔ n=0):=by
 rw [← h,digs_len0];omega
theorem sign_any (b:Bool) (a:Option Addr) (n c:Nat) (l:List Nat) (w:World) (h:NatAt w a n c l) (hs:n≤1099511627776) :
 Calls Tryz.prog 57 #[.agg #[.bool b,.slice a n c]] w (RetVal w (.int .i64 (sg b (val l)).sign)):=by
 have hcall:=held_any b a n c l (w.alloc (.cells #[.bool b,.slice a n c] 26)) (h.alloc _) hs;generalize sg b (val l)=z at *;have HC:=hiD hcall;clear hcall;rcases Int.lt_trichotomy z 0 with h0 | h0 | h0
 · have hn:neg z=true:=decide_eq_true h0;have hr:z.sign = -1:=Int.sign_eq_neg_one_of_neg h0;have HN:=hiD hn;rw [hr];clear h0 hr hn
   go_enter Tryz.func57,Tryz.ntmps57
   go_wp2_with fail
   refine HC.out.mono ?_;rintro e w1 ⟨a1,n1,c1,rfl,h1,hb⟩;rw [HN.out];obtain ⟨hc,hf⟩:=bcell hb
   go_wp2
   go_ret
   exact ⟨rfl,(((bLt ((bRf _ _).alloc (nRf _) _) hb).setCell (p:=⟨w.heap.size,0,none⟩) (nRf _) _).setCell (p:=⟨w.heap.size,1,none⟩) (nRf _) _)⟩
 · have hn:neg z=false:=decide_eq_false (by omega);have hr:z.sign=0:=by rw [h0];rfl
   have HN:=hiD hn;have H0:=hiD h0;rw [hr];clear h0 hr hn
   go_enter Tryz.func57,Tryz.ntmps57
   go_wp2_with fail
   refine HC.out.mono ?_;rintro e w1 ⟨a1,n1,c1,rfl,h1,hb⟩;rw [HN.out];obtain rfl:n1=0:=(neg_digs0 h1.len).1 H0.out;obtain ⟨hc,hf⟩:=bcell hb
   go_wp2
   go_ret
   exact ⟨rfl,(((bLt ((bRf _ _).alloc (nRf _) _) hb).setCell (p:=⟨w.heap.size,0,none⟩) (nRf _) _).setCell (p:=⟨w.heap.size,1,none⟩) (nRf _) _)⟩
 have hn:neg z=false:=decide_eq_false (by omega);have hr:z.sign=1:=Int.sign_eq_one_of_pos h0;have HN:=hiD hn;have h3:z≠0:=by omega
 have H0:=hiD h3;rw [hr];clear h0 hr hn h3
 go_enter Tryz.func57,Tryz.ntmps57
 go_wp2_with fail
 refine HC.out.mono ?_;rintro e w1 ⟨a1,n1,c1,rfl,h1,hb⟩;rw [HN.out]
 have hn1:0<n1:=by
  rcases Nat.eq_zero_or_pos n1 with h | h
  · exact absurd ((neg_digs0 h1.len).2 h) H0.out
  exact h
 obtain ⟨hc,hf⟩:=bcell hb
 go_wp2
 go_ret
 exact ⟨rfl,(((bLt ((bRf _ _).alloc (nRf _) _) hb).setCell (p:=⟨w.heap.size,0,none⟩) (nRf _) _).setCell (p:=⟨w.heap.size,1,none⟩) (nRf _) _)⟩
theorem u64_neg {x:Int} (h0:-9223372036854775808≤x) (hx:x<0):IntKind.u64.wrap (-IntKind.u64.wrap x)=((x.natAbs:Nat):Int)∧x.natAbs<18446744073709551616:=by
 rw [IntKind.wrap_u64,IntKind.wrap_u64];omega
theorem sof_any (x:Int) (w:World) (h0:-9223372036854775808≤x) (h1:x≤9223372036854775807) :
 Calls Tryz.prog 95 #[.int .i64 x] w (RetInt w x):=by
 by_cases hx:x<0
 · obtain ⟨v1,v2⟩:=u64_neg h0 hx;have v3:sg true x.natAbs=x:=by rw [sg_true];omega
   have V1:=hiD v1;have V3:=hiD v3;clear v1 v3
   go_enter Tryz.func95,Tryz.ntmps95
   go_wp2_with fail
   rw [V1.out];have q2:∀ i,(w.alloc (.cells #[.bool false,.slice none 0 0] 26)).cell? ⟨w.heap.size,i,none⟩=#[.bool false,.slice none 0 0][i]?:=fun i=>World.cell?_alloc_at _ _ _ _ rfl
   have q3:∀ i,(w.alloc (.cells #[.bool false,.slice none 0 0] 26)).frozen? ⟨w.heap.size,i,none⟩=false:=fun i=>World.frozen?_alloc_at _ _ _ _ rfl
   have hBW:Below w.heap.size w (w.alloc (.cells #[.bool false,.slice none 0 0] 26)):=(bRf _ _).alloc (nRf _) _;have hz:(w.alloc (.cells #[.bool false,.slice none 0 0] 26)).heap.size=w.heap.size+1:=by simp
   generalize w.alloc (.cells #[.bool false,.slice none 0 0] 26)=W at *
   with_reducible refine (of_any _ _ v2).mono ?_
   rintro e w1 ⟨a1,n1,c1,rfl,h2,hb⟩;have hlt:w.heap.size<W.heap.size:=by omega
   have hlt2:w.heap.size<w1.heap.size:=by have:=hb.size;omega
   obtain ⟨q2,q3⟩:=boxPast hb hlt q2 q3;have hb2:=bLt hBW hb
   have hn1:n1≤1099511627776:=by
    have h3:=h2.len;have h4:=digs_length_le (n:=x.natAbs) (k:=1);rw [Nat.pow_one] at h4;have:=h4.2 v2;omega
   clear hBW hz hlt
   go_wp2_with fail
   with_reducible refine (make_any _ _ _ _ _ _ h2.toNatAt hn1).mono ?_
   rintro e w2 ⟨a2,n2,c2,rfl,h3,hb3⟩;rw [val_digs] at h3 ⊢;rw [V3.out] at h3 ⊢;obtain ⟨q2,q3⟩:=boxPast hb3 hlt2 q2 q3;have hs:=RetInt.stored (x:=.bool (neg x)) hb2 hb3 h3 (nRf _) hlt2;clear hb2 hb3 hb hn1 h2 h3 hlt2
   go_wp2
   refine bodyPost_ret (v:=.agg #[.bool (neg x),.slice a2 n2 c2]) ?_ rfl (retIntOf hs rfl _ rfl);simp [results,Tryz.f95,go_sem,q2]
 obtain ⟨y,rfl⟩:=Int.eq_ofNat_of_zero_le (show 0≤x by omega);have v2:y<18446744073709551616:=by omega
 have e1:(y:Int).natAbs=y:=Int.natAbs_natCast y;have E1:=hiD e1;clear e1
 go_enter Tryz.func95,Tryz.ntmps95
 go_wp2_with fail
 have q2:∀ i,(w.alloc (.cells #[.bool false,.slice none 0 0] 26)).cell? ⟨w.heap.size,i,none⟩=#[.bool false,.slice none 0 0][i]?:=fun i=>World.cell?_alloc_at _ _ _ _ rfl
 have q3:∀ i,(w.alloc (.cells #[.bool false,.slice none 0 0] 26)).frozen? ⟨w.heap.size,i,none⟩=false:=fun i=>World.frozen?_alloc_at _ _ _ _ rfl
 have hBW:Below w.heap.size w (w.alloc (.cells #[.bool false,.slice none 0 0] 26)):=(bRf _ _).alloc (nRf _) _;have hz:(w.alloc (.cells #[.bool false,.slice none 0 0] 26)).heap.size=w.heap.size+1:=by simp
 generalize w.alloc (.cells #[.bool false,.slice none 0 0] 26)=W at *
 with_reducible refine (of_any _ _ v2).mono ?_
 rintro e w1 ⟨a1,n1,c1,rfl,h2,hb⟩;have hlt:w.heap.size<W.heap.size:=by omega
 have hlt2:w.heap.size<w1.heap.size:=by have:=hb.size;omega
 obtain ⟨q2,q3⟩:=boxPast hb hlt q2 q3;have hb2:=bLt hBW hb
 have hn1:n1≤1099511627776:=by
  have h3:=h2.len;have h4:=digs_length_le (n:=y) (k:=1);rw [Nat.pow_one] at h4;have:=h4.2 v2;omega
 clear hBW hz hlt
 go_wp2_with fail
 with_reducible refine (make_any _ _ _ _ _ _ h2.toNatAt hn1).mono ?_
 rintro e w2 ⟨a2,n2,c2,rfl,h3,hb3⟩;rw [val_digs] at h3 ⊢;rw [sg_false] at h3 ⊢;obtain ⟨q2,q3⟩:=boxPast hb3 hlt2 q2 q3;have hs:=RetInt.stored (x:=.bool (neg (y:Int))) hb2 hb3 h3 (nRf _) hlt2;clear hb2 hb3 hb hn1 h2 h3 hlt2
 go_wp2
 refine bodyPost_ret (v:=.agg #[.bool (neg (y:Int)),.slice a2 n2 c2]) ?_ rfl (retIntOf hs rfl _ rfl);simp [results,Tryz.f95,go_sem,q2]
end
end Go.Proofs.YtkhcblihbalnbaaGreatDoor
