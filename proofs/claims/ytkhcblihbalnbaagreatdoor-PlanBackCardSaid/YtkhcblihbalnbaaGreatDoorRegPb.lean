import Derived.Deep.RegionHeld3
import Derived.Test.YtkhcblihbalnbaaGreatDoorLimbs6Pb
set_option linter.unusedVariables false
set_option linter.unusedSimpArgs false
namespace Go.Proofs.YtkhcblihbalnbaaGreatDoor
section
def upd (d:Nat→Bool) (i:Nat):Nat→Bool:=fun j=>j == i || d j
theorem upd_of {d:Nat→Bool} {i j:Nat} (hne:(j == i)=false) (h:upd d i j=true):d j=true:=by simpa [upd,hne] using h
theorem uo {d:Nat→Bool} {i j:Nat} {P:Prop} (f:Shut (d j=true→P)) (hne:(j == i)=false:=by rfl):upd d i j=true→P:=fun h=>f.out (upd_of hne h)

section
variable {P:Program} {ops:Array Oper} {Q:Exit→Act→World→Prop}
def Closed (ops:Array Oper) (d:Nat→Bool):Prop:=∀ (i:Nat) (o:Oper),ops[i]? = some o→d i=true→∀ e ∈ o.after,Region.binds .any e=true→d e.on=true
def reach (ops:Array Oper):Nat→Nat→Nat→Bool
 | 0,_,_=>false
 | f + 1, s, l => match ops[s]? with
   | some o=>o.after.any fun e=>Region.binds .any e && (e.on == l || reach ops f e.on l)
   | none=>false
theorem Closed.reach {ops:Array Oper} {d:Nat→Bool} (hc:Closed ops d):∀ {f s l:Nat},reach ops f s l=true→d s=true→d l=true
 | 0,_,_,h,_=>by simp [Go.Proofs.YtkhcblihbalnbaaGreatDoor.reach] at h
 | f + 1, s, l, h, hs => by
   unfold Go.Proofs.YtkhcblihbalnbaaGreatDoor.reach at h
   split at h
   · rename_i o ho;obtain ⟨e,he,hb⟩:=Array.any_eq_true'.1 h;simp only [Bool.and_eq_true,Bool.or_eq_true,beq_iff_eq] at hb;have hd:=hc s o ho hs e he hb.1;rcases hb.2 with hl | hr
     · rw [← hl];exact hd
     exact hc.reach hr hd
   cases h
theorem rc {ops:Array Oper} {d:Nat→Bool} (hc:Closed ops d) {s l:Nat} (h:d s=true) (hr:Go.Proofs.YtkhcblihbalnbaaGreatDoor.reach ops 8 s l=true:=by decide +kernel):d l=true:=hc.reach hr h
theorem Closed.see {ops : Array Oper} {d : Nat → Bool} (hc : Closed ops d) {L : List _} (hn : ∀ e ∈ L, Region.binds .any e = true → d e.on = true) {l : Nat} (hr : (L.any fun e => Region.binds .any e && (e.on == l || Go.Proofs.YtkhcblihbalnbaaGreatDoor.reach ops 20 e.on l)) = true := by kernel_rfl) : d l = true := by
  obtain ⟨e,he,h⟩:=List.any_eq_true.1 hr
  rw [Bool.and_eq_true,Bool.or_eq_true,beq_iff_eq] at h
  have h1:=hn e he h.1
  rcases h.2 with h2 | h2
  · rw [← h2];exact h1
  · exact hc.reach h2 h1
theorem Closed.a {ops:Array Oper} {d:Nat→Bool} (hc:Closed ops d) {i j:Nat} {P:Prop} (hun:d i=false) (hr:Go.Proofs.YtkhcblihbalnbaaGreatDoor.reach ops 20 j i=true:=by kernel_rfl) (hne:(j == i)=false:=by rfl):Go.Proofs.YtkhcblihbalnbaaGreatDoor.upd d i j=true→P:=fun h=>absurd (hc.reach hr (upd_of hne h)) (by rw [hun];decide)
theorem Closed.not {ops:Array Oper} {d:Nat→Bool} (hc:Closed ops d) {f s l:Nat} (h:Go.Proofs.YtkhcblihbalnbaaGreatDoor.reach ops f s l=true) (hl:d l=false):d s=false:=by
 cases hs:d s with
 | false=>rfl
 | true=>rw [hc.reach h hs] at hl;cases hl
theorem Closed.upd {ops:Array Oper} {d:Nat→Bool} (hc:Closed ops d) {i:Nat} {o:Oper} (ho:ops[i]? = some o) (h:∀ e ∈ o.after,Region.binds .any e=true→d e.on=true):Closed ops (upd d i):=by
 intro j o' hj hd e he hb;unfold Go.Proofs.YtkhcblihbalnbaaGreatDoor.upd at hd ⊢
 by_cases ej:j=i
 · subst ej;rw [ho] at hj;cases hj;simp [h e he hb]
 have:d j=true:=by simpa [ej] using hd
 simp [hc j o' hj this e he hb]
theorem upd_off {d:Nat→Bool} {i j:Nat} (h:upd d i j=false):d j=false:=by
 unfold upd at h;simp at h;exact h.2
def Steps (P:Program) (ops:Array Oper) (Q:Exit→Act→World→Prop) (I:(Nat→Bool)→Act→World→Prop):Nat→List Oper→Prop
 | _,[]=>True
 | i, o :: r => (∀ (d : Nat → Bool) (a : Act) (w : World) (K : Act → World → Prop), Closed ops d → d i = false → (∀ e ∈ o.after.toList, Region.binds .any e = true → d e.on = true) → I d a w → Shut (∀ a' w', I (upd d i) a' w' → K a' w') →
    if Region.wanted o (yielded ops a.tmps)=true then Oper.wp P o a w K Q else K (a.put o.dst undef) w)∧Steps P ops Q I (i+1) r
theorem Steps.nil {I:(Nat→Bool)→Act→World→Prop} {i:Nat}:Steps P ops Q I i []:=trivial
theorem Steps.cons {I:(Nat→Bool)→Act→World→Prop} {i:Nat} {o:Oper} {r:List Oper}
 (h : ∀ (d : Nat → Bool) (a : Act) (w : World) (K : Act → World → Prop), Closed ops d → d i = false → (∀ e ∈ o.after.toList, Region.binds .any e = true → d e.on = true) → I d a w → Shut (∀ a' w', I (upd d i) a' w' → K a' w') →
   if Region.wanted o (yielded ops a.tmps)=true then Oper.wp P o a w K Q else K (a.put o.dst undef) w) (hr:Steps P ops Q I (i+1) r):Steps P ops Q I i (o::r):=⟨h,hr⟩
theorem Steps.at_ {I:(Nat→Bool)→Act→World→Prop}:∀ {l:List Oper} {k:Nat},Steps P ops Q I k l→∀ (i:Nat) (o:Oper),l[i]? = some o →
 ∀ (d:Nat→Bool) (a:Act) (w:World) (K:Act→World→Prop),Closed ops d→d (k+i)=false→(∀ e ∈ o.after.toList,Region.binds .any e=true→d e.on=true)→I d a w→Shut (∀ a' w',I (upd d (k+i)) a' w'→K a' w') →
  if Region.wanted o (yielded ops a.tmps)=true then Oper.wp P o a w K Q else K (a.put o.dst undef) w
 | [],_,_,i,o,ho=>by simp at ho
 | x::r,k,h,0,o,ho=>by simp at ho;subst ho;exact h.1
 | x :: r, k, h, i + 1, o, ho => by
   have:=h.2.at_ i o (by simpa using ho);rw [show k+(i+1)=k+1+i by omega];exact this
def lower (ops:Array Oper):Bool:=(List.range ops.size).all fun i=>match ops[i]? with
 | some o=>o.after.all fun e=>decide (e.on<i)
 | none=>true
theorem lower_spec (h:lower ops=true) {i:Nat} {o:Oper} (ho:ops[i]? = some o):∀ e ∈ o.after,e.on<i:=by
 have hlt:i<ops.size:=(Array.getElem?_eq_some_iff.1 ho).1;unfold lower at h;rw [List.all_eq_true] at h;have:=h i (List.mem_range.2 hlt);rw [ho] at this;simp only [Array.all_eq_true_iff_forall_mem,decide_eq_true_eq] at this;exact this
theorem all_listed (hl:lower ops=true) {listed:Array Bool} (hs:listed.size=ops.size) (hr:Region.ready .any ops listed=[]):∀ j,j<ops.size→listed.getD j false=true:=by
 intro j
 induction j using Nat.strongRecOn with
 | ind j ih =>
   intro hj;cases hd:listed.getD j false with
   | true=>rfl
   | false =>
     exfalso
     have hm:j ∈ Region.ready .any ops listed:=by
      rw [mem_ready];have hjs:j<listed.size:=by omega
      refine ⟨?_,ops[j],Array.getElem?_eq_getElem hj,fun e he _ => ?_⟩
      · simp only [Array.getD,hjs,dite_true] at hd ⊢;exact hd
      have:=lower_spec hl (Array.getElem?_eq_getElem hj) e he;exact ih e.on this (by omega)
     rw [hr] at hm;cases hm
def unl (listed:Array Bool):Nat:=listed.toList.count false
theorem count_set_true:∀ (l:List Bool) (i:Nat),l[i]? = some false→(l.set i true).count false+1=l.count false
 | [],_,h=>by simp at h
 | x::r,0,h=>by simp at h;subst h;simp
 | x :: r, i + 1, h => by
   have:=count_set_true r i (by simpa using h);simp only [lsS,List.count_cons];omega
theorem getD_upd {listed:Array Bool} {i:Nat} (hi:i<listed.size):(fun j=>(listed.setIfInBounds i true).getD j false)=upd (fun j=>listed.getD j false) i:=by
 funext j
 by_cases e:j=i
 · subst e;simp [upd,hi]
 have:i≠j:=fun h=>e h.symm
 simp [upd,e,Array.getElem?_setIfInBounds_ne this]
theorem wpAny_inv {I:(Nat→Bool)→Act→World→Prop} (hl:lower ops=true) (hs:Steps P ops Q I 0 ops.toList)
 (he:∀ d a w,(∀ j,j<ops.size→d j=true)→I d a w→Q .normal a w) :
 ∀ (fuel:Nat) (listed:Array Bool) (a:Act) (w:World),listed.size=ops.size→unl listed≤fuel→Closed ops (fun j=>listed.getD j false)→I (fun j=>listed.getD j false) a w→wpAny P .any ops Q fuel listed a w:=by
 intro fuel
 induction fuel with
 | zero =>
   intro listed a w hsz hu hc hI
   have hall:∀ j,j<ops.size→listed.getD j false=true:=by
    intro j hj;have hjs:j<listed.size:=by omega
    cases hd:listed.getD j false with
    | true=>rfl
    | false =>
      exfalso
      have h1:=count_set_true listed.toList j (by simp only [Array.getD,hjs,dite_true] at hd;simp [hjs];exact hd);unfold unl at hu;omega
   have hr:Region.ready .any ops listed=[]:=by
    apply List.eq_nil_iff_forall_not_mem.2;intro j hj;obtain ⟨h0,o,ho,_⟩:=mem_ready.1 hj;have hlt:j<ops.size:=(Array.getElem?_eq_some_iff.1 ho).1;have hjs:j<listed.size:=by omega
    have:=hall j hlt;simp only [Array.getD,hjs,dite_true] at this h0;rw [this] at h0;cases h0
   exact ⟨hr,he _ _ _ hall hI⟩
 | succ fuel ih =>
   intro listed a w hsz hu hc hI;refine ⟨fun hr=>he _ _ _ (all_listed hl hsz hr) hI,fun i hi => ?_⟩;obtain ⟨h0,o,ho,hall⟩:=mem_ready.1 hi;have hlt:i<ops.size:=(Array.getElem?_eq_some_iff.1 ho).1;have hjs:i<listed.size:=by omega
   have hf:listed[i]=false:=by simpa [Array.getD,hjs] using h0
   refine wpOp_step ho (fun K' hK => ?_);refine hs.at_ i o (by rw [Array.getElem?_toList];exact ho) (fun j=>listed.getD j false) a w K' hc (by simpa [Array.getD,hjs] using hf) (fun e he' hb=>hall e (by simpa using he') hb) hI (fun a' w' h'=>hK a' w' ?_);rw [Nat.zero_add] at h';refine ih _ a' w' (by simp [hsz]) ?_ (by rw [getD_upd hjs];exact hc.upd ho hall) (by rw [getD_upd hjs];exact h');have h1:=count_set_true listed.toList i (by simp [hjs,hf]);unfold unl at hu ⊢;rw [Array.toList_setIfInBounds];omega
def puts (a:Act):List (Tmp×Value)→Act
 | []=>a
 | (t,v)::r=>puts (a.put (some t) v) r
theorem pu:(∀ a:Act,puts a []=a)∧(∀ (a:Act) (t:Tmp) (v:Value) (r:List (Tmp×Value)),puts a ((t,v)::r)=puts (a.put (some t) v) r)∧(∀ (a:Act) (d:Tmp) (v:Value),a.put (some d) v={ a with tmps:=a.tmps.setIfInBounds d v })∧(∀ (l:List Value) (i:Nat) (a:Value),l.toArray.setIfInBounds i a=(l.set i a).toArray)∧(∀ (l:List Value) (a b:Value),(a::l).set 0 b=b::l)∧(∀ (l:List Value) (a b:Value) (n:Nat),(a::l).set (n+1) b=a::l.set n b):=⟨fun _=>rfl,fun _ _ _ _=>rfl,fun _ _ _=>rfl,fun _ _ _=>List.setIfInBounds_toArray ..,fun _ _ _=>rfl,fun _ _ _ _=>rfl⟩
theorem put_self (a:Act) (t:Tmp):a.put (some t) (a.tmps.getD t undef)=a:=by
 obtain ⟨v,ds⟩:=a;simp only [Act.put]
 congr 1
 by_cases h:t<v.size
 · apply Array.ext_getElem?;intro j;rw [Array.getElem?_setIfInBounds]
   split
   · rename_i e;subst e;simp [Array.getD,h]
   rfl
 rw [Array.setIfInBounds];simp [h]
theorem puts_self (a:Act):∀ l:List Tmp,a=puts a (l.map fun t=>(t,a.tmps.getD t undef))
 | []=>rfl
 | t :: r => by
   simp only [List.map_cons,puts];rw [put_self];exact puts_self a r
theorem wp_region_inv {id:Nat} {a:Act} {w:World} {l:List Oper} (hm:P.follows .mixedOrders=true) (ho:ops=l.toArray) (hl:lower ops=true) (I:Act→World→(Nat→Bool)→Act→World→Prop)
 (hb:I a w (fun _=>false) a w.drew) (hs:Steps P ops Q (I a w) 0 l)
 (he:∀ d a' w',(∀ j,j<ops.size→d j=true)→I a w d a' w'→Q .normal a' w'):(Code.region id ops true).wp P Q a w:=by
 refine wp_region_any hm ?_;refine wpAny_inv (I:=I a w) hl (by rw [ho];rw [ho] at hs;exact hs) he ops.size _ a _ (by simp) (by simp [unl]) ?_ ?_
 all_goals rw [show (fun j=>(Array.replicate ops.size false).getD j false)=fun _=>false by
  funext j
  simp only [Array.getD_eq_getD_getElem?,Array.getElem?_replicate]
  split<;>rfl]
 · intro i o _ h;cases h
 exact hb
end
end
section
open Go.RowKit
theorem bq {w w':World} {b i:Nat} {v:Option Value} (hb:Below w.heap.size w w') (hl:b<w.heap.size) (q:w.cell? ⟨b,i,none⟩=v):w'.cell? ⟨b,i,none⟩=v:=(hb.cell (p:=⟨b,i,none⟩) hl).trans q
theorem bl {w w':World} {b:Nat} (hb:Below w.heap.size w w') (hl:b<w.heap.size):b<w'.heap.size:=nLt hl hb.size
theorem bq9 {w w1:World} {b:Nat} {x0 x1 x2 x3 x4 x5 x6 x7 x8:Value} (hb:Below w.heap.size w w1) (hl:b<w.heap.size) (h0:w.cell? ⟨b,0,none⟩=some x0) (h1:w.cell? ⟨b,1,none⟩=some x1) (h2:w.cell? ⟨b,2,none⟩=some x2) (h3:w.cell? ⟨b,3,none⟩=some x3) (h4:w.cell? ⟨b,4,none⟩=some x4) (h5:w.cell? ⟨b,5,none⟩=some x5) (h6:w.cell? ⟨b,6,none⟩=some x6) (h7:w.cell? ⟨b,7,none⟩=some x7) (h8:w.cell? ⟨b,8,none⟩=some x8):w1.cell? ⟨b,0,none⟩=some x0∧w1.cell? ⟨b,1,none⟩=some x1∧w1.cell? ⟨b,2,none⟩=some x2∧w1.cell? ⟨b,3,none⟩=some x3∧w1.cell? ⟨b,4,none⟩=some x4∧w1.cell? ⟨b,5,none⟩=some x5∧w1.cell? ⟨b,6,none⟩=some x6∧w1.cell? ⟨b,7,none⟩=some x7∧w1.cell? ⟨b,8,none⟩=some x8∧b<w1.heap.size:=⟨bq hb hl h0,bq hb hl h1,bq hb hl h2,bq hb hl h3,bq hb hl h4,bq hb hl h5,bq hb hl h6,bq hb hl h7,bq hb hl h8,bl hb hl⟩
theorem bq3 {w w1:World} {b:Nat} {x y z:Value} (hb:Below w.heap.size w w1) (hl:b<w.heap.size) (h0:w.cell? ⟨b,0,none⟩=some x) (h1:w.cell? ⟨b,1,none⟩=some y) (h2:w.cell? ⟨b,2,none⟩=some z):w1.cell? ⟨b,0,none⟩=some x∧w1.cell? ⟨b,1,none⟩=some y∧w1.cell? ⟨b,2,none⟩=some z∧b<w1.heap.size:=⟨bq hb hl h0,bq hb hl h1,bq hb hl h2,bl hb hl⟩
theorem bq2 {w w1:World} {b:Nat} {x y:Value} (hb:Below w.heap.size w w1) (hl:b<w.heap.size) (h0:w.cell? ⟨b,0,none⟩=some x) (h1:w.cell? ⟨b,1,none⟩=some y):w1.cell? ⟨b,0,none⟩=some x∧w1.cell? ⟨b,1,none⟩=some y∧b<w1.heap.size:=⟨bq hb hl h0,bq hb hl h1,bl hb hl⟩
def notU (v:Value):Prop:=∀ x,v ≠ .int .u64 x
theorem notU_bool (b:Bool):notU (.bool b):=fun _ e=>by cases e
theorem notU_slice (a:Option Addr) (n c:Nat):notU (.slice a n c):=fun _ e=>by cases e
theorem notU_i64 (x:Int):notU (.int .i64 x):=fun _ e=>by cases e
theorem NatAt.offBox {w:World} {a:Option Addr} {n c:Nat} {l:List Nat} (h:NatAt w a n c l) {p:Addr} {v0:Value} (hc:w.cell? p=some v0) (hv:notU v0) (v:Value):NatAt (w.setCell p v) a n c l:=by
 refine ⟨h.len,h.le,h.cle,h.dig,?_,h.nilc⟩;rcases h.cell with h0 | ⟨b',o',he,hd⟩
 · exact .inl h0
 refine .inr ⟨b',o',he,fun i hi => ?_⟩;rw [World.cell?_setCell_other _ _ _ _ (fun e => ?_)]
 · exact hd i hi
 rw [e,hd i hi] at hc;exact hv _ (Option.some.inj hc).symm
theorem OwnAt.offBox {w:World} {B:Nat} {a:Option Addr} {n c:Nat} {l:List Nat} (h:OwnAt w B a n c l) {p:Addr} {v0:Value} (hc:w.cell? p=some v0) (hv:notU v0) (v:Value):OwnAt (w.setCell p v) B a n c l:=by
 refine ⟨h.toNatAt.offBox hc hv v,?_⟩;rcases h.own with h0 | ⟨b2,o2,he2,hB,hf⟩
 · exact .inl h0
 exact .inr ⟨b2,o2,he2,hB,fun i hi=>by rw [World.frozen?_setCell];exact hf i hi⟩
structure BoxAt (w:World) (b k:Nat):Prop where
 c:∀ i,i<k→∃ v,w.cell? ⟨b,i,none⟩=some v∧notU v
 f:∀ i,i<k→w.frozen? ⟨b,i,none⟩=false
theorem BoxAt.past {w w':World} {b k:Nat} (h:BoxAt w b k) (hb:Below w.heap.size w w') (hl:b<w.heap.size):BoxAt w' b k :=
 ⟨fun i hi=>by obtain ⟨v,hv,hu⟩:=h.c i hi;exact ⟨v,(hb.cell (p:=⟨b,i,none⟩) hl).trans hv,hu⟩,fun i hi=>(hb.frozen (p:=⟨b,i,none⟩) hl).trans (h.f i hi)⟩
theorem BoxAt.set {w:World} {b k:Nat} (h:BoxAt w b k) (p:Addr) (v:Value) (hv:notU v):BoxAt (w.setCell p v) b k :=
 ⟨fun i hi => by
   obtain ⟨u,hu,hn⟩:=h.c i hi
   by_cases e:p=⟨b,i,none⟩
   · subst e;exact ⟨v,World.cell?_setCell_same _ _ _ hu,hv⟩
   exact ⟨u,by rw [World.cell?_setCell_other _ _ _ _ e];exact hu,hn⟩,fun i hi=>by rw [World.frozen?_setCell];exact h.f i hi⟩
theorem BoxAt.new (w:World) (cs:Array Value) (E:Nat) (h:∀ v ∈ cs.toList,notU v):BoxAt (w.alloc (.cells cs E)) w.heap.size cs.size :=
 ⟨fun i hi=>⟨cs[i],by rw [World.cell?_alloc_at _ _ _ _ rfl,Array.getElem?_eq_getElem hi],h _ (by simp)⟩,fun i _=>World.frozen?_alloc_at _ _ _ _ rfl⟩
theorem BoxAt.of {w:World} {b k:Nat} {A:Array Value} (q:∀ i,w.cell? ⟨b,i,none⟩=A[i]?) (f:∀ i,w.frozen? ⟨b,i,none⟩=false) (hk:A.size=k) (hA:∀ v ∈ A.toList,notU v):BoxAt w b k :=
 ⟨fun i hi=>⟨A[i],by rw [q,Array.getElem?_eq_getElem (by omega)],hA _ (by simp)⟩,fun i _=>f i⟩
theorem BoxAt.drew {w:World} {b k:Nat} (h:BoxAt w b k):BoxAt w.drew b k:=⟨h.c,h.f⟩
theorem BoxAt.two {w:World} {b:Nat} (h:BoxAt w b 2):∃ v0 v1,w.cell? ⟨b,0,none⟩=some v0∧w.cell? ⟨b,1,none⟩=some v1∧w.frozen? ⟨b,0,none⟩=false∧w.frozen? ⟨b,1,none⟩=false∧notU v0∧notU v1:=by
 obtain ⟨v0,h0,u0⟩:=h.c 0 (by decide);obtain ⟨v1,h1,u1⟩:=h.c 1 (by decide);exact ⟨v0,v1,h0,h1,h.f 0 (by decide),h.f 1 (by decide),u0,u1⟩
theorem BoxAt.three {w:World} {b:Nat} (h:BoxAt w b 3):∃ v0 v1 v2,w.cell? ⟨b,0,none⟩=some v0∧w.cell? ⟨b,1,none⟩=some v1∧w.cell? ⟨b,2,none⟩=some v2∧w.frozen? ⟨b,0,none⟩=false∧w.frozen? ⟨b,1,none⟩=false∧w.frozen? ⟨b,2,none⟩=false∧notU v0∧notU v1∧notU v2:=by
 obtain ⟨v0,h0,u0⟩:=h.c 0 (by decide);obtain ⟨v1,h1,u1⟩:=h.c 1 (by decide);obtain ⟨v2,h2,u2⟩:=h.c 2 (by decide);exact ⟨v0,v1,v2,h0,h1,h2,h.f 0 (by decide),h.f 1 (by decide),h.f 2 (by decide),u0,u1,u2⟩
def setB (blk:Nat→Nat) (i b:Nat):Nat→Nat:=fun j=>bif j == i then b else blk j
structure Boxes (A:List (Nat×Nat)) (B:Nat) (d:Nat→Bool) (blk:Nat→Nat) (w:World):Prop where
 at_:∀ x ∈ A,d x.1=true→B≤blk x.1∧blk x.1<w.heap.size∧BoxAt w (blk x.1) x.2
 ne:∀ x ∈ A,∀ y ∈ A,d x.1=true→d y.1=true→blk x.1=blk y.1→x.1=y.1
def outOf (A:List (Nat×Nat)) (i:Nat):Bool:=A.all fun x => !(x.1 == i)
theorem outOf_ne {A:List (Nat×Nat)} {i:Nat} (h:outOf A i=true) {x:Nat×Nat} (hx:x ∈ A):(x.1 == i)=false:=by
 have:=List.all_eq_true.1 h x hx
 simpa using this
theorem Boxes.none (A:List (Nat×Nat)) (B:Nat) (blk:Nat→Nat) (w:World):Boxes A B (fun _=>false) blk w:=⟨fun _ _ h=>(by cases h),fun _ _ _ _ h=>(by cases h)⟩
theorem Boxes.past {A:List (Nat×Nat)} {B:Nat} {d:Nat→Bool} {blk:Nat→Nat} {w w':World} (h:Boxes A B d blk w) (hb:Below w.heap.size w w') (i:Nat) (hi:outOf A i=true):Boxes A B (upd d i) blk w' :=
 ⟨fun x hx hd => by
   obtain ⟨h1,h2,h3⟩:=h.at_ x hx (upd_of (outOf_ne hi hx) hd);exact ⟨h1,nLt h2 hb.size,h3.past hb h2⟩,fun x hx y hy hdx hdy e=>h.ne x hx y hy (upd_of (outOf_ne hi hx) hdx) (upd_of (outOf_ne hi hy) hdy) e⟩
theorem Boxes.same {A:List (Nat×Nat)} {B:Nat} {d:Nat→Bool} {blk:Nat→Nat} {w:World} (h:Boxes A B d blk w) (i:Nat) (hi:outOf A i=true):Boxes A B (upd d i) blk w:=h.past (bRf _ _) i hi
theorem Boxes.set {A:List (Nat×Nat)} {B:Nat} {d:Nat→Bool} {blk:Nat→Nat} {w:World} (h:Boxes A B d blk w) (p:Addr) {v:Value} (hv:notU v):Boxes A B d blk (w.setCell p v) :=
 ⟨fun x hx hd => by
   obtain ⟨h1,h2,h3⟩:=h.at_ x hx hd;exact ⟨h1,by simpa using h2,h3.set p v hv⟩,h.ne⟩
theorem Boxes.new {A:List (Nat×Nat)} {B:Nat} {d:Nat→Bool} {blk:Nat→Nat} {w:World} (h:Boxes A B d blk w) (hB:B≤w.heap.size) (i:Nat) (cs:Array Value) (E:Nat) (hk:A.all (fun x => !(x.1 == i) || x.2 == cs.size)=true)
 (hc:∀ v ∈ cs.toList,notU v):Boxes A B (upd d i) (setB blk i w.heap.size) (w.alloc (.cells cs E)):=by
 have ha:Below w.heap.size w (w.alloc (.cells cs E)):=(bRf _ _).alloc (nRf _) _;refine ⟨fun x hx hd => ?_,fun x hx y hy hdx hdy e => ?_⟩
 · by_cases ex:(x.1 == i)=true
   · have hkx:=List.all_eq_true.1 hk x hx;rw [ex] at hkx;have e2:x.2=cs.size:=by simpa using hkx
     unfold setB;rw [ex,e2];exact ⟨hB,by simp,BoxAt.new w cs E hc⟩
   have ex:=Bool.eq_false_iff.2 ex;obtain ⟨h1,h2,h3⟩:=h.at_ x hx (upd_of ex hd);unfold setB;rw [ex];exact ⟨h1,by simp;exact Nat.lt_succ_of_lt h2,h3.past ha h2⟩
 unfold setB at e
 by_cases ex:(x.1 == i)=true
 · by_cases ey:(y.1 == i)=true
   · rw [beq_iff_eq] at ex ey;omega
   have ey:=Bool.eq_false_iff.2 ey;obtain ⟨h1,h2,h3⟩:=h.at_ y hy (upd_of ey hdy);rw [ex,ey] at e;simp at e;omega
 have ex:=Bool.eq_false_iff.2 ex;obtain ⟨h1,h2,h3⟩:=h.at_ x hx (upd_of ex hdx)
 by_cases ey:(y.1 == i)=true
 · rw [ex,ey] at e;simp at e;omega
 have ey:=Bool.eq_false_iff.2 ey;rw [ex,ey] at e;exact h.ne x hx y hy (upd_of ex hdx) (upd_of ey hdy) e
def CopyV (B:Nat) (b:Bool) (l:List Nat) (y:Value) (w:World):Prop:=∃ a n c,y = .agg #[.bool b,.slice a n c]∧OwnAt w B a n c l
theorem CopyV.past {w w':World} {B:Nat} {b:Bool} {l:List Nat} {y:Value} (h:CopyV B b l y w) (hb:Below w.heap.size w w'):CopyV B b l y w':=by
 obtain ⟨a,n,c,e,h⟩:=h;exact ⟨a,n,c,e,h.later hb (nRf _)⟩
def NatV (B:Nat) (l:List Nat) (y:Value) (w:World):Prop:=∃ a n c,y = .slice a n c∧OwnAt w B a n c l
theorem NatV.past {w w':World} {B:Nat} {l:List Nat} {y:Value} (h:NatV B l y w) (hb:Below w.heap.size w w'):NatV B l y w':=by
 obtain ⟨a,n,c,e,h⟩:=h;exact ⟨a,n,c,e,h.later hb (nRf _)⟩
def cellsOf:Value→List Value
 | .agg vs=>vs.toList
 | v=>[v]
def bld (l:List Value):Value:=.agg (l.flatMap cellsOf).toArray
structure Holds (d:Nat→Bool) (i u:Nat) (b:Nat) (vs:List Value) (w:World):Prop where
 up:d i=true
 vp:d u=true
 lt:b<w.heap.size
 at_:∀ k,k<vs.length→w.cell? ⟨b,k,none⟩=vs[k]?
theorem Holds.past {d:Nat→Bool} {i u b:Nat} {vs:List Value} {w w':World} (h:Holds d i u b vs w) (hb:Below w.heap.size w w') (j:Nat):Holds (upd d j) i u b vs w' :=
 ⟨by simp [upd,h.up],by simp [upd,h.vp],nLt h.lt hb.size,fun k hk=>(hb.cell (p:=⟨b,k,none⟩) h.lt).trans (h.at_ k hk)⟩
theorem BoxAt.sets {b k:Nat}:∀ (vs:List Value) (b2 o:Nat) (w:World),BoxAt w b k→(∀ v ∈ vs,notU v)→BoxAt (w.setCells b2 o vs) b k
 | [],_,_,_,h,_=>h
 | v::r,b2,o,w,h,hv=>BoxAt.sets r b2 (o+1) _ (h.set _ v (hv v (by simp))) (fun x hx=>hv x (by simp [hx]))
theorem Boxes.sets {A:List (Nat×Nat)} {B:Nat} {d:Nat→Bool} {blk:Nat→Nat}:∀ (vs:List Value) (b o:Nat) (w:World),Boxes A B d blk w→(∀ v ∈ vs,notU v)→Boxes A B d blk (w.setCells b o vs)
 | [],_,_,_,h,_=>h
 | v::r,b,o,w,h,hv=>Boxes.sets r b (o+1) _ (h.set ⟨b,o,Option.none⟩ (hv v (by simp))) (fun x hx=>hv x (by simp [hx]))
theorem OwnAt.sets {B b k:Nat} {a:Option Addr} {n c:Nat} {l:List Nat}:∀ (vs:List Value) (o:Nat) (w:World),OwnAt w B a n c l→BoxAt w b k→o+vs.length≤k→(∀ v ∈ vs,notU v)→OwnAt (w.setCells b o vs) B a n c l
 | [],_,_,h,_,_,_=>h
 | v :: r, o, w, h, hx, hk, hv => by
   obtain ⟨v0,h0,u0⟩:=hx.c o (by simp at hk;omega);exact OwnAt.sets r (o+1) _ (h.offBox h0 u0 v) (hx.set _ v (hv v (by simp))) (by simp at hk ⊢;omega) (fun x hx=>hv x (by simp [hx]))
theorem NatAt.sets {b k:Nat} {a:Option Addr} {n c:Nat} {l:List Nat}:∀ (vs:List Value) (o:Nat) (w:World),NatAt w a n c l→BoxAt w b k→o+vs.length≤k→(∀ v ∈ vs,notU v)→NatAt (w.setCells b o vs) a n c l
 | [],_,_,h,_,_,_=>h
 | v :: r, o, w, h, hx, hk, hv => by
   obtain ⟨v0,h0,u0⟩:=hx.c o (by simp at hk;omega);exact NatAt.sets r (o+1) _ (h.offBox h0 u0 v) (hx.set _ v (hv v (by simp))) (by simp at hk ⊢;omega) (fun x hx=>hv x (by simp [hx]))
theorem CopyV.sets {B b2 k:Nat} {b:Bool} {l:List Nat} {y:Value} {w:World} (h:CopyV B b l y w) (vs:List Value) (hx:BoxAt w b2 k) (hk:vs.length≤k) (hv:∀ v ∈ vs,notU v):CopyV B b l y (w.setCells b2 0 vs):=by
 obtain ⟨a,n,c,e,h⟩:=h;exact ⟨a,n,c,e,h.sets vs 0 w hx (by omega) hv⟩
theorem NatV.sets {B b2 k:Nat} {l:List Nat} {y:Value} {w:World} (h:NatV B l y w) (vs:List Value) (hx:BoxAt w b2 k) (hk:vs.length≤k) (hv:∀ v ∈ vs,notU v):NatV B l y (w.setCells b2 0 vs):=by
 obtain ⟨a,n,c,e,h⟩:=h;exact ⟨a,n,c,e,h.sets vs 0 w hx (by omega) hv⟩
theorem Holds.new {d:Nat→Bool} {i u b k:Nat} {w:World} (hd:d i=true) (hu:d u=true) (hl:b<w.heap.size) (hx:BoxAt w b k) (vs:List Value) (hk:vs.length≤k):Holds d i u b vs (w.setCells b 0 vs):=by
 refine ⟨hd,hu,?_,fun j hj => ?_⟩
 · rw [size_setCells];exact hl
 have:=World.cell?_setCells_in b vs 0 w (fun q hq=>by obtain ⟨v,hv,_⟩:=hx.c (0+q) (by omega);rw [hv];rfl) j hj;rw [Nat.zero_add] at this;rw [this,List.getElem?_eq_getElem hj]
def HoldsV (d:Nat→Bool) (i u b:Nat) (y:Value) (w:World):Prop:=∃ vs:List Value,y = .agg vs.toArray∧Holds d i u b vs w
theorem HoldsV.up {d:Nat→Bool} {i u b:Nat} {y:Value} {w:World} (h:HoldsV d i u b y w):d i=true:=by obtain ⟨_,_,h⟩:=h;exact h.up
theorem HoldsV.vp {d:Nat→Bool} {i u b:Nat} {y:Value} {w:World} (h:HoldsV d i u b y w):d u=true:=by obtain ⟨_,_,h⟩:=h;exact h.vp
theorem HoldsV.past {d:Nat→Bool} {i u b:Nat} {y:Value} {w w':World} (h:HoldsV d i u b y w) (hb:Below w.heap.size w w') (j:Nat):HoldsV (upd d j) i u b y w':=by
 obtain ⟨vs,e,h⟩:=h;exact ⟨vs,e,h.past hb j⟩
theorem HoldsV.same {d:Nat→Bool} {i u b:Nat} {y:Value} {w:World} (h:HoldsV d i u b y w) (j:Nat):HoldsV (upd d j) i u b y w:=h.past (bRf _ _) j
theorem HoldsV.new {d:Nat→Bool} {i u b k:Nat} {w:World} (hd:d i=true) (hu:d u=true) (hl:b<w.heap.size) (hx:BoxAt w b k) (vs:List Value) (hk:vs.length≤k):HoldsV d i u b (.agg vs.toArray) (w.setCells b 0 vs):=⟨vs,rfl,Holds.new hd hu hl hx vs hk⟩
def Cells (w:World) (b:Nat) (vs:List Value):Prop:=∀ k,k<vs.length→w.cell? ⟨b,k,none⟩=vs[k]?
theorem Cells.past {w w':World} {b:Nat} {vs:List Value} (h:Cells w b vs) (hb:Below w.heap.size w w') (hl:b<w.heap.size):Cells w' b vs:=fun k hk=>(hb.cell (p:=⟨b,k,none⟩) hl).trans (h k hk)
theorem Cells.sets {b2 b:Nat} {ws:List Value} (hne:b2≠b):∀ (vs:List Value) (o:Nat) (w:World),Cells w b ws→Cells (w.setCells b2 o vs) b ws
 | [],_,_,h=>h
 | v::r,o,w,h=>Cells.sets hne r (o+1) _ (fun k hk=>by rw [World.cell?_setCell_other _ _ _ _ (fun e=>hne (congrArg Addr.block e))];exact h k hk)
theorem Cells.new {b k:Nat} {w:World} (hx:BoxAt w b k) (vs:List Value) (hk:vs.length≤k):Cells (w.setCells b 0 vs) b vs:=by
 intro j hj;have:=World.cell?_setCells_in b vs 0 w (fun q hq=>by obtain ⟨v,hv,_⟩:=hx.c (0+q) (by omega);rw [hv];rfl) j hj;rw [Nat.zero_add] at this;rw [this,List.getElem?_eq_getElem hj]
def CellsV (b:Nat) (y:Value) (w:World):Prop:=∃ vs:List Value,y = .agg vs.toArray∧Cells w b vs
theorem CellsV.past {w w':World} {b:Nat} {y:Value} (h:CellsV b y w) (hb:Below w.heap.size w w') (hl:b<w.heap.size):CellsV b y w':=by
 obtain ⟨vs,e,h⟩:=h;exact ⟨vs,e,h.past hb hl⟩
theorem OwnAt.setsOff {B b:Nat} {a:Option Addr} {n c:Nat} {l:List Nat} (hb:b<B):∀ (vs:List Value) (o:Nat) (w:World),OwnAt w B a n c l→OwnAt (w.setCells b o vs) B a n c l
 | [],_,_,h=>h
 | v::r,o,w,h=>OwnAt.setsOff hb r (o+1) _ (h.setOff hb v)
theorem CopyV.setsOff {w:World} {B b2:Nat} {b:Bool} {l:List Nat} {y:Value} (h:CopyV B b l y w) (hb:b2<B) (vs:List Value):CopyV B b l y (w.setCells b2 0 vs):=by
 obtain ⟨a,n,c,e,h⟩:=h;exact ⟨a,n,c,e,OwnAt.setsOff hb vs 0 w h⟩
theorem NatV.setsOff {w:World} {B b2:Nat} {l:List Nat} {y:Value} (h:NatV B l y w) (hb:b2<B) (vs:List Value):NatV B l y (w.setCells b2 0 vs):=by
 obtain ⟨a,n,c,e,h⟩:=h;exact ⟨a,n,c,e,OwnAt.setsOff hb vs 0 w h⟩
end
section
open Go.RowKit
structure Off (b:Nat) (w w':World):Prop where
 size:w'.heap.size=w.heap.size
 nat:∀ {a:Option Addr} {n c:Nat} {l:List Nat},NatAt w a n c l→NatAt w' a n c l
 own:∀ {B:Nat} {a:Option Addr} {n c:Nat} {l:List Nat},OwnAt w B a n c l→OwnAt w' B a n c l
 cell:∀ {b2 k:Nat},b2≠b→w'.cell? ⟨b2,k,none⟩=w.cell? ⟨b2,k,none⟩
 box:∀ {b2 k:Nat},BoxAt w b2 k→BoxAt w' b2 k
 below:∀ {B:Nat} {w0:World},B≤b→Below B w0 w→Below B w0 w'
theorem Off.trans {b:Nat} {w w1 w2:World} (h:Off b w w1) (h':Off b w1 w2):Off b w w2 :=
 ⟨h'.size.trans h.size,fun x=>h'.nat (h.nat x),fun x=>h'.own (h.own x),fun e=>(h'.cell e).trans (h.cell e),fun x=>h'.box (h.box x),fun e x=>h'.below e (h.below e x)⟩
theorem Off.set {b i:Nat} {w:World} {v0 v:Value} (hc:w.cell? ⟨b,i,none⟩=some v0) (h0:notU v0) (hv:notU v):Off b w (w.setCell ⟨b,i,none⟩ v) :=
 ⟨by simp, fun h => h.offBox hc h0 v, fun h => h.offBox hc h0 v, fun e => World.cell?_setCell_other _ _ _ _ (fun x => e (congrArg Addr.block x).symm), fun h => h.set _ v hv,
   fun hB h=>h.trans (below_setCells _ _ hB [v] i _)⟩
theorem store1 {w:World} {b:Nat} (x:BoxAt w b 1) (v0:Value) (h0:notU v0):∃ w',w.setCell ⟨b,0,none⟩ v0=w'∧Off b w w'∧w'.cell? ⟨b,0,none⟩=some v0∧BoxAt w' b 1:=by
 obtain ⟨u0,c0,n0⟩:=x.c 0 (by decide);exact ⟨_,rfl,Off.set c0 n0 h0,World.cell?_setCell_same _ _ _ c0,x.set _ _ h0⟩
theorem store3 {w:World} {b:Nat} (x:BoxAt w b 3) (v0 v1 v2:Value) (h0:notU v0) (h1:notU v1) (h2:notU v2) :
 ∃ w',((w.setCell ⟨b,0,none⟩ v0).setCell ⟨b,1,none⟩ v1).setCell ⟨b,2,none⟩ v2=w'∧Off b w w'∧w'.cell? ⟨b,0,none⟩=some v0∧w'.cell? ⟨b,1,none⟩=some v1∧w'.cell? ⟨b,2,none⟩=some v2∧BoxAt w' b 3:=by
 obtain ⟨u0,c0,n0⟩:=x.c 0 (by decide);have x1:=x.set ⟨b,0,none⟩ v0 h0;obtain ⟨u1,c1,n1⟩:=x1.c 1 (by decide);have x2:=x1.set ⟨b,1,none⟩ v1 h1;obtain ⟨u2,c2,n2⟩:=x2.c 2 (by decide);refine ⟨_,rfl,((Off.set c0 n0 h0).trans (Off.set c1 n1 h1)).trans (Off.set c2 n2 h2),?_,?_,World.cell?_setCell_same _ _ _ c2,x2.set _ _ h2⟩
 · rw [World.cell?_setCell_other _ _ _ _ (fun e=>by cases e),World.cell?_setCell_other _ _ _ _ (fun e=>by cases e)];exact World.cell?_setCell_same _ _ _ c0
 rw [World.cell?_setCell_other _ _ _ _ (fun e=>by cases e)];exact World.cell?_setCell_same _ _ _ c1
theorem store2 {w:World} {b:Nat} (x:BoxAt w b 2) (v0 v1:Value) (h0:notU v0) (h1:notU v1) :
 ∃ w',(w.setCell ⟨b,0,none⟩ v0).setCell ⟨b,1,none⟩ v1=w'∧Off b w w'∧w'.cell? ⟨b,0,none⟩=some v0∧w'.cell? ⟨b,1,none⟩=some v1∧BoxAt w' b 2:=by
 obtain ⟨u0,c0,n0⟩:=x.c 0 (by decide);have x1:=x.set ⟨b,0,none⟩ v0 h0;obtain ⟨u1,c1,n1⟩:=x1.c 1 (by decide);refine ⟨_,rfl,(Off.set c0 n0 h0).trans (Off.set c1 n1 h1),?_,World.cell?_setCell_same _ _ _ c1,x1.set _ _ h1⟩;rw [World.cell?_setCell_other _ _ _ _ (fun e=>by cases e)];exact World.cell?_setCell_same _ _ _ c0
def isU:Value→Bool
 | .int .u64 _=>true
 | _=>false
theorem nu {v:Value} (h:isU v=false):notU v:=fun x e=>by subst e;cases h
abbrev Ans:=Except Int Rat
def Ans.up:Ans→Int
 | .ok q=>q.num
 | .error _=>0
def Ans.down:Ans→List Nat
 | .ok q=>digs q.den
 | .error _=>[]
def Ans.why:Ans→Int
 | .ok _=>0
 | .error e=>e
def RetAns (w:World) (r:Ans) (e:Ending) (w':World):Prop :=
 ∃ a n c a2 n2 c2,e = .returned (.tuple #[.agg #[.bool (neg r.up),.slice a n c,.slice a2 n2 c2],.int .i64 r.why])∧OwnAt w' w.heap.size a n c (digs r.up.natAbs)∧OwnAt w' w.heap.size a2 n2 c2 r.down∧Below w.heap.size w w'
def RatV (B:Nat) (q:Rat) (y:Value) (w:World):Prop:=∃ a n c a2 n2 c2,y = .agg #[.bool (neg q.num),.slice a n c,.slice a2 n2 c2]∧OwnAt w B a n c (digs q.num.natAbs)∧OwnAt w B a2 n2 c2 (digs q.den)
theorem RatV.past {w w':World} {B:Nat} {q:Rat} {y:Value} (h:RatV B q y w) (hb:Below w.heap.size w w'):RatV B q y w':=by
 obtain ⟨a,n,c,a2,n2,c2,e,h,h2⟩:=h;exact ⟨a,n,c,a2,n2,c2,e,h.later hb (nRf _),h2.later hb (nRf _)⟩
theorem RatV.setsOff {w:World} {B b2:Nat} {q:Rat} {y:Value} (h:RatV B q y w) (hb:b2<B) (vs:List Value):RatV B q y (w.setCells b2 0 vs):=by
 obtain ⟨a,n,c,a2,n2,c2,e,h,h2⟩:=h;exact ⟨a,n,c,a2,n2,c2,e,OwnAt.setsOff hb vs 0 w h,OwnAt.setsOff hb vs 0 w h2⟩
theorem RatV.sets {w:World} {B b k:Nat} {q:Rat} {y:Value} (h:RatV B q y w) (vs:List Value) (hx:BoxAt w b k) (hk:0+vs.length≤k) (hv:∀ v ∈ vs,notU v):RatV B q y (w.setCells b 0 vs):=by
 obtain ⟨a,n,c,a2,n2,c2,e,h,h2⟩:=h;exact ⟨a,n,c,a2,n2,c2,e,OwnAt.sets vs 0 w h hx hk hv,OwnAt.sets vs 0 w h2 hx hk hv⟩
def AnsV (B:Nat) (r:Ans) (y:Value) (w:World):Prop:=∃ a n c a2 n2 c2,y = .tuple #[.agg #[.bool (neg r.up),.slice a n c,.slice a2 n2 c2],.int .i64 r.why]∧OwnAt w B a n c (digs r.up.natAbs)∧OwnAt w B a2 n2 c2 r.down
theorem AnsV.past {w w':World} {B:Nat} {q:Ans} {y:Value} (h:AnsV B q y w) (hb:Below w.heap.size w w'):AnsV B q y w':=by
 obtain ⟨a,n,c,a2,n2,c2,e,h,h2⟩:=h;exact ⟨a,n,c,a2,n2,c2,e,h.later hb (nRf _),h2.later hb (nRf _)⟩
theorem AnsV.setsOff {w:World} {B b2:Nat} {q:Ans} {y:Value} (h:AnsV B q y w) (hb:b2<B) (vs:List Value):AnsV B q y (w.setCells b2 0 vs):=by
 obtain ⟨a,n,c,a2,n2,c2,e,h,h2⟩:=h;exact ⟨a,n,c,a2,n2,c2,e,OwnAt.setsOff hb vs 0 w h,OwnAt.setsOff hb vs 0 w h2⟩
def part (k:Nat):Value→Value
 | .tuple vs=>vs.getD k undef
 | v=>v
end
section
open Go.RowKit
def CellsO (w:World) (b o:Nat) (vs:List Value):Prop:=∀ k,k<vs.length→w.cell? ⟨b,o+k,none⟩=vs[k]?
theorem CellsO.past {w w':World} {b o:Nat} {vs:List Value} (h:CellsO w b o vs) (hb:Below w.heap.size w w') (hl:b<w.heap.size):CellsO w' b o vs:=fun k hk=>(hb.cell (p:=⟨b,o+k,none⟩) hl).trans (h k hk)
theorem CellsO.away {b o:Nat} {ws:List Value}:∀ (vs:List Value) (o2:Nat) (w:World),CellsO w b o ws→(o2+vs.length≤o∨o+ws.length≤o2)→CellsO (w.setCells b o2 vs) b o ws
 | [],_,_,h,_=>h
 | v :: vs, o2, w, h, hd => by
   refine CellsO.away vs (o2+1) (w.setCell ⟨b,o2,none⟩ v) (fun k hk => ?_) (by rw [List.length_cons] at hd;omega);rw [World.cell?_setCell_other _ _ _ _ (fun e=>by have:=congrArg Addr.off e;simp at this;rw [List.length_cons] at hd;omega)];exact h k hk
theorem CellsO.new {b k:Nat}:∀ (vs:List Value) (o:Nat) (w:World),BoxAt w b k→o+vs.length≤k→(∀ v ∈ vs,notU v)→CellsO (w.setCells b o vs) b o vs
 | [],_,_,_,_,_=>fun j hj=>by cases hj
 | v :: vs, o, w, hx, hk, hv => by
   rw [List.length_cons] at hk;obtain ⟨u,hu,_⟩:=hx.c o (by omega);have h1:=CellsO.new vs (o+1) (w.setCell ⟨b,o,none⟩ v) (hx.set _ _ (hv v (by simp))) (by omega) (fun x hx=>hv x (by simp [hx]));intro j hj;cases j with
   | zero =>
     have h0:CellsO (w.setCell ⟨b,o,none⟩ v) b o [v]:=fun i hi=>by
      obtain rfl:i=0:=by simpa using hi
      exact World.cell?_setCell_same _ _ _ hu
     exact CellsO.away vs (o+1) _ h0 (.inr (by simp)) 0 (by simp)
   | succ j =>
     have:=h1 j (by simpa using hj);rw [show o+(j+1)=o+1+j by omega];exact this
theorem NatV.setsO {w:World} {B b2:Nat} {l:List Nat} {y:Value} (h:NatV B l y w) (o:Nat) (hb:b2<B) (vs:List Value):NatV B l y (w.setCells b2 o vs):=by
 obtain ⟨a,n,c,e,h⟩:=h;exact ⟨a,n,c,e,OwnAt.setsOff hb vs o w h⟩
end
section
open Go.RowKit
def LstV (B n:Nat) (cs:List Value) (y:Value) (w:World):Prop:=∃ g,y = .slice (some ⟨g,0,none⟩) n n∧B≤g∧g<w.heap.size∧Cells w g cs
theorem LstV.past {B n:Nat} {cs:List Value} {y:Value} {w w':World} (h:LstV B n cs y w) (hb:Below w.heap.size w w'):LstV B n cs y w':=by
 obtain ⟨g,e,h1,h2,h3⟩:=h;exact ⟨g,e,h1,nLt h2 hb.size,h3.past hb h2⟩
theorem LstV.new {B n:Nat} {w:World} (hB:B≤w.heap.size) (cs:List Value) (E:Nat):LstV B n cs (.slice (some ⟨w.heap.size,0,none⟩) n n) (w.alloc (.cells cs.toArray E)) :=
 ⟨_,rfl,hB,by simp,fun k hk=>by rw [World.cell?_alloc_at _ _ _ _ rfl,lgA]⟩
def RatNV (q:Rat) (y:Value) (w:World):Prop:=∃ a n c a2 n2 c2,y = .agg #[.bool (neg q.num),.slice a n c,.slice a2 n2 c2]∧NatAt w a n c (digs q.num.natAbs)∧NatAt w a2 n2 c2 (digs q.den)
def OkV (B:Nat) (q:Rat) (y:Value) (w:World):Prop:=∃ a n c a2 n2 c2,y = .tuple #[.agg #[.bool (neg q.num),.slice a n c,.slice a2 n2 c2],.int .i64 0]∧OwnAt w B a n c (digs q.num.natAbs)∧OwnAt w B a2 n2 c2 (digs q.den)
theorem OkV.past {w w':World} {B:Nat} {q:Rat} {y:Value} (h:OkV B q y w) (hb:Below w.heap.size w w'):OkV B q y w':=by
 obtain ⟨a,n,c,a2,n2,c2,e,h,h2⟩:=h;exact ⟨a,n,c,a2,n2,c2,e,h.later hb (nRf _),h2.later hb (nRf _)⟩
theorem OkV.sets {w:World} {B b k:Nat} {q:Rat} {y:Value} (h:OkV B q y w) (vs:List Value) (hx:BoxAt w b k) (hk:0+vs.length≤k) (hv:∀ v ∈ vs,notU v):OkV B q y (w.setCells b 0 vs):=by
 obtain ⟨a,n,c,a2,n2,c2,e,h,h2⟩:=h;exact ⟨a,n,c,a2,n2,c2,e,OwnAt.sets vs 0 w h hx hk hv,OwnAt.sets vs 0 w h2 hx hk hv⟩
end
section
open Go.RowKit
section
variable {P:Program} {ops:Array Oper} {Q:Exit→Act→World→Prop}
def lowerA (ops:Array Oper):Bool:=(List.range ops.size).all fun i=>match ops[i]? with
 | some o=>o.after.all fun e => !Region.binds .any e || decide (e.on<i)
 | none=>true
theorem lower_specA (h:lowerA ops=true) {i:Nat} {o:Oper} (ho:ops[i]? = some o):∀ e ∈ o.after,Region.binds .any e=true→e.on<i:=by
 have hlt:i<ops.size:=(Array.getElem?_eq_some_iff.1 ho).1;unfold lowerA at h;rw [List.all_eq_true] at h;have:=h i (List.mem_range.2 hlt);rw [ho] at this;simp only [Array.all_eq_true_iff_forall_mem] at this;intro e he hb;have:=this e he;rw [hb] at this
 simpa using this
theorem all_listedA (hl:lowerA ops=true) {listed:Array Bool} (hs:listed.size=ops.size) (hr:Region.ready .any ops listed=[]):∀ j,j<ops.size→listed.getD j false=true:=by
 intro j
 induction j using Nat.strongRecOn with
 | ind j ih =>
   intro hj;cases hd:listed.getD j false with
   | true=>rfl
   | false =>
     exfalso
     have hm:j ∈ Region.ready .any ops listed:=by
      rw [mem_ready];have hjs:j<listed.size:=by omega
      refine ⟨?_,ops[j],Array.getElem?_eq_getElem hj,fun e he hb => ?_⟩
      · simp only [Array.getD,hjs,dite_true] at hd ⊢;exact hd
      have:=lower_specA hl (Array.getElem?_eq_getElem hj) e he hb;exact ih e.on this (by omega)
     rw [hr] at hm;cases hm
theorem wpAny_invA {I:(Nat→Bool)→Act→World→Prop} (hl:lowerA ops=true) (hs:Steps P ops Q I 0 ops.toList)
 (he:∀ d a w,(∀ j,j<ops.size→d j=true)→I d a w→Q .normal a w) :
 ∀ (fuel:Nat) (listed:Array Bool) (a:Act) (w:World),listed.size=ops.size→unl listed≤fuel→Closed ops (fun j=>listed.getD j false)→I (fun j=>listed.getD j false) a w→wpAny P .any ops Q fuel listed a w:=by
 intro fuel
 induction fuel with
 | zero =>
   intro listed a w hsz hu hc hI
   have hall:∀ j,j<ops.size→listed.getD j false=true:=by
    intro j hj;have hjs:j<listed.size:=by omega
    cases hd:listed.getD j false with
    | true=>rfl
    | false =>
      exfalso
      have h1:=count_set_true listed.toList j (by simp only [Array.getD,hjs,dite_true] at hd;simp [hjs];exact hd);unfold unl at hu;omega
   have hr:Region.ready .any ops listed=[]:=by
    apply List.eq_nil_iff_forall_not_mem.2;intro j hj;obtain ⟨h0,o,ho,_⟩:=mem_ready.1 hj;have hlt:j<ops.size:=(Array.getElem?_eq_some_iff.1 ho).1;have hjs:j<listed.size:=by omega
    have:=hall j hlt;simp only [Array.getD,hjs,dite_true] at this h0;rw [this] at h0;cases h0
   exact ⟨hr,he _ _ _ hall hI⟩
 | succ fuel ih =>
   intro listed a w hsz hu hc hI;refine ⟨fun hr=>he _ _ _ (all_listedA hl hsz hr) hI,fun i hi => ?_⟩;obtain ⟨h0,o,ho,hall⟩:=mem_ready.1 hi;have hlt:i<ops.size:=(Array.getElem?_eq_some_iff.1 ho).1;have hjs:i<listed.size:=by omega
   have hf:listed[i]=false:=by simpa [Array.getD,hjs] using h0
   refine wpOp_step ho (fun K' hK => ?_);refine hs.at_ i o (by rw [Array.getElem?_toList];exact ho) (fun j=>listed.getD j false) a w K' hc (by simpa [Array.getD,hjs] using hf) (fun e he' hb=>hall e (by simpa using he') hb) hI (fun a' w' h'=>hK a' w' ?_);rw [Nat.zero_add] at h';refine ih _ a' w' (by simp [hsz]) ?_ (by rw [getD_upd hjs];exact hc.upd ho hall) (by rw [getD_upd hjs];exact h');have h1:=count_set_true listed.toList i (by simp [hjs,hf]);unfold unl at hu ⊢;rw [Array.toList_setIfInBounds];omega
theorem wp_region_invA {id:Nat} {a:Act} {w:World} {l:List Oper} (hm:P.follows .mixedOrders=true) (ho:ops=l.toArray) (hl:lowerA ops=true) (I:Act→World→(Nat→Bool)→Act→World→Prop)
 (hb:I a w (fun _=>false) a w.drew) (hs:Steps P ops Q (I a w) 0 l)
 (he:∀ d a' w',(∀ j,j<ops.size→d j=true)→I a w d a' w'→Q .normal a' w'):(Code.region id ops true).wp P Q a w:=by
 refine wp_region_any hm ?_;refine wpAny_invA (I:=I a w) hl (by rw [ho];rw [ho] at hs;exact hs) he ops.size _ a _ (by simp) (by simp [unl]) ?_ ?_
 all_goals rw [show (fun j=>(Array.replicate ops.size false).getD j false)=fun _=>false by
  funext j
  simp only [Array.getD_eq_getD_getElem?,Array.getElem?_replicate]
  split<;>rfl]
 · intro i o _ h;cases h
 exact hb
end
end
section
open Go.RowKit
section
variable {F:Fence} {n:Nat} {P:Program} {ops:Array Oper} {Q:Exit→Act→World→Prop}
theorem wpOpIn_one {i:Nat} {o:Oper} {a:Act} {w:World} {K:Act→World→Prop} (ho:ops[i]? = some o)
 (h:∀ K':Act→World→Prop,(∀ a w,K a w→K' a w)→if Region.wanted o (yielded ops a.tmps)=true then Oper.wpIn F n P o a w K' Q else (∀ f,o.about P w a.eval=some f→F.fn f)∧K' (a.put o.dst undef) w):wpOpIn F n P ops Q i K a w:=by
 unfold wpOpIn;simp only [ho];exact h K (fun _ _ h=>h)
def StepsI (F:Fence) (n:Nat) (P:Program) (ops:Array Oper) (Q:Exit→Act→World→Prop) (I:(Nat→Bool)→Act→World→Prop):Nat→List Oper→Prop
 | _,[]=>True
 | i, o :: r => (∀ (d : Nat → Bool) (a : Act) (w : World) (K : Act → World → Prop), Closed ops d → d i = false → (∀ e ∈ o.after.toList, Region.binds .any e = true → d e.on = true) → I d a w → Shut (∀ a' w', I (upd d i) a' w' → K a' w') →
    if Region.wanted o (yielded ops a.tmps)=true then Oper.wpIn F n P o a w K Q else (∀ f,o.about P w a.eval=some f→F.fn f)∧K (a.put o.dst undef) w)∧StepsI F n P ops Q I (i+1) r
theorem StepsI.nil {I:(Nat→Bool)→Act→World→Prop} {i:Nat}:StepsI F n P ops Q I i []:=trivial
theorem StepsI.cons {I:(Nat→Bool)→Act→World→Prop} {i:Nat} {o:Oper} {r:List Oper}
 (h : ∀ (d : Nat → Bool) (a : Act) (w : World) (K : Act → World → Prop), Closed ops d → d i = false → (∀ e ∈ o.after.toList, Region.binds .any e = true → d e.on = true) → I d a w → Shut (∀ a' w', I (upd d i) a' w' → K a' w') →
   if Region.wanted o (yielded ops a.tmps)=true then Oper.wpIn F n P o a w K Q else (∀ f,o.about P w a.eval=some f→F.fn f)∧K (a.put o.dst undef) w) (hr:StepsI F n P ops Q I (i+1) r):StepsI F n P ops Q I i (o::r):=⟨h,hr⟩
theorem StepsI.at_ {I:(Nat→Bool)→Act→World→Prop}:∀ {l:List Oper} {k:Nat},StepsI F n P ops Q I k l→∀ (i:Nat) (o:Oper),l[i]? = some o →
 ∀ (d:Nat→Bool) (a:Act) (w:World) (K:Act→World→Prop),Closed ops d→d (k+i)=false→(∀ e ∈ o.after.toList,Region.binds .any e=true→d e.on=true)→I d a w→Shut (∀ a' w',I (upd d (k+i)) a' w'→K a' w') →
  if Region.wanted o (yielded ops a.tmps)=true then Oper.wpIn F n P o a w K Q else (∀ f,o.about P w a.eval=some f→F.fn f)∧K (a.put o.dst undef) w
 | [],_,_,i,o,ho=>by simp at ho
 | x::r,k,h,0,o,ho=>by simp at ho;subst ho;exact h.1
 | x :: r, k, h, i + 1, o, ho => by
   have:=h.2.at_ i o (by simpa using ho);rw [show k+(i+1)=k+1+i by omega];exact this
theorem wpAnyIn_invA {I:(Nat→Bool)→Act→World→Prop} (hl:lowerA ops=true) (hs:StepsI F n P ops Q I 0 ops.toList)
 (he:∀ d a w,(∀ j,j<ops.size→d j=true)→I d a w→Q .normal a w) :
 ∀ (fuel:Nat) (listed:Array Bool) (a:Act) (w:World),listed.size=ops.size→unl listed≤fuel→Closed ops (fun j=>listed.getD j false)→I (fun j=>listed.getD j false) a w→wpAnyIn F n P .any ops Q fuel listed a w:=by
 intro fuel
 induction fuel with
 | zero =>
   intro listed a w hsz hu hc hI
   have hall:∀ j,j<ops.size→listed.getD j false=true:=by
    intro j hj;have hjs:j<listed.size:=by omega
    cases hd:listed.getD j false with
    | true=>rfl
    | false =>
      exfalso
      have h1:=count_set_true listed.toList j (by simp only [Array.getD,hjs,dite_true] at hd;simp [hjs];exact hd);unfold unl at hu;omega
   have hr:Region.ready .any ops listed=[]:=by
    apply List.eq_nil_iff_forall_not_mem.2;intro j hj;obtain ⟨h0,o,ho,_⟩:=mem_ready.1 hj;have hlt:j<ops.size:=(Array.getElem?_eq_some_iff.1 ho).1;have hjs:j<listed.size:=by omega
    have:=hall j hlt;simp only [Array.getD,hjs,dite_true] at this h0;rw [this] at h0;cases h0
   exact ⟨hr,he _ _ _ hall hI⟩
 | succ fuel ih =>
   intro listed a w hsz hu hc hI;refine ⟨fun hr=>he _ _ _ (all_listedA hl hsz hr) hI,fun i hi => ?_⟩;obtain ⟨h0,o,ho,hall⟩:=mem_ready.1 hi;have hlt:i<ops.size:=(Array.getElem?_eq_some_iff.1 ho).1;have hjs:i<listed.size:=by omega
   have hf:listed[i]=false:=by simpa [Array.getD,hjs] using h0
   refine wpOpIn_one ho (fun K' hK => ?_);refine hs.at_ i o (by rw [Array.getElem?_toList];exact ho) (fun j=>listed.getD j false) a w K' hc (by simpa [Array.getD,hjs] using hf) (fun e he' hb=>hall e (by simpa using he') hb) hI (fun a' w' h'=>hK a' w' ?_);rw [Nat.zero_add] at h';refine ih _ a' w' (by simp [hsz]) ?_ (by rw [getD_upd hjs];exact hc.upd ho hall) (by rw [getD_upd hjs];exact h');have h1:=count_set_true listed.toList i (by simp [hjs,hf]);unfold unl at hu ⊢;rw [Array.toList_setIfInBounds];omega
theorem wpIn_region_invA {id:Nat} {a:Act} {w:World} {l:List Oper} (hm:P.follows .mixedOrders=true) (ho:ops=l.toArray) (hl:lowerA ops=true) (I:Act→World→(Nat→Bool)→Act→World→Prop)
 (hb:I a w (fun _=>false) a w.drew) (hs:StepsI F n P ops Q (I a w) 0 l)
 (he:∀ d a' w',(∀ j,j<ops.size→d j=true)→I a w d a' w'→Q .normal a' w'):(Code.region id ops true).wpIn F n P Q a w:=by
 refine wpIn_region_any hm ?_;refine wpAnyIn_invA (I:=I a w) hl (by rw [ho];rw [ho] at hs;exact hs) he ops.size _ a _ (by simp) (by simp [unl]) ?_ ?_
 all_goals rw [show (fun j=>(Array.replicate ops.size false).getD j false)=fun _=>false by
  funext j
  simp only [Array.getD_eq_getD_getElem?,Array.getElem?_replicate]
  split<;>rfl]
 · intro i o _ h;cases h
 exact hb
end
end
end Go.Proofs.YtkhcblihbalnbaaGreatDoor
