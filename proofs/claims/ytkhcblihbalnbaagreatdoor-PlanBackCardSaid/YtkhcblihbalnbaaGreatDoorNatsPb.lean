import Derived.Test.YtkhcblihbalnbaaGreatDoorKit2Pb
set_option linter.unusedVariables false
set_option linter.unusedSimpArgs false
namespace Go.Proofs.YtkhcblihbalnbaaGreatDoor
open Go.RowKit
theorem nat_info:(Tryz.prog.info? 24).map (fun i=>(i.zero,i.size,i.bytes))=some (some (.slice none 0 0),1,24):=by kernel_rfl
structure Nats (w:World) (B g cap n:Nat) (f:Nat→List Nat):Prop where
 ex:∃ vs,w.ownsRow B 24 1 (.slice (some ⟨g,0,none⟩) n cap) n vs∧∀ i,i<n→∃ a m c,vs[i]? = some (.slice a m c)∧OwnAt w B a m c (f i)∧(m=0∨∀ x,a=some x→x.block≠g)
theorem OwnAt.grown {w w':World} {B:Nat} {o:Option Nat} {a:Option Addr} {n c:Nat} {l:List Nat} (h:OwnAt w B a n c l) (hg:w.grownBy w' o) (hne:n=0∨∀ x,a=some x→o≠some x.block):OwnAt w' B a n c l:=by
 cases o with
 | none=>exact h.past ⟨hg.os,hg.tape,hg.output,hg.size,fun k hk=>hg.block k hk (by simp)⟩
 | some b=>exact h.other hg (hne.imp id fun h x hx e=>h x hx (by rw [e]))
theorem below_grown {w w':World} (hb:Below w.heap.size w w') (o:Option Nat):w.grownBy w' o:=⟨hb.os,hb.tape,hb.output,hb.size,fun k hk _=>hb.block k hk⟩
theorem Nats.lt {w:World} {B g cap n:Nat} {f:Nat→List Nat} (h:Nats w B g cap n f):B≤g∧g<w.heap.size:=by
 obtain ⟨vs,h1,_⟩:=h.ex;exact h1.lt g rfl
theorem Nats.past {w w':World} {B g cap n:Nat} {f:Nat→List Nat} (h:Nats w B g cap n f) (hb:Below w.heap.size w w'):Nats w' B g cap n f:=by
 obtain ⟨vs,h1,h2⟩:=h.ex;refine ⟨vs,h1.kept (below_grown hb none) (.inr (by simp [Value.ownBlock])),fun i hi => ?_⟩;obtain ⟨a,m,c,e,ho,hne⟩:=h2 i hi;exact ⟨a,m,c,e,ho.past hb,hne⟩
theorem Nats.congr {w:World} {B g cap n:Nat} {f f':Nat→List Nat} (h:Nats w B g cap n f) (he:∀ i,i<n→f i=f' i):Nats w B g cap n f':=by
 obtain ⟨vs,h1,h2⟩:=h.ex;exact ⟨vs,h1,fun i hi=>he i hi ▸ h2 i hi⟩
theorem Nats.get {w:World} {B g cap n:Nat} {f:Nat→List Nat} (h:Nats w B g cap n f) {i:Nat} (hi:i<n):∃ a m c,w.cell? ⟨g,i,none⟩=some (.slice a m c)∧OwnAt w B a m c (f i)∧(m=0∨∀ x,a=some x→x.block≠g):=by
 obtain ⟨vs,h1,h2⟩:=h.ex;obtain ⟨a,m,c,e,ho,hne⟩:=h2 i hi;exact ⟨a,m,c,by rw [World.ownsRow.cellAt h1 i (by omega),e],ho,hne⟩
theorem OwnAt.ltBlock {w:World} {B:Nat} {a:Option Addr} {n c:Nat} {l:List Nat} (h:OwnAt w B a n c l):n=0∨∀ x,a=some x→x.block<w.heap.size:=by
 rcases h.toNatAt.parts with h0 | ⟨b,o,rfl,hlt,_⟩
 · exact .inl h0
 exact .inr fun x hx=>by cases hx;exact hlt
theorem Nats.push {w w':World} {B g cap n:Nat} {f:Nat→List Nat} (h:Nats w B g cap n f) {vs:List Value} (hr:∀ i,i<n→∃ a m c,vs[i]? = some (.slice a m c)∧OwnAt w B a m c (f i)∧(m=0∨∀ x,a=some x→x.block≠g)) (hvl:vs.length=n)
 {a:Option Addr} {m c:Nat} {l:List Nat} (ha:OwnAt w B a m c l) (hne:m=0∨∀ x,a=some x→x.block≠g) {g' cap':Nat}
 (h1:w'.ownsRow B 24 1 (.slice (some ⟨g',0,none⟩) (n+1) cap') (n+1) (vs ++ [.slice a m c])) (hg:w.grownBy w' (some g)) (hgg:g'=g∨g'=w.heap.size):Nats w' B g' cap' (n+1) (fun i=>if i=n then l else f i):=by
 refine ⟨_,h1,fun i hi => ?_⟩
 have key:∀ {a:Option Addr} {m c:Nat} {l:List Nat},OwnAt w B a m c l→(m=0∨∀ x,a=some x→x.block≠g)→OwnAt w' B a m c l∧(m=0∨∀ x,a=some x→x.block≠g'):=fun ho hn=>by
  refine ⟨ho.grown hg (hn.imp id fun h x hx e=>h x hx (Option.some.inj e).symm),?_⟩;rcases hgg with rfl | rfl
  · exact hn
  exact ho.ltBlock.imp id fun h x hx=>Nat.ne_of_lt (h x hx)
 by_cases e:i=n
 · subst e;simp only [if_true];obtain ⟨k1,k2⟩:=key ha hne;exact ⟨a,m,c,by rw [List.getElem?_append_right (by omega),hvl,Nat.sub_self];rfl,k1,k2⟩
 simp only [if_neg e];obtain ⟨a',m',c',e',ho,hn⟩:=hr i (by omega);obtain ⟨k1,k2⟩:=key ho hn;exact ⟨a',m',c',by rw [List.getElem?_append_left (by omega)];exact e',k1,k2⟩
theorem step_push {P:Program} {w:World} {ops:Array Oper} {o:Oper} {a:Act} {K:Act→World→Prop} {Q:Exit→Act→World→Prop} {E0:Prop} (hgd:o.guard=none) (s x:Operand) (T E:TypeId)
 (ho:o.op = .call { callee:=.builtin .append,args:=#[s,x],argTypes:=#[T,T] })
 (base:Nat) (i:TypeInfo) (ht:P.underlying T=some (.slice E)) (hi:P.info? E=some i) (hz:i.zero=some (.slice none 0 0)) (hsize:i.size=1) (hby:i.bytes=24)
 (g cap n:Nat) (xs:List Value) (hs:a.eval s = .slice (some ⟨g,0,none⟩) n cap) (hown:w.ownsRow base E 1 (.slice (some ⟨g,0,none⟩) n cap) n xs)
 (ad:Addr) (u:Value) (hx:a.eval x = .slice (some ad) 1 1) (hu:w.cell? (ad.add 0)=some u) (h1:u.oneCell'=true) (hsz:n≤1000000) (hbase:base≤w.heap.size)
 (h:∀ g' c' w',w'.ownsRow base E 1 (.slice (some ⟨g',0,none⟩) (n+1) c') (n+1) (xs ++ [u])→w.grownBy w' (some g)→(g'=g∨g'=w.heap.size)→K (a.put o.dst (.slice (some ⟨g',0,none⟩) (n+1) c')) w') :
 if Region.wanted o (yielded ops a.tmps)=true then Oper.wp P o a w K Q else E0:=by
 rw [if_pos (by simp [Region.wanted,hgd])]
 obtain ⟨v',w',hr,h2,h3,h4,h5⟩:=run_append_own_at (P:=P) w base T o.type E i (.slice none 0 0) 1 24 ht hi hz hsize hby rfl (by decide) _ n xs hown ad 1 1 [u] rfl
  (fun j y hj=>by match j,hj with | 0,hj=>simp at hj;subst hj;exact hu) (fun y hy=>by simp at hy;subst hy;exact h1) (by simp only [maxLen];omega) (by omega) hbase
 unfold Oper.wp execOp;simp only [ho,resolve,invoke,builtin,Sem.run_bind,Sem.run_pure,Result.andThen_ok,List.map_toArray,List.map_cons,List.map_nil,hs,hx,hr];rcases h2.2 with ⟨_,hn⟩ | ⟨g',cap',cur,rfl,_⟩
 · omega
 refine h g' cap' w' h2 h3 ?_
 simpa [Value.ownBlock] using h5
structure Pushed (w:World) (B g:Nat) (w':World) (g' cap' n:Nat) (f:Nat→List Nat):Prop where
 row:Nats w' B g' cap' n f
 grown:w.grownBy w' (some g)
 where_:g'=g∨g'=w.heap.size
theorem step_push_nats {w:World} {ops:Array Oper} {o:Oper} {a:Act} {K:Act→World→Prop} {Q:Exit→Act→World→Prop} {E0:Prop} (hgd:o.guard=none) (s x:Operand)
 (ho:o.op = .call { callee:=.builtin .append,args:=#[s,x],argTypes:=#[114,114] })
 (B g cap n:Nat) (f:Nat→List Nat) (hs:a.eval s = .slice (some ⟨g,0,none⟩) n cap) (h:Nats w B g cap n f)
 (bx:Nat) (am:Option Addr) (m c:Nat) (l:List Nat) (hx:a.eval x = .slice (some ⟨bx,0,none⟩) 1 1) (hu:w.cell? ⟨bx,0,none⟩=some (.slice am m c)) (hl:OwnAt w B am m c l) (hne:m=0∨∀ x,am=some x→x.block≠g) (hsz:n≤1000000)
 (hK:∀ g' c' w',Pushed w B g w' g' c' (n+1) (fun i=>if i=n then l else f i)→K (a.put o.dst (.slice (some ⟨g',0,none⟩) (n+1) c')) w') :
 if Region.wanted o (yielded ops a.tmps)=true then Oper.wp Tryz.prog o a w K Q else E0:=by
 obtain ⟨i0,hi,hz,hsize,hby⟩:=info_parts nat_info;obtain ⟨vs,h1,h2⟩:=h.ex;refine step_push (P:=Tryz.prog) hgd s x 114 24 ho B i0 Tryz.underlying114 hi hz hsize hby g cap n vs hs h1 ⟨bx,0,none⟩ (.slice am m c) hx hu rfl hsz (nTr h.lt.1 (nOf h.lt.2)) ?_;intro g' c' w' k1 k2 k3;exact hK g' c' w' ⟨h.push h2 (by have:=h1.1;omega) hl hne k1 k2 k3,k2,k3⟩
theorem Pushed.below {w w0:World} {B g:Nat} {w':World} {g' cap' n:Nat} {f:Nat→List Nat} (h:Pushed w B g w' g' cap' n f) (hb:Below B w0 w) (hB:B≤w.heap.size) (hg:B≤g):Below B w0 w' :=
 hb.grown h.grown hB (fun k e=>by cases e;exact hg)
theorem wpList_push_nats {w:World} {ops:Array Oper} {rest:List Oper} {o:Oper} {a:Act} {Q:Exit→Act→World→Prop} (hgd:o.guard=none) (s x:Operand)
 (ho:o.op = .call { callee:=.builtin .append,args:=#[s,x],argTypes:=#[114,114] })
 (B g cap n:Nat) (f:Nat→List Nat) (hs:a.eval s = .slice (some ⟨g,0,none⟩) n cap) (h:Nats w B g cap n f)
 (bx:Nat) (am:Option Addr) (m c:Nat) (l:List Nat) (hx:a.eval x = .slice (some ⟨bx,0,none⟩) 1 1) (hu:w.cell? ⟨bx,0,none⟩=some (.slice am m c)) (hl:OwnAt w B am m c l) (hne:m=0∨∀ x,am=some x→x.block≠g) (hsz:n≤1000000)
 (hK:∀ g' c' w',Pushed w B g w' g' c' (n+1) (fun i=>if i=n then l else f i)→wpList Tryz.prog ops Q rest (a.put o.dst (.slice (some ⟨g',0,none⟩) (n+1) c')) w') :
 wpList Tryz.prog ops Q (o::rest) a w:=by
 refine wpList_plain hgd fun K hK2 => ?_
 have h9:=step_push_nats (ops:=ops) (K:=K) (Q:=Q) (E0:=True) hgd s x ho B g cap n f hs h bx am m c l hx hu hl hne hsz (fun g' c' w' hp=>hK2 _ _ (hK g' c' w' hp));rw [if_pos (by simp [Region.wanted,hgd])] at h9;exact h9
theorem lit_cell (w:World) (x:Value) (E:Nat):(w.alloc (.cells #[x] E)).cell? ⟨w.heap.size,0,none⟩=some x:=by rw [World.cell?_alloc_at _ _ _ _ rfl];rfl
theorem OwnAt.apart {w:World} {B g:Nat} {a:Option Addr} {n c:Nat} {l:List Nat} (h:OwnAt w B a n c l) (hg:g<B):n=0∨∀ x,a=some x→x.block≠g:=by
 rcases h.own with h0 | ⟨b,o,rfl,hb,_⟩
 · exact .inl h0
 exact .inr fun x hx=>by cases hx;show b≠g;omega
end Go.Proofs.YtkhcblihbalnbaaGreatDoor
