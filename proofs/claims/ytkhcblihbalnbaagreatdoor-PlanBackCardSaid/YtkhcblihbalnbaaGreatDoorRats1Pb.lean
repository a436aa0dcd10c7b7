import Derived.Test.YtkhcblihbalnbaaGreatDoorRatio6Pb
import Derived.Test.YtkhcblihbalnbaaGreatDoorNatsPb
set_option linter.unusedVariables false
set_option linter.unusedSimpArgs false
set_option maxHeartbeats 4000000
set_option maxRecDepth 100000
namespace Go.Proofs.YtkhcblihbalnbaaGreatDoor
section
open Go.RowKit
theorem rat_info:(Tryz.prog.info? 28).map (fun i=>(i.zero,i.size,i.bytes))=some (some (.agg #[.bool false,.slice none 0 0,.slice none 0 0]),3,56):=by kernel_rfl
end
section
open Go.RowKit
structure Stays (X:Nat→Prop) (w w':World):Prop where
 size:w.heap.size≤w'.heap.size
 block:∀ (k:Nat) (o:Obj),¬ X k→w.heap[k]? = some o→o.isCells=true→w'.heap[k]? = some o
 calm:∀ (b i:Nat) (x:Int),w.cell? ⟨b,i,none⟩=some (.int .u64 x)→w'.cell? ⟨b,i,none⟩=some (.int .u64 x)
structure Moves (X:Nat→Prop) (w w':World):Prop where
 os:w'.os=w.os
 tape:w'.tape=w.tape
 output:w'.output=w.output
 size:w.heap.size≤w'.heap.size
 block:∀ k,k<w.heap.size→¬ X k→w'.heap[k]? = w.heap[k]?
 same:∀ (k:Nat) (o:Obj),w.heap[k]? = some o→o.isCells=false→w'.heap[k]? = some o
 calm:∀ (b i:Nat) (x:Int),w.cell? ⟨b,i,none⟩=some (.int .u64 x)→w'.cell? ⟨b,i,none⟩=some (.int .u64 x)
variable {X Y:Nat→Prop} {w w' w2:World}
theorem cells_of_cell {b i:Nat} {v:Value} (h:w.cell? ⟨b,i,none⟩=some v):∃ o,w.heap[b]? = some o∧o.isCells=true:=by
 unfold World.cell? at h
 split at h
 · rename_i c e f hb;exact ⟨_,hb,rfl⟩
 cases h
theorem Stays.trans (h:Stays X w w') (k:Stays X w' w2):Stays X w w2 :=
 ⟨nTr h.size k.size,fun i o hx hi ho=>k.block i o hx (h.block i o hx hi ho) ho,fun b i x hc=>k.calm b i x (h.calm b i x hc)⟩
theorem Stays.cell (h:Stays X w w') {b i:Nat} {v:Value} (hb:¬ X b) (q:w.cell? ⟨b,i,none⟩=some v):w'.cell? ⟨b,i,none⟩=some v:=by
 obtain ⟨o,ho,hc⟩:=cells_of_cell q;exact (World.cell?_of_block (w:=w) ((h.block b o hb ho hc).trans ho.symm)).trans q
theorem Stays.box (h:Stays X w w') {b k:Nat} (hb:¬ X b) (x:BoxAt w b k):BoxAt w' b k:=by
 refine ⟨fun i hi => ?_,fun i hi => ?_⟩
 · obtain ⟨v,hv,hu⟩:=x.c i hi;exact ⟨v,h.cell hb hv,hu⟩
 obtain ⟨v,hv,hu⟩:=x.c i hi;obtain ⟨o,ho,hc⟩:=cells_of_cell hv;exact (World.frozen?_of_block (w:=w) (a:=⟨b,i,none⟩) ((h.block b o hb ho hc).trans ho.symm)).trans (x.f i hi)
theorem Stays.ofBelow (h:Below w.heap.size w w'):Stays X w w' :=
 ⟨h.size,fun k o _ hk _=>(h.block k (Array.getElem?_eq_some_iff.1 hk).1).trans hk,fun b i x hc=>(h.cell (p:=⟨b,i,none⟩) (World.block_lt_of_cell? w ⟨b,i,none⟩ hc)).trans hc⟩
theorem Stays.turn {l:Nat} {o:Obj} (o':Obj) (hl:w.heap[l]? = some o) (ho:o.isCells=false):Stays X w (w.putObj l o'):=by
 have hne:∀ k o2,w.heap[k]? = some o2→o2.isCells=true→l≠k:=fun k o2 h2 hc e=>by
  subst e;rw [hl] at h2;cases h2;rw [ho] at hc;cases hc
 refine ⟨by simp,fun k o2 _ hk hc=>(World.putObj_heap_other (hne k o2 hk hc).symm).trans hk,fun b i x hc => ?_⟩;obtain ⟨o2,h2,h3⟩:=cells_of_cell hc;exact (World.cell?_of_block (w:=w) (a:=⟨b,i,none⟩) (World.putObj_heap_other (hne b o2 h2 h3).symm)).trans hc
theorem Moves.stays (h:Moves X w w'):Stays X w w':=⟨h.size,fun k o hx hk _=>(h.block k (Array.getElem?_eq_some_iff.1 hk).1 hx).trans hk,h.calm⟩
theorem Moves.others (h:Moves X w w'):KeepsOthers w w':=⟨h.size,h.same⟩
theorem Moves.refl (X:Nat→Prop) (w:World):Moves X w w:=⟨rfl,rfl,rfl,nRf _,fun _ _ _=>rfl,fun _ _ h _=>h,fun _ _ _ h=>h⟩
theorem Moves.trans (h:Moves X w w') (k:Moves X w' w2):Moves X w w2 :=
 ⟨k.os.trans h.os, k.tape.trans h.tape, k.output.trans h.output, nTr h.size k.size, fun i hi hx => (k.block i (nLt hi h.size) hx).trans (h.block i hi hx),
   fun i o hi ho=>k.same i o (h.same i o hi ho) ho,fun b i x hc=>k.calm b i x (h.calm b i x hc)⟩
theorem Moves.mono (h:Moves X w w') (hxy:∀ k,k<w.heap.size→X k→Y k):Moves Y w w' :=
 ⟨h.os,h.tape,h.output,h.size,fun k hk hy=>h.block k hk (fun hx=>hy (hxy k hk hx)),h.same,h.calm⟩
theorem Moves.then (h:Moves X w w') (k:Moves Y w' w2) (hxy:∀ k,k<w.heap.size→Y k→X k):Moves X w w2 :=
 ⟨k.os.trans h.os, k.tape.trans h.tape, k.output.trans h.output, nTr h.size k.size, fun i hi hx => (k.block i (nLt hi h.size) (fun hy => hx (hxy i hi hy))).trans (h.block i hi hx),
   fun i o hi ho=>k.same i o (h.same i o hi ho) ho,fun b i x hc=>k.calm b i x (h.calm b i x hc)⟩
theorem Moves.ofBelow (h:Below w.heap.size w w'):Moves X w w' :=
 ⟨h.os,h.tape,h.output,h.size,fun k hk _=>h.block k hk,fun k o hk _=>(h.block k (Array.getElem?_eq_some_iff.1 hk).1).trans hk,fun b i x hc=>(h.cell (p:=⟨b,i,none⟩) (World.block_lt_of_cell? w ⟨b,i,none⟩ hc)).trans hc⟩
theorem Moves.below (h:Moves X w w') {B:Nat} (hB:B≤w.heap.size) (hx:∀ k,X k→B≤k):Below B w w' :=
 ⟨h.os,h.tape,h.output,h.size,fun k hk=>h.block k (nLt hk hB) (fun e=>Nat.not_le.2 hk (hx k e))⟩
theorem Moves.set {b i:Nat} {v0:Value} (q:w.cell? ⟨b,i,none⟩=some v0) (hu:notU v0) (v:Value):Moves (fun k=>k=b) w (w.setCell ⟨b,i,none⟩ v) :=
 ⟨rfl, rfl, rfl, by simp, fun k _ hk => heap_setCell_other w ⟨b, i, none⟩ k v hk, (KeepsOthers.setCell w _ v).same, fun b2 i2 x hc => by
   rw [World.cell?_setCell_other _ _ _ _ (fun e => ?_)]
   · exact hc
   rw [e,hc] at q;exact hu _ (Option.some.inj q).symm⟩
theorem Moves.sets {b m:Nat}:∀ (vs:List Value) (o:Nat) (w:World),BoxAt w b m→o+vs.length≤m→(∀ v ∈ vs,notU v)→Moves (fun k=>k=b) w (w.setCells b o vs)
 | [],_,w,_,_,_=>Moves.refl _ w
 | v :: r, o, w, h, hm, hv => by
   obtain ⟨v0,q,hu⟩:=h.c o (by simp at hm;omega);exact (Moves.set q hu v).trans (Moves.sets r (o+1) _ (h.set _ v (hv v (by simp))) (by simp at hm ⊢;omega) (fun x hx=>hv x (by simp [hx])))
theorem NatAt.stays {a:Option Addr} {n c:Nat} {l:List Nat} (g:NatAt w a n c l) (h:Stays X w w'):NatAt w' a n c l :=
 ⟨g.len,g.le,g.cle,g.dig,g.cell.imp id fun ⟨b,o,e,hc⟩=>⟨b,o,e,fun i hi=>h.calm _ _ _ (hc i hi)⟩,g.nilc⟩
theorem IntsAt.stays {a:Option Addr} {n c:Nat} {zs:List Int} (g:IntsAt w a n c zs) (h:Stays X w w') (hb:n=0∨∀ x,a=some x→¬ X x.block):IntsAt w' a n c zs:=by
 refine ⟨g.len,g.le,g.cle,?_,g.nilc,g.wf⟩;rcases g.cell with h0 | ⟨b,o,rfl,hl,hc⟩
 · exact .inl h0
 rcases hb with h0 | hne
 · exact .inl h0
 exact .inr ⟨b,o,rfl,nLt hl h.size,fun i hi=>h.cell (hne _ rfl) (hc i hi)⟩
structure GridAt (w:World) (g c n:Nat) (f:Nat→Rat):Prop where
 le:n≤c
 cle:c≤maxLen
 box:BoxAt w g (c*3)
 at_:∀ i,i<n→∃ a1 n1 c1 a2 n2 c2,w.cell? ⟨g,i*3,none⟩=some (.bool (neg (f i).num))∧w.cell? ⟨g,i*3+1,none⟩=some (.slice a1 n1 c1)∧w.cell? ⟨g,i*3+2,none⟩=some (.slice a2 n2 c2) ∧
  NatAt w a1 n1 c1 (digs (f i).num.natAbs)∧NatAt w a2 n2 c2 (digs (f i).den)
variable {g c n:Nat} {f:Nat→Rat}
theorem GridAt.stays (h:GridAt w g c n f) (hs:Stays X w w') (hg:¬ X g):GridAt w' g c n f:=by
 refine ⟨h.le,h.cle,hs.box hg h.box,fun i hi => ?_⟩;obtain ⟨a1,n1,c1,a2,n2,c2,q0,q1,q2,d1,d2⟩:=h.at_ i hi;exact ⟨a1,n1,c1,a2,n2,c2,hs.cell hg q0,hs.cell hg q1,hs.cell hg q2,d1.stays hs,d2.stays hs⟩
theorem GridAt.past (h:GridAt w g c n f) (hb:Below w.heap.size w w'):GridAt w' g c n f:=h.stays (X:=fun _=>False) (.ofBelow hb) id
theorem GridAt.lt (h:GridAt w g c n f) (hn:0<n):g<w.heap.size:=by
 obtain ⟨v,q,_⟩:=h.box.c 0 (by have:=h.le;omega);exact World.block_lt_of_cell? w ⟨g,0,none⟩ q
theorem GridAt.less {m:Nat} (h:GridAt w g c n f) (hm:m≤n):GridAt w g c m f:=⟨nTr hm h.le,h.cle,h.box,fun i hi=>h.at_ i (nLt hi hm)⟩
theorem GridAt.ext {f':Nat→Rat} (h:GridAt w g c n f) (e:∀ i,i<n→f' i=f i):GridAt w g c n f' :=
 ⟨h.le,h.cle,h.box,fun i hi=>by rw [e i hi];exact h.at_ i hi⟩
theorem GridAt.rats (h:GridAt w g c n f):RatsAt w (some ⟨g,0,none⟩) n c (fun i=>partsOf (f i)):=by
 refine ⟨h.le,h.cle,?_⟩
 by_cases hn:n=0
 · exact .inl hn
 refine .inr ⟨g,0,rfl,h.lt (by omega),fun i hi => ?_⟩;obtain ⟨a1,n1,c1,a2,n2,c2,q0,q1,q2,d1,d2⟩:=h.at_ i hi;exact ⟨a1,n1,c1,a2,n2,c2,by rw [Nat.zero_add];exact q0,by rw [Nat.zero_add];exact q1,by rw [Nat.zero_add];exact q2,d1,d2⟩
theorem GridAt.set (h:GridAt w g c n f) {k:Nat} (hk:k<n) {q:Rat} {a1:Option Addr} {n1 c1:Nat} {a2:Option Addr} {n2 c2:Nat} (d1:NatAt w a1 n1 c1 (digs q.num.natAbs)) (d2:NatAt w a2 n2 c2 (digs q.den)) :
 GridAt (w.setCells g (k*3) [.bool (neg q.num),.slice a1 n1 c1,.slice a2 n2 c2]) g c n (fun i=>if i=k then q else f i)∧Moves (fun b=>b=g) w (w.setCells g (k*3) [.bool (neg q.num),.slice a1 n1 c1,.slice a2 n2 c2]):=by
 have hle:=h.le
 have hu:∀ v ∈ [Value.bool (neg q.num),.slice a1 n1 c1,.slice a2 n2 c2],notU v:=by
  intro v hv;simp only [List.mem_cons,List.not_mem_nil,or_false] at hv;rcases hv with rfl | rfl | rfl
  · exact notU_bool _
  · exact notU_slice _ _ _
  exact notU_slice _ _ _
 have hm:=Moves.sets [.bool (neg q.num),.slice a1 n1 c1,.slice a2 n2 c2] (k*3) w h.box (by simp only [List.length_cons,List.length_nil];omega) hu
 have hin:=World.cell?_setCells_in g [.bool (neg q.num),.slice a1 n1 c1,.slice a2 n2 c2] (k*3) w (fun j hj=>by
  simp only [List.length_cons,List.length_nil] at hj;obtain ⟨v,hv,_⟩:=h.box.c (k*3+j) (by omega);rw [hv];rfl)
 refine ⟨⟨h.le,h.cle,BoxAt.sets _ _ _ _ h.box hu,fun i hi => ?_⟩,hm⟩
 by_cases e:i=k
 · subst e;simp only [if_pos];exact ⟨a1,n1,c1,a2,n2,c2,hin 0 (by simp),hin 1 (by simp),hin 2 (by simp),d1.stays hm.stays,d2.stays hm.stays⟩
 simp only [if_neg e];obtain ⟨a3,n3,c3,a4,n4,c4,q0,q1,q2,e1,e2⟩:=h.at_ i hi
 have out:∀ j,j<3→(w.setCells g (k*3) [.bool (neg q.num),.slice a1 n1 c1,.slice a2 n2 c2]).cell? ⟨g,i*3+j,none⟩=w.cell? ⟨g,i*3+j,none⟩:=fun j hj =>
  World.cell?_setCells_out g _ _ _ _ (fun _ _=>by simp only [List.length_cons,List.length_nil];omega)
 exact ⟨a3,n3,c3,a4,n4,c4,(out 0 (by omega)).trans q0,(out 1 (by omega)).trans q1,(out 2 (by omega)).trans q2,e1.stays hm.stays,e2.stays hm.stays⟩
theorem oper_push_grid {w:World} {o:Oper} {a:Act} {Q:Exit→Act→World→Prop} {K:Act→World→Prop} (s x:Operand)
 (ho:o.op = .call { callee:=.builtin .append,args:=#[s,x],argTypes:=#[78,78] })
 (g c n:Nat) (f:Nat→Rat) (hs:a.eval s = .slice (some ⟨g,0,none⟩) n c) (h:GridAt w g c n f) (hn:1≤n) (bx:Nat) (hx:a.eval x = .slice (some ⟨bx,0,none⟩) 1 1) (q:Rat) (hq:f n=q)
 (hr:RatsAt w (some ⟨bx,0,none⟩) 1 1 (fun _=>partsOf q)) (hsz:n≤1000000)
 (hK:∀ g' c' w',GridAt w' g' c' (n+1) f→Moves (fun k=>k=g) w w'→(g'=g∧c'=c∨g'=w.heap.size∧Below w.heap.size w w')→K (a.put o.dst (.slice (some ⟨g',0,none⟩) (n+1) c')) w') :
 Oper.wp Tryz.prog o a w K Q:=by
 obtain ⟨i0,hi,hz,hsize,hby⟩:=info_parts rat_info;obtain ⟨b',o',e',_,hc⟩:=hr.cell.resolve_left (by decide);cases e';obtain ⟨a1,n1,c1,a2,n2,c2,q0,q1,q2,d1,d2⟩:=hc 0 (by decide);have hle:=h.le
 have hu:∀ v ∈ [Value.bool (neg q.num),.slice a1 n1 c1,.slice a2 n2 c2],notU v:=by
  intro v hv;simp only [List.mem_cons,List.not_mem_nil,or_false] at hv;rcases hv with rfl | rfl | rfl
  · exact notU_bool _
  · exact notU_slice _ _ _
  exact notU_slice _ _ _
 have hnews:∀ j y,[Value.bool (neg q.num),.slice a1 n1 c1,.slice a2 n2 c2][j]? = some y→w.cell? ((⟨bx,0,none⟩:Addr).add j)=some y:=fun j y hj=>by
  rw [Addr.add_lit]
  match j,hj with
  | 0,hj=>(simp at hj;subst hj;exact q0)
  | 1,hj=>(simp at hj;subst hj;exact q1)
  | 2,hj=>(simp at hj;subst hj;exact q2)
 have h1c:∀ y ∈ [Value.bool (neg q.num),.slice a1 n1 c1,.slice a2 n2 c2],y.oneCell'=true:=fun y hy=>by
  simp only [List.mem_cons,List.not_mem_nil,or_false] at hy;rcases hy with rfl | rfl | rfl<;>rfl
 by_cases hroom:n+1≤c
 · have hrun:=run_append_room_cells (P:=Tryz.prog) w 78 o.type 28 i0 Tryz.underlying78 hi g 0 n c ⟨bx,0,none⟩ 1 1 [.bool (neg q.num),.slice a1 n1 c1,.slice a2 n2 c2] (by rw [hsize];rfl) hnews h1c hroom
    (fun j hj => by
      simp only [List.length_cons,List.length_nil] at hj;obtain ⟨v,hv,_⟩:=h.box.c (0+n*3+j) (by omega);rw [hsize,hv];rfl)
    (fun j hj => by
      simp only [List.length_cons,List.length_nil] at hj;rw [hsize];exact h.box.f (0+n*3+j) (by omega))
   rw [hsize,Nat.zero_add] at hrun;have hm:=Moves.sets [.bool (neg q.num),.slice a1 n1 c1,.slice a2 n2 c2] (n*3) w h.box (by simp only [List.length_cons,List.length_nil];omega) hu
   have hin:=World.cell?_setCells_in g [.bool (neg q.num),.slice a1 n1 c1,.slice a2 n2 c2] (n*3) w (fun j hj=>by
    simp only [List.length_cons,List.length_nil] at hj;obtain ⟨v,hv,_⟩:=h.box.c (n*3+j) (by omega);rw [hv];rfl)
   have hdone:=hK g c _ ⟨hroom,h.cle,BoxAt.sets _ _ _ _ h.box hu,fun i hi=>by
    by_cases e:i=n
    · subst e;rw [hq];exact ⟨a1,n1,c1,a2,n2,c2,hin 0 (by simp),hin 1 (by simp),hin 2 (by simp),d1.stays hm.stays,d2.stays hm.stays⟩
    obtain ⟨a3,n3,c3,a4,n4,c4,p0,p1,p2,e1,e2⟩:=h.at_ i (by omega)
    have out:∀ j,j<3→(w.setCells g (n*3) [.bool (neg q.num),.slice a1 n1 c1,.slice a2 n2 c2]).cell? ⟨g,i*3+j,none⟩=w.cell? ⟨g,i*3+j,none⟩:=fun j hj =>
     World.cell?_setCells_out g _ _ _ _ (fun _ _=>by simp only [List.length_cons,List.length_nil];omega)
    exact ⟨a3,n3,c3,a4,n4,c4,(out 0 (by omega)).trans p0,(out 1 (by omega)).trans p1,(out 2 (by omega)).trans p2,e1.stays hm.stays,e2.stays hm.stays⟩⟩ hm (.inl ⟨rfl,rfl⟩)
   unfold Oper.wp execOp;simp only [ho,resolve,invoke,builtin,Sem.run_bind,Sem.run_pure,Result.andThen_ok,List.map_toArray,List.map_cons,List.map_nil,hs,hx,hrun];exact hdone
 obtain ⟨olds,hol,hold⟩:∃ olds:List Value,olds.length=n*3∧∀ j,j<n*3→∃ v,olds[j]? = some v∧w.cell? ⟨g,j,none⟩=some v∧notU v:=by
  refine ⟨(List.range (n*3)).map (fun j=>(w.cell? ⟨g,j,none⟩).getD undef),by simp,fun j hj => ?_⟩;obtain ⟨v,hv,hnu⟩:=h.box.c j (by omega);refine ⟨v,?_,hv,hnu⟩;rw [List.getElem?_map,List.getElem?_range hj];simp [hv]
 have hge:=grownCap_ge w (n+1) c 28;have hcm:grownCap w (n+1) c 28≤maxLen:=grownCap_le_maxLen w (n+1) c _ (by simp only [maxLen];omega);have hfit:Builtin.nextslicecap (n+1) c*i0.bytes≤281474976710656:=by rw [hby];exact growslice_fits (by omega) (by omega)
 have hrun:=run_append_grow (P:=Tryz.prog) w 78 o.type 28 i0 _ Tryz.underlying78 hi hz ⟨g,0,none⟩ n c olds (by rw [hsize,hol])
  (fun j y hj => by
    have hlt:j<n*3:=by rw [← hol];exact (List.getElem?_eq_some_iff.1 hj).1
    obtain ⟨v,e1,e2,_⟩:=hold j hlt;rw [e1] at hj;cases hj;rw [Addr.add_lit,Nat.zero_add];exact e2) ⟨bx,0,none⟩ 1 1 [.bool (neg q.num),.slice a1 n1 c1,.slice a2 n2 c2] (by rw [hsize];rfl) hnews (by omega) (by omega) hfit
 obtain ⟨C,hC⟩:∃ C,grownCap w (n+1) c 28=C:=⟨_,rfl⟩;rw [hC] at hrun hge hcm;obtain ⟨zs,hzs⟩:∃ zs:Array Value,Builtin.zeroCells (Value.cells (.agg #[.bool false,.slice none 0 0,.slice none 0 0])) (C-(n+1))=zs:=⟨_,rfl⟩;have hzn:zs.size=(C-(n+1))*3:=by rw [← hzs,size_zeroCells];rfl
 have hzu:∀ v ∈ zs.toList,notU v:=by
  intro v hv;rw [← hzs] at hv
  have:v = .bool false∨v = .slice none 0 0:=by
   unfold Builtin.zeroCells at hv;rw [Array.toList_map,List.mem_map] at hv;obtain ⟨k,_,rfl⟩:=hv;have h3:k % (Value.cells (.agg #[.bool false,.slice none 0 0,.slice none 0 0])).size<3:=Nat.mod_lt _ (by decide);rcases (by omega:k % (Value.cells (.agg #[.bool false,.slice none 0 0,.slice none 0 0])).size=0∨k % (Value.cells (.agg #[.bool false,.slice none 0 0,.slice none 0 0])).size=1∨k % (Value.cells (.agg #[.bool false,.slice none 0 0,.slice none 0 0])).size=2) with e | e | e<;>rw [e]
   · exact .inl rfl
   · exact .inr rfl
   exact .inr rfl
  rcases this with rfl | rfl
  · exact notU_bool _
  exact notU_slice _ _ _
 rw [hzs] at hrun;have hb:Below w.heap.size w (w.drew.alloc (.cells (olds.toArray ++ #[.bool (neg q.num),.slice a1 n1 c1,.slice a2 n2 c2] ++ zs) 28)):=(bRf _ w).drew.alloc (nRf _) _
 have hcell:∀ j,(w.drew.alloc (.cells (olds.toArray ++ #[.bool (neg q.num),.slice a1 n1 c1,.slice a2 n2 c2] ++ zs) 28)).cell? ⟨w.heap.size,j,none⟩=(olds ++ [.bool (neg q.num),.slice a1 n1 c1,.slice a2 n2 c2] ++ zs.toList)[j]?:=fun j=>by
  have h1:=World.cell?_alloc_at (w:=w.drew) (olds.toArray ++ #[.bool (neg q.num),.slice a1 n1 c1,.slice a2 n2 c2] ++ zs) 28 w.heap.size j rfl;rw [h1,← Array.getElem?_toList];simp
 have hlen:(olds ++ [Value.bool (neg q.num),.slice a1 n1 c1,.slice a2 n2 c2] ++ zs.toList).length=C*3:=by
  simp only [List.length_append,hol,List.length_cons,List.length_nil,Array.length_toList,hzn];omega
 have hfz:∀ j,(w.drew.alloc (.cells (olds.toArray ++ #[.bool (neg q.num),.slice a1 n1 c1,.slice a2 n2 c2] ++ zs) 28)).frozen? ⟨w.heap.size,j,none⟩=false:=fun j=>World.frozen?_alloc_at (w:=w.drew) _ _ w.heap.size j rfl
 generalize w.drew.alloc (.cells (olds.toArray ++ #[.bool (neg q.num),.slice a1 n1 c1,.slice a2 n2 c2] ++ zs) 28)=WN at hrun hb hcell hfz;have hdone:=hK w.heap.size C WN ⟨hge,hcm,⟨fun j hj => ?_,fun j _=>hfz j⟩,fun i hi => ?_⟩ (Moves.ofBelow hb) (.inr ⟨rfl,hb⟩)
 · unfold Oper.wp execOp;simp only [ho,resolve,invoke,builtin,Sem.run_bind,Sem.run_pure,Result.andThen_ok,List.map_toArray,List.map_cons,List.map_nil,hs,hx,hrun];exact hdone
 · rw [hcell];have hj2:j<(olds ++ [Value.bool (neg q.num),.slice a1 n1 c1,.slice a2 n2 c2] ++ zs.toList).length:=by rw [hlen];exact hj
   refine ⟨_,List.getElem?_eq_getElem hj2,?_⟩;have hm:=List.getElem_mem hj2;rcases List.mem_append.1 hm with hm | hm
   · rcases List.mem_append.1 hm with hm | hm
     · obtain ⟨k,hk,e⟩:=List.getElem_of_mem hm;obtain ⟨v,e1,_,hnu⟩:=hold k (by rw [← hol];exact hk);rw [List.getElem?_eq_getElem hk,e] at e1;cases e1;exact hnu
     exact hu _ hm
   exact hzu _ hm
 by_cases e:i=n
 · subst e;rw [hq];refine ⟨a1,n1,c1,a2,n2,c2,?_,?_,?_,d1.past hb,d2.past hb⟩<;>rw [hcell,List.append_assoc,List.getElem?_append_right (by omega),hol]
   · rw [Nat.sub_self];rfl
   · rw [Nat.add_sub_cancel_left];rfl
   rw [Nat.add_sub_cancel_left];rfl
 obtain ⟨a3,n3,c3,a4,n4,c4,p0,p1,p2,e1,e2⟩:=h.at_ i (by omega)
 have same:∀ j,j<3→∀ v,w.cell? ⟨g,i*3+j,none⟩=some v→WN.cell? ⟨w.heap.size,i*3+j,none⟩=some v:=fun j hj v hv=>by
  obtain ⟨u,u1,u2,_⟩:=hold (i*3+j) (by omega);rw [hv] at u2;cases u2;rw [hcell,List.append_assoc,List.getElem?_append_left (by omega)];exact u1
 exact ⟨a3,n3,c3,a4,n4,c4,same 0 (by omega) _ p0,same 1 (by omega) _ p1,same 2 (by omega) _ p2,e1.past hb,e2.past hb⟩
structure Goes (X X':Nat→Prop) (w w':World):Prop where
 st:Stays X w w'
 new:∀ k,k<w.heap.size→X' k→X k
theorem Goes.alloc (X:Nat→Prop) (w:World) (o:Obj):Goes X X w (w.alloc o):=⟨.ofBelow ((bRf _ _).alloc (nRf _) _),fun _ _ h=>h⟩
theorem Goes.below {X:Nat→Prop} {w w':World} (h:Below w.heap.size w w'):Goes X X w w':=⟨.ofBelow h,fun _ _ h=>h⟩
theorem Moves.alloc (X:Nat→Prop) (w:World) (o:Obj):Moves X w (w.alloc o):=.ofBelow ((bRf _ _).alloc (nRf _) _)
theorem Moves.drew (X:Nat→Prop) (w:World):Moves X w w.drew:=.ofBelow (bRf _ _).drew
theorem RatNV.calm {X:Nat→Prop} {w w':World} {q:Rat} {y:Value} (h:RatNV q y w) (hs:Stays X w w'):RatNV q y w':=by
 obtain ⟨a,n,c,a2,n2,c2,e,h,h2⟩:=h;exact ⟨a,n,c,a2,n2,c2,e,h.stays hs,h2.stays hs⟩
def OkN (q:Rat) (y:Value) (w:World):Prop:=∃ a n c a2 n2 c2,y = .tuple #[.agg #[.bool (neg q.num),.slice a n c,.slice a2 n2 c2],.int .i64 0]∧NatAt w a n c (digs q.num.natAbs)∧NatAt w a2 n2 c2 (digs q.den)
theorem OkN.calm {X:Nat→Prop} {w w':World} {q:Rat} {y:Value} (h:OkN q y w) (hs:Stays X w w'):OkN q y w':=by
 obtain ⟨a,n,c,a2,n2,c2,e,h,h2⟩:=h;exact ⟨a,n,c,a2,n2,c2,e,h.stays hs,h2.stays hs⟩
theorem RatsAt.stays {X:Nat→Prop} {w w':World} {g n c:Nat} {f:Nat→Bool×List Nat×List Nat} (h:RatsAt w (some ⟨g,0,none⟩) n c f) (hs:Stays X w w') (hg:¬ X g):RatsAt w' (some ⟨g,0,none⟩) n c f:=by
 refine ⟨h.le,h.cle,h.cell.imp id ?_⟩;rintro ⟨b,o,e,hl,hc⟩;cases e;refine ⟨g,0,rfl,nLt hl hs.size,fun i hi => ?_⟩;obtain ⟨a1,n1,c1,a2,n2,c2,e1,e2,e3,h1,h2⟩:=hc i hi;exact ⟨a1,n1,c1,a2,n2,c2,hs.cell hg e1,hs.cell hg e2,hs.cell hg e3,h1.stays hs,h2.stays hs⟩
def RowN (X:Nat→Prop) (n:Nat) (f:Nat→Bool×List Nat×List Nat) (y:Value) (w:World):Prop:=∃ g,y = .slice (some ⟨g,0,none⟩) n n∧RatsAt w (some ⟨g,0,none⟩) n n f∧0<n∧¬ X g
theorem RowN.goes {X X':Nat→Prop} {w w':World} {n:Nat} {f:Nat→Bool×List Nat×List Nat} {y:Value} (h:RowN X n f y w) (hs:Goes X X' w w'):RowN X' n f y w':=by
 obtain ⟨g,e,h,hn,hx⟩:=h;refine ⟨g,e,h.stays hs.st hx,hn,fun e2=>hx (hs.new g ?_ e2)⟩;rcases h.cell with h0 | ⟨b,o,e,hl,_⟩
 · omega
 cases e;exact hl
theorem RowN.one {X:Nat→Prop} {w:World} (E:Nat) (hX:∀ k,X k→k<w.heap.size) {p:Rat} {a1:Option Addr} {n1 c1:Nat} {b1:Option Addr} {m1 e1:Nat} (d1:NatAt w a1 n1 c1 (digs p.num.natAbs)) (d2:NatAt w b1 m1 e1 (digs p.den)) :
 RowN X 1 (ratsF [p]) (.slice (some ⟨w.heap.size,0,none⟩) 1 1) (w.alloc (.cells #[.bool (neg p.num),.slice a1 n1 c1,.slice b1 m1 e1] E)):=by
 refine ⟨_,rfl,⟨nRf _,by decide,.inr ⟨_,0,rfl,by simp,fun i hi => ?_⟩⟩,by decide,fun h=>Nat.lt_irrefl _ (hX _ h)⟩;obtain rfl:i=0:=by omega
 refine ⟨a1,n1,c1,b1,m1,e1,?_,?_,?_,d1.alloc _,d2.alloc _⟩<;>rw [World.cell?_alloc_at _ _ _ _ rfl]<;>rfl
theorem RowN.two {X:Nat→Prop} {w:World} (E:Nat) (hX:∀ k,X k→k<w.heap.size) {p q:Rat} {a1:Option Addr} {n1 c1:Nat} {b1:Option Addr} {m1 e1:Nat} {a2:Option Addr} {n2 c2:Nat} {b2:Option Addr} {m2 e2:Nat}
 (d1:NatAt w a1 n1 c1 (digs p.num.natAbs)) (d2:NatAt w b1 m1 e1 (digs p.den)) (d3:NatAt w a2 n2 c2 (digs q.num.natAbs)) (d4:NatAt w b2 m2 e2 (digs q.den)) :
 RowN X 2 (ratsF [p,q]) (.slice (some ⟨w.heap.size,0,none⟩) 2 2) (w.alloc (.cells #[.bool (neg p.num),.slice a1 n1 c1,.slice b1 m1 e1,.bool (neg q.num),.slice a2 n2 c2,.slice b2 m2 e2] E)):=by
 refine ⟨_,rfl,?_,by decide,fun h=>Nat.lt_irrefl _ (hX _ h)⟩;exact RatsAt.two (by simp) (by rw [World.cell?_alloc_at _ _ _ _ rfl];rfl) (by rw [World.cell?_alloc_at _ _ _ _ rfl];rfl) (by rw [World.cell?_alloc_at _ _ _ _ rfl];rfl) (by rw [World.cell?_alloc_at _ _ _ _ rfl];rfl) (by rw [World.cell?_alloc_at _ _ _ _ rfl];rfl) (by rw [World.cell?_alloc_at _ _ _ _ rfl];rfl) (d1.alloc _) (d2.alloc _) (d3.alloc _) (d4.alloc _)
theorem RowN.three {X:Nat→Prop} {w:World} (E:Nat) (hX:∀ k,X k→k<w.heap.size) {p q r:Rat} {a1:Option Addr} {n1 c1:Nat} {b1:Option Addr} {m1 e1:Nat} {a2:Option Addr} {n2 c2:Nat} {b2:Option Addr} {m2 e2:Nat} {a3:Option Addr} {n3 c3:Nat} {b3:Option Addr} {m3 e3:Nat}
 (d1:NatAt w a1 n1 c1 (digs p.num.natAbs)) (d2:NatAt w b1 m1 e1 (digs p.den)) (d3:NatAt w a2 n2 c2 (digs q.num.natAbs)) (d4:NatAt w b2 m2 e2 (digs q.den)) (d5:NatAt w a3 n3 c3 (digs r.num.natAbs)) (d6:NatAt w b3 m3 e3 (digs r.den)) :
 RowN X 3 (ratsF [p,q,r]) (.slice (some ⟨w.heap.size,0,none⟩) 3 3) (w.alloc (.cells #[.bool (neg p.num),.slice a1 n1 c1,.slice b1 m1 e1,.bool (neg q.num),.slice a2 n2 c2,.slice b2 m2 e2,.bool (neg r.num),.slice a3 n3 c3,.slice b3 m3 e3] E)):=by
 refine ⟨_,rfl,?_,by decide,fun h=>Nat.lt_irrefl _ (hX _ h)⟩;exact RatsAt.three (by simp) (by rw [World.cell?_alloc_at _ _ _ _ rfl];rfl) (by rw [World.cell?_alloc_at _ _ _ _ rfl];rfl) (by rw [World.cell?_alloc_at _ _ _ _ rfl];rfl) (by rw [World.cell?_alloc_at _ _ _ _ rfl];rfl) (by rw [World.cell?_alloc_at _ _ _ _ rfl];rfl) (by rw [World.cell?_alloc_at _ _ _ _ rfl];rfl) (by rw [World.cell?_alloc_at _ _ _ _ rfl];rfl) (by rw [World.cell?_alloc_at _ _ _ _ rfl];rfl) (by rw [World.cell?_alloc_at _ _ _ _ rfl];rfl) (d1.alloc _) (d2.alloc _) (d3.alloc _) (d4.alloc _) (d5.alloc _) (d6.alloc _)
def BoxN (B:Nat) (X:Nat→Prop) (y:Value) (w:World):Prop:=∃ b,y = .pointer (some ⟨b,0,none⟩)∧BoxAt w b 3∧B≤b∧b<w.heap.size∧¬ X b
theorem BoxN.goes {B:Nat} {X X':Nat→Prop} {w w':World} {y:Value} (h:BoxN B X y w) (hs:Goes X X' w w'):BoxN B X' y w':=by
 obtain ⟨b,e,h,hB,hl,hx⟩:=h;exact ⟨b,e,hs.st.box hx h,hB,nLt hl hs.st.size,fun e2=>hx (hs.new b hl e2)⟩
theorem BoxN.new {B:Nat} {X:Nat→Prop} {w:World} (E:Nat) (hB:B≤w.heap.size) (hX:∀ k,X k→k<w.heap.size):BoxN B X (.pointer (some ⟨w.heap.size,0,none⟩)) (w.alloc (.cells #[.bool false,.slice none 0 0,.slice none 0 0] E)) :=
 ⟨_,rfl,BoxAt.new w _ E (by simp [notU_bool,notU_slice]),hB,by simp,fun h=>Nat.lt_irrefl _ (hX _ h)⟩
def BoxQ (B:Nat) (X:Nat→Prop) (q:Rat) (y:Value) (w:World):Prop:=∃ b a1 n1 c1 a2 n2 c2,y = .pointer (some ⟨b,0,none⟩)∧BoxAt w b 3∧B≤b∧b<w.heap.size∧¬ X b∧w.cell? ⟨b,0,none⟩=some (.bool (neg q.num))∧w.cell? ⟨b,1,none⟩=some (.slice a1 n1 c1)∧w.cell? ⟨b,2,none⟩=some (.slice a2 n2 c2) ∧
 NatAt w a1 n1 c1 (digs q.num.natAbs)∧NatAt w a2 n2 c2 (digs q.den)
theorem BoxAt.setQ {w:World} {b:Nat} (h:BoxAt w b 3) (q:Rat) {a1:Option Addr} {n1 c1:Nat} {a2:Option Addr} {n2 c2:Nat} (d1:NatAt w a1 n1 c1 (digs q.num.natAbs)) (d2:NatAt w a2 n2 c2 (digs q.den)) :
 GridAt (w.setCells b 0 [.bool (neg q.num),.slice a1 n1 c1,.slice a2 n2 c2]) b 1 1 (fun _=>q)∧Moves (fun k=>k=b) w (w.setCells b 0 [.bool (neg q.num),.slice a1 n1 c1,.slice a2 n2 c2]):=by
 have hu:∀ v ∈ [Value.bool (neg q.num),.slice a1 n1 c1,.slice a2 n2 c2],notU v:=by
  intro v hv;simp only [List.mem_cons,List.not_mem_nil,or_false] at hv;rcases hv with rfl | rfl | rfl
  · exact notU_bool _
  · exact notU_slice _ _ _
  exact notU_slice _ _ _
 have hm:=Moves.sets [.bool (neg q.num),.slice a1 n1 c1,.slice a2 n2 c2] 0 w h (by simp only [List.length_cons,List.length_nil];omega) hu
 have hin:=World.cell?_setCells_in b [.bool (neg q.num),.slice a1 n1 c1,.slice a2 n2 c2] 0 w (fun j hj=>by
  simp only [List.length_cons,List.length_nil] at hj;obtain ⟨v,hv,_⟩:=h.c (0+j) (by omega);rw [hv];rfl)
 refine ⟨⟨nRf _,by decide,BoxAt.sets _ _ _ _ h hu,fun i hi => ?_⟩,hm⟩;obtain rfl:i=0:=by omega
 exact ⟨a1,n1,c1,a2,n2,c2,hin 0 (by simp),hin 1 (by simp),hin 2 (by simp),d1.stays hm.stays,d2.stays hm.stays⟩
theorem BoxAt.setQ3 {w:World} {b:Nat} (h:BoxAt w b 3) (q:Rat) {a1:Option Addr} {n1 c1:Nat} {a2:Option Addr} {n2 c2:Nat} (d1:NatAt w a1 n1 c1 (digs q.num.natAbs)) (d2:NatAt w a2 n2 c2 (digs q.den)) :
 ∃ w',((w.setCell ⟨b,0,none⟩ (.bool (neg q.num))).setCell ⟨b,1,none⟩ (.slice a1 n1 c1)).setCell ⟨b,2,none⟩ (.slice a2 n2 c2)=w'∧BoxAt w' b 3∧w'.cell? ⟨b,0,none⟩=some (.bool (neg q.num))∧w'.cell? ⟨b,1,none⟩=some (.slice a1 n1 c1)∧w'.cell? ⟨b,2,none⟩=some (.slice a2 n2 c2) ∧
  NatAt w' a1 n1 c1 (digs q.num.natAbs)∧NatAt w' a2 n2 c2 (digs q.den)∧Moves (fun k=>k=b) w w':=by
 obtain ⟨hg,hm⟩:=h.setQ q d1 d2
 have hin:=World.cell?_setCells_in b [.bool (neg q.num),.slice a1 n1 c1,.slice a2 n2 c2] 0 w (fun j hj=>by
  simp only [List.length_cons,List.length_nil] at hj;obtain ⟨v,hv,_⟩:=h.c (0+j) (by omega);rw [hv];rfl)
 exact ⟨_,rfl,hg.box,hin 0 (by simp),hin 1 (by simp),hin 2 (by simp),d1.stays hm.stays,d2.stays hm.stays,hm⟩
theorem BoxN.store {B:Nat} {X:Nat→Prop} {w:World} {b:Nat} {q:Rat} (h:BoxAt w b 3) (hB:B≤b) (hl:b<w.heap.size) (hx:¬ X b) {a1:Option Addr} {n1 c1:Nat} {a2:Option Addr} {n2 c2:Nat} (d1:NatAt w a1 n1 c1 (digs q.num.natAbs)) (d2:NatAt w a2 n2 c2 (digs q.den)) :
 BoxQ B X q (.pointer (some ⟨b,0,none⟩)) (w.setCells b 0 [.bool (neg q.num),.slice a1 n1 c1,.slice a2 n2 c2]):=by
 obtain ⟨hg,hm⟩:=h.setQ q d1 d2;obtain ⟨x1,x2,x3,x4,x5,x6,q0,q1,q2,e1,e2⟩:=hg.at_ 0 (by decide);exact ⟨b,x1,x2,x3,x4,x5,x6,rfl,hg.box,hB,by rw [size_setCells];exact hl,hx,q0,q1,q2,e1,e2⟩
end
section
open Go.RowKit
theorem GridAt.fill {w:World} {g c k:Nat} {f:Nat→Rat} (h:GridAt w g c k f) (hk:k<c) {q:Rat} (hq:f k=q) {a1:Option Addr} {n1 c1:Nat} {a2:Option Addr} {n2 c2:Nat} (d1:NatAt w a1 n1 c1 (digs q.num.natAbs)) (d2:NatAt w a2 n2 c2 (digs q.den)) :
 ∃ w',((w.setCell ⟨g,k*3,none⟩ (.bool (neg q.num))).setCell ⟨g,k*3+1,none⟩ (.slice a1 n1 c1)).setCell ⟨g,k*3+2,none⟩ (.slice a2 n2 c2)=w'∧GridAt w' g c (k+1) f∧Moves (fun b=>b=g) w w':=by
 have hu:∀ v ∈ [Value.bool (neg q.num),.slice a1 n1 c1,.slice a2 n2 c2],notU v:=by
  intro v hv;simp only [List.mem_cons,List.not_mem_nil,or_false] at hv;rcases hv with rfl | rfl | rfl
  · exact notU_bool _
  · exact notU_slice _ _ _
  exact notU_slice _ _ _
 have hm:=Moves.sets [.bool (neg q.num),.slice a1 n1 c1,.slice a2 n2 c2] (k*3) w h.box (by simp only [List.length_cons,List.length_nil];omega) hu
 have hin:=World.cell?_setCells_in g [.bool (neg q.num),.slice a1 n1 c1,.slice a2 n2 c2] (k*3) w (fun j hj=>by
  simp only [List.length_cons,List.length_nil] at hj;obtain ⟨v,hv,_⟩:=h.box.c (k*3+j) (by omega);rw [hv];rfl)
 refine ⟨w.setCells g (k*3) [.bool (neg q.num),.slice a1 n1 c1,.slice a2 n2 c2],rfl,⟨hk,h.cle,BoxAt.sets _ _ _ _ h.box hu,fun i hi => ?_⟩,hm⟩
 by_cases e:i=k
 · subst e;rw [hq];exact ⟨a1,n1,c1,a2,n2,c2,hin 0 (by simp),hin 1 (by simp),hin 2 (by simp),d1.stays hm.stays,d2.stays hm.stays⟩
 obtain ⟨a3,n3,c3,a4,n4,c4,q0,q1,q2,e1,e2⟩:=h.at_ i (by omega)
 have out:∀ j,j<3→(w.setCells g (k*3) [.bool (neg q.num),.slice a1 n1 c1,.slice a2 n2 c2]).cell? ⟨g,i*3+j,none⟩=w.cell? ⟨g,i*3+j,none⟩:=fun j hj =>
  World.cell?_setCells_out g _ _ _ _ (fun _ _=>by simp only [List.length_cons,List.length_nil];omega)
 exact ⟨a3,n3,c3,a4,n4,c4,(out 0 (by omega)).trans q0,(out 1 (by omega)).trans q1,(out 2 (by omega)).trans q2,e1.stays hm.stays,e2.stays hm.stays⟩
theorem madeRat_notU (n:Nat):∀ v ∈ (madeCells (Value.cells (.agg #[.bool false,.slice none 0 0,.slice none 0 0])) n).toList,notU v:=by
 intro v hv
 have:v = .bool false∨v = .slice none 0 0:=by
  unfold madeCells at hv;rw [Array.toList_map,List.mem_map] at hv;obtain ⟨k,_,rfl⟩:=hv;have h3:k % (Value.cells (.agg #[.bool false,.slice none 0 0,.slice none 0 0])).size<3:=Nat.mod_lt _ (by decide);rcases (by omega:k % (Value.cells (.agg #[.bool false,.slice none 0 0,.slice none 0 0])).size=0∨k % (Value.cells (.agg #[.bool false,.slice none 0 0,.slice none 0 0])).size=1∨k % (Value.cells (.agg #[.bool false,.slice none 0 0,.slice none 0 0])).size=2) with e | e | e<;>rw [e]
  · exact .inl rfl
  · exact .inr rfl
  exact .inr rfl
 rcases this with rfl | rfl
 · exact notU_bool _
 exact notU_slice _ _ _
theorem w64_in (n:Int) (h:-9223372036854775808≤n∧n≤9223372036854775807):wrap64 n=n:=by unfold wrap64;omega
theorem GridAt.made {w:World} {B g m:Nat} (h:w.ownsRow B 28 3 (.slice (some ⟨g,0,none⟩) m m) m (madeCells (Value.cells (.agg #[.bool false,.slice none 0 0,.slice none 0 0])) (m*3)).toList) (hm:m≤maxLen) (f:Nat→Rat):GridAt w g m 0 f:=by
 refine ⟨Nat.zero_le _,hm,⟨fun i hi => ?_,fun i hi=>World.ownsRow.frozenAt h i⟩,fun i hi=>absurd hi (Nat.not_lt_zero i)⟩;have h1:=World.ownsRow.cellAt h i (by omega);have hl:i<(madeCells (Value.cells (.agg #[.bool false,.slice none 0 0,.slice none 0 0])) (m*3)).toList.length:=by rw [Array.length_toList,size_madeCells];exact hi
 rw [List.getElem?_eq_getElem hl] at h1;exact ⟨_,h1,madeRat_notU _ _ (List.getElem_mem hl)⟩
theorem gat_any (n i k m g:Nat) (w:World) (hn:n≤1000) (hi:i≤n) (hk:k≤n) (hm:m=(n+1)*(n+1)) :
 Calls Tryz.prog 246 #[.agg #[.int .i64 (n:Int),.slice (some ⟨g,0,none⟩) m m],.int .i64 (i:Int),.int .i64 (k:Int)] w (RetVal w (.pointer (some ⟨g,(i*(n+1)+k)*3,none⟩))):=by
 obtain ⟨N,hN⟩:∃ N,n+1=N:=⟨_,rfl⟩;have h1:i*N≤n*N:=Nat.mul_le_mul_right N hi
 have h3:n*N≤1001000:=by
  have h:=Nat.mul_le_mul hn (show N≤1001 by omega);omega
 have h4:N*N=n*N+N:=by rw [← hN,Nat.succ_mul]
 rw [hN] at hm ⊢;obtain ⟨D,hD⟩:∃ D,i*N=D:=⟨_,rfl⟩;obtain ⟨E,hE⟩:∃ E,n*N=E:=⟨_,rfl⟩;obtain ⟨F,hF⟩:∃ F,N*N=F:=⟨_,rfl⟩;rw [hD,hE] at h1;rw [hF,hE] at h4;rw [hE] at h3;rw [hF] at hm;rw [hD];obtain ⟨G,hG⟩:∃ G,D+k=G:=⟨_,rfl⟩;rw [hG];have hlt:G<m:=by omega
 have h0:(0:Int)≤(G:Int):=by omega
 have hw:wrap64 (wrap64 ((i:Int)*wrap64 ((n:Int)+1))+(k:Int))=(G:Int):=by
  rw [w64_in ((n:Int)+1) ⟨by omega,by omega⟩];have e:(i:Int)*((n:Int)+1)=(D:Int):=by rw [← hD,← hN,Int.natCast_mul,Int.natCast_add,Int.natCast_one]
  have e2:wrap64 (D:Int)=(D:Int):=w64_in _ ⟨by omega,by omega⟩;have e3:(D:Int)+(k:Int)=(G:Int):=by omega
  rw [e,e2,e3];exact w64_in _ ⟨by omega,by omega⟩
 clear hD hE hF hN h1 h3 h4 hG hm hn hi hk;have HW:=hiD hw;clear hw
 go_enter Tryz.func246,Tryz.ntmps246
 have hw:=HW.out
 go_wp2
 go_ret
 exact ⟨rfl,(bRf _ _).alloc (nRf _) _⟩
end
section
open Go.RowKit
theorem notU_func (f:Fn) (a b:Array Value):notU (.func f a b):=fun _ e=>by cases e
theorem notU_nil:notU .nilFunc:=fun _ e=>by cases e
theorem BoxAt.one {w:World} {b:Nat} (h:BoxAt w b 1):∃ v0,w.cell? ⟨b,0,none⟩=some v0∧w.frozen? ⟨b,0,none⟩=false∧notU v0:=by
 obtain ⟨v0,h0,u0⟩:=h.c 0 (by decide);exact ⟨v0,h0,h.f 0 (by decide),u0⟩
def BoxK (B k:Nat) (X:Nat→Prop) (y:Value) (w:World):Prop:=∃ b,y = .pointer (some ⟨b,0,none⟩)∧BoxAt w b k∧B≤b∧b<w.heap.size∧¬ X b
theorem BoxK.goes {B k:Nat} {X X':Nat→Prop} {w w':World} {y:Value} (h:BoxK B k X y w) (hs:Goes X X' w w'):BoxK B k X' y w':=by
 obtain ⟨b,e,h,hB,hl,hx⟩:=h;exact ⟨b,e,hs.st.box hx h,hB,nLt hl hs.st.size,fun e2=>hx (hs.new b hl e2)⟩
theorem BoxK.new {B k:Nat} {X:Nat→Prop} {w:World} (cs:Array Value) (E:Nat) (hk:cs.size=k) (hc:∀ v ∈ cs.toList,notU v) (hB:B≤w.heap.size) (hX:∀ k,X k→k<w.heap.size):BoxK B k X (.pointer (some ⟨w.heap.size,0,none⟩)) (w.alloc (.cells cs E)):=by
 subst hk;exact ⟨_,rfl,BoxAt.new w _ E hc,hB,by simp,fun h=>Nat.lt_irrefl _ (hX _ h)⟩
theorem BoxK.set {B k:Nat} {X:Nat→Prop} {w:World} {y:Value} (h:BoxK B k X y w) (p:Addr) {v:Value} (hv:notU v):BoxK B k X y (w.setCell p v):=by
 obtain ⟨b,e,h,hB,hl,hx⟩:=h;exact ⟨b,e,h.set p v hv,hB,by simpa using hl,hx⟩
theorem BoxK.ne {B k:Nat} {X:Nat→Prop} {w:World} {y:Value} (h:BoxK B k X y w):y ≠ .pointer (some ⟨w.heap.size,0,none⟩):=by
 obtain ⟨b,rfl,_,_,hl,_⟩:=h;intro e;cases e;exact Nat.lt_irrefl _ hl
def BoxS (B:Nat) (X:Nat→Prop) (y v:Value) (w:World):Prop:=∃ b,y = .pointer (some ⟨b,0,none⟩)∧BoxAt w b 1∧B≤b∧b<w.heap.size∧¬ X b∧w.cell? ⟨b,0,none⟩=some v
theorem BoxS.stays {B:Nat} {X Y:Nat→Prop} {w w':World} {y v:Value} (h:BoxS B X y v w) (hs:Stays Y w w') (hy:∀ b,y = .pointer (some ⟨b,0,none⟩)→¬ Y b):BoxS B X y v w':=by
 obtain ⟨b,e,h,hB,hl,hx,q⟩:=h;exact ⟨b,e,hs.box (hy b e) h,hB,nLt hl hs.size,hx,hs.cell (hy b e) q⟩
def Box2 (B:Nat) (X:Nat→Prop) (y v:Value) (w:World):Prop:=∃ b c0 c1,y = .pointer (some ⟨b,0,none⟩)∧v = .agg #[c0,c1]∧BoxAt w b 2∧B≤b∧b<w.heap.size∧¬ X b∧w.cell? ⟨b,0,none⟩=some c0∧w.cell? ⟨b,1,none⟩=some c1
def GrV (n m:Nat) (f:Nat→Rat) (y:Value) (Z:Nat→Prop) (w:World):Prop:=∃ g,y = .agg #[.int .i64 (n:Int),.slice (some ⟨g,0,none⟩) m m]∧GridAt w g m m f∧∀ k,Z k ↔ k=g
theorem GrV.stays {n m:Nat} {f:Nat→Rat} {y:Value} {Y Z:Nat→Prop} {w w':World} (h:GrV n m f y Z w) (hs:Stays Y w w') (hz:∀ k,Z k→¬ Y k):GrV n m f y Z w':=by
 obtain ⟨g,e,h,i⟩:=h;exact ⟨g,e,h.stays hs (hz g ((i g).2 rfl)),i⟩
theorem GrV.past {n m:Nat} {f:Nat→Rat} {y:Value} {Z:Nat→Prop} {w w':World} (h:GrV n m f y Z w) (hb:Below w.heap.size w w'):GrV n m f y Z w':=h.stays (Y:=fun _=>False) (.ofBelow hb) (fun _ _=>id)
theorem store1B {w:World} {b:Nat} (x:BoxAt w b 1) {v:Value} (hv:notU v):BoxAt (w.setCell ⟨b,0,none⟩ v) b 1∧(w.setCell ⟨b,0,none⟩ v).cell? ⟨b,0,none⟩=some v∧Moves (fun k=>k=b) w (w.setCell ⟨b,0,none⟩ v):=by
 obtain ⟨v0,z0,_,u0⟩:=x.one;exact ⟨x.set _ _ hv,World.cell?_setCell_same _ _ _ z0,Moves.set z0 u0 v⟩
theorem store2B {w:World} {b:Nat} (x:BoxAt w b 2) {v u:Value} (hv:notU v) (hu:notU u):BoxAt ((w.setCell ⟨b,0,none⟩ v).setCell ⟨b,1,none⟩ u) b 2∧((w.setCell ⟨b,0,none⟩ v).setCell ⟨b,1,none⟩ u).cell? ⟨b,0,none⟩=some v∧((w.setCell ⟨b,0,none⟩ v).setCell ⟨b,1,none⟩ u).cell? ⟨b,1,none⟩=some u ∧
 Moves (fun k=>k=b) w ((w.setCell ⟨b,0,none⟩ v).setCell ⟨b,1,none⟩ u):=by
 obtain ⟨v0,v1,z0,z1,_,_,u0,u1⟩:=x.two;have z1':(w.setCell ⟨b,0,none⟩ v).cell? ⟨b,1,none⟩=some v1:=(World.cell?_setCell_other _ _ _ _ (fun e=>by cases e)).trans z1;refine ⟨(x.set _ _ hv).set _ _ hu,?_,World.cell?_setCell_same _ _ _ z1',(Moves.set z0 u0 v).trans (Moves.set z1' u1 u)⟩;rw [World.cell?_setCell_other _ _ _ _ (fun e=>by cases e)];exact World.cell?_setCell_same _ _ _ z0
end
section
open Go.RowKit Go.Shelf
def HandsY (n:Nat) (P:Program) (gf:Nat) (lb:Array Value) (N:Nat) (Ok:Nat→Array Value→World→Prop) (Fix:World→Prop) (Y:Nat→Prop):Prop :=
 ∀ (l:Nat) (J:Nat→World→Prop) (W:World),(∀ i V V' Z,J i V→Moves Z V V'→(∀ b,Z b→W.heap.size≤b)→J i V')→Fix W →
  (∀ i x W,i<N→J i W→Fix W→Ok i x W→YieldAt Fence.wide (n-1) P l x W fun e W'=>e = .returned (.bool true)∧J (i+1) W'∧Fix W'∧Stays Y W W') →
  J 0 W→CallsIn Fence.wide n P gf (#[.func (.yield l) #[] #[]] ++ lb) W fun e W'=>(∃ v,e = .returned v)∧J N W'∧Fix W'
theorem wpIn_roundsY {P:Program} {n:Nat} {g:Operand} {p:Array Tmp} {assign body:Code} {Q:Exit→Act→World→Prop} {a:Act} {w:World} (h1:1≤n)
 {gf:Nat} {lb:Array Value} (hg:a.eval g = .func (.func gf) #[] lb) (eg:∀ args w,(callFunc gf args).run P w = .ok (.enter gf args) w)
 {N:Nat} {Ok:Nat→Array Value→World→Prop} {Fix:World→Prop} {Y:Nat→Prop} (hps:∀ i x W,Ok i x W→x.size=p.size) (hseq:HandsY (n-1) P gf lb N Ok Fix Y)
 (hF:∀ W W',Fix W→Below W.heap.size W W'→Fix W') (hF2:Turns w.heap.size Fix) (hF0:Fix w)
 (I:Nat→World→Prop) (Mid:Nat→Array Value→Act→World→Prop) (hI:∀ i V V' Z,I i V→Moves Z V V'→(∀ b,Z b→w.heap.size≤b)→I i V') (hI2:∀ i,Turns w.heap.size (I i)) (hM2:∀ i x b,Turns w.heap.size (Mid i x b)) (h0:I 0 w)
 (hassign : ∀ (l i : Nat) (x : Array Value) (W : World), i < N → I i W → Fix W → Ok i x W →
   assign.wpIn (Fence.wide.inRound l) (n-1-1) P (Exit.then (fun b W1=>KeepsOthers W W1∧Fix W1∧Mid i x b W1∧Stays Y W W1) (fun _ _ _=>False)) { tmps:=(p.zip x).foldl (fun t (k,v)=>t.setIfInBounds k v) a.tmps,defers:=[] } W)
 (hbody : ∀ (l i : Nat) (x : Array Value) (b : Act) (W : World) (r : Loop), W.heap[l]? = some (.loop r) → i < N → Fix W → Mid i x b W →
   body.wpIn (Fence.wide.inRound l) (n-1-1) P (fun e _ W'=>e = .normal∧KeepsOthers W W'∧Fix W'∧I (i+1) W'∧Stays Y W W') b W)
 (hdone:∀ (D:Nat) (W:World),w.heap.size≤D→I N W→Fix W→W.heap[D]? = some (.deferred (some []))→Q .normal { a with defers:={ target:=.collected D,args:=#[] }::a.defers } W) :
 (Code.rangeFunc g p assign body).wpIn Fence.wide n P Q a w:=by
 refine wpIn_rangeFunc ?_;intro fn hfn;obtain ⟨rec,hrec⟩:∃ rec:LoopState→Loop,rec=fun st=>{ state:=st,pending:=none,fn,tmps:=a.tmps,params:=p,assign,body,defers:=w.heap.size }:=⟨_,rfl⟩
 obtain ⟨W1,hW1⟩:∃ W1,(w.alloc (.deferred (some []))).alloc (.loop (rec .ready))=W1:=⟨_,rfl⟩;have hal:Below w.heap.size w W1:=by rw [← hW1];exact ((bRf _ w).alloc (nRf _) _).alloc (by simp) _
 have hL1:W1.heap[w.heap.size+1]? = some (.loop (rec .ready)):=by
  rw [← hW1];have:=World.alloc_heap_new (w.alloc (.deferred (some []))) (.loop (rec .ready))
  rwa [World.size_alloc] at this
 have hD1:W1.heap[w.heap.size]? = some (.deferred (some [])):=by
  rw [← hW1];exact (Below.heap_alloc _ _ _ (by simp)).trans (World.alloc_heap_new w _)
 have hst:∀ st,(rec st).state=st:=fun st=>by rw [hrec]
 refine ⟨w.heap.size+1,[{ target:=.collected w.heap.size,args:=#[] }],W1,{ target:=.fn (.func gf) lb,args:=#[.func (.yield (w.heap.size+1)) #[] #[]] },W1,gf,#[.func (.yield (w.heap.size+1)) #[] #[]] ++ lb,W1,?_,?_,?_,?_,fun _=>h1,?_⟩
 · rw [← hW1,hrec];exact run_enterLoop_outer _ _ _ _ _
 · simp only [resolve,hg];simp [go_sem]
 · intro f' _;trivial
 · simp [invoke,go_sem,eg]
 have two:∀ {A B:World} {o:Obj} {k:Nat},A.heap[k]? = some o→Below A.heap.size A B→B.heap[k]? = some o:=fun h hb=>(hb.block _ (Array.getElem?_eq_some_iff.1 h).1).trans h
 refine (hseq (w.heap.size+1) (fun i W=>I i W∧W.heap[w.heap.size+1]? = some (.loop (rec .ready))∧W.heap[w.heap.size]? = some (.deferred (some []))) W1
  (fun i A B Z h hm hz=>⟨hI i A B Z h.1 hm (fun b hb=>nTr hal.size (hz b hb)),hm.same _ _ h.2.1 rfl,hm.same _ _ h.2.2 rfl⟩) (hF _ _ hF0 hal) ?_ ⟨hI 0 w W1 (fun _=>False) h0 (.ofBelow hal) (fun _ h=>h.elim),hL1,hD1⟩).mono ?_
 · rintro i x W hi ⟨hIi,hl,hd⟩ hfix hok
   have hy:(Instr.yield (w.heap.size+1) x).run P W = .ok (.round (w.heap.size+1) fn ((p.zip x).foldl (fun t (k,v)=>t.setIfInBounds k v) a.tmps) assign body) W:=by
    have h:=run_yield (P:=P) (args:=x) hl (by rw [hrec];exact hps _ _ _ hok);rw [hrec] at h;exact h
   refine ⟨fn,_,assign,body,hy,roundIn_of_wpIn hfn ?_⟩;refine wpIn_mono (hassign (w.heap.size+1) i x W hi hIi hfix hok) ?_;rintro e b W2 he;cases e with
   | normal =>
     obtain ⟨hk,hf2,hm,hst2⟩:=he;have hl2:=hk.same _ _ hl rfl;have hd2:=hk.same _ _ hd rfl;refine ⟨_,run_beginRound hl2 (hst _),?_⟩;have hsz:w.heap.size+1<W2.heap.size:=(Array.getElem?_eq_some_iff.1 hl2).1;have hl3:(W2.putObj (w.heap.size+1) (.loop { rec .ready with state:=.busy })).heap[w.heap.size+1]? = some (.loop { rec .ready with state:=.busy }):=World.putObj_heap_same hsz;have hd3:(W2.putObj (w.heap.size+1) (.loop { rec .ready with state:=.busy })).heap[w.heap.size]? = some (.deferred (some [])):=(World.putObj_heap_other (by omega)).trans hd2;refine wpIn_mono (hbody _ i x b _ _ hl3 hi (hF2 W2 _ _ _ hf2 hl2 rfl (Nat.le_succ _)) (hM2 i x b W2 _ _ _ hm hl2 rfl (Nat.le_succ _))) ?_;rintro e2 a3 W3 ⟨rfl,hk3,hf3,hi3,hst3⟩;have hl4:=hk3.same _ _ hl3 rfl;have hd4:=hk3.same _ _ hd3 rfl;have hr:=run_endRound (P:=P) none hl4;refine ⟨_,_,hr,rfl,⟨hI2 _ W3 _ _ _ hi3 hl4 rfl (Nat.le_succ _),?_,(World.putObj_heap_other (by omega)).trans hd4⟩,hF2 W3 _ _ _ hf3 hl4 rfl (Nat.le_succ _),((hst2.trans (.turn _ hl2 rfl)).trans hst3).trans (.turn _ hl4 rfl)⟩;rw [World.putObj_heap_same (Array.getElem?_eq_some_iff.1 hl4).1,hrec];rfl
   | _=>exact he.elim
 rintro e W2 ⟨⟨v,rfl⟩,⟨hi,hl,hd⟩,hf⟩;exact ⟨none,_,by have:=run_endLoop (P:=P) hl (by rw [hst];simp);rw [hrec] at this;exact this,hdone _ _ (nRf _) (hI2 _ _ _ _ _ hi hl rfl (Nat.le_succ _)) (hF2 _ _ _ _ hf hl rfl (Nat.le_succ _)) ((World.putObj_heap_other (by omega)).trans hd)⟩
end
end Go.Proofs.YtkhcblihbalnbaaGreatDoor
