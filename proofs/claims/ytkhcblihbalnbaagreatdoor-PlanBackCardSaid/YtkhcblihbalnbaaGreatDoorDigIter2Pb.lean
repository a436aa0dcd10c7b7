import Derived.Lib.MinMax
import Derived.Test.YtkhcblihbalnbaaGreatDoorLimbs1Pb
set_option linter.unusedVariables false
set_option linter.unusedSimpArgs false
set_option maxHeartbeats 4000000
set_option maxRecDepth 100000
namespace Go.Proofs.YtkhcblihbalnbaaGreatDoor
section
open Go.RowKit Go.Shelf
attribute [local go_sem] Oper.semAt_some
theorem chunk_any (a:Option Addr) (n c:Nat) (w:World) :
 Calls Tryz.prog 127 #[.slice a n c,.int .i64 19] w fun e w'=>e = .returned (.func (.func 169) #[] #[.pointer (some ⟨w.heap.size,0,none⟩),.pointer (some ⟨w.heap.size+1,0,none⟩)]) ∧
  (w.alloc (.cells #[.slice a n c] 31)).alloc (.cells #[.int .i64 19] 3)=w':=by
 have hmf:∀ (fn:Fn) (first cap:Array Value) (w:World),(Instr.makeFunc fn first cap).run Tryz.prog w = .ok (.func fn first cap) w:=fun _ _ _ _=>rfl
 go_enter Tryz.func127,Tryz.ntmps127
 go_wp2
 go_ret
 exact ⟨rfl,rfl⟩
def chk19 (n i:Nat):Nat:=min 19 (n-19*i)
def OkChunk (l:List Nat) (n i:Nat) (x:Array Value) (W:World):Prop:=∃ a',x=#[.slice a' (chk19 n i) (chk19 n i)]∧BytesAt W a' (chk19 n i) (chk19 n i) ((l.drop (19*i)).take (chk19 n i))
def FixChunk (bS bN:Nat) (a:Option Addr) (n c:Nat) (l:List Nat) (W:World):Prop:=W.cell? ⟨bS,0,none⟩=some (.slice a n c)∧W.cell? ⟨bN,0,none⟩=some (.int .i64 19)∧BytesAt W a n c l
theorem FixChunk.past {bS bN:Nat} {a:Option Addr} {n c:Nat} {l:List Nat} {W W':World} (h:FixChunk bS bN a n c l W) (hb:Below W.heap.size W W'):FixChunk bS bN a n c l W' :=
 ⟨(hb.cell (p:=⟨bS,0,none⟩) (World.block_lt_of_cell? W ⟨bS,0,none⟩ h.1)).trans h.1,(hb.cell (p:=⟨bN,0,none⟩) (World.block_lt_of_cell? W ⟨bN,0,none⟩ h.2.1)).trans h.2.1,h.2.2.past hb⟩
theorem slice_from (b o n c k:Nat) (h:k≤n) (hc:n≤c):∃ ad,∀ W,(Instr.slice 31 (.slice (some ⟨b,o,none⟩) n c) (some (.int .i64 (k:Int))) none none).run Tryz.prog W = .ok (.slice ad (n-k) (c-k)) W:=by
 have hel:Tryz.prog.elem 31=5:=by kernel_rfl
 have hun:Tryz.prog.underlying 31=some (.slice (Tryz.prog.elem 31)):=by rw [hel];exact Tryz.underlying31
 have hsz:∀ W,(sizeOf 5).run Tryz.prog W = .ok 1 W:=fun W=>by kernel_rfl
 refine ⟨if c=k then some ⟨b,o,none⟩ else some ⟨b,o+k,none⟩,fun W => ?_⟩;rw [run_slice_l W _ (some ⟨b,o,none⟩) n c hun .i64 (k:Int) (by omega) (by omega),hel,hsz];simp only [Result.andThen,sliced,Int.toNat_natCast,Option.map_some,addr_add,Nat.mul_one]
theorem slice_mid (b o n c k m:Nat) (hm:0<m) (h:k+m≤n) (hc:n≤c):∀ W,(Instr.slice 31 (.slice (some ⟨b,o,none⟩) n c) (some (.int .i64 (k:Int))) (some (.int .i64 ((k:Int)+(m:Int)))) (some (.int .i64 ((k:Int)+(m:Int))))).run Tryz.prog W = .ok (.slice (some ⟨b,o+k,none⟩) m m) W:=by
 have hel:Tryz.prog.elem 31=5:=by kernel_rfl
 have hun:Tryz.prog.underlying 31=some (.slice (Tryz.prog.elem 31)):=by rw [hel];exact Tryz.underlying31
 have hsz:∀ W,(sizeOf 5).run Tryz.prog W = .ok 1 W:=fun W=>by kernel_rfl
 intro W;rw [run_slice_lhm W _ (some ⟨b,o,none⟩) n c hun .i64 .i64 .i64 (k:Int) _ _ (by omega) (by omega) (by omega) (by omega),hel,hsz];have e1:((k:Int)+(m:Int)).toNat=k+m:=by omega
 simp only [Result.andThen,sliced,Int.toNat_natCast,e1];rw [if_neg (by omega)];simp only [Option.map_some,addr_add,Nat.mul_one];rw [Nat.add_sub_cancel_left]
theorem chunk1_hands (bS bN:Nat) (a:Option Addr) (n c:Nat) (l:List Nat) (hn:n≤10000) :
 HandsF 2 Tryz.prog 169 #[.pointer (some ⟨bS,0,none⟩),.pointer (some ⟨bN,0,none⟩)] ((n+18)/19) (OkChunk l n) (FixChunk bS bN a n c l):=by
 intro lp J W hJ hfix hY h0;have hcle:=hfix.2.2.cle;have hle:=hfix.2.2.le;have HY:=hiD hY;have HJ:=hiD hJ;have HF:=hiD hfix;clear hY hJ hfix;refine callsIn_of_wp Tryz.func169 rfl trivial ?_ rfl;simp only [Tryz.ntmps169,List.size_toArray,List.length_cons,List.length_nil,Nat.reduceAdd,Nat.reduceSub,Array.replicate_succ,Array.replicate_zero,List.push_toArray,List.append_toArray,List.nil_append,List.cons_append]
 gi_wp2
 gi_loopw [4] (fun i wr=>∃ m k:Nat,m=19*k∧k≤(n+18)/19∧i = .int .i64 (m:Int)∧J k wr∧FixChunk bS bN a n c l wr) (fun i _=>n-(intOf i).toNat)
 case atStart=>exact ⟨0,0,rfl,Nat.zero_le _,rfl,h0,HF.out⟩
 case round =>
  obtain ⟨m,k,hmk,hkN,rfl,hJm,hfix⟩:=hrel;have qS:=hfix.1;have qN:=hfix.2.1
  by_cases hlt:m<n
  · obtain ⟨b,o,rfl⟩:∃ b o,a=some ⟨b,o,none⟩:=by
     rcases hfix.2.2.cell with h | ⟨b,o,h1,_⟩
     · omega
     exact ⟨b,o,h1⟩
    obtain ⟨E,hE⟩:∃ E,chk19 n k=E:=⟨_,rfl⟩
    have hE1:0<E∧m+E≤n∧min (19:Int) ((n-m:Nat):Int)=(E:Int):=by
     unfold chk19 at hE;omega
    obtain ⟨hE0,hE2,hmin⟩:=hE1;obtain ⟨ad,hs1⟩:=slice_from b o n c m (by omega) hle;have hs2:=slice_mid b o n c m E hE0 hE2 hle;have hw1:IntKind.i64.wrap ((m:Int)+(E:Int))=(m:Int)+(E:Int):=by rw [IntKind.wrap_i64];omega
    have HMK:=hiD hmk;have HKN:=hiD hkN;have HEE:=hiD hE;have HFX:=hiD hfix;have HJM:=hiD hJm;have hm0:0≤(m:Int):=by omega
    clear hmk hkN hE hfix hJm
    gi_wp2_with fail
    refine wpIn_wide.2 ?_
    go_quiet (fail)
    have hbw:Below wr.heap.size wr (wr.drewN nq):=Below.draws (bRf _ _) nq;generalize wr.drewN nq=w2 at *;have hJ2:=HJ.out _ _ _ HJM.out hbw;have hfix:=HFX.out.past hbw;have qS:=hfix.1;have qN:=hfix.2.1
    have hby:BytesAt w2 (some ⟨b,o+m,none⟩) E E ((l.drop m).take E):=by
     have h1:=hfix.2.2.drop (k:=m) (by omega);exact h1.take (by omega) E (nRf _) (by omega)
    have hk1:k<(n+18)/19:=by have:=HMK.out;omega
    have hY1:=HY.out k #[.slice (some ⟨b,o+m,none⟩) E E] w2 hk1 hJ2 hfix ⟨_,by rw [HEE.out],by rw [← HMK.out,HEE.out];exact hby⟩;obtain ⟨fn,tmps,assign,body,hy,hR⟩:=hY1;have HR:=hiD hR;have HK1:=hiD hk1;clear hR hby hfix hJ2 hbw hs1 hmin hk1
    gi_wp2_with (first | (refine HR.out.mono ?_;rintro e W3 ⟨rfl,hJ3,hk3⟩;have qN:=hk3.2.1))
    exact ⟨⟨m+19,k+1,by have:=HMK.out;omega,by have:=HK1.out;omega,by go_num,hJ3,hk3⟩,by simp [intOf]<;>omega⟩
  obtain rfl:k=(n+18)/19:=by omega
  gi_wp2
  go_end0
  exact ⟨⟨_,rfl⟩,hJm,hfix⟩
end
section
open Go.RowKit Go.Shelf
theorem toList_data (s:ByteArray):s.toList=s.data.toList:=by cases s;exact ByteArray.toList_mk _
theorem own_grown5 {w w':World} {B:Nat} {a:Option Addr} {n c:Nat} {l:List Nat} {o:Option Nat} (h:OwnAt w B a n c l) (hg:w.grownBy w' o) (hv:∀ k,o=some k→k<B):OwnAt w' B a n c l:=by
 have hne:∀ b,B≤b→some b≠o:=fun b hb e=>by have:=hv b e.symm;omega
 rcases h.own with h0 | ⟨b,k,rfl,hle,hf⟩
 · exact ⟨⟨h.len,h.le,h.cle,h.dig,.inl h0,h.nilc⟩,.inl h0⟩
 rcases h.toNatAt.parts with h0 | ⟨b',k',e,hlt,hc⟩
 · exact ⟨⟨h.len,h.le,h.cle,h.dig,.inl h0,h.nilc⟩,.inl h0⟩
 cases e;refine ⟨⟨h.len,h.le,h.cle,h.dig,.inr ⟨b,k,rfl,fun i hi => ?_⟩,h.nilc⟩,.inr ⟨b,k,rfl,hle,fun i hi => ?_⟩⟩
 · rw [World.cell?_of_block (w:=w) (hg.block b hlt (hne b hle))];exact hc i hi
 rw [World.frozen?_of_block (w:=w) (hg.block b hlt (hne b hle))];exact hf i hi
theorem cell_turn5 {W:World} {l:Nat} {o:Obj} (o':Obj) {x:Addr} {v:Value} (h:W.cell? x=some v) (hl:W.heap[l]? = some o) (ho:o.isCells=false):(W.putObj l o').cell? x=some v :=
 cell_kept h (grownBy_putObj' W l o') (fun r e=>by cases e;exact ⟨o,hl,ho⟩)
theorem frozen_turn5 {W:World} {l:Nat} {o:Obj} (o':Obj) {x:Addr} {v:Value} (h:W.cell? x=some v) (hl:W.heap[l]? = some o) (ho:o.isCells=false):(W.putObj l o').frozen? x=W.frozen? x :=
 frozen_kept h (grownBy_putObj' W l o') (fun r e=>by cases e;exact ⟨o,hl,ho⟩)
theorem BytesAt.turn {W:World} {l:Nat} {o:Obj} (o':Obj) {a:Option Addr} {n c:Nat} {L:List Nat} (h:BytesAt W a n c L) (hl:W.heap[l]? = some o) (ho:o.isCells=false):BytesAt (W.putObj l o') a n c L :=
 ⟨h.len,h.le,h.cle,h.dig,h.cell.imp id fun ⟨b,k,e,hc⟩=>⟨b,k,e,fun i hi=>cell_turn5 o' (hc i hi) hl ho⟩,h.nilc⟩
theorem OwnAt.turn5 {W:World} {l B:Nat} {o:Obj} (o':Obj) {a:Option Addr} {n c:Nat} {L:List Nat} (h:OwnAt W B a n c L) (hl:W.heap[l]? = some o) (ho:o.isCells=false):OwnAt (W.putObj l o') B a n c L:=by
 refine ⟨⟨h.len,h.le,h.cle,h.dig,h.cell.imp id fun ⟨b,k,e,hc⟩=>⟨b,k,e,fun i hi=>cell_turn5 o' (hc i hi) hl ho⟩,h.nilc⟩,?_⟩;rcases h.own with h0 | ⟨b,k,rfl,hB,hf⟩
 · exact .inl h0
 rcases h.cell with h0 | ⟨b2,k2,e,hc⟩
 · exact .inl h0
 injection e with e
 injection e with e1 e2
 subst e1;subst e2;exact .inr ⟨b,k,rfl,hB,fun i hi=>(frozen_turn5 o' (hc i hi) hl ho).trans (hf i hi)⟩
theorem FixChunk.turn {bS bN:Nat} {a:Option Addr} {n c:Nat} {l:List Nat} {W:World} (h:FixChunk bS bN a n c l W) {k:Nat} {o:Obj} (o':Obj) (hl:W.heap[k]? = some o) (ho:o.isCells=false):FixChunk bS bN a n c l (W.putObj k o') :=
 ⟨cell_turn5 o' h.1 hl ho,cell_turn5 o' h.2.1 hl ho,h.2.2.turn o' hl ho⟩
theorem FixChunk.off {bS bN b:Nat} {a:Option Addr} {n c:Nat} {l:List Nat} {W:World} (h:FixChunk bS bN a n c l W) (v:Value) (h1:bS≠b) (h2:bN≠b) (h3:∀ x,a=some x→x.block≠b):FixChunk bS bN a n c l (W.setCell ⟨b,0,none⟩ v):=by
 have ne:∀ {b2:Nat} (o:Nat),b2≠b→(W.setCell ⟨b,0,none⟩ v).cell? ⟨b2,o,none⟩=W.cell? ⟨b2,o,none⟩:=fun o hne=>World.cell?_setCell_other _ _ _ _ (fun e=>by injection e with e;exact hne e.symm)
 refine ⟨(ne 0 h1).trans h.1,(ne 0 h2).trans h.2.1,h.2.2.len,h.2.2.le,h.2.2.cle,h.2.2.dig,?_,h.2.2.nilc⟩;rcases h.2.2.cell with h0 | ⟨q,o,rfl,hc⟩
 · exact .inl h0
 exact .inr ⟨q,o,rfl,fun i hi=>(ne _ (h3 _ rfl)).trans (hc i hi)⟩
theorem grownBy_setAt (W:World) (b k:Nat) (v:Value):W.grownBy (W.setCell ⟨b,k,none⟩ v) (some b) :=
 ⟨rfl,rfl,rfl,by simp,fun j hj hne=>Below.heap_setCell W ⟨b,k,none⟩ v j (fun e=>hne (by rw [e]))⟩
def GetI (B0 B1:Nat) (w:World) (L:List UInt8) (i:Nat) (W:World):Prop :=
 ∃ a n c,W.cell? ⟨B1,0,none⟩=some (.slice a n c)∧W.frozen? ⟨B1,0,none⟩=false∧OwnAt W (B1+1) a n c (digs (valL 10 (dvals (L.take (19*i)))))∧W.cell? ⟨B0,0,none⟩=some (.int .i64 0)∧W.cell? ⟨B0,1,none⟩=some (.int .i64 0)∧W.frozen? ⟨B0,0,none⟩=false∧W.frozen? ⟨B0,1,none⟩=false∧B0<B1∧B1<W.heap.size∧Below B0 w W
theorem GetI.past {B0 B1:Nat} {w:World} {L:List UInt8} {i:Nat} {W W':World} (h:GetI B0 B1 w L i W) (hb:Below W.heap.size W W'):GetI B0 B1 w L i W':=by
 obtain ⟨a,n,c,k1,k2,k3,k4,k5,k6,k7,k8,k9,k10⟩:=h;have l0:B0<W.heap.size:=by omega
 exact ⟨a,n,c,(hb.cell (p:=⟨B1,0,none⟩) k9).trans k1,(hb.frozen (p:=⟨B1,0,none⟩) k9).trans k2,k3.later hb (nRf _),(hb.cell (p:=⟨B0,0,none⟩) l0).trans k4,(hb.cell (p:=⟨B0,1,none⟩) l0).trans k5,(hb.frozen (p:=⟨B0,0,none⟩) l0).trans k6,(hb.frozen (p:=⟨B0,1,none⟩) l0).trans k7,k8,nLt k9 hb.size,k10.trans (hb.mono (by omega))⟩
theorem GetI.turn {B0 B1:Nat} {w:World} {L:List UInt8} {i:Nat} {W:World} (h:GetI B0 B1 w L i W) {l:Nat} {o:Obj} (o':Obj) (hl:W.heap[l]? = some o) (ho:o.isCells=false) (hB:B0≤l):GetI B0 B1 w L i (W.putObj l o'):=by
 obtain ⟨a,n,c,k1,k2,k3,k4,k5,k6,k7,k8,k9,k10⟩:=h;exact ⟨a,n,c,cell_turn5 o' k1 hl ho,(frozen_turn5 o' k1 hl ho).trans k2,k3.turn5 o' hl ho,cell_turn5 o' k4 hl ho,cell_turn5 o' k5 hl ho,(frozen_turn5 o' k4 hl ho).trans k6,(frozen_turn5 o' k5 hl ho).trans k7,k8,by simpa using k9,k10.trans (below_put o' hB)⟩
theorem GetI.store {B0 B1:Nat} {w:World} {L:List UInt8} {i:Nat} {W W':World} (h:GetI B0 B1 w L i W) (hb:Below W.heap.size W W') {a:Option Addr} {n c:Nat} (h8:OwnAt W' W.heap.size a n c (digs (valL 10 (dvals (L.take (19*(i+1))))))):GetI B0 B1 w L (i+1) (W'.setCell ⟨B1,0,none⟩ (.slice a n c)):=by
 obtain ⟨_,_,_,k1,k2,k3,k4,k5,k6,k7,k8,k9,k10⟩:=h.past hb;have hB1:B1<W.heap.size:=by obtain ⟨_,_,_,_,_,_,_,_,_,_,_,h9,_⟩:=h;exact h9
 have ne:∀ o,(W'.setCell ⟨B1,0,none⟩ (.slice a n c)).cell? ⟨B0,o,none⟩=W'.cell? ⟨B0,o,none⟩:=fun o=>World.cell?_setCell_other _ _ _ _ (fun e=>by injection e with e;omega)
 exact ⟨a,n,c,World.cell?_setCell_same _ _ _ k1,by rw [World.frozen?_setCell];exact k2,own_grown5 (h8.mono (by omega)) (grownBy_setCell' W' B1 _) (fun k e=>by cases e;omega),(ne 0).trans k4,(ne 1).trans k5,by rw [World.frozen?_setCell];exact k6,by rw [World.frozen?_setCell];exact k7,k8,by simpa using k9,k10.setCell (p:=⟨B1,0,none⟩) (by show B0≤B1;omega) _⟩
end
end Go.Proofs.YtkhcblihbalnbaaGreatDoor
