import Derived.BigQuiet
import Derived.Laws.AppendOwn
import Derived.Test.YtkhcblihbalnbaaGreatS0Pl
import Derived.Test.YtkhcblihbalnbaaGreatNumPl
import Derived.Test.YtkhcblihbalnbaaGreatLimbs1Pl
import Derived.Test.YtkhcblihbalnbaaGreatRegPl
set_option linter.unusedVariables false
set_option linter.unusedSimpArgs false
set_option maxHeartbeats 4000000
set_option maxRecDepth 100000
namespace Go.Proofs.YtkhcblihbalnbaaGreat
section
open Go.RowKit
structure WrK (B b:Nat) (w w':World):Prop where
 bw:Below B w w'
 blk:∀ k,k<w.heap.size→k≠b→(∀ cur,w.heap[k]? ≠ some (.cells cur 5 (0,0)))→w'.heap[k]? = w.heap[k]?
structure WrAt (w:World) (B b:Nat) (l:List Nat):Prop where
 v:∃ v,w.cell? ⟨b,0,none⟩=some v∧w.ownsRow B 5 1 v l.length (bv l)
 q1:w.cell? ⟨b,1,none⟩=some (.bool true)
 q2:w.cell? ⟨b,2,none⟩=some (.int .i64 100000)
 q3:w.cell? ⟨b,3,none⟩=some (.int .i64 0)
 fr:∀ i,i<4→w.frozen? ⟨b,i,none⟩=false
 le:B≤b
 dig:∀ d ∈ l,d<256
 ty:∃ cur,w.heap[b]? = some (.cells cur 120 (0,0))
section
variable {w w' w2:World} {B b:Nat} {l:List Nat}
theorem WrK.refl (B b:Nat) (w:World):WrK B b w w:=⟨bRf _ _,fun _ _ _ _=>rfl⟩
theorem WrK.trans (h:WrK B b w w') (k:WrK B b w' w2):WrK B b w w2:=by
 refine ⟨h.bw.trans k.bw,fun i hi hb hc => ?_⟩;have e:=h.blk i hi hb hc;rw [← e];exact k.blk i (nLt hi h.bw.size) hb (fun cur=>by rw [e];exact hc cur)
theorem WrK.past (hB:B≤w.heap.size) (h:Below w.heap.size w w'):WrK B b w w':=⟨h.mono hB,fun k hk _ _=>h.block k hk⟩
theorem WrAt.lt (h:WrAt w B b l):b<w.heap.size:=World.block_lt_of_cell? w ⟨b,1,none⟩ h.q1
theorem WrAt.past (h:WrAt w B b l) (hb:Below w.heap.size w w'):WrAt w' B b l:=by
 have hl:=h.lt;obtain ⟨v,hv,hr⟩:=h.v;obtain ⟨cur,ht⟩:=h.ty;have c:=fun {i:Nat} {v:Value} (q:w.cell? ⟨b,i,none⟩=some v)=>(hb.cell (p:=⟨b,i,none⟩) hl).trans q
 exact ⟨⟨v,c hv,row_past8 hr hb⟩,c h.q1,c h.q2,c h.q3,fun i hi=>(hb.frozen (p:=⟨b,i,none⟩) hl).trans (h.fr i hi),h.le,h.dig,⟨cur,(hb.block b hl).trans ht⟩⟩
theorem WrK.stay (h:WrK B b w w') {k i:Nat} {u:Value} (q:w.cell? ⟨k,i,none⟩=some u) (hk:k≠b) (hu:∀ cur,w.heap[k]? ≠ some (.cells cur 5 (0,0))):w'.cell? ⟨k,i,none⟩=some u :=
 (World.cell?_of_block (w:=w) (a:=⟨k,i,none⟩) (h.blk k (World.block_lt_of_cell? w ⟨k,i,none⟩ q) hk hu)).trans q
end
theorem wnone_any (b:Nat) (w:World) (q1:w.cell? ⟨b,1,none⟩=some (.bool true)) :
 Calls Tryz.prog 98 #[.pointer (some ⟨b,0,none⟩)] w fun e w'=>e = .returned (.bool false)∧w=w':=by
 go_enter Tryz.func98,Tryz.ntmps98
 go_wp2
 go_ret
 exact ⟨rfl,rfl⟩
theorem width_any (n:Nat) (w:World) (h:n=2∨n=4) :
 Calls Tryz.prog 138 #[.int .i64 (n:Int)] w fun e w'=>e = .returned (.bool true)∧w=w':=by
 rcases h with rfl | rfl
 · go_enter Tryz.func138,Tryz.ntmps138
   go_wp2
   go_ret
   exact ⟨rfl,rfl⟩
 go_enter Tryz.func138,Tryz.ntmps138
 go_wp2
 go_ret
 exact ⟨rfl,rfl⟩
theorem newWriter_any (w:World):Calls Tryz.prog 55 #[.int .i64 100000] w fun e w'=>∃ b,e = .returned (.tuple #[.pointer (some ⟨b,0,none⟩),.int .i64 0])∧WrAt w' w.heap.size b []∧Below w.heap.size w w':=by
 go_enter Tryz.func55,Tryz.ntmps55
 go_wp2
 obtain ⟨W,hW,y1,hb,r,f⟩:=box1g w w.heap.size rfl #[.slice none 0 0,.bool true,.int .i64 100000,.int .i64 0] 120;rw [hW];have hh:W.heap[w.heap.size]? = some (.cells #[.slice none 0 0,.bool true,.int .i64 100000,.int .i64 0] 120):=by rw [← hW];exact World.alloc_heap_new w _
 refine bodyPost_ret (v:=.tuple #[.pointer (some ⟨w.heap.size,0,none⟩),.int .i64 0]) ?_ rfl ⟨_,rfl,⟨⟨_,r 0,⟨rfl,.inl ⟨rfl,rfl⟩⟩⟩,r 1,r 2,r 3,fun i _=>f i,nRf _,by simp,⟨_,hh⟩⟩,hb⟩;simp [results,Tryz.f55,go_sem]
theorem wlay_any (B b:Nat) (l m:List Nat) (ad:Addr) (n c:Nat) (w:World) (h:WrAt w B b l) (g:BytesAt w (some ad) n c m) (hn:l.length+n≤100000) :
 Calls Tryz.prog 97 #[.pointer (some ⟨b,0,none⟩),.slice (some ad) n c] w fun e w'=>e = .returned (.int .i64 0)∧WrAt w' B b (l ++ m)∧WrK B b w w':=by
 obtain ⟨i0,hi,hz0,hz1,hz2⟩:=info_parts u8_info;obtain ⟨v,hv,hr⟩:=h.v;have hlen:=g.len;have hB:B≤w.heap.size:=nTr h.le (nOf h.lt)
 go_enter Tryz.func97,Tryz.ntmps97
 obtain ⟨q1,q2,q3,fr⟩:=(⟨h.q1,h.q2,h.q3,h.fr⟩:_∧_∧_∧_);obtain ⟨av,cv,rfl,hle,hcm⟩:=row_shape hr;have hz:=fr 0 (by decide);have t0:decide ((100000:Int)<(l.length:Int)+(n:Int))=false:=decide_eq_false (by omega)
 have hne:some b≠(Value.slice av l.length cv).ownBlock:=by
  intro e;rcases hr.2 with ⟨e2,_⟩ | ⟨g1,cap,cur,e2,_,h2,_⟩
  · obtain ⟨rfl,_,_⟩:=Value.slice.inj e2;cases e
  obtain ⟨rfl,_,_⟩:=Value.slice.inj e2;have e3:b=g1:=by simpa [Value.ownBlock] using e
  obtain ⟨cur2,h3⟩:=h.ty;rw [e3,h2] at h3;exact absurd (Obj.cells.inj (Option.some.inj h3)).2.1 (by decide)
 have HH:=hiD h;have HG:=hiD g;have HR:=hiD hr;have HV:=hiD hv;clear h g hr
 go_wp2_with fail
 go_quiet (fail)
 have hD:Below w.heap.size w (w.drewN nq):=Below.draws (bRf _ _) nq;have hrD:=row_past8 HR.out hD;have gD:=HG.out.past hD
 have hnews:∀ j u,(bv m)[j]? = some u→(w.drewN nq).cell? (ad.add j)=some u:=by
  intro j u hu
  have hj:j<m.length:=by
   have:=(List.getElem?_eq_some_iff.1 hu).1
   rwa [bv_length] at this
  rw [bv_at hj] at hu;cases hu;rcases gD.cell with h0 | ⟨b1,o1,e,hc⟩
  · omega
  cases e;rw [addr_add];exact hc j (by omega)
 have hBD:B≤(w.drewN nq).heap.size:=nTr hB hD.size;have HD:=hiD hD;have vD:(w.drewN nq).cell? ⟨b,0,none⟩=some (.slice av l.length cv):=(hD.cell (p:=⟨b,0,none⟩) HH.out.lt).trans HV.out;have fD:(w.drewN nq).frozen? ⟨b,0,none⟩=false:=(hD.frozen (p:=⟨b,0,none⟩) HH.out.lt).trans hz;have hbD:b<(w.drewN nq).heap.size:=nLt HH.out.lt hD.size;have HK:=hiD (show WrK B b w (w.drewN nq) from .past hB hD);have HW:=hiD (HH.out.past hD);clear hD gD;generalize w.drewN nq=W at *
 go_wp2_with (at_builtin;refine wpList_append_own _ rfl _ _ 54 rfl B 5 i0 (.int .u8 0) 1 1 Tryz.underlying54 hi hz0 hz1 hz2 rfl (by decide) (.slice av l.length cv) l.length (bv l) rfl hrD ad n c (bv m) rfl (by rw [bv_length,hlen,Nat.mul_one]) hnews (bv_one m) (by simp only [maxLen];omega) (by omega) hBD ?_;intro v' w1 hown hgrow hnil;obtain ⟨a',c',rfl,_,_⟩:=row_shape hown;have e1:w1.heap[b]? = W.heap[b]?:=hgrow.block b hbD hne;have v1:=(World.cell?_of_block (w:=W) (a:=⟨b,0,none⟩) e1).trans vD;have f1:=(World.frozen?_of_block (w:=W) (a:=⟨b,0,none⟩) e1).trans fD)
 go_ret
 have hob:∀ k,(Value.slice av l.length cv).ownBlock=some k→B≤k∧∃ cur,W.heap[k]? = some (.cells cur 5 (0,0)):=by
  intro k e;rcases hrD.2 with ⟨e2,_⟩ | ⟨g1,cap,cur,e2,h1,h2,_⟩
  · obtain ⟨rfl,_,_⟩:=Value.slice.inj e2;cases e
  obtain ⟨rfl,_,_⟩:=Value.slice.inj e2;have e3:g1=k:=by simpa [Value.ownBlock] using e
  subst e3;exact ⟨h1,cur,h2⟩
 have hB1:Below B W w1:=⟨hgrow.os,hgrow.tape,hgrow.output,hgrow.size,fun k hk=>hgrow.block k (nLt hk hBD) (fun e=>by have:=(hob k e.symm).1;omega)⟩;have hb1:b<w1.heap.size:=nLt hbD hgrow.size;have hle:=HW.out.le;obtain ⟨W2,hW2⟩:∃ W2,w1.setCell ⟨b,0,none⟩ (.slice a' (l.length+n) c')=W2:=⟨_,rfl⟩;have hB2:Below B w1 W2:=by rw [← hW2];exact (bRf B w1).setCell (p:=⟨b,0,none⟩) hle _
 have hoth:∀ k,k≠b→W2.heap[k]? = w1.heap[k]?:=fun k hk=>by rw [← hW2];exact heap_setCell_other w1 ⟨b,0,none⟩ k _ hk
 have hK1:WrK B b W W2:=⟨hB1.trans hB2,fun k hk hkb hc=>(hoth k hkb).trans (hgrow.block k hk (fun e=>by obtain ⟨_,cur,h⟩:=hob k e.symm;exact hc cur h))⟩
 have other:∀ i,i≠0→W2.cell? ⟨b,i,none⟩=W.cell? ⟨b,i,none⟩:=fun i hi=>by
  rw [← hW2,World.cell?_setCell_other _ _ _ _ (fun e=>hi (by cases e;rfl))];exact World.cell?_of_block (w:=W) (a:=⟨b,i,none⟩) e1
 rw [hW2];refine ⟨rfl,⟨⟨_,by rw [← hW2];exact World.cell?_setCell_same _ _ _ v1,?_⟩,(other 1 (by decide)).trans HW.out.q1,(other 2 (by decide)).trans HW.out.q2,(other 3 (by decide)).trans HW.out.q3,?_,HW.out.le,?_,?_⟩,HK.out.trans hK1⟩
 · obtain ⟨cur2,h3⟩:=HW.out.ty;have e:(l ++ m).length=l.length+n:=by rw [List.length_append,hlen]
   rw [e,bv_append];refine ⟨hown.1,hown.2.imp id ?_⟩;rintro ⟨g1,cap,cur,e2,h1,h2,h4⟩;refine ⟨g1,cap,cur,e2,h1,(hoth g1 (fun e3 => ?_)).trans h2,h4⟩;rw [e3,e1,h3] at h2;exact absurd (Obj.cells.inj (Option.some.inj h2)).2.1 (by decide)
 · intro i hi;rw [← hW2,World.frozen?_setCell];exact (World.frozen?_of_block (w:=W) (a:=⟨b,i,none⟩) e1).trans (HW.out.fr i hi)
 · intro d hd;rcases List.mem_append.1 hd with h | h
   · exact HW.out.dig d h
   exact HG.out.dig d h
 obtain ⟨cur2,h3⟩:=HW.out.ty;exact ⟨_,by rw [← hW2];exact Go.heap_setCell_same w1 b 0 cur2 _ _ (e1.trans h3)⟩
end
section
open Go.RowKit
def beL (n:Nat):Nat→List Nat
 | 0=>[]
 | i+1=>(n/256 ^ i % 256)::beL n i
theorem beL_len (n:Nat):∀ i,(beL n i).length=i
 | 0=>rfl
 | i+1=>by rw [beL,List.length_cons,beL_len n i]
theorem beL_lt (n:Nat):∀ i,∀ d ∈ beL n i,d<256
 | 0=>by simp [beL]
 | i + 1 => by
   intro d hd;rw [beL,List.mem_cons] at hd;rcases hd with rfl | h
   · exact Nat.mod_lt _ (by decide)
   exact beL_lt n i d h
def arr8 (n i:Nat):List Nat:=List.replicate (8-i) 0 ++ beL n i
theorem arr8_len (n i:Nat) (h:i≤8):(arr8 n i).length=8:=by unfold arr8;rw [List.length_append,List.length_replicate,beL_len];omega
theorem arr8_lt (n i:Nat):∀ d ∈ arr8 n i,d<256:=by
 intro d hd;rcases List.mem_append.1 hd with h | h
 · rw [(List.mem_replicate.1 h).2];decide
 exact beL_lt n i d h
theorem arr8_set (n i:Nat) (h:i<8):(arr8 n i).set (7-i) (n/256 ^ i % 256)=arr8 n (i+1):=by
 unfold arr8;rw [show 8-i=(7-i)+1 by omega,List.replicate_succ',List.append_assoc,List.set_append_right _ _ (by simp)];simp [beL,show 8-(i+1)=7-i by omega]
theorem arr8_drop (n wide:Nat) (h:wide≤8):(arr8 n 8).drop (8-wide)=beL n wide:=by
 unfold arr8;rw [Nat.sub_self,List.replicate_zero,List.nil_append]
 have key:∀ k i,(beL n (i+k)).drop k=beL n i:=by
  intro k
  induction k with
  | zero=>intro i;rfl
  | succ k ih=>intro i;rw [show i+(k+1)=(i+k)+1 by omega,beL,List.drop_succ_cons];exact ih i
 have:=key (8-wide) wide
 rwa [show wide+(8-wide)=8 by omega] at this
theorem slice_arr8 (B j:Nat) (hj:j<8):∀ W,(Instr.sliceAt 153 (.pointer (some ⟨B,0,none⟩)) (some (.int .i64 (j:Int))) none none).run Tryz.prog W = .ok (.slice (some ⟨B,j,none⟩) (8-j) (8-j)) W:=by
 have hal:Tryz.prog.arrayLen 153=8:=by kernel_rfl
 have hel:Tryz.prog.elem 153=5:=by kernel_rfl
 have hun:Tryz.prog.underlying 153=some (.array (Tryz.prog.arrayLen 153) (Tryz.prog.elem 153)):=by rw [hal,hel];exact Tryz.underlying153
 have hsz:∀ W,(sizeOf 5).run Tryz.prog W = .ok 1 W:=fun W=>by kernel_rfl
 intro W;rw [run_sliceAt_array_l W _ ⟨B,0,none⟩ hun .i64 (j:Int) (by omega) (by rw [hal];omega),hel,hsz];simp only [Result.andThen,slicedAt,Int.toNat_natCast,hal,addr_add,Nat.mul_one,Nat.zero_add];rw [if_neg (by omega)]
theorem put1_any (B b bw bn bp:Nat) (l:List Nat) (wide n:Nat) (w:World) (h:WrAt w B b l) (qw:w.cell? ⟨bw,0,none⟩=some (.int .i64 (wide:Int))) (qn:w.cell? ⟨bn,0,none⟩=some (.int .i64 (n:Int))) (qp:w.cell? ⟨bp,0,none⟩=some (.pointer (some ⟨b,0,none⟩)))
 (hw:wide=2∨wide=4) (hn:n<256 ^ wide) (hl:l.length+wide≤100000) :
 Calls Tryz.prog 137 #[.pointer (some ⟨bw,0,none⟩),.pointer (some ⟨bn,0,none⟩),.pointer (some ⟨bp,0,none⟩)] w fun e w'=>e = .returned (.int .i64 0)∧WrAt w' B b (l ++ beL n wide)∧WrK B b w w':=by
 have hn4:n<4294967296:=by rcases hw with rfl | rfl<;>omega
 have t0:decide ((n:Int)<0)=false:=decide_eq_false (by omega)
 have t1:decide (0<(n:Int)/2 ^ (8*wide))=false:=by
  have e:(n:Int)/2 ^ (8*wide)=((n/2 ^ (8*wide):Nat):Int):=by simp
  have h2:n/2 ^ (8*wide)=0:=Nat.div_eq_of_lt (by rw [Nat.pow_mul];exact hn);rw [e,h2]
  decide
 have hB:B≤w.heap.size:=nTr h.le (nOf h.lt);have HH:=hiD h;have HW:=hiD hw;clear h
 go_enter Tryz.func137,Tryz.ntmps137
 go_wp2_with fail
 with_reducible refine (width_any wide _ hw).mono ?_
 rintro e w' ⟨rfl,rfl⟩
 go_wp2_with fail
 obtain ⟨W,hW,y1,hb,r,f⟩:=box1g w w.heap.size rfl #[.int .u8 0,.int .u8 0,.int .u8 0,.int .u8 0,.int .u8 0,.int .u8 0,.int .u8 0,.int .u8 0] 153;rw [hW]
 have hA:OwnBytes W w.heap.size (some ⟨w.heap.size,0,none⟩) 8 8 (arr8 n 0):=by
  refine ⟨⟨arr8_len n 0 (by decide),nRf _,by decide,arr8_lt n 0,.inr ⟨_,_,rfl,fun i hi => ?_⟩,fun e=>by cases e⟩,.inr ⟨_,_,rfl,nRf _,fun i hi=>f _⟩⟩;rw [r];rcases (by omega:i=0∨i=1∨i=2∨i=3∨i=4∨i=5∨i=6∨i=7) with rfl | rfl | rfl | rfl | rfl | rfl | rfl | rfl<;>rfl
 have qw0:=qw;have qn0:=qn;have qp0:=qp;have qw:=bq hb (World.block_lt_of_cell? w ⟨bw,0,none⟩ qw) qw;have qn:=bq hb (World.block_lt_of_cell? w ⟨bn,0,none⟩ qn) qn;have qp:=bq hb (World.block_lt_of_cell? w ⟨bp,0,none⟩ qp) qp;have HQ:=hiD (⟨qw,qn,qp⟩:_∧_∧_);have HK:=hiD hb;obtain ⟨A,hAe⟩:∃ A,w.heap.size=A:=⟨_,rfl⟩;rw [hAe] at hA ⊢;have HAe:=hiD hAe;have LBW:=hiD (show bw<A by rw [← hAe];exact World.block_lt_of_cell? w ⟨bw,0,none⟩ qw0);have LBN:=hiD (show bn<A by rw [← hAe];exact World.block_lt_of_cell? w ⟨bn,0,none⟩ qn0);have LBP:=hiD (show bp<A by rw [← hAe];exact World.block_lt_of_cell? w ⟨bp,0,none⟩ qp0);clear hW y1 r f hb hAe qw qn qp qw0 qn0 qp0
 go_loopw [5,20] (fun s5 s20 wr=>∃ i:Nat,i≤8∧s20 = .int .i64 (i:Int)∧OwnBytes wr A (some ⟨A,0,none⟩) 8 8 (arr8 n i)∧Below A W wr) (fun _ s20 _=>8-(intOf s20).toNat)
 case atStart=>exact ⟨0,by decide,rfl,hA,bRf _ _⟩
 case round =>
  obtain ⟨i,hi,rfl,hAr,hbr⟩:=hrel;have qw:wr.cell? ⟨bw,0,none⟩=some (.int .i64 (wide:Int)):=(hbr.cell (p:=⟨bw,0,none⟩) LBW.out).trans HQ.out.1;have qn:wr.cell? ⟨bn,0,none⟩=some (.int .i64 (n:Int)):=(hbr.cell (p:=⟨bn,0,none⟩) LBN.out).trans HQ.out.2.1;have qp:wr.cell? ⟨bp,0,none⟩=some (.pointer (some ⟨b,0,none⟩)):=(hbr.cell (p:=⟨bp,0,none⟩) LBP.out).trans HQ.out.2.2
  by_cases hlt:i<8
  · have hd:n/256 ^ i % 256<256:=Nat.mod_lt _ (by decide);obtain ⟨j,hj⟩:∃ j,7-i=j:=⟨_,rfl⟩;have hji:(7:Int)-(i:Int)=(j:Int):=by omega
    have hj7:j≤7:=by omega
    rcases hAr.cell with h' | ⟨b',o',e,hc⟩
    · omega
    cases e;rcases hAr.own with h' | ⟨b',o',e,_,hf⟩
    · omega
    cases e;have hc0:=hc j (by omega);have hf0:=hf j (by omega);clear hc hf;rw [Nat.zero_add] at hc0 hf0;have h2:=hAr.set (k:=j) (d:=n/256 ^ i % 256) (by omega) hd;rw [Nat.zero_add,← hj,arr8_set n i hlt,hj] at h2;have hB2:=hbr.setCell (p:=⟨A,j,none⟩) (nRf _) (.int .u8 ((n/256 ^ i % 256:Nat):Int))
    have hv:(n:Int)/2 ^ (8*i) % 256=((n/256 ^ i % 256:Nat):Int):=by
     have e:((2:Int) ^ (8*i))=((256 ^ i:Nat):Int):=by
      rw [show (256:Nat)=2 ^ 8 from rfl,← Nat.pow_mul];simp
     rw [e];simp
    have H2:=hiD h2;have HB2:=hiD hB2;have HV:=hiD hv;clear hAr hbr h2 hB2 hv hd hj
    go_wp2
    rw [HV.out];exact ⟨⟨i+1,by omega,by simp,H2.out,HB2.out⟩,by simp [intOf];omega⟩
  obtain rfl:i=8:=by omega
  obtain ⟨d,hd⟩:∃ d,8-wide=d:=⟨_,rfl⟩;have hdz:(8:Int)-(wide:Int)=(d:Int):=by omega
  have hd8:d<8:=by omega
  have hsl:∀ W,(Instr.sliceAt 153 (.pointer (some ⟨A,0,none⟩)) (some (.int .i64 (d:Int))) none none).run Tryz.prog W = .ok (.slice (some ⟨A,d,none⟩) wide wide) W:=by
   have h:=slice_arr8 A d hd8;rw [show 8-d=wide by omega] at h;exact h
  have hby:BytesAt wr (some ⟨A,d,none⟩) wide wide (beL n wide):=by
   have h:=hAr.toBytesAt.drop (k:=d) (by omega);rw [Nat.zero_add,← hd,arr8_drop n wide (by omega),hd,show 8-d=wide by omega] at h;exact h
  have HDW:=hiD (show IntKind.i64.wrap (d:Int)=(d:Int) by rw [IntKind.wrap_i64];omega);have hall:Below w.heap.size w wr:=HK.out.trans (by rw [HAe.out];exact hbr);have HWR:=hiD (HH.out.past hall);have HKR:=hiD (WrK.past (b:=b) hB hall);have HBY:=hiD hby;have hdr:Below wr.heap.size wr wr.drew:=(bRf _ _).drew;have HDR:=hiD hdr;have qw:wr.drew.cell? ⟨bw,0,none⟩=_:=qw;have qp:wr.drew.cell? ⟨bp,0,none⟩=_:=qp;clear hAr hbr hby hall hd hdr qn
  go_wp2_with fail
  refine wp_region_inv (by kernel_rfl) rfl (by kernel_rfl) (fun A0 V0 dd aa ww=>∃ (y32 y33 y34 y35 y36 y3:Value),aa=puts A0 [(32,y32),(33,y33),(34,y34),(35,y35),(36,y36),(3,y3)]∧Shut (dd 4=false→ww=V0.drew)∧Shut (dd 4=true→WrAt ww B b (l ++ beL n wide)∧WrK B b w ww)∧Shut (dd 0=true→y32 = .pointer (some ⟨b,0,none⟩))∧Shut (dd 1=true→y33 = .int .i64 (wide:Int))∧Shut (dd 2=true→y34 = .int .i64 (d:Int))∧Shut (dd 3=true→y35 = .slice (some ⟨A,d,none⟩) wide wide)∧Shut (dd 4=true→y36 = .int .i64 0)∧Shut (dd 5=true→y3 = .int .i64 0)∧True) ?_ ?_ ?_
  · exact ⟨_,_,_,_,_,_,puts_self _ [32,33,34,35,36,3],fun _=>rfl,fun h=>(by cases h),fun h=>(by cases h),fun h=>(by cases h),fun h=>(by cases h),fun h=>(by cases h),fun h=>(by cases h),fun h=>(by cases h),trivial⟩
  · refine Steps.cons ?_ (Steps.cons ?_ (Steps.cons ?_ (Steps.cons ?_ (Steps.cons ?_ (Steps.cons ?_ (Steps.nil))))))
    all_goals (intro dd aa ww K hc hun hn hI hK;obtain ⟨y32,y33,y34,y35,y36,y3,ea,hM,hP,f0,f1,f2,f3,f4,f5,_⟩:=hI;subst ea;simp only [pu])
    · have hw:=hM.out (hc.not (f:=20) (s:=4) (l:=0) (by kernel_rfl) hun);subst hw;go_simp;exact hK.out _ _ ⟨_,_,_,_,_,_,by simp only [pu]<;>rfl,fun _=>rfl,fun h=>hP.out (upd_of rfl h),fun _=>rfl,uo f1,uo f2,uo f3,uo f4,uo f5,trivial⟩
    · have hw:=hM.out (hc.not (f:=20) (s:=4) (l:=1) (by kernel_rfl) hun);subst hw;go_simp;exact hK.out _ _ ⟨_,_,_,_,_,_,by simp only [pu]<;>rfl,fun _=>rfl,fun h=>hP.out (upd_of rfl h),uo f0,fun _=>rfl,uo f2,uo f3,uo f4,uo f5,trivial⟩
    · obtain rfl:=f1.out (hc.see hn);have hw:=hM.out (hc.not (f:=20) (s:=4) (l:=2) (by kernel_rfl) hun);subst hw;go_simp;rw [HDW.out];exact hK.out _ _ ⟨_,_,_,_,_,_,by simp only [pu]<;>rfl,fun _=>rfl,fun h=>hP.out (upd_of rfl h),uo f0,fun h=>rfl,fun _=>rfl,uo f3,uo f4,uo f5,trivial⟩
    · obtain rfl:=f2.out (hc.see hn);have hw:=hM.out (hc.not (f:=20) (s:=4) (l:=3) (by kernel_rfl) hun);subst hw;go_simp;exact hK.out _ _ ⟨_,_,_,_,_,_,by simp only [pu]<;>rfl,fun _=>rfl,fun h=>hP.out (upd_of rfl h),uo f0,uo f1,fun h=>rfl,fun _=>rfl,uo f4,uo f5,trivial⟩
    · obtain rfl:=f0.out (hc.see hn);obtain rfl:=f3.out (hc.see hn);have hw:=hM.out hun;subst hw;have hcall:=wlay_any B b l (beL n wide) ⟨A,d,none⟩ wide wide wr.drew (HWR.out.past HDR.out) (HBY.out.past HDR.out) hl;go_simp;refine hcall.mono ?_;rintro e w1 ⟨rfl,hW9,hK9⟩;exact hK.out _ _ ⟨_,_,_,_,_,_,by simp only [pu]<;>rfl,fun h=>absurd h (by simp [upd]),fun _=>⟨hW9,HKR.out.trans ((WrK.past (nTr hB HKR.out.bw.size) HDR.out).trans hK9)⟩,fun h=>rfl,uo f1,uo f2,fun h=>rfl,fun _=>rfl,uo f5,trivial⟩
    obtain rfl:=f4.out (hc.see hn);go_simp;exact hK.out _ _ ⟨_,_,_,_,_,_,by simp only [pu]<;>rfl,fun h=>hM.out (upd_off h),fun h=>hP.out (upd_of rfl h),uo f0,uo f1,uo f2,uo f3,fun h=>rfl,fun _=>rfl,trivial⟩
  intro dd aa W1 hd hI;obtain ⟨y32,y33,y34,y35,y36,y3,ea,hM,hP,f0,f1,f2,f3,f4,f5,_⟩:=hI;obtain rfl:=f0.out (hd 0 (by simp));obtain rfl:=f1.out (hd 1 (by simp));obtain rfl:=f2.out (hd 2 (by simp));obtain rfl:=f3.out (hd 3 (by simp));obtain rfl:=f4.out (hd 4 (by simp));obtain rfl:=f5.out (hd 5 (by simp));have hP:=hP.out (hd 4 (by simp));subst ea;simp only [pu]
  go_wp2
  go_ret
  exact ⟨rfl,hP.1,hP.2⟩
end
end Go.Proofs.YtkhcblihbalnbaaGreat
