import Derived.Test.YtkhcblihbalnbaaGreatDoorRegPb
import Derived.Test.YtkhcblihbalnbaaGreatDoorKit2Pb
set_option linter.unusedVariables false
set_option linter.unusedSimpArgs false
set_option maxHeartbeats 4000000
set_option maxRecDepth 100000
namespace Go.Proofs.YtkhcblihbalnbaaGreatDoor
section
open Go.RowKit
structure WrK (B b:Nat) (w w':World):Prop where
 bw:Below B w w'
 blk:∀ k,k<w.heap.size→k≠b→(∀ cur,w.heap[k]? ≠ some (.cells cur 5 (0,0)))→w'.heap[k]? = w.heap[k]?
structure WrAt (w:World) (B b:Nat) (l:List Nat):Prop where
 v:∃ v,w.cell? ⟨b,0,none⟩=some v∧w.ownsRow B 5 1 v l.length (bv l)
 q1:w.cell? ⟨b,1,none⟩=some (.bool true)
 q2:w.cell? ⟨b,2,none⟩=some (.int .i64 100000)
 q3:w.cell? ⟨b,3,none⟩=some (.int .i64 0)
 fr:∀ i,i<4→w.frozen? ⟨b,i,none⟩=false
 le:B≤b
 dig:∀ d ∈ l,d<256
 ty:∃ cur,w.heap[b]? = some (.cells cur 122 (0,0))
section
variable {w w' w2:World} {B b:Nat} {l:List Nat}
theorem WrK.refl (B b:Nat) (w:World):WrK B b w w:=⟨bRf _ _,fun _ _ _ _=>rfl⟩
theorem WrK.trans (h:WrK B b w w') (k:WrK B b w' w2):WrK B b w w2:=by
 refine ⟨h.bw.trans k.bw,fun i hi hb hc => ?_⟩;have e:=h.blk i hi hb hc;rw [← e];exact k.blk i (nLt hi h.bw.size) hb (fun cur=>by rw [e];exact hc cur)
theorem WrK.past (hB:B≤w.heap.size) (h:Below w.heap.size w w'):WrK B b w w':=⟨h.mono hB,fun k hk _ _=>h.block k hk⟩
theorem WrAt.lt (h:WrAt w B b l):b<w.heap.size:=World.block_lt_of_cell? w ⟨b,1,none⟩ h.q1
theorem WrAt.past (h:WrAt w B b l) (hb:Below w.heap.size w w'):WrAt w' B b l:=by
 have hl:=h.lt;obtain ⟨v,hv,hr⟩:=h.v;obtain ⟨cur,ht⟩:=h.ty;have c:=fun {i:Nat} {v:Value} (q:w.cell? ⟨b,i,none⟩=some v)=>(hb.cell (p:=⟨b,i,none⟩) hl).trans q
 exact ⟨⟨v,c hv,row_past8 hr hb⟩,c h.q1,c h.q2,c h.q3,fun i hi=>(hb.frozen (p:=⟨b,i,none⟩) hl).trans (h.fr i hi),h.le,h.dig,⟨cur,(hb.block b hl).trans ht⟩⟩
theorem WrK.stay (h:WrK B b w w') {k i:Nat} {u:Value} (q:w.cell? ⟨k,i,none⟩=some u) (hk:k≠b) (hu:∀ cur,w.heap[k]? ≠ some (.cells cur 5 (0,0))):w'.cell? ⟨k,i,none⟩=some u :=
 (World.cell?_of_block (w:=w) (a:=⟨k,i,none⟩) (h.blk k (World.block_lt_of_cell? w ⟨k,i,none⟩ q) hk hu)).trans q
end
theorem wnone_any (b:Nat) (w:World) (q1:w.cell? ⟨b,1,none⟩=some (.bool true)) :
 Calls Tryz.prog 83 #[.pointer (some ⟨b,0,none⟩)] w fun e w'=>e = .returned (.bool false)∧w=w':=by
 go_enter Tryz.func83,Tryz.ntmps83
 go_wp2
 go_ret
 exact ⟨rfl,rfl⟩
theorem width_any (n:Nat) (w:World) (h:n=2∨n=4) :
 Calls Tryz.prog 72 #[.int .i64 (n:Int)] w fun e w'=>e = .returned (.bool true)∧w=w':=by
 rcases h with rfl | rfl
 · go_enter Tryz.func72,Tryz.ntmps72
   go_wp2
   go_ret
   exact ⟨rfl,rfl⟩
 go_enter Tryz.func72,Tryz.ntmps72
 go_wp2
 go_ret
 exact ⟨rfl,rfl⟩
theorem newWriter_any (w:World):Calls Tryz.prog 37 #[.int .i64 100000] w fun e w'=>∃ b,e = .returned (.tuple #[.pointer (some ⟨b,0,none⟩),.int .i64 0])∧WrAt w' w.heap.size b []∧Below w.heap.size w w':=by
 go_enter Tryz.func37,Tryz.ntmps37
 go_wp2
 obtain ⟨W,hW,y1,hb,r,f⟩:=box1g w w.heap.size rfl #[.slice none 0 0,.bool true,.int .i64 100000,.int .i64 0] 122;rw [hW];have hh:W.heap[w.heap.size]? = some (.cells #[.slice none 0 0,.bool true,.int .i64 100000,.int .i64 0] 122):=by rw [← hW];exact World.alloc_heap_new w _
 refine bodyPost_ret (v:=.tuple #[.pointer (some ⟨w.heap.size,0,none⟩),.int .i64 0]) ?_ rfl ⟨_,rfl,⟨⟨_,r 0,⟨rfl,.inl ⟨rfl,rfl⟩⟩⟩,r 1,r 2,r 3,fun i _=>f i,nRf _,by simp,⟨_,hh⟩⟩,hb⟩;simp [results,Tryz.f37,go_sem]
theorem wlay_any (B b:Nat) (l m:List Nat) (ad:Addr) (n c:Nat) (w:World) (h:WrAt w B b l) (g:BytesAt w (some ad) n c m) (hn:l.length+n≤100000) :
 Calls Tryz.prog 82 #[.pointer (some ⟨b,0,none⟩),.slice (some ad) n c] w fun e w'=>e = .returned (.int .i64 0)∧WrAt w' B b (l ++ m)∧WrK B b w w':=by
 obtain ⟨i0,hi,hz0,hz1,hz2⟩:=info_parts u8_info;obtain ⟨v,hv,hr⟩:=h.v;have hlen:=g.len;have hB:B≤w.heap.size:=nTr h.le (nOf h.lt)
 go_enter Tryz.func82,Tryz.ntmps82
 obtain ⟨q1,q2,q3,fr⟩:=(⟨h.q1,h.q2,h.q3,h.fr⟩:_∧_∧_∧_);obtain ⟨av,cv,rfl,hle,hcm⟩:=row_shape hr;have hz:=fr 0 (by decide);have t0:decide ((100000:Int)<(l.length:Int)+(n:Int))=false:=decide_eq_false (by omega)
 have hne:some b≠(Value.slice av l.length cv).ownBlock:=by
  intro e;rcases hr.2 with ⟨e2,_⟩ | ⟨g1,cap,cur,e2,_,h2,_⟩
  · obtain ⟨rfl,_,_⟩:=Value.slice.inj e2;cases e
  obtain ⟨rfl,_,_⟩:=Value.slice.inj e2;have e3:b=g1:=by simpa [Value.ownBlock] using e
  obtain ⟨cur2,h3⟩:=h.ty;rw [e3,h2] at h3;exact absurd (Obj.cells.inj (Option.some.inj h3)).2.1 (by decide)
 have HH:=hiD h;have HG:=hiD g;have HR:=hiD hr;have HV:=hiD hv;clear h g hr
 go_wp2_with fail
 go_quiet (fail)
 have hD:Below w.heap.size w (w.drewN nq):=Below.draws (bRf _ _) nq;have hrD:=row_past8 HR.out hD;have gD:=HG.out.past hD
 have hnews:∀ j u,(bv m)[j]? = some u→(w.drewN nq).cell? (ad.add j)=some u:=by
  intro j u hu
  have hj:j<m.length:=by
   have:=(List.getElem?_eq_some_iff.1 hu).1
   rwa [bv_length] at this
  rw [bv_at hj] at hu;cases hu;rcases gD.cell with h0 | ⟨b1,o1,e,hc⟩
  · omega
  cases e;rw [addr_add];exact hc j (by omega)
 have hBD:B≤(w.drewN nq).heap.size:=nTr hB hD.size;have HD:=hiD hD;have vD:(w.drewN nq).cell? ⟨b,0,none⟩=some (.slice av l.length cv):=(hD.cell (p:=⟨b,0,none⟩) HH.out.lt).trans HV.out;have fD:(w.drewN nq).frozen? ⟨b,0,none⟩=false:=(hD.frozen (p:=⟨b,0,none⟩) HH.out.lt).trans hz;have hbD:b<(w.drewN nq).heap.size:=nLt HH.out.lt hD.size;have HK:=hiD (show WrK B b w (w.drewN nq) from .past hB hD);have HW:=hiD (HH.out.past hD);clear hD gD;generalize w.drewN nq=W at *
 go_wp2_with (at_builtin;refine wpList_append_own _ rfl _ _ 31 rfl B 5 i0 (.int .u8 0) 1 1 Tryz.underlying31 hi hz0 hz1 hz2 rfl (by decide) (.slice av l.length cv) l.length (bv l) rfl hrD ad n c (bv m) rfl (by rw [bv_length,hlen,Nat.mul_one]) hnews (bv_one m) (by simp only [maxLen];omega) (by omega) hBD ?_;intro v' w1 hown hgrow hnil;obtain ⟨a',c',rfl,_,_⟩:=row_shape hown;have e1:w1.heap[b]? = W.heap[b]?:=hgrow.block b hbD hne;have v1:=(World.cell?_of_block (w:=W) (a:=⟨b,0,none⟩) e1).trans vD;have f1:=(World.frozen?_of_block (w:=W) (a:=⟨b,0,none⟩) e1).trans fD)
 go_ret
 have hob:∀ k,(Value.slice av l.length cv).ownBlock=some k→B≤k∧∃ cur,W.heap[k]? = some (.cells cur 5 (0,0)):=by
  intro k e;rcases hrD.2 with ⟨e2,_⟩ | ⟨g1,cap,cur,e2,h1,h2,_⟩
  · obtain ⟨rfl,_,_⟩:=Value.slice.inj e2;cases e
  obtain ⟨rfl,_,_⟩:=Value.slice.inj e2;have e3:g1=k:=by simpa [Value.ownBlock] using e
  subst e3;exact ⟨h1,cur,h2⟩
 have hB1:Below B W w1:=⟨hgrow.os,hgrow.tape,hgrow.output,hgrow.size,fun k hk=>hgrow.block k (nLt hk hBD) (fun e=>by have:=(hob k e.symm).1;omega)⟩;have hb1:b<w1.heap.size:=nLt hbD hgrow.size;have hle:=HW.out.le;obtain ⟨W2,hW2⟩:∃ W2,w1.setCell ⟨b,0,none⟩ (.slice a' (l.length+n) c')=W2:=⟨_,rfl⟩;have hB2:Below B w1 W2:=by rw [← hW2];exact (bRf B w1).setCell (p:=⟨b,0,none⟩) hle _
 have hoth:∀ k,k≠b→W2.heap[k]? = w1.heap[k]?:=fun k hk=>by rw [← hW2];exact heap_setCell_other w1 ⟨b,0,none⟩ k _ hk
 have hK1:WrK B b W W2:=⟨hB1.trans hB2,fun k hk hkb hc=>(hoth k hkb).trans (hgrow.block k hk (fun e=>by obtain ⟨_,cur,h⟩:=hob k e.symm;exact hc cur h))⟩
 have other:∀ i,i≠0→W2.cell? ⟨b,i,none⟩=W.cell? ⟨b,i,none⟩:=fun i hi=>by
  rw [← hW2,World.cell?_setCell_other _ _ _ _ (fun e=>hi (by cases e;rfl))];exact World.cell?_of_block (w:=W) (a:=⟨b,i,none⟩) e1
 rw [hW2];refine ⟨rfl,⟨⟨_,by rw [← hW2];exact World.cell?_setCell_same _ _ _ v1,?_⟩,(other 1 (by decide)).trans HW.out.q1,(other 2 (by decide)).trans HW.out.q2,(other 3 (by decide)).trans HW.out.q3,?_,HW.out.le,?_,?_⟩,HK.out.trans hK1⟩
 · obtain ⟨cur2,h3⟩:=HW.out.ty;have e:(l ++ m).length=l.length+n:=by rw [List.length_append,hlen]
   rw [e,bv_append];refine ⟨hown.1,hown.2.imp id ?_⟩;rintro ⟨g1,cap,cur,e2,h1,h2,h4⟩;refine ⟨g1,cap,cur,e2,h1,(hoth g1 (fun e3 => ?_)).trans h2,h4⟩;rw [e3,e1,h3] at h2;exact absurd (Obj.cells.inj (Option.some.inj h2)).2.1 (by decide)
 · intro i hi;rw [← hW2,World.frozen?_setCell];exact (World.frozen?_of_block (w:=W) (a:=⟨b,i,none⟩) e1).trans (HW.out.fr i hi)
 · intro d hd;rcases List.mem_append.1 hd with h | h
   · exact HW.out.dig d h
   exact HG.out.dig d h
 obtain ⟨cur2,h3⟩:=HW.out.ty;exact ⟨_,by rw [← hW2];exact Go.heap_setCell_same w1 b 0 cur2 _ _ (e1.trans h3)⟩
end
section
open Go.RowKit
def beL (n:Nat):Nat→List Nat
 | 0=>[]
 | i+1=>(n/256 ^ i % 256)::beL n i
theorem beL_len (n:Nat):∀ i,(beL n i).length=i
 | 0=>rfl
 | i+1=>by rw [beL,List.length_cons,beL_len n i]
theorem beL_lt (n:Nat):∀ i,∀ d ∈ beL n i,d<256
 | 0=>by simp [beL]
 | i + 1 => by
   intro d hd;rw [beL,List.mem_cons] at hd;rcases hd with rfl | h
   · exact Nat.mod_lt _ (by decide)
   exact beL_lt n i d h
def arr8 (n i:Nat):List Nat:=List.replicate (8-i) 0 ++ beL n i
theorem arr8_len (n i:Nat) (h:i≤8):(arr8 n i).length=8:=by unfold arr8;rw [List.length_append,List.length_replicate,beL_len];omega
theorem arr8_lt (n i:Nat):∀ d ∈ arr8 n i,d<256:=by
 intro d hd;rcases List.mem_append.1 hd with h | h
 · rw [(List.mem_replicate.1 h).2];decide
 exact beL_lt n i d h
theorem arr8_set (n i:Nat) (h:i<8):(arr8 n i).set (7-i) (n/256 ^ i % 256)=arr8 n (i+1):=by
 unfold arr8;rw [show 8-i=(7-i)+1 by omega,List.replicate_succ',List.append_assoc,List.set_append_right _ _ (by simp)];simp [beL,show 8-(i+1)=7-i by omega]
theorem arr8_drop (n wide:Nat) (h:wide≤8):(arr8 n 8).drop (8-wide)=beL n wide:=by
 unfold arr8;rw [Nat.sub_self,List.replicate_zero,List.nil_append]
 have key:∀ k i,(beL n (i+k)).drop k=beL n i:=by
  intro k
  induction k with
  | zero=>intro i;rfl
  | succ k ih=>intro i;rw [show i+(k+1)=(i+k)+1 by omega,beL,List.drop_succ_cons];exact ih i
 have:=key (8-wide) wide
 rwa [show wide+(8-wide)=8 by omega] at this
theorem slice_arr8 (B j:Nat) (hj:j<8):∀ W,(Instr.sliceAt 156 (.pointer (some ⟨B,0,none⟩)) (some (.int .i64 (j:Int))) none none).run Tryz.prog W = .ok (.slice (some ⟨B,j,none⟩) (8-j) (8-j)) W:=by
 have hal:Tryz.prog.arrayLen 156=8:=by kernel_rfl
 have hel:Tryz.prog.elem 156=5:=by kernel_rfl
 have hun:Tryz.prog.underlying 156=some (.array (Tryz.prog.arrayLen 156) (Tryz.prog.elem 156)):=by rw [hal,hel];exact Tryz.underlying156
 have hsz:∀ W,(sizeOf 5).run Tryz.prog W = .ok 1 W:=fun W=>by kernel_rfl
 intro W;rw [run_sliceAt_array_l W _ ⟨B,0,none⟩ hun .i64 (j:Int) (by omega) (by rw [hal];omega),hel,hsz];simp only [Result.andThen,slicedAt,Int.toNat_natCast,hal,addr_add,Nat.mul_one,Nat.zero_add];rw [if_neg (by omega)]
theorem put1_any (B b bw bn bp:Nat) (l:List Nat) (wide n:Nat) (w:World) (h:WrAt w B b l) (qw:w.cell? ⟨bw,0,none⟩=some (.int .i64 (wide:Int))) (qn:w.cell? ⟨bn,0,none⟩=some (.int .i64 (n:Int))) (qp:w.cell? ⟨bp,0,none⟩=some (.pointer (some ⟨b,0,none⟩)))
 (hw:wide=2∨wide=4) (hn:n<256 ^ wide) (hl:l.length+wide≤100000) :
 Calls Tryz.prog 132 #[.pointer (some ⟨bw,0,none⟩),.pointer (some ⟨bn,0,none⟩),.pointer (some ⟨bp,0,none⟩)] w fun e w'=>e = .returned (.int .i64 0)∧WrAt w' B b (l ++ beL n wide)∧WrK B b w w':=by
 have hn4:n<4294967296:=by rcases hw with rfl | rfl<;>omega
 have t0:decide ((n:Int)<0)=false:=decide_eq_false (by omega)
 have t1:decide (0<(n:Int)/2 ^ (8*wide))=false:=by
  have e:(n:Int)/2 ^ (8*wide)=((n/2 ^ (8*wide):Nat):Int):=by simp
  have h2:n/2 ^ (8*wide)=0:=Nat.div_eq_of_lt (by rw [Nat.pow_mul];exact hn);rw [e,h2]
  decide
 have hB:B≤w.heap.size:=nTr h.le (nOf h.lt);have HH:=hiD h;have HW:=hiD hw;clear h
 go_enter Tryz.func132,Tryz.ntmps132
 go_wp2_with fail
 with_reducible refine (width_any wide _ hw).mono ?_
 rintro e w' ⟨rfl,rfl⟩
 go_wp2_with fail
 obtain ⟨W,hW,y1,hb,r,f⟩:=box1g w w.heap.size rfl #[.int .u8 0,.int .u8 0,.int .u8 0,.int .u8 0,.int .u8 0,.int .u8 0,.int .u8 0,.int .u8 0] 156;rw [hW]
 have hA:OwnBytes W w.heap.size (some ⟨w.heap.size,0,none⟩) 8 8 (arr8 n 0):=by
  refine ⟨⟨arr8_len n 0 (by decide),nRf _,by decide,arr8_lt n 0,.inr ⟨_,_,rfl,fun i hi => ?_⟩,fun e=>by cases e⟩,.inr ⟨_,_,rfl,nRf _,fun i hi=>f _⟩⟩;rw [r];rcases (by omega:i=0∨i=1∨i=2∨i=3∨i=4∨i=5∨i=6∨i=7) with rfl | rfl | rfl | rfl | rfl | rfl | rfl | rfl<;>rfl
 have qw0:=qw;have qn0:=qn;have qp0:=qp;have qw:=bq hb (World.block_lt_of_cell? w ⟨bw,0,none⟩ qw) qw;have qn:=bq hb (World.block_lt_of_cell? w ⟨bn,0,none⟩ qn) qn;have qp:=bq hb (World.block_lt_of_cell? w ⟨bp,0,none⟩ qp) qp;have HQ:=hiD (⟨qw,qn,qp⟩:_∧_∧_);have HK:=hiD hb;obtain ⟨A,hAe⟩:∃ A,w.heap.size=A:=⟨_,rfl⟩;rw [hAe] at hA ⊢;have HAe:=hiD hAe;have LBW:=hiD (show bw<A by rw [← hAe];exact World.block_lt_of_cell? w ⟨bw,0,none⟩ qw0);have LBN:=hiD (show bn<A by rw [← hAe];exact World.block_lt_of_cell? w ⟨bn,0,none⟩ qn0);have LBP:=hiD (show bp<A by rw [← hAe];exact World.block_lt_of_cell? w ⟨bp,0,none⟩ qp0);clear hW y1 r f hb hAe qw qn qp qw0 qn0 qp0
 go_loopw [5,20] (fun s5 s20 wr=>∃ i:Nat,i≤8∧s20 = .int .i64 (i:Int)∧OwnBytes wr A (some ⟨A,0,none⟩) 8 8 (arr8 n i)∧Below A W wr) (fun _ s20 _=>8-(intOf s20).toNat)
 case atStart=>exact ⟨0,by decide,rfl,hA,bRf _ _⟩
 case round =>
  obtain ⟨i,hi,rfl,hAr,hbr⟩:=hrel;have qw:wr.cell? ⟨bw,0,none⟩=some (.int .i64 (wide:Int)):=(hbr.cell (p:=⟨bw,0,none⟩) LBW.out).trans HQ.out.1;have qn:wr.cell? ⟨bn,0,none⟩=some (.int .i64 (n:Int)):=(hbr.cell (p:=⟨bn,0,none⟩) LBN.out).trans HQ.out.2.1;have qp:wr.cell? ⟨bp,0,none⟩=some (.pointer (some ⟨b,0,none⟩)):=(hbr.cell (p:=⟨bp,0,none⟩) LBP.out).trans HQ.out.2.2
  by_cases hlt:i<8
  · have hd:n/256 ^ i % 256<256:=Nat.mod_lt _ (by decide);obtain ⟨j,hj⟩:∃ j,7-i=j:=⟨_,rfl⟩;have hji:(7:Int)-(i:Int)=(j:Int):=by omega
    have hj7:j≤7:=by omega
    rcases hAr.cell with h' | ⟨b',o',e,hc⟩
    · omega
    cases e;rcases hAr.own with h' | ⟨b',o',e,_,hf⟩
    · omega
    cases e;have hc0:=hc j (by omega);have hf0:=hf j (by omega);clear hc hf;rw [Nat.zero_add] at hc0 hf0;have h2:=hAr.set (k:=j) (d:=n/256 ^ i % 256) (by omega) hd;rw [Nat.zero_add,← hj,arr8_set n i hlt,hj] at h2;have hB2:=hbr.setCell (p:=⟨A,j,none⟩) (nRf _) (.int .u8 ((n/256 ^ i % 256:Nat):Int))
    have hv:(n:Int)/2 ^ (8*i) % 256=((n/256 ^ i % 256:Nat):Int):=by
     have e:((2:Int) ^ (8*i))=((256 ^ i:Nat):Int):=by
      rw [show (256:Nat)=2 ^ 8 from rfl,← Nat.pow_mul];simp
     rw [e];simp
    have H2:=hiD h2;have HB2:=hiD hB2;have HV:=hiD hv;clear hAr hbr h2 hB2 hv hd hj
    go_wp2
    rw [HV.out];exact ⟨⟨i+1,by omega,by simp,H2.out,HB2.out⟩,by simp [intOf];omega⟩
  obtain rfl:i=8:=by omega
  obtain ⟨d,hd⟩:∃ d,8-wide=d:=⟨_,rfl⟩;have hdz:(8:Int)-(wide:Int)=(d:Int):=by omega
  have hd8:d<8:=by omega
  have hsl:∀ W,(Instr.sliceAt 156 (.pointer (some ⟨A,0,none⟩)) (some (.int .i64 (d:Int))) none none).run Tryz.prog W = .ok (.slice (some ⟨A,d,none⟩) wide wide) W:=by
   have h:=slice_arr8 A d hd8;rw [show 8-d=wide by omega] at h;exact h
  have hby:BytesAt wr (some ⟨A,d,none⟩) wide wide (beL n wide):=by
   have h:=hAr.toBytesAt.drop (k:=d) (by omega);rw [Nat.zero_add,← hd,arr8_drop n wide (by omega),hd,show 8-d=wide by omega] at h;exact h
  have HDW:=hiD (show IntKind.i64.wrap (d:Int)=(d:Int) by rw [IntKind.wrap_i64];omega);have hall:Below w.heap.size w wr:=HK.out.trans (by rw [HAe.out];exact hbr);have HWR:=hiD (HH.out.past hall);have HKR:=hiD (WrK.past (b:=b) hB hall);have HBY:=hiD hby;have hdr:Below wr.heap.size wr wr.drew:=(bRf _ _).drew;have HDR:=hiD hdr;have qw:wr.drew.cell? ⟨bw,0,none⟩=_:=qw;have qp:wr.drew.cell? ⟨bp,0,none⟩=_:=qp;clear hAr hbr hby hall hd hdr qn
  go_wp2_with fail
  refine wp_region_inv (by kernel_rfl) rfl (by kernel_rfl) (fun A0 V0 dd aa ww=>∃ (y32 y33 y34 y35 y36 y3:Value),aa=puts A0 [(32,y32),(33,y33),(34,y34),(35,y35),(36,y36),(3,y3)]∧Shut (dd 4=false→ww=V0.drew)∧Shut (dd 4=true→WrAt ww B b (l ++ beL n wide)∧WrK B b w ww)∧Shut (dd 0=true→y32 = .pointer (some ⟨b,0,none⟩))∧Shut (dd 1=true→y33 = .int .i64 (wide:Int))∧Shut (dd 2=true→y34 = .int .i64 (d:Int))∧Shut (dd 3=true→y35 = .slice (some ⟨A,d,none⟩) wide wide)∧Shut (dd 4=true→y36 = .int .i64 0)∧Shut (dd 5=true→y3 = .int .i64 0)) ?_ ?_ ?_
  · exact ⟨_,_,_,_,_,_,puts_self _ [32,33,34,35,36,3],fun _=>rfl,nf,nf,nf,nf,nf,nf,nf⟩
  · refine Steps.cons ?_ (Steps.cons ?_ (Steps.cons ?_ (Steps.cons ?_ (Steps.cons ?_ (Steps.cons ?_ (Steps.nil))))))
    all_goals (intro dd aa ww K hc hun hn hI hK;obtain ⟨y32,y33,y34,y35,y36,y3,ea,hM,hP,f0,f1,f2,f3,f4,f5⟩:=hI;subst ea;simp only [pu])
    · have hw:=hM.out (hc.not (f:=20) (s:=4) (l:=0) (by kernel_rfl) hun);subst hw;go_simp;exact hK.out _ _ ⟨_,_,_,_,_,_,by simp only [pu]<;>rfl,fun _=>rfl,fun h=>hP.out (upd_of rfl h),fun _=>rfl,uo f1,uo f2,uo f3,uo f4,uo f5⟩
    · have hw:=hM.out (hc.not (f:=20) (s:=4) (l:=1) (by kernel_rfl) hun);subst hw;go_simp;exact hK.out _ _ ⟨_,_,_,_,_,_,by simp only [pu]<;>rfl,fun _=>rfl,fun h=>hP.out (upd_of rfl h),uo f0,fun _=>rfl,uo f2,uo f3,uo f4,uo f5⟩
    · obtain rfl:=f1.out (hc.see hn);have hw:=hM.out (hc.not (f:=20) (s:=4) (l:=2) (by kernel_rfl) hun);subst hw;go_simp;rw [HDW.out];exact hK.out _ _ ⟨_,_,_,_,_,_,by simp only [pu]<;>rfl,fun _=>rfl,fun h=>hP.out (upd_of rfl h),uo f0,fun h=>rfl,fun _=>rfl,uo f3,uo f4,uo f5⟩
    · obtain rfl:=f2.out (hc.see hn);have hw:=hM.out (hc.not (f:=20) (s:=4) (l:=3) (by kernel_rfl) hun);subst hw;go_simp;exact hK.out _ _ ⟨_,_,_,_,_,_,by simp only [pu]<;>rfl,fun _=>rfl,fun h=>hP.out (upd_of rfl h),uo f0,uo f1,fun h=>rfl,fun _=>rfl,uo f4,uo f5⟩
    · obtain rfl:=f0.out (hc.see hn);obtain rfl:=f3.out (hc.see hn);have hw:=hM.out hun;subst hw;have hcall:=wlay_any B b l (beL n wide) ⟨A,d,none⟩ wide wide wr.drew (HWR.out.past HDR.out) (HBY.out.past HDR.out) hl;go_simp;refine hcall.mono ?_;rintro e w1 ⟨rfl,hW9,hK9⟩;exact hK.out _ _ ⟨_,_,_,_,_,_,by simp only [pu]<;>rfl,fun h=>absurd h (by simp [upd]),fun _=>⟨hW9,HKR.out.trans ((WrK.past (nTr hB HKR.out.bw.size) HDR.out).trans hK9)⟩,fun h=>rfl,uo f1,uo f2,fun h=>rfl,fun _=>rfl,uo f5⟩
    obtain rfl:=f4.out (hc.see hn);go_simp;exact hK.out _ _ ⟨_,_,_,_,_,_,by simp only [pu]<;>rfl,fun h=>hM.out (upd_off h),fun h=>hP.out (upd_of rfl h),uo f0,uo f1,uo f2,uo f3,fun h=>rfl,fun _=>rfl⟩
  intro dd aa W1 hd hI;obtain ⟨y32,y33,y34,y35,y36,y3,ea,hM,hP,f0,f1,f2,f3,f4,f5⟩:=hI;obtain rfl:=f0.out (hd 0 (by simp));obtain rfl:=f1.out (hd 1 (by simp));obtain rfl:=f2.out (hd 2 (by simp));obtain rfl:=f3.out (hd 3 (by simp));obtain rfl:=f4.out (hd 4 (by simp));obtain rfl:=f5.out (hd 5 (by simp));have hP:=hP.out (hd 4 (by simp));subst ea;simp only [pu]
  go_wp2
  go_ret
  exact ⟨rfl,hP.1,hP.2⟩
end
theorem valL_cons {b c:Nat} (l:List Nat):valL b (c::l)=c*b ^ l.length+valL b l:=rfl
theorem valL_beL (n:Nat):∀ i,valL 256 (beL n i)=n % 256 ^ i
 | 0=>by simp [beL,valL,Nat.mod_one]
 | i + 1 => by
   rw [beL,valL_cons,beL_len,valL_beL n i,Nat.pow_succ,Nat.mod_mul,Nat.mul_comm];omega
theorem beL_mod (n m:Nat):∀ i,n % 256 ^ i=m % 256 ^ i→beL n i=beL m i
 | 0,_=>rfl
 | i + 1, h => by
   rw [Nat.pow_succ,Nat.mod_mul,Nat.mod_mul] at h;have hp:0<256 ^ i:=Nat.pow_pos (by decide);have h1:n % 256 ^ i<256 ^ i:=Nat.mod_lt _ hp;have h2:m % 256 ^ i<256 ^ i:=Nat.mod_lt _ hp
   have e1:n % 256 ^ i=m % 256 ^ i:=by
    have a:=congrArg (· % 256 ^ i) h;simp only [Nat.add_mul_mod_self_left,Nat.mod_mod] at a;exact a
   have e2:n/256 ^ i % 256=m/256 ^ i % 256:=by
    rw [e1] at h;exact Nat.eq_of_mul_eq_mul_left hp (Nat.add_left_cancel h)
   rw [beL,beL,e2,beL_mod n m i e1]
theorem beL_valL:∀ l:List Nat,(∀ d ∈ l,d<256)→beL (valL 256 l) l.length=l
 | [],_=>rfl
 | c :: l, h => by
   have h1:=fun d hd=>h d (List.mem_cons_of_mem c hd)
   have h2:=valL_lt l h1;have h3:=h c List.mem_cons_self;have hp:0<256 ^ l.length:=Nat.pow_pos (by decide)
   have e:beL (valL 256 (c::l)) l.length=l:=by
    rw [beL_mod _ (valL 256 l) _ (by rw [valL_cons,Nat.add_comm,Nat.add_mul_mod_self_right]),beL_valL l h1]
   rw [List.length_cons,beL,e,valL_cons,Nat.add_comm,Nat.add_mul_div_right _ _ hp,Nat.div_eq_of_lt h2,Nat.zero_add,Nat.mod_eq_of_lt h3]
def tkL (n:Nat):Option (List Nat)→List Nat
 | none=>[]
 | some R=>if n≤R.length then R.take n else []
def tkR (n:Nat):Option (List Nat)→Option (List Nat)
 | none=>none
 | some R=>if n≤R.length then some (R.drop n) else none
def gN (n:Nat) (s:Option (List Nat)):Nat:=valL 256 (tkL n s)
def restL:Option (List Nat)→Nat
 | none=>0
 | some R=>R.length
def tblZ:Nat→Option (List Nat)→List Int
 | 0,_=>[]
 | m+1,s=>if restL s=0 then [] else ((gN 4 s:Nat):Int)::tblZ m (tkR 4 s)
def tblR:Nat→Option (List Nat)→Option (List Nat)
 | 0,s=>s
 | m+1,s=>if restL s=0 then s else tblR m (tkR 4 s)
theorem tk_app {n:Nat} {X R:List Nat} (h:X.length=n):tkL n (some (X ++ R))=X∧tkR n (some (X ++ R))=some R:=by
 subst h;show (if X.length≤(X ++ R).length then (X ++ R).take X.length else [])=X∧(if X.length≤(X ++ R).length then some ((X ++ R).drop X.length) else none)=some R;rw [if_pos (by simp),if_pos (by simp),List.take_left,List.drop_left];exact ⟨rfl,rfl⟩
theorem gN_app {n x:Nat} {R:List Nat} (h:x<256 ^ n):gN n (some (beL x n ++ R))=x∧tkR n (some (beL x n ++ R))=some R:=by
 obtain ⟨h1,h2⟩:=tk_app (R:=R) (beL_len x n);refine ⟨?_,h2⟩;unfold gN;rw [h1,valL_beL,Nat.mod_eq_of_lt h]
theorem tbl_app:∀ (zs:List Int) (R:List Nat),(∀ z ∈ zs,0≤z∧z≤16777215)→tblZ zs.length (some (zs.flatMap (fun z=>beL z.toNat 4) ++ R))=zs∧tblR zs.length (some (zs.flatMap (fun z=>beL z.toNat 4) ++ R))=some R
 | [],R,_=>⟨rfl,rfl⟩
 | z :: zs, R, h => by
   have hz:=h z List.mem_cons_self;obtain ⟨e1,e2⟩:=tbl_app zs R fun y hy=>h y (List.mem_cons_of_mem _ hy)
   obtain ⟨g1,g2⟩:=gN_app (n:=4) (x:=z.toNat) (R:=zs.flatMap (fun z=>beL z.toNat 4) ++ R) (by omega);have e:((z::zs).flatMap (fun z=>beL z.toNat 4) ++ R)=beL z.toNat 4 ++ (zs.flatMap (fun z=>beL z.toNat 4) ++ R):=by simp
   rw [e];have hr:¬ restL (some (beL z.toNat 4 ++ (zs.flatMap (fun z=>beL z.toNat 4) ++ R)))=0:=by simp [restL,beL_len]
   rw [List.length_cons,tblZ,tblR,if_neg hr,if_neg hr,g1,g2,e1,e2];exact ⟨by rw [Int.toNat_of_nonneg hz.1],rfl⟩
def putB (k:Nat) (zs:List Int) (N:Nat) (t u:List Nat):List Nat:=beL k 2 ++ beL zs.length 2 ++ zs.flatMap (fun z=>beL z.toNat 4) ++ beL N 2 ++ (beL t.length 2 ++ t) ++ (beL u.length 2 ++ u)
def p1 (L:List Nat):=tkR 2 (some L)
def p2 (L:List Nat):=tkR 2 (p1 L)
def p3 (L:List Nat):=tblR (gN 2 (p1 L)) (p2 L)
def p4 (L:List Nat):=tkR 2 (p3 L)
def p5 (L:List Nat):=tkR 2 (p4 L)
def p6 (L:List Nat):=tkR (gN 2 (p4 L)) (p5 L)
def p7 (L:List Nat):=tkR 2 (p6 L)
def p8 (L:List Nat):=tkR (gN 2 (p6 L)) (p7 L)
def pK (L:List Nat):Nat:=gN 2 (some L)
def pM (L:List Nat):Nat:=gN 2 (p1 L)
def pZ (L:List Nat):List Int:=tblZ (pM L) (p2 L)
def pN (L:List Nat):Nat:=gN 2 (p3 L)
def pT (L:List Nat):List Nat:=tkL (gN 2 (p4 L)) (p5 L)
def pU (L:List Nat):List Nat:=tkL (gN 2 (p6 L)) (p7 L)
theorem p_put {k N:Nat} {zs:List Int} {t u:List Nat} (hk:k<65536) (hN:N<65536) (hz:zs.length<65536) (hzs:∀ z ∈ zs,0≤z∧z≤16777215) (ht:t.length<65536) (hu:u.length<65536) :
 pK (putB k zs N t u)=k∧pZ (putB k zs N t u)=zs∧pN (putB k zs N t u)=N∧pT (putB k zs N t u)=t∧pU (putB k zs N t u)=u∧p8 (putB k zs N t u)=some []:=by
 obtain ⟨L,hL⟩:∃ L,putB k zs N t u=L:=⟨_,rfl⟩
 have e:L=beL k 2 ++ (beL zs.length 2 ++ (zs.flatMap (fun z=>beL z.toNat 4) ++ (beL N 2 ++ (beL t.length 2 ++ (t ++ (beL u.length 2 ++ (u ++ []))))))):=by
  rw [← hL];unfold putB;simp
 rw [hL];obtain ⟨a1,b1⟩:=gN_app (n:=2) (x:=k) (R:=beL zs.length 2 ++ (zs.flatMap (fun z=>beL z.toNat 4) ++ (beL N 2 ++ (beL t.length 2 ++ (t ++ (beL u.length 2 ++ (u ++ []))))))) hk;rw [← e] at a1 b1;obtain ⟨a2,b2⟩:=gN_app (n:=2) (x:=zs.length) (R:=zs.flatMap (fun z=>beL z.toNat 4) ++ (beL N 2 ++ (beL t.length 2 ++ (t ++ (beL u.length 2 ++ (u ++ [])))))) hz;rw [← b1] at a2 b2;obtain ⟨a3,b3⟩:=tbl_app zs (beL N 2 ++ (beL t.length 2 ++ (t ++ (beL u.length 2 ++ (u ++ []))))) hzs;rw [← b2] at a3 b3;obtain ⟨a4,b4⟩:=gN_app (n:=2) (x:=N) (R:=beL t.length 2 ++ (t ++ (beL u.length 2 ++ (u ++ [])))) hN;rw [← b3] at a4 b4;obtain ⟨a5,b5⟩:=gN_app (n:=2) (x:=t.length) (R:=t ++ (beL u.length 2 ++ (u ++ []))) ht;rw [← b4] at a5 b5;obtain ⟨a6,b6⟩:=tk_app (n:=t.length) (X:=t) (R:=beL u.length 2 ++ (u ++ [])) rfl;rw [← b5] at a6 b6;obtain ⟨a7,b7⟩:=gN_app (n:=2) (x:=u.length) (R:=u ++ []) hu;rw [← b6] at a7 b7;obtain ⟨a8,b8⟩:=tk_app (n:=u.length) (X:=u) (R:=[]) rfl;rw [← b7] at a8 b8;clear hL e b1 b2 b3 b4 b5 b6 b7;simp only [pK,pZ,pM,pN,pT,pU,p8,p7,p6,p5,p4,p3,p2,p1];rw [a1,a2,a3,a4,a5,a6,a7,a8,b8];exact ⟨rfl,rfl,rfl,rfl,rfl,rfl⟩
theorem tk_some {n:Nat} {s:Option (List Nat)} {R:List Nat} (h:tkR n s=some R):∃ Q,s=some Q∧Q=tkL n s ++ R∧(tkL n s).length=n:=by
 cases s with
 | none=>cases h
 | some Q =>
   refine ⟨Q,rfl,?_⟩
   by_cases hn:n≤Q.length
   · have e1:tkR n (some Q)=some (Q.drop n):=if_pos hn;have e2:tkL n (some Q)=Q.take n:=if_pos hn;rw [e1] at h;cases h;rw [e2];exact ⟨(List.take_append_drop n Q).symm,by rw [List.length_take];omega⟩
   have e1:tkR n (some Q)=none:=if_neg hn;rw [e1] at h;cases h
def okB (l:List Nat):Prop:=∀ d ∈ l,d<256
theorem okB_app {l m:List Nat} (h:okB (l ++ m)):okB l∧okB m:=⟨fun d hd=>h d (List.mem_append_left _ hd),fun d hd=>h d (List.mem_append_right _ hd)⟩
theorem gN_some {n:Nat} {s:Option (List Nat)} {R:List Nat} (h:tkR n s=some R) (hs:∀ Q,s=some Q→okB Q):∃ Q,s=some Q∧Q=beL (gN n s) n ++ R∧okB R∧gN n s<256 ^ n:=by
 obtain ⟨Q,h1,h2,h3⟩:=tk_some h;have hq:=hs Q h1;rw [h2] at hq;obtain ⟨q1,q2⟩:=okB_app hq;have e:=beL_valL _ q1;have l:=valL_lt _ q1;rw [h3] at e l;exact ⟨Q,h1,by unfold gN;rw [e];exact h2,q2,l⟩
theorem tblR_none:∀ m,tblR m none=none
 | 0=>rfl
 | _+1=>if_pos rfl
theorem tbl_some:∀ (m:Nat) (s:Option (List Nat)) (R:List Nat),tblR m s=some R→R≠[]→(∀ Q,s=some Q→okB Q)→∃ Q,s=some Q∧Q=(tblZ m s).flatMap (fun z=>beL z.toNat 4) ++ R∧okB R∧(tblZ m s).length=m
 | 0,s,R,h,_,hs=>⟨R,h,by simp [tblZ],hs R h,rfl⟩
 | m + 1, s, R, h, hR, hs => by
   unfold tblR at h;unfold tblZ
   by_cases h0:restL s=0
   · rw [if_pos h0] at h;subst h;exact absurd (List.eq_nil_of_length_eq_zero h0) hR
   rw [if_neg h0] at h ⊢;cases h4:tkR 4 s with
   | none=>rw [h4,tblR_none] at h;cases h
   | some R4 =>
     obtain ⟨Q,e1,e2,e3,e4⟩:=gN_some h4 hs;rw [h4] at h;obtain ⟨Q4,f1,f2,f3,f4⟩:=tbl_some m _ R h hR (fun Q hQ=>by cases hQ;exact e3);cases f1;refine ⟨Q,e1,?_,f3,by rw [List.length_cons,f4]⟩;rw [e2,List.flatMap_cons,Int.toNat_natCast,List.append_assoc,← f2]
theorem p_got {L:List Nat} (hb:okB L) (h:p8 L=some []):L=putB (pK L) (pZ L) (pN L) (pT L) (pU L)∧pK L<65536∧pN L<65536∧(pZ L).length<65536∧(pT L).length≤L.length∧(pU L).length≤L.length:=by
 have n8:p8 L≠none:=by rw [h];simp
 have n7:p7 L≠none:=fun e=>n8 (by unfold p8;rw [e];rfl)
 have n6:p6 L≠none:=fun e=>n7 (by unfold p7;rw [e];rfl)
 have n5:p5 L≠none:=fun e=>n6 (by unfold p6;rw [e];rfl)
 have n4:p4 L≠none:=fun e=>n5 (by unfold p5;rw [e];rfl)
 have n3:p3 L≠none:=fun e=>n4 (by unfold p4;rw [e];rfl)
 have n2:p2 L≠none:=fun e=>n3 (by unfold p3;rw [e];exact tblR_none _)
 have n1:p1 L≠none:=fun e=>n2 (by unfold p2;rw [e];rfl)
 have g:∀ s:Option (List Nat),s≠none→∃ R,s=some R:=fun s hs=>by cases s with | none=>exact absurd rfl hs | some R=>exact ⟨R,rfl⟩
 obtain ⟨R1,h1⟩:=g _ n1;obtain ⟨R2,h2⟩:=g _ n2;obtain ⟨R3,h3⟩:=g _ n3;obtain ⟨R4,h4⟩:=g _ n4;obtain ⟨R5,h5⟩:=g _ n5;obtain ⟨R6,h6⟩:=g _ n6;obtain ⟨R7,h7⟩:=g _ n7;obtain ⟨Q0,x0,y0,z0,l0⟩:=gN_some (n:=2) (s:=some L) (R:=R1) h1 (fun Q hQ=>by cases hQ;exact hb);cases x0;obtain ⟨Q1,x1,y1,z1,l1⟩:=gN_some (n:=2) (s:=p1 L) (R:=R2) h2 (fun Q hQ=>by rw [h1] at hQ;cases hQ;exact z0);rw [h1] at x1;cases x1;obtain ⟨Q2,x2,y2,z2,l2⟩:=tbl_some (gN 2 (p1 L)) (p2 L) R3 h3 (fun e=>by subst e;unfold p4 at h4;rw [h3] at h4;cases h4) (fun Q hQ=>by rw [h2] at hQ;cases hQ;exact z1);rw [h2] at x2;cases x2;obtain ⟨Q3,x3,y3,z3,l3⟩:=gN_some (n:=2) (s:=p3 L) (R:=R4) h4 (fun Q hQ=>by rw [h3] at hQ;cases hQ;exact z2);rw [h3] at x3;cases x3;obtain ⟨Q4,x4,y4,z4,l4⟩:=gN_some (n:=2) (s:=p4 L) (R:=R5) h5 (fun Q hQ=>by rw [h4] at hQ;cases hQ;exact z3);rw [h4] at x4;cases x4;obtain ⟨Q5,x5,y5,k5⟩:=tk_some (n:=gN 2 (p4 L)) (s:=p5 L) (R:=R6) h6;rw [h5] at x5;cases x5;have z5:okB R6:=by have:=z4;rw [y5] at this;exact (okB_app this).2
 obtain ⟨Q6,x6,y6,z6,l6⟩:=gN_some (n:=2) (s:=p6 L) (R:=R7) h7 (fun Q hQ=>by rw [h6] at hQ;cases hQ;exact z5);rw [h6] at x6;cases x6;obtain ⟨Q7,x7,y7,k7⟩:=tk_some (n:=gN 2 (p6 L)) (s:=p7 L) (R:=[]) h;rw [h7] at x7;cases x7
 have e:L=putB (pK L) (pZ L) (pN L) (pT L) (pU L):=by
  unfold putB;have a1:(pT L).length=gN 2 (p4 L):=k5;have a2:(pU L).length=gN 2 (p6 L):=k7;have a3:(pZ L).length=gN 2 (p1 L):=l2;rw [a1,a2,a3];unfold pK pZ pM pN pT pU
  conv=>lhs;rw [y0,y1,y2,y3,y4,y5,y6,y7]
  simp
 refine ⟨e,l0,l3,by rw [show (pZ L).length=gN 2 (p1 L) from l2];exact l1,?_,?_⟩
 · have:=congrArg List.length e;unfold putB at this;simp only [List.length_append] at this;omega
 have:=congrArg List.length e;unfold putB at this;simp only [List.length_append] at this;omega
end Go.Proofs.YtkhcblihbalnbaaGreatDoor
