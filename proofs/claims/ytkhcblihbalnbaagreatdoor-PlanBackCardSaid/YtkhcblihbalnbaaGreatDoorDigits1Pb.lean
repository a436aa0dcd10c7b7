import Derived.Test.YtkhcblihbalnbaaGreatDoorLimbs1Pb
set_option linter.unusedVariables false
set_option linter.unusedSimpArgs false
set_option maxHeartbeats 1000000
set_option maxRecDepth 100000
namespace Go.Proofs.YtkhcblihbalnbaaGreatDoor
open Go.RowKit
def partL (all:Bool) (x:Nat):List Nat:=if all then padL 10 19 x else digL 10 x
def PartI (w:World) (all:Bool) (x:Nat) (t0 t6:Value) (wr:World):Prop :=
 ∃ j k:Nat,j+k=19∧t0 = .int .u64 ((x/10 ^ k:Nat):Int)∧t6 = .int .i64 (j:Int)∧(all=false→k=0∨x/10 ^ (k-1)≠0) ∧
  OwnBytes wr w.heap.size (some ⟨w.heap.size,0,none⟩) 19 19 (List.replicate j 0 ++ chrs (padL 10 k x))∧Below w.heap.size w wr
theorem slice_arr (B j:Nat) (hj:j≤19):∃ ad:Addr,(∀ W,(Instr.sliceAt 200 (.pointer (some ⟨B,0,none⟩)) (some (.int .i64 (j:Int))) none none).run Tryz.prog W = .ok (.slice (some ad) (19-j) (19-j)) W)∧(j=19∨ad=⟨B,j,none⟩):=by
 have hal:Tryz.prog.arrayLen 200=19:=by kernel_rfl
 have hel:Tryz.prog.elem 200=5:=by kernel_rfl
 have hun:Tryz.prog.underlying 200=some (.array (Tryz.prog.arrayLen 200) (Tryz.prog.elem 200)):=by rw [hal,hel];exact Tryz.underlying200
 have hsz:∀ W,(sizeOf 5).run Tryz.prog W = .ok 1 W:=fun W=>by kernel_rfl
 refine ⟨if 19=j then ⟨B,0,none⟩ else ⟨B,j,none⟩,fun W => ?_,?_⟩
 · rw [run_sliceAt_array_l W _ ⟨B,0,none⟩ hun .i64 (j:Int) (by omega) (by rw [hal];omega),hel,hsz];simp only [Result.andThen,slicedAt,Int.toNat_natCast,hal,addr_add,Nat.mul_one,Nat.zero_add]
 by_cases h:19=j
 · exact .inl h.symm
 right;rw [if_neg h]
theorem dpart_any (x:Nat) (all:Bool) (w:World) (hx:x<18446744073709551616) (hf:all=false→x<10000000000000000000) :
 Calls Tryz.prog 161 #[.int .u64 (x:Int),.bool all] w (RetVal w (.string (strB (partL all x)))):=by
 have HX:=hiD hx;have HF:=hiD hf;clear hx hf;cases all
 all_goals
  go_enter Tryz.func161,Tryz.ntmps161
  go_wp2
  have h0:=litB (E:=200) w w.heap.size #[.int .u8 0,.int .u8 0,.int .u8 0,.int .u8 0,.int .u8 0,.int .u8 0,.int .u8 0,.int .u8 0,.int .u8 0,.int .u8 0,.int .u8 0,.int .u8 0,.int .u8 0,.int .u8 0,.int .u8 0,.int .u8 0,.int .u8 0,.int .u8 0,.int .u8 0] (List.replicate 19 0) 19 rfl rfl rfl (by decide) (by simp);have hB:=(bRf w.heap.size w).alloc (nRf _) (.cells #[.int .u8 0,.int .u8 0,.int .u8 0,.int .u8 0,.int .u8 0,.int .u8 0,.int .u8 0,.int .u8 0,.int .u8 0,.int .u8 0,.int .u8 0,.int .u8 0,.int .u8 0,.int .u8 0,.int .u8 0,.int .u8 0,.int .u8 0,.int .u8 0,.int .u8 0] 200);generalize w.alloc (.cells #[.int .u8 0,.int .u8 0,.int .u8 0,.int .u8 0,.int .u8 0,.int .u8 0,.int .u8 0,.int .u8 0,.int .u8 0,.int .u8 0,.int .u8 0,.int .u8 0,.int .u8 0,.int .u8 0,.int .u8 0,.int .u8 0,.int .u8 0,.int .u8 0,.int .u8 0] 200)=w1 at *
 · go_loopw [0,6] (fun t0 t6 wr=>PartI w false x t0 t6 wr) (fun _ t6 _=>(intOf t6).toNat)
   case atStart=>exact ⟨19,0,rfl,by simp,rfl,fun _ => .inl rfl,by simpa [padL,chrs] using h0,hB⟩
   case round =>
    clear h0 hB;obtain ⟨j,k,hjk,rfl,rfl,hk,h1,hB⟩:=hrel;have hX:x/10 ^ k<18446744073709551616:=Nat.lt_of_le_of_lt (Nat.div_le_self _ _) HX.out;obtain ⟨X,hXe⟩:∃ X,x/10 ^ k=X:=⟨_,rfl⟩;rw [hXe] at hX ⊢;have HXE:=hiD hXe;have HK:=hiD hk;clear hXe hk
    by_cases hlt:0<j∧0<X
    · obtain ⟨hj,hX0⟩:=hlt;obtain ⟨i,rfl⟩:∃ i,j=i+1:=⟨j-1,by omega⟩;rcases h1.cell with h' | ⟨b',o',e,hc⟩
      · omega
      cases e;rcases h1.own with h' | ⟨b',o',e,_,hf⟩
      · omega
      cases e;have hc0:=hc i (by omega);have hf0:=hf i (by omega);clear hc hf;rw [Nat.zero_add] at hc0 hf0;have h2:=h1.set (k:=i) (d:=48+X % 10) (by omega) (by omega);rw [Nat.zero_add] at h2;have hB2:=hB.setCell (p:=⟨w.heap.size,i,none⟩) (nRf _) (.int .u8 ((48+X % 10:Nat):Int));have H2:=hiD h2;have HB2:=hiD hB2;clear h1 hB h2 hB2
      go_wp2
      go_roundw
      case measure=>simp [intOf]<;>omega
      case rel =>
       refine ⟨i,k+1,by omega,?_,rfl,fun _ => .inr ?_,?_,?_⟩
       · have:=HXE.out;rw [Nat.pow_succ,← Nat.div_div_eq_div_mul,this];rfl
       · have:=HXE.out;rw [Nat.add_sub_cancel,this];omega
       · have h3:=H2.out;rw [show 19=19 from rfl,show i=18-k by omega,show 18-k+1=19-k by omega,part_set k _ _ (by omega),show 18-k=i by omega] at h3;rw [padL_front k x,HXE.out];exact h3
       exact HB2.out
    have hend:j=0∨X=0:=by omega
    have hj19:j≤19:=by omega
    obtain ⟨ad,hsl,had⟩:=slice_arr w.heap.size j hj19
    have hb:BytesAt wr (some ad) (19-j) (19-j) (chrs (padL 10 k x)):=by
     have h3:=h1.toBytesAt.drop (k:=j) hj19;rw [Nat.zero_add,show j=19-k by omega,part_drop,show 19-k=j by omega] at h3;rcases had with h4 | rfl
     · have hk0:k=0:=by omega
       subst hk0;rw [h4];exact BytesAt.none_ _ _ _ (by decide) (fun e=>by cases e)
     exact h3
    have htx:=hb.text 31 5 9 Tryz.underlying31 Tryz.underlying5 Tryz.underlying9;rw [bytB_chrs] at htx
    have hres:padL 10 k x=partL false x:=by
     unfold partL;rw [if_neg (by decide)];have h5:=HXE.out;rcases hend with h4 | h4
     · obtain rfl:k=19:=by omega
       have hx19:=HF.out trivial;refine (padL_stop ?_ (HK.out rfl)).symm;exact Nat.div_eq_of_lt (by rw [show (10:Nat) ^ 19=10000000000000000000 by decide];exact hx19)
     exact (padL_stop (by omega) (HK.out rfl)).symm
    rw [hres] at htx;clear h1 had hb hres hend
    go_wp2
    all_goals
     go_ret
     exact ⟨rfl,hB⟩
 go_loopw [0,6] (fun t0 t6 wr=>PartI w true x t0 t6 wr) (fun _ t6 _=>(intOf t6).toNat)
 case atStart=>exact ⟨19,0,rfl,by simp,rfl,fun _ => .inl rfl,by simpa [padL,chrs] using h0,hB⟩
 case round =>
  clear h0 hB;obtain ⟨j,k,hjk,rfl,rfl,hk,h1,hB⟩:=hrel;have hX:x/10 ^ k<18446744073709551616:=Nat.lt_of_le_of_lt (Nat.div_le_self _ _) HX.out;obtain ⟨X,hXe⟩:∃ X,x/10 ^ k=X:=⟨_,rfl⟩;rw [hXe] at hX ⊢;have HXE:=hiD hXe;have HK:=hiD hk;clear hXe hk
  by_cases hlt:0<j
  · have hj:=hlt;obtain ⟨i,rfl⟩:∃ i,j=i+1:=⟨j-1,by omega⟩;rcases h1.cell with h' | ⟨b',o',e,hc⟩
    · omega
    cases e;rcases h1.own with h' | ⟨b',o',e,_,hf⟩
    · omega
    cases e;have hc0:=hc i (by omega);have hf0:=hf i (by omega);clear hc hf;rw [Nat.zero_add] at hc0 hf0;have h2:=h1.set (k:=i) (d:=48+X % 10) (by omega) (by omega);rw [Nat.zero_add] at h2;have hB2:=hB.setCell (p:=⟨w.heap.size,i,none⟩) (nRf _) (.int .u8 ((48+X % 10:Nat):Int));have H2:=hiD h2;have HB2:=hiD hB2;clear h1 hB h2 hB2
    go_wp2
    go_roundw
    case measure=>simp [intOf]<;>omega
    case rel =>
     refine ⟨i,k+1,by omega,?_,rfl,fun e=>(by cases e),?_,?_⟩
     · have:=HXE.out;rw [Nat.pow_succ,← Nat.div_div_eq_div_mul,this];rfl
     · have h3:=H2.out;rw [show 19=19 from rfl,show i=18-k by omega,show 18-k+1=19-k by omega,part_set k _ _ (by omega),show 18-k=i by omega] at h3;rw [padL_front k x,HXE.out];exact h3
     exact HB2.out
  have hend:j=0:=by omega
  have hj19:j≤19:=by omega
  obtain ⟨ad,hsl,had⟩:=slice_arr w.heap.size j hj19
  have hb:BytesAt wr (some ad) (19-j) (19-j) (chrs (padL 10 k x)):=by
   have h3:=h1.toBytesAt.drop (k:=j) hj19;rw [Nat.zero_add,show j=19-k by omega,part_drop,show 19-k=j by omega] at h3;rcases had with h4 | rfl
   · have hk0:k=0:=by omega
     subst hk0;rw [h4];exact BytesAt.none_ _ _ _ (by decide) (fun e=>by cases e)
   exact h3
  have htx:=hb.text 31 5 9 Tryz.underlying31 Tryz.underlying5 Tryz.underlying9;rw [bytB_chrs] at htx
  have hres:padL 10 k x=partL true x:=by
   unfold partL;rw [if_pos rfl];obtain rfl:k=19:=by omega
   rfl
  rw [hres] at htx;clear h1 had hb hres hend
  go_wp2
  all_goals
   go_ret
   exact ⟨rfl,hB⟩
end Go.Proofs.YtkhcblihbalnbaaGreatDoor
