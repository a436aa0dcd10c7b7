import Derived.Test.YtkhcblihbalnbaaGreatDoorDiv64Pb
import Derived.Test.YtkhcblihbalnbaaGreatDoorTimes2Pb
set_option linter.unusedVariables false
set_option linter.unusedSimpArgs false
set_option maxHeartbeats 1000000
set_option maxRecDepth 100000
namespace Go.Proofs.YtkhcblihbalnbaaGreatDoor
open Go.RowKit
theorem part_step {l os:List Nat} {x j:Nat} (hx:0<x) (hj:j<os.length) (h:hi os (j+1)=hi l (j+1)/x) :
 hi (os.set j ((hi l (j+1) % x*18446744073709551616+D l j)/x)) j=hi l j/x∧(hi l (j+1) % x*18446744073709551616+D l j) % x=hi l j % x:=by
 obtain ⟨h1,h2⟩:=div_part (v:=hi l (j+1)) (B:=18446744073709551616) (u0:=D l j) hx;have e:hi l j=hi l (j+1)*18446744073709551616+D l j:=by rw [hi_step l j];omega
 rw [e];refine ⟨?_,h2.symm⟩;rw [hi_step,D_set_same hj,hi_set (Nat.lt_succ_self j),h,h1];omega
def RetPart (w:World) (N R:Nat) (e:Ending) (w':World):Prop :=
 ∃ a n c,e = .returned (.tuple #[.slice a n c,.int .u64 ((R:Nat):Int),.int .i64 0])∧OwnAt w' w.heap.size a n c (digs N)∧Below w.heap.size w w'
theorem part_yes (a:Option Addr) (n c:Nat) (l:List Nat) (x:Nat) (w:World) (h:NatAt w a n c l) (hs:n≤274877906944) (hx0:0<x) (hx:x<18446744073709551616) :
 Calls Tryz.prog 160 #[.slice a n c,.int .u64 (x:Int)] w (RetPart w (val l/x) (val l % x)):=by
 obtain ⟨i0,hi,hz0,hz1,hz2⟩:=info_parts info109;have hxb:((x:Int) == 0)=false:=beq_eq_false_iff_ne.2 (by omega);have HX:=hiD hx;have HX0:=hiD hx0;clear hx hx0
 go_enter Tryz.func160,Tryz.ntmps160
 go_wp2_with (at_make;refine wpList_make_full _ rfl _ _ 24 rfl w.heap.size 109 i0 (.int .u64 0) 1 Tryz.underlying24 hi hz0 hz1 .i64 .i64 _ _ n rfl rfl rfl rfl (by rw [hz2];omega) (by simp only [maxLen];omega) (nRf _) ?_;intro w3 hr3 hg3)
 have h5:OwnAt w3 w.heap.size (some ⟨w.heap.size,0,none⟩) n n (List.replicate n 0):=made_own (by rw [← toList_madeCells_one];rw [Nat.mul_one] at hr3;exact hr3);have hb3:Below w.heap.size w w3:=(bRf _ _).grown hg3 (nRf _) (fun k e=>by cases e);clear hr3 hg3 hi hz0 hz1 hz2;have hln:=h.len;have HLN:=hiD hln;clear hln
 go_wp2_with fail
 go_loopw [8,9] (fun lf i wr=>∃ (k:Nat) (os:List Nat),k≤n∧i = .int .i64 ((k:Int)-1)∧lf = .int .u64 ((Go.Proofs.YtkhcblihbalnbaaGreatDoor.hi l k % x:Nat):Int)∧OwnAt wr w.heap.size (some ⟨w.heap.size,0,none⟩) n n os∧Go.Proofs.YtkhcblihbalnbaaGreatDoor.hi os k=Go.Proofs.YtkhcblihbalnbaaGreatDoor.hi l k/x∧Below w.heap.size w wr) (fun _ i _=>(intOf i+1).toNat)
 case atStart =>
  refine ⟨n,_,nRf _,rfl,?_,h5,?_,hb3⟩
  · rw [hi_all (by rw [HLN.out];exact nRf _),Nat.zero_mod];rfl
  rw [hi_all (by simp),hi_all (by rw [HLN.out];exact nRf _),Nat.zero_div]
 case round =>
  clear hb3 h5;obtain ⟨k,os,hk,rfl,rfl,h6,h7,hb4⟩:=hrel;have H7:=hiD h7;clear h7
  by_cases hlt:0<k
  · obtain ⟨j,rfl⟩:∃ j,k=j+1:=⟨k-1,by omega⟩;have ej:((j+1:Nat):Int)-1=(j:Int):=by omega
    rw [ej];have e1:=h.later hb4 (nRf _);have d1:=h.dig.at_ j;rcases e1.parts with h' | ⟨ba,oa,rfl,_,hca⟩
    · omega
    have hca':=hca j (by omega);clear hca;rcases h6.cell with h' | ⟨b',o',he,hco⟩
    · omega
    cases he;have hco':=hco j (by omega);clear hco;rcases h6.own with h' | ⟨b',o',he,hBo,hfo⟩
    · omega
    cases he;have hfo':=hfo j (by omega);clear hfo;obtain ⟨s1,s2⟩:=part_step HX0.out (by rw [h6.len];omega) H7.out;have hlm:Go.Proofs.YtkhcblihbalnbaaGreatDoor.hi l (j+1) % x<x:=Nat.mod_lt _ HX0.out;have hcall:=fun w=>div64_any (Go.Proofs.YtkhcblihbalnbaaGreatDoor.hi l (j+1) % x) (D l j) x w hlm HX.out d1
    rw [s2] at hcall
    have hq:(Go.Proofs.YtkhcblihbalnbaaGreatDoor.hi l (j+1) % x*18446744073709551616+D l j)/x<18446744073709551616:=by
     rw [Nat.div_lt_iff_lt_mul HX0.out];have:(Go.Proofs.YtkhcblihbalnbaaGreatDoor.hi l (j+1) % x+1)*18446744073709551616≤x*18446744073709551616:=Nat.mul_le_mul_right _ hlm;rw [Nat.mul_comm 18446744073709551616 x];omega
    generalize (Go.Proofs.YtkhcblihbalnbaaGreatDoor.hi l (j+1) % x*18446744073709551616+D l j)/x=q at *;generalize Go.Proofs.YtkhcblihbalnbaaGreatDoor.hi l (j+1) % x=r at *;have S1:=hiD s1;have HQ:=hiD hq;have HC:=hiD hcall;clear s1 s2 hq hlm d1 hcall ej;have hj0:(0:Int)≤(j:Int):=by omega
    go_wp2_with fail
    refine (HC.out _).mono ?_;rintro e w5 ⟨rfl,hb5⟩;have h8:=(h6.later hb5 (nRf _)).set (k:=j) (by omega) HQ.out;have hc5:=(hb5.cell (p:=⟨w.heap.size,0+j,none⟩) (World.block_lt_of_cell? _ _ hco')).trans hco';have hf5:=(hb5.frozen (p:=⟨w.heap.size,0+j,none⟩) (World.block_lt_of_cell? _ _ hco')).trans hfo';have hbF:=(bLt hb4 hb5).setCell (p:=⟨w.heap.size,0+j,none⟩) (nRf _) (.int .u64 (q:Int));clear hb5 hco' hfo';rw [Nat.zero_add] at hc5 hf5 h8 hbF
    go_wp2
    go_roundw
    case rel=>exact ⟨j,_,by omega,rfl,rfl,h8,S1.out,hbF⟩
    case measure=>simp [intOf]<;>omega
  obtain rfl:k=0:=by omega
  rw [hi_zero,hi_zero] at H7;rw [hi_zero]
  go_wp2_with fail
  with_reducible refine (trim_any _ _ _ _ _ h6.toNatAt (by omega)).mono ?_
  rintro e w6 ⟨a6,n6,c6,rfl,h9,hb6⟩;rw [H7.out] at h9
  go_wp2
  go_ret3
  exact ⟨_,_,_,rfl,h9.mono hb4.size,bLt hb4 hb6⟩
end Go.Proofs.YtkhcblihbalnbaaGreatDoor
