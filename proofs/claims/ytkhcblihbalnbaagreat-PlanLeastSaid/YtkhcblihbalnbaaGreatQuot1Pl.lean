import Derived.Lib.MinMax
import Derived.Test.YtkhcblihbalnbaaGreatS0Pl
import Derived.Test.YtkhcblihbalnbaaGreatDiv64Pl
import Derived.Test.YtkhcblihbalnbaaGreatTimes2Pl
import Derived.Test.YtkhcblihbalnbaaGreatNumPl
import Derived.Test.YtkhcblihbalnbaaGreatLimbs1Pl
import Derived.Test.YtkhcblihbalnbaaGreatTimes1Pl
set_option linter.unusedVariables false
set_option linter.unusedSimpArgs false
set_option maxHeartbeats 1000000
set_option maxRecDepth 100000
namespace Go.Proofs.YtkhcblihbalnbaaGreat
section
open Go.RowKit
theorem part_step {l os:List Nat} {x j:Nat} (hx:0<x) (hj:j<os.length) (h:hi os (j+1)=hi l (j+1)/x) :
 hi (os.set j ((hi l (j+1) % x*18446744073709551616+D l j)/x)) j=hi l j/x∧(hi l (j+1) % x*18446744073709551616+D l j) % x=hi l j % x:=by
 obtain ⟨h1,h2⟩:=div_part (v:=hi l (j+1)) (B:=18446744073709551616) (u0:=D l j) hx;have e:hi l j=hi l (j+1)*18446744073709551616+D l j:=by rw [hi_step l j];omega
 rw [e];refine ⟨?_,h2.symm⟩;rw [hi_step,D_set_same hj,hi_set (Nat.lt_succ_self j),h,h1];omega
def RetPart (w:World) (N R:Nat) (e:Ending) (w':World):Prop :=
 ∃ a n c,e = .returned (.tuple #[.slice a n c,.int .u64 ((R:Nat):Int),.int .i64 0])∧OwnAt w' w.heap.size a n c (digs N)∧Below w.heap.size w w'
theorem part_yes (a:Option Addr) (n c:Nat) (l:List Nat) (x:Nat) (w:World) (h:NatAt w a n c l) (hs:n≤274877906944) (hx0:0<x) (hx:x<18446744073709551616) :
 Calls Tryz.prog 125 #[.slice a n c,.int .u64 (x:Int)] w (RetPart w (val l/x) (val l % x)):=by
 obtain ⟨i0,hi,hz0,hz1,hz2⟩:=info_parts info110;have hxb:((x:Int) == 0)=false:=beq_eq_false_iff_ne.2 (by omega);have HX:=hiD hx;have HX0:=hiD hx0;clear hx hx0
 go_enter Tryz.func125,Tryz.ntmps125
 go_wp2_with (at_make;refine wpList_make_full _ rfl _ _ 24 rfl w.heap.size 110 i0 (.int .u64 0) 1 Tryz.underlying24 hi hz0 hz1 .i64 .i64 _ _ n rfl rfl rfl rfl (by rw [hz2];omega) (by simp only [maxLen];omega) (nRf _) ?_;intro w3 hr3 hg3)
 have h5:OwnAt w3 w.heap.size (some ⟨w.heap.size,0,none⟩) n n (List.replicate n 0):=made_own (by rw [← toList_madeCells_one];rw [Nat.mul_one] at hr3;exact hr3);have hb3:Below w.heap.size w w3:=(bRf _ _).grown hg3 (nRf _) (fun k e=>by cases e);clear hr3 hg3 hi hz0 hz1 hz2;have hln:=h.len;have HLN:=hiD hln;clear hln
 go_wp2_with fail
 go_loopw [8,9] (fun lf i wr=>∃ (k:Nat) (os:List Nat),k≤n∧i = .int .i64 ((k:Int)-1)∧lf = .int .u64 ((Go.Proofs.YtkhcblihbalnbaaGreat.hi l k % x:Nat):Int)∧OwnAt wr w.heap.size (some ⟨w.heap.size,0,none⟩) n n os∧Go.Proofs.YtkhcblihbalnbaaGreat.hi os k=Go.Proofs.YtkhcblihbalnbaaGreat.hi l k/x∧Below w.heap.size w wr) (fun _ i _=>(intOf i+1).toNat)
 case atStart =>
  refine ⟨n,_,nRf _,rfl,?_,h5,?_,hb3⟩
  · rw [hi_all (by rw [HLN.out];exact nRf _),Nat.zero_mod];rfl
  rw [hi_all (by simp),hi_all (by rw [HLN.out];exact nRf _),Nat.zero_div]
 case round =>
  clear hb3 h5;obtain ⟨k,os,hk,rfl,rfl,h6,h7,hb4⟩:=hrel;have H7:=hiD h7;clear h7
  by_cases hlt:0<k
  · obtain ⟨j,rfl⟩:∃ j,k=j+1:=⟨k-1,by omega⟩;have ej:((j+1:Nat):Int)-1=(j:Int):=by omega
    rw [ej];have e1:=h.later hb4 (nRf _);have d1:=h.dig.at_ j;rcases e1.parts with h' | ⟨ba,oa,rfl,_,hca⟩
    · omega
    have hca':=hca j (by omega);clear hca;rcases h6.cell with h' | ⟨b',o',he,hco⟩
    · omega
    cases he;have hco':=hco j (by omega);clear hco;rcases h6.own with h' | ⟨b',o',he,hBo,hfo⟩
    · omega
    cases he;have hfo':=hfo j (by omega);clear hfo;obtain ⟨s1,s2⟩:=part_step HX0.out (by rw [h6.len];omega) H7.out;have hlm:Go.Proofs.YtkhcblihbalnbaaGreat.hi l (j+1) % x<x:=Nat.mod_lt _ HX0.out;have hcall:=fun w=>div64_any (Go.Proofs.YtkhcblihbalnbaaGreat.hi l (j+1) % x) (D l j) x w hlm HX.out d1
    rw [s2] at hcall
    have hq:(Go.Proofs.YtkhcblihbalnbaaGreat.hi l (j+1) % x*18446744073709551616+D l j)/x<18446744073709551616:=by
     rw [Nat.div_lt_iff_lt_mul HX0.out];have:(Go.Proofs.YtkhcblihbalnbaaGreat.hi l (j+1) % x+1)*18446744073709551616≤x*18446744073709551616:=Nat.mul_le_mul_right _ hlm;rw [Nat.mul_comm 18446744073709551616 x];omega
    generalize (Go.Proofs.YtkhcblihbalnbaaGreat.hi l (j+1) % x*18446744073709551616+D l j)/x=q at *;generalize Go.Proofs.YtkhcblihbalnbaaGreat.hi l (j+1) % x=r at *;have S1:=hiD s1;have HQ:=hiD hq;have HC:=hiD hcall;clear s1 s2 hq hlm d1 hcall ej;have hj0:(0:Int)≤(j:Int):=by omega
    go_wp2_with fail
    refine (HC.out _).mono ?_;rintro e w5 ⟨rfl,hb5⟩;have h8:=(h6.later hb5 (nRf _)).set (k:=j) (by omega) HQ.out;have hc5:=(hb5.cell (p:=⟨w.heap.size,0+j,none⟩) (World.block_lt_of_cell? _ _ hco')).trans hco';have hf5:=(hb5.frozen (p:=⟨w.heap.size,0+j,none⟩) (World.block_lt_of_cell? _ _ hco')).trans hfo';have hbF:=(bLt hb4 hb5).setCell (p:=⟨w.heap.size,0+j,none⟩) (nRf _) (.int .u64 (q:Int));clear hb5 hco' hfo';rw [Nat.zero_add] at hc5 hf5 h8 hbF
    go_wp2
    go_roundw
    case rel=>exact ⟨j,_,by omega,rfl,rfl,h8,S1.out,hbF⟩
    case measure=>simp [intOf]<;>omega
  obtain rfl:k=0:=by omega
  rw [hi_zero,hi_zero] at H7;rw [hi_zero]
  go_wp2_with fail
  with_reducible refine (trim_any _ _ _ _ _ h6.toNatAt (by omega)).mono ?_
  rintro e w6 ⟨a6,n6,c6,rfl,h9,hb6⟩;rw [H7.out] at h9
  go_wp2
  go_ret3
  exact ⟨_,_,_,rfl,h9.mono hb4.size,bLt hb4 hb6⟩
end
section
open Go.RowKit
def RetNE (w:World) (N:Nat) (E:Int) (e:Ending) (w':World):Prop :=
 ∃ a n c,e = .returned (.tuple #[.slice a n c,.int .i64 E])∧OwnAt w' w.heap.size a n c (digs N)∧Below w.heap.size w w'
theorem choose_out (n:Nat) (k:Int) (w:World) (hn:n≤65536) (h:k<0∨(n:Int)<k) :
 Calls Tryz.prog 206 #[.int .i64 (n:Int),.int .i64 k] w (RetVal w (.tuple #[.slice none 0 0,.int .i64 0])):=by
 have t:(decide ((n:Int)<0) || decide (65536<(n:Int)))=false:=by simp;omega
 rcases h with h | h
 all_goals
  try have h0:¬ k<0:=by omega
  go_enter Tryz.func206,Tryz.ntmps206
  go_wp2
  go_ret2
  exact ⟨rfl,bRf _ _⟩
theorem choose_in (n k:Nat) (w:World) (hn:n≤65536) (hk:k≤n) :
 Calls Tryz.prog 206 #[.int .i64 (n:Int),.int .i64 (k:Int)] w (RetNE w (ch n k) 0):=by
 have t:(decide ((n:Int)<0) || decide (65536<(n:Int)))=false:=by simp;omega
 have t2:(decide ((k:Int)<0) || decide ((n:Int)<(k:Int)))=false:=by simp;omega
 obtain ⟨m,hm⟩:∃ m,min k (n-k)=m:=⟨_,rfl⟩;have hmn:m≤n:=by omega
 have hch:ch n k=ch n m:=by
  rcases Nat.le_total k (n-k) with h | h
  · rw [← hm,Nat.min_eq_left h]
  rw [← hm,Nat.min_eq_right h];exact ch_symm hk
 rw [hch];have hmi:min (k:Int) ((n:Int)-(k:Int))=(m:Int):=by omega
 clear hm hch
 go_enter Tryz.func206,Tryz.ntmps206
 go_wp2_with fail
 refine (of_any 1 _ (by decide)).mono ?_;rintro e w1 ⟨a1,n1,c1,rfl,h1,hb1⟩
 go_wp2_with fail
 have e1:digs 1=digs (ch n 0):=by rw [ch_zero]
 rw [e1] at h1
 go_loopw [6,7,8,9] (fun s6 s7 s8 s9 wr=>∃ (j p q i:Nat) (a:Option Addr) (n' c:Nat),Hid (j+1=i∧n-j=p∧m-j=q∧j≤m)∧s6 = .slice a n' c∧s7 = .int .i64 ((i:Nat):Int)∧s8 = .int .i64 ((p:Nat):Int)∧s9 = .int .i64 ((q:Nat):Int)∧OwnAt wr w.heap.size a n' c (digs (ch n j))∧Below w.heap.size w wr) (fun _ _ _ s9 _=>(intOf s9).toNat)
 case atStart=>exact ⟨0,n,m,1,_,_,_,hiD ⟨by omega,by omega,by omega,by omega⟩,rfl,rfl,rfl,rfl,h1,hb1⟩
 case round =>
  clear h1 hb1 e1;obtain ⟨j,p,q,i,a,n',c,HJ,rfl,rfl,rfl,rfl,h,hb⟩:=hrel;obtain ⟨j1,j2,j3,j4⟩:=HJ.out;have hlen:=ch_len (n:=n) (by omega) j;have hl:=h.len;have bn:n'≤65537:=by omega
  clear hlen hl
  by_cases hq:0<q
  · have hi0:0<i:=by omega
    have hi1:i≤65537:=by omega
    have hp1:p≤65536:=by omega
    have hq1:q≤65536:=by omega
    have hst:val (digs (ch n j))*p=ch n (j+1)*i:=by rw [val_digs,← j2,← j1];exact ch_step (by omega)
    have hdv:val (digs (val (digs (ch n j))*p))/i=ch n (j+1):=by rw [val_digs,hst];exact Nat.mul_div_cancel _ hi0
    have hlp:=len_mulN (a:=val (digs (ch n j))) (b:=p) (p:=65537) (q:=1) (by rw [val_digs];have:=ch_len (n:=n) (by omega) j;omega) (digs_length_le.2 (by rw [Nat.pow_one];omega));have HDV:=hiD hdv;have HLP:=hiD hlp;have HST:Hid (j+1+1=i+1∧n-(j+1)=p-1∧m-(j+1)=q-1∧j+1≤m):=hiD (by omega);have hp0:1≤p:=by omega
    clear hst hdv hlp j1 j2 j3 j4
    go_wp2_with fail
    with_reducible refine (tgrow_any _ _ _ (digs (ch n j)) p _ h.toNatAt (by omega) (by omega)).mono ?_
    rintro e w2 ⟨a2,n2,c2,rfl,h2,hb2⟩;have bn2:n2≤65538:=by have:=h2.len;have:=HLP.out;omega
    have hb3:=bLt hb hb2;clear hb2 h
    go_wp2_with fail
    with_reducible refine (part_yes _ _ _ (digs (val (digs (ch n j))*p)) i _ h2.toNatAt (by omega) hi0 (by omega)).mono ?_
    rintro e w3 ⟨a3,n3,c3,rfl,h3,hb4⟩;rw [HDV.out] at h3;have h3:=h3.mono hb3.size;have hb5:=bLt hb3 hb4;clear hb4 hb3 h2 hb
    go_wp2
    go_roundw
    case measure=>simp [intOf]<;>omega
    case rel=>exact ⟨j+1,p-1,q-1,i+1,_,_,_,hiD HST.out,rfl,by congr 1,by congr 1;omega,by congr 1;omega,h3,hb5⟩
  obtain rfl:j=m:=by omega
  clear j1 j2 j3 j4
  go_wp2
  go_ret2
  exact ⟨_,_,_,rfl,h,hb⟩
end
end Go.Proofs.YtkhcblihbalnbaaGreat
