import Derived.StillTailTactics
import Derived.Test.YtkhcblihbalnbaaGreatDoorLimbs3Pb
import Derived.Test.YtkhcblihbalnbaaGreatDoorLimbs4Pb
set_option linter.unusedVariables false
set_option linter.unusedSimpArgs false
set_option maxHeartbeats 1000000
set_option maxRecDepth 100000
namespace Go.Proofs.YtkhcblihbalnbaaGreatDoor
open Go.RowKit
theorem still_of {P:Program} {f:FuncId} {args:Array Value} {w:World} {v:Value} (h:Calls P f args w fun e w'=>e = .returned v∧w=w'):Calls P f args w fun e w'=>e = .returned v∧w'=w :=
 h.mono fun _ _ ⟨h1,h2⟩=>⟨h1,h2.symm⟩
theorem down_bits {x y r:Nat} (hx:x<18446744073709551616) (hr:r≤63) :
 bits .or .u64 ((x:Int)/2 ^ r) (IntKind.u64.wrap (IntKind.u64.wrap ((y:Int)*2)*2 ^ (63-r)))=(((x+18446744073709551616*y)/2 ^ r % 18446744073709551616:Nat):Int):=by
 have e1:(x:Int)/2 ^ r=((x/2 ^ r:Nat):Int):=by rw [Int.natCast_ediv,Int.natCast_pow];rfl
 have e2:IntKind.u64.wrap (IntKind.u64.wrap ((y:Int)*2)*2 ^ (63-r))=((y*2 % 18446744073709551616*2 ^ (63-r) % 18446744073709551616:Nat):Int):=by
  rw [IntKind.wrap_u64,IntKind.wrap_u64];simp only [Int.natCast_emod,Int.natCast_mul,Int.natCast_pow];rfl
 rw [e1,e2,u64_or_nat _ _ (Nat.lt_of_le_of_lt (Nat.div_le_self _ _) hx) (Nat.mod_lt _ (by decide)),shr_or hx hr]
theorem shiftDown_any (a:Option Addr) (n c:Nat) (l:List Nat) (s:Int) (w:World) (h:NatAt w a n c l) (hs:n≤549755813888) (h0:0≤s) (h1:s≤16777216) :
 Calls Tryz.prog 217 #[.slice a n c,.int .i64 s] w (RetNatOk w (val l/2 ^ s.toNat) 0):=by
 obtain ⟨q,r,rfl,hr⟩:∃ q r:Nat,s=64*q+r∧r≤63:=⟨(s/64).toNat,(s % 64).toNat,by omega,by omega⟩;have es:(64*(q:Int)+r).toNat=64*q+r:=by omega
 rw [es];have hq:(64*(q:Int)+r)/64=q:=by omega
 have hm:(64*(q:Int)+r) % 64=r:=by omega
 have ES:=hiD es;clear es;have hn1:=h.le;have hn2:=h.cle;have hlen:=h.len;obtain ⟨m,hmm⟩:∃ m:Nat,max (0:Int) ((n:Int)-q)=m∧m=n-q:=⟨n-q,by omega,rfl⟩;obtain ⟨hmm,hme⟩:=hmm;have HME:=hiD hme;clear hme;have HL:=hiD hlen;clear hlen
 go_enter Tryz.func217,Tryz.ntmps217
 go_wp2_with fail
 refine (room_any _ _ (by omega) (by omega)).mono ?_;rintro e w1 ⟨a1,c1,rfl,h3,hb1⟩;rw [Int.toNat_natCast] at h3 ⊢;have hcle:=h3.cle;have hle:=h3.le
 by_cases hm0:m=0
 · subst hm0;have hz:=down_end (o:=[]) (q:=q) (r:=r) h.dig dig_nil (by rw [HL.out];exact HME.out) (fun i hi=>by simp at hi);have HZ:=hiD hz;clear hz
   go_wp2_with fail
   refine wp_loop_rounds 1 ?_;rw [rounds_succ]
   go_wp2_with fail
   refine (trimmed_any _ _ _ _ _ h3.toNatAt).mono ?_;rintro e w' ⟨rfl,rfl⟩;rw [show (digs (val (List.replicate 0 0))).length=0 from rfl]
   go_wp2_with fail
   refine (clip_any _ _ _ _ (by omega) hcle).mono ?_;rintro e w' ⟨rfl,rfl⟩
   go_wp2
   go_ret2
   refine ⟨_,_,_,rfl,?_,hb1⟩;rw [← HZ.out];exact h3.recap (nRf _) (by omega)
 rcases h3.own with h3' | ⟨b,o,rfl,hB,hf⟩
 · omega
 clear hf;have hqn:q+m≤n:=by have:=HME.out;omega
 rcases h.parts with h' | ⟨ba,oa,rfl,hlt0,hca⟩
 · omega
 go_wp2_with fail
 go_loopw [23] (fun i wr=>∃ (k:Nat) (os:List Nat),k≤m∧i = .int .i64 k∧OwnAt wr w.heap.size (some ⟨b,o,none⟩) m c1 os∧(∀ j,j<k→D os j=(val l/2 ^ (64*q+r))/18446744073709551616 ^ j % 18446744073709551616)∧Below w.heap.size w wr) (fun i _=>m-(intOf i).toNat)
 case atStart=>exact ⟨0,_,Nat.zero_le _,rfl,h3,fun j hj=>by omega,hb1⟩
 case round =>
  obtain ⟨k,os,hk,rfl,h4,h5,h6⟩:=hrel;have H5:=hiD h5;clear h5
  by_cases hlt:k<m
  · have e1:=(h.later h6 (nRf _)).drew;have d1:=h.dig.at_ (q+k);have d2:=h.dig.at_ (q+k+1);have hca':wr.drew.cell? ⟨ba,oa+(q+k),none⟩=some (.int .u64 ((D l (q+k):Nat):Int)):=(h6.cell (p:=⟨ba,oa+(q+k),none⟩) hlt0).trans (hca (q+k) (by omega));clear hca
    have hcell:∃ v,wr.drew.cell? ⟨b,o+k,none⟩=some v:=by
     rcases h4.cell with h' | ⟨b',o',he,hc⟩
     · omega
     cases he;exact ⟨_,hc k hlt⟩
    obtain ⟨v,hcell⟩:=hcell
    have hfro:wr.drew.frozen? ⟨b,o+k,none⟩=false:=by
     rcases h4.own with h' | ⟨b',o',he,_,hf⟩
     · omega
     cases he;exact hf k hlt
    have h64:0≤64*(q:Int)+r:=by omega
    have hdg:Calls Tryz.prog 172 #[.slice (some ⟨ba,oa,none⟩) n c,.int .i64 (((q:Int)+k)+1)] wr.drew fun e w'=>e = .returned (.int .u64 ((D l (q+k+1):Nat):Int))∧w'=wr.drew:=by
     refine still_of ((digit_any _ _ _ l _ _ e1 (by omega)).mono ?_);rw [show ((q:Int)+k+1).toNat=q+k+1 by omega];exact fun e w' h=>h
    have HD:=hiD hdg;clear hdg
    go_wp2_with fail
    have v1:IntKind.i64.wrap ((64*(q:Int)+r).tdiv 64)=q:=by rw [Int.tdiv_eq_ediv_of_nonneg h64,hq];exact IntWalk.i64_in _ (by omega)
    have v2:IntKind.i64.wrap ((q:Int)+k)=q+k:=IntWalk.i64_in _ (by omega);have v3:IntKind.i64.wrap ((q:Int)+k+1)=q+k+1:=IntWalk.i64_in _ (by omega);have v4:(64*(q:Int)+r).tmod 64=r:=by rw [Int.tmod_eq_emod_of_nonneg h64,hm]
    have v5:IntKind.i64.wrap (63-(r:Int))=63-r:=IntWalk.i64_in _ (by omega);have v6:IntKind.i64.wrap (r:Int)=r:=IntWalk.i64_in _ (by omega);have v7:((q:Int)+k).toNat=q+k:=by omega
    have v8:0≤(q:Int)+k:=by omega
    have v9:(q:Int)+k<n:=by omega
    have v10:0≤63-(r:Int):=by omega
    have v11:63-(r:Int)≤64:=by omega
    have v12:(63-(r:Int)).toNat=63-r:=by omega
    go_still_tail 26,(by kernel_rfl)
    still_call HD.out
    repeat still_step
    refine wpStill_nil ?_;change wpList _ _ _ _ _ wr.drew;clear v1 v2 v3 v4 v5 v6 v7 v8 v9 v10 v11 v12
    go_wp2
    go_roundw
    case rel =>
     rw [down_bits d1 hr];have h7:=h4.drew.set hlt (Nat.mod_lt ((D l (q+k)+18446744073709551616*D l (q+k+1))/2 ^ r) (by decide));refine ⟨k+1,_,by omega,by go_num,h7,fun j hj => ?_,h6.drew.setCell (p:=⟨b,o+k,none⟩) hB _⟩
     by_cases hjk:j=k
     · subst hjk;rw [D_set_same (by rw [h4.len];exact hlt)];exact down_digit h.dig hr
     rw [D_set_other (fun e=>hjk e.symm)];exact H5.out j (by omega)
    case measure=>simp [intOf];omega
  obtain rfl:k=m:=by omega
  have h7:=down_end (q:=q) (r:=r) h.dig h4.dig (by rw [h4.len,HL.out];exact HME.out) (fun i hi=>H5.out i (by rw [h4.len] at hi;exact hi));have h8:=h4.digs;rw [h7] at h8;have h9:=h8.le
  go_wp2_with fail
  refine (trimmed_any _ _ _ _ _ h4.toNatAt).mono ?_;rintro e w' ⟨rfl,rfl⟩;rw [h7]
  go_wp2_with fail
  refine (clip_any _ _ _ _ h9 hcle).mono ?_;rintro e w' ⟨rfl,rfl⟩
  go_wp2
  go_ret2
  exact ⟨_,_,_,rfl,h8.recap (nRf _) h9,h6⟩
end Go.Proofs.YtkhcblihbalnbaaGreatDoor
