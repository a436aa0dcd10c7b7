import Derived.Lib.MinMax
import Derived.Test.YtkhcblihbalnbaaGreatDoorLimbs1Pb
set_option linter.unusedVariables false
set_option linter.unusedSimpArgs false
set_option maxHeartbeats 1000000
set_option maxRecDepth 100000
namespace Go.Proofs.YtkhcblihbalnbaaGreatDoor
section
open Go.RowKit
theorem add_any (a:Option Addr) (n c:Nat) (l:List Nat) (a2:Option Addr) (n2 c2:Nat) (l2:List Nat) (w:World) (h:NatAt w a n c l) (h2:NatAt w a2 n2 c2 l2) (hs:n≤549755813888) (hs2:n2≤549755813888) :
 Calls Tryz.prog 128 #[.slice a n c,.slice a2 n2 c2] w (RetNat w (val l+val l2)):=by
 go_enter Tryz.func128,Tryz.ntmps128
 go_wp2_with fail
 refine (room_any _ _ (by omega) (by omega)).mono ?_;rintro e w1 ⟨a1,c1,rfl,h3,hb⟩;obtain ⟨M,hM1,hM2,hM⟩:∃ M:Nat,n≤M∧n2≤M∧(max (n:Int) (n2:Int)+1).toNat=M+1∧M≤549755813888:=⟨max n n2,by omega,by omega,by omega,by omega⟩;obtain ⟨hM,hM3⟩:=hM;rw [hM] at h3 ⊢;have HM:=hiD hM;clear hM;have hcle:=h3.cle;have hle:=h3.le;rcases h3.own with h3' | ⟨b,o,rfl,hB,hf⟩
 · omega
 clear hf
 go_wp2_with fail
 go_loopw [6,7] (fun i cy wr=>∃ (k x:Nat) (os:List Nat),k≤M+1∧x≤1∧i = .int .i64 k∧cy = .int .u64 x∧OwnAt wr w.heap.size (some ⟨b,o,none⟩) (M+1) c1 os∧lo os k+18446744073709551616 ^ k*x=lo l k+lo l2 k∧Below w.heap.size w wr) (fun i _ _=>M+1-(intOf i).toNat)
 case atStart=>exact ⟨0,0,_,Nat.zero_le _,Nat.zero_le _,rfl,rfl,h3,by simp [lo_zero],hb⟩
 case round =>
  obtain ⟨k,x,os,hk,hx,rfl,rfl,h4,h5,h6⟩:=hrel
  by_cases hlt:k<M+1
  · have e1:=h.later h6 (nRf _);have e2:=h2.later h6 (nRf _);have H5:=hiD h5;clear h5;have d1:=h.dig.at_ k;have d2:=h2.dig.at_ k
    have hcell:∃ v,wr.cell? ⟨b,o+k,none⟩=some v:=by
     rcases h4.cell with h' | ⟨b',o',he,hc⟩
     · omega
     cases he;exact ⟨_,hc k hlt⟩
    obtain ⟨v,hcell⟩:=hcell;obtain ⟨d,cy,hd,hcy,hsum,hadd⟩:=add64_call (D l k) (D l2 k) x d1 d2 hx;have HS:=hiD hsum;clear hsum
    have hfro:wr.frozen? ⟨b,o+k,none⟩=false:=by
     rcases h4.own with h' | ⟨b',o',he,_,hf⟩
     · omega
     cases he;exact hf k hlt
    go_wp2_with fail
    refine (digit_any _ _ _ l _ _ e1 (by omega)).mono ?_;rintro e w' ⟨rfl,rfl⟩;rw [Int.toNat_natCast]
    go_wp2_with fail
    refine (digit_any _ _ _ l2 _ _ e2 (by omega)).mono ?_;rintro e w' ⟨rfl,rfl⟩;rw [Int.toNat_natCast]
    go_wp2_with fail
    have h7:=h4.set hlt hd;have h8:=h6.setCell (p:=⟨b,o+k,none⟩) hB (.int .u64 (d:Int));have h9:=add_step H5.out (by rw [h4.len];exact hlt) HS.out
    go_wp2
    go_roundw
    case rel=>exact ⟨k+1,cy,_,by omega,hcy,by go_num,rfl,h7,h9,h8⟩
    case measure=>simp [intOf];omega
  obtain rfl:k=M+1:=by omega
  have h7:=add_end h.dig h2.dig h4.len (by rw [h.len];exact hM1) (by rw [h2.len];exact hM2) h5;have h8:=h4.digs;rw [h7] at h8;have h9:=h8.le
  go_wp2_with fail
  refine (trimmed_any _ _ _ _ _ h4.toNatAt).mono ?_;rintro e w' ⟨rfl,rfl⟩;rw [h7]
  go_wp2_with fail
  refine (clip_any _ _ _ _ h9 hcle).mono ?_;rintro e w' ⟨rfl,rfl⟩
  go_wp2
  go_ret
  exact ⟨_,_,_,rfl,h8.recap (nRf _) h9,h6⟩
end
section
open Go.RowKit
theorem up_bits {h x r:Nat} (hr:r≤63) (hh:h<2 ^ r) :
 bits .or .u64 (h:Int) (IntKind.u64.wrap ((x:Int)*2 ^ r))=((h+x*2 ^ r % 18446744073709551616:Nat):Int):=by
 have e2:IntKind.u64.wrap ((x:Int)*2 ^ r)=((x*2 ^ r % 18446744073709551616:Nat):Int):=by
  rw [IntKind.wrap_u64];simp only [Int.natCast_emod,Int.natCast_mul,Int.natCast_pow];rfl
 have h1:h<18446744073709551616:=nLt hh (nTr (Nat.pow_le_pow_right (by decide) hr) (by decide));rw [e2,u64_or_nat _ _ h1 (Nat.mod_lt _ (by decide)),low_or hr hh]
def RetClip (w:World) (N:Nat) (e:Ending) (w':World):Prop :=
 ∃ a n,e = .returned (.tuple #[.slice a n n,.int .i64 0])∧OwnAt w' w.heap.size a n n (digs N)∧Below w.heap.size w w'
theorem shiftUp_clip (a:Option Addr) (n c:Nat) (l:List Nat) (s:Int) (w:World) (h:NatAt w a n c l) (hs:n≤549755813888) (h0:0≤s) (h1:s≤16777216) :
 Calls Tryz.prog 215 #[.slice a n c,.int .i64 s] w (RetClip w (val l*2 ^ s.toNat)):=by
 obtain ⟨q,r,rfl,hr⟩:∃ q r:Nat,s=64*q+r∧r≤63:=⟨(s/64).toNat,(s % 64).toNat,by omega,by omega⟩;have es:(64*(q:Int)+r).toNat=64*q+r:=by omega
 rw [es];have hq:(64*(q:Int)+r)/64=q:=by omega
 have hm:(64*(q:Int)+r) % 64=r:=by omega
 have ES:=hiD es;clear es;have hL:=h.digs;have hLv:=val_digs (val l);have hLn:=digs_length_val h.dig;rw [h.len] at hLn;have hzz:val l=0 ↔ (digs (val l)).length=0:=digs_len0.symm;obtain ⟨L,hLe⟩:∃ L,L=digs (val l):=⟨_,rfl⟩;obtain ⟨m,hme⟩:∃ m,m=L.length:=⟨_,rfl⟩;rw [← hLe] at hL hLv hLn hzz;rw [← hme] at hL hLn hzz
 have htr:Calls Tryz.prog 164 #[.slice a n c] w fun e w'=>e = .returned (.slice a m c)∧w=w':=by
  have:=trimmed_any a n c l w h;rw [← hLe,← hme] at this;exact this
 have HLV:=hiD hLv;have HME:=hiD hme;have HTR:=hiD htr;clear hLv hme hLe htr;have hn1:=hL.le;have hn2:=hL.cle
 by_cases hm0:m=0
 · have hv0:=hzz.2 hm0;have HV:=hiD hv0;clear hzz hv0;subst hm0
   go_enter Tryz.func215,Tryz.ntmps215
   go_wp2_with fail
   refine HTR.out.mono ?_;rintro e w1 ⟨rfl,rfl⟩
   go_wp2
   go_ret2
   exact ⟨_,_,rfl,by rw [HV.out,Nat.zero_mul];exact OwnAt.nil _ _,bRf _ _⟩
 clear hzz;have hm1:((m:Int) == 0)=false:=by simp only [beq_eq_false_iff_ne];omega
 go_enter Tryz.func215,Tryz.ntmps215
 go_wp2_with fail
 refine HTR.out.mono ?_;rintro e w1 ⟨rfl,rfl⟩
 go_wp2_with fail
 refine (room_any _ _ (by omega) (by omega)).mono ?_;rintro e w1 ⟨a1,c1,rfl,h3,hb1⟩;have hM:((q:Int)+m+1).toNat=q+m+1:=by omega
 rw [hM] at h3 ⊢;clear hM;have hcle:=h3.cle;have hle:=h3.le;rcases h3.own with h3' | ⟨b,o,rfl,hB,hf⟩
 · omega
 clear hf;rcases hL.parts with h' | ⟨ba,oa,rfl,hlt0,hca⟩
 · omega
 go_wp2_with fail
 go_loopw [31] (fun i wr=>∃ (k:Nat) (os:List Nat),k≤m∧i = .int .i64 k∧OwnAt wr w.heap.size (some ⟨b,o,none⟩) (q+m+1) c1 os∧D os (q+k)<2 ^ r∧lo os (q+k+1)=lo L k*2 ^ (64*q+r)∧Below w.heap.size w wr) (fun i _=>m-(intOf i).toNat)
 case atStart=>exact ⟨0,_,Nat.zero_le _,rfl,h3,by rw [D_replicate];exact Nat.pow_pos (by decide),by rw [lo_replicate,lo_zero,Nat.zero_mul],hb1⟩
 case round =>
  obtain ⟨k,os,hk,rfl,h4,h5,h5',h6⟩:=hrel;have H5:=hiD h5;have H5':=hiD h5';clear h5 h5'
  by_cases hlt:k<m
  · have hca':wr.cell? ⟨ba,oa+k,none⟩=some (.int .u64 ((D L k:Nat):Int)):=(h6.cell (p:=⟨ba,oa+k,none⟩) hlt0).trans (hca k (by omega));clear hca;have d1:=hL.dig.at_ k
    have hcells:wr.cell? ⟨b,o+(q+k),none⟩=some (.int .u64 ((D os (q+k):Nat):Int))∧wr.cell? ⟨b,o+(q+k+1),none⟩=some (.int .u64 ((D os (q+k+1):Nat):Int)):=by
     rcases h4.cell with h' | ⟨b',o',he,hc⟩
     · omega
     cases he;exact ⟨hc _ (by omega),hc _ (by omega)⟩
    obtain ⟨hc1,hc2⟩:=hcells
    have hfros:wr.frozen? ⟨b,o+(q+k),none⟩=false∧wr.frozen? ⟨b,o+(q+k+1),none⟩=false:=by
     rcases h4.own with h' | ⟨b',o',he,_,hf⟩
     · omega
     cases he;exact ⟨hf _ (by omega),hf _ (by omega)⟩
    obtain ⟨hf1,hf2⟩:=hfros;have h64:0≤64*(q:Int)+r:=by omega
    go_wp2_with fail
    have v4:(64*(q:Int)+r).tmod 64=r:=by rw [Int.tmod_eq_emod_of_nonneg h64,hm]
    have v5:IntKind.i64.wrap (63-(r:Int))=63-r:=IntWalk.i64_in _ (by omega);have v6:IntKind.i64.wrap (r:Int)=r:=IntWalk.i64_in _ (by omega);have v10:0≤63-(r:Int):=by omega
    have v11:63-(r:Int)≤64:=by omega
    have v12:(63-(r:Int)).toNat=63-r:=by omega
    go_quiet (fail)
    clear v4 v5 v6 v10 v11 v12
    go_wp2_with fail
    have hH:=H5.out
    have eh:(D L k:Int)/2/2 ^ (63-r)=((D L k/2/2 ^ (63-r):Nat):Int):=by
     rw [Int.natCast_ediv,Int.natCast_ediv,Int.natCast_pow];rfl
    rw [up_bits hr hH,eh];have h7:=(h4.draws nq).set (k:=q+k) (by omega) (low_or_lt (x:=D L k) hr hH);have hhl:=high_lt d1 hr;have h8:=h7.set (k:=q+k+1) (d:=D L k/2/2 ^ (63-r)) (by omega) (Nat.lt_of_le_of_lt (Nat.div_le_self _ _) (Nat.lt_of_le_of_lt (Nat.div_le_self _ _) d1));have h9:=up_step hr d1 (by rw [h4.len];omega) hH H5'.out;refine ⟨⟨k+1,_,by omega,by go_num,h8,?_,h9,(((Below.draws h6 nq).setCell (p:=⟨b,o+(q+k),none⟩) hB _).setCell (p:=⟨b,o+(q+k+1),none⟩) hB _)⟩,by simp [intOf];omega⟩;rw [show q+(k+1)=q+k+1 by omega,D_set_same (by rw [List.length_set,h4.len];omega)];exact hhl
  obtain rfl:k=m:=by omega
  have h7:=up_end (q:=q) (r:=r) (n:=k) (l:=L) (by rw [HME.out];exact nRf _) (by rw [h4.len];exact nRf _) H5'.out;rw [HLV.out] at h7;have h8:=h4.digs;rw [h7] at h8;have h9:=h8.le
  go_wp2_with fail
  refine (trimmed_any _ _ _ _ _ h4.toNatAt).mono ?_;rintro e w' ⟨rfl,rfl⟩;rw [h7]
  go_wp2_with fail
  refine (clip_any _ _ _ _ h9 hcle).mono ?_;rintro e w' ⟨rfl,rfl⟩
  go_wp2
  go_ret2
  exact ⟨_,_,rfl,h8.recap (nRf _) h9,h6⟩
end
end Go.Proofs.YtkhcblihbalnbaaGreatDoor
