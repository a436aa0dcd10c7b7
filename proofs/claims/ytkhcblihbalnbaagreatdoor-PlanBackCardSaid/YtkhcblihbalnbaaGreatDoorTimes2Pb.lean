import Derived.Test.YtkhcblihbalnbaaGreatDoorTimes1Pb
set_option linter.unusedVariables false
set_option linter.unusedSimpArgs false
set_option maxHeartbeats 1000000
set_option maxRecDepth 100000
namespace Go.Proofs.YtkhcblihbalnbaaGreatDoor
open Go.RowKit
theorem school_next {os L:List Nat} {v k:Nat} (h:val os=v*lo L k):val os+18446744073709551616 ^ k*(D L k*v)=v*lo L (k+1):=by
 rw [h,lo_step,Nat.mul_add];congr 1;ac_rfl
theorem lo_le_val (L:List Nat) (j:Nat):lo L j≤val L:=by rw [lo_hi L j];omega
theorem school_fit {L1 L2:List Nat} (h1:Dig L1) (h2:Dig L2) {N:Nat} (h:L1.length+L2.length≤N) (j:Nat):val L1*lo L2 j<18446744073709551616 ^ N:=by
 have e1:=val_lt h1;have e2:=Nat.lt_of_le_of_lt (lo_le_val L2 j) (val_lt h2);have e3:=Nat.mul_lt_mul'' e1 e2;rw [← Nat.pow_add] at e3;exact nLt e3 (Nat.pow_le_pow_right (by decide) h)
theorem made_own {E:Nat} {w1 w2:World} {q:Nat} (hr2:w2.ownsRow w1.heap.size E 1 (.slice (some ⟨w1.heap.size,0,none⟩) q q) q (List.replicate q (.int .u64 0))):OwnAt w2 w1.heap.size (some ⟨w1.heap.size,0,none⟩) q q (List.replicate q 0):=by
 obtain ⟨a,c,e,h⟩:=OwnAt.ofRow (l:=List.replicate q 0) (by rw [dv_replicate];exact hr2) (dig_replicate q);cases e;exact h
theorem school_any (a:Option Addr) (n c:Nat) (l:List Nat) (a2:Option Addr) (n2 c2:Nat) (l2:List Nat) (w:World) (h:NatAt w a n c l) (h2:NatAt w a2 n2 c2 l2) (hs:n≤274877906944) (hs2:n2≤274877906944) :
 Calls Tryz.prog 174 #[.slice a n c,.slice a2 n2 c2] w (RetNat w (val l*val l2)):=by
 obtain ⟨i0,hi,hz0,hz1,hz2⟩:=info_parts info109
 go_enter Tryz.func174,Tryz.ntmps174
 go_wp2_with fail
 refine (trim_any _ _ _ l _ h (by omega)).mono ?_;rintro e w1 ⟨a1,n1,c1,rfl,h3,hb1⟩;have h2:=h2.later hb1 (nRf _)
 go_wp2_with fail
 refine (trim_any _ _ _ l2 _ h2 (by omega)).mono ?_;rintro e w2 ⟨a4,n4,c4,rfl,h4,hb2⟩;have b1:n1≤n:=by have e1:=h3.len;have e2:=digs_length_val h.dig;rw [h.len] at e2;omega
 have b4:n4≤n2:=by have e1:=h4.len;have e2:=digs_length_val h2.dig;rw [h2.len] at e2;omega
 have h3:=h3.later hb2 (nRf _);have hb:=bLt hb1 hb2;obtain ⟨N,hN⟩:∃ N,n1+n4+1=N:=⟨_,rfl⟩;have hw:(n1:Int)+n4+1=(N:Int):=by omega
 have hfit:=fun j=>school_fit (dig_digs (val l)) (dig_digs (val l2)) (N:=N) (by have:=h3.len;have:=h4.len;omega) j
 simp only [val_digs] at hfit;have HF:=hiD hfit;clear hfit
 go_wp2_with (at_make;refine wpList_make_full _ rfl _ _ 24 rfl w2.heap.size 109 i0 (.int .u64 0) 1 Tryz.underlying24 hi hz0 hz1 .i64 .i64 _ _ N rfl rfl rfl rfl (by rw [hz2];omega) (by simp only [maxLen];omega) (nRf _) ?_;intro w3 hr3 hg3)
 have h5:OwnAt w3 w2.heap.size (some ⟨w2.heap.size,0,none⟩) N N (List.replicate N 0):=made_own (by rw [← toList_madeCells_one];rw [Nat.mul_one] at hr3;exact hr3);have hb3:Below w2.heap.size w2 w3:=(bRf _ _).grown hg3 (nRf _) (fun k e=>by cases e);clear hr3 hg3 hw
 go_wp2_with fail
 go_loopw [21] (fun i wr=>∃ (k:Nat) (os:List Nat),k≤n4∧i = .int .i64 k∧OwnAt wr w2.heap.size (some ⟨w2.heap.size,0,none⟩) N N os∧val os=val l*lo (digs (val l2)) k∧Below w2.heap.size w2 wr) (fun i _=>n4-(intOf i).toNat)
 case atStart=>exact ⟨0,_,Nat.zero_le _,rfl,h5,by rw [val_replicate,lo_zero,Nat.mul_zero],hb3⟩
 case round =>
  clear hb3 h5;obtain ⟨k,os,hk,rfl,h6,h7,hb4⟩:=hrel;have H7:=hiD h7;clear h7
  by_cases hlt:k<n4
  · have e1:NatAt wr a1 n1 c1 (digs (val l)):=h3.toNatAt.later hb4 (nRf _);have e2:NatAt wr a4 n4 c4 (digs (val l2)):=h4.toNatAt.later hb4 (nRf _);have d2:=e2.dig.at_ k;rcases e2.parts with h' | ⟨ba,oa,rfl,_,hca⟩
    · omega
    have hca':=hca k hlt;clear hca
    have hlow:n1=0∨∀ y,a1=some y→y.block<w2.heap.size:=by
     rcases h3.toNatAt.parts with h' | ⟨b',o',he,hh,_⟩
     · exact .inl h'
     exact .inr fun y hy=>by rw [he] at hy;cases hy;exact hh
    have hnx:=school_next H7.out;have hroom:val os+18446744073709551616 ^ k*(D (digs (val l2)) k*val (digs (val l)))<18446744073709551616 ^ N:=by rw [val_digs,hnx];exact HF.out _
    have hline:=line_any w2.heap.size 0 N N os k a1 n1 c1 (digs (val l)) (D (digs (val l2)) k) w2.heap.size wr h6 e1 hlow (by omega) d2 (nRf _) hroom;rw [val_digs,hnx,Nat.zero_add] at hline;have HL:=hiD hline;clear hroom hnx hline
    go_wp2_with fail
    refine HL.out.mono ?_;rintro e w5 ⟨rfl,hb5,ds,h8,h9⟩
    go_wp2_with fail
    go_roundw
    case rel=>exact ⟨k+1,ds,by omega,by go_num,h8,h9,hb4.trans hb5⟩
    case measure=>simp [intOf];omega
  obtain rfl:k=n4:=by omega
  clear hlt
  have e:val os=val l*val l2:=by
   have e1:=H7.out
   rwa [lo_all (by rw [h4.len];exact nRf _),val_digs] at e1
  have E:=hiD e;clear e
  go_wp2_with fail
  refine (trim_any _ _ _ os _ h6.toNatAt (by omega)).mono ?_;rintro e w6 ⟨a6,n6,c6,rfl,h8,hb6⟩
  go_wp2
  go_ret
  rw [E.out] at h8;exact RetNat.of (bLt hb hb4) ⟨_,_,_,rfl,h8,hb6⟩
theorem tgrow_any (a:Option Addr) (n c:Nat) (l:List Nat) (x:Nat) (w:World) (h:NatAt w a n c l) (hs:n≤274877906944) (hx:x<18446744073709551616) :
 Calls Tryz.prog 129 #[.slice a n c,.int .u64 x] w (RetNat w (val l*x)):=by
 go_enter Tryz.func129,Tryz.ntmps129
 go_wp2_with fail
 refine (school_any _ _ _ l _ _ _ [x] _ (h.alloc _) (lit1 w x x rfl hx).toNatAt hs (by decide)).mono ?_;rintro e w1 ⟨a1,n1,c1,rfl,h3,hb⟩
 go_wp2
 go_ret
 exact RetNat.of ((bRf _ _).alloc (nRf _) _) ⟨_,_,_,rfl,by simpa [val] using h3,hb⟩
end Go.Proofs.YtkhcblihbalnbaaGreatDoor
