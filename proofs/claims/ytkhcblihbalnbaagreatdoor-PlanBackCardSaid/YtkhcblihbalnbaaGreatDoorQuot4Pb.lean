import Derived.Deep.LoopGhost
import Derived.Test.YtkhcblihbalnbaaGreatDoorQuot3Pb
set_option linter.unusedVariables false
set_option linter.unusedSimpArgs false
set_option maxHeartbeats 2000000
set_option maxRecDepth 100000
namespace Go.Proofs.YtkhcblihbalnbaaGreatDoor
open Go.RowKit
theorem gcd_any (a:Option Addr) (n c:Nat) (l:List Nat) (a2:Option Addr) (n2 c2:Nat) (l2:List Nat) (w:World) (h:NatAt w a n c l) (h2:NatAt w a2 n2 c2 l2) (hs:n≤68719476736) (hs2:n2≤68719476736) :
 Calls Tryz.prog 146 #[.slice a n c,.slice a2 n2 c2] w (RetNat w (Nat.gcd (val l) (val l2))):=by
 go_enter Tryz.func146,Tryz.ntmps146
 go_wp2_with fail
 with_reducible refine (trim_any _ _ _ l _ h (by omega)).mono ?_
 rintro e w1 ⟨a1,n1,c1,rfl,h3,hb1⟩;have h2:=h2.later hb1 (nRf _)
 go_wp2_with fail
 with_reducible refine (trim_any _ _ _ l2 _ h2 (by omega)).mono ?_
 rintro e w2 ⟨a4,n4,c4,rfl,h4,hb2⟩;have b1:n1≤n:=by have e1:=h3.len;have e2:=digs_length_val h.dig;rw [h.len] at e2;omega
 have b4:n4≤n2:=by have e1:=h4.len;have e2:=digs_length_val h2.dig;rw [h2.len] at e2;omega
 have h3:=h3.later hb2 (nRf _);have hb:=bLt hb1 hb2;have h4:=h4.mono hb1.size;clear hb1 hb2 h2 h
 go_wp2_with fail
 go_loopg [0,1] (val l2) (fun k s0 s1 wr=>∃ (x:Nat) (a:Option Addr) (n c:Nat) (a2:Option Addr) (n2 c2:Nat),s0 = .slice a n c∧s1 = .slice a2 n2 c2∧OwnAt wr w.heap.size a n c (digs x)∧OwnAt wr w.heap.size a2 n2 c2 (digs k)∧Nat.gcd x k=Nat.gcd (val l) (val l2)∧n≤68719476736∧n2≤68719476736∧Below w.heap.size w wr)
 case atStart=>exact ⟨val l,_,_,_,_,_,_,rfl,rfl,h3,h4,rfl,by omega,by omega,hb⟩
 case round =>
  clear h3 h4 hb b1 b4;obtain ⟨x,a5,n5,c5,a6,n6,c6,rfl,rfl,h5,h6,hg,b5,b6,hb⟩:=hrel;have hl6:=h6.len
  by_cases hk:gk=0
  · subst hk;rw [Nat.gcd_zero_right] at hg;rw [hg] at h5;obtain rfl:n6=0:=hl6.symm;have h5:=h5;clear hg h6 hl6
    go_wp2
    go_ret
    exact ⟨_,_,_,rfl,h5,hb⟩
  have hn6:0<n6:=by
   rcases Nat.eq_zero_or_pos n6 with h0 | h0
   · exact absurd (digs_len0.1 (hl6.trans h0)) hk
   exact h0
  have HK:=hiD hk;have HG:=hiD hg;clear hl6 hk hg
  go_wp2_with fail
  with_reducible refine (div_yes _ _ _ (digs x) _ _ _ (digs gk) _ h5.toNatAt h6.toNatAt (by omega) (by omega) (by rw [val_digs];exact HK.out)).mono ?_
  rintro e w7 ⟨a7,n7,c7,a8,n8,c8,rfl,h7,h8,hb8⟩;rw [val_digs,val_digs] at h8;have h9:=h6.later hb8 (nRf _);have h8:=h8.mono hb.size
  have b8:n8≤68719476736:=by
   have e1:=h8.len;have e2:=digs_len_mono (nOf (Nat.mod_lt x (Nat.pos_of_ne_zero HK.out)));have e3:=h6.len;omega
  have hb9:=bLt hb hb8;clear hb8 h7 h5 h6 hb b5;have hg2:Nat.gcd gk (x % gk)=Nat.gcd (val l) (val l2):=by rw [← HG.out,Nat.gcd_comm gk,← Nat.gcd_rec,Nat.gcd_comm]
  have HG2:=hiD hg2;have hlt:x % gk<gk:=Nat.mod_lt _ (Nat.pos_of_ne_zero HK.out);have HLT:=hiD hlt;clear hg2 hlt
  go_wp2
  go_roundg (x % gk)
  case measure=>exact HLT.out
  case rel=>exact ⟨gk,_,_,_,_,_,_,rfl,rfl,h9,h8,HG2.out,b6,b8,hb9⟩
end Go.Proofs.YtkhcblihbalnbaaGreatDoor
