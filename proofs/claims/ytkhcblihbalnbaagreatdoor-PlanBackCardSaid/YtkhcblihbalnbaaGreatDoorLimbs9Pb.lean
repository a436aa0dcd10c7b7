import Derived.Test.YtkhcblihbalnbaaGreatDoorLimbs1Pb
import Derived.Test.YtkhcblihbalnbaaGreatDoorLen64Pb
set_option linter.unusedVariables false
set_option linter.unusedSimpArgs false
set_option maxRecDepth 100000
namespace Go.Proofs.YtkhcblihbalnbaaGreatDoor
open Go.RowKit
theorem len64_any (x:Nat) (w:World) (h:x<18446744073709551616) :
 Calls Tryz.prog 183 #[.int .u64 ((x:Nat):Int)] w fun e w'=>e = .returned (.int .i64 ((nbits x:Nat):Int))∧w=w':=by
 have:=len64_kit x w (by omega) (by omega);rw [Int.toNat_natCast,bitLen_nbits h] at this;exact this.mono fun _ _ ⟨h1,h2⟩=>⟨h1,h2.symm⟩
theorem len_any (a:Option Addr) (n c:Nat) (l:List Nat) (w:World) (h:NatAt w a n c l) (hs:n≤549755813888) :
 Calls Tryz.prog 142 #[.slice a n c] w fun e w'=>e = .returned (.int .i64 ((nbits (val l):Nat):Int))∧w=w':=by
 have h1:=h.digs;have hle:=digs_length_val h.dig;rw [h.len] at hle
 by_cases h0:val l=0
 · have hl:(digs (val l)).length=0:=digs_len0.2 h0;have HL:=hiD hl;have e1:nbits (val l)=0:=by rw [h0];rfl
   have E1:=hiD e1;clear hl h0 e1
   go_enter Tryz.func142,Tryz.ntmps142
   go_wp2_with fail
   refine (trimmed_any _ _ _ _ _ h).mono ?_;rintro e w1 ⟨rfl,rfl⟩;rw [HL.out]
   go_wp2
   go_ret
   exact ⟨by rw [E1.out];rfl,rfl⟩
 have hm0:(digs (val l)).length≠0:=fun e=>h0 (digs_len0.1 e)
 obtain ⟨m,hm⟩:∃ m,(digs (val l)).length=m+1:=⟨(digs (val l)).length-1,by omega⟩;have ht:=D_digs_last h0;rw [hm] at ht h1 hle;rw [show m+1-1=m by omega] at ht;have hv:=nbits_top (dig_digs (val l)) hm ht;rw [val_digs] at hv;have htr:=trimmed_any a n c l w h;rw [hm] at htr;have HTR:=hiD htr;have HV:=hiD hv;have hD:=(dig_digs (val l)).at_ m;obtain ⟨L,hL⟩:∃ L,digs (val l)=L:=⟨_,rfl⟩;rw [hL] at h1 hD;obtain ⟨N,hN⟩:∃ N,nbits (D (digs (val l)) m)=N:=⟨_,rfl⟩;have hNb:N≤64:=by rw [← hN];exact nbits_le (dig_digs (val l) |>.at_ m)
 have HN:=hiD hN;have HL:=hiD hL;clear htr hv hm ht hm0 h0 hN hL;rcases h1.parts with h2 | ⟨b,o,rfl,hlt,hc⟩
 · omega
 have hc':=hc m (by omega);clear hc;have t1:(((m+1:Nat):Int) == 0)=false:=by simp only [beq_eq_false_iff_ne];omega
 have h64:=len64_any (D L m) w hD;have e64:nbits (D L m)=N:=by rw [← HL.out];exact HN.out
 rw [e64] at h64;have H64:=hiD h64;clear h64 e64
 go_enter Tryz.func142,Tryz.ntmps142
 go_wp2_with fail
 refine HTR.out.mono ?_;rintro e w1 ⟨rfl,rfl⟩
 go_wp2_with fail
 refine H64.out.mono ?_;rintro e w1 ⟨rfl,rfl⟩
 go_wp2
 go_ret
 refine ⟨ret_int ?_,rfl⟩;have e1:=HV.out;rw [HN.out] at e1;rw [e1];omega
end Go.Proofs.YtkhcblihbalnbaaGreatDoor
