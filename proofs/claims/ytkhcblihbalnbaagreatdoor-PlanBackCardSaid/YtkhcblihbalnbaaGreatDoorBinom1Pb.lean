import Derived.Test.YtkhcblihbalnbaaGreatDoorQuot1Pb
import Derived.Test.YtkhcblihbalnbaaGreatDoorKit2Pb
set_option linter.unusedVariables false
set_option linter.unusedSimpArgs false
set_option maxHeartbeats 1000000
set_option maxRecDepth 100000
namespace Go.Proofs.YtkhcblihbalnbaaGreatDoor
open Go.RowKit
def RetNE (w:World) (N:Nat) (E:Int) (e:Ending) (w':World):Prop :=
 ∃ a n c,e = .returned (.tuple #[.slice a n c,.int .i64 E])∧OwnAt w' w.heap.size a n c (digs N)∧Below w.heap.size w w'
theorem choose_out (n:Nat) (k:Int) (w:World) (hn:n≤65536) (h:k<0∨(n:Int)<k) :
 Calls Tryz.prog 254 #[.int .i64 (n:Int),.int .i64 k] w (RetVal w (.tuple #[.slice none 0 0,.int .i64 0])):=by
 have t:(decide ((n:Int)<0) || decide (65536<(n:Int)))=false:=by simp;omega
 rcases h with h | h
 all_goals
  try have h0:¬ k<0:=by omega
  go_enter Tryz.func254,Tryz.ntmps254
  go_wp2
  go_ret2
  exact ⟨rfl,bRf _ _⟩
theorem choose_in (n k:Nat) (w:World) (hn:n≤65536) (hk:k≤n) :
 Calls Tryz.prog 254 #[.int .i64 (n:Int),.int .i64 (k:Int)] w (RetNE w (ch n k) 0):=by
 have t:(decide ((n:Int)<0) || decide (65536<(n:Int)))=false:=by simp;omega
 have t2:(decide ((k:Int)<0) || decide ((n:Int)<(k:Int)))=false:=by simp;omega
 obtain ⟨m,hm⟩:∃ m,min k (n-k)=m:=⟨_,rfl⟩;have hmn:m≤n:=by omega
 have hch:ch n k=ch n m:=by
  rcases Nat.le_total k (n-k) with h | h
  · rw [← hm,Nat.min_eq_left h]
  rw [← hm,Nat.min_eq_right h];exact ch_symm hk
 rw [hch];have hmi:min (k:Int) ((n:Int)-(k:Int))=(m:Int):=by omega
 clear hm hch
 go_enter Tryz.func254,Tryz.ntmps254
 go_wp2_with fail
 refine (of_any 1 _ (by decide)).mono ?_;rintro e w1 ⟨a1,n1,c1,rfl,h1,hb1⟩
 go_wp2_with fail
 have e1:digs 1=digs (ch n 0):=by rw [ch_zero]
 rw [e1] at h1
 go_loopw [6,7,8,9] (fun s6 s7 s8 s9 wr=>∃ (j p q i:Nat) (a:Option Addr) (n' c:Nat),Hid (j+1=i∧n-j=p∧m-j=q∧j≤m)∧s6 = .slice a n' c∧s7 = .int .i64 ((i:Nat):Int)∧s8 = .int .i64 ((p:Nat):Int)∧s9 = .int .i64 ((q:Nat):Int)∧OwnAt wr w.heap.size a n' c (digs (ch n j))∧Below w.heap.size w wr) (fun _ _ _ s9 _=>(intOf s9).toNat)
 case atStart=>exact ⟨0,n,m,1,_,_,_,hiD ⟨by omega,by omega,by omega,by omega⟩,rfl,rfl,rfl,rfl,h1,hb1⟩
 case round =>
  clear h1 hb1 e1;obtain ⟨j,p,q,i,a,n',c,HJ,rfl,rfl,rfl,rfl,h,hb⟩:=hrel;obtain ⟨j1,j2,j3,j4⟩:=HJ.out;have hlen:=ch_len (n:=n) (by omega) j;have hl:=h.len;have bn:n'≤65537:=by omega
  clear hlen hl
  by_cases hq:0<q
  · have hi0:0<i:=by omega
    have hi1:i≤65537:=by omega
    have hp1:p≤65536:=by omega
    have hq1:q≤65536:=by omega
    have hst:val (digs (ch n j))*p=ch n (j+1)*i:=by rw [val_digs,← j2,← j1];exact ch_step (by omega)
    have hdv:val (digs (val (digs (ch n j))*p))/i=ch n (j+1):=by rw [val_digs,hst];exact Nat.mul_div_cancel _ hi0
    have hlp:=len_mulN (a:=val (digs (ch n j))) (b:=p) (p:=65537) (q:=1) (by rw [val_digs];have:=ch_len (n:=n) (by omega) j;omega) (digs_length_le.2 (by rw [Nat.pow_one];omega));have HDV:=hiD hdv;have HLP:=hiD hlp;have HST:Hid (j+1+1=i+1∧n-(j+1)=p-1∧m-(j+1)=q-1∧j+1≤m):=hiD (by omega);have hp0:1≤p:=by omega
    clear hst hdv hlp j1 j2 j3 j4
    go_wp2_with fail
    with_reducible refine (tgrow_any _ _ _ (digs (ch n j)) p _ h.toNatAt (by omega) (by omega)).mono ?_
    rintro e w2 ⟨a2,n2,c2,rfl,h2,hb2⟩;have bn2:n2≤65538:=by have:=h2.len;have:=HLP.out;omega
    have hb3:=bLt hb hb2;clear hb2 h
    go_wp2_with fail
    with_reducible refine (part_yes _ _ _ (digs (val (digs (ch n j))*p)) i _ h2.toNatAt (by omega) hi0 (by omega)).mono ?_
    rintro e w3 ⟨a3,n3,c3,rfl,h3,hb4⟩;rw [HDV.out] at h3;have h3:=h3.mono hb3.size;have hb5:=bLt hb3 hb4;clear hb4 hb3 h2 hb
    go_wp2
    go_roundw
    case measure=>simp [intOf]<;>omega
    case rel=>exact ⟨j+1,p-1,q-1,i+1,_,_,_,hiD HST.out,rfl,by congr 1,by congr 1;omega,by congr 1;omega,h3,hb5⟩
  obtain rfl:j=m:=by omega
  clear j1 j2 j3 j4
  go_wp2
  go_ret2
  exact ⟨_,_,_,rfl,h,hb⟩
end Go.Proofs.YtkhcblihbalnbaaGreatDoor
