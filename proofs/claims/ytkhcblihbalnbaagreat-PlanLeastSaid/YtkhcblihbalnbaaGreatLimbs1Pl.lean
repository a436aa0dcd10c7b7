import Derived.Test.YtkhcblihbalnbaaGreatProg
import Derived.Lib.AppendZeros
import Derived.Lib.SliceRun
import Derived.BigQuiet
import Derived.Deep.QuietTactic
import Derived.Deep.AppendSrc
import Derived.WalkSpells
import Derived.Test.YtkhcblihbalnbaaGreatS0Pl
import Derived.Test.YtkhcblihbalnbaaGreatNumPl
set_option linter.unusedVariables false
set_option linter.unusedSimpArgs false
set_option maxRecDepth 100000
namespace Go.Proofs.YtkhcblihbalnbaaGreat
section
open Go.RowKit
theorem add64_call (x y c:Nat) (hx:x<18446744073709551616) (hy:y<18446744073709551616) (hc:c≤1) :
 ∃ s k:Nat,s<18446744073709551616∧k≤1∧s+18446744073709551616*k=x+y+c ∧
  ∀ w,(callFunc 199 #[.int .u64 ((x:Nat):Int),.int .u64 ((y:Nat):Int),.int .u64 ((c:Nat):Int)]).run Tryz.prog w = .ok (.value (.tuple #[.int .u64 ((s:Nat):Int),.int .u64 ((k:Nat):Int)])) w:=by
 refine ⟨(x+y+c) % 18446744073709551616,(x+y+c)/18446744073709551616,by omega,by omega,by omega,fun w => ?_⟩;rw [run_callFunc_extern Tryz.func199 (by kernel_rfl) (by kernel_rfl) (by kernel_rfl) (e:=add64Entry) (by kernel_rfl),run_add64 x y c (by omega) (by omega) (by omega) (by omega)];simp only [Result.andThen]
 congr 5<;>omega
def subEntry:Array Value→Sem Value:=fun args=>do
 let (x, y, b) ← Extern.MathBitsCarry.three "Sub64" args
 pure (Extern.MathBitsCarry.pair ((x+Extern.MathBitsCarry.m64-y-b) % Extern.MathBitsCarry.m64) (if x<y+b then 1 else 0))
theorem run_subEntry {P:Program} (x y b:Nat) (hb:b≤1) (w:World) :
 (subEntry #[.int .u64 x, .int .u64 y, .int .u64 b]).run P w =
   .ok (.tuple #[.int .u64 (((x+18446744073709551616-y-b) % 18446744073709551616:Nat):Int),.int .u64 ((if x<y+b then 1 else 0:Nat):Int)]) w:=by
 have:b=0∨b=1:=by omega
 rcases this with rfl | rfl<;>rfl
theorem sub64_call (x y c:Nat) (hx:x<18446744073709551616) (hy:y<18446744073709551616) (hc:c≤1) :
 ∃ s k:Nat,s<18446744073709551616∧k≤1∧s+y+c=x+18446744073709551616*k ∧
  ∀ w,(callFunc 219 #[.int .u64 ((x:Nat):Int),.int .u64 ((y:Nat):Int),.int .u64 ((c:Nat):Int)]).run Tryz.prog w = .ok (.value (.tuple #[.int .u64 ((s:Nat):Int),.int .u64 ((k:Nat):Int)])) w:=by
 refine ⟨(x+18446744073709551616-y-c) % 18446744073709551616,if x<y+c then 1 else 0,by omega,by split<;>omega,by split<;>omega,fun w => ?_⟩;rw [run_callFunc_extern Tryz.func219 (by kernel_rfl) (by kernel_rfl) (by kernel_rfl) (e:=subEntry) (by kernel_rfl),run_subEntry x y c hc];rfl
theorem digit_any (a:Option Addr) (n c:Nat) (l:List Nat) (i:Int) (w:World) (h:NatAt w a n c l) (h0:0≤i) :
 Calls Tryz.prog 190 #[.slice a n c,.int .i64 i] w fun e w'=>e = .returned (.int .u64 ((D l i.toNat:Nat):Int))∧w=w':=by
 obtain ⟨k,rfl⟩:=Int.eq_ofNat_of_zero_le h0;rw [Int.toNat_natCast]
 by_cases hk:k<n
 · rcases h.parts with h1 | ⟨b,o,rfl,hlt,hc⟩
   · omega
   have hc':=hc k hk;have hl:=h.cle;have hl':=h.le;clear hc
   go_enter Tryz.func190,Tryz.ntmps190
   go_wp2
   go_ret
   exact ⟨rfl,rfl⟩
 have hd:D l k=0:=D_out (by rw [h.len];omega);have H:=hiD hd;clear hd
 go_enter Tryz.func190,Tryz.ntmps190
 go_wp2
 go_ret
 exact ⟨by rw [H.out];rfl,rfl⟩
theorem trimmed_any (a:Option Addr) (n c:Nat) (l:List Nat) (w:World) (h:NatAt w a n c l) :
 Calls Tryz.prog 129 #[.slice a n c] w fun e w'=>e = .returned (.slice a (digs (val l)).length c)∧w=w':=by
 have hl:=h.cle;have hl':=h.le
 go_enter Tryz.func129,Tryz.ntmps129
 go_wp2
 go_loop [0] (fun v=>∃ m:Nat,m≤n∧hi l m=0∧v = .slice a m c) (fun v=>match v with | .slice _ m _=>m | _=>0)
 case atStart=>exact ⟨n,nRf _,hi_all (by rw [h.len];omega),rfl⟩
 case round =>
  obtain ⟨m,hm,h0,rfl⟩:=hrel;have H0:=hiD h0;clear h0
  by_cases hm0:0<m
  · rcases h.parts with h1 | ⟨b,o,rfl,hlt,hc⟩
    · omega
    have hc':=hc (m-1) (by omega);clear hc
    by_cases hz:D l (m-1)=0
    · have hz':(((D l (m-1):Nat):Int) == 0)=true:=by rw [hz];rfl
      have HZ:=hiD hz;clear hz
      go_wp2
      go_round
      case rel=>exact ⟨m-1,by omega,by rw [hi_step,HZ.out,show m-1+1=m by omega,H0.out],rfl⟩
      case measure=>simp;omega
    have hz':(((D l (m-1):Nat):Int) == 0)=false:=by simpa using hz
    have HZ:=hiD hz;clear hz
    go_wp2
    go_ret
    exact ⟨ret_len (take_digs_length h.dig (by rw [h.len];exact hm) H0.out (.inr HZ.out)),rfl⟩
  have hmz:m=0:=by omega
  subst hmz;clear hm0
  go_wp2
  go_ret
  exact ⟨ret_len (take_digs_length h.dig (Nat.zero_le _) H0.out (.inl rfl)),rfl⟩
theorem clip_any (a:Option Addr) (n c:Nat) (w:World) (h:n≤c) (hc:c≤9223372036854775807) :
 Calls Tryz.prog 200 #[.slice a n c] w fun e w'=>e = .returned (.slice a n n)∧w=w':=by
 go_enter Tryz.func200,Tryz.ntmps200
 go_wp2
 go_ret
 exact ⟨rfl,rfl⟩
theorem info110:(Tryz.prog.info? 110).map (fun i=>(i.zero,i.size,i.bytes))=some (some (.int .u64 0),1,8):=by kernel_rfl
theorem copied {E:Nat} (w:World) (a':Option Addr) (n c':Nat) (l:List Nat) (w1:World) (o:Obj) (hd:Dig l) (hown:w1.ownsRow w.heap.size E 1 (.slice a' (0+n) c') (0+n) ([] ++ dv l))
 (hgrow:(w.alloc o).grownBy w1 (Value.slice (some ⟨w.heap.size,0,none⟩) 0 0).ownBlock) {e:Ending} (he:e = .returned (.slice a' n c')) :
 ∃ a' n' c',e = .returned (.slice a' n' c')∧OwnAt w1 w.heap.size a' n' c' l∧Below w.heap.size w w1:=by
 obtain ⟨a2,c2,he2,h2⟩:=OwnAt.ofRow (by simpa using hown) hd;cases he2;refine ⟨_,_,_,he,by simpa using h2,?_⟩;refine ((bRf _ _).alloc (nRf _) o).grown hgrow (by simp) (fun k hk => ?_);simp [Value.ownBlock] at hk;omega
theorem copyNat_any (a:Option Addr) (n c:Nat) (l:List Nat) (w:World) (h:NatAt w a n c l) (hs:n≤1099511627776) :
 Calls Tryz.prog 38 #[.slice a n c] w fun e w'=>∃ a' n' c',e = .returned (.slice a' n' c')∧OwnAt w' w.heap.size a' n' c' l∧Below w.heap.size w w':=by
 obtain ⟨i0,hi,hz0,hz1,hz2⟩:=info_parts info110
 go_enter Tryz.func38,Tryz.ntmps38
 go_wp2_with (at_builtin;refine wpList_append_nat rfl _ _ 24 rfl w.heap.size 110 i0 Tryz.underlying24 hi hz0 hz1 hz2 _ 0 [] rfl (World.ownsRow_lit w #[] 0 (nRf _) (by simp) rfl) a n c l rfl (h.alloc _) (by omega) (by simp) ?_;intro a' c' w1 hown hgrow)
 go_ret
 exact copied w a' n c' l w1 _ h.dig hown hgrow rfl
theorem clone_any (a:Option Addr) (n c:Nat) (l:List Nat) (w:World) (h:NatAt w a n c l) (hs:n≤1099511627776) :
 Calls Tryz.prog 74 #[.slice a n c] w fun e w'=>∃ a' n' c',e = .returned (.slice a' n' c')∧OwnAt w' w.heap.size a' n' c' l∧Below w.heap.size w w':=by
 obtain ⟨i0,hi,hz0,hz1,hz2⟩:=info_parts info110;have hq:=fun w=>Lib.run_eql_slice_nil (P:=Tryz.prog) w 24 110 a n c 0 0 Tryz.underlying24
 cases a with
 | none =>
   have hc:=h.nilc rfl;have hn:n=0:=by have:=h.le;omega
   subst hc;subst hn;have hl:l=[]:=List.eq_nil_of_length_eq_zero h.len;subst hl
   go_enter Tryz.func74,Tryz.ntmps74
   go_wp2
   go_ret
   exact ⟨_,_,_,rfl,OwnAt.nil _ _,bRf _ _⟩
 | some ad =>
   go_enter Tryz.func74,Tryz.ntmps74
   go_wp2_with (at_builtin;refine wpList_append_nat rfl _ _ 24 rfl w.heap.size 110 i0 Tryz.underlying24 hi hz0 hz1 hz2 _ 0 [] rfl (World.ownsRow_lit w #[] 0 (nRf _) (by simp) rfl) _ n c l rfl (h.alloc _) (by omega) (by simp) ?_;intro a' c' w1 hown hgrow)
   go_ret
   exact copied w a' n c' l w1 _ h.dig hown hgrow rfl
theorem zero110 (w:World):(zeroValue 110).run Tryz.prog w = .ok (.int .u64 0) w:=by kernel_rfl
theorem zeroed {E:Nat} (w:World) (n cap:Nat) (h:n≤cap) (hc:cap≤9223372036854775807) :
 OwnAt (w.drew.alloc (.cells (Builtin.zeroCells (Value.int IntKind.u64 0).cells n ++ Builtin.zeroCells (Value.int IntKind.u64 0).cells (cap-n)) E)) w.heap.size (some ⟨w.heap.size,0,none⟩) n cap (List.replicate n 0):=by
 refine ⟨⟨by simp,h,hc,dig_replicate n,.inr ⟨_,_,rfl,fun i hi => ?_⟩,fun e=>by cases e⟩,.inr ⟨_,_,rfl,nRf _,fun i hi => ?_⟩⟩
 · rw [show w.heap.size=w.drew.heap.size from rfl,World.cell?_alloc_at _ _ _ _ rfl,Nat.zero_add,Array.getElem?_append];have h1:(Builtin.zeroCells (Value.int IntKind.u64 0).cells n).size=n:=by simp [Builtin.zeroCells,Value.cells]
   rw [if_pos (by omega)];simp [Builtin.zeroCells,Value.cells,D,hi,List.getD_eq_getElem?_getD,Nat.mod_one]
 exact World.frozen?_alloc_at _ _ _ _ rfl
theorem grow_nil (n:Nat) (w:World) (hs:n≤1099511627776) :
 Calls Tryz.prog 221 #[.slice none 0 0,.int .i64 n] w fun e w'=>∃ a' c',e = .returned (.slice a' 0 c')∧OwnAt w' w.heap.size a' n c' (List.replicate n 0)∧Below w.heap.size w w':=by
 obtain ⟨i0,hi,hz0,hz1,hz2⟩:=info_parts info110;have hu:=fun (w:World) (hn:0<n)=>Lib.run_append_nil_zeros (P:=Tryz.prog) w 24 3 24 110 i0 (.int .u64 0) .i64 .i64 Tryz.underlying24 Tryz.underlying3 hi hz0 n hn (by omega) (by omega) (by rw [hz2];omega)
 by_cases hn:0<n
 · have hcap:=grownCap_le_maxLen w n 0 110 (by simp only [maxLen];omega);have hcap':=grownCap_ge w n 0 110;simp only [maxLen] at hcap
   go_enter Tryz.func221,Tryz.ntmps221
   go_wp2_with (at_builtin;refine Lib.wpList_append_run _ rfl _ _ 24 3 rfl _ _ rfl rfl _ _ (hu _ hn) ?_;clear hu)
   go_ret
   exact ⟨_,_,rfl,zeroed w n _ hcap' hcap,(bRf _ _).drew.alloc (nRf _) _⟩
 obtain rfl:n=0:=by omega
 go_enter Tryz.func221,Tryz.ntmps221
 go_wp2
 go_ret
 exact ⟨_,_,rfl,OwnAt.nil _ _,bRf _ _⟩
theorem clear_nought (w:World) (a:Option Addr) (c:Nat) (ty:TypeId):(Builtin.clear_ #[24] ty #[.slice a 0 c]).run Tryz.prog w = .ok (.tuple #[]) w:=by
 cases a<;>simp [Builtin.clear_,run_underlying Tryz.underlying24,zero110,Builtin.zeroCells,storeCells]
theorem room_any (n:Int) (w:World) (h0:0≤n) (hs:n≤1099511627776) :
 Calls Tryz.prog 198 #[.int .i64 n] w fun e w'=>∃ a' c',e = .returned (.slice a' n.toNat c')∧OwnAt w' w.heap.size a' n.toNat c' (List.replicate n.toNat 0)∧Below w.heap.size w w':=by
 obtain ⟨n,rfl⟩:=Int.eq_ofNat_of_zero_le h0;rw [Int.toNat_natCast]
 go_enter Tryz.func198,Tryz.ntmps198
 go_wp2_with fail
 refine (grow_nil n _ (by omega)).mono ?_;rintro e w1 ⟨a1,c1,rfl,h1,hb1⟩;have hle:=h1.le;have hcle:=h1.cle
 by_cases hn:n=0
 · subst hn;have hcl:=fun ty=>clear_nought w1 a1 c1 ty
   cases a1 with
   | none =>
     go_wp2
     go_ret
     exact ⟨_,_,rfl,h1,hb1⟩
   | some ad =>
     go_wp2
     go_ret
     exact ⟨_,_,rfl,h1,hb1⟩
 rcases h1.own with h2 | ⟨b,o,rfl,hB,hf⟩
 · omega
 have hcl:=fun ty=>Lib.run_clear_slice (P:=Tryz.prog) w1 24 110 ty (.int .u64 0) Tryz.underlying24 zero110 rfl rfl b o n c1 (by omega) (fun j hj=>by
  rcases h1.cell with h2 | ⟨b',o',he,hc⟩
  · omega
  cases he;rw [hc j hj];rfl) hf
 rw [← dv_replicate] at hcl;have h3:=h1.setAll (l':=List.replicate n 0) (by simp) (dig_replicate n);have hb2:=hb1.trans (below_setCells w.heap.size b hB (dv (List.replicate n 0)) o w1)
 go_wp2
 go_ret
 exact ⟨_,_,rfl,h3,hb2⟩
end
section
open Go.RowKit
def eqL (l l2:List Nat):Bool:=decide (l=l2)
theorem eqL_self (l:List Nat):eqL l l=true:=decide_eq_true rfl
theorem eqL_iff {l l2:List Nat}:eqL l l2=true ↔ l=l2:=decide_eq_true_iff
theorem eqL_false {l l2:List Nat}:eqL l l2=false ↔ l≠l2:=decide_eq_false_iff_not
theorem eq_of_D {l l2:List Nat} (h:l.length=l2.length) (hd:∀ j,j<l.length→D l j=D l2 j):l=l2:=by
 refine List.ext_getElem h fun i h1 h2 => ?_
 have:=hd i h1;unfold D at this;rw [List.getD_eq_getElem?_getD,List.getD_eq_getElem?_getD,List.getElem?_eq_getElem h1,List.getElem?_eq_getElem h2] at this;exact this
theorem sameNat_any (a:Option Addr) (n c:Nat) (l:List Nat) (a2:Option Addr) (n2 c2:Nat) (l2:List Nat) (w:World) (h:NatAt w a n c l) (h2:NatAt w a2 n2 c2 l2) :
 Calls Tryz.prog 44 #[.slice a n c,.slice a2 n2 c2] w fun e w'=>e = .returned (.bool (eqL l l2))∧∃ m,w'=w.drewN m:=by
 have hl:=h.cle;have hl':=h.le
 by_cases hn:n=n2
 · subst hn;have t0:((n:Int) != (n:Int))=false:=by simp
   have HL:=hiD h.len;have HL2:=hiD h2.len
   go_enter Tryz.func44,Tryz.ntmps44
   go_wp2
   go_loopw [5] (fun i wr=>∃ (k m:Nat),k≤n∧i = .int .i64 ((k:Nat):Int)∧(∀ j,j<k→D l j=D l2 j)∧wr=w.drewN m) (fun i _=>n-(intOf i).toNat)
   case atStart=>exact ⟨0,0,Nat.zero_le _,rfl,fun j hj=>by omega,rfl⟩
   case round =>
    obtain ⟨k,m,hk,rfl,hd,rfl⟩:=hrel;have HD:=hiD hd;clear hd
    by_cases hlt:k<n
    · have e1:=h.draws m;have e2:=h2.draws m;rcases e1.parts with h' | ⟨ba,oa,rfl,_,hca⟩
      · omega
      rcases e2.parts with h' | ⟨bb,ob,rfl,_,hcb⟩
      · omega
      have ca:=hca k hlt;have cb:=hcb k hlt;clear hca hcb
      by_cases he:D l k=D l2 k
      · have t1:((D l k:Int) != (D l2 k:Int))=false:=by rw [he];simp
        have HE:=hiD he;clear he
        go_wp2_with fail
        generalize hW:w.drewN m=W at ca cb ⊢;have HW:=hiD hW;clear hW
        go_quiet (fail)
        go_wp2
        go_roundw
        case rel=>exact ⟨k+1,m+nq,by omega,by go_num,fun j hj=>by
         by_cases hjk:j=k
         · subst hjk;exact HE.out
         exact HD.out j (by omega),by rw [← HW.out,World.drewN_drewN]⟩
        case measure=>simp [intOf];omega
      have t1:((D l k:Int) != (D l2 k:Int))=true:=by rw [bne_iff_ne];omega
      have hf:eqL l l2=false:=eqL_false.2 fun e=>he (by rw [e])
      have HF:=hiD hf;clear he hf
      go_wp2_with fail
      generalize hW:w.drewN m=W at ca cb ⊢;have HW:=hiD hW;clear hW
      go_quiet (fail)
      go_wp2
      go_ret
      exact ⟨ret_bool HF.out.symm,m+nq,by rw [← HW.out,World.drewN_drewN]⟩
    obtain rfl:k=n:=by omega
    have ht:eqL l l2=true:=eqL_iff.2 (eq_of_D (by rw [HL.out,HL2.out]) (fun j hj=>HD.out j (by rw [HL.out] at hj;exact hj)));have HT:=hiD ht;clear ht
    go_wp2
    go_ret
    exact ⟨ret_bool HT.out.symm,m,rfl⟩
 have t0:((n:Int) != (n2:Int))=true:=by rw [bne_iff_ne];omega
 have hf:eqL l l2=false:=eqL_false.2 fun e=>hn (by rw [← h.len,← h2.len,e])
 have HF:=hiD hf;clear hn hf
 go_enter Tryz.func44,Tryz.ntmps44
 go_wp2
 go_ret
 exact ⟨ret_bool HF.out.symm,0,rfl⟩
theorem sameNat_below {a:Option Addr} {n c:Nat} {l:List Nat} {a2:Option Addr} {n2 c2:Nat} {l2:List Nat} {w:World} (h:NatAt w a n c l) (h2:NatAt w a2 n2 c2 l2) :
 Calls Tryz.prog 44 #[.slice a n c,.slice a2 n2 c2] w (RetVal w (.bool (eqL l l2))) :=
 (sameNat_any a n c l a2 n2 c2 l2 w h h2).mono fun e w' ⟨he,m,hm⟩=>⟨he,by rw [hm];exact Below.draws (bRf _ _) m⟩
def pickI (x n:Int):Int:=if n≤0 then 0 else x % n
theorem pick_any (x n:Int) (w:World) (hx:-9223372036854775808≤x) (hx2:x≤9223372036854775807) (hn:n≤9223372036854775807) :
 Calls Tryz.prog 20 #[.int .i64 x,.int .i64 n] w fun e w'=>e = .returned (.int .i64 (pickI x n))∧w=w':=by
 by_cases h0:n≤0
 · have e:pickI x n=0:=if_pos h0;have E:=hiD e;clear e
   go_enter Tryz.func20,Tryz.ntmps20
   go_wp2
   go_ret
   exact ⟨by rw [E.out];rfl,rfl⟩
 have e:pickI x n=x % n:=if_neg h0;have E:=hiD e;clear e
 by_cases hx0:0≤x
 · have h1:=Int.emod_nonneg x (show n≠0 by omega)
   go_enter Tryz.func20,Tryz.ntmps20
   go_wp2
   go_ret
   exact ⟨by rw [E.out];rfl,rfl⟩
 obtain ⟨t,ht⟩:∃ t,x.tmod n=t:=⟨_,rfl⟩;have h1:=Int.tmod_lt_of_pos x (show 0<n by omega);have h2:-n<x.tmod n:=by have h0:=Int.tmod_lt_of_pos (-x) (show 0<n by omega);rw [Int.neg_tmod] at h0;omega
 have h3:x % n=if t<0 then t+n else t:=by
  have h4:x.tmod n≤0:=by
   have:=Int.tmod_nonneg n (show 0 ≤ -x by omega);rw [Int.neg_tmod] at this;omega
  rw [← ht]
  have h5:x % n=(x.tmod n) % n:=by
   have h6:=Int.mul_tdiv_add_tmod x n
   conv=>lhs;rw [← h6]
   rw [Int.mul_add_emod_self_left]
  rw [h5]
  split
  · rw [← Int.add_emod_right,Int.emod_eq_of_lt (by omega) (by omega)]
  rw [Int.emod_eq_of_lt (by omega) (by omega)]
 rw [ht] at h1 h2
 by_cases ht0:t<0
 · rw [if_pos ht0] at h3;have H3:=hiD h3;clear h3
   go_enter Tryz.func20,Tryz.ntmps20
   go_wp2
   go_ret
   exact ⟨by rw [E.out,H3.out];rfl,rfl⟩
 rw [if_neg ht0] at h3;have H3:=hiD h3;clear h3
 go_enter Tryz.func20,Tryz.ntmps20
 go_wp2
 go_ret
 exact ⟨by rw [E.out,H3.out];rfl,rfl⟩
end
section
open Go.RowKit
theorem trim_any (a:Option Addr) (n c:Nat) (l:List Nat) (w:World) (h:NatAt w a n c l) (hs:n≤1099511627776) :
 Calls Tryz.prog 124 #[.slice a n c] w (RetNat w (val l)):=by
 have h1:=h.digs;have h2:(digs (val l)).length≤n:=by have:=digs_length_val h.dig;rw [h.len] at this;exact this
 go_enter Tryz.func124,Tryz.ntmps124
 go_wp2_with fail
 refine (trimmed_any _ _ _ _ _ h).mono ?_;rintro e w1 ⟨rfl,rfl⟩
 go_wp2_with fail
 refine (clone_any _ _ _ _ _ h1 (by omega)).mono ?_;rintro e w1 ⟨a1,n1,c1,rfl,h3,hb⟩
 go_wp2
 go_ret
 exact ⟨_,_,_,rfl,h3,hb⟩
theorem RetNat.of {w w1:World} {N:Nat} (h:Below w.heap.size w w1) {e:Ending} {w':World} (h1:RetNat w1 N e w'):RetNat w N e w':=by
 obtain ⟨a,n,c,he,ho,hb⟩:=h1;exact ⟨a,n,c,he,ho.mono h.size,bLt h hb⟩
theorem of_any (x:Nat) (w:World) (hx:x<18446744073709551616) :
 Calls Tryz.prog 130 #[.int .u64 x] w (RetNat w x):=by
 go_enter Tryz.func130,Tryz.ntmps130
 go_wp2_with fail
 refine (trim_any _ _ _ [x] _ (lit1 w x x rfl hx).toNatAt (by decide)).mono ?_;rintro e w1 ⟨a1,n1,c1,rfl,h3,hb⟩
 go_wp2
 go_ret
 exact RetNat.of ((bRf _ _).alloc (nRf _) _) ⟨_,_,_,rfl,by simpa [val] using h3,hb⟩
theorem check_any (a:Option Addr) (n c:Nat) (l:List Nat) (w:World) (h:NatAt w a n c l) :
 Calls Tryz.prog 115 #[.slice a n c] w fun e w'=>e = .returned (.int .i64 (chk l))∧w=w':=by
 have hl:=h.cle;have hl':=h.le;have hlen:=h.len
 by_cases hn:n=0
 · subst hn;have hnil:l=[]:=List.eq_nil_of_length_eq_zero hlen;subst hnil;clear hlen
   go_enter Tryz.func115,Tryz.ntmps115
   go_wp2
   go_ret
   exact ⟨rfl,rfl⟩
 rcases h.parts with h1 | ⟨b,o,rfl,hlt,hc⟩
 · omega
 have hc':=hc (n-1) (by omega);clear hc;have hne:l≠[]:=fun e=>hn (by rw [← hlen,e];rfl)
 by_cases hz:D l (n-1)=0
 · have hv:=chk_zero hne (by rw [hlen];exact hz);have hz':(((D l (n-1):Nat):Int) == 0)=true:=by rw [hz];rfl
   have HV:=hiD hv;clear hv hz hlen
   go_enter Tryz.func115,Tryz.ntmps115
   go_wp2
   go_ret
   exact ⟨ret_int HV.out.symm,rfl⟩
 have hv:=chk_pos hne (by rw [hlen];exact hz);have hz':(((D l (n-1):Nat):Int) == 0)=false:=by simpa using hz
 have HV:=hiD hv;clear hv hz hlen
 go_enter Tryz.func115,Tryz.ntmps115
 go_wp2
 go_ret
 exact ⟨ret_int HV.out.symm,rfl⟩
theorem one_any (a:Option Addr) (n c:Nat) (l:List Nat) (w:World) (h:NatAt w a n c l) :
 Calls Tryz.prog 80 #[.slice a n c] w fun e w'=>e = .returned (.tuple #[.int .u64 ((oneN (val l):Nat):Int),.bool (oneB (val l))])∧w=w':=by
 have h1:=h.digs
 by_cases h0:val l=0
 · have hl:(digs (val l)).length=0:=digs_len0.2 h0;have HL:=hiD hl;have e1:oneN (val l)=0:=by rw [h0];rfl
   have e2:oneB (val l)=true:=by rw [h0];rfl
   have E1:=hiD e1;have E2:=hiD e2;clear hl h0 e1 e2
   go_enter Tryz.func80,Tryz.ntmps80
   go_wp2_with fail
   refine (trimmed_any _ _ _ _ _ h).mono ?_;rintro e w1 ⟨rfl,rfl⟩;rw [HL.out]
   go_wp2
   go_ret2
   exact ⟨by rw [E1.out,E2.out];rfl,rfl⟩
 by_cases h2:val l<18446744073709551616
 · have hl:(digs (val l)).length=1:=(digs_len1 h0).2 h2;have hd:digs (val l)=[val l]:=digs_small h0 h2;rw [hl,hd] at h1;have HL:=hiD hl;have e1:oneN (val l)=val l:=if_pos h2;have e2:oneB (val l)=true:=decide_eq_true h2;have E1:=hiD e1;have E2:=hiD e2;rcases h1.parts with h3 | ⟨b,o,rfl,hlt,hc⟩
   · omega
   have hc':=hc 0 (by omega);rw [D_one,Nat.add_zero] at hc';clear hl h0 e1 e2 hd hc h2
   go_enter Tryz.func80,Tryz.ntmps80
   go_wp2_with fail
   refine (trimmed_any _ _ _ _ _ h).mono ?_;rintro e w1 ⟨rfl,rfl⟩;rw [HL.out]
   go_wp2
   go_ret2
   exact ⟨by rw [E1.out,E2.out];rfl,rfl⟩
 have hl1:((((digs (val l)).length:Nat):Int) == 0)=false:=by
  have:(digs (val l)).length≠0:=fun e=>h0 (digs_len0.1 e)
  simp only [beq_eq_false_iff_ne];omega
 have hl2:((((digs (val l)).length:Nat):Int) == 1)=false:=by
  have:(digs (val l)).length≠1:=fun e=>h2 ((digs_len1 h0).1 e)
  simp only [beq_eq_false_iff_ne];omega
 have e1:oneN (val l)=0:=if_neg h2;have e2:oneB (val l)=false:=decide_eq_false h2;have E1:=hiD e1;have E2:=hiD e2;clear e1 e2 h0 h2
 go_enter Tryz.func80,Tryz.ntmps80
 go_wp2_with fail
 refine (trimmed_any _ _ _ _ _ h).mono ?_;rintro e w1 ⟨rfl,rfl⟩
 go_wp2
 go_ret2
 exact ⟨by rw [E1.out,E2.out];rfl,rfl⟩
end
section
open Go.RowKit
theorem OwnAt.past {w w':World} {B:Nat} {a:Option Addr} {n c:Nat} {l:List Nat} (h:OwnAt w B a n c l) (hb:Below w.heap.size w w'):OwnAt w' B a n c l:=h.later hb (nRf _)
theorem box1g (w:World) (g:Nat) (hg:g=w.heap.size) (A:Array Value) (E:Nat):∃ W,w.alloc (.cells A E)=W∧W.heap.size=w.heap.size+1∧Below w.heap.size w W∧(∀ i,W.cell? ⟨g,i,none⟩=A[i]?)∧(∀ i,W.frozen? ⟨g,i,none⟩=false):=by
 subst hg;exact ⟨_,rfl,by simp,(bRf _ _).alloc (nRf _) _,fun i=>World.cell?_alloc_at _ _ _ _ rfl,fun i=>World.frozen?_alloc_at _ _ _ _ rfl⟩
theorem litG {E:Nat} (w:World) (g:Nat) (vs:Array Value) (l:List Nat) (n:Nat) (hg:g=w.heap.size) (hv:vs.toList=dv l) (hn:l.length=n) (hm:n≤1000) (hd:l.all (fun x=>decide (x<18446744073709551616))=true) :
 OwnAt (w.alloc (.cells vs E)) w.heap.size (some ⟨g,0,none⟩) n n l:=by
 subst hg
 refine OwnAt.ofRow (E:=E) (v:=.slice (some ⟨w.heap.size,0,none⟩) n n) (n:=n) ?_ (fun x hx=>by simpa using List.all_eq_true.1 hd x hx) |>.elim fun a h=>by
  obtain ⟨c,he,ho⟩:=h;cases he;exact ho
 rw [← hv];exact World.ownsRow_lit w vs n (nRf _) (by simp only [maxLen];omega) (by rw [← Array.length_toList,hv,dv_length,hn,Nat.mul_one])
end
section
open Go.RowKit
theorem row_shape {w:World} {base size n:Nat} {e:TypeId} {v:Value} {xs:List Value} (h:w.ownsRow base e size v n xs):∃ a c,v = .slice a n c∧n≤c∧c≤maxLen:=by
 rcases h.2 with ⟨rfl,h0⟩ | ⟨g,cap,cur,rfl,_,_,h2,h3,_⟩
 · subst h0;exact ⟨none,0,rfl,nRf _,Nat.zero_le _⟩
 exact ⟨_,cap,rfl,h2,h3⟩
theorem row_past8 {w w':World} {base size n:Nat} {e:TypeId} {v:Value} {xs:List Value} (h:w.ownsRow base e size v n xs) (hb:Below w.heap.size w w'):w'.ownsRow base e size v n xs :=
 h.kept (row:=none) ⟨hb.os,hb.tape,hb.output,hb.size,fun k hk _=>hb.block k hk⟩ (by cases v.ownBlock<;>simp)
theorem u8_info:(Tryz.prog.info? 5).map (fun i=>(i.zero,i.size,i.bytes))=some (some (.int .u8 0),1,1):=by kernel_rfl
end
section
open Go.RowKit
theorem bytes_conv (s:ByteArray) (W:World):(convert 9 54 (.string s)).run Tryz.prog W = .ok (.slice (some ⟨W.heap.size,0,none⟩) s.size (grownCap W s.size 0 5)) (W.drew.alloc (.cells (bytesRow s (grownCap W s.size 0 5)) 5 ((bytesRow s (grownCap W s.size 0 5)).size,(bytesRow s (grownCap W s.size 0 5)).size+1))) :=
 run_bytes_of_string W 9 54 5 s Tryz.underlying9 Tryz.underlying54 Tryz.underlying5
theorem bytes_conv_at (s:ByteArray) (W:World) (hs:s.size≤9223372036854775807):∃ c W',(convert 9 54 (.string s)).run Tryz.prog W = .ok (.slice (some ⟨W.heap.size,0,none⟩) s.size c) W'∧BytesAt W' (some ⟨W.heap.size,0,none⟩) s.size c (nums s.data.toList)∧Below W.heap.size W W'∧c≤9223372036854775807∧s.size≤c:=by
 have h1:=grownCap_ge W s.size 0 5;have h2:=grownCap_le_maxLen W s.size 0 5 (by simp only [maxLen];omega);simp only [maxLen] at h2;exact ⟨_,_,bytes_conv s W,bytes_made W.drew s _ _ _ h1 h2,(bRf W.heap.size W).drew.alloc (nRf _) _,h2,h1⟩
end
end Go.Proofs.YtkhcblihbalnbaaGreat
