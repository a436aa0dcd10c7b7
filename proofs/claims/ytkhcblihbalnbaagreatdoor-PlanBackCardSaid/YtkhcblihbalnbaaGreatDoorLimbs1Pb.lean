import Derived.Test.YtkhcblihbalnbaaGreatDoorProg
import Derived.Deep.AppendSrc
import Derived.WalkSpells
import Derived.Test.YtkhcblihbalnbaaGreatDoorNumPb
set_option linter.unusedVariables false
set_option linter.unusedSimpArgs false
set_option maxRecDepth 100000
namespace Go.Proofs.YtkhcblihbalnbaaGreatDoor
section
open Go.RowKit
theorem add64_call (x y c:Nat) (hx:x<18446744073709551616) (hy:y<18446744073709551616) (hc:c≤1) :
 ∃ s k:Nat,s<18446744073709551616∧k≤1∧s+18446744073709551616*k=x+y+c ∧
  ∀ w,(callFunc 171 #[.int .u64 ((x:Nat):Int),.int .u64 ((y:Nat):Int),.int .u64 ((c:Nat):Int)]).run Tryz.prog w = .ok (.value (.tuple #[.int .u64 ((s:Nat):Int),.int .u64 ((k:Nat):Int)])) w:=by
 refine ⟨(x+y+c) % 18446744073709551616,(x+y+c)/18446744073709551616,by omega,by omega,by omega,fun w => ?_⟩;rw [run_callFunc_extern Tryz.func171 (by kernel_rfl) (by kernel_rfl) (by kernel_rfl) (e:=add64Entry) (by kernel_rfl),run_add64 x y c (by omega) (by omega) (by omega) (by omega)];simp only [Result.andThen]
 congr 5<;>omega
def subEntry:Array Value→Sem Value:=fun args=>do
 let (x, y, b) ← Extern.MathBitsCarry.three "Sub64" args
 pure (Extern.MathBitsCarry.pair ((x+Extern.MathBitsCarry.m64-y-b) % Extern.MathBitsCarry.m64) (if x<y+b then 1 else 0))
theorem run_subEntry {P:Program} (x y b:Nat) (hb:b≤1) (w:World) :
 (subEntry #[.int .u64 x, .int .u64 y, .int .u64 b]).run P w =
   .ok (.tuple #[.int .u64 (((x+18446744073709551616-y-b) % 18446744073709551616:Nat):Int),.int .u64 ((if x<y+b then 1 else 0:Nat):Int)]) w:=by
 have:b=0∨b=1:=by omega
 rcases this with rfl | rfl<;>rfl
theorem sub64_call (x y c:Nat) (hx:x<18446744073709551616) (hy:y<18446744073709551616) (hc:c≤1) :
 ∃ s k:Nat,s<18446744073709551616∧k≤1∧s+y+c=x+18446744073709551616*k ∧
  ∀ w,(callFunc 233 #[.int .u64 ((x:Nat):Int),.int .u64 ((y:Nat):Int),.int .u64 ((c:Nat):Int)]).run Tryz.prog w = .ok (.value (.tuple #[.int .u64 ((s:Nat):Int),.int .u64 ((k:Nat):Int)])) w:=by
 refine ⟨(x+18446744073709551616-y-c) % 18446744073709551616,if x<y+c then 1 else 0,by omega,by split<;>omega,by split<;>omega,fun w => ?_⟩;rw [run_callFunc_extern Tryz.func233 (by kernel_rfl) (by kernel_rfl) (by kernel_rfl) (e:=subEntry) (by kernel_rfl),run_subEntry x y c hc];rfl
theorem digit_any (a:Option Addr) (n c:Nat) (l:List Nat) (i:Int) (w:World) (h:NatAt w a n c l) (h0:0≤i) :
 Calls Tryz.prog 172 #[.slice a n c,.int .i64 i] w fun e w'=>e = .returned (.int .u64 ((D l i.toNat:Nat):Int))∧w=w':=by
 obtain ⟨k,rfl⟩:=Int.eq_ofNat_of_zero_le h0;rw [Int.toNat_natCast]
 by_cases hk:k<n
 · rcases h.parts with h1 | ⟨b,o,rfl,hlt,hc⟩
   · omega
   have hc':=hc k hk;have hl:=h.cle;have hl':=h.le;clear hc
   go_enter Tryz.func172,Tryz.ntmps172
   go_wp2
   go_ret
   exact ⟨rfl,rfl⟩
 have hd:D l k=0:=D_out (by rw [h.len];omega);have H:=hiD hd;clear hd
 go_enter Tryz.func172,Tryz.ntmps172
 go_wp2
 go_ret
 exact ⟨by rw [H.out];rfl,rfl⟩
theorem trimmed_any (a:Option Addr) (n c:Nat) (l:List Nat) (w:World) (h:NatAt w a n c l) :
 Calls Tryz.prog 164 #[.slice a n c] w fun e w'=>e = .returned (.slice a (digs (val l)).length c)∧w=w':=by
 have hl:=h.cle;have hl':=h.le
 go_enter Tryz.func164,Tryz.ntmps164
 go_wp2
 go_loop [0] (fun v=>∃ m:Nat,m≤n∧hi l m=0∧v = .slice a m c) (fun v=>match v with | .slice _ m _=>m | _=>0)
 case atStart=>exact ⟨n,nRf _,hi_all (by rw [h.len];omega),rfl⟩
 case round =>
  obtain ⟨m,hm,h0,rfl⟩:=hrel;have H0:=hiD h0;clear h0
  by_cases hm0:0<m
  · rcases h.parts with h1 | ⟨b,o,rfl,hlt,hc⟩
    · omega
    have hc':=hc (m-1) (by omega);clear hc
    by_cases hz:D l (m-1)=0
    · have hz':(((D l (m-1):Nat):Int) == 0)=true:=by rw [hz];rfl
      have HZ:=hiD hz;clear hz
      go_wp2
      go_round
      case rel=>exact ⟨m-1,by omega,by rw [hi_step,HZ.out,show m-1+1=m by omega,H0.out],rfl⟩
      case measure=>simp;omega
    have hz':(((D l (m-1):Nat):Int) == 0)=false:=by simpa using hz
    have HZ:=hiD hz;clear hz
    go_wp2
    go_ret
    exact ⟨ret_len (take_digs_length h.dig (by rw [h.len];exact hm) H0.out (.inr HZ.out)),rfl⟩
  have hmz:m=0:=by omega
  subst hmz;clear hm0
  go_wp2
  go_ret
  exact ⟨ret_len (take_digs_length h.dig (Nat.zero_le _) H0.out (.inl rfl)),rfl⟩
theorem clip_any (a:Option Addr) (n c:Nat) (w:World) (h:n≤c) (hc:c≤9223372036854775807) :
 Calls Tryz.prog 173 #[.slice a n c] w fun e w'=>e = .returned (.slice a n n)∧w=w':=by
 go_enter Tryz.func173,Tryz.ntmps173
 go_wp2
 go_ret
 exact ⟨rfl,rfl⟩
theorem info109:(Tryz.prog.info? 109).map (fun i=>(i.zero,i.size,i.bytes))=some (some (.int .u64 0),1,8):=by kernel_rfl
theorem copied {E:Nat} (w:World) (a':Option Addr) (n c':Nat) (l:List Nat) (w1:World) (o:Obj) (hd:Dig l) (hown:w1.ownsRow w.heap.size E 1 (.slice a' (0+n) c') (0+n) ([] ++ dv l))
 (hgrow:(w.alloc o).grownBy w1 (Value.slice (some ⟨w.heap.size,0,none⟩) 0 0).ownBlock) {e:Ending} (he:e = .returned (.slice a' n c')) :
 ∃ a' n' c',e = .returned (.slice a' n' c')∧OwnAt w1 w.heap.size a' n' c' l∧Below w.heap.size w w1:=by
 obtain ⟨a2,c2,he2,h2⟩:=OwnAt.ofRow (by simpa using hown) hd;cases he2;refine ⟨_,_,_,he,by simpa using h2,?_⟩;refine ((bRf _ _).alloc (nRf _) o).grown hgrow (by simp) (fun k hk => ?_);simp [Value.ownBlock] at hk;omega
theorem clone_any (a:Option Addr) (n c:Nat) (l:List Nat) (w:World) (h:NatAt w a n c l) (hs:n≤1099511627776) :
 Calls Tryz.prog 121 #[.slice a n c] w fun e w'=>∃ a' n' c',e = .returned (.slice a' n' c')∧OwnAt w' w.heap.size a' n' c' l∧Below w.heap.size w w':=by
 obtain ⟨i0,hi,hz0,hz1,hz2⟩:=info_parts info109;have hq:=fun w=>Lib.run_eql_slice_nil (P:=Tryz.prog) w 24 109 a n c 0 0 Tryz.underlying24
 cases a with
 | none =>
   have hc:=h.nilc rfl;have hn:n=0:=by have:=h.le;omega
   subst hc;subst hn;have hl:l=[]:=List.eq_nil_of_length_eq_zero h.len;subst hl
   go_enter Tryz.func121,Tryz.ntmps121
   go_wp2
   go_ret
   exact ⟨_,_,_,rfl,OwnAt.nil _ _,bRf _ _⟩
 | some ad =>
   go_enter Tryz.func121,Tryz.ntmps121
   go_wp2_with (at_builtin;refine wpList_append_nat rfl _ _ 24 rfl w.heap.size 109 i0 Tryz.underlying24 hi hz0 hz1 hz2 _ 0 [] rfl (World.ownsRow_lit w #[] 0 (nRf _) (by simp) rfl) _ n c l rfl (h.alloc _) (by omega) (by simp) ?_;intro a' c' w1 hown hgrow)
   go_ret
   exact copied w a' n c' l w1 _ h.dig hown hgrow rfl
theorem zero109 (w:World):(zeroValue 109).run Tryz.prog w = .ok (.int .u64 0) w:=by kernel_rfl
theorem zeroed {E:Nat} (w:World) (n cap:Nat) (h:n≤cap) (hc:cap≤9223372036854775807) :
 OwnAt (w.drew.alloc (.cells (Builtin.zeroCells (Value.int IntKind.u64 0).cells n ++ Builtin.zeroCells (Value.int IntKind.u64 0).cells (cap-n)) E)) w.heap.size (some ⟨w.heap.size,0,none⟩) n cap (List.replicate n 0):=by
 refine ⟨⟨by simp,h,hc,dig_replicate n,.inr ⟨_,_,rfl,fun i hi => ?_⟩,fun e=>by cases e⟩,.inr ⟨_,_,rfl,nRf _,fun i hi => ?_⟩⟩
 · rw [show w.heap.size=w.drew.heap.size from rfl,World.cell?_alloc_at _ _ _ _ rfl,Nat.zero_add,Array.getElem?_append];have h1:(Builtin.zeroCells (Value.int IntKind.u64 0).cells n).size=n:=by simp [Builtin.zeroCells,Value.cells]
   rw [if_pos (by omega)];simp [Builtin.zeroCells,Value.cells,D,hi,List.getD_eq_getElem?_getD,Nat.mod_one]
 exact World.frozen?_alloc_at _ _ _ _ rfl
theorem grow_nil (n:Nat) (w:World) (hs:n≤1099511627776) :
 Calls Tryz.prog 209 #[.slice none 0 0,.int .i64 n] w fun e w'=>∃ a' c',e = .returned (.slice a' 0 c')∧OwnAt w' w.heap.size a' n c' (List.replicate n 0)∧Below w.heap.size w w':=by
 obtain ⟨i0,hi,hz0,hz1,hz2⟩:=info_parts info109;have hu:=fun (w:World) (hn:0<n)=>Lib.run_append_nil_zeros (P:=Tryz.prog) w 24 3 24 109 i0 (.int .u64 0) .i64 .i64 Tryz.underlying24 Tryz.underlying3 hi hz0 n hn (by omega) (by omega) (by rw [hz2];omega)
 by_cases hn:0<n
 · have hcap:=grownCap_le_maxLen w n 0 109 (by simp only [maxLen];omega);have hcap':=grownCap_ge w n 0 109;simp only [maxLen] at hcap
   go_enter Tryz.func209,Tryz.ntmps209
   go_wp2_with (at_builtin;refine Lib.wpList_append_run _ rfl _ _ 24 3 rfl _ _ rfl rfl _ _ (hu _ hn) ?_;clear hu)
   go_ret
   exact ⟨_,_,rfl,zeroed w n _ hcap' hcap,(bRf _ _).drew.alloc (nRf _) _⟩
 obtain rfl:n=0:=by omega
 go_enter Tryz.func209,Tryz.ntmps209
 go_wp2
 go_ret
 exact ⟨_,_,rfl,OwnAt.nil _ _,bRf _ _⟩
theorem clear_nought (w:World) (a:Option Addr) (c:Nat) (ty:TypeId):(Builtin.clear_ #[24] ty #[.slice a 0 c]).run Tryz.prog w = .ok (.tuple #[]) w:=by
 cases a<;>simp [Builtin.clear_,run_underlying Tryz.underlying24,zero109,Builtin.zeroCells,storeCells]
theorem room_any (n:Int) (w:World) (h0:0≤n) (hs:n≤1099511627776) :
 Calls Tryz.prog 170 #[.int .i64 n] w fun e w'=>∃ a' c',e = .returned (.slice a' n.toNat c')∧OwnAt w' w.heap.size a' n.toNat c' (List.replicate n.toNat 0)∧Below w.heap.size w w':=by
 obtain ⟨n,rfl⟩:=Int.eq_ofNat_of_zero_le h0;rw [Int.toNat_natCast]
 go_enter Tryz.func170,Tryz.ntmps170
 go_wp2_with fail
 refine (grow_nil n _ (by omega)).mono ?_;rintro e w1 ⟨a1,c1,rfl,h1,hb1⟩;have hle:=h1.le;have hcle:=h1.cle
 by_cases hn:n=0
 · subst hn;have hcl:=fun ty=>clear_nought w1 a1 c1 ty
   cases a1 with
   | none =>
     go_wp2
     go_ret
     exact ⟨_,_,rfl,h1,hb1⟩
   | some ad =>
     go_wp2
     go_ret
     exact ⟨_,_,rfl,h1,hb1⟩
 rcases h1.own with h2 | ⟨b,o,rfl,hB,hf⟩
 · omega
 have hcl:=fun ty=>Lib.run_clear_slice (P:=Tryz.prog) w1 24 109 ty (.int .u64 0) Tryz.underlying24 zero109 rfl rfl b o n c1 (by omega) (fun j hj=>by
  rcases h1.cell with h2 | ⟨b',o',he,hc⟩
  · omega
  cases he;rw [hc j hj];rfl) hf
 rw [← dv_replicate] at hcl;have h3:=h1.setAll (l':=List.replicate n 0) (by simp) (dig_replicate n);have hb2:=hb1.trans (below_setCells w.heap.size b hB (dv (List.replicate n 0)) o w1)
 go_wp2
 go_ret
 exact ⟨_,_,rfl,h3,hb2⟩
end
section
open Go.RowKit
def eqL (l l2:List Nat):Bool:=decide (l=l2)
theorem eqL_self (l:List Nat):eqL l l=true:=decide_eq_true rfl
theorem eqL_iff {l l2:List Nat}:eqL l l2=true ↔ l=l2:=decide_eq_true_iff
theorem eqL_false {l l2:List Nat}:eqL l l2=false ↔ l≠l2:=decide_eq_false_iff_not
theorem eq_of_D {l l2:List Nat} (h:l.length=l2.length) (hd:∀ j,j<l.length→D l j=D l2 j):l=l2:=by
 refine List.ext_getElem h fun i h1 h2 => ?_
 have:=hd i h1;unfold D at this;rw [List.getD_eq_getElem?_getD,List.getD_eq_getElem?_getD,List.getElem?_eq_getElem h1,List.getElem?_eq_getElem h2] at this;exact this
theorem sameNat_any (a:Option Addr) (n c:Nat) (l:List Nat) (a2:Option Addr) (n2 c2:Nat) (l2:List Nat) (w:World) (h:NatAt w a n c l) (h2:NatAt w a2 n2 c2 l2) :
 Calls Tryz.prog 64 #[.slice a n c,.slice a2 n2 c2] w fun e w'=>e = .returned (.bool (eqL l l2))∧∃ m,w'=w.drewN m:=by
 have hl:=h.cle;have hl':=h.le
 by_cases hn:n=n2
 · subst hn;have t0:((n:Int) != (n:Int))=false:=by simp
   have HL:=hiD h.len;have HL2:=hiD h2.len
   go_enter Tryz.func64,Tryz.ntmps64
   go_wp2
   go_loopw [5] (fun i wr=>∃ (k m:Nat),k≤n∧i = .int .i64 ((k:Nat):Int)∧(∀ j,j<k→D l j=D l2 j)∧wr=w.drewN m) (fun i _=>n-(intOf i).toNat)
   case atStart=>exact ⟨0,0,Nat.zero_le _,rfl,fun j hj=>by omega,rfl⟩
   case round =>
    obtain ⟨k,m,hk,rfl,hd,rfl⟩:=hrel;have HD:=hiD hd;clear hd
    by_cases hlt:k<n
    · have e1:=h.draws m;have e2:=h2.draws m;rcases e1.parts with h' | ⟨ba,oa,rfl,_,hca⟩
      · omega
      rcases e2.parts with h' | ⟨bb,ob,rfl,_,hcb⟩
      · omega
      have ca:=hca k hlt;have cb:=hcb k hlt;clear hca hcb
      by_cases he:D l k=D l2 k
      · have t1:((D l k:Int) != (D l2 k:Int))=false:=by rw [he];simp
        have HE:=hiD he;clear he
        go_wp2_with fail
        generalize hW:w.drewN m=W at ca cb ⊢;have HW:=hiD hW;clear hW
        go_quiet (fail)
        go_wp2
        go_roundw
        case rel=>exact ⟨k+1,m+nq,by omega,by go_num,fun j hj=>by
         by_cases hjk:j=k
         · subst hjk;exact HE.out
         exact HD.out j (by omega),by rw [← HW.out,World.drewN_drewN]⟩
        case measure=>simp [intOf];omega
      have t1:((D l k:Int) != (D l2 k:Int))=true:=by rw [bne_iff_ne];omega
      have hf:eqL l l2=false:=eqL_false.2 fun e=>he (by rw [e])
      have HF:=hiD hf;clear he hf
      go_wp2_with fail
      generalize hW:w.drewN m=W at ca cb ⊢;have HW:=hiD hW;clear hW
      go_quiet (fail)
      go_wp2
      go_ret
      exact ⟨ret_bool HF.out.symm,m+nq,by rw [← HW.out,World.drewN_drewN]⟩
    obtain rfl:k=n:=by omega
    have ht:eqL l l2=true:=eqL_iff.2 (eq_of_D (by rw [HL.out,HL2.out]) (fun j hj=>HD.out j (by rw [HL.out] at hj;exact hj)));have HT:=hiD ht;clear ht
    go_wp2
    go_ret
    exact ⟨ret_bool HT.out.symm,m,rfl⟩
 have t0:((n:Int) != (n2:Int))=true:=by rw [bne_iff_ne];omega
 have hf:eqL l l2=false:=eqL_false.2 fun e=>hn (by rw [← h.len,← h2.len,e])
 have HF:=hiD hf;clear hn hf
 go_enter Tryz.func64,Tryz.ntmps64
 go_wp2
 go_ret
 exact ⟨ret_bool HF.out.symm,0,rfl⟩
theorem sameNat_below {a:Option Addr} {n c:Nat} {l:List Nat} {a2:Option Addr} {n2 c2:Nat} {l2:List Nat} {w:World} (h:NatAt w a n c l) (h2:NatAt w a2 n2 c2 l2) :
 Calls Tryz.prog 64 #[.slice a n c,.slice a2 n2 c2] w (RetVal w (.bool (eqL l l2))) :=
 (sameNat_any a n c l a2 n2 c2 l2 w h h2).mono fun e w' ⟨he,m,hm⟩=>⟨he,by rw [hm];exact Below.draws (bRf _ _) m⟩
end
section
open Go.RowKit
structure IntsAt (w:World) (a:Option Addr) (n c:Nat) (zs:List Int):Prop where
 len:zs.length=n
 le:n≤c
 cle:c≤maxLen
 cell:n=0∨∃ b o,a=some ⟨b,o,none⟩∧b<w.heap.size∧∀ i,i<n→w.cell? ⟨b,o+i,none⟩=some (.int .i64 (zs.getD i 0))
 nilc:a=none→c=0
 wf:∀ z ∈ zs,-9223372036854775808≤z∧z≤9223372036854775807
theorem IntsAt.past {w w':World} {a:Option Addr} {n c:Nat} {zs:List Int} (h:IntsAt w a n c zs) (hb:Below w.heap.size w w'):IntsAt w' a n c zs :=
 ⟨h.len,h.le,h.cle,h.cell.imp id fun ⟨b,o,e,hl,hc⟩=>⟨b,o,e,nLt hl hb.size,fun i hi=>(hb.cell (p:=⟨b,o+i,none⟩) hl).trans (hc i hi)⟩,h.nilc,h.wf⟩
theorem intsAt_row {w:World} {a:Option Addr} {len cap:Nat} {zs:List Int} (h:RowIn .i64 w a len cap zs):IntsAt w a len cap (zs.take len):=by
 rcases h with ⟨rfl,rfl,rfl,rfl⟩ | ⟨x,rfl,h1,h2,h3,h4,h5⟩
 · exact ⟨rfl,nRf _,Nat.zero_le _,.inl rfl,fun _=>rfl,by simp⟩
 refine ⟨by rw [List.length_take];omega,h1,h2,?_,(fun e=>by cases e),fun z hz=>i64_row (h5 z (List.mem_of_mem_take hz))⟩
 by_cases h0:len=0
 · exact .inl h0
 have hc0:=h4 0 (by omega)
 have hsp:x.spot=none:=by
  rw [show x.add 0=x from rfl] at hc0;unfold World.cell? at hc0
  split at hc0
  · cases hs:x.spot with
    | none=>rfl
    | some s=>simp [hs] at hc0
  simp at hc0
 obtain ⟨b,o,s⟩:=x;cases hsp;have hl:=World.block_lt_of_cell? w _ hc0;refine .inr ⟨b,o,rfl,hl,fun i hi => ?_⟩;have hc:=h4 i (by omega);rw [addr_add] at hc;rw [hc,List.getD_eq_getElem?_getD,List.getD_eq_getElem?_getD,List.getElem?_take,if_pos hi]
theorem litI {E:Nat} (w:World) (vs:Array Value) (zs:List Int) (n:Nat) (hv:vs.toList=zs.map (fun z=>Value.int .i64 z)) (hn:zs.length=n) (hm:n≤1000) (hd:∀ z ∈ zs,-9223372036854775808≤z∧z≤9223372036854775807) :
 IntsAt (w.alloc (.cells vs E)) (some ⟨w.heap.size,0,none⟩) n n zs:=by
 refine ⟨hn,nRf _,by simp only [maxLen];omega,.inr ⟨w.heap.size,0,rfl,by simp,fun i hi => ?_⟩,(fun e=>by cases e),hd⟩;rw [Nat.zero_add,World.cell?_alloc_at _ _ _ _ rfl,← Array.getElem?_toList,hv,List.getElem?_map,List.getD_eq_getElem?_getD,List.getElem?_eq_getElem (by omega)];rfl
theorem i64_info:(Tryz.prog.info? 3).map (fun i=>(i.zero,i.size,i.bytes))=some (some (.int .i64 0),1,8):=by kernel_rfl
theorem sameInts_yes {a:Option Addr} {n c:Nat} {zs:List Int} {a2:Option Addr} {n2 c2:Nat} {w:World} (h:IntsAt w a n c zs) (h2:IntsAt w a2 n2 c2 zs) :
 Calls Tryz.prog 27 #[.slice a n c,.slice a2 n2 c2] w (RetVal w (.bool true)):=by
 have hl:c≤9223372036854775807:=by have:=h.cle;simp only [maxLen] at this;omega
 have hl':=h.le;obtain rfl:n=n2:=h.len.symm.trans h2.len;have t0:((n:Int) != (n:Int))=false:=by simp
 go_enter Tryz.func27,Tryz.ntmps27
 go_wp2
 go_loopw [5] (fun i wr=>∃ (k m:Nat),k≤n∧i = .int .i64 ((k:Nat):Int)∧wr=w.drewN m) (fun i _=>n-(intOf i).toNat)
 case atStart=>exact ⟨0,0,Nat.zero_le _,rfl,rfl⟩
 case round =>
  obtain ⟨k,m,hk,rfl,rfl⟩:=hrel
  by_cases hlt:k<n
  · have e1:=h.past (Below.draws (bRf _ _) m);have e2:=h2.past (Below.draws (bRf _ _) m);rcases e1.cell with h' | ⟨ba,oa,rfl,_,hca⟩
    · omega
    rcases e2.cell with h' | ⟨bb,ob,rfl,_,hcb⟩
    · omega
    have ca:=hca k hlt;have cb:=hcb k hlt;clear hca hcb e1 e2;obtain ⟨z,hz⟩:∃ z,zs.getD k 0=z:=⟨_,rfl⟩;rw [hz] at ca cb;have t1:(z != z)=false:=by simp
    clear hz
    go_wp2_with fail
    generalize hW:w.drewN m=W at ca cb ⊢;have HW:=hiD hW;clear hW
    go_quiet (fail)
    go_wp2
    go_roundw
    case rel=>exact ⟨k+1,m+nq,by omega,by go_num,by rw [← HW.out,World.drewN_drewN]⟩
    case measure=>simp [intOf];omega
  obtain rfl:k=n:=by omega
  go_wp2
  go_ret
  exact ⟨rfl,Below.draws (bRf _ _) m⟩
end
section
open Go.RowKit
theorem trim_any (a:Option Addr) (n c:Nat) (l:List Nat) (w:World) (h:NatAt w a n c l) (hs:n≤1099511627776) :
 Calls Tryz.prog 131 #[.slice a n c] w (RetNat w (val l)):=by
 have h1:=h.digs;have h2:(digs (val l)).length≤n:=by have:=digs_length_val h.dig;rw [h.len] at this;exact this
 go_enter Tryz.func131,Tryz.ntmps131
 go_wp2_with fail
 refine (trimmed_any _ _ _ _ _ h).mono ?_;rintro e w1 ⟨rfl,rfl⟩
 go_wp2_with fail
 refine (clone_any _ _ _ _ _ h1 (by omega)).mono ?_;rintro e w1 ⟨a1,n1,c1,rfl,h3,hb⟩
 go_wp2
 go_ret
 exact ⟨_,_,_,rfl,h3,hb⟩
theorem RetNat.of {w w1:World} {N:Nat} (h:Below w.heap.size w w1) {e:Ending} {w':World} (h1:RetNat w1 N e w'):RetNat w N e w':=by
 obtain ⟨a,n,c,he,ho,hb⟩:=h1;exact ⟨a,n,c,he,ho.mono h.size,bLt h hb⟩
theorem of_any (x:Nat) (w:World) (hx:x<18446744073709551616) :
 Calls Tryz.prog 130 #[.int .u64 x] w (RetNat w x):=by
 go_enter Tryz.func130,Tryz.ntmps130
 go_wp2_with fail
 refine (trim_any _ _ _ [x] _ (lit1 w x x rfl hx).toNatAt (by decide)).mono ?_;rintro e w1 ⟨a1,n1,c1,rfl,h3,hb⟩
 go_wp2
 go_ret
 exact RetNat.of ((bRf _ _).alloc (nRf _) _) ⟨_,_,_,rfl,by simpa [val] using h3,hb⟩
theorem check_any (a:Option Addr) (n c:Nat) (l:List Nat) (w:World) (h:NatAt w a n c l) :
 Calls Tryz.prog 144 #[.slice a n c] w fun e w'=>e = .returned (.int .i64 (chk l))∧w=w':=by
 have hl:=h.cle;have hl':=h.le;have hlen:=h.len
 by_cases hn:n=0
 · subst hn;have hnil:l=[]:=List.eq_nil_of_length_eq_zero hlen;subst hnil;clear hlen
   go_enter Tryz.func144,Tryz.ntmps144
   go_wp2
   go_ret
   exact ⟨rfl,rfl⟩
 rcases h.parts with h1 | ⟨b,o,rfl,hlt,hc⟩
 · omega
 have hc':=hc (n-1) (by omega);clear hc;have hne:l≠[]:=fun e=>hn (by rw [← hlen,e];rfl)
 by_cases hz:D l (n-1)=0
 · have hv:=chk_zero hne (by rw [hlen];exact hz);have hz':(((D l (n-1):Nat):Int) == 0)=true:=by rw [hz];rfl
   have HV:=hiD hv;clear hv hz hlen
   go_enter Tryz.func144,Tryz.ntmps144
   go_wp2
   go_ret
   exact ⟨ret_int HV.out.symm,rfl⟩
 have hv:=chk_pos hne (by rw [hlen];exact hz);have hz':(((D l (n-1):Nat):Int) == 0)=false:=by simpa using hz
 have HV:=hiD hv;clear hv hz hlen
 go_enter Tryz.func144,Tryz.ntmps144
 go_wp2
 go_ret
 exact ⟨ret_int HV.out.symm,rfl⟩
theorem one_any (a:Option Addr) (n c:Nat) (l:List Nat) (w:World) (h:NatAt w a n c l) :
 Calls Tryz.prog 123 #[.slice a n c] w fun e w'=>e = .returned (.tuple #[.int .u64 ((oneN (val l):Nat):Int),.bool (oneB (val l))])∧w=w':=by
 have h1:=h.digs
 by_cases h0:val l=0
 · have hl:(digs (val l)).length=0:=digs_len0.2 h0;have HL:=hiD hl;have e1:oneN (val l)=0:=by rw [h0];rfl
   have e2:oneB (val l)=true:=by rw [h0];rfl
   have E1:=hiD e1;have E2:=hiD e2;clear hl h0 e1 e2
   go_enter Tryz.func123,Tryz.ntmps123
   go_wp2_with fail
   refine (trimmed_any _ _ _ _ _ h).mono ?_;rintro e w1 ⟨rfl,rfl⟩;rw [HL.out]
   go_wp2
   go_ret2
   exact ⟨by rw [E1.out,E2.out];rfl,rfl⟩
 by_cases h2:val l<18446744073709551616
 · have hl:(digs (val l)).length=1:=(digs_len1 h0).2 h2;have hd:digs (val l)=[val l]:=digs_small h0 h2;rw [hl,hd] at h1;have HL:=hiD hl;have e1:oneN (val l)=val l:=if_pos h2;have e2:oneB (val l)=true:=decide_eq_true h2;have E1:=hiD e1;have E2:=hiD e2;rcases h1.parts with h3 | ⟨b,o,rfl,hlt,hc⟩
   · omega
   have hc':=hc 0 (by omega);rw [D_one,Nat.add_zero] at hc';clear hl h0 e1 e2 hd hc h2
   go_enter Tryz.func123,Tryz.ntmps123
   go_wp2_with fail
   refine (trimmed_any _ _ _ _ _ h).mono ?_;rintro e w1 ⟨rfl,rfl⟩;rw [HL.out]
   go_wp2
   go_ret2
   exact ⟨by rw [E1.out,E2.out];rfl,rfl⟩
 have hl1:((((digs (val l)).length:Nat):Int) == 0)=false:=by
  have:(digs (val l)).length≠0:=fun e=>h0 (digs_len0.1 e)
  simp only [beq_eq_false_iff_ne];omega
 have hl2:((((digs (val l)).length:Nat):Int) == 1)=false:=by
  have:(digs (val l)).length≠1:=fun e=>h2 ((digs_len1 h0).1 e)
  simp only [beq_eq_false_iff_ne];omega
 have e1:oneN (val l)=0:=if_neg h2;have e2:oneB (val l)=false:=decide_eq_false h2;have E1:=hiD e1;have E2:=hiD e2;clear e1 e2 h0 h2
 go_enter Tryz.func123,Tryz.ntmps123
 go_wp2_with fail
 refine (trimmed_any _ _ _ _ _ h).mono ?_;rintro e w1 ⟨rfl,rfl⟩
 go_wp2
 go_ret2
 exact ⟨by rw [E1.out,E2.out];rfl,rfl⟩
end
section
open Go.RowKit
theorem row_shape {w:World} {base size n:Nat} {e:TypeId} {v:Value} {xs:List Value} (h:w.ownsRow base e size v n xs):∃ a c,v = .slice a n c∧n≤c∧c≤maxLen:=by
 rcases h.2 with ⟨rfl,h0⟩ | ⟨g,cap,cur,rfl,_,_,h2,h3,_⟩
 · subst h0;exact ⟨none,0,rfl,nRf _,Nat.zero_le _⟩
 exact ⟨_,cap,rfl,h2,h3⟩
theorem row_past8 {w w':World} {base size n:Nat} {e:TypeId} {v:Value} {xs:List Value} (h:w.ownsRow base e size v n xs) (hb:Below w.heap.size w w'):w'.ownsRow base e size v n xs :=
 h.kept (row:=none) ⟨hb.os,hb.tape,hb.output,hb.size,fun k hk _=>hb.block k hk⟩ (by cases v.ownBlock<;>simp)
theorem u8_info:(Tryz.prog.info? 5).map (fun i=>(i.zero,i.size,i.bytes))=some (some (.int .u8 0),1,1):=by kernel_rfl
end
section
open Go.RowKit
theorem ints_differ {zs zs2:List Int} (hl:zs.length=zs2.length) (h:zs≠zs2):¬ ∀ j,j<zs.length→zs.getD j 0=zs2.getD j 0:=by
 intro k;refine h (List.ext_getElem hl fun j h1 h2 => ?_);have:=k j h1
 rwa [List.getD_eq_getElem?_getD,List.getD_eq_getElem?_getD,List.getElem?_eq_getElem h1,List.getElem?_eq_getElem h2] at this
theorem sameInts_no {a:Option Addr} {n c:Nat} {zs:List Int} {a2:Option Addr} {n2 c2:Nat} {zs2:List Int} {w:World} (h:IntsAt w a n c zs) (h2:IntsAt w a2 n2 c2 zs2) (hne:zs≠zs2) :
 Calls Tryz.prog 27 #[.slice a n c,.slice a2 n2 c2] w (RetVal w (.bool false)):=by
 have hl:c≤9223372036854775807:=by have:=h.cle;simp only [maxLen] at this;omega
 have hl':=h.le;have hlen:=h.len;have hlen2:=h2.len
 by_cases hn:n=n2
 · subst hn;have t0:((n:Int) != (n:Int))=false:=by simp
   have hd:=hiD (ints_differ (hlen.trans hlen2.symm) hne);have HL:=hiD hlen;clear hne hlen hlen2
   go_enter Tryz.func27,Tryz.ntmps27
   go_wp2
   go_loopw [5] (fun i wr=>∃ (k m:Nat),k≤n∧i = .int .i64 ((k:Nat):Int)∧(∀ j,j<k→zs.getD j 0=zs2.getD j 0)∧wr=w.drewN m) (fun i _=>n-(intOf i).toNat)
   case atStart=>exact ⟨0,0,Nat.zero_le _,rfl,fun j hj=>absurd hj (Nat.not_lt_zero _),rfl⟩
   case round =>
    obtain ⟨k,m,hk,rfl,hj,rfl⟩:=hrel
    by_cases hlt:k<n
    · have e1:=h.past (Below.draws (bRf _ _) m);have e2:=h2.past (Below.draws (bRf _ _) m);rcases e1.cell with h' | ⟨ba,oa,rfl,_,hca⟩
      · omega
      rcases e2.cell with h' | ⟨bb,ob,rfl,_,hcb⟩
      · omega
      have ca:=hca k hlt;have cb:=hcb k hlt;clear hca hcb e1 e2;obtain ⟨z,hz⟩:∃ z,zs.getD k 0=z:=⟨_,rfl⟩;obtain ⟨y,hy⟩:∃ y,zs2.getD k 0=y:=⟨_,rfl⟩;rw [hz] at ca;rw [hy] at cb;have HJ:=hiD hj;have HZ:=hiD hz;have HY:=hiD hy;clear hj hz hy
      by_cases hzy:z=y
      · subst hzy;have t1:(z != z)=false:=by simp
        go_wp2_with fail
        generalize hW:w.drewN m=W at ca cb ⊢;have HW:=hiD hW;clear hW
        go_quiet (fail)
        go_wp2
        go_roundw
        case rel=>exact ⟨k+1,m+nq,by omega,by go_num,fun j hj=>by rcases Nat.lt_succ_iff_lt_or_eq.1 hj with h3 | rfl;exact HJ.out j h3;rw [HZ.out,HY.out],by rw [← HW.out,World.drewN_drewN]⟩
        case measure=>simp [intOf];omega
      have t1:(z != y)=true:=by simp [hzy]
      clear hzy
      go_wp2_with fail
      generalize hW:w.drewN m=W at ca cb ⊢;have HW:=hiD hW;clear hW
      go_quiet (fail)
      go_wp2
      go_ret
      exact ⟨rfl,by rw [← HW.out,World.drewN_drewN];exact Below.draws (bRf _ _) _⟩
    obtain rfl:k=n:=by omega
    exact absurd (fun j h3=>hj j (by rw [← HL.out];exact h3)) hd.out
 have t0:((n:Int) != (n2:Int))=true:=by rw [bne_iff_ne];omega
 clear hn hne
 go_enter Tryz.func27,Tryz.ntmps27
 go_wp2
 go_ret
 exact ⟨rfl,bRf _ _⟩
theorem sameInts_any {a:Option Addr} {n c:Nat} {zs:List Int} {a2:Option Addr} {n2 c2:Nat} {zs2:List Int} {w:World} (h:IntsAt w a n c zs) (h2:IntsAt w a2 n2 c2 zs2) :
 Calls Tryz.prog 27 #[.slice a n c,.slice a2 n2 c2] w (RetVal w (.bool (decide (zs=zs2)))):=by
 by_cases e:zs=zs2
 · subst e;rw [decide_eq_true rfl];exact sameInts_yes h h2
 rw [decide_eq_false e];exact sameInts_no h h2 e
end
end Go.Proofs.YtkhcblihbalnbaaGreatDoor
