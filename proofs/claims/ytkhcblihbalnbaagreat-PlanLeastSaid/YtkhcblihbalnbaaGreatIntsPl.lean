import Derived.Below
import Derived.ChangeOld
import Derived.OpenShut
import Derived.ProofKit
import Derived.ShutString
import Derived.Test.YtkhcblihbalnbaaGreatS0Pl
import Derived.Test.YtkhcblihbalnbaaGreatNumPl
import Derived.Test.YtkhcblihbalnbaaGreatLimbs1Pl
set_option linter.unusedVariables false
set_option linter.unusedSimpArgs false
set_option maxRecDepth 100000
namespace Go.Proofs.YtkhcblihbalnbaaGreat
open Go.RowKit
structure IntsAt (w:World) (a:Option Addr) (n c:Nat) (zs:List Int):Prop where
 len:zs.length=n
 le:n≤c
 cle:c≤maxLen
 cell:n=0∨∃ b o,a=some ⟨b,o,none⟩∧b<w.heap.size∧∀ i,i<n→w.cell? ⟨b,o+i,none⟩=some (.int .i64 (zs.getD i 0))
 nilc:a=none→c=0
 wf:∀ z ∈ zs,-9223372036854775808≤z∧z≤9223372036854775807
theorem IntsAt.past {w w':World} {a:Option Addr} {n c:Nat} {zs:List Int} (h:IntsAt w a n c zs) (hb:Below w.heap.size w w'):IntsAt w' a n c zs :=
 ⟨h.len,h.le,h.cle,h.cell.imp id fun ⟨b,o,e,hl,hc⟩=>⟨b,o,e,nLt hl hb.size,fun i hi=>(hb.cell (p:=⟨b,o+i,none⟩) hl).trans (hc i hi)⟩,h.nilc,h.wf⟩
theorem litI {E:Nat} (w:World) (vs:Array Value) (zs:List Int) (n:Nat) (hv:vs.toList=zs.map (fun z=>Value.int .i64 z)) (hn:zs.length=n) (hm:n≤1000) (hd:∀ z ∈ zs,-9223372036854775808≤z∧z≤9223372036854775807) :
 IntsAt (w.alloc (.cells vs E)) (some ⟨w.heap.size,0,none⟩) n n zs:=by
 refine ⟨hn,nRf _,by simp only [maxLen];omega,.inr ⟨w.heap.size,0,rfl,by simp,fun i hi => ?_⟩,(fun e=>by cases e),hd⟩;rw [Nat.zero_add,World.cell?_alloc_at _ _ _ _ rfl,← Array.getElem?_toList,hv,List.getElem?_map,List.getD_eq_getElem?_getD,List.getElem?_eq_getElem (by omega)];rfl
theorem i64_info:(Tryz.prog.info? 3).map (fun i=>(i.zero,i.size,i.bytes))=some (some (.int .i64 0),1,8):=by kernel_rfl
theorem sameInts_yes {a:Option Addr} {n c:Nat} {zs:List Int} {a2:Option Addr} {n2 c2:Nat} {w:World} (h:IntsAt w a n c zs) (h2:IntsAt w a2 n2 c2 zs) :
 Calls Tryz.prog 14 #[.slice a n c,.slice a2 n2 c2] w (RetVal w (.bool true)):=by
 have hl:c≤9223372036854775807:=by have:=h.cle;simp only [maxLen] at this;omega
 have hl':=h.le;obtain rfl:n=n2:=h.len.symm.trans h2.len;have t0:((n:Int) != (n:Int))=false:=by simp
 go_enter Tryz.func14,Tryz.ntmps14
 go_wp2
 go_loopw [5] (fun i wr=>∃ (k m:Nat),k≤n∧i = .int .i64 ((k:Nat):Int)∧wr=w.drewN m) (fun i _=>n-(intOf i).toNat)
 case atStart=>exact ⟨0,0,Nat.zero_le _,rfl,rfl⟩
 case round =>
  obtain ⟨k,m,hk,rfl,rfl⟩:=hrel
  by_cases hlt:k<n
  · have e1:=h.past (Below.draws (bRf _ _) m);have e2:=h2.past (Below.draws (bRf _ _) m);rcases e1.cell with h' | ⟨ba,oa,rfl,_,hca⟩
    · omega
    rcases e2.cell with h' | ⟨bb,ob,rfl,_,hcb⟩
    · omega
    have ca:=hca k hlt;have cb:=hcb k hlt;clear hca hcb e1 e2;obtain ⟨z,hz⟩:∃ z,zs.getD k 0=z:=⟨_,rfl⟩;rw [hz] at ca cb;have t1:(z != z)=false:=by simp
    clear hz
    go_wp2_with fail
    generalize hW:w.drewN m=W at ca cb ⊢;have HW:=hiD hW;clear hW
    go_quiet (fail)
    go_wp2
    go_roundw
    case rel=>exact ⟨k+1,m+nq,by omega,by go_num,by rw [← HW.out,World.drewN_drewN]⟩
    case measure=>simp [intOf];omega
  obtain rfl:k=n:=by omega
  go_wp2
  go_ret
  exact ⟨rfl,Below.draws (bRf _ _) m⟩
end Go.Proofs.YtkhcblihbalnbaaGreat
