import Derived.Lib.MinMax
import Derived.Test.YtkhcblihbalnbaaGreatDoorLimbs1Pb
set_option linter.unusedVariables false
set_option linter.unusedSimpArgs false
set_option maxHeartbeats 2000000
set_option maxRecDepth 100000
namespace Go.Proofs.YtkhcblihbalnbaaGreatDoor
section
open Go.RowKit Go.Shelf
attribute [local go_sem] Oper.semAt_some
def pairV (p:Nat×Nat):Array Value:=#[.int .u64 ((p.1:Nat):Int),.int .u64 ((p.2:Nat):Int)]
theorem down1_in (n:Nat) (hn:1≤n) (lp B1 B2 n₀:Nat) (a:Option Addr) (m c:Nat) (l:List Nat) (a2:Option Addr) (m2 c2:Nat) (l2:List Nat) (M:Nat) (hM:max (m:Int) (m2:Int)=M) (J Jx:List (Nat×Nat)→World→Prop)
 (hY : ∀ pre x W, J pre W → pre.length < M → YieldAt Fence.wide (n - 1) Tryz.prog lp (pairV x) W fun e W' =>
   (e = .returned (.bool true)∧J (pre ++ [x]) W'∧Below n₀ W W')∨(e = .returned (.bool false)∧Jx (pre ++ [x]) W'))
 (hJd:∀ pre W,J pre W→J pre W.drew)
 (W:World) (h1:W.cell? ⟨B1,0,none⟩=some (.slice a m c)) (h2:W.cell? ⟨B2,0,none⟩=some (.slice a2 m2 c2)) (hB1:B1<n₀) (hB2:B2<n₀) (ha:m=0∨∀ x,a=some x→x.block<n₀) (ha2:m2=0∨∀ x,a2=some x→x.block<n₀)
 (hl:NatAt W a m c l) (hl2:NatAt W a2 m2 c2 l2) (h0:J [] W) :
 CallsIn Fence.wide n Tryz.prog 213 #[.func (.yield lp) #[] #[],.pointer (some ⟨B1,0,none⟩),.pointer (some ⟨B2,0,none⟩)] W fun e W'=>(∃ v,e = .returned v) ∧
  ((∃ ys,ys=upto l l2 M M∧J ys W')∨(∃ pre,(∃ k,k≤M∧pre=upto l l2 M k)∧Jx pre W')):=by
 have hm:=hl.cle;have hm':=hl.le;have hm2:=hl2.cle;have hm2':=hl2.le;have hMb:M≤9223372036854775807:=by omega
 have HM:=hiD hM;have hgo:(max (m:Int) (m2:Int))=M:=hM;refine callsIn_of_wp Tryz.func213 rfl trivial ?_ rfl;simp only [Tryz.ntmps213,List.size_toArray,List.length_cons,List.length_nil,Nat.reduceAdd,Nat.reduceSub,Array.replicate_succ,Array.replicate_zero,List.push_toArray,List.append_toArray,List.nil_append,List.cons_append]
 gi_wp2
 gi_loopw [4] (fun i wr=>∃ k:Nat,k≤M∧i = .int .i64 ((M:Int)-1-k)∧J (upto l l2 M k) wr∧Below n₀ W wr)
  (fun i _=>(intOf i+1).toNat)
 case atStart=>exact ⟨0,Nat.zero_le _,by go_num,h0,bRf _ _⟩
 case round =>
  obtain ⟨k,hk,rfl,hJs,hnx⟩:=hrel;have hc1:=(hnx.cell (p:=⟨B1,0,none⟩) hB1).trans h1;have hc2:=(hnx.cell (p:=⟨B2,0,none⟩) hB2).trans h2;have hn1:=hl.below hnx ha;have hn2:=hl2.below hnx ha2
  by_cases hlt:k<M
  · obtain ⟨fn,tmps,assign,body,hy,hR⟩:=hY _ (D l (M-1-k),D l2 (M-1-k)) wr.drew (hJd _ _ hJs) (by rw [upto_length];exact hlt);dsimp only [pairV] at hy;have n1:=hn1.drew;have n2:=hn2.drew;have hk':0≤(M:Int)-1-k:=by omega
    have ek:((M:Int)-1-k).toNat=M-1-k:=by omega
    have EK:=hiD ek;clear ek hn1 hn2;have hfo:Tryz.prog.follows .mixedOrders=true:=by kernel_rfl
    have hR':=hR.mono (R':=fun e W'=>∃ t:Bool,e = .returned (.bool t)∧Hid ((t=true∧J (upto l l2 M (k+1)) W'∧Below n₀ wr.drew W')∨(t=false∧Jx (upto l l2 M (k+1)) W'))) (by
     rw [upto_succ];rintro e W' (⟨rfl,h1,h2⟩ | ⟨rfl,h1⟩)
     · exact ⟨true,rfl,.inl ⟨rfl,h1,h2⟩⟩
     exact ⟨false,rfl,.inr ⟨rfl,h1⟩⟩)
    clear hR
    gi_wp2_with fail
    gi_region_with_o (first | (refine ⟨trivial,?_⟩;gi_at_call 172;refine (callsIn_wide.2 (digit_any _ _ _ _ _ _ (by assumption) hk')).mono ?_;rintro e w' ⟨rfl,rfl⟩;rw [EK.out]) | (refine hR'.mono ?_;rintro e W3 ⟨t,rfl,ht⟩))
    all_goals
     have HT:=ht;rcases HT.out with ⟨rfl,hJ3,hk3⟩ | ⟨rfl,hJx3⟩
     · gi_wp2
       go_roundw
       case rel=>exact ⟨k+1,by omega,by go_num,hJ3,hnx.drew.trans hk3⟩
       case measure=>simp [intOf];omega
     gi_wp2
     refine bodyPost_ret (results_none rfl _ _ _) rfl ?_;exact ⟨⟨_,rfl⟩,.inr ⟨_,⟨k+1,by omega,rfl⟩,hJx3⟩⟩
  obtain rfl:k=M:=by omega
  gi_wp2
  go_end0
  exact ⟨⟨_,rfl⟩,.inl ⟨_,rfl,hJs⟩⟩
theorem down_any (a:Option Addr) (n c:Nat) (a2:Option Addr) (n2 c2:Nat) (w:World) :
 Calls Tryz.prog 185 #[.slice a n c,.slice a2 n2 c2] w fun e w'=>e = .returned (.func (.func 213) #[] #[.pointer (some ⟨w.heap.size,0,none⟩),.pointer (some ⟨w.heap.size+1,0,none⟩)]) ∧
  (w.alloc (.cells #[.slice a n c] 24)).alloc (.cells #[.slice a2 n2 c2] 24)=w':=by
 have hmf:∀ (fn:Fn) (first cap:Array Value) (w:World),(Instr.makeFunc fn first cap).run Tryz.prog w = .ok (.func fn first cap) w:=fun _ _ _ _=>rfl
 go_enter Tryz.func185,Tryz.ntmps185
 go_wp2
 go_ret
 exact ⟨rfl,rfl⟩
theorem down_stops (n:Nat) (hn:1≤n) (B1 B2 n₀:Nat) (a:Option Addr) (m c:Nat) (l:List Nat) (a2:Option Addr) (m2 c2:Nat) (l2:List Nat) (M:Nat) (hM:max (m:Int) (m2:Int)=M)
 (w:World) (h1:w.cell? ⟨B1,0,none⟩=some (.slice a m c)) (h2:w.cell? ⟨B2,0,none⟩=some (.slice a2 m2 c2)) (hB1:B1<n₀) (hB2:B2<n₀) (hn0:n₀≤w.heap.size) (ha:m=0∨∀ x,a=some x→x.block<n₀) (ha2:m2=0∨∀ x,a2=some x→x.block<n₀)
 (hl:NatAt w a m c l) (hl2:NatAt w a2 m2 c2 l2) :
 SeqStopsK Fence.wide n Tryz.prog 213 #[.pointer (some ⟨B1,0,none⟩),.pointer (some ⟨B2,0,none⟩)] pairV (Below n₀) (fun ys=>ys=upto l l2 M M) (fun pre=>∃ k,k≤M∧pre=upto l l2 M k) M w:=fun lp J Jx W hW hJ hJx hY h0 =>
 down1_in n hn lp B1 B2 n₀ a m c l a2 m2 c2 l2 M hM J Jx hY (fun pre V hV=>hJ pre V V.drew none hV ⟨rfl,rfl,rfl,nRf _,fun _ _ _=>rfl⟩ (fun r e=>by cases e)) W
  ((hW.cell (p:=⟨B1,0,none⟩) (show B1<w.heap.size by omega)).trans h1) ((hW.cell (p:=⟨B2,0,none⟩) (show B2<w.heap.size by omega)).trans h2) hB1 hB2 ha ha2 (hl.later hW (nRf _)) (hl2.later hW (nRf _)) h0
end
section
open Go.RowKit Go.Shelf
attribute [local go_sem] Oper.semAt_some
theorem cell_new (W:World) (v:Value) (t:TypeId):(W.alloc (.cells #[v] t)).cell? ⟨W.heap.size,0,none⟩=some v∧(W.alloc (.cells #[v] t)).frozen? ⟨W.heap.size,0,none⟩=false :=
 ⟨by rw [World.cell?_alloc_at _ _ _ _ rfl];rfl,World.frozen?_alloc_at _ _ _ _ rfl⟩
theorem cmp_any (a:Option Addr) (n c:Nat) (l:List Nat) (a2:Option Addr) (n2 c2:Nat) (l2:List Nat) (w:World) (h:NatAt w a n c l) (h2:NatAt w a2 n2 c2 l2) :
 Calls Tryz.prog 145 #[.slice a n c,.slice a2 n2 c2] w (RetVal w (.int .i64 (cmpI (val l) (val l2)))):=by
 refine (callsIn_wide (n:=9)).1 ?_;refine callsIn_of_wp_marks Tryz.func145 rfl trivial ?_ rfl;simp only [Tryz.ntmps145,List.size_toArray,List.length_cons,List.length_nil,Nat.reduceAdd,Nat.reduceSub,Array.replicate_succ,Array.replicate_zero,List.push_toArray,List.append_toArray,List.nil_append,List.cons_append]
 gi_wp2_with (refine ⟨trivial,?_⟩;gi_at_call 185;refine (callsIn_wide.2 (down_any _ _ _ _ _ _ _)).mono ?_;rintro e w' ⟨rfl,rfl⟩)
 have hb:=cell_new w (.int .i64 0) 3;obtain ⟨w0,hw0⟩:∃ w0,w.alloc (.cells #[.int .i64 0] 3)=w0:=⟨_,rfl⟩;have hs0:w0.heap.size=w.heap.size+1:=by rw [← hw0];simp
 have hB0:Below w.heap.size w w0:=by rw [← hw0];exact (bRf _ _).alloc (nRf _) _
 rw [hw0] at hb ⊢;clear hw0;have hb1:=cell_new w0 (.slice a n c) 24;have hb2:=cell_new (w0.alloc (.cells #[.slice a n c] 24)) (.slice a2 n2 c2) 24;obtain ⟨w3,hw3⟩:∃ w3,(w0.alloc (.cells #[.slice a n c] 24)).alloc (.cells #[.slice a2 n2 c2] 24)=w3:=⟨_,rfl⟩;have hs3:w3.heap.size=w.heap.size+3:=by rw [← hw3];simp;omega
 have hB3:Below w0.heap.size w0 w3:=by rw [← hw3];exact ((bRf _ _).alloc (nRf _) _).alloc (by simp) _
 have hc1:w3.cell? ⟨w0.heap.size,0,none⟩=some (.slice a n c):=by rw [← hw3,World.cell?_alloc_past _ _ _ (by simp)];exact hb1.1
 have hc2:w3.cell? ⟨w0.heap.size+1,0,none⟩=some (.slice a2 n2 c2):=by rw [← hw3];have:=hb2.1;rwa [World.size_alloc] at this
 have hc0:w3.cell? ⟨w.heap.size,0,none⟩=some (.int .i64 0):=(hB3.cell (p:=⟨w.heap.size,0,none⟩) (by simp;omega)).trans hb.1;have hf0:w3.frozen? ⟨w.heap.size,0,none⟩=false:=(hB3.frozen (p:=⟨w.heap.size,0,none⟩) (by simp;omega)).trans hb.2;rw [hw3];rw [hs0] at hc1 hc2;have hBB:Below w.heap.size w w3:=bLt hB0 hB3;have hn1:=h.later hBB (nRf _);have hn2:=h2.later hBB (nRf _);clear hw3 hb hb1 hb2 hB3 hB0;obtain ⟨M,hM⟩:∃ M:Nat,max (n:Int) (n2:Int)=M:=⟨max n n2,by omega⟩;have hMn:l.length≤M:=by rw [h.len];omega
 have hMn2:l2.length≤M:=by rw [h2.len];omega
 have hp1:n=0∨∀ x,a=some x→x.block<w3.heap.size:=by
  rcases hn1.parts with h' | ⟨b,o,he,hlt,_⟩
  · exact .inl h'
  exact .inr fun x hx=>by rw [he] at hx;cases hx;exact hlt
 have hp2:n2=0∨∀ x,a2=some x→x.block<w3.heap.size:=by
  rcases hn2.parts with h' | ⟨b,o,he,hlt,_⟩
  · exact .inl h'
  exact .inr fun x hx=>by rw [he] at hx;cases hx;exact hlt
 refine wpIn_rangeFunc_ownF rfl (by decide) (gf:=213) (lb:=#[.pointer (some ⟨w.heap.size+1,0,none⟩),.pointer (some ⟨w.heap.size+1+1,0,none⟩)]) rfl trivial (enters_of Tryz.func213 (by kernel_rfl) rfl)
  (down_stops _ (by decide) (w.heap.size+1) (w.heap.size+1+1) w3.heap.size a n c l a2 n2 c2 l2 M hM w3 hc1 hc2 (by omega) (by omega) (nRf _) hp1 hp2 hn1 hn2) belowK_t (belowK_b (nRf _)) (bRf _ _) (fun _=>rfl)
  (fun pre W=>(lexP pre=0∧W.cell? ⟨w.heap.size,0,none⟩=some (.int .i64 0)∧W.frozen? ⟨w.heap.size,0,none⟩=false)∧Below w.heap.size w W)
  (fun c pre W=>(c = .ret∧lexP pre≠0∧W.cell? ⟨w.heap.size,0,none⟩=some (.int .i64 (lexP pre)))∧Below w.heap.size w W)
  (OwnFrom.and (Own.from (fun s A B row hs hg hr=>⟨hs.1,cell_kept hs.2.1 hg hr,(frozen_kept hs.2.1 hg hr).trans hs.2.2⟩) _) (ownFrom_below (nRf _) (by omega)))
  (fun _=>OwnFrom.and (Own.from (fun s A B row hs hg hr=>⟨hs.1,hs.2.1,cell_kept hs.2.2 hg hr⟩) _) (ownFrom_below (nRf _) (by omega)))
  ⟨⟨rfl,hc0,hf0⟩,hBB⟩
  (fun x=>{ tmps:=#[.slice a n c,.slice a2 n2 c2,undef,undef,.pointer (some ⟨w.heap.size,0,none⟩),.int .u64 ((x.1:Nat):Int),.int .u64 ((x.2:Nat):Int),.slice a n c,.slice a2 n2 c2,.func (.func 213) #[] #[.pointer (some ⟨w.heap.size+1,0,none⟩),.pointer (some ⟨w.heap.size+1+1,0,none⟩)],.int .u64 ((x.1:Nat):Int),.int .u64 ((x.2:Nat):Int),undef,undef,undef,undef,undef,undef,undef,undef],defers:=[] }) ?assign ?body ?done ?stop
 case assign =>
  intro lp x W K hK;dsimp only [pairV]
  gi_wp2
  exact hK
 case body =>
  rintro lp pre x W ⟨⟨hl0,hcc,hff⟩,hBW⟩ _;have HL:=hiD hl0;clear hl0
  gi_wp2
  · have hx:x.1<x.2:=by assumption
    have e:lexP (pre ++ [x]) = -1:=by rw [lexP_append,if_pos HL.out,lexP_one,cmpI_lt hx]
    exact ⟨KeepsOthers.setCell _ _ _,⟨rfl,by rw [e];decide,by rw [e];exact World.cell?_setCell_same' _ _ _ (by rw [hcc];rfl)⟩,hBW.setCell (p:=⟨w.heap.size,0,none⟩) (nRf _) _⟩
  · have hx:x.2<x.1:=by assumption
    have e:lexP (pre ++ [x])=1:=by rw [lexP_append,if_pos HL.out,lexP_one,cmpI_gt hx]
    exact ⟨KeepsOthers.setCell _ _ _,⟨rfl,by rw [e];decide,by rw [e];exact World.cell?_setCell_same' _ _ _ (by rw [hcc];rfl)⟩,hBW.setCell (p:=⟨w.heap.size,0,none⟩) (nRf _) _⟩
  have hx:x.1=x.2:=by omega
  have e:lexP (pre ++ [x])=0:=by rw [lexP_append,if_pos HL.out,lexP_one,hx,cmpI_eq]
  exact ⟨KeepsOthers.refl _,bRf _ _,⟨e,hcc,hff⟩,hBW⟩
 case done =>
  rintro Dd ys W hD rfl ⟨⟨hl0,hcc,hff⟩,hBW⟩ hK;have HL:=hiD hl0;clear hl0
  gi_wp2
  have hK':=(KeepsOthers.setCell W ⟨w.heap.size,0,none⟩ (.int .i64 0)).same Dd _ hK rfl;refine ⟨by simp,.inl ⟨_,_,rfl,run_takeDeferred hK',?_⟩⟩;have hc5:=cell_kept (World.cell?_setCell_same' W ⟨w.heap.size,0,none⟩ (.int .i64 0) (by rw [hcc];rfl)) (grownBy_putObj' _ Dd (.deferred none)) (fun r e=>by cases e;exact ⟨_,hK',rfl⟩);refine ⟨.int .i64 0,?_,ret_int (by rw [← lexP_all h.dig h2.dig hMn hMn2,HL.out]),(hBW.setCell (p:=⟨w.heap.size,0,none⟩) (nRf _) _).trans (belowK_b (w:=w) (nRf _) _ Dd _ _ (by omega) hK' rfl rfl)⟩;simp [results,Tryz.f145,go_sem,hc5]
 case stop =>
  rintro Dd cc pre W hD ⟨k,hk,rfl⟩ ⟨⟨rfl,hl0,hcc⟩,hBW⟩ hK;have hfull:=lexP_part h.dig h2.dig hMn hMn2 hk hl0;have HF:=hiD hfull;clear hl0 hfull
  gi_wp2
  refine ⟨by simp,.inl ⟨_,_,rfl,run_takeDeferred hK,?_⟩⟩;have hc5:=cell_kept hcc (grownBy_putObj' _ Dd (.deferred none)) (fun r e=>by cases e;exact ⟨_,hK,rfl⟩);refine ⟨.int .i64 (lexP (upto l l2 M k)),?_,ret_int HF.out,hBW.trans (belowK_b (w:=w) (nRf _) _ Dd _ _ (by omega) hK rfl rfl)⟩;simp [results,Tryz.f145,go_sem,hc5]
end
end Go.Proofs.YtkhcblihbalnbaaGreatDoor
