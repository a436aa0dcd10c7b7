import Derived.Test.YtkhcblihbalnbaaGreatS0Pl
import Derived.Test.YtkhcblihbalnbaaGreatPlan3Pl
import Derived.Test.YtkhcblihbalnbaaGreatRegPl
set_option linter.unusedVariables false
set_option linter.unusedSimpArgs false
set_option maxHeartbeats 8000000
set_option maxRecDepth 100000
namespace Go.Proofs.YtkhcblihbalnbaaGreat
open Go.RowKit
theorem within_yes (x a b:Int) (w:World) (h1:a≤x) (h2:x≤b):Calls Tryz.prog 100 #[.int .i64 x,.int .i64 a,.int .i64 b] w fun e w'=>e = .returned (.bool true)∧w=w':=by
 go_enter Tryz.func100,Tryz.ntmps100
 go_wp2
 go_ret
 exact ⟨rfl,rfl⟩
theorem odd_any (x:Int) (w:World) (h1:0≤x) (h2:x≤16777215):Calls Tryz.prog 140 #[.int .i64 x] w fun e w'=>e = .returned (.bool false)∧w=w':=by
 go_enter Tryz.func140,Tryz.ntmps140
 go_wp2_with fail
 with_reducible refine (within_yes x 0 16777215 _ h1 h2).mono ?_
 rintro e w' ⟨rfl,rfl⟩
 go_wp2
 go_ret
 exact ⟨rfl,rfl⟩
theorem tsome_any (x:Int) (w:World):Calls Tryz.prog 141 #[.int .i64 x] w fun e w'=>e = .returned (.bool (decide (0<x)))∧w=w':=by
 go_enter Tryz.func141,Tryz.ntmps141
 go_wp2
 go_ret
 exact ⟨rfl,rfl⟩
theorem index_odd (a:Option Addr) (n c:Nat) (zs:List Int) (w:World) (g:IntsAt w a n c zs) (hz:∀ z ∈ zs,0≤z∧z≤16777215) (hn:n≤100000) :
 Calls Tryz.prog 179 #[.slice a n c,.func (.func 140) #[] #[]] w fun e w'=>e = .returned (.int .i64 (-1))∧w=w':=by
 have hlen:=g.len;have HZ:=hiD hz;clear hz
 go_enter Tryz.func179,Tryz.ntmps179
 go_wp2
 go_loopw [5,8] (fun s5 s8 wr=>∃ i:Nat,i≤n∧s8 = .int .i64 (i:Int)∧wr=w) (fun _ s8 _=>n-(intOf s8).toNat)
 case atStart=>exact ⟨0,Nat.zero_le _,rfl,rfl⟩
 case round =>
  obtain ⟨i,hi,rfl,rfl⟩:=hrel
  by_cases hlt:i<n
  · rcases g.cell with h' | ⟨b,o,rfl,_,hc⟩
    · omega
    have ci:=hc i hlt;have hzi:=HZ.out (zs[i]'(by omega)) (List.getElem_mem _);obtain ⟨z,hz⟩:∃ z,zs.getD i 0=z:=⟨_,rfl⟩;rw [hz] at ci
    have hzr:0≤z∧z≤16777215:=by
     rw [← hz,List.getD_eq_getElem?_getD,List.getElem?_eq_getElem (by omega)];exact hzi
    clear hc hz hzi
    go_wp2_with fail
    refine (odd_any z _ hzr.1 hzr.2).mono ?_;rintro e w' ⟨rfl,rfl⟩
    go_wp2
    exact ⟨⟨i+1,hlt,by go_num,by first | rfl | trivial⟩,by simp [intOf];omega⟩
  obtain rfl:i=n:=by omega
  go_wp2
  go_ret
  exact ⟨rfl,rfl⟩
theorem index_some (a:Option Addr) (n c:Nat) (zs:List Int) (w:World) (g:IntsAt w a n c zs) (hz:∃ z ∈ zs,0<z) (hn:n≤100000) :
 Calls Tryz.prog 179 #[.slice a n c,.func (.func 141) #[] #[]] w fun e w'=>(∃ i:Nat,e = .returned (.int .i64 (i:Int)))∧w=w':=by
 have hlen:=g.len;have HZ:=hiD hz;clear hz
 go_enter Tryz.func179,Tryz.ntmps179
 go_wp2
 go_loopw [5,8] (fun s5 s8 wr=>∃ i:Nat,i≤n∧s8 = .int .i64 (i:Int)∧wr=w∧∀ j,j<i→zs.getD j 0≤0) (fun _ s8 _=>n-(intOf s8).toNat)
 case atStart=>exact ⟨0,Nat.zero_le _,rfl,rfl,fun _ h=>by omega⟩
 case round =>
  obtain ⟨i,hi,rfl,rfl,hno⟩:=hrel
  by_cases hlt:i<n
  · rcases g.cell with h' | ⟨b,o,rfl,_,hc⟩
    · omega
    have ci:=hc i hlt;obtain ⟨z,hz⟩:∃ z,zs.getD i 0=z:=⟨_,rfl⟩;rw [hz] at ci;have HZI:=hiD hz;have HNO:=hiD hno;clear hc hz hno
    go_wp2_with fail
    refine (tsome_any z _).mono ?_;rintro e w' ⟨rfl,rfl⟩
    by_cases hp:0<z
    · rw [decide_eq_true hp]
      go_wp2
      go_ret
      exact ⟨⟨i,rfl⟩,rfl⟩
    rw [decide_eq_false hp]
    go_wp2
    exact ⟨⟨i+1,hlt,by go_num,by first | rfl | trivial,fun j hj=>by
     rcases Nat.lt_or_ge j i with h | h
     · exact HNO.out j h
     obtain rfl:j=i:=by omega
     rw [HZI.out];omega⟩,by simp [intOf];omega⟩
  obtain rfl:i=n:=by omega
  exfalso
  obtain ⟨z,hm,hp⟩:=HZ.out;obtain ⟨j,hj,rfl⟩:=List.getElem_of_mem hm;have h:=hno j (by omega);rw [List.getD_eq_getElem?_getD,List.getElem?_eq_getElem hj] at h;simp at h;omega
theorem contains_odd (a:Option Addr) (n c:Nat) (zs:List Int) (w:World) (g:IntsAt w a n c zs) (hz:∀ z ∈ zs,0≤z∧z≤16777215) (hn:n≤100000) :
 Calls Tryz.prog 142 #[.slice a n c,.func (.func 140) #[] #[]] w fun e w'=>e = .returned (.bool false)∧w=w':=by
 go_enter Tryz.func142,Tryz.ntmps142
 go_wp2_with fail
 refine (index_odd a n c zs _ g hz hn).mono ?_;rintro e w' ⟨rfl,rfl⟩
 go_wp2
 go_ret
 exact ⟨rfl,rfl⟩
theorem contains_some (a:Option Addr) (n c:Nat) (zs:List Int) (w:World) (g:IntsAt w a n c zs) (hz:∃ z ∈ zs,0<z) (hn:n≤100000) :
 Calls Tryz.prog 142 #[.slice a n c,.func (.func 141) #[] #[]] w fun e w'=>e = .returned (.bool true)∧w=w':=by
 go_enter Tryz.func142,Tryz.ntmps142
 go_wp2_with fail
 refine (index_some a n c zs _ g hz hn).mono ?_;rintro e w' ⟨⟨i,rfl⟩,rfl⟩;have t0:decide ((0:Int)≤(i:Int))=true:=decide_eq_true (by omega)
 go_wp2
 go_ret
 exact ⟨rfl,rfl⟩
theorem table_yes (a:Option Addr) (n c:Nat) (zs:List Int) (m:Int) (w:World) (g:IntsAt w a n c zs) (hz:∀ z ∈ zs,0≤z∧z≤16777215) (hs:∃ z ∈ zs,0<z) (hn:(n:Int)≤m) (hm:m≤100000) :
 Calls Tryz.prog 101 #[.slice a n c,.int .i64 m] w fun e w'=>e = .returned (.bool true)∧w=w':=by
 go_enter Tryz.func101,Tryz.ntmps101
 go_wp2_with fail
 refine (contains_odd a n c zs _ g hz (by omega)).mono ?_;rintro e w' ⟨rfl,rfl⟩
 go_wp2_with fail
 refine (contains_some a n c zs _ g hs (by omega)).mono ?_;rintro e w' ⟨rfl,rfl⟩
 go_wp2
 go_ret
 exact ⟨rfl,rfl⟩
theorem mcheck_known (a:Option Addr) (c:Nat) (w:World) (g0:IntsAt w a 1 c [1]):Calls Tryz.prog 60 #[.agg #[.int .i64 5,.int .i64 2,.int .i64 1,.int .i64 0,.slice a 1 c]] w (RetVal w (.int .i64 0)):=by
 have g:=g0
 go_enter Tryz.func60,Tryz.ntmps60
 have hB:=bRf w.heap.size w
 go_wp2_with fail
 obtain ⟨w1,hW,hz0,hb,q,f⟩:=box1g w (w.heap.size) (by omega) #[.int .i64 5,.int .i64 2,.int .i64 1,.int .i64 0,.slice a 1 c] 59;rw [hW];clear hW;have g:=g.past hb;have hB:=bLt hB hb;clear hb;have lm:w.heap.size<w1.heap.size:=by omega
 have qm0:=q 0;have qm1:=q 1;have qm2:=q 2;have qm3:=q 3;have qm4:=q 4;simp only [lgA,lgZ,lgS] at qm0 qm1 qm2 qm3 qm4;clear q f;clear hz0
 with_reducible refine (within_yes 5 0 4294967295 _ (by decide) (by decide)).mono ?_
 rintro e w' ⟨rfl,rfl⟩
 go_wp2_with fail
 with_reducible refine (within_yes 2 1 65535 _ (by decide) (by decide)).mono ?_
 rintro e w' ⟨rfl,rfl⟩
 go_wp2_with fail
 with_reducible refine (within_yes 1 1 65536 _ (by decide) (by decide)).mono ?_
 rintro e w' ⟨rfl,rfl⟩
 go_wp2_with fail
 refine (table_yes a 1 c [1] (min 1 10000) _ g (by simp) ⟨1,by simp,by decide⟩ (by decide) (by decide)).mono ?_;rintro e w' ⟨rfl,rfl⟩
 go_wp2
 go_ret
 exact ⟨rfl,hB⟩
theorem full_known (a:Option Addr) (c:Nat) (w:World):Calls Tryz.prog 102 #[.agg #[.int .i64 5,.int .i64 2,.int .i64 1,.int .i64 0,.slice a 1 c]] w (RetVal w (.int .i64 2)):=by
 go_enter Tryz.func102,Tryz.ntmps102
 have hB:=bRf w.heap.size w
 go_wp2_with fail
 obtain ⟨w1,hW,hz0,hb,q,f⟩:=box1g w (w.heap.size) (by omega) #[.int .i64 5,.int .i64 2,.int .i64 1,.int .i64 0,.slice a 1 c] 59;rw [hW];clear hW;have hB:=bLt hB hb;clear hb;have lm:w.heap.size<w1.heap.size:=by omega
 have qm0:=q 0;have qm1:=q 1;have qm2:=q 2;have qm3:=q 3;have qm4:=q 4;simp only [lgA,lgZ,lgS] at qm0 qm1 qm2 qm3 qm4;clear q f;clear hz0
 go_wp2
 go_ret
 exact ⟨rfl,hB⟩
theorem blocks_known (a:Option Addr) (c:Nat) (w:World) (g0:IntsAt w a 1 c [1]):Calls Tryz.prog 61 #[.agg #[.int .i64 5,.int .i64 2,.int .i64 1,.int .i64 0,.slice a 1 c]] w (RetVal w (.int .i64 3)):=by
 have g:=g0
 go_enter Tryz.func61,Tryz.ntmps61
 have hB:=bRf w.heap.size w
 go_wp2_with fail
 obtain ⟨w1,hW,hz0,hb,q,f⟩:=box1g w (w.heap.size) (by omega) #[.int .i64 5,.int .i64 2,.int .i64 1,.int .i64 0,.slice a 1 c] 59;rw [hW];clear hW;have g:=g.past hb;have hB:=bLt hB hb;clear hb;have lm:w.heap.size<w1.heap.size:=by omega
 have qm0:=q 0;have qm1:=q 1;have qm2:=q 2;have qm3:=q 3;have qm4:=q 4;simp only [lgA,lgZ,lgS] at qm0 qm1 qm2 qm3 qm4;clear q f;clear hz0
 with_reducible refine (mcheck_known _ _ _ g).mono ?_
 rintro e w2 ⟨rfl,hb⟩;have qm0:=bq hb lm qm0;have qm1:=bq hb lm qm1;have qm2:=bq hb lm qm2;have qm3:=bq hb lm qm3;have qm4:=bq hb lm qm4;have lm:=bl hb lm;have hB:=bLt hB hb;clear hb
 go_wp2_with fail
 go_wp2_with fail
 refine wp_region_held_drew (S:=fun w'=>(w'.cell? ⟨w.heap.size,0,none⟩=some (.int .i64 5)∧w'.cell? ⟨w.heap.size,1,none⟩=some (.int .i64 2)∧w'.cell? ⟨w.heap.size,2,none⟩=some (.int .i64 1)∧w'.cell? ⟨w.heap.size,3,none⟩=some (.int .i64 0)∧w'.cell? ⟨w.heap.size,4,none⟩=some (.slice a 1 c))∧Below w2.heap.size w2 w') (by kernel_rfl) ⟨⟨((bRf w2.heap.size w2).drew.cell (p:=⟨w.heap.size,0,none⟩) lm).trans qm0,((bRf w2.heap.size w2).drew.cell (p:=⟨w.heap.size,1,none⟩) lm).trans qm1,((bRf w2.heap.size w2).drew.cell (p:=⟨w.heap.size,2,none⟩) lm).trans qm2,((bRf w2.heap.size w2).drew.cell (p:=⟨w.heap.size,3,none⟩) lm).trans qm3,((bRf w2.heap.size w2).drew.cell (p:=⟨w.heap.size,4,none⟩) lm).trans qm4⟩,(bRf _ _).drew⟩ (fun hHeld => ?_);refine takeL 0 (.pointer (some ⟨w.heap.size,0,none⟩)) rfl (by kernel_rfl) (by kernel_rfl) (by kernel_rfl) (fun _ _ _ h=>h) (Or.inl ⟨by rfl,?_⟩) (by assumption) ?_
 · intro ws hSw;obtain ⟨⟨s0,s1,s2,s3,s4⟩,sB⟩:=hSw;go_simp;try decide
 try simp only [Act.put,lsA,lsZ,lsS]
 refine takeL 1 (.int .i64 5) rfl (by kernel_rfl) (by kernel_rfl) (by kernel_rfl) (fun _ _ _ h=>h) (Or.inl ⟨by rfl,?_⟩) (by assumption) ?_
 · intro ws hSw;obtain ⟨⟨s0,s1,s2,s3,s4⟩,sB⟩:=hSw;go_simp;try decide
 try simp only [Act.put,lsA,lsZ,lsS]
 refine takeL 2 (.agg #[.int .i64 5,.int .i64 2,.int .i64 1,.int .i64 0,.slice a 1 c]) rfl (by kernel_rfl) (by kernel_rfl) (by kernel_rfl) (fun _ _ _ h=>h) (Or.inl ⟨by rfl,?_⟩) (by assumption) ?_
 · intro ws hSw;obtain ⟨⟨s0,s1,s2,s3,s4⟩,sB⟩:=hSw;go_simp;try decide
 try simp only [Act.put,lsA,lsZ,lsS]
 refine takeL 6 (.agg #[.int .i64 5,.int .i64 2,.int .i64 1,.int .i64 0,.slice a 1 c]) rfl (by kernel_rfl) (by kernel_rfl) (by kernel_rfl) (fun _ _ _ h=>h) (Or.inl ⟨by rfl,?_⟩) (by assumption) ?_
 · intro ws hSw;obtain ⟨⟨s0,s1,s2,s3,s4⟩,sB⟩:=hSw;go_simp;try decide
 try simp only [Act.put,lsA,lsZ,lsS]
 refine wpAnyH_ready (rs:=[3]) (by kernel_rfl) (by simp) ?_;refine consL rfl (fun K hK => ?_) AllReadyH.nil;go_simp;have hS:=hHeld
 with_reducible refine (full_known a c _).mono ?_
 rintro e w3 ⟨rfl,hbw3⟩;refine hK.out _ _ ⟨⟨((bLt hS.2 hbw3).cell (p:=⟨w.heap.size,0,none⟩) lm).trans qm0,((bLt hS.2 hbw3).cell (p:=⟨w.heap.size,1,none⟩) lm).trans qm1,((bLt hS.2 hbw3).cell (p:=⟨w.heap.size,2,none⟩) lm).trans qm2,((bLt hS.2 hbw3).cell (p:=⟨w.heap.size,3,none⟩) lm).trans qm3,((bLt hS.2 hbw3).cell (p:=⟨w.heap.size,4,none⟩) lm).trans qm4⟩,bLt hS.2 hbw3⟩ (fun hHeld => ?_);clear hK K hS;try simp only [Act.put,lsA,lsZ,lsS]
 refine takeL 4 (.int .i64 7) rfl (by kernel_rfl) (by kernel_rfl) (by kernel_rfl) (fun _ _ _ h=>h) (Or.inl ⟨by rfl,?_⟩) (by assumption) ?_
 · intro ws hSw;obtain ⟨⟨s0,s1,s2,s3,s4⟩,sB⟩:=hSw;go_simp;try decide
 try simp only [Act.put,lsA,lsZ,lsS]
 refine takeL 5 (.int .i64 6) rfl (by kernel_rfl) (by kernel_rfl) (by kernel_rfl) (fun _ _ _ h=>h) (Or.inl ⟨by rfl,?_⟩) (by assumption) ?_
 · intro ws hSw;obtain ⟨⟨s0,s1,s2,s3,s4⟩,sB⟩:=hSw;go_simp;try decide
 try simp only [Act.put,lsA,lsZ,lsS]
 refine wpAnyH_ready (rs:=[7]) (by kernel_rfl) (by simp) ?_;refine consL rfl (fun K hK => ?_) AllReadyH.nil;go_simp;have hS:=hHeld
 with_reducible refine (full_known a c _).mono ?_
 rintro e w4 ⟨rfl,hbw4⟩;refine hK.out _ _ ⟨⟨((bLt hS.2 hbw4).cell (p:=⟨w.heap.size,0,none⟩) lm).trans qm0,((bLt hS.2 hbw4).cell (p:=⟨w.heap.size,1,none⟩) lm).trans qm1,((bLt hS.2 hbw4).cell (p:=⟨w.heap.size,2,none⟩) lm).trans qm2,((bLt hS.2 hbw4).cell (p:=⟨w.heap.size,3,none⟩) lm).trans qm3,((bLt hS.2 hbw4).cell (p:=⟨w.heap.size,4,none⟩) lm).trans qm4⟩,bLt hS.2 hbw4⟩ (fun hHeld => ?_);clear hK K hS;try simp only [Act.put,lsA,lsZ,lsS]
 refine takeL 8 (.int .i64 3) rfl (by kernel_rfl) (by kernel_rfl) (by kernel_rfl) (fun _ _ _ h=>h) (Or.inl ⟨by rfl,?_⟩) (by assumption) ?_
 · intro ws hSw;obtain ⟨⟨s0,s1,s2,s3,s4⟩,sB⟩:=hSw;go_simp;try decide
 try simp only [Act.put,lsA,lsZ,lsS]
 refine takeL 9 (.int .i64 3) rfl (by kernel_rfl) (by kernel_rfl) (by kernel_rfl) (fun _ _ _ h=>h) (Or.inl ⟨by rfl,?_⟩) (by assumption) ?_
 · intro ws hSw;obtain ⟨⟨s0,s1,s2,s3,s4⟩,sB⟩:=hSw;go_simp;try decide
 try simp only [Act.put,lsA,lsZ,lsS]
 refine wpAnyH_done (by kernel_rfl) ?_ _;have hbR:=hHeld.2;have qm0:=bq hbR lm qm0;have qm1:=bq hbR lm qm1;have qm2:=bq hbR lm qm2;have qm3:=bq hbR lm qm3;have qm4:=bq hbR lm qm4;have lm:=bl hbR lm;have hB:=bLt hB hbR;clear hHeld hbR
 go_wp2
 go_ret
 exact ⟨rfl,hB⟩
theorem budget_known (a:Option Addr) (c:Nat) (eps F:Rat) (aT:Option Addr) (nT cT:Nat) (a1:Option Addr) (n1 c1:Nat) (a2:Option Addr) (n2 c2:Nat) (a3:Option Addr) (n3 c3:Nat) (a4:Option Addr) (n4 c4:Nat) (w:World) (m0:IntsAt w a 1 c [1]) (g0:IntsAt w aT nT cT [1]) (d1:NatAt w a1 n1 c1 (digs eps.num.natAbs)) (d2:NatAt w a2 n2 c2 (digs eps.den)) (d3:NatAt w a3 n3 c3 (digs F.num.natAbs)) (d4:NatAt w a4 n4 c4 (digs F.den)) (h1:rlen eps≤200) (h2:rlen F≤200) :
 Calls Tryz.prog 27 #[.agg #[.int .i64 1,.slice aT nT cT,.bool (neg eps.num),.slice a1 n1 c1,.slice a2 n2 c2,.int .i64 1,.bool (neg F.num),.slice a3 n3 c3,.slice a4 n4 c4],.agg #[.int .i64 5,.int .i64 2,.int .i64 1,.int .i64 0,.slice a 1 c]] w (RetVal w (.tuple #[.int .i64 3,.int .i64 0])):=by
 have HKP:=hiD (fun (w:World) (g:IntsAt w aT nT cT [1]) (d1:NatAt w a1 n1 c1 (digs eps.num.natAbs)) (d2:NatAt w a2 n2 c2 (digs eps.den)) (d3:NatAt w a3 n3 c3 (digs F.num.natAbs)) (d4:NatAt w a4 n4 c4 (digs F.den))=>(show Calls Tryz.prog 48 #[.agg #[.int .i64 1,.slice aT nT cT,.bool (neg eps.num),.slice a1 n1 c1,.slice a2 n2 c2,.int .i64 1,.bool (neg F.num),.slice a3 n3 c3,.slice a4 n4 c4]] w (RetVal w (.bool true)) from kept_yes 1 1 [1] eps F _ _ _ _ _ _ _ _ _ _ _ _ _ _ _ w g d1 d2 d3 d4 (by decide +kernel) (by decide) (by decide) h1 h2));have g:=g0;have m:=m0
 go_enter Tryz.func27,Tryz.ntmps27
 have hB:=bRf w.heap.size w
 go_wp2_with fail
 obtain ⟨w1,hW,hz0,hb,q,f⟩:=box1g w (w.heap.size) (by omega) #[.int .i64 1,.slice aT nT cT,.bool (neg eps.num),.slice a1 n1 c1,.slice a2 n2 c2,.int .i64 1,.bool (neg F.num),.slice a3 n3 c3,.slice a4 n4 c4] 34;rw [hW];clear hW;have g:=g.past hb;have m:=m.past hb;have d1:=d1.past hb;have d2:=d2.past hb;have d3:=d3.past hb;have d4:=d4.past hb;have hB:=bLt hB hb;clear hb;have lp:w.heap.size<w1.heap.size:=by omega
 have qp0:=q 0;have qp1:=q 1;have qp2:=q 2;have qp3:=q 3;have qp4:=q 4;have qp5:=q 5;have qp6:=q 6;have qp7:=q 7;have qp8:=q 8;simp only [lgA,lgZ,lgS] at qp0 qp1 qp2 qp3 qp4 qp5 qp6 qp7 qp8;clear q f;obtain ⟨w2,hW,hz1,hb,q,f⟩:=box1g w1 (w.heap.size+1) (by omega) #[.int .i64 5,.int .i64 2,.int .i64 1,.int .i64 0,.slice a 1 c] 59;rw [hW];clear hW;have g:=g.past hb;have m:=m.past hb;have d1:=d1.past hb;have d2:=d2.past hb;have d3:=d3.past hb;have d4:=d4.past hb;obtain ⟨qp0,qp1,qp2,qp3,qp4,qp5,qp6,qp7,qp8,lp⟩:=bq9 hb lp qp0 qp1 qp2 qp3 qp4 qp5 qp6 qp7 qp8;have hB:=bLt hB hb;clear hb;have lq:w.heap.size+1<w2.heap.size:=by omega
 have qq0:=q 0;have qq1:=q 1;have qq2:=q 2;have qq3:=q 3;have qq4:=q 4;simp only [lgA,lgZ,lgS] at qq0 qq1 qq2 qq3 qq4;clear q f;clear hz0;clear hz1
 with_reducible refine (HKP.out _ g d1 d2 d3 d4).mono ?_
 rintro e w3 ⟨rfl,hb⟩;have g:=g.past hb;have m:=m.past hb;obtain ⟨qp0,qp1,qp2,qp3,qp4,qp5,qp6,qp7,qp8,lp⟩:=bq9 hb lp qp0 qp1 qp2 qp3 qp4 qp5 qp6 qp7 qp8;have qq0:=bq hb lq qq0;have qq1:=bq hb lq qq1;have qq2:=bq hb lq qq2;have qq3:=bq hb lq qq3;have qq4:=bq hb lq qq4;have lq:=bl hb lq;have hB:=bLt hB hb;clear hb
 go_wp2_with fail
 with_reducible refine (mcheck_known _ _ _ m).mono ?_
 rintro e w4 ⟨rfl,hb⟩;have g:=g.past hb;have m:=m.past hb;obtain ⟨qp0,qp1,qp2,qp3,qp4,qp5,qp6,qp7,qp8,lp⟩:=bq9 hb lp qp0 qp1 qp2 qp3 qp4 qp5 qp6 qp7 qp8;have qq0:=bq hb lq qq0;have qq1:=bq hb lq qq1;have qq2:=bq hb lq qq2;have qq3:=bq hb lq qq3;have qq4:=bq hb lq qq4;have lq:=bl hb lq;have hB:=bLt hB hb;clear hb
 go_wp2_with fail
 with_reducible refine (same_yes m g).mono ?_
 rintro e w5 ⟨rfl,hb⟩;have m:=m.past hb;obtain ⟨qp0,qp1,qp2,qp3,qp4,qp5,qp6,qp7,qp8,lp⟩:=bq9 hb lp qp0 qp1 qp2 qp3 qp4 qp5 qp6 qp7 qp8;have qq0:=bq hb lq qq0;have qq1:=bq hb lq qq1;have qq2:=bq hb lq qq2;have qq3:=bq hb lq qq3;have qq4:=bq hb lq qq4;have lq:=bl hb lq;have hB:=bLt hB hb;clear hb
 go_wp2_with fail
 go_wp2_with fail
 refine wp_region_held_drew (S:=fun w'=>(w'.cell? ⟨w.heap.size,0,none⟩=some (.int .i64 1)∧w'.cell? ⟨w.heap.size,1,none⟩=some (.slice aT nT cT)∧w'.cell? ⟨w.heap.size,2,none⟩=some (.bool (neg eps.num))∧w'.cell? ⟨w.heap.size,3,none⟩=some (.slice a1 n1 c1)∧w'.cell? ⟨w.heap.size,4,none⟩=some (.slice a2 n2 c2)∧w'.cell? ⟨w.heap.size,5,none⟩=some (.int .i64 1)∧w'.cell? ⟨w.heap.size,6,none⟩=some (.bool (neg F.num))∧w'.cell? ⟨w.heap.size,7,none⟩=some (.slice a3 n3 c3)∧w'.cell? ⟨w.heap.size,8,none⟩=some (.slice a4 n4 c4)∧w'.cell? ⟨w.heap.size+1,0,none⟩=some (.int .i64 5)∧w'.cell? ⟨w.heap.size+1,1,none⟩=some (.int .i64 2)∧w'.cell? ⟨w.heap.size+1,2,none⟩=some (.int .i64 1)∧w'.cell? ⟨w.heap.size+1,3,none⟩=some (.int .i64 0)∧w'.cell? ⟨w.heap.size+1,4,none⟩=some (.slice a 1 c))∧Below w5.heap.size w5 w') (by kernel_rfl) ⟨⟨((bRf w5.heap.size w5).drew.cell (p:=⟨w.heap.size,0,none⟩) lp).trans qp0,((bRf w5.heap.size w5).drew.cell (p:=⟨w.heap.size,1,none⟩) lp).trans qp1,((bRf w5.heap.size w5).drew.cell (p:=⟨w.heap.size,2,none⟩) lp).trans qp2,((bRf w5.heap.size w5).drew.cell (p:=⟨w.heap.size,3,none⟩) lp).trans qp3,((bRf w5.heap.size w5).drew.cell (p:=⟨w.heap.size,4,none⟩) lp).trans qp4,((bRf w5.heap.size w5).drew.cell (p:=⟨w.heap.size,5,none⟩) lp).trans qp5,((bRf w5.heap.size w5).drew.cell (p:=⟨w.heap.size,6,none⟩) lp).trans qp6,((bRf w5.heap.size w5).drew.cell (p:=⟨w.heap.size,7,none⟩) lp).trans qp7,((bRf w5.heap.size w5).drew.cell (p:=⟨w.heap.size,8,none⟩) lp).trans qp8,((bRf w5.heap.size w5).drew.cell (p:=⟨w.heap.size+1,0,none⟩) lq).trans qq0,((bRf w5.heap.size w5).drew.cell (p:=⟨w.heap.size+1,1,none⟩) lq).trans qq1,((bRf w5.heap.size w5).drew.cell (p:=⟨w.heap.size+1,2,none⟩) lq).trans qq2,((bRf w5.heap.size w5).drew.cell (p:=⟨w.heap.size+1,3,none⟩) lq).trans qq3,((bRf w5.heap.size w5).drew.cell (p:=⟨w.heap.size+1,4,none⟩) lq).trans qq4⟩,(bRf _ _).drew⟩ (fun hHeld => ?_)
 refine takeL 0 (.agg #[.int .i64 5,.int .i64 2,.int .i64 1,.int .i64 0,.slice a 1 c]) rfl (by kernel_rfl) (by kernel_rfl) (by kernel_rfl) (fun _ _ _ h=>h) (Or.inl ⟨by rfl,?_⟩) (by assumption) ?_
 · intro ws hSw;obtain ⟨⟨s0,s1,s2,s3,s4,s5,s6,s7,s8,s9,s10,s11,s12,s13⟩,sB⟩:=hSw;go_simp;try decide
 try simp only [Act.put,lsA,lsZ,lsS]
 refine takeL 2 (.pointer (some ⟨w.heap.size,3+2,none⟩)) rfl (by kernel_rfl) (by kernel_rfl) (by kernel_rfl) (fun _ _ _ h=>h) (Or.inl ⟨by rfl,?_⟩) (by assumption) ?_
 · intro ws hSw;obtain ⟨⟨s0,s1,s2,s3,s4,s5,s6,s7,s8,s9,s10,s11,s12,s13⟩,sB⟩:=hSw;go_simp;try decide
 try simp only [Act.put,lsA,lsZ,lsS]
 refine takeL 3 (.int .i64 1) rfl (by kernel_rfl) (by kernel_rfl) (by kernel_rfl) (fun _ _ _ h=>h) (Or.inl ⟨by rfl,?_⟩) (by assumption) ?_
 · intro ws hSw;obtain ⟨⟨s0,s1,s2,s3,s4,s5,s6,s7,s8,s9,s10,s11,s12,s13⟩,sB⟩:=hSw;go_simp;try decide
 try simp only [Act.put,lsA,lsZ,lsS]
 refine wpAnyH_ready (rs:=[1]) (by kernel_rfl) (by simp) ?_;refine consL rfl (fun K hK => ?_) AllReadyH.nil;go_simp;have hS:=hHeld
 with_reducible refine (blocks_known a c _ (m.past hS.2)).mono ?_
 rintro e w6 ⟨rfl,hbw6⟩;refine hK.out _ _ ⟨⟨((bLt hS.2 hbw6).cell (p:=⟨w.heap.size,0,none⟩) lp).trans qp0,((bLt hS.2 hbw6).cell (p:=⟨w.heap.size,1,none⟩) lp).trans qp1,((bLt hS.2 hbw6).cell (p:=⟨w.heap.size,2,none⟩) lp).trans qp2,((bLt hS.2 hbw6).cell (p:=⟨w.heap.size,3,none⟩) lp).trans qp3,((bLt hS.2 hbw6).cell (p:=⟨w.heap.size,4,none⟩) lp).trans qp4,((bLt hS.2 hbw6).cell (p:=⟨w.heap.size,5,none⟩) lp).trans qp5,((bLt hS.2 hbw6).cell (p:=⟨w.heap.size,6,none⟩) lp).trans qp6,((bLt hS.2 hbw6).cell (p:=⟨w.heap.size,7,none⟩) lp).trans qp7,((bLt hS.2 hbw6).cell (p:=⟨w.heap.size,8,none⟩) lp).trans qp8,((bLt hS.2 hbw6).cell (p:=⟨w.heap.size+1,0,none⟩) lq).trans qq0,((bLt hS.2 hbw6).cell (p:=⟨w.heap.size+1,1,none⟩) lq).trans qq1,((bLt hS.2 hbw6).cell (p:=⟨w.heap.size+1,2,none⟩) lq).trans qq2,((bLt hS.2 hbw6).cell (p:=⟨w.heap.size+1,3,none⟩) lq).trans qq3,((bLt hS.2 hbw6).cell (p:=⟨w.heap.size+1,4,none⟩) lq).trans qq4⟩,bLt hS.2 hbw6⟩ (fun hHeld => ?_);clear hK K hS;try simp only [Act.put,lsA,lsZ,lsS]
 refine takeL 4 (.int .i64 3) rfl (by kernel_rfl) (by kernel_rfl) (by kernel_rfl) (fun _ _ _ h=>h) (Or.inl ⟨by rfl,?_⟩) (by assumption) ?_
 · intro ws hSw;obtain ⟨⟨s0,s1,s2,s3,s4,s5,s6,s7,s8,s9,s10,s11,s12,s13⟩,sB⟩:=hSw;go_simp;try decide
 try simp only [Act.put,lsA,lsZ,lsS]
 refine takeL 5 (.int .i64 3) rfl (by kernel_rfl) (by kernel_rfl) (by kernel_rfl) (fun _ _ _ h=>h) (Or.inl ⟨by rfl,?_⟩) (by assumption) ?_
 · intro ws hSw;obtain ⟨⟨s0,s1,s2,s3,s4,s5,s6,s7,s8,s9,s10,s11,s12,s13⟩,sB⟩:=hSw;go_simp;try decide
 try simp only [Act.put,lsA,lsZ,lsS]
 refine takeL 6 (.int .i64 0) rfl (by kernel_rfl) (by kernel_rfl) (by kernel_rfl) (fun _ _ _ h=>h) (Or.inl ⟨by rfl,?_⟩) (by assumption) ?_
 · intro ws hSw;obtain ⟨⟨s0,s1,s2,s3,s4,s5,s6,s7,s8,s9,s10,s11,s12,s13⟩,sB⟩:=hSw;go_simp;try decide
 try simp only [Act.put,lsA,lsZ,lsS]
 refine wpAnyH_done (by kernel_rfl) ?_ _;have hbR:=hHeld.2;have qp0:=bq hbR lp qp0;have qp1:=bq hbR lp qp1;have qp2:=bq hbR lp qp2;have qp3:=bq hbR lp qp3;have qp4:=bq hbR lp qp4;have qp5:=bq hbR lp qp5;have qp6:=bq hbR lp qp6;have qp7:=bq hbR lp qp7;have qp8:=bq hbR lp qp8;have lp:=bl hbR lp;have qq0:=bq hbR lq qq0;have qq1:=bq hbR lq qq1;have qq2:=bq hbR lq qq2;have qq3:=bq hbR lq qq3;have qq4:=bq hbR lq qq4;have lq:=bl hbR lq;have hB:=bLt hB hbR;clear hHeld hbR
 go_wp2
 refine bodyPost_ret (v:=.tuple #[.int .i64 3,.int .i64 0]) ?_ rfl ⟨rfl,hB⟩;simp [results,Tryz.f27,go_sem,]
end Go.Proofs.YtkhcblihbalnbaaGreat
