import Derived.Test.YtkhcblihbalnbaaGreatDoorStuck1Pb
set_option linter.unusedVariables false
set_option linter.unusedSimpArgs false
set_option maxHeartbeats 16000000
set_option maxRecDepth 100000
namespace Go.Proofs.YtkhcblihbalnbaaGreatDoor
section
open Go.RowKit
theorem holds_any (k N M:Nat) (zs:List Int) (eps F:Rat) (aT:Option Addr) (nT cT:Nat) (a1:Option Addr) (n1 c1:Nat) (a2:Option Addr) (n2 c2:Nat) (a3:Option Addr) (n3 c3:Nat) (a4:Option Addr) (n4 c4:Nat) (w:World) (g:IntsAt w aT nT cT zs) (d1:NatAt w a1 n1 c1 (digs eps.num.natAbs)) (d2:NatAt w a2 n2 c2 (digs eps.den)) (d3:NatAt w a3 n3 c3 (digs F.num.natAbs)) (d4:NatAt w a4 n4 c4 (digs F.den))
 (hok:okT zs (k:Int)) (hk1:1≤k) (hk:k≤2) (hN:N≤3) (h0:0<eps) (h1:eps<1) (he:rlen eps≤1048576) (hlow:∀ i,i<N→eps<failR zs k i) (hup:failR zs k N≤eps) (hF:∀ i,i≤N→rlen (failR zs k i)≤1048576) (eF:failR zs k N=F) :
 Calls Tryz.prog 28 #[.agg #[.int .i64 (k:Int),.slice aT nT cT,.bool (neg eps.num),.slice a1 n1 c1,.slice a2 n2 c2,.int .i64 (M:Int),.bool (neg F.num),.slice a3 n3 c3,.slice a4 n4 c4]] w (RetVal w (.bool (decide (M=N)))):=by
 have HMK:=hiD (fun (w:World) (g:IntsAt w aT nT cT zs) (d1:NatAt w a1 n1 c1 (digs eps.num.natAbs)) (d2:NatAt w a2 n2 c2 (digs eps.den))=>make27_any _ _ _ zs k N eps F _ _ _ _ _ _ w g d1 d2 hok hk1 hk hN h0 h1 he hlow hup hF eF);have LF:=hiD (show rlen F≤1048576 by rw [← eF];exact hF N (nRf _));clear hok hk1 hk hN h0 h1 he hlow hup hF eF;obtain ⟨S,hS⟩:∃ S,textQ F=S:=⟨_,rfl⟩;have HS:=hiD hS;clear hS
 by_cases hMN:M=N
 · subst hMN;have t0:((M:Int) != (M:Int))=false:=by simp
   rw [decide_eq_true rfl]
   go_enter Tryz.func28,Tryz.ntmps28
   have hB:=bRf w.heap.size w
   go_wp2_with fail
   obtain ⟨w1,hW,hz0,hb,q,f,qp0,qp1,qp2,qp3,qp4,qp5,qp6,qp7,qp8⟩:=bx9 w (w.heap.size) (by omega) (.int .i64 (k:Int)) (.slice aT nT cT) (.bool (neg eps.num)) (.slice a1 n1 c1) (.slice a2 n2 c2) (.int .i64 (M:Int)) (.bool (neg F.num)) (.slice a3 n3 c3) (.slice a4 n4 c4) 30;rw [hW];clear hW;have g:=g.past hb;have d1:=d1.past hb;have d2:=d2.past hb;have d3:=d3.past hb;have d4:=d4.past hb;have hB:=bLt hB hb;clear hb;have lp:w.heap.size<w1.heap.size:=by omega
   clear q f;clear hz0
   with_reducible refine (HMK.out _ g d1 d2).mono ?_
   rintro e w2 ⟨bT,mT,eT,b1,m1,e1,b2,m2,e2,b3,m3,e3,b4,m4,e4,rfl,gT,f1,f2,f3,f4,hb⟩;have g:=g.past hb;have d1:=d1.past hb;have d2:=d2.past hb;have d3:=d3.past hb;have d4:=d4.past hb;obtain ⟨qp0,qp1,qp2,qp3,qp4,qp5,qp6,qp7,qp8,lp⟩:=bq9 hb lp qp0 qp1 qp2 qp3 qp4 qp5 qp6 qp7 qp8;have hB:=bLt hB hb;clear hb
   go_wp2_with fail
   obtain ⟨w3,hW,hz0,hb,q,f,qq0,qq1,qq2,qq3,qq4,qq5,qq6,qq7,qq8⟩:=bx9 w2 (w2.heap.size) (by omega) (.int .i64 (k:Int)) (.slice bT mT eT) (.bool (neg eps.num)) (.slice b1 m1 e1) (.slice b2 m2 e2) (.int .i64 (M:Int)) (.bool (neg F.num)) (.slice b3 m3 e3) (.slice b4 m4 e4) 30;rw [hW];clear hW;have g:=g.past hb;have d3:=d3.past hb;have d4:=d4.past hb;have gT:=gT.past hb;have f3:=f3.past hb;have f4:=f4.past hb;obtain ⟨qp0,qp1,qp2,qp3,qp4,qp5,qp6,qp7,qp8,lp⟩:=bq9 hb lp qp0 qp1 qp2 qp3 qp4 qp5 qp6 qp7 qp8;have hB:=bLt hB hb;clear hb;have lq:w2.heap.size<w3.heap.size:=by omega
   clear q f;clear hz0
   with_reducible refine (same_yes gT g).mono ?_
   rintro e w4 ⟨rfl,hb⟩;have g:=g.past hb;have d3:=d3.past hb;have d4:=d4.past hb;have gT:=gT.past hb;have f3:=f3.past hb;have f4:=f4.past hb;obtain ⟨qp0,qp1,qp2,qp3,qp4,qp5,qp6,qp7,qp8,lp⟩:=bq9 hb lp qp0 qp1 qp2 qp3 qp4 qp5 qp6 qp7 qp8;obtain ⟨qq0,qq1,qq2,qq3,qq4,qq5,qq6,qq7,qq8,lq⟩:=bq9 hb lq qq0 qq1 qq2 qq3 qq4 qq5 qq6 qq7 qq8;have hB:=bLt hB hb;clear hb
   go_wp2_with fail
   with_reducible refine (text_q F _ _ _ _ _ _ _ d3 d4 LF.out).mono ?_
   rintro e w5 ⟨rfl,hb⟩;have f3:=f3.past hb;have f4:=f4.past hb;obtain ⟨qp0,qp1,qp2,qp3,qp4,qp5,qp6,qp7,qp8,lp⟩:=bq9 hb lp qp0 qp1 qp2 qp3 qp4 qp5 qp6 qp7 qp8;obtain ⟨qq0,qq1,qq2,qq3,qq4,qq5,qq6,qq7,qq8,lq⟩:=bq9 hb lq qq0 qq1 qq2 qq3 qq4 qq5 qq6 qq7 qq8;have hB:=bLt hB hb;clear hb;rw [HS.out]
   go_wp2_with fail
   with_reducible refine (text_q F _ _ _ _ _ _ _ f3 f4 LF.out).mono ?_
   rintro e w6 ⟨rfl,hb⟩;have f3:=f3.past hb;have f4:=f4.past hb;obtain ⟨qp0,qp1,qp2,qp3,qp4,qp5,qp6,qp7,qp8,lp⟩:=bq9 hb lp qp0 qp1 qp2 qp3 qp4 qp5 qp6 qp7 qp8;obtain ⟨qq0,qq1,qq2,qq3,qq4,qq5,qq6,qq7,qq8,lq⟩:=bq9 hb lq qq0 qq1 qq2 qq3 qq4 qq5 qq6 qq7 qq8;have hB:=bLt hB hb;clear hb;rw [HS.out]
   go_wp2
   go_ret
   exact ⟨rfl,hB⟩
 have t0:((N:Int) != (M:Int))=true:=by rw [bne_iff_ne];omega
 rw [decide_eq_false hMN];clear hMN
 go_enter Tryz.func28,Tryz.ntmps28
 have hB:=bRf w.heap.size w
 go_wp2_with fail
 obtain ⟨w1,hW,hz0,hb,q,f,qp0,qp1,qp2,qp3,qp4,qp5,qp6,qp7,qp8⟩:=bx9 w (w.heap.size) (by omega) (.int .i64 (k:Int)) (.slice aT nT cT) (.bool (neg eps.num)) (.slice a1 n1 c1) (.slice a2 n2 c2) (.int .i64 (M:Int)) (.bool (neg F.num)) (.slice a3 n3 c3) (.slice a4 n4 c4) 30;rw [hW];clear hW;have g:=g.past hb;have d1:=d1.past hb;have d2:=d2.past hb;have hB:=bLt hB hb;clear hb;have lp:w.heap.size<w1.heap.size:=by omega
 clear q f;clear hz0
 with_reducible refine (HMK.out _ g d1 d2).mono ?_
 rintro e w2 ⟨bT,mT,eT,b1,m1,e1,b2,m2,e2,b3,m3,e3,b4,m4,e4,rfl,gT,f1,f2,f3,f4,hb⟩;obtain ⟨qp0,qp1,qp2,qp3,qp4,qp5,qp6,qp7,qp8,lp⟩:=bq9 hb lp qp0 qp1 qp2 qp3 qp4 qp5 qp6 qp7 qp8;have hB:=bLt hB hb;clear hb
 go_wp2
 obtain ⟨w3,hW,hz0,hb,q,f,qq0,qq1,qq2,qq3,qq4,qq5,qq6,qq7,qq8⟩:=bx9 w2 (w2.heap.size) (by omega) (.int .i64 (k:Int)) (.slice bT mT eT) (.bool (neg eps.num)) (.slice b1 m1 e1) (.slice b2 m2 e2) (.int .i64 (N:Int)) (.bool (neg F.num)) (.slice b3 m3 e3) (.slice b4 m4 e4) 30;rw [hW];clear hW;obtain ⟨qp0,qp1,qp2,qp3,qp4,qp5,qp6,qp7,qp8,lp⟩:=bq9 hb lp qp0 qp1 qp2 qp3 qp4 qp5 qp6 qp7 qp8;have hB:=bLt hB hb;clear hb;have lq:w2.heap.size<w3.heap.size:=by omega
 clear q f;clear hz0
 go_ret
 exact ⟨rfl,hB⟩
end
section
open Go.RowKit
theorem tab27:okT [1,1] ((2:Nat):Int):=by decide +kernel
theorem low27:∀ i,i<2→mkRat 1 2<failR [1,1] 2 i:=by
 intro i hi;rcases (by omega:i=0∨i=1) with rfl | rfl
 · rw [fail_two.1];decide +kernel
 rw [fail_two.2.1];decide +kernel
theorem up27:failR [1,1] 2 2≤mkRat 1 2:=by rw [fail_two.2.2];decide +kernel
theorem len27:∀ i,i≤2→rlen (failR [1,1] 2 i)≤1048576:=by
 intro i hi;rcases (by omega:i=0∨i=1∨i=2) with rfl | rfl | rfl
 · rw [fail_two.1];decide +kernel
 · rw [fail_two.2.1];decide +kernel
 rw [fail_two.2.2];decide +kernel
theorem awake27 (w:World):Calls Tryz.prog 5 #[] w (RetVal w (.bool true)):=by
 obtain ⟨E,hE⟩:∃ E,mkRat 1 2=E:=⟨_,rfl⟩;obtain ⟨F,hF⟩:∃ F,mkRat 3 8=F:=⟨_,rfl⟩;have HE:=hiD hE;have HF:=hiD hF;have h0:0<E:=by rw [← hE];decide +kernel
 have h1:E<1:=by rw [← hE];decide +kernel
 have he:rlen E≤1048576:=by rw [← hE];decide +kernel
 have hlow:∀ i,i<2→E<failR [1,1] 2 i:=by rw [← hE];exact low27
 have hup:failR [1,1] 2 2≤E:=by rw [← hE];exact up27
 have eF:failR [1,1] 2 2=F:=by rw [← hF];exact fail_two.2.2
 have HMK:=hiD (fun (w:World) (a:Option Addr) (l c:Nat) (a1:Option Addr) (n1 c1:Nat) (a2:Option Addr) (n2 c2:Nat) (g:IntsAt w a l c [1,1]) (d1:NatAt w a1 n1 c1 (digs E.num.natAbs)) (d2:NatAt w a2 n2 c2 (digs E.den))=>make27_any a l c [1,1] 2 2 E F a1 n1 c1 a2 n2 c2 w g d1 d2 tab27 (by decide) (by decide) (by decide) h0 h1 he hlow hup len27 eF);have HHD:=hiD (fun (aT:Option Addr) (nT cT:Nat) (a1:Option Addr) (n1 c1:Nat) (a2:Option Addr) (n2 c2:Nat) (a3:Option Addr) (n3 c3:Nat) (a4:Option Addr) (n4 c4:Nat) (w:World) (g:IntsAt w aT nT cT [1,1]) (d1:NatAt w a1 n1 c1 (digs E.num.natAbs)) (d2:NatAt w a2 n2 c2 (digs E.den)) (d3:NatAt w a3 n3 c3 (digs F.num.natAbs)) (d4:NatAt w a4 n4 c4 (digs F.den))=>holds_any 2 2 2 [1,1] E F aT nT cT a1 n1 c1 a2 n2 c2 a3 n3 c3 a4 n4 c4 w g d1 d2 d3 d4 tab27 (by decide) (by decide) (by decide) h0 h1 he hlow hup len27 eF);clear hE hF h0 h1 he hlow hup eF
 go_enter Tryz.func5,Tryz.ntmps5
 have hB:=bRf w.heap.size w
 go_wp2_with fail
 have h0z:=litI (E:=3) w #[.int .i64 1,.int .i64 1] [1,1] 2 rfl rfl (by decide) (by decide);obtain ⟨w1,hW⟩:∃ W,w.alloc (.cells #[.int .i64 1,.int .i64 1] 3)=W:=⟨_,rfl⟩;have hb:Below w.heap.size w w1:=by rw [← hW];exact (bRf _ _).alloc (nRf _) _
 rw [hW] at h0z ⊢;clear hW;have hB:=bLt hB hb;clear hb;have z:=h0z;clear h0z
 go_wp2_with fail
 refine (part27 HE.out _ (by decide) (by decide) (by decide)).mono ?_;rintro e w2 ⟨ahEU,nhEU,chEU,ahED,nhED,chED,rfl,hEU,hED,hb⟩;have z:=z.past hb;have hB:=bLt hB hb;clear hb
 go_wp2_with fail
 refine (HMK.out _ _ _ _ _ _ _ _ _ _ z hEU.toNatAt hED.toNatAt).mono ?_;rintro e w3 ⟨bT,mT,eT,b1,m1,e1,b2,m2,e2,b3,m3,e3,b4,m4,e4,rfl,gT,f1,f2,f3,f4,hb⟩;have hB:=bLt hB hb;clear hb
 go_wp2_with fail
 obtain ⟨w4,hW,hz0,hb,q,f,qq0,qq1,qq2,qq3,qq4,qq5,qq6,qq7,qq8⟩:=bx9 w3 (w3.heap.size) (by omega) (.int .i64 2) (.slice bT mT eT) (.bool (neg E.num)) (.slice b1 m1 e1) (.slice b2 m2 e2) (.int .i64 2) (.bool (neg F.num)) (.slice b3 m3 e3) (.slice b4 m4 e4) 30;rw [hW];clear hW;have gT:=gT.past hb;have f1:=f1.past hb;have f2:=f2.past hb;have f3:=f3.past hb;have f4:=f4.past hb;have hB:=bLt hB hb;clear hb;have lq:w3.heap.size<w4.heap.size:=by omega
 clear q f;clear hz0;refine (is27 HF.out (by decide) (by decide) (by decide) f3 f4).mono ?_;rintro e w5 ⟨rfl,hb⟩;have gT:=gT.past hb;have f1:=f1.past hb;have f2:=f2.past hb;have f3:=f3.past hb;have f4:=f4.past hb;obtain ⟨qq0,qq1,qq2,qq3,qq4,qq5,qq6,qq7,qq8,lq⟩:=bq9 hb lq qq0 qq1 qq2 qq3 qq4 qq5 qq6 qq7 qq8;have hB:=bLt hB hb;clear hb
 go_wp2_with fail
 have h0y:=litI (E:=3) w5 #[.int .i64 1,.int .i64 1] [1,1] 2 rfl rfl (by decide) (by decide);obtain ⟨w6,hW⟩:∃ W,w5.alloc (.cells #[.int .i64 1,.int .i64 1] 3)=W:=⟨_,rfl⟩;have hb:Below w5.heap.size w5 w6:=by rw [← hW];exact (bRf _ _).alloc (nRf _) _
 rw [hW] at h0y ⊢;clear hW;have gT:=gT.past hb;have f1:=f1.past hb;have f2:=f2.past hb;have f3:=f3.past hb;have f4:=f4.past hb;obtain ⟨qq0,qq1,qq2,qq3,qq4,qq5,qq6,qq7,qq8,lq⟩:=bq9 hb lq qq0 qq1 qq2 qq3 qq4 qq5 qq6 qq7 qq8;have hB:=bLt hB hb;clear hb;have y:=h0y;clear h0y
 go_wp2_with fail
 with_reducible refine (sameInts_yes gT y).mono ?_
 rintro e w7 ⟨rfl,hb⟩;have gT:=gT.past hb;have f1:=f1.past hb;have f2:=f2.past hb;have f3:=f3.past hb;have f4:=f4.past hb;obtain ⟨qq0,qq1,qq2,qq3,qq4,qq5,qq6,qq7,qq8,lq⟩:=bq9 hb lq qq0 qq1 qq2 qq3 qq4 qq5 qq6 qq7 qq8;have hB:=bLt hB hb;clear hb
 go_wp2_with fail
 refine (HHD.out _ _ _ _ _ _ _ _ _ _ _ _ _ _ _ _ gT f1 f2 f3 f4).mono ?_;rintro e w8 ⟨rfl,hb⟩;obtain ⟨qq0,qq1,qq2,qq3,qq4,qq5,qq6,qq7,qq8,lq⟩:=bq9 hb lq qq0 qq1 qq2 qq3 qq4 qq5 qq6 qq7 qq8;have hB:=bLt hB hb;clear hb
 go_wp2
 go_ret
 exact ⟨rfl,hB⟩
end
end Go.Proofs.YtkhcblihbalnbaaGreatDoor
