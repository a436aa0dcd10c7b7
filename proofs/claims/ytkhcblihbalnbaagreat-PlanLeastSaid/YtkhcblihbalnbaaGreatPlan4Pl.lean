import Derived.Test.YtkhcblihbalnbaaGreatS0Pl
import Derived.Test.YtkhcblihbalnbaaGreatCurve2Pl
import Derived.Test.YtkhcblihbalnbaaGreatPlan3Pl
import Derived.Test.YtkhcblihbalnbaaGreatRegPl
import Derived.Test.YtkhcblihbalnbaaGreatLimbs1Pl
import Derived.Test.YtkhcblihbalnbaaGreatChance2Pl
set_option linter.unusedVariables false
set_option linter.unusedSimpArgs false
set_option maxHeartbeats 16000000
set_option maxRecDepth 100000
namespace Go.Proofs.YtkhcblihbalnbaaGreat
section
open Go.RowKit
theorem holds_any (k N M:Nat) (zs:List Int) (eps F:Rat) (aT:Option Addr) (nT cT:Nat) (a1:Option Addr) (n1 c1:Nat) (a2:Option Addr) (n2 c2:Nat) (a3:Option Addr) (n3 c3:Nat) (a4:Option Addr) (n4 c4:Nat) (w:World) (g:IntsAt w aT nT cT zs) (d1:NatAt w a1 n1 c1 (digs eps.num.natAbs)) (d2:NatAt w a2 n2 c2 (digs eps.den)) (d3:NatAt w a3 n3 c3 (digs F.num.natAbs)) (d4:NatAt w a4 n4 c4 (digs F.den))
 (hok:okT zs (k:Int)) (hk1:1≤k) (hk:k≤2) (hN:N≤3) (h0:0<eps) (h1:eps<1) (he:rlen eps≤1048576) (hlow:∀ i,i<N→eps<failR zs k i) (hup:failR zs k N≤eps) (hF:∀ i,i≤N→rlen (failR zs k i)≤1048576) (eF:failR zs k N=F) :
 Calls Tryz.prog 17 #[.agg #[.int .i64 (k:Int),.slice aT nT cT,.bool (neg eps.num),.slice a1 n1 c1,.slice a2 n2 c2,.int .i64 (M:Int),.bool (neg F.num),.slice a3 n3 c3,.slice a4 n4 c4]] w (RetVal w (.bool (decide (M=N)))):=by
 have HMK:=hiD (fun (w:World) (g:IntsAt w aT nT cT zs) (d1:NatAt w a1 n1 c1 (digs eps.num.natAbs)) (d2:NatAt w a2 n2 c2 (digs eps.den))=>make27_any _ _ _ zs k N eps F _ _ _ _ _ _ w g d1 d2 hok hk1 hk hN h0 h1 he hlow hup hF eF);have LF:=hiD (show rlen F≤1048576 by rw [← eF];exact hF N (nRf _));clear hok hk1 hk hN h0 h1 he hlow hup hF eF;obtain ⟨S,hS⟩:∃ S,textQ F=S:=⟨_,rfl⟩;have HS:=hiD hS;clear hS
 by_cases hMN:M=N
 · subst hMN;have t0:((M:Int) != (M:Int))=false:=by simp
   rw [decide_eq_true rfl]
   go_enter Tryz.func17,Tryz.ntmps17
   have hB:=bRf w.heap.size w
   go_wp2_with fail
   obtain ⟨w1,hW,hz0,hb,q,f⟩:=box1g w (w.heap.size) (by omega) #[.int .i64 (k:Int),.slice aT nT cT,.bool (neg eps.num),.slice a1 n1 c1,.slice a2 n2 c2,.int .i64 (M:Int),.bool (neg F.num),.slice a3 n3 c3,.slice a4 n4 c4] 34;rw [hW];clear hW;have g:=g.past hb;have d1:=d1.past hb;have d2:=d2.past hb;have d3:=d3.past hb;have d4:=d4.past hb;have hB:=bLt hB hb;clear hb;have lp:w.heap.size<w1.heap.size:=by omega
   have qp0:=q 0;have qp1:=q 1;have qp2:=q 2;have qp3:=q 3;have qp4:=q 4;have qp5:=q 5;have qp6:=q 6;have qp7:=q 7;have qp8:=q 8;simp only [lgA,lgZ,lgS] at qp0 qp1 qp2 qp3 qp4 qp5 qp6 qp7 qp8;clear q f;clear hz0
   with_reducible refine (HMK.out _ g d1 d2).mono ?_
   rintro e w2 ⟨bT,mT,eT,b1,m1,e1,b2,m2,e2,b3,m3,e3,b4,m4,e4,rfl,gT,f1,f2,f3,f4,hb⟩;have g:=g.past hb;have d1:=d1.past hb;have d2:=d2.past hb;have d3:=d3.past hb;have d4:=d4.past hb;obtain ⟨qp0,qp1,qp2,qp3,qp4,qp5,qp6,qp7,qp8,lp⟩:=bq9 hb lp qp0 qp1 qp2 qp3 qp4 qp5 qp6 qp7 qp8;have hB:=bLt hB hb;clear hb
   go_wp2_with fail
   obtain ⟨w3,hW,hz0,hb,q,f⟩:=box1g w2 (w2.heap.size) (by omega) #[.int .i64 (k:Int),.slice bT mT eT,.bool (neg eps.num),.slice b1 m1 e1,.slice b2 m2 e2,.int .i64 (M:Int),.bool (neg F.num),.slice b3 m3 e3,.slice b4 m4 e4] 34;rw [hW];clear hW;have g:=g.past hb;have d3:=d3.past hb;have d4:=d4.past hb;have gT:=gT.past hb;have f3:=f3.past hb;have f4:=f4.past hb;obtain ⟨qp0,qp1,qp2,qp3,qp4,qp5,qp6,qp7,qp8,lp⟩:=bq9 hb lp qp0 qp1 qp2 qp3 qp4 qp5 qp6 qp7 qp8;have hB:=bLt hB hb;clear hb;have lq:w2.heap.size<w3.heap.size:=by omega
   have qq0:=q 0;have qq1:=q 1;have qq2:=q 2;have qq3:=q 3;have qq4:=q 4;have qq5:=q 5;have qq6:=q 6;have qq7:=q 7;have qq8:=q 8;simp only [lgA,lgZ,lgS] at qq0 qq1 qq2 qq3 qq4 qq5 qq6 qq7 qq8;clear q f;clear hz0
   with_reducible refine (same_yes gT g).mono ?_
   rintro e w4 ⟨rfl,hb⟩;have g:=g.past hb;have d3:=d3.past hb;have d4:=d4.past hb;have gT:=gT.past hb;have f3:=f3.past hb;have f4:=f4.past hb;obtain ⟨qp0,qp1,qp2,qp3,qp4,qp5,qp6,qp7,qp8,lp⟩:=bq9 hb lp qp0 qp1 qp2 qp3 qp4 qp5 qp6 qp7 qp8;obtain ⟨qq0,qq1,qq2,qq3,qq4,qq5,qq6,qq7,qq8,lq⟩:=bq9 hb lq qq0 qq1 qq2 qq3 qq4 qq5 qq6 qq7 qq8;have hB:=bLt hB hb;clear hb
   go_wp2_with fail
   with_reducible refine (text_q F _ _ _ _ _ _ _ d3 d4 LF.out).mono ?_
   rintro e w5 ⟨rfl,hb⟩;have f3:=f3.past hb;have f4:=f4.past hb;obtain ⟨qp0,qp1,qp2,qp3,qp4,qp5,qp6,qp7,qp8,lp⟩:=bq9 hb lp qp0 qp1 qp2 qp3 qp4 qp5 qp6 qp7 qp8;obtain ⟨qq0,qq1,qq2,qq3,qq4,qq5,qq6,qq7,qq8,lq⟩:=bq9 hb lq qq0 qq1 qq2 qq3 qq4 qq5 qq6 qq7 qq8;have hB:=bLt hB hb;clear hb;rw [HS.out]
   go_wp2_with fail
   with_reducible refine (text_q F _ _ _ _ _ _ _ f3 f4 LF.out).mono ?_
   rintro e w6 ⟨rfl,hb⟩;have f3:=f3.past hb;have f4:=f4.past hb;obtain ⟨qp0,qp1,qp2,qp3,qp4,qp5,qp6,qp7,qp8,lp⟩:=bq9 hb lp qp0 qp1 qp2 qp3 qp4 qp5 qp6 qp7 qp8;obtain ⟨qq0,qq1,qq2,qq3,qq4,qq5,qq6,qq7,qq8,lq⟩:=bq9 hb lq qq0 qq1 qq2 qq3 qq4 qq5 qq6 qq7 qq8;have hB:=bLt hB hb;clear hb;rw [HS.out]
   go_wp2
   go_ret
   exact ⟨rfl,hB⟩
 have t0:((N:Int) != (M:Int))=true:=by rw [bne_iff_ne];omega
 rw [decide_eq_false hMN];clear hMN
 go_enter Tryz.func17,Tryz.ntmps17
 have hB:=bRf w.heap.size w
 go_wp2_with fail
 obtain ⟨w1,hW,hz0,hb,q,f⟩:=box1g w (w.heap.size) (by omega) #[.int .i64 (k:Int),.slice aT nT cT,.bool (neg eps.num),.slice a1 n1 c1,.slice a2 n2 c2,.int .i64 (M:Int),.bool (neg F.num),.slice a3 n3 c3,.slice a4 n4 c4] 34;rw [hW];clear hW;have g:=g.past hb;have d1:=d1.past hb;have d2:=d2.past hb;have hB:=bLt hB hb;clear hb;have lp:w.heap.size<w1.heap.size:=by omega
 have qp0:=q 0;have qp1:=q 1;have qp2:=q 2;have qp3:=q 3;have qp4:=q 4;have qp5:=q 5;have qp6:=q 6;have qp7:=q 7;have qp8:=q 8;simp only [lgA,lgZ,lgS] at qp0 qp1 qp2 qp3 qp4 qp5 qp6 qp7 qp8;clear q f;clear hz0
 with_reducible refine (HMK.out _ g d1 d2).mono ?_
 rintro e w2 ⟨bT,mT,eT,b1,m1,e1,b2,m2,e2,b3,m3,e3,b4,m4,e4,rfl,gT,f1,f2,f3,f4,hb⟩;obtain ⟨qp0,qp1,qp2,qp3,qp4,qp5,qp6,qp7,qp8,lp⟩:=bq9 hb lp qp0 qp1 qp2 qp3 qp4 qp5 qp6 qp7 qp8;have hB:=bLt hB hb;clear hb
 go_wp2
 obtain ⟨w3,hW,hz0,hb,q,f⟩:=box1g w2 (w2.heap.size) (by omega) #[.int .i64 (k:Int),.slice bT mT eT,.bool (neg eps.num),.slice b1 m1 e1,.slice b2 m2 e2,.int .i64 (N:Int),.bool (neg F.num),.slice b3 m3 e3,.slice b4 m4 e4] 34;rw [hW];clear hW;obtain ⟨qp0,qp1,qp2,qp3,qp4,qp5,qp6,qp7,qp8,lp⟩:=bq9 hb lp qp0 qp1 qp2 qp3 qp4 qp5 qp6 qp7 qp8;have hB:=bLt hB hb;clear hb;have lq:w2.heap.size<w3.heap.size:=by omega
 have qq0:=q 0;have qq1:=q 1;have qq2:=q 2;have qq3:=q 3;have qq4:=q 4;have qq5:=q 5;have qq6:=q 6;have qq7:=q 7;have qq8:=q 8;simp only [lgA,lgZ,lgS] at qq0 qq1 qq2 qq3 qq4 qq5 qq6 qq7 qq8;clear q f;clear hz0
 go_ret
 exact ⟨rfl,hB⟩
end
section
open Go.RowKit
theorem tab27:okT [1,1] ((2:Nat):Int):=by decide +kernel
theorem low27:∀ i,i<2→mkRat 1 2<failR [1,1] 2 i:=by
 intro i hi;rcases (by omega:i=0∨i=1) with rfl | rfl
 · rw [fail_two.1];decide +kernel
 rw [fail_two.2.1];decide +kernel
theorem up27:failR [1,1] 2 2≤mkRat 1 2:=by rw [fail_two.2.2];decide +kernel
theorem len27:∀ i,i≤2→rlen (failR [1,1] 2 i)≤1048576:=by
 intro i hi;rcases (by omega:i=0∨i=1∨i=2) with rfl | rfl | rfl
 · rw [fail_two.1];decide +kernel
 · rw [fail_two.2.1];decide +kernel
 rw [fail_two.2.2];decide +kernel
theorem awake27 (w:World):Calls Tryz.prog 8 #[] w (RetVal w (.bool true)):=by
 obtain ⟨E,hE⟩:∃ E,mkRat 1 2=E:=⟨_,rfl⟩;obtain ⟨F,hF⟩:∃ F,mkRat 3 8=F:=⟨_,rfl⟩;have HE:=hiD hE;have HF:=hiD hF;have h0:0<E:=by rw [← hE];decide +kernel
 have h1:E<1:=by rw [← hE];decide +kernel
 have he:rlen E≤1048576:=by rw [← hE];decide +kernel
 have hlow:∀ i,i<2→E<failR [1,1] 2 i:=by rw [← hE];exact low27
 have hup:failR [1,1] 2 2≤E:=by rw [← hE];exact up27
 have eF:failR [1,1] 2 2=F:=by rw [← hF];exact fail_two.2.2
 have HMK:=hiD (fun (w:World) (a:Option Addr) (l c:Nat) (a1:Option Addr) (n1 c1:Nat) (a2:Option Addr) (n2 c2:Nat) (g:IntsAt w a l c [1,1]) (d1:NatAt w a1 n1 c1 (digs E.num.natAbs)) (d2:NatAt w a2 n2 c2 (digs E.den))=>make27_any a l c [1,1] 2 2 E F a1 n1 c1 a2 n2 c2 w g d1 d2 tab27 (by decide) (by decide) (by decide) h0 h1 he hlow hup len27 eF);have HHD:=hiD (fun (aT:Option Addr) (nT cT:Nat) (a1:Option Addr) (n1 c1:Nat) (a2:Option Addr) (n2 c2:Nat) (a3:Option Addr) (n3 c3:Nat) (a4:Option Addr) (n4 c4:Nat) (w:World) (g:IntsAt w aT nT cT [1,1]) (d1:NatAt w a1 n1 c1 (digs E.num.natAbs)) (d2:NatAt w a2 n2 c2 (digs E.den)) (d3:NatAt w a3 n3 c3 (digs F.num.natAbs)) (d4:NatAt w a4 n4 c4 (digs F.den))=>holds_any 2 2 2 [1,1] E F aT nT cT a1 n1 c1 a2 n2 c2 a3 n3 c3 a4 n4 c4 w g d1 d2 d3 d4 tab27 (by decide) (by decide) (by decide) h0 h1 he hlow hup len27 eF);clear hE hF h0 h1 he hlow hup eF
 go_enter Tryz.func8,Tryz.ntmps8
 have hB:=bRf w.heap.size w
 go_wp2_with fail
 have h0z:=litI (E:=3) w #[.int .i64 1,.int .i64 1] [1,1] 2 rfl rfl (by decide) (by decide);obtain ⟨w1,hW⟩:∃ W,w.alloc (.cells #[.int .i64 1,.int .i64 1] 3)=W:=⟨_,rfl⟩;have hb:Below w.heap.size w w1:=by rw [← hW];exact (bRf _ _).alloc (nRf _) _
 rw [hW] at h0z ⊢;clear hW;have hB:=bLt hB hb;clear hb;have z:=h0z;clear h0z
 go_wp2_with fail
 refine (part27 HE.out _ (by decide) (by decide) (by decide)).mono ?_;rintro e w2 ⟨ahEU,nhEU,chEU,ahED,nhED,chED,rfl,hEU,hED,hb⟩;have z:=z.past hb;have hB:=bLt hB hb;clear hb
 go_wp2_with fail
 refine (HMK.out _ _ _ _ _ _ _ _ _ _ z hEU.toNatAt hED.toNatAt).mono ?_;rintro e w3 ⟨bT,mT,eT,b1,m1,e1,b2,m2,e2,b3,m3,e3,b4,m4,e4,rfl,gT,f1,f2,f3,f4,hb⟩;have hB:=bLt hB hb;clear hb
 go_wp2_with fail
 obtain ⟨w4,hW,hz0,hb,q,f⟩:=box1g w3 (w3.heap.size) (by omega) #[.int .i64 2,.slice bT mT eT,.bool (neg E.num),.slice b1 m1 e1,.slice b2 m2 e2,.int .i64 2,.bool (neg F.num),.slice b3 m3 e3,.slice b4 m4 e4] 34;rw [hW];clear hW;have gT:=gT.past hb;have f1:=f1.past hb;have f2:=f2.past hb;have f3:=f3.past hb;have f4:=f4.past hb;have hB:=bLt hB hb;clear hb;have lq:w3.heap.size<w4.heap.size:=by omega
 have qq0:=q 0;have qq1:=q 1;have qq2:=q 2;have qq3:=q 3;have qq4:=q 4;have qq5:=q 5;have qq6:=q 6;have qq7:=q 7;have qq8:=q 8;simp only [lgA,lgZ,lgS] at qq0 qq1 qq2 qq3 qq4 qq5 qq6 qq7 qq8;clear q f;clear hz0;refine (is27 HF.out (by decide) (by decide) (by decide) f3 f4).mono ?_;rintro e w5 ⟨rfl,hb⟩;have gT:=gT.past hb;have f1:=f1.past hb;have f2:=f2.past hb;have f3:=f3.past hb;have f4:=f4.past hb;obtain ⟨qq0,qq1,qq2,qq3,qq4,qq5,qq6,qq7,qq8,lq⟩:=bq9 hb lq qq0 qq1 qq2 qq3 qq4 qq5 qq6 qq7 qq8;have hB:=bLt hB hb;clear hb
 go_wp2_with fail
 have h0y:=litI (E:=3) w5 #[.int .i64 1,.int .i64 1] [1,1] 2 rfl rfl (by decide) (by decide);obtain ⟨w6,hW⟩:∃ W,w5.alloc (.cells #[.int .i64 1,.int .i64 1] 3)=W:=⟨_,rfl⟩;have hb:Below w5.heap.size w5 w6:=by rw [← hW];exact (bRf _ _).alloc (nRf _) _
 rw [hW] at h0y ⊢;clear hW;have gT:=gT.past hb;have f1:=f1.past hb;have f2:=f2.past hb;have f3:=f3.past hb;have f4:=f4.past hb;obtain ⟨qq0,qq1,qq2,qq3,qq4,qq5,qq6,qq7,qq8,lq⟩:=bq9 hb lq qq0 qq1 qq2 qq3 qq4 qq5 qq6 qq7 qq8;have hB:=bLt hB hb;clear hb;have y:=h0y;clear h0y
 go_wp2_with fail
 with_reducible refine (sameInts_yes gT y).mono ?_
 rintro e w7 ⟨rfl,hb⟩;have gT:=gT.past hb;have f1:=f1.past hb;have f2:=f2.past hb;have f3:=f3.past hb;have f4:=f4.past hb;obtain ⟨qq0,qq1,qq2,qq3,qq4,qq5,qq6,qq7,qq8,lq⟩:=bq9 hb lq qq0 qq1 qq2 qq3 qq4 qq5 qq6 qq7 qq8;have hB:=bLt hB hb;clear hb
 go_wp2_with fail
 refine (HHD.out _ _ _ _ _ _ _ _ _ _ _ _ _ _ _ _ gT f1 f2 f3 f4).mono ?_;rintro e w8 ⟨rfl,hb⟩;obtain ⟨qq0,qq1,qq2,qq3,qq4,qq5,qq6,qq7,qq8,lq⟩:=bq9 hb lq qq0 qq1 qq2 qq3 qq4 qq5 qq6 qq7 qq8;have hB:=bLt hB hb;clear hb
 go_wp2
 go_ret
 exact ⟨rfl,hB⟩
end
section
open Go.RowKit
theorem pick27 (x k:Int) (hk:0<k):∃ p:Nat,pickI x k=p∧(p:Int)<k:=by
 have h:0≤pickI x k∧pickI x k<k:=by
  unfold pickI;rw [if_neg (by omega)];exact ⟨Int.emod_nonneg x (by omega),Int.emod_lt_of_pos x (by omega)⟩
 exact ⟨(pickI x k).toNat,by omega,by omega⟩
theorem pow_len27 {q:Rat} {K:Nat} (h:rlen q≤K):∀ n:Nat,rlen (q ^ n)≤1+n*(K+1)
 | 0=>by rw [Rat.pow_zero,rlen_one];omega
 | n + 1 => by
   have h1:=pow_len27 h n;have h2:rlen (q ^ n*q)≤rlen (q ^ n)+rlen q+1:=product_short _ _;rw [Rat.pow_succ];have h3:(n+1)*(K+1)=n*(K+1)+(K+1):=Nat.succ_mul _ _;omega
theorem one_minus_len {q:Rat} {K:Nat} (h:rlen q≤K):rlen (1-q)≤K+2:=by
 have e:(1:Rat)-q=1 + -q:=Rat.sub_eq_add_neg _ _;have h1:rlen (1 + -q)≤rlen 1+rlen (-q)+1:=sum_short _ _;have h2:rlen (-q)=rlen q:=by unfold rlen;simp
 rw [e];rw [rlen_one] at h1;omega
theorem risk_len {F:Rat} {K n:Nat} (h:rlen F≤K) (hn:n≤21) (hK:K≤100):rlen (1-F)≤1048576∧rlen ((1-F) ^ n)≤1048576∧rlen (riskQ F n)≤1048576:=by
 have h1:=one_minus_len h;have h2:=pow_len27 h1 n;have h3:n*(K+2+1)≤21*103:=Nat.mul_le_mul hn (by omega);have h4:rlen ((1-F) ^ n)≤3000:=by omega
 have h5:=one_minus_len h4;exact ⟨by omega,by omega,by unfold riskQ;omega⟩
end
section
open Go.RowKit
def RetFew (w:World) (zs:List Int) (k:Nat) (e:Ending) (w':World):Prop:=∃ a n c,e = .returned (.tuple #[.slice a n c,.int .i64 (k:Int)])∧IntsAt w' a n c zs∧Below w.heap.size w w'
theorem few_a (x y z:Int) (p q:Nat) (hx:-9223372036854775808≤x∧x≤9223372036854775807) (hy:-9223372036854775808≤y∧y≤9223372036854775807) (hz:-9223372036854775808≤z∧z≤9223372036854775807) (hp:pickI x 4=(p:Int)) (hp4:p<4) (hq:pickI y 4=((q:Nat):Int)) (hq4:q<4) (hr:pickI z 2=0) (w:World) :
 Calls Tryz.prog 29 #[.int .i64 x,.int .i64 y,.int .i64 z] w (RetFew w (fewT p q 1) 1):=by
 obtain ⟨m,hm⟩:∃ m:Nat,Nat.max 1 q+p=m:=⟨_,rfl⟩;obtain ⟨n1,hn1⟩:∃ n1:Nat,Nat.max 1 q=n1:=⟨_,rfl⟩;have hmx:max (1:Int) ((q:Nat):Int)=(n1:Int):=by rw [← hn1];show max (1:Int) _=((max 1 _:Nat):Int);omega
 have hs:(n1:Int)+(p:Int)=(m:Int):=by rw [← hm,hn1];rfl
 have hm8:m≤7:=by rw [← hm];show max 1 _+p≤7;omega
 have hT:fewT p q 1=[(m:Int)]:=by unfold fewT;simp [hm]
 rw [hT];have HP:=hiD hp;have HQ:=hiD hq;have HR:=hiD hr;have HS:=hiD hs;have HMX:=hiD hmx;clear hp hq hr hs hmx hT hm hn1
 go_enter Tryz.func29,Tryz.ntmps29
 have hB:=bRf w.heap.size w
 go_wp2_with fail
 with_reducible refine (pick_any z 2 _ hz.1 hz.2 (by decide)).mono ?_
 rintro e w' ⟨rfl,rfl⟩;rw [HR.out]
 go_wp2_with fail
 with_reducible refine (pick_any y 4 _ hy.1 hy.2 (by decide)).mono ?_
 rintro e w' ⟨rfl,rfl⟩;rw [HQ.out]
 go_wp2_with fail
 with_reducible refine (pick_any x 4 _ hx.1 hx.2 (by decide)).mono ?_
 rintro e w' ⟨rfl,rfl⟩;rw [HP.out]
 go_wp2_with fail
 rw [HMX.out,HS.out]
 go_ret2
 exact ⟨_,_,_,rfl,litI w #[.int .i64 (m:Int)] [(m:Int)] 1 rfl rfl (by decide) (by intro z hz;simp at hz;omega),(bRf _ _).alloc (nRf _) _⟩
theorem few_b (x y z:Int) (p:Nat) (hx:-9223372036854775808≤x∧x≤9223372036854775807) (hy:-9223372036854775808≤y∧y≤9223372036854775807) (hz:-9223372036854775808≤z∧z≤9223372036854775807) (hp:pickI x 4=(p:Int)) (hp4:p<4) (hq:pickI y 4=0) (hr:pickI z 2=1) (w:World) :
 Calls Tryz.prog 29 #[.int .i64 x,.int .i64 y,.int .i64 z] w (RetFew w (fewT p 0 2) 2):=by
 obtain ⟨m,hm⟩:∃ m:Nat,Nat.max 1 0+p=m:=⟨_,rfl⟩;obtain ⟨n1,hn1⟩:∃ n1:Nat,Nat.max 1 0=n1:=⟨_,rfl⟩;have hmx:max (1:Int) 0=(n1:Int):=by rw [← hn1];decide
 have hs:(n1:Int)+(p:Int)=(m:Int):=by rw [← hm,hn1];rfl
 have hm8:m≤7:=by rw [← hm];show max 1 _+p≤7;omega
 have hT:fewT p 0 2=[(m:Int)]:=by unfold fewT;rw [if_neg (by omega),hm]
 rw [hT];have HP:=hiD hp;have HQ:=hiD hq;have HR:=hiD hr;have HS:=hiD hs;have HMX:=hiD hmx;clear hp hq hr hs hmx hT hm hn1
 go_enter Tryz.func29,Tryz.ntmps29
 have hB:=bRf w.heap.size w
 go_wp2_with fail
 with_reducible refine (pick_any z 2 _ hz.1 hz.2 (by decide)).mono ?_
 rintro e w' ⟨rfl,rfl⟩;rw [HR.out]
 go_wp2_with fail
 with_reducible refine (pick_any y 4 _ hy.1 hy.2 (by decide)).mono ?_
 rintro e w' ⟨rfl,rfl⟩;rw [HQ.out]
 go_wp2_with fail
 with_reducible refine (pick_any x 4 _ hx.1 hx.2 (by decide)).mono ?_
 rintro e w' ⟨rfl,rfl⟩;rw [HP.out]
 go_wp2_with fail
 rw [HMX.out,HS.out]
 go_ret2
 exact ⟨_,_,_,rfl,litI w #[.int .i64 (m:Int)] [(m:Int)] 1 rfl rfl (by decide) (by intro z hz;simp at hz;omega),(bRf _ _).alloc (nRf _) _⟩
theorem few_c (x y z:Int) (p q:Nat) (hx:-9223372036854775808≤x∧x≤9223372036854775807) (hy:-9223372036854775808≤y∧y≤9223372036854775807) (hz:-9223372036854775808≤z∧z≤9223372036854775807) (hp:pickI x 4=(p:Int)) (hp4:p<4) (hq:pickI y 4=((q:Nat):Int)) (hq4:q<4) (hr:pickI z 2=1) (hq0:0<q) (w:World) :
 Calls Tryz.prog 29 #[.int .i64 x,.int .i64 y,.int .i64 z] w (RetFew w (fewT p q 2) 2):=by
 obtain ⟨i0,hi,hz0,hz1,hz2⟩:=info_parts i64_info;obtain ⟨m,hm⟩:∃ m:Nat,Nat.max 1 q+p=m:=⟨_,rfl⟩;obtain ⟨n1,hn1⟩:∃ n1:Nat,Nat.max 1 q=n1:=⟨_,rfl⟩;have hmx:max (1:Int) ((q:Nat):Int)=(n1:Int):=by rw [← hn1];show max (1:Int) _=((max 1 _:Nat):Int);omega
 have hs:(n1:Int)+(p:Int)=(m:Int):=by rw [← hm,hn1];rfl
 have hm8:m≤7:=by rw [← hm];show max 1 _+p≤7;omega
 have hT:fewT p q 2=[(m:Int),(q:Int)]:=by unfold fewT;simp [hm,hq0]
 rw [hT];have HP:=hiD hp;have HQ:=hiD hq;have HR:=hiD hr;have t0:decide (0<(q:Int))=true:=decide_eq_true (by omega);clear hp hq hr hT hm hn1
 go_enter Tryz.func29,Tryz.ntmps29
 have hB:=bRf w.heap.size w
 go_wp2_with fail
 with_reducible refine (pick_any z 2 _ hz.1 hz.2 (by decide)).mono ?_
 rintro e w' ⟨rfl,rfl⟩;rw [HR.out]
 go_wp2_with fail
 with_reducible refine (pick_any y 4 _ hy.1 hy.2 (by decide)).mono ?_
 rintro e w' ⟨rfl,rfl⟩;rw [HQ.out]
 go_wp2_with fail
 with_reducible refine (pick_any x 4 _ hx.1 hx.2 (by decide)).mono ?_
 rintro e w' ⟨rfl,rfl⟩;rw [HP.out];obtain ⟨u1,hU1,y1,hb1,r1,f1⟩:=box1g w w.heap.size rfl #[.int .i64 (m:Int)] 3;obtain ⟨u2,hU2,y2,hb2,r2,f2⟩:=box1g u1 (w.heap.size+1) (by omega) #[.int .i64 (q:Int)] 3;have hh1:u1.heap[w.heap.size]? = some (.cells #[.int .i64 (m:Int)] 3 (0,0)):=by rw [← hU1];exact World.alloc_heap_new w _
 have hrow:u2.ownsRow w.heap.size 3 1 (.slice (some ⟨w.heap.size,0,none⟩) 1 1) 1 [.int .i64 (m:Int)]:=row_past8 (w:=u1) ⟨rfl,.inr ⟨w.heap.size,1,_,rfl,nRf _,hh1,nRf _,by decide,rfl,rfl⟩⟩ hb2
 have hnews:∀ j u,[Value.int .i64 (q:Int)][j]? = some u→u2.cell? ((⟨w.heap.size+1,0,none⟩:Addr).add j)=some u:=by
  intro j u hu;rw [addr_add,Nat.zero_add,r2,lgA];exact hu
 have hb12:=bLt hb1 hb2;clear r1 r2 f1 f2 hb1 hb2 hh1
 go_wp2_with (at_builtin;go_loud (refine wpList_append_own _ rfl _ _ 22 rfl w.heap.size 3 i0 (.int .i64 0) 1 8 Tryz.underlying22 hi hz0 hz1 hz2 rfl (by decide) _ 1 [.int .i64 (m:Int)] rfl hrow ⟨w.heap.size+1,0,none⟩ 1 1 [.int .i64 (q:Int)] rfl rfl hnews (by simp [Value.oneCell']) (by decide) (by decide) (by omega) ?_);intro v' w3 hown hgrow hnil)
 go_ret2
 have hB2:Below w.heap.size w w3:=hb12.grown hgrow (by omega) (fun k e=>by cases e;exact nRf _);rcases hown.2 with ⟨rfl,hn0⟩ | ⟨g,cap,cur,rfl,hg,hgg,hnc,hcm,_⟩
 · cases hn0
 refine ⟨_,_,_,rfl,⟨rfl,hnc,hcm,.inr ⟨g,0,rfl,(Array.getElem?_eq_some_iff.1 hgg).1,fun i hi => ?_⟩,(fun e=>by cases e),by intro z hz;simp at hz;rcases hz with rfl | rfl<;>omega⟩,hB2⟩
 rw [Nat.zero_add,World.ownsRow.cellAt hown i (by omega)];rcases (by omega:i=0∨i=1) with rfl | rfl<;>rfl
end
end Go.Proofs.YtkhcblihbalnbaaGreat
