import Derived.Test.YtkhcblihbalnbaaGreatS0Pl
import Derived.Test.YtkhcblihbalnbaaGreatPlan1Pl
import Derived.Test.YtkhcblihbalnbaaGreatSigned2Pl
import Derived.Test.YtkhcblihbalnbaaGreatDigits8Pl
import Derived.Test.YtkhcblihbalnbaaGreatRatio10Pl
import Derived.Test.YtkhcblihbalnbaaGreatRatio12Pl
import Derived.Test.YtkhcblihbalnbaaGreatSoli1Pl
set_option linter.unusedVariables false
set_option linter.unusedSimpArgs false
set_option maxHeartbeats 16000000
set_option maxRecDepth 100000
namespace Go.Proofs.YtkhcblihbalnbaaGreat
section
open Go.RowKit
def textQ (q:Rat):ByteArray:=textB (neg q.num) q.num.natAbs q.den
theorem textE_rat (q:Rat):textE (neg q.num) (digs q.num.natAbs) (digs q.den)=textQ q:=by
 unfold textE textQ;rw [if_pos (chkR_canon q),val_digs,val_digs]
theorem decL_digs (n:Nat):(decL n).length≤20*(digs n).length+1:=by
 have h:=digL_limbs (l:=digs n) (dig_digs n);rw [val_digs] at h;unfold decL
 split
 · simp
 omega
theorem textQ_size {q:Rat} {K:Nat} (h:rlen q≤K):(textQ q).size≤40*K+4:=by
 have h1:=decL_digs q.num.natAbs;have h2:=decL_digs q.den;unfold rlen at h
 have e:(textQ q).size=(textP (neg q.num) q.num.natAbs q.den).length:=by
  unfold textQ textB;simp [ByteArray.size]
 have h3:(textP (neg q.num) q.num.natAbs q.den).length≤2+(decL q.num.natAbs).length+(decL q.den).length:=by
  unfold textP;simp only [List.length_append,decB_len]
  split<;>split<;>simp [decB_len]<;>omega
 omega
theorem text_q (q:Rat) (a1:Option Addr) (n1 c1:Nat) (a2:Option Addr) (n2 c2:Nat) (w:World) (d1:NatAt w a1 n1 c1 (digs q.num.natAbs)) (d2:NatAt w a2 n2 c2 (digs q.den)) (h:rlen q≤1048576) :
 Calls Tryz.prog 46 #[.agg #[.bool (neg q.num),.slice a1 n1 c1,.slice a2 n2 c2]] w (RetVal w (.tuple #[.string (textQ q),.int .i64 0])):=by
 unfold rlen at h;have ht:=text_any (neg q.num) a1 n1 c1 _ a2 n2 c2 _ w d1 d2 (by have:=d1.len;omega) (by have:=d2.len;omega);rw [textE_rat,chkR_canon q] at ht;exact ht
theorem text27_any (q:Rat) (a1:Option Addr) (n1 c1:Nat) (a2:Option Addr) (n2 c2:Nat) (w:World) (d1:NatAt w a1 n1 c1 (digs q.num.natAbs)) (d2:NatAt w a2 n2 c2 (digs q.den)) (h:rlen q≤200) :
 Calls Tryz.prog 57 #[.agg #[.bool (neg q.num),.slice a1 n1 c1,.slice a2 n2 c2]] w (RetVal w (.tuple #[.string (textQ q),.bool true])):=by
 have hz:=textQ_size h;obtain ⟨S,hS⟩:∃ S,textQ q=S:=⟨_,rfl⟩;rw [hS] at hz ⊢;have HS:=hiD hS;have hsz:((S.size:Int)≤10000):=by omega
 have H:=hiD (show rlen q≤1048576 by omega);clear hS h hz
 go_enter Tryz.func57,Tryz.ntmps57
 have hB:=bRf w.heap.size w
 go_wp2_with fail
 obtain ⟨w1,hW,hz0,hb,q,f⟩:=box1g w (w.heap.size) (by omega) #[.bool (neg q.num),.slice a1 n1 c1,.slice a2 n2 c2] 28;rw [hW];clear hW;have d1:=d1.past hb;have d2:=d2.past hb;have hB:=bLt hB hb;clear hb;have lb:w.heap.size<w1.heap.size:=by omega
 have qb0:=q 0;have qb1:=q 1;have qb2:=q 2;simp only [lgA,lgZ,lgS] at qb0 qb1 qb2;clear q f;clear hz0
 with_reducible refine (text_q q _ _ _ _ _ _ _ d1 d2 H.out).mono ?_
 rintro e w2 ⟨rfl,hb⟩;obtain ⟨qb0,qb1,qb2,lb⟩:=bq3 hb lb qb0 qb1 qb2;have hB:=bLt hB hb;clear hb;rw [HS.out]
 go_wp2
 refine bodyPost_ret (v:=.tuple #[.string S,.bool true]) ?_ rfl ⟨rfl,hB⟩;simp [results,Tryz.f57,go_sem,]
theorem kept_yes (k N:Nat) (zs:List Int) (eps F:Rat) (aT:Option Addr) (nT cT:Nat) (a1:Option Addr) (n1 c1:Nat) (a2:Option Addr) (n2 c2:Nat) (a3:Option Addr) (n3 c3:Nat) (a4:Option Addr) (n4 c4:Nat) (w:World) (g:IntsAt w aT nT cT zs) (d1:NatAt w a1 n1 c1 (digs eps.num.natAbs)) (d2:NatAt w a2 n2 c2 (digs eps.den)) (d3:NatAt w a3 n3 c3 (digs F.num.natAbs)) (d4:NatAt w a4 n4 c4 (digs F.den))
 (hok:okT zs (k:Int)) (hk:k≤1024) (hN:N≤4096) (h1:rlen eps≤200) (h2:rlen F≤200) :
 Calls Tryz.prog 48 #[.agg #[.int .i64 (k:Int),.slice aT nT cT,.bool (neg eps.num),.slice a1 n1 c1,.slice a2 n2 c2,.int .i64 (N:Int),.bool (neg F.num),.slice a3 n3 c3,.slice a4 n4 c4]] w (RetVal w (.bool true)):=by
 have hk1:(1:Int)≤(k:Int):=hok.1;have hk2:(k:Int)≤1024:=by omega
 have hN2:(N:Int)≤4096:=by omega
 have H1:=hiD h1;have H2:=hiD h2;have HCK:=hiD (fun (w:World) (g:IntsAt w aT nT cT zs)=>(chkT_yes hok) ▸ soliCheck_any aT nT cT zs (k:Int) w g);clear hok h1 h2
 go_enter Tryz.func48,Tryz.ntmps48
 have hB:=bRf w.heap.size w
 go_wp2_with fail
 obtain ⟨w1,hW,hz0,hb,q,f⟩:=box1g w (w.heap.size) (by omega) #[.int .i64 (k:Int),.slice aT nT cT,.bool (neg eps.num),.slice a1 n1 c1,.slice a2 n2 c2,.int .i64 (N:Int),.bool (neg F.num),.slice a3 n3 c3,.slice a4 n4 c4] 34;rw [hW];clear hW;have g:=g.past hb;have d1:=d1.past hb;have d2:=d2.past hb;have d3:=d3.past hb;have d4:=d4.past hb;have hB:=bLt hB hb;clear hb;have lp:w.heap.size<w1.heap.size:=by omega
 have qp0:=q 0;have qp1:=q 1;have qp2:=q 2;have qp3:=q 3;have qp4:=q 4;have qp5:=q 5;have qp6:=q 6;have qp7:=q 7;have qp8:=q 8;simp only [lgA,lgZ,lgS] at qp0 qp1 qp2 qp3 qp4 qp5 qp6 qp7 qp8;clear q f;clear hz0
 with_reducible refine (text27_any eps _ _ _ _ _ _ _ d1 d2 H1.out).mono ?_
 rintro e w2 ⟨rfl,hb⟩;have g:=g.past hb;have d3:=d3.past hb;have d4:=d4.past hb;obtain ⟨qp0,qp1,qp2,qp3,qp4,qp5,qp6,qp7,qp8,lp⟩:=bq9 hb lp qp0 qp1 qp2 qp3 qp4 qp5 qp6 qp7 qp8;have hB:=bLt hB hb;clear hb
 go_wp2_with fail
 with_reducible refine (text27_any F _ _ _ _ _ _ _ d3 d4 H2.out).mono ?_
 rintro e w3 ⟨rfl,hb⟩;have g:=g.past hb;obtain ⟨qp0,qp1,qp2,qp3,qp4,qp5,qp6,qp7,qp8,lp⟩:=bq9 hb lp qp0 qp1 qp2 qp3 qp4 qp5 qp6 qp7 qp8;have hB:=bLt hB hb;clear hb
 go_wp2_with fail
 with_reducible refine (HCK.out _ g).mono ?_
 rintro e w4 ⟨rfl,hb⟩;obtain ⟨qp0,qp1,qp2,qp3,qp4,qp5,qp6,qp7,qp8,lp⟩:=bq9 hb lp qp0 qp1 qp2 qp3 qp4 qp5 qp6 qp7 qp8;have hB:=bLt hB hb;clear hb
 go_wp2
 go_ret
 exact ⟨rfl,hB⟩
theorem risk_any (k N n:Nat) (zs:List Int) (eps F:Rat) (aT:Option Addr) (nT cT:Nat) (a1:Option Addr) (n1 c1:Nat) (a2:Option Addr) (n2 c2:Nat) (a3:Option Addr) (n3 c3:Nat) (a4:Option Addr) (n4 c4:Nat) (w:World) (g:IntsAt w aT nT cT zs) (d1:NatAt w a1 n1 c1 (digs eps.num.natAbs)) (d2:NatAt w a2 n2 c2 (digs eps.den)) (d3:NatAt w a3 n3 c3 (digs F.num.natAbs)) (d4:NatAt w a4 n4 c4 (digs F.den))
 (hok:okT zs (k:Int)) (hk:k≤1024) (hN:N≤4096) (h1:rlen eps≤200) (h2:rlen F≤200) (hn:n≤10000) (hF0:0≤F) (hF1:F≤1) (hL:rlen (1-F)≤1048576) (hA:rlen ((1-F) ^ n)≤1048576) :
 Calls Tryz.prog 22 #[.agg #[.int .i64 (k:Int),.slice aT nT cT,.bool (neg eps.num),.slice a1 n1 c1,.slice a2 n2 c2,.int .i64 (N:Int),.bool (neg F.num),.slice a3 n3 c3,.slice a4 n4 c4],.int .i64 (n:Int)] w (RetOk w (riskQ F n)):=by
 have HKP:=hiD (fun (w:World) (g:IntsAt w aT nT cT zs) (d1:NatAt w a1 n1 c1 (digs eps.num.natAbs)) (d2:NatAt w a2 n2 c2 (digs eps.den)) (d3:NatAt w a3 n3 c3 (digs F.num.natAbs)) (d4:NatAt w a4 n4 c4 (digs F.den))=>kept_yes k N zs eps F _ _ _ _ _ _ _ _ _ _ _ _ _ _ _ w g d1 d2 d3 d4 hok hk hN h1 h2);obtain ⟨O,hO0⟩:∃ O:Rat,(1:Rat)=O:=⟨_,rfl⟩;have HPR:=hiD (fun w:World=>hO0 ▸ pair_ok (x:=1) (y:=1) (q:=1) (by decide) (by decide) w (by decide) (by decide));have HLO:=hiD (show rlen O≤1048576 by rw [← hO0];decide);unfold riskQ;have p0:0≤(1-F).num.sign:=Int.sign_nonneg_iff.2 (Rat.num_nonneg.2 (by grind));rw [hO0] at hL hA p0 ⊢;obtain ⟨L,hL0⟩:∃ L,O-F=L:=⟨_,rfl⟩;rw [hL0] at hL hA p0 ⊢;obtain ⟨A,hA0⟩:∃ A,L ^ n=A:=⟨_,rfl⟩;rw [hA0] at hA ⊢;obtain ⟨Q,hQ0⟩:∃ Q,O-A=Q:=⟨_,rfl⟩;rw [hQ0];have s0:0≤F.num.sign:=Int.sign_nonneg_iff.2 (Rat.num_nonneg.2 hF0);obtain ⟨S1,hS1⟩:∃ S1,F.num.sign=S1:=⟨_,rfl⟩;obtain ⟨S2,hS2⟩:∃ S2,L.num.sign=S2:=⟨_,rfl⟩;rw [hS1] at s0;rw [hS2] at p0;have t1:decide (S1<0)=false:=decide_eq_false (by omega);have t2:decide (S2<0)=false:=decide_eq_false (by omega);have t3:decide ((n:Int)<0)=false:=decide_eq_false (by omega);have t4:decide ((10000:Int)<(n:Int))=false:=decide_eq_false (by omega);have hn3:n3≤1048576:=by have:=d3.len;unfold rlen at h2;omega
 have HQ:=hiD hQ0;have HL:=hiD hL0;have HS1:=hiD hS1;have HS2:=hiD hS2;have LL:=hiD hL;have LA:=hiD hA;have LF:=hiD (show rlen F≤1048576 by omega);have HPW:=hiD hA0;have HNN:=hiD hn;have hn5:(digs L.den).length≤1048576:=by unfold rlen at hL;omega
 have hn4:(digs L.num.natAbs).length≤1048576:=by unfold rlen at hL;omega
 clear hok hk hN h1 h2 hF0 hF1 hL hA hO0 hL0 hA0 hQ0 hS1 hS2 s0 p0 hn
 go_enter Tryz.func22,Tryz.ntmps22
 have hB:=bRf w.heap.size w
 go_wp2_with fail
 obtain ⟨w1,hW,hz0,hb,q,f⟩:=box1g w (w.heap.size) (by omega) #[.int .i64 (k:Int),.slice aT nT cT,.bool (neg eps.num),.slice a1 n1 c1,.slice a2 n2 c2,.int .i64 (N:Int),.bool (neg F.num),.slice a3 n3 c3,.slice a4 n4 c4] 34;rw [hW];clear hW;have g:=g.past hb;have d1:=d1.past hb;have d2:=d2.past hb;have d3:=d3.past hb;have d4:=d4.past hb;have hB:=bLt hB hb;clear hb;have lp:w.heap.size<w1.heap.size:=by omega
 have qp0:=q 0;have qp1:=q 1;have qp2:=q 2;have qp3:=q 3;have qp4:=q 4;have qp5:=q 5;have qp6:=q 6;have qp7:=q 7;have qp8:=q 8;simp only [lgA,lgZ,lgS] at qp0 qp1 qp2 qp3 qp4 qp5 qp6 qp7 qp8;clear q f;obtain ⟨w2,hW,hz1,hb,q,f⟩:=box1g w1 (w.heap.size+1) (by omega) #[.bool false,.slice none 0 0,.slice none 0 0] 28;rw [hW];clear hW;have g:=g.past hb;have d1:=d1.past hb;have d2:=d2.past hb;have d3:=d3.past hb;have d4:=d4.past hb;obtain ⟨qp0,qp1,qp2,qp3,qp4,qp5,qp6,qp7,qp8,lp⟩:=bq9 hb lp qp0 qp1 qp2 qp3 qp4 qp5 qp6 qp7 qp8;have hB:=bLt hB hb;clear hb;have lr:w.heap.size+1<w2.heap.size:=by omega
 have qr0:=q 0;have qr1:=q 1;have qr2:=q 2;simp only [lgA,lgZ,lgS] at qr0 qr1 qr2;have xr:BoxAt w2 (w.heap.size+1) 3:=BoxAt.of q f rfl (by simp [notU_bool,notU_slice,notU_i64]);clear q f;clear hz0;clear hz1
 with_reducible refine (HKP.out _ g d1 d2 d3 d4).mono ?_
 rintro e w3 ⟨rfl,hb⟩;have d3:=d3.past hb;have d4:=d4.past hb;obtain ⟨qp0,qp1,qp2,qp3,qp4,qp5,qp6,qp7,qp8,lp⟩:=bq9 hb lp qp0 qp1 qp2 qp3 qp4 qp5 qp6 qp7 qp8;have xr:=xr.past hb lr;obtain ⟨qr0,qr1,qr2,lr⟩:=bq3 hb lr qr0 qr1 qr2;have hB:=bLt hB hb;clear hb
 go_wp2_with fail
 with_reducible refine (HPR.out _).mono ?_
 rintro e w4 ⟨ahOU,nhOU,chOU,ahOD,nhOD,chOD,rfl,hOU,hOD,hb⟩;have hOU:=hOU.mono hB.size;have hOD:=hOD.mono hB.size;have d3:=d3.past hb;have d4:=d4.past hb;obtain ⟨qp0,qp1,qp2,qp3,qp4,qp5,qp6,qp7,qp8,lp⟩:=bq9 hb lp qp0 qp1 qp2 qp3 qp4 qp5 qp6 qp7 qp8;have xr:=xr.past hb lr;obtain ⟨qr0,qr1,qr2,lr⟩:=bq3 hb lr qr0 qr1 qr2;have hB:=bLt hB hb;clear hb
 go_wp2_with fail
 obtain ⟨w5,hW,hz0,hb,q,f⟩:=box1g w4 (w4.heap.size) (by omega) #[.bool (neg (O).num),.slice ahOU nhOU chOU,.slice ahOD nhOD chOD] 28;rw [hW];clear hW;have d3:=d3.past hb;have d4:=d4.past hb;have hOU:=hOU.past hb;have hOD:=hOD.past hb;obtain ⟨qp0,qp1,qp2,qp3,qp4,qp5,qp6,qp7,qp8,lp⟩:=bq9 hb lp qp0 qp1 qp2 qp3 qp4 qp5 qp6 qp7 qp8;have xr:=xr.past hb lr;obtain ⟨qr0,qr1,qr2,lr⟩:=bq3 hb lr qr0 qr1 qr2;have hB:=bLt hB hb;clear hb;have lo:w4.heap.size<w5.heap.size:=by omega
 have qo0:=q 0;have qo1:=q 1;have qo2:=q 2;simp only [lgA,lgZ,lgS] at qo0 qo1 qo2;clear q f;clear hz0
 with_reducible refine (sub_rat hOU.toNatAt hOD.toNatAt d3 d4 HLO.out LF.out).mono ?_
 rintro e w6 ⟨ahLU,nhLU,chLU,ahLD,nhLD,chLD,rfl,hLU,hLD,hb⟩;have hLU:=hLU.mono hB.size;have hLD:=hLD.mono hB.size;have d3:=d3.past hb;have hOU:=hOU.past hb;have hOD:=hOD.past hb;obtain ⟨qp0,qp1,qp2,qp3,qp4,qp5,qp6,qp7,qp8,lp⟩:=bq9 hb lp qp0 qp1 qp2 qp3 qp4 qp5 qp6 qp7 qp8;have xr:=xr.past hb lr;obtain ⟨qr0,qr1,qr2,lr⟩:=bq3 hb lr qr0 qr1 qr2;obtain ⟨qo0,qo1,qo2,lo⟩:=bq3 hb lo qo0 qo1 qo2;have hB:=bLt hB hb;clear hb;rw [HL.out] at hLU hLD ⊢
 go_wp2_with fail
 obtain ⟨w7,hW,hz0,hb,q,f⟩:=box1g w6 (w6.heap.size) (by omega) #[.bool (neg (L).num),.slice ahLU nhLU chLU,.slice ahLD nhLD chLD] 28;rw [hW];clear hW;have d3:=d3.past hb;have hOU:=hOU.past hb;have hOD:=hOD.past hb;have hLU:=hLU.past hb;have hLD:=hLD.past hb;obtain ⟨qp0,qp1,qp2,qp3,qp4,qp5,qp6,qp7,qp8,lp⟩:=bq9 hb lp qp0 qp1 qp2 qp3 qp4 qp5 qp6 qp7 qp8;have xr:=xr.past hb lr;obtain ⟨qr0,qr1,qr2,lr⟩:=bq3 hb lr qr0 qr1 qr2;obtain ⟨qo0,qo1,qo2,lo⟩:=bq3 hb lo qo0 qo1 qo2;have hB:=bLt hB hb;clear hb;have ll:w6.heap.size<w7.heap.size:=by omega
 have ql0:=q 0;have ql1:=q 1;have ql2:=q 2;simp only [lgA,lgZ,lgS] at ql0 ql1 ql2;clear q f;clear hz0
 with_reducible refine (sign_c d3 (by omega)).mono ?_
 rintro e w8 ⟨rfl,hb⟩;have hOU:=hOU.past hb;have hOD:=hOD.past hb;have hLU:=hLU.past hb;have hLD:=hLD.past hb;obtain ⟨qp0,qp1,qp2,qp3,qp4,qp5,qp6,qp7,qp8,lp⟩:=bq9 hb lp qp0 qp1 qp2 qp3 qp4 qp5 qp6 qp7 qp8;have xr:=xr.past hb lr;obtain ⟨qr0,qr1,qr2,lr⟩:=bq3 hb lr qr0 qr1 qr2;obtain ⟨qo0,qo1,qo2,lo⟩:=bq3 hb lo qo0 qo1 qo2;obtain ⟨ql0,ql1,ql2,ll⟩:=bq3 hb ll ql0 ql1 ql2;have hB:=bLt hB hb;clear hb;rw [HS1.out]
 go_wp2_with fail
 with_reducible refine (sign_c hLU.toNatAt (by have:=hLU.len;omega)).mono ?_
 rintro e w9 ⟨rfl,hb⟩;have hOU:=hOU.past hb;have hOD:=hOD.past hb;have hLU:=hLU.past hb;have hLD:=hLD.past hb;obtain ⟨qp0,qp1,qp2,qp3,qp4,qp5,qp6,qp7,qp8,lp⟩:=bq9 hb lp qp0 qp1 qp2 qp3 qp4 qp5 qp6 qp7 qp8;have xr:=xr.past hb lr;obtain ⟨qr0,qr1,qr2,lr⟩:=bq3 hb lr qr0 qr1 qr2;obtain ⟨qo0,qo1,qo2,lo⟩:=bq3 hb lo qo0 qo1 qo2;obtain ⟨ql0,ql1,ql2,ll⟩:=bq3 hb ll ql0 ql1 ql2;have hB:=bLt hB hb;clear hb;rw [HS2.out]
 go_wp2_with fail
 with_reducible refine (pow05_pos L n _ _ _ _ _ _ _ hLU.toNatAt hLD.toNatAt (by have:=hLU.len;omega) (by have:=hLD.len;omega) HNN.out LL.out).mono ?_
 rintro e w10 ⟨ahAU,nhAU,chAU,ahAD,nhAD,chAD,rfl,hAU,hAD,hb⟩;have hAU:=hAU.mono hB.size;have hAD:=hAD.mono hB.size;have hOU:=hOU.past hb;have hOD:=hOD.past hb;obtain ⟨qp0,qp1,qp2,qp3,qp4,qp5,qp6,qp7,qp8,lp⟩:=bq9 hb lp qp0 qp1 qp2 qp3 qp4 qp5 qp6 qp7 qp8;have xr:=xr.past hb lr;obtain ⟨qr0,qr1,qr2,lr⟩:=bq3 hb lr qr0 qr1 qr2;obtain ⟨qo0,qo1,qo2,lo⟩:=bq3 hb lo qo0 qo1 qo2;obtain ⟨ql0,ql1,ql2,ll⟩:=bq3 hb ll ql0 ql1 ql2;have hB:=bLt hB hb;clear hb;rw [HPW.out] at hAU hAD ⊢
 go_wp2_with fail
 obtain ⟨w11,hW,hz0,hb,q,f⟩:=box1g w10 (w10.heap.size) (by omega) #[.bool (neg (A).num),.slice ahAU nhAU chAU,.slice ahAD nhAD chAD] 28;rw [hW];clear hW;have hOU:=hOU.past hb;have hOD:=hOD.past hb;have hAU:=hAU.past hb;have hAD:=hAD.past hb;obtain ⟨qp0,qp1,qp2,qp3,qp4,qp5,qp6,qp7,qp8,lp⟩:=bq9 hb lp qp0 qp1 qp2 qp3 qp4 qp5 qp6 qp7 qp8;have xr:=xr.past hb lr;obtain ⟨qr0,qr1,qr2,lr⟩:=bq3 hb lr qr0 qr1 qr2;obtain ⟨qo0,qo1,qo2,lo⟩:=bq3 hb lo qo0 qo1 qo2;obtain ⟨ql0,ql1,ql2,ll⟩:=bq3 hb ll ql0 ql1 ql2;have hB:=bLt hB hb;clear hb;have la:w10.heap.size<w11.heap.size:=by omega
 have qa0:=q 0;have qa1:=q 1;have qa2:=q 2;simp only [lgA,lgZ,lgS] at qa0 qa1 qa2;clear q f;clear hz0
 with_reducible refine (sub_rat hOU.toNatAt hOD.toNatAt hAU.toNatAt hAD.toNatAt HLO.out LA.out).mono ?_
 rintro e w12 ⟨ahQU,nhQU,chQU,ahQD,nhQD,chQD,rfl,hQU,hQD,hb⟩;have hQU:=hQU.mono hB.size;have hQD:=hQD.mono hB.size;obtain ⟨qp0,qp1,qp2,qp3,qp4,qp5,qp6,qp7,qp8,lp⟩:=bq9 hb lp qp0 qp1 qp2 qp3 qp4 qp5 qp6 qp7 qp8;have xr:=xr.past hb lr;obtain ⟨qr0,qr1,qr2,lr⟩:=bq3 hb lr qr0 qr1 qr2;obtain ⟨qo0,qo1,qo2,lo⟩:=bq3 hb lo qo0 qo1 qo2;obtain ⟨ql0,ql1,ql2,ll⟩:=bq3 hb ll ql0 ql1 ql2;obtain ⟨qa0,qa1,qa2,la⟩:=bq3 hb la qa0 qa1 qa2;have hB:=bLt hB hb;clear hb;rw [HQ.out] at hQU hQD ⊢;have zf0:=xr.f 0 (by decide);have zf1:=xr.f 1 (by decide);have zf2:=xr.f 2 (by decide)
 go_wp2
 obtain ⟨w13,hW,hO,qN0,qN1,qN2,xN⟩:=store3 xr (.bool (neg (Q).num)) (.slice ahQU nhQU chQU) (.slice ahQD nhQD chQD) (nu rfl) (nu rfl) (nu rfl);try rw [hW]
 clear hW;have hQU:=hO.own hQU;have hQD:=hO.own hQD;have qp0:=(hO.cell (b2:=w.heap.size) (k:=0) (by omega)).trans qp0;have qp1:=(hO.cell (b2:=w.heap.size) (k:=1) (by omega)).trans qp1;have qp2:=(hO.cell (b2:=w.heap.size) (k:=2) (by omega)).trans qp2;have qp3:=(hO.cell (b2:=w.heap.size) (k:=3) (by omega)).trans qp3;have qp4:=(hO.cell (b2:=w.heap.size) (k:=4) (by omega)).trans qp4;have qp5:=(hO.cell (b2:=w.heap.size) (k:=5) (by omega)).trans qp5;have qp6:=(hO.cell (b2:=w.heap.size) (k:=6) (by omega)).trans qp6;have qp7:=(hO.cell (b2:=w.heap.size) (k:=7) (by omega)).trans qp7;have qp8:=(hO.cell (b2:=w.heap.size) (k:=8) (by omega)).trans qp8;have lp:w.heap.size<w13.heap.size:=by rw [hO.size];exact lp
 have lr:w.heap.size+1<w13.heap.size:=by rw [hO.size];exact lr
 have qo0:=(hO.cell (b2:=w4.heap.size) (k:=0) (by omega)).trans qo0;have qo1:=(hO.cell (b2:=w4.heap.size) (k:=1) (by omega)).trans qo1;have qo2:=(hO.cell (b2:=w4.heap.size) (k:=2) (by omega)).trans qo2;have lo:w4.heap.size<w13.heap.size:=by rw [hO.size];exact lo
 have ql0:=(hO.cell (b2:=w6.heap.size) (k:=0) (by omega)).trans ql0;have ql1:=(hO.cell (b2:=w6.heap.size) (k:=1) (by omega)).trans ql1;have ql2:=(hO.cell (b2:=w6.heap.size) (k:=2) (by omega)).trans ql2;have ll:w6.heap.size<w13.heap.size:=by rw [hO.size];exact ll
 have qa0:=(hO.cell (b2:=w10.heap.size) (k:=0) (by omega)).trans qa0;have qa1:=(hO.cell (b2:=w10.heap.size) (k:=1) (by omega)).trans qa1;have qa2:=(hO.cell (b2:=w10.heap.size) (k:=2) (by omega)).trans qa2;have la:w10.heap.size<w13.heap.size:=by rw [hO.size];exact la
 have qr0:=qN0;have qr1:=qN1;have qr2:=qN2;have xr:=xN;have hB:=hO.below (by omega) hB;clear hO qN0 qN1 qN2 xN zf0 zf1 zf2;refine bodyPost_ret (v:=.tuple #[.agg #[.bool (neg Q.num),.slice ahQU nhQU chQU,.slice ahQD nhQD chQD],.int .i64 0]) ?_ rfl ⟨_,_,_,_,_,_,rfl,hQU,hQD,hB⟩;simp [results,Tryz.f22,go_sem,qr0,qr1,qr2]
end
section
open Go.RowKit
theorem pair27 {x:Int} {y:Nat} {q:Rat} (hq:mkRat x y=q) (w:World) (hx:-9223372036854775808≤x∧x≤9223372036854775807) (hy:0<y) (hy2:y≤9223372036854775807) :
 Calls Tryz.prog 47 #[.int .i64 x,.int .i64 (y:Int)] w (RetOk w q):=by
 rw [← hq];exact pair_ok (x:=x) (y:=(y:Int)) (q:=mkRat x y) (by omega) (pr_pos hy) w hx (by omega)
theorem same27 {q:Rat} {a1:Option Addr} {n1 c1:Nat} {a2:Option Addr} {n2 c2:Nat} {a3:Option Addr} {n3 c3:Nat} {a4:Option Addr} {n4 c4:Nat} {w:World} (g1:NatAt w a1 n1 c1 (digs q.num.natAbs)) (g2:NatAt w a2 n2 c2 (digs q.den)) (g3:NatAt w a3 n3 c3 (digs q.num.natAbs)) (g4:NatAt w a4 n4 c4 (digs q.den)) :
 Calls Tryz.prog 15 #[.agg #[.bool (neg q.num),.slice a1 n1 c1,.slice a2 n2 c2],.agg #[.bool (neg q.num),.slice a3 n3 c3,.slice a4 n4 c4]] w (RetVal w (.bool true)):=by
 have h:=sameRatio_any (neg q.num) _ _ _ _ _ _ _ _ (neg q.num) _ _ _ _ _ _ _ _ w g1 g2 g3 g4
 rwa [show eqR (neg q.num) (digs q.num.natAbs) (digs q.den) (neg q.num) (digs q.num.natAbs) (digs q.den)=true by simp [eqR]] at h
theorem part27 {x:Int} {y:Nat} {q:Rat} (hq:mkRat x y=q) (w:World) (hx:-9223372036854775808≤x∧x≤9223372036854775807) (hy:0<y) (hy2:y≤9223372036854775807) :
 Calls Tryz.prog 21 #[.int .i64 x,.int .i64 (y:Int)] w (RetCopyR w (neg q.num) (digs q.num.natAbs) (digs q.den)):=by
 have HP:=hiD (fun w=>pair27 hq w hx hy hy2);clear hq
 go_enter Tryz.func21,Tryz.ntmps21
 have hB:=bRf w.heap.size w
 go_wp2_with fail
 obtain ⟨w1,hW,hz0,hb,q,f⟩:=box1g w (w.heap.size) (by omega) #[.bool false,.slice none 0 0,.slice none 0 0] 28;rw [hW];clear hW;have hB:=bLt hB hb;clear hb;have lr:w.heap.size<w1.heap.size:=by omega
 have qr0:=q 0;have qr1:=q 1;have qr2:=q 2;simp only [lgA,lgZ,lgS] at qr0 qr1 qr2;have xr:BoxAt w1 (w.heap.size) 3:=BoxAt.of q f rfl (by simp [notU_bool,notU_slice,notU_i64]);clear q f;clear hz0
 with_reducible refine (HP.out _).mono ?_
 rintro e w2 ⟨ahAU,nhAU,chAU,ahAD,nhAD,chAD,rfl,hAU,hAD,hb⟩;have hAU:=hAU.mono hB.size;have hAD:=hAD.mono hB.size;have xr:=xr.past hb lr;obtain ⟨qr0,qr1,qr2,lr⟩:=bq3 hb lr qr0 qr1 qr2;have hB:=bLt hB hb;clear hb;have zf0:=xr.f 0 (by decide);have zf1:=xr.f 1 (by decide);have zf2:=xr.f 2 (by decide)
 go_wp2
 have zf0:=xr.f 0 (by decide);have zf1:=xr.f 1 (by decide);have zf2:=xr.f 2 (by decide);obtain ⟨w3,hW,hO,qN0,qN1,qN2,xN⟩:=store3 xr (.bool (neg (q).num)) (.slice ahAU nhAU chAU) (.slice ahAD nhAD chAD) (nu rfl) (nu rfl) (nu rfl);try rw [hW]
 clear hW;have hAU:=hO.own hAU;have hAD:=hO.own hAD;have lr:w.heap.size<w3.heap.size:=by rw [hO.size];exact lr
 have qr0:=qN0;have qr1:=qN1;have qr2:=qN2;have xr:=xN;have hB:=hO.below (by omega) hB;clear hO qN0 qN1 qN2 xN zf0 zf1 zf2;obtain ⟨w4,hW,hz0,hb,q,f⟩:=box1g w3 (w3.heap.size) (by omega) #[.bool (neg (q).num),.slice ahAU nhAU chAU,.slice ahAD nhAD chAD] 28;rw [hW];clear hW;have hAU:=hAU.past hb;have hAD:=hAD.past hb;have xr:=xr.past hb lr;obtain ⟨qr0,qr1,qr2,lr⟩:=bq3 hb lr qr0 qr1 qr2;have hB:=bLt hB hb;clear hb;have lx:w3.heap.size<w4.heap.size:=by omega
 have qx0:=q 0;have qx1:=q 1;have qx2:=q 2;simp only [lgA,lgZ,lgS] at qx0 qx1 qx2;clear q f;clear hz0;refine bodyPost_ret (v:=.agg #[.bool (neg q.num),.slice ahAU nhAU chAU,.slice ahAD nhAD chAD]) ?_ rfl ⟨_,_,_,_,_,_,rfl,hAU,hAD,hB⟩;simp [results,Tryz.f21,go_sem,qr0,qr1,qr2]
theorem is27 {x:Int} {y:Nat} {q:Rat} (hq:mkRat x y=q) (hx:-9223372036854775808≤x∧x≤9223372036854775807) (hy:0<y) (hy2:y≤9223372036854775807) {a1:Option Addr} {n1 c1:Nat} {a2:Option Addr} {n2 c2:Nat} {w:World} (g1:NatAt w a1 n1 c1 (digs q.num.natAbs)) (g2:NatAt w a2 n2 c2 (digs q.den)) :
 Calls Tryz.prog 25 #[.agg #[.bool (neg q.num),.slice a1 n1 c1,.slice a2 n2 c2],.int .i64 0,.int .i64 x,.int .i64 (y:Int)] w (RetVal w (.bool true)):=by
 have HP:=hiD (fun w=>part27 hq w hx hy hy2);clear hq
 go_enter Tryz.func25,Tryz.ntmps25
 have hB:=bRf w.heap.size w
 go_wp2_with fail
 obtain ⟨w1,hW,hz0,hb,q,f⟩:=box1g w (w.heap.size) (by omega) #[.bool (neg q.num),.slice a1 n1 c1,.slice a2 n2 c2] 28;rw [hW];clear hW;have g1:=g1.past hb;have g2:=g2.past hb;have hB:=bLt hB hb;clear hb;have lp:w.heap.size<w1.heap.size:=by omega
 have qp0:=q 0;have qp1:=q 1;have qp2:=q 2;simp only [lgA,lgZ,lgS] at qp0 qp1 qp2;clear q f;clear hz0
 with_reducible refine (HP.out _).mono ?_
 rintro e w2 ⟨ahAU,nhAU,chAU,ahAD,nhAD,chAD,rfl,hAU,hAD,hb⟩;have g1:=g1.past hb;have g2:=g2.past hb;obtain ⟨qp0,qp1,qp2,lp⟩:=bq3 hb lp qp0 qp1 qp2;have hB:=bLt hB hb;clear hb;have hpos:(0:Int)<(nhAD:Int):=by have h9:=hAD.len;rw [digs_pos q.den_nz,List.length_cons] at h9;omega
 go_wp2_with fail
 obtain ⟨w3,hW,hz0,hb,q,f⟩:=box1g w2 (w2.heap.size) (by omega) #[.bool (neg (q).num),.slice ahAU nhAU chAU,.slice ahAD nhAD chAD] 28;rw [hW];clear hW;have g1:=g1.past hb;have g2:=g2.past hb;have hAU:=hAU.past hb;have hAD:=hAD.past hb;obtain ⟨qp0,qp1,qp2,lp⟩:=bq3 hb lp qp0 qp1 qp2;have hB:=bLt hB hb;clear hb;have lx:w2.heap.size<w3.heap.size:=by omega
 have qx0:=q 0;have qx1:=q 1;have qx2:=q 2;simp only [lgA,lgZ,lgS] at qx0 qx1 qx2;clear q f;clear hz0
 with_reducible refine (same27 g1 g2 hAU.toNatAt hAD.toNatAt).mono ?_
 rintro e w4 ⟨rfl,hb⟩;obtain ⟨qp0,qp1,qp2,lp⟩:=bq3 hb lp qp0 qp1 qp2;obtain ⟨qx0,qx1,qx2,lx⟩:=bq3 hb lx qx0 qx1 qx2;have hB:=bLt hB hb;clear hb
 go_wp2
 go_ret
 exact ⟨rfl,hB⟩
end
end Go.Proofs.YtkhcblihbalnbaaGreat
