import Derived.Test.YtkhcblihbalnbaaGreatDoorRatio10Pb
import Derived.Test.YtkhcblihbalnbaaGreatDoorDigits8Pb
set_option linter.unusedVariables false
set_option linter.unusedSimpArgs false
set_option maxHeartbeats 8000000
set_option maxRecDepth 100000
namespace Go.Proofs.YtkhcblihbalnbaaGreatDoor
section
open Go.RowKit Go.Shelf
attribute [local go_sem] Oper.semAt_some
def num (l:List Bool):Nat:=l.foldl (fun s b=>2*s+b.toNat) 0
end
section
open Go.RowKit
theorem digs_len_pow (x:Nat):∀ k,(digs (x ^ k)).length≤k*(digs x).length+1
 | 0=>by rw [Nat.pow_zero,Nat.zero_mul];exact nRf _
 | k + 1 => by
   rw [Nat.pow_succ,Nat.succ_mul];have:=digs_len_pow x k;have:=digs_len_prod (x ^ k) x;omega
theorem rlen_pow (q:Rat) (k:Nat):rlen (q ^ k)≤k*rlen q+1:=by
 have h1:=digs_len_pow q.num.natAbs k;have h2:=digs_len_pow q.den k;have h3:k*(digs q.num.natAbs).length≤k*rlen q:=Nat.mul_le_mul_left _ (Nat.le_max_left _ _);have h4:k*(digs q.den).length≤k*rlen q:=Nat.mul_le_mul_left _ (Nat.le_max_right _ _);show max _ _≤_;rw [Rat.num_pow,Rat.den_pow,Int.natAbs_pow];omega
end
section
open Go.RowKit
def textQ (q:Rat):ByteArray:=textB (neg q.num) q.num.natAbs q.den
theorem textE_rat (q:Rat):textE (neg q.num) (digs q.num.natAbs) (digs q.den)=textQ q:=by
 unfold textE textQ;rw [if_pos (chkR_canon q),val_digs,val_digs]
theorem decL_digs (n:Nat):(decL n).length≤20*(digs n).length+1:=by
 have h:=digL_limbs (l:=digs n) (dig_digs n);rw [val_digs] at h;unfold decL
 split
 · simp
 omega
theorem textQ_size {q:Rat} {K:Nat} (h:rlen q≤K):(textQ q).size≤40*K+4:=by
 have h1:=decL_digs q.num.natAbs;have h2:=decL_digs q.den;unfold rlen at h
 have e:(textQ q).size=(textP (neg q.num) q.num.natAbs q.den).length:=by
  unfold textQ textB;simp [ByteArray.size]
 have h3:(textP (neg q.num) q.num.natAbs q.den).length≤2+(decL q.num.natAbs).length+(decL q.den).length:=by
  unfold textP;simp only [List.length_append,decB_len]
  split<;>split<;>simp [decB_len]<;>omega
 omega
theorem text_q (q:Rat) (a1:Option Addr) (n1 c1:Nat) (a2:Option Addr) (n2 c2:Nat) (w:World) (d1:NatAt w a1 n1 c1 (digs q.num.natAbs)) (d2:NatAt w a2 n2 c2 (digs q.den)) (h:rlen q≤1048576) :
 Calls Tryz.prog 69 #[.agg #[.bool (neg q.num),.slice a1 n1 c1,.slice a2 n2 c2]] w (RetVal w (.tuple #[.string (textQ q),.int .i64 0])):=by
 unfold rlen at h;have ht:=text_any (neg q.num) a1 n1 c1 _ a2 n2 c2 _ w d1 d2 (by have:=d1.len;omega) (by have:=d2.len;omega);rw [textE_rat,chkR_canon q] at ht;exact ht
theorem text27_any (q:Rat) (a1:Option Addr) (n1 c1:Nat) (a2:Option Addr) (n2 c2:Nat) (w:World) (d1:NatAt w a1 n1 c1 (digs q.num.natAbs)) (d2:NatAt w a2 n2 c2 (digs q.den)) (h:rlen q≤200) :
 Calls Tryz.prog 39 #[.agg #[.bool (neg q.num),.slice a1 n1 c1,.slice a2 n2 c2]] w (RetVal w (.tuple #[.string (textQ q),.bool true])):=by
 have hz:=textQ_size h;obtain ⟨S,hS⟩:∃ S,textQ q=S:=⟨_,rfl⟩;rw [hS] at hz ⊢;have HS:=hiD hS;have hsz:((S.size:Int)≤10000):=by omega
 have H:=hiD (show rlen q≤1048576 by omega);clear hS h hz
 go_enter Tryz.func39,Tryz.ntmps39
 have hB:=bRf w.heap.size w
 go_wp2_with fail
 obtain ⟨w1,hW,hz0,hb,q,f,qb0,qb1,qb2⟩:=bx3 w (w.heap.size) (by omega) (.bool (neg q.num)) (.slice a1 n1 c1) (.slice a2 n2 c2) 28;rw [hW];clear hW;have d1:=d1.past hb;have d2:=d2.past hb;have hB:=bLt hB hb;clear hb;have lb:w.heap.size<w1.heap.size:=by omega
 clear q f;clear hz0
 with_reducible refine (text_q q _ _ _ _ _ _ _ d1 d2 H.out).mono ?_
 rintro e w2 ⟨rfl,hb⟩;obtain ⟨qb0,qb1,qb2,lb⟩:=bq3 hb lb qb0 qb1 qb2;have hB:=bLt hB hb;clear hb;rw [HS.out]
 go_wp2
 refine bodyPost_ret (v:=.tuple #[.string S,.bool true]) ?_ rfl ⟨rfl,hB⟩;simp [results,Tryz.f39,go_sem,]
theorem kept_yes (k N:Nat) (zs:List Int) (eps F:Rat) (aT:Option Addr) (nT cT:Nat) (a1:Option Addr) (n1 c1:Nat) (a2:Option Addr) (n2 c2:Nat) (a3:Option Addr) (n3 c3:Nat) (a4:Option Addr) (n4 c4:Nat) (w:World) (g:IntsAt w aT nT cT zs) (d1:NatAt w a1 n1 c1 (digs eps.num.natAbs)) (d2:NatAt w a2 n2 c2 (digs eps.den)) (d3:NatAt w a3 n3 c3 (digs F.num.natAbs)) (d4:NatAt w a4 n4 c4 (digs F.den))
 (hok:okT zs (k:Int)) (hk:k≤1024) (hN:N≤4096) (h1:rlen eps≤200) (h2:rlen F≤200) :
 Calls Tryz.prog 36 #[.agg #[.int .i64 (k:Int),.slice aT nT cT,.bool (neg eps.num),.slice a1 n1 c1,.slice a2 n2 c2,.int .i64 (N:Int),.bool (neg F.num),.slice a3 n3 c3,.slice a4 n4 c4]] w (RetVal w (.bool true)):=by
 have hk1:(1:Int)≤(k:Int):=hok.1;have hk2:(k:Int)≤1024:=by omega
 have hN2:(N:Int)≤4096:=by omega
 have H1:=hiD h1;have H2:=hiD h2;have HCK:=hiD (fun (w:World) (g:IntsAt w aT nT cT zs)=>(chkT_yes hok) ▸ soliCheck_any aT nT cT zs (k:Int) w g);clear hok h1 h2
 go_enter Tryz.func36,Tryz.ntmps36
 have hB:=bRf w.heap.size w
 go_wp2_with fail
 obtain ⟨w1,hW,hz0,hb,q,f,qp0,qp1,qp2,qp3,qp4,qp5,qp6,qp7,qp8⟩:=bx9 w (w.heap.size) (by omega) (.int .i64 (k:Int)) (.slice aT nT cT) (.bool (neg eps.num)) (.slice a1 n1 c1) (.slice a2 n2 c2) (.int .i64 (N:Int)) (.bool (neg F.num)) (.slice a3 n3 c3) (.slice a4 n4 c4) 30;rw [hW];clear hW;have g:=g.past hb;have d1:=d1.past hb;have d2:=d2.past hb;have d3:=d3.past hb;have d4:=d4.past hb;have hB:=bLt hB hb;clear hb;have lp:w.heap.size<w1.heap.size:=by omega
 clear q f;clear hz0
 with_reducible refine (text27_any eps _ _ _ _ _ _ _ d1 d2 H1.out).mono ?_
 rintro e w2 ⟨rfl,hb⟩;have g:=g.past hb;have d3:=d3.past hb;have d4:=d4.past hb;obtain ⟨qp0,qp1,qp2,qp3,qp4,qp5,qp6,qp7,qp8,lp⟩:=bq9 hb lp qp0 qp1 qp2 qp3 qp4 qp5 qp6 qp7 qp8;have hB:=bLt hB hb;clear hb
 go_wp2_with fail
 with_reducible refine (text27_any F _ _ _ _ _ _ _ d3 d4 H2.out).mono ?_
 rintro e w3 ⟨rfl,hb⟩;have g:=g.past hb;obtain ⟨qp0,qp1,qp2,qp3,qp4,qp5,qp6,qp7,qp8,lp⟩:=bq9 hb lp qp0 qp1 qp2 qp3 qp4 qp5 qp6 qp7 qp8;have hB:=bLt hB hb;clear hb
 go_wp2_with fail
 with_reducible refine (HCK.out _ g).mono ?_
 rintro e w4 ⟨rfl,hb⟩;obtain ⟨qp0,qp1,qp2,qp3,qp4,qp5,qp6,qp7,qp8,lp⟩:=bq9 hb lp qp0 qp1 qp2 qp3 qp4 qp5 qp6 qp7 qp8;have hB:=bLt hB hb;clear hb
 go_wp2
 go_ret
 exact ⟨rfl,hB⟩
end
section
open Go.RowKit
theorem pair27 {x:Int} {y:Nat} {q:Rat} (hq:mkRat x y=q) (w:World) (hx:-9223372036854775808≤x∧x≤9223372036854775807) (hy:0<y) (hy2:y≤9223372036854775807) :
 Calls Tryz.prog 55 #[.int .i64 x,.int .i64 (y:Int)] w (RetOk w q):=by
 rw [← hq];exact pair_ok (x:=x) (y:=(y:Int)) (q:=mkRat x y) (by omega) (pr_pos hy) w hx (by omega)
theorem same27 {q:Rat} {a1:Option Addr} {n1 c1:Nat} {a2:Option Addr} {n2 c2:Nat} {a3:Option Addr} {n3 c3:Nat} {a4:Option Addr} {n4 c4:Nat} {w:World} (g1:NatAt w a1 n1 c1 (digs q.num.natAbs)) (g2:NatAt w a2 n2 c2 (digs q.den)) (g3:NatAt w a3 n3 c3 (digs q.num.natAbs)) (g4:NatAt w a4 n4 c4 (digs q.den)) :
 Calls Tryz.prog 19 #[.agg #[.bool (neg q.num),.slice a1 n1 c1,.slice a2 n2 c2],.agg #[.bool (neg q.num),.slice a3 n3 c3,.slice a4 n4 c4]] w (RetVal w (.bool true)):=by
 have h:=sameRatio_any (neg q.num) _ _ _ _ _ _ _ _ (neg q.num) _ _ _ _ _ _ _ _ w g1 g2 g3 g4
 rwa [show eqR (neg q.num) (digs q.num.natAbs) (digs q.den) (neg q.num) (digs q.num.natAbs) (digs q.den)=true by simp [eqR]] at h
theorem part27 {x:Int} {y:Nat} {q:Rat} (hq:mkRat x y=q) (w:World) (hx:-9223372036854775808≤x∧x≤9223372036854775807) (hy:0<y) (hy2:y≤9223372036854775807) :
 Calls Tryz.prog 25 #[.int .i64 x,.int .i64 (y:Int)] w (RetCopyR w (neg q.num) (digs q.num.natAbs) (digs q.den)):=by
 have HP:=hiD (fun w=>pair27 hq w hx hy hy2);clear hq
 go_enter Tryz.func25,Tryz.ntmps25
 have hB:=bRf w.heap.size w
 go_wp2_with fail
 obtain ⟨w1,hW,hz0,hb,q,f,qr0,qr1,qr2⟩:=bx3 w (w.heap.size) (by omega) (.bool false) (.slice none 0 0) (.slice none 0 0) 28;rw [hW];clear hW;have hB:=bLt hB hb;clear hb;have lr:w.heap.size<w1.heap.size:=by omega
 have xr:BoxAt w1 (w.heap.size) 3:=BoxAt.of q f rfl (by simp [notU_bool,notU_slice,notU_i64]);clear q f;clear hz0
 with_reducible refine (HP.out _).mono ?_
 rintro e w2 ⟨ahAU,nhAU,chAU,ahAD,nhAD,chAD,rfl,hAU,hAD,hb⟩;have hAU:=hAU.mono hB.size;have hAD:=hAD.mono hB.size;have xr:=xr.past hb lr;obtain ⟨qr0,qr1,qr2,lr⟩:=bq3 hb lr qr0 qr1 qr2;have hB:=bLt hB hb;clear hb;have zf0:=xr.f 0 (by decide);have zf1:=xr.f 1 (by decide);have zf2:=xr.f 2 (by decide)
 go_wp2
 have zf0:=xr.f 0 (by decide);have zf1:=xr.f 1 (by decide);have zf2:=xr.f 2 (by decide);obtain ⟨w3,hW,hO,qN0,qN1,qN2,xN⟩:=store3 xr (.bool (neg (q).num)) (.slice ahAU nhAU chAU) (.slice ahAD nhAD chAD) (nu rfl) (nu rfl) (nu rfl);try rw [hW]
 clear hW;have hAU:=hO.own hAU;have hAD:=hO.own hAD;have lr:w.heap.size<w3.heap.size:=by rw [hO.size];exact lr
 have qr0:=qN0;have qr1:=qN1;have qr2:=qN2;have xr:=xN;have hB:=hO.below (by omega) hB;clear hO qN0 qN1 qN2 xN zf0 zf1 zf2;obtain ⟨w4,hW,hz0,hb,q,f,qx0,qx1,qx2⟩:=bx3 w3 (w3.heap.size) (by omega) (.bool (neg (q).num)) (.slice ahAU nhAU chAU) (.slice ahAD nhAD chAD) 28;rw [hW];clear hW;have hAU:=hAU.past hb;have hAD:=hAD.past hb;have xr:=xr.past hb lr;obtain ⟨qr0,qr1,qr2,lr⟩:=bq3 hb lr qr0 qr1 qr2;have hB:=bLt hB hb;clear hb;have lx:w3.heap.size<w4.heap.size:=by omega
 clear q f;clear hz0;refine bodyPost_ret (v:=.agg #[.bool (neg q.num),.slice ahAU nhAU chAU,.slice ahAD nhAD chAD]) ?_ rfl ⟨_,_,_,_,_,_,rfl,hAU,hAD,hB⟩;simp [results,Tryz.f25,go_sem,qr0,qr1,qr2]
theorem is27 {x:Int} {y:Nat} {q:Rat} (hq:mkRat x y=q) (hx:-9223372036854775808≤x∧x≤9223372036854775807) (hy:0<y) (hy2:y≤9223372036854775807) {a1:Option Addr} {n1 c1:Nat} {a2:Option Addr} {n2 c2:Nat} {w:World} (g1:NatAt w a1 n1 c1 (digs q.num.natAbs)) (g2:NatAt w a2 n2 c2 (digs q.den)) :
 Calls Tryz.prog 26 #[.agg #[.bool (neg q.num),.slice a1 n1 c1,.slice a2 n2 c2],.int .i64 0,.int .i64 x,.int .i64 (y:Int)] w (RetVal w (.bool true)):=by
 have HP:=hiD (fun w=>part27 hq w hx hy hy2);clear hq
 go_enter Tryz.func26,Tryz.ntmps26
 have hB:=bRf w.heap.size w
 go_wp2_with fail
 obtain ⟨w1,hW,hz0,hb,q,f,qp0,qp1,qp2⟩:=bx3 w (w.heap.size) (by omega) (.bool (neg q.num)) (.slice a1 n1 c1) (.slice a2 n2 c2) 28;rw [hW];clear hW;have g1:=g1.past hb;have g2:=g2.past hb;have hB:=bLt hB hb;clear hb;have lp:w.heap.size<w1.heap.size:=by omega
 clear q f;clear hz0
 with_reducible refine (HP.out _).mono ?_
 rintro e w2 ⟨ahAU,nhAU,chAU,ahAD,nhAD,chAD,rfl,hAU,hAD,hb⟩;have g1:=g1.past hb;have g2:=g2.past hb;obtain ⟨qp0,qp1,qp2,lp⟩:=bq3 hb lp qp0 qp1 qp2;have hB:=bLt hB hb;clear hb;have hpos:(0:Int)<(nhAD:Int):=by have h9:=hAD.len;rw [digs_pos q.den_nz,List.length_cons] at h9;omega
 go_wp2_with fail
 obtain ⟨w3,hW,hz0,hb,q,f,qx0,qx1,qx2⟩:=bx3 w2 (w2.heap.size) (by omega) (.bool (neg (q).num)) (.slice ahAU nhAU chAU) (.slice ahAD nhAD chAD) 28;rw [hW];clear hW;have g1:=g1.past hb;have g2:=g2.past hb;have hAU:=hAU.past hb;have hAD:=hAD.past hb;obtain ⟨qp0,qp1,qp2,lp⟩:=bq3 hb lp qp0 qp1 qp2;have hB:=bLt hB hb;clear hb;have lx:w2.heap.size<w3.heap.size:=by omega
 clear q f;clear hz0
 with_reducible refine (same27 g1 g2 hAU.toNatAt hAD.toNatAt).mono ?_
 rintro e w4 ⟨rfl,hb⟩;obtain ⟨qp0,qp1,qp2,lp⟩:=bq3 hb lp qp0 qp1 qp2;obtain ⟨qx0,qx1,qx2,lx⟩:=bq3 hb lx qx0 qx1 qx2;have hB:=bLt hB hb;clear hb
 go_wp2
 go_ret
 exact ⟨rfl,hB⟩
end
end Go.Proofs.YtkhcblihbalnbaaGreatDoor
