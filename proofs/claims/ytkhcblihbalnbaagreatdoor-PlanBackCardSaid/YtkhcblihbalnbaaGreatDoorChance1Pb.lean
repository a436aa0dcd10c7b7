import Derived.Test.YtkhcblihbalnbaaGreatDoorRatio6Pb
import Derived.Test.YtkhcblihbalnbaaGreatDoorBinom1Pb
set_option linter.unusedVariables false
set_option linter.unusedSimpArgs false
set_option maxHeartbeats 16000000
set_option maxRecDepth 100000
namespace Go.Proofs.YtkhcblihbalnbaaGreatDoor
section
open Go.RowKit
def refA (zs:List Int) (k u:Int):Int:=if 1≤k∧k≤1024∧0≤u∧u≤k then chkT zs k else 3
theorem refuses_no (a:Option Addr) (n c:Nat) (zs:List Int) (k u:Int) (w:World) (h:¬ (1≤k∧k≤1024∧0≤u∧u≤k)) :
 Calls Tryz.prog 250 #[.slice a n c,.int .i64 k,.int .i64 u] w (RetVal w (.int .i64 3)):=by
 have hc:¬ 1≤k∨(1≤k∧¬ k≤1024)∨(1≤k∧k≤1024∧¬ 0≤u)∨(1≤k∧k≤1024∧0≤u∧¬ u≤k):=by omega
 clear h;rcases hc with h1 | ⟨h1,h2⟩ | ⟨h1,h2,h3⟩ | ⟨h1,h2,h3,h4⟩
 all_goals
  go_enter Tryz.func250,Tryz.ntmps250
  go_wp2
  go_ret
  exact ⟨rfl,bRf _ _⟩
theorem refuses_bad (a:Option Addr) (n c:Nat) (zs:List Int) (k u:Int) (w:World) (g:IntsAt w a n c zs) (h1:1≤k) (h2:k≤1024) (h3:0≤u) (h4:u≤k) (h5:¬ okT zs k) :
 Calls Tryz.prog 250 #[.slice a n c,.int .i64 k,.int .i64 u] w (RetVal w (.int .i64 13)):=by
 have hc:=chkT_no h5;have HC:=hiD hc;clear hc h5
 go_enter Tryz.func250,Tryz.ntmps250
 have hB:=bRf w.heap.size w
 go_wp2_with fail
 with_reducible refine (soliCheck_any _ _ _ zs k _ g).mono ?_
 rintro e w1 ⟨rfl,hb⟩;have hB:=bLt hB hb;clear hb;rw [HC.out]
 go_wp2
 go_ret
 exact ⟨rfl,hB⟩
theorem refuses_ok (a:Option Addr) (n c:Nat) (zs:List Int) (k u:Int) (w:World) (g:IntsAt w a n c zs) (h1:1≤k) (h2:k≤1024) (h3:0≤u) (h4:u≤k) (h5:okT zs k) :
 Calls Tryz.prog 250 #[.slice a n c,.int .i64 k,.int .i64 u] w (RetVal w (.int .i64 0)):=by
 have hc:=chkT_yes h5;have HC:=hiD hc;clear hc h5
 go_enter Tryz.func250,Tryz.ntmps250
 have hB:=bRf w.heap.size w
 go_wp2_with fail
 with_reducible refine (soliCheck_any _ _ _ zs k _ g).mono ?_
 rintro e w1 ⟨rfl,hb⟩;have hB:=bLt hB hb;clear hb;rw [HC.out]
 go_wp2
 go_ret
 exact ⟨rfl,hB⟩
theorem refuses_any (a:Option Addr) (n c:Nat) (zs:List Int) (k u:Int) (w:World) (g:IntsAt w a n c zs) :
 Calls Tryz.prog 250 #[.slice a n c,.int .i64 k,.int .i64 u] w (RetVal w (.int .i64 (refA zs k u))):=by
 unfold refA
 by_cases h:1≤k∧k≤1024∧0≤u∧u≤k
 · rw [if_pos h];obtain ⟨h1,h2,h3,h4⟩:=h
   by_cases h5:okT zs k
   · rw [chkT_yes h5];exact refuses_ok a n c zs k u w g h1 h2 h3 h4 h5
   rw [chkT_no h5];exact refuses_bad a n c zs k u w g h1 h2 h3 h4 h5
 rw [if_neg h];exact refuses_no a n c zs k u w h
theorem cpair_any (x:Int) (y:Nat) (w:World) (hx:-9223372036854775808≤x∧x≤9223372036854775807) (hy:0<y) (hy2:y≤9223372036854775807) :
 Calls Tryz.prog 256 #[.int .i64 x,.int .i64 (y:Int)] w (RetRat w (mkRat x y)):=by
 have hp:=fun w=>pair_ok (x:=x) (y:=(y:Int)) (q:=mkRat x y) (by omega) (pr_pos hy) w hx (by omega)
 have HP:=hiD hp;obtain ⟨Q,hQ⟩:∃ Q,mkRat x y=Q:=⟨_,rfl⟩;rw [hQ] at HP ⊢;clear hp hQ
 go_enter Tryz.func256,Tryz.ntmps256
 have hB:=bRf w.heap.size w
 go_wp2_with fail
 obtain ⟨w1,hW,hz0,hb,q,f,qr0,qr1,qr2⟩:=bx3 w (w.heap.size) (by omega) (.bool false) (.slice none 0 0) (.slice none 0 0) 28;rw [hW];clear hW;have hB:=bLt hB hb;clear hb;have lr:w.heap.size<w1.heap.size:=by omega
 have xr:BoxAt w1 (w.heap.size) 3:=BoxAt.of q f rfl (by simp [notU_bool,notU_slice,notU_i64]);clear q f;clear hz0
 with_reducible refine (HP.out _).mono ?_
 rintro e w2 ⟨ahAU,nhAU,chAU,ahAD,nhAD,chAD,rfl,hAU,hAD,hb⟩;have hAU:=hAU.mono hB.size;have hAD:=hAD.mono hB.size;have xr:=xr.past hb lr;obtain ⟨qr0,qr1,qr2,lr⟩:=bq3 hb lr qr0 qr1 qr2;have hB:=bLt hB hb;clear hb;have zf0:=xr.f 0 (by decide);have zf1:=xr.f 1 (by decide);have zf2:=xr.f 2 (by decide)
 go_wp2
 have zf0:=xr.f 0 (by decide);have zf1:=xr.f 1 (by decide);have zf2:=xr.f 2 (by decide);obtain ⟨w3,hW,hO,qN0,qN1,qN2,xN⟩:=store3 xr (.bool (neg (Q).num)) (.slice ahAU nhAU chAU) (.slice ahAD nhAD chAD) (nu rfl) (nu rfl) (nu rfl);try rw [hW]
 clear hW;have hAU:=hO.own hAU;have hAD:=hO.own hAD;have lr:w.heap.size<w3.heap.size:=by rw [hO.size];exact lr
 have qr0:=qN0;have qr1:=qN1;have qr2:=qN2;have xr:=xN;have hB:=hO.below (by omega) hB;clear hO qN0 qN1 qN2 xN zf0 zf1 zf2;obtain ⟨w4,hW,hz0,hb,q,f,qx0,qx1,qx2⟩:=bx3 w3 (w3.heap.size) (by omega) (.bool (neg (Q).num)) (.slice ahAU nhAU chAU) (.slice ahAD nhAD chAD) 28;rw [hW];clear hW;have hAU:=hAU.past hb;have hAD:=hAD.past hb;have xr:=xr.past hb lr;obtain ⟨qr0,qr1,qr2,lr⟩:=bq3 hb lr qr0 qr1 qr2;have hB:=bLt hB hb;clear hb;have lx:w3.heap.size<w4.heap.size:=by omega
 clear q f;clear hz0;refine bodyPost_ret (v:=.agg #[.bool (neg Q.num),.slice ahAU nhAU chAU,.slice ahAD nhAD chAD]) ?_ rfl ⟨_,_,_,_,_,_,rfl,hAU,hAD,hB⟩;simp [results,Tryz.f256,go_sem,qr0,qr1,qr2]
theorem plus_any (p q:Rat) (a1:Option Addr) (n1 c1:Nat) (a2:Option Addr) (n2 c2:Nat) (a3:Option Addr) (n3 c3:Nat) (a4:Option Addr) (n4 c4:Nat) (w:World) (g1:NatAt w a1 n1 c1 (digs p.num.natAbs)) (g2:NatAt w a2 n2 c2 (digs p.den)) (g3:NatAt w a3 n3 c3 (digs q.num.natAbs)) (g4:NatAt w a4 n4 c4 (digs q.den)) (h1:rlen p≤1048576) (h2:rlen q≤1048576) :
 Calls Tryz.prog 263 #[.agg #[.bool (neg p.num),.slice a1 n1 c1,.slice a2 n2 c2],.agg #[.bool (neg q.num),.slice a3 n3 c3,.slice a4 n4 c4]] w (RetRat w (p+q)):=by
 obtain ⟨S,hS⟩:∃ S,p+q=S:=⟨_,rfl⟩;rw [hS];have HS:=hiD hS;clear hS
 go_enter Tryz.func263,Tryz.ntmps263
 have hB:=bRf w.heap.size w
 go_wp2_with fail
 obtain ⟨w1,hW,hz0,hb,q,f,qa0,qa1,qa2⟩:=bx3 w (w.heap.size) (by omega) (.bool (neg p.num)) (.slice a1 n1 c1) (.slice a2 n2 c2) 28;rw [hW];clear hW;have g1:=g1.past hb;have g2:=g2.past hb;have g3:=g3.past hb;have g4:=g4.past hb;have hB:=bLt hB hb;clear hb;have la:w.heap.size<w1.heap.size:=by omega
 clear q f;obtain ⟨w2,hW,hz1,hb,q,f,qb0,qb1,qb2⟩:=bx3 w1 (w.heap.size+1) (by omega) (.bool (neg q.num)) (.slice a3 n3 c3) (.slice a4 n4 c4) 28;rw [hW];clear hW;have g1:=g1.past hb;have g2:=g2.past hb;have g3:=g3.past hb;have g4:=g4.past hb;obtain ⟨qa0,qa1,qa2,la⟩:=bq3 hb la qa0 qa1 qa2;have hB:=bLt hB hb;clear hb;have lb:w.heap.size+1<w2.heap.size:=by omega
 clear q f;obtain ⟨w3,hW,hz2,hb,q,f,qr0,qr1,qr2⟩:=bx3 w2 (w.heap.size+1+1) (by omega) (.bool false) (.slice none 0 0) (.slice none 0 0) 28;rw [hW];clear hW;have g1:=g1.past hb;have g2:=g2.past hb;have g3:=g3.past hb;have g4:=g4.past hb;obtain ⟨qa0,qa1,qa2,la⟩:=bq3 hb la qa0 qa1 qa2;obtain ⟨qb0,qb1,qb2,lb⟩:=bq3 hb lb qb0 qb1 qb2;have hB:=bLt hB hb;clear hb;have lr:w.heap.size+1+1<w3.heap.size:=by omega
 have xr:BoxAt w3 (w.heap.size+1+1) 3:=BoxAt.of q f rfl (by simp [notU_bool,notU_slice,notU_i64]);clear q f;obtain ⟨w4,hW,hz3,hb,q,f⟩:=box1g w3 (w.heap.size+1+1+1) (by omega) #[.bool (neg p.num),.slice a1 n1 c1,.slice a2 n2 c2,.bool (neg q.num),.slice a3 n3 c3,.slice a4 n4 c4] 28;rw [hW];clear hW;have g1:=g1.past hb;have g2:=g2.past hb;have g3:=g3.past hb;have g4:=g4.past hb;obtain ⟨qa0,qa1,qa2,la⟩:=bq3 hb la qa0 qa1 qa2;obtain ⟨qb0,qb1,qb2,lb⟩:=bq3 hb lb qb0 qb1 qb2;have xr:=xr.past hb lr;obtain ⟨qr0,qr1,qr2,lr⟩:=bq3 hb lr qr0 qr1 qr2;have hB:=bLt hB hb;clear hb;have ll:w.heap.size+1+1+1<w4.heap.size:=by omega
 have ql0:=q 0;have ql1:=q 1;have ql2:=q 2;have ql3:=q 3;have ql4:=q 4;have ql5:=q 5;simp only [lgA,lgZ,lgS] at ql0 ql1 ql2 ql3 ql4 ql5;clear q f;clear hz0;clear hz1;clear hz2;clear hz3
 with_reducible refine (add_two (RatsAt.two ll ql0 ql1 ql2 ql3 ql4 ql5 g1 g2 g3 g4) h1 h2).mono ?_
 rintro e w5 ⟨ahAU,nhAU,chAU,ahAD,nhAD,chAD,rfl,hAU,hAD,hb⟩;have hAU:=hAU.mono hB.size;have hAD:=hAD.mono hB.size;have g1:=g1.past hb;have g2:=g2.past hb;have g3:=g3.past hb;have g4:=g4.past hb;obtain ⟨qa0,qa1,qa2,la⟩:=bq3 hb la qa0 qa1 qa2;obtain ⟨qb0,qb1,qb2,lb⟩:=bq3 hb lb qb0 qb1 qb2;have xr:=xr.past hb lr;obtain ⟨qr0,qr1,qr2,lr⟩:=bq3 hb lr qr0 qr1 qr2;have ql0:=bq hb ll ql0;have ql1:=bq hb ll ql1;have ql2:=bq hb ll ql2;have ql3:=bq hb ll ql3;have ql4:=bq hb ll ql4;have ql5:=bq hb ll ql5;have ll:=bl hb ll;have hB:=bLt hB hb;clear hb;rw [HS.out] at hAU hAD ⊢;have zf0:=xr.f 0 (by decide);have zf1:=xr.f 1 (by decide);have zf2:=xr.f 2 (by decide)
 go_wp2
 have zf0:=xr.f 0 (by decide);have zf1:=xr.f 1 (by decide);have zf2:=xr.f 2 (by decide);obtain ⟨w6,hW,hO,qN0,qN1,qN2,xN⟩:=store3 xr (.bool (neg (S).num)) (.slice ahAU nhAU chAU) (.slice ahAD nhAD chAD) (nu rfl) (nu rfl) (nu rfl);try rw [hW]
 clear hW;have g1:=hO.nat g1;have g2:=hO.nat g2;have g3:=hO.nat g3;have g4:=hO.nat g4;have hAU:=hO.own hAU;have hAD:=hO.own hAD;have qa0:=(hO.cell (b2:=w.heap.size) (k:=0) (by omega)).trans qa0;have qa1:=(hO.cell (b2:=w.heap.size) (k:=1) (by omega)).trans qa1;have qa2:=(hO.cell (b2:=w.heap.size) (k:=2) (by omega)).trans qa2;have la:w.heap.size<w6.heap.size:=by rw [hO.size];exact la
 have qb0:=(hO.cell (b2:=w.heap.size+1) (k:=0) (by omega)).trans qb0;have qb1:=(hO.cell (b2:=w.heap.size+1) (k:=1) (by omega)).trans qb1;have qb2:=(hO.cell (b2:=w.heap.size+1) (k:=2) (by omega)).trans qb2;have lb:w.heap.size+1<w6.heap.size:=by rw [hO.size];exact lb
 have lr:w.heap.size+1+1<w6.heap.size:=by rw [hO.size];exact lr
 have ql0:=(hO.cell (b2:=w.heap.size+1+1+1) (k:=0) (by omega)).trans ql0;have ql1:=(hO.cell (b2:=w.heap.size+1+1+1) (k:=1) (by omega)).trans ql1;have ql2:=(hO.cell (b2:=w.heap.size+1+1+1) (k:=2) (by omega)).trans ql2;have ql3:=(hO.cell (b2:=w.heap.size+1+1+1) (k:=3) (by omega)).trans ql3;have ql4:=(hO.cell (b2:=w.heap.size+1+1+1) (k:=4) (by omega)).trans ql4;have ql5:=(hO.cell (b2:=w.heap.size+1+1+1) (k:=5) (by omega)).trans ql5;have ll:w.heap.size+1+1+1<w6.heap.size:=by rw [hO.size];exact ll
 have qr0:=qN0;have qr1:=qN1;have qr2:=qN2;have xr:=xN;have hB:=hO.below (by omega) hB;clear hO qN0 qN1 qN2 xN zf0 zf1 zf2;obtain ⟨w7,hW,hz0,hb,q,f,qx0,qx1,qx2⟩:=bx3 w6 (w6.heap.size) (by omega) (.bool (neg (S).num)) (.slice ahAU nhAU chAU) (.slice ahAD nhAD chAD) 28;rw [hW];clear hW;have hAU:=hAU.past hb;have hAD:=hAD.past hb;obtain ⟨qa0,qa1,qa2,la⟩:=bq3 hb la qa0 qa1 qa2;obtain ⟨qb0,qb1,qb2,lb⟩:=bq3 hb lb qb0 qb1 qb2;have xr:=xr.past hb lr;obtain ⟨qr0,qr1,qr2,lr⟩:=bq3 hb lr qr0 qr1 qr2;have ql0:=bq hb ll ql0;have ql1:=bq hb ll ql1;have ql2:=bq hb ll ql2;have ql3:=bq hb ll ql3;have ql4:=bq hb ll ql4;have ql5:=bq hb ll ql5;have ll:=bl hb ll;have hB:=bLt hB hb;clear hb;have lx:w6.heap.size<w7.heap.size:=by omega
 clear q f;clear hz0;refine bodyPost_ret (v:=.agg #[.bool (neg S.num),.slice ahAU nhAU chAU,.slice ahAD nhAD chAD]) ?_ rfl ⟨_,_,_,_,_,_,rfl,hAU,hAD,hB⟩;simp [results,Tryz.f263,go_sem,qr0,qr1,qr2]
def chz (n:Nat) (k:Int):Nat:=if 0≤k∧k≤(n:Int) then ch n k.toNat else 0
def meetsR (k u j d:Nat):Rat:=mkRat ((ch u j*chz (k-u) ((d:Int)-(j:Int)):Nat):Int) (ch k d)
theorem chooseI (n:Nat) (y0 x y:Int) (w:World) (hx:x=(n:Int)) (hy:y=y0) (hn:n≤65536):Calls Tryz.prog 254 #[.int .i64 x,.int .i64 y] w (RetNE w (chz n y0) 0):=by
 subst hx;subst hy;unfold chz
 by_cases h:0≤y∧y≤(n:Int)
 · rw [if_pos h];obtain ⟨k,rfl⟩:∃ k:Nat,y=k:=⟨y.toNat,by omega⟩;exact choose_in n k w hn (by omega)
 rw [if_neg h];refine (choose_out n y w hn (by omega)).mono ?_;rintro e w' ⟨rfl,hb⟩;exact ⟨none,0,0,rfl,OwnAt.nil _ _,hb⟩
theorem chz_len {n:Nat} (hn:n≤65536) (k:Int):(digs (chz n k)).length≤65537:=by
 unfold chz
 split
 · have:=ch_len (n:=n) (by omega) k.toNat;omega
 exact Nat.zero_le _
theorem smake_nat {N:Nat} {a:Option Addr} {n c:Nat} {w:World} (g:NatAt w a n c (digs N)) (hs:n≤1099511627776):Calls Tryz.prog 77 #[.bool false,.slice a n c] w (RetInt w (N:Int)):=by
 have h:=make_any false a n c (digs N) w g hs;rw [val_digs] at h;exact h
theorem meets_any (k u j d:Nat) (w:World) (hk:k≤1024) (hu:u≤k) (hj:j≤u) (hd:d≤k) :
 Calls Tryz.prog 262 #[.int .i64 (k:Int),.int .i64 (u:Int),.int .i64 (j:Int),.int .i64 (d:Int)] w (RetRat w (meetsR k u j d)):=by
 unfold meetsR;have l1:=ch_len (n:=u) (by omega) j;have l2:=chz_len (n:=k-u) (by omega) ((d:Int)-(j:Int));have l3:=ch_len (n:=k) (by omega) d;have hp:ch k d≠0:=Nat.pos_iff_ne_zero.1 (ch_pos hd);obtain ⟨A,hA⟩:∃ A,ch u j=A:=⟨_,rfl⟩;obtain ⟨B,hB0⟩:∃ B,chz (k-u) ((d:Int)-(j:Int))=B:=⟨_,rfl⟩;obtain ⟨T,hT⟩:∃ T,ch k d=T:=⟨_,rfl⟩;rw [hA] at l1 ⊢;rw [hB0] at l2 ⊢;rw [hT] at l3 hp ⊢;have l4:(digs (A*B)).length≤1025+65537:=nTr (digs_len_prod A B) (by omega);obtain ⟨N,hN⟩:∃ N,A*B=N:=⟨_,rfl⟩;rw [hN] at l4 ⊢;obtain ⟨Q,hQ⟩:∃ Q,mkRat (N:Int) T=Q:=⟨_,rfl⟩;rw [hQ]
 have hmk:makeR (neg (N:Int)) (digs (N:Int).natAbs) (digs T) = .ok Q:=by
  unfold makeR;rw [if_neg (by rw [chkZ_canon];simp),if_neg (by rw [val_digs];exact hp),sg_canon,val_digs,hQ]
 have HA:=hiD hA;have HB:=hiD hB0;have HT:=hiD hT;have HN:=hiD hN;have HMK:=hiD hmk;have L1:=hiD (show (digs A).length≤1025 by omega);have L2:=hiD l2;have L3:=hiD (show (digs T).length≤1025 by omega);have L4:=hiD (show (digs (N:Int).natAbs).length≤66562 by rw [Int.natAbs_natCast];exact l4);clear hA hB0 hT hN hmk l1 l2 l3 l4 hp hQ
 go_enter Tryz.func262,Tryz.ntmps262
 have hB:=bRf w.heap.size w
 go_wp2_with fail
 obtain ⟨w1,hW,hz0,hb,q,f,qr0,qr1,qr2⟩:=bx3 w (w.heap.size) (by omega) (.bool false) (.slice none 0 0) (.slice none 0 0) 28;rw [hW];clear hW;have hB:=bLt hB hb;clear hb;have lr:w.heap.size<w1.heap.size:=by omega
 have xr:BoxAt w1 (w.heap.size) 3:=BoxAt.of q f rfl (by simp [notU_bool,notU_slice,notU_i64]);clear q f;clear hz0
 with_reducible refine (choose_in u j _ (by omega) hj).mono ?_
 rintro e w2 ⟨ahA,nhA,chA,rfl,hA,hb⟩;have hA:=hA.mono hB.size;have xr:=xr.past hb lr;obtain ⟨qr0,qr1,qr2,lr⟩:=bq3 hb lr qr0 qr1 qr2;have hB:=bLt hB hb;clear hb;rw [HA.out] at hA
 go_wp2_with fail
 with_reducible refine (chooseI (k-u) ((d:Int)-(j:Int)) _ _ _ (by first | omega | (unfold wrap64;omega)) (by first | omega | (unfold wrap64;omega)) (by omega)).mono ?_
 rintro e w3 ⟨ahC,nhC,chC,rfl,hC,hb⟩;have hC:=hC.mono hB.size;have hA:=hA.past hb;have xr:=xr.past hb lr;obtain ⟨qr0,qr1,qr2,lr⟩:=bq3 hb lr qr0 qr1 qr2;have hB:=bLt hB hb;clear hb;rw [HB.out] at hC
 go_wp2_with fail
 with_reducible refine (choose_in k d _ (by omega) hd).mono ?_
 rintro e w4 ⟨ahT,nhT,chT,rfl,hT,hb⟩;have hT:=hT.mono hB.size;have hA:=hA.past hb;have hC:=hC.past hb;have xr:=xr.past hb lr;obtain ⟨qr0,qr1,qr2,lr⟩:=bq3 hb lr qr0 qr1 qr2;have hB:=bLt hB hb;clear hb;rw [HT.out] at hT
 go_wp2_with fail
 with_reducible refine (tmul_any _ _ _ (digs A) _ _ _ (digs B) _ hA.toNatAt hC.toNatAt (by have:=hA.len;have:=L1.out;omega) (by have:=hC.len;have:=L2.out;omega)).mono ?_
 rintro e w5 ⟨aM,nM,cM,rfl,hM,hb⟩;have hM:=hM.mono hB.size;have hT:=hT.past hb;have xr:=xr.past hb lr;obtain ⟨qr0,qr1,qr2,lr⟩:=bq3 hb lr qr0 qr1 qr2;have hB:=bLt hB hb;clear hb;rw [val_digs,val_digs,HN.out] at hM
 go_wp2_with fail
 with_reducible refine (smake_nat hM.toNatAt (by have:=hM.len;have:=L4.out;rw [Int.natAbs_natCast] at this;omega)).mono ?_
 rintro e w6 ⟨aI,nI,cI,rfl,hI,hb⟩;have hI:=hI.mono hB.size;have hT:=hT.past hb;have xr:=xr.past hb lr;obtain ⟨qr0,qr1,qr2,lr⟩:=bq3 hb lr qr0 qr1 qr2;have hB:=bLt hB hb;clear hb
 go_wp2_with fail
 with_reducible refine (make_okR hI.toNatAt hT.toNatAt HMK.out (by have:=hI.len;have:=L4.out;omega) (by have:=hT.len;have:=L3.out;omega)).mono ?_
 rintro e w7 ⟨ahRU,nhRU,chRU,ahRD,nhRD,chRD,rfl,hRU,hRD,hb⟩;have hRU:=hRU.mono hB.size;have hRD:=hRD.mono hB.size;have xr:=xr.past hb lr;obtain ⟨qr0,qr1,qr2,lr⟩:=bq3 hb lr qr0 qr1 qr2;have hB:=bLt hB hb;clear hb;have zf0:=xr.f 0 (by decide);have zf1:=xr.f 1 (by decide);have zf2:=xr.f 2 (by decide)
 go_wp2
 have zf0:=xr.f 0 (by decide);have zf1:=xr.f 1 (by decide);have zf2:=xr.f 2 (by decide);obtain ⟨w8,hW,hO,qN0,qN1,qN2,xN⟩:=store3 xr (.bool (neg (Q).num)) (.slice ahRU nhRU chRU) (.slice ahRD nhRD chRD) (nu rfl) (nu rfl) (nu rfl);try rw [hW]
 clear hW;have hRU:=hO.own hRU;have hRD:=hO.own hRD;have lr:w.heap.size<w8.heap.size:=by rw [hO.size];exact lr
 have qr0:=qN0;have qr1:=qN1;have qr2:=qN2;have xr:=xN;have hB:=hO.below (by omega) hB;clear hO qN0 qN1 qN2 xN zf0 zf1 zf2;obtain ⟨w9,hW,hz0,hb,q,f,qx0,qx1,qx2⟩:=bx3 w8 (w8.heap.size) (by omega) (.bool (neg (Q).num)) (.slice ahRU nhRU chRU) (.slice ahRD nhRD chRD) 28;rw [hW];clear hW;have hRU:=hRU.past hb;have hRD:=hRD.past hb;have xr:=xr.past hb lr;obtain ⟨qr0,qr1,qr2,lr⟩:=bq3 hb lr qr0 qr1 qr2;have hB:=bLt hB hb;clear hb;have lx:w8.heap.size<w9.heap.size:=by omega
 clear q f;clear hz0;refine bodyPost_ret (v:=.agg #[.bool (neg Q.num),.slice ahRU nhRU chRU,.slice ahRD nhRD chRD]) ?_ rfl ⟨_,_,_,_,_,_,rfl,hRU,hRD,hB⟩;simp [results,Tryz.f262,go_sem,qr0,qr1,qr2]
end
section
open Go.RowKit Go.Shelf
attribute [local go_sem] Oper.semAt_some
theorem meets_len {k u j d:Nat} (hk:k≤1024) (hu:u≤k) (hj:j≤u) (hd:d≤k):rlen (meetsR k u j d)≤k+2:=by
 unfold meetsR;have l1:=ch_len (n:=u) (by omega) j;have l3:=ch_len (n:=k) (by omega) d
 have l2:(digs (chz (k-u) ((d:Int)-(j:Int)))).length≤k-u+1:=by
  unfold chz
  split
  · rename_i h;have:=ch_len (n:=k-u) (by omega) ((d:Int)-(j:Int)).toNat;omega
  exact Nat.zero_le _
 have l4:=digs_len_prod (ch u j) (chz (k-u) ((d:Int)-(j:Int)));exact rlen_mkRat (Nat.pos_iff_ne_zero.1 (ch_pos hd)) (by rw [Int.natAbs_natCast];omega) (by omega)
def inE (g:Nat→Int) (T k u j i:Nat):Rat:=mkRat (g i) T*meetsR k u j (i+1)
theorem in1_in (f:Nat) (hf:1≤f) (lp bT bS bK bU bJ:Nat) (a:Option Addr) (n c:Nat) (zs:List Int) (T k u j:Nat) (w0:World) (g:IntsAt w0 a n c zs) (hok:okT zs (k:Int)) (hT0:0<T) (hT1:T<9223372036854775808) (hk:k≤1024) (hu:u≤k) (hj:j≤u)
 (lT:bT<w0.heap.size) (lS:bS<w0.heap.size) (lK:bK<w0.heap.size) (lU:bU<w0.heap.size) (lJ:bJ<w0.heap.size)
 (qT0:w0.cell? ⟨bT,0,none⟩=some (.slice a n c)) (qS0:w0.cell? ⟨bS,0,none⟩=some (.int .i64 (T:Int))) (qK0:w0.cell? ⟨bK,0,none⟩=some (.int .i64 (k:Int))) (qU0:w0.cell? ⟨bU,0,none⟩=some (.int .i64 (u:Int))) (qJ0:w0.cell? ⟨bJ,0,none⟩=some (.int .i64 (j:Int)))
 (J:Nat→World→Prop)
 (hY : ∀ i (a1 : Option Addr) (n1 c1 : Nat) (a2 : Option Addr) (n2 c2 : Nat) W, i < n → J i W → Below w0.heap.size w0 W → NatAt W a1 n1 c1 (digs (inE (fun i => zs.getD i 0) T k u j i).num.natAbs) → NatAt W a2 n2 c2 (digs (inE (fun i => zs.getD i 0) T k u j i).den) →
   YieldAt Fence.wide (f-1) Tryz.prog lp #[.agg #[.bool (neg (inE (fun i=>zs.getD i 0) T k u j i).num),.slice a1 n1 c1,.slice a2 n2 c2]] W fun e W'=>e = .returned (.bool true)∧J (i+1) W'∧Below w0.heap.size W W')
 (hJ:∀ i W W',J i W→Below W.heap.size W W'→J i W')
 (W:World) (hb0:Below w0.heap.size w0 W) (h0:J 0 W) :
 CallsIn Fence.wide f Tryz.prog 261 #[.func (.yield lp) #[] #[],.pointer (some ⟨bT,0,none⟩),.pointer (some ⟨bS,0,none⟩),.pointer (some ⟨bK,0,none⟩),.pointer (some ⟨bU,0,none⟩),.pointer (some ⟨bJ,0,none⟩)] W fun e W'=>(∃ v,e = .returned v)∧J n W'∧Below w0.heap.size w0 W':=by
 have hcl:c≤9223372036854775807:=by have h1:=g.cle;simp only [maxLen] at h1;omega
 have hle:=g.le;have hlen:=g.len;have hnk:n≤k:=by have:=hok.2.2.2.1;omega
 have hin:=okT_in hok;rw [hlen] at hin;have HIN:=hiD hin;have HY:=hiD hY;have HJ:=hiD hJ;have qt:=(hb0.cell (p:=⟨bT,0,none⟩) lT).trans qT0;clear hin hY hJ hok;refine callsIn_of_wp Tryz.func261 rfl trivial ?_ rfl;simp only [Tryz.ntmps261,List.size_toArray,List.length_cons,List.length_nil,Nat.reduceAdd,Nat.reduceSub,Array.replicate_succ,Array.replicate_zero,List.push_toArray,List.append_toArray,List.nil_append,List.cons_append]
 gi_wp2
 clear qt
 gi_loopw [7,8,13] (fun x y i wr=>∃ m:Nat,m≤n∧i = .int .i64 (m:Int)∧J m wr∧Below w0.heap.size w0 wr) (fun x y i _=>n-(intOf i).toNat)
 case atStart=>exact ⟨0,Nat.zero_le _,rfl,h0,hb0⟩
 case round =>
  obtain ⟨m,hm,rfl,hJm,hB⟩:=hrel
  by_cases hlt:m<n
  · have hz:=HIN.out m hlt;have hcel:=(g.past hB).cell;obtain ⟨z,hzz⟩:∃ z,zs.getD m 0=z:=⟨_,rfl⟩;obtain ⟨D,hD⟩:∃ D,m+1=D:=⟨_,rfl⟩
    have hq:∃ b o,a=some ⟨b,o,none⟩∧wr.cell? ⟨b,o+m,none⟩=some (.int .i64 z):=by
     rcases hcel with h | ⟨b,o,h1,h2,h3⟩
     · omega
     exact ⟨b,o,h1,by rw [← hzz];exact h3 m hlt⟩
    obtain ⟨b,o,rfl,hq⟩:=hq;have hY1:=fun x1 x2 x3 x4 x5 x6 W=>HY.out m x1 x2 x3 x4 x5 x6 W hlt
    have hE:inE (fun i=>zs.getD i 0) T k u j m=mkRat z T*meetsR k u j D:=by
     show mkRat (zs.getD m 0) T*meetsR k u j (m+1)=_;rw [hzz,hD]
    rw [hzz] at hz;have hpr:=fun w=>cpair_any z T w (by omega) hT0 (by omega)
    have hmt:=fun w=>meets_any k u j D w hk hu hj (by omega)
    have lp0:rlen (mkRat z T)≤1:=rlen_mkRat (by omega) (digs_length_le.2 (by simp;omega)) (digs_length_le.2 (by simp;omega));have lm0:rlen (meetsR k u j D)≤k+2:=meets_len hk hu hj (by omega);obtain ⟨P,hP⟩:∃ P,mkRat z T=P:=⟨_,rfl⟩;obtain ⟨M,hM⟩:∃ M,meetsR k u j D=M:=⟨_,rfl⟩;rw [hP,hM] at hE;rw [hP] at lp0;rw [hM] at lm0;simp only [hP] at hpr;simp only [hM] at hmt;rw [hE] at hY1;obtain ⟨X,hX⟩:∃ X,P*M=X:=⟨_,rfl⟩;rw [hX] at hY1;have HY1:=hiD hY1;have HPR:=hiD hpr;have HMT:=hiD hmt;have HX:=hiD hX;have LP:=hiD (show rlen P≤1048576 by omega);have LM:=hiD (show rlen M≤1048576 by omega);have HTD:=hiD (show IntKind.i64.wrap ((m:Int)+1)=(D:Int) by rw [IntKind.wrap_i64];omega);have lS:=nLt lS hB.size;have lK:=nLt lK hB.size;have lU:=nLt lU hB.size;have lJ:=nLt lJ hB.size;have qS0:=(hB.cell (p:=⟨bS,0,none⟩) (by assumption)).trans qS0;have qK0:=(hB.cell (p:=⟨bK,0,none⟩) (by assumption)).trans qK0;have qU0:=(hB.cell (p:=⟨bU,0,none⟩) (by assumption)).trans qU0;have qJ0:=(hB.cell (p:=⟨bJ,0,none⟩) (by assumption)).trans qJ0;have hR0:=bRf wr.heap.size wr;clear hcel hz hzz hD hY1 hE hpr hmt lp0 lm0 hP hM hX
    gi_wp2_with fail
    refine wpIn_wide.2 ?_;refine wp_region_invA (by kernel_rfl) rfl (by kernel_rfl) (fun A0 V0 dd aa ww=>∃ (blk:Nat→Nat) (y19 y20 y21 y22 y23 y24 y25 y26 y27 y28 y29 y18 y30 y31 y9 y10:Value),aa=puts A0 [(19,y19),(20,y20),(21,y21),(22,y22),(23,y23),(24,y24),(25,y25),(26,y26),(27,y27),(28,y28),(29,y29),(18,y18),(30,y30),(31,y31),(9,y9),(10,y10)]∧Below V0.heap.size V0 ww∧Boxes [(14,3)] V0.heap.size dd blk ww∧Shut (dd 0=true→y19 = .int .i64 z)∧Shut (dd 1=true→y20 = .int .i64 (T:Int))∧Shut (dd 2=true→RatV V0.heap.size (P) y21 ww)∧Shut (dd 3=true→y22 = .int .i64 (k:Int))∧Shut (dd 4=true→y23 = .int .i64 (u:Int))∧Shut (dd 5=true→y24 = .int .i64 (j:Int))∧Shut (dd 6=true→y25 = .int .i64 (m:Int))∧Shut (dd 7=true→y26 = .int .i64 (D:Int))∧Shut (dd 8=true→RatV V0.heap.size (M) y27 ww)∧Shut (dd 9=true→dd 10=false→LstV V0.heap.size 2 ([y21,y27].flatMap cellsOf) y28 ww)∧Shut (dd 10=true→OkV V0.heap.size (X) y29 ww)∧Shut (dd 11=true→y18=y29)∧Shut (dd 12=true→y30=part 0 y18)∧Shut (dd 13=true→y31=part 1 y18)∧Shut (dd 14=true→y9 = .pointer (some ⟨blk 14,0,none⟩))∧Shut (dd 15=true→HoldsV dd 14 12 (blk 14) y30 ww)∧Shut (dd 16=true→y10=y31)) ?_ ?_ ?_
    · exact ⟨fun _=>0,_,_,_,_,_,_,_,_,_,_,_,_,_,_,_,_,puts_self _ [19,20,21,22,23,24,25,26,27,28,29,18,30,31,9,10],(bRf _ _).drew,Boxes.none _ _ _ _,nf,nf,nf,nf,nf,nf,nf,nf,nf,nf,nf,nf,nf,nf,nf,nf,nf⟩
    · refine Steps.cons ?_ (Steps.cons ?_ (Steps.cons ?_ (Steps.cons ?_ (Steps.cons ?_ (Steps.cons ?_ (Steps.cons ?_ (Steps.cons ?_ (Steps.cons ?_ (Steps.cons ?_ (Steps.cons ?_ (Steps.cons ?_ (Steps.cons ?_ (Steps.cons ?_ (Steps.cons ?_ (Steps.cons ?_ (Steps.cons ?_ (Steps.nil)))))))))))))))))
      all_goals (intro dd aa ww K hc hun hn hI hK;obtain ⟨blk,y19,y20,y21,y22,y23,y24,y25,y26,y27,y28,y29,y18,y30,y31,y9,y10,ea,hb,hX,f0,f1,f2,f3,f4,f5,f6,f7,f8,f9,f10,f11,f12,f13,f14,f15,f16⟩:=hI;subst ea;simp only [pu])
      · go_simp;exact hK.out _ _ ⟨blk,_,_,_,_,_,_,_,_,_,_,_,_,_,_,_,_,by simp only [pu]<;>rfl,hb,hX.same 0 rfl,fun _=>rfl,uo f1,uo f2,uo f3,uo f4,uo f5,uo f6,uo f7,uo f8,fun h h2=>((f9.out (upd_of rfl h)) (upd_off h2)),uo f10,uo f11,uo f12,uo f13,uo f14,fun h=>(f15.out (upd_of rfl h)).same 0,uo f16⟩
      · have e0:=(hb.cell (p:=⟨bS,0,none⟩) lS).trans qS0;go_simp;exact hK.out _ _ ⟨blk,_,_,_,_,_,_,_,_,_,_,_,_,_,_,_,_,by simp only [pu]<;>rfl,hb,hX.same 1 rfl,uo f0,fun _=>rfl,uo f2,uo f3,uo f4,uo f5,uo f6,uo f7,uo f8,fun h h2=>((f9.out (upd_of rfl h)) (upd_off h2)),uo f10,uo f11,uo f12,uo f13,uo f14,fun h=>(f15.out (upd_of rfl h)).same 1,uo f16⟩
      · obtain rfl:=f0.out (hc.see hn);obtain rfl:=f1.out (hc.see hn);go_simp
        with_reducible refine (HPR.out _).mono ?_
        rintro e w1 ⟨ahPU,nhPU,chPU,ahPD,nhPD,chPD,rfl,hPU,hPD,h1⟩;exact hK.out _ _ ⟨blk,_,_,_,_,_,_,_,_,_,_,_,_,_,_,_,_,by simp only [pu]<;>rfl,bLt hb h1,hX.past h1 2 rfl,fun h=>rfl,fun h=>rfl,fun _=>⟨_,_,_,_,_,_,rfl,hPU.mono hb.size,hPD.mono hb.size⟩,uo f3,uo f4,uo f5,uo f6,uo f7,fun h=>(f8.out (upd_of rfl h)).past h1,hc.a hun,fun h=>(f10.out (upd_of rfl h)).past h1,uo f11,uo f12,uo f13,uo f14,fun h=>(f15.out (upd_of rfl h)).past h1 2,uo f16⟩
      · have e0:=(hb.cell (p:=⟨bK,0,none⟩) lK).trans qK0;go_simp;exact hK.out _ _ ⟨blk,_,_,_,_,_,_,_,_,_,_,_,_,_,_,_,_,by simp only [pu]<;>rfl,hb,hX.same 3 rfl,uo f0,uo f1,uo f2,fun _=>rfl,uo f4,uo f5,uo f6,uo f7,uo f8,fun h h2=>((f9.out (upd_of rfl h)) (upd_off h2)),uo f10,uo f11,uo f12,uo f13,uo f14,fun h=>(f15.out (upd_of rfl h)).same 3,uo f16⟩
      · have e0:=(hb.cell (p:=⟨bU,0,none⟩) lU).trans qU0;go_simp;exact hK.out _ _ ⟨blk,_,_,_,_,_,_,_,_,_,_,_,_,_,_,_,_,by simp only [pu]<;>rfl,hb,hX.same 4 rfl,uo f0,uo f1,uo f2,uo f3,fun _=>rfl,uo f5,uo f6,uo f7,uo f8,fun h h2=>((f9.out (upd_of rfl h)) (upd_off h2)),uo f10,uo f11,uo f12,uo f13,uo f14,fun h=>(f15.out (upd_of rfl h)).same 4,uo f16⟩
      · have e0:=(hb.cell (p:=⟨bJ,0,none⟩) lJ).trans qJ0;go_simp;exact hK.out _ _ ⟨blk,_,_,_,_,_,_,_,_,_,_,_,_,_,_,_,_,by simp only [pu]<;>rfl,hb,hX.same 5 rfl,uo f0,uo f1,uo f2,uo f3,uo f4,fun _=>rfl,uo f6,uo f7,uo f8,fun h h2=>((f9.out (upd_of rfl h)) (upd_off h2)),uo f10,uo f11,uo f12,uo f13,uo f14,fun h=>(f15.out (upd_of rfl h)).same 5,uo f16⟩
      · go_simp;exact hK.out _ _ ⟨blk,_,_,_,_,_,_,_,_,_,_,_,_,_,_,_,_,by simp only [pu]<;>rfl,hb,hX.same 6 rfl,uo f0,uo f1,uo f2,uo f3,uo f4,uo f5,fun _=>rfl,uo f7,uo f8,fun h h2=>((f9.out (upd_of rfl h)) (upd_off h2)),uo f10,uo f11,uo f12,uo f13,uo f14,fun h=>(f15.out (upd_of rfl h)).same 6,uo f16⟩
      · obtain rfl:=f6.out (hc.see hn);go_simp;rw [HTD.out];exact hK.out _ _ ⟨blk,_,_,_,_,_,_,_,_,_,_,_,_,_,_,_,_,by simp only [pu]<;>rfl,hb,hX.same 7 rfl,uo f0,uo f1,uo f2,uo f3,uo f4,uo f5,fun h=>rfl,fun _=>rfl,uo f8,fun h h2=>((f9.out (upd_of rfl h)) (upd_off h2)),uo f10,uo f11,uo f12,uo f13,uo f14,fun h=>(f15.out (upd_of rfl h)).same 7,uo f16⟩
      · obtain rfl:=f3.out (hc.see hn);obtain rfl:=f4.out (hc.see hn);obtain rfl:=f5.out (hc.see hn);obtain rfl:=f7.out (hc.see hn);go_simp
        with_reducible refine (HMT.out _).mono ?_
        rintro e w1 ⟨ahMU,nhMU,chMU,ahMD,nhMD,chMD,rfl,hMU,hMD,h1⟩;exact hK.out _ _ ⟨blk,_,_,_,_,_,_,_,_,_,_,_,_,_,_,_,_,by simp only [pu]<;>rfl,bLt hb h1,hX.past h1 8 rfl,uo f0,uo f1,fun h=>(f2.out (upd_of rfl h)).past h1,fun h=>rfl,fun h=>rfl,fun h=>rfl,uo f6,fun h=>rfl,fun _=>⟨_,_,_,_,_,_,rfl,hMU.mono hb.size,hMD.mono hb.size⟩,hc.a hun,fun h=>(f10.out (upd_of rfl h)).past h1,uo f11,uo f12,uo f13,uo f14,fun h=>(f15.out (upd_of rfl h)).past h1 8,uo f16⟩
      · obtain ⟨ahPU,nhPU,chPU,ahPD,nhPD,chPD,ex,hPU,hPD⟩:=f2.out (hc.see hn);subst ex;obtain ⟨ahMU,nhMU,chMU,ahMD,nhMD,chMD,ex,hMU,hMD⟩:=f8.out (hc.see hn);subst ex;go_simp;exact hK.out _ _ ⟨blk,_,_,_,_,_,_,_,_,_,_,_,_,_,_,_,_,by simp only [pu]<;>rfl,below_alloc hb _,hX.past ((bRf _ _).alloc (nRf _) _) 9 rfl,uo f0,uo f1,fun h=>(f2.out (upd_of rfl h)).past ((bRf _ _).alloc (nRf _) _),uo f3,uo f4,uo f5,uo f6,uo f7,fun h=>(f8.out (upd_of rfl h)).past ((bRf _ _).alloc (nRf _) _),fun _ _=>LstV.new hb.size _ _,fun h=>(f10.out (upd_of rfl h)).past ((bRf _ _).alloc (nRf _) _),uo f11,uo f12,uo f13,uo f14,fun h=>(f15.out (upd_of rfl h)).past ((bRf _ _).alloc (nRf _) _) 9,uo f16⟩
      · obtain ⟨ahPU,nhPU,chPU,ahPD,nhPD,chPD,ex,hPU,hPD⟩:=f2.out (hc.see hn);subst ex;obtain ⟨ahMU,nhMU,chMU,ahMD,nhMD,chMD,ex,hMU,hMD⟩:=f8.out (hc.see hn);subst ex;obtain ⟨G9,ex,hg1,hg2,hg3⟩:=f9.out (hc.see hn) hun;subst ex;have z0:=hg3 0 (by simp [cellsOf]);have z1:=hg3 1 (by simp [cellsOf]);have z2:=hg3 2 (by simp [cellsOf]);have z3:=hg3 3 (by simp [cellsOf]);have z4:=hg3 4 (by simp [cellsOf]);have z5:=hg3 5 (by simp [cellsOf]);simp only [List.flatMap_cons,List.flatMap_nil,cellsOf,List.cons_append,List.nil_append,List.append_nil,lgZ,lgS] at z0 z1 z2 z3 z4 z5;go_simp
        with_reducible refine (mul_two (RatsAt.two hg2 z0 z1 z2 z3 z4 z5 hPU.toNatAt hPD.toNatAt hMU.toNatAt hMD.toNatAt) LP.out LM.out).mono ?_
        rintro e w1 ⟨ahXU,nhXU,chXU,ahXD,nhXD,chXD,rfl,hXU,hXD,h1⟩;rw [HX.out] at hXU hXD ⊢;exact hK.out _ _ ⟨blk,_,_,_,_,_,_,_,_,_,_,_,_,_,_,_,_,by simp only [pu]<;>rfl,bLt hb h1,hX.past h1 10 rfl,uo f0,uo f1,fun h=>(f2.out (upd_of rfl h)).past h1,uo f3,uo f4,uo f5,uo f6,uo f7,fun h=>(f8.out (upd_of rfl h)).past h1,fun _ h2=>absurd h2 (by simp [upd]),fun _=>⟨_,_,_,_,_,_,rfl,hXU.mono hb.size,hXD.mono hb.size⟩,hc.a hun,uo f12,uo f13,uo f14,fun h=>(f15.out (upd_of rfl h)).past h1 10,uo f16⟩
      · obtain ⟨ahXU,nhXU,chXU,ahXD,nhXD,chXD,ex,hXU,hXD⟩:=f10.out (hc.see hn);subst ex;go_simp;exact hK.out _ _ ⟨blk,_,_,_,_,_,_,_,_,_,_,_,_,_,_,_,_,by simp only [pu]<;>rfl,hb,hX.same 11 rfl,uo f0,uo f1,uo f2,uo f3,uo f4,uo f5,uo f6,uo f7,uo f8,fun _ h2=>absurd (show dd 10=true from (hc.see hn)) (by rw [upd_off h2];decide),uo f10,fun _=>rfl,hc.a hun,hc.a hun,uo f14,fun h=>(f15.out (upd_of rfl h)).same 11,uo f16⟩
      · obtain ⟨ahXU,nhXU,chXU,ahXD,nhXD,chXD,ex,hXU,hXD⟩:=f10.out (hc.see hn);subst ex;have ex:y18 = .tuple #[.agg #[.bool (neg (X).num),.slice ahXU nhXU chXU,.slice ahXD nhXD chXD],.int .i64 0]:=f11.out (hc.see hn);subst ex;go_simp;exact hK.out _ _ ⟨blk,_,_,_,_,_,_,_,_,_,_,_,_,_,_,_,_,by simp only [pu]<;>rfl,hb,hX.same 12 rfl,uo f0,uo f1,uo f2,uo f3,uo f4,uo f5,uo f6,uo f7,uo f8,fun _ h2=>absurd (show dd 10=true from (hc.see hn)) (by rw [upd_off h2];decide),uo f10,fun h=>rfl,fun _=>rfl,uo f13,uo f14,fun h=>absurd (HoldsV.vp (f15.out (upd_of rfl h))) (by rw [hun];decide),uo f16⟩
      · obtain ⟨ahXU,nhXU,chXU,ahXD,nhXD,chXD,ex,hXU,hXD⟩:=f10.out (hc.see hn);subst ex;have ex:y18 = .tuple #[.agg #[.bool (neg (X).num),.slice ahXU nhXU chXU,.slice ahXD nhXD chXD],.int .i64 0]:=f11.out (hc.see hn);subst ex;go_simp;exact hK.out _ _ ⟨blk,_,_,_,_,_,_,_,_,_,_,_,_,_,_,_,_,by simp only [pu]<;>rfl,hb,hX.same 13 rfl,uo f0,uo f1,uo f2,uo f3,uo f4,uo f5,uo f6,uo f7,uo f8,fun _ h2=>absurd (show dd 10=true from (hc.see hn)) (by rw [upd_off h2];decide),uo f10,fun h=>rfl,uo f12,fun _=>rfl,uo f14,fun h=>(f15.out (upd_of rfl h)).same 13,hc.a hun⟩
      · go_simp;exact hK.out _ _ ⟨setB blk 14 ww.heap.size,_,_,_,_,_,_,_,_,_,_,_,_,_,_,_,_,by simp only [pu]<;>rfl,below_alloc hb _,hX.new hb.size 14 #[.bool false,.slice none 0 0,.slice none 0 0] _ rfl (by simp [notU_bool,notU_slice,notU_i64]),uo f0,uo f1,fun h=>(f2.out (upd_of rfl h)).past ((bRf _ _).alloc (nRf _) _),uo f3,uo f4,uo f5,uo f6,uo f7,fun h=>(f8.out (upd_of rfl h)).past ((bRf _ _).alloc (nRf _) _),fun h h2=>((f9.out (upd_of rfl h)) (upd_off h2)).past ((bRf _ _).alloc (nRf _) _),fun h=>(f10.out (upd_of rfl h)).past ((bRf _ _).alloc (nRf _) _),uo f11,uo f12,uo f13,fun _=>rfl,fun h=>absurd (HoldsV.up (f15.out (upd_of rfl h))) (by rw [hun];decide),uo f16⟩
      · obtain rfl:=f14.out (hc.see hn);obtain ⟨ahXU,nhXU,chXU,ahXD,nhXD,chXD,ex,hXU,hXD⟩:=f10.out (hc.see hn);subst ex;have ex:y18 = .tuple #[.agg #[.bool (neg (X).num),.slice ahXU nhXU chXU,.slice ahXD nhXD chXD],.int .i64 0]:=f11.out (hc.see hn);subst ex;have ex:y30 = .agg #[.bool (neg (X).num),.slice ahXU nhXU chXU,.slice ahXD nhXD chXD]:=f12.out (hc.see hn);subst ex;have hd14:dd 14=true:=hc.see hn;have hv12:dd 12=true:=hc.see hn;obtain ⟨x1,x2,x3⟩:=hX.at_ (14,3) (by simp) hd14;obtain ⟨v0,v1,v2,z0,z1,z2,z3,z4,z5,_,_,_⟩:=x3.three;have hv:∀ v ∈ ([.bool (neg (X).num),.slice ahXU nhXU chXU,.slice ahXD nhXD chXD]:List Value),notU v:=by simp [notU_bool,notU_slice,notU_i64]
        go_simp;exact hK.out _ _ ⟨blk,_,_,_,_,_,_,_,_,_,_,_,_,_,_,_,_,by simp only [pu]<;>rfl,hb.trans (below_setCells _ _ x1 [.bool (neg (X).num),.slice ahXU nhXU chXU,.slice ahXD nhXD chXD] 0 _),(hX.sets [.bool (neg (X).num),.slice ahXU nhXU chXU,.slice ahXD nhXD chXD] _ 0 _ hv).same 15 rfl,uo f0,uo f1,fun h=>((f2.out (upd_of rfl h)).sets [.bool (neg (X).num),.slice ahXU nhXU chXU,.slice ahXD nhXD chXD] x3 (by simp) hv),uo f3,uo f4,uo f5,uo f6,uo f7,fun h=>((f8.out (upd_of rfl h)).sets [.bool (neg (X).num),.slice ahXU nhXU chXU,.slice ahXD nhXD chXD] x3 (by simp) hv),fun _ h2=>absurd (show dd 10=true from (hc.see hn)) (by rw [upd_off h2];decide),fun h=>((f10.out (upd_of rfl h)).sets [.bool (neg (X).num),.slice ahXU nhXU chXU,.slice ahXD nhXD chXD] x3 (by simp) hv),fun h=>rfl,fun h=>rfl,uo f13,fun h=>rfl,fun _=>(HoldsV.new hd14 hv12 x2 x3 [.bool (neg (X).num),.slice ahXU nhXU chXU,.slice ahXD nhXD chXD] (by simp)).same 15,uo f16⟩
      obtain ⟨ahXU,nhXU,chXU,ahXD,nhXD,chXD,ex,hXU,hXD⟩:=f10.out (hc.see hn);subst ex;have ex:y18 = .tuple #[.agg #[.bool (neg (X).num),.slice ahXU nhXU chXU,.slice ahXD nhXD chXD],.int .i64 0]:=f11.out (hc.see hn);subst ex;have ex:y31 = .int .i64 0:=f13.out (hc.see hn);subst ex;go_simp;exact hK.out _ _ ⟨blk,_,_,_,_,_,_,_,_,_,_,_,_,_,_,_,_,by simp only [pu]<;>rfl,hb,hX.same 16 rfl,uo f0,uo f1,uo f2,uo f3,uo f4,uo f5,uo f6,uo f7,uo f8,fun _ h2=>absurd (show dd 10=true from (hc.see hn)) (by rw [upd_off h2];decide),uo f10,fun h=>rfl,uo f12,fun h=>rfl,uo f14,fun h=>(f15.out (upd_of rfl h)).same 16,fun _=>rfl⟩
    intro dd aa w1 hd hI;obtain ⟨blk,y19,y20,y21,y22,y23,y24,y25,y26,y27,y28,y29,y18,y30,y31,y9,y10,ea,hb,hX,f0,f1,f2,f3,f4,f5,f6,f7,f8,f9,f10,f11,f12,f13,f14,f15,f16⟩:=hI;obtain rfl:=f0.out (hd 0 (by simp));obtain rfl:=f1.out (hd 1 (by simp));obtain ⟨ahPU,nhPU,chPU,ahPD,nhPD,chPD,ex,hPU,hPD⟩:=f2.out (hd 2 (by simp));subst ex;obtain rfl:=f3.out (hd 3 (by simp));obtain rfl:=f4.out (hd 4 (by simp));obtain rfl:=f5.out (hd 5 (by simp));obtain rfl:=f6.out (hd 6 (by simp));obtain rfl:=f7.out (hd 7 (by simp));obtain ⟨ahMU,nhMU,chMU,ahMD,nhMD,chMD,ex,hMU,hMD⟩:=f8.out (hd 8 (by simp));subst ex;obtain ⟨ahXU,nhXU,chXU,ahXD,nhXD,chXD,ex,hXU,hXD⟩:=f10.out (hd 10 (by simp));subst ex;have ex:y18 = .tuple #[.agg #[.bool (neg (X).num),.slice ahXU nhXU chXU,.slice ahXD nhXD chXD],.int .i64 0]:=f11.out (hd 11 (by simp));subst ex;have ex:y30 = .agg #[.bool (neg (X).num),.slice ahXU nhXU chXU,.slice ahXD nhXD chXD]:=f12.out (hd 12 (by simp));subst ex;have ex:y31 = .int .i64 0:=f13.out (hd 13 (by simp));subst ex;obtain rfl:=f14.out (hd 14 (by simp));obtain ⟨vs15,e,h15⟩:=f15.out (hd 15 (by simp));cases e;have ex:y10 = .int .i64 0:=f16.out (hd 16 (by simp));subst ex;have lr:=h15.lt;have qr0:=h15.at_ 0 (by simp);simp only [lgZ,lgS] at qr0;have qr1:=h15.at_ 1 (by simp);simp only [lgZ,lgS] at qr1;have qr2:=h15.at_ 2 (by simp);simp only [lgZ,lgS] at qr2;generalize blk 14=Br at *
    subst ea;simp only [pu];have qS0:=bq hb lS qS0;have lS:=bl hb lS;have qK0:=bq hb lK qK0;have lK:=bl hb lK;have qU0:=bq hb lU qU0;have lU:=bl hb lU;have qJ0:=bq hb lJ qJ0;have lJ:=bl hb lJ;have hB:=bLt hB hb;have hR0:=bLt hR0 hb;clear hX;clear hb hd;have hJ1:=HJ.out m _ _ hJm hR0;obtain ⟨fn,tmps,assign,body,hy,hR⟩:=HY1.out _ _ _ _ _ _ w1 hJ1 hB hXU.toNatAt hXD.toNatAt
    gi_wp2_with (first | (refine hR.mono ?_;rintro e W3 ⟨rfl,hJ3,hk3⟩))
    exact ⟨⟨m+1,by omega,by go_num,hJ3,hB.trans hk3⟩,by simp [intOf];omega⟩
  obtain rfl:m=n:=by omega
  gi_wp2
  go_end0
  exact ⟨⟨_,rfl⟩,hJm,hB⟩
end
section
open Go.RowKit Go.Shelf
attribute [local go_sem] Oper.semAt_some
theorem cell_turn {W:World} {l:Nat} {o:Obj} (o':Obj) {x:Addr} {v:Value} (h:W.cell? x=some v) (hl:W.heap[l]? = some o) (ho:o.isCells=false):(W.putObj l o').cell? x=some v :=
 cell_kept h (grownBy_putObj' W l o') (fun r e=>by cases e;exact ⟨o,hl,ho⟩)
theorem frozen_turn {W:World} {l:Nat} {o:Obj} (o':Obj) {x:Addr} {v:Value} (h:W.cell? x=some v) (hl:W.heap[l]? = some o) (ho:o.isCells=false):(W.putObj l o').frozen? x=W.frozen? x :=
 frozen_kept h (grownBy_putObj' W l o') (fun r e=>by cases e;exact ⟨o,hl,ho⟩)
theorem NatAt.turn {W:World} {l:Nat} {o:Obj} (o':Obj) {a:Option Addr} {n c:Nat} {L:List Nat} (h:NatAt W a n c L) (hl:W.heap[l]? = some o) (ho:o.isCells=false):NatAt (W.putObj l o') a n c L :=
 ⟨h.len,h.le,h.cle,h.dig,h.cell.imp id fun ⟨b,k,e,hc⟩=>⟨b,k,e,fun i hi=>cell_turn o' (hc i hi) hl ho⟩,h.nilc⟩
theorem OwnAt.turn {W:World} {l B:Nat} {o:Obj} (o':Obj) {a:Option Addr} {n c:Nat} {L:List Nat} (h:OwnAt W B a n c L) (hl:W.heap[l]? = some o) (ho:o.isCells=false):OwnAt (W.putObj l o') B a n c L:=by
 refine ⟨h.toNatAt.turn o' hl ho,?_⟩;rcases h.own with h0 | ⟨b,k,rfl,hB,hf⟩
 · exact .inl h0
 rcases h.cell with h0 | ⟨b2,k2,e,hc⟩
 · exact .inl h0
 injection e with e
 injection e with e1 e2
 subst e1;subst e2;exact .inr ⟨b,k,rfl,hB,fun i hi=>(frozen_turn o' (hc i hi) hl ho).trans (hf i hi)⟩
theorem BoxAt.turn {W:World} {l b k:Nat} {o:Obj} (o':Obj) (h:BoxAt W b k) (hl:W.heap[l]? = some o) (ho:o.isCells=false):BoxAt (W.putObj l o') b k :=
 ⟨fun i hi=>by obtain ⟨v,hv,hu⟩:=h.c i hi;exact ⟨v,cell_turn o' hv hl ho,hu⟩,fun i hi=>by obtain ⟨v,hv,hu⟩:=h.c i hi;exact (frozen_turn o' hv hl ho).trans (h.f i hi)⟩
def RatBox (w:World) (B b:Nat) (q:Rat):Prop :=
 ∃ au nu cu ad nd cd,w.cell? ⟨b,0,none⟩=some (.bool (neg q.num))∧w.cell? ⟨b,1,none⟩=some (.slice au nu cu)∧w.cell? ⟨b,2,none⟩=some (.slice ad nd cd)∧BoxAt w b 3∧b<w.heap.size∧OwnAt w B au nu cu (digs q.num.natAbs)∧OwnAt w B ad nd cd (digs q.den)
theorem RatBox.past {w w':World} {B b:Nat} {q:Rat} (h:RatBox w B b q) (hb:Below w.heap.size w w'):RatBox w' B b q:=by
 obtain ⟨au,nu,cu,ad,nd,cd,h0,h1,h2,hx,hl,hu,hd⟩:=h;exact ⟨au,nu,cu,ad,nd,cd,(hb.cell (p:=⟨b,0,none⟩) hl).trans h0,(hb.cell (p:=⟨b,1,none⟩) hl).trans h1,(hb.cell (p:=⟨b,2,none⟩) hl).trans h2,hx.past hb hl,nLt hl hb.size,hu.past hb,hd.past hb⟩
theorem RatBox.turn {W:World} {l B b:Nat} {o:Obj} (o':Obj) {q:Rat} (h:RatBox W B b q) (hl:W.heap[l]? = some o) (ho:o.isCells=false):RatBox (W.putObj l o') B b q:=by
 obtain ⟨au,nu,cu,ad,nd,cd,h0,h1,h2,hx,hlt,hu,hd⟩:=h;exact ⟨au,nu,cu,ad,nd,cd,cell_turn o' h0 hl ho,cell_turn o' h1 hl ho,cell_turn o' h2 hl ho,hx.turn o' hl ho,by simpa using hlt,hu.turn o' hl ho,hd.turn o' hl ho⟩
def RatOk (q:Nat→Rat) (i:Nat) (x:Value) (_:Nat) (w:World):Prop :=
 ∃ a1 n1 c1 a2 n2 c2,x = .agg #[.bool (neg (q i).num),.slice a1 n1 c1,.slice a2 n2 c2]∧NatAt w a1 n1 c1 (digs (q i).num.natAbs)∧NatAt w a2 n2 c2 (digs (q i).den)
def RatNew (q:Nat→Rat) (i:Nat) (x:Value) (B:Nat) (w:World):Prop :=
 ∃ a1 n1 c1 a2 n2 c2,x = .agg #[.bool (neg (q i).num),.slice a1 n1 c1,.slice a2 n2 c2]∧OwnAt w B a1 n1 c1 (digs (q i).num.natAbs)∧OwnAt w B a2 n2 c2 (digs (q i).den)
theorem RatNew.ok {q:Nat→Rat} {i:Nat} {x:Value} {B:Nat} {w:World}:RatNew q i x B w→RatOk q i x B w:=fun ⟨a1,n1,c1,a2,n2,c2,e,h1,h2⟩=>⟨a1,n1,c1,a2,n2,c2,e,h1.toNatAt,h2.toNatAt⟩
def sumQ (p:Rat) (q:Nat→Rat):Nat→Rat
 | 0=>p
 | i+1=>sumQ p q i+q i
end
section
open Go.RowKit Go.Shelf
attribute [local go_sem] Oper.semAt_some
def FoldI (B bTo bBy bR:Nat) (p:Rat) (q:Nat→Rat) (i:Nat) (W:World):Prop :=
 RatBox W B bTo (sumQ p q i)∧W.cell? ⟨bBy,0,none⟩=some (.func (.func 263) #[] #[])∧bBy<W.heap.size∧BoxAt W bR 3∧bR<W.heap.size
theorem FoldI.past {B bTo bBy bR:Nat} {p:Rat} {q:Nat→Rat} {i:Nat} {W W':World} (h:FoldI B bTo bBy bR p q i W) (hb:Below W.heap.size W W'):FoldI B bTo bBy bR p q i W' :=
 ⟨h.1.past hb,(hb.cell (p:=⟨bBy,0,none⟩) h.2.2.1).trans h.2.1,nLt h.2.2.1 hb.size,h.2.2.2.1.past hb h.2.2.2.2,nLt h.2.2.2.2 hb.size⟩
theorem FoldI.off {B bTo bBy bR b:Nat} {p:Rat} {q:Nat→Rat} {i:Nat} {W:World} {x y:Int} (h:FoldI B bTo bBy bR p q i W) (hb:b<bTo∧b<bBy) (hc:W.cell? ⟨b,0,none⟩=some (.int .i64 x)):FoldI B bTo bBy bR p q i (W.setCell ⟨b,0,none⟩ (.int .i64 y)):=by
 obtain ⟨⟨au,nu,cu,ad,nd,cd,h0,h1,h2,hx,hl,hu,hd⟩,hby,hbl,hR,hRl⟩:=h;have ne:∀ {b2:Nat} (o:Nat),b<b2→(W.setCell ⟨b,0,none⟩ (.int .i64 y)).cell? ⟨b2,o,none⟩=W.cell? ⟨b2,o,none⟩:=fun o hlt=>World.cell?_setCell_other _ _ _ _ (fun e=>by injection e with h2;omega)
 exact ⟨⟨au,nu,cu,ad,nd,cd,(ne 0 hb.1).trans h0,(ne 1 hb.1).trans h1,(ne 2 hb.1).trans h2,hx.set _ _ (notU_i64 y),by simpa using hl,hu.offBox hc (notU_i64 x) _,hd.offBox hc (notU_i64 x) _⟩,(ne 0 hb.2).trans hby,by simpa using hbl,hR.set _ _ (notU_i64 y),by simpa using hRl⟩
theorem FoldI.turn {B bTo bBy bR:Nat} {p:Rat} {q:Nat→Rat} {i:Nat} {W:World} (h:FoldI B bTo bBy bR p q i W) {l:Nat} {o:Obj} (o':Obj) (hl:W.heap[l]? = some o) (ho:o.isCells=false):FoldI B bTo bBy bR p q i (W.putObj l o') :=
 ⟨h.1.turn o' hl ho,cell_turn o' h.2.1 hl ho,by simpa using h.2.2.1,h.2.2.2.1.turn o' hl ho,by simpa using h.2.2.2.2⟩
def FoldM (gf:Nat) (lb:Array Value) (p0:Value) (B bTo bBy bR:Nat) (p:Rat) (q:Nat→Rat) (i:Nat) (x:Value) (b:Act) (W:World):Prop :=
 ∃ bx a1 n1 c1 a2 n2 c2,b={ tmps:=#[.func (.func gf) #[] lb,p0,.func (.func 263) #[] #[],undef,.pointer (some ⟨bTo,0,none⟩),.pointer (some ⟨bBy,0,none⟩),.pointer (some ⟨bR,0,none⟩),.pointer (some ⟨bx,0,none⟩),.func (.func gf) #[] lb,x,undef,undef,undef,undef,undef],defers:=[] } ∧
  W.cell? ⟨bx,0,none⟩=some (.bool (neg (q i).num))∧W.cell? ⟨bx,1,none⟩=some (.slice a1 n1 c1)∧W.cell? ⟨bx,2,none⟩=some (.slice a2 n2 c2)∧NatAt W a1 n1 c1 (digs (q i).num.natAbs)∧NatAt W a2 n2 c2 (digs (q i).den)∧FoldI B bTo bBy bR p q i W
theorem FoldM.turn {gf:Nat} {lb:Array Value} {p0:Value} {B bTo bBy bR:Nat} {p:Rat} {q:Nat→Rat} {i:Nat} {x:Value} {b:Act} {W:World} (h:FoldM gf lb p0 B bTo bBy bR p q i x b W) {l:Nat} {o:Obj} (o':Obj) (hl:W.heap[l]? = some o) (ho:o.isCells=false):FoldM gf lb p0 B bTo bBy bR p q i x b (W.putObj l o'):=by
 obtain ⟨bx,a1,n1,c1,a2,n2,c2,e,h0,h1,h2,g1,g2,hi⟩:=h;exact ⟨bx,a1,n1,c1,a2,n2,c2,e,cell_turn o' h0 hl ho,cell_turn o' h1 hl ho,cell_turn o' h2 hl ho,g1.turn o' hl ho,g2.turn o' hl ho,hi.turn o' hl ho⟩
theorem fold_any (B gf:Nat) (lb:Array Value) (N:Nat) (p:Rat) (q:Nat→Rat) (a1:Option Addr) (n1 c1:Nat) (a2:Option Addr) (n2 c2:Nat) (w:World) (g1:OwnAt w B a1 n1 c1 (digs p.num.natAbs)) (g2:OwnAt w B a2 n2 c2 (digs p.den)) (hBw:B≤w.heap.size)
 (n0:Nat) (bj:Option Nat) (hn0:n0≤w.heap.size) (hbj:∀ b,bj=some b→b<w.heap.size) (hseq:Hands 2 Tryz.prog gf lb w n0 bj N (RatOk q)) (eg:∀ args w,(callFunc gf args).run Tryz.prog w = .ok (.enter gf args) w) (hq:∀ i,i<N→rlen (q i)≤1000000) (hs:∀ i,i≤N→rlen (sumQ p q i)≤1000000) :
 Calls Tryz.prog 260 #[.func (.func gf) #[] lb,.agg #[.bool (neg p.num),.slice a1 n1 c1,.slice a2 n2 c2],.func (.func 263) #[] #[]] w fun e w'=>∃ a3 n3 c3 a4 n4 c4,e = .returned (.agg #[.bool (neg (sumQ p q N).num),.slice a3 n3 c3,.slice a4 n4 c4])∧OwnAt w' B a3 n3 c3 (digs (sumQ p q N).num.natAbs)∧OwnAt w' B a4 n4 c4 (digs (sumQ p q N).den)∧Below n0 w w':=by
 refine (callsIn_wide (n:=3)).1 ?_;refine callsIn_of_wp_marks Tryz.func260 rfl trivial ?_ rfl;simp only [Tryz.ntmps260,List.size_toArray,List.length_cons,List.length_nil,Nat.reduceAdd,Nat.reduceSub,Array.replicate_succ,Array.replicate_zero,List.push_toArray,List.append_toArray,List.nil_append,List.cons_append]
 gi_wp2
 obtain ⟨w1,hW1,hz1,hb1,q1,f1⟩:=box1g w w.heap.size rfl #[.bool (neg p.num),.slice a1 n1 c1,.slice a2 n2 c2] 28;rw [hW1];obtain ⟨w2,hW2,hz2,hb2,q2,f2⟩:=box1g w1 (w.heap.size+1) (by omega) #[.func (.func 263) #[] #[]] 134;rw [hW2];obtain ⟨w3,hW3,hz3,hb3,q3,f3⟩:=box1g w2 (w.heap.size+1+1) (by omega) #[.bool false,.slice none 0 0,.slice none 0 0] 28;rw [hW3];have hb12:=bLt hb1 hb2;have hB:=bLt hb12 hb3;have hb23:Below w1.heap.size w1 w3:=bLt hb2 hb3;have x1:BoxAt w1 w.heap.size 3:=BoxAt.of q1 f1 rfl (by simp [notU_bool,notU_slice]);have x3:BoxAt w3 (w.heap.size+1+1) 3:=BoxAt.of q3 f3 rfl (by simp [notU_bool,notU_slice]);have r1:RatBox w1 B w.heap.size (sumQ p q 0):=⟨_,_,_,_,_,_,q1 0,q1 1,q1 2,x1,by omega,g1.past hb1,g2.past hb1⟩;have hI0:FoldI B w.heap.size (w.heap.size+1) (w.heap.size+1+1) p q 0 w3:=⟨r1.past hb23,(hb3.cell (p:=⟨w.heap.size+1,0,none⟩) (show w.heap.size+1<w2.heap.size by omega)).trans (q2 0),by omega,x3,by omega⟩;clear q1 q2 q3 f1 f2 f3 x1 x3 r1 hb12 hb23 hW1 hW2 hW3 hb1 hb2 hb3
 refine wpIn_rounds (w0:=w) (by decide) rfl eg hn0 hseq hB (FoldI B w.heap.size (w.heap.size+1) (w.heap.size+1+1) p q) (FoldM gf lb (.agg #[.bool (neg p.num),.slice a1 n1 c1,.slice a2 n2 c2]) B w.heap.size (w.heap.size+1) (w.heap.size+1+1) p q)
  (fun i W W' h hb=>h.past hb) (fun b hb i W x y h hc=>h.off ⟨hbj b hb,Nat.lt_succ_of_lt (hbj b hb)⟩ hc) (fun i W l o o' h hl ho _=>h.turn o' hl ho) (fun i x b W l o o' h hl ho _=>h.turn o' hl ho) hI0 ?_ ?_ ?_
 · rintro l i x W0 W hi hI0 hW0 hI hBW ⟨a3,n3,c3,a4,n4,c4,rfl,h3,h4⟩;have hal:Below W.heap.size W (W.alloc (.cells #[.bool (neg (q i).num),.slice a3 n3 c3,.slice a4 n4 c4] 28)):=(bRf _ _).alloc (nRf _) _;have y0:(W.alloc (.cells #[.bool (neg (q i).num),.slice a3 n3 c3,.slice a4 n4 c4] 28)).cell? ⟨W.heap.size,0,none⟩=some (.bool (neg (q i).num)):=by rw [World.cell?_alloc_at _ _ _ _ rfl];rfl
   have y1:(W.alloc (.cells #[.bool (neg (q i).num),.slice a3 n3 c3,.slice a4 n4 c4] 28)).cell? ⟨W.heap.size,1,none⟩=some (.slice a3 n3 c3):=by rw [World.cell?_alloc_at _ _ _ _ rfl];rfl
   have y2:(W.alloc (.cells #[.bool (neg (q i).num),.slice a3 n3 c3,.slice a4 n4 c4] 28)).cell? ⟨W.heap.size,2,none⟩=some (.slice a4 n4 c4):=by rw [World.cell?_alloc_at _ _ _ _ rfl];rfl
   have hM:FoldM gf lb (.agg #[.bool (neg p.num),.slice a1 n1 c1,.slice a2 n2 c2]) B w.heap.size (w.heap.size+1) (w.heap.size+1+1) p q i (.agg #[.bool (neg (q i).num),.slice a3 n3 c3,.slice a4 n4 c4]) _ _:=⟨W.heap.size,a3,n3,c3,a4,n4,c4,rfl,y0,y1,y2,h3.past hal,h4.past hal,hI.past hal⟩;have hall:=And.intro (KeepsOthers.alloc W (.cells #[.bool (neg (q i).num),.slice a3 n3 c3,.slice a4 n4 c4] 28)) (And.intro (hal.mono hBW.size) hM);clear y0 y1 y2 hM
   gi_wp2
   exact hall
 · rintro l i x b W hi hBW0 hWs ⟨bx,a3,n3,c3,a4,n4,c4,rfl,h0,h1,h2,h3,h4,hI⟩;obtain ⟨⟨au,nu,cu,ad,nd,cd,t0,t1,t2,hx,hlt,hu,hd⟩,hby,hbyl,hxR,hRl⟩:=hI;have hS:=hs i (by omega);have hQ:=hq i hi;have hSS:=hs (i+1) (by omega);have hsum:sumQ p q (i+1)=sumQ p q i+q i:=rfl;obtain ⟨S,hSe⟩:∃ S,sumQ p q i=S:=⟨_,rfl⟩;obtain ⟨X,hXe⟩:∃ X,q i=X:=⟨_,rfl⟩;obtain ⟨Z,hZe⟩:∃ Z,sumQ p q (i+1)=Z:=⟨_,rfl⟩;rw [hSe] at hS t0 hu hd hsum;rw [hXe] at hQ h0 h3 h4 hsum;rw [hZe] at hsum;have HPL:=hiD (plus_any S X _ _ _ _ _ _ _ _ _ _ _ _ W hu.toNatAt hd.toNatAt h3 h4 (by omega) (by omega));have HZ:=hiD hZe;have HSUM:=hiD hsum.symm;clear hS hQ hSS hsum hSe hXe hZe
   gi_wp2_with (refine ⟨trivial,?_⟩;gi_at_call 263;refine (CallsIn.inRound l (callsIn_wide.2 HPL.out)).mono ?_;rintro e W2 ⟨a5,n5,c5,a6,n6,c6,rfl,u5,u6,hb⟩;rw [HSUM.out] at u5 u6 ⊢;have t0:=(hb.cell (p:=⟨w.heap.size,0,none⟩) hlt).trans t0;have t1:=(hb.cell (p:=⟨w.heap.size,1,none⟩) hlt).trans t1;have t2:=(hb.cell (p:=⟨w.heap.size,2,none⟩) hlt).trans t2;have hx:=hx.past hb hlt;have hlt2:=nLt hlt hb.size;have zf0:=hx.f 0 (by decide);have zf1:=hx.f 1 (by decide);have zf2:=hx.f 2 (by decide))
   obtain ⟨W3,hW3,hO,qN0,qN1,qN2,xN⟩:=store3 hx (.bool (neg Z.num)) (.slice a5 n5 c5) (.slice a6 n6 c6) (Go.Proofs.YtkhcblihbalnbaaGreatDoor.nu rfl) (Go.Proofs.YtkhcblihbalnbaaGreatDoor.nu rfl) (Go.Proofs.YtkhcblihbalnbaaGreatDoor.nu rfl);have hkW2:KeepsOthers W W2:=⟨hb.size,fun k o h _=>(hb.block k (Array.getElem?_eq_some_iff.1 h).1).trans h⟩;have hk3:KeepsOthers W2 W3:=by rw [← hW3];exact ((KeepsOthers.setCell _ _ _).trans (KeepsOthers.setCell _ _ _)).trans (KeepsOthers.setCell _ _ _)
   have hBl:B≤W.heap.size:=nTr hBw hWs;try rw [hW3]
   exact ⟨hkW2.trans hk3,hO.below (nRf _) (hb.mono hWs),⟨a5,n5,c5,a6,n6,c6,by rw [HZ.out];exact qN0,qN1,qN2,xN,by rw [hO.size];exact hlt2,by rw [HZ.out];exact hO.own (u5.mono hBl),by rw [HZ.out];exact hO.own (u6.mono hBl)⟩,(hO.cell (b2:=w.heap.size+1) (k:=0) (by omega)).trans ((hb.cell (p:=⟨w.heap.size+1,0,none⟩) hbyl).trans hby),by rw [hO.size];exact nLt hbyl hb.size,hO.box (hxR.past hb hRl),by rw [hO.size];exact nLt hRl hb.size⟩
 intro D W hD hI hBW hdef;obtain ⟨⟨au,nu,cu,ad,nd,cd,t0,t1,t2,hx,hlt,hu,hd⟩,hby,hbyl,hxR,hRl⟩:=hI;obtain ⟨v0,v1,v2,z0,z1,z2,z3,z4,z5,_,_,_⟩:=hxR.three
 gi_wp2
 obtain ⟨W3,hW3,hO,qN0,qN1,qN2,xN⟩:=store3 hxR (.bool (neg (sumQ p q N).num)) (.slice au nu cu) (.slice ad nd cd) (Go.Proofs.YtkhcblihbalnbaaGreatDoor.nu rfl) (Go.Proofs.YtkhcblihbalnbaaGreatDoor.nu rfl) (Go.Proofs.YtkhcblihbalnbaaGreatDoor.nu rfl);have hk3:KeepsOthers W W3:=by rw [← hW3];exact ((KeepsOthers.setCell _ _ _).trans (KeepsOthers.setCell _ _ _)).trans (KeepsOthers.setCell _ _ _)
 have hdef3:=hk3.same _ _ hdef rfl;try rw [hW3]
 have r0:=cell_turn (.deferred none) qN0 hdef3 rfl;have r1:=cell_turn (.deferred none) qN1 hdef3 rfl;have r2:=cell_turn (.deferred none) qN2 hdef3 rfl;have hB3:=(hO.below (by omega) hBW).trans (below_put (.deferred none) (show n0≤D by omega));have u3:=(hO.own hu).turn (.deferred none) hdef3 rfl;have u4:=(hO.own hd).turn (.deferred none) hdef3 rfl;refine ⟨by simp,.inl ⟨_,_,rfl,run_takeDeferred hdef3,?_⟩⟩;refine ⟨.agg #[.bool (neg (sumQ p q N).num),.slice au nu cu,.slice ad nd cd],?_,?_⟩
 · simp [results,Tryz.f260,go_sem,r0,r1,r2]
 exact ⟨_,_,_,_,_,_,rfl,u3,u4,hB3⟩
end
section
open Go.RowKit Go.Shelf
theorem in1_hands (bT bS bK bU bJ:Nat) (a:Option Addr) (n c:Nat) (zs:List Int) (T k u j:Nat) (w0:World) (g:IntsAt w0 a n c zs) (hok:okT zs (k:Int)) (hT0:0<T) (hT1:T<9223372036854775808) (hk:k≤1024) (hu:u≤k) (hj:j≤u)
 (lT:bT<w0.heap.size) (lS:bS<w0.heap.size) (lK:bK<w0.heap.size) (lU:bU<w0.heap.size) (lJ:bJ<w0.heap.size)
 (qT0:w0.cell? ⟨bT,0,none⟩=some (.slice a n c)) (qS0:w0.cell? ⟨bS,0,none⟩=some (.int .i64 (T:Int))) (qK0:w0.cell? ⟨bK,0,none⟩=some (.int .i64 (k:Int))) (qU0:w0.cell? ⟨bU,0,none⟩=some (.int .i64 (u:Int))) (qJ0:w0.cell? ⟨bJ,0,none⟩=some (.int .i64 (j:Int))) :
 Hands 2 Tryz.prog 261 #[.pointer (some ⟨bT,0,none⟩),.pointer (some ⟨bS,0,none⟩),.pointer (some ⟨bK,0,none⟩),.pointer (some ⟨bU,0,none⟩),.pointer (some ⟨bJ,0,none⟩)] w0 w0.heap.size none n (RatOk (inE (fun i=>zs.getD i 0) T k u j)):=fun l J W hb hJ _ hY h0 =>
 in1_in 2 (by decide) l bT bS bK bU bJ a n c zs T k u j w0 g hok hT0 hT1 hk hu hj lT lS lK lU lJ qT0 qS0 qK0 qU0 qJ0 J (fun i a1 n1 c1 a2 n2 c2 W hi h1 h2 h3 h4=>hY i _ W W hi h1 (bRf _ W) h1 h2 ⟨a1,n1,c1,a2,n2,c2,rfl,h3,h4⟩) hJ W hb h0
theorem cpair_zero (w:World):Calls Tryz.prog 256 #[.int .i64 0,.int .i64 1] w (RetRat w 0):=by
 have h:=cpair_any 0 1 w (by decide) (by decide) (by decide)
 rwa [show mkRat 0 1=0 by simp] at h
theorem inE_len {g:Nat→Int} {T k u j i:Nat} (hg:0≤g i∧g i≤16777215) (hT0:0<T) (hT1:T<9223372036854775808) (hk:k≤1024) (hu:u≤k) (hj:j≤u) (hi:i<k):rlen (inE g T k u j i)≤k+4:=by
 unfold inE;have h1:rlen (mkRat (g i) T)≤1:=rlen_mkRat (by omega) (digs_length_le.2 (by simp;omega)) (digs_length_le.2 (by simp;omega));have h2:=meets_len (d:=i+1) hk hu hj (by omega);have h3:rlen (mkRat (g i) T*meetsR k u j (i+1))≤rlen (mkRat (g i) T)+rlen (meetsR k u j (i+1))+1:=product_short _ _;omega
theorem sumQ_len {q:Nat→Rat} {L N:Nat} (h:∀ i,i<N→rlen (q i)≤L):∀ i,i≤N→rlen (sumQ 0 q i)≤1+i*(L+1)
 | 0, _ => by
   show rlen 0≤_;have:rlen 0=1:=by decide
   omega
 | i + 1, hi => by
   have h1:=sumQ_len h i (by omega);have h2:=h i (by omega);have h3:rlen (sumQ 0 q i+q i)≤rlen (sumQ 0 q i)+rlen (q i)+1:=sum_short _ _;rw [Nat.succ_mul];show rlen (sumQ 0 q i+q i)≤_;omega
def inR24 (zs:List Int) (k u j:Nat):Rat:=sumQ 0 (inE (fun i=>zs.getD i 0) (totS (fun i=>zs.getD i 0) zs.length).toNat k u j) zs.length
theorem in_any (a:Option Addr) (n c:Nat) (zs:List Int) (k u j:Nat) (w:World) (g:IntsAt w a n c zs) (hok:okT zs (k:Int)) (hk:k≤20) (hu:u≤k) (hj:j≤u) :
 Calls Tryz.prog 251 #[.slice a n c,.int .i64 (k:Int),.int .i64 (u:Int),.int .i64 (j:Int)] w (RetRat w (inR24 zs k u j)):=by
 have hlen:=g.len;have hin:=okT_in hok;rw [hlen] at hin;have hnk:n≤k:=by have:=hok.2.2.2.1;omega
 have htot:=sumW_tot n (by omega) hin;have hpos:=okT_pos hok;rw [hlen] at hpos;have htin:=totS_in (g:=fun i=>zs.getD i 0) n hin;obtain ⟨T,hT⟩:∃ T:Nat,totS (fun i=>zs.getD i 0) n=(T:Int):=⟨(totS (fun i=>zs.getD i 0) n).toNat,by omega⟩;have hT0:0<T:=by omega
 have hT1:T<9223372036854775808:=by omega
 have hql:=fun i (hi:i<n)=>inE_len (g:=fun i=>zs.getD i 0) (T:=T) (k:=k) (u:=u) (j:=j) (i:=i) (hin i hi) hT0 hT1 (by omega) hu hj (by omega)
 have hsl:=sumQ_len hql;have hres:inR24 zs k u j=sumQ 0 (inE (fun i=>zs.getD i 0) T k u j) n:=by unfold inR24;rw [hlen,hT,Int.toNat_natCast]
 have hha:=fun bT bS bK bU bJ c0 w0 g0=>in1_hands bT bS bK bU bJ a n c0 zs T k u j w0 g0 hok hT0 hT1 (by omega) hu hj
 have hlen1:∀ i,i<n→rlen (inE (fun i=>zs.getD i 0) T k u j i)≤1000000:=fun i hi=>nTr (hql i hi) (by omega)
 have hlen2:∀ i,i≤n→rlen (sumQ 0 (inE (fun i=>zs.getD i 0) T k u j) i)≤1000000:=fun i hi=>nTr (hsl i hi) (by
  have:i*(k+4+1)≤20*25:=Nat.mul_le_mul (by omega) (by omega);omega)
 rw [hT] at htot;rw [hres];obtain ⟨q,hq⟩:∃ q,inE (fun i=>zs.getD i 0) T k u j=q:=⟨_,rfl⟩;rw [hq] at hlen1 hlen2 ⊢;simp only [hq] at hha;have HTOT:=hiD htot;have HHA:=hiD hha;have HL1:=hiD hlen1;have HL2:=hiD hlen2;obtain ⟨R,hR⟩:∃ R,sumQ 0 q n=R:=⟨_,rfl⟩;rw [hR];have HRR:=hiD hR;clear hin htot hpos htin hT hql hsl hres hha hlen1 hlen2 hq hok hR
 go_enter Tryz.func251,Tryz.ntmps251
 have hB:=bRf w.heap.size w
 go_wp2_with fail
 obtain ⟨w1,hW,hz0,hb,q,f,qt0⟩:=bx1 w (w.heap.size) (by omega) (.slice a n c) 22;rw [hW];clear hW;have g:=g.past hb;have hB:=bLt hB hb;clear hb;have lt:w.heap.size<w1.heap.size:=by omega
 clear q f;obtain ⟨w2,hW,hz1,hb,q,f,qk0⟩:=bx1 w1 (w.heap.size+1) (by omega) (.int .i64 (k:Int)) 3;rw [hW];clear hW;have g:=g.past hb;have qt0:=bq hb lt qt0;have lt:=bl hb lt;have hB:=bLt hB hb;clear hb;have lk:w.heap.size+1<w2.heap.size:=by omega
 clear q f;obtain ⟨w3,hW,hz2,hb,q,f,qu0⟩:=bx1 w2 (w.heap.size+1+1) (by omega) (.int .i64 (u:Int)) 3;rw [hW];clear hW;have g:=g.past hb;have qt0:=bq hb lt qt0;have lt:=bl hb lt;have qk0:=bq hb lk qk0;have lk:=bl hb lk;have hB:=bLt hB hb;clear hb;have lu:w.heap.size+1+1<w3.heap.size:=by omega
 clear q f;obtain ⟨w4,hW,hz3,hb,q,f,qj0⟩:=bx1 w3 (w.heap.size+1+1+1) (by omega) (.int .i64 (j:Int)) 3;rw [hW];clear hW;have g:=g.past hb;have qt0:=bq hb lt qt0;have lt:=bl hb lt;have qk0:=bq hb lk qk0;have lk:=bl hb lk;have qu0:=bq hb lu qu0;have lu:=bl hb lu;have hB:=bLt hB hb;clear hb;have lj:w.heap.size+1+1+1<w4.heap.size:=by omega
 clear q f;obtain ⟨w5,hW,hz4,hb,q,f,qr0,qr1,qr2⟩:=bx3 w4 (w.heap.size+1+1+1+1) (by omega) (.bool false) (.slice none 0 0) (.slice none 0 0) 28;rw [hW];clear hW;have g:=g.past hb;have qt0:=bq hb lt qt0;have lt:=bl hb lt;have qk0:=bq hb lk qk0;have lk:=bl hb lk;have qu0:=bq hb lu qu0;have lu:=bl hb lu;have qj0:=bq hb lj qj0;have lj:=bl hb lj;have hB:=bLt hB hb;clear hb;have lr:w.heap.size+1+1+1+1<w5.heap.size:=by omega
 have xr:BoxAt w5 (w.heap.size+1+1+1+1) 3:=BoxAt.of q f rfl (by simp [notU_bool,notU_slice,notU_i64]);clear q f;clear hz0;clear hz1;clear hz2;clear hz3;clear hz4
 with_reducible refine (total_any _ _ _ zs _ g).mono ?_
 rintro e w6 ⟨rfl,hb⟩;have g:=g.past hb;have qt0:=bq hb lt qt0;have lt:=bl hb lt;have qk0:=bq hb lk qk0;have lk:=bl hb lk;have qu0:=bq hb lu qu0;have lu:=bl hb lu;have qj0:=bq hb lj qj0;have lj:=bl hb lj;have xr:=xr.past hb lr;obtain ⟨qr0,qr1,qr2,lr⟩:=bq3 hb lr qr0 qr1 qr2;have hB:=bLt hB hb;clear hb;rw [HTOT.out]
 go_wp2_with fail
 obtain ⟨w7,hW,hz0,hb,q,f,qs0⟩:=bx1 w6 (w6.heap.size) (by omega) (.int .i64 (T:Int)) 3;rw [hW];clear hW;have g:=g.past hb;have qt0:=bq hb lt qt0;have lt:=bl hb lt;have qk0:=bq hb lk qk0;have lk:=bl hb lk;have qu0:=bq hb lu qu0;have lu:=bl hb lu;have qj0:=bq hb lj qj0;have lj:=bl hb lj;have xr:=xr.past hb lr;obtain ⟨qr0,qr1,qr2,lr⟩:=bq3 hb lr qr0 qr1 qr2;have hB:=bLt hB hb;clear hb;have ls:w6.heap.size<w7.heap.size:=by omega
 clear q f;clear hz0
 with_reducible refine (cpair_zero _).mono ?_
 rintro e w8 ⟨ahZU,nhZU,chZU,ahZD,nhZD,chZD,rfl,hZU,hZD,hb⟩;have hZU:=hZU.mono hB.size;have hZD:=hZD.mono hB.size;have g:=g.past hb;have qt0:=bq hb lt qt0;have lt:=bl hb lt;have qk0:=bq hb lk qk0;have lk:=bl hb lk;have qu0:=bq hb lu qu0;have lu:=bl hb lu;have qj0:=bq hb lj qj0;have lj:=bl hb lj;have xr:=xr.past hb lr;obtain ⟨qr0,qr1,qr2,lr⟩:=bq3 hb lr qr0 qr1 qr2;have qs0:=bq hb ls qs0;have ls:=bl hb ls;have hB:=bLt hB hb;clear hb
 go_wp2_with fail
 refine (fold_any w.heap.size 261 _ n 0 q _ _ _ _ _ _ _ hZU hZD hB.size _ none (nRf _) (fun b e=>by cases e) (HHA.out _ _ _ _ _ _ _ g lt ls lk lu lj qt0 qs0 qk0 qu0 qj0) (enters_of Tryz.func261 (by kernel_rfl) rfl) HL1.out HL2.out).mono ?_;rintro e w9 ⟨ahAU,nhAU,chAU,ahAD,nhAD,chAD,rfl,hAU,hAD,hb⟩;rw [HRR.out] at hAU hAD ⊢;have xr:=xr.past hb lr;obtain ⟨qr0,qr1,qr2,lr⟩:=bq3 hb lr qr0 qr1 qr2;have hB:=bLt hB hb;clear hb;have zf0:=xr.f 0 (by decide);have zf1:=xr.f 1 (by decide);have zf2:=xr.f 2 (by decide)
 go_wp2
 obtain ⟨w10,hW,hO,qN0,qN1,qN2,xN⟩:=store3 xr (.bool (neg (R).num)) (.slice ahAU nhAU chAU) (.slice ahAD nhAD chAD) (nu rfl) (nu rfl) (nu rfl);try rw [hW]
 clear hW;have hAU:=hO.own hAU;have hAD:=hO.own hAD;have lr:w.heap.size+1+1+1+1<w10.heap.size:=by rw [hO.size];exact lr
 have qr0:=qN0;have qr1:=qN1;have qr2:=qN2;have xr:=xN;have hB:=hO.below (by omega) hB;clear hO qN0 qN1 qN2 xN zf0 zf1 zf2;refine bodyPost_ret (v:=.agg #[.bool (neg R.num),.slice ahAU nhAU chAU,.slice ahAD nhAD chAD]) ?_ rfl ⟨_,_,_,_,_,_,rfl,hAU,hAD,hB⟩;simp [results,Tryz.f251,go_sem,qr0,qr1,qr2]
end
section
open Go.RowKit Go.Shelf
theorem refA_ok {zs:List Int} {k u:Nat} (h:okT zs (k:Int)) (hk:1≤k) (hk2:k≤1024) (hu:u≤k):refA zs (k:Int) (u:Int)=0:=by
 unfold refA;rw [if_pos (by omega),chkT_yes h]
theorem In_ok (a:Option Addr) (n c:Nat) (zs:List Int) (k u j:Nat) (w:World) (g:IntsAt w a n c zs) (hok:okT zs (k:Int)) (hk1:1≤k) (hk:k≤20) (hu:u≤k) (hj:j≤u) :
 Calls Tryz.prog 244 #[.slice a n c,.int .i64 (k:Int),.int .i64 (u:Int),.int .i64 (j:Int)] w (RetOk w (inR24 zs k u j)):=by
 have h:=refA_ok hok hk1 (by omega) hu;have H:=hiD h;have HOK:=hiD hok;have tj:decide (u<j)=false:=decide_eq_false (by omega);obtain ⟨R,hR⟩:∃ R,inR24 zs k u j=R:=⟨_,rfl⟩;rw [hR];have HR:=hiD hR;clear h hok hR
 go_enter Tryz.func244,Tryz.ntmps244
 have hB:=bRf w.heap.size w
 go_wp2_with fail
 obtain ⟨w1,hW,hz0,hb,q,f,qr0,qr1,qr2⟩:=bx3 w (w.heap.size) (by omega) (.bool false) (.slice none 0 0) (.slice none 0 0) 28;rw [hW];clear hW;have g:=g.past hb;have hB:=bLt hB hb;clear hb;have lr:w.heap.size<w1.heap.size:=by omega
 have xr:BoxAt w1 (w.heap.size) 3:=BoxAt.of q f rfl (by simp [notU_bool,notU_slice,notU_i64]);clear q f;clear hz0
 with_reducible refine (refuses_any _ _ _ zs (k:Int) (u:Int) _ g).mono ?_
 rintro e w2 ⟨rfl,hb⟩;have g:=g.past hb;have xr:=xr.past hb lr;obtain ⟨qr0,qr1,qr2,lr⟩:=bq3 hb lr qr0 qr1 qr2;have hB:=bLt hB hb;clear hb;rw [H.out]
 go_wp2_with fail
 with_reducible refine (in_any _ _ _ zs k u j _ g HOK.out hk hu hj).mono ?_
 rintro e w3 ⟨ahAU,nhAU,chAU,ahAD,nhAD,chAD,rfl,hAU,hAD,hb⟩;have hAU:=hAU.mono hB.size;have hAD:=hAD.mono hB.size;have xr:=xr.past hb lr;obtain ⟨qr0,qr1,qr2,lr⟩:=bq3 hb lr qr0 qr1 qr2;have hB:=bLt hB hb;clear hb;rw [HR.out] at hAU hAD ⊢;have zf0:=xr.f 0 (by decide);have zf1:=xr.f 1 (by decide);have zf2:=xr.f 2 (by decide)
 go_wp2
 obtain ⟨w4,hW,hO,qN0,qN1,qN2,xN⟩:=store3 xr (.bool (neg (R).num)) (.slice ahAU nhAU chAU) (.slice ahAD nhAD chAD) (nu rfl) (nu rfl) (nu rfl);try rw [hW]
 clear hW;have hAU:=hO.own hAU;have hAD:=hO.own hAD;have lr:w.heap.size<w4.heap.size:=by rw [hO.size];exact lr
 have qr0:=qN0;have qr1:=qN1;have qr2:=qN2;have xr:=xN;have hB:=hO.below (by omega) hB;clear hO qN0 qN1 qN2 xN zf0 zf1 zf2;refine bodyPost_ret (v:=.tuple #[.agg #[.bool (neg R.num),.slice ahAU nhAU chAU,.slice ahAD nhAD chAD],.int .i64 0]) ?_ rfl ⟨_,_,_,_,_,_,rfl,hAU,hAD,hB⟩;simp [results,Tryz.f244,go_sem,qr0,qr1,qr2]
end
section
open Go.RowKit Go.Shelf
attribute [local go_sem] Oper.semAt_some
theorem IntsAt.low {w0 w:World} {n0:Nat} {a:Option Addr} {n c:Nat} {zs:List Int} (g:IntsAt w0 a n c zs) (hn:n=0∨∀ x,a=some x→x.block<n0) (hb:Below n0 w0 w):IntsAt w a n c zs:=by
 refine ⟨g.len,g.le,g.cle,?_,g.nilc,g.wf⟩;rcases g.cell with h0 | ⟨b,o,rfl,hl,hc⟩
 · exact .inl h0
 rcases hn with h0 | hn
 · exact .inl h0
 exact .inr ⟨b,o,rfl,nLt hl hb.size,fun i hi=>(hb.cell (p:=⟨b,o+i,none⟩) (show b<n0 from hn ⟨b,o,none⟩ rfl)).trans (hc i hi)⟩
theorem IntsAt.under {w:World} {a:Option Addr} {n c:Nat} {zs:List Int} (g:IntsAt w a n c zs):n=0∨∀ x,a=some x→x.block<w.heap.size:=by
 rcases g.cell with h0 | ⟨b,o,rfl,hl,hc⟩
 · exact .inl h0
 exact .inr fun x hx=>by cases hx;exact hl
theorem row1_in (f:Nat) (hf:1≤f) (lp bJ bU bT bK n0:Nat) (a:Option Addr) (n c:Nat) (zs:List Int) (k u j0 N:Nat) (w0:World) (g:IntsAt w0 a n c zs) (hna:n=0∨∀ x,a=some x→x.block<n0) (hok:okT zs (k:Int)) (hk:k≤20) (hu:u≤k) (hj0:j0≤2) (hN:N=u+1-j0)
 (lJ:bJ<w0.heap.size) (hn0:n0≤bJ) (lU:bU<n0) (lT:bT<n0) (lK:bK<n0)
 (qJ:w0.cell? ⟨bJ,0,none⟩=some (.int .i64 (j0:Int))) (fJ:w0.frozen? ⟨bJ,0,none⟩=false) (qU:w0.cell? ⟨bU,0,none⟩=some (.int .i64 (u:Int))) (qT:w0.cell? ⟨bT,0,none⟩=some (.slice a n c)) (qK:w0.cell? ⟨bK,0,none⟩=some (.int .i64 (k:Int)))
 (J:Nat→World→Prop)
 (hY : ∀ i (a1 : Option Addr) (n1 c1 : Nat) (a2 : Option Addr) (n2 c2 : Nat) W0 W, i < N → J i W0 → Below W0.heap.size W0 W → J i W → Below n0 w0 W → OwnAt W W0.heap.size a1 n1 c1 (digs (inR24 zs k u (j0 + i)).num.natAbs) → OwnAt W W0.heap.size a2 n2 c2 (digs (inR24 zs k u (j0 + i)).den) →
   YieldAt Fence.wide (f-1) Tryz.prog lp #[.agg #[.bool (neg (inR24 zs k u (j0+i)).num),.slice a1 n1 c1,.slice a2 n2 c2]] W fun e W'=>e = .returned (.bool true)∧J (i+1) W'∧Below w0.heap.size W W')
 (hJ:∀ i W W',J i W→Below W.heap.size W W'→J i W')
 (hJ2:∀ i W x y,J i W→W.cell? ⟨bJ,0,none⟩=some (.int .i64 x)→J i (W.setCell ⟨bJ,0,none⟩ (.int .i64 y)))
 (W:World) (hb0:Below w0.heap.size w0 W) (h0:J 0 W) :
 CallsIn Fence.wide f Tryz.prog 266 #[.func (.yield lp) #[] #[],.pointer (some ⟨bJ,0,none⟩),.pointer (some ⟨bU,0,none⟩),.pointer (some ⟨bT,0,none⟩),.pointer (some ⟨bK,0,none⟩)] W fun e W'=>(∃ v,e = .returned v)∧J N W'∧Below n0 w0 W':=by
 have HY:=hiD hY;have HJ:=hiD hJ;have HJ2:=hiD hJ2;have HOK:=hiD hok;have qJW:=(hb0.cell (p:=⟨bJ,0,none⟩) lJ).trans qJ;have fJW:W.frozen? ⟨bJ,0,none⟩=false:=(hb0.frozen (p:=⟨bJ,0,none⟩) lJ).trans fJ;have hszW:=hb0.size;have hbn:=hb0.mono (show n0≤w0.heap.size by omega);clear hY hJ hJ2 hok;refine callsIn_of_wp Tryz.func266 rfl trivial ?_ rfl;simp only [Tryz.ntmps266,List.size_toArray,List.length_cons,List.length_nil,Nat.reduceAdd,Nat.reduceSub,Array.replicate_succ,Array.replicate_zero,List.push_toArray,List.append_toArray,List.nil_append,List.cons_append]
 gi_wp2
 gi_loopw [] (fun wr=>∃ i,i≤N∧J i wr∧Below n0 w0 wr∧w0.heap.size≤wr.heap.size∧wr.cell? ⟨bJ,0,none⟩=some (.int .i64 ((j0+i:Nat):Int))∧wr.frozen? ⟨bJ,0,none⟩=false)
  (fun wr => match wr.cell? ⟨bJ, 0, none⟩ with
    | some v=>u+1-(intOf v).toNat
    | none=>0)
 case atStart=>exact ⟨0,Nat.zero_le _,h0,hbn,hszW,qJW,fJW⟩
 case round =>
  clear qJ fJ h0 hb0 qJW fJW hbn hszW;obtain ⟨i,hi,hJi,hB,hsz,qJ,fJ⟩:=hrel;have qU:=(hB.cell (p:=⟨bU,0,none⟩) lU).trans qU;have qT:=(hB.cell (p:=⟨bT,0,none⟩) lT).trans qT;have qK:=(hB.cell (p:=⟨bK,0,none⟩) lK).trans qK;have g:=g.low hna hB;obtain ⟨m,hm⟩:∃ m,j0+i=m:=⟨_,rfl⟩;rw [hm] at qJ;have lJ2:bJ<wr.heap.size:=by omega
  by_cases hlt:m≤u
  · have hi2:i<N:=by omega
    have qJ0:=qJ;have HY1:=hiD (fun a1 n1 c1 a2 n2 c2 W=>HY.out i a1 n1 c1 a2 n2 c2 wr W hi2 hJi);have t0:decide (m≤u)=true:=decide_eq_true hlt;have HIN:=hiD (in_any _ _ _ zs k u m wr g HOK.out hk hu hlt);rw [hm] at HY1
    gi_wp2_with (first | (refine ⟨trivial,?_⟩;gi_at_call 251;refine (callsIn_wide.2 HIN.out).mono ?_;rintro e W2 ⟨a1,n1,c1,a2,n2,c2,rfl,u1,u2,hb⟩;obtain ⟨fn,tmps,assign,body,hy,hR⟩:=HY1.out _ _ _ _ _ _ W2 hb (HJ.out i _ _ hJi hb) (hB.trans (hb.mono (by omega))) u1 u2;have qJ:=(hb.cell (p:=⟨bJ,0,none⟩) lJ2).trans qJ;have fJ:W2.frozen? ⟨bJ,0,none⟩=false:=(hb.frozen (p:=⟨bJ,0,none⟩) lJ2).trans fJ;have hB2:=hB.trans (hb.mono (show n0≤wr.heap.size by omega));have hsz2:w0.heap.size≤W2.heap.size:=nTr hsz hb.size;clear u1 u2 hb) | (refine hR.mono ?_;rintro e W3 ⟨rfl,hJ3,hk3⟩;have qJ:=(hk3.cell (p:=⟨bJ,0,none⟩) lJ).trans qJ;have fJ:W3.frozen? ⟨bJ,0,none⟩=false:=(hk3.frozen (p:=⟨bJ,0,none⟩) lJ).trans fJ;have hB3:=hB2.trans (hk3.mono (show n0≤w0.heap.size by omega));have hsz3:w0.heap.size≤W3.heap.size:=nTr hsz2 hk3.size))
    have q2:=World.cell?_setCell_same W3 ⟨bJ,0,none⟩ (.int .i64 ((m:Int)+1)) qJ;refine ⟨⟨i+1,by omega,HJ2.out _ _ _ _ hJ3 qJ,hB3.setCell (p:=⟨bJ,0,none⟩) hn0 _,by simpa using hsz3,by rw [q2];congr 2;omega,by simpa using fJ⟩,?_⟩;rw [q2,qJ0];simp only [intOf];omega
  have t0:decide (m≤u)=false:=decide_eq_false hlt;obtain rfl:i=N:=by omega
  gi_wp2_with (refine ⟨trivial,?_⟩)
  refine ⟨fun f hf=>(by cases hf),?_⟩
  gi_wp2
  go_end0
  exact ⟨⟨_,rfl⟩,hJi,hB⟩
end
section
open Go.RowKit
theorem rip_ref_ok (a:Option Addr) (l c:Nat) (zs:List Int) (k n:Int) (w:World) (g:IntsAt w a l c zs) (h1:1≤k) (h2:k≤1024) (h3:0≤n) (h4:n≤4096) (h5:okT zs k) :
 Calls Tryz.prog 220 #[.slice a l c,.int .i64 k,.int .i64 n] w (RetVal w (.int .i64 0)):=by
 have hc:=chkT_yes h5;have HC:=hiD hc;clear hc h5
 go_enter Tryz.func220,Tryz.ntmps220
 have hB:=bRf w.heap.size w
 go_wp2_with fail
 with_reducible refine (soliCheck_any _ _ _ zs k _ g).mono ?_
 rintro e w1 ⟨rfl,hb⟩;have hB:=bLt hB hb;clear hb;rw [HC.out]
 go_wp2
 go_ret
 exact ⟨rfl,hB⟩
theorem cur_ref_ok (a:Option Addr) (l c:Nat) (zs:List Int) (k n:Int) (w:World) (g:IntsAt w a l c zs) (h1:1≤k) (h2:k≤1024) (h3:0≤n) (h4:n≤4096) (h5:okT zs k) :
 Calls Tryz.prog 118 #[.slice a l c,.int .i64 k,.int .i64 n] w (RetVal w (.int .i64 0)):=by
 have hc:=chkT_yes h5;have HC:=hiD hc;clear hc h5
 go_enter Tryz.func118,Tryz.ntmps118
 have hB:=bRf w.heap.size w
 go_wp2_with fail
 with_reducible refine (soliCheck_any _ _ _ zs k _ g).mono ?_
 rintro e w1 ⟨rfl,hb⟩;have hB:=bLt hB hb;clear hb;rw [HC.out]
 go_wp2
 go_ret
 exact ⟨rfl,hB⟩
end
end Go.Proofs.YtkhcblihbalnbaaGreatDoor
