import Derived.Test.YtkhcblihbalnbaaGreatDoorChance1Pb
import Derived.Test.YtkhcblihbalnbaaGreatDoorShare1Pb
import Derived.Test.YtkhcblihbalnbaaGreatDoorPlan3Pb
set_option linter.unusedVariables false
set_option linter.unusedSimpArgs false
set_option maxHeartbeats 16000000
set_option maxRecDepth 100000
namespace Go.Proofs.YtkhcblihbalnbaaGreatDoor
section
open Go.RowKit Go.Shelf
attribute [local go_sem] Oper.semAt_some
theorem BoxAt.low {w w':World} {B b k:Nat} (h:BoxAt w b k) (hb:Below B w w') (hl:b<B):BoxAt w' b k :=
 ⟨fun i hi=>by obtain ⟨v,hv,hu⟩:=h.c i hi;exact ⟨v,(hb.cell (p:=⟨b,i,none⟩) hl).trans hv,hu⟩,fun i hi=>(hb.frozen (p:=⟨b,i,none⟩) hl).trans (h.f i hi)⟩
end
section
open Go.RowKit Go.Shelf
theorem in_len {zs:List Int} {k u j:Nat} (hok:okT zs (k:Int)) (hk:k≤20) (hu:u≤k) (hj:j≤u):rlen (inR24 zs k u j)≤501:=by
 have hin:=okT_in hok;have hnk:zs.length≤k:=by have:=hok.2.2.2.1;omega
 have hpos:=okT_pos hok;have htin:=totS_in (g:=fun i=>zs.getD i 0) zs.length hin;obtain ⟨T,hT⟩:∃ T:Nat,totS (fun i=>zs.getD i 0) zs.length=(T:Int):=⟨(totS (fun i=>zs.getD i 0) zs.length).toNat,by omega⟩;have hT0:0<T:=by omega
 have hT1:T<9223372036854775808:=by omega
 have hql:=fun i (hi:i<zs.length)=>inE_len (g:=fun i=>zs.getD i 0) (T:=T) (k:=k) (u:=u) (j:=j) (i:=i) (hin i hi) hT0 hT1 (by omega) hu hj (by omega)
 have hsl:=sumQ_len hql zs.length (nRf _);have hres:inR24 zs k u j=sumQ 0 (inE (fun i=>zs.getD i 0) T k u j) zs.length:=by unfold inR24;rw [hT,Int.toNat_natCast]
 rw [hres];have:zs.length*(k+4+1)≤20*25:=Nat.mul_le_mul (by omega) (by omega);omega
def cloudR (zs:List Int) (k u:Nat):Rat:=sumQ 0 (fun i=>inR24 zs k u (2+i)) (u+1-2)
theorem cloud_len {zs:List Int} {k u:Nat} (hok:okT zs (k:Int)) (hk:k≤20) (hu:u≤k):∀ i,i≤u+1-2→rlen (sumQ 0 (fun i=>inR24 zs k u (2+i)) i)≤20000:=fun i hi=>by
 have h:=sumQ_len (q:=fun i=>inR24 zs k u (2+i)) (L:=501) (N:=u+1-2) (fun i hi=>in_len hok hk hu (by omega)) i hi;omega
theorem row_any (a:Option Addr) (n c:Nat) (k u j:Nat) (w:World) :
 Calls Tryz.prog 264 #[.slice a n c,.int .i64 (k:Int),.int .i64 (u:Int),.int .i64 (j:Int)] w fun e w'=>e = .returned (.func (.func 266) #[] #[.pointer (some ⟨w.heap.size+1+1+1,0,none⟩),.pointer (some ⟨w.heap.size+1+1,0,none⟩),.pointer (some ⟨w.heap.size,0,none⟩),.pointer (some ⟨w.heap.size+1,0,none⟩)]) ∧
  w'.heap.size=w.heap.size+1+1+1+1∧w'.cell? ⟨w.heap.size,0,none⟩=some (.slice a n c)∧w'.cell? ⟨w.heap.size+1,0,none⟩=some (.int .i64 (k:Int))∧w'.cell? ⟨w.heap.size+1+1,0,none⟩=some (.int .i64 (u:Int))∧w'.cell? ⟨w.heap.size+1+1+1,0,none⟩=some (.int .i64 (j:Int))∧BoxAt w' (w.heap.size+1+1+1) 1∧Below w.heap.size w w':=by
 go_enter Tryz.func264,Tryz.ntmps264
 have hB:=bRf w.heap.size w
 go_wp2_with fail
 obtain ⟨w1,hW,hz0,hb,q,f,qt0⟩:=bx1 w (w.heap.size) (by omega) (.slice a n c) 22;rw [hW];clear hW;have hB:=bLt hB hb;clear hb;have lt:w.heap.size<w1.heap.size:=by omega
 clear q f;obtain ⟨w2,hW,hz1,hb,q,f,qk0⟩:=bx1 w1 (w.heap.size+1) (by omega) (.int .i64 (k:Int)) 3;rw [hW];clear hW;have qt0:=bq hb lt qt0;have lt:=bl hb lt;have hB:=bLt hB hb;clear hb;have lk:w.heap.size+1<w2.heap.size:=by omega
 clear q f;obtain ⟨w3,hW,hz2,hb,q,f,qu0⟩:=bx1 w2 (w.heap.size+1+1) (by omega) (.int .i64 (u:Int)) 3;rw [hW];clear hW;have qt0:=bq hb lt qt0;have lt:=bl hb lt;have qk0:=bq hb lk qk0;have lk:=bl hb lk;have hB:=bLt hB hb;clear hb;have lu:w.heap.size+1+1<w3.heap.size:=by omega
 clear q f;obtain ⟨w4,hW,hz3,hb,q,f,qj0⟩:=bx1 w3 (w.heap.size+1+1+1) (by omega) (.int .i64 (j:Int)) 3;rw [hW];clear hW;have qt0:=bq hb lt qt0;have lt:=bl hb lt;have qk0:=bq hb lk qk0;have lk:=bl hb lk;have qu0:=bq hb lu qu0;have lu:=bl hb lu;have hB:=bLt hB hb;clear hb;have lj:w.heap.size+1+1+1<w4.heap.size:=by omega
 have xj:BoxAt w4 (w.heap.size+1+1+1) 1:=BoxAt.of q f rfl (by simp [notU_bool,notU_slice,notU_i64]);clear q f
 go_ret
 exact ⟨rfl,by omega,qt0,qk0,qu0,qj0,xj,hB⟩
theorem row1_hands (bJ bU bT bK n0:Nat) (a:Option Addr) (n c:Nat) (zs:List Int) (k u j0 N:Nat) (w0:World) (g:IntsAt w0 a n c zs) (hna:n=0∨∀ x,a=some x→x.block<n0) (hok:okT zs (k:Int)) (hk:k≤20) (hu:u≤k) (hj0:j0≤2) (hN:N=u+1-j0)
 (lJ:bJ<w0.heap.size) (hn0:n0≤bJ) (lU:bU<n0) (lT:bT<n0) (lK:bK<n0)
 (qJ:w0.cell? ⟨bJ,0,none⟩=some (.int .i64 (j0:Int))) (fJ:w0.frozen? ⟨bJ,0,none⟩=false) (qU:w0.cell? ⟨bU,0,none⟩=some (.int .i64 (u:Int))) (qT:w0.cell? ⟨bT,0,none⟩=some (.slice a n c)) (qK:w0.cell? ⟨bK,0,none⟩=some (.int .i64 (k:Int))) :
 Hands 2 Tryz.prog 266 #[.pointer (some ⟨bJ,0,none⟩),.pointer (some ⟨bU,0,none⟩),.pointer (some ⟨bT,0,none⟩),.pointer (some ⟨bK,0,none⟩)] w0 n0 (some bJ) N (RatNew (fun i=>inR24 zs k u (j0+i))):=fun l J W hb hJ hJ2 hY h0 =>
 row1_in 2 (by decide) l bJ bU bT bK n0 a n c zs k u j0 N w0 g hna hok hk hu hj0 hN lJ hn0 lU lT lK qJ fJ qU qT qK J (fun i a1 n1 c1 a2 n2 c2 W0 W hi h1 h2 h3 h4 h5 h6=>hY i _ W0 W hi h1 h2 h3 h4 ⟨a1,n1,c1,a2,n2,c2,rfl,h5,h6⟩) hJ (fun i W x y h hc=>hJ2 bJ rfl i W x y h hc) W hb h0
theorem Cloud_ok (a:Option Addr) (n c:Nat) (zs:List Int) (k u:Nat) (w:World) (g:IntsAt w a n c zs) (hok:okT zs (k:Int)) (hk1:1≤k) (hk:k≤20) (hu:u≤k) :
 Calls Tryz.prog 255 #[.slice a n c,.int .i64 (k:Int),.int .i64 (u:Int)] w (RetOk w (cloudR zs k u)):=by
 have h:=refA_ok hok hk1 (by omega) hu;have H:=hiD h;have HOK:=hiD hok;have hq:∀ i,i<u+1-2→rlen (inR24 zs k u (2+i))≤1000000:=fun i hi=>nTr (in_len hok hk hu (by omega)) (by decide)
 have hs:∀ i,i≤u+1-2→rlen (sumQ 0 (fun i=>inR24 zs k u (2+i)) i)≤1000000:=fun i hi=>nTr (cloud_len hok hk hu i hi) (by decide)
 have HQ:=hiD hq;have HS:=hiD hs;obtain ⟨R,hR⟩:∃ R,cloudR zs k u=R:=⟨_,rfl⟩;rw [hR];have HR:=hiD (show sumQ 0 (fun i=>inR24 zs k u (2+i)) (u+1-2)=R from hR);clear h hok hq hs hR
 go_enter Tryz.func255,Tryz.ntmps255
 have hB:=bRf w.heap.size w
 go_wp2_with fail
 obtain ⟨w1,hW,hz0,hb,q,f,qr0,qr1,qr2⟩:=bx3 w (w.heap.size) (by omega) (.bool false) (.slice none 0 0) (.slice none 0 0) 28;rw [hW];clear hW;have g:=g.past hb;have hB:=bLt hB hb;clear hb;have lr:w.heap.size<w1.heap.size:=by omega
 have xr:BoxAt w1 (w.heap.size) 3:=BoxAt.of q f rfl (by simp [notU_bool,notU_slice,notU_i64]);clear q f;clear hz0
 with_reducible refine (refuses_any _ _ _ zs (k:Int) (u:Int) _ g).mono ?_
 rintro e w2 ⟨rfl,hb⟩;have g:=g.past hb;have xr:=xr.past hb lr;obtain ⟨qr0,qr1,qr2,lr⟩:=bq3 hb lr qr0 qr1 qr2;have hB:=bLt hB hb;clear hb;rw [H.out]
 go_wp2_with fail
 have HUN:=hiD g.under;have hs1:=hB.size
 go_wp2_with fail
 refine (row_any _ _ _ k u 2 _).mono ?_;rintro e w3 ⟨rfl,hzR,qt0,qk0,qu0,qj0,xj,hb⟩;have g:=g.past hb;have xr:=xr.past hb lr;obtain ⟨qr0,qr1,qr2,lr⟩:=bq3 hb lr qr0 qr1 qr2;have hB:=bLt hB hb;clear hb;have lt:w2.heap.size<w3.heap.size:=by omega
 have lk:w2.heap.size+1<w3.heap.size:=by omega
 have lu:w2.heap.size+1+1<w3.heap.size:=by omega
 have lj:w2.heap.size+1+1+1<w3.heap.size:=by omega
 go_wp2_with fail
 with_reducible refine (cpair_zero _).mono ?_
 rintro e w4 ⟨ahZU,nhZU,chZU,ahZD,nhZD,chZD,rfl,hZU,hZD,hb⟩;have hZU:=hZU.mono hB.size;have hZD:=hZD.mono hB.size;have g:=g.past hb;have xr:=xr.past hb lr;obtain ⟨qr0,qr1,qr2,lr⟩:=bq3 hb lr qr0 qr1 qr2;have qt0:=bq hb lt qt0;have lt:=bl hb lt;have qk0:=bq hb lk qk0;have lk:=bl hb lk;have qu0:=bq hb lu qu0;have lu:=bl hb lu;have qj0:=bq hb lj qj0;have xj:=xj.past hb lj;have lj:=bl hb lj;have hB:=bLt hB hb;clear hb
 go_wp2_with fail
 have hsz:=hB.size;have lr2:w.heap.size<w2.heap.size+1+1+1:=by omega
 refine (fold_any w.heap.size 266 _ (u+1-2) 0 (fun i=>inR24 zs k u (2+i)) _ _ _ _ _ _ _ hZU hZD hB.size (w2.heap.size+1+1+1) (some (w2.heap.size+1+1+1)) (by omega) (fun b e=>by cases e;exact lj) ((row1_hands (w2.heap.size+1+1+1) (w2.heap.size+1+1) w2.heap.size (w2.heap.size+1) (w2.heap.size+1+1+1) _ _ _ zs k u 2 _ _ g (HUN.out.imp id fun h x hx=>by have:=h x hx;omega) HOK.out hk hu (by decide) rfl lj (nRf _) (by omega) (by omega) (by omega) qj0 (xj.f 0 (by decide)) qu0 qt0 qk0).weak fun _ _ _ _ _ h=>h.ok) (enters_of Tryz.func266 (by kernel_rfl) rfl) HQ.out HS.out).mono ?_;rintro e w5 ⟨ahAU,nhAU,chAU,ahAD,nhAD,chAD,rfl,hAU,hAD,hb⟩;rw [HR.out] at hAU hAD ⊢;have qr0:=(hb.cell (p:=⟨w.heap.size,0,none⟩) lr2).trans qr0;have qr1:=(hb.cell (p:=⟨w.heap.size,1,none⟩) lr2).trans qr1;have qr2:=(hb.cell (p:=⟨w.heap.size,2,none⟩) lr2).trans qr2;have xr:=xr.low hb lr2;have lr:=nLt lr hb.size;have hB:=hB.trans (hb.mono (by omega));clear hb;have zf0:=xr.f 0 (by decide);have zf1:=xr.f 1 (by decide);have zf2:=xr.f 2 (by decide)
 go_wp2
 obtain ⟨w6,hW,hO,qN0,qN1,qN2,xN⟩:=store3 xr (.bool (neg (R).num)) (.slice ahAU nhAU chAU) (.slice ahAD nhAD chAD) (nu rfl) (nu rfl) (nu rfl);try rw [hW]
 clear hW;have hAU:=hO.own hAU;have hAD:=hO.own hAD;have lr:w.heap.size<w6.heap.size:=by rw [hO.size];exact lr
 have qr0:=qN0;have qr1:=qN1;have qr2:=qN2;have xr:=xN;have hB:=hO.below (by omega) hB;clear hO qN0 qN1 qN2 xN zf0 zf1 zf2;refine bodyPost_ret (v:=.tuple #[.agg #[.bool (neg R.num),.slice ahAU nhAU chAU,.slice ahAD nhAD chAD],.int .i64 0]) ?_ rfl ⟨_,_,_,_,_,_,rfl,hAU,hAD,hB⟩;simp [results,Tryz.f255,go_sem,qr0,qr1,qr2]
end
section
open Go.RowKit Go.Shelf
theorem div24 {p q:Rat} {a1:Option Addr} {n1 c1:Nat} {a2:Option Addr} {n2 c2:Nat} {a3:Option Addr} {n3 c3:Nat} {a4:Option Addr} {n4 c4:Nat} {w:World} (g1:NatAt w a1 n1 c1 (digs p.num.natAbs)) (g2:NatAt w a2 n2 c2 (digs p.den)) (g3:NatAt w a3 n3 c3 (digs q.num.natAbs)) (g4:NatAt w a4 n4 c4 (digs q.den)) (hp:rlen p≤1048576) (hq:rlen q≤1048576) (h0:q≠0) :
 Calls Tryz.prog 257 #[.agg #[.bool (neg p.num),.slice a1 n1 c1,.slice a2 n2 c2],.agg #[.bool (neg q.num),.slice a3 n3 c3,.slice a4 n4 c4]] w (RetOk w (p/q)):=by
 unfold rlen at hp hq;exact div05_rat p q _ _ _ _ _ _ _ _ _ _ _ _ w g1 g2 g3 g4 (by have:=g1.len;omega) (by have:=g2.len;omega) (by have:=g3.len;omega) (by have:=g4.len;omega) h0
def freeR (zs:List Int) (k u:Nat):Rat:=mkRat 2 u*inR24 zs k u 2/cloudR zs k u
theorem in_any2 (a:Option Addr) (n c:Nat) (zs:List Int) (k u:Nat) (w:World) (g:IntsAt w a n c zs) (hok:okT zs (k:Int)) (hk:k≤20) (hu:u≤k) (hj:2≤u) :
 Calls Tryz.prog 251 #[.slice a n c,.int .i64 (k:Int),.int .i64 (u:Int),.int .i64 2] w (RetRat w (inR24 zs k u 2)):=in_any a n c zs k u 2 w g hok hk hu hj
theorem cloud_one {zs:List Int} {k u:Nat} (h:u≤1):cloudR zs k u=0:=by
 unfold cloudR;rw [show u+1-2=0 by omega];rfl
theorem Free_none (a:Option Addr) (n c:Nat) (zs:List Int) (k u:Nat) (w:World) (g:IntsAt w a n c zs) (hok:okT zs (k:Int)) (hk1:1≤k) (hk:k≤20) (hu:u≤k) (hu1:1≤u) (h0:cloudR zs k u=0) :
 Calls Tryz.prog 247 #[.slice a n c,.int .i64 (k:Int),.int .i64 (u:Int)] w (RetOk w 0):=by
 have HOK:=hiD hok;have t0:((u:Int) == 0)=false:=by rw [beq_eq_false_iff_ne];omega
 obtain ⟨C,hC⟩:∃ C,cloudR zs k u=C:=⟨_,rfl⟩;have HC:=hiD (fun w g=>Cloud_ok a n c zs k u w g hok hk1 hk hu);have HCC:=hiD hC;have ll:(digs C.num.natAbs).length≤1:=by rw [← hC,h0];decide
 have HS:=hiD (show C.num.sign=0 by rw [← hC,h0];rfl);have HZ:=hiD (show C=0 by rw [← hC,h0]);clear hok hC h0
 go_enter Tryz.func247,Tryz.ntmps247
 have hB:=bRf w.heap.size w
 go_wp2_with fail
 obtain ⟨w1,hW,hz0,hb,q,f,qr0,qr1,qr2⟩:=bx3 w (w.heap.size) (by omega) (.bool false) (.slice none 0 0) (.slice none 0 0) 28;rw [hW];clear hW;have g:=g.past hb;have hB:=bLt hB hb;clear hb;have lr:w.heap.size<w1.heap.size:=by omega
 have xr:BoxAt w1 (w.heap.size) 3:=BoxAt.of q f rfl (by simp [notU_bool,notU_slice,notU_i64]);clear q f;clear hz0
 with_reducible refine (HC.out _ g).mono ?_
 rintro e w2 ⟨ahCU,nhCU,chCU,ahCD,nhCD,chCD,rfl,hCU,hCD,hb⟩;have hCU:=hCU.mono hB.size;have hCD:=hCD.mono hB.size;have xr:=xr.past hb lr;obtain ⟨qr0,qr1,qr2,lr⟩:=bq3 hb lr qr0 qr1 qr2;have hB:=bLt hB hb;clear hb;rw [HCC.out] at hCU hCD ⊢
 go_wp2_with fail
 obtain ⟨w3,hW,hz0,hb,q,f,qx0,qx1,qx2⟩:=bx3 w2 (w2.heap.size) (by omega) (.bool (neg (C).num)) (.slice ahCU nhCU chCU) (.slice ahCD nhCD chCD) 28;rw [hW];clear hW;have hCU:=hCU.past hb;have hCD:=hCD.past hb;have xr:=xr.past hb lr;obtain ⟨qr0,qr1,qr2,lr⟩:=bq3 hb lr qr0 qr1 qr2;have hB:=bLt hB hb;clear hb;have lx:w2.heap.size<w3.heap.size:=by omega
 clear q f;clear hz0
 with_reducible refine (sign_c hCU.toNatAt (by have:=hCU.len;omega)).mono ?_
 rintro e w4 ⟨rfl,hb⟩;have hCU:=hCU.past hb;have hCD:=hCD.past hb;have xr:=xr.past hb lr;obtain ⟨qr0,qr1,qr2,lr⟩:=bq3 hb lr qr0 qr1 qr2;obtain ⟨qx0,qx1,qx2,lx⟩:=bq3 hb lx qx0 qx1 qx2;have hB:=bLt hB hb;clear hb;rw [HS.out];have zf0:=xr.f 0 (by decide);have zf1:=xr.f 1 (by decide);have zf2:=xr.f 2 (by decide)
 go_wp2
 obtain ⟨w5,hW,hO,qN0,qN1,qN2,xN⟩:=store3 xr (.bool (neg (C).num)) (.slice ahCU nhCU chCU) (.slice ahCD nhCD chCD) (nu rfl) (nu rfl) (nu rfl);try rw [hW]
 clear hW;have hCU:=hO.own hCU;have hCD:=hO.own hCD;have lr:w.heap.size<w5.heap.size:=by rw [hO.size];exact lr
 have qx0:=(hO.cell (b2:=w2.heap.size) (k:=0) (by omega)).trans qx0;have qx1:=(hO.cell (b2:=w2.heap.size) (k:=1) (by omega)).trans qx1;have qx2:=(hO.cell (b2:=w2.heap.size) (k:=2) (by omega)).trans qx2;have lx:w2.heap.size<w5.heap.size:=by rw [hO.size];exact lx
 have qr0:=qN0;have qr1:=qN1;have qr2:=qN2;have xr:=xN;have hB:=hO.below (by omega) hB;clear hO qN0 qN1 qN2 xN zf0 zf1 zf2;rw [HZ.out] at *;refine bodyPost_ret (v:=.tuple #[.agg #[.bool (neg (0:Rat).num),.slice ahCU nhCU chCU,.slice ahCD nhCD chCD],.int .i64 0]) ?_ rfl ⟨_,_,_,_,_,_,rfl,hCU,hCD,hB⟩;simp [results,Tryz.f247,go_sem,qr0,qr1,qr2]
theorem Free_ok (a:Option Addr) (n c:Nat) (zs:List Int) (k u:Nat) (w:World) (g:IntsAt w a n c zs) (hok:okT zs (k:Int)) (hk1:1≤k) (hk:k≤20) (hu:u≤k) (hu2:2≤u) (h0:cloudR zs k u≠0) :
 Calls Tryz.prog 247 #[.slice a n c,.int .i64 (k:Int),.int .i64 (u:Int)] w (RetOk w (freeR zs k u)):=by
 have hpr:=fun w=>cpair_any 2 u w (by omega) (by omega) (by omega)
 have hin:=fun w g=>in_any2 a n c zs k u w g hok hk hu hu2
 have lp0:rlen (mkRat 2 u)≤1:=rlen_mkRat (by omega) (by decide) (digs_length_le.2 (by simp;omega));have li0:=in_len hok hk hu hu2;have lc0:rlen (cloudR zs k u)≤20000:=cloud_len hok hk hu _ (nRf _);have HOK:=hiD hok;have t0:((u:Int) == 0)=false:=by rw [beq_eq_false_iff_ne];omega
 obtain ⟨C,hC⟩:∃ C,cloudR zs k u=C:=⟨_,rfl⟩;have HC:=hiD (fun w g=>Cloud_ok a n c zs k u w g hok hk1 hk hu);have HCC:=hiD hC;have ll:(digs C.num.natAbs).length≤20000:=by rw [← hC];unfold rlen at lc0;omega
 rw [hC] at h0 lc0;have hns:C.num.sign≠0:=fun h=>h0 (Rat.num_eq_zero.1 (Int.sign_eq_zero_iff_zero.1 h))
 have t1:(C.num.sign == 0)=false:=by rw [beq_eq_false_iff_ne];exact hns
 obtain ⟨S,hS⟩:∃ S,C.num.sign=S:=⟨_,rfl⟩;rw [hS] at t1;have HS:=hiD hS;obtain ⟨P,hP⟩:∃ P,mkRat 2 u=P:=⟨_,rfl⟩;obtain ⟨I,hI⟩:∃ I,inR24 zs k u 2=I:=⟨_,rfl⟩;have hF:freeR zs k u=P*I/C:=by unfold freeR;rw [hP,hI,hC]
 rw [hF];obtain ⟨X,hX⟩:∃ X,P*I=X:=⟨_,rfl⟩;obtain ⟨R,hR⟩:∃ R,X/C=R:=⟨_,rfl⟩;rw [hX,hR];simp only [hP] at hpr;simp only [hI] at hin;rw [hP] at lp0;rw [hI] at li0;have lx0:rlen (P*I)≤rlen P+rlen I+1:=product_short P I;rw [hX] at lx0;have HPR:=hiD hpr;have HIN:=hiD hin;have HX:=hiD hX;have HR:=hiD hR;have LP:=hiD (show rlen P≤1048576 by omega);have LI:=hiD (show rlen I≤1048576 by omega);have LX:=hiD (show rlen X≤1048576 by omega);have LC:=hiD (show rlen C≤1048576 by omega);have H0:=hiD h0;clear hok hC h0 hpr hin lp0 li0 lc0 hns hS hP hI hF hX hR lx0
 go_enter Tryz.func247,Tryz.ntmps247
 have hB:=bRf w.heap.size w
 go_wp2_with fail
 obtain ⟨w1,hW,hz0,hb,q,f,qr0,qr1,qr2⟩:=bx3 w (w.heap.size) (by omega) (.bool false) (.slice none 0 0) (.slice none 0 0) 28;rw [hW];clear hW;have g:=g.past hb;have hB:=bLt hB hb;clear hb;have lr:w.heap.size<w1.heap.size:=by omega
 have xr:BoxAt w1 (w.heap.size) 3:=BoxAt.of q f rfl (by simp [notU_bool,notU_slice,notU_i64]);clear q f;clear hz0
 with_reducible refine (HC.out _ g).mono ?_
 rintro e w2 ⟨ahCU,nhCU,chCU,ahCD,nhCD,chCD,rfl,hCU,hCD,hb⟩;have hCU:=hCU.mono hB.size;have hCD:=hCD.mono hB.size;have g:=g.past hb;have xr:=xr.past hb lr;obtain ⟨qr0,qr1,qr2,lr⟩:=bq3 hb lr qr0 qr1 qr2;have hB:=bLt hB hb;clear hb;rw [HCC.out] at hCU hCD ⊢
 go_wp2_with fail
 obtain ⟨w3,hW,hz0,hb,q,f,qx0,qx1,qx2⟩:=bx3 w2 (w2.heap.size) (by omega) (.bool (neg (C).num)) (.slice ahCU nhCU chCU) (.slice ahCD nhCD chCD) 28;rw [hW];clear hW;have g:=g.past hb;have hCU:=hCU.past hb;have hCD:=hCD.past hb;have xr:=xr.past hb lr;obtain ⟨qr0,qr1,qr2,lr⟩:=bq3 hb lr qr0 qr1 qr2;have hB:=bLt hB hb;clear hb;have lx:w2.heap.size<w3.heap.size:=by omega
 clear q f;clear hz0
 with_reducible refine (sign_c hCU.toNatAt (by have:=hCU.len;omega)).mono ?_
 rintro e w4 ⟨rfl,hb⟩;have g:=g.past hb;have hCU:=hCU.past hb;have hCD:=hCD.past hb;have xr:=xr.past hb lr;obtain ⟨qr0,qr1,qr2,lr⟩:=bq3 hb lr qr0 qr1 qr2;obtain ⟨qx0,qx1,qx2,lx⟩:=bq3 hb lx qx0 qx1 qx2;have hB:=bLt hB hb;clear hb;rw [HS.out]
 go_wp2_with fail
 with_reducible refine (HPR.out _).mono ?_
 rintro e w5 ⟨ahPU,nhPU,chPU,ahPD,nhPD,chPD,rfl,hPU,hPD,hb⟩;have hPU:=hPU.mono hB.size;have hPD:=hPD.mono hB.size;have g:=g.past hb;have hCU:=hCU.past hb;have hCD:=hCD.past hb;have xr:=xr.past hb lr;obtain ⟨qr0,qr1,qr2,lr⟩:=bq3 hb lr qr0 qr1 qr2;obtain ⟨qx0,qx1,qx2,lx⟩:=bq3 hb lx qx0 qx1 qx2;have hB:=bLt hB hb;clear hb
 go_wp2_with fail
 with_reducible refine (HIN.out _ g).mono ?_
 rintro e w6 ⟨ahIU,nhIU,chIU,ahID,nhID,chID,rfl,hIU,hID,hb⟩;have hIU:=hIU.mono hB.size;have hID:=hID.mono hB.size;have hCU:=hCU.past hb;have hCD:=hCD.past hb;have hPU:=hPU.past hb;have hPD:=hPD.past hb;have xr:=xr.past hb lr;obtain ⟨qr0,qr1,qr2,lr⟩:=bq3 hb lr qr0 qr1 qr2;obtain ⟨qx0,qx1,qx2,lx⟩:=bq3 hb lx qx0 qx1 qx2;have hB:=bLt hB hb;clear hb
 go_wp2_with fail
 obtain ⟨w7,hW,hz0,hb,q,f⟩:=box1g w6 (w6.heap.size) (by omega) #[.bool (neg (P).num),.slice ahPU nhPU chPU,.slice ahPD nhPD chPD,.bool (neg (I).num),.slice ahIU nhIU chIU,.slice ahID nhID chID] 28;rw [hW];clear hW;have hCU:=hCU.past hb;have hCD:=hCD.past hb;have hPU:=hPU.past hb;have hPD:=hPD.past hb;have hIU:=hIU.past hb;have hID:=hID.past hb;have xr:=xr.past hb lr;obtain ⟨qr0,qr1,qr2,lr⟩:=bq3 hb lr qr0 qr1 qr2;obtain ⟨qx0,qx1,qx2,lx⟩:=bq3 hb lx qx0 qx1 qx2;have hB:=bLt hB hb;clear hb;have lv:w6.heap.size<w7.heap.size:=by omega
 have qv0:=q 0;have qv1:=q 1;have qv2:=q 2;have qv3:=q 3;have qv4:=q 4;have qv5:=q 5;simp only [lgA,lgZ,lgS] at qv0 qv1 qv2 qv3 qv4 qv5;clear q f;clear hz0
 with_reducible refine (mul_two (RatsAt.two lv qv0 qv1 qv2 qv3 qv4 qv5 hPU.toNatAt hPD.toNatAt hIU.toNatAt hID.toNatAt) LP.out LI.out).mono ?_
 rintro e w8 ⟨ahXU,nhXU,chXU,ahXD,nhXD,chXD,rfl,hXU,hXD,hb⟩;have hXU:=hXU.mono hB.size;have hXD:=hXD.mono hB.size;have hCU:=hCU.past hb;have hCD:=hCD.past hb;have xr:=xr.past hb lr;obtain ⟨qr0,qr1,qr2,lr⟩:=bq3 hb lr qr0 qr1 qr2;obtain ⟨qx0,qx1,qx2,lx⟩:=bq3 hb lx qx0 qx1 qx2;have qv0:=bq hb lv qv0;have qv1:=bq hb lv qv1;have qv2:=bq hb lv qv2;have qv3:=bq hb lv qv3;have qv4:=bq hb lv qv4;have qv5:=bq hb lv qv5;have lv:=bl hb lv;have hB:=bLt hB hb;clear hb;rw [HX.out] at hXU hXD ⊢
 go_wp2_with fail
 obtain ⟨w9,hW,hz0,hb,q,f,qy0,qy1,qy2⟩:=bx3 w8 (w8.heap.size) (by omega) (.bool (neg (X).num)) (.slice ahXU nhXU chXU) (.slice ahXD nhXD chXD) 28;rw [hW];clear hW;have hCU:=hCU.past hb;have hCD:=hCD.past hb;have hXU:=hXU.past hb;have hXD:=hXD.past hb;have xr:=xr.past hb lr;obtain ⟨qr0,qr1,qr2,lr⟩:=bq3 hb lr qr0 qr1 qr2;obtain ⟨qx0,qx1,qx2,lx⟩:=bq3 hb lx qx0 qx1 qx2;have hB:=bLt hB hb;clear hb;have ly:w8.heap.size<w9.heap.size:=by omega
 clear q f;clear hz0
 with_reducible refine (div24 hXU.toNatAt hXD.toNatAt hCU.toNatAt hCD.toNatAt LX.out LC.out H0.out).mono ?_
 rintro e w10 ⟨ahAU,nhAU,chAU,ahAD,nhAD,chAD,rfl,hAU,hAD,hb⟩;have hAU:=hAU.mono hB.size;have hAD:=hAD.mono hB.size;have hCU:=hCU.past hb;have hCD:=hCD.past hb;have hXU:=hXU.past hb;have hXD:=hXD.past hb;have xr:=xr.past hb lr;obtain ⟨qr0,qr1,qr2,lr⟩:=bq3 hb lr qr0 qr1 qr2;obtain ⟨qx0,qx1,qx2,lx⟩:=bq3 hb lx qx0 qx1 qx2;obtain ⟨qy0,qy1,qy2,ly⟩:=bq3 hb ly qy0 qy1 qy2;have hB:=bLt hB hb;clear hb;rw [HR.out] at hAU hAD ⊢;have zf0:=xr.f 0 (by decide);have zf1:=xr.f 1 (by decide);have zf2:=xr.f 2 (by decide)
 go_wp2
 obtain ⟨w11,hW,hO,qN0,qN1,qN2,xN⟩:=store3 xr (.bool (neg (R).num)) (.slice ahAU nhAU chAU) (.slice ahAD nhAD chAD) (nu rfl) (nu rfl) (nu rfl);try rw [hW]
 clear hW;have hCU:=hO.own hCU;have hCD:=hO.own hCD;have hXU:=hO.own hXU;have hXD:=hO.own hXD;have hAU:=hO.own hAU;have hAD:=hO.own hAD;have lr:w.heap.size<w11.heap.size:=by rw [hO.size];exact lr
 have qx0:=(hO.cell (b2:=w2.heap.size) (k:=0) (by omega)).trans qx0;have qx1:=(hO.cell (b2:=w2.heap.size) (k:=1) (by omega)).trans qx1;have qx2:=(hO.cell (b2:=w2.heap.size) (k:=2) (by omega)).trans qx2;have lx:w2.heap.size<w11.heap.size:=by rw [hO.size];exact lx
 have qy0:=(hO.cell (b2:=w8.heap.size) (k:=0) (by omega)).trans qy0;have qy1:=(hO.cell (b2:=w8.heap.size) (k:=1) (by omega)).trans qy1;have qy2:=(hO.cell (b2:=w8.heap.size) (k:=2) (by omega)).trans qy2;have ly:w8.heap.size<w11.heap.size:=by rw [hO.size];exact ly
 have qr0:=qN0;have qr1:=qN1;have qr2:=qN2;have xr:=xN;have hB:=hO.below (by omega) hB;clear hO qN0 qN1 qN2 xN zf0 zf1 zf2;refine bodyPost_ret (v:=.tuple #[.agg #[.bool (neg R.num),.slice ahAU nhAU chAU,.slice ahAD nhAD chAD],.int .i64 0]) ?_ rfl ⟨_,_,_,_,_,_,rfl,hAU,hAD,hB⟩;simp [results,Tryz.f247,go_sem,qr0,qr1,qr2]
end
def shareQ (p:Rat) (many so:Nat):Rat:=(ch many so:Rat)*p ^ so*(1-p) ^ (many-so)
def firstG (p:Rat) (n:Nat):List Rat:=(List.range (n+1)).foldl (fun g r=>g.set ((n-r)*(n+1)+r) (shareQ p n r)) (List.replicate ((n+1)*(n+1)) 0)
def handG (free same:Rat) (n:Nat) (mass:Rat) (c r:Nat) (out:List Rat):List Rat :=
 if r=0∨mass=0 then out else
 (List.range (c + 1)).foldl (fun out a =>
   if shareQ free c a=0 then out else
   (List.range r).foldl (fun out b=>out.set ((c-a)*(n+1)+(r-1-b+a)) (out.getD ((c-a)*(n+1)+(r-1-b+a)) 0+mass*shareQ free c a*shareQ same (r-1) b)) out) out
def nextG (free same:Rat) (n:Nat) (g:List Rat):List Rat :=
 (List.range ((n+1)*(n+1))).foldl (fun out i=>handG free same n (g.getD i 0) (i/(n+1)) (i % (n+1)) out) (List.replicate ((n+1)*(n+1)) 0)
def levelG (zs:List Int) (k n:Nat):Nat→List Rat
 | 0=>firstG (inR24 zs k k 1) n
 | i+1=>nextG (freeR zs k (k-i)) (mkRat 1 (k-i)) n (levelG zs k n i)
def stuckG (n u:Nat) (g:List Rat):Rat:=(List.range ((n+1)*(n+1))).foldl (fun q i=>if u=0∨i % (n+1)=0 then q+g.getD i 0 else q) 0
def stuckR (zs:List Int) (k n u:Nat):Rat:=stuckG n u (levelG zs k n (k-u))
def failR (zs:List Int) (k n:Nat):Rat:=(List.range k).foldl (fun q i=>q+stuckR zs k n (1+i)) 0
theorem fail_two:failR [1,1] 2 0=1∧failR [1,1] 2 1=1∧failR [1,1] 2 2=mkRat 3 8:=by decide +kernel
section
open Go.RowKit
def RatC (w:World) (b:Nat) (q:Rat):Prop:=∃ a1 n1 c1 a2 n2 c2,w.cell? ⟨b,0,none⟩=some (.bool (neg q.num))∧w.cell? ⟨b,1,none⟩=some (.slice a1 n1 c1)∧w.cell? ⟨b,2,none⟩=some (.slice a2 n2 c2)∧NatAt w a1 n1 c1 (digs q.num.natAbs)∧NatAt w a2 n2 c2 (digs q.den)
theorem RatC.stays {w w':World} {b:Nat} {q:Rat} {X:Nat→Prop} (h:RatC w b q) (hs:Stays X w w') (hb:¬ X b):RatC w' b q:=by
 obtain ⟨a1,n1,c1,a2,n2,c2,q0,q1,q2,d1,d2⟩:=h;exact ⟨a1,n1,c1,a2,n2,c2,hs.cell hb q0,hs.cell hb q1,hs.cell hb q2,d1.stays hs,d2.stays hs⟩
theorem RatC.lt {w:World} {b:Nat} {q:Rat} (h:RatC w b q):b<w.heap.size:=by
 obtain ⟨a1,n1,c1,a2,n2,c2,q0,_⟩:=h;exact World.block_lt_of_cell? w ⟨b,0,none⟩ q0
def pq (q:Rat):Nat→Rat:=fun i=>if i=0 then q else 1-q
def ShSt (w:World) (f:Value) (q:Rat) (X:Nat→Prop):Prop :=
 ∃ bp b6 b1 b3 Xp,f = .func (.func 253) #[] #[.pointer (some ⟨b6,0,none⟩),.pointer (some ⟨b1,0,none⟩),.pointer (some ⟨b3,0,none⟩)]∧PwSt w bp (pq q) Xp ∧
  w.cell? ⟨b6,0,none⟩=some (.func (.func 252) #[] #[.pointer (some ⟨bp,0,none⟩)])∧RatC w b1 q∧RatC w b3 (1-q)∧(¬ Xp b6∧¬ Xp b1∧¬ Xp b3)∧∀ k,X k ↔ (k=b6∨k=b1∨k=b3∨Xp k)
theorem ShSt.stays {w w':World} {f:Value} {q:Rat} {X Y:Nat→Prop} (h:ShSt w f q X) (hs:Stays Y w w') (hx:∀ k,X k→¬ Y k):ShSt w' f q X:=by
 obtain ⟨bp,b6,b1,b3,Xp,e,hp,h6,h1,h3,hn,hX⟩:=h;exact ⟨bp,b6,b1,b3,Xp,e,hp.stays hs (fun k hk=>hx k ((hX k).2 (.inr (.inr (.inr hk))))),hs.cell (hx _ ((hX _).2 (.inl rfl))) h6,h1.stays hs (hx _ ((hX _).2 (.inr (.inl rfl)))),h3.stays hs (hx _ ((hX _).2 (.inr (.inr (.inl rfl))))),hn,hX⟩
theorem ShSt.past {w w':World} {f:Value} {q:Rat} {X:Nat→Prop} (h:ShSt w f q X) (hb:Below w.heap.size w w'):ShSt w' f q X:=h.stays (Y:=fun _=>False) (.ofBelow hb) (fun _ _=>id)
theorem ShSt.lt {w:World} {f:Value} {q:Rat} {X:Nat→Prop} (h:ShSt w f q X):∀ k,X k→k<w.heap.size:=by
 obtain ⟨bp,b6,b1,b3,Xp,e,hp,h6,h1,h3,hn,hX⟩:=h;intro k hk;rcases (hX k).1 hk with rfl | rfl | rfl | h
 · exact World.block_lt_of_cell? w ⟨_,0,none⟩ h6
 · exact h1.lt
 · exact h3.lt
 exact hp.lt k h
theorem digs_one:digs 1=[1]:=by decide
theorem share_any (f:Value) (q:Rat) (X0:Nat→Prop) (many so:Nat) (w:World) (b6 b1 b3 bp:Nat) (Xp:Nat→Prop) (hp:PwSt w bp (pq q) Xp)
 (q6:w.cell? ⟨b6,0,none⟩=some (.func (.func 252) #[] #[.pointer (some ⟨bp,0,none⟩)])) (h1:RatC w b1 q) (h3:RatC w b3 (1-q)) (n6:¬ Xp b6) (n1:¬ Xp b1) (n3:¬ Xp b3) (hX:∀ k,X0 k ↔ (k=b6∨k=b1∨k=b3∨Xp k))
 (hf:f = .func (.func 253) #[] #[.pointer (some ⟨b6,0,none⟩),.pointer (some ⟨b1,0,none⟩),.pointer (some ⟨b3,0,none⟩)])
 (hm:many≤1000) (hso:so≤many) (hl:∀ j,j≤many→rlen (q ^ j)≤1048576∧rlen ((1-q) ^ j)≤1048576) (hq1:rlen q≤1048576∧rlen (1-q)≤1048576) :
 Calls Tryz.prog 253 #[.int .i64 (many:Int),.int .i64 (so:Int),.pointer (some ⟨b6,0,none⟩),.pointer (some ⟨b1,0,none⟩),.pointer (some ⟨b3,0,none⟩)] w (RetSt w (shareQ q many so) X0 (fun w' X'=>ShSt w' f q X')):=by
 obtain ⟨a1,m1,k1,a2,m2,k2,u0,u1,u2,D1,D2⟩:=h1;obtain ⟨a3,m3,k3,a4,m4,k4,v0,v1,v2,D3,D4⟩:=h3;have hlt:=hp.lt;have l6:b6<w.heap.size:=World.block_lt_of_cell? w ⟨b6,0,none⟩ q6;have l1:b1<w.heap.size:=World.block_lt_of_cell? w ⟨b1,0,none⟩ u0;have l3:b3<w.heap.size:=World.block_lt_of_cell? w ⟨b3,0,none⟩ v0
 have hp0:∀ (w:World) (X:Nat→Prop),PwSt w bp (pq q) X→NatAt w a1 m1 k1 (digs q.num.natAbs)→NatAt w a2 m2 k2 (digs q.den)→Calls Tryz.prog 252 #[.int .i64 0,.int .i64 (so:Int),.agg #[.bool (neg q.num),.slice a1 m1 k1,.slice a2 m2 k2],.pointer (some ⟨bp,0,none⟩)] w (RetSt w (q ^ so) X (fun w' X'=>PwSt w' bp (pq q) X')) :=
  fun w X hs e1 e2=>power0_any bp (pq q) X so _ _ _ _ _ _ w hs (by omega) (fun j hj=>(hl j (by omega)).1) hq1.1 e1 e2
 obtain ⟨E,hE⟩:∃ E,many-so=E:=⟨_,rfl⟩
 have hp1:∀ (w:World) (X:Nat→Prop),PwSt w bp (pq q) X→NatAt w a3 m3 k3 (digs (1-q).num.natAbs)→NatAt w a4 m4 k4 (digs (1-q).den)→Calls Tryz.prog 252 #[.int .i64 1,.int .i64 (E:Int),.agg #[.bool (neg (1-q).num),.slice a3 m3 k3,.slice a4 m4 k4],.pointer (some ⟨bp,0,none⟩)] w (RetSt w ((1-q) ^ E) X (fun w' X'=>PwSt w' bp (pq q) X')) :=
  fun w X hs e1 e2=>power1_any bp (pq q) X E _ _ _ _ _ _ w hs (by omega) (fun j hj=>(hl j (by omega)).2) hq1.2 e1 e2
 have lA:=(hl so (by omega)).1;have lB:=(hl E (by omega)).2;have hres:shareQ q many so=(ch many so:Rat)*q ^ so*(1-q) ^ E:=by rw [← hE];rfl
 have lC:=ch_len (n:=many) (by omega) so;obtain ⟨N,hN⟩:∃ N,ch many so=N:=⟨_,rfl⟩;rw [hN] at lC hres
 have hmk:makeR (neg (N:Int)) (digs (N:Int).natAbs) (digs 1) = .ok (N:Rat):=by
  unfold makeR;rw [if_neg (by rw [chkZ_canon];simp),if_neg (by rw [val_digs];decide),sg_canon,val_digs]
  congr 1
  rw [Rat.mkRat_one];rfl
 have lC2:rlen (N:Rat)≤1048576:=by
  have h:=rlen_mkRat (z:=(N:Int)) (d:=1) (L:=1001) (by decide) (by rw [Int.natAbs_natCast];omega) (by decide);rw [Rat.mkRat_one] at h;exact nTr h (by decide)
 rw [hres];obtain ⟨A,hA⟩:∃ A,q ^ so=A:=⟨_,rfl⟩;obtain ⟨B,hB0⟩:∃ B,(1-q) ^ E=B:=⟨_,rfl⟩;obtain ⟨C,hC⟩:∃ C,(N:Rat)=C:=⟨_,rfl⟩;obtain ⟨p1,hp2⟩:∃ p1,1-q=p1:=⟨_,rfl⟩;simp only [hA] at hp0;simp only [hB0] at hp1;rw [hA] at lA;rw [hB0] at lB;rw [hC] at lC2 hmk;rw [hA,hB0,hC];simp only [hp2] at hp1;simp only [hp2] at v0 D3 D4;obtain ⟨R,hR⟩:∃ R,C*A*B=R:=⟨_,rfl⟩;rw [hR];have HS:=hiD hp;have HP0:=hiD hp0;have HP1:=hiD hp1;have HE:=hiD hE;have HN:=hiD hN;have HMK:=hiD hmk;have LA:=hiD lA;have LB:=hiD lB;have LC:=hiD lC2;have HP2:=hiD hp2;have LN:=hiD (show (digs N).length≤1001 by omega);have HR:=hiD hR;have HX:=hiD hX;have HLT:=hiD hlt;have HF:=hiD hf;have HW:=hiD (show IntKind.i64.wrap ((many:Int)-(so:Int))=(E:Int) by rw [IntKind.wrap_i64];omega);have hq6:=q6;have hu0:=u0;have hu1:=u1;have hu2:=u2;have hv0:=v0;have hv1:=v1;have hv2:=v2;have HD1:=hiD D1;have HD2:=hiD D2;have HD3:=hiD D3;have HD4:=hiD D4;clear hp hp0 hp1 hE hN hmk lA lB lC2 lC hR hX hlt hf hres hl hq1 hA hB0 hC hp2 D1 D2 D3 D4 q6 u0 u1 u2 v0 v1 v2
 go_enter Tryz.func253,Tryz.ntmps253
 have hB:=bRf w.heap.size w
 go_wp2_with fail
 obtain ⟨w1,hW,hz0,hb,q,f⟩:=box1g w (w.heap.size) (by omega) #[.bool false,.slice none 0 0,.slice none 0 0] 28;rw [hW];clear hW;have hB:=bLt hB hb;clear hb;have lo:w.heap.size<w1.heap.size:=by omega
 have qo0:=q 0;have qo1:=q 1;have qo2:=q 2;simp only [lgA,lgZ,lgS] at qo0 qo1 qo2;have xo:BoxAt w1 (w.heap.size) 3:=BoxAt.of q f rfl (by simp [notU_bool,notU_slice,notU_i64]);clear q f;clear hz0
 with_reducible refine (choose_in many so _ (by omega) hso).mono ?_
 rintro e w2 ⟨ahN,nhN,chN,rfl,hN,hb⟩;have xo:=xo.past hb lo;obtain ⟨qo0,qo1,qo2,lo⟩:=bq3 hb lo qo0 qo1 qo2;have hB:=bLt hB hb;clear hb;rw [HN.out] at hN
 go_wp2_with fail
 with_reducible refine (smake_nat hN.toNatAt (by have:=hN.len;have:=LN.out;omega)).mono ?_
 rintro e w3 ⟨aI,nI,cI,rfl,hI,hb⟩;have xo:=xo.past hb lo;obtain ⟨qo0,qo1,qo2,lo⟩:=bq3 hb lo qo0 qo1 qo2;have hB:=bLt hB hb;clear hb
 go_wp2_with fail
 obtain ⟨w4,hW,hz0,hb,q,f⟩:=box1g w3 (w3.heap.size) (by omega) #[.int .u64 1] 109;have h0t:OwnAt w4 w3.heap.size (some ⟨w3.heap.size,0,none⟩) 1 1 [1]:=by rw [← hW];exact litG _ _ _ [1] 1 (by omega) rfl rfl (by decide) (by first | decide | (simp;omega))
 rw [hW];clear hW;have hI:=hI.past hb;have xo:=xo.past hb lo;obtain ⟨qo0,qo1,qo2,lo⟩:=bq3 hb lo qo0 qo1 qo2;have hB:=bLt hB hb;clear hb;have t:=h0t;clear h0t;clear q f;clear hz0
 with_reducible refine (make_okR hI.toNatAt (digs_one ▸ t.toNatAt) HMK.out (by have h8:=hI.len;have h9:=LN.out;(try rw [Int.natAbs_natCast] at h8);omega) (by decide)).mono ?_
 rintro e w5 ⟨ahCU,nhCU,chCU,ahCD,nhCD,chCD,rfl,hCU,hCD,hb⟩;have hI:=hI.past hb;have xo:=xo.past hb lo;obtain ⟨qo0,qo1,qo2,lo⟩:=bq3 hb lo qo0 qo1 qo2;have hB:=bLt hB hb;clear hb
 go_wp2_with fail
 obtain ⟨w6,hW,hz0,hb,q,f⟩:=box1g w5 (w5.heap.size) (by omega) #[.bool (neg (C).num),.slice ahCU nhCU chCU,.slice ahCD nhCD chCD] 28;rw [hW];clear hW;have hCU:=hCU.past hb;have hCD:=hCD.past hb;have xo:=xo.past hb lo;obtain ⟨qo0,qo1,qo2,lo⟩:=bq3 hb lo qo0 qo1 qo2;have hB:=bLt hB hb;clear hb;have lc:w5.heap.size<w6.heap.size:=by omega
 have qc0:=q 0;have qc1:=q 1;have qc2:=q 2;simp only [lgA,lgZ,lgS] at qc0 qc1 qc2;clear q f;clear hz0;have hp:=HS.out.past hB;have hw:w.heap.size≤w6.heap.size:=hB.size;have q6:=bq hB l6 hq6;have u0:=bq hB l1 hu0;have u1:=bq hB l1 hu1;have u2:=bq hB l1 hu2;have v0:=bq hB l3 hv0;have v1:=bq hB l3 hv1;have v2:=bq hB l3 hv2;have D1:=HD1.out.past hB;have D2:=HD2.out.past hB;have D3:=HD3.out.past hB;have D4:=HD4.out.past hB;have nbo:¬ Xp (w.heap.size):=fun h=>by have:=HLT.out _ h;omega
 have nbc:¬ Xp (w5.heap.size):=fun h=>by have:=HLT.out _ h;omega
 have hXl0:=hp.lt;have hCU:=hCU.toNatAt;have hCD:=hCD.toNatAt;refine wp_region_invA (by kernel_rfl) rfl (by kernel_rfl) (fun A0 V0 dd aa ww=>∃ (X:Nat→Prop) (y28 y29 y30 y31 y32 y33 y34 y35 y36 y37 y38 y39 y40 y27 y41 y42 y12 y13:Value),aa=puts A0 [(28,y28),(29,y29),(30,y30),(31,y31),(32,y32),(33,y33),(34,y34),(35,y35),(36,y36),(37,y37),(38,y38),(39,y39),(40,y40),(27,y27),(41,y41),(42,y42),(12,y12),(13,y13)]∧Moves Xp V0 ww∧(∀ k,k<V0.heap.size→X k→Xp k)∧(∀ k,X k→k<ww.heap.size)∧(PwSt ww bp (pq q) X)∧Shut (dd 0=true→y28 = .agg #[.bool (neg (C).num),.slice ahCU nhCU chCU,.slice ahCD nhCD chCD])∧Shut (dd 1=true→y29 = .func (.func 252) #[] #[.pointer (some ⟨bp,0,none⟩)])∧Shut (dd 2=true→y30 = .int .i64 (so:Int))∧Shut (dd 3=true→y31 = .agg #[.bool (neg q.num),.slice a1 m1 k1,.slice a2 m2 k2])∧Shut (dd 4=true→RatNV (A) y32 ww)∧Shut (dd 5=true→y33 = .func (.func 252) #[] #[.pointer (some ⟨bp,0,none⟩)])∧Shut (dd 6=true→y34 = .int .i64 (many:Int))∧Shut (dd 7=true→y35 = .int .i64 (so:Int))∧Shut (dd 8=true→y36 = .int .i64 (E:Int))∧Shut (dd 9=true→y37 = .agg #[.bool (neg p1.num),.slice a3 m3 k3,.slice a4 m4 k4])∧Shut (dd 10=true→RatNV (B) y38 ww)∧Shut (dd 11=true→dd 12=false→RowN X 3 (ratsF [C,A,B]) y39 ww)∧Shut (dd 12=true→OkN (R) y40 ww)∧Shut (dd 13=true→y27=y40)∧Shut (dd 14=true→y41=part 0 y27)∧Shut (dd 15=true→y42=part 1 y27)∧Shut (dd 16=true→BoxN V0.heap.size X y12 ww)∧Shut (dd 17=true→BoxQ V0.heap.size X (R) y12 ww)∧Shut (dd 18=true→y13=y42)) ?_ ?_ ?_
 · exact ⟨Xp,_,_,_,_,_,_,_,_,_,_,_,_,_,_,_,_,_,_,puts_self _ [28,29,30,31,32,33,34,35,36,37,38,39,40,27,41,42,12,13],Moves.drew _ _,fun _ _ h=>h,hXl0,hp.past (bRf _ _).drew,nf,nf,nf,nf,nf,nf,nf,nf,nf,nf,nf,nf,nf,nf,nf,nf,nf,nf,nf⟩
 · refine Steps.cons ?_ (Steps.cons ?_ (Steps.cons ?_ (Steps.cons ?_ (Steps.cons ?_ (Steps.cons ?_ (Steps.cons ?_ (Steps.cons ?_ (Steps.cons ?_ (Steps.cons ?_ (Steps.cons ?_ (Steps.cons ?_ (Steps.cons ?_ (Steps.cons ?_ (Steps.cons ?_ (Steps.cons ?_ (Steps.cons ?_ (Steps.cons ?_ (Steps.cons ?_ (Steps.nil)))))))))))))))))))
   all_goals (intro dd aa ww K hc hun hn hI hK;obtain ⟨X,y28,y29,y30,y31,y32,y33,y34,y35,y36,y37,y38,y39,y40,y27,y41,y42,y12,y13,ea,hM,hXX,hXl,S,f0,f1,f2,f3,f4,f5,f6,f7,f8,f9,f10,f11,f12,f13,f14,f15,f16,f17,f18⟩:=hI;subst ea;simp only [pu])
   · have e0:=(hM.stays.cell nbc qc0);have e1:=(hM.stays.cell nbc qc1);have e2:=(hM.stays.cell nbc qc2);go_simp;exact hK.out _ _ ⟨X,_,_,_,_,_,_,_,_,_,_,_,_,_,_,_,_,_,_,by simp only [pu]<;>rfl,hM,hXX,hXl,S,fun _=>rfl,uo f1,uo f2,uo f3,uo f4,uo f5,uo f6,uo f7,uo f8,uo f9,uo f10,hc.a hun,uo f12,hc.a hun,hc.a hun,hc.a hun,uo f16,uo f17,hc.a hun⟩
   · have e0:=(hM.stays.cell n6 q6);go_simp;exact hK.out _ _ ⟨X,_,_,_,_,_,_,_,_,_,_,_,_,_,_,_,_,_,_,by simp only [pu]<;>rfl,hM,hXX,hXl,S,uo f0,fun _=>rfl,uo f2,uo f3,uo f4,uo f5,uo f6,uo f7,uo f8,uo f9,uo f10,hc.a hun,uo f12,hc.a hun,hc.a hun,hc.a hun,uo f16,uo f17,hc.a hun⟩
   · go_simp;exact hK.out _ _ ⟨X,_,_,_,_,_,_,_,_,_,_,_,_,_,_,_,_,_,_,by simp only [pu]<;>rfl,hM,hXX,hXl,S,uo f0,uo f1,fun _=>rfl,uo f3,uo f4,uo f5,uo f6,uo f7,uo f8,uo f9,uo f10,hc.a hun,uo f12,hc.a hun,hc.a hun,hc.a hun,uo f16,uo f17,hc.a hun⟩
   · have e0:=(hM.stays.cell n1 u0);have e1:=(hM.stays.cell n1 u1);have e2:=(hM.stays.cell n1 u2);go_simp;exact hK.out _ _ ⟨X,_,_,_,_,_,_,_,_,_,_,_,_,_,_,_,_,_,_,by simp only [pu]<;>rfl,hM,hXX,hXl,S,uo f0,uo f1,uo f2,fun _=>rfl,uo f4,uo f5,uo f6,uo f7,uo f8,uo f9,uo f10,hc.a hun,uo f12,hc.a hun,hc.a hun,hc.a hun,uo f16,uo f17,hc.a hun⟩
   · obtain rfl:=f1.out (hc.see hn);obtain rfl:=f2.out (hc.see hn);obtain rfl:=f3.out (hc.see hn);go_simp;refine (HP0.out ww X S (D1.stays hM.stays) (D2.stays hM.stays)).mono ?_;rintro e w1 ⟨_,X1,rfl,⟨ahAU,nhAU,chAU,ahAD,nhAD,chAD,rfl,hAU,hAD⟩,hS1,hn1,hm1⟩;have hgo:Goes X X1 ww w1:=⟨hm1.stays,hn1⟩;exact hK.out _ _ ⟨X1,_,_,_,_,_,_,_,_,_,_,_,_,_,_,_,_,_,_,by simp only [pu]<;>rfl,hM.then hm1 hXX,(fun k hk hx=>hXX k hk (hgo.new k (nLt hk hM.size) hx)),hS1.lt,hS1,uo f0,fun h=>rfl,fun h=>rfl,fun h=>rfl,fun _=>⟨_,_,_,_,_,_,rfl,hAU,hAD⟩,uo f5,uo f6,uo f7,uo f8,uo f9,fun h=>(f10.out (upd_of rfl h)).calm hgo.st,hc.a hun,hc.a hun,hc.a hun,hc.a hun,hc.a hun,fun h=>(f16.out (upd_of rfl h)).goes hgo,hc.a hun,hc.a hun⟩
   · have e0:=(hM.stays.cell n6 q6);go_simp;exact hK.out _ _ ⟨X,_,_,_,_,_,_,_,_,_,_,_,_,_,_,_,_,_,_,by simp only [pu]<;>rfl,hM,hXX,hXl,S,uo f0,uo f1,uo f2,uo f3,uo f4,fun _=>rfl,uo f6,uo f7,uo f8,uo f9,uo f10,hc.a hun,uo f12,hc.a hun,hc.a hun,hc.a hun,uo f16,uo f17,hc.a hun⟩
   · go_simp;exact hK.out _ _ ⟨X,_,_,_,_,_,_,_,_,_,_,_,_,_,_,_,_,_,_,by simp only [pu]<;>rfl,hM,hXX,hXl,S,uo f0,uo f1,uo f2,uo f3,uo f4,uo f5,fun _=>rfl,uo f7,uo f8,uo f9,uo f10,hc.a hun,uo f12,hc.a hun,hc.a hun,hc.a hun,uo f16,uo f17,hc.a hun⟩
   · go_simp;exact hK.out _ _ ⟨X,_,_,_,_,_,_,_,_,_,_,_,_,_,_,_,_,_,_,by simp only [pu]<;>rfl,hM,hXX,hXl,S,uo f0,uo f1,uo f2,uo f3,uo f4,uo f5,uo f6,fun _=>rfl,uo f8,uo f9,uo f10,hc.a hun,uo f12,hc.a hun,hc.a hun,hc.a hun,uo f16,uo f17,hc.a hun⟩
   · obtain rfl:=f6.out (hc.see hn);obtain rfl:=f7.out (hc.see hn);go_simp;rw [HW.out];exact hK.out _ _ ⟨X,_,_,_,_,_,_,_,_,_,_,_,_,_,_,_,_,_,_,by simp only [pu]<;>rfl,hM,hXX,hXl,S,uo f0,uo f1,uo f2,uo f3,uo f4,uo f5,fun h=>rfl,fun h=>rfl,fun _=>rfl,uo f9,uo f10,hc.a hun,uo f12,hc.a hun,hc.a hun,hc.a hun,uo f16,uo f17,hc.a hun⟩
   · have e0:=(hM.stays.cell n3 v0);have e1:=(hM.stays.cell n3 v1);have e2:=(hM.stays.cell n3 v2);go_simp;exact hK.out _ _ ⟨X,_,_,_,_,_,_,_,_,_,_,_,_,_,_,_,_,_,_,by simp only [pu]<;>rfl,hM,hXX,hXl,S,uo f0,uo f1,uo f2,uo f3,uo f4,uo f5,uo f6,uo f7,uo f8,fun _=>rfl,uo f10,hc.a hun,uo f12,hc.a hun,hc.a hun,hc.a hun,uo f16,uo f17,hc.a hun⟩
   · obtain rfl:=f5.out (hc.see hn);obtain rfl:=f8.out (hc.see hn);obtain rfl:=f9.out (hc.see hn);go_simp;refine (HP1.out ww X S (D3.stays hM.stays) (D4.stays hM.stays)).mono ?_;rintro e w1 ⟨_,X1,rfl,⟨ahBBU,nhBBU,chBBU,ahBBD,nhBBD,chBBD,rfl,hBBU,hBBD⟩,hS1,hn1,hm1⟩;have hgo:Goes X X1 ww w1:=⟨hm1.stays,hn1⟩;exact hK.out _ _ ⟨X1,_,_,_,_,_,_,_,_,_,_,_,_,_,_,_,_,_,_,by simp only [pu]<;>rfl,hM.then hm1 hXX,(fun k hk hx=>hXX k hk (hgo.new k (nLt hk hM.size) hx)),hS1.lt,hS1,uo f0,uo f1,uo f2,uo f3,fun h=>(f4.out (upd_of rfl h)).calm hgo.st,fun h=>rfl,uo f6,uo f7,fun h=>rfl,fun h=>rfl,fun _=>⟨_,_,_,_,_,_,rfl,hBBU,hBBD⟩,hc.a hun,hc.a hun,hc.a hun,hc.a hun,hc.a hun,fun h=>(f16.out (upd_of rfl h)).goes hgo,hc.a hun,hc.a hun⟩
   · obtain rfl:=f0.out (hc.see hn);obtain ⟨ahAU,nhAU,chAU,ahAD,nhAD,chAD,ex,hAU,hAD⟩:=f4.out (hc.see hn);subst ex;obtain ⟨ahBBU,nhBBU,chBBU,ahBBD,nhBBD,chBBD,ex,hBBU,hBBD⟩:=f10.out (hc.see hn);subst ex;go_simp;exact hK.out _ _ ⟨X,_,_,_,_,_,_,_,_,_,_,_,_,_,_,_,_,_,_,by simp only [pu]<;>rfl,hM.then (Moves.alloc X ww _) hXX,hXX,(fun k hk=>nLt (hXl k hk) (by simp)),S.past ((bRf _ _).alloc (nRf _) _),fun h=>rfl,uo f1,uo f2,uo f3,fun h=>(f4.out (upd_of rfl h)).calm (Goes.alloc X ww _).st,uo f5,uo f6,uo f7,uo f8,uo f9,fun h=>(f10.out (upd_of rfl h)).calm (Goes.alloc X ww _).st,fun _ _=>RowN.three _ hXl (hCU.stays hM.stays) (hCD.stays hM.stays) hAU hAD hBBU hBBD,hc.a hun,hc.a hun,hc.a hun,hc.a hun,fun h=>(f16.out (upd_of rfl h)).goes (Goes.alloc X ww _),hc.a hun,hc.a hun⟩
   · obtain ⟨G11,ex,hL,_,nG11⟩:=f11.out (hc.see hn) hun;subst ex;go_simp
     with_reducible refine (mul_three hL LC.out LA.out LB.out).mono ?_
     rintro e w1 ⟨ahRU,nhRU,chRU,ahRD,nhRD,chRD,rfl,hRU,hRD,h1⟩;rw [HR.out] at hRU hRD ⊢;have hRU:=hRU.toNatAt;have hRD:=hRD.toNatAt;have hm1:Moves X ww w1:=.ofBelow h1;have hgo:Goes X X ww w1:=.below h1;exact hK.out _ _ ⟨X,_,_,_,_,_,_,_,_,_,_,_,_,_,_,_,_,_,_,by simp only [pu]<;>rfl,hM.then hm1 hXX,hXX,(fun k hk=>nLt (hXl k hk) hm1.size),S.past h1,uo f0,uo f1,uo f2,uo f3,fun h=>(f4.out (upd_of rfl h)).calm hgo.st,uo f5,uo f6,uo f7,uo f8,uo f9,fun h=>(f10.out (upd_of rfl h)).calm hgo.st,fun _ h2=>absurd h2 (by simp [upd]),fun _=>⟨_,_,_,_,_,_,rfl,hRU,hRD⟩,hc.a hun,hc.a hun,hc.a hun,fun h=>(f16.out (upd_of rfl h)).goes hgo,hc.a hun,hc.a hun⟩
   · obtain ⟨ahRU,nhRU,chRU,ahRD,nhRD,chRD,ex,hRU,hRD⟩:=f12.out (hc.see hn);subst ex;go_simp;exact hK.out _ _ ⟨X,_,_,_,_,_,_,_,_,_,_,_,_,_,_,_,_,_,_,by simp only [pu]<;>rfl,hM,hXX,hXl,S,uo f0,uo f1,uo f2,uo f3,uo f4,uo f5,uo f6,uo f7,uo f8,uo f9,uo f10,fun _ h2=>absurd (show dd 12=true from (hc.see hn)) (by rw [upd_off h2];decide),uo f12,fun _=>rfl,hc.a hun,hc.a hun,uo f16,uo f17,hc.a hun⟩
   · obtain ⟨ahRU,nhRU,chRU,ahRD,nhRD,chRD,ex,hRU,hRD⟩:=f12.out (hc.see hn);subst ex;have ex:y27 = .tuple #[.agg #[.bool (neg (R).num),.slice ahRU nhRU chRU,.slice ahRD nhRD chRD],.int .i64 0]:=f13.out (hc.see hn);subst ex;go_simp;exact hK.out _ _ ⟨X,_,_,_,_,_,_,_,_,_,_,_,_,_,_,_,_,_,_,by simp only [pu]<;>rfl,hM,hXX,hXl,S,uo f0,uo f1,uo f2,uo f3,uo f4,uo f5,uo f6,uo f7,uo f8,uo f9,uo f10,fun _ h2=>absurd (show dd 12=true from (hc.see hn)) (by rw [upd_off h2];decide),uo f12,fun h=>rfl,fun _=>rfl,uo f15,uo f16,uo f17,uo f18⟩
   · obtain ⟨ahRU,nhRU,chRU,ahRD,nhRD,chRD,ex,hRU,hRD⟩:=f12.out (hc.see hn);subst ex;have ex:y27 = .tuple #[.agg #[.bool (neg (R).num),.slice ahRU nhRU chRU,.slice ahRD nhRD chRD],.int .i64 0]:=f13.out (hc.see hn);subst ex;go_simp;exact hK.out _ _ ⟨X,_,_,_,_,_,_,_,_,_,_,_,_,_,_,_,_,_,_,by simp only [pu]<;>rfl,hM,hXX,hXl,S,uo f0,uo f1,uo f2,uo f3,uo f4,uo f5,uo f6,uo f7,uo f8,uo f9,uo f10,fun _ h2=>absurd (show dd 12=true from (hc.see hn)) (by rw [upd_off h2];decide),uo f12,fun h=>rfl,uo f14,fun _=>rfl,uo f16,uo f17,hc.a hun⟩
   · go_simp;exact hK.out _ _ ⟨X,_,_,_,_,_,_,_,_,_,_,_,_,_,_,_,_,_,_,by simp only [pu]<;>rfl,hM.then (Moves.alloc X ww _) hXX,hXX,(fun k hk=>nLt (hXl k hk) (by simp)),S.past ((bRf _ _).alloc (nRf _) _),uo f0,uo f1,uo f2,uo f3,fun h=>(f4.out (upd_of rfl h)).calm (Goes.alloc X ww _).st,uo f5,uo f6,uo f7,uo f8,uo f9,fun h=>(f10.out (upd_of rfl h)).calm (Goes.alloc X ww _).st,fun h h2=>((f11.out (upd_of rfl h)) (upd_off h2)).goes (Goes.alloc X ww _),fun h=>(f12.out (upd_of rfl h)).calm (Goes.alloc X ww _).st,uo f13,uo f14,uo f15,fun _=>BoxN.new _ hM.size hXl,hc.a hun,uo f18⟩
   · obtain ⟨B16,ex,bB16,oB16,lB16,nB16⟩:=f16.out (hc.see hn);subst ex;obtain ⟨ahRU,nhRU,chRU,ahRD,nhRD,chRD,ex,hRU,hRD⟩:=f12.out (hc.see hn);subst ex;have ex:y27 = .tuple #[.agg #[.bool (neg (R).num),.slice ahRU nhRU chRU,.slice ahRD nhRD chRD],.int .i64 0]:=f13.out (hc.see hn);subst ex;have ex:y41 = .agg #[.bool (neg (R).num),.slice ahRU nhRU chRU,.slice ahRD nhRD chRD]:=f14.out (hc.see hn);subst ex;obtain ⟨v0,v1,v2,s0,s1,s2,s3,s4,s5,_,_,_⟩:=bB16.three;go_simp;have hst:=(bB16.setQ (R) hRU hRD).2;exact hK.out _ _ ⟨X,_,_,_,_,_,_,_,_,_,_,_,_,_,_,_,_,_,_,by simp only [pu]<;>rfl,hM.then hst (fun k hk e=>absurd (e ▸ hk:B16<_) (Nat.not_lt.2 oB16)),hXX,(fun k hk=>by simpa using hXl k hk),S.stays hst.stays (fun k hk e=>nB16 (e ▸ hk)),uo f0,uo f1,uo f2,uo f3,fun h=>(f4.out (upd_of rfl h)).calm hst.stays,uo f5,uo f6,uo f7,uo f8,uo f9,fun h=>(f10.out (upd_of rfl h)).calm hst.stays,fun _ h2=>absurd (show dd 12=true from (hc.see hn)) (by rw [upd_off h2];decide),fun h=>(f12.out (upd_of rfl h)).calm hst.stays,fun h=>rfl,fun h=>rfl,uo f15,fun _=>⟨_,rfl,(bB16.setQ (R) hRU hRD).1.box,oB16,by simpa using lB16,nB16⟩,fun _=>BoxN.store bB16 oB16 lB16 nB16 hRU hRD,uo f18⟩
   obtain ⟨ahRU,nhRU,chRU,ahRD,nhRD,chRD,ex,hRU,hRD⟩:=f12.out (hc.see hn);subst ex;have ex:y27 = .tuple #[.agg #[.bool (neg (R).num),.slice ahRU nhRU chRU,.slice ahRD nhRD chRD],.int .i64 0]:=f13.out (hc.see hn);subst ex;have ex:y42 = .int .i64 0:=f15.out (hc.see hn);subst ex;go_simp;exact hK.out _ _ ⟨X,_,_,_,_,_,_,_,_,_,_,_,_,_,_,_,_,_,_,by simp only [pu]<;>rfl,hM,hXX,hXl,S,uo f0,uo f1,uo f2,uo f3,uo f4,uo f5,uo f6,uo f7,uo f8,uo f9,uo f10,fun _ h2=>absurd (show dd 12=true from (hc.see hn)) (by rw [upd_off h2];decide),uo f12,fun h=>rfl,uo f14,fun h=>rfl,uo f16,uo f17,fun _=>rfl⟩
 intro dd aa W1 hd hI;obtain ⟨X,y28,y29,y30,y31,y32,y33,y34,y35,y36,y37,y38,y39,y40,y27,y41,y42,y12,y13,ea,hM,hXX,hXl,S,f0,f1,f2,f3,f4,f5,f6,f7,f8,f9,f10,f11,f12,f13,f14,f15,f16,f17,f18⟩:=hI;obtain rfl:=f0.out (hd 0 (by simp));obtain rfl:=f1.out (hd 1 (by simp));obtain rfl:=f2.out (hd 2 (by simp));obtain rfl:=f3.out (hd 3 (by simp));obtain ⟨ahAU,nhAU,chAU,ahAD,nhAD,chAD,ex,hAU,hAD⟩:=f4.out (hd 4 (by simp));subst ex;obtain rfl:=f5.out (hd 5 (by simp));obtain rfl:=f6.out (hd 6 (by simp));obtain rfl:=f7.out (hd 7 (by simp));obtain rfl:=f8.out (hd 8 (by simp));obtain rfl:=f9.out (hd 9 (by simp));obtain ⟨ahBBU,nhBBU,chBBU,ahBBD,nhBBD,chBBD,ex,hBBU,hBBD⟩:=f10.out (hd 10 (by simp));subst ex;obtain ⟨ahRU,nhRU,chRU,ahRD,nhRD,chRD,ex,hRU,hRD⟩:=f12.out (hd 12 (by simp));subst ex;have ex:y27 = .tuple #[.agg #[.bool (neg (R).num),.slice ahRU nhRU chRU,.slice ahRD nhRD chRD],.int .i64 0]:=f13.out (hd 13 (by simp));subst ex;have ex:y41 = .agg #[.bool (neg (R).num),.slice ahRU nhRU chRU,.slice ahRD nhRD chRD]:=f14.out (hd 14 (by simp));subst ex;have ex:y42 = .int .i64 0:=f15.out (hd 15 (by simp));subst ex;have ex:y13 = .int .i64 0:=f18.out (hd 18 (by simp));subst ex;obtain ⟨B16,bx1,bx2,bx3,bx4,bx5,bx6,ex,bB16,oB16,lB16,nB16,q160,q161,q162,d16U,d16D⟩:=f17.out (hd 17 (by simp));subst ex;subst ea;simp only [pu];have nbo2:¬ X (w.heap.size):=fun h=>nbo (hXX _ lo h)
 have xo:=hM.stays.box nbo xo;obtain ⟨z0,z1,z2,s0,s1,s2,s3,s4,s5,_,_,_⟩:=xo.three;have HU:=hiD hB
 go_wp2
 obtain ⟨wF,hWF,hbF,r0,r1,r2,F1,F2,hmF⟩:=xo.setQ3 R d16U d16D;rw [hWF];have hlt2:∀ k,k<w.heap.size→k<w6.heap.size:=fun k hk=>nLt hk hw
 have hA1:Moves X0 w W1:=(Moves.ofBelow HU.out).then hM (fun k hk h=>(HX.out k).2 (.inr (.inr (.inr h))))
 have hA2:Moves X0 w wF:=hA1.then hmF (fun k hk e=>by omega);refine bodyPost_ret (v:=.agg #[.bool (neg R.num),.slice bx1 bx2 bx3,.slice bx4 bx5 bx6]) ?_ rfl ⟨_,fun k=>k=b6∨k=b1∨k=b3∨X k,rfl,⟨_,_,_,_,_,_,rfl,F1,F2⟩,⟨bp,b6,b1,b3,X,HF.out,S.stays hmF.stays (fun k hk e=>nbo2 (e ▸ hk)),?_,?_,?_,?_,fun _=>Iff.rfl⟩,?_,hA2⟩
 · simp [results,Tryz.f253,go_sem,r0,r1,r2]
 · exact hmF.stays.cell (by omega) (hM.stays.cell n6 q6)
 · exact ⟨_,_,_,_,_,_,hmF.stays.cell (by omega) (hM.stays.cell n1 u0),hmF.stays.cell (by omega) (hM.stays.cell n1 u1),hmF.stays.cell (by omega) (hM.stays.cell n1 u2),(D1.stays hM.stays).stays hmF.stays,(D2.stays hM.stays).stays hmF.stays⟩
 · rw [HP2.out];exact ⟨_,_,_,_,_,_,hmF.stays.cell (by omega) (hM.stays.cell n3 v0),hmF.stays.cell (by omega) (hM.stays.cell n3 v1),hmF.stays.cell (by omega) (hM.stays.cell n3 v2),(D3.stays hM.stays).stays hmF.stays,(D4.stays hM.stays).stays hmF.stays⟩
 · exact ⟨fun h=>n6 (hXX _ (hlt2 _ l6) h),fun h=>n1 (hXX _ (hlt2 _ l1) h),fun h=>n3 (hXX _ (hlt2 _ l3) h)⟩
 intro k hk h;rcases h with h | h | h | h
 · exact (HX.out k).2 (.inl h)
 · exact (HX.out k).2 (.inr (.inl h))
 · exact (HX.out k).2 (.inr (.inr (.inl h)))
 exact (HX.out k).2 (.inr (.inr (.inr (hXX _ (hlt2 _ hk) h))))
def shF (b6 b1 b3:Nat):Value:=.func (.func 253) #[] #[.pointer (some ⟨b6,0,none⟩),.pointer (some ⟨b1,0,none⟩),.pointer (some ⟨b3,0,none⟩)]
theorem share_call (b6 b1 b3:Nat) (q:Rat) (X0:Nat→Prop) (many so:Nat) (w:World) (h:ShSt w (shF b6 b1 b3) q X0) (hm:many≤1000) (hso:so≤many) (hl:∀ j,j≤many→rlen (q ^ j)≤1048576∧rlen ((1-q) ^ j)≤1048576) (hq1:rlen q≤1048576∧rlen (1-q)≤1048576) :
 Calls Tryz.prog 253 #[.int .i64 (many:Int),.int .i64 (so:Int),.pointer (some ⟨b6,0,none⟩),.pointer (some ⟨b1,0,none⟩),.pointer (some ⟨b3,0,none⟩)] w (RetSt w (shareQ q many so) X0 (fun w' X'=>ShSt w' (shF b6 b1 b3) q X')):=by
 obtain ⟨bp,c6,c1,c3,Xp,e,hp,h6,h1,h3,⟨n6,n1,n3⟩,hX⟩:=h;unfold shF at e;cases e;exact share_any (shF b6 b1 b3) q X0 many so w b6 b1 b3 bp Xp hp h6 h1 h3 n6 n1 n3 hX rfl hm hso hl hq1
end
section
open Go.RowKit
theorem sub_ok {p q:Rat} {a1:Option Addr} {n1 c1:Nat} {a2:Option Addr} {n2 c2:Nat} {a3:Option Addr} {n3 c3:Nat} {a4:Option Addr} {n4 c4:Nat} {w:World} (g1:NatAt w a1 n1 c1 (digs p.num.natAbs)) (g2:NatAt w a2 n2 c2 (digs p.den)) (g3:NatAt w a3 n3 c3 (digs q.num.natAbs)) (g4:NatAt w a4 n4 c4 (digs q.den)) (hp:rlen p≤1048576) (hq:rlen q≤1048576) :
 Calls Tryz.prog 56 #[.agg #[.bool (neg p.num),.slice a1 n1 c1,.slice a2 n2 c2],.agg #[.bool (neg q.num),.slice a3 n3 c3,.slice a4 n4 c4]] w (RetOk w (p-q)):=by
 unfold rlen at hp hq;have h1:=g1.len;have h2:=g2.len;have h3:=g3.len;have h4:=g4.len;exact sub05_rat p q _ _ _ _ _ _ _ _ _ _ _ _ w g1 g2 g3 g4 (by omega) (by omega) (by omega) (by omega)
theorem whole_any (x:Int) (w:World) (hx:-9223372036854775808≤x∧x≤9223372036854775807) :
 Calls Tryz.prog 222 #[.int .i64 x] w (RetRat w (mkRat x 1)):=by
 have hp:∀ w,Calls Tryz.prog 55 #[.int .i64 x,.int .i64 1] w (RetOk w (mkRat x 1)):=fun w=>pair_ok (x:=x) (y:=((1:Nat):Int)) (q:=mkRat x 1) (by omega) (pr_pos (by decide)) w hx (by decide)
 have HP:=hiD hp;obtain ⟨Q,hQ⟩:∃ Q,mkRat x 1=Q:=⟨_,rfl⟩;rw [hQ] at HP ⊢;clear hp hQ
 go_enter Tryz.func222,Tryz.ntmps222
 have hB:=bRf w.heap.size w
 go_wp2_with fail
 obtain ⟨w1,hW,hz0,hb,q,f,qr0,qr1,qr2⟩:=bx3 w (w.heap.size) (by omega) (.bool false) (.slice none 0 0) (.slice none 0 0) 28;rw [hW];clear hW;have hB:=bLt hB hb;clear hb;have lr:w.heap.size<w1.heap.size:=by omega
 have xr:BoxAt w1 (w.heap.size) 3:=BoxAt.of q f rfl (by simp [notU_bool,notU_slice,notU_i64]);clear q f;clear hz0
 with_reducible refine (HP.out _).mono ?_
 rintro e w2 ⟨ahAU,nhAU,chAU,ahAD,nhAD,chAD,rfl,hAU,hAD,hb⟩;have hAU:=hAU.mono hB.size;have hAD:=hAD.mono hB.size;have xr:=xr.past hb lr;obtain ⟨qr0,qr1,qr2,lr⟩:=bq3 hb lr qr0 qr1 qr2;have hB:=bLt hB hb;clear hb;have zf0:=xr.f 0 (by decide);have zf1:=xr.f 1 (by decide);have zf2:=xr.f 2 (by decide)
 go_wp2
 have zf0:=xr.f 0 (by decide);have zf1:=xr.f 1 (by decide);have zf2:=xr.f 2 (by decide);obtain ⟨w3,hW,hO,qN0,qN1,qN2,xN⟩:=store3 xr (.bool (neg (Q).num)) (.slice ahAU nhAU chAU) (.slice ahAD nhAD chAD) (nu rfl) (nu rfl) (nu rfl);try rw [hW]
 clear hW;have hAU:=hO.own hAU;have hAD:=hO.own hAD;have lr:w.heap.size<w3.heap.size:=by rw [hO.size];exact lr
 have qr0:=qN0;have qr1:=qN1;have qr2:=qN2;have xr:=xN;have hB:=hO.below (by omega) hB;clear hO qN0 qN1 qN2 xN zf0 zf1 zf2;obtain ⟨w4,hW,hz0,hb,q,f,qx0,qx1,qx2⟩:=bx3 w3 (w3.heap.size) (by omega) (.bool (neg (Q).num)) (.slice ahAU nhAU chAU) (.slice ahAD nhAD chAD) 28;rw [hW];clear hW;have hAU:=hAU.past hb;have hAD:=hAD.past hb;have xr:=xr.past hb lr;obtain ⟨qr0,qr1,qr2,lr⟩:=bq3 hb lr qr0 qr1 qr2;have hB:=bLt hB hb;clear hb;have lx:w3.heap.size<w4.heap.size:=by omega
 clear q f;clear hz0;refine bodyPost_ret (v:=.agg #[.bool (neg Q.num),.slice ahAU nhAU chAU,.slice ahAD nhAD chAD]) ?_ rfl ⟨_,_,_,_,_,_,rfl,hAU,hAD,hB⟩;simp [results,Tryz.f222,go_sem,qr0,qr1,qr2]
theorem sign_ne (q:Rat):decide (q.num.sign≠0) = !decide (q=0):=by
 have h:q.num.sign=0 ↔ q=0:=by rw [Int.sign_eq_zero_iff_zero,Rat.num_eq_zero]
 by_cases e:q=0
 · simp [e]
 simp [e]
theorem some_any (q:Rat) (a1:Option Addr) (n1 c1:Nat) (a2:Option Addr) (n2 c2:Nat) (w:World) (g1:NatAt w a1 n1 c1 (digs q.num.natAbs)) (hl:rlen q≤1048576) :
 Calls Tryz.prog 248 #[.agg #[.bool (neg q.num),.slice a1 n1 c1,.slice a2 n2 c2]] w (RetVal w (.bool (!decide (q=0)))):=by
 have hs:=sign_ne q;have L:=hiD hl;obtain ⟨V,hV⟩:∃ V,(!decide (q=0))=V:=⟨_,rfl⟩;rw [hV] at hs ⊢;obtain ⟨z,hz⟩:∃ z,q.num.sign=z:=⟨_,rfl⟩;rw [hz] at hs;have HZ:=hiD hz;have HS3:=hiD hs;clear hl hV hz hs
 go_enter Tryz.func248,Tryz.ntmps248
 have hB:=bRf w.heap.size w
 go_wp2_with fail
 obtain ⟨w1,hW,hz0,hb,q,f,qa0,qa1,qa2⟩:=bx3 w (w.heap.size) (by omega) (.bool (neg q.num)) (.slice a1 n1 c1) (.slice a2 n2 c2) 28;rw [hW];clear hW;have g1:=g1.past hb;have hB:=bLt hB hb;clear hb;have la:w.heap.size<w1.heap.size:=by omega
 clear q f;clear hz0
 with_reducible refine (sign_c g1 (by have h8:=g1.len;have h9:=L.out;unfold rlen at h9;omega)).mono ?_
 rintro e w2 ⟨rfl,hb⟩;obtain ⟨qa0,qa1,qa2,la⟩:=bq3 hb la qa0 qa1 qa2;have hB:=bLt hB hb;clear hb;rw [HZ.out]
 go_wp2
 go_ret
 refine ⟨ret_bool ?_,hB⟩
 first | exact HS3.out | (rw [← HS3.out];simp;rfl)
def sel2 (x y:Nat):Nat→Nat:=fun i=>if i=0 then x else y
theorem GridAt.single {w:World} {g:Nat} {f:Nat→Rat} {q:Rat} {a1:Option Addr} {n1 c1:Nat} {a2:Option Addr} {n2 c2:Nat} (x:BoxAt w g 3) (q0:w.cell? ⟨g,0,none⟩=some (.bool (neg q.num))) (q1:w.cell? ⟨g,1,none⟩=some (.slice a1 n1 c1)) (q2:w.cell? ⟨g,2,none⟩=some (.slice a2 n2 c2))
 (d1:NatAt w a1 n1 c1 (digs q.num.natAbs)) (d2:NatAt w a2 n2 c2 (digs q.den)) (hf:f 0=q):GridAt w g 1 1 f:=by
 refine ⟨nRf _,by simp [maxLen],x,fun i hi => ?_⟩;obtain rfl:i=0:=by omega
 rw [hf];exact ⟨_,_,_,_,_,_,q0,q1,q2,d1,d2⟩
theorem PwAt.start {w:World} {bp g0 g1:Nat} {P:Nat→Rat} {p q:Rat} {a1:Option Addr} {n1 c1:Nat} {a2:Option Addr} {n2 c2:Nat} {a3:Option Addr} {n3 c3:Nat} {a4:Option Addr} {n4 c4:Nat} (xp:BoxAt w bp 2) (e0:w.cell? ⟨bp,0,none⟩=some (.slice (some ⟨g0,0,none⟩) 1 1)) (e1:w.cell? ⟨bp,1,none⟩=some (.slice (some ⟨g1,0,none⟩) 1 1))
 (x:BoxAt w g0 3) (q0:w.cell? ⟨g0,0,none⟩=some (.bool (neg p.num))) (q1:w.cell? ⟨g0,1,none⟩=some (.slice a1 n1 c1)) (q2:w.cell? ⟨g0,2,none⟩=some (.slice a2 n2 c2)) (d1:NatAt w a1 n1 c1 (digs p.num.natAbs)) (d2:NatAt w a2 n2 c2 (digs p.den))
 (y:BoxAt w g1 3) (r0:w.cell? ⟨g1,0,none⟩=some (.bool (neg q.num))) (r1:w.cell? ⟨g1,1,none⟩=some (.slice a3 n3 c3)) (r2:w.cell? ⟨g1,2,none⟩=some (.slice a4 n4 c4)) (d3:NatAt w a3 n3 c3 (digs q.num.natAbs)) (d4:NatAt w a4 n4 c4 (digs q.den))
 (hp:P 0 ^ 0=p) (hq:P 1 ^ 0=q) (h0:g0≠bp) (h1:g1≠bp) (h01:g0≠g1):PwAt w bp P (sel2 g0 g1) (fun _=>1) (fun _=>1):=by
 refine ⟨xp,fun i hi => ?_,fun i hi=>by omega,fun i hi => ?_,fun i hi => ?_,h01⟩
 · rcases (by omega:i=0∨i=1) with rfl | rfl
   · exact e0
   exact e1
 · rcases (by omega:i=0∨i=1) with rfl | rfl
   · exact GridAt.single x q0 q1 q2 d1 d2 hp
   exact GridAt.single y r0 r1 r2 d3 d4 hq
 rcases (by omega:i=0∨i=1) with rfl | rfl
 · exact h0
 exact h1
theorem one_len:rlen (1:Rat)≤1048576:=by decide
theorem shares_any (rr:Rat) (a1:Option Addr) (n1 c1:Nat) (a2:Option Addr) (n2 c2:Nat) (w:World) (g1:NatAt w a1 n1 c1 (digs rr.num.natAbs)) (g2:NatAt w a2 n2 c2 (digs rr.den)) (hl:rlen rr≤1048576) :
 Calls Tryz.prog 245 #[.agg #[.bool (neg rr.num),.slice a1 n1 c1,.slice a2 n2 c2]] w fun e w'=>∃ b6 b1 b3 X,e = .returned (shF b6 b1 b3)∧ShSt w' (shF b6 b1 b3) rr X∧(∀ k,X k→w.heap.size≤k)∧Below w.heap.size w w':=by
 have hmf:∀ (fn:Fn) (first cap:Array Value) (w:World),(Instr.makeFunc fn first cap).run Tryz.prog w = .ok (.func fn first cap) w:=fun _ _ _ _=>rfl
 have hw1:=fun w=>whole_any 1 w (by decide)
 have e1:mkRat 1 1=1:=by decide
 rw [e1] at hw1;have l1:=one_len;obtain ⟨Z,hZ0⟩:∃ Z:Rat,(1:Rat)=Z:=⟨_,rfl⟩;rw [hZ0] at hw1 l1;obtain ⟨S,hS⟩:∃ S,Z-rr=S:=⟨_,rfl⟩;have HS:=hiD hS;have HZ:=hiD hZ0;have HW:=hiD hw1;have L:=hiD hl;have L1:=hiD l1;clear hS hZ0 hw1 hl l1 e1
 go_enter Tryz.func245,Tryz.ntmps245
 have hB:=bRf w.heap.size w
 go_wp2_with fail
 obtain ⟨w1,hW,hz0,hb,q,f⟩:=box1g w (w.heap.size) (by omega) #[.bool (neg rr.num),.slice a1 n1 c1,.slice a2 n2 c2] 28;rw [hW];clear hW;have g1:=g1.past hb;have g2:=g2.past hb;have hB:=bLt hB hb;clear hb;have lq:w.heap.size<w1.heap.size:=by omega
 have qq0:=q 0;have qq1:=q 1;have qq2:=q 2;simp only [lgA,lgZ,lgS] at qq0 qq1 qq2;clear q f;clear hz0;have hXl0:∀ k,(fun _:Nat=>False) k→k<w1.heap.size:=fun _ h=>h.elim
 refine wp_region_invA (by kernel_rfl) rfl (by kernel_rfl) (fun A0 V0 dd aa ww=>∃ (y8 y9 y10 y7 y11 y12 y3 y4:Value),aa=puts A0 [(8,y8),(9,y9),(10,y10),(7,y7),(11,y11),(12,y12),(3,y3),(4,y4)]∧Moves (fun _=>False) V0 ww∧(∀ k,k<V0.heap.size→(fun _=>False) k→(fun _=>False) k)∧(∀ k,(fun _=>False) k→k<ww.heap.size)∧Shut (dd 0=true→RatNV (Z) y8 ww)∧Shut (dd 1=true→y9 = .agg #[.bool (neg rr.num),.slice a1 n1 c1,.slice a2 n2 c2])∧Shut (dd 2=true→OkN (S) y10 ww)∧Shut (dd 3=true→y7=y10)∧Shut (dd 4=true→y11=part 0 y7)∧Shut (dd 5=true→y12=part 1 y7)∧Shut (dd 6=true→BoxN V0.heap.size (fun _=>False) y3 ww)∧Shut (dd 7=true→BoxQ V0.heap.size (fun _=>False) (S) y3 ww)∧Shut (dd 8=true→y4=y12)) ?_ ?_ ?_
 · exact ⟨_,_,_,_,_,_,_,_,puts_self _ [8,9,10,7,11,12,3,4],Moves.drew _ _,fun _ _ h=>h,hXl0,nf,nf,nf,nf,nf,nf,nf,nf,nf⟩
 · refine Steps.cons ?_ (Steps.cons ?_ (Steps.cons ?_ (Steps.cons ?_ (Steps.cons ?_ (Steps.cons ?_ (Steps.cons ?_ (Steps.cons ?_ (Steps.cons ?_ (Steps.nil)))))))))
   all_goals (intro dd aa ww K hc hun hn hI hK;obtain ⟨y8,y9,y10,y7,y11,y12,y3,y4,ea,hM,hXX,hXl,f0,f1,f2,f3,f4,f5,f6,f7,f8⟩:=hI;subst ea;simp only [pu])
   · go_simp
     with_reducible refine (HW.out _).mono ?_
     rintro e w1 ⟨ahOU,nhOU,chOU,ahOD,nhOD,chOD,rfl,hOU,hOD,h1⟩;have hOU:=hOU.toNatAt;have hOD:=hOD.toNatAt;have hm1:Moves (fun _=>False) ww w1:=.ofBelow h1;have hgo:Goes (fun _=>False) (fun _=>False) ww w1:=.below h1;exact hK.out _ _ ⟨_,_,_,_,_,_,_,_,by simp only [pu]<;>rfl,hM.then hm1 hXX,hXX,(fun k hk=>nLt (hXl k hk) hm1.size),fun _=>⟨_,_,_,_,_,_,rfl,hOU,hOD⟩,uo f1,hc.a hun,hc.a hun,hc.a hun,hc.a hun,fun h=>(f6.out (upd_of rfl h)).goes hgo,hc.a hun,hc.a hun⟩
   · have e0:=(hM.stays.cell id qq0);have e1:=(hM.stays.cell id qq1);have e2:=(hM.stays.cell id qq2);go_simp;exact hK.out _ _ ⟨_,_,_,_,_,_,_,_,by simp only [pu]<;>rfl,hM,hXX,hXl,uo f0,fun _=>rfl,uo f2,hc.a hun,hc.a hun,hc.a hun,uo f6,uo f7,hc.a hun⟩
   · obtain ⟨ahOU,nhOU,chOU,ahOD,nhOD,chOD,ex,hOU,hOD⟩:=f0.out (hc.see hn);subst ex;obtain rfl:=f1.out (hc.see hn);go_simp
     with_reducible refine (sub_ok hOU hOD (g1.stays hM.stays) (g2.stays hM.stays) L1.out L.out).mono ?_
     rintro e w1 ⟨ahSU,nhSU,chSU,ahSD,nhSD,chSD,rfl,hSU,hSD,h1⟩;rw [HS.out] at hSU hSD ⊢;have hSU:=hSU.toNatAt;have hSD:=hSD.toNatAt;have hm1:Moves (fun _=>False) ww w1:=.ofBelow h1;have hgo:Goes (fun _=>False) (fun _=>False) ww w1:=.below h1;exact hK.out _ _ ⟨_,_,_,_,_,_,_,_,by simp only [pu]<;>rfl,hM.then hm1 hXX,hXX,(fun k hk=>nLt (hXl k hk) hm1.size),fun h=>(f0.out (upd_of rfl h)).calm hgo.st,fun h=>rfl,fun _=>⟨_,_,_,_,_,_,rfl,hSU,hSD⟩,hc.a hun,hc.a hun,hc.a hun,fun h=>(f6.out (upd_of rfl h)).goes hgo,hc.a hun,hc.a hun⟩
   · obtain ⟨ahSU,nhSU,chSU,ahSD,nhSD,chSD,ex,hSU,hSD⟩:=f2.out (hc.see hn);subst ex;go_simp;exact hK.out _ _ ⟨_,_,_,_,_,_,_,_,by simp only [pu]<;>rfl,hM,hXX,hXl,uo f0,uo f1,uo f2,fun _=>rfl,hc.a hun,hc.a hun,uo f6,uo f7,hc.a hun⟩
   · obtain ⟨ahSU,nhSU,chSU,ahSD,nhSD,chSD,ex,hSU,hSD⟩:=f2.out (hc.see hn);subst ex;have ex:y7 = .tuple #[.agg #[.bool (neg (S).num),.slice ahSU nhSU chSU,.slice ahSD nhSD chSD],.int .i64 0]:=f3.out (hc.see hn);subst ex;go_simp;exact hK.out _ _ ⟨_,_,_,_,_,_,_,_,by simp only [pu]<;>rfl,hM,hXX,hXl,uo f0,uo f1,uo f2,fun h=>rfl,fun _=>rfl,uo f5,uo f6,uo f7,uo f8⟩
   · obtain ⟨ahSU,nhSU,chSU,ahSD,nhSD,chSD,ex,hSU,hSD⟩:=f2.out (hc.see hn);subst ex;have ex:y7 = .tuple #[.agg #[.bool (neg (S).num),.slice ahSU nhSU chSU,.slice ahSD nhSD chSD],.int .i64 0]:=f3.out (hc.see hn);subst ex;go_simp;exact hK.out _ _ ⟨_,_,_,_,_,_,_,_,by simp only [pu]<;>rfl,hM,hXX,hXl,uo f0,uo f1,uo f2,fun h=>rfl,uo f4,fun _=>rfl,uo f6,uo f7,hc.a hun⟩
   · go_simp;exact hK.out _ _ ⟨_,_,_,_,_,_,_,_,by simp only [pu]<;>rfl,hM.then (Moves.alloc (fun _=>False) ww _) hXX,hXX,(fun k hk=>nLt (hXl k hk) (by simp)),fun h=>(f0.out (upd_of rfl h)).calm (Goes.alloc (fun _=>False) ww _).st,uo f1,fun h=>(f2.out (upd_of rfl h)).calm (Goes.alloc (fun _=>False) ww _).st,uo f3,uo f4,uo f5,fun _=>BoxN.new _ hM.size hXl,hc.a hun,uo f8⟩
   · obtain ⟨B6,ex,bB6,oB6,lB6,nB6⟩:=f6.out (hc.see hn);subst ex;obtain ⟨ahSU,nhSU,chSU,ahSD,nhSD,chSD,ex,hSU,hSD⟩:=f2.out (hc.see hn);subst ex;have ex:y7 = .tuple #[.agg #[.bool (neg (S).num),.slice ahSU nhSU chSU,.slice ahSD nhSD chSD],.int .i64 0]:=f3.out (hc.see hn);subst ex;have ex:y11 = .agg #[.bool (neg (S).num),.slice ahSU nhSU chSU,.slice ahSD nhSD chSD]:=f4.out (hc.see hn);subst ex;obtain ⟨v0,v1,v2,s0,s1,s2,s3,s4,s5,_,_,_⟩:=bB6.three;go_simp;have hst:=(bB6.setQ (S) hSU hSD).2;exact hK.out _ _ ⟨_,_,_,_,_,_,_,_,by simp only [pu]<;>rfl,hM.then hst (fun k hk e=>absurd (e ▸ hk:B6<_) (Nat.not_lt.2 oB6)),hXX,(fun k hk=>by simpa using hXl k hk),fun h=>(f0.out (upd_of rfl h)).calm hst.stays,uo f1,fun h=>(f2.out (upd_of rfl h)).calm hst.stays,fun h=>rfl,fun h=>rfl,uo f5,fun _=>⟨_,rfl,(bB6.setQ (S) hSU hSD).1.box,oB6,by simpa using lB6,nB6⟩,fun _=>BoxN.store bB6 oB6 lB6 nB6 hSU hSD,uo f8⟩
   obtain ⟨ahSU,nhSU,chSU,ahSD,nhSD,chSD,ex,hSU,hSD⟩:=f2.out (hc.see hn);subst ex;have ex:y7 = .tuple #[.agg #[.bool (neg (S).num),.slice ahSU nhSU chSU,.slice ahSD nhSD chSD],.int .i64 0]:=f3.out (hc.see hn);subst ex;have ex:y12 = .int .i64 0:=f5.out (hc.see hn);subst ex;go_simp;exact hK.out _ _ ⟨_,_,_,_,_,_,_,_,by simp only [pu]<;>rfl,hM,hXX,hXl,uo f0,uo f1,uo f2,fun h=>rfl,uo f4,fun h=>rfl,uo f6,uo f7,fun _=>rfl⟩
 intro dd aa W1 hd hI;obtain ⟨y8,y9,y10,y7,y11,y12,y3,y4,ea,hM,hXX,hXl,f0,f1,f2,f3,f4,f5,f6,f7,f8⟩:=hI;obtain ⟨ahOU,nhOU,chOU,ahOD,nhOD,chOD,ex,hOU,hOD⟩:=f0.out (hd 0 (by simp));subst ex;obtain rfl:=f1.out (hd 1 (by simp));obtain ⟨ahSU,nhSU,chSU,ahSD,nhSD,chSD,ex,hSU,hSD⟩:=f2.out (hd 2 (by simp));subst ex;have ex:y7 = .tuple #[.agg #[.bool (neg (S).num),.slice ahSU nhSU chSU,.slice ahSD nhSD chSD],.int .i64 0]:=f3.out (hd 3 (by simp));subst ex;have ex:y11 = .agg #[.bool (neg (S).num),.slice ahSU nhSU chSU,.slice ahSD nhSD chSD]:=f4.out (hd 4 (by simp));subst ex;have ex:y12 = .int .i64 0:=f5.out (hd 5 (by simp));subst ex;have ex:y4 = .int .i64 0:=f8.out (hd 8 (by simp));subst ex;obtain ⟨B6,bx1,bx2,bx3,bx4,bx5,bx6,ex,bB6,oB6,lB6,nB6,q60,q61,q62,d6U,d6D⟩:=f7.out (hd 7 (by simp));subst ex;subst ea;simp only [pu];have hB1:Below w.heap.size w W1:=bLt hB (hM.below (nRf _) (fun _ h=>h.elim));have qq0:=hM.stays.cell id qq0;have qq1:=hM.stays.cell id qq1;have qq2:=hM.stays.cell id qq2;have g1:=g1.stays hM.stays;have g2:=g2.stays hM.stays;have oq:w.heap.size≤B6:=nTr hB.size oB6;have hR1:RatC W1 (w.heap.size) rr:=⟨_,_,_,_,_,_,qq0,qq1,qq2,g1,g2⟩;have hR3:RatC W1 B6 S:=⟨_,_,_,_,_,_,q60,q61,q62,d6U,d6D⟩;have HR1:=hiD hR1;have HR3:=hiD hR3;have HM1:=hiD hB1;have lq1:w.heap.size<W1.heap.size:=nLt lq hM.size
 have nqB:w.heap.size<B6:=nLt lq oB6;clear hR1 hR3 hB1 hM hXX hXl qq0 qq1 qq2 q60 q61 q62 d6U d6D g1 g2 bB6 nB6 hB;have hB:=bRf W1.heap.size W1
 go_wp2_with fail
 with_reducible refine (HW.out _).mono ?_
 rintro e w21 ⟨ahXU,nhXU,chXU,ahXD,nhXD,chXD,rfl,hXU,hXD,hb⟩;have hB:=bLt hB hb;clear hb;have s21:=hB.size
 go_wp2_with fail
 obtain ⟨w22,hW,hz0,hb,q,f⟩:=box1g w21 (w21.heap.size) (by omega) #[.bool (neg (Z).num),.slice ahXU nhXU chXU,.slice ahXD nhXD chXD] 28;rw [hW];clear hW;have hXU:=hXU.past hb;have hXD:=hXD.past hb;have hB:=bLt hB hb;clear hb;have ll0:w21.heap.size<w22.heap.size:=by omega
 have ql00:=q 0;have ql01:=q 1;have ql02:=q 2;simp only [lgA,lgZ,lgS] at ql00 ql01 ql02;have xl0:BoxAt w22 (w21.heap.size) 3:=BoxAt.of q f rfl (by simp [notU_bool,notU_slice,notU_i64]);clear q f;clear hz0
 with_reducible refine (HW.out _).mono ?_
 rintro e w23 ⟨ahYU,nhYU,chYU,ahYD,nhYD,chYD,rfl,hYU,hYD,hb⟩;have hXU:=hXU.past hb;have hXD:=hXD.past hb;have xl0:=xl0.past hb ll0;obtain ⟨ql00,ql01,ql02,ll0⟩:=bq3 hb ll0 ql00 ql01 ql02;have hB:=bLt hB hb;clear hb;have s23:=ll0
 go_wp2_with fail
 obtain ⟨w24,hW,hz0,hb,q,f⟩:=box1g w23 (w23.heap.size) (by omega) #[.bool (neg (Z).num),.slice ahYU nhYU chYU,.slice ahYD nhYD chYD] 28;rw [hW];clear hW;have hXU:=hXU.past hb;have hXD:=hXD.past hb;have hYU:=hYU.past hb;have hYD:=hYD.past hb;have xl0:=xl0.past hb ll0;obtain ⟨ql00,ql01,ql02,ll0⟩:=bq3 hb ll0 ql00 ql01 ql02;have hB:=bLt hB hb;clear hb;have ll1:w23.heap.size<w24.heap.size:=by omega
 have ql10:=q 0;have ql11:=q 1;have ql12:=q 2;simp only [lgA,lgZ,lgS] at ql10 ql11 ql12;have xl1:BoxAt w24 (w23.heap.size) 3:=BoxAt.of q f rfl (by simp [notU_bool,notU_slice,notU_i64]);clear q f;obtain ⟨w25,hW,hz1,hb,q,f⟩:=box1g w24 (w23.heap.size+1) (by omega) #[.slice (some ⟨w21.heap.size,0,none⟩) 1 1,.slice (some ⟨w23.heap.size,0,none⟩) 1 1] 248;rw [hW];clear hW;have hXU:=hXU.past hb;have hXD:=hXD.past hb;have hYU:=hYU.past hb;have hYD:=hYD.past hb;have xl0:=xl0.past hb ll0;obtain ⟨ql00,ql01,ql02,ll0⟩:=bq3 hb ll0 ql00 ql01 ql02;have xl1:=xl1.past hb ll1;obtain ⟨ql10,ql11,ql12,ll1⟩:=bq3 hb ll1 ql10 ql11 ql12;have hB:=bLt hB hb;clear hb;have lp:w23.heap.size+1<w25.heap.size:=by omega
 have qp0:=q 0;have qp1:=q 1;simp only [lgA,lgZ,lgS] at qp0 qp1;have xp:BoxAt w25 (w23.heap.size+1) 2:=BoxAt.of q f rfl (by simp [notU_bool,notU_slice,notU_i64]);clear q f;obtain ⟨w26,hW,hz2,hb,q,f⟩:=box1g w25 (w23.heap.size+1+1) (by omega) #[.func (.func 252) #[] #[.pointer (some ⟨w23.heap.size+1,0,none⟩)]] 249;rw [hW];clear hW;have hXU:=hXU.past hb;have hXD:=hXD.past hb;have hYU:=hYU.past hb;have hYD:=hYD.past hb;have xl0:=xl0.past hb ll0;obtain ⟨ql00,ql01,ql02,ll0⟩:=bq3 hb ll0 ql00 ql01 ql02;have xl1:=xl1.past hb ll1;obtain ⟨ql10,ql11,ql12,ll1⟩:=bq3 hb ll1 ql10 ql11 ql12;have xp:=xp.past hb lp;obtain ⟨qp0,qp1,lp⟩:=bq2 hb lp qp0 qp1;have hB:=bLt hB hb;clear hb;have lf:w23.heap.size+1+1<w26.heap.size:=by omega
 have qf0:=q 0;simp only [lgA,lgZ,lgS] at qf0;clear q f;clear hz0;clear hz1;clear hz2
 go_ret
 have hz1:(pq rr 0) ^ 0=Z:=by rw [← HZ.out];exact Rat.pow_zero _
 have hz2:(pq rr 1) ^ 0=Z:=by rw [← HZ.out];exact Rat.pow_zero _
 have hp:=PwAt.start (bp:=w23.heap.size+1) (P:=pq rr) (g0:=w21.heap.size) (g1:=w23.heap.size) xp qp0 qp1 xl0 ql00 ql01 ql02 (hXU.toNatAt) (hXD.toNatAt) xl1 ql10 ql11 ql12 (hYU.toNatAt) (hYD.toNatAt) hz1 hz2 (by omega) (by omega) (by omega);have szB:=HM1.out.size;have hlt:=hB.size;refine ⟨w23.heap.size+1+1,w.heap.size,B6,fun k=>k=w23.heap.size+1+1∨k=w.heap.size∨k=B6∨PwX (w23.heap.size+1) (sel2 (w21.heap.size) (w23.heap.size)) k,rfl,⟨w23.heap.size+1,_,_,_,PwX (w23.heap.size+1) (sel2 (w21.heap.size) (w23.heap.size)),rfl,⟨_,_,_,hp,fun _=>Iff.rfl⟩,qf0,HR1.out.stays (.ofBelow (X:=fun _=>False) hB) id,?_,⟨?_,?_,?_⟩,fun _=>Iff.rfl⟩,?_,bLt HM1.out hB⟩
 · rw [HZ.out,HS.out];exact HR3.out.stays (.ofBelow (X:=fun _=>False) hB) id
 · rintro (h | h | h)<;>(try simp [sel2] at h)<;>omega
 · rintro (h | h | h)<;>(try simp [sel2] at h)<;>omega
 · rintro (h | h | h)<;>(try simp [sel2] at h)<;>omega
 rintro k (h | h | h | h | h | h)<;>(try simp [sel2] at h)<;>omega
end
theorem getD_set {L:List Rat} {k i:Nat} {q:Rat} (hk:k<L.length):(L.set k q).getD i 0=if i=k then q else L.getD i 0:=by
 rw [List.getD_eq_getElem?_getD,List.getD_eq_getElem?_getD]
 by_cases e:i=k
 · subst e;rw [if_pos rfl,List.getElem?_set_self hk];rfl
 rw [if_neg e,List.getElem?_set_ne (fun h=>e h.symm)]
theorem getD_rep {m i:Nat}:(List.replicate m (0:Rat)).getD i 0=0:=by
 rw [List.getD_eq_getElem?_getD,List.getElem?_replicate]
 split<;>rfl
def firstL (p:Rat) (n r:Nat):List Rat:=(List.range r).foldl (fun g r=>g.set ((n-r)*(n+1)+r) (shareQ p n r)) (List.replicate ((n+1)*(n+1)) 0)
theorem firstL_zero (p:Rat) (n:Nat):firstL p n 0=List.replicate ((n+1)*(n+1)) 0:=rfl
theorem firstL_succ (p:Rat) (n r:Nat):firstL p n (r+1)=(firstL p n r).set ((n-r)*(n+1)+r) (shareQ p n r):=by
 unfold firstL;rw [List.range_succ,List.foldl_append];rfl
theorem firstL_len (p:Rat) (n:Nat):∀ r,(firstL p n r).length=(n+1)*(n+1)
 | 0=>by rw [firstL_zero,List.length_replicate]
 | r+1=>by rw [firstL_succ,List.length_set,firstL_len p n r]
theorem firstL_all (p:Rat) (n:Nat):firstL p n (n+1)=firstG p n:=rfl
theorem place_lt {n i k:Nat} (hi:i≤n) (hk:k≤n):i*(n+1)+k<(n+1)*(n+1):=by
 have h1:i*(n+1)≤n*(n+1):=Nat.mul_le_mul_right _ hi;have h2:(n+1)*(n+1)=n*(n+1)+(n+1):=Nat.succ_mul _ _;omega
def stepB (same m q:Rat) (n c r a b:Nat) (out:List Rat):List Rat:=out.set ((c-a)*(n+1)+(r-1-b+a)) (out.getD ((c-a)*(n+1)+(r-1-b+a)) 0+m*q*shareQ same (r-1) b)
def rowB (same m q:Rat) (n c r a b:Nat) (out:List Rat):List Rat:=(List.range b).foldl (fun out b=>stepB same m q n c r a b out) out
def stepA (free same m:Rat) (n c r a:Nat) (out:List Rat):List Rat:=if shareQ free c a=0 then out else rowB same m (shareQ free c a) n c r a r out
def rowA (free same m:Rat) (n c r a:Nat) (out:List Rat):List Rat:=(List.range a).foldl (fun out a=>stepA free same m n c r a out) out
def stepPl (free same:Rat) (n:Nat) (g:List Rat) (i:Nat) (out:List Rat):List Rat :=
 if i % (n+1)=0∨g.getD i 0=0 then out else rowA free same (g.getD i 0) n (i/(n+1)) (i % (n+1)) (i/(n+1)+1) out
def nextL (free same:Rat) (n:Nat) (g:List Rat) (i:Nat):List Rat:=(List.range i).foldl (fun out i=>stepPl free same n g i out) (List.replicate ((n+1)*(n+1)) 0)
theorem nextL_all (free same:Rat) (n:Nat) (g:List Rat):nextL free same n g ((n+1)*(n+1))=nextG free same n g:=rfl
theorem rowB_succ (same m q:Rat) (n c r a b:Nat) (out:List Rat):rowB same m q n c r a (b+1) out=stepB same m q n c r a b (rowB same m q n c r a b out):=by
 unfold rowB;rw [List.range_succ,List.foldl_append];rfl
theorem rowA_succ (free same m:Rat) (n c r a:Nat) (out:List Rat):rowA free same m n c r (a+1) out=stepA free same m n c r a (rowA free same m n c r a out):=by
 unfold rowA;rw [List.range_succ,List.foldl_append];rfl
theorem nextL_succ (free same:Rat) (n:Nat) (g:List Rat) (i:Nat):nextL free same n g (i+1)=stepPl free same n g i (nextL free same n g i):=by
 unfold nextL;rw [List.range_succ,List.foldl_append];rfl
theorem rowB_len (same m q:Rat) (n c r a:Nat) (out:List Rat):∀ b,(rowB same m q n c r a b out).length=out.length
 | 0=>rfl
 | b+1=>by rw [rowB_succ,stepB,List.length_set,rowB_len same m q n c r a out b]
theorem stepA_len (free same m:Rat) (n c r a:Nat) (out:List Rat):(stepA free same m n c r a out).length=out.length:=by
 unfold stepA;split
 · rfl
 exact rowB_len _ _ _ _ _ _ _ _ _
theorem rowA_len (free same m:Rat) (n c r:Nat) (out:List Rat):∀ a,(rowA free same m n c r a out).length=out.length
 | 0=>rfl
 | a+1=>by rw [rowA_succ,stepA_len,rowA_len free same m n c r out a]
theorem stepPl_len (free same:Rat) (n:Nat) (g:List Rat) (i:Nat) (out:List Rat):(stepPl free same n g i out).length=out.length:=by
 unfold stepPl;split
 · rfl
 exact rowA_len _ _ _ _ _ _ _ _
theorem nextL_len (free same:Rat) (n:Nat) (g:List Rat):∀ i,(nextL free same n g i).length=(n+1)*(n+1)
 | 0=>List.length_replicate
 | i+1=>by rw [nextL_succ,stepPl_len,nextL_len free same n g i]
def stuckL (n u:Nat) (g:List Rat) (i:Nat):Rat:=(List.range i).foldl (fun q i=>if u=0∨i % (n+1)=0 then q+g.getD i 0 else q) 0
theorem stuckL_succ (n u:Nat) (g:List Rat) (i:Nat):stuckL n u g (i+1)=if u=0∨i % (n+1)=0 then stuckL n u g i+g.getD i 0 else stuckL n u g i:=by
 unfold stuckL;rw [List.range_succ,List.foldl_append];rfl
def Good (M A:Nat) (L:List Rat):Prop:=∀ i,Fit M A (L.getD i 0)
theorem Good.weak {M A B:Nat} {L:List Rat} (h:Good M A L) (hab:A≤B):Good M B L:=fun i=>(h i).weak hab
theorem Good.zero (M m:Nat):Good M 0 (List.replicate m 0):=fun i=>by rw [getD_rep];exact Fit.zero M
theorem Good.set {M A K:Nat} {L:List Rat} {q:Rat} (h:Good M A L) (hq:Fit M A q):Good M A (L.set K q):=by
 intro i
 by_cases hK:K<L.length
 · rw [getD_set hK]
   split
   · exact hq
   exact h i
 rw [List.set_eq_of_length_le (by omega)];exact h i
theorem stepB_good {M X T:Nat} {same m q:Rat} {n c r a b:Nat} {out:List Rat} (h:Good M X out) (ht:Fit M T (m*q*shareQ same (r-1) b)):Good M (X+T) (stepB same m q n c r a b out):=by
 unfold stepB;exact (h.weak (Nat.le_add_right X T)).set ((h _).add ht)
theorem rowB_good {M X T:Nat} {same m q:Rat} {n c r a:Nat} {out:List Rat} (h:Good M X out) (ht:∀ b,b<r→Fit M T (m*q*shareQ same (r-1) b)):∀ b,b≤r→Good M (X+b*T) (rowB same m q n c r a b out)
 | 0,_=>by rw [Nat.zero_mul];exact h
 | b + 1, hb => by
   rw [rowB_succ,Nat.succ_mul,← Nat.add_assoc];exact stepB_good (rowB_good h ht b (by omega)) (ht b (by omega))
theorem rowA_good {M X T:Nat} {free same m:Rat} {n c r:Nat} {out:List Rat} (h:Good M X out) (ht:∀ a b,a≤c→b<r→Fit M T (m*shareQ free c a*shareQ same (r-1) b)):∀ a,a≤c+1→Good M (X+a*(r*T)) (rowA free same m n c r a out)
 | 0,_=>by rw [Nat.zero_mul];exact h
 | a + 1, ha => by
   have h1:=rowA_good (n:=n) h ht a (by omega);rw [rowA_succ,stepA,Nat.succ_mul,← Nat.add_assoc]
   split
   · exact h1.weak (Nat.le_add_right _ _)
   exact rowB_good h1 (fun b hb=>ht a b (by omega) hb) r (nRf _)
def TermOk (M T:Nat) (free same:Rat) (n:Nat) (g:List Rat):Prop:=∀ i a b,i<(n+1)*(n+1)→a≤i/(n+1)→b<i % (n+1)→Fit M T (g.getD i 0*shareQ free (i/(n+1)) a*shareQ same (i % (n+1)-1) b)
theorem div_le' {n i:Nat} (h:i<(n+1)*(n+1)):i/(n+1)≤n∧i % (n+1)≤n:=by
 have h1:i/(n+1)<n+1:=Nat.div_lt_of_lt_mul h;have h2:i % (n+1)<n+1:=Nat.mod_lt _ (Nat.succ_pos n);omega
theorem nextL_good {M T:Nat} {free same:Rat} {n:Nat} {g:List Rat} (ht:TermOk M T free same n g):∀ i,i≤(n+1)*(n+1)→Good M (i*((n+1)*(n*T))) (nextL free same n g i)
 | 0,_=>by rw [Nat.zero_mul];exact Good.zero M _
 | i + 1, hi => by
   have h1:=nextL_good ht i (by omega);obtain ⟨hd,hmd⟩:=div_le' (n:=n) (i:=i) (by omega);rw [nextL_succ,stepPl,Nat.succ_mul]
   split
   · exact h1.weak (Nat.le_add_right _ _)
   refine (rowA_good h1 (fun a b ha hb=>ht i a b (by omega) ha hb) _ (nRf _)).weak (Nat.add_le_add_left ?_ _);exact Nat.mul_le_mul (by omega) (Nat.mul_le_mul hmd (nRf T))
theorem part_good {M T:Nat} {free same:Rat} {n:Nat} {g:List Rat} (ht:TermOk M T free same n g) {i a b:Nat} (hi:i<(n+1)*(n+1)) (ha:a≤i/(n+1)) (hb:b≤i % (n+1)) :
 Good M ((n+1)*(n+1)*((n+1)*(n*T))) (rowB same (g.getD i 0) (shareQ free (i/(n+1)) a) n (i/(n+1)) (i % (n+1)) a b (rowA free same (g.getD i 0) n (i/(n+1)) (i % (n+1)) a (nextL free same n g i))):=by
 have h1:=nextL_good ht i (by omega);have h2:=rowA_good (n:=n) h1 (fun a b ha hb=>ht i a b hi ha hb) a (by omega);have h3:=rowB_good (n:=n) (c:=i/(n+1)) (a:=a) h2 (fun b hb=>ht i a b hi ha hb) b hb;obtain ⟨hd,hmd⟩:=div_le' hi;refine h3.weak ?_;have h4:b*T≤(i % (n+1))*T:=Nat.mul_le_mul_right T hb;have h5:a*(i % (n+1)*T)+i % (n+1)*T=(a+1)*(i % (n+1)*T):=(Nat.succ_mul _ _).symm;have h6:(a+1)*(i % (n+1)*T)≤(n+1)*(n*T):=Nat.mul_le_mul (by omega) (Nat.mul_le_mul hmd (nRf T));have h7:i*((n+1)*(n*T))+(n+1)*(n*T)=(i+1)*((n+1)*(n*T)):=(Nat.succ_mul _ _).symm;have h8:(i+1)*((n+1)*(n*T))≤(n+1)*(n+1)*((n+1)*(n*T)):=Nat.mul_le_mul_right _ (by omega);omega
theorem Fit.one_sub {M A:Nat} {x:Rat} (h:Fit M A x):Fit M (A+1) (1-x):=by
 obtain ⟨z,e,l⟩:=h;refine ⟨(M:Int)-z,?_,?_⟩
 · rw [Rat.intCast_sub,Rat.intCast_natCast,← e]
   grind
 rw [Nat.add_mul];omega
theorem Fit.cast {M N A B:Nat} {x:Rat} (h:Fit M A x) (e1:M=N) (e2:A≤B):Fit N B x:=by
 subst e1;exact h.weak e2
theorem share_fit {D P n c a C:Nat} {p:Rat} (h:Fit D P p) (hc:c≤n) (ha:a≤c) (hC:ch c a≤C):Fit (D ^ n) (C*(P+1) ^ n) (shareQ p c a):=by
 unfold shareQ;have h1:=(h.weak (Nat.le_succ P)).pow a;have h2:=h.one_sub.pow (c-a);have h3:=((Fit.nat (ch c a)).mul h1).mul h2;have h4:=h3.wide (D ^ (n-c));refine h4.cast ?_ ?_
 · rw [Nat.one_mul,← Nat.pow_add,← Nat.pow_add]
   congr 1
   omega
 rw [Nat.mul_assoc,← Nat.pow_add,show a+(c-a)=c by omega];exact Nat.mul_le_mul hC (Nat.pow_le_pow_right (Nat.succ_pos P) hc)
theorem firstL_good {D P n C:Nat} {p:Rat} (h:Fit D P p) (hC:∀ r,r≤n→ch n r≤C):∀ r,r≤n+1→Good (D ^ n) (C*(P+1) ^ n) (firstL p n r)
 | 0,_=>(Good.zero _ _).weak (Nat.zero_le _)
 | r + 1, hr => by
   rw [firstL_succ];exact (firstL_good h hC r (by omega)).set (share_fit h (nRf n) (by omega) (hC r (by omega)))
theorem term_ok {M A Df Pf Ds Ps n C:Nat} {free same:Rat} {g:List Rat} (hg:Good M A g) (hf:Fit Df Pf free) (hs:Fit Ds Ps same) (hC:∀ c,c≤n→∀ a,a≤c→ch c a≤C) :
 TermOk (M*Df ^ n*Ds ^ n) (A*(C*(Pf+1) ^ n)*(C*(Ps+1) ^ n)) free same n g:=by
 intro i a b hi ha hb;obtain ⟨hd,hm⟩:=div_le' hi;exact ((hg i).mul (share_fit hf hd ha (hC _ hd a ha))).mul (share_fit hs (by omega) (by omega) (hC _ (by omega) b (by omega)))
theorem ch_small:∀ n,n≤3→∀ a,a≤n→ch n a≤3:=by decide
def Tri (n:Nat) (L:List Rat):Prop:=∀ i,L.getD i 0≠0→i/(n+1)+i % (n+1)≤n
theorem place_div {n i k:Nat} (hk:k≤n):(i*(n+1)+k)/(n+1)=i∧(i*(n+1)+k) % (n+1)=k:=by
 have h1:i*(n+1)+k=k+(n+1)*i:=by rw [Nat.mul_comm i,Nat.add_comm]
 rw [h1];exact ⟨by rw [Nat.add_mul_div_left _ _ (Nat.succ_pos n),Nat.div_eq_of_lt (by omega),Nat.zero_add],by rw [Nat.add_mul_mod_self_left,Nat.mod_eq_of_lt (by omega)]⟩
theorem Tri.set {n K:Nat} {L:List Rat} {q:Rat} (h:Tri n L) (hK:K/(n+1)+K % (n+1)≤n):Tri n (L.set K q):=by
 intro i hi
 by_cases e:i=K
 · subst e;exact hK
 refine h i (fun h0=>hi ?_);rw [List.getD_eq_getElem?_getD] at h0 ⊢;rw [List.getElem?_set_ne (fun h=>e h.symm)];exact h0
theorem Tri.zero (n m:Nat):Tri n (List.replicate m 0):=fun i h=>absurd getD_rep h
theorem firstL_tri (p:Rat) (n:Nat):∀ r,r≤n+1→Tri n (firstL p n r)
 | 0,_=>Tri.zero _ _
 | r + 1, hr => by
   rw [firstL_succ];refine (firstL_tri p n r (by omega)).set ?_;obtain ⟨h1,h2⟩:=place_div (n:=n) (i:=n-r) (k:=r) (by omega);rw [h1,h2];omega
theorem firstG_tri (p:Rat) (n:Nat):Tri n (firstG p n):=firstL_tri p n (n+1) (nRf _)
theorem stepB_tri {same m q:Rat} {n c r a b:Nat} {out:List Rat} (h:Tri n out) (hcr:c+r≤n) (ha:a≤c) (hb:b<r):Tri n (stepB same m q n c r a b out):=by
 unfold stepB;refine h.set ?_;obtain ⟨h1,h2⟩:=place_div (n:=n) (i:=c-a) (k:=r-1-b+a) (by omega);rw [h1,h2];omega
theorem rowB_tri {same m q:Rat} {n c r a:Nat} {out:List Rat} (h:Tri n out) (hcr:c+r≤n) (ha:a≤c):∀ b,b≤r→Tri n (rowB same m q n c r a b out)
 | 0,_=>h
 | b + 1, hb => by
   rw [rowB_succ];exact stepB_tri (rowB_tri h hcr ha b (by omega)) hcr ha (by omega)
theorem rowA_tri {free same m:Rat} {n c r:Nat} {out:List Rat} (h:Tri n out) (hcr:c+r≤n):∀ a,a≤c+1→Tri n (rowA free same m n c r a out)
 | 0,_=>h
 | a + 1, ha => by
   rw [rowA_succ,stepA];have h1:=rowA_tri (free:=free) (same:=same) (m:=m) h hcr a (by omega)
   split
   · exact h1
   exact rowB_tri h1 hcr (by omega) r (nRf _)
theorem nextL_tri {free same:Rat} {n:Nat} {g:List Rat} (hg:Tri n g):∀ i,Tri n (nextL free same n g i)
 | 0=>Tri.zero _ _
 | i + 1 => by
   rw [nextL_succ,stepPl]
   split
   · exact nextL_tri hg i
   rename_i hne;exact rowA_tri (nextL_tri hg i) (hg i (fun h0=>hne (.inr h0))) _ (nRf _)
theorem nextG_tri {free same:Rat} {n:Nat} {g:List Rat} (hg:Tri n g):Tri n (nextG free same n g):=nextL_tri hg _
theorem levelG_tri (zs:List Int) (k n:Nat):∀ i,Tri n (levelG zs k n i)
 | 0=>firstG_tri _ _
 | i+1=>nextG_tri (levelG_tri zs k n i)
theorem len_pow (A:Nat):∀ n,(digs (A ^ n)).length≤n*(digs A).length+1
 | 0 => by
   rw [Nat.pow_zero,Nat.zero_mul]
   decide
 | n + 1 => by
   rw [Nat.pow_succ,Nat.succ_mul];have h1:=len_pow A n;have h2:=digs_len_prod (A ^ n) A;omega
theorem Fit.short {M A K L:Nat} {x:Rat} (hM:M≠0) (h:Fit M A x) (h1:(digs A).length≤K) (h2:(digs M).length≤L):rlen x≤K+L:=by
 have h3:=digs_len_prod A M;exact h.len hM (by omega) (by omega)
theorem rlen_one_sub {p:Rat} {K:Nat} (h:rlen p≤K):rlen (1-p)≤K+2:=by
 rw [Rat.sub_eq_add_neg];have h1:rlen (1 + -p)≤rlen 1+rlen (-p)+1:=sum_short _ _;have h2:rlen (1:Rat)=1:=by decide
 rw [rlen_neg] at h1;omega
theorem rlen_pows {p:Rat} {K j n:Nat} (h:rlen p≤K) (hj:j≤n):rlen (p ^ j)≤n*K+1:=by
 have h1:=rlen_pow p j;have h2:j*rlen p≤n*K:=Nat.mul_le_mul hj h;omega
theorem rlen_share {p:Rat} {K n c a:Nat} (h:rlen p≤K) (hc:c≤n) (ha:a≤c) (hn:n≤3):rlen (shareQ p c a)≤1+(n*K+1)+1+(n*(K+2)+1)+1:=by
 unfold shareQ;have h1:=rlen_pows (p:=p) h (show a≤n by omega);have h2:=rlen_pows (p:=1-p) (rlen_one_sub h) (show c-a≤n by omega)
 have h3:rlen ((ch c a:Nat):Rat)≤1:=by
  have h4:=ch_small c (by omega) a ha;have h5:=rlen_mkRat (z:=((ch c a:Nat):Int)) (d:=1) (L:=1) (by decide) (by rw [Int.natAbs_natCast];exact digs_length_le.2 (by simp;omega)) (by decide);rw [Rat.mkRat_one] at h5;exact h5
 have h6:rlen ((ch c a:Nat)*p ^ a)≤rlen ((ch c a:Nat):Rat)+rlen (p ^ a)+1:=product_short _ _;have h7:rlen ((ch c a:Nat)*p ^ a*(1-p) ^ (c-a))≤rlen ((ch c a:Nat)*p ^ a)+rlen ((1-p) ^ (c-a))+1:=product_short _ _;omega
section
open Go.RowKit
theorem foldR_sum (q:Nat→Rat):∀ n,foldR (· + ·) 0 (fun i=>partsOf (q i)) n=sumQ 0 q n
 | 0=>rfl
 | n + 1 => by
   have h:=foldR_sum q n;simp only [foldR] at h ⊢;rw [h,ratOf_parts];rfl
theorem add_rats {w:World} {a:Option Addr} {n c:Nat} {q:Nat→Rat} (K:Nat) (gr:RatsAt w a n c (fun i=>partsOf (q i))) (hK:∀ i,i<n→rlen (q i)≤K) (h1:1≤K) (h2:K+n*(K+1)≤17179869184):Calls Tryz.prog 200 #[.slice a n c] w (RetOk w (sumQ 0 q n)):=by
 have h:=add05_any a n c _ K w gr h1 (fun i hi=>rlen_parts _ (hK i hi)) h2
 have e:foldA (· + ·) 0 (fun i=>partsOf (q i)) n = .ok (sumQ 0 q n):=by
  unfold foldA;rw [if_pos (allR_iff.2 fun _ _=>chk3_parts _),foldR_sum]
 rw [e] at h;exact h.mono fun e w' h=>h.ok
section
variable {zs:List Int} {k u:Nat}
end
end
end Go.Proofs.YtkhcblihbalnbaaGreatDoor
