import Derived.Test.YtkhcblihbalnbaaGreatS0Pl
import Derived.Test.YtkhcblihbalnbaaGreatShare2Pl
set_option linter.unusedVariables false
set_option linter.unusedSimpArgs false
set_option maxHeartbeats 16000000
set_option maxRecDepth 100000
namespace Go.Proofs.YtkhcblihbalnbaaGreat
open Go.RowKit
theorem sub_ok {p q:Rat} {a1:Option Addr} {n1 c1:Nat} {a2:Option Addr} {n2 c2:Nat} {a3:Option Addr} {n3 c3:Nat} {a4:Option Addr} {n4 c4:Nat} {w:World} (g1:NatAt w a1 n1 c1 (digs p.num.natAbs)) (g2:NatAt w a2 n2 c2 (digs p.den)) (g3:NatAt w a3 n3 c3 (digs q.num.natAbs)) (g4:NatAt w a4 n4 c4 (digs q.den)) (hp:rlen p≤1048576) (hq:rlen q≤1048576) :
 Calls Tryz.prog 49 #[.agg #[.bool (neg p.num),.slice a1 n1 c1,.slice a2 n2 c2],.agg #[.bool (neg q.num),.slice a3 n3 c3,.slice a4 n4 c4]] w (RetOk w (p-q)):=by
 unfold rlen at hp hq;have h1:=g1.len;have h2:=g2.len;have h3:=g3.len;have h4:=g4.len;exact sub05_rat p q _ _ _ _ _ _ _ _ _ _ _ _ w g1 g2 g3 g4 (by omega) (by omega) (by omega) (by omega)
theorem whole_any (x:Int) (w:World) (hx:-9223372036854775808≤x∧x≤9223372036854775807) :
 Calls Tryz.prog 105 #[.int .i64 x] w (RetRat w (mkRat x 1)):=by
 have hp:∀ w,Calls Tryz.prog 47 #[.int .i64 x,.int .i64 1] w (RetOk w (mkRat x 1)):=fun w=>pair_ok (x:=x) (y:=((1:Nat):Int)) (q:=mkRat x 1) (by omega) (pr_pos (by decide)) w hx (by decide)
 have HP:=hiD hp;obtain ⟨Q,hQ⟩:∃ Q,mkRat x 1=Q:=⟨_,rfl⟩;rw [hQ] at HP ⊢;clear hp hQ
 go_enter Tryz.func105,Tryz.ntmps105
 have hB:=bRf w.heap.size w
 go_wp2_with fail
 obtain ⟨w1,hW,hz0,hb,q,f⟩:=box1g w (w.heap.size) (by omega) #[.bool false,.slice none 0 0,.slice none 0 0] 28;rw [hW];clear hW;have hB:=bLt hB hb;clear hb;have lr:w.heap.size<w1.heap.size:=by omega
 have qr0:=q 0;have qr1:=q 1;have qr2:=q 2;simp only [lgA,lgZ,lgS] at qr0 qr1 qr2;have xr:BoxAt w1 (w.heap.size) 3:=BoxAt.of q f rfl (by simp [notU_bool,notU_slice,notU_i64]);clear q f;clear hz0
 with_reducible refine (HP.out _).mono ?_
 rintro e w2 ⟨ahAU,nhAU,chAU,ahAD,nhAD,chAD,rfl,hAU,hAD,hb⟩;have hAU:=hAU.mono hB.size;have hAD:=hAD.mono hB.size;have xr:=xr.past hb lr;obtain ⟨qr0,qr1,qr2,lr⟩:=bq3 hb lr qr0 qr1 qr2;have hB:=bLt hB hb;clear hb;have zf0:=xr.f 0 (by decide);have zf1:=xr.f 1 (by decide);have zf2:=xr.f 2 (by decide)
 go_wp2
 have zf0:=xr.f 0 (by decide);have zf1:=xr.f 1 (by decide);have zf2:=xr.f 2 (by decide);obtain ⟨w3,hW,hO,qN0,qN1,qN2,xN⟩:=store3 xr (.bool (neg (Q).num)) (.slice ahAU nhAU chAU) (.slice ahAD nhAD chAD) (nu rfl) (nu rfl) (nu rfl);try rw [hW]
 clear hW;have hAU:=hO.own hAU;have hAD:=hO.own hAD;have lr:w.heap.size<w3.heap.size:=by rw [hO.size];exact lr
 have qr0:=qN0;have qr1:=qN1;have qr2:=qN2;have xr:=xN;have hB:=hO.below (by omega) hB;clear hO qN0 qN1 qN2 xN zf0 zf1 zf2;obtain ⟨w4,hW,hz0,hb,q,f⟩:=box1g w3 (w3.heap.size) (by omega) #[.bool (neg (Q).num),.slice ahAU nhAU chAU,.slice ahAD nhAD chAD] 28;rw [hW];clear hW;have hAU:=hAU.past hb;have hAD:=hAD.past hb;have xr:=xr.past hb lr;obtain ⟨qr0,qr1,qr2,lr⟩:=bq3 hb lr qr0 qr1 qr2;have hB:=bLt hB hb;clear hb;have lx:w3.heap.size<w4.heap.size:=by omega
 have qx0:=q 0;have qx1:=q 1;have qx2:=q 2;simp only [lgA,lgZ,lgS] at qx0 qx1 qx2;clear q f;clear hz0;refine bodyPost_ret (v:=.agg #[.bool (neg Q.num),.slice ahAU nhAU chAU,.slice ahAD nhAD chAD]) ?_ rfl ⟨_,_,_,_,_,_,rfl,hAU,hAD,hB⟩;simp [results,Tryz.f105,go_sem,qr0,qr1,qr2]
theorem sign_ne (q:Rat):decide (q.num.sign≠0) = !decide (q=0):=by
 have h:q.num.sign=0 ↔ q=0:=by rw [Int.sign_eq_zero_iff_zero,Rat.num_eq_zero]
 by_cases e:q=0
 · simp [e]
 simp [e]
theorem some_any (q:Rat) (a1:Option Addr) (n1 c1:Nat) (a2:Option Addr) (n2 c2:Nat) (w:World) (g1:NatAt w a1 n1 c1 (digs q.num.natAbs)) (hl:rlen q≤1048576) :
 Calls Tryz.prog 185 #[.agg #[.bool (neg q.num),.slice a1 n1 c1,.slice a2 n2 c2]] w (RetVal w (.bool (!decide (q=0)))):=by
 have hs:=sign_ne q;have L:=hiD hl;obtain ⟨V,hV⟩:∃ V,(!decide (q=0))=V:=⟨_,rfl⟩;rw [hV] at hs ⊢;obtain ⟨z,hz⟩:∃ z,q.num.sign=z:=⟨_,rfl⟩;rw [hz] at hs;have HZ:=hiD hz;have HS3:=hiD hs;clear hl hV hz hs
 go_enter Tryz.func185,Tryz.ntmps185
 have hB:=bRf w.heap.size w
 go_wp2_with fail
 obtain ⟨w1,hW,hz0,hb,q,f⟩:=box1g w (w.heap.size) (by omega) #[.bool (neg q.num),.slice a1 n1 c1,.slice a2 n2 c2] 28;rw [hW];clear hW;have g1:=g1.past hb;have hB:=bLt hB hb;clear hb;have la:w.heap.size<w1.heap.size:=by omega
 have qa0:=q 0;have qa1:=q 1;have qa2:=q 2;simp only [lgA,lgZ,lgS] at qa0 qa1 qa2;clear q f;clear hz0
 with_reducible refine (sign_c g1 (by have h8:=g1.len;have h9:=L.out;unfold rlen at h9;omega)).mono ?_
 rintro e w2 ⟨rfl,hb⟩;obtain ⟨qa0,qa1,qa2,la⟩:=bq3 hb la qa0 qa1 qa2;have hB:=bLt hB hb;clear hb;rw [HZ.out]
 go_wp2
 go_ret
 refine ⟨ret_bool ?_,hB⟩
 first | exact HS3.out | (rw [← HS3.out];simp;rfl)
def sel2 (x y:Nat):Nat→Nat:=fun i=>if i=0 then x else y
theorem GridAt.single {w:World} {g:Nat} {f:Nat→Rat} {q:Rat} {a1:Option Addr} {n1 c1:Nat} {a2:Option Addr} {n2 c2:Nat} (x:BoxAt w g 3) (q0:w.cell? ⟨g,0,none⟩=some (.bool (neg q.num))) (q1:w.cell? ⟨g,1,none⟩=some (.slice a1 n1 c1)) (q2:w.cell? ⟨g,2,none⟩=some (.slice a2 n2 c2))
 (d1:NatAt w a1 n1 c1 (digs q.num.natAbs)) (d2:NatAt w a2 n2 c2 (digs q.den)) (hf:f 0=q):GridAt w g 1 1 f:=by
 refine ⟨nRf _,by simp [maxLen],x,fun i hi => ?_⟩;obtain rfl:i=0:=by omega
 rw [hf];exact ⟨_,_,_,_,_,_,q0,q1,q2,d1,d2⟩
theorem PwAt.start {w:World} {bp g0 g1:Nat} {P:Nat→Rat} {p q:Rat} {a1:Option Addr} {n1 c1:Nat} {a2:Option Addr} {n2 c2:Nat} {a3:Option Addr} {n3 c3:Nat} {a4:Option Addr} {n4 c4:Nat} (xp:BoxAt w bp 2) (e0:w.cell? ⟨bp,0,none⟩=some (.slice (some ⟨g0,0,none⟩) 1 1)) (e1:w.cell? ⟨bp,1,none⟩=some (.slice (some ⟨g1,0,none⟩) 1 1))
 (x:BoxAt w g0 3) (q0:w.cell? ⟨g0,0,none⟩=some (.bool (neg p.num))) (q1:w.cell? ⟨g0,1,none⟩=some (.slice a1 n1 c1)) (q2:w.cell? ⟨g0,2,none⟩=some (.slice a2 n2 c2)) (d1:NatAt w a1 n1 c1 (digs p.num.natAbs)) (d2:NatAt w a2 n2 c2 (digs p.den))
 (y:BoxAt w g1 3) (r0:w.cell? ⟨g1,0,none⟩=some (.bool (neg q.num))) (r1:w.cell? ⟨g1,1,none⟩=some (.slice a3 n3 c3)) (r2:w.cell? ⟨g1,2,none⟩=some (.slice a4 n4 c4)) (d3:NatAt w a3 n3 c3 (digs q.num.natAbs)) (d4:NatAt w a4 n4 c4 (digs q.den))
 (hp:P 0 ^ 0=p) (hq:P 1 ^ 0=q) (h0:g0≠bp) (h1:g1≠bp) (h01:g0≠g1):PwAt w bp P (sel2 g0 g1) (fun _=>1) (fun _=>1):=by
 refine ⟨xp,fun i hi => ?_,fun i hi=>by omega,fun i hi => ?_,fun i hi => ?_,h01⟩
 · rcases (by omega:i=0∨i=1) with rfl | rfl
   · exact e0
   exact e1
 · rcases (by omega:i=0∨i=1) with rfl | rfl
   · exact GridAt.single x q0 q1 q2 d1 d2 hp
   exact GridAt.single y r0 r1 r2 d3 d4 hq
 rcases (by omega:i=0∨i=1) with rfl | rfl
 · exact h0
 exact h1
theorem one_len:rlen (1:Rat)≤1048576:=by decide
theorem shares_any (rr:Rat) (a1:Option Addr) (n1 c1:Nat) (a2:Option Addr) (n2 c2:Nat) (w:World) (g1:NatAt w a1 n1 c1 (digs rr.num.natAbs)) (g2:NatAt w a2 n2 c2 (digs rr.den)) (hl:rlen rr≤1048576) :
 Calls Tryz.prog 182 #[.agg #[.bool (neg rr.num),.slice a1 n1 c1,.slice a2 n2 c2]] w fun e w'=>∃ b6 b1 b3 X,e = .returned (shF b6 b1 b3)∧ShSt w' (shF b6 b1 b3) rr X∧(∀ k,X k→w.heap.size≤k)∧Below w.heap.size w w':=by
 have hmf:∀ (fn:Fn) (first cap:Array Value) (w:World),(Instr.makeFunc fn first cap).run Tryz.prog w = .ok (.func fn first cap) w:=fun _ _ _ _=>rfl
 have hw1:=fun w=>whole_any 1 w (by decide)
 have e1:mkRat 1 1=1:=by decide
 rw [e1] at hw1;have l1:=one_len;obtain ⟨Z,hZ0⟩:∃ Z:Rat,(1:Rat)=Z:=⟨_,rfl⟩;rw [hZ0] at hw1 l1;obtain ⟨S,hS⟩:∃ S,Z-rr=S:=⟨_,rfl⟩;have HS:=hiD hS;have HZ:=hiD hZ0;have HW:=hiD hw1;have L:=hiD hl;have L1:=hiD l1;clear hS hZ0 hw1 hl l1 e1
 go_enter Tryz.func182,Tryz.ntmps182
 have hB:=bRf w.heap.size w
 go_wp2_with fail
 obtain ⟨w1,hW,hz0,hb,q,f⟩:=box1g w (w.heap.size) (by omega) #[.bool (neg rr.num),.slice a1 n1 c1,.slice a2 n2 c2] 28;rw [hW];clear hW;have g1:=g1.past hb;have g2:=g2.past hb;have hB:=bLt hB hb;clear hb;have lq:w.heap.size<w1.heap.size:=by omega
 have qq0:=q 0;have qq1:=q 1;have qq2:=q 2;simp only [lgA,lgZ,lgS] at qq0 qq1 qq2;clear q f;clear hz0;have hXl0:∀ k,(fun _:Nat=>False) k→k<w1.heap.size:=fun _ h=>h.elim
 refine wp_region_invA (by kernel_rfl) rfl (by kernel_rfl) (fun A0 V0 dd aa ww=>∃ (y8 y9 y10 y7 y11 y12 y3 y4:Value),aa=puts A0 [(8,y8),(9,y9),(10,y10),(7,y7),(11,y11),(12,y12),(3,y3),(4,y4)]∧Moves (fun _=>False) V0 ww∧(∀ k,k<V0.heap.size→(fun _=>False) k→(fun _=>False) k)∧(∀ k,(fun _=>False) k→k<ww.heap.size)∧Shut (dd 0=true→RatNV (Z) y8 ww)∧Shut (dd 1=true→y9 = .agg #[.bool (neg rr.num),.slice a1 n1 c1,.slice a2 n2 c2])∧Shut (dd 2=true→OkN (S) y10 ww)∧Shut (dd 3=true→y7=y10)∧Shut (dd 4=true→y11=part 0 y7)∧Shut (dd 5=true→y12=part 1 y7)∧Shut (dd 6=true→BoxN V0.heap.size (fun _=>False) y3 ww)∧Shut (dd 7=true→BoxQ V0.heap.size (fun _=>False) (S) y3 ww)∧Shut (dd 8=true→y4=y12)∧True) ?_ ?_ ?_
 · exact ⟨_,_,_,_,_,_,_,_,puts_self _ [8,9,10,7,11,12,3,4],Moves.drew _ _,fun _ _ h=>h,hXl0,fun h=>(by cases h),fun h=>(by cases h),fun h=>(by cases h),fun h=>(by cases h),fun h=>(by cases h),fun h=>(by cases h),fun h=>(by cases h),fun h=>(by cases h),fun h=>(by cases h),trivial⟩
 · refine Steps.cons ?_ (Steps.cons ?_ (Steps.cons ?_ (Steps.cons ?_ (Steps.cons ?_ (Steps.cons ?_ (Steps.cons ?_ (Steps.cons ?_ (Steps.cons ?_ (Steps.nil)))))))))
   all_goals (intro dd aa ww K hc hun hn hI hK;obtain ⟨y8,y9,y10,y7,y11,y12,y3,y4,ea,hM,hXX,hXl,f0,f1,f2,f3,f4,f5,f6,f7,f8,_⟩:=hI;subst ea;simp only [pu])
   · go_simp
     with_reducible refine (HW.out _).mono ?_
     rintro e w1 ⟨ahOU,nhOU,chOU,ahOD,nhOD,chOD,rfl,hOU,hOD,h1⟩;have hOU:=hOU.toNatAt;have hOD:=hOD.toNatAt;have hm1:Moves (fun _=>False) ww w1:=.ofBelow h1;have hgo:Goes (fun _=>False) (fun _=>False) ww w1:=.below h1;exact hK.out _ _ ⟨_,_,_,_,_,_,_,_,by simp only [pu]<;>rfl,hM.then hm1 hXX,hXX,(fun k hk=>nLt (hXl k hk) hm1.size),fun _=>⟨_,_,_,_,_,_,rfl,hOU,hOD⟩,uo f1,hc.abs hun,hc.abs hun,hc.abs hun,hc.abs hun,fun h=>(f6.out (upd_of rfl h)).goes hgo,hc.abs hun,hc.abs hun,trivial⟩
   · have e0:=(hM.stays.cell id qq0);have e1:=(hM.stays.cell id qq1);have e2:=(hM.stays.cell id qq2);go_simp;exact hK.out _ _ ⟨_,_,_,_,_,_,_,_,by simp only [pu]<;>rfl,hM,hXX,hXl,uo f0,fun _=>rfl,uo f2,hc.abs hun,hc.abs hun,hc.abs hun,uo f6,uo f7,hc.abs hun,trivial⟩
   · obtain ⟨ahOU,nhOU,chOU,ahOD,nhOD,chOD,ex,hOU,hOD⟩:=f0.out (hc.see hn);subst ex;obtain rfl:=f1.out (hc.see hn);go_simp
     with_reducible refine (sub_ok hOU hOD (g1.stays hM.stays) (g2.stays hM.stays) L1.out L.out).mono ?_
     rintro e w1 ⟨ahSU,nhSU,chSU,ahSD,nhSD,chSD,rfl,hSU,hSD,h1⟩;rw [HS.out] at hSU hSD ⊢;have hSU:=hSU.toNatAt;have hSD:=hSD.toNatAt;have hm1:Moves (fun _=>False) ww w1:=.ofBelow h1;have hgo:Goes (fun _=>False) (fun _=>False) ww w1:=.below h1;exact hK.out _ _ ⟨_,_,_,_,_,_,_,_,by simp only [pu]<;>rfl,hM.then hm1 hXX,hXX,(fun k hk=>nLt (hXl k hk) hm1.size),fun h=>(f0.out (upd_of rfl h)).calm hgo.st,fun h=>rfl,fun _=>⟨_,_,_,_,_,_,rfl,hSU,hSD⟩,hc.abs hun,hc.abs hun,hc.abs hun,fun h=>(f6.out (upd_of rfl h)).goes hgo,hc.abs hun,hc.abs hun,trivial⟩
   · obtain ⟨ahSU,nhSU,chSU,ahSD,nhSD,chSD,ex,hSU,hSD⟩:=f2.out (hc.see hn);subst ex;go_simp;exact hK.out _ _ ⟨_,_,_,_,_,_,_,_,by simp only [pu]<;>rfl,hM,hXX,hXl,uo f0,uo f1,uo f2,fun _=>rfl,hc.abs hun,hc.abs hun,uo f6,uo f7,hc.abs hun,trivial⟩
   · obtain ⟨ahSU,nhSU,chSU,ahSD,nhSD,chSD,ex,hSU,hSD⟩:=f2.out (hc.see hn);subst ex;have ex:y7 = .tuple #[.agg #[.bool (neg (S).num),.slice ahSU nhSU chSU,.slice ahSD nhSD chSD],.int .i64 0]:=f3.out (hc.see hn);subst ex;go_simp;exact hK.out _ _ ⟨_,_,_,_,_,_,_,_,by simp only [pu]<;>rfl,hM,hXX,hXl,uo f0,uo f1,uo f2,fun h=>rfl,fun _=>rfl,uo f5,uo f6,uo f7,uo f8,trivial⟩
   · obtain ⟨ahSU,nhSU,chSU,ahSD,nhSD,chSD,ex,hSU,hSD⟩:=f2.out (hc.see hn);subst ex;have ex:y7 = .tuple #[.agg #[.bool (neg (S).num),.slice ahSU nhSU chSU,.slice ahSD nhSD chSD],.int .i64 0]:=f3.out (hc.see hn);subst ex;go_simp;exact hK.out _ _ ⟨_,_,_,_,_,_,_,_,by simp only [pu]<;>rfl,hM,hXX,hXl,uo f0,uo f1,uo f2,fun h=>rfl,uo f4,fun _=>rfl,uo f6,uo f7,hc.abs hun,trivial⟩
   · go_simp;exact hK.out _ _ ⟨_,_,_,_,_,_,_,_,by simp only [pu]<;>rfl,hM.then (Moves.alloc (fun _=>False) ww _) hXX,hXX,(fun k hk=>nLt (hXl k hk) (by simp)),fun h=>(f0.out (upd_of rfl h)).calm (Goes.alloc (fun _=>False) ww _).st,uo f1,fun h=>(f2.out (upd_of rfl h)).calm (Goes.alloc (fun _=>False) ww _).st,uo f3,uo f4,uo f5,fun _=>BoxN.new _ hM.size hXl,hc.abs hun,uo f8,trivial⟩
   · obtain ⟨B6,ex,bB6,oB6,lB6,nB6⟩:=f6.out (hc.see hn);subst ex;obtain ⟨ahSU,nhSU,chSU,ahSD,nhSD,chSD,ex,hSU,hSD⟩:=f2.out (hc.see hn);subst ex;have ex:y7 = .tuple #[.agg #[.bool (neg (S).num),.slice ahSU nhSU chSU,.slice ahSD nhSD chSD],.int .i64 0]:=f3.out (hc.see hn);subst ex;have ex:y11 = .agg #[.bool (neg (S).num),.slice ahSU nhSU chSU,.slice ahSD nhSD chSD]:=f4.out (hc.see hn);subst ex;obtain ⟨v0,v1,v2,s0,s1,s2,s3,s4,s5,_,_,_⟩:=bB6.three;go_simp;have hst:=(bB6.setQ (S) hSU hSD).2;exact hK.out _ _ ⟨_,_,_,_,_,_,_,_,by simp only [pu]<;>rfl,hM.then hst (fun k hk e=>absurd (e ▸ hk:B6<_) (Nat.not_lt.2 oB6)),hXX,(fun k hk=>by simpa using hXl k hk),fun h=>(f0.out (upd_of rfl h)).calm hst.stays,uo f1,fun h=>(f2.out (upd_of rfl h)).calm hst.stays,fun h=>rfl,fun h=>rfl,uo f5,fun _=>⟨_,rfl,(bB6.setQ (S) hSU hSD).1.box,oB6,by simpa using lB6,nB6⟩,fun _=>BoxN.store bB6 oB6 lB6 nB6 hSU hSD,uo f8,trivial⟩
   obtain ⟨ahSU,nhSU,chSU,ahSD,nhSD,chSD,ex,hSU,hSD⟩:=f2.out (hc.see hn);subst ex;have ex:y7 = .tuple #[.agg #[.bool (neg (S).num),.slice ahSU nhSU chSU,.slice ahSD nhSD chSD],.int .i64 0]:=f3.out (hc.see hn);subst ex;have ex:y12 = .int .i64 0:=f5.out (hc.see hn);subst ex;go_simp;exact hK.out _ _ ⟨_,_,_,_,_,_,_,_,by simp only [pu]<;>rfl,hM,hXX,hXl,uo f0,uo f1,uo f2,fun h=>rfl,uo f4,fun h=>rfl,uo f6,uo f7,fun _=>rfl,trivial⟩
 intro dd aa W1 hd hI;obtain ⟨y8,y9,y10,y7,y11,y12,y3,y4,ea,hM,hXX,hXl,f0,f1,f2,f3,f4,f5,f6,f7,f8,_⟩:=hI;obtain ⟨ahOU,nhOU,chOU,ahOD,nhOD,chOD,ex,hOU,hOD⟩:=f0.out (hd 0 (by simp));subst ex;obtain rfl:=f1.out (hd 1 (by simp));obtain ⟨ahSU,nhSU,chSU,ahSD,nhSD,chSD,ex,hSU,hSD⟩:=f2.out (hd 2 (by simp));subst ex;have ex:y7 = .tuple #[.agg #[.bool (neg (S).num),.slice ahSU nhSU chSU,.slice ahSD nhSD chSD],.int .i64 0]:=f3.out (hd 3 (by simp));subst ex;have ex:y11 = .agg #[.bool (neg (S).num),.slice ahSU nhSU chSU,.slice ahSD nhSD chSD]:=f4.out (hd 4 (by simp));subst ex;have ex:y12 = .int .i64 0:=f5.out (hd 5 (by simp));subst ex;have ex:y4 = .int .i64 0:=f8.out (hd 8 (by simp));subst ex;obtain ⟨B6,bx1,bx2,bx3,bx4,bx5,bx6,ex,bB6,oB6,lB6,nB6,q60,q61,q62,d6U,d6D⟩:=f7.out (hd 7 (by simp));subst ex;subst ea;simp only [pu];have hB1:Below w.heap.size w W1:=bLt hB (hM.below (nRf _) (fun _ h=>h.elim));have qq0:=hM.stays.cell id qq0;have qq1:=hM.stays.cell id qq1;have qq2:=hM.stays.cell id qq2;have g1:=g1.stays hM.stays;have g2:=g2.stays hM.stays;have oq:w.heap.size≤B6:=nTr hB.size oB6;have hR1:RatC W1 (w.heap.size) rr:=⟨_,_,_,_,_,_,qq0,qq1,qq2,g1,g2⟩;have hR3:RatC W1 B6 S:=⟨_,_,_,_,_,_,q60,q61,q62,d6U,d6D⟩;have HR1:=hiD hR1;have HR3:=hiD hR3;have HM1:=hiD hB1;have lq1:w.heap.size<W1.heap.size:=nLt lq hM.size
 have nqB:w.heap.size<B6:=nLt lq oB6;clear hR1 hR3 hB1 hM hXX hXl qq0 qq1 qq2 q60 q61 q62 d6U d6D g1 g2 bB6 nB6 hB;have hB:=bRf W1.heap.size W1
 go_wp2_with fail
 with_reducible refine (HW.out _).mono ?_
 rintro e w21 ⟨ahXU,nhXU,chXU,ahXD,nhXD,chXD,rfl,hXU,hXD,hb⟩;have hB:=bLt hB hb;clear hb;have s21:=hB.size
 go_wp2_with fail
 obtain ⟨w22,hW,hz0,hb,q,f⟩:=box1g w21 (w21.heap.size) (by omega) #[.bool (neg (Z).num),.slice ahXU nhXU chXU,.slice ahXD nhXD chXD] 28;rw [hW];clear hW;have hXU:=hXU.past hb;have hXD:=hXD.past hb;have hB:=bLt hB hb;clear hb;have ll0:w21.heap.size<w22.heap.size:=by omega
 have ql00:=q 0;have ql01:=q 1;have ql02:=q 2;simp only [lgA,lgZ,lgS] at ql00 ql01 ql02;have xl0:BoxAt w22 (w21.heap.size) 3:=BoxAt.of q f rfl (by simp [notU_bool,notU_slice,notU_i64]);clear q f;clear hz0
 with_reducible refine (HW.out _).mono ?_
 rintro e w23 ⟨ahYU,nhYU,chYU,ahYD,nhYD,chYD,rfl,hYU,hYD,hb⟩;have hXU:=hXU.past hb;have hXD:=hXD.past hb;have xl0:=xl0.past hb ll0;obtain ⟨ql00,ql01,ql02,ll0⟩:=bq3 hb ll0 ql00 ql01 ql02;have hB:=bLt hB hb;clear hb;have s23:=ll0
 go_wp2_with fail
 obtain ⟨w24,hW,hz0,hb,q,f⟩:=box1g w23 (w23.heap.size) (by omega) #[.bool (neg (Z).num),.slice ahYU nhYU chYU,.slice ahYD nhYD chYD] 28;rw [hW];clear hW;have hXU:=hXU.past hb;have hXD:=hXD.past hb;have hYU:=hYU.past hb;have hYD:=hYD.past hb;have xl0:=xl0.past hb ll0;obtain ⟨ql00,ql01,ql02,ll0⟩:=bq3 hb ll0 ql00 ql01 ql02;have hB:=bLt hB hb;clear hb;have ll1:w23.heap.size<w24.heap.size:=by omega
 have ql10:=q 0;have ql11:=q 1;have ql12:=q 2;simp only [lgA,lgZ,lgS] at ql10 ql11 ql12;have xl1:BoxAt w24 (w23.heap.size) 3:=BoxAt.of q f rfl (by simp [notU_bool,notU_slice,notU_i64]);clear q f;obtain ⟨w25,hW,hz1,hb,q,f⟩:=box1g w24 (w23.heap.size+1) (by omega) #[.slice (some ⟨w21.heap.size,0,none⟩) 1 1,.slice (some ⟨w23.heap.size,0,none⟩) 1 1] 211;rw [hW];clear hW;have hXU:=hXU.past hb;have hXD:=hXD.past hb;have hYU:=hYU.past hb;have hYD:=hYD.past hb;have xl0:=xl0.past hb ll0;obtain ⟨ql00,ql01,ql02,ll0⟩:=bq3 hb ll0 ql00 ql01 ql02;have xl1:=xl1.past hb ll1;obtain ⟨ql10,ql11,ql12,ll1⟩:=bq3 hb ll1 ql10 ql11 ql12;have hB:=bLt hB hb;clear hb;have lp:w23.heap.size+1<w25.heap.size:=by omega
 have qp0:=q 0;have qp1:=q 1;simp only [lgA,lgZ,lgS] at qp0 qp1;have xp:BoxAt w25 (w23.heap.size+1) 2:=BoxAt.of q f rfl (by simp [notU_bool,notU_slice,notU_i64]);clear q f;obtain ⟨w26,hW,hz2,hb,q,f⟩:=box1g w25 (w23.heap.size+1+1) (by omega) #[.func (.func 204) #[] #[.pointer (some ⟨w23.heap.size+1,0,none⟩)]] 212;rw [hW];clear hW;have hXU:=hXU.past hb;have hXD:=hXD.past hb;have hYU:=hYU.past hb;have hYD:=hYD.past hb;have xl0:=xl0.past hb ll0;obtain ⟨ql00,ql01,ql02,ll0⟩:=bq3 hb ll0 ql00 ql01 ql02;have xl1:=xl1.past hb ll1;obtain ⟨ql10,ql11,ql12,ll1⟩:=bq3 hb ll1 ql10 ql11 ql12;have xp:=xp.past hb lp;obtain ⟨qp0,qp1,lp⟩:=bq2 hb lp qp0 qp1;have hB:=bLt hB hb;clear hb;have lf:w23.heap.size+1+1<w26.heap.size:=by omega
 have qf0:=q 0;simp only [lgA,lgZ,lgS] at qf0;clear q f;clear hz0;clear hz1;clear hz2
 go_ret
 have hz1:(pq rr 0) ^ 0=Z:=by rw [← HZ.out];exact Rat.pow_zero _
 have hz2:(pq rr 1) ^ 0=Z:=by rw [← HZ.out];exact Rat.pow_zero _
 have hp:=PwAt.start (bp:=w23.heap.size+1) (P:=pq rr) (g0:=w21.heap.size) (g1:=w23.heap.size) xp qp0 qp1 xl0 ql00 ql01 ql02 (hXU.toNatAt) (hXD.toNatAt) xl1 ql10 ql11 ql12 (hYU.toNatAt) (hYD.toNatAt) hz1 hz2 (by omega) (by omega) (by omega);have szB:=HM1.out.size;have hlt:=hB.size;refine ⟨w23.heap.size+1+1,w.heap.size,B6,fun k=>k=w23.heap.size+1+1∨k=w.heap.size∨k=B6∨PwX (w23.heap.size+1) (sel2 (w21.heap.size) (w23.heap.size)) k,rfl,⟨w23.heap.size+1,_,_,_,PwX (w23.heap.size+1) (sel2 (w21.heap.size) (w23.heap.size)),rfl,⟨_,_,_,hp,fun _=>Iff.rfl⟩,qf0,HR1.out.stays (.ofBelow (X:=fun _=>False) hB) id,?_,⟨?_,?_,?_⟩,fun _=>Iff.rfl⟩,?_,bLt HM1.out hB⟩
 · rw [HZ.out,HS.out];exact HR3.out.stays (.ofBelow (X:=fun _=>False) hB) id
 · rintro (h | h | h)<;>(try simp [sel2] at h)<;>omega
 · rintro (h | h | h)<;>(try simp [sel2] at h)<;>omega
 · rintro (h | h | h)<;>(try simp [sel2] at h)<;>omega
 rintro k (h | h | h | h | h | h)<;>(try simp [sel2] at h)<;>omega
end Go.Proofs.YtkhcblihbalnbaaGreat
