import Derived.Test.YtkhcblihbalnbaaGreatDoorRatio6Pb
set_option linter.unusedVariables false
set_option linter.unusedSimpArgs false
set_option maxHeartbeats 8000000
set_option maxRecDepth 100000
namespace Go.Proofs.YtkhcblihbalnbaaGreatDoor
section
open Go.RowKit
def subA (x y:Bool×List Nat×List Nat):Ans:=if chk3 x=0∧chk3 y=0 then .ok (ratOf x-ratOf y) else .error 6
theorem subA_rat (p q:Rat):subA (partsOf p) (partsOf q) = .ok (p-q):=by unfold subA;rw [if_pos ⟨chk3_parts p,chk3_parts q⟩,ratOf_parts,ratOf_parts]
theorem rlen_neg (q:Rat):rlen (-q)=rlen q:=by
 unfold rlen;rw [Rat.neg_num,Rat.neg_den,Int.natAbs_neg]
theorem neg_parts (q:Rat):-q.num=(-q).num∧q.den=(-q).den:=⟨(Rat.neg_num q).symm,(Rat.neg_den q).symm⟩
theorem inv_parts2 {q:Rat} (h:q≠0):neg q.num=neg (q⁻¹).num∧q.den=(q⁻¹).num.natAbs∧q.num.natAbs=(q⁻¹).den:=by
 have hn:q.num≠0:=fun e=>h (Rat.num_eq_zero.1 e)
 obtain ⟨h1,h2⟩:=inv_parts hn;refine ⟨?_,?_,h2⟩
 · rw [← h1,neg_sg];simp [q.den_pos]
 rw [← h1,natAbs_sg]
theorem rlen_inv {q:Rat} (h:q≠0):rlen q⁻¹=rlen q:=by
 obtain ⟨_,h1,h2⟩:=inv_parts2 h;unfold rlen;rw [← h1,← h2,Nat.max_comm]
theorem sum05_rat (p q:Rat) (a:Option Addr) (n c:Nat) (a2:Option Addr) (n2 c2:Nat) (a3:Option Addr) (n3 c3:Nat) (a4:Option Addr) (n4 c4:Nat) (w:World) (h1:RatAt w p a n c a2 n2 c2) (h2:RatAt w q a3 n3 c3 a4 n4 c4) (h3:rlen p≤17179869184) (h4:rlen q≤17179869184) :
 Calls Tryz.prog 98 #[.agg #[.bool (neg p.num),.slice a n c,.slice a2 n2 c2],.agg #[.bool (neg q.num),.slice a3 n3 c3,.slice a4 n4 c4]] w (RetRat w (p+q)):=Does.out sum05_does p q _ _ _ _ _ _ _ _ _ _ _ _ w h1 h2 h3 h4
theorem product05_rat (p q:Rat) (a:Option Addr) (n c:Nat) (a2:Option Addr) (n2 c2:Nat) (a3:Option Addr) (n3 c3:Nat) (a4:Option Addr) (n4 c4:Nat) (w:World) (h1:RatAt w p a n c a2 n2 c2) (h2:RatAt w q a3 n3 c3 a4 n4 c4) (h3:rlen p≤17179869184) (h4:rlen q≤17179869184) :
 Calls Tryz.prog 258 #[.agg #[.bool (neg p.num),.slice a n c,.slice a2 n2 c2],.agg #[.bool (neg q.num),.slice a3 n3 c3,.slice a4 n4 c4]] w (RetRat w (p*q)):=Does.out product05_does p q _ _ _ _ _ _ _ _ _ _ _ _ w h1 h2 h3 h4
theorem num_len0 {q:Rat}:(digs q.num.natAbs).length=0 ↔ q=0:=by
 rw [digs_len0,Int.natAbs_eq_zero,Rat.num_eq_zero]
theorem sub05_bad1 (b1 b3:Bool) (a1:Option Addr) (n1 c1:Nat) (a2:Option Addr) (n2 c2:Nat) (a3:Option Addr) (n3 c3:Nat) (a4:Option Addr) (n4 c4:Nat) (l1 l2 l3 l4:List Nat) (w:World) (g1:NatAt w a1 n1 c1 l1) (g2:NatAt w a2 n2 c2 l2) (g3:NatAt w a3 n3 c3 l3) (g4:NatAt w a4 n4 c4 l4) (hs1:n1≤17179869184) (hs2:n2≤17179869184) (hs3:n3≤17179869184) (hs4:n4≤17179869184) (h:chkR b1 l1 l2≠0) :
 Calls Tryz.prog 56 #[.agg #[.bool (b1),.slice a1 n1 c1,.slice a2 n2 c2],.agg #[.bool (b3),.slice a3 n3 c3,.slice a4 n4 c4]] w (RetAns w (.error 6)):=by
 have H:=hiD (chkR_no h);clear h
 go_enter Tryz.func56,Tryz.ntmps56
 have hB:=bRf w.heap.size w
 go_wp2_with fail
 obtain ⟨w1,hW,hz0,hb,q,f,qx0,qx1,qx2⟩:=bx3 w (w.heap.size) (by omega) (.bool (b1)) (.slice a1 n1 c1) (.slice a2 n2 c2) 28;rw [hW];clear hW;have g1:=g1.past hb;have g2:=g2.past hb;have hB:=bLt hB hb;clear hb;have lx:w.heap.size<w1.heap.size:=by omega
 clear q f;obtain ⟨w2,hW,hz1,hb,q,f,qy0,qy1,qy2⟩:=bx3 w1 (w.heap.size+1) (by omega) (.bool (b3)) (.slice a3 n3 c3) (.slice a4 n4 c4) 28;rw [hW];clear hW;have g1:=g1.past hb;have g2:=g2.past hb;obtain ⟨qx0,qx1,qx2,lx⟩:=bq3 hb lx qx0 qx1 qx2;have hB:=bLt hB hb;clear hb;have ly:w.heap.size+1<w2.heap.size:=by omega
 clear q f;obtain ⟨w3,hW,hz2,hb,q,f,qr0,qr1,qr2⟩:=bx3 w2 (w.heap.size+1+1) (by omega) (.bool false) (.slice none 0 0) (.slice none 0 0) 28;rw [hW];clear hW;have g1:=g1.past hb;have g2:=g2.past hb;obtain ⟨qx0,qx1,qx2,lx⟩:=bq3 hb lx qx0 qx1 qx2;obtain ⟨qy0,qy1,qy2,ly⟩:=bq3 hb ly qy0 qy1 qy2;have hB:=bLt hB hb;clear hb;have lr:w.heap.size+1+1<w3.heap.size:=by omega
 have xr:BoxAt w3 (w.heap.size+1+1) 3:=BoxAt.of q f rfl (by simp [notU_bool,notU_slice,notU_i64]);clear q f;clear hz0;clear hz1;clear hz2
 with_reducible refine (check05_any b1 _ _ _ (l1) _ _ _ (l2) _ g1 g2 (by omega) (by omega)).mono ?_
 rintro e w4 ⟨rfl,hb⟩;obtain ⟨qx0,qx1,qx2,lx⟩:=bq3 hb lx qx0 qx1 qx2;obtain ⟨qy0,qy1,qy2,ly⟩:=bq3 hb ly qy0 qy1 qy2;have xr:=xr.past hb lr;obtain ⟨qr0,qr1,qr2,lr⟩:=bq3 hb lr qr0 qr1 qr2;have hB:=bLt hB hb;clear hb;rw [H.out];have zf0:=xr.f 0 (by decide);have zf1:=xr.f 1 (by decide);have zf2:=xr.f 2 (by decide)
 go_wp2
 obtain ⟨w5,hW,hO,qN0,qN1,qN2,xN⟩:=store3 xr (.bool false) (.slice none 0 0) (.slice none 0 0) (nu rfl) (nu rfl) (nu rfl);try rw [hW]
 clear hW;have qx0:=(hO.cell (b2:=w.heap.size) (k:=0) (by omega)).trans qx0;have qx1:=(hO.cell (b2:=w.heap.size) (k:=1) (by omega)).trans qx1;have qx2:=(hO.cell (b2:=w.heap.size) (k:=2) (by omega)).trans qx2;have lx:w.heap.size<w5.heap.size:=by rw [hO.size];exact lx
 have qy0:=(hO.cell (b2:=w.heap.size+1) (k:=0) (by omega)).trans qy0;have qy1:=(hO.cell (b2:=w.heap.size+1) (k:=1) (by omega)).trans qy1;have qy2:=(hO.cell (b2:=w.heap.size+1) (k:=2) (by omega)).trans qy2;have ly:w.heap.size+1<w5.heap.size:=by rw [hO.size];exact ly
 have lr:w.heap.size+1+1<w5.heap.size:=by rw [hO.size];exact lr
 have qr0:=qN0;have qr1:=qN1;have qr2:=qN2;have xr:=xN;have hB:=hO.below (by omega) hB;clear hO qN0 qN1 qN2 xN zf0 zf1 zf2;refine bodyPost_ret (v:=.tuple #[.agg #[.bool false,.slice none 0 0,.slice none 0 0],.int .i64 6]) ?_ rfl ⟨_,_,_,_,_,_,rfl,OwnAt.nil _ _,OwnAt.nil _ _,hB⟩;simp [results,Tryz.f56,go_sem,qr0,qr1,qr2]
theorem sub05_bad2 (b1 b3:Bool) (a1:Option Addr) (n1 c1:Nat) (a2:Option Addr) (n2 c2:Nat) (a3:Option Addr) (n3 c3:Nat) (a4:Option Addr) (n4 c4:Nat) (l1 l2 l3 l4:List Nat) (w:World) (g1:NatAt w a1 n1 c1 l1) (g2:NatAt w a2 n2 c2 l2) (g3:NatAt w a3 n3 c3 l3) (g4:NatAt w a4 n4 c4 l4) (hs1:n1≤17179869184) (hs2:n2≤17179869184) (hs3:n3≤17179869184) (hs4:n4≤17179869184) (h1:chkR b1 l1 l2=0) (h:chkR b3 l3 l4≠0) :
 Calls Tryz.prog 56 #[.agg #[.bool (b1),.slice a1 n1 c1,.slice a2 n2 c2],.agg #[.bool (b3),.slice a3 n3 c3,.slice a4 n4 c4]] w (RetAns w (.error 6)):=by
 have H1:=hiD h1;have H:=hiD (chkR_no h);clear h1 h
 go_enter Tryz.func56,Tryz.ntmps56
 have hB:=bRf w.heap.size w
 go_wp2_with fail
 obtain ⟨w1,hW,hz0,hb,q,f,qx0,qx1,qx2⟩:=bx3 w (w.heap.size) (by omega) (.bool (b1)) (.slice a1 n1 c1) (.slice a2 n2 c2) 28;rw [hW];clear hW;have g1:=g1.past hb;have g2:=g2.past hb;have g3:=g3.past hb;have g4:=g4.past hb;have hB:=bLt hB hb;clear hb;have lx:w.heap.size<w1.heap.size:=by omega
 clear q f;obtain ⟨w2,hW,hz1,hb,q,f,qy0,qy1,qy2⟩:=bx3 w1 (w.heap.size+1) (by omega) (.bool (b3)) (.slice a3 n3 c3) (.slice a4 n4 c4) 28;rw [hW];clear hW;have g1:=g1.past hb;have g2:=g2.past hb;have g3:=g3.past hb;have g4:=g4.past hb;obtain ⟨qx0,qx1,qx2,lx⟩:=bq3 hb lx qx0 qx1 qx2;have hB:=bLt hB hb;clear hb;have ly:w.heap.size+1<w2.heap.size:=by omega
 clear q f;obtain ⟨w3,hW,hz2,hb,q,f,qr0,qr1,qr2⟩:=bx3 w2 (w.heap.size+1+1) (by omega) (.bool false) (.slice none 0 0) (.slice none 0 0) 28;rw [hW];clear hW;have g1:=g1.past hb;have g2:=g2.past hb;have g3:=g3.past hb;have g4:=g4.past hb;obtain ⟨qx0,qx1,qx2,lx⟩:=bq3 hb lx qx0 qx1 qx2;obtain ⟨qy0,qy1,qy2,ly⟩:=bq3 hb ly qy0 qy1 qy2;have hB:=bLt hB hb;clear hb;have lr:w.heap.size+1+1<w3.heap.size:=by omega
 have xr:BoxAt w3 (w.heap.size+1+1) 3:=BoxAt.of q f rfl (by simp [notU_bool,notU_slice,notU_i64]);clear q f;clear hz0;clear hz1;clear hz2
 with_reducible refine (check05_any b1 _ _ _ (l1) _ _ _ (l2) _ g1 g2 (by omega) (by omega)).mono ?_
 rintro e w4 ⟨rfl,hb⟩;have g3:=g3.past hb;have g4:=g4.past hb;obtain ⟨qx0,qx1,qx2,lx⟩:=bq3 hb lx qx0 qx1 qx2;obtain ⟨qy0,qy1,qy2,ly⟩:=bq3 hb ly qy0 qy1 qy2;have xr:=xr.past hb lr;obtain ⟨qr0,qr1,qr2,lr⟩:=bq3 hb lr qr0 qr1 qr2;have hB:=bLt hB hb;clear hb;rw [H1.out]
 go_wp2_with fail
 with_reducible refine (check05_any b3 _ _ _ (l3) _ _ _ (l4) _ g3 g4 (by omega) (by omega)).mono ?_
 rintro e w5 ⟨rfl,hb⟩;obtain ⟨qx0,qx1,qx2,lx⟩:=bq3 hb lx qx0 qx1 qx2;obtain ⟨qy0,qy1,qy2,ly⟩:=bq3 hb ly qy0 qy1 qy2;have xr:=xr.past hb lr;obtain ⟨qr0,qr1,qr2,lr⟩:=bq3 hb lr qr0 qr1 qr2;have hB:=bLt hB hb;clear hb;rw [H.out];have zf0:=xr.f 0 (by decide);have zf1:=xr.f 1 (by decide);have zf2:=xr.f 2 (by decide)
 go_wp2
 obtain ⟨w6,hW,hO,qN0,qN1,qN2,xN⟩:=store3 xr (.bool false) (.slice none 0 0) (.slice none 0 0) (nu rfl) (nu rfl) (nu rfl);try rw [hW]
 clear hW;have qx0:=(hO.cell (b2:=w.heap.size) (k:=0) (by omega)).trans qx0;have qx1:=(hO.cell (b2:=w.heap.size) (k:=1) (by omega)).trans qx1;have qx2:=(hO.cell (b2:=w.heap.size) (k:=2) (by omega)).trans qx2;have lx:w.heap.size<w6.heap.size:=by rw [hO.size];exact lx
 have qy0:=(hO.cell (b2:=w.heap.size+1) (k:=0) (by omega)).trans qy0;have qy1:=(hO.cell (b2:=w.heap.size+1) (k:=1) (by omega)).trans qy1;have qy2:=(hO.cell (b2:=w.heap.size+1) (k:=2) (by omega)).trans qy2;have ly:w.heap.size+1<w6.heap.size:=by rw [hO.size];exact ly
 have lr:w.heap.size+1+1<w6.heap.size:=by rw [hO.size];exact lr
 have qr0:=qN0;have qr1:=qN1;have qr2:=qN2;have xr:=xN;have hB:=hO.below (by omega) hB;clear hO qN0 qN1 qN2 xN zf0 zf1 zf2;refine bodyPost_ret (v:=.tuple #[.agg #[.bool false,.slice none 0 0,.slice none 0 0],.int .i64 6]) ?_ rfl ⟨_,_,_,_,_,_,rfl,OwnAt.nil _ _,OwnAt.nil _ _,hB⟩;simp [results,Tryz.f56,go_sem,qr0,qr1,qr2]
theorem sub05_rat (p q:Rat) (a1:Option Addr) (n1 c1:Nat) (a2:Option Addr) (n2 c2:Nat) (a3:Option Addr) (n3 c3:Nat) (a4:Option Addr) (n4 c4:Nat) (w:World) (g1:NatAt w a1 n1 c1 (digs p.num.natAbs)) (g2:NatAt w a2 n2 c2 (digs p.den)) (g3:NatAt w a3 n3 c3 (digs q.num.natAbs)) (g4:NatAt w a4 n4 c4 (digs q.den)) (hs1:n1≤17179869184) (hs2:n2≤17179869184) (hs3:n3≤17179869184) (hs4:n4≤17179869184) :
 Calls Tryz.prog 56 #[.agg #[.bool (neg p.num),.slice a1 n1 c1,.slice a2 n2 c2],.agg #[.bool (neg q.num),.slice a3 n3 c3,.slice a4 n4 c4]] w (RetOk w (p-q)):=by
 have lp:rlen p≤17179869184:=by unfold rlen;have:=g1.len;have:=g2.len;omega
 have lq:rlen q≤17179869184:=by unfold rlen;have:=g3.len;have:=g4.len;omega
 rw [Rat.sub_eq_add_neg];obtain ⟨e1,e2⟩:=neg_parts q;have e3:=chkR_canon q;rw [← rlen_neg] at lq;obtain ⟨m,hm⟩:∃ m,-q=m:=⟨_,rfl⟩;rw [hm] at e1 e2 lq ⊢;rw [e2] at g4 e3;obtain ⟨R,hR⟩:∃ R,p+m=R:=⟨_,rfl⟩;rw [hR];have HR:=hiD hR;have E1:=hiD e1;have E3:=hiD e3;have E4:=hiD (chkR_canon p);have LP:=hiD lp;have LQ:=hiD lq;clear hR hm e1 e2 e3 lp lq
 go_enter Tryz.func56,Tryz.ntmps56
 have hB:=bRf w.heap.size w
 go_wp2_with fail
 obtain ⟨w1,hW,hz0,hb,q,f,qx0,qx1,qx2⟩:=bx3 w (w.heap.size) (by omega) (.bool (neg p.num)) (.slice a1 n1 c1) (.slice a2 n2 c2) 28;rw [hW];clear hW;have g1:=g1.past hb;have g2:=g2.past hb;have g3:=g3.past hb;have g4:=g4.past hb;have hB:=bLt hB hb;clear hb;have lx:w.heap.size<w1.heap.size:=by omega
 clear q f;obtain ⟨w2,hW,hz1,hb,q,f,qy0,qy1,qy2⟩:=bx3 w1 (w.heap.size+1) (by omega) (.bool (neg q.num)) (.slice a3 n3 c3) (.slice a4 n4 c4) 28;rw [hW];clear hW;have g1:=g1.past hb;have g2:=g2.past hb;have g3:=g3.past hb;have g4:=g4.past hb;obtain ⟨qx0,qx1,qx2,lx⟩:=bq3 hb lx qx0 qx1 qx2;have hB:=bLt hB hb;clear hb;have ly:w.heap.size+1<w2.heap.size:=by omega
 clear q f;obtain ⟨w3,hW,hz2,hb,q,f,qr0,qr1,qr2⟩:=bx3 w2 (w.heap.size+1+1) (by omega) (.bool false) (.slice none 0 0) (.slice none 0 0) 28;rw [hW];clear hW;have g1:=g1.past hb;have g2:=g2.past hb;have g3:=g3.past hb;have g4:=g4.past hb;obtain ⟨qx0,qx1,qx2,lx⟩:=bq3 hb lx qx0 qx1 qx2;obtain ⟨qy0,qy1,qy2,ly⟩:=bq3 hb ly qy0 qy1 qy2;have hB:=bLt hB hb;clear hb;have lr:w.heap.size+1+1<w3.heap.size:=by omega
 have xr:BoxAt w3 (w.heap.size+1+1) 3:=BoxAt.of q f rfl (by simp [notU_bool,notU_slice,notU_i64]);clear q f;clear hz0;clear hz1;clear hz2
 with_reducible refine (check05_any _ _ _ _ (digs p.num.natAbs) _ _ _ (digs p.den) _ g1 g2 (by omega) (by omega)).mono ?_
 rintro e w4 ⟨rfl,hb⟩;have g1:=g1.past hb;have g2:=g2.past hb;have g3:=g3.past hb;have g4:=g4.past hb;obtain ⟨qx0,qx1,qx2,lx⟩:=bq3 hb lx qx0 qx1 qx2;obtain ⟨qy0,qy1,qy2,ly⟩:=bq3 hb ly qy0 qy1 qy2;have xr:=xr.past hb lr;obtain ⟨qr0,qr1,qr2,lr⟩:=bq3 hb lr qr0 qr1 qr2;have hB:=bLt hB hb;clear hb;rw [E4.out]
 go_wp2_with fail
 with_reducible refine (check05_any _ _ _ _ (digs q.num.natAbs) _ _ _ (digs m.den) _ g3 g4 (by omega) (by omega)).mono ?_
 rintro e w5 ⟨rfl,hb⟩;have g1:=g1.past hb;have g2:=g2.past hb;have g3:=g3.past hb;have g4:=g4.past hb;obtain ⟨qx0,qx1,qx2,lx⟩:=bq3 hb lx qx0 qx1 qx2;obtain ⟨qy0,qy1,qy2,ly⟩:=bq3 hb ly qy0 qy1 qy2;have xr:=xr.past hb lr;obtain ⟨qr0,qr1,qr2,lr⟩:=bq3 hb lr qr0 qr1 qr2;have hB:=bLt hB hb;clear hb;rw [E3.out]
 go_wp2_with fail
 have szW:=hB.size;refine wp_region_inv (by kernel_rfl) rfl (by kernel_rfl) (fun A0 V0 dd aa ww=>∃ (y15 y16 y17 y18 y19 y20 y21 y22 y5:Value),aa=puts A0 [(15,y15),(16,y16),(17,y17),(18,y18),(19,y19),(20,y20),(21,y21),(22,y22),(5,y5)]∧Below (w).heap.size (w) ww∧V0.heap.size≤ww.heap.size∧NatAt ww a1 n1 c1 (digs p.num.natAbs)∧NatAt ww a2 n2 c2 (digs p.den)∧NatAt ww a3 n3 c3 (digs q.num.natAbs)∧NatAt ww a4 n4 c4 (digs m.den)∧Cells ww (w.heap.size) [.bool (neg p.num),.slice a1 n1 c1,.slice a2 n2 c2]∧Cells ww (w.heap.size+1) [.bool (neg q.num),.slice a3 n3 c3,.slice a4 n4 c4]∧BoxAt ww (w.heap.size+1+1) 3∧Shut (dd 8=false→Cells ww (w.heap.size+1+1) [.bool false,.slice none 0 0,.slice none 0 0])∧Shut (dd 0=true→y15 = .agg #[.bool (neg p.num),.slice a1 n1 c1,.slice a2 n2 c2])∧Shut (dd 1=true→y16 = .pointer (some ⟨w.heap.size+1,0,none⟩))∧Shut (dd 2=true→y17 = .agg #[.bool (neg q.num),.slice a3 n3 c3])∧Shut (dd 3=true→CopyV V0.heap.size (neg m.num) (digs m.num.natAbs) y18 ww)∧Shut (dd 4=true→y19 = .pointer (some ⟨w.heap.size+1,2,none⟩))∧Shut (dd 5=true→y20 = .slice a4 n4 c4)∧Shut (dd 6=true→y21=bld [y18,y20])∧Shut (dd 7=true→RatV V0.heap.size (R) y22 ww)∧Shut (dd 8=true→CellsV (w.heap.size+1+1) y22 ww)∧Shut (dd 9=true→y5 = .int .i64 0)) ?_ ?_ ?_
 · exact ⟨_,_,_,_,_,_,_,_,_,puts_self _ [15,16,17,18,19,20,21,22,5],hB.drew,nRf _,g1.drew,g2.drew,g3.drew,g4.drew,(by intro k hk;simp at hk;rcases (by omega:k=0∨k=1∨k=2) with rfl | rfl | rfl<;>assumption),(by intro k hk;simp at hk;rcases (by omega:k=0∨k=1∨k=2) with rfl | rfl | rfl<;>assumption),xr.drew,(fun _=>by intro k hk;simp at hk;rcases (by omega:k=0∨k=1∨k=2) with rfl | rfl | rfl<;>assumption),nf,nf,nf,nf,nf,nf,nf,nf,nf,nf⟩
 · refine Steps.cons ?_ (Steps.cons ?_ (Steps.cons ?_ (Steps.cons ?_ (Steps.cons ?_ (Steps.cons ?_ (Steps.cons ?_ (Steps.cons ?_ (Steps.cons ?_ (Steps.cons ?_ (Steps.nil))))))))))
   all_goals (intro dd aa ww K hc hun hn hI hK;obtain ⟨y15,y16,y17,y18,y19,y20,y21,y22,y5,ea,hb,hsz,vg1,vg2,vg3,vg4,cx,cy,xr,pr,f0,f1,f2,f3,f4,f5,f6,f7,f8,f9⟩:=hI;subst ea;simp only [pu])
   · have e0:=cx 0 (by simp);simp only [lgZ,lgS] at e0;have e1:=cx 1 (by simp);simp only [lgZ,lgS] at e1;have e2:=cx 2 (by simp);simp only [lgZ,lgS] at e2;go_simp;exact hK.out _ _ ⟨_,_,_,_,_,_,_,_,_,by simp only [pu]<;>rfl,hb,hsz,vg1,vg2,vg3,vg4,cx,cy,xr,fun h=>(pr.out (upd_off h)),fun _=>rfl,uo f1,uo f2,uo f3,uo f4,uo f5,uo f6,uo f7,uo f8,uo f9⟩
   · go_simp;exact hK.out _ _ ⟨_,_,_,_,_,_,_,_,_,by simp only [pu]<;>rfl,hb,hsz,vg1,vg2,vg3,vg4,cx,cy,xr,fun h=>(pr.out (upd_off h)),uo f0,fun _=>rfl,uo f2,uo f3,uo f4,uo f5,uo f6,uo f7,uo f8,uo f9⟩
   · obtain rfl:=f1.out (hc.see hn);have e0:=cy 0 (by simp);simp only [lgZ,lgS] at e0;have e1:=cy 1 (by simp);simp only [lgZ,lgS] at e1;go_simp;exact hK.out _ _ ⟨_,_,_,_,_,_,_,_,_,by simp only [pu]<;>rfl,hb,hsz,vg1,vg2,vg3,vg4,cx,cy,xr,fun h=>(pr.out (upd_off h)),uo f0,fun h=>rfl,fun _=>rfl,uo f3,uo f4,uo f5,uo f6,uo f7,uo f8,uo f9⟩
   · obtain rfl:=f2.out (hc.see hn);go_simp
     with_reducible refine (sneg_c vg3 (by omega)).mono ?_
     rintro e w1 ⟨ahM,nhM,chM,rfl,hM,h1⟩;rw [E1.out] at hM ⊢;exact hK.out _ _ ⟨_,_,_,_,_,_,_,_,_,by simp only [pu]<;>rfl,bLt hb h1,nTr hsz h1.size,vg1.past h1,vg2.past h1,vg3.past h1,vg4.past h1,cx.past h1 (nLt lx hsz),cy.past h1 (nLt ly hsz),xr.past h1 (nLt lr hsz),fun h=>(pr.out (upd_off h)).past h1 (nLt lr hsz),uo f0,uo f1,fun h=>rfl,fun _=>⟨_,_,_,rfl,hM.mono hsz⟩,uo f4,uo f5,hc.a hun,fun h=>(f7.out (upd_of rfl h)).past h1,fun h=>(f8.out (upd_of rfl h)).past h1 (nLt lr hsz),uo f9⟩
   · go_simp;exact hK.out _ _ ⟨_,_,_,_,_,_,_,_,_,by simp only [pu]<;>rfl,hb,hsz,vg1,vg2,vg3,vg4,cx,cy,xr,fun h=>(pr.out (upd_off h)),uo f0,uo f1,uo f2,uo f3,fun _=>rfl,uo f5,uo f6,uo f7,uo f8,uo f9⟩
   · obtain rfl:=f4.out (hc.see hn);have e2:=cy 2 (by simp);simp only [lgZ,lgS] at e2;go_simp;exact hK.out _ _ ⟨_,_,_,_,_,_,_,_,_,by simp only [pu]<;>rfl,hb,hsz,vg1,vg2,vg3,vg4,cx,cy,xr,fun h=>(pr.out (upd_off h)),uo f0,uo f1,uo f2,uo f3,fun h=>rfl,fun _=>rfl,hc.a hun,uo f7,uo f8,uo f9⟩
   · obtain ⟨ahM,nhM,chM,ex,hM⟩:=f3.out (hc.see hn);subst ex;obtain rfl:=f5.out (hc.see hn);go_simp;exact hK.out _ _ ⟨_,_,_,_,_,_,_,_,_,by simp only [pu]<;>rfl,hb,hsz,vg1,vg2,vg3,vg4,cx,cy,xr,fun h=>(pr.out (upd_off h)),uo f0,uo f1,uo f2,uo f3,uo f4,fun h=>rfl,fun _=>rfl,uo f7,uo f8,uo f9⟩
   · obtain rfl:=f0.out (hc.see hn);obtain ⟨ahM,nhM,chM,ex,hM⟩:=f3.out (hc.see hn);subst ex;obtain rfl:=f5.out (hc.see hn);have ex:y21 = .agg #[.bool (neg m.num),.slice ahM nhM chM,.slice a4 n4 c4]:=f6.out (hc.see hn);subst ex;go_simp
     with_reducible refine (sum05_rat p m _ _ _ _ _ _ _ _ _ _ _ _ _ ⟨vg1,vg2⟩ ⟨hM.toNatAt,vg4⟩ LP.out LQ.out).mono ?_
     rintro e w1 ⟨ahAU,nhAU,chAU,ahAD,nhAD,chAD,rfl,hAU,hAD,h1⟩;rw [HR.out] at hAU hAD ⊢;exact hK.out _ _ ⟨_,_,_,_,_,_,_,_,_,by simp only [pu]<;>rfl,bLt hb h1,nTr hsz h1.size,vg1.past h1,vg2.past h1,vg3.past h1,vg4.past h1,cx.past h1 (nLt lx hsz),cy.past h1 (nLt ly hsz),xr.past h1 (nLt lr hsz),fun h=>(pr.out (upd_off h)).past h1 (nLt lr hsz),fun h=>rfl,uo f1,uo f2,fun h=>(f3.out (upd_of rfl h)).past h1,uo f4,fun h=>rfl,fun h=>rfl,fun _=>⟨_,_,_,_,_,_,rfl,hAU.mono hsz,hAD.mono hsz⟩,hc.a hun,uo f9⟩
   · obtain ⟨ahAU,nhAU,chAU,ahAD,nhAD,chAD,ex,hAU,hAD⟩:=f7.out (hc.see hn);subst ex;have x3:=xr;obtain ⟨v0,v1,v2,z0,z1,z2,z3,z4,z5,_,_,_⟩:=x3.three;have hv:∀ v ∈ ([.bool (neg (R).num),.slice ahAU nhAU chAU,.slice ahAD nhAD chAD]:List Value),notU v:=by simp [notU_bool,notU_slice,notU_i64]
     go_simp;exact hK.out _ _ ⟨_,_,_,_,_,_,_,_,_,by simp only [pu]<;>rfl,hb.trans (below_setCells _ _ (by omega) [.bool (neg (R).num),.slice ahAU nhAU chAU,.slice ahAD nhAD chAD] 0 _),(by simpa using hsz),NatAt.sets [.bool (neg (R).num),.slice ahAU nhAU chAU,.slice ahAD nhAD chAD] 0 _ vg1 x3 (by simp) hv,NatAt.sets [.bool (neg (R).num),.slice ahAU nhAU chAU,.slice ahAD nhAD chAD] 0 _ vg2 x3 (by simp) hv,NatAt.sets [.bool (neg (R).num),.slice ahAU nhAU chAU,.slice ahAD nhAD chAD] 0 _ vg3 x3 (by simp) hv,NatAt.sets [.bool (neg (R).num),.slice ahAU nhAU chAU,.slice ahAD nhAD chAD] 0 _ vg4 x3 (by simp) hv,Cells.sets (by omega) [.bool (neg (R).num),.slice ahAU nhAU chAU,.slice ahAD nhAD chAD] 0 _ cx,Cells.sets (by omega) [.bool (neg (R).num),.slice ahAU nhAU chAU,.slice ahAD nhAD chAD] 0 _ cy,BoxAt.sets [.bool (neg (R).num),.slice ahAU nhAU chAU,.slice ahAD nhAD chAD] _ 0 _ xr hv,fun h=>absurd h (by simp [upd]),uo f0,uo f1,uo f2,fun h=>((f3.out (upd_of rfl h)).setsOff lr [.bool (neg (R).num),.slice ahAU nhAU chAU,.slice ahAD nhAD chAD]),uo f4,uo f5,uo f6,fun h=>((f7.out (upd_of rfl h)).setsOff lr [.bool (neg (R).num),.slice ahAU nhAU chAU,.slice ahAD nhAD chAD]),fun _=>⟨[.bool (neg (R).num),.slice ahAU nhAU chAU,.slice ahAD nhAD chAD],rfl,Cells.new x3 [.bool (neg (R).num),.slice ahAU nhAU chAU,.slice ahAD nhAD chAD] (by simp)⟩,uo f9⟩
   go_simp;exact hK.out _ _ ⟨_,_,_,_,_,_,_,_,_,by simp only [pu]<;>rfl,hb,hsz,vg1,vg2,vg3,vg4,cx,cy,xr,fun h=>(pr.out (upd_off h)),uo f0,uo f1,uo f2,uo f3,uo f4,uo f5,uo f6,uo f7,uo f8,fun _=>rfl⟩
 intro dd aa w6 hd hI;obtain ⟨y15,y16,y17,y18,y19,y20,y21,y22,y5,ea,hb,hsz,vg1,vg2,vg3,vg4,cx,cy,xr,pr,f0,f1,f2,f3,f4,f5,f6,f7,f8,f9⟩:=hI;obtain rfl:=f0.out (hd 0 (by simp));obtain rfl:=f1.out (hd 1 (by simp));obtain rfl:=f2.out (hd 2 (by simp));obtain ⟨ahM,nhM,chM,ex,hM⟩:=f3.out (hd 3 (by simp));subst ex;obtain rfl:=f4.out (hd 4 (by simp));obtain rfl:=f5.out (hd 5 (by simp));have ex:y21 = .agg #[.bool (neg m.num),.slice ahM nhM chM,.slice a4 n4 c4]:=f6.out (hd 6 (by simp));subst ex;obtain ⟨ahAU,nhAU,chAU,ahAD,nhAD,chAD,ex,hAU,hAD⟩:=f7.out (hd 7 (by simp));subst ex;obtain ⟨vs8,e,h8⟩:=f8.out (hd 8 (by simp));cases e;obtain rfl:=f9.out (hd 9 (by simp));have lr:=nLt lr hsz;have qr0:=h8 0 (by simp);simp only [lgZ,lgS] at qr0;have qr1:=h8 1 (by simp);simp only [lgZ,lgS] at qr1;have qr2:=h8 2 (by simp);simp only [lgZ,lgS] at qr2;subst ea;simp only [pu];have hM:=hM.mono szW;have hAU:=hAU.mono szW;have hAD:=hAD.mono szW;have g1:=vg1;have g2:=vg2;have g3:=vg3;have g4:=vg4;have lx:=nLt lx hsz;have qx0:=cx 0 (by simp);simp only [lgZ,lgS] at qx0;have qx1:=cx 1 (by simp);simp only [lgZ,lgS] at qx1;have qx2:=cx 2 (by simp);simp only [lgZ,lgS] at qx2;clear cx;have ly:=nLt ly hsz;have qy0:=cy 0 (by simp);simp only [lgZ,lgS] at qy0;have qy1:=cy 1 (by simp);simp only [lgZ,lgS] at qy1
 have qy2:=cy 2 (by simp);simp only [lgZ,lgS] at qy2;clear cy;have hB:=hb;clear pr;clear hb hd
 go_wp2
 refine bodyPost_ret (v:=.tuple #[.agg #[.bool (neg (R).num),.slice ahAU nhAU chAU,.slice ahAD nhAD chAD],.int .i64 0]) ?_ rfl ⟨_,_,_,_,_,_,rfl,hAU,hAD,hB⟩;simp [results,Tryz.f56,go_sem,qr0,qr1,qr2]
theorem sub05_any (b1 b3:Bool) (a1:Option Addr) (n1 c1:Nat) (a2:Option Addr) (n2 c2:Nat) (a3:Option Addr) (n3 c3:Nat) (a4:Option Addr) (n4 c4:Nat) (l1 l2 l3 l4:List Nat) (w:World) (g1:NatAt w a1 n1 c1 l1) (g2:NatAt w a2 n2 c2 l2) (g3:NatAt w a3 n3 c3 l3) (g4:NatAt w a4 n4 c4 l4) (hs1:n1≤17179869184) (hs2:n2≤17179869184) (hs3:n3≤17179869184) (hs4:n4≤17179869184) :
 Calls Tryz.prog 56 #[.agg #[.bool (b1),.slice a1 n1 c1,.slice a2 n2 c2],.agg #[.bool (b3),.slice a3 n3 c3,.slice a4 n4 c4]] w (RetAns w (subA (b1,l1,l2) (b3,l3,l4))):=by
 by_cases h1:chkR b1 l1 l2=0
 · by_cases h2:chkR b3 l3 l4=0
   · obtain ⟨p,rfl,rfl,rfl⟩:=chkR_rat g1.dig g2.dig h1;obtain ⟨q,rfl,rfl,rfl⟩:=chkR_rat g3.dig g4.dig h2;have e:=subA_rat p q;unfold partsOf at e;rw [e];exact sub05_rat p q _ _ _ _ _ _ _ _ _ _ _ _ w g1 g2 g3 g4 hs1 hs2 hs3 hs4
   have e:subA (b1,l1,l2) (b3,l3,l4) = .error 6:=if_neg fun h=>h2 h.2
   rw [e];exact sub05_bad2 b1 b3 _ _ _ _ _ _ _ _ _ _ _ _ l1 l2 l3 l4 w g1 g2 g3 g4 hs1 hs2 hs3 hs4 h1 h2
 have e:subA (b1,l1,l2) (b3,l3,l4) = .error 6:=if_neg fun h=>h1 h.1
 rw [e];exact sub05_bad1 b1 b3 _ _ _ _ _ _ _ _ _ _ _ _ l1 l2 l3 l4 w g1 g2 g3 g4 hs1 hs2 hs3 hs4 h1
theorem div05_rat (p q:Rat) (a1:Option Addr) (n1 c1:Nat) (a2:Option Addr) (n2 c2:Nat) (a3:Option Addr) (n3 c3:Nat) (a4:Option Addr) (n4 c4:Nat) (w:World) (g1:NatAt w a1 n1 c1 (digs p.num.natAbs)) (g2:NatAt w a2 n2 c2 (digs p.den)) (g3:NatAt w a3 n3 c3 (digs q.num.natAbs)) (g4:NatAt w a4 n4 c4 (digs q.den)) (hs1:n1≤17179869184) (hs2:n2≤17179869184) (hs3:n3≤17179869184) (hs4:n4≤17179869184) (hq:q≠0):
 Calls Tryz.prog 257 #[.agg #[.bool (neg p.num),.slice a1 n1 c1,.slice a2 n2 c2],.agg #[.bool (neg q.num),.slice a3 n3 c3,.slice a4 n4 c4]] w (RetOk w (p/q)):=by
 have lp:rlen p≤17179869184:=by unfold rlen;have:=g1.len;have:=g2.len;omega
 have lq:rlen q≤17179869184:=by unfold rlen;have:=g3.len;have:=g4.len;omega
 have t3:((n3:Int) == 0)=false:=by rw [beq_eq_false_iff_ne];intro h0;exact hq (num_len0.1 (by have:=g3.len;omega))
 rw [Rat.div_def];obtain ⟨e1,e2,e5⟩:=inv_parts2 hq;have e3:=chkR_canon q;rw [← rlen_inv hq] at lq;obtain ⟨m,hm⟩:∃ m,q⁻¹=m:=⟨_,rfl⟩;rw [hm] at e1 e2 e5 lq ⊢;rw [e2] at g4 e3;rw [e5] at g3 e3;rw [e1] at e3 ⊢;obtain ⟨R,hR⟩:∃ R,p*m=R:=⟨_,rfl⟩;rw [hR];have HR:=hiD hR;have E3:=hiD e3;have E4:=hiD (chkR_canon p);have LP:=hiD lp;have LQ:=hiD lq;clear hR hm hq e1 e2 e3 e5 lp lq
 go_enter Tryz.func257,Tryz.ntmps257
 have hB:=bRf w.heap.size w
 go_wp2_with fail
 obtain ⟨w1,hW,hz0,hb,q,f,qx0,qx1,qx2⟩:=bx3 w (w.heap.size) (by omega) (.bool (neg p.num)) (.slice a1 n1 c1) (.slice a2 n2 c2) 28;rw [hW];clear hW;have g1:=g1.past hb;have g2:=g2.past hb;have g3:=g3.past hb;have g4:=g4.past hb;have hB:=bLt hB hb;clear hb;have lx:w.heap.size<w1.heap.size:=by omega
 clear q f;obtain ⟨w2,hW,hz1,hb,q,f,qy0,qy1,qy2⟩:=bx3 w1 (w.heap.size+1) (by omega) (.bool (neg m.num)) (.slice a3 n3 c3) (.slice a4 n4 c4) 28;rw [hW];clear hW;have g1:=g1.past hb;have g2:=g2.past hb;have g3:=g3.past hb;have g4:=g4.past hb;obtain ⟨qx0,qx1,qx2,lx⟩:=bq3 hb lx qx0 qx1 qx2;have hB:=bLt hB hb;clear hb;have ly:w.heap.size+1<w2.heap.size:=by omega
 clear q f;obtain ⟨w3,hW,hz2,hb,q,f,qr0,qr1,qr2⟩:=bx3 w2 (w.heap.size+1+1) (by omega) (.bool false) (.slice none 0 0) (.slice none 0 0) 28;rw [hW];clear hW;have g1:=g1.past hb;have g2:=g2.past hb;have g3:=g3.past hb;have g4:=g4.past hb;obtain ⟨qx0,qx1,qx2,lx⟩:=bq3 hb lx qx0 qx1 qx2;obtain ⟨qy0,qy1,qy2,ly⟩:=bq3 hb ly qy0 qy1 qy2;have hB:=bLt hB hb;clear hb;have lr:w.heap.size+1+1<w3.heap.size:=by omega
 have xr:BoxAt w3 (w.heap.size+1+1) 3:=BoxAt.of q f rfl (by simp [notU_bool,notU_slice,notU_i64]);clear q f;clear hz0;clear hz1;clear hz2
 with_reducible refine (check05_any _ _ _ _ (digs p.num.natAbs) _ _ _ (digs p.den) _ g1 g2 (by omega) (by omega)).mono ?_
 rintro e w4 ⟨rfl,hb⟩;have g1:=g1.past hb;have g2:=g2.past hb;have g3:=g3.past hb;have g4:=g4.past hb;obtain ⟨qx0,qx1,qx2,lx⟩:=bq3 hb lx qx0 qx1 qx2;obtain ⟨qy0,qy1,qy2,ly⟩:=bq3 hb ly qy0 qy1 qy2;have xr:=xr.past hb lr;obtain ⟨qr0,qr1,qr2,lr⟩:=bq3 hb lr qr0 qr1 qr2;have hB:=bLt hB hb;clear hb;rw [E4.out]
 go_wp2_with fail
 with_reducible refine (check05_any _ _ _ _ (digs m.den) _ _ _ (digs m.num.natAbs) _ g3 g4 (by omega) (by omega)).mono ?_
 rintro e w5 ⟨rfl,hb⟩;have g1:=g1.past hb;have g2:=g2.past hb;have g3:=g3.past hb;have g4:=g4.past hb;obtain ⟨qx0,qx1,qx2,lx⟩:=bq3 hb lx qx0 qx1 qx2;obtain ⟨qy0,qy1,qy2,ly⟩:=bq3 hb ly qy0 qy1 qy2;have xr:=xr.past hb lr;obtain ⟨qr0,qr1,qr2,lr⟩:=bq3 hb lr qr0 qr1 qr2;have hB:=bLt hB hb;clear hb;rw [E3.out]
 go_wp2_with fail
 have szW:=hB.size;refine wp_region_inv (by kernel_rfl) rfl (by kernel_rfl) (fun A0 V0 dd aa ww=>∃ (y23 y24 y25 y26 y5:Value),aa=puts A0 [(23,y23),(24,y24),(25,y25),(26,y26),(5,y5)]∧Below (w).heap.size (w) ww∧V0.heap.size≤ww.heap.size∧NatAt ww a1 n1 c1 (digs p.num.natAbs)∧NatAt ww a2 n2 c2 (digs p.den)∧NatAt ww a3 n3 c3 (digs m.den)∧NatAt ww a4 n4 c4 (digs m.num.natAbs)∧Cells ww (w.heap.size) [.bool (neg p.num),.slice a1 n1 c1,.slice a2 n2 c2]∧Cells ww (w.heap.size+1) [.bool (neg m.num),.slice a3 n3 c3,.slice a4 n4 c4]∧BoxAt ww (w.heap.size+1+1) 3∧Shut (dd 4=false→Cells ww (w.heap.size+1+1) [.bool false,.slice none 0 0,.slice none 0 0])∧Shut (dd 0=true→y23 = .agg #[.bool (neg p.num),.slice a1 n1 c1,.slice a2 n2 c2])∧Shut (dd 1=true→y24 = .agg #[.bool (neg m.num),.slice a3 n3 c3,.slice a4 n4 c4])∧Shut (dd 2=true→y25 = .agg #[.bool (neg m.num),.slice a4 n4 c4,.slice a3 n3 c3])∧Shut (dd 3=true→RatV V0.heap.size (R) y26 ww)∧Shut (dd 4=true→CellsV (w.heap.size+1+1) y26 ww)∧Shut (dd 5=true→y5 = .int .i64 0)) ?_ ?_ ?_
 · exact ⟨_,_,_,_,_,puts_self _ [23,24,25,26,5],hB.drew,nRf _,g1.drew,g2.drew,g3.drew,g4.drew,(by intro k hk;simp at hk;rcases (by omega:k=0∨k=1∨k=2) with rfl | rfl | rfl<;>assumption),(by intro k hk;simp at hk;rcases (by omega:k=0∨k=1∨k=2) with rfl | rfl | rfl<;>assumption),xr.drew,(fun _=>by intro k hk;simp at hk;rcases (by omega:k=0∨k=1∨k=2) with rfl | rfl | rfl<;>assumption),nf,nf,nf,nf,nf,nf⟩
 · refine Steps.cons ?_ (Steps.cons ?_ (Steps.cons ?_ (Steps.cons ?_ (Steps.cons ?_ (Steps.cons ?_ (Steps.nil))))))
   all_goals (intro dd aa ww K hc hun hn hI hK;obtain ⟨y23,y24,y25,y26,y5,ea,hb,hsz,vg1,vg2,vg3,vg4,cx,cy,xr,pr,f0,f1,f2,f3,f4,f5⟩:=hI;subst ea;simp only [pu])
   · have e0:=cx 0 (by simp);simp only [lgZ,lgS] at e0;have e1:=cx 1 (by simp);simp only [lgZ,lgS] at e1;have e2:=cx 2 (by simp);simp only [lgZ,lgS] at e2;go_simp;exact hK.out _ _ ⟨_,_,_,_,_,by simp only [pu]<;>rfl,hb,hsz,vg1,vg2,vg3,vg4,cx,cy,xr,fun h=>(pr.out (upd_off h)),fun _=>rfl,uo f1,uo f2,uo f3,uo f4,uo f5⟩
   · have e0:=cy 0 (by simp);simp only [lgZ,lgS] at e0;have e1:=cy 1 (by simp);simp only [lgZ,lgS] at e1;have e2:=cy 2 (by simp);simp only [lgZ,lgS] at e2;go_simp;exact hK.out _ _ ⟨_,_,_,_,_,by simp only [pu]<;>rfl,hb,hsz,vg1,vg2,vg3,vg4,cx,cy,xr,fun h=>(pr.out (upd_off h)),uo f0,fun _=>rfl,uo f2,uo f3,uo f4,uo f5⟩
   · obtain rfl:=f1.out (hc.see hn);go_simp
     with_reducible refine (over_any _ _ _ _ _ _ _ _).mono ?_
     rintro e w1 ⟨rfl,h1⟩;exact hK.out _ _ ⟨_,_,_,_,_,by simp only [pu]<;>rfl,bLt hb h1,nTr hsz h1.size,vg1.past h1,vg2.past h1,vg3.past h1,vg4.past h1,cx.past h1 (nLt lx hsz),cy.past h1 (nLt ly hsz),xr.past h1 (nLt lr hsz),fun h=>(pr.out (upd_off h)).past h1 (nLt lr hsz),uo f0,fun h=>rfl,fun _=>rfl,fun h=>(f3.out (upd_of rfl h)).past h1,fun h=>(f4.out (upd_of rfl h)).past h1 (nLt lr hsz),uo f5⟩
   · obtain rfl:=f0.out (hc.see hn);obtain rfl:=f2.out (hc.see hn);go_simp
     with_reducible refine (product05_rat p m _ _ _ _ _ _ _ _ _ _ _ _ _ ⟨vg1,vg2⟩ ⟨vg4,vg3⟩ LP.out LQ.out).mono ?_
     rintro e w1 ⟨ahAU,nhAU,chAU,ahAD,nhAD,chAD,rfl,hAU,hAD,h1⟩;rw [HR.out] at hAU hAD ⊢;exact hK.out _ _ ⟨_,_,_,_,_,by simp only [pu]<;>rfl,bLt hb h1,nTr hsz h1.size,vg1.past h1,vg2.past h1,vg3.past h1,vg4.past h1,cx.past h1 (nLt lx hsz),cy.past h1 (nLt ly hsz),xr.past h1 (nLt lr hsz),fun h=>(pr.out (upd_off h)).past h1 (nLt lr hsz),fun h=>rfl,uo f1,fun h=>rfl,fun _=>⟨_,_,_,_,_,_,rfl,hAU.mono hsz,hAD.mono hsz⟩,hc.a hun,uo f5⟩
   · obtain ⟨ahAU,nhAU,chAU,ahAD,nhAD,chAD,ex,hAU,hAD⟩:=f3.out (hc.see hn);subst ex;have x3:=xr;obtain ⟨v0,v1,v2,z0,z1,z2,z3,z4,z5,_,_,_⟩:=x3.three;have hv:∀ v ∈ ([.bool (neg (R).num),.slice ahAU nhAU chAU,.slice ahAD nhAD chAD]:List Value),notU v:=by simp [notU_bool,notU_slice,notU_i64]
     go_simp;exact hK.out _ _ ⟨_,_,_,_,_,by simp only [pu]<;>rfl,hb.trans (below_setCells _ _ (by omega) [.bool (neg (R).num),.slice ahAU nhAU chAU,.slice ahAD nhAD chAD] 0 _),(by simpa using hsz),NatAt.sets [.bool (neg (R).num),.slice ahAU nhAU chAU,.slice ahAD nhAD chAD] 0 _ vg1 x3 (by simp) hv,NatAt.sets [.bool (neg (R).num),.slice ahAU nhAU chAU,.slice ahAD nhAD chAD] 0 _ vg2 x3 (by simp) hv,NatAt.sets [.bool (neg (R).num),.slice ahAU nhAU chAU,.slice ahAD nhAD chAD] 0 _ vg3 x3 (by simp) hv,NatAt.sets [.bool (neg (R).num),.slice ahAU nhAU chAU,.slice ahAD nhAD chAD] 0 _ vg4 x3 (by simp) hv,Cells.sets (by omega) [.bool (neg (R).num),.slice ahAU nhAU chAU,.slice ahAD nhAD chAD] 0 _ cx,Cells.sets (by omega) [.bool (neg (R).num),.slice ahAU nhAU chAU,.slice ahAD nhAD chAD] 0 _ cy,BoxAt.sets [.bool (neg (R).num),.slice ahAU nhAU chAU,.slice ahAD nhAD chAD] _ 0 _ xr hv,fun h=>absurd h (by simp [upd]),uo f0,uo f1,uo f2,fun h=>((f3.out (upd_of rfl h)).setsOff lr [.bool (neg (R).num),.slice ahAU nhAU chAU,.slice ahAD nhAD chAD]),fun _=>⟨[.bool (neg (R).num),.slice ahAU nhAU chAU,.slice ahAD nhAD chAD],rfl,Cells.new x3 [.bool (neg (R).num),.slice ahAU nhAU chAU,.slice ahAD nhAD chAD] (by simp)⟩,uo f5⟩
   go_simp;exact hK.out _ _ ⟨_,_,_,_,_,by simp only [pu]<;>rfl,hb,hsz,vg1,vg2,vg3,vg4,cx,cy,xr,fun h=>(pr.out (upd_off h)),uo f0,uo f1,uo f2,uo f3,uo f4,fun _=>rfl⟩
 intro dd aa w6 hd hI;obtain ⟨y23,y24,y25,y26,y5,ea,hb,hsz,vg1,vg2,vg3,vg4,cx,cy,xr,pr,f0,f1,f2,f3,f4,f5⟩:=hI;obtain rfl:=f0.out (hd 0 (by simp));obtain rfl:=f1.out (hd 1 (by simp));obtain rfl:=f2.out (hd 2 (by simp));obtain ⟨ahAU,nhAU,chAU,ahAD,nhAD,chAD,ex,hAU,hAD⟩:=f3.out (hd 3 (by simp));subst ex;obtain ⟨vs4,e,h4⟩:=f4.out (hd 4 (by simp));cases e;obtain rfl:=f5.out (hd 5 (by simp));have lr:=nLt lr hsz;have qr0:=h4 0 (by simp);simp only [lgZ,lgS] at qr0;have qr1:=h4 1 (by simp);simp only [lgZ,lgS] at qr1;have qr2:=h4 2 (by simp);simp only [lgZ,lgS] at qr2;subst ea;simp only [pu];have hAU:=hAU.mono szW;have hAD:=hAD.mono szW;have g1:=vg1;have g2:=vg2;have g3:=vg3;have g4:=vg4;have lx:=nLt lx hsz;have qx0:=cx 0 (by simp);simp only [lgZ,lgS] at qx0;have qx1:=cx 1 (by simp);simp only [lgZ,lgS] at qx1;have qx2:=cx 2 (by simp);simp only [lgZ,lgS] at qx2;clear cx;have ly:=nLt ly hsz;have qy0:=cy 0 (by simp);simp only [lgZ,lgS] at qy0;have qy1:=cy 1 (by simp);simp only [lgZ,lgS] at qy1;have qy2:=cy 2 (by simp);simp only [lgZ,lgS] at qy2;clear cy;have hB:=hb;clear pr;clear hb hd
 go_wp2
 refine bodyPost_ret (v:=.tuple #[.agg #[.bool (neg (R).num),.slice ahAU nhAU chAU,.slice ahAD nhAD chAD],.int .i64 0]) ?_ rfl ⟨_,_,_,_,_,_,rfl,hAU,hAD,hB⟩;simp [results,Tryz.f257,go_sem,qr0,qr1,qr2]
theorem cmp05_any (b1 b3:Bool) (a1:Option Addr) (n1 c1:Nat) (a2:Option Addr) (n2 c2:Nat) (a3:Option Addr) (n3 c3:Nat) (a4:Option Addr) (n4 c4:Nat) (l1 l2 l3 l4:List Nat) (w:World) (g1:NatAt w a1 n1 c1 l1) (g2:NatAt w a2 n2 c2 l2) (g3:NatAt w a3 n3 c3 l3) (g4:NatAt w a4 n4 c4 l4) (hs1:n1≤17179869184) (hs2:n2≤17179869184) (hs3:n3≤17179869184) (hs4:n4≤17179869184) :
 Calls Tryz.prog 119 #[.agg #[.bool (b1),.slice a1 n1 c1,.slice a2 n2 c2],.agg #[.bool (b3),.slice a3 n3 c3,.slice a4 n4 c4]] w (RetVal w (.tuple #[.int .i64 (subA (b1,l1,l2) (b3,l3,l4)).up.sign,.int .i64 (subA (b1,l1,l2) (b3,l3,l4)).why])):=by
 obtain ⟨r,hr⟩:∃ r,subA (b1,l1,l2) (b3,l3,l4)=r:=⟨_,rfl⟩;rw [hr]
 have hl:(digs r.up.natAbs).length≤1099511627776:=by
  rw [← hr];unfold subA
  split
  · rename_i h;obtain ⟨p,rfl,rfl,rfl⟩:=chkR_rat g1.dig g2.dig h.1;obtain ⟨q,rfl,rfl,rfl⟩:=chkR_rat g3.dig g4.dig h.2;have e1:ratOf (neg p.num,digs p.num.natAbs,digs p.den)=p:=ratOf_parts p;have e2:ratOf (neg q.num,digs q.num.natAbs,digs q.den)=q:=ratOf_parts q;rw [e1,e2];have:rlen (p + -q)≤rlen p+rlen (-q)+1:=sum_short p (-q);rw [rlen_neg,show p + -q=p-q from (Rat.sub_eq_add_neg p q).symm] at this;have f1:=g1.len;have f2:=g2.len;have f3:=g3.len;have f4:=g4.len;show (digs (p-q).num.natAbs).length≤_;unfold rlen at this;omega
  exact Nat.zero_le _
 have HR:=hiD hr;have HL:=hiD hl;clear hr hl
 go_enter Tryz.func119,Tryz.ntmps119
 have hB:=bRf w.heap.size w
 go_wp2_with fail
 obtain ⟨w1,hW,hz0,hb,q,f,qx0,qx1,qx2⟩:=bx3 w (w.heap.size) (by omega) (.bool (b1)) (.slice a1 n1 c1) (.slice a2 n2 c2) 28;rw [hW];clear hW;have g1:=g1.past hb;have g2:=g2.past hb;have g3:=g3.past hb;have g4:=g4.past hb;have hB:=bLt hB hb;clear hb;have lx:w.heap.size<w1.heap.size:=by omega
 clear q f;obtain ⟨w2,hW,hz1,hb,q,f,qy0,qy1,qy2⟩:=bx3 w1 (w.heap.size+1) (by omega) (.bool (b3)) (.slice a3 n3 c3) (.slice a4 n4 c4) 28;rw [hW];clear hW;have g1:=g1.past hb;have g2:=g2.past hb;have g3:=g3.past hb;have g4:=g4.past hb;obtain ⟨qx0,qx1,qx2,lx⟩:=bq3 hb lx qx0 qx1 qx2;have hB:=bLt hB hb;clear hb;have ly:w.heap.size+1<w2.heap.size:=by omega
 clear q f;clear hz0;clear hz1
 with_reducible refine (sub05_any b1 b3 _ _ _ _ _ _ _ _ _ _ _ _ l1 l2 l3 l4 _ g1 g2 g3 g4 hs1 hs2 hs3 hs4).mono ?_
 rintro e w3 ⟨ahAU,nhAU,chAU,ahAD,nhAD,chAD,rfl,hAU,hAD,hb⟩;obtain ⟨qx0,qx1,qx2,lx⟩:=bq3 hb lx qx0 qx1 qx2;obtain ⟨qy0,qy1,qy2,ly⟩:=bq3 hb ly qy0 qy1 qy2;have hB:=bLt hB hb;clear hb;rw [HR.out] at hAU hAD ⊢
 go_wp2_with fail
 obtain ⟨w4,hW,hz0,hb,q,f,qr0,qr1,qr2⟩:=bx3 w3 (w3.heap.size) (by omega) (.bool (neg (Ans.up (r)))) (.slice ahAU nhAU chAU) (.slice ahAD nhAD chAD) 28;rw [hW];clear hW;have hAU:=hAU.past hb;obtain ⟨qx0,qx1,qx2,lx⟩:=bq3 hb lx qx0 qx1 qx2;obtain ⟨qy0,qy1,qy2,ly⟩:=bq3 hb ly qy0 qy1 qy2;have hB:=bLt hB hb;clear hb;have lr:w3.heap.size<w4.heap.size:=by omega
 clear q f;clear hz0
 with_reducible refine (sign_c hAU.toNatAt (by rw [← hAU.len];exact HL.out)).mono ?_
 rintro e w5 ⟨rfl,hb⟩;obtain ⟨qx0,qx1,qx2,lx⟩:=bq3 hb lx qx0 qx1 qx2;obtain ⟨qy0,qy1,qy2,ly⟩:=bq3 hb ly qy0 qy1 qy2;obtain ⟨qr0,qr1,qr2,lr⟩:=bq3 hb lr qr0 qr1 qr2;have hB:=bLt hB hb;clear hb
 go_wp2
 go_ret2
 exact ⟨rfl,hB⟩
end
section
open Go.RowKit
theorem cmp_rat {p q:Rat} {a1:Option Addr} {n1 c1:Nat} {a2:Option Addr} {n2 c2:Nat} {a3:Option Addr} {n3 c3:Nat} {a4:Option Addr} {n4 c4:Nat} {w:World} (g1:NatAt w a1 n1 c1 (digs p.num.natAbs)) (g2:NatAt w a2 n2 c2 (digs p.den)) (g3:NatAt w a3 n3 c3 (digs q.num.natAbs)) (g4:NatAt w a4 n4 c4 (digs q.den)) (hp:rlen p≤1048576) (hq:rlen q≤1048576) :
 Calls Tryz.prog 119 #[.agg #[.bool (neg p.num),.slice a1 n1 c1,.slice a2 n2 c2],.agg #[.bool (neg q.num),.slice a3 n3 c3,.slice a4 n4 c4]] w (RetVal w (.tuple #[.int .i64 (p-q).num.sign,.int .i64 0])):=by
 unfold rlen at hp hq;have h:=cmp05_any (neg p.num) (neg q.num) a1 n1 c1 a2 n2 c2 a3 n3 c3 a4 n4 c4 _ _ _ _ w g1 g2 g3 g4 (by have:=g1.len;omega) (by have:=g2.len;omega) (by have:=g3.len;omega) (by have:=g4.len;omega);have e:=subA_rat p q;unfold partsOf at e;rw [e] at h;exact h
end
end Go.Proofs.YtkhcblihbalnbaaGreatDoor
