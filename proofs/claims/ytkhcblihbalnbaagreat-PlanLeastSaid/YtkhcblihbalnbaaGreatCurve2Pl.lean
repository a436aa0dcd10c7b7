import Derived.Test.YtkhcblihbalnbaaGreatS0Pl
import Derived.Test.YtkhcblihbalnbaaGreatStuck1Pl
import Derived.Test.YtkhcblihbalnbaaGreatRatio10Pl
import Derived.Test.YtkhcblihbalnbaaGreatPlan1Pl
set_option linter.unusedVariables false
set_option linter.unusedSimpArgs false
set_option maxHeartbeats 16000000
set_option maxRecDepth 100000
namespace Go.Proofs.YtkhcblihbalnbaaGreat
section
open Go.RowKit Go.Shelf
attribute [local go_sem] Oper.semAt_some
theorem sign_pos {p:Rat} (h:0<p):p.num.sign=1:=by
 have h1:0≤p.num:=Rat.num_nonneg.2 (Rat.le_of_lt h);have h2:p.num≠0:=fun e=>(Rat.ne_of_gt h) (Rat.num_eq_zero.1 e)
 exact Int.sign_eq_one_of_pos (by omega)
theorem sign_gt {p q:Rat} (h:q<p):(p-q).num.sign=1:=sign_pos (by grind)
theorem check_rat {p:Rat} {a1:Option Addr} {n1 c1:Nat} {a2:Option Addr} {n2 c2:Nat} {w:World} (g1:NatAt w a1 n1 c1 (digs p.num.natAbs)) (g2:NatAt w a2 n2 c2 (digs p.den)) (h1:n1≤1048576) (h2:n2≤1048576) :
 Calls Tryz.prog 72 #[.agg #[.bool (neg p.num),.slice a1 n1 c1,.slice a2 n2 c2]] w (RetVal w (.int .i64 0)):=by
 have h:=check05_any (neg p.num) a1 n1 c1 _ a2 n2 c2 _ w g1 g2 (by omega) (by omega);rw [chkR_canon p] at h;exact h
theorem sign_lt {p q:Rat} (h:p<q):(p-q).num.sign = -1:=by
 have e:p-q = -(q-p):=by grind
 rw [e,Rat.neg_num,Int.sign_neg,sign_gt h]
theorem sign_le {p q:Rat} (h:p≤q):(p-q).num.sign≤0:=by
 have e:p-q = -(q-p):=by grind
 have h1:0≤(q-p).num.sign:=Int.sign_nonneg_iff.2 (Rat.num_nonneg.2 (by grind));rw [e,Rat.neg_num,Int.sign_neg];omega
theorem box_set3 {w:World} {b:Nat} (x:BoxAt w b 3) (v0 v1 v2:Value) (h0:notU v0) (h1:notU v1) (h2:notU v2) :
 ∃ w',((w.setCell ⟨b,0,none⟩ v0).setCell ⟨b,1,none⟩ v1).setCell ⟨b,2,none⟩ v2=w'∧w'.cell? ⟨b,0,none⟩=some v0∧w'.cell? ⟨b,1,none⟩=some v1∧w'.cell? ⟨b,2,none⟩=some v2∧BoxAt w' b 3∧Moves (fun k=>k=b) w w':=by
 have hu:∀ v ∈ [v0,v1,v2],notU v:=by
  intro v hv;simp only [List.mem_cons,List.not_mem_nil,or_false] at hv;rcases hv with rfl | rfl | rfl<;>assumption
 have hm:=Moves.sets [v0,v1,v2] 0 w x (by simp) hu
 have hin:=World.cell?_setCells_in b [v0,v1,v2] 0 w (fun j hj=>by
  simp only [List.length_cons,List.length_nil] at hj;obtain ⟨v,hv,_⟩:=x.c (0+j) (by omega);rw [hv];rfl)
 exact ⟨w.setCells b 0 [v0,v1,v2],rfl,hin 0 (by simp),hin 1 (by simp),hin 2 (by simp),BoxAt.sets _ _ _ _ x hu,hm⟩
theorem box_set1 {w:World} {b:Nat} (x:BoxAt w b 1) (v:Value) (h:notU v):∃ w',w.setCell ⟨b,0,none⟩ v=w'∧w'.cell? ⟨b,0,none⟩=some v∧BoxAt w' b 1∧Moves (fun k=>k=b) w w':=by
 obtain ⟨v0,c0,u0⟩:=x.c 0 (by decide);exact ⟨_,rfl,World.cell?_setCell_same _ _ _ c0,x.set _ v h,Moves.set c0 u0 v⟩
structure LstI (w0:World) (b6 b8 b9 be:Nat) (eps:Rat) (W:World):Prop where
 q6:RatC W b6 eps
 x8:BoxAt W b8 1
 x9:BoxAt W b9 3
 xe:BoxAt W be 1
 bw:Below w0.heap.size w0 W
structure LstK (w0:World) (b8 b9 be N:Nat) (q:Rat) (W:World):Prop where
 r8:W.cell? ⟨b8,0,none⟩=some (.int .i64 (N:Int))
 r9:RatC W b9 q
 re:W.cell? ⟨be,0,none⟩=some (.int .i64 0)
 bw:Below w0.heap.size w0 W
section
variable {w0 W W':World} {b6 b8 b9 be N:Nat} {eps q:Rat}
theorem LstI.stays (h:LstI w0 b6 b8 b9 be eps W) (hs:Stays (fun _=>False) W W') (hb:Below w0.heap.size w0 W'):LstI w0 b6 b8 b9 be eps W':=⟨h.q6.stays hs id,hs.box id h.x8,hs.box id h.x9,hs.box id h.xe,hb⟩
theorem LstI.past (h:LstI w0 b6 b8 b9 be eps W) (hb:Below W.heap.size W W'):LstI w0 b6 b8 b9 be eps W':=h.stays (.ofBelow hb) (bLt h.bw hb)
theorem LstI.turn {l:Nat} {o:Obj} (o':Obj) (h:LstI w0 b6 b8 b9 be eps W) (hl:W.heap[l]? = some o) (ho:o.isCells=false) (hB:w0.heap.size≤l):LstI w0 b6 b8 b9 be eps (W.putObj l o'):=h.stays (.turn o' hl ho) (h.bw.trans (below_put o' hB))
theorem LstK.stays (h:LstK w0 b8 b9 be N q W) (hs:Stays (fun _=>False) W W') (hb:Below w0.heap.size w0 W'):LstK w0 b8 b9 be N q W':=⟨hs.cell id h.r8,h.r9.stays hs id,hs.cell id h.re,hb⟩
theorem LstK.past (h:LstK w0 b8 b9 be N q W) (hb:Below W.heap.size W W'):LstK w0 b8 b9 be N q W':=h.stays (.ofBelow hb) (bLt h.bw hb)
theorem LstK.turn {l:Nat} {o:Obj} (o':Obj) (h:LstK w0 b8 b9 be N q W) (hl:W.heap[l]? = some o) (ho:o.isCells=false) (hB:w0.heap.size≤l):LstK w0 b8 b9 be N q (W.putObj l o'):=h.stays (.turn o' hl ho) (h.bw.trans (below_put o' hB))
end
def RetLst (w:World) (N:Nat) (q:Rat) (e:Ending) (w':World):Prop :=
 ∃ a n c a2 n2 c2,e = .returned (.tuple #[.int .i64 (N:Int),.agg #[.bool (neg q.num),.slice a n c,.slice a2 n2 c2],.int .i64 0])∧NatAt w' a n c (digs q.num.natAbs)∧NatAt w' a2 n2 c2 (digs q.den)∧Below w.heap.size w w'
theorem least_any (a:Option Addr) (l c:Nat) (zs:List Int) (k N:Nat) (eps:Rat) (a1:Option Addr) (n1 c1:Nat) (a2:Option Addr) (n2 c2:Nat) (w:World) (g:IntsAt w a l c zs) (d1:NatAt w a1 n1 c1 (digs eps.num.natAbs)) (d2:NatAt w a2 n2 c2 (digs eps.den)) (hok:okT zs (k:Int)) (hk1:1≤k) (hk:k≤2) (hN:N≤3)
 (h0:0<eps) (h1:eps<1) (he:rlen eps≤1048576) (hlow:∀ i,i<N→eps<failR zs k i) (hup:failR zs k N≤eps) (hF:∀ i,i≤N→rlen (failR zs k i)≤1048576) :
 Calls Tryz.prog 39 #[.slice a l c,.int .i64 (k:Int),.agg #[.bool (neg eps.num),.slice a1 n1 c1,.slice a2 n2 c2],.int .i64 4096] w (RetLst w N (failR zs k N)):=by
 have HREF:=hiD (fun (w:World) (g:IntsAt w a l c zs)=>cur_ref_ok a l c zs (k:Int) 4096 w g (by omega) (by omega) (by omega) (by omega) hok);have hn1:n1≤1048576:=by have:=d1.len;unfold rlen at he;omega
 have hn2:n2≤1048576:=by have:=d2.len;unfold rlen at he;omega
 obtain ⟨O,hO0⟩:∃ O:Rat,(1:Rat)=O:=⟨_,rfl⟩;have HPR:=hiD (fun w:World=>hO0 ▸ pair_ok (x:=1) (y:=1) (q:=1) (by decide) (by decide) w (by decide) (by decide));have hs1:(eps-O).num.sign = -1:=by rw [← hO0];exact sign_lt h1
 have HS1:=hiD hs1;have HS2:=hiD (sign_pos h0);have HLE:=hiD he;have HLO:=hiD (show rlen O≤1048576 by rw [← hO0];decide);have HPT:=hiD (fun (bE bT bK:Nat)=>points1_hands bE bT bK a l c zs k (N+1) 4097 hok hk1 hk (by omega) (by omega));have HLOW:=hiD hlow;have HUP:=hiD hup;have HFL:=hiD hF;have g0:=g;have hl1:1≤l:=by have:=hok.2.2.1;have:=g.len;omega
 clear hok hs1 he hlow hup h0 h1 hO0 hF;refine (callsIn_wide (n:=5)).1 ?_;refine callsIn_of_wp_marks Tryz.func39 rfl trivial ?_ rfl;simp only [Tryz.ntmps39,List.size_toArray,List.length_cons,List.length_nil,Nat.reduceAdd,Nat.reduceSub,Array.replicate_succ,Array.replicate_zero,List.push_toArray,List.append_toArray,List.nil_append,List.cons_append];refine wpIn_wide.2 ?_;have hB:=bRf w.heap.size w
 go_wp2_with fail
 obtain ⟨w1,hW,hz0,hb,q,f⟩:=box1g w (w.heap.size) (by omega) #[.bool (neg eps.num),.slice a1 n1 c1,.slice a2 n2 c2] 28;rw [hW];clear hW;have g:=g.past hb;have d1:=d1.past hb;have d2:=d2.past hb;have hB:=bLt hB hb;clear hb;have le:w.heap.size<w1.heap.size:=by omega
 have qe0:=q 0;have qe1:=q 1;have qe2:=q 2;simp only [lgA,lgZ,lgS] at qe0 qe1 qe2;clear q f;obtain ⟨w2,hW,hz1,hb,q,f⟩:=box1g w1 (w.heap.size+1) (by omega) #[.int .i64 0] 3;rw [hW];clear hW;have g:=g.past hb;have d1:=d1.past hb;have d2:=d2.past hb;obtain ⟨qe0,qe1,qe2,le⟩:=bq3 hb le qe0 qe1 qe2;have hB:=bLt hB hb;clear hb;have ln:w.heap.size+1<w2.heap.size:=by omega
 have qn0:=q 0;simp only [lgA,lgZ,lgS] at qn0;have xn:BoxAt w2 (w.heap.size+1) 1:=BoxAt.of q f rfl (by simp [notU_bool,notU_slice,notU_i64]);clear q f;obtain ⟨w3,hW,hz2,hb,q,f⟩:=box1g w2 (w.heap.size+1+1) (by omega) #[.bool false,.slice none 0 0,.slice none 0 0] 28;rw [hW];clear hW;have g:=g.past hb;have d1:=d1.past hb;have d2:=d2.past hb;obtain ⟨qe0,qe1,qe2,le⟩:=bq3 hb le qe0 qe1 qe2;have qn0:=bq hb ln qn0;have xn:=xn.past hb ln;have ln:=bl hb ln;have hB:=bLt hB hb;clear hb;have lr:w.heap.size+1+1<w3.heap.size:=by omega
 have qr0:=q 0;have qr1:=q 1;have qr2:=q 2;simp only [lgA,lgZ,lgS] at qr0 qr1 qr2;have xr:BoxAt w3 (w.heap.size+1+1) 3:=BoxAt.of q f rfl (by simp [notU_bool,notU_slice,notU_i64]);clear q f;obtain ⟨w4,hW,hz3,hb,q,f⟩:=box1g w3 (w.heap.size+1+1+1) (by omega) #[.int .i64 0] 35;rw [hW];clear hW;have g:=g.past hb;have d1:=d1.past hb;have d2:=d2.past hb;obtain ⟨qe0,qe1,qe2,le⟩:=bq3 hb le qe0 qe1 qe2;have qn0:=bq hb ln qn0;have xn:=xn.past hb ln;have ln:=bl hb ln;have xr:=xr.past hb lr;obtain ⟨qr0,qr1,qr2,lr⟩:=bq3 hb lr qr0 qr1 qr2;have hB:=bLt hB hb;clear hb;have lx:w.heap.size+1+1+1<w4.heap.size:=by omega
 have qx0:=q 0;simp only [lgA,lgZ,lgS] at qx0;have xx:BoxAt w4 (w.heap.size+1+1+1) 1:=BoxAt.of q f rfl (by simp [notU_bool,notU_slice,notU_i64]);clear q f;clear hz0;clear hz1;clear hz2;clear hz3
 with_reducible refine (HREF.out _ g).mono ?_
 rintro e w5 ⟨rfl,hb⟩;have g:=g.past hb;have d1:=d1.past hb;have d2:=d2.past hb;obtain ⟨qe0,qe1,qe2,le⟩:=bq3 hb le qe0 qe1 qe2;have qn0:=bq hb ln qn0;have xn:=xn.past hb ln;have ln:=bl hb ln;have xr:=xr.past hb lr;obtain ⟨qr0,qr1,qr2,lr⟩:=bq3 hb lr qr0 qr1 qr2;have qx0:=bq hb lx qx0;have xx:=xx.past hb lx;have lx:=bl hb lx;have hB:=bLt hB hb;clear hb
 go_wp2_with fail
 with_reducible refine (check_rat d1 d2 (by omega) (by omega)).mono ?_
 rintro e w6 ⟨rfl,hb⟩;have g:=g.past hb;have d1:=d1.past hb;have d2:=d2.past hb;obtain ⟨qe0,qe1,qe2,le⟩:=bq3 hb le qe0 qe1 qe2;have qn0:=bq hb ln qn0;have xn:=xn.past hb ln;have ln:=bl hb ln;have xr:=xr.past hb lr;obtain ⟨qr0,qr1,qr2,lr⟩:=bq3 hb lr qr0 qr1 qr2;have qx0:=bq hb lx qx0;have xx:=xx.past hb lx;have lx:=bl hb lx;have hB:=bLt hB hb;clear hb
 go_wp2_with fail
 with_reducible refine (HPR.out _).mono ?_
 rintro e w7 ⟨ahOU,nhOU,chOU,ahOD,nhOD,chOD,rfl,hOU,hOD,hb⟩;have g:=g.past hb;have d1:=d1.past hb;have d2:=d2.past hb;obtain ⟨qe0,qe1,qe2,le⟩:=bq3 hb le qe0 qe1 qe2;have qn0:=bq hb ln qn0;have xn:=xn.past hb ln;have ln:=bl hb ln;have xr:=xr.past hb lr;obtain ⟨qr0,qr1,qr2,lr⟩:=bq3 hb lr qr0 qr1 qr2;have qx0:=bq hb lx qx0;have xx:=xx.past hb lx;have lx:=bl hb lx;have hB:=bLt hB hb;clear hb
 go_wp2_with fail
 obtain ⟨w8,hW,hz0,hb,q,f⟩:=box1g w7 (w7.heap.size) (by omega) #[.bool (neg (O).num),.slice ahOU nhOU chOU,.slice ahOD nhOD chOD] 28;rw [hW];clear hW;have g:=g.past hb;have d1:=d1.past hb;have d2:=d2.past hb;have hOU:=hOU.past hb;have hOD:=hOD.past hb;obtain ⟨qe0,qe1,qe2,le⟩:=bq3 hb le qe0 qe1 qe2;have qn0:=bq hb ln qn0;have xn:=xn.past hb ln;have ln:=bl hb ln;have xr:=xr.past hb lr;obtain ⟨qr0,qr1,qr2,lr⟩:=bq3 hb lr qr0 qr1 qr2;have qx0:=bq hb lx qx0;have xx:=xx.past hb lx;have lx:=bl hb lx;have hB:=bLt hB hb;clear hb;have lo:w7.heap.size<w8.heap.size:=by omega
 have qo0:=q 0;have qo1:=q 1;have qo2:=q 2;simp only [lgA,lgZ,lgS] at qo0 qo1 qo2;clear q f;clear hz0
 with_reducible refine (cmp_rat d1 d2 hOU.toNatAt hOD.toNatAt HLE.out HLO.out).mono ?_
 rintro e w9 ⟨rfl,hb⟩;have g:=g.past hb;have d1:=d1.past hb;have d2:=d2.past hb;obtain ⟨qe0,qe1,qe2,le⟩:=bq3 hb le qe0 qe1 qe2;have qn0:=bq hb ln qn0;have xn:=xn.past hb ln;have ln:=bl hb ln;have xr:=xr.past hb lr;obtain ⟨qr0,qr1,qr2,lr⟩:=bq3 hb lr qr0 qr1 qr2;have qx0:=bq hb lx qx0;have xx:=xx.past hb lx;have lx:=bl hb lx;obtain ⟨qo0,qo1,qo2,lo⟩:=bq3 hb lo qo0 qo1 qo2;have hB:=bLt hB hb;clear hb;rw [HS1.out]
 go_wp2_with fail
 with_reducible refine (sign_c d1 (by omega)).mono ?_
 rintro e w10 ⟨rfl,hb⟩;have g:=g.past hb;have d1:=d1.past hb;have d2:=d2.past hb;obtain ⟨qe0,qe1,qe2,le⟩:=bq3 hb le qe0 qe1 qe2;have qn0:=bq hb ln qn0;have xn:=xn.past hb ln;have ln:=bl hb ln;have xr:=xr.past hb lr;obtain ⟨qr0,qr1,qr2,lr⟩:=bq3 hb lr qr0 qr1 qr2;have qx0:=bq hb lx qx0;have xx:=xx.past hb lx;have lx:=bl hb lx;obtain ⟨qo0,qo1,qo2,lo⟩:=bq3 hb lo qo0 qo1 qo2;have hB:=bLt hB hb;clear hb;rw [HS2.out]
 go_wp2_with fail
 refine (points_any a l c k 4097 w10).mono ?_;rintro e wP ⟨rfl,hWP⟩;obtain ⟨v4,hW4,y4,hb4,r4,f4⟩:=box1g w10 w10.heap.size rfl #[.slice a l c] 22;rw [hW4] at hWP;obtain ⟨v5,hW5,y5,hb5,r5,f5⟩:=box1g v4 (w10.heap.size+1) (by omega) #[.int .i64 (k:Int)] 3;rw [hW5] at hWP;obtain ⟨v6,hW6,y6,hb6,r6,f6⟩:=box1g v5 (w10.heap.size+1+1) (by omega) #[.int .i64 4097] 3;rw [hW6] at hWP;subst hWP;have qT:=bq hb6 (by omega) (bq hb5 (by omega) (r4 0));have qK:=bq hb6 (by omega) (r5 0);have qE:=r6 0;simp only [lgA,lgZ] at qT qK qE;have hB46:=bLt (bLt hb4 hb5) hb6;have hB6:=bLt hB hB46;have hz6:=hB46.size;have hP0:FixCu (w10.heap.size+1+1) w10.heap.size (w10.heap.size+1) a l c zs k 4097 v6:=⟨qE,qT,qK,g.past hB46⟩;have hI0:LstI w (w.heap.size) (w.heap.size+1) (w.heap.size+1+1) (w.heap.size+1+1+1) eps v6:=⟨⟨_,_,_,_,_,_,bq hB46 le qe0,bq hB46 le qe1,bq hB46 le qe2,d1.past hB46,d2.past hB46⟩,xn.past hB46 ln,xr.past hB46 lr,xx.past hB46 lx,hB6⟩;have hlow6:w.heap.size+1+1+1<v6.heap.size:=nLt lx hz6;obtain ⟨b6,hb6e⟩:∃ b6,(w.heap.size)=b6:=⟨_,rfl⟩;obtain ⟨b8,hb8e⟩:∃ b8,(w.heap.size+1)=b8:=⟨_,rfl⟩;obtain ⟨b9,hb9e⟩:∃ b9,(w.heap.size+1+1)=b9:=⟨_,rfl⟩;obtain ⟨be,hbee⟩:∃ be,(w.heap.size+1+1+1)=be:=⟨_,rfl⟩;have hlt:w.heap.size≤b8∧b8<b9∧b9<be∧be<v6.heap.size:=by omega
 rw [hbee,hb9e,hb8e,hb6e] at hI0 ⊢;obtain ⟨bT,hbT⟩:∃ bT,w10.heap.size=bT:=⟨_,rfl⟩;rw [hbT] at hP0 ⊢;have hneq:b8≠b9∧b8≠be∧b9≠be:=by omega
 have hsz:w.heap.size≤v6.heap.size:=by omega
 have hlo:w.heap.size≤b8∧w.heap.size≤b9∧w.heap.size≤be:=by omega
 have hcu:b8≠bT∧b8≠bT+1∧b8≠bT+1+1∧b9≠bT∧b9≠bT+1∧b9≠bT+1+1∧be≠bT∧be≠bT+1∧be≠bT+1+1:=by omega
 have hag:∀ x,a=some x→x.block≠b8∧x.block≠b9∧x.block≠be:=fun x e=>by
  rcases g0.cell with h | ⟨b,o,e2,h,_⟩
  · omega
  rw [e] at e2;cases e2;have h2:b<w.heap.size:=h;exact ⟨fun e=>by have e3:b=b8:=e;omega,fun e=>by have e3:b=b9:=e;omega,fun e=>by have e3:b=be:=e;omega⟩
 have HNE:=hiD hneq;have HLO2:=hiD hlo;have HCU:=hiD hcu;have HAG:=hiD hag;have HSZ:=hiD hsz;clear hbee hb9e hb8e hb6e hbT hneq hsz hlo hcu hag hlt hlow6 hW4 hW5 hW6 y4 y5 y6 r4 r5 r6 f4 f5 f6 hb4 hb5 hb6 hB46 hz6 hB6 qT qK qE g d1 d2 qe0 qe1 qe2 le qn0 ln xn qr0 qr1 qr2 lr xr qx0 lx xx hB
 go_wp2_with fail
 refine (wpIn_wide (n:=5)).1 ?_;generalize hA0:(Act.mk _ _:Act)=A0
 refine wpIn_roundsE (by decide) (N:=N+1) (Ok:=OkPt zs k) (Fix:=FixCu (bT+1+1) bT (bT+1) a l c zs k 4097) (by rw [← hA0];rfl) (fun _ _=>rfl) (fun i x W h=>by obtain ⟨y,rfl,_⟩:=h;rfl) (HPT.out _ _ _) (fun W W' h hb=>h.past hb) (fun W l o o' h hl ho hB=>h.turn o' hl ho) hP0
  (fun i W=>i≤N∧LstI w b6 b8 b9 be eps W)
  (fun i x b W=>∃ p17,b={ tmps:=(((A0.tmps.setIfInBounds 56 (x.getD 0 undef)).setIfInBounds 57 (x.getD 1 undef)).setIfInBounds 16 (.int .i64 (i:Int))).setIfInBounds 17 (.pointer (some ⟨p17,0,none⟩)),defers:=[] }∧RatC W p17 (failR zs k i)∧i≤N∧(p17≠b8∧p17≠b9∧p17≠be)∧LstI w b6 b8 b9 be eps W)
  (fun i W W' h hb=>⟨h.1,h.2.past hb⟩)
  (fun i W l o o' h hl ho hB=>⟨h.1,h.2.turn o' hl ho (nTr HSZ.out hB)⟩)
  (fun i x b W l o o' h hl ho hB => by
    obtain ⟨p17,e,h1,h2,h3,h4⟩:=h;exact ⟨p17,e,h1.stays (Stays.turn (X:=fun _=>False) o' hl ho) id,h2,h3,h4.turn o' hl ho (nTr HSZ.out hB)⟩)
  ⟨Nat.zero_le _,hI0⟩ (fun W h=>by have:=h.1;omega)
  (LstK w b8 b9 be N (failR zs k N)) (fun W W' h hb=>h.past hb) (fun W l o o' h hl ho hB=>h.turn o' hl ho (nTr HSZ.out hB)) ?_ ?_ ?_
 · rintro lr i x W hi ⟨hiN,hI⟩ hfix ⟨y,rfl,a3,n3,c3,a4,n4,c4,rfl,d3,d4⟩;refine assign_hide (fun KK hKK => ?_)
   have l8:b8<W.heap.size:=by
    obtain ⟨v,q,_⟩:=hI.x8.c 0 (by decide);exact World.block_lt_of_cell? W ⟨b8,0,none⟩ q
   have l9:b9<W.heap.size:=by
    obtain ⟨v,q,_⟩:=hI.x9.c 0 (by decide);exact World.block_lt_of_cell? W ⟨b9,0,none⟩ q
   have le':be<W.heap.size:=by
    obtain ⟨v,q,_⟩:=hI.xe.c 0 (by decide);exact World.block_lt_of_cell? W ⟨be,0,none⟩ q
   obtain ⟨q,hq⟩:∃ q,failR zs k i=q:=⟨_,rfl⟩;simp only [hq] at d3 d4 ⊢;have HQ:=hiD hq;have HII:=hiD hI;have HFX:=hiD hfix;have HA0:=hiD hA0;rw [← hA0];clear hq hI hfix hA0 hP0 hI0;simp only [List.zip_toArray,List.zip_cons_cons,List.zip_nil_right,List.foldl_toArray',List.foldl_cons,List.foldl_nil,lsA,lsS,lsZ]
   gi_wp2
   obtain ⟨u1,hW1,y1,hb1,r1,f1⟩:=box1g W W.heap.size rfl #[.bool (neg q.num),.slice a3 n3 c3,.slice a4 n4 c4] 28;rw [hW1];refine hKK.out _ _ ⟨⟨hb1.size,fun k o hk _=>(hb1.block k (Array.getElem?_eq_some_iff.1 hk).1).trans hk⟩,HFX.out.past hb1,W.heap.size,?_,?_,hiN,⟨by omega,by omega,by omega⟩,HII.out.past hb1⟩
   · rw [← HA0.out];try simp only [HQ.out]
     simp only [lsA,lsS,lsZ,Array.getD,List.size_toArray,List.length_cons,List.length_nil];rfl
   rw [HQ.out];exact ⟨_,_,_,_,_,_,r1 0,r1 1,r1 2,d3.past hb1,d4.past hb1⟩
 · rintro lr i x b W hi hfix ⟨p17,rfl,hR17,hiN,n17,hI⟩;refine body_hide (fun QQ hQQ => ?_);obtain ⟨q,hq⟩:∃ q,failR zs k i=q:=⟨_,rfl⟩;rw [hq] at hR17;have lq:rlen q≤1048576:=by rw [← hq];exact HFL.out i hiN
   obtain ⟨q1,q2,q3,q4,q5,q6,z0,z1,z2,D1,D2⟩:=hR17;obtain ⟨s1,s2,s3,s4,s5,s6,w0,w1,w2,E1,E2⟩:=hI.q6;have HQ:=hiD hq;have HII:=hiD hI;have HFX:=hiD hfix;have hcmp:=cmp_rat D1 D2 E1 E2 lq HLE.out;obtain ⟨S,hS⟩:∃ S,(q-eps).num.sign=S:=⟨_,rfl⟩;rw [hS] at hcmp;have HCM:=hiD hcmp;have hSg:(i<N→S=1)∧(i=N→S≤0):=⟨fun h=>by rw [← hS,← hq];exact sign_gt (HLOW.out i h),fun h=>by rw [← hS,← hq,h];exact sign_le HUP.out⟩;have HSG:=hiD hSg;generalize x.getD 0 undef=y56;generalize x.getD 1 undef=y57;rw [← hA0];clear hq hI hfix hA0 hP0 hI0 hcmp lq hS hSg;simp only [lsA,lsS,lsZ]
   gi_wp2_with fail
   refine ⟨trivial,?_⟩;refine (CallsIn.inRound lr (callsIn_wide.2 HCM.out)).mono ?_;rintro e W1 ⟨rfl,hb1⟩;have HI1:=hiD (HII.out.past hb1);have HF1:=hiD (HFX.out.past hb1);have HK1:=hiD (show KeepsOthers W W1 from ⟨hb1.size,fun k o hk _=>(hb1.block k (Array.getElem?_eq_some_iff.1 hk).1).trans hk⟩);have HR17:=hiD (RatC.stays (X:=fun _=>False) (b:=p17) ⟨q1,q2,q3,q4,q5,q6,z0,z1,z2,D1,D2⟩ (.ofBelow hb1) id);clear z0 z1 z2 w0 w1 w2 D1 D2 E1 E2 hb1
   by_cases hlt:i<N
   · have t1:decide (S≤0)=false:=by rw [HSG.out.1 hlt];decide
     gi_wp2
     exact hQQ.out _ _ _ ⟨HK1.out,HF1.out,.inl ⟨rfl,Nat.succ_le_of_lt hlt,HI1.out⟩⟩
   obtain rfl:i=N:=by omega
   have t1:decide (S≤0)=true:=decide_eq_true (HSG.out.2 rfl);obtain ⟨q1,q2,q3,q4,q5,q6,z0,z1,z2,D1,D2⟩:=HR17.out;obtain ⟨XL,hXL⟩:∃ XL:Nat→Prop,XL=fun k=>k=b8∨k=b9∨k=be:=⟨_,rfl⟩
   have HXL:=hiD hXL;have x8:=HI1.out.x8;have x9:=HI1.out.x9;have xe:=HI1.out.xe
   have hXl0:∀ k,XL k→k<W1.heap.size:=by
    intro k hk;rw [hXL] at hk;rcases hk with rfl | rfl | rfl
    · obtain ⟨v,q,_⟩:=x8.c 0 (by decide);exact World.block_lt_of_cell? W1 ⟨_,0,none⟩ q
    · obtain ⟨v,q,_⟩:=x9.c 0 (by decide);exact World.block_lt_of_cell? W1 ⟨_,0,none⟩ q
    obtain ⟨v,q,_⟩:=xe.c 0 (by decide);exact World.block_lt_of_cell? W1 ⟨_,0,none⟩ q
   have n17x:¬ XL p17:=by rw [hXL];exact fun h=>h.elim n17.1 (fun h=>h.elim n17.2.1 n17.2.2)
   have m8:∀ k,k=b8→XL k:=fun k e=>by rw [hXL];exact .inl e
   have m9:∀ k,k=b9→XL k:=fun k e=>by rw [hXL];exact .inr (.inl e)
   have me:∀ k,k=be→XL k:=fun k e=>by rw [hXL];exact .inr (.inr e)
   clear hXL
   gi_wp2_with fail
   refine wpIn_region_invA (by kernel_rfl) rfl (by kernel_rfl) (fun A0 V0 dd aa ww=>∃ (y66 y67:Value),aa=puts A0 [(66,y66),(67,y67)]∧Moves XL V0 ww∧(∀ k,k<V0.heap.size→XL k→XL k)∧(∀ k,XL k→k<ww.heap.size)∧((BoxAt ww b8 1∧BoxAt ww b9 3∧BoxAt ww be 1))∧Shut (dd 0=true→y66 = .int .i64 (i:Int))∧Shut (dd 1=true→y67 = .agg #[.bool (neg q.num),.slice q1 q2 q3,.slice q4 q5 q6])∧Shut (dd 2=true→ww.cell? ⟨b8,0,none⟩=some (.int .i64 (i:Int)))∧Shut (dd 3=true→RatC ww b9 q)∧Shut (dd 4=true→ww.cell? ⟨be,0,none⟩=some (.int .i64 0))∧True) ?_ ?_ ?_
   · exact ⟨_,_,puts_self _ [66,67],Moves.drew _ _,fun _ _ h=>h,hXl0,⟨x8.drew,x9.drew,xe.drew⟩,fun h=>(by cases h),fun h=>(by cases h),fun h=>(by cases h),fun h=>(by cases h),fun h=>(by cases h),trivial⟩
   · refine StepsI.cons ?_ (StepsI.cons ?_ (StepsI.cons ?_ (StepsI.cons ?_ (StepsI.cons ?_ (StepsI.nil)))))
     all_goals (intro dd aa ww K hc hun hn hI hK;obtain ⟨y66,y67,ea,hM,hXX,hXl,BX,f0,f1,f2,f3,f4,_⟩:=hI;subst ea;simp only [pu])
     · go_simp;exact hK.out _ _ ⟨_,_,by simp only [pu]<;>rfl,hM,hXX,hXl,BX,fun _=>rfl,uo f1,uo f2,uo f3,uo f4,trivial⟩
     · have e0:=hM.stays.cell n17x z0;have e1:=hM.stays.cell n17x z1;have e2:=hM.stays.cell n17x z2;go_simp;exact hK.out _ _ ⟨_,_,by simp only [pu]<;>rfl,hM,hXX,hXl,BX,uo f0,fun _=>rfl,uo f2,uo f3,uo f4,trivial⟩
     · obtain rfl:=f0.out (hc.see hn);obtain ⟨wF,hWF,p0,xF,hst⟩:=box_set1 BX.1 (.int .i64 (i:Int)) (notU_i64 _);have hst9:Moves XL ww wF:=hst.mono (fun k _ e=>m8 k e);have HWF:=hiD hWF;clear hWF;obtain ⟨g0,h0,_⟩:=BX.1.c 0 (by decide);have i0:=BX.1.f 0 (by decide);go_simp;rw [HWF.out];exact hK.out _ _ ⟨_,_,by simp only [pu]<;>rfl,hM.trans hst9,hXX,(fun k hk=>nLt (hXl k hk) hst.size),⟨xF,hst.stays.box (fun e=>HNE.out.1 e.symm) BX.2.1,hst.stays.box (fun e=>HNE.out.2.1 e.symm) BX.2.2⟩,fun h=>rfl,uo f1,fun _=>p0,fun h=>(f3.out (upd_of rfl h)).stays hst.stays (fun e=>HNE.out.1 e.symm),fun h=>hst.stays.cell (fun e=>HNE.out.2.1 e.symm) (f4.out (upd_of rfl h)),trivial⟩
     · obtain rfl:=f1.out (hc.see hn);obtain ⟨wF,hWF,p0,p1,p2,xF,hst⟩:=box_set3 BX.2.1 (.bool (neg q.num)) (.slice q1 q2 q3) (.slice q4 q5 q6) (notU_bool _) (notU_slice _ _ _) (notU_slice _ _ _);have hst9:Moves XL ww wF:=hst.mono (fun k _ e=>m9 k e);have HWF:=hiD hWF;clear hWF;obtain ⟨g0,h0,_⟩:=BX.2.1.c 0 (by decide);have i0:=BX.2.1.f 0 (by decide);obtain ⟨g1,h1,_⟩:=BX.2.1.c 1 (by decide);have i1:=BX.2.1.f 1 (by decide);obtain ⟨g2,h2,_⟩:=BX.2.1.c 2 (by decide);have i2:=BX.2.1.f 2 (by decide);go_simp;rw [HWF.out];exact hK.out _ _ ⟨_,_,by simp only [pu]<;>rfl,hM.trans hst9,hXX,(fun k hk=>nLt (hXl k hk) hst.size),⟨hst.stays.box HNE.out.1 BX.1,xF,hst.stays.box (fun e=>HNE.out.2.2 e.symm) BX.2.2⟩,uo f0,fun h=>rfl,fun h=>hst.stays.cell HNE.out.1 (f2.out (upd_of rfl h)),fun _=>⟨q1,q2,q3,q4,q5,q6,p0,p1,p2,(D1.stays hM.stays).stays hst.stays,(D2.stays hM.stays).stays hst.stays⟩,fun h=>hst.stays.cell (fun e=>HNE.out.2.2 e.symm) (f4.out (upd_of rfl h)),trivial⟩
     obtain ⟨wF,hWF,p0,xF,hst⟩:=box_set1 BX.2.2 (.int .i64 0) (notU_i64 _);have hst9:Moves XL ww wF:=hst.mono (fun k _ e=>me k e);have HWF:=hiD hWF;clear hWF;obtain ⟨g0,h0,_⟩:=BX.2.2.c 0 (by decide);have i0:=BX.2.2.f 0 (by decide);go_simp;rw [HWF.out];exact hK.out _ _ ⟨_,_,by simp only [pu]<;>rfl,hM.trans hst9,hXX,(fun k hk=>nLt (hXl k hk) hst.size),⟨hst.stays.box HNE.out.2.1 BX.1,hst.stays.box HNE.out.2.2 BX.2.1,xF⟩,uo f0,uo f1,fun h=>hst.stays.cell HNE.out.2.1 (f2.out (upd_of rfl h)),fun h=>(f3.out (upd_of rfl h)).stays hst.stays HNE.out.2.2,fun _=>p0,trivial⟩
   intro dd aa U2 hd hI;obtain ⟨y66,y67,ea,hM,hXX,hXl,BX,f0,f1,f2,f3,f4,_⟩:=hI;obtain rfl:=f0.out (hd 0 (by simp));obtain rfl:=f1.out (hd 1 (by simp));subst ea;simp only [pu];have r8:=f2.out (hd 2 (by simp));have r9:=f3.out (hd 3 (by simp));have re:=f4.out (hd 4 (by simp))
   have hbw:Below w.heap.size w U2:=HI1.out.bw.trans (hM.below HI1.out.bw.size (fun k hk=>by
    rw [HXL.out] at hk;have h:=HLO2.out;rcases hk with rfl | rfl | rfl
    · exact h.1
    · exact h.2.1
    exact h.2.2))
   have no:∀ k,k≠b8→k≠b9→k≠be→¬ XL k:=fun k h1 h2 h3=>by rw [HXL.out];exact fun h=>h.elim h1 (fun h=>h.elim h2 h3)
   have hc:=HCU.out;have hFF:=HF1.out.stays hM.stays (no _ (Ne.symm hc.2.2.1) (Ne.symm hc.2.2.2.2.2.1) (Ne.symm hc.2.2.2.2.2.2.2.2)) (no _ (Ne.symm hc.1) (Ne.symm hc.2.2.2.1) (Ne.symm hc.2.2.2.2.2.2.1)) (no _ (Ne.symm hc.2.1) (Ne.symm hc.2.2.2.2.1) (Ne.symm hc.2.2.2.2.2.2.2.1)) (fun x e=>no _ (HAG.out x e).1 (HAG.out x e).2.1 (HAG.out x e).2.2);have HKK:=hiD (show LstK w b8 b9 be i (failR zs k i) U2 from ⟨r8,by rw [HQ.out];exact r9,re,hbw⟩);have HFF:=hiD hFF;have HKO:=hiD (HK1.out.trans hM.others);clear r8 r9 re hbw no hc hFF hM hXX hXl hXl0 BX f0 f1 f2 f3 f4 hd x8 x9 xe n17x m8 m9 me z0 z1 z2 D1 D2
   gi_wp2
   exact hQQ.out _ _ _ ⟨HKO.out,HFF.out,.inr ⟨rfl,HKK.out⟩⟩
 rintro D W hD hK hfix hdef;rw [← hA0];clear hA0 hP0 hI0 hfix;obtain ⟨q,hq⟩:∃ q,failR zs k N=q:=⟨_,rfl⟩;rw [hq] at hK;have HQ:=hiD hq;clear hq;have hKT:=hK.turn (.deferred none) hdef rfl (nTr HSZ.out hD);have r8:=hKT.r8;obtain ⟨q1,q2,q3,q4,q5,q6,z0,z1,z2,D1,D2⟩:=hKT.r9;have re:=hKT.re;have hbw:=hKT.bw;clear hK hKT
 gi_wp2
 try go_wp2
 refine ⟨by simp,.inl ⟨_,_,rfl,run_takeDeferred hdef,?_⟩⟩;refine ⟨.tuple #[.int .i64 (N:Int),.agg #[.bool (neg q.num),.slice q1 q2 q3,.slice q4 q5 q6],.int .i64 0],?_,q1,q2,q3,q4,q5,q6,?_⟩
 · simp [results,Tryz.f39,go_sem,r8,z0,z1,z2,re]
 rw [HQ.out];exact ⟨rfl,D1,D2,hbw⟩
end
section
open Go.RowKit
def RetPlan (w:World) (k:Nat) (zs:List Int) (eps:Rat) (N:Nat) (F:Rat) (e:Ending) (w':World):Prop :=
 ∃ aT nT cT a1 n1 c1 a2 n2 c2 a3 n3 c3 a4 n4 c4,e = .returned (.tuple #[.agg #[.int .i64 (k:Int),.slice aT nT cT,.bool (neg eps.num),.slice a1 n1 c1,.slice a2 n2 c2,.int .i64 (N:Int),.bool (neg F.num),.slice a3 n3 c3,.slice a4 n4 c4],.int .i64 0])∧IntsAt w' aT nT cT zs ∧
  NatAt w' a1 n1 c1 (digs eps.num.natAbs)∧NatAt w' a2 n2 c2 (digs eps.den)∧NatAt w' a3 n3 c3 (digs F.num.natAbs)∧NatAt w' a4 n4 c4 (digs F.den)∧Below w.heap.size w w'
theorem make27_any (a:Option Addr) (l c:Nat) (zs:List Int) (k N:Nat) (eps F:Rat) (a1:Option Addr) (n1 c1:Nat) (a2:Option Addr) (n2 c2:Nat) (w:World) (g:IntsAt w a l c zs) (d1:NatAt w a1 n1 c1 (digs eps.num.natAbs)) (d2:NatAt w a2 n2 c2 (digs eps.den)) (hok:okT zs (k:Int)) (hk1:1≤k) (hk:k≤2) (hN:N≤3)
 (h0:0<eps) (h1:eps<1) (he:rlen eps≤1048576) (hlow:∀ i,i<N→eps<failR zs k i) (hup:failR zs k N≤eps) (hF:∀ i,i≤N→rlen (failR zs k i)≤1048576) (eF:failR zs k N=F) :
 Calls Tryz.prog 11 #[.slice a l c,.int .i64 (k:Int),.agg #[.bool (neg eps.num),.slice a1 n1 c1,.slice a2 n2 c2]] w (RetPlan w k zs eps N F):=by
 have HLS:=hiD (fun (w:World) (g:IntsAt w a l c zs) (d1:NatAt w a1 n1 c1 (digs eps.num.natAbs)) (d2:NatAt w a2 n2 c2 (digs eps.den))=>eF ▸ least_any a l c zs k N eps a1 n1 c1 a2 n2 c2 w g d1 d2 hok hk1 hk hN h0 h1 he hlow hup hF);have hl:l≤1000:=by have:=hok.2.2.2.1;have:=g.len;omega
 have hn1:n1≤1048576:=by have:=d1.len;unfold rlen at he;omega
 have hn2:n2≤1048576:=by have:=d2.len;unfold rlen at he;omega
 have g0:=g;have d10:=d1;have d20:=d2;clear hok h0 h1 he hlow hup hF eF
 go_enter Tryz.func11,Tryz.ntmps11
 have hB:=bRf w.heap.size w
 go_wp2_with fail
 obtain ⟨w1,hW,hz0,hb,q,f⟩:=box1g w (w.heap.size) (by omega) #[.bool (neg eps.num),.slice a1 n1 c1,.slice a2 n2 c2] 28;rw [hW];clear hW;have g:=g.past hb;have d1:=d1.past hb;have d2:=d2.past hb;have hB:=bLt hB hb;clear hb;have le:w.heap.size<w1.heap.size:=by omega
 have qe0:=q 0;have qe1:=q 1;have qe2:=q 2;simp only [lgA,lgZ,lgS] at qe0 qe1 qe2;clear q f;obtain ⟨w2,hW,hz1,hb,q,f⟩:=box1g w1 (w.heap.size+1) (by omega) #[.int .i64 0,.slice none 0 0,.bool false,.slice none 0 0,.slice none 0 0,.int .i64 0,.bool false,.slice none 0 0,.slice none 0 0] 34;rw [hW];clear hW;have g:=g.past hb;have d1:=d1.past hb;have d2:=d2.past hb;obtain ⟨qe0,qe1,qe2,le⟩:=bq3 hb le qe0 qe1 qe2;have hB:=bLt hB hb;clear hb;have lp:w.heap.size+1<w2.heap.size:=by omega
 have qp0:=q 0;have qp1:=q 1;have qp2:=q 2;have qp3:=q 3;have qp4:=q 4;have qp5:=q 5;have qp6:=q 6;have qp7:=q 7;have qp8:=q 8;simp only [lgA,lgZ,lgS] at qp0 qp1 qp2 qp3 qp4 qp5 qp6 qp7 qp8;have xp:BoxAt w2 (w.heap.size+1) 9:=BoxAt.of q f rfl (by simp [notU_bool,notU_slice,notU_i64]);clear q f;clear hz0;clear hz1
 with_reducible refine (HLS.out _ g d1 d2).mono ?_
 rintro e w3 ⟨ahFU,nhFU,chFU,ahFD,nhFD,chFD,rfl,hFU,hFD,hb⟩;have g:=g.past hb;have d1:=d1.past hb;have d2:=d2.past hb;obtain ⟨qe0,qe1,qe2,le⟩:=bq3 hb le qe0 qe1 qe2;have xp:=xp.past hb lp;obtain ⟨qp0,qp1,qp2,qp3,qp4,qp5,qp6,qp7,qp8,lp⟩:=bq9 hb lp qp0 qp1 qp2 qp3 qp4 qp5 qp6 qp7 qp8;have hB:=bLt hB hb;clear hb
 go_wp2_with fail
 obtain ⟨w4,hW,hz0,hb,q,f⟩:=box1g w3 (w3.heap.size) (by omega) #[.bool (neg (F).num),.slice ahFU nhFU chFU,.slice ahFD nhFD chFD] 28;rw [hW];clear hW;have g:=g.past hb;have d1:=d1.past hb;have d2:=d2.past hb;have hFU:=hFU.past hb;have hFD:=hFD.past hb;obtain ⟨qe0,qe1,qe2,le⟩:=bq3 hb le qe0 qe1 qe2;have xp:=xp.past hb lp;obtain ⟨qp0,qp1,qp2,qp3,qp4,qp5,qp6,qp7,qp8,lp⟩:=bq9 hb lp qp0 qp1 qp2 qp3 qp4 qp5 qp6 qp7 qp8;have hB:=bLt hB hb;clear hb;have lf:w3.heap.size<w4.heap.size:=by omega
 have qf0:=q 0;have qf1:=q 1;have qf2:=q 2;simp only [lgA,lgZ,lgS] at qf0 qf1 qf2;clear q f;clear hz0
 go_wp2_with fail
 have szW:=hB.size;refine wp_region_inv (by kernel_rfl) rfl (by kernel_rfl) (fun A0 V0 dd aa ww=>∃ (y23 y24 y25 y26 y27 y28 y29 y30 y7:Value),aa=puts A0 [(23,y23),(24,y24),(25,y25),(26,y26),(27,y27),(28,y28),(29,y29),(30,y30),(7,y7)]∧Below (w).heap.size (w) ww∧V0.heap.size≤ww.heap.size∧NatAt ww ahFU nhFU chFU (digs F.num.natAbs)∧NatAt ww ahFD nhFD chFD (digs F.den)∧Cells ww (w.heap.size) [.bool (neg eps.num),.slice a1 n1 c1,.slice a2 n2 c2]∧Cells ww (w3.heap.size) [.bool (neg (F).num),.slice ahFU nhFU chFU,.slice ahFD nhFD chFD]∧BoxAt ww (w.heap.size+1) 9∧Shut (dd 8=false→Cells ww (w.heap.size+1) [.int .i64 0,.slice none 0 0,.bool false,.slice none 0 0,.slice none 0 0,.int .i64 0,.bool false,.slice none 0 0,.slice none 0 0])∧Shut (dd 0=true→y23 = .int .i64 (k:Int))∧Shut (dd 1=true→y24 = .slice a l c)∧Shut (dd 2=true→ClnV (w.heap.size+1) zs y25 ww)∧Shut (dd 3=true→y26 = .agg #[.bool (neg eps.num),.slice a1 n1 c1,.slice a2 n2 c2])∧Shut (dd 4=true→RatV V0.heap.size (eps) y27 ww)∧Shut (dd 5=true→y28 = .int .i64 (N:Int))∧Shut (dd 6=true→y29 = .agg #[.bool (neg (F).num),.slice ahFU nhFU chFU,.slice ahFD nhFD chFD])∧Shut (dd 7=true→y30=bld [y23,y25,y27,y28,y29])∧Shut (dd 8=true→CellsV (w.heap.size+1) y30 ww)∧Shut (dd 9=true→y7 = .int .i64 0)∧True) ?_ ?_ ?_
 · exact ⟨_,_,_,_,_,_,_,_,_,puts_self _ [23,24,25,26,27,28,29,30,7],hB.drew,nRf _,hFU.drew,hFD.drew,(by intro k hk;simp at hk;rcases (by omega:k=0∨k=1∨k=2) with rfl | rfl | rfl<;>assumption),(by intro k hk;simp at hk;rcases (by omega:k=0∨k=1∨k=2) with rfl | rfl | rfl<;>assumption),xp.drew,(fun _=>by intro k hk;simp at hk;rcases (by omega:k=0∨k=1∨k=2∨k=3∨k=4∨k=5∨k=6∨k=7∨k=8) with rfl | rfl | rfl | rfl | rfl | rfl | rfl | rfl | rfl<;>assumption),fun h=>(by cases h),fun h=>(by cases h),fun h=>(by cases h),fun h=>(by cases h),fun h=>(by cases h),fun h=>(by cases h),fun h=>(by cases h),fun h=>(by cases h),fun h=>(by cases h),fun h=>(by cases h),trivial⟩
 · refine Steps.cons ?_ (Steps.cons ?_ (Steps.cons ?_ (Steps.cons ?_ (Steps.cons ?_ (Steps.cons ?_ (Steps.cons ?_ (Steps.cons ?_ (Steps.cons ?_ (Steps.cons ?_ (Steps.nil))))))))))
   all_goals (intro dd aa ww K hc hun hn hI hK;obtain ⟨y23,y24,y25,y26,y27,y28,y29,y30,y7,ea,hb,hsz,vhFU,vhFD,ce,cf,xp,pp,f0,f1,f2,f3,f4,f5,f6,f7,f8,f9,_⟩:=hI;subst ea;simp only [pu])
   · go_simp;exact hK.out _ _ ⟨_,_,_,_,_,_,_,_,_,by simp only [pu]<;>rfl,hb,hsz,vhFU,vhFD,ce,cf,xp,fun h=>(pp.out (upd_off h)),fun _=>rfl,uo f1,uo f2,uo f3,uo f4,uo f5,uo f6,hc.abs hun,uo f8,uo f9,trivial⟩
   · go_simp;exact hK.out _ _ ⟨_,_,_,_,_,_,_,_,_,by simp only [pu]<;>rfl,hb,hsz,vhFU,vhFD,ce,cf,xp,fun h=>(pp.out (upd_off h)),uo f0,fun _=>rfl,hc.abs hun,uo f3,uo f4,uo f5,uo f6,uo f7,uo f8,uo f9,trivial⟩
   · obtain rfl:=f1.out (hc.see hn);go_simp
     with_reducible refine (clone_ints _ _ _ _ _ (g0.past hb) (by omega)).mono ?_
     rintro e w1 ⟨aC,nC,cC,rfl,hC,hN,h1⟩;have hN:=NewI.ne (b:=w.heap.size+1) (w0:=w4) hN lp hsz;exact hK.out _ _ ⟨_,_,_,_,_,_,_,_,_,by simp only [pu]<;>rfl,bLt hb h1,nTr hsz h1.size,vhFU.past h1,vhFD.past h1,ce.past h1 (nLt le hsz),cf.past h1 (nLt lf hsz),xp.past h1 (nLt lp hsz),fun h=>(pp.out (upd_off h)).past h1 (nLt lp hsz),uo f0,fun h=>rfl,fun _=>⟨_,_,_,rfl,hC,hN⟩,uo f3,fun h=>(f4.out (upd_of rfl h)).past h1,uo f5,uo f6,hc.abs hun,fun h=>(f8.out (upd_of rfl h)).past h1 (nLt lp hsz),uo f9,trivial⟩
   · have e0:=ce 0 (by simp);simp only [lgZ,lgS] at e0;have e1:=ce 1 (by simp);simp only [lgZ,lgS] at e1;have e2:=ce 2 (by simp);simp only [lgZ,lgS] at e2;go_simp;exact hK.out _ _ ⟨_,_,_,_,_,_,_,_,_,by simp only [pu]<;>rfl,hb,hsz,vhFU,vhFD,ce,cf,xp,fun h=>(pp.out (upd_off h)),uo f0,uo f1,uo f2,fun _=>rfl,uo f4,uo f5,uo f6,uo f7,uo f8,uo f9,trivial⟩
   · obtain rfl:=f3.out (hc.see hn);go_simp
     with_reducible refine (owned_any eps _ _ _ _ _ _ _ (d10.past hb) (d20.past hb) (by omega) (by omega)).mono ?_
     rintro e w1 ⟨ahEU,nhEU,chEU,ahED,nhED,chED,rfl,hEU,hED,h1⟩;exact hK.out _ _ ⟨_,_,_,_,_,_,_,_,_,by simp only [pu]<;>rfl,bLt hb h1,nTr hsz h1.size,vhFU.past h1,vhFD.past h1,ce.past h1 (nLt le hsz),cf.past h1 (nLt lf hsz),xp.past h1 (nLt lp hsz),fun h=>(pp.out (upd_off h)).past h1 (nLt lp hsz),uo f0,uo f1,fun h=>(f2.out (upd_of rfl h)).past h1,fun h=>rfl,fun _=>⟨_,_,_,_,_,_,rfl,hEU.mono hsz,hED.mono hsz⟩,uo f5,uo f6,hc.abs hun,fun h=>(f8.out (upd_of rfl h)).past h1 (nLt lp hsz),uo f9,trivial⟩
   · go_simp;exact hK.out _ _ ⟨_,_,_,_,_,_,_,_,_,by simp only [pu]<;>rfl,hb,hsz,vhFU,vhFD,ce,cf,xp,fun h=>(pp.out (upd_off h)),uo f0,uo f1,uo f2,uo f3,uo f4,fun _=>rfl,uo f6,hc.abs hun,uo f8,uo f9,trivial⟩
   · have e0:=cf 0 (by simp);simp only [lgZ,lgS] at e0;have e1:=cf 1 (by simp);simp only [lgZ,lgS] at e1;have e2:=cf 2 (by simp);simp only [lgZ,lgS] at e2;go_simp;exact hK.out _ _ ⟨_,_,_,_,_,_,_,_,_,by simp only [pu]<;>rfl,hb,hsz,vhFU,vhFD,ce,cf,xp,fun h=>(pp.out (upd_off h)),uo f0,uo f1,uo f2,uo f3,uo f4,uo f5,fun _=>rfl,hc.abs hun,uo f8,uo f9,trivial⟩
   · obtain rfl:=f0.out (hc.see hn);obtain ⟨aC,nC,cC,ex,hC,hN⟩:=f2.out (hc.see hn);subst ex;obtain ⟨ahEU,nhEU,chEU,ahED,nhED,chED,ex,hEU,hED⟩:=f4.out (hc.see hn);subst ex;obtain rfl:=f5.out (hc.see hn);obtain rfl:=f6.out (hc.see hn);go_simp;exact hK.out _ _ ⟨_,_,_,_,_,_,_,_,_,by simp only [pu]<;>rfl,hb,hsz,vhFU,vhFD,ce,cf,xp,fun h=>(pp.out (upd_off h)),fun h=>rfl,uo f1,uo f2,uo f3,uo f4,fun h=>rfl,fun h=>rfl,fun _=>rfl,hc.abs hun,uo f9,trivial⟩
   · obtain rfl:=f0.out (hc.see hn);obtain ⟨aC,nC,cC,ex,hC,hN⟩:=f2.out (hc.see hn);subst ex;obtain ⟨ahEU,nhEU,chEU,ahED,nhED,chED,ex,hEU,hED⟩:=f4.out (hc.see hn);subst ex;obtain rfl:=f5.out (hc.see hn);obtain rfl:=f6.out (hc.see hn);have ex:y30 = .agg #[.int .i64 (k:Int),.slice aC nC cC,.bool (neg (eps).num),.slice ahEU nhEU chEU,.slice ahED nhED chED,.int .i64 (N:Int),.bool (neg (F).num),.slice ahFU nhFU chFU,.slice ahFD nhFD chFD]:=f7.out (hc.see hn);subst ex;have x3:=xp;obtain ⟨v0,v1,v2,v3,v4,v5,v6,v7,v8,z0,z1,z2,z3,z4,z5,z6,z7,z8,fz0,fz1,fz2,fz3,fz4,fz5,fz6,fz7,fz8⟩:=x3.nine;have hv:∀ v ∈ ([.int .i64 (k:Int),.slice aC nC cC,.bool (neg (eps).num),.slice ahEU nhEU chEU,.slice ahED nhED chED,.int .i64 (N:Int),.bool (neg (F).num),.slice ahFU nhFU chFU,.slice ahFD nhFD chFD]:List Value),notU v:=by simp [notU_bool,notU_slice,notU_i64]
     go_simp;exact hK.out _ _ ⟨_,_,_,_,_,_,_,_,_,by simp only [pu]<;>rfl,hb.trans (below_setCells _ _ (by omega) [.int .i64 (k:Int),.slice aC nC cC,.bool (neg (eps).num),.slice ahEU nhEU chEU,.slice ahED nhED chED,.int .i64 (N:Int),.bool (neg (F).num),.slice ahFU nhFU chFU,.slice ahFD nhFD chFD] 0 _),(by simpa using hsz),NatAt.sets [.int .i64 (k:Int),.slice aC nC cC,.bool (neg (eps).num),.slice ahEU nhEU chEU,.slice ahED nhED chED,.int .i64 (N:Int),.bool (neg (F).num),.slice ahFU nhFU chFU,.slice ahFD nhFD chFD] 0 _ vhFU x3 (by simp) hv,NatAt.sets [.int .i64 (k:Int),.slice aC nC cC,.bool (neg (eps).num),.slice ahEU nhEU chEU,.slice ahED nhED chED,.int .i64 (N:Int),.bool (neg (F).num),.slice ahFU nhFU chFU,.slice ahFD nhFD chFD] 0 _ vhFD x3 (by simp) hv,Cells.sets (by omega) [.int .i64 (k:Int),.slice aC nC cC,.bool (neg (eps).num),.slice ahEU nhEU chEU,.slice ahED nhED chED,.int .i64 (N:Int),.bool (neg (F).num),.slice ahFU nhFU chFU,.slice ahFD nhFD chFD] 0 _ ce,Cells.sets (by omega) [.int .i64 (k:Int),.slice aC nC cC,.bool (neg (eps).num),.slice ahEU nhEU chEU,.slice ahED nhED chED,.int .i64 (N:Int),.bool (neg (F).num),.slice ahFU nhFU chFU,.slice ahFD nhFD chFD] 0 _ cf,BoxAt.sets [.int .i64 (k:Int),.slice aC nC cC,.bool (neg (eps).num),.slice ahEU nhEU chEU,.slice ahED nhED chED,.int .i64 (N:Int),.bool (neg (F).num),.slice ahFU nhFU chFU,.slice ahFD nhFD chFD] _ 0 _ xp hv,fun h=>absurd h (by simp [upd]),fun h=>rfl,uo f1,fun h=>(f2.out (upd_of rfl h)).sets [.int .i64 (k:Int),.slice aC nC cC,.bool (neg (eps).num),.slice ahEU nhEU chEU,.slice ahED nhED chED,.int .i64 (N:Int),.bool (neg (F).num),.slice ahFU nhFU chFU,.slice ahFD nhFD chFD] x3 (by simp) hv,uo f3,fun h=>((f4.out (upd_of rfl h)).setsOff lp [.int .i64 (k:Int),.slice aC nC cC,.bool (neg (eps).num),.slice ahEU nhEU chEU,.slice ahED nhED chED,.int .i64 (N:Int),.bool (neg (F).num),.slice ahFU nhFU chFU,.slice ahFD nhFD chFD]),fun h=>rfl,fun h=>rfl,fun h=>rfl,fun _=>⟨[.int .i64 (k:Int),.slice aC nC cC,.bool (neg (eps).num),.slice ahEU nhEU chEU,.slice ahED nhED chED,.int .i64 (N:Int),.bool (neg (F).num),.slice ahFU nhFU chFU,.slice ahFD nhFD chFD],rfl,Cells.new x3 [.int .i64 (k:Int),.slice aC nC cC,.bool (neg (eps).num),.slice ahEU nhEU chEU,.slice ahED nhED chED,.int .i64 (N:Int),.bool (neg (F).num),.slice ahFU nhFU chFU,.slice ahFD nhFD chFD] (by simp)⟩,uo f9,trivial⟩
   go_simp;exact hK.out _ _ ⟨_,_,_,_,_,_,_,_,_,by simp only [pu]<;>rfl,hb,hsz,vhFU,vhFD,ce,cf,xp,fun h=>(pp.out (upd_off h)),uo f0,uo f1,uo f2,uo f3,uo f4,uo f5,uo f6,uo f7,uo f8,fun _=>rfl,trivial⟩
 intro dd aa w5 hd hI;obtain ⟨y23,y24,y25,y26,y27,y28,y29,y30,y7,ea,hb,hsz,vhFU,vhFD,ce,cf,xp,pp,f0,f1,f2,f3,f4,f5,f6,f7,f8,f9,_⟩:=hI;obtain rfl:=f0.out (hd 0 (by simp));obtain rfl:=f1.out (hd 1 (by simp));obtain ⟨aC,nC,cC,ex,hC,hN⟩:=f2.out (hd 2 (by simp));subst ex;obtain rfl:=f3.out (hd 3 (by simp));obtain ⟨ahEU,nhEU,chEU,ahED,nhED,chED,ex,hEU,hED⟩:=f4.out (hd 4 (by simp));subst ex;obtain rfl:=f5.out (hd 5 (by simp));obtain rfl:=f6.out (hd 6 (by simp));have ex:y30 = .agg #[.int .i64 (k:Int),.slice aC nC cC,.bool (neg (eps).num),.slice ahEU nhEU chEU,.slice ahED nhED chED,.int .i64 (N:Int),.bool (neg (F).num),.slice ahFU nhFU chFU,.slice ahFD nhFD chFD]:=f7.out (hd 7 (by simp));subst ex;obtain ⟨vs8,e,h8⟩:=f8.out (hd 8 (by simp));cases e;obtain rfl:=f9.out (hd 9 (by simp));have lp:=nLt lp hsz;have qp0:=h8 0 (by simp);simp only [lgZ,lgS] at qp0;have qp1:=h8 1 (by simp);simp only [lgZ,lgS] at qp1;have qp2:=h8 2 (by simp);simp only [lgZ,lgS] at qp2;have qp3:=h8 3 (by simp);simp only [lgZ,lgS] at qp3;have qp4:=h8 4 (by simp);simp only [lgZ,lgS] at qp4;have qp5:=h8 5 (by simp);simp only [lgZ,lgS] at qp5;have qp6:=h8 6 (by simp);simp only [lgZ,lgS] at qp6;have qp7:=h8 7 (by simp);simp only [lgZ,lgS] at qp7;have qp8:=h8 8 (by simp);simp only [lgZ,lgS] at qp8;subst ea;simp only [pu];have hEU:=hEU.mono szW
 have hED:=hED.mono szW;have g:=g0.past hb;have d1:=d10.past hb;have d2:=d20.past hb;have hFU:=vhFU;have hFD:=vhFD;have le:=nLt le hsz;have qe0:=ce 0 (by simp);simp only [lgZ,lgS] at qe0;have qe1:=ce 1 (by simp);simp only [lgZ,lgS] at qe1;have qe2:=ce 2 (by simp);simp only [lgZ,lgS] at qe2;clear ce;have lf:=nLt lf hsz;have qf0:=cf 0 (by simp);simp only [lgZ,lgS] at qf0;have qf1:=cf 1 (by simp);simp only [lgZ,lgS] at qf1;have qf2:=cf 2 (by simp);simp only [lgZ,lgS] at qf2;clear cf;have hB:=hb;clear pp;clear hb hd
 go_wp2
 refine bodyPost_ret (v:=.tuple #[.agg #[.int .i64 (k:Int),.slice aC nC cC,.bool (neg eps.num),.slice ahEU nhEU chEU,.slice ahED nhED chED,.int .i64 (N:Int),.bool (neg F.num),.slice ahFU nhFU chFU,.slice ahFD nhFD chFD],.int .i64 0]) ?_ rfl ⟨_,_,_,_,_,_,_,_,_,_,_,_,_,_,_,rfl,hC,hEU.toNatAt,hED.toNatAt,hFU,hFD,hB⟩;simp [results,Tryz.f11,go_sem,qp0,qp1,qp2,qp3,qp4,qp5,qp6,qp7,qp8]
end
end Go.Proofs.YtkhcblihbalnbaaGreat
