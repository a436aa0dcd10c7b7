import Derived.Test.YtkhcblihbalnbaaGreatDoorGrid2Pb
import Derived.Test.YtkhcblihbalnbaaGreatDoorChance6Pb
set_option linter.unusedVariables false
set_option linter.unusedSimpArgs false
set_option maxHeartbeats 32000000
set_option maxRecDepth 100000
namespace Go.Proofs.YtkhcblihbalnbaaGreatDoor
section
open Go.RowKit
def RetGr (w:World) (n m:Nat) (f:Nat→Rat) (e:Ending) (w':World):Prop:=∃ g,e = .returned (.agg #[.int .i64 (n:Int),.slice (some ⟨g,0,none⟩) m m])∧GridAt w' g m m f∧w.heap.size≤g∧Below w.heap.size w w'
theorem In_one (a:Option Addr) (n c:Nat) (zs:List Int) (k:Nat) (w:World) (g:IntsAt w a n c zs) (hok:okT zs (k:Int)) (hk1:1≤k) (hk:k≤20) :
 Calls Tryz.prog 244 #[.slice a n c,.int .i64 (k:Int),.int .i64 (k:Int),.int .i64 1] w (RetOk w (inR24 zs k k 1)):=In_ok a n c zs k k 1 w g hok hk1 hk (nRf _) hk1
theorem GridAt.set3 {w:World} {g c n k:Nat} {L:List Rat} (h:GridAt w g c n (fun i=>L.getD i 0)) (hk:k<n) (hL:n=L.length) {q:Rat} {a1:Option Addr} {n1 c1:Nat} {a2:Option Addr} {n2 c2:Nat} (d1:NatAt w a1 n1 c1 (digs q.num.natAbs)) (d2:NatAt w a2 n2 c2 (digs q.den)) :
 ∃ w',((w.setCell ⟨g,k*3,none⟩ (.bool (neg q.num))).setCell ⟨g,k*3+1,none⟩ (.slice a1 n1 c1)).setCell ⟨g,k*3+2,none⟩ (.slice a2 n2 c2)=w'∧GridAt w' g c n (fun i=>(L.set k q).getD i 0)∧Moves (fun b=>b=g) w w':=by
 obtain ⟨h1,h2⟩:=h.set hk d1 d2;exact ⟨w.setCells g (k*3) [.bool (neg q.num),.slice a1 n1 c1,.slice a2 n2 c2],rfl,h1.ext (fun i hi=>getD_set (by omega)),h2⟩
theorem whole_zero (w:World):Calls Tryz.prog 222 #[.int .i64 0] w (RetRat w 0):=by
 have h:=whole_any 0 w (by decide)
 rwa [show mkRat 0 1=0 by simp] at h
theorem first_any (a:Option Addr) (l c:Nat) (zs:List Int) (k n m:Nat) (p:Rat) (w:World) (g:IntsAt w a l c zs) (hok:okT zs (k:Int)) (hk1:1≤k) (hk:k≤20) (hn:n≤999) (hm:m=(n+1)*(n+1)) (hp:inR24 zs k k 1=p)
 (hl:∀ j,j≤n→rlen (p ^ j)≤1048576∧rlen ((1-p) ^ j)≤1048576) (hq1:rlen p≤1048576∧rlen (1-p)≤1048576) :
 Calls Tryz.prog 235 #[.slice a l c,.int .i64 (k:Int),.int .i64 (n:Int)] w (RetGr w n m (fun i=>(firstG p n).getD i 0)):=by
 have HIN:=hiD (fun (w:World) (g:IntsAt w a l c zs)=>hp ▸ In_one a l c zs k w g hok hk1 hk);have HM:=hiD hm;have HN:=hiD hn;have HL:=hiD hl;have HQ1:=hiD hq1;have HWZ:=hiD whole_zero;obtain ⟨Z,hZ0⟩:∃ Z:Rat,(0:Rat)=Z:=⟨_,rfl⟩;rw [hZ0] at HWZ;have HZ:=hiD hZ0;clear hok hk1 hk hm hn hp hl hq1 hZ0
 go_enter Tryz.func235,Tryz.ntmps235
 have hB:=bRf w.heap.size w
 go_wp2_with fail
 obtain ⟨w1,hW,hz0,hb,q,f,qo0,qo1⟩:=bx2 w (w.heap.size) (by omega) (.int .i64 0) (.slice none 0 0) 221;rw [hW];clear hW;have g:=g.past hb;have hB:=bLt hB hb;clear hb;have lo:w.heap.size<w1.heap.size:=by omega
 have xo:BoxAt w1 (w.heap.size) 2:=BoxAt.of q f rfl (by simp [notU_bool,notU_slice,notU_i64]);clear q f;clear hz0
 with_reducible refine (HWZ.out _).mono ?_
 rintro e w2 ⟨ahZU,nhZU,chZU,ahZD,nhZD,chZD,rfl,hZU,hZD,hb⟩;have g:=g.past hb;have xo:=xo.past hb lo;obtain ⟨qo0,qo1,lo⟩:=bq2 hb lo qo0 qo1;have hB:=bLt hB hb;clear hb
 go_wp2_with fail
 have so:=hB.size;refine (made_any n m Z _ _ _ _ _ _ _ (by have:=HN.out;omega) HM.out hZU.toNatAt hZD.toNatAt).mono ?_;rintro e w3 ⟨G,rfl,hg,hG,hb⟩;have lG3:=hg.lt (by rw [HM.out];exact Nat.mul_pos (by omega) (by omega));have g:=g.past hb;have xo:=xo.past hb lo;obtain ⟨qo0,qo1,lo⟩:=bq2 hb lo qo0 qo1;have hB:=bLt hB hb;clear hb
 go_wp2_with fail
 obtain ⟨w4,hW,hz0,hb,q,f,qt0,qt1⟩:=bx2 w3 (w3.heap.size) (by omega) (.int .i64 (n:Int)) (.slice (some ⟨G,0,none⟩) m m) 221;rw [hW];clear hW;have g:=g.past hb;have hg:=hg.past hb;have xo:=xo.past hb lo;obtain ⟨qo0,qo1,lo⟩:=bq2 hb lo qo0 qo1;have hB:=bLt hB hb;clear hb;have lt:w3.heap.size<w4.heap.size:=by omega
 clear q f;clear hz0
 with_reducible refine (HIN.out _ g).mono ?_
 rintro e w5 ⟨ahPU,nhPU,chPU,ahPD,nhPD,chPD,rfl,hPU,hPD,hb⟩;have hg:=hg.past hb;have xo:=xo.past hb lo;obtain ⟨qo0,qo1,lo⟩:=bq2 hb lo qo0 qo1;obtain ⟨qt0,qt1,lt⟩:=bq2 hb lt qt0 qt1;have hB:=bLt hB hb;clear hb
 go_wp2_with fail
 obtain ⟨w6,hW,hz0,hb,q,f,qp0,qp1,qp2⟩:=bx3 w5 (w5.heap.size) (by omega) (.bool (neg (p).num)) (.slice ahPU nhPU chPU) (.slice ahPD nhPD chPD) 28;rw [hW];clear hW;have hg:=hg.past hb;have hPU:=hPU.past hb;have hPD:=hPD.past hb;have xo:=xo.past hb lo;obtain ⟨qo0,qo1,lo⟩:=bq2 hb lo qo0 qo1;obtain ⟨qt0,qt1,lt⟩:=bq2 hb lt qt0 qt1;have hB:=bLt hB hb;clear hb;have lp:w5.heap.size<w6.heap.size:=by omega
 clear q f;clear hz0;have sg:=hB.size;have hm1:0<m:=by rw [HM.out];exact Nat.mul_pos (by omega) (by omega)
 have lG:=hg.lt hm1;have lo9:=lo;have lt9:=lt
 go_wp2_with fail
 refine (shares_any p _ _ _ _ _ _ _ hPU.toNatAt hPD.toNatAt HQ1.out.1).mono ?_;rintro e w7 ⟨b6,b1,b3,X0,rfl,hs,hX0,hb⟩;have sX:=hX0;have hb0:=hb;have hg:=hg.past hb;have xo:=xo.past hb lo;obtain ⟨qo0,qo1,lo⟩:=bq2 hb lo qo0 qo1;obtain ⟨qt0,qt1,lt⟩:=bq2 hb lt qt0 qt1;obtain ⟨qp0,qp1,qp2,lp⟩:=bq3 hb lp qp0 qp1 qp2;have hB:=bLt hB hb;clear hb;simp only [shF];have nG:¬ X0 G:=fun h=>by have:=sX _ h;omega
 have nt:¬ X0 (w3.heap.size):=fun h=>by have:=sX _ h;omega
 have no:¬ X0 (w.heap.size):=fun h=>by have:=sX _ h;omega
 have lW:=hb0.size;have lG2:G<w7.heap.size:=nLt lG lW;have hsh:=fun (w:World) (X:Nat→Prop) (r:Nat) (hr:r≤n) (h:ShSt w (shF b6 b1 b3) p X)=>share_call b6 b1 b3 p X n r w h (by have:=HN.out;omega) hr HL.out HQ1.out
 have HSH:=hiD hsh;have tG:G≠(w3.heap.size):=by omega
 have oG:G≠(w.heap.size):=by omega
 have HB:=hiD hB;have hg0:GridAt w7 G m m (fun i=>(firstL p n 0).getD i 0):=hg.ext (fun i _=>by rw [firstL_zero,getD_rep];exact HZ.out);clear hsh hg hb0;have hnn:=HN.out
 go_wp2_with fail
 go_loopw [11,26] (fun s11 s26 wr=>∃ (r:Nat) (X:Nat→Prop),r≤n+1∧s26 = .int .i64 (r:Int)∧ShSt wr (shF b6 b1 b3) p X∧GridAt wr G m m (fun i=>(firstL p n r).getD i 0)∧Moves (fun k=>k=G∨X0 k) w7 wr∧∀ k,k<w7.heap.size→X k→X0 k) (fun _ s26 _=>n+1-(intOf s26).toNat)
 case atStart=>exact ⟨0,X0,Nat.zero_le _,rfl,hs,hg0,Moves.refl _ _,fun _ _ h=>h⟩
 case round =>
  clear hg0 hs;obtain ⟨r,X,hr,rfl,hs,hg,hM,hXX⟩:=hrel;have nG2:¬ X G:=fun h=>nG (hXX _ lG2 h)
  have nt2:¬ X (w3.heap.size):=fun h=>nt (hXX _ lt h)
  have no2:¬ X (w.heap.size):=fun h=>no (hXX _ lo h)
  have qt0:=hM.stays.cell (b:=w3.heap.size) (by rintro (h | h);exact tG h.symm;exact nt h) qt0
  have qt1:=hM.stays.cell (b:=w3.heap.size) (by rintro (h | h);exact tG h.symm;exact nt h) qt1
  have xo:=hM.stays.box (b:=w.heap.size) (by rintro (h | h);exact oG h.symm;exact no h) xo
  by_cases hlt:r≤n
  · have hlt2:r<n+1:=by omega
    obtain ⟨I,hI⟩:∃ I,n-r=I:=⟨_,rfl⟩;have hW1:(n:Int)-(r:Int)=(I:Int):=by omega
    have HW1:=hiD hW1;have HI:=hiD hI;clear hI hW1;have hIn:I≤n:=by have:=HI.out;omega
    obtain ⟨K,hK⟩:∃ K,I*(n+1)+r=K:=⟨_,rfl⟩;have hKm:K<m:=by rw [← hK,HM.out];exact place_lt hIn hlt
    have hat:=fun w=>gat_any n I r m G w (by omega) hIn hlt HM.out
    rw [hK] at hat;have hKs:firstL p n (r+1)=(firstL p n r).set K (shareQ p n r):=by rw [firstL_succ,HI.out,hK]
    have HKS:=hiD hKs;have HAT:=hiD hat;have HK:=hiD hK;obtain ⟨q,hq⟩:∃ q,shareQ p n r=q:=⟨_,rfl⟩;have HQ:=hiD hq;clear hKs hat hK hq;have HMV:=hiD hM;have HXX:=hiD hXX;clear hM hXX
    go_wp2_with fail
    rw [HW1.out];refine (HAT.out _).mono ?_;rintro e w8 ⟨rfl,hb8⟩;have hs:=hs.past hb8;have hg:=hg.past hb8
    go_wp2_with fail
    refine (HSH.out _ X r hlt hs).mono ?_;rintro e w9 ⟨_,X9,rfl,⟨x1,x2,x3,x4,x5,x6,rfl,U,D⟩,hs9,hn9,hm9⟩;rw [HQ.out] at U D ⊢;have hg9:=hg.stays hm9.stays nG2;obtain ⟨v0,z0,_⟩:=hg9.box.c (K*3) (by omega);obtain ⟨v1,z1,_⟩:=hg9.box.c (K*3+1) (by omega);obtain ⟨v2,z2,_⟩:=hg9.box.c (K*3+2) (by omega);have z3:=hg9.box.f (K*3) (by omega);have z4:=hg9.box.f (K*3+1) (by omega);have z5:=hg9.box.f (K*3+2) (by omega);obtain ⟨wF,hWF,hgF,hmF⟩:=hg9.set3 hKm (by rw [firstL_len,HM.out]) U D;have HWF:=hiD hWF;have HGF:=hiD hgF;have HMF:=hiD hmF;have HS9:=hiD hs9;have HM9:=hiD hm9;have HN9:=hiD hn9;have l8:=hb8.size;clear hWF hgF hmF hs9 hm9 hn9 hg hg9 hs U D
    go_wp2
    rw [HWF.out];have hn8:∀ k,k<wr.heap.size→X9 k→X k:=fun k hk h=>HN9.out k (nLt hk l8) h
    have hMA:=HMV.out.then ((Moves.ofBelow (X:=X) hb8).trans HM9.out) (fun k hk h => .inr (HXX.out k hk h));have hMB:=hMA.then HMF.out (fun k hk h => .inl h);have lw8:=HMV.out.size;refine ⟨⟨r+1,X9,by omega,by go_num,HS9.out.stays HMF.out.stays (fun k hk e=>nG2 (hn8 G (nLt lG2 lw8) (e ▸ hk))),by rw [HKS.out,HQ.out];exact HGF.out,hMB,fun k hk h=>HXX.out k hk (hn8 k (nLt hk lw8) h)⟩,by simp [intOf];omega⟩
  obtain rfl:r=n+1:=by omega
  obtain ⟨v0,v1,z0,z1,z2,z3,_,_⟩:=xo.two;obtain ⟨wF,hWF,hO1,p0,p1,xF⟩:=store2 xo (.int .i64 (n:Int)) (.slice (some ⟨G,0,none⟩) m m) (notU_i64 _) (notU_slice _ _ _)
  have hmF:Moves (fun k=>k=w.heap.size) wr wF:=by
   rw [← hWF];exact (Moves.set z0 (by assumption) _).trans (Moves.set ((World.cell?_setCell_other _ _ _ _ (fun e=>by cases e)).trans z1) (by assumption) _)
  have HWF:=hiD hWF;have HMF:=hiD hmF;have HMV:=hiD hM;have HGG:=hiD hg;clear hWF hmF hM hg
  go_wp2
  rw [HWF.out];refine bodyPost_ret (v:=.agg #[.int .i64 (n:Int),.slice (some ⟨G,0,none⟩) m m]) ?_ rfl ⟨G,rfl,HGG.out.stays HMF.out.stays (fun e=>oG e),by omega,?_⟩
  · simp [results,Tryz.f235,go_sem,p0,p1]
  have h1:=HMV.out.below (B:=w.heap.size) (by omega) (by rintro k (h | h);omega;have:=sX _ h;omega)
  exact (HB.out.trans h1).trans (HMF.out.below (by have:=HMV.out.size;omega) (fun k e=>by omega))
end
section
open Go.RowKit Go.Shelf
theorem assign_hide {F:Fence} {n:Nat} {P:Program} {c:Code} {a:Act} {w:World} {K:Act→World→Prop} {R:Exit→Act→World→Prop} (h:∀ KK:Act→World→Prop,Shut (∀ b W1,K b W1→KK b W1)→c.wpIn F n P (Exit.then KK R) a w):c.wpIn F n P (Exit.then K R) a w:=h K (fun _ _ h=>h)
theorem body_hide {F:Fence} {n:Nat} {P:Program} {c:Code} {a:Act} {w:World} {Q:Exit→Act→World→Prop} (h:∀ QQ:Exit→Act→World→Prop,Shut (∀ e b W1,Q e b W1→QQ e b W1)→c.wpIn F n P QQ a w):c.wpIn F n P Q a w:=h Q (fun _ _ _ h=>h)
structure NxtI (w:World) (Go m:Nat) (F S:Rat) (v4 v5:Value) (PR:Nat→Prop) (out:List Rat) (X1 X2:Nat→Prop) (W:World):Prop where
 s1:ShSt W v4 F X1
 s2:ShSt W v5 S X2
 gr:GridAt W Go m m (fun i=>out.getD i 0)
 len:out.length=m
 dj:∀ k,X1 k→¬ X2 k
 pr:∀ k,PR k→k<W.heap.size∧¬ X1 k∧¬ X2 k
 go:PR Go
 lo:∀ k,X1 k∨X2 k→w.heap.size≤k
 bw:Below w.heap.size w W
variable {w W W':World} {Go m:Nat} {F S:Rat} {v4 v5:Value} {PR X1 X2 Y:Nat→Prop} {out:List Rat}
theorem NxtI.stays (h:NxtI w Go m F S v4 v5 PR out X1 X2 W) (hs:Stays Y W W') (h1:∀ k,Y k→¬ X1 k∧¬ X2 k∧k≠Go) (hb:Below w.heap.size w W'):NxtI w Go m F S v4 v5 PR out X1 X2 W' :=
 ⟨h.s1.stays hs (fun k hk hy=>(h1 k hy).1 hk),h.s2.stays hs (fun k hk hy=>(h1 k hy).2.1 hk),h.gr.stays hs (fun hy=>(h1 Go hy).2.2 rfl),h.len,h.dj,fun k hk=>⟨nLt (h.pr k hk).1 hs.size,(h.pr k hk).2⟩,h.go,h.lo,hb⟩
theorem NxtI.past (h:NxtI w Go m F S v4 v5 PR out X1 X2 W) (hb:Below W.heap.size W W'):NxtI w Go m F S v4 v5 PR out X1 X2 W' :=
 h.stays (Y:=fun _=>False) (.ofBelow hb) (fun _ h=>h.elim) (bLt h.bw hb)
theorem NxtI.turn {l:Nat} {o:Obj} (o':Obj) (h:NxtI w Go m F S v4 v5 PR out X1 X2 W) (hl:W.heap[l]? = some o) (ho:o.isCells=false) (hB:w.heap.size≤l):NxtI w Go m F S v4 v5 PR out X1 X2 (W.putObj l o') :=
 h.stays (Y:=fun _=>False) (.turn o' hl ho) (fun _ h=>h.elim) (h.bw.trans (below_put o' hB))
theorem NxtI.more (h:NxtI w Go m F S v4 v5 PR out X1 X2 W) (hb:Below W.heap.size W W') {b:Nat} (hb1:W.heap.size≤b) (hb2:b<W'.heap.size):NxtI w Go m F S v4 v5 (fun k=>PR k∨k=b) out X1 X2 W':=by
 have h2:=h.past hb;refine ⟨h2.s1,h2.s2,h2.gr,h2.len,h2.dj,fun k hk => ?_,.inl h2.go,h2.lo,h2.bw⟩;rcases hk with hk | rfl
 · exact h2.pr k hk
 exact ⟨hb2,fun e=>by have:=h.s1.lt _ e;omega,fun e=>by have:=h.s2.lt _ e;omega⟩
theorem NxtI.less {PR':Nat→Prop} (h:NxtI w Go m F S v4 v5 PR out X1 X2 W) (hp:∀ k,PR' k→PR k) (hg:PR' Go):NxtI w Go m F S v4 v5 PR' out X1 X2 W :=
 ⟨h.s1,h.s2,h.gr,h.len,h.dj,fun k hk=>h.pr k (hp k hk),hg,h.lo,h.bw⟩
theorem NxtI.call1 {X1':Nat→Prop} (h:NxtI w Go m F S v4 v5 PR out X1 X2 W) (hs:ShSt W' v4 F X1') (hn:∀ k,k<W.heap.size→X1' k→X1 k) (hm:Moves X1 W W'):NxtI w Go m F S v4 v5 PR out X1' X2 W':=by
 have hlt:∀ k,k<W.heap.size∨W.heap.size≤k:=fun k=>Nat.lt_or_ge k _
 refine ⟨hs,h.s2.stays hm.stays (fun k hk hy=>h.dj k hy hk),h.gr.stays hm.stays (h.pr Go h.go).2.1,h.len,fun k hk hy => ?_,fun k hk=>⟨nLt (h.pr k hk).1 hm.size,fun e=>(h.pr k hk).2.1 (hn k (h.pr k hk).1 e),(h.pr k hk).2.2⟩,h.go,fun k hk => ?_,h.bw.trans (hm.below h.bw.size (fun k hk=>h.lo k (.inl hk)))⟩
 · exact h.dj k (hn k (h.s2.lt k hy) hk) hy
 rcases hk with hk | hk
 · rcases hlt k with h9 | h9
   · exact h.lo k (.inl (hn k h9 hk))
   have:=h.bw.size;omega
 exact h.lo k (.inr hk)
theorem NxtI.call2 {X2':Nat→Prop} (h:NxtI w Go m F S v4 v5 PR out X1 X2 W) (hs:ShSt W' v5 S X2') (hn:∀ k,k<W.heap.size→X2' k→X2 k) (hm:Moves X2 W W'):NxtI w Go m F S v4 v5 PR out X1 X2' W':=by
 have hlt:∀ k,k<W.heap.size∨W.heap.size≤k:=fun k=>Nat.lt_or_ge k _
 refine ⟨h.s1.stays hm.stays (fun k hk hy=>h.dj k hk hy),hs,h.gr.stays hm.stays (h.pr Go h.go).2.2,h.len,fun k hk hy => ?_,fun k hk=>⟨nLt (h.pr k hk).1 hm.size,(h.pr k hk).2.1,fun e=>(h.pr k hk).2.2 (hn k (h.pr k hk).1 e)⟩,h.go,fun k hk => ?_,h.bw.trans (hm.below h.bw.size (fun k hk=>h.lo k (.inr hk)))⟩
 · exact h.dj k hk (hn k (h.s1.lt k hk) hy)
 rcases hk with hk | hk
 · exact h.lo k (.inl hk)
 rcases hlt k with h9 | h9
 · exact h.lo k (.inr (hn k h9 hk))
 have:=h.bw.size;omega
theorem NxtI.store {out':List Rat} (h:NxtI w Go m F S v4 v5 PR out X1 X2 W) (hg:GridAt W' Go m m (fun i=>out'.getD i 0)) (hl:out'.length=m) (hm:Moves (fun k=>k=Go) W W') (hGo:w.heap.size≤Go):NxtI w Go m F S v4 v5 PR out' X1 X2 W' :=
 ⟨h.s1.stays hm.stays (fun k hk hy=>(h.pr Go h.go).2.1 (hy ▸ hk)),h.s2.stays hm.stays (fun k hk hy=>(h.pr Go h.go).2.2 (hy ▸ hk)),hg,hl,h.dj,fun k hk=>⟨nLt (h.pr k hk).1 hm.size,(h.pr k hk).2⟩,h.go,h.lo,h.bw.trans (hm.below h.bw.size (fun k hk=>by omega))⟩
structure NxtC (bo BT B4 B5 n m Go:Nat) (f4 f5:Value) (W:World):Prop where
 t0:W.cell? ⟨BT,0,none⟩=some (.int .i64 (n:Int))
 t1:W.cell? ⟨BT,1,none⟩=some (.slice (some ⟨Go,0,none⟩) m m)
 c4:W.cell? ⟨B4,0,none⟩=some f4
 c5:W.cell? ⟨B5,0,none⟩=some f5
 xo:BoxAt W bo 2
theorem NxtC.stays {bo BT B4 B5 n m Go:Nat} {f4 f5:Value} {Y:Nat→Prop} {W W':World} (h:NxtC bo BT B4 B5 n m Go f4 f5 W) (hs:Stays Y W W') (h1:¬ Y bo) (h2:¬ Y BT) (h3:¬ Y B4) (h4:¬ Y B5):NxtC bo BT B4 B5 n m Go f4 f5 W' :=
 ⟨hs.cell h2 h.t0,hs.cell h2 h.t1,hs.cell h3 h.c4,hs.cell h4 h.c5,hs.box h1 h.xo⟩
theorem NxtC.past {bo BT B4 B5 n m Go:Nat} {f4 f5:Value} {W W':World} (h:NxtC bo BT B4 B5 n m Go f4 f5 W) (hb:Below W.heap.size W W'):NxtC bo BT B4 B5 n m Go f4 f5 W':=h.stays (Y:=fun _=>False) (.ofBelow hb) id id id id
end
section
open Go.RowKit Go.Shelf
attribute [local go_sem] Oper.semAt_some
def ShV (q:Rat) (y:Value) (Z:Nat→Prop) (w:World):Prop:=∃ b6 b1 b3,y = .func (.func 253) #[] #[.pointer (some ⟨b6,0,none⟩),.pointer (some ⟨b1,0,none⟩),.pointer (some ⟨b3,0,none⟩)]∧ShSt w (shF b6 b1 b3) q Z
theorem ShV.stays {q:Rat} {y:Value} {Y Z:Nat→Prop} {w w':World} (h:ShV q y Z w) (hs:Stays Y w w') (hz:∀ k,Z k→¬ Y k):ShV q y Z w':=by
 obtain ⟨b6,b1,b3,e,h⟩:=h;exact ⟨b6,b1,b3,e,h.stays hs hz⟩
theorem ShV.past {q:Rat} {y:Value} {Z:Nat→Prop} {w w':World} (h:ShV q y Z w) (hb:Below w.heap.size w w'):ShV q y Z w':=h.stays (Y:=fun _=>False) (.ofBelow hb) (fun _ _=>id)
theorem geq {B g k:Nat} (h:B≤g) (e:k=g):B≤k:=by omega
theorem ltq {B g k:Nat} (h:g<B) (e:k=g):k<B:=by omega
theorem pair_one (u:Nat) (w:World) (hu:0<u) (hu2:u≤20):Calls Tryz.prog 55 #[.int .i64 1,.int .i64 (u:Int)] w (RetOk w (mkRat 1 u)) :=
 pair_ok (x:=1) (y:=(u:Int)) (q:=mkRat 1 u) (by omega) (pr_pos hu) w (by decide) (by omega)
theorem free_any (a:Option Addr) (l c:Nat) (zs:List Int) (k u:Nat) (w:World) (g:IntsAt w a l c zs) (hok:okT zs (k:Int)) (hk1:1≤k) (hk:k≤20) (hu:u≤k) (hu1:1≤u) :
 Calls Tryz.prog 247 #[.slice a l c,.int .i64 (k:Int),.int .i64 (u:Int)] w (RetOk w (freeR zs k u)):=by
 by_cases hc:cloudR zs k u=0
 · refine (Free_none a l c zs k u w g hok hk1 hk hu hu1 hc).mono ?_;intro e w' h;have e0:freeR zs k u=0:=by unfold freeR;rw [hc,Rat.div_def,Rat.inv_zero,Rat.mul_zero]
   rw [e0];exact h
 exact Free_ok a l c zs k u w g hok hk1 hk hu (by have:=mt (cloud_one (zs:=zs) (k:=k) (u:=u)) hc;omega) hc
theorem next_any (a:Option Addr) (l c:Nat) (zs:List Int) (k u n m Gi:Nat) (F S:Rat) (L:List Rat) (w:World) (g:IntsAt w a l c zs) (hgi:GridAt w Gi m m (fun i=>L.getD i 0)) (hok:okT zs (k:Int)) (hk1:1≤k) (hk:k≤20) (hu1:1≤u) (hu:u≤k) (hn:n≤999) (hm:m=(n+1)*(n+1)) (hF:freeR zs k u=F) (hS:mkRat 1 u=S) (hq:(rlen F≤1048576∧rlen (1-F)≤1048576)∧(rlen S≤1048576∧rlen (1-S)≤1048576))
 (hL:∀ i,rlen (L.getD i 0)≤300000) (hFs:∀ c a,a≤c→c≤n→rlen (shareQ F c a)≤300000) (hSs:∀ r b,b≤r→r≤n→rlen (shareQ S r b)≤300000) (hPw:∀ j,j≤n→(rlen (F ^ j)≤1048576∧rlen ((1-F) ^ j)≤1048576)∧(rlen (S ^ j)≤1048576∧rlen ((1-S) ^ j)≤1048576))
 (hTri:∀ i,i<m→L.getD i 0≠0→i/(n+1)+i % (n+1)≤n) (hOut:∀ i a b j,i<m→a≤i/(n+1)→b≤i % (n+1)→rlen ((rowB S (L.getD i 0) (shareQ F (i/(n+1)) a) n (i/(n+1)) (i % (n+1)) a b (rowA F S (L.getD i 0) n (i/(n+1)) (i % (n+1)) a (nextL F S n L i))).getD j 0)≤1048576) :
 Calls Tryz.prog 236 #[.agg #[.int .i64 (n:Int),.slice (some ⟨Gi,0,none⟩) m m],.slice a l c,.int .i64 (k:Int),.int .i64 (u:Int)] w (RetGr w n m (fun i=>(nextG F S n L).getD i 0)):=by
 have HFR:=hiD (fun (w:World) (g:IntsAt w a l c zs)=>hF ▸ free_any a l c zs k u w g hok hk1 hk hu hu1);have HPR:=hiD (fun (w:World)=>hS ▸ pair_one u w hu1 (by omega));have hm1:0<m:=by rw [hm];exact Nat.mul_pos (by omega) (by omega)
 have hGi:=hgi.lt hm1;have HM:=hiD hm;have HN:=hiD hn;have HQ:=hiD hq;have HLL:=hiD hL;have HFS:=hiD hFs;have HSS:=hiD hSs;have HPW:=hiD hPw;have HOUT:=hiD hOut;have HTRI:=hiD hTri;clear hq hL hFs hSs hPw hOut hTri;have HWZ:=hiD whole_zero;obtain ⟨Z,hZ0⟩:∃ Z:Rat,(0:Rat)=Z:=⟨_,rfl⟩;rw [hZ0] at HWZ;have HZ:=hiD hZ0;clear hok hk1 hk hu1 hu hm hn hF hS hZ0;refine (callsIn_wide (n:=3)).1 ?_;refine callsIn_of_wp_marks Tryz.func236 rfl trivial ?_ rfl;simp only [Tryz.ntmps236,List.size_toArray,List.length_cons,List.length_nil,Nat.reduceAdd,Nat.reduceSub,Array.replicate_succ,Array.replicate_zero,List.push_toArray,List.append_toArray,List.nil_append,List.cons_append];refine wpIn_wide.2 ?_;have hB:=bRf w.heap.size w
 go_wp2_with fail
 obtain ⟨w1,hW,hz0,hb,q,f⟩:=box1g w (w.heap.size) (by omega) #[.int .i64 (n:Int),.slice (some ⟨Gi,0,none⟩) m m] 221;rw [hW];clear hW;have g:=g.past hb;have hgi:=hgi.past hb;have hB:=bLt hB hb;clear hb;have li:w.heap.size<w1.heap.size:=by omega
 have qi0:=q 0;have qi1:=q 1;simp only [lgA,lgZ,lgS] at qi0 qi1;clear q f;obtain ⟨w2,hW,hz1,hb,q,f⟩:=box1g w1 (w.heap.size+1) (by omega) #[.int .i64 0,.slice none 0 0] 221;rw [hW];clear hW;have g:=g.past hb;have hgi:=hgi.past hb;obtain ⟨qi0,qi1,li⟩:=bq2 hb li qi0 qi1;have hB:=bLt hB hb;clear hb;have lo:w.heap.size+1<w2.heap.size:=by omega
 have qo0:=q 0;have qo1:=q 1;simp only [lgA,lgZ,lgS] at qo0 qo1;have xo:BoxAt w2 (w.heap.size+1) 2:=BoxAt.of q f rfl (by simp [notU_bool,notU_slice,notU_i64]);clear q f;clear hz0;clear hz1;have hXl0:∀ k,(fun _:Nat=>False) k→k<w2.heap.size:=fun _ h=>h.elim
 refine wp_region_invA (by kernel_rfl) rfl (by kernel_rfl) (fun A0 V0 dd aa ww=>∃ (X:Nat→Prop) (Z3:Nat→Prop) (y26 y27 y28 y29 y9:Value),aa=puts A0 [(26,y26),(27,y27),(28,y28),(29,y29),(9,y9)]∧Moves (fun _=>False) V0 ww∧(∀ k,k<V0.heap.size→X k→(fun _=>False) k)∧(∀ k,X k→k<ww.heap.size)∧Shut (dd 0=true→y26 = .pointer (some ⟨w.heap.size,0,none⟩))∧Shut (dd 1=true→y27 = .int .i64 (n:Int))∧Shut (dd 2=true→RatNV (Z) y28 ww)∧Shut (dd 3=true→GrV n m (fun _=>Z) y29 Z3 ww∧∀ k,Z3 k→X k)∧Shut (dd 4=true→BoxK V0.heap.size 2 X y9 ww)∧Shut (dd 5=true→Box2 V0.heap.size X y9 y29 ww)) ?_ ?_ ?_
 · exact ⟨(fun _=>False),(fun _=>False),_,_,_,_,_,puts_self _ [26,27,28,29,9],Moves.drew _ _,fun _ _ h=>h,hXl0,nf,nf,nf,nf,nf,nf⟩
 · refine Steps.cons ?_ (Steps.cons ?_ (Steps.cons ?_ (Steps.cons ?_ (Steps.cons ?_ (Steps.cons ?_ (Steps.nil))))))
   all_goals (intro dd aa ww K hc hun hn hI hK;obtain ⟨X,Z3,y26,y27,y28,y29,y9,ea,hM,hXX,hXl,f0,f1,f2,f3,f4,f5⟩:=hI;subst ea;simp only [pu])
   · go_simp;exact hK.out _ _ ⟨X,Z3,_,_,_,_,_,by simp only [pu]<;>rfl,hM,hXX,hXl,fun _=>rfl,uo f1,uo f2,uo f3,uo f4,uo f5⟩
   · obtain rfl:=f0.out (hc.see hn);have e0:=(hM.stays.cell id qi0);go_simp;exact hK.out _ _ ⟨X,Z3,_,_,_,_,_,by simp only [pu]<;>rfl,hM,hXX,hXl,fun h=>rfl,fun _=>rfl,uo f2,uo f3,uo f4,uo f5⟩
   · go_simp
     with_reducible refine (HWZ.out _).mono ?_
     rintro e w1 ⟨ahZU,nhZU,chZU,ahZD,nhZD,chZD,rfl,hZU,hZD,h1⟩;have hZU:=hZU.toNatAt;have hZD:=hZD.toNatAt;have hm1:Moves X ww w1:=.ofBelow h1;have hgo:Goes X X ww w1:=.below h1;exact hK.out _ _ ⟨X,Z3,_,_,_,_,_,by simp only [pu]<;>rfl,hM.then hm1 hXX,hXX,(fun k hk=>nLt (hXl k hk) hm1.size),uo f0,uo f1,fun _=>⟨_,_,_,_,_,_,rfl,hZU,hZD⟩,hc.a hun,fun h=>(f4.out (upd_of rfl h)).goes hgo,hc.a hun⟩
   · obtain rfl:=f1.out (hc.see hn);obtain ⟨ahZU,nhZU,chZU,ahZD,nhZD,chZD,ex,hZU,hZD⟩:=f2.out (hc.see hn);subst ex;go_simp;refine (made_any n m Z _ _ _ _ _ _ ww (by have:=HN.out;omega) HM.out hZU hZD).mono ?_;rintro e w1 ⟨Go,rfl,hg3,hG3,h1⟩;have hm1:Moves X ww w1:=.ofBelow h1;have hgo:Goes X (fun k=>X k∨(fun k=>k=Go) k) ww w1:=⟨.ofBelow h1,fun k hk h=>h.elim id (fun h=>absurd hk (Nat.not_lt.2 ((fun k h=>geq hG3 h) k h)))⟩;exact hK.out _ _ ⟨(fun k=>X k∨(fun k=>k=Go) k),(fun k=>k=Go),_,_,_,_,_,by simp only [pu]<;>rfl,hM.then hm1 hXX,(fun k hk h=>hXX k hk (hgo.new k (nLt hk hM.size) h)),(fun k hk=>hk.elim (fun h=>nLt (hXl k h) h1.size) ((fun k h=>ltq (hg3.lt (by rw [HM.out];exact Nat.mul_pos (by omega) (by omega))) h) k)),uo f0,fun h=>rfl,fun h=>(f2.out (upd_of rfl h)).calm hgo.st,fun _=>⟨⟨Go,rfl,hg3,fun _=>Iff.rfl⟩,fun _ h => .inr h⟩,fun h=>(f4.out (upd_of rfl h)).goes hgo,hc.a hun⟩
   · go_simp;exact hK.out _ _ ⟨X,Z3,_,_,_,_,_,by simp only [pu]<;>rfl,hM.then (Moves.alloc X ww _) hXX,hXX,(fun k hk=>nLt (hXl k hk) (by simp)),uo f0,uo f1,fun h=>(f2.out (upd_of rfl h)).calm (Goes.alloc X ww _).st,fun h=>let q:=(f3.out (upd_of rfl h));⟨q.1.past ((bRf _ _).alloc (nRf _) _),q.2⟩,fun _=>BoxK.new _ _ rfl (by simp [notU_func,notU_nil,notU_i64,notU_slice,notU_bool]) hM.size hXl,hc.a hun⟩
   obtain ⟨B4,ex,bB4,oB4,lB4,nB4⟩:=f4.out (hc.see hn);subst ex;obtain ⟨⟨Go,ex,hg3,iff3⟩,uZ3⟩:=f3.out (hc.see hn);subst ex;obtain ⟨v0,v1,s0,s1,s2,s3,_,_⟩:=bB4.two;go_simp;have hst:=store2B bB4 (v:=.int .i64 (n:Int)) (u:=.slice (some ⟨Go,0,none⟩) m m) (notU_i64 _) (notU_slice _ _ _);exact hK.out _ _ ⟨X,Z3,_,_,_,_,_,by simp only [pu]<;>rfl,hM.then hst.2.2.2 (fun k hk e=>absurd (e ▸ hk:B4<_) (Nat.not_lt.2 oB4)),hXX,(fun k hk=>by simpa using hXl k hk),uo f0,uo f1,fun h=>(f2.out (upd_of rfl h)).calm hst.2.2.2.stays,fun h=>let q:=(f3.out (upd_of rfl h));⟨q.1.stays hst.2.2.2.stays (fun k hk e=>nB4 (e ▸ q.2 k hk)),q.2⟩,fun _=>⟨_,rfl,hst.1,oB4,by simpa using lB4,nB4⟩,fun _=>⟨_,_,_,rfl,rfl,hst.1,oB4,by simpa using lB4,nB4,hst.2.1,hst.2.2.1⟩⟩
 intro dd aa W1 hd hI;obtain ⟨X,Z3,y26,y27,y28,y29,y9,ea,hM,hXX,hXl,f0,f1,f2,f3,f4,f5⟩:=hI;obtain rfl:=f0.out (hd 0 (by simp));obtain rfl:=f1.out (hd 1 (by simp));obtain ⟨ahZU,nhZU,chZU,ahZD,nhZD,chZD,ex,hZU,hZD⟩:=f2.out (hd 2 (by simp));subst ex;obtain ⟨⟨Go,ex,hg3,iff3⟩,uZ3⟩:=f3.out (hd 3 (by simp));subst ex;obtain ⟨B4,x0,x1,ex,ex2,bB4,oB4,lB4,nB4,q40,q41⟩:=f5.out (hd 5 (by simp));subst ex;cases ex2;subst ea;simp only [pu];have hb1:Below w2.heap.size w2 W1:=hM.below (nRf _) (fun _ h=>h.elim);have hB:=bLt hB hb1;have g:=g.past hb1;have hgi:=hgi.past hb1;have qi0:=bq hb1 li qi0;have qi1:=bq hb1 li qi1;have xo:=xo.past hb1 lo;have hGo:Go<W1.heap.size:=hg3.lt hm1;have hGo4:Go≠B4:=fun e=>nB4 (e ▸ uZ3 Go ((iff3 Go).2 rfl))
 have hGo2:w2.heap.size≤Go:=by
  rcases Nat.lt_or_ge Go w2.heap.size with h | h
  · exact (hXX Go h (uZ3 Go ((iff3 Go).2 rfl))).elim
  exact h
 have li1:=nLt li hb1.size;have lo1:=nLt lo hb1.size;have hni:(w.heap.size)<Go:=by omega
 have hno:(w.heap.size+1)<Go:=by omega
 have hni4:(w.heap.size)<B4:=by omega
 clear hM hXX hXl hXl0 hb1 li lo;have li:=li1;have lo:=lo1;obtain ⟨BT,rfl⟩:∃ BT,BT=B4:=⟨_,rfl⟩;have q40:W1.cell? ⟨BT,0,none⟩=some (.int .i64 (n:Int)):=q40;have q41:W1.cell? ⟨BT,1,none⟩=some (.slice (some ⟨Go,0,none⟩) m m):=q41;have qt0:=q40;have qt1:=q41;have lt:=lB4;clear q40 q41 lB4
 go_wp2_with fail
 with_reducible refine (HFR.out _ g).mono ?_
 rintro e w21 ⟨ahFU,nhFU,chFU,ahFD,nhFD,chFD,rfl,hFU,hFD,hb⟩;have hgi:=hgi.past hb;have hg3:=hg3.past hb;obtain ⟨qi0,qi1,li⟩:=bq2 hb li qi0 qi1;obtain ⟨qt0,qt1,lt⟩:=bq2 hb lt qt0 qt1;have xo:=xo.past hb lo;have lo:=bl hb lo;have hB:=bLt hB hb;clear hb
 go_wp2_with fail
 obtain ⟨w22,hW,hz0,hb,q,f⟩:=box1g w21 (w21.heap.size) (by omega) #[.bool (neg (F).num),.slice ahFU nhFU chFU,.slice ahFD nhFD chFD] 28;rw [hW];clear hW;have hgi:=hgi.past hb;have hg3:=hg3.past hb;have hFU:=hFU.past hb;have hFD:=hFD.past hb;obtain ⟨qi0,qi1,li⟩:=bq2 hb li qi0 qi1;obtain ⟨qt0,qt1,lt⟩:=bq2 hb lt qt0 qt1;have xo:=xo.past hb lo;have lo:=bl hb lo;have hB:=bLt hB hb;clear hb;have lf:w21.heap.size<w22.heap.size:=by omega
 have qf0:=q 0;have qf1:=q 1;have qf2:=q 2;simp only [lgA,lgZ,lgS] at qf0 qf1 qf2;clear q f;clear hz0
 with_reducible refine (HPR.out _).mono ?_
 rintro e w23 ⟨ahSU,nhSU,chSU,ahSD,nhSD,chSD,rfl,hSU,hSD,hb⟩;have hgi:=hgi.past hb;have hg3:=hg3.past hb;have hFU:=hFU.past hb;have hFD:=hFD.past hb;obtain ⟨qi0,qi1,li⟩:=bq2 hb li qi0 qi1;obtain ⟨qt0,qt1,lt⟩:=bq2 hb lt qt0 qt1;have xo:=xo.past hb lo;have lo:=bl hb lo;obtain ⟨qf0,qf1,qf2,lf⟩:=bq3 hb lf qf0 qf1 qf2;have hB:=bLt hB hb;clear hb
 go_wp2_with fail
 obtain ⟨w24,hW,hz0,hb,q,f⟩:=box1g w23 (w23.heap.size) (by omega) #[.bool (neg (S).num),.slice ahSU nhSU chSU,.slice ahSD nhSD chSD] 28;rw [hW];clear hW;have hgi:=hgi.past hb;have hg3:=hg3.past hb;have hFU:=hFU.past hb;have hFD:=hFD.past hb;have hSU:=hSU.past hb;have hSD:=hSD.past hb;obtain ⟨qi0,qi1,li⟩:=bq2 hb li qi0 qi1;obtain ⟨qt0,qt1,lt⟩:=bq2 hb lt qt0 qt1;have xo:=xo.past hb lo;have lo:=bl hb lo;obtain ⟨qf0,qf1,qf2,lf⟩:=bq3 hb lf qf0 qf1 qf2;have hB:=bLt hB hb;clear hb;have ls:w23.heap.size<w24.heap.size:=by omega
 have qs0:=q 0;have qs1:=q 1;have qs2:=q 2;simp only [lgA,lgZ,lgS] at qs0 qs1 qs2;clear q f;clear hz0;have hXl0:∀ k,(fun _:Nat=>False) k→k<w24.heap.size:=fun _ h=>h.elim
 have hGoV:=hg3.lt hm1;have hFU:=hFU.toNatAt;have hFD:=hFD.toNatAt;have hSU:=hSU.toNatAt;have hSD:=hSD.toNatAt;refine wp_region_invA (by kernel_rfl) rfl (by kernel_rfl) (fun A0 V0 dd aa ww=>∃ (X:Nat→Prop) (Z1:Nat→Prop) (Z2:Nat→Prop) (y42 y43 y44 y45 y14 y15:Value),aa=puts A0 [(42,y42),(43,y43),(44,y44),(45,y45),(14,y14),(15,y15)]∧Moves (fun _=>False) V0 ww∧(∀ k,k<V0.heap.size→X k→(fun _=>False) k)∧(∀ k,X k→k<ww.heap.size)∧Shut (dd 0=true→y42 = .agg #[.bool (neg (F).num),.slice ahFU nhFU chFU,.slice ahFD nhFD chFD])∧Shut (dd 1=true→ShV F y43 Z1 ww∧∀ k,Z1 k→X k)∧Shut (dd 2=true→y44 = .agg #[.bool (neg (S).num),.slice ahSU nhSU chSU,.slice ahSD nhSD chSD])∧Shut (dd 3=true→ShV S y45 Z2 ww∧∀ k,Z2 k→X k)∧Shut (dd 4=true→BoxK V0.heap.size 1 X y14 ww)∧Shut (dd 5=true→BoxK V0.heap.size 1 X y15 ww)∧Shut (dd 6=true→BoxS V0.heap.size X y14 y43 ww)∧Shut (dd 7=true→BoxS V0.heap.size X y15 y45 ww)∧Shut (dd 1=true→dd 3=true→∀ k,Z1 k→¬ Z2 k)∧Shut (dd 4=true→dd 5=true→y14≠y15)) ?_ ?_ ?_
 · exact ⟨(fun _=>False),(fun _=>False),(fun _=>False),_,_,_,_,_,_,puts_self _ [42,43,44,45,14,15],Moves.drew _ _,fun _ _ h=>h,hXl0,nf,nf,nf,nf,nf,nf,nf,nf,nf,nf⟩
 · refine Steps.cons ?_ (Steps.cons ?_ (Steps.cons ?_ (Steps.cons ?_ (Steps.cons ?_ (Steps.cons ?_ (Steps.cons ?_ (Steps.cons ?_ (Steps.nil))))))))
   all_goals (intro dd aa ww K hc hun hn hI hK;obtain ⟨X,Z1,Z2,y42,y43,y44,y45,y14,y15,ea,hM,hXX,hXl,f0,f1,f2,f3,f4,f5,f6,f7,p0,p1⟩:=hI;subst ea;simp only [pu])
   · have e0:=(hM.stays.cell id qf0);have e1:=(hM.stays.cell id qf1);have e2:=(hM.stays.cell id qf2);go_simp;exact hK.out _ _ ⟨X,Z1,Z2,_,_,_,_,_,_,by simp only [pu]<;>rfl,hM,hXX,hXl,fun _=>rfl,uo f1,uo f2,uo f3,uo f4,uo f5,uo f6,uo f7,fun h h2=>p0.out (upd_of rfl h) (upd_of rfl h2),fun h h2=>p1.out (upd_of rfl h) (upd_of rfl h2)⟩
   · obtain rfl:=f0.out (hc.see hn);go_simp;refine (shares_any F _ _ _ _ _ _ ww (hFU.stays hM.stays) (hFD.stays hM.stays) HQ.out.1.1).mono ?_;rintro e w1 ⟨b6f,b1f,b3f,ZZ,rfl,hsf,hZf,h1⟩;simp only [shF];have hm1:Moves X ww w1:=.ofBelow h1;have hgo:Goes X (fun k=>X k∨(ZZ) k) ww w1:=⟨.ofBelow h1,fun k hk h=>h.elim id (fun h=>absurd hk (Nat.not_lt.2 (hZf k h)))⟩;exact hK.out _ _ ⟨(fun k=>X k∨(ZZ) k),(ZZ),Z2,_,_,_,_,_,_,by simp only [pu]<;>rfl,hM.then hm1 hXX,(fun k hk h=>hXX k hk (hgo.new k (nLt hk hM.size) h)),(fun k hk=>hk.elim (fun h=>nLt (hXl k h) h1.size) (hsf.lt k)),fun h=>rfl,fun _=>⟨⟨b6f,b1f,b3f,rfl,hsf⟩,fun _ h => .inr h⟩,uo f2,fun h=>let q:=(f3.out (upd_of rfl h));⟨q.1.past h1,fun k hk => .inl (q.2 k hk)⟩,fun h=>(f4.out (upd_of rfl h)).goes hgo,fun h=>(f5.out (upd_of rfl h)).goes hgo,hc.a hun,hc.a hun,fun _ h=>absurd (hc.reach (f:=20) (s:=3) (l:=1) (by kernel_rfl) (upd_of rfl h)) (by rw [hun];decide),fun h h2=>p1.out (upd_of rfl h) (upd_of rfl h2)⟩
   · have e0:=(hM.stays.cell id qs0);have e1:=(hM.stays.cell id qs1);have e2:=(hM.stays.cell id qs2);go_simp;exact hK.out _ _ ⟨X,Z1,Z2,_,_,_,_,_,_,by simp only [pu]<;>rfl,hM,hXX,hXl,uo f0,uo f1,fun _=>rfl,uo f3,uo f4,uo f5,uo f6,uo f7,fun h h2=>p0.out (upd_of rfl h) (upd_of rfl h2),fun h h2=>p1.out (upd_of rfl h) (upd_of rfl h2)⟩
   · obtain rfl:=f2.out (hc.see hn);go_simp;refine (shares_any S _ _ _ _ _ _ ww (hSU.stays hM.stays) (hSD.stays hM.stays) HQ.out.2.1).mono ?_;rintro e w1 ⟨b6s,b1s,b3s,ZZ,rfl,hss,hZs,h1⟩;simp only [shF];have hm1:Moves X ww w1:=.ofBelow h1;have hgo:Goes X (fun k=>X k∨(ZZ) k) ww w1:=⟨.ofBelow h1,fun k hk h=>h.elim id (fun h=>absurd hk (Nat.not_lt.2 (hZs k h)))⟩;exact hK.out _ _ ⟨(fun k=>X k∨(ZZ) k),Z1,(ZZ),_,_,_,_,_,_,by simp only [pu]<;>rfl,hM.then hm1 hXX,(fun k hk h=>hXX k hk (hgo.new k (nLt hk hM.size) h)),(fun k hk=>hk.elim (fun h=>nLt (hXl k h) h1.size) (hss.lt k)),uo f0,fun h=>let q:=(f1.out (upd_of rfl h));⟨q.1.past h1,fun k hk => .inl (q.2 k hk)⟩,fun h=>rfl,fun _=>⟨⟨b6s,b1s,b3s,rfl,hss⟩,fun _ h => .inr h⟩,fun h=>(f4.out (upd_of rfl h)).goes hgo,fun h=>(f5.out (upd_of rfl h)).goes hgo,hc.a hun,hc.a hun,fun h _ k hk hz=>absurd (hXl k ((f1.out (upd_of rfl h)).2 k hk)) (Nat.not_lt.2 (hZs k hz)),fun h h2=>p1.out (upd_of rfl h) (upd_of rfl h2)⟩
   · go_simp;exact hK.out _ _ ⟨X,Z1,Z2,_,_,_,_,_,_,by simp only [pu]<;>rfl,hM.then (Moves.alloc X ww _) hXX,hXX,(fun k hk=>nLt (hXl k hk) (by simp)),uo f0,fun h=>let q:=(f1.out (upd_of rfl h));⟨q.1.past ((bRf _ _).alloc (nRf _) _),q.2⟩,uo f2,fun h=>let q:=(f3.out (upd_of rfl h));⟨q.1.past ((bRf _ _).alloc (nRf _) _),q.2⟩,fun _=>BoxK.new _ _ rfl (by simp [notU_func,notU_nil,notU_i64,notU_slice,notU_bool]) hM.size hXl,fun h=>(f5.out (upd_of rfl h)).goes (Goes.alloc X ww _),hc.a hun,hc.a hun,fun h h2=>p0.out (upd_of rfl h) (upd_of rfl h2),fun _ h=>(f5.out (upd_of rfl h)).ne.symm⟩
   · go_simp;exact hK.out _ _ ⟨X,Z1,Z2,_,_,_,_,_,_,by simp only [pu]<;>rfl,hM.then (Moves.alloc X ww _) hXX,hXX,(fun k hk=>nLt (hXl k hk) (by simp)),uo f0,fun h=>let q:=(f1.out (upd_of rfl h));⟨q.1.past ((bRf _ _).alloc (nRf _) _),q.2⟩,uo f2,fun h=>let q:=(f3.out (upd_of rfl h));⟨q.1.past ((bRf _ _).alloc (nRf _) _),q.2⟩,fun h=>(f4.out (upd_of rfl h)).goes (Goes.alloc X ww _),fun _=>BoxK.new _ _ rfl (by simp [notU_func,notU_nil,notU_i64,notU_slice,notU_bool]) hM.size hXl,hc.a hun,hc.a hun,fun h h2=>p0.out (upd_of rfl h) (upd_of rfl h2),fun h _=>(f4.out (upd_of rfl h)).ne⟩
   · obtain ⟨B4,ex,bB4,oB4,lB4,nB4⟩:=f4.out (hc.see hn);subst ex;obtain ⟨⟨b6f,b1f,b3f,ex,hsf⟩,uZ1⟩:=f1.out (hc.see hn);subst ex;obtain ⟨v0,s0,s1,_⟩:=bB4.one;go_simp;have hst:=store1B bB4 (v:=.func (.func 253) #[] #[.pointer (some ⟨b6f,0,none⟩),.pointer (some ⟨b1f,0,none⟩),.pointer (some ⟨b3f,0,none⟩)]) (notU_func _ _ _);exact hK.out _ _ ⟨X,Z1,Z2,_,_,_,_,_,_,by simp only [pu]<;>rfl,hM.then hst.2.2 (fun k hk e=>absurd (e ▸ hk:B4<_) (Nat.not_lt.2 oB4)),hXX,(fun k hk=>by simpa using hXl k hk),uo f0,fun h=>let q:=(f1.out (upd_of rfl h));⟨q.1.stays hst.2.2.stays (fun k hk e=>nB4 (e ▸ q.2 k hk)),q.2⟩,uo f2,fun h=>let q:=(f3.out (upd_of rfl h));⟨q.1.stays hst.2.2.stays (fun k hk e=>nB4 (e ▸ q.2 k hk)),q.2⟩,fun _=>⟨_,rfl,hst.1,oB4,by simpa using lB4,nB4⟩,fun h=>(f5.out (upd_of rfl h)).set _ (notU_func _ _ _),fun _=>⟨_,rfl,hst.1,oB4,by simpa using lB4,nB4,hst.2.1⟩,hc.a hun,fun h h2=>p0.out (upd_of rfl h) (upd_of rfl h2),fun h h2=>p1.out (upd_of rfl h) (upd_of rfl h2)⟩
   obtain ⟨B5,ex,bB5,oB5,lB5,nB5⟩:=f5.out (hc.see hn);subst ex;obtain ⟨⟨b6s,b1s,b3s,ex,hss⟩,uZ3⟩:=f3.out (hc.see hn);subst ex;obtain ⟨v0,s0,s1,_⟩:=bB5.one;go_simp;have hst:=store1B bB5 (v:=.func (.func 253) #[] #[.pointer (some ⟨b6s,0,none⟩),.pointer (some ⟨b1s,0,none⟩),.pointer (some ⟨b3s,0,none⟩)]) (notU_func _ _ _);exact hK.out _ _ ⟨X,Z1,Z2,_,_,_,_,_,_,by simp only [pu]<;>rfl,hM.then hst.2.2 (fun k hk e=>absurd (e ▸ hk:B5<_) (Nat.not_lt.2 oB5)),hXX,(fun k hk=>by simpa using hXl k hk),uo f0,fun h=>let q:=(f1.out (upd_of rfl h));⟨q.1.stays hst.2.2.stays (fun k hk e=>nB5 (e ▸ q.2 k hk)),q.2⟩,uo f2,fun h=>let q:=(f3.out (upd_of rfl h));⟨q.1.stays hst.2.2.stays (fun k hk e=>nB5 (e ▸ q.2 k hk)),q.2⟩,fun h=>(f4.out (upd_of rfl h)).set _ (notU_func _ _ _),fun _=>⟨_,rfl,hst.1,oB5,by simpa using lB5,nB5⟩,fun h=>(f6.out (upd_of rfl h)).stays hst.2.2.stays (fun b e1 e2=>by subst e2;exact (p1.out (hc.see hn) (hc.see hn)) e1),fun _=>⟨_,rfl,hst.1,oB5,by simpa using lB5,nB5,hst.2.1⟩,fun h h2=>p0.out (upd_of rfl h) (upd_of rfl h2),fun h h2=>p1.out (upd_of rfl h) (upd_of rfl h2)⟩
 intro dd aa W2 hd hI;obtain ⟨X,Z1,Z2,y42,y43,y44,y45,y14,y15,ea,hM,hXX,hXl,f0,f1,f2,f3,f4,f5,f6,f7,p0,p1⟩:=hI;obtain rfl:=f0.out (hd 0 (by simp));obtain ⟨⟨b6f,b1f,b3f,ex,hsf⟩,uZ1⟩:=f1.out (hd 1 (by simp));subst ex;obtain rfl:=f2.out (hd 2 (by simp));obtain ⟨⟨b6s,b1s,b3s,ex,hss⟩,uZ3⟩:=f3.out (hd 3 (by simp));subst ex;obtain ⟨B4,ex,bB4,oB4,lB4,nB4,q40⟩:=f6.out (hd 6 (by simp));subst ex;obtain ⟨B5,ex,bB5,oB5,lB5,nB5,q50⟩:=f7.out (hd 7 (by simp));subst ex;have hp0:=p0.out (hd 1 (by simp)) (hd 3 (by simp));have hp1:=p1.out (hd 4 (by simp)) (hd 5 (by simp));subst ea;simp only [pu];have hb2:Below w24.heap.size w24 W2:=hM.below (nRf _) (fun _ h=>h.elim);have hB:=bLt hB hb2;have hgi:=hgi.past hb2;have hg3:=hg3.past hb2;have qi0:=bq hb2 li qi0;have qi1:=bq hb2 li qi1;have qt0:=bq hb2 lt qt0;have qt1:=bq hb2 lt qt1;have xo:=xo.past hb2 lo
 go_wp2_with fail
 refine (places_any _ n m Gi W2 rfl).mono ?_;rintro e wP ⟨rfl,hWP⟩;obtain ⟨wQ,hWQ,yQ,hbQ,rQ,fQ⟩:=box1g W2 W2.heap.size rfl #[.int .i64 (n:Int),.slice (some ⟨Gi,0,none⟩) m m] 221;rw [hWQ] at hWP;subst hWP
 go_wp2_with fail
 have szV:=hb2.size;obtain ⟨PR,hPR⟩:∃ PR:Nat→Prop,PR=fun k=>k=(w.heap.size+1)∨k=BT∨k=B4∨k=B5∨k=Go∨k=Gi∨k=W2.heap.size:=⟨_,rfl⟩
 obtain ⟨vf4,hf4⟩:∃ vf4:Value,vf4=shF b6f b1f b3f:=⟨_,rfl⟩;obtain ⟨vf5,hf5⟩:∃ vf5:Value,vf5=shF b6s b1s b3s:=⟨_,rfl⟩
 have hv4:∀ k,PR k→k<wQ.heap.size∧¬ Z1 k∧¬ Z2 k:=by
  have low:∀ k,k<w24.heap.size→¬ X k:=fun k hk h=>hXX k hk h
  have hall:∀ k,PR k→k<wQ.heap.size∧¬ X k:=by
   intro k hk;rw [hPR] at hk;rcases hk with rfl | rfl | rfl | rfl | rfl | rfl | rfl
   · exact ⟨by omega,low _ (by omega)⟩
   · exact ⟨by omega,low _ (by omega)⟩
   · exact ⟨by omega,nB4⟩
   · exact ⟨by omega,nB5⟩
   · exact ⟨by omega,low _ (by omega)⟩
   · exact ⟨by omega,low _ (by omega)⟩
   exact ⟨by omega,fun h=>by have:=hXl _ h;omega⟩
  exact fun k hk=>⟨(hall k hk).1,fun h=>(hall k hk).2 (uZ1 k h),fun h=>(hall k hk).2 (uZ3 k h)⟩
 have szw:w.heap.size≤w24.heap.size:=by omega
 have hI0:NxtI w Go m F S vf4 vf5 PR (nextL F S n L 0) Z1 Z2 wQ:=by
  refine ⟨by rw [hf4];exact hsf.past hbQ,by rw [hf5];exact hss.past hbQ,?_,nextL_len _ _ _ _ 0 |>.trans HM.out.symm,hp0,hv4,by rw [hPR];exact .inr (.inr (.inr (.inr (.inl rfl)))),?_,bLt hB hbQ⟩
  · refine (hg3.past hbQ).ext (fun i _ => ?_);show (List.replicate _ (0:Rat)).getD i 0=Z;rw [getD_rep];exact HZ.out
  intro k hk;rcases Nat.lt_or_ge k w24.heap.size with h | h
  · rcases hk with hk | hk
    · exact (hXX k h (uZ1 k hk)).elim
    exact (hXX k h (uZ3 k hk)).elim
  omega
 have hC0:NxtC (w.heap.size+1) BT B4 B5 n m Go vf4 vf5 wQ:=by
  refine ⟨bq hbQ (by omega) qt0,bq hbQ (by omega) qt1,bq hbQ lB4 ?_,bq hbQ lB5 ?_,xo.past hbQ (by omega)⟩
  · rw [hf4];exact q40
  rw [hf5];exact q50
 have hP0:FixPl W2.heap.size n Gi m (fun i=>L.getD i 0) wQ:=⟨rQ 0,rQ 1,hgi.past hbQ⟩;have hneq:(w.heap.size+1)≠Go∧BT≠Go∧B4≠Go∧B5≠Go∧Gi≠Go∧W2.heap.size≠Go∧w.heap.size≤Go:=⟨by omega,fun e=>hGo4 e.symm,by omega,by omega,by omega,by omega,by omega⟩;refine (wpIn_wide (n:=3)).1 ?_;generalize hA0:(Act.mk _ _:Act)=A0;have hbl:w.heap.size≤wQ.heap.size:=by omega
 refine wpIn_roundsF (by decide) (N:=m) (Ok:=OkPl n (fun i=>L.getD i 0)) (Fix:=FixPl W2.heap.size n Gi m (fun i=>L.getD i 0)) (by rw [← hA0];rfl) (fun _ _=>rfl) (fun i x W h=>by obtain ⟨y,rfl,_⟩:=h;rfl) (places1_hands _ n Gi m _ (by have:=HN.out;omega) HM.out) (fun W W' h hb=>h.past hb)
  (fun W l o o' h hl ho hB=>h.stays (X:=fun _=>False) (.turn o' hl ho) id id) hP0
  (fun i W=>∃ X1 X2,NxtI w Go m F S vf4 vf5 PR (nextL F S n L i) X1 X2 W∧NxtC (w.heap.size+1) BT B4 B5 n m Go vf4 vf5 W)
  (fun i x b W => ∃ p16 p17 X1 X2, b = { tmps := (((A0.tmps.setIfInBounds 48 (x.getD 0 undef)).setIfInBounds 49 (x.getD 1 undef)).setIfInBounds 16 (.pointer (some ⟨p16, 0, none⟩))).setIfInBounds 17 (.pointer (some ⟨p17, 0, none⟩)), defers := [] } ∧ W.cell? ⟨p16, 0, none⟩ = some (.int .i64 ((i / (n + 1) : Nat) : Int)) ∧ W.cell? ⟨p16, 1, none⟩ = some (.int .i64 ((i % (n + 1) : Nat) : Int)) ∧ RatC W p17 (L.getD i 0) ∧
    p16≠Go∧p17≠Go∧NxtI w Go m F S vf4 vf5 (fun k=>(PR k∨k=p16)∨k=p17) (nextL F S n L i) X1 X2 W∧NxtC (w.heap.size+1) BT B4 B5 n m Go vf4 vf5 W)
  (fun i W W' h hb=>by obtain ⟨X1,X2,h1,h2⟩:=h;exact ⟨X1,X2,h1.past hb,h2.past hb⟩)
  (fun i W l o o' h hl ho hB => by
    obtain ⟨X1,X2,h1,h2⟩:=h;exact ⟨X1,X2,h1.turn o' hl ho (nTr hbl hB),h2.stays (Y:=fun _=>False) (.turn o' hl ho) id id id id⟩)
  (fun i x b W l o o' h hl ho hB => by
    obtain ⟨p16,p17,X1,X2,e,h1,h2,h3,h6,h7,h4,h5⟩:=h;have hs:Stays (fun _=>False) W (W.putObj l o'):=.turn o' hl ho;exact ⟨p16,p17,X1,X2,e,hs.cell id h1,hs.cell id h2,h3.stays hs id,h6,h7,h4.turn o' hl ho (nTr hbl hB),h5.stays hs id id id id⟩)
  ⟨Z1,Z2,hI0,hC0⟩ ?_ ?_ ?_
 · rintro lr i x W hi ⟨X1,X2,hI,hC⟩ hfix ⟨y,rfl,a1,n1,c1,a2,n2,c2,rfl,d1,d2⟩;have hGoW:=(hI.pr Go hI.go).1;refine assign_hide (fun KK hKK => ?_);obtain ⟨q,hq⟩:∃ q,L.getD i 0=q:=⟨_,rfl⟩;simp only [hq] at d1 d2 ⊢;obtain ⟨A,hA⟩:∃ A,i/(n+1)=A:=⟨_,rfl⟩;obtain ⟨B,hB9⟩:∃ B,i % (n+1)=B:=⟨_,rfl⟩;rw [hA,hB9];have HA:=hiD hA;have HB9:=hiD hB9;have HQ9:=hiD hq;have HII:=hiD hI;have HCC:=hiD hC;have HFX:=hiD hfix;have HA0:=hiD hA0;have HPR9:=hiD hPR;have HF4:=hiD hf4;have HF5:=hiD hf5;rw [← hA0];clear hA hB9 hq hI hC hfix hA0 hPR hf4 hf5;simp only [List.zip_toArray,List.zip_cons_cons,List.zip_nil_right,List.foldl_toArray',List.foldl_cons,List.foldl_nil,lsA,lsS,lsZ]
   gi_wp2
   obtain ⟨u1,hW1,y1,hb1,r1,f1⟩:=box1g W W.heap.size rfl #[.int .i64 (A:Int),.int .i64 (B:Int)] 226;rw [hW1];obtain ⟨u2,hW2,y2,hb2,r2,f2⟩:=box1g u1 (W.heap.size+1) (by omega) #[.bool (neg q.num),.slice a1 n1 c1,.slice a2 n2 c2] 28;rw [hW2];have hb12:=bLt hb1 hb2;have hJ1:=HII.out.more hb1 (nRf _) (by omega);have hJ2:=hJ1.more hb2 (b:=W.heap.size+1) (by omega) (by omega);refine hKK.out _ _ ⟨⟨hb12.size,fun k o hk _=>(hb12.block k (Array.getElem?_eq_some_iff.1 hk).1).trans hk⟩,HFX.out.past hb12,W.heap.size,W.heap.size+1,X1,X2,?_,?_,?_,?_,by omega,by omega,hJ2,HCC.out.past hb12⟩
   · rw [← HA0.out,HA.out,HB9.out];try simp only [HQ9.out]
     simp only [lsA,lsS,lsZ,Array.getD,List.size_toArray,List.length_cons,List.length_nil];rfl
   · rw [HA.out];exact bq hb2 (by omega) (r1 0)
   · rw [HB9.out];exact bq hb2 (by omega) (r1 1)
   rw [HQ9.out];exact ⟨_,_,_,_,_,_,r2 0,r2 1,r2 2,d1.past hb12,d2.past hb12⟩
 · rintro lr i x b W hi hfix ⟨p16,p17,X1,X2,rfl,e16a,e16b,hR17,n16,n17,hI,hC⟩;refine body_hide (fun QQ hQQ => ?_);obtain ⟨q,hq⟩:∃ q,L.getD i 0=q:=⟨_,rfl⟩;simp only [hq] at hR17;obtain ⟨A,hA⟩:∃ A,i/(n+1)=A:=⟨_,rfl⟩;obtain ⟨B,hB9⟩:∃ B,i % (n+1)=B:=⟨_,rfl⟩;rw [hA] at e16a;rw [hB9] at e16b;have HA:=hiD hA;have HB9:=hiD hB9;have HQ9:=hiD hq;have HII:=hiD hI;have HCC:=hiD hC;have HFX:=hiD hfix;have HF4:=hiD hf4;have HF5:=hiD hf5;have HNE:=hiD hneq;have HPR9:=hiD hPR;have HR17:=hiD hR17;generalize x.getD 0 undef=y48;generalize x.getD 1 undef=y49;rw [← hA0];clear hA hB9 hq hI hC hfix hA0 hPR hf4 hf5 hneq hR17;simp only [lsA,lsS,lsZ]
   gi_wp2_with fail
   have e16a:W.drew.cell? ⟨p16,0,none⟩=some (.int .i64 (A:Int)):=e16a;have e16b:W.drew.cell? ⟨p16,1,none⟩=some (.int .i64 (B:Int)):=e16b;refine wpIn_region_invA (by kernel_rfl) rfl (by kernel_rfl) (fun A0 V0 dd aa ww=>∃ (y50 y51 y52 y53 y18 y19:Value),aa=puts A0 [(50,y50),(51,y51),(52,y52),(53,y53),(18,y18),(19,y19)]∧ww=V0.drew∧Shut (dd 0=true→y50 = .pointer (some ⟨p16,0,none⟩))∧Shut (dd 1=true→y51 = .int .i64 (A:Int))∧Shut (dd 2=true→y52 = .pointer (some ⟨p16,1,none⟩))∧Shut (dd 3=true→y53 = .int .i64 (B:Int))∧Shut (dd 4=true→y18 = .int .i64 (A:Int))∧Shut (dd 5=true→y19 = .int .i64 (B:Int))) ?_ ?_ ?_
   · exact ⟨_,_,_,_,_,_,puts_self _ [50,51,52,53,18,19],rfl,nf,nf,nf,nf,nf,nf⟩
   · refine StepsI.cons ?_ (StepsI.cons ?_ (StepsI.cons ?_ (StepsI.cons ?_ (StepsI.cons ?_ (StepsI.cons ?_ (StepsI.nil))))))
     all_goals (intro dd aa ww K hc hun hn hI hK;obtain ⟨y50,y51,y52,y53,y18,y19,ea,rfl,f0,f1,f2,f3,f4,f5⟩:=hI;subst ea;simp only [pu])
     · go_simp;exact hK.out _ _ ⟨_,_,_,_,_,_,by simp only [pu]<;>rfl,rfl,fun _=>rfl,uo f1,uo f2,uo f3,uo f4,uo f5⟩
     · obtain rfl:=f0.out (hc.see hn);go_simp;exact hK.out _ _ ⟨_,_,_,_,_,_,by simp only [pu]<;>rfl,rfl,fun h=>rfl,fun _=>rfl,uo f2,uo f3,uo f4,uo f5⟩
     · go_simp;exact hK.out _ _ ⟨_,_,_,_,_,_,by simp only [pu]<;>rfl,rfl,uo f0,uo f1,fun _=>rfl,uo f3,uo f4,uo f5⟩
     · obtain rfl:=f2.out (hc.see hn);go_simp;exact hK.out _ _ ⟨_,_,_,_,_,_,by simp only [pu]<;>rfl,rfl,uo f0,uo f1,fun h=>rfl,fun _=>rfl,uo f4,uo f5⟩
     · obtain rfl:=f1.out (hc.see hn);go_simp;exact hK.out _ _ ⟨_,_,_,_,_,_,by simp only [pu]<;>rfl,rfl,uo f0,fun h=>rfl,uo f2,uo f3,fun _=>rfl,uo f5⟩
     obtain rfl:=f3.out (hc.see hn);go_simp;exact hK.out _ _ ⟨_,_,_,_,_,_,by simp only [pu]<;>rfl,rfl,uo f0,uo f1,uo f2,fun h=>rfl,uo f4,fun _=>rfl⟩
   intro dd aa W8 hd hI;obtain ⟨y50,y51,y52,y53,y18,y19,ea,eW8,f0,f1,f2,f3,f4,f5⟩:=hI;obtain rfl:=f0.out (hd 0 (by simp));obtain rfl:=f1.out (hd 1 (by simp));obtain rfl:=f2.out (hd 2 (by simp));obtain rfl:=f3.out (hd 3 (by simp));obtain rfl:=f4.out (hd 4 (by simp));obtain rfl:=f5.out (hd 5 (by simp));subst eW8;subst ea;simp only [pu]
   by_cases hB0:B=0
   · have t0:decide (B=0)=true:=decide_eq_true hB0;have HB0:=hiD hB0;clear hB0
     gi_wp2_with (first | (refine ⟨fun f hf=>trivial,?_⟩))
     have hbd:Below W.heap.size W W.drew:=(bRf _ _).drew;refine hQQ.out _ _ _ ⟨rfl,⟨nRf _,fun k o hk _=>hk⟩,HFX.out.past hbd,X1,X2,?_,HCC.out.past hbd⟩
     have e9:nextL F S n L (i+1)=nextL F S n L i:=by
      rw [nextL_succ,stepPl,if_pos (.inl (by rw [HB9.out];exact HB0.out))]
     rw [e9];exact (HII.out.past hbd).less (fun k hk => .inl (.inl hk)) (by rw [HPR9.out];exact .inr (.inr (.inr (.inr (.inl rfl)))))
   have t0:decide (B=0)=false:=decide_eq_false hB0;have HB0:=hiD hB0;clear hB0;obtain ⟨x1,x2,x3,x4,x5,x6,z0,z1,z2,D1,D2⟩:=HR17.out;have z0:W.drew.cell? ⟨p17,0,none⟩=_:=z0;have z1:W.drew.cell? ⟨p17,1,none⟩=_:=z1;have z2:W.drew.cell? ⟨p17,2,none⟩=_:=z2;have hbd:Below W.heap.size W W.drew:=(bRf _ _).drew;have D1:=D1.past hbd;have D2:=D2.past hbd
   gi_wp2_with fail
   refine ⟨trivial,?_⟩;refine (CallsIn.inRound lr (callsIn_wide.2 (some_any q _ _ _ _ _ _ _ D1 (by have:=HLL.out i;rw [HQ9.out] at this;omega)))).mono ?_;rintro e W9 ⟨rfl,hb9⟩;have hbW:=bLt hbd hb9;have hkW:KeepsOthers W W9:=⟨hbW.size,fun k o hk _=>(hbW.block k (Array.getElem?_eq_some_iff.1 hk).1).trans hk⟩;have hI9:=HII.out.past hbW;have hC9:=HCC.out.past hbW;have hF9:=HFX.out.past hbW;have hR9:=HR17.out.stays (.ofBelow (X:=fun _=>False) hbW) id
   have hA9:A≤n:=by
    have h1:=HM.out;have h2:i<(n+1)*(n+1):=by omega
    have h3:i/(n+1)<n+1:=Nat.div_lt_of_lt_mul h2;have h4:=HA.out;omega
   have hB9n:B≤n:=by
    have h3:i % (n+1)<n+1:=Nat.mod_lt _ (by omega);have h4:=HB9.out;omega
   by_cases hq0:q=0
   · have t1:decide (q=0)=true:=decide_eq_true hq0;have HQ0:=hiD hq0;have HI9:=hiD hI9;have HC9:=hiD hC9;have HF9:=hiD hF9;have HK9:=hiD hkW;clear hq0 hI9 hC9 hF9 hR9 hkW z0 z1 z2 D1 D2 e16a e16b hbW hb9 hbd
     gi_wp2
     refine hQQ.out _ _ _ ⟨rfl,HK9.out,HF9.out,X1,X2,?_,HC9.out⟩
     have e9:nextL F S n L (i+1)=nextL F S n L i:=by
      rw [nextL_succ,stepPl,if_pos (.inr (by rw [HQ9.out];exact HQ0.out))]
     rw [e9];exact HI9.out.less (fun k hk => .inl (.inl hk)) (by rw [HPR9.out];exact .inr (.inr (.inr (.inr (.inl rfl)))))
   have t1:decide (q=0)=false:=decide_eq_false hq0;have HQ0:=hiD hq0;have hnA:(A:Int)+1≤1000:=by have:=HN.out;omega
   have HI9:=hiD hI9;have HC9:=hiD hC9;have HF9:=hiD hF9;have HK9:=hiD hkW;have HR9:=hiD hR9;clear hq0 hI9 hC9 hF9 hR9 hkW z0 z1 z2 D1 D2 e16a e16b hbW hb9 hbd
   gi_wp2_with fail
   have tb:((B:Int) == (0:Int))=false:=by
    rw [beq_eq_false_iff_ne];have:=HB0.out;omega
   rw [tb];clear tb;obtain ⟨PA,hPA⟩:∃ PA:Nat→Prop,PA=fun k=>(PR k∨k=p16)∨k=p17:=⟨_,rfl⟩
   have HPA:=hiD hPA;have hPA2:∀ k,((PR k∨k=p16)∨k=p17)=PA k:=fun k=>by rw [hPA]
   have HI9:=hiD (show NxtI w Go m F S vf4 vf5 PA (nextL F S n L i) X1 X2 W9 by rw [hPA];exact HI9.out)
   have hpa:PA (w.heap.size+1)∧PA BT∧PA B4∧PA B5∧PA Go∧PA Gi∧PA W2.heap.size∧PA p16∧PA p17:=by
    rw [hPA,HPR9.out];simp
   have HPB:=hiD hpa;have HPG:=hiD (show PR Go by rw [HPR9.out];simp);clear hPA hPA2 hpa
   gi_loopw [63] (fun s63 wr=>∃ (a:Nat) (X1 X2:Nat→Prop),a≤A+1∧s63 = .int .i64 (a:Int)∧NxtI w Go m F S vf4 vf5 PA (rowA F S q n A B a (nextL F S n L i)) X1 X2 wr∧NxtC (w.heap.size+1) BT B4 B5 n m Go vf4 vf5 wr∧FixPl W2.heap.size n Gi m (fun i=>L.getD i 0) wr∧KeepsOthers W wr∧RatC wr p17 q) (fun s63 _=>A+1-(intOf s63).toNat)
   case atStart=>exact ⟨0,X1,X2,Nat.zero_le _,rfl,HI9.out,HC9.out,HF9.out,HK9.out,HR9.out⟩
   case round =>
    obtain ⟨a,Y1,Y2,ha,rfl,hIa,hCa,hFa,hKa,hRa⟩:=hrel;have HIa:=hiD hIa;have HCa:=hiD hCa;have HFa:=hiD hFa;have HKa:=hiD hKa;have HRa:=hiD hRa;have c4:=hCa.c4;rw [HF4.out] at c4;simp only [shF] at c4;clear hIa hCa hFa hKa hRa
    by_cases hlt:a≤A
    · have hlt2:a<A+1:=by omega
      gi_wp2_with fail
      have hs1:ShSt wr (shF b6f b1f b3f) F Y1:=by have:=HIa.out.s1;rw [HF4.out] at this;exact this
      refine ⟨trivial,?_⟩;refine (CallsIn.inRound lr (callsIn_wide.2 (share_call b6f b1f b3f F Y1 A a wr hs1 (by have:=HN.out;omega) hlt (fun j hj=>(HPW.out j (by omega)).1) HQ.out.1))).mono ?_;rintro e W10 ⟨_,Y3,rfl,⟨x1,x2,x3,x4,x5,x6,rfl,D1,D2⟩,hs9,hn9,hm9⟩;have hI10:NxtI w Go m F S vf4 vf5 PA (rowA F S q n A B a (nextL F S n L i)) Y3 Y2 W10:=HIa.out.call1 (by rw [HF4.out];exact hs9) hn9 hm9;obtain ⟨cm,hcm⟩:∃ cm,shareQ F A a=cm:=⟨_,rfl⟩;simp only [hcm] at D1 D2 ⊢;have HCM:=hiD hcm;have hC10:=HCa.out.stays hm9.stays (HIa.out.pr _ HPB.out.1).2.1 (HIa.out.pr _ HPB.out.2.1).2.1 (HIa.out.pr _ HPB.out.2.2.1).2.1 (HIa.out.pr _ HPB.out.2.2.2.1).2.1;have hF10:=HFa.out.stays hm9.stays (HIa.out.pr _ HPB.out.2.2.2.2.2.2.1).2.1 (HIa.out.pr _ HPB.out.2.2.2.2.2.1).2.1;have hR10:=HRa.out.stays hm9.stays (HIa.out.pr _ HPB.out.2.2.2.2.2.2.2.2).2.1;have hK10:=HKa.out.trans hm9.others;have hlc:=HFS.out A a hlt hA9;rw [hcm] at hlc;have HI10:=hiD hI10;have HC10:=hiD hC10;have HF10:=hiD hF10;have HR10:=hiD hR10;have HK10:=hiD hK10;clear hcm hI10 hC10 hF10 hR10 hK10 hs9 hn9 hm9 hs1 c4
      gi_wp2_with fail
      obtain ⟨W11,hW11,y11,hb11,r11,f11⟩:=box1g W10 W10.heap.size rfl #[.bool (neg cm.num),.slice x1 x2 x3,.slice x4 x5 x6] 28;rw [hW11];refine ⟨trivial,?_⟩;refine (CallsIn.inRound lr (callsIn_wide.2 (some_any cm _ _ _ _ _ _ _ (D1.past hb11) (by omega)))).mono ?_;rintro e W12 ⟨rfl,hb12⟩;have hb21:=bLt hb11 hb12;have hk21:KeepsOthers W10 W12:=⟨hb21.size,fun k o hk _=>(hb21.block k (Array.getElem?_eq_some_iff.1 hk).1).trans hk⟩;have hK12:=HK10.out.trans hk21;have hC12:=HC10.out.past hb21;have hF12:=HF10.out.past hb21;have hR12:=HR10.out.stays (.ofBelow (X:=fun _=>False) hb21) id;have hI12:=(HI10.out.more hb11 (b:=W10.heap.size) (nRf _) (by omega)).past hb12;have hR21:RatC W12 W10.heap.size cm:=RatC.stays ⟨_,_,_,_,_,_,r11 0,r11 1,r11 2,D1.past hb11,D2.past hb11⟩ (.ofBelow (X:=fun _=>False) hb12) id;have n21:W10.heap.size≠Go:=by have:=(HI10.out.pr Go HPB.out.2.2.2.2.1).1;omega
      have HI12:=hiD hI12;have HC12:=hiD hC12;have HF12:=hiD hF12;have HR12:=hiD hR12;have HK12:=hiD hK12;have HR21:=hiD hR21;clear hI12 hC12 hF12 hR12 hK12 hR21 hk21 hb21 r11 f11 hW11 hb11 hb12 y11 D1 D2
      by_cases hc0:cm=0
      · have t2:decide (cm=0)=true:=decide_eq_true hc0;have HC0:=hiD hc0;clear hc0
        gi_wp2
        have e8:rowA F S q n A B (a+1) (nextL F S n L i)=rowA F S q n A B a (nextL F S n L i):=by
         rw [rowA_succ,stepA,if_pos (by rw [HCM.out];exact HC0.out)]
        have hrel9:NxtI w Go m F S vf4 vf5 PA (rowA F S q n A B (a+1) (nextL F S n L i)) Y3 Y2 W12:=by
         rw [e8];exact HI12.out.less (fun k hk => .inl hk) HPB.out.2.2.2.2.1
        exact ⟨⟨a+1,Y3,Y2,Nat.succ_le_succ hlt,by go_num,hrel9,HC12.out,HF12.out,HK12.out,HR12.out⟩,by simp [intOf];omega⟩
      have t2:decide (cm=0)=false:=decide_eq_false hc0;have HC0:=hiD hc0;clear hc0
      gi_wp2_with fail
      obtain ⟨PB,hPBB⟩:∃ PB:Nat→Prop,PB=fun k=>PA k∨k=W10.heap.size:=⟨_,rfl⟩
      have HPBB:=hiD hPBB;have HI12:=hiD (show NxtI w Go m F S vf4 vf5 PB (rowA F S q n A B a (nextL F S n L i)) Y3 Y2 W12 by rw [hPBB];exact HI12.out)
      have HPC:=hiD (show (PB (w.heap.size+1)∧PB BT∧PB B4∧PB B5∧PB Go∧PB Gi∧PB W2.heap.size∧PB p16∧PB p17∧PB W10.heap.size) by
       have h:=HPB.out;rw [hPBB];exact ⟨.inl h.1,.inl h.2.1,.inl h.2.2.1,.inl h.2.2.2.1,.inl h.2.2.2.2.1,.inl h.2.2.2.2.2.1,.inl h.2.2.2.2.2.2.1,.inl h.2.2.2.2.2.2.2.1,.inl h.2.2.2.2.2.2.2.2,.inr rfl⟩)
      clear hPBB;have hB0n:1≤B:=by have:=HB0.out;omega
      obtain ⟨p21,hp21⟩:∃ p21,W10.heap.size=p21:=⟨_,rfl⟩;rw [hp21] at HPBB HPC HR21 n21 ⊢;obtain ⟨wo,rfl⟩:∃ wo:World,wo=wr:=⟨_,rfl⟩
      gi_loopw [74] (fun s74 wq=>∃ (b:Nat) (Y1 Y2:Nat→Prop),b≤B∧s74 = .int .i64 (b:Int)∧NxtI w Go m F S vf4 vf5 PB (rowB S q cm n A B a b (rowA F S q n A B a (nextL F S n L i))) Y1 Y2 wq∧NxtC (w.heap.size+1) BT B4 B5 n m Go vf4 vf5 wq∧FixPl W2.heap.size n Gi m (fun i=>L.getD i 0) wq∧KeepsOthers W wq∧RatC wq p17 q∧RatC wq p21 cm) (fun s74 _=>B-(intOf s74).toNat)
      case atStart=>exact ⟨0,Y3,Y2,Nat.zero_le _,rfl,HI12.out,HC12.out,HF12.out,HK12.out,HR12.out,HR21.out⟩
      case round =>
       obtain ⟨b,V1,V2,hb,rfl,hIb,hCb,hFb,hKb,hRb,hSb⟩:=hrel;have HIb:=hiD hIb;have HCb:=hiD hCb;have HFb:=hiD hFb;have HKb:=hiD hKb;have HRb:=hiD hRb;have HSb:=hiD hSb;clear hIb hCb hFb hKb hRb hSb
       by_cases hlb:b<B
       · obtain ⟨R9,hR9⟩:∃ R9,B-1=R9:=⟨_,rfl⟩;have hRi:(B:Int)-1=(R9:Int):=by omega
         have hRn:R9≤n:=by omega
         have hn9:=HN.out;have hRw:IntKind.i64.wrap ((B:Int)-1)=(R9:Int):=by rw [hRi,IntKind.wrap_i64];omega
         have hbR:b≤R9:=by omega
         have htri:A+B≤n:=by
          have h:=HTRI.out i hi (by rw [HQ9.out];exact HQ0.out);rw [HA.out,HB9.out] at h;exact h
         obtain ⟨q1,q2,q3,q4,q5,q6,s0,s1,s2,E1,E2⟩:=HRb.out;obtain ⟨g1,g2,g3,g4,g5,g6,r0,r1,r2,G1,G2⟩:=HSb.out;have c5:=HCb.out.c5;rw [HF5.out] at c5;simp only [shF] at c5;have n17x:=(HIb.out.pr _ HPC.out.2.2.2.2.2.2.2.2.1).2.2;have n21b:=(HIb.out.pr _ HPC.out.2.2.2.2.2.2.2.2.2).2.2;have n5:=(HIb.out.pr _ HPC.out.2.2.2.1).2.2;have hs2:ShSt wr (shF b6s b1s b3s) S V2:=by have:=HIb.out.s2;rw [HF5.out] at this;exact this
         obtain ⟨gs,hgs⟩:∃ gs,shareQ S R9 b=gs:=⟨_,rfl⟩;have hsc:=fun (w:World) (X:Nat→Prop) (h:ShSt w (shF b6s b1s b3s) S X)=>share_call b6s b1s b3s S X R9 b w h (by have:=HN.out;omega) hbR (fun j hj=>(HPW.out j (by omega)).2) HQ.out.2
         simp only [hgs] at hsc;have lq:rlen q≤300000:=by have:=HLL.out i;rw [HQ9.out] at this;exact this
         have lc:rlen cm≤300000:=by have:=HFS.out A a hlt hA9;rw [HCM.out] at this;exact this
         have lg:rlen gs≤300000:=by have:=HSS.out R9 b hbR hRn;rw [hgs] at this;exact this
         obtain ⟨pt,hpt⟩:∃ pt,q*cm*gs=pt:=⟨_,rfl⟩
         have lp:rlen pt≤1048576:=by
          rw [← hpt];have h1:rlen (q*cm)≤rlen q+rlen cm+1:=product_short _ _;have h2:rlen (q*cm*gs)≤rlen (q*cm)+rlen gs+1:=product_short _ _;omega
         have HSC:=hiD hsc;have HPT:=hiD hpt;have LQ:=hiD (show rlen q≤1048576 by omega);have LC:=hiD (show rlen cm≤1048576 by omega);have LG:=hiD (show rlen gs≤1048576 by omega);have LP:=hiD lp;have HGS:=hiD hgs;have HS2:=hiD hs2;have HRI:=hiD hRi;have HRW:=hiD hRw;have hXl0:∀ k,V2 k→k<wr.heap.size:=hs2.lt;clear hsc hpt lq lc lg lp hgs hs2 hRi hRw hR9
         gi_wp2_with fail
         refine wpIn_region_invA (by kernel_rfl) rfl (by kernel_rfl) (fun A0 V0 dd aa ww=>∃ (X:Nat→Prop) (y78 y79 y80 y81 y82 y83 y84 y85 y86 y77 y87 y88 y23 y24:Value),aa=puts A0 [(78,y78),(79,y79),(80,y80),(81,y81),(82,y82),(83,y83),(84,y84),(85,y85),(86,y86),(77,y77),(87,y87),(88,y88),(23,y23),(24,y24)]∧Moves V2 V0 ww∧(∀ k,k<V0.heap.size→X k→V2 k)∧(∀ k,X k→k<ww.heap.size)∧(ShSt ww (shF b6s b1s b3s) S X)∧Shut (dd 0=true→y78 = .agg #[.bool (neg q.num),.slice q1 q2 q3,.slice q4 q5 q6])∧Shut (dd 1=true→y79 = .agg #[.bool (neg cm.num),.slice g1 g2 g3,.slice g4 g5 g6])∧Shut (dd 2=true→y80 = .func (.func 253) #[] #[.pointer (some ⟨b6s,0,none⟩),.pointer (some ⟨b1s,0,none⟩),.pointer (some ⟨b3s,0,none⟩)])∧Shut (dd 3=true→y81 = .int .i64 (B:Int))∧Shut (dd 4=true→y82 = .int .i64 (R9:Int))∧Shut (dd 5=true→y83 = .int .i64 (b:Int))∧Shut (dd 6=true→RatNV (gs) y84 ww)∧Shut (dd 7=true→dd 8=false→RowN X 3 (ratsF [q,cm,gs]) y85 ww)∧Shut (dd 8=true→OkN (pt) y86 ww)∧Shut (dd 9=true→y77=y86)∧Shut (dd 10=true→y87=part 0 y77)∧Shut (dd 11=true→y88=part 1 y77)∧Shut (dd 12=true→BoxN V0.heap.size X y23 ww)∧Shut (dd 13=true→BoxQ V0.heap.size X (pt) y23 ww)∧Shut (dd 14=true→y24=y88)) ?_ ?_ ?_
         · exact ⟨V2,_,_,_,_,_,_,_,_,_,_,_,_,_,_,puts_self _ [78,79,80,81,82,83,84,85,86,77,87,88,23,24],Moves.drew _ _,fun _ _ h=>h,hXl0,HS2.out.past (bRf _ _).drew,nf,nf,nf,nf,nf,nf,nf,nf,nf,nf,nf,nf,nf,nf,nf⟩
         · refine StepsI.cons ?_ (StepsI.cons ?_ (StepsI.cons ?_ (StepsI.cons ?_ (StepsI.cons ?_ (StepsI.cons ?_ (StepsI.cons ?_ (StepsI.cons ?_ (StepsI.cons ?_ (StepsI.cons ?_ (StepsI.cons ?_ (StepsI.cons ?_ (StepsI.cons ?_ (StepsI.cons ?_ (StepsI.cons ?_ (StepsI.nil)))))))))))))))
           all_goals (intro dd aa ww K hc hun hn hI hK;obtain ⟨X,y78,y79,y80,y81,y82,y83,y84,y85,y86,y77,y87,y88,y23,y24,ea,hM,hXX,hXl,SS,f0,f1,f2,f3,f4,f5,f6,f7,f8,f9,f10,f11,f12,f13,f14⟩:=hI;subst ea;simp only [pu])
           · have e0:=(hM.stays.cell n17x s0);have e1:=(hM.stays.cell n17x s1);have e2:=(hM.stays.cell n17x s2);go_simp;exact hK.out _ _ ⟨X,_,_,_,_,_,_,_,_,_,_,_,_,_,_,by simp only [pu]<;>rfl,hM,hXX,hXl,SS,fun _=>rfl,uo f1,uo f2,uo f3,uo f4,uo f5,uo f6,hc.a hun,uo f8,hc.a hun,hc.a hun,hc.a hun,uo f12,uo f13,hc.a hun⟩
           · have e0:=(hM.stays.cell n21b r0);have e1:=(hM.stays.cell n21b r1);have e2:=(hM.stays.cell n21b r2);go_simp;exact hK.out _ _ ⟨X,_,_,_,_,_,_,_,_,_,_,_,_,_,_,by simp only [pu]<;>rfl,hM,hXX,hXl,SS,uo f0,fun _=>rfl,uo f2,uo f3,uo f4,uo f5,uo f6,hc.a hun,uo f8,hc.a hun,hc.a hun,hc.a hun,uo f12,uo f13,hc.a hun⟩
           · have e0:=(hM.stays.cell n5 c5);go_simp;exact hK.out _ _ ⟨X,_,_,_,_,_,_,_,_,_,_,_,_,_,_,by simp only [pu]<;>rfl,hM,hXX,hXl,SS,uo f0,uo f1,fun _=>rfl,uo f3,uo f4,uo f5,uo f6,hc.a hun,uo f8,hc.a hun,hc.a hun,hc.a hun,uo f12,uo f13,hc.a hun⟩
           · go_simp;exact hK.out _ _ ⟨X,_,_,_,_,_,_,_,_,_,_,_,_,_,_,by simp only [pu]<;>rfl,hM,hXX,hXl,SS,uo f0,uo f1,uo f2,fun _=>rfl,uo f4,uo f5,uo f6,hc.a hun,uo f8,hc.a hun,hc.a hun,hc.a hun,uo f12,uo f13,hc.a hun⟩
           · obtain rfl:=f3.out (hc.see hn);go_simp
             first | rw [HRW.out] | rw [HRI.out]
             exact hK.out _ _ ⟨X,_,_,_,_,_,_,_,_,_,_,_,_,_,_,by simp only [pu]<;>rfl,hM,hXX,hXl,SS,uo f0,uo f1,uo f2,fun h=>rfl,fun _=>rfl,uo f5,uo f6,hc.a hun,uo f8,hc.a hun,hc.a hun,hc.a hun,uo f12,uo f13,hc.a hun⟩
           · go_simp;exact hK.out _ _ ⟨X,_,_,_,_,_,_,_,_,_,_,_,_,_,_,by simp only [pu]<;>rfl,hM,hXX,hXl,SS,uo f0,uo f1,uo f2,uo f3,uo f4,fun _=>rfl,uo f6,hc.a hun,uo f8,hc.a hun,hc.a hun,hc.a hun,uo f12,uo f13,hc.a hun⟩
           · obtain rfl:=f2.out (hc.see hn);obtain rfl:=f4.out (hc.see hn);obtain rfl:=f5.out (hc.see hn);go_simp;refine ⟨trivial,?_⟩;refine (CallsIn.inRound lr (callsIn_wide.2 (HSC.out ww X SS))).mono ?_;rintro e w1 ⟨_,X1,rfl,⟨ahGGU,nhGGU,chGGU,ahGGD,nhGGD,chGGD,rfl,hGGU,hGGD⟩,hS1,hn1,hm1⟩;have hgo:Goes X X1 ww w1:=⟨hm1.stays,hn1⟩;exact hK.out _ _ ⟨X1,_,_,_,_,_,_,_,_,_,_,_,_,_,_,by simp only [pu]<;>rfl,hM.then hm1 hXX,(fun k hk hx=>hXX k hk (hgo.new k (nLt hk hM.size) hx)),hS1.lt,hS1,uo f0,uo f1,fun h=>rfl,uo f3,fun h=>rfl,fun h=>rfl,fun _=>⟨_,_,_,_,_,_,rfl,hGGU,hGGD⟩,hc.a hun,hc.a hun,hc.a hun,hc.a hun,hc.a hun,fun h=>(f12.out (upd_of rfl h)).goes hgo,hc.a hun,hc.a hun⟩
           · obtain rfl:=f0.out (hc.see hn);obtain rfl:=f1.out (hc.see hn);obtain ⟨ahGGU,nhGGU,chGGU,ahGGD,nhGGD,chGGD,ex,hGGU,hGGD⟩:=f6.out (hc.see hn);subst ex;go_simp;exact hK.out _ _ ⟨X,_,_,_,_,_,_,_,_,_,_,_,_,_,_,by simp only [pu]<;>rfl,hM.then (Moves.alloc X ww _) hXX,hXX,(fun k hk=>nLt (hXl k hk) (by simp)),SS.past ((bRf _ _).alloc (nRf _) _),fun h=>rfl,fun h=>rfl,uo f2,uo f3,uo f4,uo f5,fun h=>(f6.out (upd_of rfl h)).calm (Goes.alloc X ww _).st,fun _ _=>RowN.three _ hXl (E1.stays hM.stays) (E2.stays hM.stays) (G1.stays hM.stays) (G2.stays hM.stays) hGGU hGGD,hc.a hun,hc.a hun,hc.a hun,hc.a hun,fun h=>(f12.out (upd_of rfl h)).goes (Goes.alloc X ww _),hc.a hun,hc.a hun⟩
           · obtain ⟨G7,ex,hL7,_,nG7⟩:=f7.out (hc.see hn) hun;subst ex;go_simp;refine ⟨trivial,?_⟩;refine (CallsIn.inRound lr (callsIn_wide.2 (mul_three hL7 LQ.out LC.out LG.out))).mono ?_;rintro e w1 ⟨ahPPU,nhPPU,chPPU,ahPPD,nhPPD,chPPD,rfl,hPPU,hPPD,h1⟩;rw [HPT.out] at hPPU hPPD ⊢;have hPPU:=hPPU.toNatAt;have hPPD:=hPPD.toNatAt;have hm1:Moves X ww w1:=.ofBelow h1;have hgo:Goes X X ww w1:=.below h1;exact hK.out _ _ ⟨X,_,_,_,_,_,_,_,_,_,_,_,_,_,_,by simp only [pu]<;>rfl,hM.then hm1 hXX,hXX,(fun k hk=>nLt (hXl k hk) hm1.size),SS.past h1,uo f0,uo f1,uo f2,uo f3,uo f4,uo f5,fun h=>(f6.out (upd_of rfl h)).calm hgo.st,fun _ h2=>absurd h2 (by simp [upd]),fun _=>⟨_,_,_,_,_,_,rfl,hPPU,hPPD⟩,hc.a hun,hc.a hun,hc.a hun,fun h=>(f12.out (upd_of rfl h)).goes hgo,hc.a hun,hc.a hun⟩
           · obtain ⟨ahPPU,nhPPU,chPPU,ahPPD,nhPPD,chPPD,ex,hPPU,hPPD⟩:=f8.out (hc.see hn);subst ex;go_simp;exact hK.out _ _ ⟨X,_,_,_,_,_,_,_,_,_,_,_,_,_,_,by simp only [pu]<;>rfl,hM,hXX,hXl,SS,uo f0,uo f1,uo f2,uo f3,uo f4,uo f5,uo f6,fun _ h2=>absurd (show dd 8=true from (hc.see hn)) (by rw [upd_off h2];decide),uo f8,fun _=>rfl,hc.a hun,hc.a hun,uo f12,uo f13,hc.a hun⟩
           · obtain ⟨ahPPU,nhPPU,chPPU,ahPPD,nhPPD,chPPD,ex,hPPU,hPPD⟩:=f8.out (hc.see hn);subst ex;have ex:y77 = .tuple #[.agg #[.bool (neg (pt).num),.slice ahPPU nhPPU chPPU,.slice ahPPD nhPPD chPPD],.int .i64 0]:=f9.out (hc.see hn);subst ex;go_simp;exact hK.out _ _ ⟨X,_,_,_,_,_,_,_,_,_,_,_,_,_,_,by simp only [pu]<;>rfl,hM,hXX,hXl,SS,uo f0,uo f1,uo f2,uo f3,uo f4,uo f5,uo f6,fun _ h2=>absurd (show dd 8=true from (hc.see hn)) (by rw [upd_off h2];decide),uo f8,fun h=>rfl,fun _=>rfl,uo f11,uo f12,uo f13,uo f14⟩
           · obtain ⟨ahPPU,nhPPU,chPPU,ahPPD,nhPPD,chPPD,ex,hPPU,hPPD⟩:=f8.out (hc.see hn);subst ex;have ex:y77 = .tuple #[.agg #[.bool (neg (pt).num),.slice ahPPU nhPPU chPPU,.slice ahPPD nhPPD chPPD],.int .i64 0]:=f9.out (hc.see hn);subst ex;go_simp;exact hK.out _ _ ⟨X,_,_,_,_,_,_,_,_,_,_,_,_,_,_,by simp only [pu]<;>rfl,hM,hXX,hXl,SS,uo f0,uo f1,uo f2,uo f3,uo f4,uo f5,uo f6,fun _ h2=>absurd (show dd 8=true from (hc.see hn)) (by rw [upd_off h2];decide),uo f8,fun h=>rfl,uo f10,fun _=>rfl,uo f12,uo f13,hc.a hun⟩
           · go_simp;exact hK.out _ _ ⟨X,_,_,_,_,_,_,_,_,_,_,_,_,_,_,by simp only [pu]<;>rfl,hM.then (Moves.alloc X ww _) hXX,hXX,(fun k hk=>nLt (hXl k hk) (by simp)),SS.past ((bRf _ _).alloc (nRf _) _),uo f0,uo f1,uo f2,uo f3,uo f4,uo f5,fun h=>(f6.out (upd_of rfl h)).calm (Goes.alloc X ww _).st,fun h h2=>((f7.out (upd_of rfl h)) (upd_off h2)).goes (Goes.alloc X ww _),fun h=>(f8.out (upd_of rfl h)).calm (Goes.alloc X ww _).st,uo f9,uo f10,uo f11,fun _=>BoxN.new _ hM.size hXl,hc.a hun,uo f14⟩
           · obtain ⟨B12,ex,bB12,oB12,lB12,nB12⟩:=f12.out (hc.see hn);subst ex;obtain ⟨ahPPU,nhPPU,chPPU,ahPPD,nhPPD,chPPD,ex,hPPU,hPPD⟩:=f8.out (hc.see hn);subst ex;have ex:y77 = .tuple #[.agg #[.bool (neg (pt).num),.slice ahPPU nhPPU chPPU,.slice ahPPD nhPPD chPPD],.int .i64 0]:=f9.out (hc.see hn);subst ex;have ex:y87 = .agg #[.bool (neg (pt).num),.slice ahPPU nhPPU chPPU,.slice ahPPD nhPPD chPPD]:=f10.out (hc.see hn);subst ex;obtain ⟨v0,v1,v2,s0,s1,s2,s3,s4,s5,_,_,_⟩:=bB12.three;go_simp;have hst:=(bB12.setQ (pt) hPPU hPPD).2;exact hK.out _ _ ⟨X,_,_,_,_,_,_,_,_,_,_,_,_,_,_,by simp only [pu]<;>rfl,hM.then hst (fun k hk e=>absurd (e ▸ hk:B12<_) (Nat.not_lt.2 oB12)),hXX,(fun k hk=>by simpa using hXl k hk),SS.stays hst.stays (fun k hk e=>nB12 (e ▸ hk)),uo f0,uo f1,uo f2,uo f3,uo f4,uo f5,fun h=>(f6.out (upd_of rfl h)).calm hst.stays,fun _ h2=>absurd (show dd 8=true from (hc.see hn)) (by rw [upd_off h2];decide),fun h=>(f8.out (upd_of rfl h)).calm hst.stays,fun h=>rfl,fun h=>rfl,uo f11,fun _=>⟨_,rfl,(bB12.setQ (pt) hPPU hPPD).1.box,oB12,by simpa using lB12,nB12⟩,fun _=>BoxN.store bB12 oB12 lB12 nB12 hPPU hPPD,uo f14⟩
           obtain ⟨ahPPU,nhPPU,chPPU,ahPPD,nhPPD,chPPD,ex,hPPU,hPPD⟩:=f8.out (hc.see hn);subst ex;have ex:y77 = .tuple #[.agg #[.bool (neg (pt).num),.slice ahPPU nhPPU chPPU,.slice ahPPD nhPPD chPPD],.int .i64 0]:=f9.out (hc.see hn);subst ex;have ex:y88 = .int .i64 0:=f11.out (hc.see hn);subst ex;go_simp;exact hK.out _ _ ⟨X,_,_,_,_,_,_,_,_,_,_,_,_,_,_,by simp only [pu]<;>rfl,hM,hXX,hXl,SS,uo f0,uo f1,uo f2,uo f3,uo f4,uo f5,uo f6,fun _ h2=>absurd (show dd 8=true from (hc.see hn)) (by rw [upd_off h2];decide),uo f8,fun h=>rfl,uo f10,fun h=>rfl,uo f12,uo f13,fun _=>rfl⟩
         intro dd aa U1 hd hI;obtain ⟨X,y78,y79,y80,y81,y82,y83,y84,y85,y86,y77,y87,y88,y23,y24,ea,hM,hXX,hXl,SS,f0,f1,f2,f3,f4,f5,f6,f7,f8,f9,f10,f11,f12,f13,f14⟩:=hI;obtain rfl:=f0.out (hd 0 (by simp));obtain rfl:=f1.out (hd 1 (by simp));obtain rfl:=f2.out (hd 2 (by simp));obtain rfl:=f3.out (hd 3 (by simp));obtain rfl:=f4.out (hd 4 (by simp));obtain rfl:=f5.out (hd 5 (by simp));obtain ⟨ahGGU,nhGGU,chGGU,ahGGD,nhGGD,chGGD,ex,hGGU,hGGD⟩:=f6.out (hd 6 (by simp));subst ex;obtain ⟨ahPPU,nhPPU,chPPU,ahPPD,nhPPD,chPPD,ex,hPPU,hPPD⟩:=f8.out (hd 8 (by simp));subst ex;have ex:y77 = .tuple #[.agg #[.bool (neg (pt).num),.slice ahPPU nhPPU chPPU,.slice ahPPD nhPPD chPPD],.int .i64 0]:=f9.out (hd 9 (by simp));subst ex;have ex:y87 = .agg #[.bool (neg (pt).num),.slice ahPPU nhPPU chPPU,.slice ahPPD nhPPD chPPD]:=f10.out (hd 10 (by simp));subst ex;have ex:y88 = .int .i64 0:=f11.out (hd 11 (by simp));subst ex;have ex:y24 = .int .i64 0:=f14.out (hd 14 (by simp));subst ex;obtain ⟨B12,bx1,bx2,bx3,bx4,bx5,bx6,ex,bB12,oB12,lB12,nB12,q120,q121,q122,d12U,d12D⟩:=f13.out (hd 13 (by simp));subst ex;subst ea;simp only [pu];have hB12:RatC U1 B12 pt:=⟨_,_,_,_,_,_,q120,q121,q122,d12U,d12D⟩;have hJ1:NxtI w Go m F S vf4 vf5 PB (rowB S q cm n A B a b (rowA F S q n A B a (nextL F S n L i))) V1 X U1:=HIb.out.call2 (by rw [HF5.out];exact SS) hXX hM
         have hJC:=HCb.out.stays hM.stays (HIb.out.pr _ HPC.out.1).2.2 (HIb.out.pr _ HPC.out.2.1).2.2 (HIb.out.pr _ HPC.out.2.2.1).2.2 (HIb.out.pr _ HPC.out.2.2.2.1).2.2;have hJF:=HFb.out.stays hM.stays (HIb.out.pr _ HPC.out.2.2.2.2.2.2.1).2.2 (HIb.out.pr _ HPC.out.2.2.2.2.2.1).2.2;have hJK:=HKb.out.trans hM.others;have hJR:=HRb.out.stays hM.stays n17x;have hJS:=HSb.out.stays hM.stays n21b;have n12:B12≠Go:=by have:=(HIb.out.pr Go HPC.out.2.2.2.2.1).1;omega
         have HJ1:=hiD hJ1;have HJC:=hiD hJC;have HJF:=hiD hJF;have HJK:=hiD hJK;have HJR:=hiD hJR;have HJS:=hiD hJS;have HB12:=hiD hB12;have t0:=hJC.t0;have t1:=hJC.t1;clear hJ1 hJC hJF hJK hJR hJS hB12 SS hM hXX hXl hXl0 q120 q121 q122 d12U d12D bB12 oB12 lB12 nB12 f0 f1 f2 f3 f4 f5 f6 f8 f9 f10 f11 f12 f13 f14 hd s0 s1 s2 r0 r1 r2 E1 E2 G1 G2 c5 n17x n21b n5;obtain ⟨I1,hI1⟩:∃ I1,A-a=I1:=⟨_,rfl⟩;obtain ⟨J1,hJ1⟩:∃ J1,B-1-b+a=J1:=⟨_,rfl⟩;have hIz:(A:Int)-(a:Int)=(I1:Int):=by omega
         have hJz:(B:Int)-1-(b:Int)+(a:Int)=(J1:Int):=by omega
         have hIn:I1≤n:=by omega
         have hJn:J1≤n:=by omega
         have HI1:=hiD hI1;have HJ9:=hiD hJ1;have HIZ:=hiD hIz;have HJZ:=hiD hJz;clear hI1 hJ1 hIz hJz
         gi_wp2_with fail
         rw [HIZ.out,HJZ.out];refine ⟨trivial,?_⟩;obtain ⟨K1,hK1⟩:∃ K1,I1*(n+1)+J1=K1:=⟨_,rfl⟩;have hKm:K1<m:=by rw [← hK1,HM.out];exact place_lt hIn hJn
         have hat:=gat_any n I1 J1 m Go U1 (by omega) hIn hJn HM.out;rw [hK1] at hat;refine (CallsIn.inRound lr (callsIn_wide.2 hat)).mono ?_;rintro e U2 ⟨rfl,hbU⟩;have HK1:=hiD hK1;obtain ⟨OUT,hOUT⟩:∃ OUT,rowB S q cm n A B a b (rowA F S q n A B a (nextL F S n L i))=OUT:=⟨_,rfl⟩;have hN2:NxtI w Go m F S vf4 vf5 PB OUT V1 X U2:=by rw [← hOUT];exact HJ1.out.past hbU
         have hg9:=hN2.gr;obtain ⟨ov,hov⟩:∃ ov,OUT.getD K1 0=ov:=⟨_,rfl⟩
         have lov:rlen ov≤1048576:=by
          have h:=HOUT.out i a b K1 hi (by rw [HA.out];exact hlt) (by rw [HB9.out];exact nOf hlb);rw [HQ9.out,HA.out,HB9.out,HCM.out,hOUT,hov] at h;exact h
         obtain ⟨o1,o2,o3,o4,o5,o6,w0,w1,w2,O1,O2⟩:=hg9.at_ K1 hKm;simp only [hov] at w0 O1 O2;obtain ⟨k1,k2,k3,k4,k5,k6,b0,b1,b2,P1,P2⟩:=HB12.out.stays (.ofBelow (X:=fun _=>False) hbU) id;obtain ⟨sm,hsm⟩:∃ sm,ov+pt=sm:=⟨_,rfl⟩;have hGoU:=(hN2.pr Go hN2.go).1;obtain ⟨XG,hXG⟩:∃ XG:Nat→Prop,XG=fun k=>k=Go:=⟨_,rfl⟩
         have HXG:=hiD hXG;have hXl0:∀ k,XG k→k<U2.heap.size:=fun k h=>by rw [hXG] at h;exact ltq hGoU h
         clear hXG;have HLEN:=hiD hN2.len.symm;have HN2:=hiD hN2;have HG9:=hiD hg9;have HOV:=hiD hov;have HSM:=hiD hsm;have LOV:=hiD lov;have HOU:=hiD hOUT;have HJC:=hiD (HJC.out.past hbU);have HJF:=hiD (HJF.out.past hbU);have HJR:=hiD (HJR.out.stays (.ofBelow (X:=fun _=>False) hbU) id);have HJS:=hiD (HJS.out.stays (.ofBelow (X:=fun _=>False) hbU) id);have HJK:=hiD (HJK.out.trans ⟨hbU.size,fun k o hk _=>(hbU.block k (Array.getElem?_eq_some_iff.1 hk).1).trans hk⟩);clear hN2 hg9 hov hsm lov hOUT hat hK1 hbU t0 t1
         gi_wp2_with fail
         refine wpIn_region_invA (by kernel_rfl) rfl (by kernel_rfl) (fun A0 V0 dd aa ww=>∃ (y101 y102 y103 y104 y105 y106 y107 y100 y108 y109 y110:Value),aa=puts A0 [(101,y101),(102,y102),(103,y103),(104,y104),(105,y105),(106,y106),(107,y107),(100,y100),(108,y108),(109,y109),(110,y110)]∧Moves XG V0 ww∧(∀ k,k<V0.heap.size→XG k→XG k)∧(∀ k,XG k→k<ww.heap.size)∧(Shut (dd 11=false→Moves (fun _=>False) V0 ww))∧Shut (dd 0=true→y101 = .pointer (some ⟨Go,K1*3,none⟩))∧Shut (dd 1=true→y102 = .pointer (some ⟨Go,K1*3,none⟩))∧Shut (dd 2=true→y103 = .pointer (some ⟨Go,K1*3,none⟩))∧Shut (dd 3=true→y104 = .agg #[.bool (neg ov.num),.slice o1 o2 o3,.slice o4 o5 o6])∧Shut (dd 4=true→y105 = .agg #[.bool (neg pt.num),.slice k1 k2 k3,.slice k4 k5 k6])∧Shut (dd 5=true→dd 6=false→RowN XG 2 (ratsF [ov,pt]) y106 ww)∧Shut (dd 6=true→OkN (sm) y107 ww)∧Shut (dd 7=true→y100=y107)∧Shut (dd 8=true→y108=part 0 y100)∧Shut (dd 9=true→y109=part 1 y100)∧Shut (dd 10=true→y110 = .pointer (some ⟨Go,K1*3,none⟩))∧Shut (dd 11=true→GridAt ww Go m m (fun i=>(OUT.set K1 sm).getD i 0))) ?_ ?_ ?_
         · exact ⟨_,_,_,_,_,_,_,_,_,_,_,puts_self _ [101,102,103,104,105,106,107,100,108,109,110],Moves.drew _ _,fun _ _ h=>h,hXl0,fun _=>Moves.drew _ _,nf,nf,nf,nf,nf,nf,nf,nf,nf,nf,nf,nf⟩
         · refine StepsI.cons ?_ (StepsI.cons ?_ (StepsI.cons ?_ (StepsI.cons ?_ (StepsI.cons ?_ (StepsI.cons ?_ (StepsI.cons ?_ (StepsI.cons ?_ (StepsI.cons ?_ (StepsI.cons ?_ (StepsI.cons ?_ (StepsI.cons ?_ (StepsI.nil))))))))))))
           all_goals (intro dd aa ww K hc hun hn hI hK;obtain ⟨y101,y102,y103,y104,y105,y106,y107,y100,y108,y109,y110,ea,hM,hXX,hXl,SS,f0,f1,f2,f3,f4,f5,f6,f7,f8,f9,f10,f11⟩:=hI;subst ea;simp only [pu])
           · go_simp;exact hK.out _ _ ⟨_,_,_,_,_,_,_,_,_,_,_,by simp only [pu]<;>rfl,hM,hXX,hXl,fun h=>SS.out (upd_off h),fun _=>rfl,uo f1,uo f2,uo f3,uo f4,fun h h2=>((f5.out (upd_of rfl h)) (upd_off h2)),uo f6,uo f7,uo f8,uo f9,uo f10,uo f11⟩
           · go_simp;exact hK.out _ _ ⟨_,_,_,_,_,_,_,_,_,_,_,by simp only [pu]<;>rfl,hM,hXX,hXl,fun h=>SS.out (upd_off h),uo f0,fun _=>rfl,uo f2,uo f3,uo f4,hc.a hun,uo f6,hc.a hun,hc.a hun,hc.a hun,uo f10,uo f11⟩
           · obtain rfl:=f1.out (hc.see hn);go_simp;exact hK.out _ _ ⟨_,_,_,_,_,_,_,_,_,_,_,by simp only [pu]<;>rfl,hM,hXX,hXl,fun h=>SS.out (upd_off h),uo f0,fun h=>rfl,fun _=>rfl,uo f3,uo f4,hc.a hun,uo f6,hc.a hun,hc.a hun,hc.a hun,uo f10,uo f11⟩
           · obtain rfl:=f2.out (hc.see hn);have hSS:=SS.out (hc.not (f:=20) (s:=11) (l:=3) (by kernel_rfl) hun);have e0:=hSS.stays.cell id w0;have e1:=hSS.stays.cell id w1;have e2:=hSS.stays.cell id w2;go_simp;exact hK.out _ _ ⟨_,_,_,_,_,_,_,_,_,_,_,by simp only [pu]<;>rfl,hM,hXX,hXl,fun h=>SS.out (upd_off h),uo f0,uo f1,fun h=>rfl,fun _=>rfl,uo f4,hc.a hun,uo f6,hc.a hun,hc.a hun,hc.a hun,uo f10,uo f11⟩
           · have hSS:=SS.out (hc.not (f:=20) (s:=11) (l:=4) (by kernel_rfl) hun);have e0:=hSS.stays.cell id b0;have e1:=hSS.stays.cell id b1;have e2:=hSS.stays.cell id b2;go_simp;exact hK.out _ _ ⟨_,_,_,_,_,_,_,_,_,_,_,by simp only [pu]<;>rfl,hM,hXX,hXl,fun h=>SS.out (upd_off h),uo f0,uo f1,uo f2,uo f3,fun _=>rfl,hc.a hun,uo f6,hc.a hun,hc.a hun,hc.a hun,uo f10,uo f11⟩
           · obtain rfl:=f3.out (hc.see hn);obtain rfl:=f4.out (hc.see hn);go_simp;exact hK.out _ _ ⟨_,_,_,_,_,_,_,_,_,_,_,by simp only [pu]<;>rfl,hM.then (Moves.alloc XG ww _) hXX,hXX,(fun k hk=>nLt (hXl k hk) (by simp)),fun h=>(SS.out (upd_off h)).trans (Moves.alloc (fun _=>False) ww _),uo f0,uo f1,uo f2,fun h=>rfl,fun h=>rfl,fun _ _=>RowN.two _ hXl (O1.stays hM.stays) (O2.stays hM.stays) (P1.stays hM.stays) (P2.stays hM.stays),hc.a hun,hc.a hun,hc.a hun,hc.a hun,uo f10,hc.a hun⟩
           · obtain ⟨G5,ex,hL5,_,nG5⟩:=f5.out (hc.see hn) hun;subst ex;go_simp;refine ⟨trivial,?_⟩;refine (CallsIn.inRound lr (callsIn_wide.2 (add_two hL5 LOV.out LP.out))).mono ?_;rintro e w1 ⟨ahSMU,nhSMU,chSMU,ahSMD,nhSMD,chSMD,rfl,hSMU,hSMD,h1⟩;rw [HSM.out] at hSMU hSMD ⊢;have hSMU:=hSMU.toNatAt;have hSMD:=hSMD.toNatAt;have hm1:Moves XG ww w1:=.ofBelow h1;have hgo:Goes XG XG ww w1:=.below h1;exact hK.out _ _ ⟨_,_,_,_,_,_,_,_,_,_,_,by simp only [pu]<;>rfl,hM.then hm1 hXX,hXX,(fun k hk=>nLt (hXl k hk) hm1.size),fun h=>(SS.out (upd_off h)).trans (.ofBelow h1),uo f0,uo f1,uo f2,uo f3,uo f4,fun _ h2=>absurd h2 (by simp [upd]),fun _=>⟨_,_,_,_,_,_,rfl,hSMU,hSMD⟩,hc.a hun,hc.a hun,hc.a hun,uo f10,hc.a hun⟩
           · obtain ⟨ahSMU,nhSMU,chSMU,ahSMD,nhSMD,chSMD,ex,hSMU,hSMD⟩:=f6.out (hc.see hn);subst ex;go_simp;exact hK.out _ _ ⟨_,_,_,_,_,_,_,_,_,_,_,by simp only [pu]<;>rfl,hM,hXX,hXl,fun h=>SS.out (upd_off h),uo f0,uo f1,uo f2,uo f3,uo f4,fun _ h2=>absurd (show dd 6=true from (hc.see hn)) (by rw [upd_off h2];decide),uo f6,fun _=>rfl,hc.a hun,hc.a hun,uo f10,uo f11⟩
           · obtain ⟨ahSMU,nhSMU,chSMU,ahSMD,nhSMD,chSMD,ex,hSMU,hSMD⟩:=f6.out (hc.see hn);subst ex;have ex:y100 = .tuple #[.agg #[.bool (neg (sm).num),.slice ahSMU nhSMU chSMU,.slice ahSMD nhSMD chSMD],.int .i64 0]:=f7.out (hc.see hn);subst ex;go_simp;exact hK.out _ _ ⟨_,_,_,_,_,_,_,_,_,_,_,by simp only [pu]<;>rfl,hM,hXX,hXl,fun h=>SS.out (upd_off h),uo f0,uo f1,uo f2,uo f3,uo f4,fun _ h2=>absurd (show dd 6=true from (hc.see hn)) (by rw [upd_off h2];decide),uo f6,fun h=>rfl,fun _=>rfl,uo f9,uo f10,uo f11⟩
           · obtain ⟨ahSMU,nhSMU,chSMU,ahSMD,nhSMD,chSMD,ex,hSMU,hSMD⟩:=f6.out (hc.see hn);subst ex;have ex:y100 = .tuple #[.agg #[.bool (neg (sm).num),.slice ahSMU nhSMU chSMU,.slice ahSMD nhSMD chSMD],.int .i64 0]:=f7.out (hc.see hn);subst ex;go_simp;exact hK.out _ _ ⟨_,_,_,_,_,_,_,_,_,_,_,by simp only [pu]<;>rfl,hM,hXX,hXl,fun h=>SS.out (upd_off h),uo f0,uo f1,uo f2,uo f3,uo f4,fun _ h2=>absurd (show dd 6=true from (hc.see hn)) (by rw [upd_off h2];decide),uo f6,fun h=>rfl,uo f8,fun _=>rfl,uo f10,uo f11⟩
           · obtain rfl:=f0.out (hc.see hn);go_simp;exact hK.out _ _ ⟨_,_,_,_,_,_,_,_,_,_,_,by simp only [pu]<;>rfl,hM,hXX,hXl,fun h=>SS.out (upd_off h),fun h=>rfl,uo f1,uo f2,uo f3,uo f4,fun h h2=>((f5.out (upd_of rfl h)) (upd_off h2)),uo f6,uo f7,uo f8,uo f9,fun _=>rfl,uo f11⟩
           obtain rfl:=f10.out (hc.see hn);obtain ⟨ahSMU,nhSMU,chSMU,ahSMD,nhSMD,chSMD,ex,hSMU,hSMD⟩:=f6.out (hc.see hn);subst ex;have ex:y100 = .tuple #[.agg #[.bool (neg (sm).num),.slice ahSMU nhSMU chSMU,.slice ahSMD nhSMD chSMD],.int .i64 0]:=f7.out (hc.see hn);subst ex;have ex:y108 = .agg #[.bool (neg (sm).num),.slice ahSMU nhSMU chSMU,.slice ahSMD nhSMD chSMD]:=f8.out (hc.see hn);subst ex;have hSS:=SS.out hun;have hgw:=HG9.out.stays hSS.stays id;obtain ⟨v0,z0,_⟩:=hgw.box.c (K1*3) (by omega);obtain ⟨v1,z1,_⟩:=hgw.box.c (K1*3+1) (by omega);obtain ⟨v2,z2,_⟩:=hgw.box.c (K1*3+2) (by omega);have z3:=hgw.box.f (K1*3) (by omega);have z4:=hgw.box.f (K1*3+1) (by omega);have z5:=hgw.box.f (K1*3+2) (by omega);obtain ⟨wF,hWF,hgF,hst⟩:=hgw.set3 hKm HLEN.out hSMU hSMD;have HWF:=hiD hWF;have HGF:=hiD hgF;have hst9:Moves XG ww wF:=hst.mono (fun k _ e=>by rw [HXG.out];exact e);clear hWF hgF;go_simp;rw [HWF.out];exact hK.out _ _ ⟨_,_,_,_,_,_,_,_,_,_,_,by simp only [pu]<;>rfl,hM.trans hst9,hXX,(fun k hk=>nLt (hXl k hk) hst.size),fun h=>absurd h (by simp [upd]),uo f0,uo f1,uo f2,uo f3,uo f4,fun _ h2=>absurd (show dd 6=true from (hc.see hn)) (by rw [upd_off h2];decide),fun h=>(f6.out (upd_of rfl h)).calm hst.stays,fun h=>rfl,fun h=>rfl,uo f9,fun h=>rfl,fun _=>HGF.out⟩
         intro dd aa U3 hd hI;obtain ⟨y101,y102,y103,y104,y105,y106,y107,y100,y108,y109,y110,ea,hM,hXX,hXl,SS,f0,f1,f2,f3,f4,f5,f6,f7,f8,f9,f10,f11⟩:=hI;obtain rfl:=f0.out (hd 0 (by simp));obtain rfl:=f1.out (hd 1 (by simp));obtain rfl:=f2.out (hd 2 (by simp));obtain rfl:=f3.out (hd 3 (by simp));obtain rfl:=f4.out (hd 4 (by simp));obtain ⟨ahSMU,nhSMU,chSMU,ahSMD,nhSMD,chSMD,ex,hSMU,hSMD⟩:=f6.out (hd 6 (by simp));subst ex;have ex:y100 = .tuple #[.agg #[.bool (neg (sm).num),.slice ahSMU nhSMU chSMU,.slice ahSMD nhSMD chSMD],.int .i64 0]:=f7.out (hd 7 (by simp));subst ex;have ex:y108 = .agg #[.bool (neg (sm).num),.slice ahSMU nhSMU chSMU,.slice ahSMD nhSMD chSMD]:=f8.out (hd 8 (by simp));subst ex;have ex:y109 = .int .i64 0:=f9.out (hd 9 (by simp));subst ex;obtain rfl:=f10.out (hd 10 (by simp));subst ea;simp only [pu];have hgF:=f11.out (hd 11 (by simp));rw [HXG.out] at hM;have hNN:=HN2.out.store hgF (by rw [List.length_set];exact HN2.out.len) hM HNE.out.2.2.2.2.2.2
         have e8:rowB S q cm n A B a (b+1) (rowA F S q n A B a (nextL F S n L i))=OUT.set K1 sm:=by
          rw [rowB_succ,HOU.out,stepB];have h1:(A-a)*(n+1)+(B-1-b+a)=K1:=by rw [HI1.out,HJ9.out];exact HK1.out
          rw [h1,HOV.out,← HSM.out,← HPT.out,← HGS.out];have h2:B-1=R9:=by have:=HRI.out;omega
          rw [h2]
         have HNN:=hiD (show NxtI w Go m F S vf4 vf5 PB (rowB S q cm n A B a (b+1) (rowA F S q n A B a (nextL F S n L i))) V1 X U3 by rw [e8];exact hNN);have HJC:=hiD (HJC.out.stays hM.stays HNE.out.1 HNE.out.2.1 HNE.out.2.2.1 HNE.out.2.2.2.1);have HJF:=hiD (HJF.out.stays hM.stays HNE.out.2.2.2.2.2.1 HNE.out.2.2.2.2.1);have HJR:=hiD (HJR.out.stays hM.stays n17);have HJS:=hiD (HJS.out.stays hM.stays n21);have HJK:=hiD (HJK.out.trans hM.others);clear hNN hgF hM hXX hXl hXl0 e8
         gi_wp2
         exact ⟨⟨b+1,V1,X,Nat.succ_le_of_lt hlb,by go_num,HNN.out,HJC.out,HJF.out,HJK.out,HJR.out,HJS.out⟩,by simp [intOf];omega⟩
       obtain rfl:B=b:=by omega
       gi_wp2
       have e8:rowA F S q n A B (a+1) (nextL F S n L i)=rowB S q cm n A B a B (rowA F S q n A B a (nextL F S n L i)):=by
        rw [rowA_succ,stepA,HCM.out,if_neg HC0.out]
       have hrel9:NxtI w Go m F S vf4 vf5 PA (rowA F S q n A B (a+1) (nextL F S n L i)) V1 V2 wr:=by
        rw [e8];refine HIb.out.less (fun k hk => ?_) HPB.out.2.2.2.2.1;rw [HPBB.out];exact .inl hk
       exact ⟨⟨a+1,V1,V2,Nat.succ_le_succ hlt,by go_num,hrel9,HCb.out,HFb.out,HKb.out,HRb.out⟩,by simp [intOf];omega⟩
    obtain rfl:a=A+1:=by omega
    gi_wp2
    refine hQQ.out _ _ _ ⟨rfl,HKa.out,HFa.out,Y1,Y2,?_,HCa.out⟩
    have e9:nextL F S n L (i+1)=rowA F S q n A B (A+1) (nextL F S n L i):=by
     rw [nextL_succ,stepPl,HB9.out,HQ9.out,HA.out,if_neg (fun h=>h.elim HB0.out HQ0.out)]
    rw [e9];refine HIa.out.less (fun k hk => ?_) HPG.out;rw [HPA.out];exact .inl (.inl hk)
 rintro D W hD ⟨X1,X2,hI,hC⟩ hfix hdef;have HII:=hiD hI;have t0:=hC.t0;have t1:=hC.t1;have xo9:=hC.xo;have hneG:=hiD hneq;clear hI hC hfix hneq hPR hf4 hf5;rw [← hA0];obtain ⟨v0,v1,z0,z1,z2,z3,u0,u1⟩:=xo9.two;clear hA0
 gi_wp2
 go_wp2
 obtain ⟨W3,hW3,hO,p0,p1,xF⟩:=store2 xo9 (.int .i64 (n:Int)) (.slice (some ⟨Go,0,none⟩) m m) (notU_i64 _) (notU_slice _ _ _)
 have hmF:Moves (fun k=>k=(w.heap.size+1)) W W3:=by
  rw [← hW3];exact (Moves.set z0 u0 _).trans (Moves.set ((World.cell?_setCell_other _ _ _ _ (fun e=>by cases e)).trans z1) u1 _)
 have hdef3:=hmF.same _ _ hdef rfl;try rw [hW3]
 have r0:=cell_turn (.deferred none) p0 hdef3 rfl;have r1:=cell_turn (.deferred none) p1 hdef3 rfl;have hgr:=(HII.out.gr.stays hmF.stays (fun e=>hneG.out.1 e.symm)).stays (X:=fun _=>False) (.turn (.deferred none) hdef3 rfl) id;have hBF:=(HII.out.bw.trans (hmF.below HII.out.bw.size (fun k e=>by omega))).trans (below_put (.deferred none) (show w.heap.size≤D by omega));refine ⟨by simp,.inl ⟨_,_,rfl,run_takeDeferred hdef3,?_⟩⟩;refine ⟨.agg #[.int .i64 (n:Int),.slice (some ⟨Go,0,none⟩) m m],?_,Go,rfl,?_,hneG.out.2.2.2.2.2.2,hBF⟩
 · simp [results,Tryz.f236,go_sem,r0,r1]
 exact hgr.ext (fun i _=>by rw [← nextL_all,← HM.out])
end
section
open Go.RowKit Go.Shelf
attribute [local go_sem] Oper.semAt_some
structure NextOk (n m:Nat) (F S:Rat) (L:List Rat):Prop where
 q:(rlen F≤1048576∧rlen (1-F)≤1048576)∧(rlen S≤1048576∧rlen (1-S)≤1048576)
 l:∀ i,rlen (L.getD i 0)≤300000
 fs:∀ c a,a≤c→c≤n→rlen (shareQ F c a)≤300000
 ss:∀ r b,b≤r→r≤n→rlen (shareQ S r b)≤300000
 pw:∀ j,j≤n→(rlen (F ^ j)≤1048576∧rlen ((1-F) ^ j)≤1048576)∧(rlen (S ^ j)≤1048576∧rlen ((1-S) ^ j)≤1048576)
 tri:∀ i,i<m→L.getD i 0≠0→i/(n+1)+i % (n+1)≤n
 out:∀ i a b j,i<m→a≤i/(n+1)→b≤i % (n+1)→rlen ((rowB S (L.getD i 0) (shareQ F (i/(n+1)) a) n (i/(n+1)) (i % (n+1)) a b (rowA F S (L.getD i 0) n (i/(n+1)) (i % (n+1)) a (nextL F S n L i))).getD j 0)≤1048576
structure FirstOk (n:Nat) (p:Rat):Prop where
 l:∀ j,j≤n→rlen (p ^ j)≤1048576∧rlen ((1-p) ^ j)≤1048576
 q:rlen p≤1048576∧rlen (1-p)≤1048576
def OkLv (zs:List Int) (k n m:Nat) (Y:Nat→Prop) (i:Nat) (x:Array Value) (W:World):Prop:=∃ g,x=#[.int .i64 ((k-i:Nat):Int),.agg #[.int .i64 (n:Int),.slice (some ⟨g,0,none⟩) m m]]∧GridAt W g m m (fun j=>(levelG zs k n i).getD j 0)∧¬ Y g
structure FixLv (bT bK bN:Nat) (a:Option Addr) (l c:Nat) (zs:List Int) (k n:Nat) (Y:Nat→Prop) (W:World):Prop where
 qT:W.cell? ⟨bT,0,none⟩=some (.slice a l c)
 qK:W.cell? ⟨bK,0,none⟩=some (.int .i64 (k:Int))
 qN:W.cell? ⟨bN,0,none⟩=some (.int .i64 (n:Int))
 g:IntsAt W a l c zs
 y:∀ b,Y b→b<W.heap.size
theorem FixLv.past {bT bK bN:Nat} {a:Option Addr} {l c:Nat} {zs:List Int} {k n:Nat} {Y:Nat→Prop} {W W':World} (h:FixLv bT bK bN a l c zs k n Y W) (hb:Below W.heap.size W W'):FixLv bT bK bN a l c zs k n Y W' :=
 ⟨bq hb (World.block_lt_of_cell? W ⟨bT,0,none⟩ h.qT) h.qT,bq hb (World.block_lt_of_cell? W ⟨bK,0,none⟩ h.qK) h.qK,bq hb (World.block_lt_of_cell? W ⟨bN,0,none⟩ h.qN) h.qN,h.g.past hb,fun b hy=>nLt (h.y b hy) hb.size⟩
theorem FixLv.turn {bT bK bN:Nat} {a:Option Addr} {l c:Nat} {zs:List Int} {k n:Nat} {Y:Nat→Prop} {W:World} {l0:Nat} {o:Obj} (o':Obj) (h:FixLv bT bK bN a l c zs k n Y W) (hl:W.heap[l0]? = some o) (ho:o.isCells=false):FixLv bT bK bN a l c zs k n Y (W.putObj l0 o') :=
 have hs:Stays (fun _=>False) W (W.putObj l0 o'):=.turn o' hl ho
 ⟨hs.cell id h.qT,hs.cell id h.qK,hs.cell id h.qN,h.g.stays hs (.inr fun _ _=>id),fun b hy=>nLt (h.y b hy) hs.size⟩
theorem FixLv.moves {bT bK bN:Nat} {a:Option Addr} {l c:Nat} {zs:List Int} {k n:Nat} {Y Z:Nat→Prop} {W W':World} (h:FixLv bT bK bN a l c zs k n Y W) (hs:Stays Z W W') (h1:¬ Z bT) (h2:¬ Z bK) (h3:¬ Z bN) (h4:∀ x,a=some x→¬ Z x.block):FixLv bT bK bN a l c zs k n Y W' :=
 ⟨hs.cell h1 h.qT,hs.cell h2 h.qK,hs.cell h3 h.qN,h.g.stays hs (.inr h4),fun b hy=>nLt (h.y b hy) hs.size⟩
theorem levels1_hands (bT bK bN:Nat) (a:Option Addr) (l c:Nat) (zs:List Int) (k n m:Nat) (Y:Nat→Prop) (hok:okT zs (k:Int)) (hk1:1≤k) (hk:k≤20) (hn:n≤999) (hm:m=(n+1)*(n+1)) (hF:FirstOk n (inR24 zs k k 1)) (hNx:∀ i,i<k→NextOk n m (freeR zs k (k-i)) (mkRat 1 (k-i)) (levelG zs k n i)) :
 HandsY 4 Tryz.prog 234 #[.pointer (some ⟨bT,0,none⟩),.pointer (some ⟨bK,0,none⟩),.pointer (some ⟨bN,0,none⟩)] (k+1) (OkLv zs k n m Y) (FixLv bT bK bN a l c zs k n Y) Y:=by
 intro lp J W hJ hfix hY h0;have HFI:=hiD (fun (w:World) (g:IntsAt w a l c zs)=>first_any a l c zs k n m (inR24 zs k k 1) w g hok hk1 hk hn hm rfl hF.l hF.q);have HNX:=hiD (fun (i:Nat) (hi:i<k) (Gi:Nat) (w:World) (g:IntsAt w a l c zs) (hgi:GridAt w Gi m m (fun j=>(levelG zs k n i).getD j 0))=>next_any a l c zs k (k-i) n m Gi _ _ (levelG zs k n i) w g hgi hok hk1 hk (by omega) (by omega) hn hm rfl rfl (hNx i hi).q (hNx i hi).l (hNx i hi).fs (hNx i hi).ss (hNx i hi).pw (hNx i hi).tri (hNx i hi).out);have hm1:0<m:=by rw [hm];exact Nat.mul_pos (by omega) (by omega)
 have HY:=hiD hY;have HJ:=hiD hJ;have HF:=hiD hfix;have qT:=hfix.qT;have qK:=hfix.qK;have qN:=hfix.qN;have H0:=hiD h0;clear hY hJ hfix h0 hok hm hF hNx;refine callsIn_of_wp Tryz.func234 rfl trivial ?_ rfl;simp only [Tryz.ntmps234,List.size_toArray,List.length_cons,List.length_nil,Nat.reduceAdd,Nat.reduceSub,Array.replicate_succ,Array.replicate_zero,List.push_toArray,List.append_toArray,List.nil_append,List.cons_append]
 gi_wp2_with fail
 refine ⟨trivial,?_⟩;refine (callsIn_wide.2 (HFI.out W HF.out.g)).mono ?_;rintro e W1 ⟨g0,rfl,hg0,hgl,hb1⟩;have qT:=bq hb1 (World.block_lt_of_cell? W ⟨bT,0,none⟩ qT) qT;have qK:=bq hb1 (World.block_lt_of_cell? W ⟨bK,0,none⟩ qK) qK;have qN:=bq hb1 (World.block_lt_of_cell? W ⟨bN,0,none⟩ qN) qN;have lK:=World.block_lt_of_cell? W1 ⟨bK,0,none⟩ qK
 gi_wp2_with fail
 obtain ⟨W2,hW2,y2,hb2,r2,f2⟩:=box1g W1 W1.heap.size rfl #[.int .i64 (n:Int),.slice (some ⟨g0,0,none⟩) m m] 221;rw [hW2];have hb12:=bLt hb1 hb2;have x5:BoxAt W2 W1.heap.size 2:=BoxAt.of r2 f2 rfl (by simp [notU_i64,notU_slice]);have q50:W2.cell? ⟨W1.heap.size,0,none⟩=some (.int .i64 (n:Int)):=r2 0;have q51:W2.cell? ⟨W1.heap.size,1,none⟩=some (.slice (some ⟨g0,0,none⟩) m m):=r2 1;have hg2:=hg0.past hb2;have lg0:=hg0.lt hm1;have hJ2:J 0 W2:=HJ.out 0 W W2 (fun _=>False) H0.out (.ofBelow hb12) (fun _ h=>h.elim);have hF2:=HF.out.past hb12;have low:W.heap.size≤W1.heap.size:=hb1.size;have nY5:¬ Y W1.heap.size:=fun h=>by have:=HF.out.y _ h;omega
 have nYg:¬ Y g0:=fun h=>by have:=HF.out.y _ h;omega
 have gne:g0≠W1.heap.size:=by omega
 obtain ⟨B5,hB5⟩:∃ B5,W1.heap.size=B5:=⟨_,rfl⟩;rw [hB5] at x5 q50 q51 low nY5 gne ⊢;clear hW2 r2 f2 y2 hb2 hb12 hb1 hB5 qT qK qN lK
 gi_loopw [6] (fun s6 wr=>∃ (i g:Nat),i≤k∧s6 = .int .i64 ((k-i:Nat):Int)∧J i wr∧FixLv bT bK bN a l c zs k n Y wr∧GridAt wr g m m (fun j=>(levelG zs k n i).getD j 0)∧wr.cell? ⟨B5,0,none⟩=some (.int .i64 (n:Int))∧wr.cell? ⟨B5,1,none⟩=some (.slice (some ⟨g,0,none⟩) m m)∧BoxAt wr B5 2∧¬ Y g∧g≠B5) (fun s6 _=>(intOf s6).toNat)
 case atStart=>exact ⟨0,g0,Nat.zero_le _,rfl,hJ2,hF2,hg2,q50,q51,x5,nYg,gne⟩
 case round =>
  clear hJ2 hF2 hg2 q50 q51 x5 nYg gne;obtain ⟨i,g,hi,rfl,hJi,hfix,hg,q50,q51,x5,nYg,gne⟩:=hrel;have hY1:=HY.out i #[.int .i64 ((k-i:Nat):Int),.agg #[.int .i64 (n:Int),.slice (some ⟨g,0,none⟩) m m]] wr (by omega) hJi hfix ⟨g,rfl,hg,nYg⟩;obtain ⟨fn,tmps,assign,body,hy,hR⟩:=hY1;have HR:=hiD hR;have HG:=hiD hg;have HX5:=hiD x5;have HFX:=hiD hfix;have e50:=q50;have e51:=q51;clear hR hg x5 hfix hJi
  by_cases hlt:i<k
  · obtain ⟨U,hU⟩:∃ U,k-i=U:=⟨_,rfl⟩;rw [hU] at hy ⊢;have hU0:0<U:=by omega
    have HU:=hiD hU;clear hU
    gi_wp2_with (first | (refine HR.out.mono ?_;rintro e W3 ⟨rfl,hJ3,hF3,hS3⟩;have q50:=hS3.cell nY5 e50;have q51:=hS3.cell nY5 e51;have x5:=hS3.box nY5 HX5.out;have hg3:=HG.out.stays hS3 nYg;have qT:=hF3.qT;have qK:=hF3.qK;have qN:=hF3.qN))
    refine ⟨trivial,?_⟩;have hnx:=HNX.out i hlt g W3 hF3.g hg3;rw [HU.out] at hnx;refine (callsIn_wide.2 hnx).mono ?_;rintro e W4 ⟨g4,rfl,hg4,hgl4,hb4⟩;have l5:B5<W3.heap.size:=World.block_lt_of_cell? W3 ⟨B5,0,none⟩ q50;have x54:=x5.past hb4 l5;obtain ⟨v0,v1,z0,z1,z2,z3,u0,u1⟩:=x54.two;obtain ⟨WF,hWF,hO,p0,p1,xF⟩:=store2 x54 (.int .i64 (n:Int)) (.slice (some ⟨g4,0,none⟩) m m) (notU_i64 _) (notU_slice _ _ _)
    have hmF:Moves (fun k=>k=B5) W4 WF:=by
     rw [← hWF];exact (Moves.set z0 u0 _).trans (Moves.set ((World.cell?_setCell_other _ _ _ _ (fun e=>by cases e)).trans z1) u1 _)
    have g45:g4≠B5:=by omega
    have nY4:¬ Y g4:=fun h=>by have:=hF3.y _ h;omega
    have hF4:=hF3.past hb4
    have hl4:levelG zs k n (i+1)=nextG (freeR zs k U) (mkRat 1 U) n (levelG zs k n i):=by
     show nextG (freeR zs k (k-i)) (mkRat 1 (k-i)) n (levelG zs k n i)=_;rw [HU.out]
    have hgF:GridAt WF g4 m m (fun j=>(levelG zs k n (i+1)).getD j 0):=by rw [hl4];exact hg4.stays hmF.stays g45
    have hJF:J (i+1) WF:=HJ.out (i+1) W3 WF (fun k=>k=B5) hJ3 ((Moves.ofBelow hb4).trans hmF) (fun b e=>by omega)
    have neT:bT≠B5:=fun e=>by
     have:=World.block_lt_of_cell? W ⟨bT,0,none⟩ HF.out.qT;have e2:bT<W.heap.size:=this;omega
    have neK:bK≠B5:=fun e=>by
     have e2:bK<W.heap.size:=World.block_lt_of_cell? W ⟨bK,0,none⟩ HF.out.qK;omega
    have neN:bN≠B5:=fun e=>by
     have e2:bN<W.heap.size:=World.block_lt_of_cell? W ⟨bN,0,none⟩ HF.out.qN;omega
    have hFF:FixLv bT bK bN a l c zs k n Y WF:=⟨hmF.stays.cell neT hF4.qT,hmF.stays.cell neK hF4.qK,hmF.stays.cell neN hF4.qN,hF4.g.stays hmF.stays (by
     rcases HF.out.g.cell with h | ⟨b,o,rfl,hlb,_⟩
     · exact .inl h
     exact .inr fun x hx=>by cases hx;exact fun e=>by have e2:b=B5:=e;omega),fun b hy=>nLt (hF4.y b hy) hmF.size⟩
    have hUi:wrap64 ((U:Int)-1)=((k-(i+1):Nat):Int):=by
     have h:=HU.out;rw [w64_in _ ⟨by omega,by omega⟩];omega
    have hlU:k-(i+1)<U:=by have:=HU.out;omega
    have HWF:=hiD hWF;have HGF:=hiD hgF;have HJF:=hiD hJF;have HFF:=hiD hFF;have HUI:=hiD hUi;clear hWF hgF hJF hFF hUi hl4 hmF hO
    gi_wp2
    rw [HWF.out,HUI.out];exact ⟨⟨i+1,g4,hlt,rfl,HJF.out,HFF.out,HGF.out,p0,p1,xF,nY4,g45⟩,by simpa [intOf] using hlU⟩
  obtain rfl:i=k:=by omega
  rw [Nat.sub_self] at hy ⊢;have hy:(Instr.yield lp #[.int .i64 0,.agg #[.int .i64 (n:Int),.slice (some ⟨g,0,none⟩) m m]]).run Tryz.prog wr=_:=hy;show Code.wpIn _ _ _ _ _ { tmps:=#[_,_,_,_,_,_,.int .i64 0,_,_,_,_,_,_,_,_,_,_,_,_,_,_,_,_,_,_,_,_],defers:=[] } wr
  gi_wp2_with (first | (refine HR.out.mono ?_;rintro e W3 ⟨rfl,hJ3,hF3,hS3⟩))
  go_end0
  exact ⟨⟨_,rfl⟩,hJ3,hF3⟩
theorem levels_any (a:Option Addr) (l c k n:Nat) (w:World) :
 Calls Tryz.prog 221 #[.slice a l c,.int .i64 (k:Int),.int .i64 (n:Int)] w fun e w'=>e = .returned (.func (.func 234) #[] #[.pointer (some ⟨w.heap.size,0,none⟩),.pointer (some ⟨w.heap.size+1,0,none⟩),.pointer (some ⟨w.heap.size+1+1,0,none⟩)]) ∧
  ((w.alloc (.cells #[.slice a l c] 22)).alloc (.cells #[.int .i64 (k:Int)] 3)).alloc (.cells #[.int .i64 (n:Int)] 3)=w':=by
 have hmf:∀ (fn:Fn) (first cap:Array Value) (w:World),(Instr.makeFunc fn first cap).run Tryz.prog w = .ok (.func fn first cap) w:=fun _ _ _ _=>rfl
 go_enter Tryz.func221,Tryz.ntmps221
 go_wp2
 go_ret
 exact ⟨by simp,by simp⟩
end
theorem firstOk {p:Rat} {K n:Nat} (h:rlen p≤K) (hK:K≤10000) (hn:n≤3):FirstOk n p:=by
 refine ⟨fun j hj => ?_,by omega,nTr (rlen_one_sub h) (by omega)⟩;have h1:=rlen_pows (p:=p) h hj;have h2:=rlen_pows (p:=1-p) (rlen_one_sub h) hj;have h3:n*K≤3*K:=Nat.mul_le_mul_right K hn;have h4:n*(K+2)≤3*(K+2):=Nat.mul_le_mul_right _ hn;omega
theorem len_succ {A K:Nat} (h:(digs A).length≤K):(digs (A+1)).length≤K+1:=by
 refine digs_length_le.2 ?_;have h1:=digs_length_le.1 h;have h2:0<18446744073709551616 ^ K:=Nat.pow_pos (by decide);rw [Nat.pow_succ];omega
theorem len_small {c:Nat} (h:c<18446744073709551616):(digs c).length≤1:=digs_length_le.2 (by simpa using h)
theorem fit_parts {x:Rat} {K:Nat} (h:rlen x≤K):x.den≠0∧Fit x.den x.num.natAbs x∧(digs x.num.natAbs).length≤K∧(digs x.den).length≤K :=
 ⟨x.den_nz,Fit.self x,nTr (Nat.le_max_left _ _) h,nTr (Nat.le_max_right _ _) h⟩
theorem len_share {P K n:Nat} (h:(digs P).length≤K) (hn:n≤3):(digs (3*(P+1) ^ n)).length≤3*K+5:=by
 have h1:=digs_len_prod 3 ((P+1) ^ n);have h2:=len_pow (P+1) n;have h3:=len_succ h;have h4:n*(digs (P+1)).length≤3*(K+1):=Nat.mul_le_mul hn h3;have h5:=len_small (c:=3) (by decide);omega
theorem len_den {D K n:Nat} (h:(digs D).length≤K) (hn:n≤3):(digs (D ^ n)).length≤3*K+1:=by
 have h2:=len_pow D n;have h4:n*(digs D).length≤3*K:=Nat.mul_le_mul hn h;omega
theorem pow_ne0 {a:Nat} (h:a≠0) (n:Nat):a ^ n≠0:=Nat.ne_of_gt (Nat.pow_pos (Nat.pos_of_ne_zero h))
theorem small_len {z:Int} {d:Nat} (hd:d≠0) (h1:z.natAbs<18446744073709551616) (h2:d<18446744073709551616):rlen (mkRat z d)≤1:=rlen_mkRat hd (len_small h1) (len_small h2)
theorem stepOk {n M A K a b:Nat} {F S:Rat} {L:List Rat} (hn:n≤3) (hM:M≠0) (hg:Good M A L) (ha:(digs A).length≤a) (hb:(digs M).length≤b) (hF:rlen F≤K) (hS:rlen S≤K) :
 ∃ M' T,M'≠0∧TermOk M' T F S n L∧(digs M').length≤b+6*K+2∧(digs ((n+1)*(n+1)*((n+1)*(n*T)))).length≤a+6*K+11:=by
 obtain ⟨f0,f1,f2,f3⟩:=fit_parts hF;obtain ⟨s0,s1,s2,s3⟩:=fit_parts hS;have hC:∀ c,c≤n→∀ a,a≤c→ch c a≤3:=fun c hc=>ch_small c (by omega)
 refine ⟨_,_,Nat.mul_ne_zero (Nat.mul_ne_zero hM (pow_ne0 f0 _)) (pow_ne0 s0 _),term_ok hg f1 s1 hC,?_,?_⟩
 · have h1:=digs_len_prod (M*F.den ^ n) (S.den ^ n);have h2:=digs_len_prod M (F.den ^ n);have h3:=len_den f3 hn;have h4:=len_den s3 hn;omega
 have h1:=len_share f2 hn;have h2:=len_share s2 hn;have h3:=digs_len_prod (A*(3*(F.num.natAbs+1) ^ n)) (3*(S.num.natAbs+1) ^ n);have h4:=digs_len_prod A (3*(F.num.natAbs+1) ^ n);generalize A*(3*(F.num.natAbs+1) ^ n)*(3*(S.num.natAbs+1) ^ n)=T at *;have h5:(n+1)*(n+1)*((n+1)*(n*T))=(n+1)*(n+1)*((n+1)*n)*T:=by grind
 have h6:=digs_len_prod ((n+1)*(n+1)*((n+1)*n)) T;have h7:(n+1)*(n+1)*((n+1)*n)≤4*4*(4*3):=Nat.mul_le_mul (Nat.mul_le_mul (by omega) (by omega)) (Nat.mul_le_mul (by omega) (by omega));have h8:=len_small (c:=(n+1)*(n+1)*((n+1)*n)) (by omega);rw [h5];omega
theorem nextOk {n m M A K a b:Nat} {F S:Rat} {L:List Rat} (hm:m=(n+1)*(n+1)) (hn:n≤3) (hT:Tri n L) (hM:M≠0) (hg:Good M A L) (ha:(digs A).length≤a) (hb:(digs M).length≤b) (hF:rlen F≤K) (hS:rlen S≤K) (hK:K≤2000) (hab:a+b≤100000):NextOk n m F S L:=by
 obtain ⟨M',T,hM',ht,lM,lT⟩:=stepOk hn hM hg ha hb hF hS;refine ⟨⟨⟨by omega,nTr (rlen_one_sub hF) (by omega)⟩,by omega,nTr (rlen_one_sub hS) (by omega)⟩,fun i=>nTr ((hg i).short hM ha hb) (by omega),?_,?_,?_,fun i _ h0=>hT i h0,?_⟩
 · intro c x hx hc;have h1:=rlen_share (p:=F) hF hc hx hn;have h2:n*K≤3*2000:=Nat.mul_le_mul hn hK;have h3:n*(K+2)≤3*2002:=Nat.mul_le_mul hn (by omega);omega
 · intro c x hx hc;have h1:=rlen_share (p:=S) hS hc hx hn;have h2:n*K≤3*2000:=Nat.mul_le_mul hn hK;have h3:n*(K+2)≤3*2002:=Nat.mul_le_mul hn (by omega);omega
 · intro j hj;have h2:n*K≤3*2000:=Nat.mul_le_mul hn hK;have h3:n*(K+2)≤3*2002:=Nat.mul_le_mul hn (by omega);have e1:=rlen_pows (p:=F) hF hj;have e2:=rlen_pows (p:=1-F) (rlen_one_sub hF) hj;have e3:=rlen_pows (p:=S) hS hj;have e4:=rlen_pows (p:=1-S) (rlen_one_sub hS) hj;omega
 intro i x y j hi hx hy;subst hm;have h1:=part_good ht hi hx hy j;exact nTr (h1.short hM' lT lM) (by omega)
theorem nextG_good {n M A K a b:Nat} {F S:Rat} {L:List Rat} (hn:n≤3) (hM:M≠0) (hg:Good M A L) (ha:(digs A).length≤a) (hb:(digs M).length≤b) (hF:rlen F≤K) (hS:rlen S≤K) :
 ∃ M' A',M'≠0∧Good M' A' (nextG F S n L)∧(digs A').length≤a+6*K+11∧(digs M').length≤b+6*K+2:=by
 obtain ⟨M',T,hM',ht,lM,lT⟩:=stepOk hn hM hg ha hb hF hS;exact ⟨M',_,hM',nextL_good ht _ (nRf _),lT,lM⟩
theorem free_len {zs:List Int} {k u:Nat} (hok:okT zs (k:Int)) (hk:k≤2) (hu:u≤k) (hu1:1≤u):rlen (freeR zs k u)≤1200:=by
 unfold freeR
 by_cases h0:cloudR zs k u=0
 · rw [h0,Rat.div_def,Rat.inv_zero,Rat.mul_zero,rlen_zero]
   decide
 have h2:2≤u:=by
  by_cases h2:2≤u
  · exact h2
  exact absurd (cloud_one (by omega)) h0
 have h1:=in_len hok (by omega) hu h2
 have h3:rlen (cloudR zs k u)≤1+1*(501+1):=by
  unfold cloudR;rw [show u+1-2=1 by omega];exact sumQ_len (q:=fun i=>inR24 zs k u (2+i)) (L:=501) (N:=1) (fun i hi=>in_len hok (by omega) hu (by omega)) 1 (nRf _)
 rw [Rat.div_def];have h4:rlen (mkRat 2 u*inR24 zs k u 2*(cloudR zs k u)⁻¹)≤_:=product_short _ _;have h5:rlen (mkRat 2 u*inR24 zs k u 2)≤_:=product_short _ _;have h6:rlen (mkRat 2 u)≤1:=small_len (by omega) (by decide) (by omega);rw [rlen_inv h0] at h4;omega
theorem unit_len {u:Nat} (h:1≤u) (h2:u≤2):rlen (mkRat 1 u)≤1200:=nTr (small_len (by omega) (by decide) (by omega)) (by decide)
theorem level_good {zs:List Int} {k n:Nat} (hok:okT zs (k:Int)) (hk:k≤2) (hn:n≤3):∀ i,i≤k→∃ M A,M≠0∧Good M A (levelG zs k n i)∧(digs A).length≤3605+i*7211∧(digs M).length≤3605+i*7211
 | 0, _ => by
   obtain ⟨f0,f1,f2,f3⟩:=fit_parts (nTr (in_len (j:=1) (u:=k) hok (by omega) (nRf _) (by have:=hok.1;omega)) (show 501≤1200 by decide));have h1:=firstL_good f1 (n:=n) (C:=3) (fun r hr=>ch_small n hn r hr) (n+1) (nRf _);rw [firstL_all] at h1;exact ⟨_,_,pow_ne0 f0 _,h1,by have:=len_share f2 hn;omega,by have:=len_den f3 hn;omega⟩
 | i + 1, hi => by
   obtain ⟨M,A,hM,hg,la,lb⟩:=level_good hok hk hn i (by omega);obtain ⟨M',A',hM',hg',la',lb'⟩:=nextG_good hn hM hg la lb (free_len (u:=k-i) hok hk (by omega) (by omega)) (unit_len (u:=k-i) (by omega) (by omega));exact ⟨M',A',hM',hg',by omega,by omega⟩
theorem level_next {zs:List Int} {k n m:Nat} (hok:okT zs (k:Int)) (hk:k≤2) (hn:n≤3) (hm:m=(n+1)*(n+1)) (i:Nat) (hi:i<k):NextOk n m (freeR zs k (k-i)) (mkRat 1 (k-i)) (levelG zs k n i):=by
 obtain ⟨M,A,hM,hg,la,lb⟩:=level_good hok hk hn i (by omega);exact nextOk hm hn (levelG_tri _ _ _ _) hM hg la lb (free_len hok hk (by omega) (by omega)) (unit_len (by omega) (by omega)) (by decide) (by omega)
theorem level_first {zs:List Int} {k n:Nat} (hok:okT zs (k:Int)) (hk:k≤2) (hn:n≤3):FirstOk n (inR24 zs k k 1) :=
 firstOk (in_len hok (by omega) (nRf _) (by have:=hok.1;omega)) (by decide) hn
theorem stuckL_fit {n u M A:Nat} {g:List Rat} (hg:Good M A g):∀ i,Fit M (i*A) (stuckL n u g i)
 | 0=>by rw [Nat.zero_mul];exact Fit.zero M
 | i + 1 => by
   rw [stuckL_succ,Nat.succ_mul]
   split
   · exact (stuckL_fit hg i).add (hg i)
   exact (stuckL_fit hg i).weak (Nat.le_add_right _ _)
theorem stuck_len {zs:List Int} {k n:Nat} (hok:okT zs (k:Int)) (hk:k≤2) (hn:n≤3) (u i j:Nat) (hi:i≤k) (hj:j≤(n+1)*(n+1)):rlen (stuckL n u (levelG zs k n i) j)≤100000:=by
 obtain ⟨M,A,hM,hg,la,lb⟩:=level_good hok hk hn i hi;have h1:j≤4*4:=nTr hj (Nat.mul_le_mul (by omega) (by omega));have h2:=digs_len_prod j A;have h3:=len_small (c:=j) (by omega);exact nTr ((stuckL_fit hg j).short (K:=1+(3605+i*7211)) hM (by omega) lb) (by omega)
theorem level_len {zs:List Int} {k n:Nat} (hok:okT zs (k:Int)) (hk:k≤2) (hn:n≤3) (i j:Nat) (hi:i≤k):rlen ((levelG zs k n i).getD j 0)≤100000:=by
 obtain ⟨M,A,hM,hg,la,lb⟩:=level_good hok hk hn i hi;exact nTr ((hg j).short hM la lb) (by omega)
section
open Go.RowKit Go.Shelf
structure GridOf (w:World) (g c:Nat) (P:Nat→Prop) (f:Nat→Rat):Prop where
 cle:c≤maxLen
 box:BoxAt w g (c*3)
 at_:∀ i,i<c→P i→∃ a1 n1 c1 a2 n2 c2,w.cell? ⟨g,i*3,none⟩=some (.bool (neg (f i).num))∧w.cell? ⟨g,i*3+1,none⟩=some (.slice a1 n1 c1)∧w.cell? ⟨g,i*3+2,none⟩=some (.slice a2 n2 c2) ∧
  NatAt w a1 n1 c1 (digs (f i).num.natAbs)∧NatAt w a2 n2 c2 (digs (f i).den)
variable {X Y P P':Nat→Prop} {w w' w0 W W':World} {g c k b9 G:Nat} {f f':Nat→Rat}
theorem GridOf.stays (h:GridOf w g c P f) (hs:Stays X w w') (hg:¬ X g):GridOf w' g c P f:=by
 refine ⟨h.cle,hs.box hg h.box,fun i hi hp => ?_⟩;obtain ⟨a1,n1,c1,a2,n2,c2,q0,q1,q2,d1,d2⟩:=h.at_ i hi hp;exact ⟨a1,n1,c1,a2,n2,c2,hs.cell hg q0,hs.cell hg q1,hs.cell hg q2,d1.stays hs,d2.stays hs⟩
theorem GridOf.past (h:GridOf w g c P f) (hb:Below w.heap.size w w'):GridOf w' g c P f:=h.stays (X:=fun _=>False) (.ofBelow hb) id
theorem GridOf.lt (h:GridOf w g c P f) (hc:0<c):g<w.heap.size:=by
 obtain ⟨v,q,_⟩:=h.box.c 0 (by omega);exact World.block_lt_of_cell? w ⟨g,0,none⟩ q
theorem GridOf.ext (h:GridOf w g c P f) (hp:∀ i,i<c→P' i→P i) (e:∀ i,i<c→P' i→f' i=f i):GridOf w g c P' f' :=
 ⟨h.cle,h.box,fun i hi h2=>by rw [e i hi h2];exact h.at_ i hi (hp i hi h2)⟩
theorem GridOf.all (h:GridOf w g c P f) (hp:∀ i,i<c→P i):GridAt w g c c f:=⟨nRf _,h.cle,h.box,fun i hi=>h.at_ i hi (hp i hi)⟩
theorem GridAt.none (h:GridAt w g c 0 f) (hp:∀ i,i<c→¬ P i):GridOf w g c P f':=⟨h.cle,h.box,fun i hi h2=>absurd h2 (hp i hi)⟩
theorem GridOf.set3 (h:GridOf w g c P f) {k:Nat} (hk:k<c) {q:Rat} {a1:Option Addr} {n1 c1:Nat} {a2:Option Addr} {n2 c2:Nat} (d1:NatAt w a1 n1 c1 (digs q.num.natAbs)) (d2:NatAt w a2 n2 c2 (digs q.den)) :
 ∃ w',((w.setCell ⟨g,k*3,none⟩ (.bool (neg q.num))).setCell ⟨g,k*3+1,none⟩ (.slice a1 n1 c1)).setCell ⟨g,k*3+2,none⟩ (.slice a2 n2 c2)=w'∧GridOf w' g c (fun i=>P i∨i=k) (fun i=>if i=k then q else f i)∧Moves (fun b=>b=g) w w':=by
 refine ⟨w.setCells g (k*3) [.bool (neg q.num),.slice a1 n1 c1,.slice a2 n2 c2],rfl,?_⟩
 have hu:∀ v ∈ [Value.bool (neg q.num),.slice a1 n1 c1,.slice a2 n2 c2],notU v:=by
  intro v hv;simp only [List.mem_cons,List.not_mem_nil,or_false] at hv;rcases hv with rfl | rfl | rfl
  · exact notU_bool _
  · exact notU_slice _ _ _
  exact notU_slice _ _ _
 have hm:=Moves.sets [.bool (neg q.num),.slice a1 n1 c1,.slice a2 n2 c2] (k*3) w h.box (by simp only [List.length_cons,List.length_nil];omega) hu
 have hin:=World.cell?_setCells_in g [.bool (neg q.num),.slice a1 n1 c1,.slice a2 n2 c2] (k*3) w (fun j hj=>by
  simp only [List.length_cons,List.length_nil] at hj;obtain ⟨v,hv,_⟩:=h.box.c (k*3+j) (by omega);rw [hv];rfl)
 refine ⟨⟨h.cle,BoxAt.sets _ _ _ _ h.box hu,fun i hi hp => ?_⟩,hm⟩
 by_cases e:i=k
 · subst e;simp only [if_pos];exact ⟨a1,n1,c1,a2,n2,c2,hin 0 (by simp),hin 1 (by simp),hin 2 (by simp),d1.stays hm.stays,d2.stays hm.stays⟩
 simp only [if_neg e];obtain ⟨a3,n3,c3,a4,n4,c4,q0,q1,q2,e1,e2⟩:=h.at_ i hi (hp.resolve_right e)
 have out:∀ j,j<3→(w.setCells g (k*3) [.bool (neg q.num),.slice a1 n1 c1,.slice a2 n2 c2]).cell? ⟨g,i*3+j,none⟩=w.cell? ⟨g,i*3+j,none⟩:=fun j hj =>
  World.cell?_setCells_out g _ _ _ _ (fun _ _=>by simp only [List.length_cons,List.length_nil];omega)
 exact ⟨a3,n3,c3,a4,n4,c4,(out 0 (by omega)).trans q0,(out 1 (by omega)).trans q1,(out 2 (by omega)).trans q2,e1.stays hm.stays,e2.stays hm.stays⟩
structure StkI (w0:World) (b9 G c:Nat) (P:Nat→Prop) (f:Nat→Rat) (W:World):Prop where
 q9:W.cell? ⟨b9,0,none⟩=some (.slice (some ⟨G,0,none⟩) c c)
 gr:GridOf W G c P f
 bw:Below w0.heap.size w0 W
theorem StkI.stays (h:StkI w0 b9 G c P f W) (hs:Stays Y W W') (h9:¬ Y b9) (hG:¬ Y G) (hb:Below w0.heap.size w0 W'):StkI w0 b9 G c P f W':=⟨hs.cell h9 h.q9,h.gr.stays hs hG,hb⟩
theorem StkI.past (h:StkI w0 b9 G c P f W) (hb:Below W.heap.size W W'):StkI w0 b9 G c P f W':=h.stays (Y:=fun _=>False) (.ofBelow hb) id id (bLt h.bw hb)
theorem StkI.turn {l:Nat} {o:Obj} (o':Obj) (h:StkI w0 b9 G c P f W) (hl:W.heap[l]? = some o) (ho:o.isCells=false) (hB:w0.heap.size≤l):StkI w0 b9 G c P f (W.putObj l o') :=
 h.stays (Y:=fun _=>False) (.turn o' hl ho) id id (h.bw.trans (below_put o' hB))
theorem StkI.moves (h:StkI w0 b9 G c P f W) (hm:Moves Y W W') (hY:∀ b,Y b→W'.heap.size≤b∨(b≠b9∧b≠G∧w0.heap.size≤b)) (hc:0<c):StkI w0 b9 G c P f W':=by
 have l9:=World.block_lt_of_cell? W ⟨b9,0,none⟩ h.q9;have l9:b9<W.heap.size:=l9;have lG:=h.gr.lt hc;have hz:=hm.size;refine h.stays hm.stays (fun e => ?_) (fun e => ?_) (h.bw.trans (hm.below h.bw.size (fun k hk => ?_)))
 · rcases hY _ e with h1 | h1<;>omega
 · rcases hY _ e with h1 | h1<;>omega
 have:=h.bw.size;rcases hY _ hk with h1 | h1<;>omega
theorem StkI.ext (h:StkI w0 b9 G c P f W) (hp:∀ i,i<c→P' i→P i) (e:∀ i,i<c→P' i→f' i=f i):StkI w0 b9 G c P' f' W:=⟨h.q9,h.gr.ext hp e,h.bw⟩
def outF (zs:List Int) (k n u:Nat) (q:Rat) (j:Nat):Rat:=if j=u then q else stuckR zs k n j
theorem others_turn {A W:World} {l0:Nat} {o:Obj} (o':Obj) (h:KeepsOthers A W) (hl:W.heap[l0]? = some o) (hB:A.heap.size≤l0):KeepsOthers A (W.putObj l0 o') :=
 ⟨by have := h.size; simpa using this, fun k o2 hk hc => by
   have hlt:=(Array.getElem?_eq_some_iff.1 hk).1;exact (World.putObj_heap_other (by omega)).trans (h.same k o2 hk hc)⟩
structure StkB (w0 V:World) (b9 G C bT bK bN:Nat) (a:Option Addr) (l cc:Nat) (zs:List Int) (k n:Nat) (Y:Nat→Prop) (p10 u:Nat) (P:Nat→Prop) (f:Nat→Rat) (W:World):Prop where
 st:StkI w0 b9 G C P f W
 fx:FixLv bT bK bN a l cc zs k n Y W
 ko:KeepsOthers V W
 sy:Stays Y V W
 q10:W.cell? ⟨p10,0,none⟩=some (.int .i64 (u:Int))
section
variable {V:World} {C bT bK bN l cc n p10 u:Nat} {a:Option Addr} {zs:List Int}
theorem StkB.past (h:StkB w0 V b9 G C bT bK bN a l cc zs k n Y p10 u P f W) (hb:Below W.heap.size W W'):StkB w0 V b9 G C bT bK bN a l cc zs k n Y p10 u P f W' :=
 ⟨h.st.past hb,h.fx.past hb,h.ko.trans ⟨hb.size,fun k o hk _=>(hb.block k (Array.getElem?_eq_some_iff.1 hk).1).trans hk⟩,h.sy.trans (.ofBelow hb),(Stays.ofBelow (X:=fun _=>False) hb).cell id h.q10⟩
theorem StkB.turn {l0:Nat} {o:Obj} (o':Obj) (h:StkB w0 V b9 G C bT bK bN a l cc zs k n Y p10 u P f W) (hl:W.heap[l0]? = some o) (ho:o.isCells=false) (hB:w0.heap.size≤l0) (hV:V.heap.size≤l0):StkB w0 V b9 G C bT bK bN a l cc zs k n Y p10 u P f (W.putObj l0 o') :=
 ⟨h.st.turn o' hl ho hB,h.fx.turn o' hl ho,others_turn o' h.ko hl hV,h.sy.trans (.turn o' hl ho),(Stays.turn (X:=fun _=>False) o' hl ho).cell id h.q10⟩
theorem StkB.store (h:StkB w0 V b9 G C bT bK bN a l cc zs k n Y p10 u P f W) (hm:Moves (fun b=>b=G) W W') (hY:Y=fun b=>b=G) (h9:b9≠G) (hT:bT≠G∧bK≠G∧bN≠G) (ha:∀ x,a=some x→x.block≠G) (h10:p10≠G) (hG:w0.heap.size≤G) (hg:GridOf W' G C P' f'):StkB w0 V b9 G C bT bK bN a l cc zs k n Y p10 u P' f' W' :=
 ⟨⟨hm.stays.cell h9 h.st.q9,hg,h.st.bw.trans (hm.below h.st.bw.size (fun k e=>by subst e;exact hG))⟩,h.fx.moves hm.stays hT.1 hT.2.1 hT.2.2 ha,h.ko.trans hm.others,h.sy.trans (by rw [hY];exact hm.stays),hm.stays.cell h10 h.q10⟩
end
end
end Go.Proofs.YtkhcblihbalnbaaGreatDoor
