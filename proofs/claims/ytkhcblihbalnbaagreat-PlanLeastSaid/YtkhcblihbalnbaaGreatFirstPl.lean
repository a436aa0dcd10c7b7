import Derived.Test.YtkhcblihbalnbaaGreatS0Pl
import Derived.Test.YtkhcblihbalnbaaGreatGrid2Pl
import Derived.Test.YtkhcblihbalnbaaGreatShare3Pl
import Derived.Test.YtkhcblihbalnbaaGreatChance2Pl
import Derived.Test.YtkhcblihbalnbaaGreatStayPl
import Derived.Test.YtkhcblihbalnbaaGreatRegPl
set_option linter.unusedVariables false
set_option linter.unusedSimpArgs false
set_option maxHeartbeats 16000000
set_option maxRecDepth 100000
namespace Go.Proofs.YtkhcblihbalnbaaGreat
section
open Go.RowKit
def RetGr (w:World) (n m:Nat) (f:Nat→Rat) (e:Ending) (w':World):Prop:=∃ g,e = .returned (.agg #[.int .i64 (n:Int),.slice (some ⟨g,0,none⟩) m m])∧GridAt w' g m m f∧w.heap.size≤g∧Below w.heap.size w w'
theorem In_one (a:Option Addr) (n c:Nat) (zs:List Int) (k:Nat) (w:World) (g:IntsAt w a n c zs) (hok:okT zs (k:Int)) (hk1:1≤k) (hk:k≤20) :
 Calls Tryz.prog 181 #[.slice a n c,.int .i64 (k:Int),.int .i64 (k:Int),.int .i64 1] w (RetOk w (inR24 zs k k 1)):=In_ok a n c zs k k 1 w g hok hk1 hk (nRf _) hk1
theorem GridAt.set3 {w:World} {g c n k:Nat} {L:List Rat} (h:GridAt w g c n (fun i=>L.getD i 0)) (hk:k<n) (hL:n=L.length) {q:Rat} {a1:Option Addr} {n1 c1:Nat} {a2:Option Addr} {n2 c2:Nat} (d1:NatAt w a1 n1 c1 (digs q.num.natAbs)) (d2:NatAt w a2 n2 c2 (digs q.den)) :
 ∃ w',((w.setCell ⟨g,k*3,none⟩ (.bool (neg q.num))).setCell ⟨g,k*3+1,none⟩ (.slice a1 n1 c1)).setCell ⟨g,k*3+2,none⟩ (.slice a2 n2 c2)=w'∧GridAt w' g c n (fun i=>(L.set k q).getD i 0)∧Moves (fun b=>b=g) w w':=by
 obtain ⟨h1,h2⟩:=h.set hk d1 d2;exact ⟨w.setCells g (k*3) [.bool (neg q.num),.slice a1 n1 c1,.slice a2 n2 c2],rfl,h1.ext (fun i hi=>getD_set (by omega)),h2⟩
theorem whole_zero (w:World):Calls Tryz.prog 105 #[.int .i64 0] w (RetRat w 0):=by
 have h:=whole_any 0 w (by decide)
 rwa [show mkRat 0 1=0 by simp] at h
theorem first_any (a:Option Addr) (l c:Nat) (zs:List Int) (k n m:Nat) (p:Rat) (w:World) (g:IntsAt w a l c zs) (hok:okT zs (k:Int)) (hk1:1≤k) (hk:k≤20) (hn:n≤999) (hm:m=(n+1)*(n+1)) (hp:inR24 zs k k 1=p)
 (hl:∀ j,j≤n→rlen (p ^ j)≤1048576∧rlen ((1-p) ^ j)≤1048576) (hq1:rlen p≤1048576∧rlen (1-p)≤1048576) :
 Calls Tryz.prog 144 #[.slice a l c,.int .i64 (k:Int),.int .i64 (n:Int)] w (RetGr w n m (fun i=>(firstG p n).getD i 0)):=by
 have HIN:=hiD (fun (w:World) (g:IntsAt w a l c zs)=>hp ▸ In_one a l c zs k w g hok hk1 hk);have HM:=hiD hm;have HN:=hiD hn;have HL:=hiD hl;have HQ1:=hiD hq1;have HWZ:=hiD whole_zero;obtain ⟨Z,hZ0⟩:∃ Z:Rat,(0:Rat)=Z:=⟨_,rfl⟩;rw [hZ0] at HWZ;have HZ:=hiD hZ0;clear hok hk1 hk hm hn hp hl hq1 hZ0
 go_enter Tryz.func144,Tryz.ntmps144
 have hB:=bRf w.heap.size w
 go_wp2_with fail
 obtain ⟨w1,hW,hz0,hb,q,f⟩:=box1g w (w.heap.size) (by omega) #[.int .i64 0,.slice none 0 0] 131;rw [hW];clear hW;have g:=g.past hb;have hB:=bLt hB hb;clear hb;have lo:w.heap.size<w1.heap.size:=by omega
 have qo0:=q 0;have qo1:=q 1;simp only [lgA,lgZ,lgS] at qo0 qo1;have xo:BoxAt w1 (w.heap.size) 2:=BoxAt.of q f rfl (by simp [notU_bool,notU_slice,notU_i64]);clear q f;clear hz0
 with_reducible refine (HWZ.out _).mono ?_
 rintro e w2 ⟨ahZU,nhZU,chZU,ahZD,nhZD,chZD,rfl,hZU,hZD,hb⟩;have g:=g.past hb;have xo:=xo.past hb lo;obtain ⟨qo0,qo1,lo⟩:=bq2 hb lo qo0 qo1;have hB:=bLt hB hb;clear hb
 go_wp2_with fail
 have so:=hB.size;refine (made_any n m Z _ _ _ _ _ _ _ (by have:=HN.out;omega) HM.out hZU.toNatAt hZD.toNatAt).mono ?_;rintro e w3 ⟨G,rfl,hg,hG,hb⟩;have lG3:=hg.lt (by rw [HM.out];exact Nat.mul_pos (by omega) (by omega));have g:=g.past hb;have xo:=xo.past hb lo;obtain ⟨qo0,qo1,lo⟩:=bq2 hb lo qo0 qo1;have hB:=bLt hB hb;clear hb
 go_wp2_with fail
 obtain ⟨w4,hW,hz0,hb,q,f⟩:=box1g w3 (w3.heap.size) (by omega) #[.int .i64 (n:Int),.slice (some ⟨G,0,none⟩) m m] 131;rw [hW];clear hW;have g:=g.past hb;have hg:=hg.past hb;have xo:=xo.past hb lo;obtain ⟨qo0,qo1,lo⟩:=bq2 hb lo qo0 qo1;have hB:=bLt hB hb;clear hb;have lt:w3.heap.size<w4.heap.size:=by omega
 have qt0:=q 0;have qt1:=q 1;simp only [lgA,lgZ,lgS] at qt0 qt1;clear q f;clear hz0
 with_reducible refine (HIN.out _ g).mono ?_
 rintro e w5 ⟨ahPU,nhPU,chPU,ahPD,nhPD,chPD,rfl,hPU,hPD,hb⟩;have hg:=hg.past hb;have xo:=xo.past hb lo;obtain ⟨qo0,qo1,lo⟩:=bq2 hb lo qo0 qo1;obtain ⟨qt0,qt1,lt⟩:=bq2 hb lt qt0 qt1;have hB:=bLt hB hb;clear hb
 go_wp2_with fail
 obtain ⟨w6,hW,hz0,hb,q,f⟩:=box1g w5 (w5.heap.size) (by omega) #[.bool (neg (p).num),.slice ahPU nhPU chPU,.slice ahPD nhPD chPD] 28;rw [hW];clear hW;have hg:=hg.past hb;have hPU:=hPU.past hb;have hPD:=hPD.past hb;have xo:=xo.past hb lo;obtain ⟨qo0,qo1,lo⟩:=bq2 hb lo qo0 qo1;obtain ⟨qt0,qt1,lt⟩:=bq2 hb lt qt0 qt1;have hB:=bLt hB hb;clear hb;have lp:w5.heap.size<w6.heap.size:=by omega
 have qp0:=q 0;have qp1:=q 1;have qp2:=q 2;simp only [lgA,lgZ,lgS] at qp0 qp1 qp2;clear q f;clear hz0;have sg:=hB.size;have hm1:0<m:=by rw [HM.out];exact Nat.mul_pos (by omega) (by omega)
 have lG:=hg.lt hm1;have lo9:=lo;have lt9:=lt
 go_wp2_with fail
 refine (shares_any p _ _ _ _ _ _ _ hPU.toNatAt hPD.toNatAt HQ1.out.1).mono ?_;rintro e w7 ⟨b6,b1,b3,X0,rfl,hs,hX0,hb⟩;have sX:=hX0;have hb0:=hb;have hg:=hg.past hb;have xo:=xo.past hb lo;obtain ⟨qo0,qo1,lo⟩:=bq2 hb lo qo0 qo1;obtain ⟨qt0,qt1,lt⟩:=bq2 hb lt qt0 qt1;obtain ⟨qp0,qp1,qp2,lp⟩:=bq3 hb lp qp0 qp1 qp2;have hB:=bLt hB hb;clear hb;simp only [shF];have nG:¬ X0 G:=fun h=>by have:=sX _ h;omega
 have nt:¬ X0 (w3.heap.size):=fun h=>by have:=sX _ h;omega
 have no:¬ X0 (w.heap.size):=fun h=>by have:=sX _ h;omega
 have lW:=hb0.size;have lG2:G<w7.heap.size:=nLt lG lW;have hsh:=fun (w:World) (X:Nat→Prop) (r:Nat) (hr:r≤n) (h:ShSt w (shF b6 b1 b3) p X)=>share_call b6 b1 b3 p X n r w h (by have:=HN.out;omega) hr HL.out HQ1.out
 have HSH:=hiD hsh;have tG:G≠(w3.heap.size):=by omega
 have oG:G≠(w.heap.size):=by omega
 have HB:=hiD hB;have hg0:GridAt w7 G m m (fun i=>(firstL p n 0).getD i 0):=hg.ext (fun i _=>by rw [firstL_zero,getD_rep];exact HZ.out);clear hsh hg hb0;have hnn:=HN.out
 go_wp2_with fail
 go_loopw [11,26] (fun s11 s26 wr=>∃ (r:Nat) (X:Nat→Prop),r≤n+1∧s26 = .int .i64 (r:Int)∧ShSt wr (shF b6 b1 b3) p X∧GridAt wr G m m (fun i=>(firstL p n r).getD i 0)∧Moves (fun k=>k=G∨X0 k) w7 wr∧∀ k,k<w7.heap.size→X k→X0 k) (fun _ s26 _=>n+1-(intOf s26).toNat)
 case atStart=>exact ⟨0,X0,Nat.zero_le _,rfl,hs,hg0,Moves.refl _ _,fun _ _ h=>h⟩
 case round =>
  clear hg0 hs;obtain ⟨r,X,hr,rfl,hs,hg,hM,hXX⟩:=hrel;have nG2:¬ X G:=fun h=>nG (hXX _ lG2 h)
  have nt2:¬ X (w3.heap.size):=fun h=>nt (hXX _ lt h)
  have no2:¬ X (w.heap.size):=fun h=>no (hXX _ lo h)
  have qt0:=hM.stays.cell (b:=w3.heap.size) (by rintro (h | h);exact tG h.symm;exact nt h) qt0
  have qt1:=hM.stays.cell (b:=w3.heap.size) (by rintro (h | h);exact tG h.symm;exact nt h) qt1
  have xo:=hM.stays.box (b:=w.heap.size) (by rintro (h | h);exact oG h.symm;exact no h) xo
  by_cases hlt:r≤n
  · have hlt2:r<n+1:=by omega
    obtain ⟨I,hI⟩:∃ I,n-r=I:=⟨_,rfl⟩;have hW1:(n:Int)-(r:Int)=(I:Int):=by omega
    have HW1:=hiD hW1;have HI:=hiD hI;clear hI hW1;have hIn:I≤n:=by have:=HI.out;omega
    obtain ⟨K,hK⟩:∃ K,I*(n+1)+r=K:=⟨_,rfl⟩;have hKm:K<m:=by rw [← hK,HM.out];exact place_lt hIn hlt
    have hat:=fun w=>gat_any n I r m G w (by omega) hIn hlt HM.out
    rw [hK] at hat;have hKs:firstL p n (r+1)=(firstL p n r).set K (shareQ p n r):=by rw [firstL_succ,HI.out,hK]
    have HKS:=hiD hKs;have HAT:=hiD hat;have HK:=hiD hK;obtain ⟨q,hq⟩:∃ q,shareQ p n r=q:=⟨_,rfl⟩;have HQ:=hiD hq;clear hKs hat hK hq;have HMV:=hiD hM;have HXX:=hiD hXX;clear hM hXX
    go_wp2_with fail
    rw [HW1.out];refine (HAT.out _).mono ?_;rintro e w8 ⟨rfl,hb8⟩;have hs:=hs.past hb8;have hg:=hg.past hb8
    go_wp2_with fail
    refine (HSH.out _ X r hlt hs).mono ?_;rintro e w9 ⟨_,X9,rfl,⟨x1,x2,x3,x4,x5,x6,rfl,U,D⟩,hs9,hn9,hm9⟩;rw [HQ.out] at U D ⊢;have hg9:=hg.stays hm9.stays nG2;obtain ⟨v0,z0,_⟩:=hg9.box.c (K*3) (by omega);obtain ⟨v1,z1,_⟩:=hg9.box.c (K*3+1) (by omega);obtain ⟨v2,z2,_⟩:=hg9.box.c (K*3+2) (by omega);have z3:=hg9.box.f (K*3) (by omega);have z4:=hg9.box.f (K*3+1) (by omega);have z5:=hg9.box.f (K*3+2) (by omega);obtain ⟨wF,hWF,hgF,hmF⟩:=hg9.set3 hKm (by rw [firstL_len,HM.out]) U D;have HWF:=hiD hWF;have HGF:=hiD hgF;have HMF:=hiD hmF;have HS9:=hiD hs9;have HM9:=hiD hm9;have HN9:=hiD hn9;have l8:=hb8.size;clear hWF hgF hmF hs9 hm9 hn9 hg hg9 hs U D
    go_wp2
    rw [HWF.out];have hn8:∀ k,k<wr.heap.size→X9 k→X k:=fun k hk h=>HN9.out k (nLt hk l8) h
    have hMA:=HMV.out.then ((Moves.ofBelow (X:=X) hb8).trans HM9.out) (fun k hk h => .inr (HXX.out k hk h));have hMB:=hMA.then HMF.out (fun k hk h => .inl h);have lw8:=HMV.out.size;refine ⟨⟨r+1,X9,by omega,by go_num,HS9.out.stays HMF.out.stays (fun k hk e=>nG2 (hn8 G (nLt lG2 lw8) (e ▸ hk))),by rw [HKS.out,HQ.out];exact HGF.out,hMB,fun k hk h=>HXX.out k hk (hn8 k (nLt hk lw8) h)⟩,by simp [intOf];omega⟩
  obtain rfl:r=n+1:=by omega
  obtain ⟨v0,v1,z0,z1,z2,z3,_,_⟩:=xo.two;obtain ⟨wF,hWF,hO1,p0,p1,xF⟩:=store2 xo (.int .i64 (n:Int)) (.slice (some ⟨G,0,none⟩) m m) (notU_i64 _) (notU_slice _ _ _)
  have hmF:Moves (fun k=>k=w.heap.size) wr wF:=by
   rw [← hWF];exact (Moves.set z0 (by assumption) _).trans (Moves.set ((World.cell?_setCell_other _ _ _ _ (fun e=>by cases e)).trans z1) (by assumption) _)
  have HWF:=hiD hWF;have HMF:=hiD hmF;have HMV:=hiD hM;have HGG:=hiD hg;clear hWF hmF hM hg
  go_wp2
  rw [HWF.out];refine bodyPost_ret (v:=.agg #[.int .i64 (n:Int),.slice (some ⟨G,0,none⟩) m m]) ?_ rfl ⟨G,rfl,HGG.out.stays HMF.out.stays (fun e=>oG e),by omega,?_⟩
  · simp [results,Tryz.f144,go_sem,p0,p1]
  have h1:=HMV.out.below (B:=w.heap.size) (by omega) (by rintro k (h | h);omega;have:=sX _ h;omega)
  exact (HB.out.trans h1).trans (HMF.out.below (by have:=HMV.out.size;omega) (fun k e=>by omega))
end
section
open Go.RowKit Go.Shelf
theorem assign_hide {F:Fence} {n:Nat} {P:Program} {c:Code} {a:Act} {w:World} {K:Act→World→Prop} {R:Exit→Act→World→Prop} (h:∀ KK:Act→World→Prop,Shut (∀ b W1,K b W1→KK b W1)→c.wpIn F n P (Exit.then KK R) a w):c.wpIn F n P (Exit.then K R) a w:=h K (fun _ _ h=>h)
theorem body_hide {F:Fence} {n:Nat} {P:Program} {c:Code} {a:Act} {w:World} {Q:Exit→Act→World→Prop} (h:∀ QQ:Exit→Act→World→Prop,Shut (∀ e b W1,Q e b W1→QQ e b W1)→c.wpIn F n P QQ a w):c.wpIn F n P Q a w:=h Q (fun _ _ _ h=>h)
structure NxtI (w:World) (Go m:Nat) (F S:Rat) (v4 v5:Value) (PR:Nat→Prop) (out:List Rat) (X1 X2:Nat→Prop) (W:World):Prop where
 s1:ShSt W v4 F X1
 s2:ShSt W v5 S X2
 gr:GridAt W Go m m (fun i=>out.getD i 0)
 len:out.length=m
 dj:∀ k,X1 k→¬ X2 k
 pr:∀ k,PR k→k<W.heap.size∧¬ X1 k∧¬ X2 k
 go:PR Go
 lo:∀ k,X1 k∨X2 k→w.heap.size≤k
 bw:Below w.heap.size w W
variable {w W W':World} {Go m:Nat} {F S:Rat} {v4 v5:Value} {PR X1 X2 Y:Nat→Prop} {out:List Rat}
theorem NxtI.stays (h:NxtI w Go m F S v4 v5 PR out X1 X2 W) (hs:Stays Y W W') (h1:∀ k,Y k→¬ X1 k∧¬ X2 k∧k≠Go) (hb:Below w.heap.size w W'):NxtI w Go m F S v4 v5 PR out X1 X2 W' :=
 ⟨h.s1.stays hs (fun k hk hy=>(h1 k hy).1 hk),h.s2.stays hs (fun k hk hy=>(h1 k hy).2.1 hk),h.gr.stays hs (fun hy=>(h1 Go hy).2.2 rfl),h.len,h.dj,fun k hk=>⟨nLt (h.pr k hk).1 hs.size,(h.pr k hk).2⟩,h.go,h.lo,hb⟩
theorem NxtI.past (h:NxtI w Go m F S v4 v5 PR out X1 X2 W) (hb:Below W.heap.size W W'):NxtI w Go m F S v4 v5 PR out X1 X2 W' :=
 h.stays (Y:=fun _=>False) (.ofBelow hb) (fun _ h=>h.elim) (bLt h.bw hb)
theorem NxtI.turn {l:Nat} {o:Obj} (o':Obj) (h:NxtI w Go m F S v4 v5 PR out X1 X2 W) (hl:W.heap[l]? = some o) (ho:o.isCells=false) (hB:w.heap.size≤l):NxtI w Go m F S v4 v5 PR out X1 X2 (W.putObj l o') :=
 h.stays (Y:=fun _=>False) (.turn o' hl ho) (fun _ h=>h.elim) (h.bw.trans (below_put o' hB))
theorem NxtI.more (h:NxtI w Go m F S v4 v5 PR out X1 X2 W) (hb:Below W.heap.size W W') {b:Nat} (hb1:W.heap.size≤b) (hb2:b<W'.heap.size):NxtI w Go m F S v4 v5 (fun k=>PR k∨k=b) out X1 X2 W':=by
 have h2:=h.past hb;refine ⟨h2.s1,h2.s2,h2.gr,h2.len,h2.dj,fun k hk => ?_,.inl h2.go,h2.lo,h2.bw⟩;rcases hk with hk | rfl
 · exact h2.pr k hk
 exact ⟨hb2,fun e=>by have:=h.s1.lt _ e;omega,fun e=>by have:=h.s2.lt _ e;omega⟩
theorem NxtI.less {PR':Nat→Prop} (h:NxtI w Go m F S v4 v5 PR out X1 X2 W) (hp:∀ k,PR' k→PR k) (hg:PR' Go):NxtI w Go m F S v4 v5 PR' out X1 X2 W :=
 ⟨h.s1,h.s2,h.gr,h.len,h.dj,fun k hk=>h.pr k (hp k hk),hg,h.lo,h.bw⟩
theorem NxtI.call1 {X1':Nat→Prop} (h:NxtI w Go m F S v4 v5 PR out X1 X2 W) (hs:ShSt W' v4 F X1') (hn:∀ k,k<W.heap.size→X1' k→X1 k) (hm:Moves X1 W W'):NxtI w Go m F S v4 v5 PR out X1' X2 W':=by
 have hlt:∀ k,k<W.heap.size∨W.heap.size≤k:=fun k=>Nat.lt_or_ge k _
 refine ⟨hs,h.s2.stays hm.stays (fun k hk hy=>h.dj k hy hk),h.gr.stays hm.stays (h.pr Go h.go).2.1,h.len,fun k hk hy => ?_,fun k hk=>⟨nLt (h.pr k hk).1 hm.size,fun e=>(h.pr k hk).2.1 (hn k (h.pr k hk).1 e),(h.pr k hk).2.2⟩,h.go,fun k hk => ?_,h.bw.trans (hm.below h.bw.size (fun k hk=>h.lo k (.inl hk)))⟩
 · exact h.dj k (hn k (h.s2.lt k hy) hk) hy
 rcases hk with hk | hk
 · rcases hlt k with h9 | h9
   · exact h.lo k (.inl (hn k h9 hk))
   have:=h.bw.size;omega
 exact h.lo k (.inr hk)
theorem NxtI.call2 {X2':Nat→Prop} (h:NxtI w Go m F S v4 v5 PR out X1 X2 W) (hs:ShSt W' v5 S X2') (hn:∀ k,k<W.heap.size→X2' k→X2 k) (hm:Moves X2 W W'):NxtI w Go m F S v4 v5 PR out X1 X2' W':=by
 have hlt:∀ k,k<W.heap.size∨W.heap.size≤k:=fun k=>Nat.lt_or_ge k _
 refine ⟨h.s1.stays hm.stays (fun k hk hy=>h.dj k hk hy),hs,h.gr.stays hm.stays (h.pr Go h.go).2.2,h.len,fun k hk hy => ?_,fun k hk=>⟨nLt (h.pr k hk).1 hm.size,(h.pr k hk).2.1,fun e=>(h.pr k hk).2.2 (hn k (h.pr k hk).1 e)⟩,h.go,fun k hk => ?_,h.bw.trans (hm.below h.bw.size (fun k hk=>h.lo k (.inr hk)))⟩
 · exact h.dj k hk (hn k (h.s1.lt k hk) hy)
 rcases hk with hk | hk
 · exact h.lo k (.inl hk)
 rcases hlt k with h9 | h9
 · exact h.lo k (.inr (hn k h9 hk))
 have:=h.bw.size;omega
theorem NxtI.store {out':List Rat} (h:NxtI w Go m F S v4 v5 PR out X1 X2 W) (hg:GridAt W' Go m m (fun i=>out'.getD i 0)) (hl:out'.length=m) (hm:Moves (fun k=>k=Go) W W') (hGo:w.heap.size≤Go):NxtI w Go m F S v4 v5 PR out' X1 X2 W' :=
 ⟨h.s1.stays hm.stays (fun k hk hy=>(h.pr Go h.go).2.1 (hy ▸ hk)),h.s2.stays hm.stays (fun k hk hy=>(h.pr Go h.go).2.2 (hy ▸ hk)),hg,hl,h.dj,fun k hk=>⟨nLt (h.pr k hk).1 hm.size,(h.pr k hk).2⟩,h.go,h.lo,h.bw.trans (hm.below h.bw.size (fun k hk=>by omega))⟩
structure NxtC (bo BT B4 B5 n m Go:Nat) (f4 f5:Value) (W:World):Prop where
 t0:W.cell? ⟨BT,0,none⟩=some (.int .i64 (n:Int))
 t1:W.cell? ⟨BT,1,none⟩=some (.slice (some ⟨Go,0,none⟩) m m)
 c4:W.cell? ⟨B4,0,none⟩=some f4
 c5:W.cell? ⟨B5,0,none⟩=some f5
 xo:BoxAt W bo 2
theorem NxtC.stays {bo BT B4 B5 n m Go:Nat} {f4 f5:Value} {Y:Nat→Prop} {W W':World} (h:NxtC bo BT B4 B5 n m Go f4 f5 W) (hs:Stays Y W W') (h1:¬ Y bo) (h2:¬ Y BT) (h3:¬ Y B4) (h4:¬ Y B5):NxtC bo BT B4 B5 n m Go f4 f5 W' :=
 ⟨hs.cell h2 h.t0,hs.cell h2 h.t1,hs.cell h3 h.c4,hs.cell h4 h.c5,hs.box h1 h.xo⟩
theorem NxtC.past {bo BT B4 B5 n m Go:Nat} {f4 f5:Value} {W W':World} (h:NxtC bo BT B4 B5 n m Go f4 f5 W) (hb:Below W.heap.size W W'):NxtC bo BT B4 B5 n m Go f4 f5 W':=h.stays (Y:=fun _=>False) (.ofBelow hb) id id id id
end
end Go.Proofs.YtkhcblihbalnbaaGreat
