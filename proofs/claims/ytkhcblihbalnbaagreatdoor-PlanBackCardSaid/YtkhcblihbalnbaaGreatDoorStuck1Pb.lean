import Derived.Test.YtkhcblihbalnbaaGreatDoorNext1Pb
set_option linter.unusedVariables false
set_option linter.unusedSimpArgs false
set_option maxHeartbeats 32000000
set_option maxRecDepth 100000
namespace Go.Proofs.YtkhcblihbalnbaaGreatDoor
section
open Go.RowKit Go.Shelf
attribute [local go_sem] Oper.semAt_some
theorem stuck_any (a:Option Addr) (l c:Nat) (zs:List Int) (k n m:Nat) (w:World) (g:IntsAt w a l c zs) (hok:okT zs (k:Int)) (hk1:1≤k) (hk:k≤20) (hn:n≤999) (hm:m=(n+1)*(n+1)) (hF:FirstOk n (inR24 zs k k 1)) (hNx:∀ i,i<k→NextOk n m (freeR zs k (k-i)) (mkRat 1 (k-i)) (levelG zs k n i))
 (hL:∀ i j,i≤k→rlen ((levelG zs k n i).getD j 0)≤1048576) (hS:∀ u i j,i≤k→j≤m→rlen (stuckL n u (levelG zs k n i) j)≤1048576) :
 Calls Tryz.prog 199 #[.slice a l c,.int .i64 (k:Int),.int .i64 (n:Int)] w (fun e w'=>∃ G,e = .returned (.tuple #[.slice (some ⟨G,0,none⟩) (k+1) (k+1),.int .i64 0])∧GridAt w' G (k+1) (k+1) (fun u=>stuckR zs k n u)∧w.heap.size≤G∧Below w.heap.size w w'):=by
 obtain ⟨i0,hi0,hz0,hz1,hz2⟩:=info_parts rat_info;have HREF:=hiD (rip_ref_ok a l c zs (k:Int) (n:Int) w g (by omega) (by omega) (by omega) (by omega) hok);have HLV:=hiD (fun (bT bK bN:Nat) (Y:Nat→Prop)=>levels1_hands bT bK bN a l c zs k n m Y hok hk1 hk hn hm hF hNx);have HW:=hiD (show (k:Int)+1=((k+1:Nat):Int) by omega);have HM:=hiD hm;have HLL:=hiD hL;have HSL:=hiD hS;obtain ⟨Z,hZ0⟩:∃ Z:Rat,(0:Rat)=Z:=⟨_,rfl⟩;have HWZ:=hiD whole_zero;rw [hZ0] at HWZ;have HZ:=hiD hZ0;have hl1:1≤l:=by have:=hok.2.2.1;have:=g.len;omega
 clear hok hm hF hNx hL hS hZ0;refine (callsIn_wide (n:=5)).1 ?_;refine callsIn_of_wp_marks Tryz.func199 rfl trivial ?_ rfl;simp only [Tryz.ntmps199,List.size_toArray,List.length_cons,List.length_nil,Nat.reduceAdd,Nat.reduceSub,Array.replicate_succ,Array.replicate_zero,List.push_toArray,List.append_toArray,List.nil_append,List.cons_append];refine wpIn_wide.2 ?_
 go_wp2_with fail
 refine (HREF.out).mono ?_;rintro e w1 ⟨rfl,hb1⟩;have g:=g.past hb1
 go_wp2_with (at_make
              refine wpList_make_full _ rfl _ _ 78 rfl w1.heap.size 28 i0 (.agg #[.bool false,.slice none 0 0,.slice none 0 0]) 3 Tryz.underlying78 hi0 hz0 hz1 .i64 .i64 _ _ (k+1) rfl rfl HW.out HW.out (by rw [hz2];omega) (by simp only [maxLen];omega) (nRf _) ?_;intro w2 hown hgrow)
 have hb2:Below w1.heap.size w1 w2:=(bRf _ _).grown hgrow (nRf _) (fun k e=>by cases e);have hg2:=(GridAt.made hown (by simp only [maxLen];omega) (fun _=>(0:Rat))).none (P:=fun j=>k<j+0) (f':=stuckR zs k n) (fun i hi h=>by omega);have lG:=hg2.lt (by omega);obtain ⟨G,hG⟩:∃ G,w1.heap.size=G:=⟨_,rfl⟩;rw [hG] at hg2 lG ⊢;have hGw:w.heap.size≤G:=by have:=hb1.size;omega
 have hgG:∀ x,a=some x→x.block≠G:=fun x e h=>by
  rcases g.cell with h0 | ⟨b,o,h1,h2,_⟩
  · omega
  rw [e] at h1;cases h1;have h:b=G:=h;omega
 obtain ⟨w3,hW3,y3,hb3,r3,f3⟩:=box1g w2 w2.heap.size rfl #[.slice (some ⟨G,0,none⟩) (k+1) (k+1)] 78;rw [hW3];have q9:=r3 0;simp only [lgA,lgZ] at q9;have hg3:=hg2.past hb3;have g2:=g.past hb2;have g3:=g2.past hb3;have hB3:=bLt (bLt hb1 hb2) hb3;refine (levels_any a l c k n w3).mono ?_;rintro e w9 ⟨rfl,hw9⟩;obtain ⟨w4,hW4,y4,hb4,r4,f4⟩:=box1g w3 w3.heap.size rfl #[.slice a l c] 22;rw [hW4] at hw9;obtain ⟨w5,hW5,y5,hb5,r5,f5⟩:=box1g w4 (w3.heap.size+1) (by omega) #[.int .i64 (k:Int)] 3;rw [hW5] at hw9;obtain ⟨w6,hW6,y6,hb6,r6,f6⟩:=box1g w5 (w3.heap.size+1+1) (by omega) #[.int .i64 (n:Int)] 3;rw [hW6] at hw9;subst hw9;have qT:=bq hb6 (by omega) (bq hb5 (by omega) (r4 0));have qK:=bq hb6 (by omega) (r5 0);have qN:=r6 0;simp only [lgA,lgZ] at qT qK qN;have hB46:=bLt (bLt hb4 hb5) hb6;have hB6:=bLt hB3 hB46;have hs2:=hb2.size;obtain ⟨b9,hb9⟩:∃ b9,w2.heap.size=b9:=⟨_,rfl⟩;rw [hb9] at q9 ⊢;have h96:b9<w6.heap.size:=by have:=hb3.size;have:=hB46.size;omega
 have h9G:b9≠G:=by omega
 have hG6:G<w6.heap.size:=by omega
 have hTG:w3.heap.size≠G∧w3.heap.size+1≠G∧w3.heap.size+1+1≠G:=by have:=hb3.size;omega
 have hI0:StkI w b9 G (k+1) (fun j=>k<j+0) (stuckR zs k n) w6:=⟨bq hB46 (by omega) q9,hg3.past hB46,hB6⟩;have hP0:FixLv w3.heap.size (w3.heap.size+1) (w3.heap.size+1+1) a l c zs k n (fun b=>b=G) w6:=⟨qT,qK,qN,g3.past hB46,fun b hy=>by omega⟩;clear hown hgrow hb1 hb2 hb3 hb4 hb5 hb6 r3 f3 r4 f4 r5 f5 r6 f6 hW3 hW4 hW5 hW6 q9 hg3 hg2 g3 qT qK qN hB46 hB3 y3 y4 y5 y6 hs2 hb9 hG lG hi0;obtain ⟨bT,hbT⟩:∃ bT,w3.heap.size=bT:=⟨_,rfl⟩;rw [hbT] at hP0 hTG ⊢;clear hbT
 go_wp2_with fail
 have hlv:=HLV.out bT (bT+1) (bT+1+1) (fun b=>b=G);have hbl:w.heap.size≤w6.heap.size:=by have:=hB6.size;omega
 clear g2;refine (wpIn_wide (n:=5)).1 ?_;generalize hA0:(Act.mk _ _:Act)=A0;obtain ⟨YG,hYG⟩:∃ YG:Nat→Prop,YG=fun b=>b=G:=⟨_,rfl⟩
 have hYg:∀ b,YG b ↔ b=G:=fun b=>by rw [hYG]
 rw [← hYG] at hP0 hlv
 refine wpIn_roundsY (by decide) (N:=k+1) (Ok:=OkLv zs k n m YG) (Fix:=FixLv bT (bT+1) (bT+1+1) a l c zs k n YG) (Y:=YG) (by rw [← hA0];rfl) (fun _ _=>rfl) (fun i x W h=>by obtain ⟨g,rfl,_⟩:=h;rfl) hlv (fun W W' h hb=>h.past hb) (fun W l o o' h hl ho hB=>h.turn o' hl ho) hP0
  (fun i W=>StkI w b9 G (k+1) (fun j=>k<j+i) (stuckR zs k n) W)
  (fun i x b W => ∃ p10 p11 g, b = { tmps := (((A0.tmps.setIfInBounds 28 (x.getD 0 undef)).setIfInBounds 29 (x.getD 1 undef)).setIfInBounds 10 (.pointer (some ⟨p10, 0, none⟩))).setIfInBounds 11 (.pointer (some ⟨p11, 0, none⟩)), defers := [] } ∧ W.cell? ⟨p10, 0, none⟩ = some (.int .i64 ((k - i : Nat) : Int)) ∧ W.cell? ⟨p11, 0, none⟩ = some (.int .i64 (n : Int)) ∧ W.cell? ⟨p11, 1, none⟩ = some (.slice (some ⟨g, 0, none⟩) m m) ∧
    GridAt W g m m (fun j=>(levelG zs k n i).getD j 0)∧g≠G∧p10≠G∧p11≠G∧StkI w b9 G (k+1) (fun j=>k<j+i) (stuckR zs k n) W)
  (fun i V V' Z h hm hz=>h.moves hm (fun b hb => .inr ⟨by have:=hz b hb;omega,by have:=hz b hb;omega,by have:=hz b hb;omega⟩) (by omega))
  (fun i W l o o' h hl ho hB=>h.turn o' hl ho (by omega))
  (fun i x b W l o o' h hl ho hB => by
    obtain ⟨p10,p11,g,e,h1,h2,h3,h4,n1,n2,n3,h5⟩:=h;have hs:Stays (fun _=>False) W (W.putObj l o'):=.turn o' hl ho;exact ⟨p10,p11,g,e,hs.cell id h1,hs.cell id h2,hs.cell id h3,h4.stays hs id,n1,n2,n3,h5.turn o' hl ho (by omega)⟩)
  hI0 ?_ ?_ ?_
 · rintro lr i x W hi hI hfix ⟨gl,rfl,hgl,nYg⟩;refine assign_hide (fun KK hKK => ?_);have hGW:=hI.gr.lt (by omega);have HII:=hiD hI;have HFX:=hiD hfix;have HGL:=hiD hgl;have HA0:=hiD hA0;have HYG:=hiD hYG;have hglG:gl≠G:=fun e=>nYg ((hYg gl).2 e)
   obtain ⟨u,hu⟩:∃ u,k-i=u:=⟨_,rfl⟩;rw [hu];have HU:=hiD hu;rw [← hA0];clear hI hfix hgl hA0 hYG hu hYg nYg;simp only [List.zip_toArray,List.zip_cons_cons,List.zip_nil_right,List.foldl_toArray',List.foldl_cons,List.foldl_nil,lsA,lsS,lsZ]
   gi_wp2
   obtain ⟨u1,hW1,y1,hb1,r1,f1⟩:=box1g W W.heap.size rfl #[.int .i64 (u:Int)] 3;rw [hW1];obtain ⟨u2,hW2,y2,hb2,r2,f2⟩:=box1g u1 (W.heap.size+1) (by omega) #[.int .i64 (n:Int),.slice (some ⟨gl,0,none⟩) m m] 221;rw [hW2];have hb12:=bLt hb1 hb2;refine hKK.out _ _ ⟨⟨hb12.size,fun k o hk _=>(hb12.block k (Array.getElem?_eq_some_iff.1 hk).1).trans hk⟩,HFX.out.past hb12,⟨W.heap.size,W.heap.size+1,gl,?_,?_,r2 0,r2 1,HGL.out.past hb12,hglG,by omega,by omega,HII.out.past hb12⟩,.ofBelow hb12⟩
   · rw [← HA0.out,HU.out];simp only [lsA,lsS,lsZ,Array.getD,List.size_toArray,List.length_cons,List.length_nil];rfl
   rw [HU.out];exact bq hb2 (by omega) (r1 0)
 · rintro lr i x b W rl hlr hi hfix ⟨p10,p11,gl,rfl,e10,e11a,e11b,hgl,nG,n10,n11,hI⟩;refine body_hide (fun QQ hQQ => ?_);obtain ⟨u,hu⟩:∃ u,k-i=u:=⟨_,rfl⟩;obtain ⟨C,hC⟩:∃ C,k+1=C:=⟨_,rfl⟩;rw [hu] at e10;rw [hC] at hI;have huC:u<C:=by omega
   have huk:u+i=k:=by omega
   have hGW:=hI.gr.lt (by omega);have q9:=hI.q9;have HU:=hiD hu;have HC:=hiD hC;have HK:=hiD huk;have HII:=hiD hI;have HFX:=hiD hfix;have HGL:=hiD hgl;have HLR:=hiD hlr;have HA0:=hiD hA0;have HYG:=hiD hYG;have HI9:=hiD hi;obtain ⟨XG,hXG⟩:∃ XG:Nat→Prop,XG=fun k=>k=G:=⟨_,rfl⟩
   have HXG:=hiD hXG;have hXl0:∀ k,XG k→k<W.heap.size:=fun k h=>by rw [hXG] at h;exact ltq hGW h
   have n9:¬ XG b9:=by rw [hXG];exact h9G
   have m10:¬ XG p10:=by rw [hXG];exact n10
   have m11:¬ XG p11:=by rw [hXG];exact n11
   have mG:¬ XG gl:=by rw [hXG];exact nG
   generalize x.getD 0 undef=y28;generalize x.getD 1 undef=y29;rw [← hA0];clear hu hC huk hI hfix hgl hlr hA0 hYG hYg hi hXG;simp only [lsA,lsS,lsZ]
   gi_wp2_with fail
   refine wpIn_region_invA (by kernel_rfl) rfl (by kernel_rfl) (fun A0 V0 dd aa ww=>∃ (y30 y31 y32 y33:Value),aa=puts A0 [(30,y30),(31,y31),(32,y32),(33,y33)]∧Moves XG V0 ww∧(∀ k,k<V0.heap.size→XG k→XG k)∧(∀ k,XG k→k<ww.heap.size)∧(Shut (dd 4=false→Moves (fun _=>False) V0 ww))∧Shut (dd 0=true→y30 = .slice (some ⟨G,0,none⟩) C C)∧Shut (dd 1=true→y31 = .int .i64 (u:Int))∧Shut (dd 2=true→RatNV (Z) y32 ww)∧Shut (dd 3=true→y33 = .pointer (some ⟨G,u*3,none⟩))∧Shut (dd 4=true→GridOf ww G C (fun j=>k≤j+i) (outF zs k n u Z))) ?_ ?_ ?_
   · exact ⟨_,_,_,_,puts_self _ [30,31,32,33],Moves.drew _ _,fun _ _ h=>h,hXl0,fun _=>Moves.drew _ _,nf,nf,nf,nf,nf⟩
   · refine StepsI.cons ?_ (StepsI.cons ?_ (StepsI.cons ?_ (StepsI.cons ?_ (StepsI.cons ?_ (StepsI.nil)))))
     all_goals (intro dd aa ww K hc hun hn hI hK;obtain ⟨y30,y31,y32,y33,ea,hM,hXX,hXl,SS,f0,f1,f2,f3,f4⟩:=hI;subst ea;simp only [pu])
     · have e0:=hM.stays.cell n9 q9;go_simp;exact hK.out _ _ ⟨_,_,_,_,by simp only [pu]<;>rfl,hM,hXX,hXl,fun h=>SS.out (upd_off h),fun _=>rfl,uo f1,uo f2,uo f3,uo f4⟩
     · have e0:=hM.stays.cell m10 e10;go_simp;exact hK.out _ _ ⟨_,_,_,_,by simp only [pu]<;>rfl,hM,hXX,hXl,fun h=>SS.out (upd_off h),uo f0,fun _=>rfl,uo f2,uo f3,uo f4⟩
     · go_simp;refine ⟨trivial,?_⟩;refine (CallsIn.inRound lr (callsIn_wide.2 (HWZ.out _))).mono ?_;rintro e w1 ⟨ahZU,nhZU,chZU,ahZD,nhZD,chZD,rfl,hZU,hZD,h1⟩;have hZU:=hZU.toNatAt;have hZD:=hZD.toNatAt;have hm1:Moves XG ww w1:=.ofBelow h1;have hgo:Goes XG XG ww w1:=.below h1;exact hK.out _ _ ⟨_,_,_,_,by simp only [pu]<;>rfl,hM.then hm1 hXX,hXX,(fun k hk=>nLt (hXl k hk) hm1.size),fun h=>(SS.out (upd_off h)).trans (.ofBelow h1),uo f0,uo f1,fun _=>⟨_,_,_,_,_,_,rfl,hZU,hZD⟩,uo f3,hc.a hun⟩
     · obtain rfl:=f0.out (hc.see hn);obtain rfl:=f1.out (hc.see hn);go_simp;exact hK.out _ _ ⟨_,_,_,_,by simp only [pu]<;>rfl,hM,hXX,hXl,fun h=>SS.out (upd_off h),fun h=>rfl,fun h=>rfl,uo f2,fun _=>rfl,uo f4⟩
     obtain rfl:=f3.out (hc.see hn);obtain ⟨ahZU,nhZU,chZU,ahZD,nhZD,chZD,ex,hZU,hZD⟩:=f2.out (hc.see hn);subst ex;have hSS:=SS.out hun;have hgw:=HII.out.gr.stays hSS.stays id;obtain ⟨v0,z0,_⟩:=hgw.box.c (u*3) (by omega);obtain ⟨v1,z1,_⟩:=hgw.box.c (u*3+1) (by omega);obtain ⟨v2,z2,_⟩:=hgw.box.c (u*3+2) (by omega);have z3:=hgw.box.f (u*3) (by omega);have z4:=hgw.box.f (u*3+1) (by omega);have z5:=hgw.box.f (u*3+2) (by omega);obtain ⟨wF,hWF,hgF,hst⟩:=hgw.set3 huC hZU hZD;have hgF:=hgF.ext (P':=fun j=>k≤j+i) (f':=outF zs k n u Z) (fun j hj h=>by have:=HK.out;omega) (fun j hj h=>rfl);have HWF:=hiD hWF;have HGF:=hiD hgF;have hst9:Moves XG ww wF:=hst.mono (fun k _ e=>by rw [HXG.out];exact e);clear hWF hgF;go_simp;rw [HWF.out];exact hK.out _ _ ⟨_,_,_,_,by simp only [pu]<;>rfl,hM.trans hst9,hXX,(fun k hk=>nLt (hXl k hk) hst.size),fun h=>absurd h (by simp [upd]),uo f0,uo f1,fun h=>(f2.out (upd_of rfl h)).calm hst.stays,fun h=>rfl,fun _=>HGF.out⟩
   intro dd aa U1 hd hI;obtain ⟨y30,y31,y32,y33,ea,hM,hXX,hXl,SS,f0,f1,f2,f3,f4⟩:=hI;obtain rfl:=f0.out (hd 0 (by simp));obtain rfl:=f1.out (hd 1 (by simp));obtain ⟨ahZU,nhZU,chZU,ahZD,nhZD,chZD,ex,hZU,hZD⟩:=f2.out (hd 2 (by simp));subst ex;obtain rfl:=f3.out (hd 3 (by simp));subst ea;simp only [pu];have hgr1:=f4.out (hd 4 (by simp));have hMG:Moves (fun b=>b=G) W U1:=hM.mono (fun k _ e=>by rw [HXG.out] at e;exact e);have hbw1:Below w.heap.size w U1:=HII.out.bw.trans (hMG.below HII.out.bw.size (fun k e=>by subst e;exact hGw));have hSB:StkB w W b9 G C bT (bT+1) (bT+1+1) a l c zs k n YG p10 u (fun j=>k≤j+i) (outF zs k n u Z) U1:=⟨⟨hM.stays.cell n9 q9,hgr1,hbw1⟩,HFX.out.moves hMG.stays hTG.1 hTG.2.1 hTG.2.2 hgG,hMG.others,by rw [HYG.out];exact hMG.stays,hM.stays.cell m10 e10⟩;have hgl1:=HGL.out.stays hM.stays mG;have hlr1:=hMG.same _ _ HLR.out rfl;have e11a:=hM.stays.cell m11 e11a;have e11b:=hM.stays.cell m11 e11b;have hWU:=hMG.size;have hwW:=HII.out.bw.size;have hNG:p10≠G:=n10;have HSB:=hiD hSB;have HGL1:=hiD hgl1;have HLR1:=hiD hlr1;have HTG:=hiD hTG;have HGG:=hiD hgG;have HG9:=hiD h9G;clear hgr1 hMG hbw1 hSB hgl1 hlr1 hM hXX hXl hXl0 SS f0 f1 f2 f3 f4 hd hZU hZD e10 q9 hTG hgG h9G n9 m10 m11 mG
   gi_wp2_with fail
   refine ⟨trivial,?_⟩;refine (CallsIn.inRound lr (callsIn_wide.2 (places_any _ n m gl U1 rfl))).mono ?_;rintro e wP ⟨rfl,hWP⟩;obtain ⟨wQ,hWQ,yQ,hbQ,rQ,fQ⟩:=box1g U1 U1.heap.size rfl #[.int .i64 (n:Int),.slice (some ⟨gl,0,none⟩) m m] 221;rw [hWQ] at hWP;subst hWP
   gi_wp2_with fail
   obtain ⟨bQ,hbq⟩:∃ bQ,U1.heap.size=bQ:=⟨_,rfl⟩;rw [hbq] at rQ ⊢;have hUQ:=hbQ.size;have hSQ:StkB w W b9 G C bT (bT+1) (bT+1+1) a l c zs k n YG p10 u (fun j=>k≤j+i) (outF zs k n u Z) wQ:=HSB.out.past hbQ;have hfx0:FixPl bQ n gl m (fun j=>(levelG zs k n i).getD j 0) wQ:=⟨rQ 0,rQ 1,HGL1.out.past hbQ⟩;have hlrQ:wQ.heap[lr]? = some (.loop rl):=(hbQ.block _ (Array.getElem?_eq_some_iff.1 HLR1.out).1).trans HLR1.out;have hbl2:w.heap.size≤wQ.heap.size:=by omega
   have hbl3:W.heap.size≤wQ.heap.size:=by omega
   have hbG:bQ≠G:=by omega
   clear hWQ yQ hbQ rQ fQ hbq hUQ hWU hwW;generalize hA1:(Act.mk _ _:Act)=A1
   refine wpIn_roundsN hlrQ (by decide) (N:=m) (Ok:=OkPl n (fun j=>(levelG zs k n i).getD j 0)) (Fix:=FixPl bQ n gl m (fun j=>(levelG zs k n i).getD j 0)) (by rw [← hA1];rfl) (fun _ _=>rfl) (fun j x V h=>by obtain ⟨y,rfl,_⟩:=h;rfl) (places1_hands _ n gl m _ (by omega) HM.out) (fun V V' h hb=>h.past hb)
    (fun V l o o' h hl ho hB=>h.stays (X:=fun _=>False) (.turn o' hl ho) id id) hfx0
    (fun j V=>StkB w W b9 G C bT (bT+1) (bT+1+1) a l c zs k n YG p10 u (fun j=>k≤j+i) (outF zs k n u (stuckL n u (levelG zs k n i) j)) V)
    (fun j x b V=>∃ p12 p13,b={ tmps:=(((A1.tmps.setIfInBounds 36 (x.getD 0 undef)).setIfInBounds 37 (x.getD 1 undef)).setIfInBounds 12 (.pointer (some ⟨p12,0,none⟩))).setIfInBounds 13 (.pointer (some ⟨p13,0,none⟩)),defers:=[] }∧V.cell? ⟨p12,0,none⟩=some (.int .i64 ((j/(n+1):Nat):Int))∧V.cell? ⟨p12,1,none⟩=some (.int .i64 ((j % (n+1):Nat):Int))∧RatC V p13 ((levelG zs k n i).getD j 0)∧p12≠G∧p13≠G∧StkB w W b9 G C bT (bT+1) (bT+1+1) a l c zs k n YG p10 u (fun j=>k≤j+i) (outF zs k n u (stuckL n u (levelG zs k n i) j)) V)
    (fun j V V' h hb=>h.past hb)
    (fun j V l o o' h hl ho hB=>h.turn o' hl ho (nTr hbl2 hB) (nTr hbl3 hB))
    (fun j x b V l o o' h hl ho hB => by
      obtain ⟨p12,p13,e,h1,h2,h3,h6,h7,h4⟩:=h;have hs:Stays (fun _=>False) V (V.putObj l o'):=.turn o' hl ho;exact ⟨p12,p13,e,hs.cell id h1,hs.cell id h2,h3.stays hs id,h6,h7,h4.turn o' hl ho (nTr hbl2 hB) (nTr hbl3 hB)⟩)
    (by
      have e0:stuckL n u (levelG zs k n i) 0=Z:=HZ.out;rw [e0];exact hSQ) ?_ ?_ ?_
   · rintro lq j x V hj hJ hfx ⟨y,rfl,a1,n1,c1,a2,n2,c2,rfl,d1,d2⟩;refine assign_hide (fun KK hKK => ?_);have hGV:=hJ.st.gr.lt (by omega);obtain ⟨q,hq⟩:∃ q,(levelG zs k n i).getD j 0=q:=⟨_,rfl⟩;simp only [hq] at d1 d2 ⊢;obtain ⟨A,hA⟩:∃ A,j/(n+1)=A:=⟨_,rfl⟩;obtain ⟨B,hB9⟩:∃ B,j % (n+1)=B:=⟨_,rfl⟩;rw [hA,hB9];have HA:=hiD hA;have HB9:=hiD hB9;have HQ9:=hiD hq;have HJJ:=hiD hJ;have HFP:=hiD hfx;have HA1:=hiD hA1;rw [← hA1];clear hA hB9 hq hJ hfx hA1 hfx0 hSQ hlrQ;simp only [List.zip_toArray,List.zip_cons_cons,List.zip_nil_right,List.foldl_toArray',List.foldl_cons,List.foldl_nil,lsA,lsS,lsZ]
     gi_wp2
     obtain ⟨u1,hW1,y1,hb1,r1,f1⟩:=box1g V V.heap.size rfl #[.int .i64 (A:Int),.int .i64 (B:Int)] 226;rw [hW1];obtain ⟨u2,hW2,y2,hb2,r2,f2⟩:=box1g u1 (V.heap.size+1) (by omega) #[.bool (neg q.num),.slice a1 n1 c1,.slice a2 n2 c2] 28;rw [hW2];have hb12:=bLt hb1 hb2;refine hKK.out _ _ ⟨⟨hb12.size,fun k o hk _=>(hb12.block k (Array.getElem?_eq_some_iff.1 hk).1).trans hk⟩,HFP.out.past hb12,V.heap.size,V.heap.size+1,?_,?_,?_,?_,by omega,by omega,HJJ.out.past hb12⟩
     · rw [← HA1.out,HA.out,HB9.out];try simp only [HQ9.out]
       simp only [lsA,lsS,lsZ,Array.getD,List.size_toArray,List.length_cons,List.length_nil];rfl
     · rw [HA.out];exact bq hb2 (by omega) (r1 0)
     · rw [HB9.out];exact bq hb2 (by omega) (r1 1)
     rw [HQ9.out];exact ⟨_,_,_,_,_,_,r2 0,r2 1,r2 2,d1.past hb12,d2.past hb12⟩
   · rintro lq j x b V hj hfx ⟨p12,p13,rfl,e12a,e12b,hR13,n12,n13,hJ⟩;refine body_hide (fun QQ hQQ => ?_);obtain ⟨q,hq⟩:∃ q,(levelG zs k n i).getD j 0=q:=⟨_,rfl⟩;rw [hq] at hR13;obtain ⟨B,hB9⟩:∃ B,j % (n+1)=B:=⟨_,rfl⟩;rw [hB9] at e12b;have lq':rlen q≤1048576:=by rw [← hq];exact HLL.out i j (by have:=HI9.out;omega)
     have lo':rlen (stuckL n u (levelG zs k n i) j)≤1048576:=HSL.out u i j (by have:=HI9.out;omega) (by omega);have hGV:=hJ.st.gr.lt (by omega);have e10:=hJ.q10;have HB9:=hiD hB9;have HQ9:=hiD hq;have HJJ:=hiD hJ;have HFP:=hiD hfx;have HR13:=hiD hR13;have LQ:=hiD lq';have LO:=hiD lo';generalize x.getD 0 undef=y36;generalize x.getD 1 undef=y37;rw [← hA1];clear hB9 hq hJ hfx hA1 hR13 hfx0 hSQ hlrQ lq' lo' e12a;simp only [lsA,lsS,lsZ]
     by_cases hu0:u=0
     · have t0:((u:Int) == (0:Int))=true:=by rw [beq_iff_eq];omega
       have HU0:=hiD (show u=0∨j % (n+1)=0 from .inl hu0);clear hu0;have q9:=HJJ.out.st.q9;have hg9:=HJJ.out.st.gr.at_ u huC (by have:=HK.out;omega);have n9:¬ XG b9:=by rw [HXG.out];exact HG9.out
       have m10:¬ XG p10:=by rw [HXG.out];exact hNG
       have hXl0:∀ k,XG k→k<V.heap.size:=fun k h=>by rw [HXG.out] at h;exact ltq hGV h
       obtain ⟨ov,hov⟩:∃ ov,stuckL n u (levelG zs k n i) j=ov:=⟨_,rfl⟩;have hov2:outF zs k n u (stuckL n u (levelG zs k n i) j) u=ov:=by rw [hov];exact if_pos rfl
       obtain ⟨o1,o2,o3,o4,o5,o6,w0,w1,w2,O1,O2⟩:=hg9;simp only [hov2] at w0 O1 O2;obtain ⟨k1,k2,k3,k4,k5,k6,b0,b1,b2,P1,P2⟩:=HR13.out;obtain ⟨sm,hsm⟩:∃ sm,ov+q=sm:=⟨_,rfl⟩;have HSM:=hiD hsm;have HOV:=hiD hov;have LO:=hiD (hov ▸ LO.out);clear hov hov2 hsm
       gi_wp2_with fail
       refine wpIn_region_invA (by kernel_rfl) rfl (by kernel_rfl) (fun A0 V0 dd aa ww=>∃ (y46 y47 y48 y49 y50 y51 y52 y53 y54 y45 y55 y56 y57:Value),aa=puts A0 [(46,y46),(47,y47),(48,y48),(49,y49),(50,y50),(51,y51),(52,y52),(53,y53),(54,y54),(45,y45),(55,y55),(56,y56),(57,y57)]∧Moves XG V0 ww∧(∀ k,k<V0.heap.size→XG k→XG k)∧(∀ k,XG k→k<ww.heap.size)∧(Shut (dd 13=false→Moves (fun _=>False) V0 ww))∧Shut (dd 0=true→y46 = .slice (some ⟨G,0,none⟩) C C)∧Shut (dd 1=true→y47 = .int .i64 (u:Int))∧Shut (dd 2=true→y48 = .slice (some ⟨G,0,none⟩) C C)∧Shut (dd 3=true→y49 = .int .i64 (u:Int))∧Shut (dd 4=true→y50 = .pointer (some ⟨G,u*3,none⟩))∧Shut (dd 5=true→y51 = .agg #[.bool (neg ov.num),.slice o1 o2 o3,.slice o4 o5 o6])∧Shut (dd 6=true→y52 = .agg #[.bool (neg q.num),.slice k1 k2 k3,.slice k4 k5 k6])∧Shut (dd 7=true→dd 8=false→RowN XG 2 (ratsF [ov,q]) y53 ww)∧Shut (dd 8=true→OkN (sm) y54 ww)∧Shut (dd 9=true→y45=y54)∧Shut (dd 10=true→y55=part 0 y45)∧Shut (dd 11=true→y56=part 1 y45)∧Shut (dd 12=true→y57 = .pointer (some ⟨G,u*3,none⟩))∧Shut (dd 13=true→GridOf ww G C (fun j=>k≤j+i) (outF zs k n u sm))) ?_ ?_ ?_
       · exact ⟨_,_,_,_,_,_,_,_,_,_,_,_,_,puts_self _ [46,47,48,49,50,51,52,53,54,45,55,56,57],Moves.drew _ _,fun _ _ h=>h,hXl0,fun _=>Moves.drew _ _,nf,nf,nf,nf,nf,nf,nf,nf,nf,nf,nf,nf,nf,nf⟩
       · refine StepsI.cons ?_ (StepsI.cons ?_ (StepsI.cons ?_ (StepsI.cons ?_ (StepsI.cons ?_ (StepsI.cons ?_ (StepsI.cons ?_ (StepsI.cons ?_ (StepsI.cons ?_ (StepsI.cons ?_ (StepsI.cons ?_ (StepsI.cons ?_ (StepsI.cons ?_ (StepsI.cons ?_ (StepsI.nil))))))))))))))
         all_goals (intro dd aa ww K hc hun hn hI hK;obtain ⟨y46,y47,y48,y49,y50,y51,y52,y53,y54,y45,y55,y56,y57,ea,hM,hXX,hXl,SS,f0,f1,f2,f3,f4,f5,f6,f7,f8,f9,f10,f11,f12,f13⟩:=hI;subst ea;simp only [pu])
         · have e0:=hM.stays.cell n9 q9;go_simp;exact hK.out _ _ ⟨_,_,_,_,_,_,_,_,_,_,_,_,_,by simp only [pu]<;>rfl,hM,hXX,hXl,fun h=>SS.out (upd_off h),fun _=>rfl,uo f1,uo f2,uo f3,uo f4,uo f5,uo f6,fun h h2=>((f7.out (upd_of rfl h)) (upd_off h2)),uo f8,uo f9,uo f10,uo f11,uo f12,uo f13⟩
         · have e0:=hM.stays.cell m10 e10;go_simp;exact hK.out _ _ ⟨_,_,_,_,_,_,_,_,_,_,_,_,_,by simp only [pu]<;>rfl,hM,hXX,hXl,fun h=>SS.out (upd_off h),uo f0,fun _=>rfl,uo f2,uo f3,uo f4,uo f5,uo f6,fun h h2=>((f7.out (upd_of rfl h)) (upd_off h2)),uo f8,uo f9,uo f10,uo f11,uo f12,uo f13⟩
         · have e0:=hM.stays.cell n9 q9;go_simp;exact hK.out _ _ ⟨_,_,_,_,_,_,_,_,_,_,_,_,_,by simp only [pu]<;>rfl,hM,hXX,hXl,fun h=>SS.out (upd_off h),uo f0,uo f1,fun _=>rfl,uo f3,uo f4,uo f5,uo f6,hc.a hun,uo f8,hc.a hun,hc.a hun,hc.a hun,uo f12,uo f13⟩
         · have e0:=hM.stays.cell m10 e10;go_simp;exact hK.out _ _ ⟨_,_,_,_,_,_,_,_,_,_,_,_,_,by simp only [pu]<;>rfl,hM,hXX,hXl,fun h=>SS.out (upd_off h),uo f0,uo f1,uo f2,fun _=>rfl,uo f4,uo f5,uo f6,hc.a hun,uo f8,hc.a hun,hc.a hun,hc.a hun,uo f12,uo f13⟩
         · obtain rfl:=f2.out (hc.see hn);obtain rfl:=f3.out (hc.see hn);go_simp;exact hK.out _ _ ⟨_,_,_,_,_,_,_,_,_,_,_,_,_,by simp only [pu]<;>rfl,hM,hXX,hXl,fun h=>SS.out (upd_off h),uo f0,uo f1,fun h=>rfl,fun h=>rfl,fun _=>rfl,uo f5,uo f6,hc.a hun,uo f8,hc.a hun,hc.a hun,hc.a hun,uo f12,uo f13⟩
         · obtain rfl:=f4.out (hc.see hn);have hSS:=SS.out (hc.not (f:=20) (s:=13) (l:=5) (by kernel_rfl) hun);have e0:=hSS.stays.cell id w0;have e1:=hSS.stays.cell id w1;have e2:=hSS.stays.cell id w2;go_simp;exact hK.out _ _ ⟨_,_,_,_,_,_,_,_,_,_,_,_,_,by simp only [pu]<;>rfl,hM,hXX,hXl,fun h=>SS.out (upd_off h),uo f0,uo f1,uo f2,uo f3,fun h=>rfl,fun _=>rfl,uo f6,hc.a hun,uo f8,hc.a hun,hc.a hun,hc.a hun,uo f12,uo f13⟩
         · have hSS:=SS.out (hc.not (f:=20) (s:=13) (l:=6) (by kernel_rfl) hun);have e0:=hSS.stays.cell id b0;have e1:=hSS.stays.cell id b1;have e2:=hSS.stays.cell id b2;go_simp;exact hK.out _ _ ⟨_,_,_,_,_,_,_,_,_,_,_,_,_,by simp only [pu]<;>rfl,hM,hXX,hXl,fun h=>SS.out (upd_off h),uo f0,uo f1,uo f2,uo f3,uo f4,uo f5,fun _=>rfl,hc.a hun,uo f8,hc.a hun,hc.a hun,hc.a hun,uo f12,uo f13⟩
         · obtain rfl:=f5.out (hc.see hn);obtain rfl:=f6.out (hc.see hn);go_simp;exact hK.out _ _ ⟨_,_,_,_,_,_,_,_,_,_,_,_,_,by simp only [pu]<;>rfl,hM.then (Moves.alloc XG ww _) hXX,hXX,(fun k hk=>nLt (hXl k hk) (by simp)),fun h=>(SS.out (upd_off h)).trans (Moves.alloc (fun _=>False) ww _),uo f0,uo f1,uo f2,uo f3,uo f4,fun h=>rfl,fun h=>rfl,fun _ _=>RowN.two _ hXl (O1.stays hM.stays) (O2.stays hM.stays) (P1.stays hM.stays) (P2.stays hM.stays),hc.a hun,hc.a hun,hc.a hun,hc.a hun,uo f12,hc.a hun⟩
         · obtain ⟨G7,ex,hL7,_,nG7⟩:=f7.out (hc.see hn) hun;subst ex;go_simp;refine ⟨trivial,?_⟩;refine (CallsIn.inRound lq (callsIn_wide.2 (add_two hL7 LO.out LQ.out))).mono ?_;rintro e w1 ⟨ahSMU,nhSMU,chSMU,ahSMD,nhSMD,chSMD,rfl,hSMU,hSMD,h1⟩;rw [HSM.out] at hSMU hSMD ⊢;have hSMU:=hSMU.toNatAt;have hSMD:=hSMD.toNatAt;have hm1:Moves XG ww w1:=.ofBelow h1;have hgo:Goes XG XG ww w1:=.below h1;exact hK.out _ _ ⟨_,_,_,_,_,_,_,_,_,_,_,_,_,by simp only [pu]<;>rfl,hM.then hm1 hXX,hXX,(fun k hk=>nLt (hXl k hk) hm1.size),fun h=>(SS.out (upd_off h)).trans (.ofBelow h1),uo f0,uo f1,uo f2,uo f3,uo f4,uo f5,uo f6,fun _ h2=>absurd h2 (by simp [upd]),fun _=>⟨_,_,_,_,_,_,rfl,hSMU,hSMD⟩,hc.a hun,hc.a hun,hc.a hun,uo f12,hc.a hun⟩
         · obtain ⟨ahSMU,nhSMU,chSMU,ahSMD,nhSMD,chSMD,ex,hSMU,hSMD⟩:=f8.out (hc.see hn);subst ex;go_simp;exact hK.out _ _ ⟨_,_,_,_,_,_,_,_,_,_,_,_,_,by simp only [pu]<;>rfl,hM,hXX,hXl,fun h=>SS.out (upd_off h),uo f0,uo f1,uo f2,uo f3,uo f4,uo f5,uo f6,fun _ h2=>absurd (show dd 8=true from (hc.see hn)) (by rw [upd_off h2];decide),uo f8,fun _=>rfl,hc.a hun,hc.a hun,uo f12,uo f13⟩
         · obtain ⟨ahSMU,nhSMU,chSMU,ahSMD,nhSMD,chSMD,ex,hSMU,hSMD⟩:=f8.out (hc.see hn);subst ex;have ex:y45 = .tuple #[.agg #[.bool (neg (sm).num),.slice ahSMU nhSMU chSMU,.slice ahSMD nhSMD chSMD],.int .i64 0]:=f9.out (hc.see hn);subst ex;go_simp;exact hK.out _ _ ⟨_,_,_,_,_,_,_,_,_,_,_,_,_,by simp only [pu]<;>rfl,hM,hXX,hXl,fun h=>SS.out (upd_off h),uo f0,uo f1,uo f2,uo f3,uo f4,uo f5,uo f6,fun _ h2=>absurd (show dd 8=true from (hc.see hn)) (by rw [upd_off h2];decide),uo f8,fun h=>rfl,fun _=>rfl,uo f11,uo f12,uo f13⟩
         · obtain ⟨ahSMU,nhSMU,chSMU,ahSMD,nhSMD,chSMD,ex,hSMU,hSMD⟩:=f8.out (hc.see hn);subst ex;have ex:y45 = .tuple #[.agg #[.bool (neg (sm).num),.slice ahSMU nhSMU chSMU,.slice ahSMD nhSMD chSMD],.int .i64 0]:=f9.out (hc.see hn);subst ex;go_simp;exact hK.out _ _ ⟨_,_,_,_,_,_,_,_,_,_,_,_,_,by simp only [pu]<;>rfl,hM,hXX,hXl,fun h=>SS.out (upd_off h),uo f0,uo f1,uo f2,uo f3,uo f4,uo f5,uo f6,fun _ h2=>absurd (show dd 8=true from (hc.see hn)) (by rw [upd_off h2];decide),uo f8,fun h=>rfl,uo f10,fun _=>rfl,uo f12,uo f13⟩
         · obtain rfl:=f0.out (hc.see hn);obtain rfl:=f1.out (hc.see hn);go_simp;exact hK.out _ _ ⟨_,_,_,_,_,_,_,_,_,_,_,_,_,by simp only [pu]<;>rfl,hM,hXX,hXl,fun h=>SS.out (upd_off h),fun h=>rfl,fun h=>rfl,uo f2,uo f3,uo f4,uo f5,uo f6,fun h h2=>((f7.out (upd_of rfl h)) (upd_off h2)),uo f8,uo f9,uo f10,uo f11,fun _=>rfl,uo f13⟩
         obtain rfl:=f12.out (hc.see hn);obtain ⟨ahSMU,nhSMU,chSMU,ahSMD,nhSMD,chSMD,ex,hSMU,hSMD⟩:=f8.out (hc.see hn);subst ex;have ex:y45 = .tuple #[.agg #[.bool (neg (sm).num),.slice ahSMU nhSMU chSMU,.slice ahSMD nhSMD chSMD],.int .i64 0]:=f9.out (hc.see hn);subst ex;have ex:y55 = .agg #[.bool (neg (sm).num),.slice ahSMU nhSMU chSMU,.slice ahSMD nhSMD chSMD]:=f10.out (hc.see hn);subst ex;have hSS:=SS.out hun;have hgw:=HJJ.out.st.gr.stays hSS.stays id;obtain ⟨v0,z0,_⟩:=hgw.box.c (u*3) (by omega);obtain ⟨v1,z1,_⟩:=hgw.box.c (u*3+1) (by omega);obtain ⟨v2,z2,_⟩:=hgw.box.c (u*3+2) (by omega);have z3:=hgw.box.f (u*3) (by omega);have z4:=hgw.box.f (u*3+1) (by omega);have z5:=hgw.box.f (u*3+2) (by omega);obtain ⟨wF,hWF,hgF,hst⟩:=hgw.set3 huC hSMU hSMD;have hgF:=hgF.ext (P':=fun j=>k≤j+i) (f':=outF zs k n u sm) (fun j hj h => .inl h) (fun j hj h=>by unfold outF;by_cases e:j=u<;>simp [e]);have HWF:=hiD hWF;have HGF:=hiD hgF;have hst9:Moves XG ww wF:=hst.mono (fun k _ e=>by rw [HXG.out];exact e);clear hWF hgF;go_simp;rw [HWF.out];exact hK.out _ _ ⟨_,_,_,_,_,_,_,_,_,_,_,_,_,by simp only [pu]<;>rfl,hM.trans hst9,hXX,(fun k hk=>nLt (hXl k hk) hst.size),fun h=>absurd h (by simp [upd]),uo f0,uo f1,uo f2,uo f3,uo f4,uo f5,uo f6,fun _ h2=>absurd (show dd 8=true from (hc.see hn)) (by rw [upd_off h2];decide),fun h=>(f8.out (upd_of rfl h)).calm hst.stays,fun h=>rfl,fun h=>rfl,uo f11,fun h=>rfl,fun _=>HGF.out⟩
       intro dd aa U2 hd hI;obtain ⟨y46,y47,y48,y49,y50,y51,y52,y53,y54,y45,y55,y56,y57,ea,hM,hXX,hXl,SS,f0,f1,f2,f3,f4,f5,f6,f7,f8,f9,f10,f11,f12,f13⟩:=hI;obtain rfl:=f0.out (hd 0 (by simp));obtain rfl:=f1.out (hd 1 (by simp));obtain rfl:=f2.out (hd 2 (by simp));obtain rfl:=f3.out (hd 3 (by simp));obtain rfl:=f4.out (hd 4 (by simp));obtain rfl:=f5.out (hd 5 (by simp));obtain rfl:=f6.out (hd 6 (by simp));obtain ⟨ahSMU,nhSMU,chSMU,ahSMD,nhSMD,chSMD,ex,hSMU,hSMD⟩:=f8.out (hd 8 (by simp));subst ex;have ex:y45 = .tuple #[.agg #[.bool (neg (sm).num),.slice ahSMU nhSMU chSMU,.slice ahSMD nhSMD chSMD],.int .i64 0]:=f9.out (hd 9 (by simp));subst ex;have ex:y55 = .agg #[.bool (neg (sm).num),.slice ahSMU nhSMU chSMU,.slice ahSMD nhSMD chSMD]:=f10.out (hd 10 (by simp));subst ex;have ex:y56 = .int .i64 0:=f11.out (hd 11 (by simp));subst ex;obtain rfl:=f12.out (hd 12 (by simp));subst ea;simp only [pu];have hgF:=f13.out (hd 13 (by simp));have hMG:Moves (fun b=>b=G) V U2:=hM.mono (fun k _ e=>by rw [HXG.out] at e;exact e)
       have e8:stuckL n u (levelG zs k n i) (j+1)=sm:=by
        rw [stuckL_succ,if_pos HU0.out,HOV.out,HQ9.out,HSM.out]
       have hN:=HJJ.out.store hMG HYG.out HG9.out HTG.out HGG.out hNG hGw hgF;rw [← e8] at hN;have HNN:=hiD hN;have hFx:=HFP.out.stays hMG.stays hbG nG;have HFN:=hiD hFx;have HKO:=hiD hMG.others;clear hN hFx hgF hMG hM hXX hXl hXl0 SS f0 f1 f2 f3 f4 f5 f6 f8 f9 f10 f11 f12 f13 hd e8
       gi_wp2
       exact hQQ.out _ _ _ ⟨rfl,HKO.out,HFN.out,HNN.out⟩
     have t0:((u:Int) == (0:Int))=false:=by rw [beq_eq_false_iff_ne];omega
     by_cases hB0:B=0
     · have HU0:=hiD (show u=0∨j % (n+1)=0 from .inr (by rw [HB9.out];exact hB0));have t1:((B:Int) == (0:Int))=true:=by rw [beq_iff_eq];omega
       clear hB0 hu0;have q9:=HJJ.out.st.q9;have hg9:=HJJ.out.st.gr.at_ u huC (by have:=HK.out;omega);have n9:¬ XG b9:=by rw [HXG.out];exact HG9.out
       have m10:¬ XG p10:=by rw [HXG.out];exact hNG
       have hXl0:∀ k,XG k→k<V.heap.size:=fun k h=>by rw [HXG.out] at h;exact ltq hGV h
       obtain ⟨ov,hov⟩:∃ ov,stuckL n u (levelG zs k n i) j=ov:=⟨_,rfl⟩;have hov2:outF zs k n u (stuckL n u (levelG zs k n i) j) u=ov:=by rw [hov];exact if_pos rfl
       obtain ⟨o1,o2,o3,o4,o5,o6,w0,w1,w2,O1,O2⟩:=hg9;simp only [hov2] at w0 O1 O2;obtain ⟨k1,k2,k3,k4,k5,k6,b0,b1,b2,P1,P2⟩:=HR13.out;obtain ⟨sm,hsm⟩:∃ sm,ov+q=sm:=⟨_,rfl⟩;have HSM:=hiD hsm;have HOV:=hiD hov;have LO:=hiD (hov ▸ LO.out);clear hov hov2 hsm
       gi_wp2_with fail
       refine wpIn_region_invA (by kernel_rfl) rfl (by kernel_rfl) (fun A0 V0 dd aa ww=>∃ (y46 y47 y48 y49 y50 y51 y52 y53 y54 y45 y55 y56 y57:Value),aa=puts A0 [(46,y46),(47,y47),(48,y48),(49,y49),(50,y50),(51,y51),(52,y52),(53,y53),(54,y54),(45,y45),(55,y55),(56,y56),(57,y57)]∧Moves XG V0 ww∧(∀ k,k<V0.heap.size→XG k→XG k)∧(∀ k,XG k→k<ww.heap.size)∧(Shut (dd 13=false→Moves (fun _=>False) V0 ww))∧Shut (dd 0=true→y46 = .slice (some ⟨G,0,none⟩) C C)∧Shut (dd 1=true→y47 = .int .i64 (u:Int))∧Shut (dd 2=true→y48 = .slice (some ⟨G,0,none⟩) C C)∧Shut (dd 3=true→y49 = .int .i64 (u:Int))∧Shut (dd 4=true→y50 = .pointer (some ⟨G,u*3,none⟩))∧Shut (dd 5=true→y51 = .agg #[.bool (neg ov.num),.slice o1 o2 o3,.slice o4 o5 o6])∧Shut (dd 6=true→y52 = .agg #[.bool (neg q.num),.slice k1 k2 k3,.slice k4 k5 k6])∧Shut (dd 7=true→dd 8=false→RowN XG 2 (ratsF [ov,q]) y53 ww)∧Shut (dd 8=true→OkN (sm) y54 ww)∧Shut (dd 9=true→y45=y54)∧Shut (dd 10=true→y55=part 0 y45)∧Shut (dd 11=true→y56=part 1 y45)∧Shut (dd 12=true→y57 = .pointer (some ⟨G,u*3,none⟩))∧Shut (dd 13=true→GridOf ww G C (fun j=>k≤j+i) (outF zs k n u sm))) ?_ ?_ ?_
       · exact ⟨_,_,_,_,_,_,_,_,_,_,_,_,_,puts_self _ [46,47,48,49,50,51,52,53,54,45,55,56,57],Moves.drew _ _,fun _ _ h=>h,hXl0,fun _=>Moves.drew _ _,nf,nf,nf,nf,nf,nf,nf,nf,nf,nf,nf,nf,nf,nf⟩
       · refine StepsI.cons ?_ (StepsI.cons ?_ (StepsI.cons ?_ (StepsI.cons ?_ (StepsI.cons ?_ (StepsI.cons ?_ (StepsI.cons ?_ (StepsI.cons ?_ (StepsI.cons ?_ (StepsI.cons ?_ (StepsI.cons ?_ (StepsI.cons ?_ (StepsI.cons ?_ (StepsI.cons ?_ (StepsI.nil))))))))))))))
         all_goals (intro dd aa ww K hc hun hn hI hK;obtain ⟨y46,y47,y48,y49,y50,y51,y52,y53,y54,y45,y55,y56,y57,ea,hM,hXX,hXl,SS,f0,f1,f2,f3,f4,f5,f6,f7,f8,f9,f10,f11,f12,f13⟩:=hI;subst ea;simp only [pu])
         · have e0:=hM.stays.cell n9 q9;go_simp;exact hK.out _ _ ⟨_,_,_,_,_,_,_,_,_,_,_,_,_,by simp only [pu]<;>rfl,hM,hXX,hXl,fun h=>SS.out (upd_off h),fun _=>rfl,uo f1,uo f2,uo f3,uo f4,uo f5,uo f6,fun h h2=>((f7.out (upd_of rfl h)) (upd_off h2)),uo f8,uo f9,uo f10,uo f11,uo f12,uo f13⟩
         · have e0:=hM.stays.cell m10 e10;go_simp;exact hK.out _ _ ⟨_,_,_,_,_,_,_,_,_,_,_,_,_,by simp only [pu]<;>rfl,hM,hXX,hXl,fun h=>SS.out (upd_off h),uo f0,fun _=>rfl,uo f2,uo f3,uo f4,uo f5,uo f6,fun h h2=>((f7.out (upd_of rfl h)) (upd_off h2)),uo f8,uo f9,uo f10,uo f11,uo f12,uo f13⟩
         · have e0:=hM.stays.cell n9 q9;go_simp;exact hK.out _ _ ⟨_,_,_,_,_,_,_,_,_,_,_,_,_,by simp only [pu]<;>rfl,hM,hXX,hXl,fun h=>SS.out (upd_off h),uo f0,uo f1,fun _=>rfl,uo f3,uo f4,uo f5,uo f6,hc.a hun,uo f8,hc.a hun,hc.a hun,hc.a hun,uo f12,uo f13⟩
         · have e0:=hM.stays.cell m10 e10;go_simp;exact hK.out _ _ ⟨_,_,_,_,_,_,_,_,_,_,_,_,_,by simp only [pu]<;>rfl,hM,hXX,hXl,fun h=>SS.out (upd_off h),uo f0,uo f1,uo f2,fun _=>rfl,uo f4,uo f5,uo f6,hc.a hun,uo f8,hc.a hun,hc.a hun,hc.a hun,uo f12,uo f13⟩
         · obtain rfl:=f2.out (hc.see hn);obtain rfl:=f3.out (hc.see hn);go_simp;exact hK.out _ _ ⟨_,_,_,_,_,_,_,_,_,_,_,_,_,by simp only [pu]<;>rfl,hM,hXX,hXl,fun h=>SS.out (upd_off h),uo f0,uo f1,fun h=>rfl,fun h=>rfl,fun _=>rfl,uo f5,uo f6,hc.a hun,uo f8,hc.a hun,hc.a hun,hc.a hun,uo f12,uo f13⟩
         · obtain rfl:=f4.out (hc.see hn);have hSS:=SS.out (hc.not (f:=20) (s:=13) (l:=5) (by kernel_rfl) hun);have e0:=hSS.stays.cell id w0;have e1:=hSS.stays.cell id w1;have e2:=hSS.stays.cell id w2;go_simp;exact hK.out _ _ ⟨_,_,_,_,_,_,_,_,_,_,_,_,_,by simp only [pu]<;>rfl,hM,hXX,hXl,fun h=>SS.out (upd_off h),uo f0,uo f1,uo f2,uo f3,fun h=>rfl,fun _=>rfl,uo f6,hc.a hun,uo f8,hc.a hun,hc.a hun,hc.a hun,uo f12,uo f13⟩
         · have hSS:=SS.out (hc.not (f:=20) (s:=13) (l:=6) (by kernel_rfl) hun);have e0:=hSS.stays.cell id b0;have e1:=hSS.stays.cell id b1;have e2:=hSS.stays.cell id b2;go_simp;exact hK.out _ _ ⟨_,_,_,_,_,_,_,_,_,_,_,_,_,by simp only [pu]<;>rfl,hM,hXX,hXl,fun h=>SS.out (upd_off h),uo f0,uo f1,uo f2,uo f3,uo f4,uo f5,fun _=>rfl,hc.a hun,uo f8,hc.a hun,hc.a hun,hc.a hun,uo f12,uo f13⟩
         · obtain rfl:=f5.out (hc.see hn);obtain rfl:=f6.out (hc.see hn);go_simp;exact hK.out _ _ ⟨_,_,_,_,_,_,_,_,_,_,_,_,_,by simp only [pu]<;>rfl,hM.then (Moves.alloc XG ww _) hXX,hXX,(fun k hk=>nLt (hXl k hk) (by simp)),fun h=>(SS.out (upd_off h)).trans (Moves.alloc (fun _=>False) ww _),uo f0,uo f1,uo f2,uo f3,uo f4,fun h=>rfl,fun h=>rfl,fun _ _=>RowN.two _ hXl (O1.stays hM.stays) (O2.stays hM.stays) (P1.stays hM.stays) (P2.stays hM.stays),hc.a hun,hc.a hun,hc.a hun,hc.a hun,uo f12,hc.a hun⟩
         · obtain ⟨G7,ex,hL7,_,nG7⟩:=f7.out (hc.see hn) hun;subst ex;go_simp;refine ⟨trivial,?_⟩;refine (CallsIn.inRound lq (callsIn_wide.2 (add_two hL7 LO.out LQ.out))).mono ?_;rintro e w1 ⟨ahSMU,nhSMU,chSMU,ahSMD,nhSMD,chSMD,rfl,hSMU,hSMD,h1⟩;rw [HSM.out] at hSMU hSMD ⊢;have hSMU:=hSMU.toNatAt;have hSMD:=hSMD.toNatAt;have hm1:Moves XG ww w1:=.ofBelow h1;have hgo:Goes XG XG ww w1:=.below h1;exact hK.out _ _ ⟨_,_,_,_,_,_,_,_,_,_,_,_,_,by simp only [pu]<;>rfl,hM.then hm1 hXX,hXX,(fun k hk=>nLt (hXl k hk) hm1.size),fun h=>(SS.out (upd_off h)).trans (.ofBelow h1),uo f0,uo f1,uo f2,uo f3,uo f4,uo f5,uo f6,fun _ h2=>absurd h2 (by simp [upd]),fun _=>⟨_,_,_,_,_,_,rfl,hSMU,hSMD⟩,hc.a hun,hc.a hun,hc.a hun,uo f12,hc.a hun⟩
         · obtain ⟨ahSMU,nhSMU,chSMU,ahSMD,nhSMD,chSMD,ex,hSMU,hSMD⟩:=f8.out (hc.see hn);subst ex;go_simp;exact hK.out _ _ ⟨_,_,_,_,_,_,_,_,_,_,_,_,_,by simp only [pu]<;>rfl,hM,hXX,hXl,fun h=>SS.out (upd_off h),uo f0,uo f1,uo f2,uo f3,uo f4,uo f5,uo f6,fun _ h2=>absurd (show dd 8=true from (hc.see hn)) (by rw [upd_off h2];decide),uo f8,fun _=>rfl,hc.a hun,hc.a hun,uo f12,uo f13⟩
         · obtain ⟨ahSMU,nhSMU,chSMU,ahSMD,nhSMD,chSMD,ex,hSMU,hSMD⟩:=f8.out (hc.see hn);subst ex;have ex:y45 = .tuple #[.agg #[.bool (neg (sm).num),.slice ahSMU nhSMU chSMU,.slice ahSMD nhSMD chSMD],.int .i64 0]:=f9.out (hc.see hn);subst ex;go_simp;exact hK.out _ _ ⟨_,_,_,_,_,_,_,_,_,_,_,_,_,by simp only [pu]<;>rfl,hM,hXX,hXl,fun h=>SS.out (upd_off h),uo f0,uo f1,uo f2,uo f3,uo f4,uo f5,uo f6,fun _ h2=>absurd (show dd 8=true from (hc.see hn)) (by rw [upd_off h2];decide),uo f8,fun h=>rfl,fun _=>rfl,uo f11,uo f12,uo f13⟩
         · obtain ⟨ahSMU,nhSMU,chSMU,ahSMD,nhSMD,chSMD,ex,hSMU,hSMD⟩:=f8.out (hc.see hn);subst ex;have ex:y45 = .tuple #[.agg #[.bool (neg (sm).num),.slice ahSMU nhSMU chSMU,.slice ahSMD nhSMD chSMD],.int .i64 0]:=f9.out (hc.see hn);subst ex;go_simp;exact hK.out _ _ ⟨_,_,_,_,_,_,_,_,_,_,_,_,_,by simp only [pu]<;>rfl,hM,hXX,hXl,fun h=>SS.out (upd_off h),uo f0,uo f1,uo f2,uo f3,uo f4,uo f5,uo f6,fun _ h2=>absurd (show dd 8=true from (hc.see hn)) (by rw [upd_off h2];decide),uo f8,fun h=>rfl,uo f10,fun _=>rfl,uo f12,uo f13⟩
         · obtain rfl:=f0.out (hc.see hn);obtain rfl:=f1.out (hc.see hn);go_simp;exact hK.out _ _ ⟨_,_,_,_,_,_,_,_,_,_,_,_,_,by simp only [pu]<;>rfl,hM,hXX,hXl,fun h=>SS.out (upd_off h),fun h=>rfl,fun h=>rfl,uo f2,uo f3,uo f4,uo f5,uo f6,fun h h2=>((f7.out (upd_of rfl h)) (upd_off h2)),uo f8,uo f9,uo f10,uo f11,fun _=>rfl,uo f13⟩
         obtain rfl:=f12.out (hc.see hn);obtain ⟨ahSMU,nhSMU,chSMU,ahSMD,nhSMD,chSMD,ex,hSMU,hSMD⟩:=f8.out (hc.see hn);subst ex;have ex:y45 = .tuple #[.agg #[.bool (neg (sm).num),.slice ahSMU nhSMU chSMU,.slice ahSMD nhSMD chSMD],.int .i64 0]:=f9.out (hc.see hn);subst ex;have ex:y55 = .agg #[.bool (neg (sm).num),.slice ahSMU nhSMU chSMU,.slice ahSMD nhSMD chSMD]:=f10.out (hc.see hn);subst ex;have hSS:=SS.out hun;have hgw:=HJJ.out.st.gr.stays hSS.stays id;obtain ⟨v0,z0,_⟩:=hgw.box.c (u*3) (by omega);obtain ⟨v1,z1,_⟩:=hgw.box.c (u*3+1) (by omega);obtain ⟨v2,z2,_⟩:=hgw.box.c (u*3+2) (by omega);have z3:=hgw.box.f (u*3) (by omega);have z4:=hgw.box.f (u*3+1) (by omega);have z5:=hgw.box.f (u*3+2) (by omega);obtain ⟨wF,hWF,hgF,hst⟩:=hgw.set3 huC hSMU hSMD;have hgF:=hgF.ext (P':=fun j=>k≤j+i) (f':=outF zs k n u sm) (fun j hj h => .inl h) (fun j hj h=>by unfold outF;by_cases e:j=u<;>simp [e]);have HWF:=hiD hWF;have HGF:=hiD hgF;have hst9:Moves XG ww wF:=hst.mono (fun k _ e=>by rw [HXG.out];exact e);clear hWF hgF;go_simp;rw [HWF.out];exact hK.out _ _ ⟨_,_,_,_,_,_,_,_,_,_,_,_,_,by simp only [pu]<;>rfl,hM.trans hst9,hXX,(fun k hk=>nLt (hXl k hk) hst.size),fun h=>absurd h (by simp [upd]),uo f0,uo f1,uo f2,uo f3,uo f4,uo f5,uo f6,fun _ h2=>absurd (show dd 8=true from (hc.see hn)) (by rw [upd_off h2];decide),fun h=>(f8.out (upd_of rfl h)).calm hst.stays,fun h=>rfl,fun h=>rfl,uo f11,fun h=>rfl,fun _=>HGF.out⟩
       intro dd aa U2 hd hI;obtain ⟨y46,y47,y48,y49,y50,y51,y52,y53,y54,y45,y55,y56,y57,ea,hM,hXX,hXl,SS,f0,f1,f2,f3,f4,f5,f6,f7,f8,f9,f10,f11,f12,f13⟩:=hI;obtain rfl:=f0.out (hd 0 (by simp));obtain rfl:=f1.out (hd 1 (by simp));obtain rfl:=f2.out (hd 2 (by simp));obtain rfl:=f3.out (hd 3 (by simp));obtain rfl:=f4.out (hd 4 (by simp));obtain rfl:=f5.out (hd 5 (by simp));obtain rfl:=f6.out (hd 6 (by simp));obtain ⟨ahSMU,nhSMU,chSMU,ahSMD,nhSMD,chSMD,ex,hSMU,hSMD⟩:=f8.out (hd 8 (by simp));subst ex;have ex:y45 = .tuple #[.agg #[.bool (neg (sm).num),.slice ahSMU nhSMU chSMU,.slice ahSMD nhSMD chSMD],.int .i64 0]:=f9.out (hd 9 (by simp));subst ex;have ex:y55 = .agg #[.bool (neg (sm).num),.slice ahSMU nhSMU chSMU,.slice ahSMD nhSMD chSMD]:=f10.out (hd 10 (by simp));subst ex;have ex:y56 = .int .i64 0:=f11.out (hd 11 (by simp));subst ex;obtain rfl:=f12.out (hd 12 (by simp));subst ea;simp only [pu];have hgF:=f13.out (hd 13 (by simp));have hMG:Moves (fun b=>b=G) V U2:=hM.mono (fun k _ e=>by rw [HXG.out] at e;exact e)
       have e8:stuckL n u (levelG zs k n i) (j+1)=sm:=by
        rw [stuckL_succ,if_pos HU0.out,HOV.out,HQ9.out,HSM.out]
       have hN:=HJJ.out.store hMG HYG.out HG9.out HTG.out HGG.out hNG hGw hgF;rw [← e8] at hN;have HNN:=hiD hN;have hFx:=HFP.out.stays hMG.stays hbG nG;have HFN:=hiD hFx;have HKO:=hiD hMG.others;clear hN hFx hgF hMG hM hXX hXl hXl0 SS f0 f1 f2 f3 f4 f5 f6 f8 f9 f10 f11 f12 f13 hd e8
       gi_wp2
       exact hQQ.out _ _ _ ⟨rfl,HKO.out,HFN.out,HNN.out⟩
     have HU0:=hiD (show ¬ (u=0∨j % (n+1)=0) by rw [HB9.out];omega);have t1:((B:Int) == (0:Int))=false:=by rw [beq_eq_false_iff_ne];omega
     clear hB0 hu0
     gi_wp2
     refine hQQ.out _ _ _ ⟨rfl,⟨nRf _,fun _ _ h _=>h⟩,HFP.out,?_⟩;rw [stuckL_succ,if_neg HU0.out];exact HJJ.out
   intro V hJ hfx;have HJJ:=hiD hJ;clear hJ hfx hfx0 hSQ hlrQ;rw [← hA1]
   gi_wp2
   refine hQQ.out _ _ _ ⟨rfl,HJJ.out.ko,HJJ.out.fx,?_,HJJ.out.sy⟩;have h:=HJJ.out.st;rw [← HC.out] at h;refine h.ext (fun j hj hp=>by omega) (fun j hj hp => ?_);unfold outF
   by_cases e:j=u
   · have hki:k-u=i:=by have:=HK.out;omega
     rw [if_pos e,e,stuckR,hki,HM.out];rfl
   rw [if_neg e]
 rintro D W hD hI hfix hdef;have HII:=hiD hI;have q9:=hI.q9;clear hI hfix hP0 hI0;rw [← hA0];clear hA0
 gi_wp2
 go_wp2
 refine ⟨by simp,.inl ⟨_,_,rfl,run_takeDeferred hdef,?_⟩⟩;have hs:Stays (fun _=>False) W (W.putObj D (.deferred none)):=.turn (.deferred none) hdef rfl;refine ⟨.tuple #[.slice (some ⟨G,0,none⟩) (k+1) (k+1),.int .i64 0],?_,G,rfl,(HII.out.gr.all (fun j hj=>by omega)).stays hs id,hGw,HII.out.bw.trans (below_put (.deferred none) (by omega))⟩;simp [results,Tryz.f199,go_sem]
end
section
open Go.RowKit Go.Shelf
attribute [local go_sem] Oper.semAt_some
theorem foldl_sum (q:Nat→Rat):∀ k:Nat,(List.range k).foldl (fun x i=>x+q i) 0=sumQ 0 q k
 | 0=>rfl
 | k+1=>by rw [List.range_succ,List.foldl_append,foldl_sum q k];rfl
theorem fail_sum (zs:List Int) (k n:Nat):failR zs k n=sumQ 0 (fun i=>stuckR zs k n (1+i)) k:=foldl_sum _ k
theorem drop24 {w:World} {b o n c k:Nat} {f:Nat→Bool×List Nat×List Nat} (h:RatsAt w (some ⟨b,o,none⟩) n c f) (hk:k≤n):RatsAt w (some ⟨b,o+k*3,none⟩) (n-k) (c-k) (fun i=>f (k+i)):=by
 refine ⟨by have:=h.le;omega,by have:=h.cle;omega,?_⟩;rcases h.cell with h0 | ⟨b2,o2,e,hl,hc⟩
 · exact .inl (by omega)
 cases e
 by_cases hz:n-k=0
 · exact .inl hz
 refine .inr ⟨b,o+k*3,rfl,hl,fun i hi => ?_⟩;obtain ⟨a1,n1,c1,a2,n2,c2,q0,q1,q2,d1,d2⟩:=hc (k+i) (by omega);have e:o+k*3+i*3=o+(k+i)*3:=by omega
 exact ⟨a1,n1,c1,a2,n2,c2,by rw [e];exact q0,by rw [e];exact q1,by rw [e];exact q2,d1,d2⟩
theorem slice_rats (b k:Nat) (hk:1≤k):∀ W,(Instr.slice 78 (.slice (some ⟨b,0,none⟩) (k+1) (k+1)) (some (.int .i64 1)) none none).run Tryz.prog W = .ok (.slice (some ⟨b,3,none⟩) k k) W:=by
 have hel:Tryz.prog.elem 78=28:=by kernel_rfl
 have hun:Tryz.prog.underlying 78=some (.slice (Tryz.prog.elem 78)):=by rw [hel];exact Tryz.underlying78
 have hsz:∀ W,(sizeOf 28).run Tryz.prog W = .ok 3 W:=fun W=>by kernel_rfl
 intro W;rw [run_slice_l W _ (some ⟨b,0,none⟩) (k+1) (k+1) hun .i64 1 (by omega) (by omega),hel,hsz];simp only [Result.andThen,sliced];rw [if_neg (by simp;omega)];simp [addr_add]
theorem fail_any (a:Option Addr) (l c:Nat) (zs:List Int) (k n:Nat) (w:World) (g:IntsAt w a l c zs) (hok:okT zs (k:Int)) (hk1:1≤k) (hk:k≤2) (hn:n≤3) :
 Calls Tryz.prog 159 #[.slice a l c,.int .i64 (k:Int),.int .i64 (n:Int)] w (RetOk w (failR zs k n)):=by
 have HST:=hiD (fun (w:World) (g:IntsAt w a l c zs)=>stuck_any a l c zs k n ((n+1)*(n+1)) w g hok hk1 (by omega) (by omega) rfl (level_first hok hk hn) (fun i hi=>level_next hok hk hn rfl i hi)
  (fun i j hi=>nTr (level_len hok hk hn i j hi) (by decide)) (fun u i j hi hj=>nTr (stuck_len hok hk hn u i j hi hj) (by decide)))
 have HSL:=hiD (show ∀ u:Nat,rlen (stuckR zs k n u)≤100000 from fun u=>stuck_len hok hk hn u (k-u) ((n+1)*(n+1)) (Nat.sub_le _ _) (nRf _));rw [fail_sum];obtain ⟨S,hS⟩:∃ S,sumQ 0 (fun i=>stuckR zs k n (1+i)) k=S:=⟨_,rfl⟩;rw [hS];have HS:=hiD hS;clear hS;have HK:=hiD hk1;have HK2:=hiD hk;clear hok hk1 hk hn
 go_enter Tryz.func159,Tryz.ntmps159
 have hB:=bRf w.heap.size w
 go_wp2_with fail
 obtain ⟨w1,hW,hz0,hb,q,f,qr0,qr1,qr2⟩:=bx3 w (w.heap.size) (by omega) (.bool false) (.slice none 0 0) (.slice none 0 0) 28;rw [hW];clear hW;have g:=g.past hb;have hB:=bLt hB hb;clear hb;have lr:w.heap.size<w1.heap.size:=by omega
 have xr:BoxAt w1 (w.heap.size) 3:=BoxAt.of q f rfl (by simp [notU_bool,notU_slice,notU_i64]);clear q f;clear hz0
 with_reducible refine (HST.out _ g).mono ?_
 rintro e w2 ⟨G,rfl,hGR,hGl,hb⟩;have xr:=xr.past hb lr;obtain ⟨qr0,qr1,qr2,lr⟩:=bq3 hb lr qr0 qr1 qr2;have hB:=bLt hB hb;clear hb;have hsl:=slice_rats G k HK.out
 go_wp2_with fail
 have hdr:RatsAt w2 (some ⟨G,3,none⟩) k k (fun i=>partsOf (stuckR zs k n (1+i))):=drop24 (k:=1) hGR.rats (by omega)
 go_wp2_with fail
 with_reducible refine (add_rats 100000 hdr (fun i _=>HSL.out (1+i)) (by decide) (by have:=HK2.out;omega)).mono ?_
 rintro e w3 ⟨ahSU,nhSU,chSU,ahSD,nhSD,chSD,rfl,hSU,hSD,hb⟩;have hSU:=hSU.mono hB.size;have hSD:=hSD.mono hB.size;have xr:=xr.past hb lr;obtain ⟨qr0,qr1,qr2,lr⟩:=bq3 hb lr qr0 qr1 qr2;have hB:=bLt hB hb;clear hb;rw [HS.out] at hSU hSD ⊢;have zf0:=xr.f 0 (by decide);have zf1:=xr.f 1 (by decide);have zf2:=xr.f 2 (by decide)
 go_wp2
 obtain ⟨w4,hW,hO,qN0,qN1,qN2,xN⟩:=store3 xr (.bool (neg (S).num)) (.slice ahSU nhSU chSU) (.slice ahSD nhSD chSD) (nu rfl) (nu rfl) (nu rfl);try rw [hW]
 clear hW;have hSU:=hO.own hSU;have hSD:=hO.own hSD;have lr:w.heap.size<w4.heap.size:=by rw [hO.size];exact lr
 have qr0:=qN0;have qr1:=qN1;have qr2:=qN2;have xr:=xN;have hB:=hO.below (by omega) hB;clear hO qN0 qN1 qN2 xN zf0 zf1 zf2;refine bodyPost_ret (v:=.tuple #[.agg #[.bool (neg S.num),.slice ahSU nhSU chSU,.slice ahSD nhSD chSD],.int .i64 0]) ?_ rfl ⟨_,_,_,_,_,_,rfl,hSU,hSD,hB⟩;simp [results,Tryz.f159,go_sem,qr0,qr1,qr2]
end
section
open Go.RowKit Go.Shelf
attribute [local go_sem] Oper.semAt_some
theorem points_any (a:Option Addr) (l c k:Nat) (E:Int) (w:World) :
 Calls Tryz.prog 120 #[.slice a l c,.int .i64 (k:Int),.int .i64 E] w fun e w'=>e = .returned (.func (.func 158) #[] #[.pointer (some ⟨w.heap.size+1+1,0,none⟩),.pointer (some ⟨w.heap.size,0,none⟩),.pointer (some ⟨w.heap.size+1,0,none⟩)]) ∧
  ((w.alloc (.cells #[.slice a l c] 22)).alloc (.cells #[.int .i64 (k:Int)] 3)).alloc (.cells #[.int .i64 E] 3)=w':=by
 have hmf:∀ (fn:Fn) (first cap:Array Value) (w:World),(Instr.makeFunc fn first cap).run Tryz.prog w = .ok (.func fn first cap) w:=fun _ _ _ _=>rfl
 go_enter Tryz.func120,Tryz.ntmps120
 go_wp2
 go_ret
 exact ⟨by simp,by simp⟩
def OkPt (zs:List Int) (k:Nat) (i:Nat) (x:Array Value) (W:World):Prop:=∃ y,x=#[.int .i64 (i:Int),y]∧RatNV (failR zs k i) y W
structure FixCu (bE bT bK:Nat) (a:Option Addr) (l c:Nat) (zs:List Int) (k:Nat) (E:Int) (W:World):Prop where
 qE:W.cell? ⟨bE,0,none⟩=some (.int .i64 E)
 qT:W.cell? ⟨bT,0,none⟩=some (.slice a l c)
 qK:W.cell? ⟨bK,0,none⟩=some (.int .i64 (k:Int))
 g:IntsAt W a l c zs
section
variable {bE bT bK l c k:Nat} {a:Option Addr} {zs:List Int} {E:Int} {W W':World}
theorem FixCu.stays {Z:Nat→Prop} (h:FixCu bE bT bK a l c zs k E W) (hs:Stays Z W W') (h1:¬ Z bE) (h2:¬ Z bT) (h3:¬ Z bK) (h4:∀ x,a=some x→¬ Z x.block):FixCu bE bT bK a l c zs k E W' :=
 ⟨hs.cell h1 h.qE,hs.cell h2 h.qT,hs.cell h3 h.qK,h.g.stays hs (.inr h4)⟩
theorem FixCu.past (h:FixCu bE bT bK a l c zs k E W) (hb:Below W.heap.size W W'):FixCu bE bT bK a l c zs k E W':=h.stays (Z:=fun _=>False) (.ofBelow hb) id id id (fun _ _=>id)
theorem FixCu.turn {l0:Nat} {o:Obj} (o':Obj) (h:FixCu bE bT bK a l c zs k E W) (hl:W.heap[l0]? = some o) (ho:o.isCells=false):FixCu bE bT bK a l c zs k E (W.putObj l0 o'):=h.stays (Z:=fun _=>False) (.turn o' hl ho) id id id (fun _ _=>id)
end
theorem points1_hands (bE bT bK:Nat) (a:Option Addr) (l c:Nat) (zs:List Int) (k N:Nat) (E:Int) (hok:okT zs (k:Int)) (hk1:1≤k) (hk:k≤2) (hN:N≤4) (hE:N≤E) :
 HandsE 4 Tryz.prog 158 #[.pointer (some ⟨bE,0,none⟩),.pointer (some ⟨bT,0,none⟩),.pointer (some ⟨bK,0,none⟩)] N (OkPt zs k) (FixCu bE bT bK a l c zs k E):=by
 intro lp J K W hJN hJ hK hfix hY h0;have HFA:=hiD (fun (i:Nat) (hi:i<N) (w:World) (g:IntsAt w a l c zs)=>fail_any a l c zs k i w g hok hk1 hk (by omega));have HY:=hiD hY;have HJ:=hiD hJ;have HF:=hiD hfix;have HJN:=hiD hJN;have qE:=hfix.qE;clear hY hJ hfix hok hJN hK;refine callsIn_of_wp Tryz.func158 rfl trivial ?_ rfl;simp only [Tryz.ntmps158,List.size_toArray,List.length_cons,List.length_nil,Nat.reduceAdd,Nat.reduceSub,Array.replicate_succ,Array.replicate_zero,List.push_toArray,List.append_toArray,List.nil_append,List.cons_append]
 gi_wp2
 clear qE
 gi_loopw [5,6,7,9] (fun s5 s6 s7 s9 wr=>∃ i:Nat,i≤N∧s9 = .int .i64 (i:Int)∧J i wr∧FixCu bE bT bK a l c zs k E wr) (fun _ _ _ s9 _=>N-(intOf s9).toNat)
 case atStart=>exact ⟨0,Nat.zero_le _,rfl,h0,HF.out⟩
 case round =>
  obtain ⟨i,hi,rfl,hJi,hfix⟩:=hrel
  have hlt:i<N:=by
   rcases Nat.lt_or_ge i N with h | h
   · exact h
   obtain rfl:i=N:=by omega
   exact (HJN.out _ hJi).elim
  have hiE:(i:Int)<E:=by omega
  have qT:=hfix.qT;have qK:=hfix.qK;have HJI:=hiD hJi;have HFX:=hiD hfix;clear hJi hfix
  gi_wp2_with fail
  refine ⟨trivial,?_⟩;refine (callsIn_wide.2 (HFA.out i hlt wr HFX.out.g)).mono ?_;rintro e W1 ⟨ahUU,nhUU,chUU,ahUD,nhUD,chUD,rfl,hUU,hUD,hb1⟩;obtain ⟨q,hq⟩:∃ q,failR zs k i=q:=⟨_,rfl⟩;rw [hq] at hUU hUD ⊢;have HQ:=hiD hq;clear hq qT qK
  gi_wp2_with fail
  obtain ⟨W2,hW2,y2,hb2,r2,f2⟩:=box1g W1 W1.heap.size rfl #[.bool (neg q.num),.slice ahUU nhUU chUU,.slice ahUD nhUD chUD] 28;rw [hW2];have p0:=r2 0;have p1:=r2 1;have p2:=r2 2;simp only [lgA,lgZ,lgS] at p0 p1 p2;have hb12:=bLt hb1 hb2;have hJ2:=HJ.out i wr W2 HJI.out hb12;have hF2:=HFX.out.past hb12;have hUU:=hUU.toNatAt.past hb2;have hUD:=hUD.toNatAt.past hb2;have hY1:=HY.out i #[.int .i64 (i:Int),.agg #[.bool (neg q.num),.slice ahUU nhUU chUU,.slice ahUD nhUD chUD]] W2 hlt hJ2 hF2 ⟨_,rfl,by rw [HQ.out];exact ⟨_,_,_,_,_,_,rfl,hUU,hUD⟩⟩;obtain ⟨fn,tmps,assign,body,hy,hR⟩:=hY1;have HR:=hiD hR;clear hR hJ2 hF2 hUU hUD hb12 hb1 hb2 hW2 y2 r2 f2
  gi_wp2_with fail
  rw [hy];refine ⟨fun _=>by decide,?_⟩;refine HR.out.mono ?_;rintro e W3 hp
  obtain ⟨bb,rfl,hp⟩:∃ bb,e = .returned (.bool bb)∧(bb=true∧J (i+1) W3∧FixCu bE bT bK a l c zs k E W3∨bb=false∧K W3∧FixCu bE bT bK a l c zs k E W3):=by
   rcases hp with ⟨h1,h2⟩ | ⟨h1,h2⟩
   · exact ⟨true,h1,.inl ⟨rfl,h2⟩⟩
   exact ⟨false,h1,.inr ⟨rfl,h2⟩⟩
  have HP:=hiD hp;clear hp hy;cases bb with
  | true =>
    gi_wp2
    have hp:=HP.out.resolve_right (fun h=>by simp at h);exact ⟨⟨i+1,hlt,by go_num,hp.2.1,hp.2.2⟩,by simp [intOf];omega⟩
  | false =>
    gi_wp2
    (try simp only [Exit.inBlock,Exit.then])
    refine bodyPost_ret (results_none rfl _ _ _) rfl ?_;have hp:=HP.out.resolve_left (fun h=>by simp at h);exact ⟨⟨_,rfl⟩,hp.2.1,hp.2.2⟩
end
section
open Go.RowKit Go.Shelf
attribute [local go_sem] Oper.semAt_some
theorem sign_pos {p:Rat} (h:0<p):p.num.sign=1:=by
 have h1:0≤p.num:=Rat.num_nonneg.2 (Rat.le_of_lt h);have h2:p.num≠0:=fun e=>(Rat.ne_of_gt h) (Rat.num_eq_zero.1 e)
 exact Int.sign_eq_one_of_pos (by omega)
theorem sign_gt {p q:Rat} (h:q<p):(p-q).num.sign=1:=sign_pos (by grind)
theorem check_rat {p:Rat} {a1:Option Addr} {n1 c1:Nat} {a2:Option Addr} {n2 c2:Nat} {w:World} (g1:NatAt w a1 n1 c1 (digs p.num.natAbs)) (g2:NatAt w a2 n2 c2 (digs p.den)) (h1:n1≤1048576) (h2:n2≤1048576) :
 Calls Tryz.prog 97 #[.agg #[.bool (neg p.num),.slice a1 n1 c1,.slice a2 n2 c2]] w (RetVal w (.int .i64 0)):=by
 have h:=check05_any (neg p.num) a1 n1 c1 _ a2 n2 c2 _ w g1 g2 (by omega) (by omega);rw [chkR_canon p] at h;exact h
theorem sign_lt {p q:Rat} (h:p<q):(p-q).num.sign = -1:=by
 have e:p-q = -(q-p):=by grind
 rw [e,Rat.neg_num,Int.sign_neg,sign_gt h]
theorem sign_le {p q:Rat} (h:p≤q):(p-q).num.sign≤0:=by
 have e:p-q = -(q-p):=by grind
 have h1:0≤(q-p).num.sign:=Int.sign_nonneg_iff.2 (Rat.num_nonneg.2 (by grind));rw [e,Rat.neg_num,Int.sign_neg];omega
theorem box_set3 {w:World} {b:Nat} (x:BoxAt w b 3) (v0 v1 v2:Value) (h0:notU v0) (h1:notU v1) (h2:notU v2) :
 ∃ w',((w.setCell ⟨b,0,none⟩ v0).setCell ⟨b,1,none⟩ v1).setCell ⟨b,2,none⟩ v2=w'∧w'.cell? ⟨b,0,none⟩=some v0∧w'.cell? ⟨b,1,none⟩=some v1∧w'.cell? ⟨b,2,none⟩=some v2∧BoxAt w' b 3∧Moves (fun k=>k=b) w w':=by
 have hu:∀ v ∈ [v0,v1,v2],notU v:=by
  intro v hv;simp only [List.mem_cons,List.not_mem_nil,or_false] at hv;rcases hv with rfl | rfl | rfl<;>assumption
 have hm:=Moves.sets [v0,v1,v2] 0 w x (by simp) hu
 have hin:=World.cell?_setCells_in b [v0,v1,v2] 0 w (fun j hj=>by
  simp only [List.length_cons,List.length_nil] at hj;obtain ⟨v,hv,_⟩:=x.c (0+j) (by omega);rw [hv];rfl)
 exact ⟨w.setCells b 0 [v0,v1,v2],rfl,hin 0 (by simp),hin 1 (by simp),hin 2 (by simp),BoxAt.sets _ _ _ _ x hu,hm⟩
theorem box_set1 {w:World} {b:Nat} (x:BoxAt w b 1) (v:Value) (h:notU v):∃ w',w.setCell ⟨b,0,none⟩ v=w'∧w'.cell? ⟨b,0,none⟩=some v∧BoxAt w' b 1∧Moves (fun k=>k=b) w w':=by
 obtain ⟨v0,c0,u0⟩:=x.c 0 (by decide);exact ⟨_,rfl,World.cell?_setCell_same _ _ _ c0,x.set _ v h,Moves.set c0 u0 v⟩
structure LstI (w0:World) (b6 b8 b9 be:Nat) (eps:Rat) (W:World):Prop where
 q6:RatC W b6 eps
 x8:BoxAt W b8 1
 x9:BoxAt W b9 3
 xe:BoxAt W be 1
 bw:Below w0.heap.size w0 W
structure LstK (w0:World) (b8 b9 be N:Nat) (q:Rat) (W:World):Prop where
 r8:W.cell? ⟨b8,0,none⟩=some (.int .i64 (N:Int))
 r9:RatC W b9 q
 re:W.cell? ⟨be,0,none⟩=some (.int .i64 0)
 bw:Below w0.heap.size w0 W
section
variable {w0 W W':World} {b6 b8 b9 be N:Nat} {eps q:Rat}
theorem LstI.stays (h:LstI w0 b6 b8 b9 be eps W) (hs:Stays (fun _=>False) W W') (hb:Below w0.heap.size w0 W'):LstI w0 b6 b8 b9 be eps W':=⟨h.q6.stays hs id,hs.box id h.x8,hs.box id h.x9,hs.box id h.xe,hb⟩
theorem LstI.past (h:LstI w0 b6 b8 b9 be eps W) (hb:Below W.heap.size W W'):LstI w0 b6 b8 b9 be eps W':=h.stays (.ofBelow hb) (bLt h.bw hb)
theorem LstI.turn {l:Nat} {o:Obj} (o':Obj) (h:LstI w0 b6 b8 b9 be eps W) (hl:W.heap[l]? = some o) (ho:o.isCells=false) (hB:w0.heap.size≤l):LstI w0 b6 b8 b9 be eps (W.putObj l o'):=h.stays (.turn o' hl ho) (h.bw.trans (below_put o' hB))
theorem LstK.stays (h:LstK w0 b8 b9 be N q W) (hs:Stays (fun _=>False) W W') (hb:Below w0.heap.size w0 W'):LstK w0 b8 b9 be N q W':=⟨hs.cell id h.r8,h.r9.stays hs id,hs.cell id h.re,hb⟩
theorem LstK.past (h:LstK w0 b8 b9 be N q W) (hb:Below W.heap.size W W'):LstK w0 b8 b9 be N q W':=h.stays (.ofBelow hb) (bLt h.bw hb)
theorem LstK.turn {l:Nat} {o:Obj} (o':Obj) (h:LstK w0 b8 b9 be N q W) (hl:W.heap[l]? = some o) (ho:o.isCells=false) (hB:w0.heap.size≤l):LstK w0 b8 b9 be N q (W.putObj l o'):=h.stays (.turn o' hl ho) (h.bw.trans (below_put o' hB))
end
def RetLst (w:World) (N:Nat) (q:Rat) (e:Ending) (w':World):Prop :=
 ∃ a n c a2 n2 c2,e = .returned (.tuple #[.int .i64 (N:Int),.agg #[.bool (neg q.num),.slice a n c,.slice a2 n2 c2],.int .i64 0])∧NatAt w' a n c (digs q.num.natAbs)∧NatAt w' a2 n2 c2 (digs q.den)∧Below w.heap.size w w'
theorem least_any (a:Option Addr) (l c:Nat) (zs:List Int) (k N:Nat) (eps:Rat) (a1:Option Addr) (n1 c1:Nat) (a2:Option Addr) (n2 c2:Nat) (w:World) (g:IntsAt w a l c zs) (d1:NatAt w a1 n1 c1 (digs eps.num.natAbs)) (d2:NatAt w a2 n2 c2 (digs eps.den)) (hok:okT zs (k:Int)) (hk1:1≤k) (hk:k≤2) (hN:N≤3)
 (h0:0<eps) (h1:eps<1) (he:rlen eps≤1048576) (hlow:∀ i,i<N→eps<failR zs k i) (hup:failR zs k N≤eps) (hF:∀ i,i≤N→rlen (failR zs k i)≤1048576) :
 Calls Tryz.prog 66 #[.slice a l c,.int .i64 (k:Int),.agg #[.bool (neg eps.num),.slice a1 n1 c1,.slice a2 n2 c2],.int .i64 4096] w (RetLst w N (failR zs k N)):=by
 have HREF:=hiD (fun (w:World) (g:IntsAt w a l c zs)=>cur_ref_ok a l c zs (k:Int) 4096 w g (by omega) (by omega) (by omega) (by omega) hok);have hn1:n1≤1048576:=by have:=d1.len;unfold rlen at he;omega
 have hn2:n2≤1048576:=by have:=d2.len;unfold rlen at he;omega
 obtain ⟨O,hO0⟩:∃ O:Rat,(1:Rat)=O:=⟨_,rfl⟩;have HPR:=hiD (fun w:World=>hO0 ▸ pair_ok (x:=1) (y:=1) (q:=1) (by decide) (by decide) w (by decide) (by decide));have hs1:(eps-O).num.sign = -1:=by rw [← hO0];exact sign_lt h1
 have HS1:=hiD hs1;have HS2:=hiD (sign_pos h0);have HLE:=hiD he;have HLO:=hiD (show rlen O≤1048576 by rw [← hO0];decide);have HPT:=hiD (fun (bE bT bK:Nat)=>points1_hands bE bT bK a l c zs k (N+1) 4097 hok hk1 hk (by omega) (by omega));have HLOW:=hiD hlow;have HUP:=hiD hup;have HFL:=hiD hF;have g0:=g;have hl1:1≤l:=by have:=hok.2.2.1;have:=g.len;omega
 clear hok hs1 he hlow hup h0 h1 hO0 hF;refine (callsIn_wide (n:=5)).1 ?_;refine callsIn_of_wp_marks Tryz.func66 rfl trivial ?_ rfl;simp only [Tryz.ntmps66,List.size_toArray,List.length_cons,List.length_nil,Nat.reduceAdd,Nat.reduceSub,Array.replicate_succ,Array.replicate_zero,List.push_toArray,List.append_toArray,List.nil_append,List.cons_append];refine wpIn_wide.2 ?_;have hB:=bRf w.heap.size w
 go_wp2_with fail
 obtain ⟨w1,hW,hz0,hb,q,f,qe0,qe1,qe2⟩:=bx3 w (w.heap.size) (by omega) (.bool (neg eps.num)) (.slice a1 n1 c1) (.slice a2 n2 c2) 28;rw [hW];clear hW;have g:=g.past hb;have d1:=d1.past hb;have d2:=d2.past hb;have hB:=bLt hB hb;clear hb;have le:w.heap.size<w1.heap.size:=by omega
 clear q f;obtain ⟨w2,hW,hz1,hb,q,f,qn0⟩:=bx1 w1 (w.heap.size+1) (by omega) (.int .i64 0) 3;rw [hW];clear hW;have g:=g.past hb;have d1:=d1.past hb;have d2:=d2.past hb;obtain ⟨qe0,qe1,qe2,le⟩:=bq3 hb le qe0 qe1 qe2;have hB:=bLt hB hb;clear hb;have ln:w.heap.size+1<w2.heap.size:=by omega
 have xn:BoxAt w2 (w.heap.size+1) 1:=BoxAt.of q f rfl (by simp [notU_bool,notU_slice,notU_i64]);clear q f;obtain ⟨w3,hW,hz2,hb,q,f,qr0,qr1,qr2⟩:=bx3 w2 (w.heap.size+1+1) (by omega) (.bool false) (.slice none 0 0) (.slice none 0 0) 28;rw [hW];clear hW;have g:=g.past hb;have d1:=d1.past hb;have d2:=d2.past hb;obtain ⟨qe0,qe1,qe2,le⟩:=bq3 hb le qe0 qe1 qe2;have qn0:=bq hb ln qn0;have xn:=xn.past hb ln;have ln:=bl hb ln;have hB:=bLt hB hb;clear hb;have lr:w.heap.size+1+1<w3.heap.size:=by omega
 have xr:BoxAt w3 (w.heap.size+1+1) 3:=BoxAt.of q f rfl (by simp [notU_bool,notU_slice,notU_i64]);clear q f;obtain ⟨w4,hW,hz3,hb,q,f,qx0⟩:=bx1 w3 (w.heap.size+1+1+1) (by omega) (.int .i64 0) 34;rw [hW];clear hW;have g:=g.past hb;have d1:=d1.past hb;have d2:=d2.past hb;obtain ⟨qe0,qe1,qe2,le⟩:=bq3 hb le qe0 qe1 qe2;have qn0:=bq hb ln qn0;have xn:=xn.past hb ln;have ln:=bl hb ln;have xr:=xr.past hb lr;obtain ⟨qr0,qr1,qr2,lr⟩:=bq3 hb lr qr0 qr1 qr2;have hB:=bLt hB hb;clear hb;have lx:w.heap.size+1+1+1<w4.heap.size:=by omega
 have xx:BoxAt w4 (w.heap.size+1+1+1) 1:=BoxAt.of q f rfl (by simp [notU_bool,notU_slice,notU_i64]);clear q f;clear hz0;clear hz1;clear hz2;clear hz3
 with_reducible refine (HREF.out _ g).mono ?_
 rintro e w5 ⟨rfl,hb⟩;have g:=g.past hb;have d1:=d1.past hb;have d2:=d2.past hb;obtain ⟨qe0,qe1,qe2,le⟩:=bq3 hb le qe0 qe1 qe2;have qn0:=bq hb ln qn0;have xn:=xn.past hb ln;have ln:=bl hb ln;have xr:=xr.past hb lr;obtain ⟨qr0,qr1,qr2,lr⟩:=bq3 hb lr qr0 qr1 qr2;have qx0:=bq hb lx qx0;have xx:=xx.past hb lx;have lx:=bl hb lx;have hB:=bLt hB hb;clear hb
 go_wp2_with fail
 with_reducible refine (check_rat d1 d2 (by omega) (by omega)).mono ?_
 rintro e w6 ⟨rfl,hb⟩;have g:=g.past hb;have d1:=d1.past hb;have d2:=d2.past hb;obtain ⟨qe0,qe1,qe2,le⟩:=bq3 hb le qe0 qe1 qe2;have qn0:=bq hb ln qn0;have xn:=xn.past hb ln;have ln:=bl hb ln;have xr:=xr.past hb lr;obtain ⟨qr0,qr1,qr2,lr⟩:=bq3 hb lr qr0 qr1 qr2;have qx0:=bq hb lx qx0;have xx:=xx.past hb lx;have lx:=bl hb lx;have hB:=bLt hB hb;clear hb
 go_wp2_with fail
 with_reducible refine (HPR.out _).mono ?_
 rintro e w7 ⟨ahOU,nhOU,chOU,ahOD,nhOD,chOD,rfl,hOU,hOD,hb⟩;have g:=g.past hb;have d1:=d1.past hb;have d2:=d2.past hb;obtain ⟨qe0,qe1,qe2,le⟩:=bq3 hb le qe0 qe1 qe2;have qn0:=bq hb ln qn0;have xn:=xn.past hb ln;have ln:=bl hb ln;have xr:=xr.past hb lr;obtain ⟨qr0,qr1,qr2,lr⟩:=bq3 hb lr qr0 qr1 qr2;have qx0:=bq hb lx qx0;have xx:=xx.past hb lx;have lx:=bl hb lx;have hB:=bLt hB hb;clear hb
 go_wp2_with fail
 obtain ⟨w8,hW,hz0,hb,q,f,qo0,qo1,qo2⟩:=bx3 w7 (w7.heap.size) (by omega) (.bool (neg (O).num)) (.slice ahOU nhOU chOU) (.slice ahOD nhOD chOD) 28;rw [hW];clear hW;have g:=g.past hb;have d1:=d1.past hb;have d2:=d2.past hb;have hOU:=hOU.past hb;have hOD:=hOD.past hb;obtain ⟨qe0,qe1,qe2,le⟩:=bq3 hb le qe0 qe1 qe2;have qn0:=bq hb ln qn0;have xn:=xn.past hb ln;have ln:=bl hb ln;have xr:=xr.past hb lr;obtain ⟨qr0,qr1,qr2,lr⟩:=bq3 hb lr qr0 qr1 qr2;have qx0:=bq hb lx qx0;have xx:=xx.past hb lx;have lx:=bl hb lx;have hB:=bLt hB hb;clear hb;have lo:w7.heap.size<w8.heap.size:=by omega
 clear q f;clear hz0
 with_reducible refine (cmp_rat d1 d2 hOU.toNatAt hOD.toNatAt HLE.out HLO.out).mono ?_
 rintro e w9 ⟨rfl,hb⟩;have g:=g.past hb;have d1:=d1.past hb;have d2:=d2.past hb;obtain ⟨qe0,qe1,qe2,le⟩:=bq3 hb le qe0 qe1 qe2;have qn0:=bq hb ln qn0;have xn:=xn.past hb ln;have ln:=bl hb ln;have xr:=xr.past hb lr;obtain ⟨qr0,qr1,qr2,lr⟩:=bq3 hb lr qr0 qr1 qr2;have qx0:=bq hb lx qx0;have xx:=xx.past hb lx;have lx:=bl hb lx;obtain ⟨qo0,qo1,qo2,lo⟩:=bq3 hb lo qo0 qo1 qo2;have hB:=bLt hB hb;clear hb;rw [HS1.out]
 go_wp2_with fail
 with_reducible refine (sign_c d1 (by omega)).mono ?_
 rintro e w10 ⟨rfl,hb⟩;have g:=g.past hb;have d1:=d1.past hb;have d2:=d2.past hb;obtain ⟨qe0,qe1,qe2,le⟩:=bq3 hb le qe0 qe1 qe2;have qn0:=bq hb ln qn0;have xn:=xn.past hb ln;have ln:=bl hb ln;have xr:=xr.past hb lr;obtain ⟨qr0,qr1,qr2,lr⟩:=bq3 hb lr qr0 qr1 qr2;have qx0:=bq hb lx qx0;have xx:=xx.past hb lx;have lx:=bl hb lx;obtain ⟨qo0,qo1,qo2,lo⟩:=bq3 hb lo qo0 qo1 qo2;have hB:=bLt hB hb;clear hb;rw [HS2.out]
 go_wp2_with fail
 refine (points_any a l c k 4097 w10).mono ?_;rintro e wP ⟨rfl,hWP⟩;obtain ⟨v4,hW4,y4,hb4,r4,f4⟩:=box1g w10 w10.heap.size rfl #[.slice a l c] 22;rw [hW4] at hWP;obtain ⟨v5,hW5,y5,hb5,r5,f5⟩:=box1g v4 (w10.heap.size+1) (by omega) #[.int .i64 (k:Int)] 3;rw [hW5] at hWP;obtain ⟨v6,hW6,y6,hb6,r6,f6⟩:=box1g v5 (w10.heap.size+1+1) (by omega) #[.int .i64 4097] 3;rw [hW6] at hWP;subst hWP;have qT:=bq hb6 (by omega) (bq hb5 (by omega) (r4 0));have qK:=bq hb6 (by omega) (r5 0);have qE:=r6 0;simp only [lgA,lgZ] at qT qK qE;have hB46:=bLt (bLt hb4 hb5) hb6;have hB6:=bLt hB hB46;have hz6:=hB46.size;have hP0:FixCu (w10.heap.size+1+1) w10.heap.size (w10.heap.size+1) a l c zs k 4097 v6:=⟨qE,qT,qK,g.past hB46⟩;have hI0:LstI w (w.heap.size) (w.heap.size+1) (w.heap.size+1+1) (w.heap.size+1+1+1) eps v6:=⟨⟨_,_,_,_,_,_,bq hB46 le qe0,bq hB46 le qe1,bq hB46 le qe2,d1.past hB46,d2.past hB46⟩,xn.past hB46 ln,xr.past hB46 lr,xx.past hB46 lx,hB6⟩;have hlow6:w.heap.size+1+1+1<v6.heap.size:=nLt lx hz6;obtain ⟨b6,hb6e⟩:∃ b6,(w.heap.size)=b6:=⟨_,rfl⟩;obtain ⟨b8,hb8e⟩:∃ b8,(w.heap.size+1)=b8:=⟨_,rfl⟩;obtain ⟨b9,hb9e⟩:∃ b9,(w.heap.size+1+1)=b9:=⟨_,rfl⟩;obtain ⟨be,hbee⟩:∃ be,(w.heap.size+1+1+1)=be:=⟨_,rfl⟩;have hlt:w.heap.size≤b8∧b8<b9∧b9<be∧be<v6.heap.size:=by omega
 rw [hbee,hb9e,hb8e,hb6e] at hI0 ⊢;obtain ⟨bT,hbT⟩:∃ bT,w10.heap.size=bT:=⟨_,rfl⟩;rw [hbT] at hP0 ⊢;have hneq:b8≠b9∧b8≠be∧b9≠be:=by omega
 have hsz:w.heap.size≤v6.heap.size:=by omega
 have hlo:w.heap.size≤b8∧w.heap.size≤b9∧w.heap.size≤be:=by omega
 have hcu:b8≠bT∧b8≠bT+1∧b8≠bT+1+1∧b9≠bT∧b9≠bT+1∧b9≠bT+1+1∧be≠bT∧be≠bT+1∧be≠bT+1+1:=by omega
 have hag:∀ x,a=some x→x.block≠b8∧x.block≠b9∧x.block≠be:=fun x e=>by
  rcases g0.cell with h | ⟨b,o,e2,h,_⟩
  · omega
  rw [e] at e2;cases e2;have h2:b<w.heap.size:=h;exact ⟨fun e=>by have e3:b=b8:=e;omega,fun e=>by have e3:b=b9:=e;omega,fun e=>by have e3:b=be:=e;omega⟩
 have HNE:=hiD hneq;have HLO2:=hiD hlo;have HCU:=hiD hcu;have HAG:=hiD hag;have HSZ:=hiD hsz;clear hbee hb9e hb8e hb6e hbT hneq hsz hlo hcu hag hlt hlow6 hW4 hW5 hW6 y4 y5 y6 r4 r5 r6 f4 f5 f6 hb4 hb5 hb6 hB46 hz6 hB6 qT qK qE g d1 d2 qe0 qe1 qe2 le qn0 ln xn qr0 qr1 qr2 lr xr qx0 lx xx hB
 go_wp2_with fail
 refine (wpIn_wide (n:=5)).1 ?_;generalize hA0:(Act.mk _ _:Act)=A0
 refine wpIn_roundsE (by decide) (N:=N+1) (Ok:=OkPt zs k) (Fix:=FixCu (bT+1+1) bT (bT+1) a l c zs k 4097) (by rw [← hA0];rfl) (fun _ _=>rfl) (fun i x W h=>by obtain ⟨y,rfl,_⟩:=h;rfl) (HPT.out _ _ _) (fun W W' h hb=>h.past hb) (fun W l o o' h hl ho hB=>h.turn o' hl ho) hP0
  (fun i W=>i≤N∧LstI w b6 b8 b9 be eps W)
  (fun i x b W=>∃ p17,b={ tmps:=(((A0.tmps.setIfInBounds 56 (x.getD 0 undef)).setIfInBounds 57 (x.getD 1 undef)).setIfInBounds 16 (.int .i64 (i:Int))).setIfInBounds 17 (.pointer (some ⟨p17,0,none⟩)),defers:=[] }∧RatC W p17 (failR zs k i)∧i≤N∧(p17≠b8∧p17≠b9∧p17≠be)∧LstI w b6 b8 b9 be eps W)
  (fun i W W' h hb=>⟨h.1,h.2.past hb⟩)
  (fun i W l o o' h hl ho hB=>⟨h.1,h.2.turn o' hl ho (nTr HSZ.out hB)⟩)
  (fun i x b W l o o' h hl ho hB => by
    obtain ⟨p17,e,h1,h2,h3,h4⟩:=h;exact ⟨p17,e,h1.stays (Stays.turn (X:=fun _=>False) o' hl ho) id,h2,h3,h4.turn o' hl ho (nTr HSZ.out hB)⟩)
  ⟨Nat.zero_le _,hI0⟩ (fun W h=>by have:=h.1;omega)
  (LstK w b8 b9 be N (failR zs k N)) (fun W W' h hb=>h.past hb) (fun W l o o' h hl ho hB=>h.turn o' hl ho (nTr HSZ.out hB)) ?_ ?_ ?_
 · rintro lr i x W hi ⟨hiN,hI⟩ hfix ⟨y,rfl,a3,n3,c3,a4,n4,c4,rfl,d3,d4⟩;refine assign_hide (fun KK hKK => ?_)
   have l8:b8<W.heap.size:=by
    obtain ⟨v,q,_⟩:=hI.x8.c 0 (by decide);exact World.block_lt_of_cell? W ⟨b8,0,none⟩ q
   have l9:b9<W.heap.size:=by
    obtain ⟨v,q,_⟩:=hI.x9.c 0 (by decide);exact World.block_lt_of_cell? W ⟨b9,0,none⟩ q
   have le':be<W.heap.size:=by
    obtain ⟨v,q,_⟩:=hI.xe.c 0 (by decide);exact World.block_lt_of_cell? W ⟨be,0,none⟩ q
   obtain ⟨q,hq⟩:∃ q,failR zs k i=q:=⟨_,rfl⟩;simp only [hq] at d3 d4 ⊢;have HQ:=hiD hq;have HII:=hiD hI;have HFX:=hiD hfix;have HA0:=hiD hA0;rw [← hA0];clear hq hI hfix hA0 hP0 hI0;simp only [List.zip_toArray,List.zip_cons_cons,List.zip_nil_right,List.foldl_toArray',List.foldl_cons,List.foldl_nil,lsA,lsS,lsZ]
   gi_wp2
   obtain ⟨u1,hW1,y1,hb1,r1,f1⟩:=box1g W W.heap.size rfl #[.bool (neg q.num),.slice a3 n3 c3,.slice a4 n4 c4] 28;rw [hW1];refine hKK.out _ _ ⟨⟨hb1.size,fun k o hk _=>(hb1.block k (Array.getElem?_eq_some_iff.1 hk).1).trans hk⟩,HFX.out.past hb1,W.heap.size,?_,?_,hiN,⟨by omega,by omega,by omega⟩,HII.out.past hb1⟩
   · rw [← HA0.out];try simp only [HQ.out]
     simp only [lsA,lsS,lsZ,Array.getD,List.size_toArray,List.length_cons,List.length_nil];rfl
   rw [HQ.out];exact ⟨_,_,_,_,_,_,r1 0,r1 1,r1 2,d3.past hb1,d4.past hb1⟩
 · rintro lr i x b W hi hfix ⟨p17,rfl,hR17,hiN,n17,hI⟩;refine body_hide (fun QQ hQQ => ?_);obtain ⟨q,hq⟩:∃ q,failR zs k i=q:=⟨_,rfl⟩;rw [hq] at hR17;have lq:rlen q≤1048576:=by rw [← hq];exact HFL.out i hiN
   obtain ⟨q1,q2,q3,q4,q5,q6,z0,z1,z2,D1,D2⟩:=hR17;obtain ⟨s1,s2,s3,s4,s5,s6,w0,w1,w2,E1,E2⟩:=hI.q6;have HQ:=hiD hq;have HII:=hiD hI;have HFX:=hiD hfix;have hcmp:=cmp_rat D1 D2 E1 E2 lq HLE.out;obtain ⟨S,hS⟩:∃ S,(q-eps).num.sign=S:=⟨_,rfl⟩;rw [hS] at hcmp;have HCM:=hiD hcmp;have hSg:(i<N→S=1)∧(i=N→S≤0):=⟨fun h=>by rw [← hS,← hq];exact sign_gt (HLOW.out i h),fun h=>by rw [← hS,← hq,h];exact sign_le HUP.out⟩;have HSG:=hiD hSg;generalize x.getD 0 undef=y56;generalize x.getD 1 undef=y57;rw [← hA0];clear hq hI hfix hA0 hP0 hI0 hcmp lq hS hSg;simp only [lsA,lsS,lsZ]
   gi_wp2_with fail
   refine ⟨trivial,?_⟩;refine (CallsIn.inRound lr (callsIn_wide.2 HCM.out)).mono ?_;rintro e W1 ⟨rfl,hb1⟩;have HI1:=hiD (HII.out.past hb1);have HF1:=hiD (HFX.out.past hb1);have HK1:=hiD (show KeepsOthers W W1 from ⟨hb1.size,fun k o hk _=>(hb1.block k (Array.getElem?_eq_some_iff.1 hk).1).trans hk⟩);have HR17:=hiD (RatC.stays (X:=fun _=>False) (b:=p17) ⟨q1,q2,q3,q4,q5,q6,z0,z1,z2,D1,D2⟩ (.ofBelow hb1) id);clear z0 z1 z2 w0 w1 w2 D1 D2 E1 E2 hb1
   by_cases hlt:i<N
   · have t1:decide (S≤0)=false:=by rw [HSG.out.1 hlt];decide
     gi_wp2
     exact hQQ.out _ _ _ ⟨HK1.out,HF1.out,.inl ⟨rfl,Nat.succ_le_of_lt hlt,HI1.out⟩⟩
   obtain rfl:i=N:=by omega
   have t1:decide (S≤0)=true:=decide_eq_true (HSG.out.2 rfl);obtain ⟨q1,q2,q3,q4,q5,q6,z0,z1,z2,D1,D2⟩:=HR17.out;obtain ⟨XL,hXL⟩:∃ XL:Nat→Prop,XL=fun k=>k=b8∨k=b9∨k=be:=⟨_,rfl⟩
   have HXL:=hiD hXL;have x8:=HI1.out.x8;have x9:=HI1.out.x9;have xe:=HI1.out.xe
   have hXl0:∀ k,XL k→k<W1.heap.size:=by
    intro k hk;rw [hXL] at hk;rcases hk with rfl | rfl | rfl
    · obtain ⟨v,q,_⟩:=x8.c 0 (by decide);exact World.block_lt_of_cell? W1 ⟨_,0,none⟩ q
    · obtain ⟨v,q,_⟩:=x9.c 0 (by decide);exact World.block_lt_of_cell? W1 ⟨_,0,none⟩ q
    obtain ⟨v,q,_⟩:=xe.c 0 (by decide);exact World.block_lt_of_cell? W1 ⟨_,0,none⟩ q
   have n17x:¬ XL p17:=by rw [hXL];exact fun h=>h.elim n17.1 (fun h=>h.elim n17.2.1 n17.2.2)
   have m8:∀ k,k=b8→XL k:=fun k e=>by rw [hXL];exact .inl e
   have m9:∀ k,k=b9→XL k:=fun k e=>by rw [hXL];exact .inr (.inl e)
   have me:∀ k,k=be→XL k:=fun k e=>by rw [hXL];exact .inr (.inr e)
   clear hXL
   gi_wp2_with fail
   refine wpIn_region_invA (by kernel_rfl) rfl (by kernel_rfl) (fun A0 V0 dd aa ww=>∃ (y66 y67:Value),aa=puts A0 [(66,y66),(67,y67)]∧Moves XL V0 ww∧(∀ k,k<V0.heap.size→XL k→XL k)∧(∀ k,XL k→k<ww.heap.size)∧((BoxAt ww b8 1∧BoxAt ww b9 3∧BoxAt ww be 1))∧Shut (dd 0=true→y66 = .int .i64 (i:Int))∧Shut (dd 1=true→y67 = .agg #[.bool (neg q.num),.slice q1 q2 q3,.slice q4 q5 q6])∧Shut (dd 2=true→ww.cell? ⟨b8,0,none⟩=some (.int .i64 (i:Int)))∧Shut (dd 3=true→RatC ww b9 q)∧Shut (dd 4=true→ww.cell? ⟨be,0,none⟩=some (.int .i64 0))) ?_ ?_ ?_
   · exact ⟨_,_,puts_self _ [66,67],Moves.drew _ _,fun _ _ h=>h,hXl0,⟨x8.drew,x9.drew,xe.drew⟩,nf,nf,nf,nf,nf⟩
   · refine StepsI.cons ?_ (StepsI.cons ?_ (StepsI.cons ?_ (StepsI.cons ?_ (StepsI.cons ?_ (StepsI.nil)))))
     all_goals (intro dd aa ww K hc hun hn hI hK;obtain ⟨y66,y67,ea,hM,hXX,hXl,BX,f0,f1,f2,f3,f4⟩:=hI;subst ea;simp only [pu])
     · go_simp;exact hK.out _ _ ⟨_,_,by simp only [pu]<;>rfl,hM,hXX,hXl,BX,fun _=>rfl,uo f1,uo f2,uo f3,uo f4⟩
     · have e0:=hM.stays.cell n17x z0;have e1:=hM.stays.cell n17x z1;have e2:=hM.stays.cell n17x z2;go_simp;exact hK.out _ _ ⟨_,_,by simp only [pu]<;>rfl,hM,hXX,hXl,BX,uo f0,fun _=>rfl,uo f2,uo f3,uo f4⟩
     · obtain rfl:=f0.out (hc.see hn);obtain ⟨wF,hWF,p0,xF,hst⟩:=box_set1 BX.1 (.int .i64 (i:Int)) (notU_i64 _);have hst9:Moves XL ww wF:=hst.mono (fun k _ e=>m8 k e);have HWF:=hiD hWF;clear hWF;obtain ⟨g0,h0,_⟩:=BX.1.c 0 (by decide);have i0:=BX.1.f 0 (by decide);go_simp;rw [HWF.out];exact hK.out _ _ ⟨_,_,by simp only [pu]<;>rfl,hM.trans hst9,hXX,(fun k hk=>nLt (hXl k hk) hst.size),⟨xF,hst.stays.box (fun e=>HNE.out.1 e.symm) BX.2.1,hst.stays.box (fun e=>HNE.out.2.1 e.symm) BX.2.2⟩,fun h=>rfl,uo f1,fun _=>p0,fun h=>(f3.out (upd_of rfl h)).stays hst.stays (fun e=>HNE.out.1 e.symm),fun h=>hst.stays.cell (fun e=>HNE.out.2.1 e.symm) (f4.out (upd_of rfl h))⟩
     · obtain rfl:=f1.out (hc.see hn);obtain ⟨wF,hWF,p0,p1,p2,xF,hst⟩:=box_set3 BX.2.1 (.bool (neg q.num)) (.slice q1 q2 q3) (.slice q4 q5 q6) (notU_bool _) (notU_slice _ _ _) (notU_slice _ _ _);have hst9:Moves XL ww wF:=hst.mono (fun k _ e=>m9 k e);have HWF:=hiD hWF;clear hWF;obtain ⟨g0,h0,_⟩:=BX.2.1.c 0 (by decide);have i0:=BX.2.1.f 0 (by decide);obtain ⟨g1,h1,_⟩:=BX.2.1.c 1 (by decide);have i1:=BX.2.1.f 1 (by decide);obtain ⟨g2,h2,_⟩:=BX.2.1.c 2 (by decide);have i2:=BX.2.1.f 2 (by decide);go_simp;rw [HWF.out];exact hK.out _ _ ⟨_,_,by simp only [pu]<;>rfl,hM.trans hst9,hXX,(fun k hk=>nLt (hXl k hk) hst.size),⟨hst.stays.box HNE.out.1 BX.1,xF,hst.stays.box (fun e=>HNE.out.2.2 e.symm) BX.2.2⟩,uo f0,fun h=>rfl,fun h=>hst.stays.cell HNE.out.1 (f2.out (upd_of rfl h)),fun _=>⟨q1,q2,q3,q4,q5,q6,p0,p1,p2,(D1.stays hM.stays).stays hst.stays,(D2.stays hM.stays).stays hst.stays⟩,fun h=>hst.stays.cell (fun e=>HNE.out.2.2 e.symm) (f4.out (upd_of rfl h))⟩
     obtain ⟨wF,hWF,p0,xF,hst⟩:=box_set1 BX.2.2 (.int .i64 0) (notU_i64 _);have hst9:Moves XL ww wF:=hst.mono (fun k _ e=>me k e);have HWF:=hiD hWF;clear hWF;obtain ⟨g0,h0,_⟩:=BX.2.2.c 0 (by decide);have i0:=BX.2.2.f 0 (by decide);go_simp;rw [HWF.out];exact hK.out _ _ ⟨_,_,by simp only [pu]<;>rfl,hM.trans hst9,hXX,(fun k hk=>nLt (hXl k hk) hst.size),⟨hst.stays.box HNE.out.2.1 BX.1,hst.stays.box HNE.out.2.2 BX.2.1,xF⟩,uo f0,uo f1,fun h=>hst.stays.cell HNE.out.2.1 (f2.out (upd_of rfl h)),fun h=>(f3.out (upd_of rfl h)).stays hst.stays HNE.out.2.2,fun _=>p0⟩
   intro dd aa U2 hd hI;obtain ⟨y66,y67,ea,hM,hXX,hXl,BX,f0,f1,f2,f3,f4⟩:=hI;obtain rfl:=f0.out (hd 0 (by simp));obtain rfl:=f1.out (hd 1 (by simp));subst ea;simp only [pu];have r8:=f2.out (hd 2 (by simp));have r9:=f3.out (hd 3 (by simp));have re:=f4.out (hd 4 (by simp))
   have hbw:Below w.heap.size w U2:=HI1.out.bw.trans (hM.below HI1.out.bw.size (fun k hk=>by
    rw [HXL.out] at hk;have h:=HLO2.out;rcases hk with rfl | rfl | rfl
    · exact h.1
    · exact h.2.1
    exact h.2.2))
   have no:∀ k,k≠b8→k≠b9→k≠be→¬ XL k:=fun k h1 h2 h3=>by rw [HXL.out];exact fun h=>h.elim h1 (fun h=>h.elim h2 h3)
   have hc:=HCU.out;have hFF:=HF1.out.stays hM.stays (no _ (Ne.symm hc.2.2.1) (Ne.symm hc.2.2.2.2.2.1) (Ne.symm hc.2.2.2.2.2.2.2.2)) (no _ (Ne.symm hc.1) (Ne.symm hc.2.2.2.1) (Ne.symm hc.2.2.2.2.2.2.1)) (no _ (Ne.symm hc.2.1) (Ne.symm hc.2.2.2.2.1) (Ne.symm hc.2.2.2.2.2.2.2.1)) (fun x e=>no _ (HAG.out x e).1 (HAG.out x e).2.1 (HAG.out x e).2.2);have HKK:=hiD (show LstK w b8 b9 be i (failR zs k i) U2 from ⟨r8,by rw [HQ.out];exact r9,re,hbw⟩);have HFF:=hiD hFF;have HKO:=hiD (HK1.out.trans hM.others);clear r8 r9 re hbw no hc hFF hM hXX hXl hXl0 BX f0 f1 f2 f3 f4 hd x8 x9 xe n17x m8 m9 me z0 z1 z2 D1 D2
   gi_wp2
   exact hQQ.out _ _ _ ⟨HKO.out,HFF.out,.inr ⟨rfl,HKK.out⟩⟩
 rintro D W hD hK hfix hdef;rw [← hA0];clear hA0 hP0 hI0 hfix;obtain ⟨q,hq⟩:∃ q,failR zs k N=q:=⟨_,rfl⟩;rw [hq] at hK;have HQ:=hiD hq;clear hq;have hKT:=hK.turn (.deferred none) hdef rfl (nTr HSZ.out hD);have r8:=hKT.r8;obtain ⟨q1,q2,q3,q4,q5,q6,z0,z1,z2,D1,D2⟩:=hKT.r9;have re:=hKT.re;have hbw:=hKT.bw;clear hK hKT
 gi_wp2
 try go_wp2
 refine ⟨by simp,.inl ⟨_,_,rfl,run_takeDeferred hdef,?_⟩⟩;refine ⟨.tuple #[.int .i64 (N:Int),.agg #[.bool (neg q.num),.slice q1 q2 q3,.slice q4 q5 q6],.int .i64 0],?_,q1,q2,q3,q4,q5,q6,?_⟩
 · simp [results,Tryz.f66,go_sem,r8,z0,z1,z2,re]
 rw [HQ.out];exact ⟨rfl,D1,D2,hbw⟩
end
section
open Go.RowKit
def RetPlan (w:World) (k:Nat) (zs:List Int) (eps:Rat) (N:Nat) (F:Rat) (e:Ending) (w':World):Prop :=
 ∃ aT nT cT a1 n1 c1 a2 n2 c2 a3 n3 c3 a4 n4 c4,e = .returned (.tuple #[.agg #[.int .i64 (k:Int),.slice aT nT cT,.bool (neg eps.num),.slice a1 n1 c1,.slice a2 n2 c2,.int .i64 (N:Int),.bool (neg F.num),.slice a3 n3 c3,.slice a4 n4 c4],.int .i64 0])∧IntsAt w' aT nT cT zs ∧
  NatAt w' a1 n1 c1 (digs eps.num.natAbs)∧NatAt w' a2 n2 c2 (digs eps.den)∧NatAt w' a3 n3 c3 (digs F.num.natAbs)∧NatAt w' a4 n4 c4 (digs F.den)∧Below w.heap.size w w'
theorem make27_any (a:Option Addr) (l c:Nat) (zs:List Int) (k N:Nat) (eps F:Rat) (a1:Option Addr) (n1 c1:Nat) (a2:Option Addr) (n2 c2:Nat) (w:World) (g:IntsAt w a l c zs) (d1:NatAt w a1 n1 c1 (digs eps.num.natAbs)) (d2:NatAt w a2 n2 c2 (digs eps.den)) (hok:okT zs (k:Int)) (hk1:1≤k) (hk:k≤2) (hN:N≤3)
 (h0:0<eps) (h1:eps<1) (he:rlen eps≤1048576) (hlow:∀ i,i<N→eps<failR zs k i) (hup:failR zs k N≤eps) (hF:∀ i,i≤N→rlen (failR zs k i)≤1048576) (eF:failR zs k N=F) :
 Calls Tryz.prog 24 #[.slice a l c,.int .i64 (k:Int),.agg #[.bool (neg eps.num),.slice a1 n1 c1,.slice a2 n2 c2]] w (RetPlan w k zs eps N F):=by
 have HLS:=hiD (fun (w:World) (g:IntsAt w a l c zs) (d1:NatAt w a1 n1 c1 (digs eps.num.natAbs)) (d2:NatAt w a2 n2 c2 (digs eps.den))=>eF ▸ least_any a l c zs k N eps a1 n1 c1 a2 n2 c2 w g d1 d2 hok hk1 hk hN h0 h1 he hlow hup hF);have hl:l≤1000:=by have:=hok.2.2.2.1;have:=g.len;omega
 have hn1:n1≤1048576:=by have:=d1.len;unfold rlen at he;omega
 have hn2:n2≤1048576:=by have:=d2.len;unfold rlen at he;omega
 have g0:=g;have d10:=d1;have d20:=d2;clear hok h0 h1 he hlow hup hF eF
 go_enter Tryz.func24,Tryz.ntmps24
 have hB:=bRf w.heap.size w
 go_wp2_with fail
 obtain ⟨w1,hW,hz0,hb,q,f,qe0,qe1,qe2⟩:=bx3 w (w.heap.size) (by omega) (.bool (neg eps.num)) (.slice a1 n1 c1) (.slice a2 n2 c2) 28;rw [hW];clear hW;have g:=g.past hb;have d1:=d1.past hb;have d2:=d2.past hb;have hB:=bLt hB hb;clear hb;have le:w.heap.size<w1.heap.size:=by omega
 clear q f;obtain ⟨w2,hW,hz1,hb,q,f,qp0,qp1,qp2,qp3,qp4,qp5,qp6,qp7,qp8⟩:=bx9 w1 (w.heap.size+1) (by omega) (.int .i64 0) (.slice none 0 0) (.bool false) (.slice none 0 0) (.slice none 0 0) (.int .i64 0) (.bool false) (.slice none 0 0) (.slice none 0 0) 30;rw [hW];clear hW;have g:=g.past hb;have d1:=d1.past hb;have d2:=d2.past hb;obtain ⟨qe0,qe1,qe2,le⟩:=bq3 hb le qe0 qe1 qe2;have hB:=bLt hB hb;clear hb;have lp:w.heap.size+1<w2.heap.size:=by omega
 have xp:BoxAt w2 (w.heap.size+1) 9:=BoxAt.of q f rfl (by simp [notU_bool,notU_slice,notU_i64]);clear q f;clear hz0;clear hz1
 with_reducible refine (HLS.out _ g d1 d2).mono ?_
 rintro e w3 ⟨ahFU,nhFU,chFU,ahFD,nhFD,chFD,rfl,hFU,hFD,hb⟩;have g:=g.past hb;have d1:=d1.past hb;have d2:=d2.past hb;obtain ⟨qe0,qe1,qe2,le⟩:=bq3 hb le qe0 qe1 qe2;have xp:=xp.past hb lp;obtain ⟨qp0,qp1,qp2,qp3,qp4,qp5,qp6,qp7,qp8,lp⟩:=bq9 hb lp qp0 qp1 qp2 qp3 qp4 qp5 qp6 qp7 qp8;have hB:=bLt hB hb;clear hb
 go_wp2_with fail
 obtain ⟨w4,hW,hz0,hb,q,f,qf0,qf1,qf2⟩:=bx3 w3 (w3.heap.size) (by omega) (.bool (neg (F).num)) (.slice ahFU nhFU chFU) (.slice ahFD nhFD chFD) 28;rw [hW];clear hW;have g:=g.past hb;have d1:=d1.past hb;have d2:=d2.past hb;have hFU:=hFU.past hb;have hFD:=hFD.past hb;obtain ⟨qe0,qe1,qe2,le⟩:=bq3 hb le qe0 qe1 qe2;have xp:=xp.past hb lp;obtain ⟨qp0,qp1,qp2,qp3,qp4,qp5,qp6,qp7,qp8,lp⟩:=bq9 hb lp qp0 qp1 qp2 qp3 qp4 qp5 qp6 qp7 qp8;have hB:=bLt hB hb;clear hb;have lf:w3.heap.size<w4.heap.size:=by omega
 clear q f;clear hz0
 go_wp2_with fail
 have szW:=hB.size;refine wp_region_inv (by kernel_rfl) rfl (by kernel_rfl) (fun A0 V0 dd aa ww=>∃ (y23 y24 y25 y26 y27 y28 y29 y30 y7:Value),aa=puts A0 [(23,y23),(24,y24),(25,y25),(26,y26),(27,y27),(28,y28),(29,y29),(30,y30),(7,y7)]∧Below (w).heap.size (w) ww∧V0.heap.size≤ww.heap.size∧NatAt ww ahFU nhFU chFU (digs F.num.natAbs)∧NatAt ww ahFD nhFD chFD (digs F.den)∧Cells ww (w.heap.size) [.bool (neg eps.num),.slice a1 n1 c1,.slice a2 n2 c2]∧Cells ww (w3.heap.size) [.bool (neg (F).num),.slice ahFU nhFU chFU,.slice ahFD nhFD chFD]∧BoxAt ww (w.heap.size+1) 9∧Shut (dd 8=false→Cells ww (w.heap.size+1) [.int .i64 0,.slice none 0 0,.bool false,.slice none 0 0,.slice none 0 0,.int .i64 0,.bool false,.slice none 0 0,.slice none 0 0])∧Shut (dd 0=true→y23 = .int .i64 (k:Int))∧Shut (dd 1=true→y24 = .slice a l c)∧Shut (dd 2=true→ClnV (w.heap.size+1) zs y25 ww)∧Shut (dd 3=true→y26 = .agg #[.bool (neg eps.num),.slice a1 n1 c1,.slice a2 n2 c2])∧Shut (dd 4=true→RatV V0.heap.size (eps) y27 ww)∧Shut (dd 5=true→y28 = .int .i64 (N:Int))∧Shut (dd 6=true→y29 = .agg #[.bool (neg (F).num),.slice ahFU nhFU chFU,.slice ahFD nhFD chFD])∧Shut (dd 7=true→y30=bld [y23,y25,y27,y28,y29])∧Shut (dd 8=true→CellsV (w.heap.size+1) y30 ww)∧Shut (dd 9=true→y7 = .int .i64 0)) ?_ ?_ ?_
 · exact ⟨_,_,_,_,_,_,_,_,_,puts_self _ [23,24,25,26,27,28,29,30,7],hB.drew,nRf _,hFU.drew,hFD.drew,(by intro k hk;simp at hk;rcases (by omega:k=0∨k=1∨k=2) with rfl | rfl | rfl<;>assumption),(by intro k hk;simp at hk;rcases (by omega:k=0∨k=1∨k=2) with rfl | rfl | rfl<;>assumption),xp.drew,(fun _=>by intro k hk;simp at hk;rcases (by omega:k=0∨k=1∨k=2∨k=3∨k=4∨k=5∨k=6∨k=7∨k=8) with rfl | rfl | rfl | rfl | rfl | rfl | rfl | rfl | rfl<;>assumption),nf,nf,nf,nf,nf,nf,nf,nf,nf,nf⟩
 · refine Steps.cons ?_ (Steps.cons ?_ (Steps.cons ?_ (Steps.cons ?_ (Steps.cons ?_ (Steps.cons ?_ (Steps.cons ?_ (Steps.cons ?_ (Steps.cons ?_ (Steps.cons ?_ (Steps.nil))))))))))
   all_goals (intro dd aa ww K hc hun hn hI hK;obtain ⟨y23,y24,y25,y26,y27,y28,y29,y30,y7,ea,hb,hsz,vhFU,vhFD,ce,cf,xp,pp,f0,f1,f2,f3,f4,f5,f6,f7,f8,f9⟩:=hI;subst ea;simp only [pu])
   · go_simp;exact hK.out _ _ ⟨_,_,_,_,_,_,_,_,_,by simp only [pu]<;>rfl,hb,hsz,vhFU,vhFD,ce,cf,xp,fun h=>(pp.out (upd_off h)),fun _=>rfl,uo f1,uo f2,uo f3,uo f4,uo f5,uo f6,hc.a hun,uo f8,uo f9⟩
   · go_simp;exact hK.out _ _ ⟨_,_,_,_,_,_,_,_,_,by simp only [pu]<;>rfl,hb,hsz,vhFU,vhFD,ce,cf,xp,fun h=>(pp.out (upd_off h)),uo f0,fun _=>rfl,hc.a hun,uo f3,uo f4,uo f5,uo f6,uo f7,uo f8,uo f9⟩
   · obtain rfl:=f1.out (hc.see hn);go_simp
     with_reducible refine (clone_ints _ _ _ _ _ (g0.past hb) (by omega)).mono ?_
     rintro e w1 ⟨aC,nC,cC,rfl,hC,hN,h1⟩;have hN:=NewI.ne (b:=w.heap.size+1) (w0:=w4) hN lp hsz;exact hK.out _ _ ⟨_,_,_,_,_,_,_,_,_,by simp only [pu]<;>rfl,bLt hb h1,nTr hsz h1.size,vhFU.past h1,vhFD.past h1,ce.past h1 (nLt le hsz),cf.past h1 (nLt lf hsz),xp.past h1 (nLt lp hsz),fun h=>(pp.out (upd_off h)).past h1 (nLt lp hsz),uo f0,fun h=>rfl,fun _=>⟨_,_,_,rfl,hC,hN⟩,uo f3,fun h=>(f4.out (upd_of rfl h)).past h1,uo f5,uo f6,hc.a hun,fun h=>(f8.out (upd_of rfl h)).past h1 (nLt lp hsz),uo f9⟩
   · have e0:=ce 0 (by simp);simp only [lgZ,lgS] at e0;have e1:=ce 1 (by simp);simp only [lgZ,lgS] at e1;have e2:=ce 2 (by simp);simp only [lgZ,lgS] at e2;go_simp;exact hK.out _ _ ⟨_,_,_,_,_,_,_,_,_,by simp only [pu]<;>rfl,hb,hsz,vhFU,vhFD,ce,cf,xp,fun h=>(pp.out (upd_off h)),uo f0,uo f1,uo f2,fun _=>rfl,uo f4,uo f5,uo f6,uo f7,uo f8,uo f9⟩
   · obtain rfl:=f3.out (hc.see hn);go_simp
     with_reducible refine (owned_any eps _ _ _ _ _ _ _ (d10.past hb) (d20.past hb) (by omega) (by omega)).mono ?_
     rintro e w1 ⟨ahEU,nhEU,chEU,ahED,nhED,chED,rfl,hEU,hED,h1⟩;exact hK.out _ _ ⟨_,_,_,_,_,_,_,_,_,by simp only [pu]<;>rfl,bLt hb h1,nTr hsz h1.size,vhFU.past h1,vhFD.past h1,ce.past h1 (nLt le hsz),cf.past h1 (nLt lf hsz),xp.past h1 (nLt lp hsz),fun h=>(pp.out (upd_off h)).past h1 (nLt lp hsz),uo f0,uo f1,fun h=>(f2.out (upd_of rfl h)).past h1,fun h=>rfl,fun _=>⟨_,_,_,_,_,_,rfl,hEU.mono hsz,hED.mono hsz⟩,uo f5,uo f6,hc.a hun,fun h=>(f8.out (upd_of rfl h)).past h1 (nLt lp hsz),uo f9⟩
   · go_simp;exact hK.out _ _ ⟨_,_,_,_,_,_,_,_,_,by simp only [pu]<;>rfl,hb,hsz,vhFU,vhFD,ce,cf,xp,fun h=>(pp.out (upd_off h)),uo f0,uo f1,uo f2,uo f3,uo f4,fun _=>rfl,uo f6,hc.a hun,uo f8,uo f9⟩
   · have e0:=cf 0 (by simp);simp only [lgZ,lgS] at e0;have e1:=cf 1 (by simp);simp only [lgZ,lgS] at e1;have e2:=cf 2 (by simp);simp only [lgZ,lgS] at e2;go_simp;exact hK.out _ _ ⟨_,_,_,_,_,_,_,_,_,by simp only [pu]<;>rfl,hb,hsz,vhFU,vhFD,ce,cf,xp,fun h=>(pp.out (upd_off h)),uo f0,uo f1,uo f2,uo f3,uo f4,uo f5,fun _=>rfl,hc.a hun,uo f8,uo f9⟩
   · obtain rfl:=f0.out (hc.see hn);obtain ⟨aC,nC,cC,ex,hC,hN⟩:=f2.out (hc.see hn);subst ex;obtain ⟨ahEU,nhEU,chEU,ahED,nhED,chED,ex,hEU,hED⟩:=f4.out (hc.see hn);subst ex;obtain rfl:=f5.out (hc.see hn);obtain rfl:=f6.out (hc.see hn);go_simp;exact hK.out _ _ ⟨_,_,_,_,_,_,_,_,_,by simp only [pu]<;>rfl,hb,hsz,vhFU,vhFD,ce,cf,xp,fun h=>(pp.out (upd_off h)),fun h=>rfl,uo f1,uo f2,uo f3,uo f4,fun h=>rfl,fun h=>rfl,fun _=>rfl,hc.a hun,uo f9⟩
   · obtain rfl:=f0.out (hc.see hn);obtain ⟨aC,nC,cC,ex,hC,hN⟩:=f2.out (hc.see hn);subst ex;obtain ⟨ahEU,nhEU,chEU,ahED,nhED,chED,ex,hEU,hED⟩:=f4.out (hc.see hn);subst ex;obtain rfl:=f5.out (hc.see hn);obtain rfl:=f6.out (hc.see hn);have ex:y30 = .agg #[.int .i64 (k:Int),.slice aC nC cC,.bool (neg (eps).num),.slice ahEU nhEU chEU,.slice ahED nhED chED,.int .i64 (N:Int),.bool (neg (F).num),.slice ahFU nhFU chFU,.slice ahFD nhFD chFD]:=f7.out (hc.see hn);subst ex;have x3:=xp;obtain ⟨v0,v1,v2,v3,v4,v5,v6,v7,v8,z0,z1,z2,z3,z4,z5,z6,z7,z8,fz0,fz1,fz2,fz3,fz4,fz5,fz6,fz7,fz8⟩:=x3.nine;have hv:∀ v ∈ ([.int .i64 (k:Int),.slice aC nC cC,.bool (neg (eps).num),.slice ahEU nhEU chEU,.slice ahED nhED chED,.int .i64 (N:Int),.bool (neg (F).num),.slice ahFU nhFU chFU,.slice ahFD nhFD chFD]:List Value),notU v:=by simp [notU_bool,notU_slice,notU_i64]
     go_simp;exact hK.out _ _ ⟨_,_,_,_,_,_,_,_,_,by simp only [pu]<;>rfl,hb.trans (below_setCells _ _ (by omega) [.int .i64 (k:Int),.slice aC nC cC,.bool (neg (eps).num),.slice ahEU nhEU chEU,.slice ahED nhED chED,.int .i64 (N:Int),.bool (neg (F).num),.slice ahFU nhFU chFU,.slice ahFD nhFD chFD] 0 _),(by simpa using hsz),NatAt.sets [.int .i64 (k:Int),.slice aC nC cC,.bool (neg (eps).num),.slice ahEU nhEU chEU,.slice ahED nhED chED,.int .i64 (N:Int),.bool (neg (F).num),.slice ahFU nhFU chFU,.slice ahFD nhFD chFD] 0 _ vhFU x3 (by simp) hv,NatAt.sets [.int .i64 (k:Int),.slice aC nC cC,.bool (neg (eps).num),.slice ahEU nhEU chEU,.slice ahED nhED chED,.int .i64 (N:Int),.bool (neg (F).num),.slice ahFU nhFU chFU,.slice ahFD nhFD chFD] 0 _ vhFD x3 (by simp) hv,Cells.sets (by omega) [.int .i64 (k:Int),.slice aC nC cC,.bool (neg (eps).num),.slice ahEU nhEU chEU,.slice ahED nhED chED,.int .i64 (N:Int),.bool (neg (F).num),.slice ahFU nhFU chFU,.slice ahFD nhFD chFD] 0 _ ce,Cells.sets (by omega) [.int .i64 (k:Int),.slice aC nC cC,.bool (neg (eps).num),.slice ahEU nhEU chEU,.slice ahED nhED chED,.int .i64 (N:Int),.bool (neg (F).num),.slice ahFU nhFU chFU,.slice ahFD nhFD chFD] 0 _ cf,BoxAt.sets [.int .i64 (k:Int),.slice aC nC cC,.bool (neg (eps).num),.slice ahEU nhEU chEU,.slice ahED nhED chED,.int .i64 (N:Int),.bool (neg (F).num),.slice ahFU nhFU chFU,.slice ahFD nhFD chFD] _ 0 _ xp hv,fun h=>absurd h (by simp [upd]),fun h=>rfl,uo f1,fun h=>(f2.out (upd_of rfl h)).sets [.int .i64 (k:Int),.slice aC nC cC,.bool (neg (eps).num),.slice ahEU nhEU chEU,.slice ahED nhED chED,.int .i64 (N:Int),.bool (neg (F).num),.slice ahFU nhFU chFU,.slice ahFD nhFD chFD] x3 (by simp) hv,uo f3,fun h=>((f4.out (upd_of rfl h)).setsOff lp [.int .i64 (k:Int),.slice aC nC cC,.bool (neg (eps).num),.slice ahEU nhEU chEU,.slice ahED nhED chED,.int .i64 (N:Int),.bool (neg (F).num),.slice ahFU nhFU chFU,.slice ahFD nhFD chFD]),fun h=>rfl,fun h=>rfl,fun h=>rfl,fun _=>⟨[.int .i64 (k:Int),.slice aC nC cC,.bool (neg (eps).num),.slice ahEU nhEU chEU,.slice ahED nhED chED,.int .i64 (N:Int),.bool (neg (F).num),.slice ahFU nhFU chFU,.slice ahFD nhFD chFD],rfl,Cells.new x3 [.int .i64 (k:Int),.slice aC nC cC,.bool (neg (eps).num),.slice ahEU nhEU chEU,.slice ahED nhED chED,.int .i64 (N:Int),.bool (neg (F).num),.slice ahFU nhFU chFU,.slice ahFD nhFD chFD] (by simp)⟩,uo f9⟩
   go_simp;exact hK.out _ _ ⟨_,_,_,_,_,_,_,_,_,by simp only [pu]<;>rfl,hb,hsz,vhFU,vhFD,ce,cf,xp,fun h=>(pp.out (upd_off h)),uo f0,uo f1,uo f2,uo f3,uo f4,uo f5,uo f6,uo f7,uo f8,fun _=>rfl⟩
 intro dd aa w5 hd hI;obtain ⟨y23,y24,y25,y26,y27,y28,y29,y30,y7,ea,hb,hsz,vhFU,vhFD,ce,cf,xp,pp,f0,f1,f2,f3,f4,f5,f6,f7,f8,f9⟩:=hI;obtain rfl:=f0.out (hd 0 (by simp));obtain rfl:=f1.out (hd 1 (by simp));obtain ⟨aC,nC,cC,ex,hC,hN⟩:=f2.out (hd 2 (by simp));subst ex;obtain rfl:=f3.out (hd 3 (by simp));obtain ⟨ahEU,nhEU,chEU,ahED,nhED,chED,ex,hEU,hED⟩:=f4.out (hd 4 (by simp));subst ex;obtain rfl:=f5.out (hd 5 (by simp));obtain rfl:=f6.out (hd 6 (by simp));have ex:y30 = .agg #[.int .i64 (k:Int),.slice aC nC cC,.bool (neg (eps).num),.slice ahEU nhEU chEU,.slice ahED nhED chED,.int .i64 (N:Int),.bool (neg (F).num),.slice ahFU nhFU chFU,.slice ahFD nhFD chFD]:=f7.out (hd 7 (by simp));subst ex;obtain ⟨vs8,e,h8⟩:=f8.out (hd 8 (by simp));cases e;obtain rfl:=f9.out (hd 9 (by simp));have lp:=nLt lp hsz;have qp0:=h8 0 (by simp);simp only [lgZ,lgS] at qp0;have qp1:=h8 1 (by simp);simp only [lgZ,lgS] at qp1;have qp2:=h8 2 (by simp);simp only [lgZ,lgS] at qp2;have qp3:=h8 3 (by simp);simp only [lgZ,lgS] at qp3;have qp4:=h8 4 (by simp);simp only [lgZ,lgS] at qp4;have qp5:=h8 5 (by simp);simp only [lgZ,lgS] at qp5;have qp6:=h8 6 (by simp);simp only [lgZ,lgS] at qp6;have qp7:=h8 7 (by simp);simp only [lgZ,lgS] at qp7;have qp8:=h8 8 (by simp);simp only [lgZ,lgS] at qp8;subst ea;simp only [pu];have hEU:=hEU.mono szW
 have hED:=hED.mono szW;have g:=g0.past hb;have d1:=d10.past hb;have d2:=d20.past hb;have hFU:=vhFU;have hFD:=vhFD;have le:=nLt le hsz;have qe0:=ce 0 (by simp);simp only [lgZ,lgS] at qe0;have qe1:=ce 1 (by simp);simp only [lgZ,lgS] at qe1;have qe2:=ce 2 (by simp);simp only [lgZ,lgS] at qe2;clear ce;have lf:=nLt lf hsz;have qf0:=cf 0 (by simp);simp only [lgZ,lgS] at qf0;have qf1:=cf 1 (by simp);simp only [lgZ,lgS] at qf1;have qf2:=cf 2 (by simp);simp only [lgZ,lgS] at qf2;clear cf;have hB:=hb;clear pp;clear hb hd
 go_wp2
 refine bodyPost_ret (v:=.tuple #[.agg #[.int .i64 (k:Int),.slice aC nC cC,.bool (neg eps.num),.slice ahEU nhEU chEU,.slice ahED nhED chED,.int .i64 (N:Int),.bool (neg F.num),.slice ahFU nhFU chFU,.slice ahFD nhFD chFD],.int .i64 0]) ?_ rfl ⟨_,_,_,_,_,_,_,_,_,_,_,_,_,_,_,rfl,hC,hEU.toNatAt,hED.toNatAt,hFU,hFD,hB⟩;simp [results,Tryz.f24,go_sem,qp0,qp1,qp2,qp3,qp4,qp5,qp6,qp7,qp8]
end
end Go.Proofs.YtkhcblihbalnbaaGreatDoor
