import Derived.Test.YtkhcblihbalnbaaGreatDoorRats1Pb
set_option linter.unusedVariables false
set_option linter.unusedSimpArgs false
set_option maxHeartbeats 8000000
set_option maxRecDepth 100000
namespace Go.Proofs.YtkhcblihbalnbaaGreatDoor
section
open Go.RowKit Go.Shelf
attribute [local go_sem] Oper.semAt_some
theorem made_any (n m:Nat) (q:Rat) (a1:Option Addr) (n1 c1:Nat) (a2:Option Addr) (n2 c2:Nat) (w:World) (hn:n≤1000) (hm:m=(n+1)*(n+1)) (e1:NatAt w a1 n1 c1 (digs q.num.natAbs)) (e2:NatAt w a2 n2 c2 (digs q.den)) :
 Calls Tryz.prog 243 #[.int .i64 (n:Int),.agg #[.bool (neg q.num),.slice a1 n1 c1,.slice a2 n2 c2]] w fun e w'=>∃ g,e = .returned (.agg #[.int .i64 (n:Int),.slice (some ⟨g,0,none⟩) m m])∧GridAt w' g m m (fun _=>q)∧w.heap.size≤g∧Below w.heap.size w w':=by
 obtain ⟨i0,hi,hz0,hz1,hz2⟩:=info_parts rat_info
 have hm2:m≤1002001:=by
  rw [hm];exact nTr (Nat.mul_le_mul (show n+1≤1001 by omega) (show n+1≤1001 by omega)) (by decide)
 have hw:wrap64 (wrap64 ((n:Int)+1)*wrap64 ((n:Int)+1))=(m:Int):=by
  rw [w64_in ((n:Int)+1) ⟨by omega,by omega⟩];have e:((n:Int)+1)*((n:Int)+1)=(m:Int):=by rw [hm,Int.natCast_mul,Int.natCast_add,Int.natCast_one]
  rw [e];exact w64_in _ ⟨by omega,by omega⟩
 have HW:=hiD hw;clear hm hn hw
 go_enter Tryz.func243,Tryz.ntmps243
 have hB:=bRf w.heap.size w
 go_wp2_with (at_make
              obtain ⟨w1,hW1,y1,hb1,r1,f1⟩:=box1g w w.heap.size rfl #[.bool (neg q.num),.slice a1 n1 c1,.slice a2 n2 c2] 28;rw [hW1];obtain ⟨w2,hW2,y2,hb2,r2,f2⟩:=box1g w1 (w.heap.size+1) (by omega) #[.int .i64 0,.slice none 0 0] 221;rw [hW2];refine wpList_make_full _ rfl _ _ 78 rfl w2.heap.size 28 i0 (.agg #[.bool false,.slice none 0 0,.slice none 0 0]) 3 Tryz.underlying78 hi hz0 hz1 .i64 .i64 _ _ m rfl rfl HW.out HW.out (by rw [hz2];omega) (by simp only [maxLen];omega) (nRf _) ?_;intro w3 hown hgrow)
 have hb3:Below w2.heap.size w2 w3:=(bRf _ _).grown hgrow (nRf _) (fun k e=>by cases e);have hg:=GridAt.made hown (by simp only [maxLen];omega) (fun _=>q);have hgl:=(hown.lt w2.heap.size rfl).2;have hgE:w2.heap.size=w.heap.size+1+1:=by omega
 rw [hgE] at hg hgl;obtain ⟨w4,hW4,y4,hb4,r4,f4⟩:=box1g w3 w3.heap.size rfl #[.int .i64 (n:Int),.slice (some ⟨w.heap.size+1+1,0,none⟩) m m] 221;rw [hW4];have hg:=hg.past hb4;have hB3:Below w.heap.size w w3:=bLt (bLt hb1 hb2) hb3;have hB:=bLt hB3 hb4;have q0:=bq hb4 (by have:=hb3.size;omega) (bq hb3 (by omega) (bq hb2 (by omega) (r1 0)));have q1:=bq hb4 (by have:=hb3.size;omega) (bq hb3 (by omega) (bq hb2 (by omega) (r1 1)));have q2:=bq hb4 (by have:=hb3.size;omega) (bq hb3 (by omega) (bq hb2 (by omega) (r1 2)));have xo:BoxAt w4 (w.heap.size+1) 2:=(((BoxAt.of r2 f2 rfl (by simp [notU_i64,notU_slice])).past hb3 (by omega)).past hb4 (by have:=hb3.size;omega));have k0:=r4 0;have k1:=r4 1;simp only [lgA,lgZ,lgS] at q0 q1 q2 k0 k1;have e1:=e1.past hB;have e2:=e2.past hB;have s3:w.heap.size+1+1<w3.heap.size:=hgl;have HI:=hiD hi;clear hgE hgl hW1 hW2 hW4 r1 f1 r2 f2 r4 f4 hown hgrow hb1 hb2 hb3 hb4 hB3 y1 y2 y4 hi hz0 hz1 hz2;obtain ⟨G,hG⟩:∃ G,w.heap.size+1+1=G:=⟨_,rfl⟩;obtain ⟨O,hO⟩:∃ O,w3.heap.size=O:=⟨_,rfl⟩;rw [hG] at hg k1 s3 ⊢;rw [hO] at k0 k1 s3 ⊢;have sz4:=hB.size
 go_wp2_with fail
 go_loopw [6,18] (fun s6 s18 wr=>∃ j:Nat,j≤m∧s18 = .int .i64 (j:Int)∧GridAt wr G m j (fun _=>q)∧Moves (fun k=>k=G) w4 wr) (fun _ i _=>m-(intOf i).toNat)
 case atStart=>exact ⟨0,Nat.zero_le _,rfl,hg,Moves.refl _ _⟩
 case round =>
  obtain ⟨j,hj,rfl,hg,hM⟩:=hrel;have k0:=hM.stays.cell (b:=O) (by omega) k0;have k1:=hM.stays.cell (b:=O) (by omega) k1;have q0:=hM.stays.cell (b:=w.heap.size) (by omega) q0;have q1:=hM.stays.cell (b:=w.heap.size) (by omega) q1;have q2:=hM.stays.cell (b:=w.heap.size) (by omega) q2;have xo:=hM.stays.box (b:=w.heap.size+1) (by omega) xo;have e1:=e1.stays hM.stays;have e2:=e2.stays hM.stays
  by_cases hlt:j<m
  · obtain ⟨v0,z0,_⟩:=hg.box.c (j*3) (by omega);obtain ⟨v1,z1,_⟩:=hg.box.c (j*3+1) (by omega);obtain ⟨v2,z2,_⟩:=hg.box.c (j*3+2) (by omega);have z3:=hg.box.f (j*3) (by omega);have z4:=hg.box.f (j*3+1) (by omega);have z5:=hg.box.f (j*3+2) (by omega);obtain ⟨wF,hWF,hgF,hmF⟩:=hg.fill hlt (q:=q) rfl e1 e2;have HWF:=hiD hWF;have HG:=hiD hgF;have HM:=hiD hmF;have HM0:=hiD hM;clear hWF hgF hmF hM hg
    go_wp2
    rw [HWF.out];have hM2:=HM0.out.trans HM.out;exact ⟨⟨j+1,hlt,by go_num,HG.out,hM2⟩,by simp [intOf];omega⟩
  obtain rfl:j=m:=by omega
  obtain ⟨v0,v1,z0,z1,z2,z3,_,_⟩:=xo.two;obtain ⟨wF,hWF,hO1,p0,p1,xF⟩:=store2 xo (.int .i64 (n:Int)) (.slice (some ⟨G,0,none⟩) j j) (notU_i64 _) (notU_slice _ _ _)
  have hmF:Moves (fun k=>k=w.heap.size+1) wr wF:=by
   rw [← hWF];exact (Moves.set z0 (by assumption) _).trans (Moves.set ((World.cell?_setCell_other _ _ _ _ (fun e=>by cases e)).trans z1) (by assumption) _)
  have HWF:=hiD hWF;have HM:=hiD hmF;have HM0:=hiD hM;have HG:=hiD hg;clear hWF hmF hM hg
  go_wp2
  rw [HWF.out];refine bodyPost_ret (v:=.agg #[.int .i64 (n:Int),.slice (some ⟨G,0,none⟩) j j]) ?_ rfl ⟨G,rfl,HG.out.stays HM.out.stays (by omega),by omega,?_⟩
  · simp [results,Tryz.f243,go_sem,p0,p1]
  exact (hB.trans (HM0.out.below (by omega) (fun k e=>by omega))).trans (HM.out.below (by have:=HM0.out.size;omega) (fun k e=>by omega))
end
section
open Go.RowKit Go.Shelf
attribute [local go_sem] Oper.semAt_some
theorem places_any (v:Value) (n m g:Nat) (w:World) (hv:v = .agg #[.int .i64 (n:Int),.slice (some ⟨g,0,none⟩) m m]) :
 Calls Tryz.prog 223 #[v] w fun e w'=>e = .returned (.func (.func 237) #[] #[.pointer (some ⟨w.heap.size,0,none⟩)])∧w.alloc (.cells #[.int .i64 (n:Int),.slice (some ⟨g,0,none⟩) m m] 221)=w':=by
 subst hv;have hmf:∀ (fn:Fn) (first cap:Array Value) (w:World),(Instr.makeFunc fn first cap).run Tryz.prog w = .ok (.func fn first cap) w:=fun _ _ _ _=>rfl
 go_enter Tryz.func223,Tryz.ntmps223
 go_wp2
 go_ret
 exact ⟨rfl,rfl⟩
def OkPl (n:Nat) (f:Nat→Rat) (i:Nat) (x:Array Value) (W:World):Prop:=∃ y,x=#[.agg #[.int .i64 ((i/(n+1):Nat):Int),.int .i64 ((i % (n+1):Nat):Int)],y]∧RatNV (f i) y W
def FixPl (b n g m:Nat) (f:Nat→Rat) (W:World):Prop:=W.cell? ⟨b,0,none⟩=some (.int .i64 (n:Int))∧W.cell? ⟨b,1,none⟩=some (.slice (some ⟨g,0,none⟩) m m)∧GridAt W g m m f
theorem FixPl.stays {X:Nat→Prop} {b n g m:Nat} {f:Nat→Rat} {W W':World} (h:FixPl b n g m f W) (hs:Stays X W W') (hb:¬ X b) (hg:¬ X g):FixPl b n g m f W':=⟨hs.cell hb h.1,hs.cell hb h.2.1,h.2.2.stays hs hg⟩
theorem FixPl.past {b n g m:Nat} {f:Nat→Rat} {W W':World} (h:FixPl b n g m f W) (hb:Below W.heap.size W W'):FixPl b n g m f W':=h.stays (X:=fun _=>False) (.ofBelow hb) id id
theorem places1_hands (b n g m:Nat) (f:Nat→Rat) (hn:n≤1000) (hm:m=(n+1)*(n+1)) :
 HandsF 2 Tryz.prog 237 #[.pointer (some ⟨b,0,none⟩)] m (OkPl n f) (FixPl b n g m f):=by
 intro lp J W hJ hfix hY h0
 have hm2:m≤1002001:=by
  rw [hm];exact nTr (Nat.mul_le_mul (show n+1≤1001 by omega) (show n+1≤1001 by omega)) (by decide)
 have HY:=hiD hY;have HJ:=hiD hJ;have HF:=hiD hfix;have qA:=hfix.1;have qB:=hfix.2.1;clear hY hJ hfix hm;refine callsIn_of_wp Tryz.func237 rfl trivial ?_ rfl;simp only [Tryz.ntmps237,List.size_toArray,List.length_cons,List.length_nil,Nat.reduceAdd,Nat.reduceSub,Array.replicate_succ,Array.replicate_zero,List.push_toArray,List.append_toArray,List.nil_append,List.cons_append]
 gi_wp2
 clear qA qB
 gi_loopw [3,4,8] (fun s3 s4 s8 wr=>∃ i:Nat,i≤m∧s8 = .int .i64 (i:Int)∧J i wr∧FixPl b n g m f wr) (fun _ _ s8 _=>m-(intOf s8).toNat)
 case atStart=>exact ⟨0,Nat.zero_le _,rfl,h0,HF.out⟩
 case round =>
  obtain ⟨i,hi,rfl,hJi,hfix⟩:=hrel;have qA:=hfix.1;have qB:=hfix.2.1
  by_cases hlt:i<m
  · obtain ⟨a1,n1,c1,a2,n2,c2,q0,q1,q2,d1,d2⟩:=hfix.2.2.at_ i hlt;obtain ⟨q,hq⟩:∃ q,f i=q:=⟨_,rfl⟩;rw [hq] at q0 d1 d2;obtain ⟨A,hA⟩:∃ A,i/(n+1)=A:=⟨_,rfl⟩;obtain ⟨B,hB⟩:∃ B,i % (n+1)=B:=⟨_,rfl⟩;have HJI:=hiD hJi;have HFX:=hiD hfix;have HQ:=hiD hq;have HA:=hiD hA;have HB:=hiD hB;have D1:=hiD d1;have D2:=hiD d2;clear hJi hfix hq hA hB d1 d2
    gi_wp2_with fail
    obtain ⟨w1,hW,y1,hb1,r1,f1⟩:=box1g wr wr.heap.size rfl #[.bool (neg q.num),.slice a1 n1 c1,.slice a2 n2 c2] 28;rw [hW];have p0:=r1 0;have p1:=r1 1;have p2:=r1 2;simp only [lgA,lgZ,lgS] at p0 p1 p2;have hdr:Below wr.heap.size wr w1.drew:=hb1.drew;have qA:=HFX.out.past hdr |>.1
    have qB:=HFX.out.past hdr |>.2.1
    have p0:w1.drew.cell? ⟨wr.heap.size,0,none⟩=_:=p0;have p1:w1.drew.cell? ⟨wr.heap.size,1,none⟩=_:=p1;have p2:w1.drew.cell? ⟨wr.heap.size,2,none⟩=_:=p2;have hJ1:=HJ.out _ _ _ HJI.out hdr
    have hY1:=HY.out i #[.agg #[.int .i64 (A:Int),.int .i64 (B:Int)],.agg #[.bool (neg q.num),.slice a1 n1 c1,.slice a2 n2 c2]] w1.drew hlt hJ1 (HFX.out.past hdr)
     ⟨_,by rw [HA.out,HB.out],by rw [HQ.out];exact ⟨_,_,_,_,_,_,rfl,D1.out.past hdr,D2.out.past hdr⟩⟩
    obtain ⟨fn,tmps,assign,body,hy,hR⟩:=hY1;have HR:=hiD hR;have HN:=hiD (show IntKind.i64.wrap ((n:Int)+1)=((n+1:Nat):Int) by rw [IntKind.wrap_i64];omega)
    have hdv:IntKind.i64.wrap ((i:Int)/((n+1:Nat):Int))=(A:Int):=by
     have h8:(i:Int)/((n+1:Nat):Int)=(A:Int):=by rw [← HA.out];rfl
     have h9:A≤i:=by rw [← HA.out];exact Nat.div_le_self _ _
     rw [h8,IntKind.wrap_i64];omega
    have HDV:=hiD hdv;obtain ⟨M,hM0⟩:∃ M,n+1=M:=⟨_,rfl⟩;rw [hM0] at HN HDV;have hMpos:M≠0:=by omega
    have HMD:=hiD (show Int.tmod (i:Int) (M:Int)=(B:Int) by rw [← HB.out,← hM0];rfl);clear hR hdv hW r1 f1 hM0;refine wpIn_region_invA (by kernel_rfl) rfl (by kernel_rfl) (fun A0 V0 dd aa ww=>∃ (y13 y14 y15 y16 y17 y18 y19 y20 y21 y22 y23 y24 y25 y26 y27:Value),aa=puts A0 [(13,y13),(14,y14),(15,y15),(16,y16),(17,y17),(18,y18),(19,y19),(20,y20),(21,y21),(22,y22),(23,y23),(24,y24),(25,y25),(26,y26),(27,y27)]∧Shut (dd 13=false→ww=V0.drew)∧Shut (dd 13=true→J (i+1) ww∧FixPl b n g m f ww)∧Shut (dd 0=true→y13 = .func (.yield lp) #[] #[])∧Shut (dd 1=true→y14 = .int .i64 (i:Int))∧Shut (dd 2=true→y15 = .pointer (some ⟨b,0,none⟩))∧Shut (dd 3=true→y16 = .int .i64 (n:Int))∧Shut (dd 4=true→y17 = .int .i64 (M:Int))∧Shut (dd 5=true→y18 = .int .i64 (A:Int))∧Shut (dd 6=true→y19 = .int .i64 (i:Int))∧Shut (dd 7=true→y20 = .pointer (some ⟨b,0,none⟩))∧Shut (dd 8=true→y21 = .int .i64 (n:Int))∧Shut (dd 9=true→y22 = .int .i64 (M:Int))∧Shut (dd 10=true→y23 = .int .i64 (B:Int))∧Shut (dd 11=true→y24 = .agg #[.int .i64 (A:Int),.int .i64 (B:Int)])∧Shut (dd 12=true→y25 = .agg #[.bool (neg q.num),.slice a1 n1 c1,.slice a2 n2 c2])∧Shut (dd 13=true→y26 = .bool true)∧Shut (dd 14=true→y27 = .bool false)) ?_ ?_ ?_
    · exact ⟨_,_,_,_,_,_,_,_,_,_,_,_,_,_,_,puts_self _ [13,14,15,16,17,18,19,20,21,22,23,24,25,26,27],fun _=>rfl,nf,nf,nf,nf,nf,nf,nf,nf,nf,nf,nf,nf,nf,nf,nf,nf⟩
    · refine StepsI.cons ?_ (StepsI.cons ?_ (StepsI.cons ?_ (StepsI.cons ?_ (StepsI.cons ?_ (StepsI.cons ?_ (StepsI.cons ?_ (StepsI.cons ?_ (StepsI.cons ?_ (StepsI.cons ?_ (StepsI.cons ?_ (StepsI.cons ?_ (StepsI.cons ?_ (StepsI.cons ?_ (StepsI.cons ?_ (StepsI.nil)))))))))))))))
      all_goals (intro dd aa ww K hc hun hn hI hK;obtain ⟨y13,y14,y15,y16,y17,y18,y19,y20,y21,y22,y23,y24,y25,y26,y27,ea,hM,hP,f0,f1,f2,f3,f4,f5,f6,f7,f8,f9,f10,f11,f12,f13,f14⟩:=hI;subst ea;simp only [pu])
      · have hw:=hM.out (hc.not (f:=20) (s:=13) (l:=0) (by kernel_rfl) hun);subst hw;go_simp;exact hK.out _ _ ⟨_,_,_,_,_,_,_,_,_,_,_,_,_,_,_,by simp only [pu]<;>rfl,fun _=>rfl,fun h=>hP.out (upd_of rfl h),fun _=>rfl,uo f1,uo f2,uo f3,uo f4,uo f5,uo f6,uo f7,uo f8,uo f9,uo f10,uo f11,uo f12,uo f13,uo f14⟩
      · have hw:=hM.out (hc.not (f:=20) (s:=13) (l:=1) (by kernel_rfl) hun);subst hw;go_simp;exact hK.out _ _ ⟨_,_,_,_,_,_,_,_,_,_,_,_,_,_,_,by simp only [pu]<;>rfl,fun _=>rfl,fun h=>hP.out (upd_of rfl h),uo f0,fun _=>rfl,uo f2,uo f3,uo f4,uo f5,uo f6,uo f7,uo f8,uo f9,uo f10,uo f11,uo f12,uo f13,uo f14⟩
      · have hw:=hM.out (hc.not (f:=20) (s:=13) (l:=2) (by kernel_rfl) hun);subst hw;go_simp;exact hK.out _ _ ⟨_,_,_,_,_,_,_,_,_,_,_,_,_,_,_,by simp only [pu]<;>rfl,fun _=>rfl,fun h=>hP.out (upd_of rfl h),uo f0,uo f1,fun _=>rfl,uo f3,uo f4,uo f5,uo f6,uo f7,uo f8,uo f9,uo f10,uo f11,uo f12,uo f13,uo f14⟩
      · obtain rfl:=f2.out (hc.see hn);have hw:=hM.out (hc.not (f:=20) (s:=13) (l:=3) (by kernel_rfl) hun);subst hw;go_simp;exact hK.out _ _ ⟨_,_,_,_,_,_,_,_,_,_,_,_,_,_,_,by simp only [pu]<;>rfl,fun _=>rfl,fun h=>hP.out (upd_of rfl h),uo f0,uo f1,fun h=>rfl,fun _=>rfl,uo f4,uo f5,uo f6,uo f7,uo f8,uo f9,uo f10,uo f11,uo f12,uo f13,uo f14⟩
      · obtain rfl:=f3.out (hc.see hn);have hw:=hM.out (hc.not (f:=20) (s:=13) (l:=4) (by kernel_rfl) hun);subst hw;go_simp;rw [HN.out];exact hK.out _ _ ⟨_,_,_,_,_,_,_,_,_,_,_,_,_,_,_,by simp only [pu]<;>rfl,fun _=>rfl,fun h=>hP.out (upd_of rfl h),uo f0,uo f1,uo f2,fun h=>rfl,fun _=>rfl,uo f5,uo f6,uo f7,uo f8,uo f9,uo f10,uo f11,uo f12,uo f13,uo f14⟩
      · obtain rfl:=f1.out (hc.see hn);obtain rfl:=f4.out (hc.see hn);have hw:=hM.out (hc.not (f:=20) (s:=13) (l:=5) (by kernel_rfl) hun);subst hw;go_simp;rw [HDV.out];exact hK.out _ _ ⟨_,_,_,_,_,_,_,_,_,_,_,_,_,_,_,by simp only [pu]<;>rfl,fun _=>rfl,fun h=>hP.out (upd_of rfl h),uo f0,fun h=>rfl,uo f2,uo f3,fun h=>rfl,fun _=>rfl,uo f6,uo f7,uo f8,uo f9,uo f10,uo f11,uo f12,uo f13,uo f14⟩
      · have hw:=hM.out (hc.not (f:=20) (s:=13) (l:=6) (by kernel_rfl) hun);subst hw;go_simp;exact hK.out _ _ ⟨_,_,_,_,_,_,_,_,_,_,_,_,_,_,_,by simp only [pu]<;>rfl,fun _=>rfl,fun h=>hP.out (upd_of rfl h),uo f0,uo f1,uo f2,uo f3,uo f4,uo f5,fun _=>rfl,uo f7,uo f8,uo f9,uo f10,uo f11,uo f12,uo f13,uo f14⟩
      · have hw:=hM.out (hc.not (f:=20) (s:=13) (l:=7) (by kernel_rfl) hun);subst hw;go_simp;exact hK.out _ _ ⟨_,_,_,_,_,_,_,_,_,_,_,_,_,_,_,by simp only [pu]<;>rfl,fun _=>rfl,fun h=>hP.out (upd_of rfl h),uo f0,uo f1,uo f2,uo f3,uo f4,uo f5,uo f6,fun _=>rfl,uo f8,uo f9,uo f10,uo f11,uo f12,uo f13,uo f14⟩
      · obtain rfl:=f7.out (hc.see hn);have hw:=hM.out (hc.not (f:=20) (s:=13) (l:=8) (by kernel_rfl) hun);subst hw;go_simp;exact hK.out _ _ ⟨_,_,_,_,_,_,_,_,_,_,_,_,_,_,_,by simp only [pu]<;>rfl,fun _=>rfl,fun h=>hP.out (upd_of rfl h),uo f0,uo f1,uo f2,uo f3,uo f4,uo f5,uo f6,fun h=>rfl,fun _=>rfl,uo f9,uo f10,uo f11,uo f12,uo f13,uo f14⟩
      · obtain rfl:=f8.out (hc.see hn);have hw:=hM.out (hc.not (f:=20) (s:=13) (l:=9) (by kernel_rfl) hun);subst hw;go_simp;rw [HN.out];exact hK.out _ _ ⟨_,_,_,_,_,_,_,_,_,_,_,_,_,_,_,by simp only [pu]<;>rfl,fun _=>rfl,fun h=>hP.out (upd_of rfl h),uo f0,uo f1,uo f2,uo f3,uo f4,uo f5,uo f6,uo f7,fun h=>rfl,fun _=>rfl,uo f10,uo f11,uo f12,uo f13,uo f14⟩
      · obtain rfl:=f6.out (hc.see hn);obtain rfl:=f9.out (hc.see hn);have hw:=hM.out (hc.not (f:=20) (s:=13) (l:=10) (by kernel_rfl) hun);subst hw;go_simp;rw [HMD.out];exact hK.out _ _ ⟨_,_,_,_,_,_,_,_,_,_,_,_,_,_,_,by simp only [pu]<;>rfl,fun _=>rfl,fun h=>hP.out (upd_of rfl h),uo f0,uo f1,uo f2,uo f3,uo f4,uo f5,fun h=>rfl,uo f7,uo f8,fun h=>rfl,fun _=>rfl,uo f11,uo f12,uo f13,uo f14⟩
      · obtain rfl:=f5.out (hc.see hn);obtain rfl:=f10.out (hc.see hn);have hw:=hM.out (hc.not (f:=20) (s:=13) (l:=11) (by kernel_rfl) hun);subst hw;go_simp;exact hK.out _ _ ⟨_,_,_,_,_,_,_,_,_,_,_,_,_,_,_,by simp only [pu]<;>rfl,fun _=>rfl,fun h=>hP.out (upd_of rfl h),uo f0,uo f1,uo f2,uo f3,uo f4,fun h=>rfl,uo f6,uo f7,uo f8,uo f9,fun h=>rfl,fun _=>rfl,uo f12,uo f13,uo f14⟩
      · have hw:=hM.out (hc.not (f:=20) (s:=13) (l:=12) (by kernel_rfl) hun);subst hw;go_simp;exact hK.out _ _ ⟨_,_,_,_,_,_,_,_,_,_,_,_,_,_,_,by simp only [pu]<;>rfl,fun _=>rfl,fun h=>hP.out (upd_of rfl h),uo f0,uo f1,uo f2,uo f3,uo f4,uo f5,uo f6,uo f7,uo f8,uo f9,uo f10,uo f11,fun _=>rfl,uo f13,uo f14⟩
      · obtain rfl:=f0.out (hc.see hn);obtain rfl:=f11.out (hc.see hn);obtain rfl:=f12.out (hc.see hn);have hw:=hM.out hun;subst hw;go_simp;refine HR.out.mono ?_;rintro e w2 ⟨rfl,hJ3,hk3⟩;exact hK.out _ _ ⟨_,_,_,_,_,_,_,_,_,_,_,_,_,_,_,by simp only [pu]<;>rfl,fun h=>absurd h (by simp [upd]),fun _=>⟨hJ3,hk3⟩,fun h=>rfl,uo f1,uo f2,uo f3,uo f4,uo f5,uo f6,uo f7,uo f8,uo f9,uo f10,fun h=>rfl,fun h=>rfl,fun _=>rfl,uo f14⟩
      obtain rfl:=f13.out (hc.see hn);go_simp;exact hK.out _ _ ⟨_,_,_,_,_,_,_,_,_,_,_,_,_,_,_,by simp only [pu]<;>rfl,fun h=>hM.out (upd_off h),fun h=>hP.out (upd_of rfl h),uo f0,uo f1,uo f2,uo f3,uo f4,uo f5,uo f6,uo f7,uo f8,uo f9,uo f10,uo f11,uo f12,fun h=>rfl,fun _=>rfl⟩
    intro dd aa W1 hd hI;obtain ⟨y13,y14,y15,y16,y17,y18,y19,y20,y21,y22,y23,y24,y25,y26,y27,ea,hM,hP,f0,f1,f2,f3,f4,f5,f6,f7,f8,f9,f10,f11,f12,f13,f14⟩:=hI;obtain rfl:=f0.out (hd 0 (by simp));obtain rfl:=f1.out (hd 1 (by simp));obtain rfl:=f2.out (hd 2 (by simp));obtain rfl:=f3.out (hd 3 (by simp));obtain rfl:=f4.out (hd 4 (by simp));obtain rfl:=f5.out (hd 5 (by simp));obtain rfl:=f6.out (hd 6 (by simp));obtain rfl:=f7.out (hd 7 (by simp));obtain rfl:=f8.out (hd 8 (by simp));obtain rfl:=f9.out (hd 9 (by simp));obtain rfl:=f10.out (hd 10 (by simp));obtain rfl:=f11.out (hd 11 (by simp));obtain rfl:=f12.out (hd 12 (by simp));obtain rfl:=f13.out (hd 13 (by simp));obtain rfl:=f14.out (hd 14 (by simp));have hP:=hP.out (hd 13 (by simp));subst ea;simp only [pu]
    gi_wp2
    exact ⟨⟨i+1,hlt,by go_num,hP.1,hP.2⟩,by simp [intOf];omega⟩
  obtain rfl:i=m:=by omega
  gi_wp2
  go_end0
  exact ⟨⟨_,rfl⟩,hJi,hfix⟩
end
end Go.Proofs.YtkhcblihbalnbaaGreatDoor
