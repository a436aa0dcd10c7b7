import Derived.Test.YtkhcblihbalnbaaGreatDoorRats1Pb
set_option linter.unusedVariables false
set_option linter.unusedSimpArgs false
set_option maxHeartbeats 16000000
set_option maxRecDepth 100000
namespace Go.Proofs.YtkhcblihbalnbaaGreatDoor
open Go.RowKit
def lenV:Option Value→Nat
 | some (.slice _ n _)=>n
 | _=>0
structure PwAt (w:World) (bp:Nat) (P:Nat→Rat) (g n c:Nat→Nat):Prop where
 box:BoxAt w bp 2
 cell:∀ i,i<2→w.cell? ⟨bp,i,none⟩=some (.slice (some ⟨g i,0,none⟩) (n i) (c i))
 one:∀ i,i<2→1≤n i∧n i≤5000
 row:∀ i,i<2→GridAt w (g i) (c i) (n i) (fun j=>P i ^ j)
 off:∀ i,i<2→g i≠bp
 ne:g 0≠g 1
def PwX (bp:Nat) (g:Nat→Nat) (k:Nat):Prop:=k=bp∨k=g 0∨k=g 1
def PwSt (w:World) (bp:Nat) (P:Nat→Rat) (X:Nat→Prop):Prop:=∃ g n c,PwAt w bp P g n c∧∀ k,X k ↔ PwX bp g k
theorem PwX.row {bp:Nat} {g:Nat→Nat} {i:Nat} (hi:i<2):PwX bp g (g i):=by
 rcases (by omega:i=0∨i=1) with rfl | rfl
 · exact .inr (.inl rfl)
 exact .inr (.inr rfl)
theorem PwAt.stays {w w':World} {bp:Nat} {P:Nat→Rat} {g n c:Nat→Nat} {X:Nat→Prop} (h:PwAt w bp P g n c) (hs:Stays X w w') (hx:∀ k,PwX bp g k→¬ X k):PwAt w' bp P g n c :=
 ⟨hs.box (hx _ (.inl rfl)) h.box,fun i hi=>hs.cell (hx _ (.inl rfl)) (h.cell i hi),h.one,fun i hi=>(h.row i hi).stays hs (hx _ (PwX.row hi)),h.off,h.ne⟩
theorem PwAt.past {w w':World} {bp:Nat} {P:Nat→Rat} {g n c:Nat→Nat} (h:PwAt w bp P g n c) (hb:Below w.heap.size w w'):PwAt w' bp P g n c:=h.stays (X:=fun _=>False) (.ofBelow hb) (fun _ _=>id)
theorem PwAt.lt {w:World} {bp:Nat} {P:Nat→Rat} {g n c:Nat→Nat} (h:PwAt w bp P g n c):∀ k,PwX bp g k→k<w.heap.size:=by
 rintro k (rfl | rfl | rfl)
 · exact World.block_lt_of_cell? w ⟨_,0,none⟩ (h.cell 0 (by decide))
 · exact (h.row 0 (by decide)).lt (by have:=(h.one 0 (by decide)).1;omega)
 exact (h.row 1 (by decide)).lt (by have:=(h.one 1 (by decide)).1;omega)
theorem PwSt.stays {w w':World} {bp:Nat} {P:Nat→Rat} {X Y:Nat→Prop} (h:PwSt w bp P X) (hs:Stays Y w w') (hx:∀ k,X k→¬ Y k):PwSt w' bp P X:=by
 obtain ⟨g,n,c,h,e⟩:=h;exact ⟨g,n,c,h.stays hs (fun k hk=>hx k ((e k).2 hk)),e⟩
theorem PwSt.past {w w':World} {bp:Nat} {P:Nat→Rat} {X:Nat→Prop} (h:PwSt w bp P X) (hb:Below w.heap.size w w'):PwSt w' bp P X:=h.stays (Y:=fun _=>False) (.ofBelow hb) (fun _ _=>id)
theorem PwSt.lt {w:World} {bp:Nat} {P:Nat→Rat} {X:Nat→Prop} (h:PwSt w bp P X):∀ k,X k→k<w.heap.size:=by
 obtain ⟨g,n,c,h,e⟩:=h;exact fun k hk=>h.lt k ((e k).1 hk)
def put1 (f:Nat→Nat) (i v:Nat):Nat→Nat:=fun j=>if j=i then v else f j
theorem put1_at (f:Nat→Nat) (i v:Nat):put1 f i v i=v:=by simp [put1]
theorem put1_off {f:Nat→Nat} {i j v:Nat} (h:j≠i):put1 f i v j=f j:=by simp [put1,h]
def AppG (B:Nat) (f:Nat→Rat) (G K:Nat) (y:Value) (w:World):Prop :=
 ∃ g' c',y = .slice (some ⟨g',0,none⟩) (K+1) c'∧GridAt w g' c' (K+1) f∧(g'=G∨B≤g')
theorem PwAt.app {w w':World} {bp:Nat} {P:Nat→Rat} {g n c:Nat→Nat} (h:PwAt w bp P g n c) {i g' c':Nat} (hi:i<2) (hm:Moves (fun k=>k=g i) w w') (hr:GridAt w' g' c' (n i+1) (fun j=>P i ^ j)) (ho:g'=g i∧c'=c i∨g'=w.heap.size∧Below w.heap.size w w'):PwAt w' bp P g n c:=by
 rcases ho with ⟨rfl,rfl⟩ | ⟨_,hb⟩
 · refine ⟨hm.stays.box (h.off i hi).symm h.box,fun j hj=>hm.stays.cell (h.off i hi).symm (h.cell j hj),h.one,fun j hj => ?_,h.off,h.ne⟩
   by_cases e:j=i
   · subst e;exact hr.less (Nat.le_succ _)
   refine (h.row j hj).stays hm.stays (fun e2 => ?_);have h0:=h.ne;rcases (by omega:i=0∧j=1∨i=1∧j=0) with ⟨rfl,rfl⟩ | ⟨rfl,rfl⟩
   · exact h0 e2.symm
   exact h0 e2
 exact h.past hb
def PutG (B bp:Nat) (P:Nat→Rat) (g n c:Nat→Nat) (i:Nat) (w:World):Prop:=∃ g' c',PwAt w bp P (put1 g i g') (put1 n i (n i+1)) (put1 c i c')∧(g'=g i∨B≤g')
theorem RatsAt.oneF {w:World} {a:Option Addr} {p:Rat} (h:RatsAt w a 1 1 (ratsF [p])):RatsAt w a 1 1 (fun _=>partsOf p):=by
 refine ⟨h.le,h.cle,h.cell.imp id ?_⟩;rintro ⟨b,o,e,hl,hc⟩;refine ⟨b,o,e,hl,fun i hi => ?_⟩;obtain rfl:i=0:=by omega
 exact hc 0 (by decide)
theorem PwAt.put {w:World} {bp:Nat} {P:Nat→Rat} {g n c:Nat→Nat} (h:PwAt w bp P g n c) {i g' c' B:Nat} (hi:i<2) (hr:GridAt w g' c' (n i+1) (fun j=>P i ^ j)) (hg:g'=g i∨B≤g') (hB:∀ k,PwX bp g k→k<B) (hn:n i<5000) :
 PwAt (w.setCells bp i [.slice (some ⟨g',0,none⟩) (n i+1) c']) bp P (put1 g i g') (put1 n i (n i+1)) (put1 c i c')∧Moves (fun k=>k=bp) w (w.setCells bp i [.slice (some ⟨g',0,none⟩) (n i+1) c']):=by
 have hu:∀ v ∈ [Value.slice (some ⟨g',0,none⟩) (n i+1) c'],notU v:=by simp [notU_slice]
 have hm:=Moves.sets [.slice (some ⟨g',0,none⟩) (n i+1) c'] i w h.box (by simp only [List.length_cons,List.length_nil];omega) hu
 have hin:=World.cell?_setCells_in bp [.slice (some ⟨g',0,none⟩) (n i+1) c'] i w (fun j hj=>by
  simp only [List.length_cons,List.length_nil] at hj;rw [show i+j=i by omega,h.cell i hi];rfl) 0 (by simp)
 have hgb:g'≠bp:=by
  rcases hg with e | e
  · rw [e];exact h.off i hi
  have:=hB bp (.inl rfl);omega
 have hother:∀ j,j<2→j≠i→g'≠g j:=by
  intro j hj hji e;rcases hg with e2 | e2
  · have h0:=h.ne;rcases (by omega:i=0∧j=1∨i=1∧j=0) with ⟨rfl,rfl⟩ | ⟨rfl,rfl⟩
    · exact h0 (e2 ▸ e)
    exact h0 ((e2 ▸ e).symm)
  have:=hB (g j) (PwX.row hj);omega
 refine ⟨⟨BoxAt.sets _ _ _ _ h.box hu,fun j hj => ?_,fun j hj => ?_,fun j hj => ?_,fun j hj => ?_,?_⟩,hm⟩
 · by_cases e:j=i
   · subst e;rw [put1_at,put1_at,put1_at];exact hin
   rw [put1_off e,put1_off e,put1_off e,World.cell?_setCells_out bp _ _ _ _ (fun _ _=>by simp only [List.length_cons,List.length_nil];omega)];exact h.cell j hj
 · by_cases e:j=i
   · subst e;rw [put1_at];omega
   rw [put1_off e];exact h.one j hj
 · by_cases e:j=i
   · subst e;rw [put1_at,put1_at,put1_at];exact hr.stays hm.stays hgb
   rw [put1_off e,put1_off e,put1_off e];exact (h.row j hj).stays hm.stays (h.off j hj)
 · by_cases e:j=i
   · subst e;rw [put1_at];exact hgb
   rw [put1_off e];exact h.off j hj
 rcases (by omega:i=0∨i=1) with rfl | rfl
 · rw [put1_at,put1_off (by decide)];exact hother 1 (by decide) (by decide)
 rw [put1_at,put1_off (by decide)];exact (hother 0 (by decide) (by decide)).symm
theorem put1_X {bp i g' B:Nat} {g:Nat→Nat} (hg:g'=g i∨B≤g') (hi:i<2):∀ k,k<B→PwX bp (put1 g i g') k→PwX bp g k:=by
 have hr:∀ k,k<B→k=g'→PwX bp g k:=fun k hk e=>by
  rcases hg with e2 | e2
  · rw [e,e2];exact PwX.row hi
  omega
 rintro k hk (e | e | e)
 · exact .inl e
 · by_cases h0:i=0
   · subst h0;rw [put1_at] at e;exact hr k hk e
   rw [put1_off (fun h=>h0 h.symm)] at e;exact .inr (.inl e)
 by_cases h0:i=1
 · subst h0;rw [put1_at] at e;exact hr k hk e
 rw [put1_off (fun h=>h0 h.symm)] at e;exact .inr (.inr e)
def RetSt (w:World) (q:Rat) (X:Nat→Prop) (S:World→(Nat→Prop)→Prop) (e:Ending) (w':World):Prop :=
 ∃ y X',e = .returned y∧RatNV q y w'∧S w' X'∧(∀ k,k<w.heap.size→X' k→X k)∧Moves X w w'
theorem power0_any (bp:Nat) (P:Nat→Rat) (X0:Nat→Prop) (m:Nat) (a1:Option Addr) (n1 c1:Nat) (a2:Option Addr) (n2 c2:Nat) (w:World) (hs:PwSt w bp P X0) (hm:m≤4096) (hl:∀ j,j≤m→rlen (P 0 ^ j)≤1048576) (hl1:rlen (P 0)≤1048576)
 (e1:NatAt w a1 n1 c1 (digs (P 0).num.natAbs)) (e2:NatAt w a2 n2 c2 (digs (P 0).den)) :
 Calls Tryz.prog 252 #[.int .i64 0,.int .i64 (m:Int),.agg #[.bool (neg (P 0).num),.slice a1 n1 c1,.slice a2 n2 c2],.pointer (some ⟨bp,0,none⟩)] w (RetSt w (P 0 ^ m) X0 (fun w' X'=>PwSt w' bp P X')):=by
 obtain ⟨g0,k0,c0,hp,hX⟩:=hs;have hp0:=hp;have HX:=hiD hX;have HL:=hiD hl;have HL1:=hiD hl1;clear hX hl hl1;obtain ⟨Q,hQ⟩:∃ Q,P 0=Q:=⟨_,rfl⟩;rw [hQ] at e1 e2 ⊢;have HQ:=hiD hQ;clear hQ
 go_enter Tryz.func252,Tryz.ntmps252
 have hB:=bRf w.heap.size w
 go_wp2_with fail
 obtain ⟨w1,hW,hz0,hb,q,f⟩:=box1g w (w.heap.size) (by omega) #[.bool (neg Q.num),.slice a1 n1 c1,.slice a2 n2 c2] 28;rw [hW];clear hW;have e1:=e1.past hb;have e2:=e2.past hb;have hp:=hp.past hb;have hB:=bLt hB hb;clear hb;have lr:w.heap.size<w1.heap.size:=by omega
 have qr0:=q 0;have qr1:=q 1;have qr2:=q 2;simp only [lgA,lgZ,lgS] at qr0 qr1 qr2;clear q f;obtain ⟨w2,hW,hz1,hb,q,f⟩:=box1g w1 (w.heap.size+1) (by omega) #[.bool false,.slice none 0 0,.slice none 0 0] 28;rw [hW];clear hW;have e1:=e1.past hb;have e2:=e2.past hb;have hp:=hp.past hb;obtain ⟨qr0,qr1,qr2,lr⟩:=bq3 hb lr qr0 qr1 qr2;have hB:=bLt hB hb;clear hb;have lo:w.heap.size+1<w2.heap.size:=by omega
 have qo0:=q 0;have qo1:=q 1;have qo2:=q 2;simp only [lgA,lgZ,lgS] at qo0 qo1 qo2;have xo:BoxAt w2 (w.heap.size+1) 3:=BoxAt.of q f rfl (by simp [notU_bool,notU_slice,notU_i64]);clear q f;clear hz0;clear hz1;have hX1:∀ k,PwX bp g0 k→k<w.heap.size:=PwAt.lt hp0
 go_loopw [] (fun wr=>∃ g n c,PwAt wr bp P g n c∧Moves (PwX bp g0) w2 wr∧(∀ k,k<w2.heap.size→PwX bp g k→PwX bp g0 k)) (fun wr=>m+1-lenV (wr.cell? ⟨bp,0,none⟩))
 case atStart=>exact ⟨g0,k0,c0,hp,Moves.refl _ _,fun _ _ h=>h⟩
 case round =>
  obtain ⟨g,n,c,hp,hMv,hXg⟩:=hrel;have nbr:¬ PwX bp g0 (w.heap.size):=fun h=>by have:=hX1 _ h;omega
  have nbo:¬ PwX bp g0 (w.heap.size+1):=fun h=>by have:=hX1 _ h;omega
  have nbr2:¬ PwX bp g (w.heap.size):=fun h=>nbr (hXg _ lr h)
  have nbo2:¬ PwX bp g (w.heap.size+1):=fun h=>nbo (hXg _ lo h)
  have qr0:=hMv.stays.cell nbr qr0;have qr1:=hMv.stays.cell nbr qr1;have qr2:=hMv.stays.cell nbr qr2;have xo:=hMv.stays.box nbo xo;have e1:=e1.stays hMv.stays;have e2:=e2.stays hMv.stays;have lo2:=nLt lo hMv.size;have qp:=hp.cell 0 (by decide);have hrow:=hp.row 0 (by decide);have hone:=hp.one 0 (by decide);obtain ⟨K1,hN⟩:∃ K1,n 0=K1:=⟨_,rfl⟩;obtain ⟨G,hG⟩:∃ G,g 0=G:=⟨_,rfl⟩;obtain ⟨C,hC⟩:∃ C,c 0=C:=⟨_,rfl⟩;rw [hN] at hrow qp hone;rw [hG,hC] at hrow qp;have HXg:=hiD hXg;have HMv:=hiD hMv;have HG:=hiD hG;have HC:=hiD hC;have HN:=hiD hN;have HP:=hiD hp;clear hXg hMv hG hC hN hp
  by_cases hlt:K1≤m
  · have hle:decide ((K1:Int)≤(m:Int))=true:=by simp;omega
    go_wp2_with fail
    obtain ⟨N,hN⟩:∃ N,K1=N+1:=⟨K1-1,by omega⟩;obtain ⟨b1,m1,k1,b2,m2,k2,z0,z1,z2,D1,D2⟩:=hrow.at_ N (by omega);have HR:=hiD hrow;have hXl0:∀ k,(fun _:Nat=>False) k→k<wr.heap.size:=fun _ h=>h.elim
    have HW:=hiD (show IntKind.i64.wrap ((K1:Int)-1)=(N:Int) by rw [IntKind.wrap_i64];omega);have hb1:N<K1:=by omega
    have h0:(0:Int)≤(N:Int):=by omega
    have L1:=HL.out N (by omega);have HP1:Q ^ N*Q=Q ^ K1:=by rw [hN];exact (Rat.pow_succ ..).symm
    rw [HQ.out] at L1;simp only [HQ.out] at z0 D1 D2;have L2:=HL1.out;rw [HQ.out] at L2;have HN2:=hiD hN;obtain ⟨A,hA⟩:∃ A,Q ^ N=A:=⟨_,rfl⟩;obtain ⟨A1,hA1⟩:∃ A1,Q ^ K1=A1:=⟨_,rfl⟩;rw [hA,hA1] at HP1;rw [hA] at L1 z0 D1 D2;have HA:=hiD hA;have HA1:=hiD hA1;have HP1:=hiD HP1;have L1:=hiD L1;have L2:=hiD L2;clear hA hA1 hN;refine wp_region_invA (by kernel_rfl) rfl (by kernel_rfl) (fun A0 V0 dd aa ww=>∃ (y17 y18 y19 y20 y21 y22 y23 y24 y25 y26 y27 y28 y29 y16 y30 y31 y8 y9:Value),aa=puts A0 [(17,y17),(18,y18),(19,y19),(20,y20),(21,y21),(22,y22),(23,y23),(24,y24),(25,y25),(26,y26),(27,y27),(28,y28),(29,y29),(16,y16),(30,y30),(31,y31),(8,y8),(9,y9)]∧Moves (fun _=>False) V0 ww∧(∀ k,k<V0.heap.size→(fun _=>False) k→(fun _=>False) k)∧(∀ k,(fun _=>False) k→k<ww.heap.size)∧Shut (dd 0=true→y17 = .int .i64 0)∧Shut (dd 1=true→y18 = .pointer (some ⟨bp,0,none⟩))∧Shut (dd 2=true→y19 = .slice (some ⟨G,0,none⟩) K1 C)∧Shut (dd 3=true→y20 = .int .i64 0)∧Shut (dd 4=true→y21 = .pointer (some ⟨bp,0,none⟩))∧Shut (dd 5=true→y22 = .slice (some ⟨G,0,none⟩) K1 C)∧Shut (dd 6=true→y23 = .int .i64 (K1:Int))∧Shut (dd 7=true→y24 = .int .i64 (N:Int))∧Shut (dd 8=true→y25 = .pointer (some ⟨G,N*3,none⟩))∧Shut (dd 9=true→y26 = .agg #[.bool (neg A.num),.slice b1 m1 k1,.slice b2 m2 k2])∧Shut (dd 10=true→y27 = .agg #[.bool (neg Q.num),.slice a1 n1 c1,.slice a2 n2 c2])∧Shut (dd 11=true→dd 12=false→RowN (fun _=>False) 2 (ratsF [A,Q]) y28 ww)∧Shut (dd 12=true→OkN (A1) y29 ww)∧Shut (dd 13=true→y16=y29)∧Shut (dd 14=true→y30=part 0 y16)∧Shut (dd 15=true→y31=part 1 y16)∧Shut (dd 16=true→BoxN V0.heap.size (fun _=>False) y8 ww)∧Shut (dd 17=true→BoxQ V0.heap.size (fun _=>False) (A1) y8 ww)∧Shut (dd 18=true→y9=y31)) ?_ ?_ ?_
    · exact ⟨_,_,_,_,_,_,_,_,_,_,_,_,_,_,_,_,_,_,puts_self _ [17,18,19,20,21,22,23,24,25,26,27,28,29,16,30,31,8,9],Moves.drew _ _,fun _ _ h=>h,hXl0,nf,nf,nf,nf,nf,nf,nf,nf,nf,nf,nf,nf,nf,nf,nf,nf,nf,nf,nf⟩
    · refine Steps.cons ?_ (Steps.cons ?_ (Steps.cons ?_ (Steps.cons ?_ (Steps.cons ?_ (Steps.cons ?_ (Steps.cons ?_ (Steps.cons ?_ (Steps.cons ?_ (Steps.cons ?_ (Steps.cons ?_ (Steps.cons ?_ (Steps.cons ?_ (Steps.cons ?_ (Steps.cons ?_ (Steps.cons ?_ (Steps.cons ?_ (Steps.cons ?_ (Steps.cons ?_ (Steps.nil)))))))))))))))))))
      all_goals (intro dd aa ww K hc hun hn hI hK;obtain ⟨y17,y18,y19,y20,y21,y22,y23,y24,y25,y26,y27,y28,y29,y16,y30,y31,y8,y9,ea,hM,hXX,hXl,f0,f1,f2,f3,f4,f5,f6,f7,f8,f9,f10,f11,f12,f13,f14,f15,f16,f17,f18⟩:=hI;subst ea;simp only [pu])
      · go_simp;exact hK.out _ _ ⟨_,_,_,_,_,_,_,_,_,_,_,_,_,_,_,_,_,_,by simp only [pu]<;>rfl,hM,hXX,hXl,fun _=>rfl,uo f1,uo f2,uo f3,uo f4,uo f5,uo f6,uo f7,uo f8,uo f9,uo f10,hc.a hun,uo f12,hc.a hun,hc.a hun,hc.a hun,uo f16,uo f17,hc.a hun⟩
      · obtain rfl:=f0.out (hc.see hn);go_simp;exact hK.out _ _ ⟨_,_,_,_,_,_,_,_,_,_,_,_,_,_,_,_,_,_,by simp only [pu]<;>rfl,hM,hXX,hXl,fun h=>rfl,fun _=>rfl,uo f2,uo f3,uo f4,uo f5,uo f6,uo f7,uo f8,uo f9,uo f10,hc.a hun,uo f12,hc.a hun,hc.a hun,hc.a hun,uo f16,uo f17,hc.a hun⟩
      · obtain rfl:=f1.out (hc.see hn);have e0:=(hM.stays.cell id qp);go_simp;exact hK.out _ _ ⟨_,_,_,_,_,_,_,_,_,_,_,_,_,_,_,_,_,_,by simp only [pu]<;>rfl,hM,hXX,hXl,uo f0,fun h=>rfl,fun _=>rfl,uo f3,uo f4,uo f5,uo f6,uo f7,uo f8,uo f9,uo f10,hc.a hun,uo f12,hc.a hun,hc.a hun,hc.a hun,uo f16,uo f17,hc.a hun⟩
      · go_simp;exact hK.out _ _ ⟨_,_,_,_,_,_,_,_,_,_,_,_,_,_,_,_,_,_,by simp only [pu]<;>rfl,hM,hXX,hXl,uo f0,uo f1,uo f2,fun _=>rfl,uo f4,uo f5,uo f6,uo f7,uo f8,uo f9,uo f10,hc.a hun,uo f12,hc.a hun,hc.a hun,hc.a hun,uo f16,uo f17,hc.a hun⟩
      · obtain rfl:=f3.out (hc.see hn);go_simp;exact hK.out _ _ ⟨_,_,_,_,_,_,_,_,_,_,_,_,_,_,_,_,_,_,by simp only [pu]<;>rfl,hM,hXX,hXl,uo f0,uo f1,uo f2,fun h=>rfl,fun _=>rfl,uo f5,uo f6,uo f7,uo f8,uo f9,uo f10,hc.a hun,uo f12,hc.a hun,hc.a hun,hc.a hun,uo f16,uo f17,hc.a hun⟩
      · obtain rfl:=f4.out (hc.see hn);have e0:=(hM.stays.cell id qp);go_simp;exact hK.out _ _ ⟨_,_,_,_,_,_,_,_,_,_,_,_,_,_,_,_,_,_,by simp only [pu]<;>rfl,hM,hXX,hXl,uo f0,uo f1,uo f2,uo f3,fun h=>rfl,fun _=>rfl,uo f6,uo f7,uo f8,uo f9,uo f10,hc.a hun,uo f12,hc.a hun,hc.a hun,hc.a hun,uo f16,uo f17,hc.a hun⟩
      · obtain rfl:=f5.out (hc.see hn);go_simp;exact hK.out _ _ ⟨_,_,_,_,_,_,_,_,_,_,_,_,_,_,_,_,_,_,by simp only [pu]<;>rfl,hM,hXX,hXl,uo f0,uo f1,uo f2,uo f3,uo f4,fun h=>rfl,fun _=>rfl,uo f7,uo f8,uo f9,uo f10,hc.a hun,uo f12,hc.a hun,hc.a hun,hc.a hun,uo f16,uo f17,hc.a hun⟩
      · obtain rfl:=f6.out (hc.see hn);go_simp;rw [HW.out];exact hK.out _ _ ⟨_,_,_,_,_,_,_,_,_,_,_,_,_,_,_,_,_,_,by simp only [pu]<;>rfl,hM,hXX,hXl,uo f0,uo f1,uo f2,uo f3,uo f4,uo f5,fun h=>rfl,fun _=>rfl,uo f8,uo f9,uo f10,hc.a hun,uo f12,hc.a hun,hc.a hun,hc.a hun,uo f16,uo f17,hc.a hun⟩
      · obtain rfl:=f2.out (hc.see hn);obtain rfl:=f7.out (hc.see hn);go_simp;exact hK.out _ _ ⟨_,_,_,_,_,_,_,_,_,_,_,_,_,_,_,_,_,_,by simp only [pu]<;>rfl,hM,hXX,hXl,uo f0,uo f1,fun h=>rfl,uo f3,uo f4,uo f5,uo f6,fun h=>rfl,fun _=>rfl,uo f9,uo f10,hc.a hun,uo f12,hc.a hun,hc.a hun,hc.a hun,uo f16,uo f17,hc.a hun⟩
      · obtain rfl:=f8.out (hc.see hn);have e0:=(hM.stays.cell id z0);have e1:=(hM.stays.cell id z1);have e2:=(hM.stays.cell id z2);go_simp;exact hK.out _ _ ⟨_,_,_,_,_,_,_,_,_,_,_,_,_,_,_,_,_,_,by simp only [pu]<;>rfl,hM,hXX,hXl,uo f0,uo f1,uo f2,uo f3,uo f4,uo f5,uo f6,uo f7,fun h=>rfl,fun _=>rfl,uo f10,hc.a hun,uo f12,hc.a hun,hc.a hun,hc.a hun,uo f16,uo f17,hc.a hun⟩
      · have e0:=(hM.stays.cell id qr0);have e1:=(hM.stays.cell id qr1);have e2:=(hM.stays.cell id qr2);go_simp;exact hK.out _ _ ⟨_,_,_,_,_,_,_,_,_,_,_,_,_,_,_,_,_,_,by simp only [pu]<;>rfl,hM,hXX,hXl,uo f0,uo f1,uo f2,uo f3,uo f4,uo f5,uo f6,uo f7,uo f8,uo f9,fun _=>rfl,hc.a hun,uo f12,hc.a hun,hc.a hun,hc.a hun,uo f16,uo f17,hc.a hun⟩
      · obtain rfl:=f9.out (hc.see hn);obtain rfl:=f10.out (hc.see hn);go_simp;exact hK.out _ _ ⟨_,_,_,_,_,_,_,_,_,_,_,_,_,_,_,_,_,_,by simp only [pu]<;>rfl,hM.then (Moves.alloc (fun _=>False) ww _) hXX,hXX,(fun k hk=>nLt (hXl k hk) (by simp)),uo f0,uo f1,uo f2,uo f3,uo f4,uo f5,uo f6,uo f7,uo f8,fun h=>rfl,fun h=>rfl,fun _ _=>RowN.two _ hXl (D1.stays hM.stays) (D2.stays hM.stays) (e1.stays hM.stays) (e2.stays hM.stays),hc.a hun,hc.a hun,hc.a hun,hc.a hun,fun h=>(f16.out (upd_of rfl h)).goes (Goes.alloc (fun _=>False) ww _),hc.a hun,hc.a hun⟩
      · obtain ⟨G11,ex,hR,_,nG11⟩:=f11.out (hc.see hn) hun;subst ex;go_simp
        with_reducible refine (mul_two hR L1.out L2.out).mono ?_
        rintro e w1 ⟨ahK1U,nhK1U,chK1U,ahK1D,nhK1D,chK1D,rfl,hK1U,hK1D,h1⟩;rw [HP1.out] at hK1U hK1D ⊢;have hK1U:=hK1U.toNatAt;have hK1D:=hK1D.toNatAt;have hm1:Moves (fun _=>False) ww w1:=.ofBelow h1;have hgo:Goes (fun _=>False) (fun _=>False) ww w1:=.below h1;exact hK.out _ _ ⟨_,_,_,_,_,_,_,_,_,_,_,_,_,_,_,_,_,_,by simp only [pu]<;>rfl,hM.then hm1 hXX,hXX,(fun k hk=>nLt (hXl k hk) hm1.size),uo f0,uo f1,uo f2,uo f3,uo f4,uo f5,uo f6,uo f7,uo f8,uo f9,uo f10,fun _ h2=>absurd h2 (by simp [upd]),fun _=>⟨_,_,_,_,_,_,rfl,hK1U,hK1D⟩,hc.a hun,hc.a hun,hc.a hun,fun h=>(f16.out (upd_of rfl h)).goes hgo,hc.a hun,hc.a hun⟩
      · obtain ⟨ahK1U,nhK1U,chK1U,ahK1D,nhK1D,chK1D,ex,hK1U,hK1D⟩:=f12.out (hc.see hn);subst ex;go_simp;exact hK.out _ _ ⟨_,_,_,_,_,_,_,_,_,_,_,_,_,_,_,_,_,_,by simp only [pu]<;>rfl,hM,hXX,hXl,uo f0,uo f1,uo f2,uo f3,uo f4,uo f5,uo f6,uo f7,uo f8,uo f9,uo f10,fun _ h2=>absurd (show dd 12=true from (hc.see hn)) (by rw [upd_off h2];decide),uo f12,fun _=>rfl,hc.a hun,hc.a hun,uo f16,uo f17,hc.a hun⟩
      · obtain ⟨ahK1U,nhK1U,chK1U,ahK1D,nhK1D,chK1D,ex,hK1U,hK1D⟩:=f12.out (hc.see hn);subst ex;have ex:y16 = .tuple #[.agg #[.bool (neg (A1).num),.slice ahK1U nhK1U chK1U,.slice ahK1D nhK1D chK1D],.int .i64 0]:=f13.out (hc.see hn);subst ex;go_simp;exact hK.out _ _ ⟨_,_,_,_,_,_,_,_,_,_,_,_,_,_,_,_,_,_,by simp only [pu]<;>rfl,hM,hXX,hXl,uo f0,uo f1,uo f2,uo f3,uo f4,uo f5,uo f6,uo f7,uo f8,uo f9,uo f10,fun _ h2=>absurd (show dd 12=true from (hc.see hn)) (by rw [upd_off h2];decide),uo f12,fun h=>rfl,fun _=>rfl,uo f15,uo f16,uo f17,uo f18⟩
      · obtain ⟨ahK1U,nhK1U,chK1U,ahK1D,nhK1D,chK1D,ex,hK1U,hK1D⟩:=f12.out (hc.see hn);subst ex;have ex:y16 = .tuple #[.agg #[.bool (neg (A1).num),.slice ahK1U nhK1U chK1U,.slice ahK1D nhK1D chK1D],.int .i64 0]:=f13.out (hc.see hn);subst ex;go_simp;exact hK.out _ _ ⟨_,_,_,_,_,_,_,_,_,_,_,_,_,_,_,_,_,_,by simp only [pu]<;>rfl,hM,hXX,hXl,uo f0,uo f1,uo f2,uo f3,uo f4,uo f5,uo f6,uo f7,uo f8,uo f9,uo f10,fun _ h2=>absurd (show dd 12=true from (hc.see hn)) (by rw [upd_off h2];decide),uo f12,fun h=>rfl,uo f14,fun _=>rfl,uo f16,uo f17,hc.a hun⟩
      · go_simp;exact hK.out _ _ ⟨_,_,_,_,_,_,_,_,_,_,_,_,_,_,_,_,_,_,by simp only [pu]<;>rfl,hM.then (Moves.alloc (fun _=>False) ww _) hXX,hXX,(fun k hk=>nLt (hXl k hk) (by simp)),uo f0,uo f1,uo f2,uo f3,uo f4,uo f5,uo f6,uo f7,uo f8,uo f9,uo f10,fun h h2=>((f11.out (upd_of rfl h)) (upd_off h2)).goes (Goes.alloc (fun _=>False) ww _),fun h=>(f12.out (upd_of rfl h)).calm (Goes.alloc (fun _=>False) ww _).st,uo f13,uo f14,uo f15,fun _=>BoxN.new _ hM.size hXl,hc.a hun,uo f18⟩
      · obtain ⟨B16,ex,bB16,oB16,lB16,nB16⟩:=f16.out (hc.see hn);subst ex;obtain ⟨ahK1U,nhK1U,chK1U,ahK1D,nhK1D,chK1D,ex,hK1U,hK1D⟩:=f12.out (hc.see hn);subst ex;have ex:y16 = .tuple #[.agg #[.bool (neg (A1).num),.slice ahK1U nhK1U chK1U,.slice ahK1D nhK1D chK1D],.int .i64 0]:=f13.out (hc.see hn);subst ex;have ex:y30 = .agg #[.bool (neg (A1).num),.slice ahK1U nhK1U chK1U,.slice ahK1D nhK1D chK1D]:=f14.out (hc.see hn);subst ex;obtain ⟨v0,v1,v2,s0,s1,s2,s3,s4,s5,_,_,_⟩:=bB16.three;go_simp;have hst:=(bB16.setQ (A1) hK1U hK1D).2;exact hK.out _ _ ⟨_,_,_,_,_,_,_,_,_,_,_,_,_,_,_,_,_,_,by simp only [pu]<;>rfl,hM.then hst (fun k hk e=>absurd (e ▸ hk:B16<_) (Nat.not_lt.2 oB16)),hXX,(fun k hk=>by simpa using hXl k hk),uo f0,uo f1,uo f2,uo f3,uo f4,uo f5,uo f6,uo f7,uo f8,uo f9,uo f10,fun _ h2=>absurd (show dd 12=true from (hc.see hn)) (by rw [upd_off h2];decide),fun h=>(f12.out (upd_of rfl h)).calm hst.stays,fun h=>rfl,fun h=>rfl,uo f15,fun _=>⟨_,rfl,(bB16.setQ (A1) hK1U hK1D).1.box,oB16,by simpa using lB16,nB16⟩,fun _=>BoxN.store bB16 oB16 lB16 nB16 hK1U hK1D,uo f18⟩
      obtain ⟨ahK1U,nhK1U,chK1U,ahK1D,nhK1D,chK1D,ex,hK1U,hK1D⟩:=f12.out (hc.see hn);subst ex;have ex:y16 = .tuple #[.agg #[.bool (neg (A1).num),.slice ahK1U nhK1U chK1U,.slice ahK1D nhK1D chK1D],.int .i64 0]:=f13.out (hc.see hn);subst ex;have ex:y31 = .int .i64 0:=f15.out (hc.see hn);subst ex;go_simp;exact hK.out _ _ ⟨_,_,_,_,_,_,_,_,_,_,_,_,_,_,_,_,_,_,by simp only [pu]<;>rfl,hM,hXX,hXl,uo f0,uo f1,uo f2,uo f3,uo f4,uo f5,uo f6,uo f7,uo f8,uo f9,uo f10,fun _ h2=>absurd (show dd 12=true from (hc.see hn)) (by rw [upd_off h2];decide),uo f12,fun h=>rfl,uo f14,fun h=>rfl,uo f16,uo f17,fun _=>rfl⟩
    intro dd aa W1 hd hI;obtain ⟨y17,y18,y19,y20,y21,y22,y23,y24,y25,y26,y27,y28,y29,y16,y30,y31,y8,y9,ea,hM,hXX,hXl,f0,f1,f2,f3,f4,f5,f6,f7,f8,f9,f10,f11,f12,f13,f14,f15,f16,f17,f18⟩:=hI;obtain rfl:=f0.out (hd 0 (by simp));obtain rfl:=f1.out (hd 1 (by simp));obtain rfl:=f2.out (hd 2 (by simp));obtain rfl:=f3.out (hd 3 (by simp));obtain rfl:=f4.out (hd 4 (by simp));obtain rfl:=f5.out (hd 5 (by simp));obtain rfl:=f6.out (hd 6 (by simp));obtain rfl:=f7.out (hd 7 (by simp));obtain rfl:=f8.out (hd 8 (by simp));obtain rfl:=f9.out (hd 9 (by simp));obtain rfl:=f10.out (hd 10 (by simp));obtain ⟨ahK1U,nhK1U,chK1U,ahK1D,nhK1D,chK1D,ex,hK1U,hK1D⟩:=f12.out (hd 12 (by simp));subst ex;have ex:y16 = .tuple #[.agg #[.bool (neg (A1).num),.slice ahK1U nhK1U chK1U,.slice ahK1D nhK1D chK1D],.int .i64 0]:=f13.out (hd 13 (by simp));subst ex;have ex:y30 = .agg #[.bool (neg (A1).num),.slice ahK1U nhK1U chK1U,.slice ahK1D nhK1D chK1D]:=f14.out (hd 14 (by simp));subst ex;have ex:y31 = .int .i64 0:=f15.out (hd 15 (by simp));subst ex;have ex:y9 = .int .i64 0:=f18.out (hd 18 (by simp));subst ex;obtain ⟨B16,bx1,bx2,bx3,bx4,bx5,bx6,ex,bB16,oB16,lB16,nB16,q160,q161,q162,d16U,d16D⟩:=f17.out (hd 17 (by simp));subst ex;subst ea;simp only [pu];have hp1:PwAt W1 bp P g n c:=HP.out.stays hM.stays (fun _ _=>id);have hM1:=hM;have qp1:=hM.stays.cell id qp
    clear hM hXX hXl hXl0
    go_wp2_with fail
    have hXl0:∀ k,PwX bp g k→k<W1.heap.size:=hp1.lt;have nB:¬ PwX bp g B16:=fun h=>by have:=HP.out.lt _ h;omega
    have HP1:=hiD hp1;refine wp_region_invA (by kernel_rfl) rfl (by kernel_rfl) (fun A0 V0 dd aa ww=>∃ (y32 y33 y34 y35 y36 y37 y38 y39:Value),aa=puts A0 [(32,y32),(33,y33),(34,y34),(35,y35),(36,y36),(37,y37),(38,y38),(39,y39)]∧Moves (PwX bp g) V0 ww∧(∀ k,k<V0.heap.size→(PwX bp g) k→(PwX bp g) k)∧(∀ k,(PwX bp g) k→k<ww.heap.size)∧(Shut (dd 8=false→PwAt ww bp P g n c))∧Shut (dd 0=true→y32 = .int .i64 0)∧Shut (dd 1=true→y33 = .int .i64 0)∧Shut (dd 2=true→y34 = .pointer (some ⟨bp,0,none⟩))∧Shut (dd 3=true→y35 = .slice (some ⟨G,0,none⟩) K1 C)∧Shut (dd 4=true→y36 = .agg #[.bool (neg A1.num),.slice bx1 bx2 bx3,.slice bx4 bx5 bx6])∧Shut (dd 5=true→dd 6=false→RowN (PwX bp g) 1 (ratsF [A1]) y37 ww)∧Shut (dd 6=true→dd 8=false→AppG V0.heap.size (fun j=>P 0 ^ j) G K1 y38 ww)∧Shut (dd 7=true→y39 = .pointer (some ⟨bp,0,none⟩))∧Shut (dd 8=true→PutG V0.heap.size bp P g n c 0 ww)) ?_ ?_ ?_
    · exact ⟨_,_,_,_,_,_,_,_,puts_self _ [32,33,34,35,36,37,38,39],Moves.drew _ _,fun _ _ h=>h,hXl0,fun _=>HP1.out.past (bRf _ _).drew,nf,nf,nf,nf,nf,nf,nf,nf,nf⟩
    · refine Steps.cons ?_ (Steps.cons ?_ (Steps.cons ?_ (Steps.cons ?_ (Steps.cons ?_ (Steps.cons ?_ (Steps.cons ?_ (Steps.cons ?_ (Steps.cons ?_ (Steps.nil)))))))))
      all_goals (intro dd aa ww K hc hun hn hI hK;obtain ⟨y32,y33,y34,y35,y36,y37,y38,y39,ea,hM,hXX,hXl,S,f0,f1,f2,f3,f4,f5,f6,f7,f8⟩:=hI;subst ea;simp only [pu])
      · go_simp;exact hK.out _ _ ⟨_,_,_,_,_,_,_,_,by simp only [pu]<;>rfl,hM,hXX,hXl,fun h=>S.out (upd_off h),fun _=>rfl,uo f1,uo f2,uo f3,uo f4,fun h h2=>((f5.out (upd_of rfl h)) (upd_off h2)),fun h h2=>((f6.out (upd_of rfl h)) (upd_off h2)),uo f7,uo f8⟩
      · go_simp;exact hK.out _ _ ⟨_,_,_,_,_,_,_,_,by simp only [pu]<;>rfl,hM,hXX,hXl,fun h=>S.out (upd_off h),uo f0,fun _=>rfl,uo f2,uo f3,uo f4,fun h h2=>((f5.out (upd_of rfl h)) (upd_off h2)),hc.a hun,uo f7,uo f8⟩
      · obtain rfl:=f1.out (hc.see hn);go_simp;exact hK.out _ _ ⟨_,_,_,_,_,_,_,_,by simp only [pu]<;>rfl,hM,hXX,hXl,fun h=>S.out (upd_off h),uo f0,fun h=>rfl,fun _=>rfl,uo f3,uo f4,fun h h2=>((f5.out (upd_of rfl h)) (upd_off h2)),hc.a hun,uo f7,uo f8⟩
      · obtain rfl:=f2.out (hc.see hn);have e0:=(S.out (hc.not (f:=20) (s:=8) (l:=3) (by kernel_rfl) hun)).cell 0 (by decide);rw [HG.out,HC.out,HN.out] at e0;go_simp;exact hK.out _ _ ⟨_,_,_,_,_,_,_,_,by simp only [pu]<;>rfl,hM,hXX,hXl,fun h=>S.out (upd_off h),uo f0,uo f1,fun h=>rfl,fun _=>rfl,uo f4,fun h h2=>((f5.out (upd_of rfl h)) (upd_off h2)),hc.a hun,uo f7,uo f8⟩
      · have e0:=(hM.stays.cell nB q160);have e1:=(hM.stays.cell nB q161);have e2:=(hM.stays.cell nB q162);go_simp;exact hK.out _ _ ⟨_,_,_,_,_,_,_,_,by simp only [pu]<;>rfl,hM,hXX,hXl,fun h=>S.out (upd_off h),uo f0,uo f1,uo f2,uo f3,fun _=>rfl,hc.a hun,hc.a hun,uo f7,uo f8⟩
      · obtain rfl:=f4.out (hc.see hn);go_simp;exact hK.out _ _ ⟨_,_,_,_,_,_,_,_,by simp only [pu]<;>rfl,hM.then (Moves.alloc (PwX bp g) ww _) hXX,hXX,(fun k hk=>nLt (hXl k hk) (by simp)),fun h=>(S.out (upd_off h)).past ((bRf _ _).alloc (nRf _) _),uo f0,uo f1,uo f2,uo f3,fun h=>rfl,fun _ _=>RowN.one _ hXl (d16U.stays hM.stays) (d16D.stays hM.stays),hc.a hun,uo f7,hc.a hun⟩
      · obtain rfl:=f3.out (hc.see hn);obtain ⟨G5,ex,hR1,_,nG5⟩:=f5.out (hc.see hn) hun;subst ex;have hS:=S.out (hc.not (f:=20) (s:=8) (l:=6) (by kernel_rfl) hun);have hg5:=hS.row 0 (by decide);rw [HG.out,HC.out,HN.out] at hg5;rw [if_pos (by rfl)];refine oper_push_grid _ _ rfl G C K1 (fun j=>P 0 ^ j) rfl hg5 (by omega) G5 rfl A1 (by show P 0 ^ K1=A1;rw [HQ.out,HA1.out]) hR1.oneF (by omega) ?_;intro g5 c5 w1 hA5 hm0 hor;have hm1:Moves (PwX bp g) ww w1:=hm0.mono (fun k _ e=>by rw [e,← HG.out];exact PwX.row (by decide));have hgo:Goes (PwX bp g) (PwX bp g) ww w1:=⟨hm1.stays,fun _ _ h=>h⟩
        have hA6:g5=G∨W1.heap.size≤g5:=by
         have:=hM.size;rcases hor with ⟨e,_⟩ | ⟨e,_⟩
         · exact .inl e
         exact .inr (by omega)
        have hS2:PwAt w1 bp P g n c:=hS.app (i:=0) (g':=g5) (c':=c5) (by decide) (by rw [HG.out];exact hm0) (by rw [HN.out];exact hA5) (by rw [HG.out,HC.out];exact hor);exact hK.out _ _ ⟨_,_,_,_,_,_,_,_,by simp only [pu]<;>rfl,hM.then hm1 hXX,hXX,(fun k hk=>nLt (hXl k hk) hm1.size),fun _=>hS2,uo f0,uo f1,uo f2,fun h=>rfl,uo f4,fun _ h2=>absurd h2 (by simp [upd]),fun _ _=>⟨_,_,rfl,hA5,hA6⟩,uo f7,hc.a hun⟩
      · obtain rfl:=f0.out (hc.see hn);go_simp;exact hK.out _ _ ⟨_,_,_,_,_,_,_,_,by simp only [pu]<;>rfl,hM,hXX,hXl,fun h=>S.out (upd_off h),fun h=>rfl,uo f1,uo f2,uo f3,uo f4,fun h h2=>((f5.out (upd_of rfl h)) (upd_off h2)),fun h h2=>((f6.out (upd_of rfl h)) (upd_off h2)),fun _=>rfl,uo f8⟩
      obtain rfl:=f7.out (hc.see hn);obtain ⟨g5,c5,ex,hA5,hA6⟩:=f6.out (hc.see hn) hun;subst ex;have hS:=S.out hun;have e0:=hS.cell 0 (by decide);have e1:=hS.box.f 0 (by decide);have hput:=hS.put (i:=0) (g':=g5) (c':=c5) (B:=W1.heap.size) (by decide) (by rw [HN.out];exact hA5) (by rw [HG.out];exact hA6) hXl0 (by rw [HN.out];omega);rw [HN.out] at hput;go_simp;exact hK.out _ _ ⟨_,_,_,_,_,_,_,_,by simp only [pu]<;>rfl,hM.trans (hput.2.mono (fun k _ e => .inl e)),hXX,(fun k hk=>by simpa using hXl k hk),fun h=>absurd h (by simp [upd]),uo f0,uo f1,uo f2,uo f3,uo f4,fun _ h2=>absurd (show dd 6=true from (hc.see hn)) (by rw [upd_off h2];decide),fun _ h2=>absurd h2 (by simp [upd]),fun h=>rfl,fun _=>⟨g5,c5,by rw [HN.out];exact hput.1,by rw [HG.out];exact hA6⟩⟩
    intro dd aa W2 hd hI;obtain ⟨y32,y33,y34,y35,y36,y37,y38,y39,ea,hM,hXX,hXl,S,f0,f1,f2,f3,f4,f5,f6,f7,f8⟩:=hI;obtain rfl:=f0.out (hd 0 (by simp));obtain rfl:=f1.out (hd 1 (by simp));obtain rfl:=f2.out (hd 2 (by simp));obtain rfl:=f3.out (hd 3 (by simp));obtain rfl:=f4.out (hd 4 (by simp));obtain rfl:=f7.out (hd 7 (by simp));subst ea;simp only [pu];obtain ⟨g5,c5,hp2,hg5⟩:=f8.out (hd 8 (by simp));have hM2:=hM
    go_wp2
    have hMw:=HMv.out;refine ⟨⟨_,_,_,hp2,?_,?_⟩,?_⟩
    · exact (hMw.then (hM1.mono (fun _ _ h=>h.elim)) (fun _ _ h=>h)).then hM2 HXg.out
    · exact fun k hk h=>HXg.out k hk (put1_X hg5 (by decide) k (nLt hk (nTr hMw.size hM1.size)) h)
    have h9:=hp2.cell 0 (by decide);rw [put1_at,put1_at,put1_at,HN.out] at h9;rw [h9,qp];simp only [lenV];omega
  obtain ⟨b1,m1,k1,b2,m2,k2,z0,z1,z2,D1,D2⟩:=hrow.at_ m (by omega);simp only [HQ.out] at z0 D1 D2;have hle:decide ((K1:Int)≤(m:Int))=false:=by simp;omega
  have hb1:m<K1:=by omega
  obtain ⟨A,hA⟩:∃ A,Q ^ m=A:=⟨_,rfl⟩;rw [hA] at z0 D1 D2;have HA:=hiD hA;clear hA;obtain ⟨v0,v1,v2,s0,s1,s2,s3,s4,s5,_,_,_⟩:=xo.three
  go_wp2
  obtain ⟨wF,hWF,hbF,q0,q1,q2,F1,F2,hmF⟩:=xo.setQ3 A D1 D2;rw [hWF];have hlt2:∀ k,k<w.heap.size→k<w2.heap.size:=fun k hk=>nLt hk hB.size
  refine bodyPost_ret (v:=.agg #[.bool (neg A.num),.slice b1 m1 k1,.slice b2 m2 k2]) ?_ rfl ⟨_,PwX bp g,rfl,⟨_,_,_,_,_,_,by rw [HA.out],by rw [HA.out];exact F1,by rw [HA.out];exact F2⟩,⟨g,n,c,HP.out.stays hmF.stays (fun k hk e=>nbo2 (e ▸ hk)),fun _=>Iff.rfl⟩,fun k hk h=>(HX.out k).2 (HXg.out k (hlt2 k hk) h),((Moves.ofBelow hB).then HMv.out (fun k hk h=>(HX.out k).2 h)).then hmF (fun k hk e=>by omega)⟩;simp [results,Tryz.f252,go_sem,q0,q1,q2]
theorem power1_any (bp:Nat) (P:Nat→Rat) (X0:Nat→Prop) (m:Nat) (a1:Option Addr) (n1 c1:Nat) (a2:Option Addr) (n2 c2:Nat) (w:World) (hs:PwSt w bp P X0) (hm:m≤4096) (hl:∀ j,j≤m→rlen (P 1 ^ j)≤1048576) (hl1:rlen (P 1)≤1048576)
 (e1:NatAt w a1 n1 c1 (digs (P 1).num.natAbs)) (e2:NatAt w a2 n2 c2 (digs (P 1).den)) :
 Calls Tryz.prog 252 #[.int .i64 1,.int .i64 (m:Int),.agg #[.bool (neg (P 1).num),.slice a1 n1 c1,.slice a2 n2 c2],.pointer (some ⟨bp,0,none⟩)] w (RetSt w (P 1 ^ m) X0 (fun w' X'=>PwSt w' bp P X')):=by
 obtain ⟨g0,k0,c0,hp,hX⟩:=hs;have hp0:=hp;have HX:=hiD hX;have HL:=hiD hl;have HL1:=hiD hl1;clear hX hl hl1;obtain ⟨Q,hQ⟩:∃ Q,P 1=Q:=⟨_,rfl⟩;rw [hQ] at e1 e2 ⊢;have HQ:=hiD hQ;clear hQ
 go_enter Tryz.func252,Tryz.ntmps252
 have hB:=bRf w.heap.size w
 go_wp2_with fail
 obtain ⟨w1,hW,hz0,hb,q,f⟩:=box1g w (w.heap.size) (by omega) #[.bool (neg Q.num),.slice a1 n1 c1,.slice a2 n2 c2] 28;rw [hW];clear hW;have e1:=e1.past hb;have e2:=e2.past hb;have hp:=hp.past hb;have hB:=bLt hB hb;clear hb;have lr:w.heap.size<w1.heap.size:=by omega
 have qr0:=q 0;have qr1:=q 1;have qr2:=q 2;simp only [lgA,lgZ,lgS] at qr0 qr1 qr2;clear q f;obtain ⟨w2,hW,hz1,hb,q,f⟩:=box1g w1 (w.heap.size+1) (by omega) #[.bool false,.slice none 0 0,.slice none 0 0] 28;rw [hW];clear hW;have e1:=e1.past hb;have e2:=e2.past hb;have hp:=hp.past hb;obtain ⟨qr0,qr1,qr2,lr⟩:=bq3 hb lr qr0 qr1 qr2;have hB:=bLt hB hb;clear hb;have lo:w.heap.size+1<w2.heap.size:=by omega
 have qo0:=q 0;have qo1:=q 1;have qo2:=q 2;simp only [lgA,lgZ,lgS] at qo0 qo1 qo2;have xo:BoxAt w2 (w.heap.size+1) 3:=BoxAt.of q f rfl (by simp [notU_bool,notU_slice,notU_i64]);clear q f;clear hz0;clear hz1;have hX1:∀ k,PwX bp g0 k→k<w.heap.size:=PwAt.lt hp0
 go_loopw [] (fun wr=>∃ g n c,PwAt wr bp P g n c∧Moves (PwX bp g0) w2 wr∧(∀ k,k<w2.heap.size→PwX bp g k→PwX bp g0 k)) (fun wr=>m+1-lenV (wr.cell? ⟨bp,1,none⟩))
 case atStart=>exact ⟨g0,k0,c0,hp,Moves.refl _ _,fun _ _ h=>h⟩
 case round =>
  obtain ⟨g,n,c,hp,hMv,hXg⟩:=hrel;have nbr:¬ PwX bp g0 (w.heap.size):=fun h=>by have:=hX1 _ h;omega
  have nbo:¬ PwX bp g0 (w.heap.size+1):=fun h=>by have:=hX1 _ h;omega
  have nbr2:¬ PwX bp g (w.heap.size):=fun h=>nbr (hXg _ lr h)
  have nbo2:¬ PwX bp g (w.heap.size+1):=fun h=>nbo (hXg _ lo h)
  have qr0:=hMv.stays.cell nbr qr0;have qr1:=hMv.stays.cell nbr qr1;have qr2:=hMv.stays.cell nbr qr2;have xo:=hMv.stays.box nbo xo;have e1:=e1.stays hMv.stays;have e2:=e2.stays hMv.stays;have lo2:=nLt lo hMv.size;have qp:=hp.cell 1 (by decide);have hrow:=hp.row 1 (by decide);have hone:=hp.one 1 (by decide);obtain ⟨K1,hN⟩:∃ K1,n 1=K1:=⟨_,rfl⟩;obtain ⟨G,hG⟩:∃ G,g 1=G:=⟨_,rfl⟩;obtain ⟨C,hC⟩:∃ C,c 1=C:=⟨_,rfl⟩;rw [hN] at hrow qp hone;rw [hG,hC] at hrow qp;have HXg:=hiD hXg;have HMv:=hiD hMv;have HG:=hiD hG;have HC:=hiD hC;have HN:=hiD hN;have HP:=hiD hp;clear hXg hMv hG hC hN hp
  by_cases hlt:K1≤m
  · have hle:decide ((K1:Int)≤(m:Int))=true:=by simp;omega
    go_wp2_with fail
    obtain ⟨N,hN⟩:∃ N,K1=N+1:=⟨K1-1,by omega⟩;obtain ⟨b1,m1,k1,b2,m2,k2,z0,z1,z2,D1,D2⟩:=hrow.at_ N (by omega);have HR:=hiD hrow;have hXl0:∀ k,(fun _:Nat=>False) k→k<wr.heap.size:=fun _ h=>h.elim
    have HW:=hiD (show IntKind.i64.wrap ((K1:Int)-1)=(N:Int) by rw [IntKind.wrap_i64];omega);have hb1:N<K1:=by omega
    have h0:(0:Int)≤(N:Int):=by omega
    have L1:=HL.out N (by omega);have HP1:Q ^ N*Q=Q ^ K1:=by rw [hN];exact (Rat.pow_succ ..).symm
    rw [HQ.out] at L1;simp only [HQ.out] at z0 D1 D2;have L2:=HL1.out;rw [HQ.out] at L2;have HN2:=hiD hN;obtain ⟨A,hA⟩:∃ A,Q ^ N=A:=⟨_,rfl⟩;obtain ⟨A1,hA1⟩:∃ A1,Q ^ K1=A1:=⟨_,rfl⟩;rw [hA,hA1] at HP1;rw [hA] at L1 z0 D1 D2;have HA:=hiD hA;have HA1:=hiD hA1;have HP1:=hiD HP1;have L1:=hiD L1;have L2:=hiD L2;clear hA hA1 hN;refine wp_region_invA (by kernel_rfl) rfl (by kernel_rfl) (fun A0 V0 dd aa ww=>∃ (y17 y18 y19 y20 y21 y22 y23 y24 y25 y26 y27 y28 y29 y16 y30 y31 y8 y9:Value),aa=puts A0 [(17,y17),(18,y18),(19,y19),(20,y20),(21,y21),(22,y22),(23,y23),(24,y24),(25,y25),(26,y26),(27,y27),(28,y28),(29,y29),(16,y16),(30,y30),(31,y31),(8,y8),(9,y9)]∧Moves (fun _=>False) V0 ww∧(∀ k,k<V0.heap.size→(fun _=>False) k→(fun _=>False) k)∧(∀ k,(fun _=>False) k→k<ww.heap.size)∧Shut (dd 0=true→y17 = .int .i64 1)∧Shut (dd 1=true→y18 = .pointer (some ⟨bp,1,none⟩))∧Shut (dd 2=true→y19 = .slice (some ⟨G,0,none⟩) K1 C)∧Shut (dd 3=true→y20 = .int .i64 1)∧Shut (dd 4=true→y21 = .pointer (some ⟨bp,1,none⟩))∧Shut (dd 5=true→y22 = .slice (some ⟨G,0,none⟩) K1 C)∧Shut (dd 6=true→y23 = .int .i64 (K1:Int))∧Shut (dd 7=true→y24 = .int .i64 (N:Int))∧Shut (dd 8=true→y25 = .pointer (some ⟨G,N*3,none⟩))∧Shut (dd 9=true→y26 = .agg #[.bool (neg A.num),.slice b1 m1 k1,.slice b2 m2 k2])∧Shut (dd 10=true→y27 = .agg #[.bool (neg Q.num),.slice a1 n1 c1,.slice a2 n2 c2])∧Shut (dd 11=true→dd 12=false→RowN (fun _=>False) 2 (ratsF [A,Q]) y28 ww)∧Shut (dd 12=true→OkN (A1) y29 ww)∧Shut (dd 13=true→y16=y29)∧Shut (dd 14=true→y30=part 0 y16)∧Shut (dd 15=true→y31=part 1 y16)∧Shut (dd 16=true→BoxN V0.heap.size (fun _=>False) y8 ww)∧Shut (dd 17=true→BoxQ V0.heap.size (fun _=>False) (A1) y8 ww)∧Shut (dd 18=true→y9=y31)) ?_ ?_ ?_
    · exact ⟨_,_,_,_,_,_,_,_,_,_,_,_,_,_,_,_,_,_,puts_self _ [17,18,19,20,21,22,23,24,25,26,27,28,29,16,30,31,8,9],Moves.drew _ _,fun _ _ h=>h,hXl0,nf,nf,nf,nf,nf,nf,nf,nf,nf,nf,nf,nf,nf,nf,nf,nf,nf,nf,nf⟩
    · refine Steps.cons ?_ (Steps.cons ?_ (Steps.cons ?_ (Steps.cons ?_ (Steps.cons ?_ (Steps.cons ?_ (Steps.cons ?_ (Steps.cons ?_ (Steps.cons ?_ (Steps.cons ?_ (Steps.cons ?_ (Steps.cons ?_ (Steps.cons ?_ (Steps.cons ?_ (Steps.cons ?_ (Steps.cons ?_ (Steps.cons ?_ (Steps.cons ?_ (Steps.cons ?_ (Steps.nil)))))))))))))))))))
      all_goals (intro dd aa ww K hc hun hn hI hK;obtain ⟨y17,y18,y19,y20,y21,y22,y23,y24,y25,y26,y27,y28,y29,y16,y30,y31,y8,y9,ea,hM,hXX,hXl,f0,f1,f2,f3,f4,f5,f6,f7,f8,f9,f10,f11,f12,f13,f14,f15,f16,f17,f18⟩:=hI;subst ea;simp only [pu])
      · go_simp;exact hK.out _ _ ⟨_,_,_,_,_,_,_,_,_,_,_,_,_,_,_,_,_,_,by simp only [pu]<;>rfl,hM,hXX,hXl,fun _=>rfl,uo f1,uo f2,uo f3,uo f4,uo f5,uo f6,uo f7,uo f8,uo f9,uo f10,hc.a hun,uo f12,hc.a hun,hc.a hun,hc.a hun,uo f16,uo f17,hc.a hun⟩
      · obtain rfl:=f0.out (hc.see hn);go_simp;exact hK.out _ _ ⟨_,_,_,_,_,_,_,_,_,_,_,_,_,_,_,_,_,_,by simp only [pu]<;>rfl,hM,hXX,hXl,fun h=>rfl,fun _=>rfl,uo f2,uo f3,uo f4,uo f5,uo f6,uo f7,uo f8,uo f9,uo f10,hc.a hun,uo f12,hc.a hun,hc.a hun,hc.a hun,uo f16,uo f17,hc.a hun⟩
      · obtain rfl:=f1.out (hc.see hn);have e0:=(hM.stays.cell id qp);go_simp;exact hK.out _ _ ⟨_,_,_,_,_,_,_,_,_,_,_,_,_,_,_,_,_,_,by simp only [pu]<;>rfl,hM,hXX,hXl,uo f0,fun h=>rfl,fun _=>rfl,uo f3,uo f4,uo f5,uo f6,uo f7,uo f8,uo f9,uo f10,hc.a hun,uo f12,hc.a hun,hc.a hun,hc.a hun,uo f16,uo f17,hc.a hun⟩
      · go_simp;exact hK.out _ _ ⟨_,_,_,_,_,_,_,_,_,_,_,_,_,_,_,_,_,_,by simp only [pu]<;>rfl,hM,hXX,hXl,uo f0,uo f1,uo f2,fun _=>rfl,uo f4,uo f5,uo f6,uo f7,uo f8,uo f9,uo f10,hc.a hun,uo f12,hc.a hun,hc.a hun,hc.a hun,uo f16,uo f17,hc.a hun⟩
      · obtain rfl:=f3.out (hc.see hn);go_simp;exact hK.out _ _ ⟨_,_,_,_,_,_,_,_,_,_,_,_,_,_,_,_,_,_,by simp only [pu]<;>rfl,hM,hXX,hXl,uo f0,uo f1,uo f2,fun h=>rfl,fun _=>rfl,uo f5,uo f6,uo f7,uo f8,uo f9,uo f10,hc.a hun,uo f12,hc.a hun,hc.a hun,hc.a hun,uo f16,uo f17,hc.a hun⟩
      · obtain rfl:=f4.out (hc.see hn);have e0:=(hM.stays.cell id qp);go_simp;exact hK.out _ _ ⟨_,_,_,_,_,_,_,_,_,_,_,_,_,_,_,_,_,_,by simp only [pu]<;>rfl,hM,hXX,hXl,uo f0,uo f1,uo f2,uo f3,fun h=>rfl,fun _=>rfl,uo f6,uo f7,uo f8,uo f9,uo f10,hc.a hun,uo f12,hc.a hun,hc.a hun,hc.a hun,uo f16,uo f17,hc.a hun⟩
      · obtain rfl:=f5.out (hc.see hn);go_simp;exact hK.out _ _ ⟨_,_,_,_,_,_,_,_,_,_,_,_,_,_,_,_,_,_,by simp only [pu]<;>rfl,hM,hXX,hXl,uo f0,uo f1,uo f2,uo f3,uo f4,fun h=>rfl,fun _=>rfl,uo f7,uo f8,uo f9,uo f10,hc.a hun,uo f12,hc.a hun,hc.a hun,hc.a hun,uo f16,uo f17,hc.a hun⟩
      · obtain rfl:=f6.out (hc.see hn);go_simp;rw [HW.out];exact hK.out _ _ ⟨_,_,_,_,_,_,_,_,_,_,_,_,_,_,_,_,_,_,by simp only [pu]<;>rfl,hM,hXX,hXl,uo f0,uo f1,uo f2,uo f3,uo f4,uo f5,fun h=>rfl,fun _=>rfl,uo f8,uo f9,uo f10,hc.a hun,uo f12,hc.a hun,hc.a hun,hc.a hun,uo f16,uo f17,hc.a hun⟩
      · obtain rfl:=f2.out (hc.see hn);obtain rfl:=f7.out (hc.see hn);go_simp;exact hK.out _ _ ⟨_,_,_,_,_,_,_,_,_,_,_,_,_,_,_,_,_,_,by simp only [pu]<;>rfl,hM,hXX,hXl,uo f0,uo f1,fun h=>rfl,uo f3,uo f4,uo f5,uo f6,fun h=>rfl,fun _=>rfl,uo f9,uo f10,hc.a hun,uo f12,hc.a hun,hc.a hun,hc.a hun,uo f16,uo f17,hc.a hun⟩
      · obtain rfl:=f8.out (hc.see hn);have e0:=(hM.stays.cell id z0);have e1:=(hM.stays.cell id z1);have e2:=(hM.stays.cell id z2);go_simp;exact hK.out _ _ ⟨_,_,_,_,_,_,_,_,_,_,_,_,_,_,_,_,_,_,by simp only [pu]<;>rfl,hM,hXX,hXl,uo f0,uo f1,uo f2,uo f3,uo f4,uo f5,uo f6,uo f7,fun h=>rfl,fun _=>rfl,uo f10,hc.a hun,uo f12,hc.a hun,hc.a hun,hc.a hun,uo f16,uo f17,hc.a hun⟩
      · have e0:=(hM.stays.cell id qr0);have e1:=(hM.stays.cell id qr1);have e2:=(hM.stays.cell id qr2);go_simp;exact hK.out _ _ ⟨_,_,_,_,_,_,_,_,_,_,_,_,_,_,_,_,_,_,by simp only [pu]<;>rfl,hM,hXX,hXl,uo f0,uo f1,uo f2,uo f3,uo f4,uo f5,uo f6,uo f7,uo f8,uo f9,fun _=>rfl,hc.a hun,uo f12,hc.a hun,hc.a hun,hc.a hun,uo f16,uo f17,hc.a hun⟩
      · obtain rfl:=f9.out (hc.see hn);obtain rfl:=f10.out (hc.see hn);go_simp;exact hK.out _ _ ⟨_,_,_,_,_,_,_,_,_,_,_,_,_,_,_,_,_,_,by simp only [pu]<;>rfl,hM.then (Moves.alloc (fun _=>False) ww _) hXX,hXX,(fun k hk=>nLt (hXl k hk) (by simp)),uo f0,uo f1,uo f2,uo f3,uo f4,uo f5,uo f6,uo f7,uo f8,fun h=>rfl,fun h=>rfl,fun _ _=>RowN.two _ hXl (D1.stays hM.stays) (D2.stays hM.stays) (e1.stays hM.stays) (e2.stays hM.stays),hc.a hun,hc.a hun,hc.a hun,hc.a hun,fun h=>(f16.out (upd_of rfl h)).goes (Goes.alloc (fun _=>False) ww _),hc.a hun,hc.a hun⟩
      · obtain ⟨G11,ex,hR,_,nG11⟩:=f11.out (hc.see hn) hun;subst ex;go_simp
        with_reducible refine (mul_two hR L1.out L2.out).mono ?_
        rintro e w1 ⟨ahK1U,nhK1U,chK1U,ahK1D,nhK1D,chK1D,rfl,hK1U,hK1D,h1⟩;rw [HP1.out] at hK1U hK1D ⊢;have hK1U:=hK1U.toNatAt;have hK1D:=hK1D.toNatAt;have hm1:Moves (fun _=>False) ww w1:=.ofBelow h1;have hgo:Goes (fun _=>False) (fun _=>False) ww w1:=.below h1;exact hK.out _ _ ⟨_,_,_,_,_,_,_,_,_,_,_,_,_,_,_,_,_,_,by simp only [pu]<;>rfl,hM.then hm1 hXX,hXX,(fun k hk=>nLt (hXl k hk) hm1.size),uo f0,uo f1,uo f2,uo f3,uo f4,uo f5,uo f6,uo f7,uo f8,uo f9,uo f10,fun _ h2=>absurd h2 (by simp [upd]),fun _=>⟨_,_,_,_,_,_,rfl,hK1U,hK1D⟩,hc.a hun,hc.a hun,hc.a hun,fun h=>(f16.out (upd_of rfl h)).goes hgo,hc.a hun,hc.a hun⟩
      · obtain ⟨ahK1U,nhK1U,chK1U,ahK1D,nhK1D,chK1D,ex,hK1U,hK1D⟩:=f12.out (hc.see hn);subst ex;go_simp;exact hK.out _ _ ⟨_,_,_,_,_,_,_,_,_,_,_,_,_,_,_,_,_,_,by simp only [pu]<;>rfl,hM,hXX,hXl,uo f0,uo f1,uo f2,uo f3,uo f4,uo f5,uo f6,uo f7,uo f8,uo f9,uo f10,fun _ h2=>absurd (show dd 12=true from (hc.see hn)) (by rw [upd_off h2];decide),uo f12,fun _=>rfl,hc.a hun,hc.a hun,uo f16,uo f17,hc.a hun⟩
      · obtain ⟨ahK1U,nhK1U,chK1U,ahK1D,nhK1D,chK1D,ex,hK1U,hK1D⟩:=f12.out (hc.see hn);subst ex;have ex:y16 = .tuple #[.agg #[.bool (neg (A1).num),.slice ahK1U nhK1U chK1U,.slice ahK1D nhK1D chK1D],.int .i64 0]:=f13.out (hc.see hn);subst ex;go_simp;exact hK.out _ _ ⟨_,_,_,_,_,_,_,_,_,_,_,_,_,_,_,_,_,_,by simp only [pu]<;>rfl,hM,hXX,hXl,uo f0,uo f1,uo f2,uo f3,uo f4,uo f5,uo f6,uo f7,uo f8,uo f9,uo f10,fun _ h2=>absurd (show dd 12=true from (hc.see hn)) (by rw [upd_off h2];decide),uo f12,fun h=>rfl,fun _=>rfl,uo f15,uo f16,uo f17,uo f18⟩
      · obtain ⟨ahK1U,nhK1U,chK1U,ahK1D,nhK1D,chK1D,ex,hK1U,hK1D⟩:=f12.out (hc.see hn);subst ex;have ex:y16 = .tuple #[.agg #[.bool (neg (A1).num),.slice ahK1U nhK1U chK1U,.slice ahK1D nhK1D chK1D],.int .i64 0]:=f13.out (hc.see hn);subst ex;go_simp;exact hK.out _ _ ⟨_,_,_,_,_,_,_,_,_,_,_,_,_,_,_,_,_,_,by simp only [pu]<;>rfl,hM,hXX,hXl,uo f0,uo f1,uo f2,uo f3,uo f4,uo f5,uo f6,uo f7,uo f8,uo f9,uo f10,fun _ h2=>absurd (show dd 12=true from (hc.see hn)) (by rw [upd_off h2];decide),uo f12,fun h=>rfl,uo f14,fun _=>rfl,uo f16,uo f17,hc.a hun⟩
      · go_simp;exact hK.out _ _ ⟨_,_,_,_,_,_,_,_,_,_,_,_,_,_,_,_,_,_,by simp only [pu]<;>rfl,hM.then (Moves.alloc (fun _=>False) ww _) hXX,hXX,(fun k hk=>nLt (hXl k hk) (by simp)),uo f0,uo f1,uo f2,uo f3,uo f4,uo f5,uo f6,uo f7,uo f8,uo f9,uo f10,fun h h2=>((f11.out (upd_of rfl h)) (upd_off h2)).goes (Goes.alloc (fun _=>False) ww _),fun h=>(f12.out (upd_of rfl h)).calm (Goes.alloc (fun _=>False) ww _).st,uo f13,uo f14,uo f15,fun _=>BoxN.new _ hM.size hXl,hc.a hun,uo f18⟩
      · obtain ⟨B16,ex,bB16,oB16,lB16,nB16⟩:=f16.out (hc.see hn);subst ex;obtain ⟨ahK1U,nhK1U,chK1U,ahK1D,nhK1D,chK1D,ex,hK1U,hK1D⟩:=f12.out (hc.see hn);subst ex;have ex:y16 = .tuple #[.agg #[.bool (neg (A1).num),.slice ahK1U nhK1U chK1U,.slice ahK1D nhK1D chK1D],.int .i64 0]:=f13.out (hc.see hn);subst ex;have ex:y30 = .agg #[.bool (neg (A1).num),.slice ahK1U nhK1U chK1U,.slice ahK1D nhK1D chK1D]:=f14.out (hc.see hn);subst ex;obtain ⟨v0,v1,v2,s0,s1,s2,s3,s4,s5,_,_,_⟩:=bB16.three;go_simp;have hst:=(bB16.setQ (A1) hK1U hK1D).2;exact hK.out _ _ ⟨_,_,_,_,_,_,_,_,_,_,_,_,_,_,_,_,_,_,by simp only [pu]<;>rfl,hM.then hst (fun k hk e=>absurd (e ▸ hk:B16<_) (Nat.not_lt.2 oB16)),hXX,(fun k hk=>by simpa using hXl k hk),uo f0,uo f1,uo f2,uo f3,uo f4,uo f5,uo f6,uo f7,uo f8,uo f9,uo f10,fun _ h2=>absurd (show dd 12=true from (hc.see hn)) (by rw [upd_off h2];decide),fun h=>(f12.out (upd_of rfl h)).calm hst.stays,fun h=>rfl,fun h=>rfl,uo f15,fun _=>⟨_,rfl,(bB16.setQ (A1) hK1U hK1D).1.box,oB16,by simpa using lB16,nB16⟩,fun _=>BoxN.store bB16 oB16 lB16 nB16 hK1U hK1D,uo f18⟩
      obtain ⟨ahK1U,nhK1U,chK1U,ahK1D,nhK1D,chK1D,ex,hK1U,hK1D⟩:=f12.out (hc.see hn);subst ex;have ex:y16 = .tuple #[.agg #[.bool (neg (A1).num),.slice ahK1U nhK1U chK1U,.slice ahK1D nhK1D chK1D],.int .i64 0]:=f13.out (hc.see hn);subst ex;have ex:y31 = .int .i64 0:=f15.out (hc.see hn);subst ex;go_simp;exact hK.out _ _ ⟨_,_,_,_,_,_,_,_,_,_,_,_,_,_,_,_,_,_,by simp only [pu]<;>rfl,hM,hXX,hXl,uo f0,uo f1,uo f2,uo f3,uo f4,uo f5,uo f6,uo f7,uo f8,uo f9,uo f10,fun _ h2=>absurd (show dd 12=true from (hc.see hn)) (by rw [upd_off h2];decide),uo f12,fun h=>rfl,uo f14,fun h=>rfl,uo f16,uo f17,fun _=>rfl⟩
    intro dd aa W1 hd hI;obtain ⟨y17,y18,y19,y20,y21,y22,y23,y24,y25,y26,y27,y28,y29,y16,y30,y31,y8,y9,ea,hM,hXX,hXl,f0,f1,f2,f3,f4,f5,f6,f7,f8,f9,f10,f11,f12,f13,f14,f15,f16,f17,f18⟩:=hI;obtain rfl:=f0.out (hd 0 (by simp));obtain rfl:=f1.out (hd 1 (by simp));obtain rfl:=f2.out (hd 2 (by simp));obtain rfl:=f3.out (hd 3 (by simp));obtain rfl:=f4.out (hd 4 (by simp));obtain rfl:=f5.out (hd 5 (by simp));obtain rfl:=f6.out (hd 6 (by simp));obtain rfl:=f7.out (hd 7 (by simp));obtain rfl:=f8.out (hd 8 (by simp));obtain rfl:=f9.out (hd 9 (by simp));obtain rfl:=f10.out (hd 10 (by simp));obtain ⟨ahK1U,nhK1U,chK1U,ahK1D,nhK1D,chK1D,ex,hK1U,hK1D⟩:=f12.out (hd 12 (by simp));subst ex;have ex:y16 = .tuple #[.agg #[.bool (neg (A1).num),.slice ahK1U nhK1U chK1U,.slice ahK1D nhK1D chK1D],.int .i64 0]:=f13.out (hd 13 (by simp));subst ex;have ex:y30 = .agg #[.bool (neg (A1).num),.slice ahK1U nhK1U chK1U,.slice ahK1D nhK1D chK1D]:=f14.out (hd 14 (by simp));subst ex;have ex:y31 = .int .i64 0:=f15.out (hd 15 (by simp));subst ex;have ex:y9 = .int .i64 0:=f18.out (hd 18 (by simp));subst ex;obtain ⟨B16,bx1,bx2,bx3,bx4,bx5,bx6,ex,bB16,oB16,lB16,nB16,q160,q161,q162,d16U,d16D⟩:=f17.out (hd 17 (by simp));subst ex;subst ea;simp only [pu];have hp1:PwAt W1 bp P g n c:=HP.out.stays hM.stays (fun _ _=>id);have hM1:=hM;have qp1:=hM.stays.cell id qp
    clear hM hXX hXl hXl0
    go_wp2_with fail
    have hXl0:∀ k,PwX bp g k→k<W1.heap.size:=hp1.lt;have nB:¬ PwX bp g B16:=fun h=>by have:=HP.out.lt _ h;omega
    have HP1:=hiD hp1;refine wp_region_invA (by kernel_rfl) rfl (by kernel_rfl) (fun A0 V0 dd aa ww=>∃ (y32 y33 y34 y35 y36 y37 y38 y39:Value),aa=puts A0 [(32,y32),(33,y33),(34,y34),(35,y35),(36,y36),(37,y37),(38,y38),(39,y39)]∧Moves (PwX bp g) V0 ww∧(∀ k,k<V0.heap.size→(PwX bp g) k→(PwX bp g) k)∧(∀ k,(PwX bp g) k→k<ww.heap.size)∧(Shut (dd 8=false→PwAt ww bp P g n c))∧Shut (dd 0=true→y32 = .int .i64 1)∧Shut (dd 1=true→y33 = .int .i64 1)∧Shut (dd 2=true→y34 = .pointer (some ⟨bp,1,none⟩))∧Shut (dd 3=true→y35 = .slice (some ⟨G,0,none⟩) K1 C)∧Shut (dd 4=true→y36 = .agg #[.bool (neg A1.num),.slice bx1 bx2 bx3,.slice bx4 bx5 bx6])∧Shut (dd 5=true→dd 6=false→RowN (PwX bp g) 1 (ratsF [A1]) y37 ww)∧Shut (dd 6=true→dd 8=false→AppG V0.heap.size (fun j=>P 1 ^ j) G K1 y38 ww)∧Shut (dd 7=true→y39 = .pointer (some ⟨bp,1,none⟩))∧Shut (dd 8=true→PutG V0.heap.size bp P g n c 1 ww)) ?_ ?_ ?_
    · exact ⟨_,_,_,_,_,_,_,_,puts_self _ [32,33,34,35,36,37,38,39],Moves.drew _ _,fun _ _ h=>h,hXl0,fun _=>HP1.out.past (bRf _ _).drew,nf,nf,nf,nf,nf,nf,nf,nf,nf⟩
    · refine Steps.cons ?_ (Steps.cons ?_ (Steps.cons ?_ (Steps.cons ?_ (Steps.cons ?_ (Steps.cons ?_ (Steps.cons ?_ (Steps.cons ?_ (Steps.cons ?_ (Steps.nil)))))))))
      all_goals (intro dd aa ww K hc hun hn hI hK;obtain ⟨y32,y33,y34,y35,y36,y37,y38,y39,ea,hM,hXX,hXl,S,f0,f1,f2,f3,f4,f5,f6,f7,f8⟩:=hI;subst ea;simp only [pu])
      · go_simp;exact hK.out _ _ ⟨_,_,_,_,_,_,_,_,by simp only [pu]<;>rfl,hM,hXX,hXl,fun h=>S.out (upd_off h),fun _=>rfl,uo f1,uo f2,uo f3,uo f4,fun h h2=>((f5.out (upd_of rfl h)) (upd_off h2)),fun h h2=>((f6.out (upd_of rfl h)) (upd_off h2)),uo f7,uo f8⟩
      · go_simp;exact hK.out _ _ ⟨_,_,_,_,_,_,_,_,by simp only [pu]<;>rfl,hM,hXX,hXl,fun h=>S.out (upd_off h),uo f0,fun _=>rfl,uo f2,uo f3,uo f4,fun h h2=>((f5.out (upd_of rfl h)) (upd_off h2)),hc.a hun,uo f7,uo f8⟩
      · obtain rfl:=f1.out (hc.see hn);go_simp;exact hK.out _ _ ⟨_,_,_,_,_,_,_,_,by simp only [pu]<;>rfl,hM,hXX,hXl,fun h=>S.out (upd_off h),uo f0,fun h=>rfl,fun _=>rfl,uo f3,uo f4,fun h h2=>((f5.out (upd_of rfl h)) (upd_off h2)),hc.a hun,uo f7,uo f8⟩
      · obtain rfl:=f2.out (hc.see hn);have e0:=(S.out (hc.not (f:=20) (s:=8) (l:=3) (by kernel_rfl) hun)).cell 1 (by decide);rw [HG.out,HC.out,HN.out] at e0;go_simp;exact hK.out _ _ ⟨_,_,_,_,_,_,_,_,by simp only [pu]<;>rfl,hM,hXX,hXl,fun h=>S.out (upd_off h),uo f0,uo f1,fun h=>rfl,fun _=>rfl,uo f4,fun h h2=>((f5.out (upd_of rfl h)) (upd_off h2)),hc.a hun,uo f7,uo f8⟩
      · have e0:=(hM.stays.cell nB q160);have e1:=(hM.stays.cell nB q161);have e2:=(hM.stays.cell nB q162);go_simp;exact hK.out _ _ ⟨_,_,_,_,_,_,_,_,by simp only [pu]<;>rfl,hM,hXX,hXl,fun h=>S.out (upd_off h),uo f0,uo f1,uo f2,uo f3,fun _=>rfl,hc.a hun,hc.a hun,uo f7,uo f8⟩
      · obtain rfl:=f4.out (hc.see hn);go_simp;exact hK.out _ _ ⟨_,_,_,_,_,_,_,_,by simp only [pu]<;>rfl,hM.then (Moves.alloc (PwX bp g) ww _) hXX,hXX,(fun k hk=>nLt (hXl k hk) (by simp)),fun h=>(S.out (upd_off h)).past ((bRf _ _).alloc (nRf _) _),uo f0,uo f1,uo f2,uo f3,fun h=>rfl,fun _ _=>RowN.one _ hXl (d16U.stays hM.stays) (d16D.stays hM.stays),hc.a hun,uo f7,hc.a hun⟩
      · obtain rfl:=f3.out (hc.see hn);obtain ⟨G5,ex,hR1,_,nG5⟩:=f5.out (hc.see hn) hun;subst ex;have hS:=S.out (hc.not (f:=20) (s:=8) (l:=6) (by kernel_rfl) hun);have hg5:=hS.row 1 (by decide);rw [HG.out,HC.out,HN.out] at hg5;rw [if_pos (by rfl)];refine oper_push_grid _ _ rfl G C K1 (fun j=>P 1 ^ j) rfl hg5 (by omega) G5 rfl A1 (by show P 1 ^ K1=A1;rw [HQ.out,HA1.out]) hR1.oneF (by omega) ?_;intro g5 c5 w1 hA5 hm0 hor;have hm1:Moves (PwX bp g) ww w1:=hm0.mono (fun k _ e=>by rw [e,← HG.out];exact PwX.row (by decide));have hgo:Goes (PwX bp g) (PwX bp g) ww w1:=⟨hm1.stays,fun _ _ h=>h⟩
        have hA6:g5=G∨W1.heap.size≤g5:=by
         have:=hM.size;rcases hor with ⟨e,_⟩ | ⟨e,_⟩
         · exact .inl e
         exact .inr (by omega)
        have hS2:PwAt w1 bp P g n c:=hS.app (i:=1) (g':=g5) (c':=c5) (by decide) (by rw [HG.out];exact hm0) (by rw [HN.out];exact hA5) (by rw [HG.out,HC.out];exact hor);exact hK.out _ _ ⟨_,_,_,_,_,_,_,_,by simp only [pu]<;>rfl,hM.then hm1 hXX,hXX,(fun k hk=>nLt (hXl k hk) hm1.size),fun _=>hS2,uo f0,uo f1,uo f2,fun h=>rfl,uo f4,fun _ h2=>absurd h2 (by simp [upd]),fun _ _=>⟨_,_,rfl,hA5,hA6⟩,uo f7,hc.a hun⟩
      · obtain rfl:=f0.out (hc.see hn);go_simp;exact hK.out _ _ ⟨_,_,_,_,_,_,_,_,by simp only [pu]<;>rfl,hM,hXX,hXl,fun h=>S.out (upd_off h),fun h=>rfl,uo f1,uo f2,uo f3,uo f4,fun h h2=>((f5.out (upd_of rfl h)) (upd_off h2)),fun h h2=>((f6.out (upd_of rfl h)) (upd_off h2)),fun _=>rfl,uo f8⟩
      obtain rfl:=f7.out (hc.see hn);obtain ⟨g5,c5,ex,hA5,hA6⟩:=f6.out (hc.see hn) hun;subst ex;have hS:=S.out hun;have e0:=hS.cell 1 (by decide);have e1:=hS.box.f 1 (by decide);have hput:=hS.put (i:=1) (g':=g5) (c':=c5) (B:=W1.heap.size) (by decide) (by rw [HN.out];exact hA5) (by rw [HG.out];exact hA6) hXl0 (by rw [HN.out];omega);rw [HN.out] at hput;go_simp;exact hK.out _ _ ⟨_,_,_,_,_,_,_,_,by simp only [pu]<;>rfl,hM.trans (hput.2.mono (fun k _ e => .inl e)),hXX,(fun k hk=>by simpa using hXl k hk),fun h=>absurd h (by simp [upd]),uo f0,uo f1,uo f2,uo f3,uo f4,fun _ h2=>absurd (show dd 6=true from (hc.see hn)) (by rw [upd_off h2];decide),fun _ h2=>absurd h2 (by simp [upd]),fun h=>rfl,fun _=>⟨g5,c5,by rw [HN.out];exact hput.1,by rw [HG.out];exact hA6⟩⟩
    intro dd aa W2 hd hI;obtain ⟨y32,y33,y34,y35,y36,y37,y38,y39,ea,hM,hXX,hXl,S,f0,f1,f2,f3,f4,f5,f6,f7,f8⟩:=hI;obtain rfl:=f0.out (hd 0 (by simp));obtain rfl:=f1.out (hd 1 (by simp));obtain rfl:=f2.out (hd 2 (by simp));obtain rfl:=f3.out (hd 3 (by simp));obtain rfl:=f4.out (hd 4 (by simp));obtain rfl:=f7.out (hd 7 (by simp));subst ea;simp only [pu];obtain ⟨g5,c5,hp2,hg5⟩:=f8.out (hd 8 (by simp));have hM2:=hM
    go_wp2
    have hMw:=HMv.out;refine ⟨⟨_,_,_,hp2,?_,?_⟩,?_⟩
    · exact (hMw.then (hM1.mono (fun _ _ h=>h.elim)) (fun _ _ h=>h)).then hM2 HXg.out
    · exact fun k hk h=>HXg.out k hk (put1_X hg5 (by decide) k (nLt hk (nTr hMw.size hM1.size)) h)
    have h9:=hp2.cell 1 (by decide);rw [put1_at,put1_at,put1_at,HN.out] at h9;rw [h9,qp];simp only [lenV];omega
  obtain ⟨b1,m1,k1,b2,m2,k2,z0,z1,z2,D1,D2⟩:=hrow.at_ m (by omega);simp only [HQ.out] at z0 D1 D2;have hle:decide ((K1:Int)≤(m:Int))=false:=by simp;omega
  have hb1:m<K1:=by omega
  obtain ⟨A,hA⟩:∃ A,Q ^ m=A:=⟨_,rfl⟩;rw [hA] at z0 D1 D2;have HA:=hiD hA;clear hA;obtain ⟨v0,v1,v2,s0,s1,s2,s3,s4,s5,_,_,_⟩:=xo.three
  go_wp2
  obtain ⟨wF,hWF,hbF,q0,q1,q2,F1,F2,hmF⟩:=xo.setQ3 A D1 D2;rw [hWF];have hlt2:∀ k,k<w.heap.size→k<w2.heap.size:=fun k hk=>nLt hk hB.size
  refine bodyPost_ret (v:=.agg #[.bool (neg A.num),.slice b1 m1 k1,.slice b2 m2 k2]) ?_ rfl ⟨_,PwX bp g,rfl,⟨_,_,_,_,_,_,by rw [HA.out],by rw [HA.out];exact F1,by rw [HA.out];exact F2⟩,⟨g,n,c,HP.out.stays hmF.stays (fun k hk e=>nbo2 (e ▸ hk)),fun _=>Iff.rfl⟩,fun k hk h=>(HX.out k).2 (HXg.out k (hlt2 k hk) h),((Moves.ofBelow hB).then HMv.out (fun k hk h=>(HX.out k).2 h)).then hmF (fun k hk e=>by omega)⟩;simp [results,Tryz.f252,go_sem,q0,q1,q2]
end Go.Proofs.YtkhcblihbalnbaaGreatDoor
