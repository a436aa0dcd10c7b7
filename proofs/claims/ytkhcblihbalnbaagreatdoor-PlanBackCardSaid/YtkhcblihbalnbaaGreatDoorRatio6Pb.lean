import Derived.Test.YtkhcblihbalnbaaGreatDoorRatio5Pb
set_option linter.unusedVariables false
set_option linter.unusedSimpArgs false
set_option maxHeartbeats 8000000
set_option maxRecDepth 100000
namespace Go.Proofs.YtkhcblihbalnbaaGreatDoor
section
open Go.RowKit
structure RatsAt (w:World) (a:Option Addr) (n c:Nat) (f:Nat→Bool×List Nat×List Nat):Prop where
 le:n≤c
 cle:c≤maxLen
 cell:n=0∨∃ b o,a=some ⟨b,o,none⟩∧b<w.heap.size∧∀ i,i<n→∃ a1 n1 c1 a2 n2 c2,w.cell? ⟨b,o+i*3,none⟩=some (.bool (f i).1)∧w.cell? ⟨b,o+i*3+1,none⟩=some (.slice a1 n1 c1)∧w.cell? ⟨b,o+i*3+2,none⟩=some (.slice a2 n2 c2) ∧
  NatAt w a1 n1 c1 (f i).2.1∧NatAt w a2 n2 c2 (f i).2.2
theorem RatsAt.past {w w':World} {a:Option Addr} {n c:Nat} {f:Nat→Bool×List Nat×List Nat} (h:RatsAt w a n c f) (hb:Below w.heap.size w w'):RatsAt w' a n c f:=by
 refine ⟨h.le,h.cle,h.cell.imp id ?_⟩;rintro ⟨b,o,e,hl,hc⟩;refine ⟨b,o,e,nLt hl hb.size,fun i hi => ?_⟩;obtain ⟨a1,n1,c1,a2,n2,c2,e1,e2,e3,h1,h2⟩:=hc i hi;exact ⟨a1,n1,c1,a2,n2,c2,(hb.cell (p:=⟨b,_,none⟩) hl).trans e1,(hb.cell (p:=⟨b,_,none⟩) hl).trans e2,(hb.cell (p:=⟨b,_,none⟩) hl).trans e3,h1.past hb,h2.past hb⟩
def ratOf (x:Bool×List Nat×List Nat):Rat:=mkRat (sg x.1 (val x.2.1)) (val x.2.2)
def partsOf (q:Rat):Bool×List Nat×List Nat:=(neg q.num,digs q.num.natAbs,digs q.den)
theorem ratOf_parts (q:Rat):ratOf (partsOf q)=q:=by
 unfold ratOf partsOf;simp only;rw [sg_canon,val_digs];exact Rat.mkRat_self q
def chk3 (x:Bool×List Nat×List Nat):Int:=chkR x.1 x.2.1 x.2.2
theorem chk3_parts (q:Rat):chk3 (partsOf q)=0:=chkR_canon q
theorem chk3_rat {x:Bool×List Nat×List Nat} (h1:Dig x.2.1) (h2:Dig x.2.2) (h:chk3 x=0):x=partsOf (ratOf x):=by
 obtain ⟨q,e1,e2,e3⟩:=chkR_rat h1 h2 h;have e:x=partsOf q:=by obtain ⟨x1,x2,x3⟩:=x;simp only at e1 e2 e3;subst e1 e2 e3;rfl
 rw [e,ratOf_parts]
def foldR (F:Rat→Rat→Rat) (s:Rat) (f:Nat→Bool×List Nat×List Nat):Nat→Rat
 | 0=>s
 | n+1=>F (foldR F s f n) (ratOf (f n))
def allR (f:Nat→Bool×List Nat×List Nat) (n:Nat):Bool:=(List.range n).all fun i=>decide (chk3 (f i)=0)
theorem allR_iff {f:Nat→Bool×List Nat×List Nat} {n:Nat}:allR f n=true ↔ ∀ i,i<n→chk3 (f i)=0:=by simp [allR]
theorem allR_not {f:Nat→Bool×List Nat×List Nat} {n i:Nat} (hi:i<n) (h:chk3 (f i)≠0):allR f n=false:=by
 rw [Bool.eq_false_iff];intro hh;exact h (allR_iff.1 hh i hi)
def foldA (F:Rat→Rat→Rat) (s:Rat) (f:Nat→Bool×List Nat×List Nat) (n:Nat):Ans:=if allR f n=true then .ok (foldR F s f n) else .error 6
theorem Does.out {f:Nat} {F:Rat→Rat→Rat} (h:Does f F) (p q:Rat) (a:Option Addr) (n c:Nat) (a2:Option Addr) (n2 c2:Nat) (a3:Option Addr) (n3 c3:Nat) (a4:Option Addr) (n4 c4:Nat) (w:World) (h1:RatAt w p a n c a2 n2 c2) (h2:RatAt w q a3 n3 c3 a4 n4 c4) (h3:rlen p≤17179869184) (h4:rlen q≤17179869184) :
 Calls Tryz.prog f #[.agg #[.bool (neg p.num),.slice a n c,.slice a2 n2 c2],.agg #[.bool (neg q.num),.slice a3 n3 c3,.slice a4 n4 c4]] w (RetRat w (F p q)):=h p q a n c a2 n2 c2 a3 n3 c3 a4 n4 c4 w h1 h2 h3 h4
def Short (F:Rat→Rat→Rat):Prop:=∀ p q,rlen (F p q)≤rlen p+rlen q+1
theorem foldR_len {F:Rat→Rat→Rat} (hF:Short F) {s:Rat} {f:Nat→Bool×List Nat×List Nat} {K:Nat} (hs:rlen s≤K):∀ {n:Nat},(∀ i,i<n→rlen (ratOf (f i))≤K)→rlen (foldR F s f n)≤K+n*(K+1)
 | 0,_=>by simpa [foldR] using hs
 | n + 1, h => by
   have h1:=foldR_len hF hs (n:=n) (fun i hi=>h i (by omega));have h2:=hF (foldR F s f n) (ratOf (f n));have h3:=h n (by omega);show rlen (F _ _)≤_;rw [Nat.succ_mul];omega
def RetAnsB (B:Nat) (w:World) (r:Ans) (e:Ending) (w':World):Prop :=
 ∃ a n c a2 n2 c2,e = .returned (.tuple #[.agg #[.bool (neg r.up),.slice a n c,.slice a2 n2 c2],.int .i64 r.why])∧OwnAt w' B a n c (digs r.up.natAbs)∧OwnAt w' B a2 n2 c2 r.down∧Below w.heap.size w w'
theorem fold1_fine (bo be:Nat) (w:World) (u:FrameMode) (hc:w.cell? ⟨be,0,none⟩=some (.int .i64 0)) :
 CallsD Tryz.prog 238 #[.pointer (some ⟨be,0,none⟩),.pointer (some ⟨bo,0,none⟩)] u w fun e u' w'=>u'=u∧(e = .returned (.tuple #[])∧w'=w):=by
 go_enter_d Tryz.func238,Tryz.ntmps238
 go_wp2
 go_end0
 exact ⟨rfl,rfl⟩
theorem fold1_bad (bo be:Nat) (w:World) (u:FrameMode) (x:Int) (hx:(x != 0)=true) (hc:w.cell? ⟨be,0,none⟩=some (.int .i64 x)) (xb:BoxAt w bo 3) :
 CallsD Tryz.prog 238 #[.pointer (some ⟨be,0,none⟩),.pointer (some ⟨bo,0,none⟩)] u w fun e u' w'=>u'=u∧(e = .returned (.tuple #[])∧w'=((w.setCell ⟨bo,0,none⟩ (.bool false)).setCell ⟨bo,1,none⟩ (.slice none 0 0)).setCell ⟨bo,2,none⟩ (.slice none 0 0)):=by
 obtain ⟨v0,v1,v2,y0,y1,y2,z0,z1,z2,_⟩:=xb.three
 go_enter_d Tryz.func238,Tryz.ntmps238
 go_wp2
 go_end0
 exact ⟨rfl,rfl⟩
theorem fold05_sum (F:Rat→Rat→Rat) (hop:Does 98 F) (hF:Short F) (s:Rat) (a:Option Addr) (n c:Nat) (a2:Option Addr) (n2 c2:Nat) (ar:Option Addr) (nr cr:Nat) (f:Nat→Bool×List Nat×List Nat) (K:Nat) (w:World) (B:Nat) (hBw:B≤w.heap.size) (gu:OwnAt w B a n c (digs s.num.natAbs)) (gd:OwnAt w B a2 n2 c2 (digs s.den)) (gr:RatsAt w ar nr cr f)
 (hs:rlen s≤K) (hk:∀ i,i<nr→(f i).2.1.length≤K∧(f i).2.2.length≤K) (hK:K+nr*(K+1)≤17179869184) :
 Calls Tryz.prog 224 #[.agg #[.bool (neg s.num),.slice a n c,.slice a2 n2 c2],.func (.func 98) #[] #[],.slice ar nr cr] w (RetAnsB B w (foldA F s f nr)):=by
 have hmf:∀ (fn:Fn) (first cap:Array Value) (w:World),(Instr.makeFunc fn first cap).run Tryz.prog w = .ok (.func fn first cap) w:=fun _ _ _ _=>rfl
 have gr0:=gr;have gu0:=gu;have gd0:=gd;have hcr:=gr.cle;have hnr:=gr.le;have hm:nr≤9223372036854775807:=by unfold maxLen at hcr;omega
 go_enter_defers Tryz.func224,Tryz.ntmps224
 have hB:=bRf w.heap.size w
 go_wp2_with fail
 obtain ⟨w1,hW,hz0,hb,q,f,qs0,qs1,qs2⟩:=bx3 w (w.heap.size) (by omega) (.bool (neg s.num)) (.slice a n c) (.slice a2 n2 c2) 28;rw [hW];clear hW;have hB:=bLt hB hb;clear hb;have ls:w.heap.size<w1.heap.size:=by omega
 clear q f;obtain ⟨w2,hW,hz1,hb,q,f,qr0,qr1,qr2⟩:=bx3 w1 (w.heap.size+1) (by omega) (.bool false) (.slice none 0 0) (.slice none 0 0) 28;rw [hW];clear hW;obtain ⟨qs0,qs1,qs2,ls⟩:=bq3 hb ls qs0 qs1 qs2;have hB:=bLt hB hb;clear hb;have lr:w.heap.size+1<w2.heap.size:=by omega
 have xr:BoxAt w2 (w.heap.size+1) 3:=BoxAt.of q f rfl (by simp [notU_bool,notU_slice,notU_i64]);clear q f;obtain ⟨w3,hW,hz2,hb,q,f,qe0⟩:=bx1 w2 (w.heap.size+1+1) (by omega) (.int .i64 0) 34;rw [hW];clear hW;obtain ⟨qs0,qs1,qs2,ls⟩:=bq3 hb ls qs0 qs1 qs2;have xr:=xr.past hb lr;obtain ⟨qr0,qr1,qr2,lr⟩:=bq3 hb lr qr0 qr1 qr2;have hB:=bLt hB hb;clear hb;have le:w.heap.size+1+1<w3.heap.size:=by omega
 have xe:BoxAt w3 (w.heap.size+1+1) 1:=BoxAt.of q f rfl (by simp [notU_bool,notU_slice,notU_i64]);clear q f;clear hz0;clear hz1;clear hz2;have hpl:∀ i,i<nr→(f i).2.1.length≤K∧(f i).2.2.length≤K:=hk
 go_loopw [15] (fun i wr=>∃ (k:Nat),k≤nr∧i = .int .i64 ((k:Nat):Int)∧Hid (∀ j,j<k→chk3 (f j)=0)∧Below w.heap.size w wr∧w.heap.size+1+1<wr.heap.size∧wr.cell? ⟨w.heap.size,0,none⟩=some (.bool (neg s.num))∧wr.cell? ⟨w.heap.size,1,none⟩=some (.slice a n c)∧wr.cell? ⟨w.heap.size,2,none⟩=some (.slice a2 n2 c2)∧wr.cell? ⟨w.heap.size+1,0,none⟩=some (.bool false)∧wr.cell? ⟨w.heap.size+1,1,none⟩=some (.slice none 0 0)∧wr.cell? ⟨w.heap.size+1,2,none⟩=some (.slice none 0 0)∧wr.cell? ⟨w.heap.size+1+1,0,none⟩=some (.int .i64 0)∧BoxAt wr (w.heap.size+1) 3∧BoxAt wr (w.heap.size+1+1) 1) (fun i _=>nr-(intOf i).toNat)
 case atStart=>exact ⟨0,Nat.zero_le _,rfl,hiD (fun j hj=>by omega),hB,le,qs0,qs1,qs2,qr0,qr1,qr2,qe0,xr,xe⟩
 case round =>
  clear gr le lr ls qs0 qs1 qs2 qr0 qr1 qr2 qe0 xr xe hB;obtain ⟨k,hk,rfl,HK,hB,le,qs0,qs1,qs2,qr0,qr1,qr2,qe0,xr,xe⟩:=hrel;have ls:w.heap.size<wr.heap.size:=by omega
  have lr:w.heap.size+1<wr.heap.size:=by omega
  by_cases hlt:k<nr
  · rcases gr0.cell with h0 | ⟨b,o,rfl,hbl,hc⟩
    · omega
    obtain ⟨a5,n5,c5,a6,n6,c6,q1,q2,q3,h5,h6⟩:=hc k hlt;have q1:=(hB.cell (p:=⟨b,_,none⟩) hbl).trans q1;have q2:=(hB.cell (p:=⟨b,_,none⟩) hbl).trans q2;have q3:=(hB.cell (p:=⟨b,_,none⟩) hbl).trans q3;have h5:=h5.past hB;have h6:=h6.past hB;clear hc;have b5:n5≤68719476736:=by have:=(hpl k hlt).1;have:=h5.len;omega
    have b6:n6≤68719476736:=by have:=(hpl k hlt).2;have:=h6.len;omega
    by_cases hz:chk3 (f k)=0
    · have HZ:=hiD (show chkR (f k).1 (f k).2.1 (f k).2.2=0 from hz);clear hz
      go_wp2_with fail
      obtain ⟨w1,hW,hz0,hb,q,f,qx0,qx1,qx2⟩:=bx3 wr (wr.heap.size) (by omega) (.bool (f k).1) (.slice a5 n5 c5) (.slice a6 n6 c6) 28;rw [hW];clear hW;have h5:=h5.past hb;have h6:=h6.past hb;obtain ⟨qs0,qs1,qs2,ls⟩:=bq3 hb ls qs0 qs1 qs2;have xr:=xr.past hb lr;obtain ⟨qr0,qr1,qr2,lr⟩:=bq3 hb lr qr0 qr1 qr2;have qe0:=bq hb le qe0;have xe:=xe.past hb le;have le:=bl hb le;have hB:=bLt hB hb;clear hb;have lx:wr.heap.size<w1.heap.size:=by omega
      clear q f;clear hz0
      with_reducible refine (check05_any (f k).1 _ _ _ (f k).2.1 _ _ _ (f k).2.2 _ h5 h6 b5 b6).mono ?_
      rintro e w2 ⟨rfl,hb⟩;have h5:=h5.past hb;have h6:=h6.past hb;obtain ⟨qs0,qs1,qs2,ls⟩:=bq3 hb ls qs0 qs1 qs2;have xr:=xr.past hb lr;obtain ⟨qr0,qr1,qr2,lr⟩:=bq3 hb lr qr0 qr1 qr2;have qe0:=bq hb le qe0;have xe:=xe.past hb le;have le:=bl hb le;obtain ⟨qx0,qx1,qx2,lx⟩:=bq3 hb lx qx0 qx1 qx2;have hB:=bLt hB hb;clear hb;rw [HZ.out];have zf0:=xe.f 0 (by decide)
      go_wp2
      obtain ⟨w3,hW,hO,qN0,xN⟩:=store1 xe (.int .i64 0) (Go.Proofs.YtkhcblihbalnbaaGreatDoor.nu rfl);try rw [hW]
      clear hW;have qs0:=(hO.cell (b2:=w.heap.size) (k:=0) (by omega)).trans qs0;have qs1:=(hO.cell (b2:=w.heap.size) (k:=1) (by omega)).trans qs1;have qs2:=(hO.cell (b2:=w.heap.size) (k:=2) (by omega)).trans qs2;have ls:w.heap.size<w3.heap.size:=by rw [hO.size];exact ls
      have qr0:=(hO.cell (b2:=w.heap.size+1) (k:=0) (by omega)).trans qr0;have qr1:=(hO.cell (b2:=w.heap.size+1) (k:=1) (by omega)).trans qr1;have qr2:=(hO.cell (b2:=w.heap.size+1) (k:=2) (by omega)).trans qr2;have xr:=hO.box xr;have lr:w.heap.size+1<w3.heap.size:=by rw [hO.size];exact lr
      have le:w.heap.size+1+1<w3.heap.size:=by rw [hO.size];exact le
      have qx0:=(hO.cell (b2:=wr.heap.size) (k:=0) (by omega)).trans qx0;have qx1:=(hO.cell (b2:=wr.heap.size) (k:=1) (by omega)).trans qx1;have qx2:=(hO.cell (b2:=wr.heap.size) (k:=2) (by omega)).trans qx2;have lx:wr.heap.size<w3.heap.size:=by rw [hO.size];exact lx
      have qe0:=qN0;have xe:=xN;have hB:=hO.below (by omega) hB;clear hO qN0 xN zf0
      go_roundw
      case rel=>exact ⟨k+1,by omega,by go_num,hiD (fun j hj=>by
       by_cases hjk:j=k
       · subst hjk;exact HZ.out
       exact HK.out j (by omega)),hB,le,qs0,qs1,qs2,qr0,qr1,qr2,qe0,xr,xe⟩
      case measure=>simp [intOf];omega
    have HZ:=hiD (show chkR (f k).1 (f k).2.1 (f k).2.2=6 from chkR_no hz);have HA:=hiD (show foldA F s f nr = .error 6 by unfold foldA;rw [if_neg (by rw [allR_not hlt hz];decide)]);rw [HA.out];clear hz
    go_wp2_with fail
    obtain ⟨w1,hW,hz0,hb,q,f,qx0,qx1,qx2⟩:=bx3 wr (wr.heap.size) (by omega) (.bool (f k).1) (.slice a5 n5 c5) (.slice a6 n6 c6) 28;rw [hW];clear hW;have h5:=h5.past hb;have h6:=h6.past hb;obtain ⟨qs0,qs1,qs2,ls⟩:=bq3 hb ls qs0 qs1 qs2;have xr:=xr.past hb lr;obtain ⟨qr0,qr1,qr2,lr⟩:=bq3 hb lr qr0 qr1 qr2;have qe0:=bq hb le qe0;have xe:=xe.past hb le;have le:=bl hb le;have hB:=bLt hB hb;clear hb;have lx:wr.heap.size<w1.heap.size:=by omega
    clear q f;clear hz0
    with_reducible refine (check05_any (f k).1 _ _ _ (f k).2.1 _ _ _ (f k).2.2 _ h5 h6 b5 b6).mono ?_
    rintro e w2 ⟨rfl,hb⟩;have h5:=h5.past hb;have h6:=h6.past hb;obtain ⟨qs0,qs1,qs2,ls⟩:=bq3 hb ls qs0 qs1 qs2;have xr:=xr.past hb lr;obtain ⟨qr0,qr1,qr2,lr⟩:=bq3 hb lr qr0 qr1 qr2;have qe0:=bq hb le qe0;have xe:=xe.past hb le;have le:=bl hb le;obtain ⟨qx0,qx1,qx2,lx⟩:=bq3 hb lx qx0 qx1 qx2;have hB:=bLt hB hb;clear hb;rw [HZ.out];have zf0:=xe.f 0 (by decide)
    go_wp2
    obtain ⟨w3,hW,hO,qN0,xN⟩:=store1 xe (.int .i64 6) (Go.Proofs.YtkhcblihbalnbaaGreatDoor.nu rfl);try rw [hW]
    clear hW;have qs0:=(hO.cell (b2:=w.heap.size) (k:=0) (by omega)).trans qs0;have qs1:=(hO.cell (b2:=w.heap.size) (k:=1) (by omega)).trans qs1;have qs2:=(hO.cell (b2:=w.heap.size) (k:=2) (by omega)).trans qs2;have ls:w.heap.size<w3.heap.size:=by rw [hO.size];exact ls
    have qr0:=(hO.cell (b2:=w.heap.size+1) (k:=0) (by omega)).trans qr0;have qr1:=(hO.cell (b2:=w.heap.size+1) (k:=1) (by omega)).trans qr1;have qr2:=(hO.cell (b2:=w.heap.size+1) (k:=2) (by omega)).trans qr2;have xr:=hO.box xr;have lr:w.heap.size+1<w3.heap.size:=by rw [hO.size];exact lr
    have le:w.heap.size+1+1<w3.heap.size:=by rw [hO.size];exact le
    have qx0:=(hO.cell (b2:=wr.heap.size) (k:=0) (by omega)).trans qx0;have qx1:=(hO.cell (b2:=wr.heap.size) (k:=1) (by omega)).trans qx1;have qx2:=(hO.cell (b2:=wr.heap.size) (k:=2) (by omega)).trans qx2;have lx:wr.heap.size<w3.heap.size:=by rw [hO.size];exact lx
    have qe0:=qN0;have xe:=xN;have hB:=hO.below (by omega) hB;clear hO qN0 xN zf0;refine leaves_cons (f:=238) (args:=#[.pointer (some ⟨w.heap.size+1+1,0,none⟩),.pointer (some ⟨w.heap.size+1,0,none⟩)]) (by simp) (by simp [go_sem]) ?_;refine (fold1_bad _ _ _ .returning 6 rfl qe0 xr).mono ?_;rintro e u' w'' ⟨rfl,rfl,rfl⟩;have zf0:=xr.f 0 (by decide);have zf1:=xr.f 1 (by decide);have zf2:=xr.f 2 (by decide);obtain ⟨w4,hW,hO,qN0,qN1,qN2,xN⟩:=store3 xr (.bool false) (.slice none 0 0) (.slice none 0 0) (Go.Proofs.YtkhcblihbalnbaaGreatDoor.nu rfl) (Go.Proofs.YtkhcblihbalnbaaGreatDoor.nu rfl) (Go.Proofs.YtkhcblihbalnbaaGreatDoor.nu rfl);try rw [hW]
    clear hW;have qs0:=(hO.cell (b2:=w.heap.size) (k:=0) (by omega)).trans qs0;have qs1:=(hO.cell (b2:=w.heap.size) (k:=1) (by omega)).trans qs1;have qs2:=(hO.cell (b2:=w.heap.size) (k:=2) (by omega)).trans qs2;have ls:w.heap.size<w4.heap.size:=by rw [hO.size];exact ls
    have lr:w.heap.size+1<w4.heap.size:=by rw [hO.size];exact lr
    have qe0:=(hO.cell (b2:=w.heap.size+1+1) (k:=0) (by omega)).trans qe0;have xe:=hO.box xe;have le:w.heap.size+1+1<w4.heap.size:=by rw [hO.size];exact le
    have qx0:=(hO.cell (b2:=wr.heap.size) (k:=0) (by omega)).trans qx0;have qx1:=(hO.cell (b2:=wr.heap.size) (k:=1) (by omega)).trans qx1;have qx2:=(hO.cell (b2:=wr.heap.size) (k:=2) (by omega)).trans qx2;have lx:wr.heap.size<w4.heap.size:=by rw [hO.size];exact lx
    have qr0:=qN0;have qr1:=qN1;have qr2:=qN2;have xr:=xN;have hB:=hO.below (by omega) hB;clear hO qN0 qN1 qN2 xN zf0 zf1 zf2;try rw [HA.out]
    refine ⟨.tuple #[.agg #[.bool false,.slice none 0 0,.slice none 0 0],.int .i64 6],?_,_,_,_,_,_,_,rfl,OwnAt.nil _ _,OwnAt.nil _ _,hB⟩;simp [results,Tryz.f224,go_sem,qr0,qr1,qr2,qe0]
  obtain rfl:k=nr:=by omega
  have HALL:=hiD (allR_iff.2 HK.out);have HA:=hiD (show foldA F s f k = .ok (foldR F s f k) by unfold foldA;rw [if_pos HALL.out]);rw [HA.out];have gu:=gu0.past hB;have gd:=gd0.past hB;have zf0:=xr.f 0 (by decide);have zf1:=xr.f 1 (by decide);have zf2:=xr.f 2 (by decide)
  go_wp2
  obtain ⟨w1,hW,hO,qN0,qN1,qN2,xN⟩:=store3 xr (.bool (neg s.num)) (.slice a n c) (.slice a2 n2 c2) (Go.Proofs.YtkhcblihbalnbaaGreatDoor.nu rfl) (Go.Proofs.YtkhcblihbalnbaaGreatDoor.nu rfl) (Go.Proofs.YtkhcblihbalnbaaGreatDoor.nu rfl);try rw [hW]
  clear hW;have gu:=hO.own gu;have gd:=hO.own gd;have qs0:=(hO.cell (b2:=w.heap.size) (k:=0) (by omega)).trans qs0;have qs1:=(hO.cell (b2:=w.heap.size) (k:=1) (by omega)).trans qs1;have qs2:=(hO.cell (b2:=w.heap.size) (k:=2) (by omega)).trans qs2;have ls:w.heap.size<w1.heap.size:=by rw [hO.size];exact ls
  have lr:w.heap.size+1<w1.heap.size:=by rw [hO.size];exact lr
  have qe0:=(hO.cell (b2:=w.heap.size+1+1) (k:=0) (by omega)).trans qe0;have xe:=hO.box xe;have le:w.heap.size+1+1<w1.heap.size:=by rw [hO.size];exact le
  have qr0:=qN0;have qr1:=qN1;have qr2:=qN2;have xr:=xN;have hB:=hO.below (by omega) hB;clear hO qN0 qN1 qN2 xN zf0 zf1 zf2;clear hlt
  go_loopw [27] (fun i wr=>∃ (j:Nat) (au:Option Addr) (nu cu:Nat) (ad:Option Addr) (nd cd:Nat),j≤k∧i = .int .i64 ((j:Nat):Int)∧OwnAt wr B au nu cu (digs (foldR F s f j).num.natAbs)∧OwnAt wr B ad nd cd (digs (foldR F s f j).den)∧Below w.heap.size w wr∧w.heap.size+1+1<wr.heap.size∧wr.cell? ⟨w.heap.size+1,0,none⟩=some (.bool (neg (foldR F s f j).num))∧wr.cell? ⟨w.heap.size+1,1,none⟩=some (.slice au nu cu)∧wr.cell? ⟨w.heap.size+1,2,none⟩=some (.slice ad nd cd)∧wr.cell? ⟨w.heap.size+1+1,0,none⟩=some (.int .i64 0)∧BoxAt wr (w.heap.size+1) 3∧BoxAt wr (w.heap.size+1+1) 1) (fun i _=>k-(intOf i).toNat)
  case atStart=>exact ⟨0,_,_,_,_,_,_,Nat.zero_le _,rfl,gu,gd,hB,le,qr0,qr1,qr2,qe0,xr,xe⟩
  case round =>
   clear gu gd hB le lr ls qs0 qs1 qs2 qr0 qr1 qr2 qe0 xr xe;obtain ⟨j,au,nu,cu,ad,nd,cd,hj,rfl,gu,gd,hB,le,qr0,qr1,qr2,qe0,xr,xe⟩:=hrel;have lr:w.heap.size+1<wr.heap.size:=by omega
   by_cases hlt:j<k
   · rcases gr0.cell with h0 | ⟨b,o,rfl,hbl,hc⟩
     · omega
     obtain ⟨a5,n5,c5,a6,n6,c6,q1,q2,q3,h5,h6⟩:=hc j hlt;have hz:=allR_iff.1 HALL.out j hlt;have hf:=chk3_rat h5.dig h6.dig hz;have hfs:foldR F s f (j+1)=F (foldR F s f j) (ratOf (f j)):=rfl;obtain ⟨l1,l2⟩:=hpl j hlt;rw [hf] at l1 l2;have l3:rlen (ratOf (f j))≤K:=by unfold rlen;unfold partsOf at l1 l2;simp only at l1 l2;omega
     have l4:rlen (foldR F s f j)≤17179869184:=by
      have h1:=foldR_len hF hs (f:=f) (n:=j) (fun i hi=>by
       obtain ⟨l1,l2⟩:=hpl i (by omega);obtain ⟨b',o',e',_,hc'⟩:=(gr0.cell.resolve_left (by omega));obtain ⟨_,_,_,_,_,_,_,_,_,h5',h6'⟩:=hc' i (by omega);rw [chk3_rat h5'.dig h6'.dig (allR_iff.1 HALL.out i (by omega))] at l1 l2;unfold rlen;unfold partsOf at l1 l2;simp only at l1 l2;omega)
      have h2:j*(K+1)≤k*(K+1):=Nat.mul_le_mul_right _ hj;omega
     have l5:K≤17179869184:=by omega
     obtain ⟨Q,hQ⟩:∃ Q,ratOf (f j)=Q:=⟨_,rfl⟩;rw [hQ] at hf hfs l3;rw [hf] at q1 h5 h6;simp only [partsOf] at q1 h5 h6;have q1:=(hB.cell (p:=⟨b,_,none⟩) hbl).trans q1;have q2:=(hB.cell (p:=⟨b,_,none⟩) hbl).trans q2;have q3:=(hB.cell (p:=⟨b,_,none⟩) hbl).trans q3;have h5:=h5.past hB;have h6:=h6.past hB;have HFS:=hiD hfs;have L3:=hiD (nTr l3 l5);have L4:=hiD l4;clear hc hz hf hfs l1 l2 l3 l4 l5 hQ
     go_wp2_with fail
     obtain ⟨w1,hW,hz0,hb,q,f,qy0,qy1,qy2⟩:=bx3 wr (wr.heap.size) (by omega) (.bool (neg Q.num)) (.slice a5 n5 c5) (.slice a6 n6 c6) 28;rw [hW];clear hW;have h5:=h5.past hb;have h6:=h6.past hb;have gu:=gu.past hb;have gd:=gd.past hb;have xr:=xr.past hb lr;obtain ⟨qr0,qr1,qr2,lr⟩:=bq3 hb lr qr0 qr1 qr2;have qe0:=bq hb le qe0;have xe:=xe.past hb le;have le:=bl hb le;have hB:=bLt hB hb;clear hb;have ly:wr.heap.size<w1.heap.size:=by omega
     clear q f;clear hz0
     with_reducible refine (hop.out (foldR F s f j) Q _ _ _ _ _ _ _ _ _ _ _ _ _ ⟨gu.toNatAt,gd.toNatAt⟩ ⟨h5,h6⟩ L4.out L3.out).mono ?_
     rintro e w2 ⟨ahU,nhU,chU,ahD,nhD,chD,rfl,hU,hD,hb⟩;have gu:=gu.past hb;have gd:=gd.past hb;have xr:=xr.past hb lr;obtain ⟨qr0,qr1,qr2,lr⟩:=bq3 hb lr qr0 qr1 qr2;have qe0:=bq hb le qe0;have xe:=xe.past hb le;have le:=bl hb le;obtain ⟨qy0,qy1,qy2,ly⟩:=bq3 hb ly qy0 qy1 qy2;have hB:=bLt hB hb;clear hb;rw [← HFS.out] at hU hD ⊢;have hU:=hU.mono (B':=B) (by have:=hB.size;omega);have hD:=hD.mono (B':=B) (by have:=hB.size;omega);have zf0:=xr.f 0 (by decide);have zf1:=xr.f 1 (by decide);have zf2:=xr.f 2 (by decide)
     go_wp2
     obtain ⟨w3,hW,hO,qN0,qN1,qN2,xN⟩:=store3 xr (.bool (neg (foldR F s f (j+1)).num)) (.slice ahU nhU chU) (.slice ahD nhD chD) (Go.Proofs.YtkhcblihbalnbaaGreatDoor.nu rfl) (Go.Proofs.YtkhcblihbalnbaaGreatDoor.nu rfl) (Go.Proofs.YtkhcblihbalnbaaGreatDoor.nu rfl);try rw [hW]
     clear hW;have hU:=hO.own hU;have hD:=hO.own hD;have lr:w.heap.size+1<w3.heap.size:=by rw [hO.size];exact lr
     have qe0:=(hO.cell (b2:=w.heap.size+1+1) (k:=0) (by omega)).trans qe0;have xe:=hO.box xe;have le:w.heap.size+1+1<w3.heap.size:=by rw [hO.size];exact le
     have qy0:=(hO.cell (b2:=wr.heap.size) (k:=0) (by omega)).trans qy0;have qy1:=(hO.cell (b2:=wr.heap.size) (k:=1) (by omega)).trans qy1;have qy2:=(hO.cell (b2:=wr.heap.size) (k:=2) (by omega)).trans qy2;have ly:wr.heap.size<w3.heap.size:=by rw [hO.size];exact ly
     have qr0:=qN0;have qr1:=qN1;have qr2:=qN2;have xr:=xN;have hB:=hO.below (by omega) hB;clear hO qN0 qN1 qN2 xN zf0 zf1 zf2
     go_roundw
     case rel=>exact ⟨j+1,_,_,_,_,_,_,by omega,by go_num,hU,hD,hB,le,qr0,qr1,qr2,qe0,xr,xe⟩
     case measure=>simp [intOf];omega
   obtain rfl:j=k:=by omega
   have zf0:=xe.f 0 (by decide);have zfe:=xe.f 0 (by decide);have zf0:=xr.f 0 (by decide);have zf1:=xr.f 1 (by decide);have zf2:=xr.f 2 (by decide)
   go_wp2
   obtain ⟨w1,hW,hO,qN0,qN1,qN2,xN⟩:=store3 xr (.bool (neg (foldR F s f j).num)) (.slice au nu cu) (.slice ad nd cd) (Go.Proofs.YtkhcblihbalnbaaGreatDoor.nu rfl) (Go.Proofs.YtkhcblihbalnbaaGreatDoor.nu rfl) (Go.Proofs.YtkhcblihbalnbaaGreatDoor.nu rfl);try rw [hW]
   clear hW;have gu:=hO.own gu;have gd:=hO.own gd;have lr:w.heap.size+1<w1.heap.size:=by rw [hO.size];exact lr
   have qe0:=(hO.cell (b2:=w.heap.size+1+1) (k:=0) (by omega)).trans qe0;have xe:=hO.box xe;have le:w.heap.size+1+1<w1.heap.size:=by rw [hO.size];exact le
   have qr0:=qN0;have qr1:=qN1;have qr2:=qN2;have xr:=xN;have hB:=hO.below (by omega) hB;clear hO qN0 qN1 qN2 xN zf0 zf1 zf2;have zf0:=xe.f 0 (by decide);obtain ⟨w2,hW,hO,qN0,xN⟩:=store1 xe (.int .i64 0) (Go.Proofs.YtkhcblihbalnbaaGreatDoor.nu rfl);try rw [hW]
   clear hW;have gu:=hO.own gu;have gd:=hO.own gd;have qr0:=(hO.cell (b2:=w.heap.size+1) (k:=0) (by omega)).trans qr0;have qr1:=(hO.cell (b2:=w.heap.size+1) (k:=1) (by omega)).trans qr1;have qr2:=(hO.cell (b2:=w.heap.size+1) (k:=2) (by omega)).trans qr2;have xr:=hO.box xr;have lr:w.heap.size+1<w2.heap.size:=by rw [hO.size];exact lr
   have le:w.heap.size+1+1<w2.heap.size:=by rw [hO.size];exact le
   have qe0:=qN0;have xe:=xN;have hB:=hO.below (by omega) hB;clear hO qN0 xN zf0;refine leaves_cons (f:=238) (args:=#[.pointer (some ⟨w.heap.size+1+1,0,none⟩),.pointer (some ⟨w.heap.size+1,0,none⟩)]) (by simp) (by simp [go_sem]) ?_;refine (fold1_fine _ _ _ .returning qe0).mono ?_;rintro e u' w'' ⟨rfl,rfl,rfl⟩;try rw [HA.out]
   refine ⟨.tuple #[.agg #[.bool (neg (foldR F s f j).num),.slice au nu cu,.slice ad nd cd],.int .i64 0],?_,_,_,_,_,_,_,rfl,gu,gd,hB⟩;simp [results,Tryz.f224,go_sem,qr0,qr1,qr2,qe0]
theorem fold05_product (F:Rat→Rat→Rat) (hop:Does 258 F) (hF:Short F) (s:Rat) (a:Option Addr) (n c:Nat) (a2:Option Addr) (n2 c2:Nat) (ar:Option Addr) (nr cr:Nat) (f:Nat→Bool×List Nat×List Nat) (K:Nat) (w:World) (B:Nat) (hBw:B≤w.heap.size) (gu:OwnAt w B a n c (digs s.num.natAbs)) (gd:OwnAt w B a2 n2 c2 (digs s.den)) (gr:RatsAt w ar nr cr f)
 (hs:rlen s≤K) (hk:∀ i,i<nr→(f i).2.1.length≤K∧(f i).2.2.length≤K) (hK:K+nr*(K+1)≤17179869184) :
 Calls Tryz.prog 224 #[.agg #[.bool (neg s.num),.slice a n c,.slice a2 n2 c2],.func (.func 258) #[] #[],.slice ar nr cr] w (RetAnsB B w (foldA F s f nr)):=by
 have hmf:∀ (fn:Fn) (first cap:Array Value) (w:World),(Instr.makeFunc fn first cap).run Tryz.prog w = .ok (.func fn first cap) w:=fun _ _ _ _=>rfl
 have gr0:=gr;have gu0:=gu;have gd0:=gd;have hcr:=gr.cle;have hnr:=gr.le;have hm:nr≤9223372036854775807:=by unfold maxLen at hcr;omega
 go_enter_defers Tryz.func224,Tryz.ntmps224
 have hB:=bRf w.heap.size w
 go_wp2_with fail
 obtain ⟨w1,hW,hz0,hb,q,f,qs0,qs1,qs2⟩:=bx3 w (w.heap.size) (by omega) (.bool (neg s.num)) (.slice a n c) (.slice a2 n2 c2) 28;rw [hW];clear hW;have hB:=bLt hB hb;clear hb;have ls:w.heap.size<w1.heap.size:=by omega
 clear q f;obtain ⟨w2,hW,hz1,hb,q,f,qr0,qr1,qr2⟩:=bx3 w1 (w.heap.size+1) (by omega) (.bool false) (.slice none 0 0) (.slice none 0 0) 28;rw [hW];clear hW;obtain ⟨qs0,qs1,qs2,ls⟩:=bq3 hb ls qs0 qs1 qs2;have hB:=bLt hB hb;clear hb;have lr:w.heap.size+1<w2.heap.size:=by omega
 have xr:BoxAt w2 (w.heap.size+1) 3:=BoxAt.of q f rfl (by simp [notU_bool,notU_slice,notU_i64]);clear q f;obtain ⟨w3,hW,hz2,hb,q,f,qe0⟩:=bx1 w2 (w.heap.size+1+1) (by omega) (.int .i64 0) 34;rw [hW];clear hW;obtain ⟨qs0,qs1,qs2,ls⟩:=bq3 hb ls qs0 qs1 qs2;have xr:=xr.past hb lr;obtain ⟨qr0,qr1,qr2,lr⟩:=bq3 hb lr qr0 qr1 qr2;have hB:=bLt hB hb;clear hb;have le:w.heap.size+1+1<w3.heap.size:=by omega
 have xe:BoxAt w3 (w.heap.size+1+1) 1:=BoxAt.of q f rfl (by simp [notU_bool,notU_slice,notU_i64]);clear q f;clear hz0;clear hz1;clear hz2;have hpl:∀ i,i<nr→(f i).2.1.length≤K∧(f i).2.2.length≤K:=hk
 go_loopw [15] (fun i wr=>∃ (k:Nat),k≤nr∧i = .int .i64 ((k:Nat):Int)∧Hid (∀ j,j<k→chk3 (f j)=0)∧Below w.heap.size w wr∧w.heap.size+1+1<wr.heap.size∧wr.cell? ⟨w.heap.size,0,none⟩=some (.bool (neg s.num))∧wr.cell? ⟨w.heap.size,1,none⟩=some (.slice a n c)∧wr.cell? ⟨w.heap.size,2,none⟩=some (.slice a2 n2 c2)∧wr.cell? ⟨w.heap.size+1,0,none⟩=some (.bool false)∧wr.cell? ⟨w.heap.size+1,1,none⟩=some (.slice none 0 0)∧wr.cell? ⟨w.heap.size+1,2,none⟩=some (.slice none 0 0)∧wr.cell? ⟨w.heap.size+1+1,0,none⟩=some (.int .i64 0)∧BoxAt wr (w.heap.size+1) 3∧BoxAt wr (w.heap.size+1+1) 1) (fun i _=>nr-(intOf i).toNat)
 case atStart=>exact ⟨0,Nat.zero_le _,rfl,hiD (fun j hj=>by omega),hB,le,qs0,qs1,qs2,qr0,qr1,qr2,qe0,xr,xe⟩
 case round =>
  clear gr le lr ls qs0 qs1 qs2 qr0 qr1 qr2 qe0 xr xe hB;obtain ⟨k,hk,rfl,HK,hB,le,qs0,qs1,qs2,qr0,qr1,qr2,qe0,xr,xe⟩:=hrel;have ls:w.heap.size<wr.heap.size:=by omega
  have lr:w.heap.size+1<wr.heap.size:=by omega
  by_cases hlt:k<nr
  · rcases gr0.cell with h0 | ⟨b,o,rfl,hbl,hc⟩
    · omega
    obtain ⟨a5,n5,c5,a6,n6,c6,q1,q2,q3,h5,h6⟩:=hc k hlt;have q1:=(hB.cell (p:=⟨b,_,none⟩) hbl).trans q1;have q2:=(hB.cell (p:=⟨b,_,none⟩) hbl).trans q2;have q3:=(hB.cell (p:=⟨b,_,none⟩) hbl).trans q3;have h5:=h5.past hB;have h6:=h6.past hB;clear hc;have b5:n5≤68719476736:=by have:=(hpl k hlt).1;have:=h5.len;omega
    have b6:n6≤68719476736:=by have:=(hpl k hlt).2;have:=h6.len;omega
    by_cases hz:chk3 (f k)=0
    · have HZ:=hiD (show chkR (f k).1 (f k).2.1 (f k).2.2=0 from hz);clear hz
      go_wp2_with fail
      obtain ⟨w1,hW,hz0,hb,q,f,qx0,qx1,qx2⟩:=bx3 wr (wr.heap.size) (by omega) (.bool (f k).1) (.slice a5 n5 c5) (.slice a6 n6 c6) 28;rw [hW];clear hW;have h5:=h5.past hb;have h6:=h6.past hb;obtain ⟨qs0,qs1,qs2,ls⟩:=bq3 hb ls qs0 qs1 qs2;have xr:=xr.past hb lr;obtain ⟨qr0,qr1,qr2,lr⟩:=bq3 hb lr qr0 qr1 qr2;have qe0:=bq hb le qe0;have xe:=xe.past hb le;have le:=bl hb le;have hB:=bLt hB hb;clear hb;have lx:wr.heap.size<w1.heap.size:=by omega
      clear q f;clear hz0
      with_reducible refine (check05_any (f k).1 _ _ _ (f k).2.1 _ _ _ (f k).2.2 _ h5 h6 b5 b6).mono ?_
      rintro e w2 ⟨rfl,hb⟩;have h5:=h5.past hb;have h6:=h6.past hb;obtain ⟨qs0,qs1,qs2,ls⟩:=bq3 hb ls qs0 qs1 qs2;have xr:=xr.past hb lr;obtain ⟨qr0,qr1,qr2,lr⟩:=bq3 hb lr qr0 qr1 qr2;have qe0:=bq hb le qe0;have xe:=xe.past hb le;have le:=bl hb le;obtain ⟨qx0,qx1,qx2,lx⟩:=bq3 hb lx qx0 qx1 qx2;have hB:=bLt hB hb;clear hb;rw [HZ.out];have zf0:=xe.f 0 (by decide)
      go_wp2
      obtain ⟨w3,hW,hO,qN0,xN⟩:=store1 xe (.int .i64 0) (Go.Proofs.YtkhcblihbalnbaaGreatDoor.nu rfl);try rw [hW]
      clear hW;have qs0:=(hO.cell (b2:=w.heap.size) (k:=0) (by omega)).trans qs0;have qs1:=(hO.cell (b2:=w.heap.size) (k:=1) (by omega)).trans qs1;have qs2:=(hO.cell (b2:=w.heap.size) (k:=2) (by omega)).trans qs2;have ls:w.heap.size<w3.heap.size:=by rw [hO.size];exact ls
      have qr0:=(hO.cell (b2:=w.heap.size+1) (k:=0) (by omega)).trans qr0;have qr1:=(hO.cell (b2:=w.heap.size+1) (k:=1) (by omega)).trans qr1;have qr2:=(hO.cell (b2:=w.heap.size+1) (k:=2) (by omega)).trans qr2;have xr:=hO.box xr;have lr:w.heap.size+1<w3.heap.size:=by rw [hO.size];exact lr
      have le:w.heap.size+1+1<w3.heap.size:=by rw [hO.size];exact le
      have qx0:=(hO.cell (b2:=wr.heap.size) (k:=0) (by omega)).trans qx0;have qx1:=(hO.cell (b2:=wr.heap.size) (k:=1) (by omega)).trans qx1;have qx2:=(hO.cell (b2:=wr.heap.size) (k:=2) (by omega)).trans qx2;have lx:wr.heap.size<w3.heap.size:=by rw [hO.size];exact lx
      have qe0:=qN0;have xe:=xN;have hB:=hO.below (by omega) hB;clear hO qN0 xN zf0
      go_roundw
      case rel=>exact ⟨k+1,by omega,by go_num,hiD (fun j hj=>by
       by_cases hjk:j=k
       · subst hjk;exact HZ.out
       exact HK.out j (by omega)),hB,le,qs0,qs1,qs2,qr0,qr1,qr2,qe0,xr,xe⟩
      case measure=>simp [intOf];omega
    have HZ:=hiD (show chkR (f k).1 (f k).2.1 (f k).2.2=6 from chkR_no hz);have HA:=hiD (show foldA F s f nr = .error 6 by unfold foldA;rw [if_neg (by rw [allR_not hlt hz];decide)]);rw [HA.out];clear hz
    go_wp2_with fail
    obtain ⟨w1,hW,hz0,hb,q,f,qx0,qx1,qx2⟩:=bx3 wr (wr.heap.size) (by omega) (.bool (f k).1) (.slice a5 n5 c5) (.slice a6 n6 c6) 28;rw [hW];clear hW;have h5:=h5.past hb;have h6:=h6.past hb;obtain ⟨qs0,qs1,qs2,ls⟩:=bq3 hb ls qs0 qs1 qs2;have xr:=xr.past hb lr;obtain ⟨qr0,qr1,qr2,lr⟩:=bq3 hb lr qr0 qr1 qr2;have qe0:=bq hb le qe0;have xe:=xe.past hb le;have le:=bl hb le;have hB:=bLt hB hb;clear hb;have lx:wr.heap.size<w1.heap.size:=by omega
    clear q f;clear hz0
    with_reducible refine (check05_any (f k).1 _ _ _ (f k).2.1 _ _ _ (f k).2.2 _ h5 h6 b5 b6).mono ?_
    rintro e w2 ⟨rfl,hb⟩;have h5:=h5.past hb;have h6:=h6.past hb;obtain ⟨qs0,qs1,qs2,ls⟩:=bq3 hb ls qs0 qs1 qs2;have xr:=xr.past hb lr;obtain ⟨qr0,qr1,qr2,lr⟩:=bq3 hb lr qr0 qr1 qr2;have qe0:=bq hb le qe0;have xe:=xe.past hb le;have le:=bl hb le;obtain ⟨qx0,qx1,qx2,lx⟩:=bq3 hb lx qx0 qx1 qx2;have hB:=bLt hB hb;clear hb;rw [HZ.out];have zf0:=xe.f 0 (by decide)
    go_wp2
    obtain ⟨w3,hW,hO,qN0,xN⟩:=store1 xe (.int .i64 6) (Go.Proofs.YtkhcblihbalnbaaGreatDoor.nu rfl);try rw [hW]
    clear hW;have qs0:=(hO.cell (b2:=w.heap.size) (k:=0) (by omega)).trans qs0;have qs1:=(hO.cell (b2:=w.heap.size) (k:=1) (by omega)).trans qs1;have qs2:=(hO.cell (b2:=w.heap.size) (k:=2) (by omega)).trans qs2;have ls:w.heap.size<w3.heap.size:=by rw [hO.size];exact ls
    have qr0:=(hO.cell (b2:=w.heap.size+1) (k:=0) (by omega)).trans qr0;have qr1:=(hO.cell (b2:=w.heap.size+1) (k:=1) (by omega)).trans qr1;have qr2:=(hO.cell (b2:=w.heap.size+1) (k:=2) (by omega)).trans qr2;have xr:=hO.box xr;have lr:w.heap.size+1<w3.heap.size:=by rw [hO.size];exact lr
    have le:w.heap.size+1+1<w3.heap.size:=by rw [hO.size];exact le
    have qx0:=(hO.cell (b2:=wr.heap.size) (k:=0) (by omega)).trans qx0;have qx1:=(hO.cell (b2:=wr.heap.size) (k:=1) (by omega)).trans qx1;have qx2:=(hO.cell (b2:=wr.heap.size) (k:=2) (by omega)).trans qx2;have lx:wr.heap.size<w3.heap.size:=by rw [hO.size];exact lx
    have qe0:=qN0;have xe:=xN;have hB:=hO.below (by omega) hB;clear hO qN0 xN zf0;refine leaves_cons (f:=238) (args:=#[.pointer (some ⟨w.heap.size+1+1,0,none⟩),.pointer (some ⟨w.heap.size+1,0,none⟩)]) (by simp) (by simp [go_sem]) ?_;refine (fold1_bad _ _ _ .returning 6 rfl qe0 xr).mono ?_;rintro e u' w'' ⟨rfl,rfl,rfl⟩;have zf0:=xr.f 0 (by decide);have zf1:=xr.f 1 (by decide);have zf2:=xr.f 2 (by decide);obtain ⟨w4,hW,hO,qN0,qN1,qN2,xN⟩:=store3 xr (.bool false) (.slice none 0 0) (.slice none 0 0) (Go.Proofs.YtkhcblihbalnbaaGreatDoor.nu rfl) (Go.Proofs.YtkhcblihbalnbaaGreatDoor.nu rfl) (Go.Proofs.YtkhcblihbalnbaaGreatDoor.nu rfl);try rw [hW]
    clear hW;have qs0:=(hO.cell (b2:=w.heap.size) (k:=0) (by omega)).trans qs0;have qs1:=(hO.cell (b2:=w.heap.size) (k:=1) (by omega)).trans qs1;have qs2:=(hO.cell (b2:=w.heap.size) (k:=2) (by omega)).trans qs2;have ls:w.heap.size<w4.heap.size:=by rw [hO.size];exact ls
    have lr:w.heap.size+1<w4.heap.size:=by rw [hO.size];exact lr
    have qe0:=(hO.cell (b2:=w.heap.size+1+1) (k:=0) (by omega)).trans qe0;have xe:=hO.box xe;have le:w.heap.size+1+1<w4.heap.size:=by rw [hO.size];exact le
    have qx0:=(hO.cell (b2:=wr.heap.size) (k:=0) (by omega)).trans qx0;have qx1:=(hO.cell (b2:=wr.heap.size) (k:=1) (by omega)).trans qx1;have qx2:=(hO.cell (b2:=wr.heap.size) (k:=2) (by omega)).trans qx2;have lx:wr.heap.size<w4.heap.size:=by rw [hO.size];exact lx
    have qr0:=qN0;have qr1:=qN1;have qr2:=qN2;have xr:=xN;have hB:=hO.below (by omega) hB;clear hO qN0 qN1 qN2 xN zf0 zf1 zf2;try rw [HA.out]
    refine ⟨.tuple #[.agg #[.bool false,.slice none 0 0,.slice none 0 0],.int .i64 6],?_,_,_,_,_,_,_,rfl,OwnAt.nil _ _,OwnAt.nil _ _,hB⟩;simp [results,Tryz.f224,go_sem,qr0,qr1,qr2,qe0]
  obtain rfl:k=nr:=by omega
  have HALL:=hiD (allR_iff.2 HK.out);have HA:=hiD (show foldA F s f k = .ok (foldR F s f k) by unfold foldA;rw [if_pos HALL.out]);rw [HA.out];have gu:=gu0.past hB;have gd:=gd0.past hB;have zf0:=xr.f 0 (by decide);have zf1:=xr.f 1 (by decide);have zf2:=xr.f 2 (by decide)
  go_wp2
  obtain ⟨w1,hW,hO,qN0,qN1,qN2,xN⟩:=store3 xr (.bool (neg s.num)) (.slice a n c) (.slice a2 n2 c2) (Go.Proofs.YtkhcblihbalnbaaGreatDoor.nu rfl) (Go.Proofs.YtkhcblihbalnbaaGreatDoor.nu rfl) (Go.Proofs.YtkhcblihbalnbaaGreatDoor.nu rfl);try rw [hW]
  clear hW;have gu:=hO.own gu;have gd:=hO.own gd;have qs0:=(hO.cell (b2:=w.heap.size) (k:=0) (by omega)).trans qs0;have qs1:=(hO.cell (b2:=w.heap.size) (k:=1) (by omega)).trans qs1;have qs2:=(hO.cell (b2:=w.heap.size) (k:=2) (by omega)).trans qs2;have ls:w.heap.size<w1.heap.size:=by rw [hO.size];exact ls
  have lr:w.heap.size+1<w1.heap.size:=by rw [hO.size];exact lr
  have qe0:=(hO.cell (b2:=w.heap.size+1+1) (k:=0) (by omega)).trans qe0;have xe:=hO.box xe;have le:w.heap.size+1+1<w1.heap.size:=by rw [hO.size];exact le
  have qr0:=qN0;have qr1:=qN1;have qr2:=qN2;have xr:=xN;have hB:=hO.below (by omega) hB;clear hO qN0 qN1 qN2 xN zf0 zf1 zf2;clear hlt
  go_loopw [27] (fun i wr=>∃ (j:Nat) (au:Option Addr) (nu cu:Nat) (ad:Option Addr) (nd cd:Nat),j≤k∧i = .int .i64 ((j:Nat):Int)∧OwnAt wr B au nu cu (digs (foldR F s f j).num.natAbs)∧OwnAt wr B ad nd cd (digs (foldR F s f j).den)∧Below w.heap.size w wr∧w.heap.size+1+1<wr.heap.size∧wr.cell? ⟨w.heap.size+1,0,none⟩=some (.bool (neg (foldR F s f j).num))∧wr.cell? ⟨w.heap.size+1,1,none⟩=some (.slice au nu cu)∧wr.cell? ⟨w.heap.size+1,2,none⟩=some (.slice ad nd cd)∧wr.cell? ⟨w.heap.size+1+1,0,none⟩=some (.int .i64 0)∧BoxAt wr (w.heap.size+1) 3∧BoxAt wr (w.heap.size+1+1) 1) (fun i _=>k-(intOf i).toNat)
  case atStart=>exact ⟨0,_,_,_,_,_,_,Nat.zero_le _,rfl,gu,gd,hB,le,qr0,qr1,qr2,qe0,xr,xe⟩
  case round =>
   clear gu gd hB le lr ls qs0 qs1 qs2 qr0 qr1 qr2 qe0 xr xe;obtain ⟨j,au,nu,cu,ad,nd,cd,hj,rfl,gu,gd,hB,le,qr0,qr1,qr2,qe0,xr,xe⟩:=hrel;have lr:w.heap.size+1<wr.heap.size:=by omega
   by_cases hlt:j<k
   · rcases gr0.cell with h0 | ⟨b,o,rfl,hbl,hc⟩
     · omega
     obtain ⟨a5,n5,c5,a6,n6,c6,q1,q2,q3,h5,h6⟩:=hc j hlt;have hz:=allR_iff.1 HALL.out j hlt;have hf:=chk3_rat h5.dig h6.dig hz;have hfs:foldR F s f (j+1)=F (foldR F s f j) (ratOf (f j)):=rfl;obtain ⟨l1,l2⟩:=hpl j hlt;rw [hf] at l1 l2;have l3:rlen (ratOf (f j))≤K:=by unfold rlen;unfold partsOf at l1 l2;simp only at l1 l2;omega
     have l4:rlen (foldR F s f j)≤17179869184:=by
      have h1:=foldR_len hF hs (f:=f) (n:=j) (fun i hi=>by
       obtain ⟨l1,l2⟩:=hpl i (by omega);obtain ⟨b',o',e',_,hc'⟩:=(gr0.cell.resolve_left (by omega));obtain ⟨_,_,_,_,_,_,_,_,_,h5',h6'⟩:=hc' i (by omega);rw [chk3_rat h5'.dig h6'.dig (allR_iff.1 HALL.out i (by omega))] at l1 l2;unfold rlen;unfold partsOf at l1 l2;simp only at l1 l2;omega)
      have h2:j*(K+1)≤k*(K+1):=Nat.mul_le_mul_right _ hj;omega
     have l5:K≤17179869184:=by omega
     obtain ⟨Q,hQ⟩:∃ Q,ratOf (f j)=Q:=⟨_,rfl⟩;rw [hQ] at hf hfs l3;rw [hf] at q1 h5 h6;simp only [partsOf] at q1 h5 h6;have q1:=(hB.cell (p:=⟨b,_,none⟩) hbl).trans q1;have q2:=(hB.cell (p:=⟨b,_,none⟩) hbl).trans q2;have q3:=(hB.cell (p:=⟨b,_,none⟩) hbl).trans q3;have h5:=h5.past hB;have h6:=h6.past hB;have HFS:=hiD hfs;have L3:=hiD (nTr l3 l5);have L4:=hiD l4;clear hc hz hf hfs l1 l2 l3 l4 l5 hQ
     go_wp2_with fail
     obtain ⟨w1,hW,hz0,hb,q,f,qy0,qy1,qy2⟩:=bx3 wr (wr.heap.size) (by omega) (.bool (neg Q.num)) (.slice a5 n5 c5) (.slice a6 n6 c6) 28;rw [hW];clear hW;have h5:=h5.past hb;have h6:=h6.past hb;have gu:=gu.past hb;have gd:=gd.past hb;have xr:=xr.past hb lr;obtain ⟨qr0,qr1,qr2,lr⟩:=bq3 hb lr qr0 qr1 qr2;have qe0:=bq hb le qe0;have xe:=xe.past hb le;have le:=bl hb le;have hB:=bLt hB hb;clear hb;have ly:wr.heap.size<w1.heap.size:=by omega
     clear q f;clear hz0
     with_reducible refine (hop.out (foldR F s f j) Q _ _ _ _ _ _ _ _ _ _ _ _ _ ⟨gu.toNatAt,gd.toNatAt⟩ ⟨h5,h6⟩ L4.out L3.out).mono ?_
     rintro e w2 ⟨ahU,nhU,chU,ahD,nhD,chD,rfl,hU,hD,hb⟩;have gu:=gu.past hb;have gd:=gd.past hb;have xr:=xr.past hb lr;obtain ⟨qr0,qr1,qr2,lr⟩:=bq3 hb lr qr0 qr1 qr2;have qe0:=bq hb le qe0;have xe:=xe.past hb le;have le:=bl hb le;obtain ⟨qy0,qy1,qy2,ly⟩:=bq3 hb ly qy0 qy1 qy2;have hB:=bLt hB hb;clear hb;rw [← HFS.out] at hU hD ⊢;have hU:=hU.mono (B':=B) (by have:=hB.size;omega);have hD:=hD.mono (B':=B) (by have:=hB.size;omega);have zf0:=xr.f 0 (by decide);have zf1:=xr.f 1 (by decide);have zf2:=xr.f 2 (by decide)
     go_wp2
     obtain ⟨w3,hW,hO,qN0,qN1,qN2,xN⟩:=store3 xr (.bool (neg (foldR F s f (j+1)).num)) (.slice ahU nhU chU) (.slice ahD nhD chD) (Go.Proofs.YtkhcblihbalnbaaGreatDoor.nu rfl) (Go.Proofs.YtkhcblihbalnbaaGreatDoor.nu rfl) (Go.Proofs.YtkhcblihbalnbaaGreatDoor.nu rfl);try rw [hW]
     clear hW;have hU:=hO.own hU;have hD:=hO.own hD;have lr:w.heap.size+1<w3.heap.size:=by rw [hO.size];exact lr
     have qe0:=(hO.cell (b2:=w.heap.size+1+1) (k:=0) (by omega)).trans qe0;have xe:=hO.box xe;have le:w.heap.size+1+1<w3.heap.size:=by rw [hO.size];exact le
     have qy0:=(hO.cell (b2:=wr.heap.size) (k:=0) (by omega)).trans qy0;have qy1:=(hO.cell (b2:=wr.heap.size) (k:=1) (by omega)).trans qy1;have qy2:=(hO.cell (b2:=wr.heap.size) (k:=2) (by omega)).trans qy2;have ly:wr.heap.size<w3.heap.size:=by rw [hO.size];exact ly
     have qr0:=qN0;have qr1:=qN1;have qr2:=qN2;have xr:=xN;have hB:=hO.below (by omega) hB;clear hO qN0 qN1 qN2 xN zf0 zf1 zf2
     go_roundw
     case rel=>exact ⟨j+1,_,_,_,_,_,_,by omega,by go_num,hU,hD,hB,le,qr0,qr1,qr2,qe0,xr,xe⟩
     case measure=>simp [intOf];omega
   obtain rfl:j=k:=by omega
   have zf0:=xe.f 0 (by decide);have zfe:=xe.f 0 (by decide);have zf0:=xr.f 0 (by decide);have zf1:=xr.f 1 (by decide);have zf2:=xr.f 2 (by decide)
   go_wp2
   obtain ⟨w1,hW,hO,qN0,qN1,qN2,xN⟩:=store3 xr (.bool (neg (foldR F s f j).num)) (.slice au nu cu) (.slice ad nd cd) (Go.Proofs.YtkhcblihbalnbaaGreatDoor.nu rfl) (Go.Proofs.YtkhcblihbalnbaaGreatDoor.nu rfl) (Go.Proofs.YtkhcblihbalnbaaGreatDoor.nu rfl);try rw [hW]
   clear hW;have gu:=hO.own gu;have gd:=hO.own gd;have lr:w.heap.size+1<w1.heap.size:=by rw [hO.size];exact lr
   have qe0:=(hO.cell (b2:=w.heap.size+1+1) (k:=0) (by omega)).trans qe0;have xe:=hO.box xe;have le:w.heap.size+1+1<w1.heap.size:=by rw [hO.size];exact le
   have qr0:=qN0;have qr1:=qN1;have qr2:=qN2;have xr:=xN;have hB:=hO.below (by omega) hB;clear hO qN0 qN1 qN2 xN zf0 zf1 zf2;have zf0:=xe.f 0 (by decide);obtain ⟨w2,hW,hO,qN0,xN⟩:=store1 xe (.int .i64 0) (Go.Proofs.YtkhcblihbalnbaaGreatDoor.nu rfl);try rw [hW]
   clear hW;have gu:=hO.own gu;have gd:=hO.own gd;have qr0:=(hO.cell (b2:=w.heap.size+1) (k:=0) (by omega)).trans qr0;have qr1:=(hO.cell (b2:=w.heap.size+1) (k:=1) (by omega)).trans qr1;have qr2:=(hO.cell (b2:=w.heap.size+1) (k:=2) (by omega)).trans qr2;have xr:=hO.box xr;have lr:w.heap.size+1<w2.heap.size:=by rw [hO.size];exact lr
   have le:w.heap.size+1+1<w2.heap.size:=by rw [hO.size];exact le
   have qe0:=qN0;have xe:=xN;have hB:=hO.below (by omega) hB;clear hO qN0 xN zf0;refine leaves_cons (f:=238) (args:=#[.pointer (some ⟨w.heap.size+1+1,0,none⟩),.pointer (some ⟨w.heap.size+1,0,none⟩)]) (by simp) (by simp [go_sem]) ?_;refine (fold1_fine _ _ _ .returning qe0).mono ?_;rintro e u' w'' ⟨rfl,rfl,rfl⟩;try rw [HA.out]
   refine ⟨.tuple #[.agg #[.bool (neg (foldR F s f j).num),.slice au nu cu,.slice ad nd cd],.int .i64 0],?_,_,_,_,_,_,_,rfl,gu,gd,hB⟩;simp [results,Tryz.f224,go_sem,qr0,qr1,qr2,qe0]
end
section
open Go.RowKit
theorem rlen_mkRat {z:Int} {d L:Nat} (hd:d≠0) (h1:(digs z.natAbs).length≤L) (h2:(digs d).length≤L):rlen (mkRat z d)≤L:=by
 obtain ⟨e1,e2⟩:=mkRat_parts (z:=z) hd;unfold rlen
 have n1:(mkRat z d).num.natAbs≤z.natAbs:=by
  rw [e1,Int.natAbs_ediv_of_dvd (by exact Int.ofNat_dvd_left.2 (Nat.gcd_dvd_left _ _))];exact Nat.div_le_self _ _
 have n2:(mkRat z d).den≤d:=by rw [e2];exact Nat.div_le_self _ _
 have:=digs_len_mono n1;have:=digs_len_mono n2;omega
theorem rlen_zero:rlen 0=1:=by rfl
theorem rlen_one:rlen 1=1:=by rfl
theorem sum_short:Short (· + ·):=by
 intro p q;show rlen (p+q)≤_;rw [← rat_sum];have d1:=digs_len_prod p.num.natAbs q.den;have d2:=digs_len_prod q.num.natAbs p.den;have d3:=digs_len_prod p.den q.den;have d4:=digs_len_add (p.num.natAbs*q.den) (q.num.natAbs*p.den)
 have d5:(digs (p.num*q.den+q.num*p.den).natAbs).length≤(digs (p.num.natAbs*q.den+q.num.natAbs*p.den)).length:=by
  refine digs_len_mono (nTr (Int.natAbs_add_le _ _) ?_);rw [Int.natAbs_mul,Int.natAbs_mul];simp
 refine rlen_mkRat (Nat.mul_ne_zero p.den_nz q.den_nz) ?_ ?_<;>unfold rlen<;>omega
theorem product_short:Short (· * ·):=by
 intro p q;show rlen (p*q)≤_;rw [← rat_prod];have d1:=digs_len_prod p.num.natAbs q.num.natAbs;have d3:=digs_len_prod p.den q.den;rw [← Int.natAbs_mul] at d1;refine rlen_mkRat (Nat.mul_ne_zero p.den_nz q.den_nz) ?_ ?_<;>unfold rlen<;>omega
theorem add05_any (ar:Option Addr) (nr cr:Nat) (f:Nat→Bool×List Nat×List Nat) (K:Nat) (w:World) (gr:RatsAt w ar nr cr f) (hs:1≤K) (hk:∀ i,i<nr→(f i).2.1.length≤K∧(f i).2.2.length≤K) (hK:K+nr*(K+1)≤17179869184) :
 Calls Tryz.prog 200 #[.slice ar nr cr] w (RetAns w (foldA (· + ·) 0 f nr)):=by
 obtain ⟨R,hR⟩:∃ R,foldA (· + ·) 0 f nr=R:=⟨_,rfl⟩;rw [hR];have HR:=hiD hR;clear hR
 go_enter Tryz.func200,Tryz.ntmps200
 have hB:=bRf w.heap.size w
 go_wp2_with fail
 obtain ⟨w1,hW,hz0,hb,q,f,qr0,qr1,qr2⟩:=bx3 w (w.heap.size) (by omega) (.bool false) (.slice none 0 0) (.slice none 0 0) 28;rw [hW];clear hW;have gr:=gr.past hb;have hB:=bLt hB hb;clear hb;have lr:w.heap.size<w1.heap.size:=by omega
 have xr:BoxAt w1 (w.heap.size) 3:=BoxAt.of q f rfl (by simp [notU_bool,notU_slice,notU_i64]);clear q f;clear hz0
 with_reducible refine (one05_any _).mono ?_
 rintro e w2 ⟨ahO,nhO,chO,rfl,hO,hb⟩;have hO:=hO.mono hB.size;have gr:=gr.past hb;have xr:=xr.past hb lr;obtain ⟨qr0,qr1,qr2,lr⟩:=bq3 hb lr qr0 qr1 qr2;have hB:=bLt hB hb;clear hb
 go_wp2_with fail
 refine (fold05_sum (· + ·) sum05_does sum_short (0:Rat) _ _ _ _ _ _ _ _ _ f K _ w.heap.size hB.size (OwnAt.nil _ _) hO gr (by first | (rw [rlen_zero];exact hs) | (rw [rlen_one];exact hs)) hk hK).mono ?_
 rintro e w3 ⟨ahU,nhU,chU,ahD,nhD,chD,rfl,hU,hD,hb⟩;have hO:=hO.past hb;have xr:=xr.past hb lr;obtain ⟨qr0,qr1,qr2,lr⟩:=bq3 hb lr qr0 qr1 qr2;have hB:=bLt hB hb;clear hb;rw [HR.out] at hU hD ⊢;have zf0:=xr.f 0 (by decide);have zf1:=xr.f 1 (by decide);have zf2:=xr.f 2 (by decide)
 go_wp2
 obtain ⟨w4,hW,hO,qN0,qN1,qN2,xN⟩:=store3 xr (.bool (neg R.up)) (.slice ahU nhU chU) (.slice ahD nhD chD) (nu rfl) (nu rfl) (nu rfl);try rw [hW]
 clear hW;have hU:=hO.own hU;have hD:=hO.own hD;have lr:w.heap.size<w4.heap.size:=by rw [hO.size];exact lr
 have qr0:=qN0;have qr1:=qN1;have qr2:=qN2;have xr:=xN;have hB:=hO.below (by omega) hB;clear hO qN0 qN1 qN2 xN zf0 zf1 zf2;refine bodyPost_ret (v:=.tuple #[.agg #[.bool (neg R.up),.slice ahU nhU chU,.slice ahD nhD chD],.int .i64 R.why]) ?_ rfl ⟨_,_,_,_,_,_,rfl,hU,hD,hB⟩;simp [results,Tryz.f200,go_sem,qr0,qr1,qr2]
theorem mul05_any (ar:Option Addr) (nr cr:Nat) (f:Nat→Bool×List Nat×List Nat) (K:Nat) (w:World) (gr:RatsAt w ar nr cr f) (hs:1≤K) (hk:∀ i,i<nr→(f i).2.1.length≤K∧(f i).2.2.length≤K) (hK:K+nr*(K+1)≤17179869184) :
 Calls Tryz.prog 249 #[.slice ar nr cr] w (RetAns w (foldA (· * ·) 1 f nr)):=by
 obtain ⟨R,hR⟩:∃ R,foldA (· * ·) 1 f nr=R:=⟨_,rfl⟩;rw [hR];have HR:=hiD hR;clear hR
 go_enter Tryz.func249,Tryz.ntmps249
 have hB:=bRf w.heap.size w
 go_wp2_with fail
 obtain ⟨w1,hW,hz0,hb,q,f,qr0,qr1,qr2⟩:=bx3 w (w.heap.size) (by omega) (.bool false) (.slice none 0 0) (.slice none 0 0) 28;rw [hW];clear hW;have gr:=gr.past hb;have hB:=bLt hB hb;clear hb;have lr:w.heap.size<w1.heap.size:=by omega
 have xr:BoxAt w1 (w.heap.size) 3:=BoxAt.of q f rfl (by simp [notU_bool,notU_slice,notU_i64]);clear q f;clear hz0
 with_reducible refine (one05_any _).mono ?_
 rintro e w2 ⟨ahP,nhP,chP,rfl,hP,hb⟩;have hP:=hP.mono hB.size;have gr:=gr.past hb;have xr:=xr.past hb lr;obtain ⟨qr0,qr1,qr2,lr⟩:=bq3 hb lr qr0 qr1 qr2;have hB:=bLt hB hb;clear hb
 go_wp2_with fail
 with_reducible refine (one05_any _).mono ?_
 rintro e w3 ⟨ahO,nhO,chO,rfl,hO,hb⟩;have hO:=hO.mono hB.size;have gr:=gr.past hb;have hP:=hP.past hb;have xr:=xr.past hb lr;obtain ⟨qr0,qr1,qr2,lr⟩:=bq3 hb lr qr0 qr1 qr2;have hB:=bLt hB hb;clear hb
 go_wp2_with fail
 refine (fold05_product (· * ·) product05_does product_short (1:Rat) _ _ _ _ _ _ _ _ _ f K _ w.heap.size hB.size hP hO gr (by first | (rw [rlen_zero];exact hs) | (rw [rlen_one];exact hs)) hk hK).mono ?_
 rintro e w4 ⟨ahU,nhU,chU,ahD,nhD,chD,rfl,hU,hD,hb⟩;have hO:=hO.past hb;have xr:=xr.past hb lr;obtain ⟨qr0,qr1,qr2,lr⟩:=bq3 hb lr qr0 qr1 qr2;have hB:=bLt hB hb;clear hb;rw [HR.out] at hU hD ⊢;have zf0:=xr.f 0 (by decide);have zf1:=xr.f 1 (by decide);have zf2:=xr.f 2 (by decide)
 go_wp2
 obtain ⟨w5,hW,hO,qN0,qN1,qN2,xN⟩:=store3 xr (.bool (neg R.up)) (.slice ahU nhU chU) (.slice ahD nhD chD) (nu rfl) (nu rfl) (nu rfl);try rw [hW]
 clear hW;have hU:=hO.own hU;have hD:=hO.own hD;have lr:w.heap.size<w5.heap.size:=by rw [hO.size];exact lr
 have qr0:=qN0;have qr1:=qN1;have qr2:=qN2;have xr:=xN;have hB:=hO.below (by omega) hB;clear hO qN0 qN1 qN2 xN zf0 zf1 zf2;refine bodyPost_ret (v:=.tuple #[.agg #[.bool (neg R.up),.slice ahU nhU chU,.slice ahD nhD chD],.int .i64 R.why]) ?_ rfl ⟨_,_,_,_,_,_,rfl,hU,hD,hB⟩;simp [results,Tryz.f249,go_sem,qr0,qr1,qr2]
end
section
open Go.RowKit
def RetOk (w:World) (q:Rat) (e:Ending) (w':World):Prop :=
 ∃ a n c a2 n2 c2,e = .returned (.tuple #[.agg #[.bool (neg q.num),.slice a n c,.slice a2 n2 c2],.int .i64 0])∧OwnAt w' w.heap.size a n c (digs q.num.natAbs)∧OwnAt w' w.heap.size a2 n2 c2 (digs q.den)∧Below w.heap.size w w'
theorem RetAns.ok {w:World} {q:Rat} {e:Ending} {w':World} (h:RetAns w (.ok q) e w'):RetOk w q e w':=h
def ratsF (L:List Rat):Nat→Bool×List Nat×List Nat:=fun i=>partsOf (L.getD i 0)
theorem allR_rats (L:List Rat) (n:Nat):allR (ratsF L) n=true:=allR_iff.2 fun _ _=>chk3_parts _
theorem foldA_two (F:Rat→Rat→Rat) (s p q:Rat):foldA F s (ratsF [p,q]) 2 = .ok (F (F s p) q):=by
 unfold foldA;rw [if_pos (allR_rats _ _)];simp [foldR,ratsF,ratOf_parts]
theorem foldA_three (F:Rat→Rat→Rat) (s p q r:Rat):foldA F s (ratsF [p,q,r]) 3 = .ok (F (F (F s p) q) r):=by
 unfold foldA;rw [if_pos (allR_rats _ _)];simp [foldR,ratsF,ratOf_parts]
theorem rlen_parts (q:Rat) {K:Nat} (h:rlen q≤K):(partsOf q).2.1.length≤K∧(partsOf q).2.2.length≤K:=by
 unfold rlen at h;unfold partsOf;dsimp only;omega
theorem RatsAt.two {w:World} {g:Nat} {p q:Rat} {a1:Option Addr} {n1 c1:Nat} {b1:Option Addr} {m1 e1:Nat} {a2:Option Addr} {n2 c2:Nat} {b2:Option Addr} {m2 e2:Nat} (hl:g<w.heap.size)
 (q0:w.cell? ⟨g,0,none⟩=some (.bool (neg p.num))) (q1:w.cell? ⟨g,1,none⟩=some (.slice a1 n1 c1)) (q2:w.cell? ⟨g,2,none⟩=some (.slice b1 m1 e1))
 (q3:w.cell? ⟨g,3,none⟩=some (.bool (neg q.num))) (q4:w.cell? ⟨g,4,none⟩=some (.slice a2 n2 c2)) (q5:w.cell? ⟨g,5,none⟩=some (.slice b2 m2 e2))
 (u1:NatAt w a1 n1 c1 (digs p.num.natAbs)) (d1:NatAt w b1 m1 e1 (digs p.den)) (u2:NatAt w a2 n2 c2 (digs q.num.natAbs)) (d2:NatAt w b2 m2 e2 (digs q.den)) :
 RatsAt w (some ⟨g,0,none⟩) 2 2 (ratsF [p,q]):=by
 refine ⟨nRf _,by simp [maxLen],.inr ⟨g,0,rfl,hl,fun i hi => ?_⟩⟩
 match i,hi with
 | 0,_=>exact ⟨_,_,_,_,_,_,q0,q1,q2,u1,d1⟩
 | 1,_=>exact ⟨_,_,_,_,_,_,q3,q4,q5,u2,d2⟩
theorem RatsAt.three {w:World} {g:Nat} {p q r:Rat} {a1:Option Addr} {n1 c1:Nat} {b1:Option Addr} {m1 e1:Nat} {a2:Option Addr} {n2 c2:Nat} {b2:Option Addr} {m2 e2:Nat} {a3:Option Addr} {n3 c3:Nat} {b3:Option Addr} {m3 e3:Nat} (hl:g<w.heap.size)
 (q0:w.cell? ⟨g,0,none⟩=some (.bool (neg p.num))) (q1:w.cell? ⟨g,1,none⟩=some (.slice a1 n1 c1)) (q2:w.cell? ⟨g,2,none⟩=some (.slice b1 m1 e1))
 (q3:w.cell? ⟨g,3,none⟩=some (.bool (neg q.num))) (q4:w.cell? ⟨g,4,none⟩=some (.slice a2 n2 c2)) (q5:w.cell? ⟨g,5,none⟩=some (.slice b2 m2 e2))
 (q6:w.cell? ⟨g,6,none⟩=some (.bool (neg r.num))) (q7:w.cell? ⟨g,7,none⟩=some (.slice a3 n3 c3)) (q8:w.cell? ⟨g,8,none⟩=some (.slice b3 m3 e3))
 (u1:NatAt w a1 n1 c1 (digs p.num.natAbs)) (d1:NatAt w b1 m1 e1 (digs p.den)) (u2:NatAt w a2 n2 c2 (digs q.num.natAbs)) (d2:NatAt w b2 m2 e2 (digs q.den)) (u3:NatAt w a3 n3 c3 (digs r.num.natAbs)) (d3:NatAt w b3 m3 e3 (digs r.den)) :
 RatsAt w (some ⟨g,0,none⟩) 3 3 (ratsF [p,q,r]):=by
 refine ⟨nRf _,by simp [maxLen],.inr ⟨g,0,rfl,hl,fun i hi => ?_⟩⟩
 match i,hi with
 | 0,_=>exact ⟨_,_,_,_,_,_,q0,q1,q2,u1,d1⟩
 | 1,_=>exact ⟨_,_,_,_,_,_,q3,q4,q5,u2,d2⟩
 | 2,_=>exact ⟨_,_,_,_,_,_,q6,q7,q8,u3,d3⟩
theorem add_two {w:World} {a:Option Addr} {p q:Rat} (gr:RatsAt w a 2 2 (ratsF [p,q])) (h1:rlen p≤1048576) (h2:rlen q≤1048576):Calls Tryz.prog 200 #[.slice a 2 2] w (RetOk w (p+q)):=by
 have h:=add05_any a 2 2 (ratsF [p,q]) 1048576 w gr (by decide) (fun i hi=>by
  match i,hi with
  | 0,_=>exact rlen_parts _ h1
  | 1,_=>exact rlen_parts _ h2) (by decide)
 rw [foldA_two,show (0:Rat)+p=p from Rat.zero_add p] at h;exact h.mono fun e w' h=>h.ok
theorem mul_two {w:World} {a:Option Addr} {p q:Rat} (gr:RatsAt w a 2 2 (ratsF [p,q])) (h1:rlen p≤1048576) (h2:rlen q≤1048576):Calls Tryz.prog 249 #[.slice a 2 2] w (RetOk w (p*q)):=by
 have h:=mul05_any a 2 2 (ratsF [p,q]) 1048576 w gr (by decide) (fun i hi=>by
  match i,hi with
  | 0,_=>exact rlen_parts _ h1
  | 1,_=>exact rlen_parts _ h2) (by decide)
 rw [foldA_two,show (1:Rat)*p=p from Rat.one_mul p] at h;exact h.mono fun e w' h=>h.ok
theorem mul_three {w:World} {a:Option Addr} {p q r:Rat} (gr:RatsAt w a 3 3 (ratsF [p,q,r])) (h1:rlen p≤1048576) (h2:rlen q≤1048576) (h3:rlen r≤1048576):Calls Tryz.prog 249 #[.slice a 3 3] w (RetOk w (p*q*r)):=by
 have h:=mul05_any a 3 3 (ratsF [p,q,r]) 1048576 w gr (by decide) (fun i hi=>by
  match i,hi with
  | 0,_=>exact rlen_parts _ h1
  | 1,_=>exact rlen_parts _ h2
  | 2,_=>exact rlen_parts _ h3) (by decide)
 rw [foldA_three,show (1:Rat)*p=p from Rat.one_mul p] at h;exact h.mono fun e w' h=>h.ok
end
section
open Go.RowKit
theorem pairR_ok {x y:Int} (hy:y≠0):pairR x y = .ok (mkRat (sg (neg x != neg y) x.natAbs) y.natAbs):=by
 unfold pairR makeR;rw [if_neg (by rw [chkZ_canon];simp),val_digs,val_digs,if_neg (by omega),natAbs_sg]
 congr 2
 have h:=sg_canon (sg (neg x != neg y) x.natAbs);rw [natAbs_sg,val_digs] at h;exact h
theorem pair_ok {x y:Int} {q:Rat} (hy:y≠0) (hq:mkRat (sg (neg x != neg y) x.natAbs) y.natAbs=q) (w:World) (hx:-9223372036854775808≤x∧x≤9223372036854775807) (hy2:-9223372036854775808≤y∧y≤9223372036854775807) :
 Calls Tryz.prog 55 #[.int .i64 x,.int .i64 y] w (RetOk w q):=by
 have h:=pair05_any x y w hx hy2;rw [pairR_ok hy,hq] at h;exact h
end
section
open Go.RowKit
def okT (zs:List Int) (k:Int):Prop:=1≤k∧k≤65536∧1≤zs.length∧(zs.length:Int)≤k∧(∀ z ∈ zs,0≤z∧z≤16777215)∧∃ z ∈ zs,0<z
instance (zs:List Int) (k:Int):Decidable (okT zs k):=by unfold okT;infer_instance
def chkT (zs:List Int) (k:Int):Int:=if okT zs k then 0 else 13
theorem chkT_no {zs:List Int} {k:Int} (h:¬ okT zs k):chkT zs k=13:=if_neg h
theorem chkT_yes {zs:List Int} {k:Int} (h:okT zs k):chkT zs k=0:=if_pos h
def someT (zs:List Int) (j:Nat):Bool:=(zs.take j).any fun z=>decide (0<z)
theorem someT_succ {zs:List Int} {j:Nat} (h:j<zs.length):someT zs (j+1)=(someT zs j || decide (0<zs.getD j 0)):=by
 unfold someT;rw [List.take_add_one,List.any_append,List.getD_eq_getElem?_getD,List.getElem?_eq_getElem h];simp
theorem getD_mem' {zs:List Int} {j:Nat} (h:j<zs.length):zs.getD j 0 ∈ zs:=by
 rw [List.getD_eq_getElem?_getD,List.getElem?_eq_getElem h];exact List.getElem_mem h
def sumW (zs:List Int):Nat→Int
 | 0=>0
 | j+1=>wrap64 (sumW zs j+zs.getD j 0)
theorem soliCheck_any (a:Option Addr) (n c:Nat) (zs:List Int) (k:Int) (w:World) (g:IntsAt w a n c zs) :
 Calls Tryz.prog 78 #[.slice a n c,.int .i64 k] w (RetVal w (.int .i64 (chkT zs k))):=by
 have hcle:=g.cle;have hle:=g.le;have hlen:=g.len;have hm:n≤9223372036854775807:=by unfold maxLen at hcle;omega
 by_cases hb:1≤k∧k≤65536∧1≤n∧(n:Int)≤k
 · obtain ⟨h1,h2,h3,h4⟩:=hb
   have hgo:∀ j,j<n→(0≤zs.getD j 0∧zs.getD j 0≤16777215)∨chkT zs k=13:=fun j hj=>by
    by_cases hz:0≤zs.getD j 0∧zs.getD j 0≤16777215
    · exact .inl hz
    exact .inr (chkT_no fun h=>hz (h.2.2.2.2.1 _ (getD_mem' (by omega))))
   have hend:(∀ j,j<n→0≤zs.getD j 0∧zs.getD j 0≤16777215)→chkT zs k=if someT zs n=true then 0 else 13:=fun hall=>by
    have hiff:okT zs k ↔ someT zs n=true:=by
     constructor
     · intro h;unfold someT;rw [← hlen,List.take_length,List.any_eq_true];obtain ⟨z,hz,h0⟩:=h.2.2.2.2.2;exact ⟨z,hz,decide_eq_true h0⟩
     intro h;refine ⟨h1,h2,by omega,by omega,fun z hz => ?_,?_⟩
     · obtain ⟨i,hi,rfl⟩:=List.getElem_of_mem hz;have:=hall i (by omega)
       rwa [List.getD_eq_getElem?_getD,List.getElem?_eq_getElem hi] at this
     unfold someT at h;rw [← hlen,List.take_length,List.any_eq_true] at h;obtain ⟨z,hz,h0⟩:=h;exact ⟨z,hz,of_decide_eq_true h0⟩
    unfold chkT;simp only [hiff]
   have hs:=fun j (hj:j<n)=>someT_succ (zs:=zs) (j:=j) (by omega)
   obtain ⟨R,hR⟩:∃ R,chkT zs k=R:=⟨_,rfl⟩;rw [hR] at hend ⊢;have HGO:=hiD hgo;have HEND:=hiD hend;have HS:=hiD hs;have HR:=hiD hR;have g0:=g;clear hgo hend hs hR g
   go_enter Tryz.func78,Tryz.ntmps78
   go_wp2
   go_loopw [5,7,27] (fun s x i wr=>∃ (j:Nat),j≤n∧s = .bool (someT zs j)∧i = .int .i64 (j:Int)∧wr=w∧Hid (∀ i,i<j→0≤zs.getD i 0∧zs.getD i 0≤16777215)) (fun s x i _=>n-(intOf i).toNat)
   case atStart=>exact ⟨0,Nat.zero_le _,rfl,rfl,rfl,hiD fun i hi=>absurd hi (Nat.not_lt_zero i)⟩
   case round =>
    obtain ⟨j,hj,rfl,rfl,rfl,HALL⟩:=hrel
    by_cases hlt:j<n
    · rcases g0.cell with h0 | ⟨b,o,rfl,hbl,hc⟩
      · omega
      have q:=hc j hlt;have hs1:=HS.out j hlt;have hg:=HGO.out j hlt;have hall:=HALL.out;obtain ⟨z,hz⟩:∃ z,zs.getD j 0=z:=⟨_,rfl⟩;rw [hz] at q hs1 hg;obtain ⟨s,hs⟩:∃ s,someT zs j=s:=⟨_,rfl⟩;rw [hs] at hs1 ⊢;have HS1:=hiD hs1;have HZ:=hiD hz;clear hc hs1 hz hs
      by_cases hz1:z<0
      · have e:R=13:=(hg.resolve_left (by omega)) ▸ HR.out.symm;subst e;clear hg
        go_wp2
        go_ret
        exact ⟨rfl,bRf _ _⟩
      by_cases hz2:16777215<z
      · have e:R=13:=(hg.resolve_left (by omega)) ▸ HR.out.symm;subst e;clear hg
        go_wp2
        go_ret
        exact ⟨rfl,bRf _ _⟩
      clear hg
      have HN:=hiD (show ∀ i,i<j+1→0≤zs.getD i 0∧zs.getD i 0≤16777215 from fun i hi=>by
       by_cases e:i=j
       · subst e;rw [HZ.out];omega
       exact hall i (by omega))
      clear hall;cases s
      · go_wp2
        go_roundw
        case rel=>exact ⟨j+1,by omega,by rw [HS1.out];rfl,by go_num,trivial,HN⟩
        case measure=>simp [intOf];omega
      go_wp2
      go_roundw
      case rel=>exact ⟨j+1,by omega,by rw [HS1.out];rfl,by go_num,trivial,HN⟩
      case measure=>simp [intOf];omega
    obtain rfl:j=n:=by omega
    have he:=HEND.out HALL.out;obtain ⟨s,hs⟩:∃ s,someT zs j=s:=⟨_,rfl⟩;rw [hs] at he ⊢;have HE:=hiD he;clear he hs;cases s
    · go_wp2
      go_ret
      exact ⟨by rw [HE.out];rfl,bRf _ _⟩
    go_wp2
    go_ret
    exact ⟨by rw [HE.out];rfl,bRf _ _⟩
 have e:chkT zs k=13:=chkT_no fun h=>hb ⟨h.1,h.2.1,by have:=h.2.2.1;omega,by have:=h.2.2.2.1;omega⟩
 rw [e];clear e
 by_cases h1:k<1
 · go_enter Tryz.func78,Tryz.ntmps78
   go_wp2
   go_ret
   exact ⟨rfl,bRf _ _⟩
 by_cases h2:65536<k
 · go_enter Tryz.func78,Tryz.ntmps78
   go_wp2
   go_ret
   exact ⟨rfl,bRf _ _⟩
 by_cases h3:n<1
 · obtain rfl:n=0:=by omega
   go_enter Tryz.func78,Tryz.ntmps78
   go_wp2
   go_ret
   exact ⟨rfl,bRf _ _⟩
 have h4:k<(n:Int):=by omega
 clear hb
 go_enter Tryz.func78,Tryz.ntmps78
 go_wp2
 go_ret
 exact ⟨rfl,bRf _ _⟩
theorem total1_any (b:Nat) (s x:Int) (w:World) (hc:w.cell? ⟨b,0,none⟩=some (.int .i64 s)) (hf:w.frozen? ⟨b,0,none⟩=false) :
 Calls Tryz.prog 265 #[.int .i64 x,.pointer (some ⟨b,0,none⟩)] w fun e w'=>e = .returned (.tuple #[])∧w'=w.setCell ⟨b,0,none⟩ (.int .i64 (wrap64 (s+x))):=by
 go_enter Tryz.func265,Tryz.ntmps265
 go_wp2
 go_end0
 exact ⟨rfl,rfl⟩
theorem pr_pos {x:Int} {y:Nat} (hy:0<y):mkRat (sg (neg x != neg (y:Int)) x.natAbs) (y:Int).natAbs=mkRat x y:=by
 have h1:neg (y:Int)=false:=decide_eq_false (by omega)
 have h2:sg (neg x) x.natAbs=x:=by
  have h:=sg_canon x
  rwa [val_digs] at h
 rw [h1,Bool.bne_false,h2,Int.natAbs_natCast]
end
section
open Go.RowKit
def upS (g:Nat→Int):Nat→Int
 | 0=>0
 | i+1=>upS g i+g i*((i+1:Nat):Int)
def totS (g:Nat→Int):Nat→Int
 | 0=>0
 | i+1=>totS g i+g i
theorem totS_in {g:Nat→Int}:∀ n,(∀ i,i<n→0≤g i∧g i≤16777215)→0≤totS g n∧totS g n≤n*16777215
 | 0,_=>by simp [totS]
 | n + 1, e => by
   have h:=totS_in n fun i hi=>e i (by omega)
   have:=e n (by omega);rw [totS];omega
theorem upS_in {g:Nat→Int}:∀ n,(∀ i,i<n→0≤g i)→totS g n≤upS g n∧upS g n≤n*totS g n∧0≤totS g n
 | 0,_=>by simp [totS,upS]
 | n + 1, e => by
   obtain ⟨h1,h2,h3⟩:=upS_in n fun i hi=>e i (by omega)
   have:=e n (by omega);rw [totS,upS];generalize totS g n=t at *;generalize upS g n=u at *;generalize g n=x at *;have e1:x*((n+1:Nat):Int)=x*n+x:=by rw [Int.natCast_add,Int.mul_add,Int.natCast_one,Int.mul_one]
   have e2:((n+1:Nat):Int)*(t+x)=n*t+t+(n*x+x):=by rw [Int.natCast_add,Int.add_mul,Int.natCast_one,Int.one_mul,Int.mul_add];omega
   have e3:(n:Int)*x=x*n:=Int.mul_comm _ _;have e4:0≤x*n:=Int.mul_nonneg this (by omega);rw [e1,e2,e3];omega
theorem sumW_tot {zs:List Int}:∀ n,n≤65536→(∀ i,i<n→0≤zs.getD i 0∧zs.getD i 0≤16777215)→sumW zs n=totS (fun i=>zs.getD i 0) n
 | 0,_,_=>rfl
 | n + 1, h, e => by
   have h1:=totS_in (g:=fun i=>zs.getD i 0) n fun i hi=>e i (by omega)
   have h2:=e n (by omega);rw [sumW,totS,sumW_tot n (by omega) fun i hi=>e i (by omega)];unfold wrap64;generalize totS (fun i=>zs.getD i 0) n=t at *;generalize zs.getD n 0=x at *;omega
theorem okT_in {zs:List Int} {k:Int} (h:okT zs k):∀ i,i<zs.length→0≤zs.getD i 0∧zs.getD i 0≤16777215:=fun i hi=>h.2.2.2.2.1 _ (getD_mem' hi)
theorem totS_pos {g:Nat→Int}:∀ n,(∀ i,i<n→0≤g i)→(∃ i,i<n∧0<g i)→0<totS g n
 | 0,_,h=>by obtain ⟨i,hi,_⟩:=h;omega
 | n + 1, e, h => by
   have h3:=(upS_in n fun i hi=>e i (by omega)).2.2;obtain ⟨i,hi,hp⟩:=h;rw [totS]
   by_cases hin:i=n
   · subst hin;omega
   have:=totS_pos n (fun i hi=>e i (by omega)) ⟨i,by omega,hp⟩;have:=e n (by omega);omega
theorem okT_pos {zs:List Int} {k:Int} (h:okT zs k):0<totS (fun i=>zs.getD i 0) zs.length:=by
 obtain ⟨z,hz,h0⟩:=h.2.2.2.2.2;obtain ⟨i,hi,rfl⟩:=List.getElem_of_mem hz;refine totS_pos _ (fun i hi=>(okT_in h i hi).1) ⟨i,hi,?_⟩;simp only [List.getD_eq_getElem?_getD,List.getElem?_eq_getElem hi];exact h0
end
section
open Go.RowKit
theorem total_any (a:Option Addr) (n c:Nat) (zs:List Int) (w:World) (g:IntsAt w a n c zs) :
 Calls Tryz.prog 259 #[.slice a n c] w (RetVal w (.int .i64 (sumW zs n))):=by
 have hcle:=g.cle;have hle:=g.le;have hm:n≤9223372036854775807:=by unfold maxLen at hcle;omega
 have h0:sumW zs 0=0:=rfl;obtain ⟨SF,hSF⟩:∃ SF,sumW zs=SF:=⟨_,rfl⟩;rw [hSF] at h0 ⊢;have hs:∀ j,SF (j+1)=wrap64 (SF j+zs.getD j 0):=fun j=>by rw [← hSF];rfl
 have HS:=hiD hs;have H0:=hiD h0;clear hs h0 hSF
 go_enter Tryz.func259,Tryz.ntmps259
 go_wp2
 obtain ⟨w1,hW,hz,hb,q,f⟩:=box1g w w.heap.size rfl #[.int .i64 0] 3;rw [hW];clear hW;have x0:BoxAt w1 w.heap.size 1:=BoxAt.of q f rfl (by simp [notU_i64]);have q0:=q 0;simp only [lgA,lgZ] at q0;have hlt:w.heap.size<w1.heap.size:=by omega
 clear q f hz;generalize hBB:w.heap.size=BB at *
 go_loopw [5,9] (fun x i wr=>∃ (j:Nat),j≤n∧i = .int .i64 (j:Int)∧Below w.heap.size w wr∧BB<wr.heap.size∧wr.cell? ⟨BB,0,none⟩=some (.int .i64 (SF j))∧BoxAt wr BB 1) (fun x i _=>n-(intOf i).toNat)
 case atStart=>exact ⟨0,Nat.zero_le _,rfl,by rw [hBB];exact hb,hlt,by rw [H0.out];exact q0,x0⟩
 case round =>
  clear hb hlt q0 x0;obtain ⟨j,hj,rfl,hB,hlt2,q0,x0⟩:=hrel
  by_cases hlt:j<n
  · rcases (g.past hB).cell with h0 | ⟨b,o,rfl,hbl,hc⟩
    · omega
    have q:=hc j hlt;have hs:=HS.out j;obtain ⟨z,hz⟩:∃ z,zs.getD j 0=z:=⟨_,rfl⟩;rw [hz] at q hs;obtain ⟨S,hS⟩:∃ S,SF j=S:=⟨_,rfl⟩;rw [hS] at hs q0;have HSS:=hiD hs;clear hs hS hz hc
    go_wp2_with fail
    have hf:=x0.f 0 (by decide)
    with_reducible refine (total1_any _ S z _ q0 hf).mono ?_
    rintro e w2 ⟨rfl,rfl⟩
    go_wp2
    go_roundw
    case rel=>exact ⟨j+1,by omega,by go_num,hB.setCell (p:=⟨BB,0,none⟩) (Nat.le_of_eq hBB) _,by simpa using hlt2,by rw [HSS.out];exact World.cell?_setCell_same _ _ _ q0,x0.set ⟨BB,0,none⟩ _ (notU_i64 _)⟩
    case measure=>simp [intOf];omega
  obtain rfl:j=n:=by omega
  obtain ⟨S,hS⟩:∃ S,SF j=S:=⟨_,rfl⟩;rw [hS] at q0;have HSS:=hiD hS;clear hS;have hf:=x0.f 0 (by decide)
  go_wp2
  refine bodyPost_ret (v:=.int .i64 S) ?_ rfl ⟨by rw [HSS.out],hB.setCell (p:=⟨BB,0,none⟩) (Nat.le_of_eq hBB) _⟩;simp [results,Tryz.f259,go_sem,World.cell?_setCell_same _ _ _ q0]
end
section
open Go.RowKit
theorem make_okR {z:Int} {T:Nat} {q:Rat} {a:Option Addr} {n c:Nat} {a2:Option Addr} {n2 c2:Nat} {w:World} (g1:NatAt w a n c (digs z.natAbs)) (g2:NatAt w a2 n2 c2 (digs T)) (hq:makeR (neg z) (digs z.natAbs) (digs T) = .ok q) (hs:n≤68719476736) (hs2:n2≤68719476736) :
 Calls Tryz.prog 96 #[.agg #[.bool (neg z),.slice a n c],.slice a2 n2 c2] w (RetOk w q):=by
 have h:=make05_any (neg z) a n c _ a2 n2 c2 _ w g1 g2 hs hs2;rw [hq] at h;exact h
end
def Fit (M A:Nat) (x:Rat):Prop:=∃ z:Int,x*(M:Rat)=(z:Rat)∧z.natAbs≤A*M
theorem Fit.add {M A B:Nat} {x y:Rat} (h:Fit M A x) (k:Fit M B y):Fit M (A+B) (x+y):=by
 obtain ⟨z,e,l⟩:=h;obtain ⟨u,e2,l2⟩:=k;refine ⟨z+u,by rw [Rat.add_mul,e,e2,Rat.intCast_add],?_⟩;rw [Nat.add_mul];omega
theorem Fit.mul {M N A B:Nat} {x y:Rat} (h:Fit M A x) (k:Fit N B y):Fit (M*N) (A*B) (x*y):=by
 obtain ⟨z,e,l⟩:=h;obtain ⟨u,e2,l2⟩:=k;refine ⟨z*u,?_,?_⟩
 · rw [Rat.intCast_mul,← e,← e2,Rat.natCast_mul]
   grind
 rw [Int.natAbs_mul];have:=Nat.mul_le_mul l l2;have e3:A*M*(B*N)=A*B*(M*N):=by grind
 omega
theorem Fit.weak {M A B:Nat} {x:Rat} (h:Fit M A x) (hab:A≤B):Fit M B x:=by
 obtain ⟨z,e,l⟩:=h;exact ⟨z,e,nTr l (Nat.mul_le_mul_right M hab)⟩
theorem Fit.wide {M A:Nat} {x:Rat} (h:Fit M A x) (K:Nat):Fit (M*K) A x:=by
 obtain ⟨z,e,l⟩:=h;refine ⟨z*K,?_,?_⟩
 · rw [Rat.intCast_mul,← e,Rat.natCast_mul,Rat.intCast_natCast]
   grind
 rw [Int.natAbs_mul,Int.natAbs_natCast,← Nat.mul_assoc];exact Nat.mul_le_mul_right K l
theorem Fit.zero (M:Nat):Fit M 0 0:=⟨0,by simp,by simp⟩
theorem Fit.nat (n:Nat):Fit 1 n (n:Rat):=⟨n,by rw [Rat.intCast_natCast];simp,by simp⟩
theorem Fit.mk (z:Int) (d:Nat) (hd:d≠0):Fit d z.natAbs (mkRat z d):=by
 refine ⟨z,?_,Nat.le_mul_of_pos_right _ (Nat.pos_of_ne_zero hd)⟩;have h:(d:Rat)≠0:=by exact_mod_cast hd
 rw [Rat.mkRat_eq_div,Rat.div_mul_cancel h]
theorem Fit.self (x:Rat):Fit x.den x.num.natAbs x:=by
 have:=Fit.mk x.num x.den x.den_nz
 rwa [Rat.mkRat_self] at this
theorem Fit.out {M A:Nat} {x:Rat} (hM:M≠0) (h:Fit M A x):∃ z:Int,x=mkRat z M∧z.natAbs≤A*M:=by
 obtain ⟨z,e,l⟩:=h;refine ⟨z,?_,l⟩;have h:(M:Rat)≠0:=by exact_mod_cast hM
 rw [Rat.mkRat_eq_div,← e,Rat.mul_div_cancel h]
theorem Fit.pow {M A:Nat} {x:Rat} (h:Fit M A x):∀ n:Nat,Fit (M ^ n) (A ^ n) (x ^ n)
 | 0 => by
   rw [Nat.pow_zero,Nat.pow_zero,Rat.pow_zero];exact Fit.nat 1
 | n + 1 => by
   rw [Nat.pow_succ,Nat.pow_succ,Rat.pow_succ];exact (Fit.pow h n).mul h
theorem Fit.len {M A L:Nat} {x:Rat} (hM:M≠0) (h:Fit M A x) (h1:(digs (A*M)).length≤L) (h2:(digs M).length≤L):rlen x≤L:=by
 obtain ⟨z,rfl,l⟩:=h.out hM;refine rlen_mkRat hM (nTr (digs_length_le.2 ?_) h1) h2;exact Nat.lt_of_le_of_lt l (digs_length_le.1 (nRf _))
end Go.Proofs.YtkhcblihbalnbaaGreatDoor
