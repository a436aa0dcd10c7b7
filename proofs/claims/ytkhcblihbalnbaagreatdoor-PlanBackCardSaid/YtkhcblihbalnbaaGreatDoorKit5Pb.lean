import Derived.Test.YtkhcblihbalnbaaGreatDoorKit2Pb
import Derived.Test.YtkhcblihbalnbaaGreatDoorRegPb
set_option linter.unusedVariables false
set_option linter.unusedSimpArgs false
set_option maxHeartbeats 8000000
set_option maxRecDepth 100000
namespace Go.Proofs.YtkhcblihbalnbaaGreatDoor
section
open Go.RowKit
def eqR (b:Bool) (l l2:List Nat) (b3:Bool) (l3 l4:List Nat):Bool:=decide (b=b3∧l=l3∧l2=l4)
theorem eqR_same (b:Bool) (l l2:List Nat):eqR b l l2 b l l2=true:=decide_eq_true ⟨rfl,rfl,rfl⟩
theorem sameRatio_any (b:Bool) (a:Option Addr) (n c:Nat) (l:List Nat) (a2:Option Addr) (n2 c2:Nat) (l2:List Nat) (b3:Bool) (a3:Option Addr) (n3 c3:Nat) (l3:List Nat) (a4:Option Addr) (n4 c4:Nat) (l4:List Nat) (w:World) (g1:NatAt w a n c l) (g2:NatAt w a2 n2 c2 l2) (g3:NatAt w a3 n3 c3 l3) (g4:NatAt w a4 n4 c4 l4) :
 Calls Tryz.prog 19 #[.agg #[.bool b,.slice a n c,.slice a2 n2 c2],.agg #[.bool b3,.slice a3 n3 c3,.slice a4 n4 c4]] w (RetVal w (.bool (eqR b l l2 b3 l3 l4))):=by
 by_cases hb:b=b3
 · by_cases hl:l=l3
   · subst hb hl;have e:eqR b l l2 b l l4=eqL l2 l4:=by unfold eqR eqL;simp
     rw [e];clear e
     go_enter Tryz.func19,Tryz.ntmps19
     have hB:=bRf w.heap.size w
     go_wp2_with fail
     obtain ⟨w1,hW,hz0,hb,q,f,qx0,qx1,qx2⟩:=bx3 w (w.heap.size) (by omega) (.bool b) (.slice a n c) (.slice a2 n2 c2) 28;rw [hW];clear hW;have g1:=g1.past hb;have g2:=g2.past hb;have g3:=g3.past hb;have g4:=g4.past hb;have hB:=bLt hB hb;clear hb;have lx:w.heap.size<w1.heap.size:=by omega
     clear q f;obtain ⟨w2,hW,hz1,hb,q,f,qy0,qy1,qy2⟩:=bx3 w1 (w.heap.size+1) (by omega) (.bool b) (.slice a3 n3 c3) (.slice a4 n4 c4) 28;rw [hW];clear hW;have g1:=g1.past hb;have g2:=g2.past hb;have g3:=g3.past hb;have g4:=g4.past hb;obtain ⟨qx0,qx1,qx2,lx⟩:=bq3 hb lx qx0 qx1 qx2;have hB:=bLt hB hb;clear hb;have ly:w.heap.size+1<w2.heap.size:=by omega
     clear q f;clear hz0;clear hz1
     with_reducible refine (sameWhole_yes g1 g3).mono ?_
     rintro e w3 ⟨rfl,hb⟩;have g1:=g1.past hb;have g2:=g2.past hb;have g3:=g3.past hb;have g4:=g4.past hb;obtain ⟨qx0,qx1,qx2,lx⟩:=bq3 hb lx qx0 qx1 qx2;obtain ⟨qy0,qy1,qy2,ly⟩:=bq3 hb ly qy0 qy1 qy2;have hB:=bLt hB hb;clear hb
     go_wp2_with fail
     with_reducible refine (sameNat_below g2 g4).mono ?_
     rintro e w4 ⟨rfl,hb⟩;have g1:=g1.past hb;have g3:=g3.past hb;obtain ⟨qx0,qx1,qx2,lx⟩:=bq3 hb lx qx0 qx1 qx2;obtain ⟨qy0,qy1,qy2,ly⟩:=bq3 hb ly qy0 qy1 qy2;have hB:=bLt hB hb;clear hb
     go_wp2
     go_ret
     exact ⟨rfl,hB⟩
   have e:eqR b l l2 b3 l3 l4=false:=by unfold eqR;simp [hl]
   rw [e];subst hb;have E:=hiD (show eqL l l3=false from eqL_false.2 hl);clear e hl
   go_enter Tryz.func19,Tryz.ntmps19
   have hB:=bRf w.heap.size w
   go_wp2_with fail
   obtain ⟨w1,hW,hz0,hb,q,f,qx0,qx1,qx2⟩:=bx3 w (w.heap.size) (by omega) (.bool b) (.slice a n c) (.slice a2 n2 c2) 28;rw [hW];clear hW;have g1:=g1.past hb;have g3:=g3.past hb;have hB:=bLt hB hb;clear hb;have lx:w.heap.size<w1.heap.size:=by omega
   clear q f;obtain ⟨w2,hW,hz1,hb,q,f,qy0,qy1,qy2⟩:=bx3 w1 (w.heap.size+1) (by omega) (.bool b) (.slice a3 n3 c3) (.slice a4 n4 c4) 28;rw [hW];clear hW;have g1:=g1.past hb;have g3:=g3.past hb;obtain ⟨qx0,qx1,qx2,lx⟩:=bq3 hb lx qx0 qx1 qx2;have hB:=bLt hB hb;clear hb;have ly:w.heap.size+1<w2.heap.size:=by omega
   clear q f;clear hz0;clear hz1
   with_reducible refine (sameWhole_eq _ _ _ _ l _ _ _ l3 _ g1 g3).mono ?_
   rintro e w3 ⟨rfl,hb⟩;obtain ⟨qx0,qx1,qx2,lx⟩:=bq3 hb lx qx0 qx1 qx2;obtain ⟨qy0,qy1,qy2,ly⟩:=bq3 hb ly qy0 qy1 qy2;have hB:=bLt hB hb;clear hb;rw [E.out]
   go_wp2
   go_ret
   exact ⟨rfl,hB⟩
 have e:eqR b l l2 b3 l3 l4=false:=by unfold eqR;simp [hb]
 rw [e];have hb':(b == b3)=false:=by simpa using hb
 clear e hb
 go_enter Tryz.func19,Tryz.ntmps19
 have hB:=bRf w.heap.size w
 go_wp2_with fail
 obtain ⟨w1,hW,hz0,hb,q,f,qx0,qx1,qx2⟩:=bx3 w (w.heap.size) (by omega) (.bool b) (.slice a n c) (.slice a2 n2 c2) 28;rw [hW];clear hW;have hB:=bLt hB hb;clear hb;have lx:w.heap.size<w1.heap.size:=by omega
 clear q f;obtain ⟨w2,hW,hz1,hb,q,f,qy0,qy1,qy2⟩:=bx3 w1 (w.heap.size+1) (by omega) (.bool b3) (.slice a3 n3 c3) (.slice a4 n4 c4) 28;rw [hW];clear hW;obtain ⟨qx0,qx1,qx2,lx⟩:=bq3 hb lx qx0 qx1 qx2;have hB:=bLt hB hb;clear hb;have ly:w.heap.size+1<w2.heap.size:=by omega
 clear q f;clear hz0;clear hz1
 with_reducible refine (sameWhole_no _ _ _ _ _ _ _ _ _ hb').mono ?_
 rintro e w3 ⟨rfl,hb⟩;obtain ⟨qx0,qx1,qx2,lx⟩:=bq3 hb lx qx0 qx1 qx2;obtain ⟨qy0,qy1,qy2,ly⟩:=bq3 hb ly qy0 qy1 qy2;have hB:=bLt hB hb;clear hb
 go_wp2
 go_ret
 exact ⟨rfl,hB⟩
def eqQ (p q:Rat):Bool:=decide (p=q)
theorem eqR_eqQ (p q:Rat):eqR (neg p.num) (digs p.num.natAbs) (digs p.den) (neg q.num) (digs q.num.natAbs) (digs q.den)=eqQ p q:=by
 unfold eqR eqQ;rw [decide_eq_decide]
 constructor
 · rintro ⟨h1,h2,h3⟩;exact Rat.ext (digs_abs_inj h1 h2) (by rw [← val_digs p.den,h3,val_digs])
 rintro rfl;exact ⟨rfl,rfl,rfl⟩
theorem longRatio_any (b:Bool) (a:Option Addr) (n c:Nat) (a2:Option Addr) (n2 c2:Nat) (k:Int) (w:World) (hc:n≤9223372036854775807) (hc2:n2≤9223372036854775807) :
 Calls Tryz.prog 29 #[.agg #[.bool b,.slice a n c,.slice a2 n2 c2],.int .i64 k] w (RetVal w (.bool (decide (k<(n:Int)) || decide (k<(n2:Int))))):=by
 cases hd:decide (k<(n:Int))
 · rw [Bool.false_or]
   go_enter Tryz.func29,Tryz.ntmps29
   go_wp2
   go_ret
   exact ⟨rfl,(bRf _ _).alloc (nRf _) _⟩
 rw [Bool.true_or]
 go_enter Tryz.func29,Tryz.ntmps29
 go_wp2
 go_ret
 exact ⟨rfl,(bRf _ _).alloc (nRf _) _⟩
end
section
open Go.RowKit
def RetCopyR (w:World) (b:Bool) (l l2:List Nat) (e:Ending) (w':World):Prop :=
 ∃ a n c a2 n2 c2,e = .returned (.agg #[.bool b,.slice a n c,.slice a2 n2 c2])∧OwnAt w' w.heap.size a n c l∧OwnAt w' w.heap.size a2 n2 c2 l2∧Below w.heap.size w w'
end
section
open Go.RowKit
def NewI (w:World) (a:Option Addr):Prop:=∀ x,a=some x→w.heap.size≤x.block
theorem NewI.ne {w w0:World} {a:Option Addr} {b:Nat} (h:NewI w a) (hb:b<w0.heap.size) (hw:w0.heap.size≤w.heap.size):∀ x,a=some x→x.block≠b:=fun x e=>by have:=h x e;omega
def ClnV (b:Nat) (zs:List Int) (y:Value) (w:World):Prop:=∃ a n c,y = .slice a n c∧IntsAt w a n c zs∧∀ x,a=some x→x.block≠b
theorem ClnV.past {b:Nat} {zs:List Int} {y:Value} {w w':World} (h:ClnV b zs y w) (hb:Below w.heap.size w w'):ClnV b zs y w':=by
 obtain ⟨a,n,c,e,h1,h2⟩:=h;exact ⟨a,n,c,e,h1.past hb,h2⟩
theorem IntsAt.setsOff {b:Nat} {zs:List Int} {a:Option Addr} {n c:Nat} {w:World} (h:IntsAt w a n c zs) (hne:∀ x,a=some x→x.block≠b) (vs:List Value) (o:Nat):IntsAt (w.setCells b o vs) a n c zs:=by
 refine ⟨h.len,h.le,h.cle,?_,h.nilc,h.wf⟩;rcases h.cell with h0 | ⟨b1,o1,rfl,hl,hc⟩
 · exact .inl h0
 refine .inr ⟨b1,o1,rfl,by rw [size_setCells];exact hl,fun i hi => ?_⟩;exact (World.cell?_setCells_out b vs o w ⟨b1,o1+i,none⟩ (fun e=>absurd e (hne ⟨b1,o1,none⟩ rfl))).trans (hc i hi)
theorem ClnV.sets {b k:Nat} {zs:List Int} {y:Value} {w:World} (h:ClnV b zs y w) (vs:List Value) (hx:BoxAt w b k) (hk:0+vs.length≤k) (hv:∀ v ∈ vs,notU v):ClnV b zs y (w.setCells b 0 vs):=by
 obtain ⟨a,n,c,e,h1,h2⟩:=h;exact ⟨a,n,c,e,h1.setsOff h2 vs 0,h2⟩
theorem BoxAt.nine {w:World} {b:Nat} (h:BoxAt w b 9):∃ v0 v1 v2 v3 v4 v5 v6 v7 v8,w.cell? ⟨b,0,none⟩=some v0∧w.cell? ⟨b,1,none⟩=some v1∧w.cell? ⟨b,2,none⟩=some v2∧w.cell? ⟨b,3,none⟩=some v3∧w.cell? ⟨b,4,none⟩=some v4∧w.cell? ⟨b,5,none⟩=some v5∧w.cell? ⟨b,6,none⟩=some v6∧w.cell? ⟨b,7,none⟩=some v7∧w.cell? ⟨b,8,none⟩=some v8∧w.frozen? ⟨b,0,none⟩=false∧w.frozen? ⟨b,1,none⟩=false∧w.frozen? ⟨b,2,none⟩=false∧w.frozen? ⟨b,3,none⟩=false∧w.frozen? ⟨b,4,none⟩=false∧w.frozen? ⟨b,5,none⟩=false∧w.frozen? ⟨b,6,none⟩=false∧w.frozen? ⟨b,7,none⟩=false∧w.frozen? ⟨b,8,none⟩=false:=by
 obtain ⟨v0,h0,_⟩:=h.c 0 (by decide);obtain ⟨v1,h1,_⟩:=h.c 1 (by decide);obtain ⟨v2,h2,_⟩:=h.c 2 (by decide);obtain ⟨v3,h3,_⟩:=h.c 3 (by decide);obtain ⟨v4,h4,_⟩:=h.c 4 (by decide);obtain ⟨v5,h5,_⟩:=h.c 5 (by decide);obtain ⟨v6,h6,_⟩:=h.c 6 (by decide);obtain ⟨v7,h7,_⟩:=h.c 7 (by decide);obtain ⟨v8,h8,_⟩:=h.c 8 (by decide);exact ⟨v0,v1,v2,v3,v4,v5,v6,v7,v8,h0,h1,h2,h3,h4,h5,h6,h7,h8,h.f 0 (by decide),h.f 1 (by decide),h.f 2 (by decide),h.f 3 (by decide),h.f 4 (by decide),h.f 5 (by decide),h.f 6 (by decide),h.f 7 (by decide),h.f 8 (by decide)⟩
theorem clone_ints (a:Option Addr) (n c:Nat) (zs:List Int) (w:World) (h:IntsAt w a n c zs) (hs:n≤1000) :
 Calls Tryz.prog 67 #[.slice a n c] w fun e w'=>∃ a' n' c',e = .returned (.slice a' n' c')∧IntsAt w' a' n' c' zs∧NewI w a'∧Below w.heap.size w w':=by
 obtain ⟨i0,hi,hz0,hz1,hz2⟩:=info_parts i64_info;have hq:=fun w=>Lib.run_eql_slice_nil (P:=Tryz.prog) w 22 3 a n c 0 0 Tryz.underlying22
 have hal:Below w.heap.size w (w.alloc (.cells #[] 3)):=(bRf _ _).alloc (nRf _) _;cases a with
 | none =>
   have hc:=h.nilc rfl;have hm:n=0:=by have:=h.le;omega
   subst hc;subst hm;have hl:zs=[]:=List.eq_nil_of_length_eq_zero h.len;subst hl
   go_enter Tryz.func67,Tryz.ntmps67
   go_wp2
   go_ret
   exact ⟨_,_,_,rfl,⟨rfl,nRf _,Nat.zero_le _,.inl rfl,fun _=>rfl,by simp⟩,fun _ e=>(by cases e),bRf _ _⟩
 | some ad =>
   have hnews:∀ j u,(zs.map (fun z=>Value.int .i64 z))[j]? = some u→(w.alloc (.cells #[] 3)).cell? (ad.add j)=some u:=by
    intro j u hu
    have hj:j<zs.length:=by
     have:=(List.getElem?_eq_some_iff.1 hu).1
     rwa [List.length_map] at this
    rw [List.getElem?_map,List.getElem?_eq_getElem hj] at hu;cases hu;rcases (h.past hal).cell with h0 | ⟨b,o,he,_,hc⟩
    · have:=h.len;omega
    cases he;rw [addr_add,hc j (by have:=h.len;omega),List.getD_eq_getElem?_getD,List.getElem?_eq_getElem hj];rfl
   have hlen:=h.len;have hwf:=h.wf
   go_enter Tryz.func67,Tryz.ntmps67
   go_wp2_with (at_builtin;refine wpList_append_own _ rfl _ _ 22 rfl w.heap.size 3 i0 (.int .i64 0) 1 8 Tryz.underlying22 hi hz0 hz1 hz2 rfl (by decide) _ 0 [] rfl (World.ownsRow_lit w #[] 0 (nRf _) (by simp) rfl) ad n c (zs.map (fun z=>Value.int .i64 z)) rfl (by rw [List.length_map,hlen,Nat.mul_one]) hnews (by simp [Value.oneCell']) (by simp only [maxLen];omega) (by omega) (by simp) ?_;intro v' w1 hown hgrow hnil)
   go_ret
   rw [Nat.zero_add,List.nil_append] at hown;have hB:Below w.heap.size w w1:=hal.grown hgrow (by simp) (fun k e=>by cases e;exact nRf _);rcases hown.2 with ⟨rfl,hn0⟩ | ⟨g,cap,cur,rfl,hg,hgg,hnc,hcm,_⟩
   · exact ⟨_,_,_,rfl,⟨by rw [hlen];exact hn0,nRf _,Nat.zero_le _,.inl rfl,fun _=>rfl,hwf⟩,fun _ e=>(by cases e),hB⟩
   refine ⟨_,_,_,rfl,⟨hlen,hnc,hcm,.inr ⟨g,0,rfl,(Array.getElem?_eq_some_iff.1 hgg).1,fun i hi => ?_⟩,(fun e=>by cases e),hwf⟩,fun x e=>by cases e;exact hg,hB⟩;rw [Nat.zero_add,World.ownsRow.cellAt hown i (by omega),List.getElem?_map,List.getD_eq_getElem?_getD,List.getElem?_eq_getElem (by omega)];rfl
theorem equal_yes {a:Option Addr} {n c:Nat} {zs:List Int} {a2:Option Addr} {n2 c2:Nat} {w:World} (h:IntsAt w a n c zs) (h2:IntsAt w a2 n2 c2 zs) :
 Calls Tryz.prog 91 #[.slice a n c,.slice a2 n2 c2] w (RetVal w (.bool true)):=by
 have hl:c≤9223372036854775807:=by have:=h.cle;simp only [maxLen] at this;omega
 have hl':=h.le;obtain rfl:n=n2:=h.len.symm.trans h2.len;have t0:((n:Int) != (n:Int))=false:=by simp
 go_enter Tryz.func91,Tryz.ntmps91
 go_wp2
 go_loopw [5,13] (fun s5 i wr=>∃ (k m:Nat),k≤n∧i = .int .i64 ((k:Nat):Int)∧wr=w.drewN m) (fun _ i _=>n-(intOf i).toNat)
 case atStart=>exact ⟨0,0,Nat.zero_le _,rfl,rfl⟩
 case round =>
  obtain ⟨k,m,hk,rfl,rfl⟩:=hrel
  by_cases hlt:k<n
  · have e1:=h.past (Below.draws (bRf _ _) m);have e2:=h2.past (Below.draws (bRf _ _) m);rcases e1.cell with h' | ⟨ba,oa,rfl,_,hca⟩
    · omega
    rcases e2.cell with h' | ⟨bb,ob,rfl,_,hcb⟩
    · omega
    have ca:=hca k hlt;have cb:=hcb k hlt;clear hca hcb e1 e2;obtain ⟨z,hz⟩:∃ z,zs.getD k 0=z:=⟨_,rfl⟩;rw [hz] at ca cb;have t1:(z != z)=false:=by simp
    clear hz
    go_wp2_with fail
    generalize hW:w.drewN m=W at ca cb ⊢;have HW:=hiD hW;clear hW
    go_quiet (fail)
    go_wp2
    go_roundw
    case rel=>exact ⟨k+1,m+nq,by omega,by go_num,by rw [← HW.out,World.drewN_drewN]⟩
    case measure=>simp [intOf];omega
  obtain rfl:k=n:=by omega
  go_wp2
  go_ret
  exact ⟨rfl,Below.draws (bRf _ _) m⟩
theorem same_yes {a:Option Addr} {n c:Nat} {zs:List Int} {a2:Option Addr} {n2 c2:Nat} {w:World} (h:IntsAt w a n c zs) (h2:IntsAt w a2 n2 c2 zs) :
 Calls Tryz.prog 50 #[.slice a n c,.slice a2 n2 c2] w (RetVal w (.bool true)):=by
 go_enter Tryz.func50,Tryz.ntmps50
 go_wp2_with fail
 with_reducible refine (equal_yes h h2).mono ?_
 rintro e w1 ⟨rfl,hb⟩
 go_wp2
 go_ret
 exact ⟨rfl,hb⟩
theorem owned_any (q:Rat) (a1:Option Addr) (n1 c1:Nat) (a2:Option Addr) (n2 c2:Nat) (w:World) (d1:NatAt w a1 n1 c1 (digs q.num.natAbs)) (d2:NatAt w a2 n2 c2 (digs q.den)) (h1:n1≤1048576) (h2:n2≤1048576) :
 Calls Tryz.prog 68 #[.agg #[.bool (neg q.num),.slice a1 n1 c1,.slice a2 n2 c2]] w (RetCopyR w (neg q.num) (digs q.num.natAbs) (digs q.den)):=by
 go_enter Tryz.func68,Tryz.ntmps68
 have hB:=bRf w.heap.size w
 go_wp2_with fail
 obtain ⟨w1,hW,hz0,hb,q,f,qb0,qb1,qb2⟩:=bx3 w (w.heap.size) (by omega) (.bool (neg q.num)) (.slice a1 n1 c1) (.slice a2 n2 c2) 28;rw [hW];clear hW;have d1:=d1.past hb;have d2:=d2.past hb;have hB:=bLt hB hb;clear hb;have lb:w.heap.size<w1.heap.size:=by omega
 have xb:BoxAt w1 (w.heap.size) 3:=BoxAt.of q f rfl (by simp [notU_bool,notU_slice,notU_i64]);clear q f;obtain ⟨w2,hW,hz1,hb,q,f,qr0,qr1,qr2⟩:=bx3 w1 (w.heap.size+1) (by omega) (.bool false) (.slice none 0 0) (.slice none 0 0) 28;rw [hW];clear hW;have d1:=d1.past hb;have d2:=d2.past hb;have xb:=xb.past hb lb;obtain ⟨qb0,qb1,qb2,lb⟩:=bq3 hb lb qb0 qb1 qb2;have hB:=bLt hB hb;clear hb;have lr:w.heap.size+1<w2.heap.size:=by omega
 have xr:BoxAt w2 (w.heap.size+1) 3:=BoxAt.of q f rfl (by simp [notU_bool,notU_slice,notU_i64]);clear q f;clear hz0;clear hz1;have szW:=hB.size;refine wp_region_inv (by kernel_rfl) rfl (by kernel_rfl) (fun A0 V0 dd aa ww=>∃ (y3 y4 y5 y6 y7 y8 y9 y10 y11 y12:Value),aa=puts A0 [(3,y3),(4,y4),(5,y5),(6,y6),(7,y7),(8,y8),(9,y9),(10,y10),(11,y11),(12,y12)]∧Below (w).heap.size (w) ww∧V0.heap.size≤ww.heap.size∧NatAt ww a1 n1 c1 (digs q.num.natAbs)∧NatAt ww a2 n2 c2 (digs q.den)∧ww.cell? ⟨w.heap.size,0,none⟩=some (.bool (neg q.num))∧Cells ww (w.heap.size+1) [.bool false,.slice none 0 0,.slice none 0 0]∧BoxAt ww (w.heap.size+1) 3∧BoxAt ww (w.heap.size) 3∧Shut (dd 9=false→Cells ww (w.heap.size) [.bool (neg q.num),.slice a1 n1 c1,.slice a2 n2 c2])∧Shut (dd 0=true→y3 = .pointer (some ⟨w.heap.size,0,none⟩))∧Shut (dd 1=true→y4 = .pointer (some ⟨w.heap.size,1,none⟩))∧Shut (dd 2=true→y5 = .slice a1 n1 c1)∧Shut (dd 3=true→NatV V0.heap.size (digs q.num.natAbs) y6 ww)∧Shut (dd 4=true→y7 = .pointer (some ⟨w.heap.size,2,none⟩))∧Shut (dd 5=true→y8 = .slice a2 n2 c2)∧Shut (dd 6=true→NatV V0.heap.size (digs q.den) y9 ww)∧Shut (dd 7=true→y10 = .pointer (some ⟨w.heap.size,0,none⟩))∧Shut (dd 8=true→y11 = .pointer (some ⟨w.heap.size,1,none⟩))∧Shut (dd 9=true→CellsO ww (w.heap.size) 1 [y6])∧Shut (dd 10=true→y12 = .pointer (some ⟨w.heap.size,2,none⟩))∧Shut (dd 11=true→CellsO ww (w.heap.size) 2 [y9])) ?_ ?_ ?_
 · exact ⟨_,_,_,_,_,_,_,_,_,_,puts_self _ [3,4,5,6,7,8,9,10,11,12],hB.drew,nRf _,d1.drew,d2.drew,qb0,(by intro k hk;simp at hk;rcases (by omega:k=0∨k=1∨k=2) with rfl | rfl | rfl<;>assumption),xr.drew,xb.drew,(fun _=>by intro k hk;simp at hk;rcases (by omega:k=0∨k=1∨k=2) with rfl | rfl | rfl<;>assumption),nf,nf,nf,nf,nf,nf,nf,nf,nf,nf,nf,nf⟩
 · refine Steps.cons ?_ (Steps.cons ?_ (Steps.cons ?_ (Steps.cons ?_ (Steps.cons ?_ (Steps.cons ?_ (Steps.cons ?_ (Steps.cons ?_ (Steps.cons ?_ (Steps.cons ?_ (Steps.cons ?_ (Steps.cons ?_ (Steps.nil))))))))))))
   all_goals (intro dd aa ww K hc hun hn hI hK;obtain ⟨y3,y4,y5,y6,y7,y8,y9,y10,y11,y12,ea,hb,hsz,vd1,vd2,kcb0,cr,xr,xb,pb,f0,f1,f2,f3,f4,f5,f6,f7,f8,f9,f10,f11⟩:=hI;subst ea;simp only [pu])
   · go_simp;exact hK.out _ _ ⟨_,_,_,_,_,_,_,_,_,_,by simp only [pu]<;>rfl,hb,hsz,vd1,vd2,kcb0,cr,xr,xb,fun h=>(pb.out (upd_off h)),fun _=>rfl,uo f1,uo f2,uo f3,uo f4,uo f5,uo f6,uo f7,uo f8,uo f9,uo f10,uo f11⟩
   · obtain rfl:=f0.out (hc.see hn);go_simp;exact hK.out _ _ ⟨_,_,_,_,_,_,_,_,_,_,by simp only [pu]<;>rfl,hb,hsz,vd1,vd2,kcb0,cr,xr,xb,fun h=>(pb.out (upd_off h)),fun h=>rfl,fun _=>rfl,uo f2,uo f3,uo f4,uo f5,uo f6,uo f7,uo f8,uo f9,uo f10,uo f11⟩
   · obtain rfl:=f1.out (hc.see hn);have hs:=hc.not (f:=8) (s:=9) (l:=2) (by kernel_rfl) hun;have e1:=pb.out hs 1 (by simp);simp only [lgZ,lgS] at e1;go_simp;exact hK.out _ _ ⟨_,_,_,_,_,_,_,_,_,_,by simp only [pu]<;>rfl,hb,hsz,vd1,vd2,kcb0,cr,xr,xb,fun h=>(pb.out (upd_off h)),uo f0,fun h=>rfl,fun _=>rfl,uo f3,uo f4,uo f5,uo f6,uo f7,uo f8,uo f9,uo f10,uo f11⟩
   · obtain rfl:=f2.out (hc.see hn);go_simp
     with_reducible refine (clone_any _ _ _ _ _ vd1 (by omega)).mono ?_
     rintro e w1 ⟨ahU,nhU,chU,rfl,hU,h1⟩;exact hK.out _ _ ⟨_,_,_,_,_,_,_,_,_,_,by simp only [pu]<;>rfl,bLt hb h1,nTr hsz h1.size,vd1.past h1,vd2.past h1,bq h1 (nLt lb hsz) kcb0,cr.past h1 (nLt lr hsz),xr.past h1 (nLt lr hsz),xb.past h1 (nLt lb hsz),fun h=>(pb.out (upd_off h)).past h1 (nLt lb hsz),uo f0,uo f1,fun h=>rfl,fun _=>⟨_,_,_,rfl,hU.mono hsz⟩,uo f4,uo f5,fun h=>(f6.out (upd_of rfl h)).past h1,uo f7,uo f8,hc.a hun,uo f10,fun h=>(f11.out (upd_of rfl h)).past h1 (nLt lb hsz)⟩
   · go_simp;exact hK.out _ _ ⟨_,_,_,_,_,_,_,_,_,_,by simp only [pu]<;>rfl,hb,hsz,vd1,vd2,kcb0,cr,xr,xb,fun h=>(pb.out (upd_off h)),uo f0,uo f1,uo f2,uo f3,fun _=>rfl,uo f5,uo f6,uo f7,uo f8,uo f9,uo f10,uo f11⟩
   · obtain rfl:=f4.out (hc.see hn);have hs:=hc.not (f:=8) (s:=9) (l:=5) (by kernel_rfl) hun;have e2:=pb.out hs 2 (by simp);simp only [lgZ,lgS] at e2;go_simp;exact hK.out _ _ ⟨_,_,_,_,_,_,_,_,_,_,by simp only [pu]<;>rfl,hb,hsz,vd1,vd2,kcb0,cr,xr,xb,fun h=>(pb.out (upd_off h)),uo f0,uo f1,uo f2,uo f3,fun h=>rfl,fun _=>rfl,uo f6,uo f7,uo f8,uo f9,uo f10,uo f11⟩
   · obtain rfl:=f5.out (hc.see hn);go_simp
     with_reducible refine (clone_any _ _ _ _ _ vd2 (by omega)).mono ?_
     rintro e w1 ⟨ahD,nhD,chD,rfl,hD,h1⟩;exact hK.out _ _ ⟨_,_,_,_,_,_,_,_,_,_,by simp only [pu]<;>rfl,bLt hb h1,nTr hsz h1.size,vd1.past h1,vd2.past h1,bq h1 (nLt lb hsz) kcb0,cr.past h1 (nLt lr hsz),xr.past h1 (nLt lr hsz),xb.past h1 (nLt lb hsz),fun h=>(pb.out (upd_off h)).past h1 (nLt lb hsz),uo f0,uo f1,uo f2,fun h=>(f3.out (upd_of rfl h)).past h1,uo f4,fun h=>rfl,fun _=>⟨_,_,_,rfl,hD.mono hsz⟩,uo f7,uo f8,fun h=>(f9.out (upd_of rfl h)).past h1 (nLt lb hsz),uo f10,hc.a hun⟩
   · go_simp;exact hK.out _ _ ⟨_,_,_,_,_,_,_,_,_,_,by simp only [pu]<;>rfl,hb,hsz,vd1,vd2,kcb0,cr,xr,xb,fun h=>(pb.out (upd_off h)),uo f0,uo f1,uo f2,uo f3,uo f4,uo f5,uo f6,fun _=>rfl,uo f8,uo f9,uo f10,uo f11⟩
   · obtain rfl:=f7.out (hc.see hn);go_simp;exact hK.out _ _ ⟨_,_,_,_,_,_,_,_,_,_,by simp only [pu]<;>rfl,hb,hsz,vd1,vd2,kcb0,cr,xr,xb,fun h=>(pb.out (upd_off h)),uo f0,uo f1,uo f2,uo f3,uo f4,uo f5,uo f6,fun h=>rfl,fun _=>rfl,uo f9,uo f10,uo f11⟩
   · obtain rfl:=f8.out (hc.see hn);obtain ⟨ahU,nhU,chU,ex,hU⟩:=f3.out (hc.see hn);subst ex;have x3:=xb;obtain ⟨v0,v1,v2,z0,z1,z2,z3,z4,z5,_,_,_⟩:=x3.three;have hv:∀ v ∈ ([.slice ahU nhU chU]:List Value),notU v:=by simp [notU_bool,notU_slice,notU_i64]
     go_simp;exact hK.out _ _ ⟨_,_,_,_,_,_,_,_,_,_,by simp only [pu]<;>rfl,hb.trans (below_setCells _ _ (by omega) [.slice ahU nhU chU] 1 _),(by simpa using hsz),NatAt.sets [.slice ahU nhU chU] 1 _ vd1 x3 (by simp) hv,NatAt.sets [.slice ahU nhU chU] 1 _ vd2 x3 (by simp) hv,(World.cell?_setCells_out _ [.slice ahU nhU chU] 1 _ _ (fun e1 _=>by first | (simp at e1;omega) | simp)).trans kcb0,Cells.sets (by omega) [.slice ahU nhU chU] 1 _ cr,BoxAt.sets [.slice ahU nhU chU] _ 1 _ xr hv,BoxAt.sets [.slice ahU nhU chU] _ 1 _ xb hv,fun h=>absurd h (by simp [upd]),uo f0,uo f1,uo f2,fun h=>((f3.out (upd_of rfl h)).setsO 1 lb [.slice ahU nhU chU]),uo f4,uo f5,fun h=>((f6.out (upd_of rfl h)).setsO 1 lb [.slice ahU nhU chU]),uo f7,fun h=>rfl,fun _=>CellsO.new [.slice ahU nhU chU] 1 _ x3 (by simp) hv,uo f10,hc.a hun⟩
   · go_simp;exact hK.out _ _ ⟨_,_,_,_,_,_,_,_,_,_,by simp only [pu]<;>rfl,hb,hsz,vd1,vd2,kcb0,cr,xr,xb,fun h=>(pb.out (upd_off h)),uo f0,uo f1,uo f2,uo f3,uo f4,uo f5,uo f6,uo f7,uo f8,uo f9,fun _=>rfl,uo f11⟩
   obtain rfl:=f10.out (hc.see hn);obtain ⟨ahD,nhD,chD,ex,hD⟩:=f6.out (hc.see hn);subst ex;have x3:=xb;obtain ⟨v0,v1,v2,z0,z1,z2,z3,z4,z5,_,_,_⟩:=x3.three;have hv:∀ v ∈ ([.slice ahD nhD chD]:List Value),notU v:=by simp [notU_bool,notU_slice,notU_i64]
   go_simp;exact hK.out _ _ ⟨_,_,_,_,_,_,_,_,_,_,by simp only [pu]<;>rfl,hb.trans (below_setCells _ _ (by omega) [.slice ahD nhD chD] 2 _),(by simpa using hsz),NatAt.sets [.slice ahD nhD chD] 2 _ vd1 x3 (by simp) hv,NatAt.sets [.slice ahD nhD chD] 2 _ vd2 x3 (by simp) hv,(World.cell?_setCells_out _ [.slice ahD nhD chD] 2 _ _ (fun e1 _=>by first | (simp at e1;omega) | simp)).trans kcb0,Cells.sets (by omega) [.slice ahD nhD chD] 2 _ cr,BoxAt.sets [.slice ahD nhD chD] _ 2 _ xr hv,BoxAt.sets [.slice ahD nhD chD] _ 2 _ xb hv,fun h=>absurd (upd_off h) (by simp [Region.binds] at hn;simp [hn]),uo f0,uo f1,uo f2,fun h=>((f3.out (upd_of rfl h)).setsO 2 lb [.slice ahD nhD chD]),uo f4,uo f5,fun h=>((f6.out (upd_of rfl h)).setsO 2 lb [.slice ahD nhD chD]),uo f7,uo f8,fun h=>CellsO.away [.slice ahD nhD chD] 2 _ (f9.out (upd_of rfl h)) (by simp),fun h=>rfl,fun _=>CellsO.new [.slice ahD nhD chD] 2 _ x3 (by simp) hv⟩
 intro dd aa w3 hd hI;obtain ⟨y3,y4,y5,y6,y7,y8,y9,y10,y11,y12,ea,hb,hsz,vd1,vd2,kcb0,cr,xr,xb,pb,f0,f1,f2,f3,f4,f5,f6,f7,f8,f9,f10,f11⟩:=hI;obtain rfl:=f0.out (hd 0 (by simp));obtain rfl:=f1.out (hd 1 (by simp));obtain rfl:=f2.out (hd 2 (by simp));obtain ⟨ahU,nhU,chU,ex,hU⟩:=f3.out (hd 3 (by simp));subst ex;obtain rfl:=f4.out (hd 4 (by simp));obtain rfl:=f5.out (hd 5 (by simp));obtain ⟨ahD,nhD,chD,ex,hD⟩:=f6.out (hd 6 (by simp));subst ex;obtain rfl:=f7.out (hd 7 (by simp));obtain rfl:=f8.out (hd 8 (by simp));have h9:=f9.out (hd 9 (by simp));obtain rfl:=f10.out (hd 10 (by simp));have h11:=f11.out (hd 11 (by simp));have lb:=nLt lb hsz;have qb1:w3.cell? ⟨w.heap.size,1,none⟩=some (.slice ahU nhU chU):=h9 0 (by simp);have qb2:w3.cell? ⟨w.heap.size,2,none⟩=some (.slice ahD nhD chD):=h11 0 (by simp);subst ea;simp only [pu];have hU:=hU.mono szW;have hD:=hD.mono szW;have d1:=vd1;have d2:=vd2;have lr:=nLt lr hsz;have qr0:=cr 0 (by simp);simp only [lgZ,lgS] at qr0;have qr1:=cr 1 (by simp);simp only [lgZ,lgS] at qr1;have qr2:=cr 2 (by simp);simp only [lgZ,lgS] at qr2;clear cr;have qb0:=kcb0;have hB:=hb;clear pb;clear hb hd;have zf0:=xr.f 0 (by decide);have zf1:=xr.f 1 (by decide);have zf2:=xr.f 2 (by decide)
 go_wp2
 obtain ⟨w4,hW,hO,qN0,qN1,qN2,xN⟩:=store3 xr (.bool (neg q.num)) (.slice ahU nhU chU) (.slice ahD nhD chD) (nu rfl) (nu rfl) (nu rfl);try rw [hW]
 clear hW;have hU:=hO.own hU;have hD:=hO.own hD;have qb0:=(hO.cell (b2:=w.heap.size) (k:=0) (by omega)).trans qb0;have qb1:=(hO.cell (b2:=w.heap.size) (k:=1) (by omega)).trans qb1;have qb2:=(hO.cell (b2:=w.heap.size) (k:=2) (by omega)).trans qb2;have xb:=hO.box xb;have lb:w.heap.size<w4.heap.size:=by rw [hO.size];exact lb
 have lr:w.heap.size+1<w4.heap.size:=by rw [hO.size];exact lr
 have qr0:=qN0;have qr1:=qN1;have qr2:=qN2;have xr:=xN;have hB:=hO.below (by omega) hB;clear hO qN0 qN1 qN2 xN zf0 zf1 zf2;refine bodyPost_ret (v:=.agg #[.bool (neg q.num),.slice ahU nhU chU,.slice ahD nhD chD]) ?_ rfl ⟨_,_,_,_,_,_,rfl,hU,hD,hB⟩;simp [results,Tryz.f68,go_sem,qr0,qr1,qr2]
end
section
open Go.RowKit
def eqP (K:Int) (zs:List Int) (b1:Bool) (l1 l2:List Nat) (N:Int) (b2:Bool) (l3 l4:List Nat) (K2:Int) (zs2:List Int) (b3:Bool) (l5 l6:List Nat) (N2:Int) (b4:Bool) (l7 l8:List Nat):Bool :=
 decide (K=K2) && (decide (zs=zs2) && (eqR b1 l1 l2 b3 l5 l6 && (decide (N=N2) && eqR b2 l3 l4 b4 l7 l8)))
theorem eqP_same (K:Int) (zs:List Int) (b1:Bool) (l1 l2:List Nat) (N:Int) (b2:Bool) (l3 l4:List Nat):eqP K zs b1 l1 l2 N b2 l3 l4 K zs b1 l1 l2 N b2 l3 l4=true:=by simp [eqP,eqR_same]
theorem samePlan_any (K N:Int) (zs:List Int) (b1 b2:Bool) (l1 l2 l3 l4:List Nat) (K2 N2:Int) (zs2:List Int) (b3 b4:Bool) (l5 l6 l7 l8:List Nat) (aT:Option Addr) (nT cT:Nat) (a1:Option Addr) (n1 c1:Nat) (a2:Option Addr) (n2 c2:Nat) (a3:Option Addr) (n3 c3:Nat) (a4:Option Addr) (n4 c4:Nat) (xT:Option Addr) (yT zT:Nat) (x1:Option Addr) (y1 z1:Nat) (x2:Option Addr) (y2 z2:Nat) (x3:Option Addr) (y3 z3:Nat) (x4:Option Addr) (y4 z4:Nat) (w:World) (g:IntsAt w aT nT cT zs) (d1:NatAt w a1 n1 c1 l1) (d2:NatAt w a2 n2 c2 l2) (d3:NatAt w a3 n3 c3 l3) (d4:NatAt w a4 n4 c4 l4) (gT:IntsAt w xT yT zT zs2) (f1:NatAt w x1 y1 z1 l5) (f2:NatAt w x2 y2 z2 l6) (f3:NatAt w x3 y3 z3 l7) (f4:NatAt w x4 y4 z4 l8) :
 Calls Tryz.prog 10 #[.agg #[.int .i64 K,.slice aT nT cT,.bool b1,.slice a1 n1 c1,.slice a2 n2 c2,.int .i64 N,.bool b2,.slice a3 n3 c3,.slice a4 n4 c4],.agg #[.int .i64 K2,.slice xT yT zT,.bool b3,.slice x1 y1 z1,.slice x2 y2 z2,.int .i64 N2,.bool b4,.slice x3 y3 z3,.slice x4 y4 z4]] w (RetVal w (.bool (eqP K zs b1 l1 l2 N b2 l3 l4 K2 zs2 b3 l5 l6 N2 b4 l7 l8))):=by
 unfold eqP;obtain ⟨B1,hB1⟩:∃ B,decide (zs=zs2)=B:=⟨_,rfl⟩;obtain ⟨B2,hB2⟩:∃ B,eqR b1 l1 l2 b3 l5 l6=B:=⟨_,rfl⟩;obtain ⟨B3,hB3⟩:∃ B,eqR b2 l3 l4 b4 l7 l8=B:=⟨_,rfl⟩;rw [hB1,hB2,hB3];have HB1:=hiD hB1;have HB2:=hiD hB2;have HB3:=hiD hB3;clear hB1 hB2 hB3
 by_cases k1:K=K2
 rotate_left
 · have t1:(K == K2)=false:=by simp [k1]
   go_enter Tryz.func10,Tryz.ntmps10
   have hB:=bRf w.heap.size w
   go_wp2_with fail
   obtain ⟨w1,hW,hz0,hb,q,f,qp0,qp1,qp2,qp3,qp4,qp5,qp6,qp7,qp8⟩:=bx9 w (w.heap.size) (by omega) (.int .i64 K) (.slice aT nT cT) (.bool b1) (.slice a1 n1 c1) (.slice a2 n2 c2) (.int .i64 N) (.bool b2) (.slice a3 n3 c3) (.slice a4 n4 c4) 30;rw [hW];clear hW;have hB:=bLt hB hb;clear hb;have lp:w.heap.size<w1.heap.size:=by omega
   clear q f;obtain ⟨w2,hW,hz1,hb,q,f,qq0,qq1,qq2,qq3,qq4,qq5,qq6,qq7,qq8⟩:=bx9 w1 (w.heap.size+1) (by omega) (.int .i64 K2) (.slice xT yT zT) (.bool b3) (.slice x1 y1 z1) (.slice x2 y2 z2) (.int .i64 N2) (.bool b4) (.slice x3 y3 z3) (.slice x4 y4 z4) 30;rw [hW];clear hW;obtain ⟨qp0,qp1,qp2,qp3,qp4,qp5,qp6,qp7,qp8,lp⟩:=bq9 hb lp qp0 qp1 qp2 qp3 qp4 qp5 qp6 qp7 qp8;have hB:=bLt hB hb;clear hb;have lq:w.heap.size+1<w2.heap.size:=by omega
   clear q f;clear hz0;clear hz1
   go_wp2
   go_ret
   exact ⟨by simp [*],hB⟩
 subst k1;have t1:(K == K)=true:=by simp
 go_enter Tryz.func10,Tryz.ntmps10
 have hB:=bRf w.heap.size w
 go_wp2_with fail
 obtain ⟨w1,hW,hz0,hb,q,f,qp0,qp1,qp2,qp3,qp4,qp5,qp6,qp7,qp8⟩:=bx9 w (w.heap.size) (by omega) (.int .i64 K) (.slice aT nT cT) (.bool b1) (.slice a1 n1 c1) (.slice a2 n2 c2) (.int .i64 N) (.bool b2) (.slice a3 n3 c3) (.slice a4 n4 c4) 30;rw [hW];clear hW;have g:=g.past hb;have d1:=d1.past hb;have d2:=d2.past hb;have d3:=d3.past hb;have d4:=d4.past hb;have gT:=gT.past hb;have f1:=f1.past hb;have f2:=f2.past hb;have f3:=f3.past hb;have f4:=f4.past hb;have hB:=bLt hB hb;clear hb;have lp:w.heap.size<w1.heap.size:=by omega
 clear q f;obtain ⟨w2,hW,hz1,hb,q,f,qq0,qq1,qq2,qq3,qq4,qq5,qq6,qq7,qq8⟩:=bx9 w1 (w.heap.size+1) (by omega) (.int .i64 K) (.slice xT yT zT) (.bool b3) (.slice x1 y1 z1) (.slice x2 y2 z2) (.int .i64 N2) (.bool b4) (.slice x3 y3 z3) (.slice x4 y4 z4) 30;rw [hW];clear hW;have g:=g.past hb;have d1:=d1.past hb;have d2:=d2.past hb;have d3:=d3.past hb;have d4:=d4.past hb;have gT:=gT.past hb;have f1:=f1.past hb;have f2:=f2.past hb;have f3:=f3.past hb;have f4:=f4.past hb;obtain ⟨qp0,qp1,qp2,qp3,qp4,qp5,qp6,qp7,qp8,lp⟩:=bq9 hb lp qp0 qp1 qp2 qp3 qp4 qp5 qp6 qp7 qp8;have hB:=bLt hB hb;clear hb;have lq:w.heap.size+1<w2.heap.size:=by omega
 clear q f;clear hz0;clear hz1
 with_reducible refine (sameInts_any g gT).mono ?_
 rintro e w3 ⟨rfl,hb⟩;have d1:=d1.past hb;have d2:=d2.past hb;have d3:=d3.past hb;have d4:=d4.past hb;have f1:=f1.past hb;have f2:=f2.past hb;have f3:=f3.past hb;have f4:=f4.past hb;obtain ⟨qp0,qp1,qp2,qp3,qp4,qp5,qp6,qp7,qp8,lp⟩:=bq9 hb lp qp0 qp1 qp2 qp3 qp4 qp5 qp6 qp7 qp8;obtain ⟨qq0,qq1,qq2,qq3,qq4,qq5,qq6,qq7,qq8,lq⟩:=bq9 hb lq qq0 qq1 qq2 qq3 qq4 qq5 qq6 qq7 qq8;have hB:=bLt hB hb;clear hb;rw [HB1.out];cases B1
 · go_wp2
   go_ret
   exact ⟨by simp [*],hB⟩
 go_wp2_with fail
 with_reducible refine (sameRatio_any _ _ _ _ _ _ _ _ _ _ _ _ _ _ _ _ _ _ _ d1 d2 f1 f2).mono ?_
 rintro e w4 ⟨rfl,hb⟩;have d3:=d3.past hb;have d4:=d4.past hb;have f3:=f3.past hb;have f4:=f4.past hb;obtain ⟨qp0,qp1,qp2,qp3,qp4,qp5,qp6,qp7,qp8,lp⟩:=bq9 hb lp qp0 qp1 qp2 qp3 qp4 qp5 qp6 qp7 qp8;obtain ⟨qq0,qq1,qq2,qq3,qq4,qq5,qq6,qq7,qq8,lq⟩:=bq9 hb lq qq0 qq1 qq2 qq3 qq4 qq5 qq6 qq7 qq8;have hB:=bLt hB hb;clear hb;rw [HB2.out];cases B2
 · go_wp2
   go_ret
   exact ⟨by simp [*],hB⟩
 by_cases k2:N=N2
 rotate_left
 · have t2:(N == N2)=false:=by simp [k2]
   go_wp2
   go_ret
   exact ⟨by simp [*],hB⟩
 subst k2;have t2:(N == N)=true:=by simp
 go_wp2_with fail
 with_reducible refine (sameRatio_any _ _ _ _ _ _ _ _ _ _ _ _ _ _ _ _ _ _ _ d3 d4 f3 f4).mono ?_
 rintro e w5 ⟨rfl,hb⟩;obtain ⟨qp0,qp1,qp2,qp3,qp4,qp5,qp6,qp7,qp8,lp⟩:=bq9 hb lp qp0 qp1 qp2 qp3 qp4 qp5 qp6 qp7 qp8;obtain ⟨qq0,qq1,qq2,qq3,qq4,qq5,qq6,qq7,qq8,lq⟩:=bq9 hb lq qq0 qq1 qq2 qq3 qq4 qq5 qq6 qq7 qq8;have hB:=bLt hB hb;clear hb;rw [HB3.out];cases B3
 · go_wp2
   go_ret
   exact ⟨by simp [*],hB⟩
 go_wp2
 go_ret
 exact ⟨by simp [*],hB⟩
theorem longPlan_any (K N:Int) (b1 b2:Bool) (aT:Option Addr) (nT cT:Nat) (a1:Option Addr) (n1 c1:Nat) (a2:Option Addr) (n2 c2:Nat) (a3:Option Addr) (n3 c3:Nat) (a4:Option Addr) (n4 c4:Nat) (w:World) (hT:nT≤9223372036854775807) (h1:n1≤9223372036854775807) (h2:n2≤9223372036854775807) (h3:n3≤9223372036854775807) (h4:n4≤9223372036854775807) :
 Calls Tryz.prog 6 #[.agg #[.int .i64 K,.slice aT nT cT,.bool b1,.slice a1 n1 c1,.slice a2 n2 c2,.int .i64 N,.bool b2,.slice a3 n3 c3,.slice a4 n4 c4]] w (RetVal w (.bool (decide (40<(nT:Int)) || ((decide (20<(n1:Int)) || decide (20<(n2:Int))) || (decide (20<(n3:Int)) || decide (20<(n4:Int))))))):=by
 obtain ⟨B0,hB0⟩:∃ B,decide (40<(nT:Int))=B:=⟨_,rfl⟩;obtain ⟨B1,hB1⟩:∃ B,(decide (20<(n1:Int)) || decide (20<(n2:Int)))=B:=⟨_,rfl⟩;obtain ⟨B2,hB2⟩:∃ B,(decide (20<(n3:Int)) || decide (20<(n4:Int)))=B:=⟨_,rfl⟩;rw [hB0,hB1,hB2];have H1:=hiD (fun w=>hB1 ▸ longRatio_any b1 a1 n1 c1 a2 n2 c2 20 w h1 h2);have H2:=hiD (fun w=>hB2 ▸ longRatio_any b2 a3 n3 c3 a4 n4 c4 20 w h3 h4);clear hB1 hB2 h1 h2 h3 h4 hT;cases B0
 rotate_left
 · skip
   go_enter Tryz.func6,Tryz.ntmps6
   have hB:=bRf w.heap.size w
   go_wp2_with fail
   obtain ⟨w1,hW,hz0,hb,q,f,qp0,qp1,qp2,qp3,qp4,qp5,qp6,qp7,qp8⟩:=bx9 w (w.heap.size) (by omega) (.int .i64 K) (.slice aT nT cT) (.bool b1) (.slice a1 n1 c1) (.slice a2 n2 c2) (.int .i64 N) (.bool b2) (.slice a3 n3 c3) (.slice a4 n4 c4) 30;rw [hW];clear hW;have hB:=bLt hB hb;clear hb;have lp:w.heap.size<w1.heap.size:=by omega
   clear q f;clear hz0
   go_wp2
   go_ret
   exact ⟨by simp [*],hB⟩
 go_enter Tryz.func6,Tryz.ntmps6
 have hB:=bRf w.heap.size w
 go_wp2_with fail
 obtain ⟨w1,hW,hz0,hb,q,f,qp0,qp1,qp2,qp3,qp4,qp5,qp6,qp7,qp8⟩:=bx9 w (w.heap.size) (by omega) (.int .i64 K) (.slice aT nT cT) (.bool b1) (.slice a1 n1 c1) (.slice a2 n2 c2) (.int .i64 N) (.bool b2) (.slice a3 n3 c3) (.slice a4 n4 c4) 30;rw [hW];clear hW;have hB:=bLt hB hb;clear hb;have lp:w.heap.size<w1.heap.size:=by omega
 clear q f;clear hz0
 with_reducible refine (H1.out _).mono ?_
 rintro e w2 ⟨rfl,hb⟩;obtain ⟨qp0,qp1,qp2,qp3,qp4,qp5,qp6,qp7,qp8,lp⟩:=bq9 hb lp qp0 qp1 qp2 qp3 qp4 qp5 qp6 qp7 qp8;have hB:=bLt hB hb;clear hb;cases B1
 rotate_left
 · go_wp2
   go_ret
   exact ⟨by simp [*],hB⟩
 go_wp2_with fail
 with_reducible refine (H2.out _).mono ?_
 rintro e w3 ⟨rfl,hb⟩;obtain ⟨qp0,qp1,qp2,qp3,qp4,qp5,qp6,qp7,qp8,lp⟩:=bq9 hb lp qp0 qp1 qp2 qp3 qp4 qp5 qp6 qp7 qp8;have hB:=bLt hB hb;clear hb;cases B2
 · go_wp2
   go_ret
   exact ⟨by simp [*],hB⟩
 go_wp2
 go_ret
 exact ⟨by simp [*],hB⟩
end
end Go.Proofs.YtkhcblihbalnbaaGreatDoor
