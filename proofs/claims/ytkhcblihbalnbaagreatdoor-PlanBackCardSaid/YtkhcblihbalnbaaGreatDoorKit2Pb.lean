import Derived.Test.YtkhcblihbalnbaaGreatDoorSigned2Pb
set_option linter.unusedVariables false
set_option linter.unusedSimpArgs false
set_option maxRecDepth 100000
namespace Go.Proofs.YtkhcblihbalnbaaGreatDoor
section
open Go.RowKit
theorem OwnAt.past {w w':World} {B:Nat} {a:Option Addr} {n c:Nat} {l:List Nat} (h:OwnAt w B a n c l) (hb:Below w.heap.size w w'):OwnAt w' B a n c l:=h.later hb (nRf _)
theorem box1g (w:World) (g:Nat) (hg:g=w.heap.size) (A:Array Value) (E:Nat):∃ W,w.alloc (.cells A E)=W∧W.heap.size=w.heap.size+1∧Below w.heap.size w W∧(∀ i,W.cell? ⟨g,i,none⟩=A[i]?)∧(∀ i,W.frozen? ⟨g,i,none⟩=false):=by
 subst hg;exact ⟨_,rfl,by simp,(bRf _ _).alloc (nRf _) _,fun i=>World.cell?_alloc_at _ _ _ _ rfl,fun i=>World.frozen?_alloc_at _ _ _ _ rfl⟩
theorem bx1 (w:World) (g:Nat) (hg:g=w.heap.size) (c0:Value) (E:Nat):∃ W,w.alloc (.cells #[c0] E)=W∧W.heap.size=w.heap.size+1∧Below w.heap.size w W∧(∀ i,W.cell? ⟨g,i,none⟩=#[c0][i]?)∧(∀ i,W.frozen? ⟨g,i,none⟩=false)∧W.cell? ⟨g,0,none⟩=some c0:=by obtain ⟨W,h1,h2,h3,h4,h5⟩:=box1g w g hg #[c0] E;exact ⟨W,h1,h2,h3,h4,h5,h4 0⟩
theorem bx2 (w:World) (g:Nat) (hg:g=w.heap.size) (c0 c1:Value) (E:Nat):∃ W,w.alloc (.cells #[c0,c1] E)=W∧W.heap.size=w.heap.size+1∧Below w.heap.size w W∧(∀ i,W.cell? ⟨g,i,none⟩=#[c0,c1][i]?)∧(∀ i,W.frozen? ⟨g,i,none⟩=false)∧W.cell? ⟨g,0,none⟩=some c0∧W.cell? ⟨g,1,none⟩=some c1:=by obtain ⟨W,h1,h2,h3,h4,h5⟩:=box1g w g hg #[c0,c1] E;exact ⟨W,h1,h2,h3,h4,h5,h4 0,h4 1⟩
theorem bx3 (w:World) (g:Nat) (hg:g=w.heap.size) (c0 c1 c2:Value) (E:Nat):∃ W,w.alloc (.cells #[c0,c1,c2] E)=W∧W.heap.size=w.heap.size+1∧Below w.heap.size w W∧(∀ i,W.cell? ⟨g,i,none⟩=#[c0,c1,c2][i]?)∧(∀ i,W.frozen? ⟨g,i,none⟩=false)∧W.cell? ⟨g,0,none⟩=some c0∧W.cell? ⟨g,1,none⟩=some c1∧W.cell? ⟨g,2,none⟩=some c2:=by obtain ⟨W,h1,h2,h3,h4,h5⟩:=box1g w g hg #[c0,c1,c2] E;exact ⟨W,h1,h2,h3,h4,h5,h4 0,h4 1,h4 2⟩
theorem bx9 (w:World) (g:Nat) (hg:g=w.heap.size) (c0 c1 c2 c3 c4 c5 c6 c7 c8:Value) (E:Nat):∃ W,w.alloc (.cells #[c0,c1,c2,c3,c4,c5,c6,c7,c8] E)=W∧W.heap.size=w.heap.size+1∧Below w.heap.size w W∧(∀ i,W.cell? ⟨g,i,none⟩=#[c0,c1,c2,c3,c4,c5,c6,c7,c8][i]?)∧(∀ i,W.frozen? ⟨g,i,none⟩=false)∧W.cell? ⟨g,0,none⟩=some c0∧W.cell? ⟨g,1,none⟩=some c1∧W.cell? ⟨g,2,none⟩=some c2∧W.cell? ⟨g,3,none⟩=some c3∧W.cell? ⟨g,4,none⟩=some c4∧W.cell? ⟨g,5,none⟩=some c5∧W.cell? ⟨g,6,none⟩=some c6∧W.cell? ⟨g,7,none⟩=some c7∧W.cell? ⟨g,8,none⟩=some c8:=by obtain ⟨W,h1,h2,h3,h4,h5⟩:=box1g w g hg #[c0,c1,c2,c3,c4,c5,c6,c7,c8] E;exact ⟨W,h1,h2,h3,h4,h5,h4 0,h4 1,h4 2,h4 3,h4 4,h4 5,h4 6,h4 7,h4 8⟩
theorem litG {E:Nat} (w:World) (g:Nat) (vs:Array Value) (l:List Nat) (n:Nat) (hg:g=w.heap.size) (hv:vs.toList=dv l) (hn:l.length=n) (hm:n≤1000) (hd:l.all (fun x=>decide (x<18446744073709551616))=true) :
 OwnAt (w.alloc (.cells vs E)) w.heap.size (some ⟨g,0,none⟩) n n l:=by
 subst hg
 refine OwnAt.ofRow (E:=E) (v:=.slice (some ⟨w.heap.size,0,none⟩) n n) (n:=n) ?_ (fun x hx=>by simpa using List.all_eq_true.1 hd x hx) |>.elim fun a h=>by
  obtain ⟨c,he,ho⟩:=h;cases he;exact ho
 rw [← hv];exact World.ownsRow_lit w vs n (nRf _) (by simp only [maxLen];omega) (by rw [← Array.length_toList,hv,dv_length,hn,Nat.mul_one])
end
section
open Go.RowKit
abbrev Turned (b:Nat) (w w':World):Prop:=w.grownBy w' (some b)
theorem NatAt.other {w w':World} {b:Nat} {a:Option Addr} {n c:Nat} {l:List Nat} (h:NatAt w a n c l) (hg:Turned b w w') (hne:n=0∨∀ x,a=some x→x.block≠b):NatAt w' a n c l:=by
 rcases h.parts with h0 | ⟨b1,o1,rfl,hlt,hc⟩
 · exact ⟨h.len,h.le,h.cle,h.dig,.inl h0,h.nilc⟩
 rcases hne with h0 | hne
 · exact ⟨h.len,h.le,h.cle,h.dig,.inl h0,h.nilc⟩
 refine ⟨h.len,h.le,h.cle,h.dig,.inr ⟨b1,o1,rfl,fun i hi => ?_⟩,h.nilc⟩;rw [World.cell?_of_block (w:=w) (hg.block b1 hlt (fun e=>hne _ rfl (by cases e;rfl)))];exact hc i hi
theorem OwnAt.other {w w':World} {B b:Nat} {a:Option Addr} {n c:Nat} {l:List Nat} (h:OwnAt w B a n c l) (hg:Turned b w w') (hne:n=0∨∀ x,a=some x→x.block≠b):OwnAt w' B a n c l:=by
 refine ⟨h.toNatAt.other hg hne,?_⟩;rcases h.own with h0 | ⟨b1,o1,he,hle,hf⟩
 · exact .inl h0
 rcases h.toNatAt.parts with h0 | ⟨b',o',he',hlt,_⟩
 · exact .inl h0
 rw [he] at he';cases he';rcases hne with h0 | hne
 · exact .inl h0
 refine .inr ⟨b1,o1,he,hle,fun i hi => ?_⟩;rw [World.frozen?_of_block (w:=w) (hg.block b1 hlt (fun e=>hne _ he (by cases e;rfl)))];exact hf i hi
end
section
open Go.RowKit
theorem sameWhole_no (b b2:Bool) (a:Option Addr) (n c:Nat) (a2:Option Addr) (n2 c2:Nat) (w:World) (hb:(b == b2)=false) :
 Calls Tryz.prog 63 #[.agg #[.bool b,.slice a n c],.agg #[.bool b2,.slice a2 n2 c2]] w (RetVal w (.bool false)):=by
 go_enter Tryz.func63,Tryz.ntmps63
 go_wp2
 go_ret
 exact ⟨rfl,((bRf _ _).alloc (nRf _) _).alloc (by simp) _⟩
theorem sameWhole_eq (b:Bool) (a:Option Addr) (n c:Nat) (l:List Nat) (a2:Option Addr) (n2 c2:Nat) (l2:List Nat) (w:World) (h:NatAt w a n c l) (h2:NatAt w a2 n2 c2 l2) :
 Calls Tryz.prog 63 #[.agg #[.bool b,.slice a n c],.agg #[.bool b,.slice a2 n2 c2]] w (RetVal w (.bool (eqL l l2))):=by
 go_enter Tryz.func63,Tryz.ntmps63
 go_wp2_with fail
 with_reducible refine (sameNat_below ((h.alloc _).alloc _) ((h2.alloc _).alloc _)).mono ?_
 rintro e w1 ⟨rfl,hb⟩
 go_wp2
 go_ret
 exact ⟨rfl,bLt (((bRf _ _).alloc (nRf _) _).alloc (by simp) _) hb⟩
theorem sameWhole_yes {b:Bool} {a:Option Addr} {n c:Nat} {l:List Nat} {a2:Option Addr} {n2 c2:Nat} {w:World} (h:NatAt w a n c l) (h2:NatAt w a2 n2 c2 l) :
 Calls Tryz.prog 63 #[.agg #[.bool b,.slice a n c],.agg #[.bool b,.slice a2 n2 c2]] w (RetVal w (.bool true)):=by
 have:=sameWhole_eq b a n c l a2 n2 c2 l w h h2
 rwa [eqL_self] at this
theorem digs_abs_inj {x y:Int} (hs:neg x=neg y) (h:digs x.natAbs=digs y.natAbs):x=y:=by
 rw [← sg_canon x,← sg_canon y,hs,h]
theorem sneg_c {x:Int} {a:Option Addr} {n c:Nat} {w:World} (h:NatAt w a n c (digs x.natAbs)) (hs:n≤1099511627776) :
 Calls Tryz.prog 99 #[.agg #[.bool (neg x),.slice a n c]] w (RetInt w (-x)):=by
 have:=sneg_any (neg x) a n c _ w h hs
 rwa [sg_canon] at this
theorem sign_c {x:Int} {a:Option Addr} {n c:Nat} {w:World} (h:NatAt w a n c (digs x.natAbs)) (hs:n≤1099511627776) :
 Calls Tryz.prog 57 #[.agg #[.bool (neg x),.slice a n c]] w (RetVal w (.int .i64 x.sign)):=by
 have:=sign_any (neg x) a n c _ w h hs
 rwa [sg_canon] at this
theorem chkZ_canon (x:Int):chkZ (neg x) (digs x.natAbs)=0:=by
 unfold chkZ;rw [if_neg,chk_top.2 (top_digs _)];rintro ⟨h1,h2⟩;have:=digs_eq_nil.1 h2;have h3:=of_decide_eq_true h1;omega
end
theorem mkRat_parts {z:Int} {d:Nat} (hd:d≠0):(mkRat z d).num=z/((Nat.gcd z.natAbs d:Nat):Int)∧(mkRat z d).den=d/Nat.gcd z.natAbs d:=by
 rw [← Rat.normalize_eq_mkRat hd,Rat.normalize_eq hd];exact ⟨rfl,rfl⟩
theorem sg_div (b:Bool) {v g:Nat} (h:g ∣ v):sg b (v/g)=sg b v/(g:Int):=by
 cases b
 · simp [sg]
 simp only [sg,if_true];rw [Int.natCast_ediv,Int.neg_ediv_of_dvd (by exact_mod_cast h)]
theorem low_parts {b:Bool} {v d:Nat} (hd:d≠0):sg b (v/Nat.gcd v d)=(mkRat (sg b v) d).num∧d/Nat.gcd v d=(mkRat (sg b v) d).den:=by
 obtain ⟨h1,h2⟩:=mkRat_parts (z:=sg b v) hd;rw [natAbs_sg] at h1 h2;exact ⟨by rw [h1,sg_div b (Nat.gcd_dvd_left v d)],h2.symm⟩
theorem gcd_ne {v d:Nat} (hd:d≠0):Nat.gcd v d≠0:=Nat.pos_iff_ne_zero.1 (Nat.gcd_pos_of_pos_right _ (Nat.pos_of_ne_zero hd))
def chkR (b:Bool) (l l2:List Nat):Int:=if chkZ b l=0∧chk l2=0∧l2≠[]∧Nat.gcd (val l) (val l2)=1 then 0 else 6
theorem chkR_canon (q:Rat):chkR (neg q.num) (digs q.num.natAbs) (digs q.den)=0:=by
 unfold chkR;rw [if_pos ⟨chkZ_canon _,chk_top.2 (top_digs _),fun e=>q.den_nz (digs_eq_nil.1 e),by rw [val_digs,val_digs];exact q.reduced⟩]
theorem chkR_rat {b:Bool} {l l2:List Nat} (hl:Dig l) (hl2:Dig l2) (h:chkR b l l2=0):∃ q:Rat,b=neg q.num∧l=digs q.num.natAbs∧l2=digs q.den:=by
 unfold chkR at h
 split at h
 · rename_i hh;obtain ⟨h1,h2,h3,h4⟩:=hh;have e2:=digs_val hl2 (chk_top.1 h2)
   have hz:¬ (b=true∧l=[]):=by
    intro hc;unfold chkZ at h1;rw [if_pos hc] at h1;exact absurd h1 (by decide)
   have hc1:chk l=0:=by unfold chkZ at h1;rwa [if_neg hz] at h1
   have e1:=digs_val hl (chk_top.1 hc1);have hd:val l2≠0:=fun e=>h3 (by rw [← e2,e];rfl)
   refine ⟨⟨sg b (val l),val l2,hd,by rw [natAbs_sg];exact h4⟩,?_,by simp only [natAbs_sg];exact e1.symm,e2.symm⟩;simp only;rw [neg_sg];cases b
   · rfl
   have hv:0<val l:=by
    rcases Nat.eq_zero_or_pos (val l) with h0 | h0
    · exact absurd ⟨rfl,by rw [← e1,h0];rfl⟩ hz
    exact h0
   simp [hv]
 cases h
theorem chkR_no {b:Bool} {l l2:List Nat} (h:chkR b l l2≠0):chkR b l l2=6:=by
 unfold chkR at h ⊢
 split
 · rename_i hh;rw [if_pos hh] at h;exact absurd rfl h
 rfl
theorem rat_sum (p q:Rat):mkRat (p.num*q.den+q.num*p.den) (p.den*q.den)=p+q:=by
 rw [Rat.add_def,Rat.normalize_eq_mkRat]
theorem rat_prod (p q:Rat):mkRat (p.num*q.num) (p.den*q.den)=p*q:=by
 rw [Rat.mul_def,Rat.normalize_eq_mkRat]
theorem sg_neg (z:Int):sg (neg z) z.natAbs=z:=by
 have:=sg_canon z
 rwa [val_digs] at this
theorem mkRat_own {z:Int} {d:Nat} (hd:d≠0) (h:Nat.gcd z.natAbs d=1):(mkRat z d).num=z∧(mkRat z d).den=d:=by
 obtain ⟨h1,h2⟩:=mkRat_parts (z:=z) hd;rw [h] at h1 h2;exact ⟨by rw [h1];simp,by rw [h2,Nat.div_one]⟩
theorem sg_mul (x y:Int) (a b:Nat):sg (neg x != neg y) (a*b)=sg (neg x) a*sg (neg y) b:=by
 cases neg x<;>cases neg y<;>simp [sg,Int.neg_mul,Int.mul_neg]
theorem part_num (z:Int) {g:Nat} (h:g ∣ z.natAbs):sg (neg z) (z.natAbs/g)*(g:Int)=z:=by
 obtain ⟨k,hk⟩:=h;have hz:=sg_neg z
 by_cases hg:g=0
 · subst hg;rw [Nat.zero_mul] at hk;have:z=0:=by omega
   subst this;simp
 rw [hk,Nat.mul_div_cancel_left _ (Nat.pos_of_ne_zero hg)];rw [hk] at hz;cases hn:neg z<;>rw [hn] at hz<;>simp [sg] at hz ⊢ <;> rw [← hz]<;>first | exact Int.mul_comm _ _ | (rw [Int.neg_mul,Int.mul_comm])
theorem prod_parts (p q:Rat):sg (neg p.num != neg q.num) (p.num.natAbs/Nat.gcd p.num.natAbs q.den*(q.num.natAbs/Nat.gcd q.num.natAbs p.den))=(p*q).num ∧
 p.den/Nat.gcd q.num.natAbs p.den*(q.den/Nat.gcd p.num.natAbs q.den)=(p*q).den:=by
 obtain ⟨g,hg⟩:∃ g,Nat.gcd p.num.natAbs q.den=g:=⟨_,rfl⟩;obtain ⟨h,hh⟩:∃ h,Nat.gcd q.num.natAbs p.den=h:=⟨_,rfl⟩;have g1:g ∣ p.num.natAbs:=hg ▸ Nat.gcd_dvd_left _ _;have g2:g ∣ q.den:=hg ▸ Nat.gcd_dvd_right _ _;have h1:h ∣ q.num.natAbs:=hh ▸ Nat.gcd_dvd_left _ _;have h2:h ∣ p.den:=hh ▸ Nat.gcd_dvd_right _ _;have g0:g≠0:=hg ▸ gcd_ne q.den_nz;have h0:h≠0:=hh ▸ gcd_ne p.den_nz;rw [hg,hh]
 have cX:(p.num.natAbs/g).Coprime (q.den/g):=by
  have:=Nat.coprime_div_gcd_div_gcd (m:=p.num.natAbs) (n:=q.den) (by rw [hg];omega)
  rwa [hg] at this
 have cY:(q.num.natAbs/h).Coprime (p.den/h):=by
  have:=Nat.coprime_div_gcd_div_gcd (m:=q.num.natAbs) (n:=p.den) (by rw [hh];omega)
  rwa [hh] at this
 have cP:(p.num.natAbs/g).Coprime (p.den/h):=Nat.Coprime.coprime_dvd_left (Nat.div_dvd_of_dvd g1) (Nat.Coprime.coprime_dvd_right (Nat.div_dvd_of_dvd h2) p.reduced);have cQ:(q.num.natAbs/h).Coprime (q.den/g):=Nat.Coprime.coprime_dvd_left (Nat.div_dvd_of_dvd h1) (Nat.Coprime.coprime_dvd_right (Nat.div_dvd_of_dvd g2) q.reduced)
 have cop:(p.num.natAbs/g*(q.num.natAbs/h)).Coprime (p.den/h*(q.den/g)) :=
  Nat.Coprime.mul_left (Nat.Coprime.mul_right cP cX) (Nat.Coprime.mul_right cY cQ)
 have dz:p.den/h*(q.den/g)≠0:=Nat.mul_ne_zero (fun e=>p.den_nz (by rw [← Nat.div_mul_cancel h2,e,Nat.zero_mul])) (fun e=>q.den_nz (by rw [← Nat.div_mul_cancel g2,e,Nat.zero_mul]));have hn:(sg (neg p.num != neg q.num) (p.num.natAbs/g*(q.num.natAbs/h))).natAbs=p.num.natAbs/g*(q.num.natAbs/h):=natAbs_sg _ _;obtain ⟨e1,e2⟩:=mkRat_own (z:=sg (neg p.num != neg q.num) (p.num.natAbs/g*(q.num.natAbs/h))) dz (by rw [hn];exact cop)
 have e3:mkRat (sg (neg p.num != neg q.num) (p.num.natAbs/g*(q.num.natAbs/h))) (p.den/h*(q.den/g))=p*q:=by
  rw [← rat_prod,← Rat.mkRat_mul_right (a:=g*h) (Nat.mul_ne_zero g0 h0)]
  congr 1
  · rw [sg_mul,Int.natCast_mul,show ∀ a b c d:Int,a*b*(c*d)=(a*c)*(b*d) from fun a b c d=>by ac_rfl,part_num _ g1,part_num _ h1]
  rw [show ∀ a b c d:Nat,a*b*(c*d)=(a*d)*(b*c) from fun a b c d=>by ac_rfl,Nat.div_mul_cancel h2,Nat.div_mul_cancel g2]
 rw [e3] at e1 e2;exact ⟨e1.symm,e2.symm⟩
theorem inv_parts {q:Rat} (h:q.num≠0):sg (neg q.num) q.den=(q⁻¹).num∧q.num.natAbs=(q⁻¹).den:=by
 rw [Rat.num_inv,Rat.den_inv,if_neg h];refine ⟨?_,rfl⟩;unfold sg neg
 by_cases hn:q.num<0
 · rw [decide_eq_true hn,Int.sign_eq_neg_one_of_neg hn];simp
 rw [decide_eq_false hn,Int.sign_eq_one_of_pos (by omega)];simp
end Go.Proofs.YtkhcblihbalnbaaGreatDoor
