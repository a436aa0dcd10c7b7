import Derived.Test.YtkhcblihbalnbaaGreatDoorPlan5Pb
import Derived.Test.YtkhcblihbalnbaaGreatDoorDigits9Pb
set_option linter.unusedVariables false
set_option linter.unusedSimpArgs false
namespace Go.Proofs.YtkhcblihbalnbaaGreatDoor
theorem tbyL_all (zs:List Int):tbyL zs zs.length=zs.flatMap fun z=>beL z.toNat 4:=by unfold tbyL;rw [List.take_length]
def txtL (q:Rat):List Nat:=nums (textQ q).data.toList
def KeptP (k:Nat) (zs:List Int) (N:Nat) (eps F:Rat):Prop:=okT zs (k:Int)∧k≤1024∧N≤4096∧(textQ eps).size≤10000∧(textQ F).size≤10000
theorem txtL_len (q:Rat):(txtL q).length=(textQ q).size:=by unfold txtL;rw [nums_len,size_list]
theorem putL_putB (k:Nat) (zs:List Int) (N:Nat) (eps F:Rat):putL k zs N eps F=putB k zs N (txtL eps) (txtL F):=by
 unfold putL putB ratL;rw [txtL_len,txtL_len,tbyL_all];unfold txtL;rfl
theorem bytB_txt (q:Rat):(bytB (txtL q)).data.toList=textP (neg q.num) q.num.natAbs q.den:=by
 unfold txtL;rw [bytB_nums];unfold textQ;rw [textB_list]
theorem read_q {q:Rat} (h:(textQ q).size≤10000):readR (bytB (txtL q)).data.toList=(neg q.num,q.num.natAbs,q.den)∧readE (bytB (txtL q)).data.toList=0:=by
 have hl:(textP (neg q.num) q.num.natAbs q.den).length≤10000:=by
  have e:(textQ q).size=(textP (neg q.num) q.num.natAbs q.den).length:=by unfold textQ textB;simp [ByteArray.size]
  omega
 rw [bytB_txt]
 have hr:=read_text (b:=neg q.num) (u:=q.num.natAbs) (d:=q.den) q.den_nz q.reduced (by
  intro e;unfold neg at e;simp at e;omega) hl
 refine ⟨hr,?_⟩;rw [readE_ok];unfold readOk;rw [hr]
 simpa using q.den_nz
theorem q_read {l:List Nat} (hb:okB l) (h:readE (bytB l).data.toList=0):∃ q:Rat,readR (bytB l).data.toList=(neg q.num,q.num.natAbs,q.den)∧txtL q=l∧(textQ q).size≤10000:=by
 obtain ⟨h1,h2,h3,h4,h5⟩:=readOk_back ((readE_ok _).1 h);have hc:=chkR_parts (N:=(readR (bytB l).data.toList).2.1) (d:=(readR (bytB l).data.toList).2.2) h5;rw [if_pos ⟨h2,h3⟩] at hc;obtain ⟨q,e1,e2,e3⟩:=chkR_rat (dig_digs _) (dig_digs _) hc;have v1:=congrArg val e2;have v2:=congrArg val e3;rw [val_digs,val_digs] at v1 v2;rw [e1,v1,v2] at h4
 have e:txtL q=l:=by
  refine bytB_inj (nums_lt _) hb ?_;apply ByteArray.ext;apply Array.toList_inj.1;rw [← h4];exact bytB_txt q
 refine ⟨q,Prod.ext e1 (Prod.ext v1 v2),e,?_⟩;rw [← txtL_len,e];rw [size_list,bytB_size] at h1;exact h1
theorem gotP_no {L:List Nat} (h:p8 L≠some []∨readE (bytB (pT L)).data.toList≠0∨readE (bytB (pU L)).data.toList≠0) {k N:Nat} {zs:List Int} {eps F:Rat} (hk:KeptP k zs N eps F):L≠putL k zs N eps F:=by
 intro e;rw [putL_putB] at e;obtain ⟨k1,k2,k3,k4,k5⟩:=hk;have hzl:zs.length<65536:=by have:=k1.2.2.2.1;omega
 obtain ⟨a1,a2,a3,a4,a5,a6⟩:=p_put (k:=k) (N:=N) (zs:=zs) (t:=txtL eps) (u:=txtL F) (by omega) (by omega) hzl k1.2.2.2.2.1 (by rw [txtL_len];omega) (by rw [txtL_len];omega);rw [← e] at a4 a5 a6;rw [a4,a5] at h;rcases h with h | h | h
 · exact h a6
 · exact h (read_q k4).2
 exact h (read_q k5).2
theorem gotP_yes {L:List Nat} (hb:okB L) (h:p8 L=some []) (h1:readE (bytB (pT L)).data.toList=0) (h2:readE (bytB (pU L)).data.toList=0):∃ eps F:Rat,readR (bytB (pT L)).data.toList=(neg eps.num,eps.num.natAbs,eps.den)∧readR (bytB (pU L)).data.toList=(neg F.num,F.num.natAbs,F.den)∧L=putL (pK L) (pZ L) (pN L) eps F∧(textQ eps).size≤10000∧(textQ F).size≤10000∧(textQ eps).size≤L.length∧(textQ F).size≤L.length∧pK L<65536∧pN L<65536:=by
 obtain ⟨e,l1,l2,l3,l4,l5⟩:=p_got hb h;have hb2:=hb;rw [e] at hb2;obtain ⟨hb3,hb4⟩:=okB_app hb2;obtain ⟨_,hb5⟩:=okB_app hb3;obtain ⟨q,r1,r2,r3⟩:=q_read (okB_app hb5).2 h1;obtain ⟨p,s1,s2,s3⟩:=q_read (okB_app hb4).2 h2;refine ⟨q,p,r1,s1,?_,r3,s3,by rw [← txtL_len,r2];exact l4,by rw [← txtL_len,s2];exact l5,l1,l2⟩;rw [putL_putB,r2,s2];exact e
theorem put_key {k N:Nat} {zs:List Int} {eps F:Rat} (h:KeptP k zs N eps F):pK (putL k zs N eps F)=k∧pZ (putL k zs N eps F)=zs∧pN (putL k zs N eps F)=N∧readR (bytB (pT (putL k zs N eps F))).data.toList=(neg eps.num,eps.num.natAbs,eps.den)∧readR (bytB (pU (putL k zs N eps F))).data.toList=(neg F.num,F.num.natAbs,F.den):=by
 obtain ⟨k1,k2,k3,k4,k5⟩:=h;have hzl:zs.length<65536:=by have:=k1.2.2.2.1;omega
 obtain ⟨a1,a2,a3,a4,a5,a6⟩:=p_put (k:=k) (N:=N) (zs:=zs) (t:=txtL eps) (u:=txtL F) (by omega) (by omega) hzl k1.2.2.2.2.1 (by rw [txtL_len];omega) (by rw [txtL_len];omega);rw [putL_putB,a4,a5];exact ⟨a1,a2,a3,(read_q k4).1,(read_q k5).1⟩
theorem rat_of {p q:Rat} (h:(neg p.num,p.num.natAbs,p.den)=(neg q.num,q.num.natAbs,q.den)):p=q:=by
 simp only [Prod.mk.injEq,neg,decide_eq_decide] at h;exact Rat.ext (by omega) h.2.2
theorem putL_inj {k N k' N':Nat} {zs zs':List Int} {eps F eps' F':Rat} (h:KeptP k zs N eps F) (h':KeptP k' zs' N' eps' F') (e:putL k zs N eps F=putL k' zs' N' eps' F'):k=k'∧zs=zs'∧N=N'∧eps=eps'∧F=F':=by
 obtain ⟨a1,a2,a3,a4,a5⟩:=put_key h;obtain ⟨b1,b2,b3,b4,b5⟩:=put_key h';rw [e] at a1 a2 a3 a4 a5;exact ⟨a1.symm.trans b1,a2.symm.trans b2,a3.symm.trans b3,rat_of (a4.symm.trans b4),rat_of (a5.symm.trans b5)⟩
theorem gotP_not {L:List Nat} {eps F:Rat} (h1:readR (bytB (pT L)).data.toList=(neg eps.num,eps.num.natAbs,eps.den)) (h2:readR (bytB (pU L)).data.toList=(neg F.num,F.num.natAbs,F.den)) (hk:¬ KeptP (pK L) (pZ L) (pN L) eps F) {k N:Nat} {zs:List Int} {eps' F':Rat} (h:KeptP k zs N eps' F'):L≠putL k zs N eps' F':=by
 intro e;obtain ⟨a1,a2,a3,a4,a5⟩:=put_key h;rw [← e] at a1 a2 a3 a4 a5;have e1:=rat_of (h1.symm.trans a4);have e2:=rat_of (h2.symm.trans a5);rw [a1,a2,a3,e1,e2] at hk;exact hk h
theorem digs_dec (n:Nat):(digs n).length≤(decL n).length/19+1:=by
 have h:=valL_lt (decL n) (decL_lt n);rw [decL_val] at h;refine digs_length_le.2 (nLt h ?_);have h1:10 ^ (decL n).length≤10 ^ (19*((decL n).length/19+1)):=Nat.pow_le_pow_right (by decide) (by omega);rw [Nat.pow_mul] at h1;exact nTr h1 (Nat.pow_le_pow_left (by decide) _)
theorem textQ_rlen {q:Rat} (h:(textQ q).size≤2000):rlen q≤200:=by
 have e:(textQ q).size=(textP (neg q.num) q.num.natAbs q.den).length:=by unfold textQ textB;simp [ByteArray.size]
 obtain ⟨h1,h2⟩:=textP_len (neg q.num) q.num.natAbs q.den;rw [decB_len] at h1 h2;have l1:=digs_dec q.num.natAbs;have l2:=digs_dec q.den;unfold rlen
 by_cases h3:q.den=1
 · have:(digs q.den).length≤1:=by rw [h3];decide
   omega
 have:=h2 h3;omega
section
open Go.RowKit
def PutB (K:Int) (zs:List Int) (b1:Bool) (l1 l2:List Nat) (N:Int) (b2:Bool) (l3 l4:List Nat):List Nat:=bif keptB K zs b1 l1 l2 N b2 l3 l4 then putB K.toNat zs N.toNat (nums (textE b1 l1 l2).data.toList) (nums (textE b2 l3 l4).data.toList) else []
theorem kept_rats {K N:Int} {zs:List Int} {b1 b2:Bool} {l1 l2 l3 l4:List Nat} (h1:Dig l1) (h2:Dig l2) (h3:Dig l3) (h4:Dig l4) (g1:l1.length≤20) (g2:l2.length≤20) (g3:l3.length≤20) (g4:l4.length≤20) (h:keptB K zs b1 l1 l2 N b2 l3 l4=true) :
 ∃ (k n:Nat) (eps F:Rat),K=(k:Int)∧N=(n:Int)∧b1=neg eps.num∧l1=digs eps.num.natAbs∧l2=digs eps.den∧b2=neg F.num∧l3=digs F.num.natAbs∧l4=digs F.den∧KeptP k zs n eps F∧rlen eps≤20∧rlen F≤20∧PutB K zs b1 l1 l2 N b2 l3 l4=putL k zs n eps F:=by
 have hk:=h;unfold keptB at hk;simp only [Bool.and_eq_true,decide_eq_true_eq] at hk;obtain ⟨k1,k2,k3,k4,k5,k6,k7⟩:=hk;obtain ⟨eps,rfl,rfl,rfl⟩:=chkR_rat h1 h2 k1;obtain ⟨F,rfl,rfl,rfl⟩:=chkR_rat h3 h4 k2;obtain ⟨k,rfl⟩:=Int.eq_ofNat_of_zero_le (show 0≤K by omega);obtain ⟨n,rfl⟩:=Int.eq_ofNat_of_zero_le k6;have r1:rlen eps≤20:=by unfold rlen;omega
 have r2:rlen F≤20:=by unfold rlen;omega
 have s1:=textQ_size r1;have s2:=textQ_size r2;refine ⟨k,n,eps,F,rfl,rfl,rfl,rfl,rfl,rfl,rfl,rfl,⟨(keptB_iff.1 h).1,(keptB_iff.1 h).2.1,(keptB_iff.1 h).2.2,by omega,by omega⟩,r1,r2,?_⟩;unfold PutB;rw [h,textE_rat,textE_rat,putL_putB];rfl
theorem putL_len {k N:Nat} {zs:List Int} {eps F:Rat} (h1:rlen eps≤20) (h2:rlen F≤20) (hz:zs.length≤40):(putL k zs N eps F).length≤2000:=by
 have s1:=textQ_size h1;have s2:=textQ_size h2;unfold putL ratL;simp only [List.length_append,beL_len,tbyL_len zs zs.length (nRf _),nums_len,size_list];omega
theorem putB_eq {k n k' n':Nat} {zs zs':List Int} {eps F eps' F':Rat} (h:KeptP k zs n eps F) (h':KeptP k' zs' n' eps' F'):decide (putL k zs n eps F=putL k' zs' n' eps' F')=eqP (k:Int) zs (neg eps.num) (digs eps.num.natAbs) (digs eps.den) (n:Int) (neg F.num) (digs F.num.natAbs) (digs F.den) (k':Int) zs' (neg eps'.num) (digs eps'.num.natAbs) (digs eps'.den) (n':Int) (neg F'.num) (digs F'.num.natAbs) (digs F'.den):=by
 unfold eqP;rw [eqR_eqQ,eqR_eqQ];unfold eqQ;rw [Bool.eq_iff_iff];simp only [Bool.and_eq_true,decide_eq_true_eq]
 constructor
 · intro e;obtain ⟨rfl,rfl,rfl,rfl,rfl⟩:=putL_inj h h' e;exact ⟨rfl,rfl,rfl,rfl,rfl⟩
 rintro ⟨e1,rfl,rfl,e2,rfl⟩;obtain rfl:k=k':=by omega
 obtain rfl:n=n':=by omega
 rfl
theorem putp_any (K N:Int) (zs:List Int) (b1 b2:Bool) (l1 l2 l3 l4:List Nat) (aT:Option Addr) (nT cT:Nat) (a1:Option Addr) (n1 c1:Nat) (a2:Option Addr) (n2 c2:Nat) (a3:Option Addr) (n3 c3:Nat) (a4:Option Addr) (n4 c4:Nat) (w:World) (g:IntsAt w aT nT cT zs) (d1:NatAt w a1 n1 c1 l1) (d2:NatAt w a2 n2 c2 l2) (d3:NatAt w a3 n3 c3 l3) (d4:NatAt w a4 n4 c4 l4)
 (h1:n1≤20) (h2:n2≤20) (h3:n3≤20) (h4:n4≤20) :
 Calls Tryz.prog 8 #[.agg #[.int .i64 K,.slice aT nT cT,.bool b1,.slice a1 n1 c1,.slice a2 n2 c2,.int .i64 N,.bool b2,.slice a3 n3 c3,.slice a4 n4 c4]] w (fun e w'=>∃ a n c,e = .returned (.tuple #[.slice a n c,.int .i64 (bif keptB K zs b1 l1 l2 N b2 l3 l4 then 0 else 2)])∧BytesAt w' a n c (PutB K zs b1 l1 l2 N b2 l3 l4)∧Below w.heap.size w w'):=by
 cases hk:keptB K zs b1 l1 l2 N b2 l3 l4 with
 | false =>
   refine (put_no K N zs b1 b2 l1 l2 l3 l4 aT nT cT a1 n1 c1 a2 n2 c2 a3 n3 c3 a4 n4 c4 w g d1 d2 d3 d4 (by omega) (by omega) (by omega) (by omega) hk).mono ?_;rintro e w' ⟨rfl,hb⟩;refine ⟨none,0,0,rfl,?_,hb⟩;unfold PutB;rw [hk];exact BytesAt.nil _
 | true =>
   obtain ⟨k,n,eps,F,rfl,rfl,rfl,rfl,rfl,rfl,rfl,rfl,hkp,r1,r2,e⟩:=kept_rats d1.dig d2.dig d3.dig d4.dig (by have:=d1.len;omega) (by have:=d2.len;omega) (by have:=d3.len;omega) (by have:=d4.len;omega) hk;rw [e];exact put27_any k n zs eps F aT nT cT a1 n1 c1 a2 n2 c2 a3 n3 c3 a4 n4 c4 w g d1 d2 d3 d4 hkp.1 hkp.2.1 hkp.2.2.1 (by omega) (by omega)
end
end Go.Proofs.YtkhcblihbalnbaaGreatDoor
