import Derived.WalkKit
import Derived.Lib.Hide
import Derived.Laws.AppendOwnNone
import Derived.ProofKit
import Derived.OpenShut
import Derived.ShutString
import Derived.Lib.BitFns
import Derived.Lib.Join
import Derived.Lib.AppendZeros
import Derived.RangeFuncNested
import Derived.RangeFuncBound
import Derived.Shelf.RegionOpen
import Derived.OwnWalkIn
import Derived.LoopNIn
import Derived.LoopIn
import Derived.Lib.Split
import Derived.Test.YtkhcblihbalnbaaGreatDoorS0Pb
set_option linter.unusedVariables false
set_option linter.unusedSimpArgs false
namespace Go.Proofs.YtkhcblihbalnbaaGreatDoor
def val:List Nat→Nat
 | []=>0
 | x::r=>x+18446744073709551616*val r
def Dig (l:List Nat):Prop:=∀ x ∈ l,x<18446744073709551616
def D (l:List Nat) (i:Nat):Nat:=l.getD i 0
def digsF:Nat→Nat→List Nat
 | 0,_=>[]
 | f+1,n=>if n=0 then [] else (n % 18446744073709551616)::digsF f (n/18446744073709551616)
def digs (n:Nat):List Nat:=digsF n n
def Top (l:List Nat):Prop:=l.getLast? ≠ some 0
theorem val_nil:val []=0:=rfl
theorem val_cons (x:Nat) (r:List Nat):val (x::r)=x+18446744073709551616*val r:=rfl
theorem digsF_enough:∀ (f g n:Nat),n≤f→n≤g→digsF f n=digsF g n
 | 0, g, n, h, _ => by
   have:n=0:=by omega
   subst this;cases g<;>simp [digsF]
 | f + 1, 0, n, _, h => by
   have:n=0:=by omega
   subst this;simp [digsF]
 | f + 1, g + 1, n, h1, h2 => by
   unfold digsF
   by_cases hn:n=0
   · simp [hn]
   rw [if_neg hn,if_neg hn,digsF_enough f g _ (by omega) (by omega)]
theorem digs_zero:digs 0=[]:=rfl
theorem digs_pos {n:Nat} (h:n≠0):digs n=(n % 18446744073709551616)::digs (n/18446744073709551616):=by
 unfold digs;obtain ⟨m,rfl⟩:∃ m,n=m+1:=⟨n-1,by omega⟩;rw [digsF,if_neg h,digsF_enough m ((m+1)/18446744073709551616) _ (by omega) (by omega)]
theorem val_digs (n:Nat):val (digs n)=n:=by
 induction n using Nat.strongRecOn with
 | _ n ih =>
   by_cases h:n=0
   · subst h;rfl
   rw [digs_pos h,val_cons,ih _ (by omega)];omega
theorem dig_digs (n:Nat):Dig (digs n):=by
 induction n using Nat.strongRecOn with
 | _ n ih =>
   by_cases h:n=0
   · subst h;intro x hx;simp [digs_zero] at hx
   rw [digs_pos h];intro x hx;rcases List.mem_cons.1 hx with rfl | hx
   · omega
   exact ih _ (by omega) x hx
theorem digs_eq_nil {n:Nat}:digs n=[] ↔ n=0:=by
 constructor
 · intro h;have:=val_digs n;rw [h] at this;exact this.symm
 rintro rfl;rfl
theorem top_nil:Top []:=by simp [Top]
theorem top_cons {x:Nat} {r:List Nat} (h:r≠[]):Top (x::r) ↔ Top r:=by
 unfold Top;rw [List.getLast?_cons];obtain ⟨y,s,rfl⟩:=List.exists_cons_of_ne_nil h;simp [List.getLast?_cons]
theorem top_one {x:Nat}:Top [x] ↔ x≠0:=by simp [Top]
theorem top_digs (n:Nat):Top (digs n):=by
 induction n using Nat.strongRecOn with
 | _ n ih =>
   by_cases h:n=0
   · subst h;exact top_nil
   rw [digs_pos h]
   by_cases h':n/18446744073709551616=0
   · rw [h',digs_zero,top_one];omega
   rw [top_cons (fun e=>h' (digs_eq_nil.1 e))];exact ih _ (by omega)
theorem dig_cons {x:Nat} {r:List Nat}:Dig (x::r) ↔ x<18446744073709551616∧Dig r:=by
 unfold Dig;simp
theorem dig_nil:Dig []:=by intro x hx;cases hx
theorem dig_append {l m:List Nat}:Dig (l ++ m) ↔ Dig l∧Dig m:=by
 unfold Dig
 constructor
 · intro h;exact ⟨fun x hx=>h x (List.mem_append_left _ hx),fun x hx=>h x (List.mem_append_right _ hx)⟩
 rintro ⟨h1,h2⟩ x hx;rcases List.mem_append.1 hx with hx | hx
 · exact h1 x hx
 exact h2 x hx
theorem Dig.take {l:List Nat} (h:Dig l) (n:Nat):Dig (l.take n):=fun x hx=>h x (List.mem_of_mem_take hx)
theorem Dig.drop {l:List Nat} (h:Dig l) (n:Nat):Dig (l.drop n):=fun x hx=>h x (List.mem_of_mem_drop hx)
theorem Dig.at_ {l:List Nat} (h:Dig l) (i:Nat):D l i<18446744073709551616:=by
 by_cases hi:i<l.length
 · rw [D,List.getD_eq_getElem?_getD,List.getElem?_eq_getElem hi];exact h _ (List.getElem_mem hi)
 rw [D,List.getD_eq_getElem?_getD,List.getElem?_eq_none (by omega)];decide
theorem Dig.set {l:List Nat} (h:Dig l) (i x:Nat) (hx:x<18446744073709551616):Dig (l.set i x):=by
 intro y hy;rcases List.mem_or_eq_of_mem_set hy with hy | rfl
 · exact h y hy
 exact hx
theorem dig_replicate (n:Nat):Dig (List.replicate n 0):=by
 intro x hx;rw [List.eq_of_mem_replicate hx];decide
theorem digs_val:∀ {l:List Nat},Dig l→Top l→digs (val l)=l
 | [],_,_=>rfl
 | x :: r, hd, ht => by
   obtain ⟨hx,hr⟩:=dig_cons.1 hd
   by_cases hrn:r=[]
   · subst hrn;have hx0:x≠0:=top_one.1 ht;have:val [x]=x:=by simp [val]
     rw [this,digs_pos hx0];rw [Nat.mod_eq_of_lt hx,Nat.div_eq_of_lt hx,digs_zero]
   have hr':=digs_val hr ((top_cons hrn).1 ht);have hv:val r≠0:=fun e=>hrn (by rw [← hr',e,digs_zero])
   have hne:val (x::r)≠0:=by rw [val_cons];omega
   rw [digs_pos hne,val_cons,show (x+18446744073709551616*val r) % 18446744073709551616=x by omega,show (x+18446744073709551616*val r)/18446744073709551616=val r by omega,hr']
theorem val_append (l m:List Nat):val (l ++ m)=val l+18446744073709551616 ^ l.length*val m:=by
 induction l with
 | nil=>simp [val]
 | cons x r ih =>
   simp only [List.cons_append,val_cons,ih,List.length_cons,Nat.pow_succ,Nat.mul_add];rw [← Nat.mul_assoc,Nat.mul_comm (18446744073709551616 ^ r.length) 18446744073709551616];omega
theorem val_lt {l:List Nat} (h:Dig l):val l<18446744073709551616 ^ l.length:=by
 induction l with
 | nil=>simp [val]
 | cons x r ih =>
   obtain ⟨hx,hr⟩:=dig_cons.1 h;have:=ih hr;rw [val_cons,List.length_cons,Nat.pow_succ];have h2:val r+1≤18446744073709551616 ^ r.length:=this;have h3:=Nat.mul_le_mul_left 18446744073709551616 h2;rw [Nat.mul_comm (18446744073709551616 ^ r.length)];omega
theorem val_replicate (n:Nat):val (List.replicate n 0)=0:=by
 induction n with
 | zero=>rfl
 | succ n ih=>rw [List.replicate_succ,val_cons,ih]
def lo (l:List Nat) (i:Nat):Nat:=val (l.take i)
def hi (l:List Nat) (i:Nat):Nat:=val (l.drop i)
theorem lo_zero (l:List Nat):lo l 0=0:=by simp [lo,val]
theorem hi_zero (l:List Nat):hi l 0=val l:=by simp [hi]
theorem lo_all {l:List Nat} {i:Nat} (h:l.length≤i):lo l i=val l:=by simp [lo,List.take_of_length_le h]
theorem hi_all {l:List Nat} {i:Nat} (h:l.length≤i):hi l i=0:=by simp [hi,List.drop_of_length_le h,val]
theorem D_out {l:List Nat} {i:Nat} (h:l.length≤i):D l i=0:=by simp [D,List.getD_eq_getElem?_getD,List.getElem?_eq_none h]
theorem hi_step (l:List Nat) (i:Nat):hi l i=D l i+18446744073709551616*hi l (i+1):=by
 by_cases h:i<l.length
 · unfold hi;rw [List.drop_eq_getElem_cons h,val_cons];simp [D,List.getD_eq_getElem?_getD,List.getElem?_eq_getElem h]
 rw [hi_all (by omega),hi_all (by omega),D_out (by omega)]
theorem lo_step (l:List Nat) (i:Nat):lo l (i+1)=lo l i+18446744073709551616 ^ i*D l i:=by
 by_cases h:i<l.length
 · unfold lo;rw [List.take_succ_eq_append_getElem h,val_append];simp [D,List.getD_eq_getElem?_getD,List.getElem?_eq_getElem h,Nat.min_eq_left (nOf h),val]
 rw [lo_all (by omega),lo_all (by omega),D_out (by omega)];omega
theorem lo_hi (l:List Nat) (i:Nat):val l=lo l i+18446744073709551616 ^ i*hi l i:=by
 induction i with
 | zero=>simp [lo_zero,hi_zero]
 | succ i ih =>
   rw [ih,lo_step,hi_step l i,Nat.mul_add,Nat.pow_succ,Nat.mul_assoc];omega
theorem lo_lt {l:List Nat} (h:Dig l) (i:Nat):lo l i<18446744073709551616 ^ i:=by
 induction i with
 | zero=>simp [lo_zero]
 | succ i ih =>
   rw [lo_step,Nat.pow_succ,Nat.mul_comm (18446744073709551616 ^ i) 18446744073709551616];have h1:D l i+1≤18446744073709551616:=h.at_ i;have h2:=Nat.mul_le_mul_left (18446744073709551616 ^ i) h1;rw [Nat.mul_add,Nat.mul_one,Nat.mul_comm _ 18446744073709551616] at h2;omega
theorem lo_set {l:List Nat} {i j x:Nat} (h:i≤j):lo (l.set j x) i=lo l i:=by
 simp [lo,List.take_set_of_le h]
theorem hi_set {l:List Nat} {i j x:Nat} (h:j<i):hi (l.set j x) i=hi l i:=by
 simp [hi,List.drop_set_of_lt h]
theorem D_set_same {l:List Nat} {i x:Nat} (h:i<l.length):D (l.set i x) i=x:=by
 simp [D,List.getD_eq_getElem?_getD,h]
theorem D_set_other {l:List Nat} {i j x:Nat} (h:i≠j):D (l.set i x) j=D l j:=by
 simp [D,List.getD_eq_getElem?_getD,h]
theorem pow_pos' (i:Nat):0<18446744073709551616 ^ i:=Nat.pow_pos (by decide)
theorem digs_length_le {n k:Nat}:(digs n).length≤k ↔ n<18446744073709551616 ^ k:=by
 induction k generalizing n with
 | zero =>
   rw [Nat.pow_zero,Nat.le_zero,List.length_eq_zero_iff,digs_eq_nil];omega
 | succ k ih =>
   by_cases h:n=0
   · subst h;simp [digs_zero,pow_pos']
   rw [digs_pos h,List.length_cons,Nat.succ_le_succ_iff,ih,Nat.pow_succ,Nat.div_lt_iff_lt_mul (by decide)]
theorem digs_length_val {l:List Nat} (h:Dig l):(digs (val l)).length≤l.length:=digs_length_le.2 (val_lt h)
theorem take_digs {l:List Nat} (h:Dig l) {m:Nat} (hm:m≤l.length) (h0:hi l m=0) (ht:m=0∨D l (m-1)≠0):l.take m=digs (val l):=by
 have hv:val (l.take m)=val l:=by
  rw [lo_hi l m,h0];simp [lo]
 have htop:Top (l.take m):=by
  rcases ht with rfl | ht
  · simpa using top_nil
  by_cases hm0:m=0
  · subst hm0;simpa using top_nil
  unfold Top;rw [List.getLast?_eq_getElem?,List.length_take,Nat.min_eq_left hm,List.getElem?_take];have:m-1<m:=by omega
  rw [if_pos this,List.getElem?_eq_getElem (by omega)];rw [D,List.getD_eq_getElem?_getD,List.getElem?_eq_getElem (by omega)] at ht;intro e;exact ht (by simpa using e)
 rw [← hv,digs_val (h.take m) htop]
theorem take_digs_length {l:List Nat} (h:Dig l) {m:Nat} (hm:m≤l.length) (h0:hi l m=0) (ht:m=0∨D l (m-1)≠0):m=(digs (val l)).length:=by
 rw [← take_digs h hm h0 ht,List.length_take,Nat.min_eq_left hm]
theorem add_step {a b o:List Nat} {i c x y:Nat} (h:lo o i+18446744073709551616 ^ i*c=lo a i+lo b i) (hi:i<o.length)
 (hx:x+18446744073709551616*y=D a i+D b i+c) :
 lo (o.set i x) (i+1)+18446744073709551616 ^ (i+1)*y=lo a (i+1)+lo b (i+1):=by
 rw [lo_step,lo_set (nRf _),D_set_same hi,lo_step a,lo_step b,Nat.pow_succ,Nat.mul_assoc,Nat.add_assoc,← Nat.mul_add,hx,Nat.mul_add,Nat.mul_add];omega
theorem add_end' {p vo va vb c:Nat} (hp:0<p) (h1:va<p) (h2:vb<p) (h:vo+18446744073709551616*p*c=va+vb):vo=va+vb:=by
 rcases Nat.eq_zero_or_pos c with h' | h'
 · subst h';simpa using h
 have h3:18446744073709551616*p≤18446744073709551616*p*c:=Nat.le_mul_of_pos_right _ h';omega
theorem add_end {a b o:List Nat} (ha:Dig a) (hb:Dig b) {n c:Nat} (hn:o.length=n+1) (hla:a.length≤n) (hlb:b.length≤n)
 (h:lo o (n+1)+18446744073709551616 ^ (n+1)*c=lo a (n+1)+lo b (n+1)):val o=val a+val b:=by
 rw [lo_all (by omega),lo_all (by omega),lo_all (by omega)] at h;have h1:=lo_lt ha n;have h2:=lo_lt hb n;rw [lo_all hla] at h1;rw [lo_all hlb] at h2;rw [Nat.pow_succ,Nat.mul_comm (18446744073709551616 ^ n) 18446744073709551616] at h;exact add_end' (pow_pos' n) h1 h2 h
theorem sub_step {a b o:List Nat} {i c x y:Nat} (h:lo o i+lo b i=lo a i+18446744073709551616 ^ i*c) (hi:i<o.length)
 (hx:x+D b i+c=D a i+18446744073709551616*y) :
 lo (o.set i x) (i+1)+lo b (i+1)=lo a (i+1)+18446744073709551616 ^ (i+1)*y:=by
 rw [lo_step,lo_set (nRf _),D_set_same hi,lo_step a,lo_step b,Nat.pow_succ,Nat.mul_assoc];have e:18446744073709551616 ^ i*(x+D b i+c)=18446744073709551616 ^ i*(D a i+18446744073709551616*y):=by rw [hx]
 simp only [Nat.mul_add] at e;omega
theorem sub_end {a b o:List Nat} (ha:Dig a) (ho:Dig o) {n c:Nat} (hn:o.length=n) (hla:a.length≤n)
 (hba:val b≤val a) (h:lo o n+lo b n=lo a n+18446744073709551616 ^ n*c):val o=val a-val b:=by
 have hb:=lo_hi b n;have h4:=lo_lt ha n;have h5:=lo_lt ho n;rw [lo_all hla] at h4 h;rw [lo_all (l:=o) (by omega)] at h5 h;have hpos:∀ k,1≤k→18446744073709551616 ^ n≤18446744073709551616 ^ n*k:=fun k hk=>Nat.le_mul_of_pos_right _ hk
 have h0:hi b n=0:=by
  rcases Nat.eq_zero_or_pos (hi b n) with h | h
  · exact h
  have h3:=hpos _ h;omega
 rw [h0,Nat.mul_zero] at hb
 have hc:c=0:=by
  rcases Nat.eq_zero_or_pos c with h' | h'
  · exact h'
  have h3:=hpos _ h';omega
 subst hc;omega
def oneN (n:Nat):Nat:=if n<18446744073709551616 then n else 0
def oneB (n:Nat):Bool:=decide (n<18446744073709551616)
def chk (l:List Nat):Int:=if l.getLast? = some 0 then 6 else 0
theorem digs_small {n:Nat} (h:n≠0) (h':n<18446744073709551616):digs n=[n]:=by
 rw [digs_pos h,Nat.mod_eq_of_lt h',Nat.div_eq_of_lt h',digs_zero]
theorem digs_len0 {n:Nat}:(digs n).length=0 ↔ n=0:=by rw [List.length_eq_zero_iff,digs_eq_nil]
theorem digs_len1 {n:Nat} (h:n≠0):(digs n).length=1 ↔ n<18446744073709551616:=by
 have h1:=digs_length_le (n:=n) (k:=1);rw [Nat.pow_one] at h1;have h0:(digs n).length≠0:=fun e=>h (digs_len0.1 e)
 omega
theorem D_one (x:Nat):D [x] 0=x:=rfl
theorem last_D {l:List Nat} (h:l≠[]):l.getLast? = some (D l (l.length-1)):=by
 have hl:0<l.length:=List.length_pos_iff.2 h;rw [List.getLast?_eq_getElem?,D,List.getD_eq_getElem?_getD,List.getElem?_eq_getElem (by omega)];rfl
theorem chk_zero {l:List Nat} (h:l≠[]) (h':D l (l.length-1)=0):chk l=6:=by
 unfold chk;rw [last_D h,h',if_pos rfl]
theorem chk_pos {l:List Nat} (h:l≠[]) (h':D l (l.length-1)≠0):chk l=0:=by
 unfold chk;rw [last_D h,if_neg (fun e=>h' (Option.some.inj e))]
theorem chk_top {l:List Nat}:chk l=0 ↔ Top l:=by
 unfold chk Top;split<;>simp_all
theorem D_digs_last {n:Nat} (h:n≠0):D (digs n) ((digs n).length-1)≠0:=by
 have h1:=top_digs n;unfold Top at h1;rw [last_D (fun e=>h (digs_eq_nil.1 e))] at h1;exact fun e=>h1 (by rw [e])
def cmpI (x y:Nat):Int:=if x<y then -1 else if y<x then 1 else 0
theorem cmpI_lt {x y:Nat} (h:x<y):cmpI x y = -1:=if_pos h
theorem cmpI_gt {x y:Nat} (h:y<x):cmpI x y=1:=by unfold cmpI;rw [if_neg (by omega),if_pos h]
theorem cmpI_eq (x:Nat):cmpI x x=0:=by unfold cmpI;rw [if_neg (by omega),if_neg (by omega)]
theorem cmpI_zero {x y:Nat}:cmpI x y=0 ↔ x=y:=by unfold cmpI;split<;>(try split)<;>omega
theorem cmpI_neg {x y:Nat}:cmpI x y<0 ↔ x<y:=by unfold cmpI;split<;>(try split)<;>omega
theorem cmpI_step {x y h h':Nat} (hx:x<18446744073709551616) (hy:y<18446744073709551616) :
 cmpI (x+18446744073709551616*h) (y+18446744073709551616*h')=if h=h' then cmpI x y else cmpI h h':=by
 unfold cmpI
 split
 · subst_vars;split<;>(try split)<;>(try split)<;>(try split)<;>omega
 split<;>(try split)<;>(try split)<;>(try split)<;>omega
def lexP:List (Nat×Nat)→Int
 | []=>0
 | p::r=>if p.1<p.2 then -1 else if p.2<p.1 then 1 else lexP r
theorem lexP_append (a b:List (Nat×Nat)):lexP (a ++ b)=if lexP a=0 then lexP b else lexP a:=by
 induction a with
 | nil=>simp [lexP]
 | cons p r ih =>
   have e0:lexP (p::r ++ b)=(if p.1<p.2 then -1 else if p.2<p.1 then 1 else lexP (r ++ b)):=rfl;have e1:lexP (p::r)=(if p.1<p.2 then -1 else if p.2<p.1 then 1 else lexP r):=rfl
   by_cases h1:p.1<p.2
   · rw [if_pos h1] at e0 e1;rw [e0,e1,if_neg (by decide)]
   rw [if_neg h1] at e0 e1
   by_cases h2:p.2<p.1
   · rw [if_pos h2] at e0 e1;rw [e0,e1,if_neg (by decide)]
   rw [if_neg h2] at e0 e1;rw [e0,e1,ih]
theorem lexP_one (p:Nat×Nat):lexP [p]=cmpI p.1 p.2:=rfl
def upto (l l2:List Nat) (M k:Nat):List (Nat×Nat):=(List.range k).map fun j=>(D l (M-1-j),D l2 (M-1-j))
theorem upto_succ (l l2:List Nat) (M k:Nat):upto l l2 M (k+1)=upto l l2 M k ++ [(D l (M-1-k),D l2 (M-1-k))]:=by simp [upto,List.range_succ]
theorem upto_length (l l2:List Nat) (M k:Nat):(upto l l2 M k).length=k:=by simp [upto]
theorem lexP_upto {l l2:List Nat} (hd:Dig l) (hd2:Dig l2) {M:Nat} (h1:l.length≤M) (h2:l2.length≤M):∀ k,k≤M→lexP (upto l l2 M k)=cmpI (hi l (M-k)) (hi l2 (M-k))
 | 0,_=>by rw [Nat.sub_zero,hi_all h1,hi_all h2];rfl
 | k + 1, hk => by
   rw [upto_succ,lexP_append,lexP_upto hd hd2 h1 h2 k (by omega),lexP_one];rw [hi_step l (M-(k+1)),hi_step l2 (M-(k+1)),show M-(k+1)+1=M-k by omega,show M-(k+1)=M-1-k by omega,cmpI_step (hd.at_ _) (hd2.at_ _)]
   by_cases h:hi l (M-k)=hi l2 (M-k)
   · rw [if_pos h,if_pos (cmpI_zero.2 h)]
   rw [if_neg h,if_neg (fun e=>h (cmpI_zero.1 e))]
theorem lexP_all {l l2:List Nat} (hd:Dig l) (hd2:Dig l2) {M:Nat} (h1:l.length≤M) (h2:l2.length≤M):lexP (upto l l2 M M)=cmpI (val l) (val l2):=by
 rw [lexP_upto hd hd2 h1 h2 M (nRf _),Nat.sub_self,hi_zero,hi_zero]
theorem upto_split (l l2:List Nat) (M k:Nat):∀ d,∃ r,upto l l2 M (k+d)=upto l l2 M k ++ r
 | 0=>⟨[],by simp⟩
 | d + 1 => by
   obtain ⟨r,hr⟩:=upto_split l l2 M k d;exact ⟨r ++ [(D l (M-1-(k+d)),D l2 (M-1-(k+d)))],by rw [← Nat.add_assoc,upto_succ,hr,List.append_assoc]⟩
theorem lexP_part {l l2:List Nat} (hd:Dig l) (hd2:Dig l2) {M k:Nat} (h1:l.length≤M) (h2:l2.length≤M) (hk:k≤M) (h:lexP (upto l l2 M k)≠0):lexP (upto l l2 M k)=cmpI (val l) (val l2):=by
 obtain ⟨r,hr⟩:=upto_split l l2 M k (M-k);rw [show k+(M-k)=M by omega] at hr;rw [← lexP_all hd hd2 h1 h2,hr,lexP_append,if_neg h]
theorem digs_len_add (a b:Nat):(digs (a+b)).length≤max (digs a).length (digs b).length+1:=by
 rw [digs_length_le];have h1:a<18446744073709551616 ^ max (digs a).length (digs b).length:=digs_length_le.1 (Nat.le_max_left _ _);have h2:b<18446744073709551616 ^ max (digs a).length (digs b).length:=digs_length_le.1 (Nat.le_max_right _ _);rw [Nat.pow_succ];generalize 18446744073709551616 ^ max (digs a).length (digs b).length=p at *;omega
theorem digs_len_mono {a b:Nat} (h:a≤b):(digs a).length≤(digs b).length :=
 digs_length_le.2 (Nat.lt_of_le_of_lt h (digs_length_le.1 (nRf _)))
section
open Go.RowKit
structure NatAt (w:World) (a:Option Addr) (n c:Nat) (l:List Nat):Prop where
 len:l.length=n
 le:n≤c
 cle:c≤9223372036854775807
 dig:Dig l
 cell:n=0∨∃ b o,a=some ⟨b,o,none⟩∧∀ i,i<n→w.cell? ⟨b,o+i,none⟩=some (.int .u64 ((D l i:Nat):Int))
 nilc:a=none→c=0
structure OwnAt (w:World) (B:Nat) (a:Option Addr) (n c:Nat) (l:List Nat):Prop extends NatAt w a n c l where
 own:n=0∨∃ b o,a=some ⟨b,o,none⟩∧B≤b∧∀ i,i<n→w.frozen? ⟨b,o+i,none⟩=false
theorem NatAt.nil (w:World):NatAt w none 0 0 []:=⟨rfl,Nat.le_refl _,by decide,dig_nil,.inl rfl,fun _=>rfl⟩
theorem OwnAt.nil (w:World) (B:Nat):OwnAt w B none 0 0 []:=⟨NatAt.nil w,.inl rfl⟩
theorem NatAt.parts {w:World} {a:Option Addr} {n c:Nat} {l:List Nat} (h:NatAt w a n c l) :
 n=0∨∃ b o,a=some ⟨b,o,none⟩∧b<w.heap.size∧∀ i,i<n→w.cell? ⟨b,o+i,none⟩=some (.int .u64 ((D l i:Nat):Int)):=by
 rcases h.cell with h0 | ⟨b,o,ha,hc⟩
 · exact .inl h0
 by_cases hn:n=0
 · exact .inl hn
 exact .inr ⟨b,o,ha,World.block_lt_of_cell? w ⟨b,o+0,none⟩ (hc 0 (by omega)),hc⟩
theorem NatAt.below {w w':World} {B:Nat} {a:Option Addr} {n c:Nat} {l:List Nat} (h:NatAt w a n c l) (hb:Below B w w') (ha:n=0∨∀ x,a=some x→x.block<B):NatAt w' a n c l:=by
 refine ⟨h.len,h.le,h.cle,h.dig,?_,h.nilc⟩;rcases h.cell with h0 | ⟨b,o,he,hc⟩
 · exact .inl h0
 rcases ha with ha | ha
 · exact .inl ha
 refine .inr ⟨b,o,he,fun i hi => ?_⟩;rw [hb.cell (p:=⟨b,o+i,none⟩) (show b<B from ha _ he)];exact hc i hi
theorem NatAt.later {w w':World} {B:Nat} {a:Option Addr} {n c:Nat} {l:List Nat} (h:NatAt w a n c l) (hb:Below B w w') (hB:w.heap.size≤B):NatAt w' a n c l:=by
 rcases h.parts with h0 | ⟨b,o,he,hlt,_⟩
 · exact h.below hb (.inl h0)
 exact h.below hb (.inr fun x hx=>by rw [he] at hx;cases hx;show b<B;omega)
theorem OwnAt.later {w w':World} {B B':Nat} {a:Option Addr} {n c:Nat} {l:List Nat} (h:OwnAt w B a n c l) (hb:Below B' w w') (hB:w.heap.size≤B'):OwnAt w' B a n c l:=by
 refine ⟨h.toNatAt.later hb hB,?_⟩;rcases h.own with h0 | ⟨b,o,he,hle,hf⟩
 · exact .inl h0
 rcases h.toNatAt.parts with h0 | ⟨b',o',he',hlt,_⟩
 · exact .inl h0
 rw [he] at he';cases he';refine .inr ⟨b,o,he,hle,fun i hi => ?_⟩;rw [hb.frozen (p:=⟨b,o+i,none⟩) (show b<B' by omega)];exact hf i hi
theorem OwnAt.mono {w:World} {B B':Nat} {a:Option Addr} {n c:Nat} {l:List Nat} (h:OwnAt w B a n c l) (hB:B'≤B):OwnAt w B' a n c l:=by
 refine ⟨h.toNatAt,?_⟩;rcases h.own with h0 | ⟨b,o,he,hle,hf⟩
 · exact .inl h0
 exact .inr ⟨b,o,he,by omega,hf⟩
theorem NatAt.drew {w:World} {a:Option Addr} {n c:Nat} {l:List Nat} (h:NatAt w a n c l):NatAt w.drew a n c l:=h.later (B:=w.heap.size) (Below.refl _ _).drew (Nat.le_refl _)
theorem OwnAt.drew {w:World} {B:Nat} {a:Option Addr} {n c:Nat} {l:List Nat} (h:OwnAt w B a n c l):OwnAt w.drew B a n c l:=h.later (B':=w.heap.size) (Below.refl _ _).drew (Nat.le_refl _)
theorem NatAt.alloc {w:World} {a:Option Addr} {n c:Nat} {l:List Nat} (h:NatAt w a n c l) (o:Obj):NatAt (w.alloc o) a n c l:=h.later (B:=w.heap.size) ((Below.refl _ _).alloc (Nat.le_refl _) o) (Nat.le_refl _)
theorem OwnAt.alloc {w:World} {B:Nat} {a:Option Addr} {n c:Nat} {l:List Nat} (h:OwnAt w B a n c l) (o:Obj):OwnAt (w.alloc o) B a n c l:=h.later (B':=w.heap.size) ((Below.refl _ _).alloc (Nat.le_refl _) o) (Nat.le_refl _)
theorem Below.draws {B:Nat} {a w:World} (h:Below B a w) (n:Nat):Below B a (w.drewN n):=h.trans ⟨rfl,rfl,rfl,Nat.le_refl _,fun _ _=>rfl⟩
theorem OwnAt.draws {w:World} {B:Nat} {a:Option Addr} {n c:Nat} {l:List Nat} (h:OwnAt w B a n c l) (k:Nat):OwnAt (w.drewN k) B a n c l:=h.later (B':=w.heap.size) (Below.draws (Below.refl _ _) k) (Nat.le_refl _)
theorem NatAt.draws {w:World} {a:Option Addr} {n c:Nat} {l:List Nat} (h:NatAt w a n c l) (k:Nat):NatAt (w.drewN k) a n c l:=h.later (B:=w.heap.size) (Below.draws (Below.refl _ _) k) (Nat.le_refl _)
theorem D_take {l:List Nat} {m i:Nat} (h:i<m):D (l.take m) i=D l i:=by
 simp [D,List.getD_eq_getElem?_getD,h]
theorem NatAt.take {w:World} {a:Option Addr} {n c m:Nat} {l:List Nat} (h:NatAt w a n c l) (hm:m≤n):NatAt w a m c (l.take m):=by
 refine ⟨by have:=h.len;rw [List.length_take];omega,by have:=h.le;omega,h.cle,h.dig.take m,?_,h.nilc⟩
 by_cases h0:m=0
 · exact .inl h0
 rcases h.cell with hn | ⟨b,o,he,hc⟩
 · omega
 exact .inr ⟨b,o,he,fun i hi=>by rw [D_take hi];exact hc i (by omega)⟩
theorem OwnAt.take {w:World} {B:Nat} {a:Option Addr} {n c m:Nat} {l:List Nat} (h:OwnAt w B a n c l) (hm:m≤n):OwnAt w B a m c (l.take m):=by
 refine ⟨h.toNatAt.take hm,?_⟩;rcases h.own with h0 | ⟨b,o,he,hle,hf⟩
 · exact .inl (by omega)
 exact .inr ⟨b,o,he,hle,fun i hi=>hf i (by omega)⟩
theorem NatAt.recap {w:World} {a:Option Addr} {n c c':Nat} {l:List Nat} (h:NatAt w a n c l) (h1:n≤c') (h2:c'≤c):NatAt w a n c' l :=
 ⟨h.len,h1,Nat.le_trans h2 h.cle,h.dig,h.cell,fun e=>by have:=h.nilc e;omega⟩
theorem OwnAt.recap {w:World} {B:Nat} {a:Option Addr} {n c c':Nat} {l:List Nat} (h:OwnAt w B a n c l) (h1:n≤c') (h2:c'≤c):OwnAt w B a n c' l:=⟨h.toNatAt.recap h1 h2,h.own⟩
def RetNat (w:World) (N:Nat) (e:Ending) (w':World):Prop :=
 ∃ a n c,e = .returned (.slice a n c)∧OwnAt w' w.heap.size a n c (digs N)∧Below w.heap.size w w'
def RetNatOk (w:World) (N:Nat) (er:Int) (e:Ending) (w':World):Prop :=
 ∃ a n c,e = .returned (.tuple #[.slice a n c,.int .i64 er])∧OwnAt w' w.heap.size a n c (digs N)∧Below w.heap.size w w'
def RetVal (w:World) (v:Value) (e:Ending) (w':World):Prop:=e = .returned v∧Below w.heap.size w w'
theorem below_later {w w1 w2:World} (h1:Below w.heap.size w w1) (h2:Below w1.heap.size w1 w2):Below w.heap.size w w2:=h1.trans (h2.mono h1.size)
theorem bLt {w w1 w2:World} (h1:Below w.heap.size w w1) (h2:Below w1.heap.size w1 w2):Below w.heap.size w w2:=below_later h1 h2
theorem bRf (n:Nat) (w:World):Below n w w:=Below.refl n w
theorem hiD {p:Prop} (h:p):Hid p:=h
theorem OwnAt.set {w:World} {B:Nat} {b o n c:Nat} {l:List Nat} (h:OwnAt w B (some ⟨b,o,none⟩) n c l) {k d:Nat} (hk:k<n) (hd:d<18446744073709551616) :
 OwnAt (w.setCell ⟨b,o+k,none⟩ (.int .u64 ((d:Nat):Int))) B (some ⟨b,o,none⟩) n c (l.set k d):=by
 rcases h.cell with h0 | ⟨b',o',he,hc⟩
 · omega
 cases he;rcases h.own with h0 | ⟨b',o',he,hle,hf⟩
 · omega
 cases he;refine ⟨⟨by simpa using h.len,h.le,h.cle,h.dig.set k d hd,.inr ⟨b,o,rfl,fun i hi => ?_⟩,h.nilc⟩,.inr ⟨b,o,rfl,hle,fun i hi=>by rw [World.frozen?_setCell];exact hf i hi⟩⟩
 by_cases hik:i=k
 · subst hik;rw [D_set_same (by rw [h.len];exact hk)];exact World.cell?_setCell_same _ _ _ (hc i hi)
 rw [D_set_other (fun e=>hik e.symm),World.cell?_setCell_other _ (a:=⟨b,o+k,none⟩) (b:=⟨b,o+i,none⟩) _ (fun e=>hik (by have:=congrArg Addr.off e;simp at this;omega))];exact hc i hi
def dv (l:List Nat):List Value:=l.map fun d=>Value.int .u64 ((d:Nat):Int)
theorem dv_length (l:List Nat):(dv l).length=l.length:=by simp [dv]
theorem dv_append (l m:List Nat):dv (l ++ m)=dv l ++ dv m:=by simp [dv]
theorem dv_at {l:List Nat} {i:Nat} (h:i<l.length):(dv l)[i]? = some (.int .u64 ((D l i:Nat):Int)):=by
 simp [dv,D,List.getD_eq_getElem?_getD,h]
theorem dv_one (l:List Nat):∀ u ∈ dv l,u.oneCell'=true:=by
 intro u hu;obtain ⟨d,_,rfl⟩:=List.mem_map.1 hu;rfl
theorem OwnAt.ofRow {w:World} {B E:Nat} {v:Value} {n:Nat} {l:List Nat} (h:w.ownsRow B E 1 v n (dv l)) (hd:Dig l):∃ a c,v = .slice a n c∧OwnAt w B a n c l:=by
 have hlen:l.length=n:=by have:=h.1;rw [dv_length] at this;omega
 rcases h.2 with ⟨rfl,hn⟩ | ⟨g,cap,cur,rfl,hb,hg,hnc,hcm,hcs,htake⟩
 · subst hn;have:l=[]:=List.eq_nil_of_length_eq_zero hlen;subst this;exact ⟨none,0,rfl,OwnAt.nil w B⟩
 have hm:cap≤9223372036854775807:=hcm;refine ⟨_,_,rfl,⟨hlen,hnc,hm,hd,.inr ⟨g,0,rfl,fun i hi => ?_⟩,fun e=>by cases e⟩,.inr ⟨g,0,rfl,hb,fun i hi => ?_⟩⟩
 · have:=World.ownsRow.cellAt h i (by omega);rw [Nat.zero_add,this];exact dv_at (by omega)
 rw [Nat.zero_add];exact World.ownsRow.frozenAt h i
theorem addr_add (b o i:Nat):((⟨b,o,none⟩:Addr).add i)=⟨b,o+i,none⟩:=by
 unfold Addr.add;split<;>simp_all
theorem wpList_append_nat {P:Program} {w:World} {ops:Array Oper} {rest:List Oper} {o:Oper} {a:Act} {Q:Exit→Act→World→Prop} (hgd:o.guard=none) (s x:Operand) (T:TypeId)
 (ho:o.op = .call { callee:=.builtin .append,args:=#[s,x],argTypes:=#[T,T] })
 (base E:Nat) (i:TypeInfo) (ht:P.underlying T=some (.slice E)) (hi:P.info? E=some i) (hz:i.zero=some (.int .u64 0)) (hsize:i.size=1) (hby:i.bytes=8)
 (v:Value) (n:Nat) (xs:List Value) (hs:a.eval s=v) (hown:w.ownsRow base E 1 v n xs)
 (xa:Option Addr) (m xc:Nat) (l:List Nat) (hx:a.eval x = .slice xa m xc) (hn:NatAt w xa m xc l) (hsz:n+m≤1099511627776) (hbase:base≤w.heap.size)
 (h:∀ a' c' w',w'.ownsRow base E 1 (.slice a' (n+m) c') (n+m) (xs ++ dv l)→w.grownBy w' v.ownBlock→wpList P ops Q rest (a.put o.dst (.slice a' (n+m) c')) w') :
 wpList P ops Q (o::rest) a w:=by
 cases xa with
 | none =>
   have hc:=hn.nilc rfl;have hm:m=0:=by have:=hn.le;omega
   subst hc;subst hm;have hl:l=[]:=List.eq_nil_of_length_eq_zero hn.len;subst hl;refine wpList_append_own_none hgd s x T ho base E i 1 ht hi v n xs hs hown hx ?_
   have hshape:∃ a' c',v = .slice a' n c':=by
    rcases hown.2 with ⟨rfl,hn0⟩ | ⟨g,cap,cur,rfl,_⟩
    · subst hn0;exact ⟨_,_,rfl⟩
    exact ⟨_,_,rfl⟩
   obtain ⟨a',c',rfl⟩:=hshape;exact h a' c' w (by simpa [dv] using hown) ⟨rfl,rfl,rfl,Nat.le_refl _,fun _ _ _=>rfl⟩
 | some ad =>
   have hnews:∀ j u,(dv l)[j]? = some u→w.cell? (ad.add j)=some u:=by
    intro j u hu
    have hj:j<l.length:=by
     have:=(List.getElem?_eq_some_iff.1 hu).1
     rwa [dv_length] at this
    rw [dv_at hj] at hu;cases hu;rcases hn.cell with h0 | ⟨b,o,he,hc⟩
    · have:=hn.len;omega
    cases he;rw [addr_add];exact hc j (by have:=hn.len;omega)
   refine wpList_append_own (w:=w) hgd s x T ho base E i (.int .u64 0) 1 8 ht hi hz hsize hby rfl (by decide) v n xs hs hown ad m xc (dv l) hx (by rw [dv_length,hn.len];omega) hnews (dv_one l)
    (by simp only [maxLen];omega) (by omega) hbase ?_
   intro v' w' h1 h2 _
   have hshape:∃ a' c',v' = .slice a' (n+m) c':=by
    rcases h1.2 with ⟨rfl,hn0⟩ | ⟨g,cap,cur,rfl,_⟩
    · rw [hn0];exact ⟨_,_,rfl⟩
    exact ⟨_,_,rfl⟩
   obtain ⟨a',c',rfl⟩:=hshape;exact h a' c' w' h1 h2
theorem below_setCells (B b:Nat) (hB:B≤b):∀ (vs:List Value) (o:Nat) (w:World),Below B w (w.setCells b o vs)
 | [],_,w=>Below.refl B w
 | v::r,o,w=>((Below.refl B w).setCell (p:=⟨b,o,none⟩) hB v).trans (below_setCells B b hB r (o+1) _)
theorem size_setCells (b:Nat):∀ (vs:List Value) (o:Nat) (w:World),(w.setCells b o vs).heap.size=w.heap.size
 | [],_,w=>rfl
 | v::r,o,w=>by rw [World.setCells,size_setCells b r,World.size_setCell]
theorem OwnAt.setAll {w:World} {B:Nat} {b o n c:Nat} {l l':List Nat} (h:OwnAt w B (some ⟨b,o,none⟩) n c l) (hl:l'.length=n) (hd:Dig l') :
 OwnAt (w.setCells b o (dv l')) B (some ⟨b,o,none⟩) n c l':=by
 by_cases hn:n=0
 · subst hn;have:l'=[]:=List.eq_nil_of_length_eq_zero hl;subst this;have h2:l=[]:=List.eq_nil_of_length_eq_zero h.len;subst h2;exact h
 rcases h.cell with h0 | ⟨b',o',he,hc⟩
 · omega
 cases he;rcases h.own with h0 | ⟨b',o',he,hle,hf⟩
 · omega
 cases he;refine ⟨⟨hl,h.le,h.cle,hd,.inr ⟨b,o,rfl,fun i hi => ?_⟩,h.nilc⟩,.inr ⟨b,o,rfl,hle,fun i hi=>by rw [World.frozen?_setCells];exact hf i hi⟩⟩;rw [World.cell?_setCells_in b (dv l') o w (fun j hj=>by rw [dv_length,hl] at hj;rw [hc j hj];rfl) i (by rw [dv_length];omega)];have:=dv_at (l:=l') (i:=i) (by omega);rw [List.getElem?_eq_getElem (by rw [dv_length];omega)] at this;exact this
theorem dv_replicate (n:Nat):dv (List.replicate n 0)=List.replicate n (.int .u64 0):=by simp [dv]
theorem lit1 {E:Nat} (w:World) (v:Int) (x:Nat) (hv:v=x) (hx:x<18446744073709551616):OwnAt (w.alloc (.cells #[.int .u64 v] E)) w.heap.size (some ⟨w.heap.size,0,none⟩) 1 1 [x]:=by
 subst hv;refine ⟨⟨rfl,Nat.le_refl _,by decide,dig_cons.2 ⟨hx,dig_nil⟩,.inr ⟨_,_,rfl,fun i hi => ?_⟩,fun e=>by cases e⟩,.inr ⟨_,_,rfl,Nat.le_refl _,fun i hi => ?_⟩⟩
 · obtain rfl:i=0:=by omega
   rw [World.cell?_alloc_at _ _ _ _ rfl];rfl
 exact World.frozen?_alloc_at _ _ _ _ rfl
theorem lit1g {E:Nat} (w:World) (g:Nat) (v:Int) (x:Nat) (hg:g=w.heap.size) (hv:v=x) (hx:x<18446744073709551616):OwnAt (w.alloc (.cells #[.int .u64 v] E)) w.heap.size (some ⟨g,0,none⟩) 1 1 [x]:=by
 subst hg;exact lit1 w v x hv hx
theorem digs_take {l:List Nat} (h:Dig l):l.take (digs (val l)).length=digs (val l):=by
 have hle:=digs_length_val h;have h1:=val_lt (dig_digs (val l));rw [val_digs] at h1;have h2:=lo_hi l (digs (val l)).length
 have h3:hi l (digs (val l)).length=0:=by
  rcases Nat.eq_zero_or_pos (hi l (digs (val l)).length) with h0 | h0
  · exact h0
  have:=Nat.le_mul_of_pos_right (18446744073709551616 ^ (digs (val l)).length) h0;omega
 by_cases hv:val l=0
 · rw [hv];rfl
 refine take_digs h hle h3 (.inr ?_);have h4:=D_digs_last hv;intro e;have h5:=lo_step l ((digs (val l)).length-1)
 have hpos:0<(digs (val l)).length:=by
  rcases Nat.eq_zero_or_pos (digs (val l)).length with h6 | h6
  · exact absurd (digs_len0.1 h6) hv
  exact h6
 rw [show (digs (val l)).length-1+1=(digs (val l)).length by omega,e,Nat.mul_zero,Nat.add_zero] at h5;rw [h3,Nat.mul_zero,Nat.add_zero,h5] at h2;have h7:=lo_lt h ((digs (val l)).length-1);rw [← h2] at h7;have h8:=digs_length_le.2 h7;omega
theorem NatAt.digs {w:World} {a:Option Addr} {n c:Nat} {l:List Nat} (h:NatAt w a n c l):NatAt w a (digs (val l)).length c (Go.Proofs.YtkhcblihbalnbaaGreatDoor.digs (val l)):=by
 have h1:=h.take (m:=(Go.Proofs.YtkhcblihbalnbaaGreatDoor.digs (val l)).length) (by have:=digs_length_val h.dig;rw [h.len] at this;exact this)
 rwa [digs_take h.dig] at h1
theorem OwnAt.digs {w:World} {B:Nat} {a:Option Addr} {n c:Nat} {l:List Nat} (h:OwnAt w B a n c l):OwnAt w B a (digs (val l)).length c (Go.Proofs.YtkhcblihbalnbaaGreatDoor.digs (val l)):=by
 have h1:=h.take (m:=(Go.Proofs.YtkhcblihbalnbaaGreatDoor.digs (val l)).length) (by have:=digs_length_val h.dig;rw [h.len] at this;exact this)
 rwa [digs_take h.dig] at h1
theorem NatAt.short {w:World} {a:Option Addr} {n c:Nat} {l:List Nat} (h:NatAt w a n c l):(Go.Proofs.YtkhcblihbalnbaaGreatDoor.digs (val l)).length≤n:=by
 have:=digs_length_val h.dig;rw [h.len] at this;exact this
theorem ret_len {a:Option Addr} {n m c:Nat} (h:n=m):Ending.returned (.slice a n c) = .returned (.slice a m c):=by rw [h]
theorem ret_int {k:IntKind} {a b:Int} (h:a=b):Ending.returned (.int k a) = .returned (.int k b):=by rw [h]
theorem ret_bool {a b:Bool} (h:a=b):Ending.returned (.bool a) = .returned (.bool b):=by rw [h]
theorem NatAt.past {w w':World} {a:Option Addr} {n c:Nat} {l:List Nat} (h:NatAt w a n c l) (hb:Below w.heap.size w w'):NatAt w' a n c l:=h.later hb (Nat.le_refl _)
theorem below_alloc {w w1:World} (hb:Below w.heap.size w w1) (o:Obj):Below w.heap.size w (w1.alloc o):=hb.alloc hb.size o
end
section
open Go.RowKit
def digitsOf (zs:List Int) (n:Nat):List Nat:=(zs.take n).map Int.toNat
theorem natAt_row {w:World} {a:Option Addr} {len cap:Nat} {zs:List Int}
 (h:(a=none∧len=0∧cap=0∧zs=[])∨∃ x,a=some x∧len≤cap∧cap≤maxLen∧zs.length=cap∧(∀ i,i<zs.length→w.cell? (x.add i)=some (.int .u64 (zs.getD i 0)))∧∀ n ∈ zs,(Lit.int .u64 n).wf=true) :
 NatAt w a len cap (digitsOf zs len):=by
 rcases h with ⟨rfl,rfl,rfl,rfl⟩ | ⟨x,rfl,h1,h2,h3,h4,h5⟩
 · exact NatAt.nil w
 have hz:∀ n ∈ zs,0≤n∧n<18446744073709551616:=by
  intro n hn;have:=h5 n hn;simp only [Lit.wf,IntKind.min,IntKind.max,IntKind.signed,IntKind.bits,Bool.and_eq_true,decide_eq_true_eq] at this;obtain ⟨t1,t2⟩:=this;simp at t1 t2;omega
 have hlen:(digitsOf zs len).length=len:=by simp [digitsOf];omega
 refine ⟨hlen,h1,h2,?_,?_,fun e=>by cases e⟩
 · intro d hd;obtain ⟨n,hn,rfl⟩:=List.mem_map.1 hd;have:=hz n (List.mem_of_mem_take hn);omega
 by_cases h0:len=0
 · exact .inl h0
 have hc0:=h4 0 (by omega)
 have hsp:x.spot=none:=by
  rw [show x.add 0=x from rfl] at hc0;unfold World.cell? at hc0
  split at hc0
  · cases hs:x.spot with
    | none=>rfl
    | some s=>simp [hs] at hc0
  simp at hc0
 obtain ⟨b,o,s⟩:=x;cases hsp;refine .inr ⟨b,o,rfl,fun i hi => ?_⟩;have hc:=h4 i (by omega);rw [addr_add] at hc;rw [hc];have hi':i<zs.length:=by omega
 have hD:((D (digitsOf zs len) i:Nat):Int)=zs.getD i 0:=by
  unfold D digitsOf;rw [List.getD_eq_getElem?_getD,List.getElem?_map,List.getElem?_take,if_pos hi,List.getElem?_eq_getElem hi',List.getD_eq_getElem?_getD,List.getElem?_eq_getElem hi'];have:=hz zs[i] (List.getElem_mem hi');simp;omega
 rw [hD]
theorem i64_row {x:Int} (h:(Lit.int .i64 x).wf=true):-9223372036854775808≤x∧x≤9223372036854775807:=by
 simp only [Lit.wf,IntKind.min,IntKind.max,IntKind.signed,IntKind.bits,Bool.and_eq_true,decide_eq_true_eq,if_true] at h
 simpa using h
end
section
open Go.RowKit Go.ChangeShapes Go.WideShapes Go.ChangeAt
def RowIn (k:IntKind) (w:World) (a:Option Addr) (len cap:Nat) (zs:List Int):Prop :=
 (a=none∧len=0∧cap=0∧zs=[]) ∨
 ∃ x,a=some x∧len≤cap∧cap≤maxLen∧zs.length=cap∧(∀ i,i<zs.length→w.cell? (x.add i)=some (.int k (zs.getD i 0)))∧∀ n ∈ zs,(Lit.int k n).wf=true
section
variable {H:Type} {enc:TypeId×Value→H} {P:Program} {W:World}
theorem open_row {t e:TypeId} {k:IntKind} {fuel:Nat} {c:Value} {x:DataW H×List MemPlace} (ht:P.underlying t=some (.slice e)) (he:P.underlying e=some (.int k)) (hc:P.cellsOf e=1)
 (h:DataW.trod enc P W 0 (fun _=>true) true fuel t [c]=some x):∃ a len cap zs,c = .slice a len cap∧RowIn k W a len cap zs:=by
 rcases open_ints ht he hc h with ⟨hcs,_⟩ | ⟨x,l,c',zs,hcs,_,hl,hm,hz,_,hcell,hwz⟩
 · simp at hcs;subst hcs;exact ⟨_,_,_,[],rfl,.inl ⟨rfl,rfl,rfl,rfl⟩⟩
 simp at hcs;subst hcs;exact ⟨_,_,_,zs,rfl,.inr ⟨_,rfl,hl,hm,by simpa using hz,hcell,hwz⟩⟩
theorem open_bit {t:TypeId} {fuel:Nat} {c:Value} {x:DataW H×List MemPlace} (ht:P.underlying t=some .bool) (h:DataW.trod enc P W 0 (fun _=>true) true fuel t [c]=some x):∃ b,c = .bool b:=by
 cases fuel with
 | zero=>simp [DataW.trod] at h
 | succ n =>
   unfold DataW.trod at h;rw [ht] at h
   split at h<;>simp_all
theorem open_num {t:TypeId} {k:IntKind} {fuel:Nat} {c:Value} {x:DataW H×List MemPlace} (ht:P.underlying t=some (.int k)) (h:DataW.trod enc P W 0 (fun _=>true) true fuel t [c]=some x):∃ n,c = .int k n∧(Lit.int k n).wf=true:=by
 cases fuel with
 | zero=>simp [DataW.trod] at h
 | succ n =>
   unfold DataW.trod at h;rw [ht] at h
   split at h<;>simp_all
theorem open_wholeC {t:TypeId} {f0 f1:Field} {e:TypeId} {fuel:Nat} {c0 c1:Value} {x:DataW H×List MemPlace} (ht:P.underlying t=some (.struct #[f0,f1])) (o0:f0.offset=0) (o1:f1.offset=1)
 (hb:P.underlying f0.type=some .bool) (hn:P.underlying f1.type=some (.slice e)) (he:P.underlying e=some (.int .u64)) (z0:P.cellsOf f0.type=1) (z1:P.cellsOf f1.type=1) (ze:P.cellsOf e=1)
 (h:DataW.trod enc P W 0 (fun _=>true) true fuel t [c0,c1]=some x):∃ b a len cap zs,c0 = .bool b∧c1 = .slice a len cap∧RowIn .u64 W a len cap zs:=by
 obtain ⟨y0,y1,n,_,_,h0,h1⟩:=trod_struct2 ht h;rw [o0,z0] at h0;rw [o1,z1] at h1;obtain ⟨b,hb'⟩:=open_bit hb h0;obtain ⟨a,len,cap,zs,ha,hr⟩:=open_row hn he ze h1;exact ⟨b,a,len,cap,zs,hb',ha,hr⟩
theorem open_ratioC {t:TypeId} {g0 g1 f0 f1:Field} {e:TypeId} {fuel:Nat} {c0 c1 c2:Value} {x:DataW H×List MemPlace} (ht:P.underlying t=some (.struct #[g0,g1])) (p0:g0.offset=0) (p1:g1.offset=2)
 (hu:P.underlying g0.type=some (.struct #[f0,f1])) (hn':P.underlying g1.type=some (.slice e)) (o0:f0.offset=0) (o1:f1.offset=1)
 (hb:P.underlying f0.type=some .bool) (hn:P.underlying f1.type=some (.slice e)) (he:P.underlying e=some (.int .u64)) (y0:P.cellsOf g0.type=2) (y1:P.cellsOf g1.type=1) (z0:P.cellsOf f0.type=1) (z1:P.cellsOf f1.type=1) (ze:P.cellsOf e=1)
 (h:DataW.trod enc P W 0 (fun _=>true) true fuel t [c0,c1,c2]=some x) :
 ∃ b a len cap zs a2 len2 cap2 zs2,c0 = .bool b∧c1 = .slice a len cap∧c2 = .slice a2 len2 cap2∧RowIn .u64 W a len cap zs∧RowIn .u64 W a2 len2 cap2 zs2:=by
 obtain ⟨x0,x1,n,_,_,h0,h1⟩:=trod_struct2 ht h;rw [p0,y0] at h0;rw [p1,y1] at h1;obtain ⟨b,a,len,cap,zs,q0,q1,hr⟩:=open_wholeC hu o0 o1 hb hn he z0 z1 ze (c0:=c0) (c1:=c1) h0;obtain ⟨a2,len2,cap2,zs2,q2,hr2⟩:=open_row hn' he ze h1;exact ⟨b,a,len,cap,zs,a2,len2,cap2,zs2,q0,q1,q2,hr,hr2⟩
end
end
theorem B_split {r:Nat} (hr:r≤64):18446744073709551616=2 ^ (64-r)*2 ^ r:=by
 rw [← Nat.pow_add,Nat.sub_add_cancel hr]
theorem or_add {a b k:Nat} (h:a<2 ^ k):a ||| (2 ^ k*b)=a+2 ^ k*b:=by
 rw [Nat.or_comm,← Nat.two_pow_add_eq_or_of_lt h,Nat.add_comm]
theorem mod_mul_mod' (a c m:Nat):a % m*c % m=a*c % m:=by
 rw [Nat.mul_mod,Nat.mod_mod,← Nat.mul_mod]
theorem shl_two {y r:Nat} (hr:r≤63):y*2 % 18446744073709551616*2 ^ (63-r) % 18446744073709551616=2 ^ (64-r)*(y % 2 ^ r):=by
 rw [mod_mul_mod',Nat.mul_assoc,show 2*2 ^ (63-r)=2 ^ (64-r) by rw [show 64-r=(63-r)+1 by omega,Nat.pow_succ,Nat.mul_comm]];rw [Nat.mul_comm y]
 conv=>lhs;rhs;rw [B_split (show r≤64 by omega)]
 rw [Nat.mul_mod_mul_left]
theorem shr_or {x y r:Nat} (hx:x<18446744073709551616) (hr:r≤63) :
 (x/2 ^ r) ||| (y*2 % 18446744073709551616*2 ^ (63-r) % 18446744073709551616)=(x+18446744073709551616*y)/2 ^ r % 18446744073709551616:=by
 have hp:0<2 ^ r:=Nat.pow_pos (by decide)
 have h1:x/2 ^ r<2 ^ (64-r):=by
  rw [Nat.div_lt_iff_lt_mul hp,← B_split (show r≤64 by omega)];exact hx
 rw [shl_two hr,or_add h1]
 have h2:(x+18446744073709551616*y)/2 ^ r=x/2 ^ r+2 ^ (64-r)*y:=by
  conv=>lhs;lhs;rw [B_split (show r≤64 by omega)]
  rw [Nat.mul_comm (2 ^ (64-r)) (2 ^ r),Nat.mul_assoc,Nat.add_mul_div_left _ _ hp]
 rw [h2]
 have h3:(x/2 ^ r+2 ^ (64-r)*y)=(x/2 ^ r+2 ^ (64-r)*(y % 2 ^ r))+18446744073709551616*(y/2 ^ r):=by
  conv=>rhs;rhs;rw [B_split (show r≤64 by omega)]
  rw [Nat.mul_assoc,Nat.add_assoc,← Nat.mul_add,Nat.mod_add_div]
 have h4:y % 2 ^ r+1≤2 ^ r:=Nat.mod_lt _ hp;have h5:=Nat.mul_le_mul_left (2 ^ (64-r)) h4;rw [← B_split (show r≤64 by omega),Nat.mul_add,Nat.mul_one] at h5
 have h6:x/2 ^ r+2 ^ (64-r)*(y % 2 ^ r)<18446744073709551616:=by
  clear h2 h3;generalize x/2 ^ r=X at *;generalize 2 ^ (64-r)*(y % 2 ^ r)=Y at *;omega
 rw [h3,Nat.add_mul_mod_self_left,Nat.mod_eq_of_lt h6]
theorem lo_of_digits {o:List Nat} {N:Nat}:∀ k,(∀ i,i<k→D o i=N/18446744073709551616 ^ i % 18446744073709551616)→lo o k=N % 18446744073709551616 ^ k
 | 0,_=>by rw [lo_zero,Nat.pow_zero,Nat.mod_one]
 | k + 1, h => by
   rw [lo_step,lo_of_digits k (fun i hi=>h i (by omega)),h k (by omega),Nat.pow_succ,Nat.mod_mul]
theorem hi_div (l:List Nat) (hd:Dig l) (i:Nat):hi l i=val l/18446744073709551616 ^ i:=by
 rw [lo_hi l i,Nat.add_mul_div_left _ _ (pow_pos' i),Nat.div_eq_of_lt (lo_lt hd i),Nat.zero_add]
theorem down_digit {l:List Nat} (hd:Dig l) {q r i:Nat} (hr:r≤63) :
 (D l (q+i)+18446744073709551616*D l (q+i+1))/2 ^ r % 18446744073709551616=(val l/2 ^ (64*q+r))/18446744073709551616 ^ i % 18446744073709551616:=by
 have hp:0<2 ^ r:=Nat.pow_pos (by decide);have e1:2 ^ (64*q+r)=18446744073709551616 ^ q*2 ^ r:=by rw [Nat.pow_add,Nat.pow_mul]
 rw [e1,Nat.div_div_eq_div_mul,Nat.mul_right_comm,← Nat.pow_add,← Nat.div_div_eq_div_mul,← hi_div l hd,hi_step l (q+i),hi_step l (q+i+1)]
 have e2:D l (q+i)+18446744073709551616*(D l (q+i+1)+18446744073709551616*hi l (q+i+1+1))=(D l (q+i)+18446744073709551616*D l (q+i+1))+2 ^ r*(2 ^ (64-r)*(18446744073709551616*hi l (q+i+1+1))):=by
  rw [← Nat.mul_assoc (2 ^ r),Nat.mul_comm (2 ^ r),← B_split (show r≤64 by omega)];omega
 rw [e2,Nat.add_mul_div_left _ _ hp,Nat.mul_left_comm,Nat.add_mul_mod_self_left]
theorem down_end {l o:List Nat} (hd:Dig l) (ho:Dig o) {q r:Nat} (hlen:o.length=l.length-q)
 (h:∀ i,i<o.length→D o i=(val l/2 ^ (64*q+r))/18446744073709551616 ^ i % 18446744073709551616):val o=val l/2 ^ (64*q+r):=by
 have h1:=lo_of_digits o.length h;rw [lo_all (nRf _)] at h1;rw [h1,Nat.mod_eq_of_lt];have e1:2 ^ (64*q+r)=18446744073709551616 ^ q*2 ^ r:=by rw [Nat.pow_add,Nat.pow_mul]
 have h2:val l/18446744073709551616 ^ q<18446744073709551616 ^ o.length:=by
  rw [Nat.div_lt_iff_lt_mul (pow_pos' q),← Nat.pow_add];refine nLt (val_lt hd) (Nat.pow_le_pow_right (by decide) (by omega))
 rw [e1,← Nat.div_div_eq_div_mul];exact Nat.lt_of_le_of_lt (Nat.div_le_self _ _) h2
theorem shl_parts {x r:Nat} (hx:x<18446744073709551616) (hr:r≤63) :
 x*2 ^ r % 18446744073709551616+18446744073709551616*(x/2/2 ^ (63-r))=x*2 ^ r:=by
 have e:x/2/2 ^ (63-r)=x*2 ^ r/18446744073709551616:=by
  rw [Nat.div_div_eq_div_mul,show 2*2 ^ (63-r)=2 ^ (64-r) by rw [show 64-r=(63-r)+1 by omega,Nat.pow_succ,Nat.mul_comm]]
  conv=>rhs;rhs;rw [B_split (show r≤64 by omega)]
  rw [Nat.mul_div_mul_right _ _ (Nat.pow_pos (by decide))]
 rw [e];omega
theorem high_lt {x r:Nat} (hx:x<18446744073709551616) (hr:r≤63):x/2/2 ^ (63-r)<2 ^ r:=by
 rw [Nat.div_div_eq_div_mul,show 2*2 ^ (63-r)=2 ^ (64-r) by rw [show 64-r=(63-r)+1 by omega,Nat.pow_succ,Nat.mul_comm]];rw [Nat.div_lt_iff_lt_mul (Nat.pow_pos (by decide)),Nat.mul_comm,← B_split (show r≤64 by omega)];exact hx
theorem low_or {h x r:Nat} (hr:r≤63) (hh:h<2 ^ r):h ||| (x*2 ^ r % 18446744073709551616)=h+x*2 ^ r % 18446744073709551616:=by
 have e:x*2 ^ r % 18446744073709551616=2 ^ r*(x % 2 ^ (64-r)):=by
  conv=>lhs;rhs;rw [B_split (show r≤64 by omega),Nat.mul_comm]
  rw [Nat.mul_comm x,Nat.mul_mod_mul_left]
 rw [e,or_add hh]
theorem low_or_lt {h x r:Nat} (hr:r≤63) (hh:h<2 ^ r):h+x*2 ^ r % 18446744073709551616<18446744073709551616:=by
 have hp:0<2 ^ (64-r):=Nat.pow_pos (by decide)
 have e:x*2 ^ r % 18446744073709551616=2 ^ r*(x % 2 ^ (64-r)):=by
  conv=>lhs;rhs;rw [B_split (show r≤64 by omega),Nat.mul_comm]
  rw [Nat.mul_comm x,Nat.mul_mod_mul_left]
 have h4:x % 2 ^ (64-r)+1≤2 ^ (64-r):=Nat.mod_lt _ hp;have h5:=Nat.mul_le_mul_left (2 ^ r) h4;rw [Nat.mul_comm (2 ^ r) (2 ^ (64-r)),← B_split (show r≤64 by omega),Nat.mul_add,Nat.mul_one] at h5;rw [e];omega
theorem up_step {l o:List Nat} {q r i:Nat} (hr:r≤63) (hx:D l i<18446744073709551616) (ho:q+i+1<o.length)
 (hz:D o (q+i)<2 ^ r) (h:lo o (q+i+1)=lo l i*2 ^ (64*q+r)) :
 lo ((o.set (q+i) (D o (q+i)+D l i*2 ^ r % 18446744073709551616)).set (q+i+1) (D l i/2/2 ^ (63-r))) (q+i+1+1)=lo l (i+1)*2 ^ (64*q+r):=by
 have e1:2 ^ (64*q+r)=18446744073709551616 ^ q*2 ^ r:=by rw [Nat.pow_add,Nat.pow_mul]
 rw [lo_step,lo_set (nRf _),D_set_same (by simpa using ho),lo_step,lo_set (nRf _),D_set_same (by omega)];rw [lo_step] at h;rw [lo_step l,Nat.add_mul,← h,Nat.pow_succ,Nat.mul_assoc (18446744073709551616 ^ (q+i)),e1]
 have e2:18446744073709551616 ^ i*D l i*(18446744073709551616 ^ q*2 ^ r)=18446744073709551616 ^ (q+i)*(D l i*2 ^ r):=by
  rw [Nat.pow_add];ac_rfl
 have e4:18446744073709551616 ^ (q+i)*(D l i*2 ^ r)=18446744073709551616 ^ (q+i)*(D l i*2 ^ r % 18446744073709551616)+18446744073709551616 ^ (q+i)*(18446744073709551616*(D l i/2/2 ^ (63-r))):=by
  rw [← Nat.mul_add,shl_parts hx hr]
 rw [e2,e4,Nat.mul_add];omega
theorem up_end {l o:List Nat} {q r n:Nat} (hl:l.length≤n) (ho:o.length≤q+n+1) (h:lo o (q+n+1)=lo l n*2 ^ (64*q+r)):val o=val l*2 ^ (64*q+r):=by
 rwa [lo_all ho,lo_all hl] at h
def nbitsF:Nat→Nat→Nat
 | 0,_=>0
 | f+1,n=>if n=0 then 0 else nbitsF f (n/2)+1
def nbits (n:Nat):Nat:=nbitsF n n
theorem nbitsF_enough:∀ (f g n:Nat),n≤f→n≤g→nbitsF f n=nbitsF g n
 | 0, g, n, h, _ => by
   obtain rfl:n=0:=by omega
   cases g<;>simp [nbitsF]
 | f + 1, 0, n, _, h => by
   obtain rfl:n=0:=by omega
   simp [nbitsF]
 | f + 1, g + 1, n, h1, h2 => by
   unfold nbitsF
   by_cases hn:n=0
   · simp [hn]
   rw [if_neg hn,if_neg hn,nbitsF_enough f g _ (by omega) (by omega)]
theorem nbits_pos {n:Nat} (h:n≠0):nbits n=nbits (n/2)+1:=by
 unfold nbits;obtain ⟨m,rfl⟩:∃ m,n=m+1:=⟨n-1,by omega⟩;rw [nbitsF,if_neg h,nbitsF_enough m ((m+1)/2) _ (by omega) (by omega)]
theorem nbits_lt (n:Nat):n<2 ^ nbits n:=by
 induction n using Nat.strongRecOn with
 | _ n ih =>
   by_cases h:n=0
   · subst h;decide
   rw [nbits_pos h,Nat.pow_succ];have:=ih (n/2) (by omega);omega
theorem nbits_le {n k:Nat} (h:n<2 ^ k):nbits n≤k:=by
 induction k generalizing n with
 | zero =>
   obtain rfl:n=0:=by rw [Nat.pow_zero] at h;omega
   exact nRf _
 | succ k ih =>
   by_cases h0:n=0
   · subst h0;exact Nat.zero_le _
   rw [nbits_pos h0];rw [Nat.pow_succ] at h;have:=ih (n:=n/2) (by omega);omega
theorem nbits_gt {n k:Nat} (h:2 ^ k≤n):k<nbits n:=by
 rcases Nat.lt_or_ge k (nbits n) with h' | h'
 · exact h'
 have h1:=nbits_lt n;have h2:=Nat.pow_le_pow_right (n:=2) (by decide) h';omega
theorem nbits_low {n:Nat} (h:n≠0):2 ^ (nbits n-1)≤n:=by
 rcases Nat.lt_or_ge n (2 ^ (nbits n-1)) with h' | h'
 · have h1:=nbits_le h';have h2:=nbits_pos h;omega
 exact h'
theorem nbits_eq {n k:Nat} (h1:2 ^ k≤n) (h2:n<2 ^ (k+1)):nbits n=k+1:=by
 have:=nbits_gt h1;have:=nbits_le h2;omega
theorem nbits_top {l:List Nat} (hd:Dig l) {m:Nat} (hl:l.length=m+1) (ht:D l m≠0):nbits (val l)=64*m+nbits (D l m):=by
 have h1:=lo_hi l m;have h2:=lo_lt hd m;have h3:hi l m=D l m:=by rw [hi_step,hi_all (by omega)];rfl
 rw [h3] at h1;have e:18446744073709551616 ^ m=2 ^ (64*m):=by rw [Nat.pow_mul]
 rw [e] at h1 h2;have h4:=nbits_low ht;have h5:=nbits_lt (D l m);have h6:=nbits_pos ht
 have h7:=nbits_eq (n:=val l) (k:=64*m+(nbits (D l m)-1))
  (by rw [Nat.pow_add,h1];exact nTr (Nat.mul_le_mul_left _ h4) (Nat.le_add_left _ _))
  (by
    rw [show 64*m+(nbits (D l m)-1)+1=64*m+nbits (D l m) by omega,Nat.pow_add,h1];have h8:=Nat.mul_le_mul_left (2 ^ (64*m)) (show D l m+1≤2 ^ nbits (D l m) from h5);rw [Nat.mul_add,Nat.mul_one] at h8;omega)
 omega
theorem bitLenAux_nbits:∀ (f x:Nat),x<2 ^ f→Lib.bitLenAux f x=nbits x
 | 0, x, h => by
   obtain rfl:x=0:=by rw [Nat.pow_zero] at h;omega
   rfl
 | f + 1, x, h => by
   unfold Lib.bitLenAux
   by_cases h0:x=0
   · subst h0;rfl
   rw [if_neg h0,nbits_pos h0,bitLenAux_nbits f (x/2) (by rw [Nat.pow_succ] at h;omega)];omega
theorem bitLen_nbits {x:Nat} (h:x<18446744073709551616):Lib.bitLen x=nbits x:=bitLenAux_nbits 64 x h
theorem lo_replicate (n i:Nat):lo (List.replicate n 0) i=0:=by
 unfold lo;rw [List.take_replicate,val_replicate]
theorem D_replicate (n i:Nat):D (List.replicate n 0) i=0:=by
 unfold D;rw [List.getD_eq_getElem?_getD,List.getElem?_replicate];split<;>rfl
theorem B_pow (k:Nat):18446744073709551616 ^ k=2 ^ (64*k):=by
 rw [show (18446744073709551616:Nat)=2 ^ 64 from rfl,← Nat.pow_mul]
theorem pow_le_B {s k:Nat} (h:s≤64*k):2 ^ s≤18446744073709551616 ^ k:=by
 rw [B_pow];exact Nat.pow_le_pow_right (by decide) h
theorem digs_len_shift (a:Nat) {s k:Nat} (h:s≤64*k):(digs (a*2 ^ s)).length≤(digs a).length+k:=by
 rw [digs_length_le,Nat.pow_add];have h1:a<18446744073709551616 ^ (digs a).length:=digs_length_le.1 (nRf _);exact nLt ((Nat.mul_lt_mul_right (Nat.pow_pos (by decide))).2 h1) (Nat.mul_le_mul_left _ (pow_le_B h))
theorem D_of_hi {a b:List Nat} {i:Nat} (h:hi a i=hi b i) (ha:Dig a) (hb:Dig b):D a i=D b i:=by
 rw [hi_step a i,hi_step b i] at h;have:=ha.at_ i;have:=hb.at_ i;omega
theorem hi_of_hi {a b:List Nat} {i:Nat} (h:hi a i=hi b i) (ha:Dig a) (hb:Dig b):hi a (i+1)=hi b (i+1):=by
 rw [hi_step a i,hi_step b i] at h;have:=ha.at_ i;have:=hb.at_ i;omega
theorem digit_fits {x y c z s k:Nat} (hx:x<18446744073709551616) (hy:y<18446744073709551616) (hc:c<18446744073709551616) (hz:z<18446744073709551616) (h:s+18446744073709551616*k=x*y+z+c):k<18446744073709551616:=by
 have h1:x*y≤18446744073709551615*18446744073709551615:=Nat.mul_le_mul (by omega) (by omega);omega
theorem val_shift (n:Nat) (l:List Nat):val (List.replicate n 0 ++ l)=18446744073709551616 ^ n*val l:=by
 rw [val_append,val_replicate,List.length_replicate,Nat.zero_add]
theorem val_split (l:List Nat) (h:Nat):val l=val (l.take h)+18446744073709551616 ^ min h l.length*val (l.drop h):=by
 conv=>lhs;rw [← List.take_append_drop h l]
 rw [val_append,List.length_take]
theorem halves_eq (a0 a1 b0 b1 p:Nat):a0*b0+p*((a0+a1)*(b0+b1)-a0*b0-a1*b1)+p*p*(a1*b1)=(a0+p*a1)*(b0+p*b1):=by
 have e:(a0+a1)*(b0+b1)-a0*b0-a1*b1=a0*b1+a1*b0:=by
  simp only [Nat.add_mul,Nat.mul_add];omega
 rw [e];simp only [Nat.add_mul,Nat.mul_add];have e1:p*(a0*b1)=a0*(p*b1):=by ac_rfl
 have e2:p*(a1*b0)=p*a1*b0:=by ac_rfl
 have e3:p*p*(a1*b1)=p*a1*(p*b1):=by ac_rfl
 rw [e1,e2,e3];omega
theorem digs_len_prod (a b:Nat):(digs (a*b)).length≤(digs a).length+(digs b).length:=by
 rw [digs_length_le,Nat.pow_add];have h1:a<18446744073709551616 ^ (digs a).length:=digs_length_le.1 (nRf _);have h2:b<18446744073709551616 ^ (digs b).length:=digs_length_le.1 (nRf _);exact Nat.mul_lt_mul'' h1 h2
def digF (b:Nat):Nat→Nat→List Nat
 | 0,_=>[]
 | f+1,n=>if n=0 then [] else digF b f (n/b) ++ [n % b]
def digL (b n:Nat):List Nat:=digF b n n
theorem digF_enough {b:Nat} (hb:2≤b):∀ f g n,n≤f→n≤g→digF b f n=digF b g n
 | 0,0,_,_,_=>rfl
 | 0, g + 1, n, h, _ => by
   obtain rfl:n=0:=by omega
   rfl
 | f + 1, 0, n, _, h => by
   obtain rfl:n=0:=by omega
   rfl
 | f + 1, g + 1, n, h1, h2 => by
   unfold digF
   by_cases h:n=0
   · rw [if_pos h,if_pos h]
   have hd:n/b<n:=Nat.div_lt_self (by omega) (by omega);rw [if_neg h,if_neg h,digF_enough hb f g (n/b) (by omega) (by omega)]
theorem digL_step {b:Nat} (hb:2≤b) {n:Nat} (h:n≠0):digL b n=digL b (n/b) ++ [n % b]:=by
 obtain ⟨k,rfl⟩:∃ k,n=k+1:=⟨n-1,by omega⟩;have hd:(k+1)/b<k+1:=Nat.div_lt_self (by omega) (by omega);show (if k+1=0 then [] else digF b k ((k+1)/b) ++ [(k+1) % b])=_;rw [if_neg h,digF_enough hb k ((k+1)/b) ((k+1)/b) (by omega) (nRf _)];rfl
theorem digL_zero {b:Nat}:digL b 0=[]:=rfl
theorem digL_lt {b:Nat} (hb:2≤b):∀ n,∀ d ∈ digL b n,d<b:=by
 intro n
 induction n using Nat.strongRecOn with
 | _ n ih =>
   intro d hd
   by_cases h:n=0
   · subst h;simp [digL_zero] at hd
   rw [digL_step hb h] at hd;rcases List.mem_append.1 hd with h1 | h1
   · exact ih _ (Nat.div_lt_self (by omega) (by omega)) d h1
   obtain rfl:=List.mem_singleton.1 h1;exact Nat.mod_lt _ (by omega)
def valL (b:Nat):List Nat→Nat
 | []=>0
 | d::l=>d*b ^ l.length+valL b l
theorem valL_snoc {b:Nat} (l:List Nat) (d:Nat):valL b (l ++ [d])=valL b l*b+d:=by
 induction l with
 | nil=>simp [valL]
 | cons x l ih =>
   show x*b ^ (l ++ [d]).length+valL b (l ++ [d])=(x*b ^ l.length+valL b l)*b+d;rw [ih,List.length_append,List.length_singleton,Nat.pow_succ,Nat.add_mul,Nat.mul_assoc,Nat.add_assoc]
theorem valL_digL {b:Nat} (hb:2≤b):∀ n,valL b (digL b n)=n:=by
 intro n
 induction n using Nat.strongRecOn with
 | _ n ih =>
   by_cases h:n=0
   · subst h;rfl
   rw [digL_step hb h,valL_snoc,ih _ (Nat.div_lt_self (by omega) (by omega)),Nat.mul_comm];exact Nat.div_add_mod n b
theorem valL_lt {b:Nat} (l:List Nat) (h:∀ d ∈ l,d<b):valL b l<b ^ l.length:=by
 induction l with
 | nil=>simp [valL]
 | cons x l ih =>
   have h1:=ih fun d hd=>h d (List.mem_cons_of_mem _ hd)
   have h2:=h x (List.mem_cons_self ..);show x*b ^ l.length+valL b l<b ^ (l.length+1);rw [Nat.pow_succ,Nat.mul_comm (b ^ l.length)];have h3:(x+1)*b ^ l.length≤b*b ^ l.length:=Nat.mul_le_mul_right _ h2;rw [Nat.add_mul,Nat.one_mul] at h3;omega
theorem digL_head {b:Nat} (hb:2≤b) (n:Nat):(digL b n).head? ≠ some 0:=by
 induction n using Nat.strongRecOn with
 | _ n ih =>
   by_cases h:n=0
   · subst h;simp [digL_zero]
   rw [digL_step hb h]
   by_cases h1:n/b=0
   · rw [h1,digL_zero]
     have:n<b:=by
      rcases Nat.lt_or_ge n b with h2 | h2
      · exact h2
      have:=Nat.div_pos h2 (by omega);omega
     simp [Nat.mod_eq_of_lt this];exact h
   have h2:=ih _ (Nat.div_lt_self (by omega) (show 1<b by omega));have h3:digL b (n/b)≠[]:=by rw [digL_step hb h1];simp
   obtain ⟨x,l,hx⟩:∃ x l,digL b (n/b)=x::l:=by
    cases hd:digL b (n/b) with
    | nil=>exact absurd hd h3
    | cons x l=>exact ⟨x,l,rfl⟩
   rw [hx] at h2 ⊢
   simpa using h2
def padL (b:Nat):Nat→Nat→List Nat
 | 0,_=>[]
 | k+1,x=>padL b k (x/b) ++ [x % b]
theorem padL_len {b:Nat}:∀ k x,(padL b k x).length=k
 | 0,_=>rfl
 | k+1,x=>by show (padL b k (x/b) ++ [x % b]).length=k+1;rw [List.length_append,padL_len k];rfl
theorem digL_pad {b:Nat} (hb:2≤b) {q:Nat} (hq:0<q):∀ k r,r<b ^ k→digL b (q*b ^ k+r)=digL b q ++ padL b k r
 | 0, r, h => by
   obtain rfl:r=0:=by simpa using h
   simp [padL]
 | k + 1, r, h => by
   have hp:0<q*b ^ (k+1):=Nat.mul_pos hq (Nat.pow_pos (by omega));have e:q*b ^ (k+1)+r=b*(q*b ^ k)+r:=by rw [Nat.pow_succ];congr 1;rw [← Nat.mul_assoc,Nat.mul_comm]
   have e1:(q*b ^ (k+1)+r)/b=q*b ^ k+r/b:=by rw [e,Nat.mul_add_div (by omega)]
   have e2:(q*b ^ (k+1)+r) % b=r % b:=by rw [e,Nat.mul_add_mod]
   have h1:r/b<b ^ k:=by
    rw [Nat.div_lt_iff_lt_mul (by omega)]
    rwa [Nat.pow_succ] at h
   rw [digL_step hb (by omega),e1,e2,digL_pad hb hq k (r/b) h1,List.append_assoc];rfl
theorem val_ge {b:Nat}:∀ (l:List Nat),l≠[]→l.head? ≠ some 0→b ^ (l.length-1)≤valL b l
 | x :: l, _, h0 => by
   have hx:x≠0:=fun e=>h0 (by simp [e])
   show b ^ l.length≤x*b ^ l.length+valL b l;have:1*b ^ l.length≤x*b ^ l.length:=Nat.mul_le_mul_right _ (by omega);omega
theorem padL_front {b:Nat}:∀ k x,padL b (k+1) x=(x/b ^ k % b)::padL b k x
 | 0,x=>by simp [padL]
 | k + 1, x => by
   show padL b (k+1) (x/b) ++ [x % b]=_;rw [padL_front k (x/b),List.cons_append,Nat.div_div_eq_div_mul,← Nat.pow_succ'];rfl
theorem digL_short {b:Nat} (hb:2≤b):∀ k x,x<b ^ k→(k=0∨b ^ (k-1)≤x)→digL b x=padL b k x
 | 0, x, h, _ => by
   obtain rfl:x=0:=by simpa using h
   rfl
 | k + 1, x, h, h2 => by
   have h3:b ^ k≤x:=by rcases h2 with h2 | h2;omega;simpa using h2
   have hp:0<b ^ k:=Nat.pow_pos (by omega)
   have h1:x/b<b ^ k:=by
    rw [Nat.div_lt_iff_lt_mul (by omega)]
    rwa [Nat.pow_succ] at h
   rw [digL_step hb (by omega),digL_short hb k (x/b) h1 ?_]
   · rfl
   cases k with
   | zero=>exact .inl rfl
   | succ k =>
     refine .inr ?_;rw [Nat.le_div_iff_mul_le (by omega)]
     simpa [Nat.pow_succ] using h3
theorem digL_block {b:Nat} (hb:2≤b) (k n:Nat) (hn:n≠0) (hk:0<k):digL b n=digL b (n/b ^ k) ++ (if n/b ^ k=0 then digL b (n % b ^ k) else padL b k (n % b ^ k)):=by
 have hp:0<b ^ k:=Nat.pow_pos (by omega);have hm:=Nat.div_add_mod n (b ^ k)
 by_cases h:n/b ^ k=0
 · rw [if_pos h,h,digL_zero,List.nil_append]
   congr 1
   rw [h,Nat.mul_zero,Nat.zero_add] at hm;exact hm.symm
 rw [if_neg h,← digL_pad hb (Nat.pos_iff_ne_zero.2 h) k (n % b ^ k) (Nat.mod_lt _ hp)]
 congr 1
 rw [Nat.mul_comm];exact hm.symm
def dchr (d:Nat):UInt8:=UInt8.ofNat (48+d)
def strB (l:List Nat):ByteArray:=⟨(l.map dchr).toArray⟩
def bytB (l:List Nat):ByteArray:=⟨(l.map UInt8.ofNat).toArray⟩
def decL (n:Nat):List Nat:=if n=0 then [0] else digL 10 n
def decS (n:Nat):ByteArray:=strB (decL n)
theorem byte_inj {d e:Nat} (hd:d<256) (he:e<256) (h:UInt8.ofNat d=UInt8.ofNat e):d=e:=by
 have h1:=congrArg UInt8.toNat h;rw [UInt8.toNat_ofNat',UInt8.toNat_ofNat'] at h1;omega
theorem map_inj_on {f:Nat→UInt8} {b:Nat} (hinj:∀ d e,d<b→e<b→f d=f e→d=e):∀ (x y:List Nat),(∀ d ∈ x,d<b)→(∀ d ∈ y,d<b)→x.map f=y.map f→x=y
 | [],[],_,_,_=>rfl
 | [],_::_,_,_,h=>by simp at h
 | _::_,[],_,_,h=>by simp at h
 | a :: x, c :: y, hx, hy, h => by
   simp only [List.map_cons,List.cons.injEq] at h;rw [hinj a c (hx a (List.mem_cons_self ..)) (hy c (List.mem_cons_self ..)) h.1,map_inj_on hinj x y (fun d hd=>hx d (List.mem_cons_of_mem _ hd)) (fun d hd=>hy d (List.mem_cons_of_mem _ hd)) h.2]
theorem bytB_toList (l:List Nat):(bytB l).toList=l.map UInt8.ofNat:=ByteArray.toList_mk _
theorem strB_size (l:List Nat):(strB l).size=l.length:=by simp [strB,ByteArray.size]
theorem bytB_size (l:List Nat):(bytB l).size=l.length:=by simp [bytB,ByteArray.size]
theorem decL_lt (n:Nat):∀ d ∈ decL n,d<10:=by
 unfold decL
 split
 · intro d hd;simp at hd;omega
 exact digL_lt (by decide) n
theorem decL_val (n:Nat):valL 10 (decL n)=n:=by
 unfold decL
 split
 · rename_i h;subst h;rfl
 exact valL_digL (by decide) n
theorem decL_pos (n:Nat):1≤(decL n).length:=by
 unfold decL
 split
 · exact nRf _
 rename_i h;rw [digL_step (by decide) h,List.length_append];simp
def L8 (l:List UInt8) (i:Nat):Nat:=(l.getD i 0).toNat
theorem L8_lt (l:List UInt8) (i:Nat):L8 l i<256:=UInt8.toNat_lt _
def badAt (l:List UInt8) (i:Nat):Bool:=decide (L8 l i<48) || decide (57<L8 l i) || (decide (i=1) && decide (L8 l 0=48))
def formF (l:List UInt8):Nat→Nat→Nat
 | 0,i=>i
 | f+1,i=>if badAt l i then i else formF l f (i+1)
def formL (l:List UInt8):Nat:=formF l l.length 0
theorem formF_stop (l:List UInt8):∀ f i k,(∀ j,i≤j→j<k→badAt l j=false)→i≤k→k<i+f→badAt l k=true→formF l f i=k
 | 0,i,k,_,h1,h2,_=>by omega
 | f + 1, i, k, h, h1, h2, hb => by
   unfold formF
   by_cases e:i=k
   · subst e;rw [if_pos hb]
   rw [if_neg (by rw [h i (nRf _) (by omega)];decide)];exact formF_stop l f (i+1) k (fun j h3 h4=>h j (by omega) h4) (by omega) (by omega) hb
theorem formF_all (l:List UInt8):∀ f i,(∀ j,i≤j→j<i+f→badAt l j=false)→formF l f i=i+f
 | 0,i,_=>rfl
 | f + 1, i, h => by
   unfold formF;rw [if_neg (by rw [h i (nRf _) (by omega)];decide),formF_all l f (i+1) (fun j h3 h4=>h j (by omega) (by omega))];omega
theorem formF_le (l:List UInt8):∀ f i,formF l f i≤i+f
 | 0,i=>nRf _
 | f + 1, i => by
   unfold formF
   split
   · omega
   have:=formF_le l f (i+1);omega
theorem formF_fine (l:List UInt8):∀ f i j,i≤j→j<formF l f i→badAt l j=false
 | 0,i,j,h1,h2=>by have:j<i:=h2;omega
 | f + 1, i, j, h1, h2 => by
   unfold formF at h2
   split at h2
   · omega
   rename_i hb
   by_cases e:i=j
   · subst e;simpa using hb
   exact formF_fine l f (i+1) j (by omega) h2
theorem formL_stop {l:List UInt8} {k:Nat} (h:∀ j,j<k→badAt l j=false) (hk:k<l.length) (hb:badAt l k=true):formL l=k:=formF_stop l _ 0 k (fun j _=>h j) (Nat.zero_le _) (by omega) hb
theorem formL_all {l:List UInt8} (h:∀ j,j<l.length→badAt l j=false):formL l=l.length:=by
 have:=formF_all l l.length 0 (fun j _ h2=>h j (by omega));unfold formL;omega
theorem formL_le (l:List UInt8):formL l≤l.length:=by have:=formF_le l l.length 0;unfold formL;omega
theorem formL_fine {l:List UInt8} {j:Nat} (h:j<formL l):badAt l j=false:=formF_fine l _ 0 j (Nat.zero_le _) h
def dvals (l:List UInt8):List Nat:=l.map fun c=>c.toNat-48
def fineL (l:List UInt8):Bool:=decide (formL l=l.length) && !l.isEmpty
def okL (l:List UInt8):Bool:=decide (l.length≤10000) && fineL l
def getN (l:List UInt8):Nat:=if okL l then valL 10 (dvals l) else 0
def getE (l:List UInt8):Nat:=if 10000<l.length then 4 else if fineL l then 0 else 6
def getA (l:List UInt8):Nat:=if 10000<l.length then 10000 else if fineL l then 0 else formL l
theorem getE_ok (l:List UInt8):getE l=0 ↔ okL l=true:=by
 unfold getE okL
 by_cases h:10000<l.length
 · rw [if_pos h];have:¬ l.length≤10000:=by omega
   simp [this]
 rw [if_neg h];have:l.length≤10000:=by omega
 cases fineL l<;>simp [this]
theorem fineL_bytes {l:List UInt8} (h:fineL l=true):∀ j,j<l.length→48≤L8 l j∧L8 l j≤57∧¬ (j=1∧L8 l 0=48):=by
 intro j hj;unfold fineL at h;simp only [Bool.and_eq_true,decide_eq_true_eq] at h;have hb:=formL_fine (l:=l) (j:=j) (by omega);unfold badAt at hb;simp only [Bool.or_eq_false_iff,Bool.and_eq_false_iff,decide_eq_false_iff_not] at hb;obtain ⟨⟨h1,h2⟩,h3⟩:=hb;refine ⟨by omega,by omega,fun ⟨e1,e2⟩ => ?_⟩;rcases h3 with h3 | h3
 · exact h3 e1
 exact h3 e2
theorem fineL_ne {l:List UInt8} (h:fineL l=true):l≠[]:=by
 unfold fineL at h;simp only [Bool.and_eq_true,Bool.not_eq_true',List.isEmpty_eq_false_iff] at h;exact h.2
theorem fineL_of {l:List UInt8} (hne:l≠[]) (h:∀ j,j<l.length→48≤L8 l j∧L8 l j≤57∧¬ (j=1∧L8 l 0=48)):fineL l=true:=by
 unfold fineL
 have e:formL l=l.length:=by
  refine formL_all fun j hj => ?_
  obtain ⟨h1,h2,h3⟩:=h j hj;unfold badAt;simp only [Bool.or_eq_false_iff,Bool.and_eq_false_iff,decide_eq_false_iff_not];refine ⟨⟨by omega,by omega⟩,?_⟩
  by_cases e:j=1
  · exact .inr fun e2=>h3 ⟨e,e2⟩
  exact .inl e
 simp only [Bool.and_eq_true,decide_eq_true_eq,Bool.not_eq_true',List.isEmpty_eq_false_iff];exact ⟨e,hne⟩
def decB (n:Nat):List UInt8:=(decL n).map dchr
theorem decB_len (n:Nat):(decB n).length=(decL n).length:=by simp [decB]
theorem L8_decB {n j:Nat} (h:j<(decL n).length):L8 (decB n) j=48+(decL n)[j]:=by
 have h1:=decL_lt n _ (List.getElem_mem h);unfold L8 decB;rw [List.getD_eq_getElem?_getD,List.getElem?_map,List.getElem?_eq_getElem h];show (dchr (decL n)[j]).toNat=_;unfold dchr;rw [UInt8.toNat_ofNat'];omega
theorem decL_head {n:Nat} (h:1<(decL n).length):(decL n)[0]'(by omega)≠0:=by
 have hn:n≠0:=by
  intro e;subst e;exact absurd h (by decide)
 intro e;have hd:decL n=digL 10 n:=by unfold decL;rw [if_neg hn]
 have h2:=digL_head (b:=10) (by decide) n;rw [← hd,List.head?_eq_getElem?,List.getElem?_eq_getElem (by omega),e] at h2;exact h2 rfl
theorem fine_dec (n:Nat):fineL (decB n)=true:=by
 have hp:=decL_pos n;refine fineL_of (fun e => ?_) fun j hj => ?_
 · have:=decB_len n;rw [e] at this;simp at this;omega
 rw [decB_len] at hj;have h1:=decL_lt n _ (List.getElem_mem hj);rw [L8_decB hj];refine ⟨by omega,by omega,fun ⟨e1,e2⟩ => ?_⟩;subst e1;rw [L8_decB (by omega)] at e2;exact decL_head hj (by omega)
theorem dvals_decB (n:Nat):dvals (decB n)=decL n:=by
 unfold dvals decB;rw [List.map_map]
 conv=>rhs;rw [← List.map_id (decL n)]
 refine List.map_congr_left fun d hd => ?_
 have:=decL_lt n d hd;show (dchr d).toNat-48=d;unfold dchr;rw [UInt8.toNat_ofNat'];omega
theorem val_decB (n:Nat):valL 10 (dvals (decB n))=n:=by rw [dvals_decB,decL_val]
theorem okL_dec {n:Nat} (h:(decL n).length≤10000):okL (decB n)=true∧getN (decB n)=n:=by
 have h1:okL (decB n)=true:=by
  unfold okL;rw [fine_dec,decB_len];simp [h]
 exact ⟨h1,by unfold getN;rw [if_pos h1,val_decB]⟩
theorem dvals_take (l:List UInt8) (k:Nat) (h:k<l.length):valL 10 (dvals (l.take (k+1)))=valL 10 (dvals (l.take k))*10+(L8 l k-48):=by
 rw [List.take_succ_eq_append_getElem h];unfold dvals;rw [List.map_append,List.map_singleton,valL_snoc];unfold L8;rw [List.getD_eq_getElem?_getD,List.getElem?_eq_getElem h];rfl
section
open Go.RowKit
structure BytesAt (w:World) (a:Option Addr) (n c:Nat) (l:List Nat):Prop where
 len:l.length=n
 le:n≤c
 cle:c≤9223372036854775807
 dig:∀ d ∈ l,d<256
 cell:n=0∨∃ b o,a=some ⟨b,o,none⟩∧∀ i,i<n→w.cell? ⟨b,o+i,none⟩=some (.int .u8 ((D l i:Nat):Int))
 nilc:a=none→c=0
structure OwnBytes (w:World) (B:Nat) (a:Option Addr) (n c:Nat) (l:List Nat):Prop extends BytesAt w a n c l where
 own:n=0∨∃ b o,a=some ⟨b,o,none⟩∧B≤b∧∀ i,i<n→w.frozen? ⟨b,o+i,none⟩=false
theorem BytesAt.nil (w:World):BytesAt w none 0 0 []:=⟨rfl,nRf _,by decide,by simp,.inl rfl,fun _=>rfl⟩
theorem OwnBytes.nil (w:World) (B:Nat):OwnBytes w B none 0 0 []:=⟨BytesAt.nil w,.inl rfl⟩
theorem BytesAt.below {w w':World} {B:Nat} {a:Option Addr} {n c:Nat} {l:List Nat} (h:BytesAt w a n c l) (hb:Below B w w') (ha:n=0∨∀ x,a=some x→x.block<B):BytesAt w' a n c l:=by
 refine ⟨h.len,h.le,h.cle,h.dig,?_,h.nilc⟩;rcases h.cell with h0 | ⟨b,o,he,hc⟩
 · exact .inl h0
 rcases ha with ha | ha
 · exact .inl ha
 refine .inr ⟨b,o,he,fun i hi => ?_⟩;rw [hb.cell (p:=⟨b,o+i,none⟩) (show b<B from ha _ he)];exact hc i hi
theorem BytesAt.parts {w:World} {a:Option Addr} {n c:Nat} {l:List Nat} (h:BytesAt w a n c l) :
 n=0∨∃ b o,a=some ⟨b,o,none⟩∧b<w.heap.size∧∀ i,i<n→w.cell? ⟨b,o+i,none⟩=some (.int .u8 ((D l i:Nat):Int)):=by
 rcases h.cell with h0 | ⟨b,o,ha,hc⟩
 · exact .inl h0
 by_cases hn:n=0
 · exact .inl hn
 exact .inr ⟨b,o,ha,World.block_lt_of_cell? w ⟨b,o+0,none⟩ (hc 0 (by omega)),hc⟩
theorem BytesAt.past {w w':World} {a:Option Addr} {n c:Nat} {l:List Nat} (h:BytesAt w a n c l) (hb:Below w.heap.size w w'):BytesAt w' a n c l:=by
 rcases h.parts with h0 | ⟨b,o,he,hlt,_⟩
 · exact h.below hb (.inl h0)
 exact h.below hb (.inr fun x hx=>by rw [he] at hx;cases hx;exact hlt)
def bv (l:List Nat):List Value:=l.map fun d=>Value.int .u8 ((d:Nat):Int)
theorem bv_length (l:List Nat):(bv l).length=l.length:=by simp [bv]
theorem bv_append (l m:List Nat):bv (l ++ m)=bv l ++ bv m:=by simp [bv]
theorem bv_at {l:List Nat} {i:Nat} (h:i<l.length):(bv l)[i]? = some (.int .u8 ((D l i:Nat):Int)):=by
 simp [bv,D,List.getD_eq_getElem?_getD,h]
theorem bv_one (l:List Nat):∀ u ∈ bv l,u.oneCell'=true:=by
 intro u hu;obtain ⟨d,_,rfl⟩:=List.mem_map.1 hu;rfl
theorem OwnBytes.ofRow {w:World} {B E:Nat} {v:Value} {n:Nat} {l:List Nat} (h:w.ownsRow B E 1 v n (bv l)) (hd:∀ d ∈ l,d<256):∃ a c,v = .slice a n c∧OwnBytes w B a n c l:=by
 have hlen:l.length=n:=by have:=h.1;rw [bv_length] at this;omega
 rcases h.2 with ⟨rfl,hn⟩ | ⟨g,cap,cur,rfl,hb,hg,hnc,hcm,hcs,htake⟩
 · subst hn;have:l=[]:=List.eq_nil_of_length_eq_zero hlen;subst this;exact ⟨none,0,rfl,OwnBytes.nil w B⟩
 have hm:cap≤9223372036854775807:=hcm;refine ⟨_,_,rfl,⟨hlen,hnc,hm,hd,.inr ⟨g,0,rfl,fun i hi => ?_⟩,fun e=>by cases e⟩,.inr ⟨g,0,rfl,hb,fun i hi => ?_⟩⟩
 · have:=World.ownsRow.cellAt h i (by omega);rw [Nat.zero_add,this];exact bv_at (by omega)
 rw [Nat.zero_add];exact World.ownsRow.frozenAt h i
theorem strOfNums_bytB (l:List Nat):strOfNums (l.map fun d=>((d:Nat):Int))=bytB l:=by
 unfold strOfNums bytB;rw [List.map_map];rfl
theorem BytesAt.text {P:Program} {w:World} {a:Option Addr} {n c:Nat} {l:List Nat} (h:BytesAt w a n c l) (src e dst:TypeId) (hs:P.underlying src=some (.slice e)) (he:P.underlying e=some (.int .u8)) (hd:P.underlying dst=some .string) :
 (convert src dst (.slice a n c)).run P w = .ok (.string (bytB l)) w:=by
 rcases h.cell with h0 | ⟨b,o,rfl,hc⟩
 · subst h0;have hl:l=[]:=List.eq_nil_of_length_eq_zero h.len;subst hl;rw [run_convert_bytes_string w src dst e _ 0 c hs he hd];cases a<;>simp [Conv.bytesToString,loadCells]
   all_goals rfl
 rw [run_convert_bytes_arg w src e hs he b o n c (l.map fun d=>((d:Nat):Int)) (by rw [List.length_map];exact h.len) ?_ dst hd,strOfNums_bytB];intro i hi;rw [hc i hi];have hi':i<l.length:=by have:=h.len;omega
 rw [List.getD_eq_getElem?_getD,List.getElem?_map,List.getElem?_eq_getElem hi'];unfold D;rw [List.getD_eq_getElem?_getD,List.getElem?_eq_getElem hi'];rfl
def nums (l:List UInt8):List Nat:=l.map UInt8.toNat
theorem nums_len (l:List UInt8):(nums l).length=l.length:=by simp [nums]
theorem nums_lt (l:List UInt8):∀ d ∈ nums l,d<256:=by
 intro d hd;obtain ⟨c,_,rfl⟩:=List.mem_map.1 hd;exact UInt8.toNat_lt c
theorem D_nums (l:List UInt8) (i:Nat):D (nums l) i=L8 l i:=by
 unfold D nums L8;rw [List.getD_eq_getElem?_getD,List.getD_eq_getElem?_getD,List.getElem?_map];cases l[i]? <;> rfl
theorem bytB_nums (l:List UInt8):bytB (nums l)=⟨l.toArray⟩:=by
 unfold bytB nums;rw [List.map_map]
 congr 2
 conv=>rhs;rw [← List.map_id l]
 exact List.map_congr_left fun c _=>UInt8.ofNat_toNat
theorem size_list (s:ByteArray):s.data.toList.length=s.size:=Array.length_toList
theorem get_L8 (s:ByteArray) (i:Nat) (h:i<s.size):(s[i].toNat:Nat)=L8 s.data.toList i:=by
 unfold L8;rw [List.getD_eq_getElem?_getD,List.getElem?_eq_getElem (by rw [size_list];exact h)];rfl
theorem bytes_made (w:World) (s:ByteArray) (cap:Nat) (E:TypeId) (k:Nat×Nat) (h1:s.size≤cap) (h2:cap≤9223372036854775807):BytesAt (w.alloc (.cells (bytesRow s cap) E k)) (some ⟨w.heap.size,0,none⟩) s.size cap (nums s.data.toList):=by
 refine ⟨by rw [nums_len,size_list],h1,h2,nums_lt _,.inr ⟨_,_,rfl,fun i hi => ?_⟩,fun e=>by cases e⟩;rw [Nat.zero_add,World.cell?_alloc_mark,bytesRow_at s cap i hi,D_nums,← get_L8 s i hi];rfl
theorem bytB_inj {l m:List Nat} (hl:∀ d ∈ l,d<256) (hm:∀ d ∈ m,d<256) (h:bytB l=bytB m):l=m:=by
 have h1:l.map UInt8.ofNat=m.map UInt8.ofNat:=by
  have:=congrArg (fun s:ByteArray=>s.data.toList) h
  simpa [bytB] using this
 exact map_inj_on (fun _ _=>byte_inj) l m hl hm h1
end
section
open Go.RowKit
theorem OwnBytes.set {w:World} {B:Nat} {b o n c:Nat} {l:List Nat} (h:OwnBytes w B (some ⟨b,o,none⟩) n c l) {k d:Nat} (hk:k<n) (hd:d<256) :
 OwnBytes (w.setCell ⟨b,o+k,none⟩ (.int .u8 ((d:Nat):Int))) B (some ⟨b,o,none⟩) n c (l.set k d):=by
 rcases h.cell with h0 | ⟨b',o',he,hc⟩
 · omega
 cases he;rcases h.own with h0 | ⟨b',o',he,hle,hf⟩
 · omega
 cases he;refine ⟨⟨by simpa using h.len,h.le,h.cle,?_,.inr ⟨b,o,rfl,fun i hi => ?_⟩,h.nilc⟩,.inr ⟨b,o,rfl,hle,fun i hi=>by rw [World.frozen?_setCell];exact hf i hi⟩⟩
 · intro x hx;rcases List.mem_or_eq_of_mem_set hx with h1 | h1
   · exact h.dig x h1
   rw [h1];exact hd
 by_cases hik:i=k
 · subst hik;rw [D_set_same (by rw [h.len];exact hk)];exact World.cell?_setCell_same _ _ _ (hc i hi)
 rw [D_set_other (fun e=>hik e.symm),World.cell?_setCell_other _ (a:=⟨b,o+k,none⟩) (b:=⟨b,o+i,none⟩) _ (fun e=>hik (by have:=congrArg Addr.off e;simp at this;omega))];exact hc i hi
theorem litB {E:Nat} (w:World) (g:Nat) (vs:Array Value) (l:List Nat) (n:Nat) (hg:g=w.heap.size) (hv:vs.toList=bv l) (hn:l.length=n) (hm:n≤1000) (hd:∀ d ∈ l,d<256) :
 OwnBytes (w.alloc (.cells vs E)) w.heap.size (some ⟨g,0,none⟩) n n l:=by
 subst hg;refine ⟨⟨hn,nRf _,by omega,hd,.inr ⟨_,0,rfl,fun i hi => ?_⟩,(fun e=>by cases e)⟩,.inr ⟨_,0,rfl,nRf _,fun i hi => ?_⟩⟩
 · rw [Nat.zero_add,World.cell?_alloc_at _ _ _ _ rfl,← Array.getElem?_toList,hv];exact bv_at (by omega)
 exact World.frozen?_alloc_at _ _ _ _ rfl
theorem D_drop_Byt2 (l:List Nat) (k i:Nat):D (l.drop k) i=D l (k+i):=by
 simp [D,List.getD_eq_getElem?_getD,List.getElem?_drop]
theorem BytesAt.drop {w:World} {b o n c:Nat} {l:List Nat} (h:BytesAt w (some ⟨b,o,none⟩) n c l) {k:Nat} (hk:k≤n):BytesAt w (some ⟨b,o+k,none⟩) (n-k) (c-k) (l.drop k):=by
 have h1:=h.len;have h2:=h.le;have h3:=h.cle;refine ⟨by rw [List.length_drop,h1],by omega,by omega,fun x hx=>h.dig x (List.mem_of_mem_drop hx),?_,fun e=>by cases e⟩;rcases h.cell with h' | ⟨b',o',e,hc⟩
 · exact .inl (by omega)
 cases e;refine .inr ⟨b,o+k,rfl,fun i hi => ?_⟩;rw [Nat.add_assoc,D_drop_Byt2];exact hc (k+i) (by omega)
theorem BytesAt.none_ (w:World) (a:Option Addr) (c:Nat) (h:c≤9223372036854775807) (hn:a=none→c=0):BytesAt w a 0 c []:=⟨rfl,Nat.zero_le _,h,by simp,.inl rfl,hn⟩
theorem BytesAt.take {w:World} {a:Option Addr} {n c m:Nat} {l:List Nat} (h:BytesAt w a n c l) (hm:m≤n) (c':Nat) (h1:m≤c') (h2:c'≤c):BytesAt w a m c' (l.take m):=by
 refine ⟨by have:=h.len;rw [List.length_take];omega,h1,by have:=h.cle;omega,fun x hx=>h.dig x (List.mem_of_mem_take hx),?_,fun e=>by have:=h.nilc e;omega⟩;rcases h.cell with h0 | ⟨b,o,he,hc⟩
 · exact .inl (by omega)
 exact .inr ⟨b,o,he,fun i hi=>by rw [D_take hi];exact hc i (by omega)⟩
def chrs (l:List Nat):List Nat:=l.map (48 + ·)
theorem bytB_chrs (l:List Nat):bytB (chrs l)=strB l:=by
 unfold bytB chrs strB;rw [List.map_map];rfl
theorem part_set (k d:Nat) (l:List Nat) (h:k<19):(List.replicate (19-k) 0 ++ l).set (18-k) d=List.replicate (18-k) 0 ++ d::l:=by
 rw [show 19-k=(18-k)+1 by omega,List.replicate_succ',List.append_assoc,List.set_append_right _ _ (by simp)];simp
theorem part_drop (k:Nat) (l:List Nat):(List.replicate (19-k) 0 ++ l).drop (19-k)=l:=by
 rw [List.drop_append];simp
theorem put_step {M:Nat} (hM:M≠0):digL 10 M=digL 10 (M/10000000000000000000) ++ (if M/10000000000000000000=0 then digL 10 (M % 10000000000000000000) else padL 10 19 (M % 10000000000000000000)):=by
 have:=digL_block (b:=10) (by decide) 19 M hM (by decide)
 rwa [show (10:Nat) ^ 19=10000000000000000000 by decide] at this
theorem join_empty (xs:List (List UInt8)):Lib.join xs []=xs.flatten:=by
 cases xs with
 | nil=>rfl
 | cons x r =>
   rw [Lib.join_cons];unfold Lib.joinTail;simp
theorem digL_pow {x k:Nat} (h:x<10 ^ k):(digL 10 x).length≤k:=by
 rcases Nat.lt_or_ge k (digL 10 x).length with h1 | h1
 · exfalso
   have hne:digL 10 x≠[]:=fun e=>by rw [e] at h1;simp at h1
   have h2:=val_ge (b:=10) (digL 10 x) hne (digL_head (by decide) x);rw [valL_digL (by decide)] at h2;have h3:(10:Nat) ^ k≤10 ^ ((digL 10 x).length-1):=Nat.pow_le_pow_right (by decide) (by omega);omega
 exact h1
theorem digL_limbs {l:List Nat} (hl:Dig l):(digL 10 (val l)).length≤20*l.length:=by
 refine digL_pow (nLt (val_lt hl) ?_);rw [Nat.pow_mul];exact Nat.pow_le_pow_left (by decide) _
theorem padL_stop {x k:Nat} (h:x/10 ^ k=0) (h2:k=0∨x/10 ^ (k-1)≠0):digL 10 x=padL 10 k x:=by
 have hp:0<10 ^ k:=Nat.pow_pos (by decide);refine digL_short (b:=10) (by decide) k x ?_ ?_
 · rcases Nat.lt_or_ge x (10 ^ k) with h3 | h3
   · exact h3
   have:=Nat.div_pos h3 hp;omega
 rcases h2 with h2 | h2
 · exact .inl h2
 refine .inr ?_;rcases Nat.lt_or_ge x (10 ^ (k-1)) with h3 | h3
 · exact absurd (Nat.div_eq_of_lt h3) h2
 exact h3
end
structure Guess (h l u d0 d1 q r:Nat):Prop where
 eq:q*d1+r=h
 le:q≤4294967297
 ge:(h*4294967296+u)/(d1*4294967296+d0)≤q
 lt:r<4294967296
theorem guess_pre {h u d0 d1:Nat} (hd1:2147483648≤d1) (hd1':d1<4294967296) (hd0:d0<4294967296) (hu:u<4294967296) (hh:h<d1*4294967296+d0) :
 (h*4294967296+u)/(d1*4294967296+d0)<4294967296:=by
 rw [Nat.div_lt_iff_lt_mul (by omega)];rw [Nat.mul_comm 4294967296];have:(h+1)*4294967296≤(d1*4294967296+d0)*4294967296:=Nat.mul_le_mul_right _ hh;omega
theorem guess_start {h u d0 d1:Nat} (hd1:2147483648≤d1) (hd1':d1<4294967296) (hd0:d0<4294967296) (hu:u<4294967296) (hh:h<d1*4294967296+d0):Guess h 0 u d0 d1 (h/d1) (h % d1):=by
 refine ⟨Nat.div_add_mod' h d1,?_,?_,by have:=Nat.mod_lt h (show 0<d1 by omega);omega⟩
 · have:h/d1<4294967298:=by
    rw [Nat.div_lt_iff_lt_mul (by omega)];omega
   omega
 rw [Nat.le_div_iff_mul_le (by omega)];have h1:=Nat.div_mul_le_self (h*4294967296+u) (d1*4294967296+d0);generalize (h*4294967296+u)/(d1*4294967296+d0)=q at *;rw [Nat.mul_add,← Nat.mul_assoc] at h1;omega
theorem guess_down {h u d0 d1 q r:Nat} (g:Guess h 0 u d0 d1 q r) (hd1:2147483648≤d1) (hd1':d1<4294967296) (hd0:d0<4294967296) (hu:u<4294967296) (hh:h<d1*4294967296+d0)
 (hc:4294967296≤q∨4294967296*r+u<q*d0):0<q∧(q-1)*d1+(r+d1)=h∧q-1≤4294967296∧(h*4294967296+u)/(d1*4294967296+d0)≤q-1:=by
 have hlt:=guess_pre hd1 hd1' hd0 hu hh
 have hq:(h*4294967296+u)/(d1*4294967296+d0)<q:=by
  rcases hc with hc | hc
  · omega
  rw [Nat.div_lt_iff_lt_mul (by omega),Nat.mul_add,← Nat.mul_assoc,← g.eq];omega
 have hp:0<q:=Nat.lt_of_le_of_lt (Nat.zero_le _) hq;refine ⟨hp,?_,by have:=g.le;omega,Nat.le_sub_one_of_lt hq⟩;obtain ⟨k,rfl⟩:∃ k,q=k+1:=⟨q-1,by omega⟩;have:=g.eq;rw [Nat.add_mul,Nat.one_mul] at this;rw [Nat.add_sub_cancel];omega
theorem guess_next {h u d0 d1 q r:Nat} (g:Guess h 0 u d0 d1 q r) (hd1:2147483648≤d1) (hd1':d1<4294967296) (hd0:d0<4294967296) (hu:u<4294967296) (hh:h<d1*4294967296+d0)
 (hc:4294967296≤q∨4294967296*r+u<q*d0) (hr:r+d1<4294967296):Guess h 0 u d0 d1 (q-1) (r+d1):=by
 obtain ⟨h1,h2,h3,h4⟩:=guess_down g hd1 hd1' hd0 hu hh hc;exact ⟨h2,by omega,h4,hr⟩
theorem guess_end {h u d0 d1 q r:Nat} (g:Guess h 0 u d0 d1 q r) (hd1:2147483648≤d1) (hc:q*d0≤4294967296*r+u):q=(h*4294967296+u)/(d1*4294967296+d0):=by
 refine Nat.le_antisymm ?_ g.ge;rw [Nat.le_div_iff_mul_le (by omega),Nat.mul_add,← Nat.mul_assoc,← g.eq];omega
theorem guess_stop {h u d0 d1 q r:Nat} (g:Guess h 0 u d0 d1 q r) (hd1:2147483648≤d1) (hd1':d1<4294967296) (hd0:d0<4294967296) (hu:u<4294967296) (hh:h<d1*4294967296+d0)
 (hc:4294967296≤q∨4294967296*r+u<q*d0) (hr:4294967296≤r+d1):q-1=(h*4294967296+u)/(d1*4294967296+d0):=by
 obtain ⟨h1,h2,h3,h4⟩:=guess_down g hd1 hd1' hd0 hu hh hc;refine Nat.le_antisymm ?_ h4;rw [Nat.le_div_iff_mul_le (by omega),Nat.mul_add,← Nat.mul_assoc,← h2];have:(q-1)*d0≤4294967296*4294967296:=Nat.mul_le_mul h3 (by omega);omega
theorem div_part {v B u0 y:Nat} (hy:0<y):(v*B+u0)/y=v/y*B+(v % y*B+u0)/y∧(v*B+u0) % y=(v % y*B+u0) % y:=by
 have e:v*B+u0=(v % y*B+u0)+y*(v/y*B):=by
  have:=Nat.div_add_mod v y;have e2:v*B=(y*(v/y)+v % y)*B:=by rw [this]
  rw [e2,Nat.add_mul,Nat.mul_assoc];omega
 refine ⟨?_,?_⟩
 · rw [e,Nat.add_mul_div_left _ _ hy];omega
 rw [e];exact Nat.add_mul_mod_self_left _ _ _
theorem div_halves {h u1 u0 y:Nat} (hy:0<y) :
 ((h*4294967296+u1)*4294967296+u0)/y=(h*4294967296+u1)/y*4294967296+((h*4294967296+u1) % y*4294967296+u0)/y ∧
 ((h*4294967296+u1)*4294967296+u0) % y=((h*4294967296+u1) % y*4294967296+u0) % y:=div_part hy
theorem div_moved {n y s:Nat} (hy:0<y):n*2 ^ s/(y*2 ^ s)=n/y∧n*2 ^ s % (y*2 ^ s)/2 ^ s=n % y:=by
 have hs:0<2 ^ s:=Nat.pow_pos (by decide);exact ⟨Nat.mul_div_mul_right _ _ hs,by rw [Nat.mul_mod_mul_right,Nat.mul_div_cancel _ hs]⟩
theorem lead_ge {u v uh vh p:Nat} (hv:vh*p≤v) (hvh:0<vh) (hu:u<(uh+1)*p):u/v≤uh/vh:=by
 rcases Nat.eq_zero_or_pos v with h0 | h0
 · subst h0;simp
 rw [Nat.le_div_iff_mul_le hvh];have h1:=Nat.div_mul_le_self u v;have h2:u/v*(vh*p)≤u/v*v:=Nat.mul_le_mul_left _ hv;have h3:u/v*vh*p<(uh+1)*p:=by rw [Nat.mul_assoc];omega
 exact Nat.le_of_lt_succ (Nat.lt_of_mul_lt_mul_right h3)
def guessN (us vs:List Nat) (n:Nat):Nat:=if D us n<D vs (n-1) then (D us n*18446744073709551616+D us (n-1))/D vs (n-1) else 18446744073709551615
theorem lo_lt_succ {l:List Nat} (h:Dig l) (m:Nat) (hl:l.length=m+2):val l<(D l (m+1)*18446744073709551616+D l m+1)*18446744073709551616 ^ m:=by
 have h1:=lo_hi l m;have h2:=lo_lt h m
 have h3:hi l m=D l (m+1)*18446744073709551616+D l m:=by
  rw [hi_step l m,hi_step l (m+1),hi_all (by omega)];omega
 rw [h3] at h1;rw [Nat.add_mul _ 1,Nat.one_mul,Nat.mul_comm _ (18446744073709551616 ^ m)];omega
theorem top_le {l:List Nat} (m:Nat) (hl:l.length=m+1):D l m*18446744073709551616 ^ m≤val l:=by
 have h1:=lo_hi l m;rw [hi_step l m,hi_all (by omega),Nat.mul_zero,Nat.add_zero] at h1;rw [Nat.mul_comm];omega
theorem guess_ok {us vs:List Nat} {n:Nat} (hu:Dig us) (hv:Dig vs) (hlu:us.length=n+1) (hlv:vs.length=n) (hn:0<n) (ht:0<D vs (n-1)) (h:val us<val vs*18446744073709551616) :
 val us/val vs≤guessN us vs n∧guessN us vs n<18446744073709551616:=by
 obtain ⟨m,rfl⟩:∃ m,n=m+1:=⟨n-1,by omega⟩
 have hpos:0<val vs:=by
  rcases Nat.eq_zero_or_pos (val vs) with h0 | h0
  · rw [h0] at h;omega
  exact h0
 have hq:val us/val vs<18446744073709551616:=by
  rw [Nat.div_lt_iff_lt_mul hpos,Nat.mul_comm];exact h
 unfold guessN;rw [Nat.add_sub_cancel] at ht ⊢
 by_cases hc:D us (m+1)<D vs m
 · rw [if_pos hc];refine ⟨lead_ge (top_le m hlv) ht (lo_lt_succ hu m (by omega)),?_⟩;have hd:=hu.at_ m;rw [Nat.div_lt_iff_lt_mul ht];have:(D us (m+1)+1)*18446744073709551616≤D vs m*18446744073709551616:=Nat.mul_le_mul_right _ hc;rw [Nat.mul_comm 18446744073709551616];omega
 rw [if_neg hc];omega
theorem guess_less {u v g:Nat} (h:u/v≤g) (hlt:u<v*g):0<g∧u/v≤g-1∧v*g-v=v*(g-1):=by
 have hg:0<g:=by
  rcases Nat.eq_zero_or_pos g with h0 | h0
  · subst h0;omega
  exact h0
 have hv:0<v:=by
  rcases Nat.eq_zero_or_pos v with h0 | h0
  · subst h0;omega
  exact h0
 have h2:u/v<g:=by rw [Nat.div_lt_iff_lt_mul hv,Nat.mul_comm];exact hlt
 exact ⟨hg,by omega,by rw [Nat.mul_sub,Nat.mul_one]⟩
theorem guess_last {u v g:Nat} (hv:0<v) (h:u/v≤g) (hle:v*g≤u):g=u/v∧u-v*g=u % v:=by
 have h1:g≤u/v:=by rw [Nat.le_div_iff_mul_le hv,Nat.mul_comm];exact hle
 obtain rfl:g=u/v:=by omega
 refine ⟨rfl,?_⟩;have:=Nat.div_add_mod u v;omega
theorem val_take_of_small {l:List Nat} {m:Nat} (h:val l<18446744073709551616 ^ m) (hm:m≤l.length):val (l.take m)=val l:=by
 have h1:=val_split l m;rw [Nat.min_eq_left hm] at h1
 have:val (l.drop m)=0:=by
  rcases Nat.eq_zero_or_pos (val (l.drop m)) with h0 | h0
  · exact h0
  have:=Nat.le_mul_of_pos_right (18446744073709551616 ^ m) h0;omega
 rw [this] at h1;omega
def put (us:List Nat) (j m r:Nat):List Nat:=us.take j ++ (digs r ++ List.replicate (m+1-(digs r).length) 0) ++ us.drop (j+(m+1))
theorem put_len {us:List Nat} {j m r:Nat} (h:j+(m+1)≤us.length) (hr:(digs r).length≤m+1):(put us j m r).length=us.length:=by
 unfold put;simp only [List.length_append,List.length_take,List.length_drop,List.length_replicate];omega
theorem put_low {us:List Nat} {j m r i:Nat} (h:j+(m+1)≤us.length) (hi:i<j):D (put us j m r) i=D us i:=by
 unfold put;simp only [D,List.getD_eq_getElem?_getD,List.append_assoc];rw [List.getElem?_append_left (by rw [List.length_take];omega),List.getElem?_take,if_pos hi]
theorem put_hi {us:List Nat} {j m r:Nat} (h:j+(m+1)≤us.length) (hr:(digs r).length≤m+1):hi (put us j m r) j=r+18446744073709551616 ^ (m+1)*hi us (j+(m+1)):=by
 unfold put hi;rw [List.append_assoc,List.drop_append,List.drop_of_length_le (by rw [List.length_take];omega),List.nil_append,List.length_take,Nat.min_eq_left (by omega),Nat.sub_self,List.drop_zero,val_append,val_append,val_replicate,val_digs,List.length_append,List.length_replicate];rw [show (digs r).length+(m+1-(digs r).length)=m+1 by omega];omega
theorem put_mid {us:List Nat} {j m r d:Nat} (h:j+(m+1)≤us.length) (hd:d<(digs r).length):D (put us j m r) (j+d)=D (digs r) d:=by
 unfold put;simp only [D,List.getD_eq_getElem?_getD,List.append_assoc];rw [List.getElem?_append_right (by rw [List.length_take];omega),List.length_take,Nat.min_eq_left (by omega),Nat.add_sub_cancel_left,List.getElem?_append_left (by omega)]
theorem put_rest {us:List Nat} {j m r i:Nat} (h:j+(m+1)≤us.length) (hr:(digs r).length≤m+1) (hin:¬ (j≤i∧i<j+(digs r).length)):D (put us j m r) i=if j≤i∧i<j+(m+1) then 0 else D us i:=by
 by_cases h1:i<j
 · rw [put_low h h1,if_neg (by omega)]
 unfold put;simp only [D,List.getD_eq_getElem?_getD,List.append_assoc];rw [List.getElem?_append_right (by rw [List.length_take];omega),List.length_take,Nat.min_eq_left (by omega),List.getElem?_append_right (by omega)]
 by_cases h2:i<j+(m+1)
 · rw [if_pos (by omega),List.getElem?_append_left (by rw [List.length_replicate];omega),List.getElem?_replicate,if_pos (by omega)];rfl
 rw [if_neg (by omega),List.getElem?_append_right (by rw [List.length_replicate];omega),List.length_replicate,List.getElem?_drop,show j+(m+1)+(i-j-(digs r).length-(m+1-(digs r).length))=i by omega]
theorem put_dig {us:List Nat} {j m r:Nat} (h:Dig us):Dig (put us j m r):=by
 unfold put;exact dig_append.2 ⟨dig_append.2 ⟨h.take _,dig_append.2 ⟨dig_digs _,dig_replicate _⟩⟩,h.drop _⟩
theorem long_step {u0 us qs:List Nat} {V m j:Nat} (hV:0<V) (hVm:V<18446744073709551616 ^ m) (hd:Dig us) (hj:j+(m+1)≤us.length) (hq:j<qs.length)
 (hl:D us j=D u0 j) (hu:hi us (j+1)=hi u0 (j+1) % V) (hqs:hi qs (j+1)=hi u0 (j+1)/V) :
 val ((us.drop j).take (m+1))=hi us j∧hi us j<V*18446744073709551616∧hi us (j+(m+1))=0∧hi us j % V=hi u0 j % V∧hi (qs.set j (hi us j/V)) j=hi u0 j/V∧hi us j/V<18446744073709551616∧(digs (hi us j % V)).length≤m+1:=by
 have hr:hi us (j+1)<V:=by rw [hu];exact Nat.mod_lt _ hV
 have e1:=hi_step us j;have e0:=hi_step u0 j;have dj:=hd.at_ j
 have hlt:hi us j<V*18446744073709551616:=by
  have:(hi us (j+1)+1)*18446744073709551616≤V*18446744073709551616:=Nat.mul_le_mul_right _ hr;omega
 have hlt2:hi us j<18446744073709551616 ^ (m+1):=by
  rw [Nat.pow_succ];exact nLt hlt (Nat.mul_le_mul_right _ (nOf hVm))
 obtain ⟨p1,p2⟩:=div_part (v:=hi u0 (j+1)) (B:=18446744073709551616) (u0:=D u0 j) hV;have ea:hi u0 (j+1) % V*18446744073709551616+D u0 j=hi us j:=by rw [← hu,← hl,Nat.mul_comm,Nat.add_comm];exact e1.symm
 have eb:hi u0 (j+1)*18446744073709551616+D u0 j=hi u0 j:=by rw [Nat.mul_comm,Nat.add_comm];exact e0.symm
 rw [ea,eb] at p1 p2;refine ⟨val_take_of_small hlt2 (by rw [List.length_drop];omega),hlt,?_,p2.symm,?_,?_,?_⟩
 · have h1:=val_split (us.drop j) (m+1);rw [List.drop_drop,Nat.min_eq_left (by rw [List.length_drop];omega)] at h1
   have h2:val (us.drop (j+(m+1)))=0:=by
    rcases Nat.eq_zero_or_pos (val (us.drop (j+(m+1)))) with h0 | h0
    · exact h0
    have:=Nat.le_mul_of_pos_right (18446744073709551616 ^ (m+1)) h0;have h3:val (us.drop j)<18446744073709551616 ^ (m+1):=hlt2;omega
   exact h2
 · rw [hi_step,D_set_same hq,hi_set (Nat.lt_succ_self j),hqs,p1];omega
 · rw [Nat.div_lt_iff_lt_mul hV,Nat.mul_comm];exact hlt
 exact digs_length_le.2 (Nat.lt_trans (Nat.mod_lt _ hV) (nLt hVm (Nat.pow_le_pow_right (by decide) (Nat.le_succ m))))
theorem long_start {a b s N m:Nat} {u0:List Nat} (hd:Dig u0) (hu:val u0=a*2 ^ s) (hb:18446744073709551616 ^ (m-1)≤b) (hm:0<m) (ha:a<18446744073709551616 ^ (N-1)) (hN:m≤N) (hlen:u0.length=N) :
 hi u0 (N-m)<b*2 ^ s:=by
 rw [hi_div u0 hd,hu,Nat.div_lt_iff_lt_mul (Nat.pow_pos (by decide))];have h1:a*2 ^ s<18446744073709551616 ^ (N-1)*2 ^ s:=Nat.mul_lt_mul_of_pos_right ha (Nat.pow_pos (by decide));refine nLt h1 ?_;rw [show N-1=(m-1)+(N-m) by omega,Nat.pow_add,Nat.mul_assoc,Nat.mul_assoc,Nat.mul_comm (18446744073709551616 ^ (N-m)) (2 ^ s)];exact Nat.mul_le_mul_right _ hb
def textP (b:Bool) (u d:Nat):List UInt8:=(if b then [45] else []) ++ decB u ++ (if d=1 then [] else 47::decB d)
def minusL (l:List UInt8):Bool:=l.head? == some 45
def bareL (l:List UInt8):List UInt8:=if minusL l then l.drop 1 else l
def slashL (l:List UInt8):Nat:=(l.takeWhile (· != 47)).length
def readP (l:List UInt8):Option (Bool×Nat×Nat) :=
 if okL ((bareL l).take (slashL (bareL l))) then
  if slashL (bareL l)<(bareL l).length then
   if okL ((bareL l).drop (slashL (bareL l)+1)) then some (minusL l && decide (getN ((bareL l).take (slashL (bareL l)))≠0),getN ((bareL l).take (slashL (bareL l))),getN ((bareL l).drop (slashL (bareL l)+1))) else none
  else some (minusL l && decide (getN ((bareL l).take (slashL (bareL l)))≠0),getN ((bareL l).take (slashL (bareL l))),1)
 else none
def partsOk (l:List UInt8) (p:Bool×Nat×Nat):Bool:=decide (p.2.2≠0) && decide (Nat.gcd p.2.1 p.2.2=1) && decide (textP p.1 p.2.1 p.2.2=l)
def readR (l:List UInt8):Bool×Nat×Nat:=if l.length≤10000 then match readP l with | none=>(false,0,0) | some p=>if partsOk l p then p else (false,0,0) else (false,0,0)
def readOk (l:List UInt8):Bool:=decide ((readR l).2.2≠0)
def readE (l:List UInt8):Nat:=if 10000<l.length then 4 else if readOk l then 0 else 6
def readA (l:List UInt8):Nat:=if 10000<l.length then 10000 else 0
theorem slashL_le (l:List UInt8):slashL l≤l.length:=(List.takeWhile_prefix _).length_le
theorem slashL_none:∀ (l:List UInt8),(∀ c ∈ l,c≠47)→slashL l=l.length
 | [],_=>rfl
 | c :: l, h => by
   have hc:=h c (List.mem_cons_self ..);have ih:=slashL_none l fun x hx=>h x (List.mem_cons_of_mem _ hx)
   unfold slashL at ih ⊢;rw [List.takeWhile_cons_of_pos (by simpa using hc),List.length_cons,ih];rfl
theorem slashL_some:∀ (l m:List UInt8),(∀ c ∈ l,c≠47)→slashL (l ++ 47::m)=l.length
 | [],_,_=>rfl
 | c :: l, m, h => by
   have hc:=h c (List.mem_cons_self ..);have ih:=slashL_some l m fun x hx=>h x (List.mem_cons_of_mem _ hx)
   unfold slashL at ih ⊢;rw [List.cons_append,List.takeWhile_cons_of_pos (by simpa using hc),List.length_cons,ih];rfl
theorem slashL_at {l:List UInt8} (h:slashL l<l.length):L8 l (slashL l)=47:=by
 induction l with
 | nil=>simp [slashL] at h
 | cons c l ih =>
   by_cases hc:c=47
   · subst hc;rfl
   have e:slashL (c::l)=slashL l+1:=by
    unfold slashL;rw [List.takeWhile_cons_of_pos (by simpa using hc)];rfl
   rw [e] at h ⊢;exact ih (by simpa using h)
theorem decB_byte {n:Nat}:∀ c ∈ decB n,48≤c.toNat∧c.toNat≤57:=by
 intro c hc;unfold decB at hc;obtain ⟨d,hd,rfl⟩:=List.mem_map.1 hc;have:=decL_lt n d hd;unfold dchr;rw [UInt8.toNat_ofNat'];omega
theorem decB_noslash {n:Nat}:∀ c ∈ decB n,c≠47:=fun c hc e=>by have:=(decB_byte c hc).1;rw [e] at this;exact absurd this (by decide)
theorem decB_cons (n:Nat):∃ c l,decB n=c::l∧48≤c.toNat:=by
 have:=decL_pos n;have h2:=decB_len n;cases h:decB n with
 | nil=>rw [h] at h2;simp at h2;omega
 | cons c l=>exact ⟨c,l,rfl,(decB_byte (n:=n) c (by rw [h];exact List.mem_cons_self ..)).1⟩
theorem textP_minus (b:Bool) (u d:Nat):minusL (textP b u d)=b∧bareL (textP b u d)=decB u ++ (if d=1 then [] else 47::decB d):=by
 have key:minusL (textP b u d)=b:=by
  cases b
  · obtain ⟨c,l,h,hc⟩:=decB_cons u;unfold minusL textP;rw [h];simp;intro e;rw [e] at hc;exact absurd hc (by decide)
  rfl
 refine ⟨key,?_⟩;unfold bareL;rw [key];cases b<;>rfl
theorem textP_len (b:Bool) (u d:Nat):(decB u).length≤(textP b u d).length∧(d≠1→(decB d).length≤(textP b u d).length):=by
 unfold textP;refine ⟨by simp;omega,fun h => ?_⟩;rw [if_neg h];simp;omega
theorem read_text {b:Bool} {u d:Nat} (hd:d≠0) (hg:Nat.gcd u d=1) (hb:b=true→u≠0) (hl:(textP b u d).length≤10000):readR (textP b u d)=(b,u,d):=by
 obtain ⟨h1,h2⟩:=textP_minus b u d;obtain ⟨l1,l2⟩:=textP_len b u d;have hu:=okL_dec (n:=u) (by rw [← decB_len];omega)
 have eb:(b && decide (u≠0))=b:=by
  cases b
  · rfl
  simp [hb rfl]
 have key:readP (textP b u d)=some (b,u,d):=by
  unfold readP;rw [h2,h1]
  by_cases e:d=1
  · subst e;rw [if_pos rfl,List.append_nil,slashL_none _ decB_noslash,List.take_length,if_pos hu.1,if_neg (Nat.lt_irrefl _),hu.2,eb]
  have hdd:=okL_dec (n:=d) (by rw [← decB_len];have:=l2 e;omega);rw [if_neg e,slashL_some _ _ decB_noslash,List.take_left,if_pos hu.1,if_pos (by simp)]
  have e2:(decB u ++ 47::decB d).drop ((decB u).length+1)=decB d:=by
   rw [List.drop_append];simp
  rw [e2,if_pos hdd.1,hu.2,hdd.2,eb]
 unfold readR;rw [if_pos hl,key];simp only;rw [if_pos];unfold partsOk;simp [hd,hg]
theorem readOk_back {l:List UInt8} (h:readOk l=true):l.length≤10000∧(readR l).2.2≠0∧Nat.gcd (readR l).2.1 (readR l).2.2=1∧textP (readR l).1 (readR l).2.1 (readR l).2.2=l∧((readR l).1=true→(readR l).2.1≠0):=by
 unfold readOk at h;rw [decide_eq_true_eq] at h;unfold readR at h ⊢
 by_cases hl:l.length≤10000
 · rw [if_pos hl] at h ⊢;cases hp:readP l with
   | none=>rw [hp] at h;exact absurd rfl h
   | some p =>
     rw [hp] at h;simp only at h ⊢
     by_cases hk:partsOk l p=true
     · rw [if_pos hk] at h ⊢;unfold partsOk at hk;simp only [Bool.and_eq_true,decide_eq_true_eq] at hk;refine ⟨hl,hk.1.1,hk.1.2,hk.2,fun e => ?_⟩;unfold readP at hp
       split at hp
       · split at hp
         · split at hp
           · cases hp;simp only [Bool.and_eq_true,decide_eq_true_eq] at e;exact e.2
           cases hp
         cases hp;simp only [Bool.and_eq_true,decide_eq_true_eq] at e;exact e.2
       cases hp
     rw [if_neg hk] at h;exact absurd rfl h
 rw [if_neg hl] at h;exact absurd rfl h
theorem readE_ok (l:List UInt8):readE l=0 ↔ readOk l=true:=by
 unfold readE
 by_cases h:10000<l.length
 · rw [if_pos h];refine ⟨fun e=>absurd e (by decide),fun e => ?_⟩;have:=(readOk_back e).1;omega
 rw [if_neg h];cases readOk l<;>simp
section
open Go.RowKit
theorem run_append_zeros {P:Program} (w:World) (t tn ty e:TypeId) (i:TypeInfo) (z:Value) (k kn:IntKind) (ht:P.underlying t=some (.slice e)) (htn:P.underlying tn=some (.int kn)) (hi:P.info? e=some i) (hz:i.zero=some z)
 (hsize:i.size=1) (hby:i.bytes=8) (b:Addr) (m cap:Nat) (olds:List Value) (hlo:olds.length=m) (holds:∀ j u,olds[j]? = some u→w.cell? (b.add j)=some u) (n:Nat) (h0:0<n) (hg:cap<m+n) (h63:m+n≤1099511627776) :
 (Builtin.append_ #[t, tn] ty #[.slice (some b) m cap, .int k n]).run P w =
   .ok (.slice (some ⟨w.heap.size,0,none⟩) (m+n) (grownCap w (m+n) cap e)) (w.drew.alloc (.cells (olds.toArray ++ Builtin.zeroCells z.cells n ++ Builtin.zeroCells z.cells (grownCap w (m+n) cap e-(m+n))) e)):=by
 have hn:n≠0:=by omega
 have hw:IntKind.i64.wrap (n:Int)=n:=by rw [IntKind.wrap_i64];omega
 have h63':¬ (9223372036854775807<(m:Int)+(n:Int)):=by omega
 have hfit:=growslice_fits (bytes:=i.bytes) hg (by rw [hby];omega)
 have h48i:¬ (281474976710656<(n:Int)*(i.bytes:Int)):=by
  rw [hby];omega
 have hneg:¬ ((n:Int)<0):=by omega
 have hns:¬ (n*i.size=0):=Nat.mul_ne_zero hn (by omega);have hroom:¬ (m+n≤cap):=by omega
 have hfc:=run_firstCells_some (P:=P) w.drew i.size m b m cap olds (by rw [hsize];omega) holds;simp [Builtin.append_,run_underlying ht,run_underlying htn,sizeOf,typeInfo,zeroValue,hi,hz,asInt,asIntOf,hw,hn,hneg,hns,h63',h48i,hroom,Question.forced,hfc,newRow,grownCap,hfit];intro h;omega
theorem run_append_none {P:Program} (w:World) (t tn ty e:TypeId) (i:TypeInfo) (k kn:IntKind) (ht:P.underlying t=some (.slice e)) (htn:P.underlying tn=some (.int kn)) (hi:P.info? e=some i)
 (b:Addr) (m cap:Nat) (hg:m≤cap) :
 (Builtin.append_ #[t,tn] ty #[.slice (some b) m cap,.int k ((0:Nat):Int)]).run P w = .ok (.slice (some b) m cap) w:=by
 have hw:IntKind.i64.wrap (0:Int)=0:=by rw [IntKind.wrap_i64];omega
 simp [Builtin.append_,run_underlying ht,run_underlying htn,sizeOf,typeInfo,hi,asInt,asIntOf,hw,hg,storeCells]
theorem appended_own {E:Nat} {w:World} {m n cap:Nat} {l:List Nat} (hl:l.length=m) (hd:Dig l) (h63:m+n≤1099511627776) :
 OwnAt (w.drew.alloc (.cells ((dv l).toArray ++ Builtin.zeroCells (Value.int .u64 0).cells n ++ Builtin.zeroCells (Value.int .u64 0).cells (grownCap w (m+n) cap E-(m+n))) E)) w.heap.size (some ⟨w.heap.size,0,none⟩) (m+n) (grownCap w (m+n) cap E) (l ++ List.replicate n 0):=by
 have hge:=grownCap_ge w (m+n) cap E;have hcm:grownCap w (m+n) cap E≤maxLen:=grownCap_le_maxLen w (m+n) cap E (by simp only [maxLen];omega)
 have hz:(Builtin.zeroCells (Value.int .u64 0).cells n).toList=dv (List.replicate n 0):=by
  rw [dv_replicate];apply List.ext_getElem
  · simp [Builtin.zeroCells,Value.cells]
  intro i h1 h2;simp [Builtin.zeroCells,Value.cells,Nat.mod_one]
 have hlen:(dv (l ++ List.replicate n 0)).length=m+n:=by rw [dv_length,List.length_append,List.length_replicate,hl]
 have hrow:(w.drew.alloc (.cells ((dv l).toArray ++ Builtin.zeroCells (Value.int .u64 0).cells n ++ Builtin.zeroCells (Value.int .u64 0).cells (grownCap w (m+n) cap E-(m+n))) E)).ownsRow w.heap.size E 1 (.slice (some ⟨w.heap.size,0,none⟩) (m+n) (grownCap w (m+n) cap E)) (m+n) (dv (l ++ List.replicate n 0)):=by
  refine ⟨by rw [hlen,Nat.mul_one],.inr ⟨w.heap.size,_,_,rfl,nRf _,heap_alloc_new w.drew _,hge,hcm,?_,?_⟩⟩
  · simp [Builtin.zeroCells,Value.cells,dv_length,hl];omega
  simp only [Array.toList_append,hz];rw [← dv_append,hlen.symm,Nat.mul_one];exact List.take_left
 obtain ⟨a,c,he,ho⟩:=OwnAt.ofRow hrow (dig_append.2 ⟨hd,dig_replicate _⟩);cases he;exact ho
end
section
open Go.RowKit Go.Shelf
def Turns (B:Nat) (X:World→Prop):Prop:=∀ (W:World) (l:Nat) (o o':Obj),X W→W.heap[l]? = some o→o.isCells=false→B≤l→X (W.putObj l o')
def Hands (n:Nat) (P:Program) (gf:Nat) (lb:Array Value) (w0:World) (n0:Nat) (bj:Option Nat) (N:Nat) (Ok:Nat→Value→Nat→World→Prop):Prop :=
 ∀ (l:Nat) (J:Nat→World→Prop) (W:World),Below w0.heap.size w0 W→(∀ i W W',J i W→Below W.heap.size W W'→J i W') →
  (∀ b,bj=some b→∀ i W x y,J i W→W.cell? ⟨b,0,none⟩=some (.int .i64 x)→J i (W.setCell ⟨b,0,none⟩ (.int .i64 y))) →
  (∀ i x W0 W,i<N→J i W0→Below W0.heap.size W0 W→J i W→Below n0 w0 W→Ok i x W0.heap.size W→YieldAt Fence.wide (n-1) P l #[x] W fun e W'=>e = .returned (.bool true)∧J (i+1) W'∧Below w0.heap.size W W') →
  J 0 W→CallsIn Fence.wide n P gf (#[.func (.yield l) #[] #[]] ++ lb) W fun e W'=>(∃ v,e = .returned v)∧J N W'∧Below n0 w0 W'
theorem Hands.weak {n:Nat} {P:Program} {gf:Nat} {lb:Array Value} {w0:World} {n0:Nat} {bj:Option Nat} {N:Nat} {Ok Ok':Nat→Value→Nat→World→Prop} (h:Hands n P gf lb w0 n0 bj N Ok) (hk:∀ i x B W,i<N→Ok i x B W→Ok' i x B W):Hands n P gf lb w0 n0 bj N Ok' :=
 fun l J W h1 h2 h3 h4 h5=>h l J W h1 h2 h3 (fun i x W0 W hi a b c d e=>h4 i x W0 W hi a b c d (hk i x _ W hi e)) h5
theorem below_put {B l:Nat} {W:World} (o:Obj) (h:B≤l):Below B W (W.putObj l o) :=
 ⟨rfl,rfl,rfl,by simp,fun k hk=>World.putObj_heap_other (by omega)⟩
theorem wpIn_rounds {P:Program} {n:Nat} {g:Operand} {p:Tmp} {assign body:Code} {Q:Exit→Act→World→Prop} {a:Act} {w w0:World} (h1:1≤n)
 {gf:Nat} {lb:Array Value} (hg:a.eval g = .func (.func gf) #[] lb) (eg:∀ args w,(callFunc gf args).run P w = .ok (.enter gf args) w)
 {N:Nat} {Ok:Nat→Value→Nat→World→Prop} {n0:Nat} {bj:Option Nat} (hn:n0≤w0.heap.size) (hseq:Hands (n-1) P gf lb w0 n0 bj N Ok) (hw:Below w0.heap.size w0 w)
 (I:Nat→World→Prop) (Mid:Nat→Value→Act→World→Prop) (hI:∀ i W W',I i W→Below W.heap.size W W'→I i W') (hI3:∀ b,bj=some b→∀ i W x y,I i W→W.cell? ⟨b,0,none⟩=some (.int .i64 x)→I i (W.setCell ⟨b,0,none⟩ (.int .i64 y))) (hI2:∀ i,Turns w.heap.size (I i)) (hM2:∀ i x b,Turns w.heap.size (Mid i x b)) (h0:I 0 w)
 (hassign : ∀ (l i : Nat) (x : Value) (W0 W : World), i < N → I i W0 → Below W0.heap.size W0 W → I i W → Below n0 w0 W → Ok i x W0.heap.size W →
   assign.wpIn (Fence.wide.inRound l) (n-1-1) P (Exit.then (fun b W1=>KeepsOthers W W1∧Below w0.heap.size W W1∧Mid i x b W1) (fun _ _ _=>False)) { tmps:=a.tmps.setIfInBounds p x,defers:=[] } W)
 (hbody : ∀ (l i : Nat) (x : Value) (b : Act) (W : World), i < N → Below n0 w0 W → w0.heap.size ≤ W.heap.size → Mid i x b W →
   body.wpIn (Fence.wide.inRound l) (n-1-1) P (fun e _ W'=>e = .normal∧KeepsOthers W W'∧Below w0.heap.size W W'∧I (i+1) W') b W)
 (hdone:∀ (D:Nat) (W:World),w.heap.size≤D→I N W→Below n0 w0 W→W.heap[D]? = some (.deferred (some []))→Q .normal { a with defers:={ target:=.collected D,args:=#[] }::a.defers } W) :
 (Code.rangeFunc g #[p] assign body).wpIn Fence.wide n P Q a w:=by
 refine wpIn_rangeFunc ?_;intro fn hfn;obtain ⟨rec,hrec⟩:∃ rec:LoopState→Loop,rec=fun st=>{ state:=st,pending:=none,fn,tmps:=a.tmps,params:=#[p],assign,body,defers:=w.heap.size }:=⟨_,rfl⟩
 obtain ⟨W1,hW1⟩:∃ W1,(w.alloc (.deferred (some []))).alloc (.loop (rec .ready))=W1:=⟨_,rfl⟩;have hal:Below w.heap.size w W1:=by rw [← hW1];exact ((bRf _ w).alloc (nRf _) _).alloc (by simp) _
 have hL1:W1.heap[w.heap.size+1]? = some (.loop (rec .ready)):=by
  rw [← hW1];have:=World.alloc_heap_new (w.alloc (.deferred (some []))) (.loop (rec .ready))
  rwa [World.size_alloc] at this
 have hD1:W1.heap[w.heap.size]? = some (.deferred (some [])):=by
  rw [← hW1];exact (Below.heap_alloc _ _ _ (by simp)).trans (World.alloc_heap_new w _)
 have hst:∀ st,(rec st).state=st:=fun st=>by rw [hrec]
 refine ⟨w.heap.size+1,[{ target:=.collected w.heap.size,args:=#[] }],W1,{ target:=.fn (.func gf) lb,args:=#[.func (.yield (w.heap.size+1)) #[] #[]] },W1,gf,#[.func (.yield (w.heap.size+1)) #[] #[]] ++ lb,W1,?_,?_,?_,?_,fun _=>h1,?_⟩
 · rw [← hW1,hrec];exact run_enterLoop_outer _ _ _ _ _
 · simp only [resolve,hg];simp [go_sem]
 · intro f' _;trivial
 · simp [invoke,go_sem,eg]
 have two:∀ {A B:World} {o:Obj} {k:Nat},A.heap[k]? = some o→Below A.heap.size A B→B.heap[k]? = some o:=fun h hb=>(hb.block _ (Array.getElem?_eq_some_iff.1 h).1).trans h
 refine (hseq (w.heap.size+1) (fun i W=>I i W∧W.heap[w.heap.size+1]? = some (.loop (rec .ready))∧W.heap[w.heap.size]? = some (.deferred (some []))) W1 (bLt hw hal)
  (fun i A B h hb=>⟨hI i A B h.1 hb,two h.2.1 hb,two h.2.2 hb⟩)
  (fun b hb i A x y h hc=>⟨hI3 b hb i A x y h.1 hc,(KeepsOthers.setCell A _ _).same _ _ h.2.1 rfl,(KeepsOthers.setCell A _ _).same _ _ h.2.2 rfl⟩) ?_ ⟨hI 0 w W1 h0 hal,hL1,hD1⟩).mono ?_
 · rintro i x W0 W hi ⟨hI0,_,_⟩ hW0 ⟨hIi,hl,hd⟩ hB hok
   have hy:(Instr.yield (w.heap.size+1) #[x]).run P W = .ok (.round (w.heap.size+1) fn (a.tmps.setIfInBounds p x) assign body) W:=by
    have h:=run_yield (P:=P) (args:=#[x]) hl (by rw [hrec];rfl);rw [hrec] at h
    simpa using h
   refine ⟨fn,_,assign,body,hy,roundIn_of_wpIn hfn ?_⟩;refine wpIn_mono (hassign (w.heap.size+1) i x W0 W hi hI0 hW0 hIi hB hok) ?_;rintro e b W2 he;cases e with
   | normal =>
     obtain ⟨hk,hb2,hm⟩:=he;have hl2:=hk.same _ _ hl rfl;have hd2:=hk.same _ _ hd rfl;refine ⟨_,run_beginRound hl2 (hst _),?_⟩;have hsz:w.heap.size+1<W2.heap.size:=(Array.getElem?_eq_some_iff.1 hl2).1;have hn0:w0.heap.size≤w.heap.size+1:=Nat.le_succ_of_le hw.size;have hbp:=below_put (W:=W2) (.loop { rec .ready with state:=.busy }) hn0;have hl3:(W2.putObj (w.heap.size+1) (.loop { rec .ready with state:=.busy })).heap[w.heap.size+1]? = some (.loop { rec .ready with state:=.busy }):=World.putObj_heap_same hsz;have hd3:(W2.putObj (w.heap.size+1) (.loop { rec .ready with state:=.busy })).heap[w.heap.size]? = some (.deferred (some [])):=(World.putObj_heap_other (by omega)).trans hd2;refine wpIn_mono (hbody _ i x b _ hi ((hB.trans (hb2.mono hn)).trans (hbp.mono hn)) ((hB.trans (hb2.mono hn)).trans (hbp.mono hn)).size (hM2 i x b W2 _ _ _ hm hl2 rfl (Nat.le_succ _))) ?_;rintro e2 a3 W3 ⟨rfl,hk3,hb3,hi3⟩;have hl4:=hk3.same _ _ hl3 rfl;have hd4:=hk3.same _ _ hd3 rfl;have hr:=run_endRound (P:=P) none hl4;refine ⟨_,_,hr,rfl,⟨hI2 _ W3 _ _ _ hi3 hl4 rfl (Nat.le_succ _),?_,(World.putObj_heap_other (by omega)).trans hd4⟩,((hb2.trans hbp).trans hb3).trans (below_put _ hn0)⟩;rw [World.putObj_heap_same (Array.getElem?_eq_some_iff.1 hl4).1,hrec];rfl
   | _=>exact he.elim
 rintro e W2 ⟨⟨v,rfl⟩,⟨hi,hl,hd⟩,hB⟩;have hn0:w0.heap.size≤w.heap.size+1:=Nat.le_succ_of_le hw.size;exact ⟨none,_,by have:=run_endLoop (P:=P) hl (by rw [hst];simp);rw [hrec] at this;exact this,hdone _ _ (nRf _) (hI2 _ _ _ _ _ hi hl rfl (Nat.le_succ _)) (hB.trans ((below_put _ hn0).mono hn)) ((World.putObj_heap_other (by omega)).trans hd)⟩
end
section
open Go.RowKit Go.Shelf
def HandsF (n:Nat) (P:Program) (gf:Nat) (lb:Array Value) (N:Nat) (Ok:Nat→Array Value→World→Prop) (Fix:World→Prop):Prop :=
 ∀ (l:Nat) (J:Nat→World→Prop) (W:World),(∀ i W W',J i W→Below W.heap.size W W'→J i W')→Fix W →
  (∀ i x W,i<N→J i W→Fix W→Ok i x W→YieldAt Fence.wide (n-1) P l x W fun e W'=>e = .returned (.bool true)∧J (i+1) W'∧Fix W') →
  J 0 W→CallsIn Fence.wide n P gf (#[.func (.yield l) #[] #[]] ++ lb) W fun e W'=>(∃ v,e = .returned v)∧J N W'∧Fix W'
theorem wpIn_roundsF {P:Program} {n:Nat} {g:Operand} {p:Array Tmp} {assign body:Code} {Q:Exit→Act→World→Prop} {a:Act} {w:World} (h1:1≤n)
 {gf:Nat} {lb:Array Value} (hg:a.eval g = .func (.func gf) #[] lb) (eg:∀ args w,(callFunc gf args).run P w = .ok (.enter gf args) w)
 {N:Nat} {Ok:Nat→Array Value→World→Prop} {Fix:World→Prop} (hps:∀ i x W,Ok i x W→x.size=p.size) (hseq:HandsF (n-1) P gf lb N Ok Fix)
 (hF:∀ W W',Fix W→Below W.heap.size W W'→Fix W') (hF2:Turns w.heap.size Fix) (hF0:Fix w)
 (I:Nat→World→Prop) (Mid:Nat→Array Value→Act→World→Prop) (hI:∀ i W W',I i W→Below W.heap.size W W'→I i W') (hI2:∀ i,Turns w.heap.size (I i)) (hM2:∀ i x b,Turns w.heap.size (Mid i x b)) (h0:I 0 w)
 (hassign : ∀ (l i : Nat) (x : Array Value) (W : World), i < N → I i W → Fix W → Ok i x W →
   assign.wpIn (Fence.wide.inRound l) (n-1-1) P (Exit.then (fun b W1=>KeepsOthers W W1∧Fix W1∧Mid i x b W1) (fun _ _ _=>False)) { tmps:=(p.zip x).foldl (fun t (k,v)=>t.setIfInBounds k v) a.tmps,defers:=[] } W)
 (hbody : ∀ (l i : Nat) (x : Array Value) (b : Act) (W : World), i < N → Fix W → Mid i x b W →
   body.wpIn (Fence.wide.inRound l) (n-1-1) P (fun e _ W'=>e = .normal∧KeepsOthers W W'∧Fix W'∧I (i+1) W') b W)
 (hdone:∀ (D:Nat) (W:World),w.heap.size≤D→I N W→Fix W→W.heap[D]? = some (.deferred (some []))→Q .normal { a with defers:={ target:=.collected D,args:=#[] }::a.defers } W) :
 (Code.rangeFunc g p assign body).wpIn Fence.wide n P Q a w:=by
 refine wpIn_rangeFunc ?_;intro fn hfn;obtain ⟨rec,hrec⟩:∃ rec:LoopState→Loop,rec=fun st=>{ state:=st,pending:=none,fn,tmps:=a.tmps,params:=p,assign,body,defers:=w.heap.size }:=⟨_,rfl⟩
 obtain ⟨W1,hW1⟩:∃ W1,(w.alloc (.deferred (some []))).alloc (.loop (rec .ready))=W1:=⟨_,rfl⟩;have hal:Below w.heap.size w W1:=by rw [← hW1];exact ((bRf _ w).alloc (nRf _) _).alloc (by simp) _
 have hL1:W1.heap[w.heap.size+1]? = some (.loop (rec .ready)):=by
  rw [← hW1];have:=World.alloc_heap_new (w.alloc (.deferred (some []))) (.loop (rec .ready))
  rwa [World.size_alloc] at this
 have hD1:W1.heap[w.heap.size]? = some (.deferred (some [])):=by
  rw [← hW1];exact (Below.heap_alloc _ _ _ (by simp)).trans (World.alloc_heap_new w _)
 have hst:∀ st,(rec st).state=st:=fun st=>by rw [hrec]
 refine ⟨w.heap.size+1,[{ target:=.collected w.heap.size,args:=#[] }],W1,{ target:=.fn (.func gf) lb,args:=#[.func (.yield (w.heap.size+1)) #[] #[]] },W1,gf,#[.func (.yield (w.heap.size+1)) #[] #[]] ++ lb,W1,?_,?_,?_,?_,fun _=>h1,?_⟩
 · rw [← hW1,hrec];exact run_enterLoop_outer _ _ _ _ _
 · simp only [resolve,hg];simp [go_sem]
 · intro f' _;trivial
 · simp [invoke,go_sem,eg]
 have two:∀ {A B:World} {o:Obj} {k:Nat},A.heap[k]? = some o→Below A.heap.size A B→B.heap[k]? = some o:=fun h hb=>(hb.block _ (Array.getElem?_eq_some_iff.1 h).1).trans h
 refine (hseq (w.heap.size+1) (fun i W=>I i W∧W.heap[w.heap.size+1]? = some (.loop (rec .ready))∧W.heap[w.heap.size]? = some (.deferred (some []))) W1
  (fun i A B h hb=>⟨hI i A B h.1 hb,two h.2.1 hb,two h.2.2 hb⟩) (hF _ _ hF0 hal) ?_ ⟨hI 0 w W1 h0 hal,hL1,hD1⟩).mono ?_
 · rintro i x W hi ⟨hIi,hl,hd⟩ hfix hok
   have hy:(Instr.yield (w.heap.size+1) x).run P W = .ok (.round (w.heap.size+1) fn ((p.zip x).foldl (fun t (k,v)=>t.setIfInBounds k v) a.tmps) assign body) W:=by
    have h:=run_yield (P:=P) (args:=x) hl (by rw [hrec];exact hps _ _ _ hok);rw [hrec] at h;exact h
   refine ⟨fn,_,assign,body,hy,roundIn_of_wpIn hfn ?_⟩;refine wpIn_mono (hassign (w.heap.size+1) i x W hi hIi hfix hok) ?_;rintro e b W2 he;cases e with
   | normal =>
     obtain ⟨hk,hf2,hm⟩:=he;have hl2:=hk.same _ _ hl rfl;have hd2:=hk.same _ _ hd rfl;refine ⟨_,run_beginRound hl2 (hst _),?_⟩;have hsz:w.heap.size+1<W2.heap.size:=(Array.getElem?_eq_some_iff.1 hl2).1;have hl3:(W2.putObj (w.heap.size+1) (.loop { rec .ready with state:=.busy })).heap[w.heap.size+1]? = some (.loop { rec .ready with state:=.busy }):=World.putObj_heap_same hsz;have hd3:(W2.putObj (w.heap.size+1) (.loop { rec .ready with state:=.busy })).heap[w.heap.size]? = some (.deferred (some [])):=(World.putObj_heap_other (by omega)).trans hd2;refine wpIn_mono (hbody _ i x b _ hi (hF2 W2 _ _ _ hf2 hl2 rfl (Nat.le_succ _)) (hM2 i x b W2 _ _ _ hm hl2 rfl (Nat.le_succ _))) ?_;rintro e2 a3 W3 ⟨rfl,hk3,hf3,hi3⟩;have hl4:=hk3.same _ _ hl3 rfl;have hd4:=hk3.same _ _ hd3 rfl;have hr:=run_endRound (P:=P) none hl4;refine ⟨_,_,hr,rfl,⟨hI2 _ W3 _ _ _ hi3 hl4 rfl (Nat.le_succ _),?_,(World.putObj_heap_other (by omega)).trans hd4⟩,hF2 W3 _ _ _ hf3 hl4 rfl (Nat.le_succ _)⟩;rw [World.putObj_heap_same (Array.getElem?_eq_some_iff.1 hl4).1,hrec];rfl
   | _=>exact he.elim
 rintro e W2 ⟨⟨v,rfl⟩,⟨hi,hl,hd⟩,hf⟩;exact ⟨none,_,by have:=run_endLoop (P:=P) hl (by rw [hst];simp);rw [hrec] at this;exact this,hdone _ _ (nRf _) (hI2 _ _ _ _ _ hi hl rfl (Nat.le_succ _)) (hF2 _ _ _ _ hf hl rfl (Nat.le_succ _)) ((World.putObj_heap_other (by omega)).trans hd)⟩
end
theorem len_mulN {a b p q:Nat} (h1:(digs a).length≤p) (h2:(digs b).length≤q):(digs (a*b)).length≤p+q:=by have:=digs_len_prod a b;omega
section
open Go.RowKit Go.Shelf
theorem wpIn_roundsN {P:Program} {n:Nat} {g:Operand} {p:Array Tmp} {assign body:Code} {Q:Exit→Act→World→Prop} {a:Act} {w:World} {l0:Nat} {r0:Loop} (hl0:w.heap[l0]? = some (.loop r0)) (h1:1≤n)
 {gf:Nat} {lb:Array Value} (hg:a.eval g = .func (.func gf) #[] lb) (eg:∀ args w,(callFunc gf args).run P w = .ok (.enter gf args) w)
 {N:Nat} {Ok:Nat→Array Value→World→Prop} {Fix:World→Prop} (hps:∀ i x W,Ok i x W→x.size=p.size) (hseq:HandsF (n-1) P gf lb N Ok Fix)
 (hF:∀ W W',Fix W→Below W.heap.size W W'→Fix W') (hF2:Turns w.heap.size Fix) (hF0:Fix w)
 (I:Nat→World→Prop) (Mid:Nat→Array Value→Act→World→Prop) (hI:∀ i W W',I i W→Below W.heap.size W W'→I i W') (hI2:∀ i,Turns w.heap.size (I i)) (hM2:∀ i x b,Turns w.heap.size (Mid i x b)) (h0:I 0 w)
 (hassign : ∀ (l i : Nat) (x : Array Value) (W : World), i < N → I i W → Fix W → Ok i x W →
   assign.wpIn (Fence.wide.inRound l) (n-1-1) P (Exit.then (fun b W1=>KeepsOthers W W1∧Fix W1∧Mid i x b W1) (fun _ _ _=>False)) { tmps:=(p.zip x).foldl (fun t (k,v)=>t.setIfInBounds k v) a.tmps,defers:=[] } W)
 (hbody : ∀ (l i : Nat) (x : Array Value) (b : Act) (W : World), i < N → Fix W → Mid i x b W →
   body.wpIn (Fence.wide.inRound l) (n-1-1) P (fun e _ W'=>e = .normal∧KeepsOthers W W'∧Fix W'∧I (i+1) W') b W)
 (hdone:∀ (W:World),I N W→Fix W→Q .normal a W) :
 (Code.rangeFunc g p assign body).wpIn (Fence.wide.inRound l0) n P Q a w:=by
 refine wpIn_rangeFunc ?_;intro fn hfn;obtain ⟨rec,hrec⟩:∃ rec:LoopState→Loop,rec=fun st=>{ state:=st,pending:=none,fn,tmps:=a.tmps,params:=p,assign,body,defers:=r0.defers }:=⟨_,rfl⟩
 obtain ⟨W1,hW1⟩:∃ W1,w.alloc (.loop (rec .ready))=W1:=⟨_,rfl⟩;have hal:Below w.heap.size w W1:=by rw [← hW1];exact (bRf _ w).alloc (nRf _) _
 have hL1:W1.heap[w.heap.size]? = some (.loop (rec .ready)):=by rw [← hW1];exact World.alloc_heap_new w _
 have hst:∀ st,(rec st).state=st:=fun st=>by rw [hrec]
 refine ⟨w.heap.size,[],W1,{ target:=.fn (.func gf) lb,args:=#[.func (.yield w.heap.size) #[] #[]] },W1,gf,#[.func (.yield w.heap.size) #[] #[]] ++ lb,W1,?_,?_,?_,?_,fun _=>h1,?_⟩
 · rw [← hW1,hrec];exact run_enterLoop_inner hl0 _ _ _ _ _
 · simp only [resolve,hg];simp [go_sem]
 · intro f' _;trivial
 · simp [invoke,go_sem,eg]
 have two:∀ {A B:World} {o:Obj} {k:Nat},A.heap[k]? = some o→Below A.heap.size A B→B.heap[k]? = some o:=fun h hb=>(hb.block _ (Array.getElem?_eq_some_iff.1 h).1).trans h
 have hseq1:=hseq w.heap.size (fun i W=>I i W∧W.heap[w.heap.size]? = some (.loop (rec .ready))) W1
  (fun i A B h hb=>⟨hI i A B h.1 hb,two h.2 hb⟩) (hF _ _ hF0 hal) ?_ ⟨hI 0 w W1 h0 hal,hL1⟩
 · refine CallsIn.mono (show CallsIn (Fence.wide.inRound l0) (n-1) P gf _ W1 _ from hseq1) ?_;rintro e W2 ⟨⟨v,rfl⟩,⟨hi,hl⟩,hf⟩;exact ⟨none,_,by have:=run_endLoop (P:=P) hl (by rw [hst];simp);rw [hrec] at this;exact this,hdone _ (hI2 _ _ _ _ _ hi hl rfl (nRf _)) (hF2 _ _ _ _ hf hl rfl (nRf _))⟩
 rintro i x W hi ⟨hIi,hl⟩ hfix hok
 have hy:(Instr.yield w.heap.size x).run P W = .ok (.round w.heap.size fn ((p.zip x).foldl (fun t (k,v)=>t.setIfInBounds k v) a.tmps) assign body) W:=by
  have h:=run_yield (P:=P) (args:=x) hl (by rw [hrec];exact hps _ _ _ hok);rw [hrec] at h;exact h
 refine ⟨fn,_,assign,body,hy,roundIn_of_wpIn hfn ?_⟩;refine wpIn_mono (hassign w.heap.size i x W hi hIi hfix hok) ?_;rintro e b W2 he;cases e with
 | normal =>
   obtain ⟨hk,hf2,hm⟩:=he;have hl2:=hk.same _ _ hl rfl;refine ⟨_,run_beginRound hl2 (hst _),?_⟩;have hsz:w.heap.size<W2.heap.size:=(Array.getElem?_eq_some_iff.1 hl2).1;have hl3:(W2.putObj w.heap.size (.loop { rec .ready with state:=.busy })).heap[w.heap.size]? = some (.loop { rec .ready with state:=.busy }):=World.putObj_heap_same hsz;refine wpIn_mono (hbody _ i x b _ hi (hF2 W2 _ _ _ hf2 hl2 rfl (nRf _)) (hM2 i x b W2 _ _ _ hm hl2 rfl (nRf _))) ?_;rintro e2 a3 W3 ⟨rfl,hk3,hf3,hi3⟩;have hl4:=hk3.same _ _ hl3 rfl;have hr:=run_endRound (P:=P) none hl4;refine ⟨_,_,hr,rfl,⟨hI2 _ W3 _ _ _ hi3 hl4 rfl (nRf _),?_⟩,hF2 W3 _ _ _ hf3 hl4 rfl (nRf _)⟩;rw [World.putObj_heap_same (Array.getElem?_eq_some_iff.1 hl4).1,hrec];rfl
 | _=>exact he.elim
def HandsE (n:Nat) (P:Program) (gf:Nat) (lb:Array Value) (N:Nat) (Ok:Nat→Array Value→World→Prop) (Fix:World→Prop):Prop :=
 ∀ (l:Nat) (J:Nat→World→Prop) (K:World→Prop) (W:World),(∀ W,¬ J N W)→(∀ i W W',J i W→Below W.heap.size W W'→J i W')→(∀ W W',K W→Below W.heap.size W W'→K W')→Fix W →
  (∀ i x W,i<N→J i W→Fix W→Ok i x W→YieldAt Fence.wide (n-1) P l x W fun e W'=>(e = .returned (.bool true)∧J (i+1) W'∧Fix W')∨(e = .returned (.bool false)∧K W'∧Fix W')) →
  J 0 W→CallsIn Fence.wide n P gf (#[.func (.yield l) #[] #[]] ++ lb) W fun e W'=>(∃ v,e = .returned v)∧K W'∧Fix W'
theorem wpIn_roundsE {P:Program} {n:Nat} {g:Operand} {p:Array Tmp} {assign body:Code} {Q:Exit→Act→World→Prop} {a:Act} {w:World} (h1:1≤n)
 {gf:Nat} {lb:Array Value} (hg:a.eval g = .func (.func gf) #[] lb) (eg:∀ args w,(callFunc gf args).run P w = .ok (.enter gf args) w)
 {N:Nat} {Ok:Nat→Array Value→World→Prop} {Fix:World→Prop} (hps:∀ i x W,Ok i x W→x.size=p.size) (hseq:HandsE (n-1) P gf lb N Ok Fix)
 (hF:∀ W W',Fix W→Below W.heap.size W W'→Fix W') (hF2:Turns w.heap.size Fix) (hF0:Fix w)
 (I:Nat→World→Prop) (Mid:Nat→Array Value→Act→World→Prop) (hI:∀ i W W',I i W→Below W.heap.size W W'→I i W') (hI2:∀ i,Turns w.heap.size (I i)) (hM2:∀ i x b,Turns w.heap.size (Mid i x b)) (h0:I 0 w) (hN:∀ W,¬ I N W) (K:World→Prop) (hK:∀ W W',K W→Below W.heap.size W W'→K W') (hK2:Turns w.heap.size K)
 (hassign : ∀ (l i : Nat) (x : Array Value) (W : World), i < N → I i W → Fix W → Ok i x W →
   assign.wpIn (Fence.wide.inRound l) (n-1-1) P (Exit.then (fun b W1=>KeepsOthers W W1∧Fix W1∧Mid i x b W1) (fun _ _ _=>False)) { tmps:=(p.zip x).foldl (fun t (k,v)=>t.setIfInBounds k v) a.tmps,defers:=[] } W)
 (hbody : ∀ (l i : Nat) (x : Array Value) (b : Act) (W : World), i < N → Fix W → Mid i x b W →
   body.wpIn (Fence.wide.inRound l) (n-1-1) P (fun e _ W'=>KeepsOthers W W'∧Fix W'∧(e = .normal∧I (i+1) W'∨e = .ret∧K W')) b W)
 (hstop:∀ (D:Nat) (W:World),w.heap.size≤D→K W→Fix W→W.heap[D]? = some (.deferred (some []))→Code.ret.wpIn Fence.wide n P Q { a with defers:={ target:=.collected D,args:=#[] }::a.defers } W) :
 (Code.rangeFunc g p assign body).wpIn Fence.wide n P Q a w:=by
 refine wpIn_rangeFunc ?_;intro fn hfn;obtain ⟨rec,hrec⟩:∃ rec:LoopState→Option Code→Loop,rec=fun st pe=>{ state:=st,pending:=pe,fn,tmps:=a.tmps,params:=p,assign,body,defers:=w.heap.size }:=⟨_,rfl⟩
 obtain ⟨W1,hW1⟩:∃ W1,(w.alloc (.deferred (some []))).alloc (.loop (rec .ready none))=W1:=⟨_,rfl⟩;have hal:Below w.heap.size w W1:=by rw [← hW1];exact ((bRf _ w).alloc (nRf _) _).alloc (by simp) _
 have hL1:W1.heap[w.heap.size+1]? = some (.loop (rec .ready none)):=by
  rw [← hW1];have:=World.alloc_heap_new (w.alloc (.deferred (some []))) (.loop (rec .ready none))
  rwa [World.size_alloc] at this
 have hD1:W1.heap[w.heap.size]? = some (.deferred (some [])):=by
  rw [← hW1];exact (Below.heap_alloc _ _ _ (by simp)).trans (World.alloc_heap_new w _)
 refine ⟨w.heap.size+1,[{ target:=.collected w.heap.size,args:=#[] }],W1,{ target:=.fn (.func gf) lb,args:=#[.func (.yield (w.heap.size+1)) #[] #[]] },W1,gf,#[.func (.yield (w.heap.size+1)) #[] #[]] ++ lb,W1,?_,?_,?_,?_,fun _=>h1,?_⟩
 · rw [← hW1,hrec];exact run_enterLoop_outer _ _ _ _ _
 · simp only [resolve,hg];simp [go_sem]
 · intro f' _;trivial
 · simp [invoke,go_sem,eg]
 have two:∀ {A B:World} {o:Obj} {k:Nat},A.heap[k]? = some o→Below A.heap.size A B→B.heap[k]? = some o:=fun h hb=>(hb.block _ (Array.getElem?_eq_some_iff.1 h).1).trans h
 refine (hseq (w.heap.size+1) (fun i W=>I i W∧W.heap[w.heap.size+1]? = some (.loop (rec .ready none))∧W.heap[w.heap.size]? = some (.deferred (some [])))
  (fun W=>K W∧W.heap[w.heap.size+1]? = some (.loop (rec .done (some .ret)))∧W.heap[w.heap.size]? = some (.deferred (some []))) W1 (fun W h=>hN W h.1)
  (fun i A B h hb=>⟨hI i A B h.1 hb,two h.2.1 hb,two h.2.2 hb⟩) (fun A B h hb=>⟨hK A B h.1 hb,two h.2.1 hb,two h.2.2 hb⟩) (hF _ _ hF0 hal) ?_ ⟨hI 0 w W1 h0 hal,hL1,hD1⟩).mono ?_
 · rintro i x W hi ⟨hIi,hl,hd⟩ hfix hok
   have hy:(Instr.yield (w.heap.size+1) x).run P W = .ok (.round (w.heap.size+1) fn ((p.zip x).foldl (fun t (k,v)=>t.setIfInBounds k v) a.tmps) assign body) W:=by
    have h:=run_yield (P:=P) (args:=x) hl (by rw [hrec];exact hps _ _ _ hok);rw [hrec] at h;exact h
   refine ⟨fn,_,assign,body,hy,roundIn_of_wpIn hfn ?_⟩;refine wpIn_mono (hassign (w.heap.size+1) i x W hi hIi hfix hok) ?_;rintro e b W2 he;cases e with
   | normal =>
     obtain ⟨hk,hf2,hm⟩:=he;have hl2:=hk.same _ _ hl rfl;have hd2:=hk.same _ _ hd rfl;refine ⟨_,run_beginRound hl2 (by rw [hrec]),?_⟩;have hsz:w.heap.size+1<W2.heap.size:=(Array.getElem?_eq_some_iff.1 hl2).1;have hl3:(W2.putObj (w.heap.size+1) (.loop { rec .ready none with state:=.busy })).heap[w.heap.size+1]? = some (.loop { rec .ready none with state:=.busy }):=World.putObj_heap_same hsz;have hd3:(W2.putObj (w.heap.size+1) (.loop { rec .ready none with state:=.busy })).heap[w.heap.size]? = some (.deferred (some [])):=(World.putObj_heap_other (by omega)).trans hd2;refine wpIn_mono (hbody _ i x b _ hi (hF2 W2 _ _ _ hf2 hl2 rfl (Nat.le_succ _)) (hM2 i x b W2 _ _ _ hm hl2 rfl (Nat.le_succ _))) ?_;rintro e2 a3 W3 ⟨hk3,hf3,hp⟩;have hl4:=hk3.same _ _ hl3 rfl;have hd4:=hk3.same _ _ hd3 rfl;rcases hp with ⟨rfl,hi3⟩ | ⟨rfl,hi3⟩
     · have hr:=run_endRound (P:=P) none hl4;refine ⟨_,_,hr,.inl ⟨rfl,⟨hI2 _ W3 _ _ _ hi3 hl4 rfl (Nat.le_succ _),?_,(World.putObj_heap_other (by omega)).trans hd4⟩,hF2 W3 _ _ _ hf3 hl4 rfl (Nat.le_succ _)⟩⟩;rw [World.putObj_heap_same (Array.getElem?_eq_some_iff.1 hl4).1,hrec];rfl
     have hr:=run_endRound (P:=P) (some .ret) hl4;refine ⟨_,_,hr,.inr ⟨rfl,⟨hK2 W3 _ _ _ hi3 hl4 rfl (Nat.le_succ _),?_,(World.putObj_heap_other (by omega)).trans hd4⟩,hF2 W3 _ _ _ hf3 hl4 rfl (Nat.le_succ _)⟩⟩;rw [World.putObj_heap_same (Array.getElem?_eq_some_iff.1 hl4).1,hrec];rfl
   | _=>exact he.elim
 rintro e W2 ⟨⟨v,rfl⟩,⟨hi,hl,hd⟩,hf⟩;exact ⟨some .ret,_,by have:=run_endLoop (P:=P) hl (by rw [hrec];simp);rw [hrec] at this;exact this,hstop _ _ (nRf _) (hK2 _ _ _ _ hi hl rfl (Nat.le_succ _)) (hF2 _ _ _ _ hf hl rfl (Nat.le_succ _)) ((World.putObj_heap_other (by omega)).trans hd)⟩
end
def ch:Nat→Nat→Nat
 | _,0=>1
 | 0,_+1=>0
 | n+1,k+1=>ch n k+ch n (k+1)
theorem ch_zero (n:Nat):ch n 0=1:=by cases n<;>rfl
theorem ch_succ (n k:Nat):ch (n+1) (k+1)=ch n k+ch n (k+1):=rfl
theorem ch_gt:∀ {n k:Nat},n<k→ch n k=0
 | _,0,h=>by omega
 | 0,_+1,_=>rfl
 | n+1,k+1,h=>by rw [ch_succ,ch_gt (show n<k by omega),ch_gt (show n<k+1 by omega)]
theorem ch_self:∀ n:Nat,ch n n=1
 | 0=>rfl
 | n+1=>by rw [ch_succ,ch_self n,ch_gt (Nat.lt_succ_self n)]
theorem ch_absorb:∀ n k:Nat,(k+1)*ch (n+1) (k+1)=(n+1)*ch n k:=by
 intro n
 induction n with
 | zero =>
   intro k;cases k with
   | zero=>rfl
   | succ k=>rw [ch_succ,ch_gt (show 0<k+1 by omega),ch_gt (show 0<k+1+1 by omega)];simp
 | succ n ih =>
   intro k;cases k with
   | zero =>
     have h:=ih 0;rw [ch_zero] at h;rw [ch_succ,ch_zero];omega
   | succ k =>
     have h1:=ih (k+1);have h2:=ih k;rw [ch_succ (n+1) (k+1),Nat.mul_add,h1,ch_succ n k,Nat.mul_add];have e1:(k+1+1)*ch (n+1) (k+1)=(k+1)*ch (n+1) (k+1)+ch (n+1) (k+1):=Nat.succ_mul _ _;rw [ch_succ n k] at e1 h2;have e2:(n+1+1)*ch n k=(n+1)*ch n k+ch n k:=Nat.succ_mul _ _;have e3:(n+1+1)*ch n (k+1)=(n+1)*ch n (k+1)+ch n (k+1):=Nat.succ_mul _ _;rw [← Nat.mul_add,e1,Nat.mul_add (n+1+1),e2,e3];omega
theorem ch_step {n k:Nat} (h:k≤n):ch n k*(n-k)=ch n (k+1)*(k+1):=by
 have h1:=ch_absorb n k;rw [ch_succ,Nat.mul_add] at h1;obtain ⟨m,rfl⟩:∃ m,n=k+m:=⟨n-k,by omega⟩;rw [show k+m-k=m by omega,Nat.mul_comm _ m,Nat.mul_comm _ (k+1)];have e:=Nat.add_mul (k+1) m (ch (k+m) k);rw [show k+m+1=(k+1)+m by omega,e] at h1;omega
theorem ch_symm_add:∀ s a b:Nat,a+b=s→ch s a=ch s b:=by
 intro s
 induction s with
 | zero=>intro a b h;rw [show a=0 by omega,show b=0 by omega]
 | succ s ih =>
   intro a b h;cases a with
   | zero=>rw [show b=s+1 by omega,ch_zero,ch_self]
   | succ a =>
     cases b with
     | zero=>rw [show a=s by omega,ch_zero,ch_self]
     | succ b =>
       rw [ch_succ,ch_succ,ih a (b+1) (by omega),ih (a+1) b (by omega),Nat.add_comm]
theorem ch_symm {n k:Nat} (h:k≤n):ch n k=ch n (n-k):=ch_symm_add n k (n-k) (by omega)
theorem ch_len {n:Nat} (hn:n<18446744073709551616):∀ k,(digs (ch n k)).length≤k+1
 | 0=>by rw [ch_zero];exact digs_length_le.2 (by decide)
 | k + 1 => by
   by_cases h:k≤n
   · have h1:=ch_len hn k;have h2:=ch_step h;have h3:ch n (k+1)≤ch n k*(n-k):=by rw [h2];exact Nat.le_mul_of_pos_right _ (Nat.succ_pos k)
     exact nTr (digs_len_mono h3) (len_mulN h1 (digs_length_le.2 (by rw [Nat.pow_one];omega)))
   rw [ch_gt (by omega)];exact Nat.zero_le _
theorem ch_pos:∀ {n k:Nat},k≤n→0<ch n k
 | n,0,_=>by rw [ch_zero];decide
 | 0,k+1,h=>by omega
 | n+1,k+1,h=>by rw [ch_succ];have:=ch_pos (show k≤n by omega);omega
theorem indexByte_slash:∀ l:List UInt8,Lib.indexByte l 47=if slashL l<l.length then (slashL l:Int) else -1
 | []=>rfl
 | c :: l => by
   have ih:=indexByte_slash l;have hle:=slashL_le l
   by_cases hc:c=47
   · subst hc;rfl
   have e:slashL (c::l)=slashL l+1:=by
    unfold slashL;rw [List.takeWhile_cons_of_pos (by simpa using hc)];rfl
   rw [e];unfold Lib.indexByte;rw [ih];have hb:(c == 47)=false:=by simpa using hc
   by_cases h:slashL l<l.length
   · have h2:slashL l+1<(c::l).length:=by simpa using h
     have e3:((slashL l:Int) == -1)=false:=beq_eq_false_iff_ne.2 (by omega);simp only [hb,hc,h,h2,e3,if_true,if_false,Bool.false_eq_true];omega
   have h2:¬ slashL l+1<(c::l).length:=by simpa using h
   simp only [hb,hc,h,h2,if_true,if_false,Bool.false_eq_true];rfl
theorem index_slash (l:List UInt8):Lib.index l [47]=if slashL l<l.length then (slashL l:Int) else -1:=by rw [Lib.index_one,indexByte_slash]
theorem countFrom_enough:∀ (f g:Nat) (l:List UInt8),l.length<f→l.length<g→Lib.countFrom [47] f l=Lib.countFrom [47] g l
 | 0,_,l,h,_=>by omega
 | _+1,0,l,_,h=>by omega
 | f + 1, g + 1, l, h1, h2 => by
   unfold Lib.countFrom;rw [index_slash]
   by_cases h:slashL l<l.length
   · rw [if_pos h];have e:((slashL l:Int) == -1)=false:=beq_eq_false_iff_ne.2 (by omega);rw [e];have e2:((slashL l:Int)).toNat=slashL l:=by omega
     rw [e2];simp only [Bool.false_eq_true,if_false];rw [countFrom_enough f g (l.drop (slashL l+[(47:UInt8)].length)) (by rw [List.length_drop];simp;omega) (by rw [List.length_drop];simp;omega)]
   rw [if_neg h];rfl
theorem count_none {l:List UInt8} (h:¬ slashL l<l.length):Lib.count l [47]=0:=by
 unfold Lib.count Lib.countFrom;rw [index_slash,if_neg h];rfl
theorem count_some {l:List UInt8} (h:slashL l<l.length):Lib.count l [47]=Lib.count (l.drop (slashL l+1)) [47]+1:=by
 conv=>lhs;unfold Lib.count Lib.countFrom
 rw [index_slash,if_pos h];have e:((slashL l:Int) == -1)=false:=beq_eq_false_iff_ne.2 (by omega);have e2:((slashL l:Int)).toNat=slashL l:=by omega
 rw [e,e2];simp only [Bool.false_eq_true,if_false];unfold Lib.count;rw [countFrom_enough l.length ((l.drop (slashL l+1)).length+1) (l.drop (slashL l+[(47:UInt8)].length)) (by rw [List.length_drop];simp;omega) (by simp)];simp;omega
def pcs (l:List UInt8):List (List UInt8):=Lib.splitK [47] 0 (Lib.count l [47]) l
theorem pcs_none {l:List UInt8} (h:¬ slashL l<l.length):pcs l=[l]:=by
 unfold pcs;rw [count_none h];rfl
theorem pcs_some {l:List UInt8} (h:slashL l<l.length):pcs l=l.take (slashL l)::pcs (l.drop (slashL l+1)):=by
 unfold pcs;rw [count_some h]
 conv=>lhs;unfold Lib.splitK
 rw [index_slash,if_pos h];have e:((slashL l:Int) == -1)=false:=beq_eq_false_iff_ne.2 (by omega);have e2:((slashL l:Int)).toNat=slashL l:=by omega
 rw [e,e2];simp
theorem pcs_len:∀ l:List UInt8,(pcs l).length=Lib.count l [47]+1:=by
 intro l
 induction h:l.length using Nat.strongRecOn generalizing l with
 | _ n ih =>
   by_cases hs:slashL l<l.length
   · rw [pcs_some hs,count_some hs,List.length_cons,ih (l.drop (slashL l+1)).length (by rw [List.length_drop];omega) _ rfl]
   rw [pcs_none hs,count_none hs];rfl
theorem pcs_le:∀ l:List UInt8,∀ x ∈ pcs l,x.length≤l.length:=by
 intro l
 induction h:l.length using Nat.strongRecOn generalizing l with
 | _ n ih =>
   intro x hx
   by_cases hs:slashL l<l.length
   · rw [pcs_some hs] at hx;rcases List.mem_cons.1 hx with h1 | h1
     · subst h1;rw [List.length_take];omega
     have:=ih (l.drop (slashL l+1)).length (by rw [List.length_drop];omega) _ rfl x h1;rw [List.length_drop] at this;omega
   rw [pcs_none hs] at hx;obtain rfl:=List.mem_singleton.1 hx;omega
theorem pcs_many:∀ l:List UInt8,(pcs l).length≤l.length+1:=by
 intro l
 induction h:l.length using Nat.strongRecOn generalizing l with
 | _ n ih =>
   by_cases hs:slashL l<l.length
   · rw [pcs_some hs,List.length_cons];have:=ih (l.drop (slashL l+1)).length (by rw [List.length_drop];omega) _ rfl;rw [List.length_drop] at this;omega
   rw [pcs_none hs];simp
theorem slash_bad {l:List UInt8} (h:slashL l<l.length):okL l=false:=by
 cases hk:okL l with
 | false=>rfl
 | true =>
   have hf:fineL l=true:=by unfold okL at hk;simp only [Bool.and_eq_true] at hk;exact hk.2
   have h1:=(fineL_bytes hf (slashL l) h).1;rw [slashL_at h] at h1;exact absurd h1 (by decide)
def partsP (l:List UInt8):Option (Nat×Nat) :=
 match pcs l with
 | [x]=>if okL x then some (getN x,1) else none
 | [x,y]=>if okL x && okL y then some (getN x,getN y) else none
 | _=>none
theorem partsP_readP (l:List UInt8):readP l=(partsP (bareL l)).map fun p=>(minusL l && decide (p.1≠0),p.1,p.2):=by
 obtain ⟨R,hR⟩:∃ R,bareL l=R:=⟨_,rfl⟩;unfold readP partsP;rw [hR]
 by_cases h1:slashL R<R.length
 · rw [pcs_some h1];obtain ⟨T,hT⟩:∃ T,R.drop (slashL R+1)=T:=⟨_,rfl⟩;rw [hT,if_pos h1]
   by_cases h2:slashL T<T.length
   · rw [slash_bad h2];have h3:=pcs_some h2;have h4:pcs T≠[]:=by rw [h3];simp
     have h5:∃ y z r,pcs T=y::z::r:=by
      rw [h3];cases h6:pcs (T.drop (slashL T+1)) with
      | nil=>have:=pcs_len (T.drop (slashL T+1));rw [h6] at this;simp at this
      | cons z r=>exact ⟨_,z,r,rfl⟩
     obtain ⟨y,z,r,h5⟩:=h5;rw [h5];simp
   rw [pcs_none h2];cases ha:okL (R.take (slashL R))<;>cases hb:okL T<;>simp [ha,hb]
 rw [pcs_none h1,if_neg h1];have e:R.take (slashL R)=R:=List.take_of_length_le (by have:=slashL_le R;omega);rw [e];cases ha:okL R<;>simp [ha]
theorem hasPrefix_minus (l:List UInt8):Lib.hasPrefix l [45]=minusL l:=by
 unfold Lib.hasPrefix minusL;cases l with
 | nil=>rfl
 | cons c l=>simp [List.isPrefixOf];rw [Bool.eq_iff_iff];simp;exact eq_comm
theorem trimPrefix_bare (l:List UInt8):Lib.trimPrefix l [45]=bareL l:=by
 unfold Lib.trimPrefix bareL;rw [hasPrefix_minus];rfl
section
open Go.RowKit Go.ChangeShapes Go.WideShapes Go.ChangeAt
section
variable {H:Type} {enc:TypeId×Value→H} {P:Program} {W:World}
theorem open_plan {t:TypeId} {p0 p1 p2 p3 p4 g0 g1 f0 f1:Field} {e ei:TypeId} {v:Value} {d:DataW H} {ps:List MemPlace} (ht:P.underlying t=some (.struct #[p0,p1,p2,p3,p4])) (o0:p0.offset=0) (o1:p1.offset=1) (o2:p2.offset=2) (o3:p3.offset=5) (o4:p4.offset=6)
 (h0:P.underlying p0.type=some (.int .i64)) (h1:P.underlying p1.type=some (.slice ei)) (hi:P.underlying ei=some (.int .i64)) (h2:P.underlying p2.type=some (.struct #[g0,g1])) (h3:P.underlying p3.type=some (.int .i64)) (h4:P.underlying p4.type=some (.struct #[g0,g1]))
 (q0:g0.offset=0) (q1:g1.offset=2) (hu:P.underlying g0.type=some (.struct #[f0,f1])) (hn':P.underlying g1.type=some (.slice e)) (r0:f0.offset=0) (r1:f1.offset=1)
 (hb:P.underlying f0.type=some .bool) (hn:P.underlying f1.type=some (.slice e)) (he:P.underlying e=some (.int .u64)) (z:P.cellsOf t=9) (z0:P.cellsOf p0.type=1) (z1:P.cellsOf p1.type=1) (z2:P.cellsOf p2.type=3) (z3:P.cellsOf p3.type=1) (z4:P.cellsOf p4.type=3) (zi:P.cellsOf ei=1) (y0:P.cellsOf g0.type=2) (y1:P.cellsOf g1.type=1) (x0:P.cellsOf f0.type=1) (x1:P.cellsOf f1.type=1) (ze:P.cellsOf e=1)
 {r:Reach} {b0:Nat} (hval:Value.okWide P W r b0 t v) (hd:DataW.Trod enc P W 0 (fun _=>true) true t v d ps) :
 ∃ K aT lT cT zT b a1 l1 c1 s1 a2 l2 c2 s2 N b2 a3 l3 c3 s3 a4 l4 c4 s4,v = .agg #[.int .i64 K,.slice aT lT cT,.bool b,.slice a1 l1 c1,.slice a2 l2 c2,.int .i64 N,.bool b2,.slice a3 l3 c3,.slice a4 l4 c4]∧RowIn .i64 W aT lT cT zT∧RowIn .u64 W a1 l1 c1 s1∧RowIn .u64 W a2 l2 c2 s2∧RowIn .u64 W a3 l3 c3 s3∧RowIn .u64 W a4 l4 c4 s4:=by
 obtain ⟨cs,rfl,hsz⟩:=okWide_struct ht hval;rw [z] at hsz
 obtain ⟨c0,c1,c2,c3,c4,c5,c6,c7,c8,rfl⟩:∃ c0 c1 c2 c3 c4 c5 c6 c7 c8,cs=#[c0,c1,c2,c3,c4,c5,c6,c7,c8]:=by
  obtain ⟨l⟩:=cs
  match l,hsz with
  | [c0,c1,c2,c3,c4,c5,c6,c7,c8],_=>exact ⟨c0,c1,c2,c3,c4,c5,c6,c7,c8,rfl⟩
 obtain ⟨fuel,hd⟩:=hd;obtain ⟨xs,n,_,_,hl,hlen,hf⟩:=DataW.trod_struct ht hd
 match xs,hlen with
 | [k0, k1, k2, k3, k4], _ =>
   have e0:=hf 0 p0 rfl;have e1:=hf 1 p1 rfl;have e2:=hf 2 p2 rfl;have e3:=hf 3 p3 rfl;have e4:=hf 4 p4 rfl;rw [o0,z0] at e0;rw [o1,z1] at e1;rw [o2,z2] at e2;rw [o3,z3] at e3;rw [o4,z4] at e4;obtain ⟨K,eK,_⟩:=open_num h0 (c:=c0) e0;obtain ⟨aT,lT,cT,zT,eT,hT⟩:=open_row h1 hi zi (c:=c1) e1;obtain ⟨b,a1,l1,d1,s1,a2,l2,d2,s2,m0,m1,m2,w1,w2⟩:=open_ratioC h2 q0 q1 hu hn' r0 r1 hb hn he y0 y1 x0 x1 ze (c0:=c2) (c1:=c3) (c2:=c4) e2;obtain ⟨N,eN,_⟩:=open_num h3 (c:=c5) e3;obtain ⟨b2,a3,l3,d3,s3,a4,l4,d4,s4,m3,m4,m5,w3,w4⟩:=open_ratioC h4 q0 q1 hu hn' r0 r1 hb hn he y0 y1 x0 x1 ze (c0:=c6) (c1:=c7) (c2:=c8) e4;exact ⟨K,aT,lT,cT,zT,b,a1,l1,d1,s1,a2,l2,d2,s2,N,b2,a3,l3,d3,s3,a4,l4,d4,s4,by rw [eK,eT,m0,m1,m2,eN,m3,m4,m5],hT,w1,w2,w3,w4⟩
end
end
end Go.Proofs.YtkhcblihbalnbaaGreatDoor
