import Derived.Test.YtkhcblihbalnbaaGreatDoorDigits8Pb
import Derived.Test.YtkhcblihbalnbaaGreatDoorNatsPb
import Derived.Test.YtkhcblihbalnbaaGreatDoorLaw06aPb
set_option linter.unusedVariables false
set_option linter.unusedSimpArgs false
set_option maxHeartbeats 4000000
set_option maxRecDepth 100000
namespace Go.Proofs.YtkhcblihbalnbaaGreatDoor
section
open Go.RowKit
theorem pow8_le {x j:Nat} (hx:x<256 ^ j) (hj:j≤8):x<18446744073709551616 :=
 nLt hx (nTr (Nat.pow_le_pow_right (by decide) hj) (by decide))
theorem fb_step {x c j:Nat} (hx:x<256 ^ j) (hj:j<8) (hc:c<256):IntKind.u64.wrap ((x:Int)*256)=((x*256:Nat):Int)∧bits .or .u64 ((x*256:Nat):Int) (c:Int)=((x*256+c:Nat):Int)∧x*256+c<256 ^ (j+1):=by
 have h1:x*256+c<256 ^ (j+1):=by rw [Nat.pow_succ];omega
 have h2:=pow8_le h1 hj;refine ⟨by clear h1 hx;rw [IntKind.wrap_u64];omega,?_,h1⟩;clear h1 hx;have h4:x*256<18446744073709551616:=Nat.lt_of_le_of_lt (Nat.le_add_right _ _) h2;have h5:c<18446744073709551616:=Nat.lt_of_le_of_lt (Nat.le_add_left _ _) h2
 have h3:(x*256) ||| c=x*256+c:=by
  have:=or_add (a:=c) (b:=x) (k:=8) hc;rw [Nat.or_comm,Nat.mul_comm x 256];rw [show (2:Nat) ^ 8=256 by decide] at this;rw [this];omega
 rw [← h3];exact u64_or_nat (x*256) c h4 h5
theorem valL_take_more {L:List Nat} {lo j:Nat} (h:lo+j<L.length):valL 256 ((L.drop lo).take (j+1))=valL 256 ((L.drop lo).take j)*256+D L (lo+j):=by
 have e:(L.drop lo).take (j+1)=(L.drop lo).take j ++ [D L (lo+j)]:=by
  rw [List.take_add_one,List.getElem?_drop,List.getElem?_eq_getElem h];simp [D,List.getD_eq_getElem?_getD,List.getElem?_eq_getElem h]
 rw [e,valL_snoc]
end
section
open Go.RowKit
def RetRead (w:World) (p:Bool×Nat×Nat) (E A:Nat) (e:Ending) (w':World):Prop :=
 ∃ a n c a2 n2 c2,e = .returned (.tuple #[.agg #[.bool p.1,.slice a n c,.slice a2 n2 c2],.agg #[.int .i64 (E:Int),.int .i64 (A:Int)]])∧OwnAt w' w.heap.size a n c (digs p.2.1)∧OwnAt w' w.heap.size a2 n2 c2 (digs p.2.2)∧Below w.heap.size w w'
theorem read_long (s:ByteArray) (w:World) (h:10000<s.size) (hs:s.size≤9223372036854775807) :
 Calls Tryz.prog 33 #[.string s] w (RetRead w (false,0,0) 4 10000):=by
 go_enter Tryz.func33,Tryz.ntmps33
 go_wp2
 refine bodyPost_ret (v:=.tuple #[.agg #[.bool false,.slice none 0 0,.slice none 0 0],.agg #[.int .i64 4,.int .i64 10000]]) (by simp [results,Tryz.results33,go_sem]) rfl ⟨none,0,0,none,0,0,rfl,OwnAt.nil _ _,OwnAt.nil _ _,?_⟩;exact ((bRf _ _).alloc (nRf _) _).alloc (by simp) _
theorem BoxAt.low3 {w w':World} {B b k:Nat} (h:BoxAt w b k) (hb:Below B w w') (hl:b<B):BoxAt w' b k :=
 ⟨fun i hi=>by obtain ⟨v,hv,hu⟩:=h.c i hi;exact ⟨v,(hb.cell (p:=⟨b,i,none⟩) hl).trans hv,hu⟩,fun i hi=>(hb.frozen (p:=⟨b,i,none⟩) hl).trans (h.f i hi)⟩
structure Boxes3 (w0 w:World) (B:Nat):Prop where
 x2:BoxAt w B 3
 x3:BoxAt w (B+1) 2
 q0:w.cell? ⟨B+2,0,none⟩=some (.int .i64 6)
 q1:w.cell? ⟨B+2,1,none⟩=some (.int .i64 0)
 lt:B+2<w.heap.size
 bel:Below B w0 w
theorem Boxes3.past {w0 w w':World} {B:Nat} (h:Boxes3 w0 w B) (hb:Below w.heap.size w w'):Boxes3 w0 w' B:=by
 have l:=h.lt;exact ⟨h.x2.past hb (by omega),h.x3.past hb (by omega),(hb.cell (p:=⟨B+2,0,none⟩) l).trans h.q0,(hb.cell (p:=⟨B+2,1,none⟩) l).trans h.q1,nLt l hb.size,h.bel.trans (hb.mono (by omega))⟩
theorem Boxes3.pushed {w0 w w':World} {B g g' c n:Nat} {f:Nat→List Nat} (h:Boxes3 w0 w B) (hP:Pushed w (B+3) g w' g' c n f) (hg:B+3≤g):Boxes3 w0 w' B:=by
 have hb:=hP.below (bRf (B+3) w) h.lt hg;have hl:B+2<B+3:=by omega
 exact ⟨h.x2.low3 hb (by omega),h.x3.low3 hb (by omega),(hb.cell (p:=⟨B+2,0,none⟩) hl).trans h.q0,(hb.cell (p:=⟨B+2,1,none⟩) hl).trans h.q1,nLt h.lt hb.size,h.bel.trans (hb.mono (by omega))⟩
theorem Boxes3.put {w0 w:World} {B:Nat} (h:Boxes3 w0 w B) (b:Bool) (a:Option Addr) (n c:Nat) (a2:Option Addr) (n2 c2:Nat) (x y:Int):∃ W,(((((w.setCell ⟨B,0,none⟩ (.bool b)).setCell ⟨B,1,none⟩ (.slice a n c)).setCell ⟨B,2,none⟩ (.slice a2 n2 c2)).setCell ⟨B+1,0,none⟩ (.int .i64 x)).setCell ⟨B+1,1,none⟩ (.int .i64 y))=W∧Below B w0 W∧W.cell? ⟨B,0,none⟩=some (.bool b)∧W.cell? ⟨B,1,none⟩=some (.slice a n c)∧W.cell? ⟨B,2,none⟩=some (.slice a2 n2 c2)∧W.cell? ⟨B+1,0,none⟩=some (.int .i64 x)∧W.cell? ⟨B+1,1,none⟩=some (.int .i64 y)∧(∀ B2 a n c l,OwnAt w B2 a n c l→OwnAt W B2 a n c l):=by
 obtain ⟨W,hW,hO,c0,c1,c2,xN⟩:=store3 h.x2 (.bool b) (.slice a n c) (.slice a2 n2 c2) (nu rfl) (nu rfl) (nu rfl);rw [hW];have x3:=hO.box h.x3;obtain ⟨W2,hW2,hO2,d0,d1,xN2⟩:=store2 x3 (.int .i64 x) (.int .i64 y) (nu rfl) (nu rfl);rw [hW2];exact ⟨W2,rfl,hO2.below (by omega) (hO.below (nRf _) h.bel),(hO2.cell (by omega)).trans c0,(hO2.cell (by omega)).trans c1,(hO2.cell (by omega)).trans c2,d0,d1,fun B2 a n c l ho=>hO2.own (hO.own ho)⟩
def PL (PB:List ByteArray) (i:Nat):List UInt8:=(PB.getD i ⟨#[]⟩).data.toList
theorem PL_get (PB:List ByteArray) (i:Nat):PL PB i=(PB.map (·.data.toList)).getD i []:=by
 unfold PL;rw [List.getD_eq_getElem?_getD,List.getD_eq_getElem?_getD,List.getElem?_map];cases PB[i]? <;> rfl
theorem partsP_bad {R:List UInt8} {L:List (List UInt8)} (hL:L=pcs R) {i:Nat} (hi:i<L.length) (hk:okL (L.getD i [])=false):partsP R=none:=by
 unfold partsP;rw [← hL]
 match L,hi,hk with
 | [],hi,hk=>rfl
 | [x], hi, hk =>
   obtain rfl:i=0:=by simpa using hi
   simp at hk;simp [hk]
 | [x, y], hi, hk =>
   have h2:i=0∨i=1:=by simp at hi;omega
   rcases h2 with rfl | rfl
   · simp at hk;simp [hk]
   simp at hk;simp [hk]
 | _::_::_::_,hi,hk=>rfl
theorem partsP_many {R:List UInt8} {L:List (List UInt8)} (hL:L=pcs R) (hi:2<L.length):partsP R=none:=by
 unfold partsP;rw [← hL]
 match L,hi with
 | [],hi=>rfl
 | [x],hi=>simp at hi
 | [x,y],hi=>simp at hi
 | _::_::_::_,hi=>rfl
theorem partsP_fine {R:List UInt8} {L:List (List UInt8)} (hL:L=pcs R) (h1:1≤L.length) (h2:L.length≤2) (hk:∀ i,i<L.length→okL (L.getD i [])=true):partsP R=some (getN (L.getD 0 []),if L.length=1 then 1 else getN (L.getD 1 [])):=by
 unfold partsP;rw [← hL]
 match L,h1,h2,hk with
 | [],h1,_,_=>simp at h1
 | [x], _, _, hk =>
   have a:=hk 0 (by simp);simp at a;simp [a]
 | [x, y], _, _, hk =>
   have a:=hk 0 (by simp);have b:=hk 1 (by simp);simp at a b;simp [a,b]
 | _::_::_::_,_,h2,_=>simp at h2
theorem told_none {l:List UInt8} (hl:l.length≤10000) (h:readP l=none):readR l=(false,0,0)∧readE l=6∧readA l=0:=by
 have e:readR l=(false,0,0):=by unfold readR;rw [if_pos hl,h]
 refine ⟨e,?_,?_⟩
 · unfold readE readOk;rw [if_neg (by omega),e];rfl
 unfold readA;rw [if_neg (by omega)]
theorem told_bad {l:List UInt8} {p:Bool×Nat×Nat} (hl:l.length≤10000) (h:readP l=some p) (hk:partsOk l p=false):readR l=(false,0,0)∧readE l=6∧readA l=0:=by
 have e:readR l=(false,0,0):=by unfold readR;rw [if_pos hl,h];simp [hk]
 refine ⟨e,?_,?_⟩
 · unfold readE readOk;rw [if_neg (by omega),e];rfl
 unfold readA;rw [if_neg (by omega)]
theorem told_yes {l:List UInt8} {p:Bool×Nat×Nat} (hl:l.length≤10000) (h:readP l=some p) (hk:partsOk l p=true):readR l=p∧readE l=0∧readA l=0:=by
 have e:readR l=p:=by unfold readR;rw [if_pos hl,h];simp [hk]
 refine ⟨e,?_,?_⟩
 · unfold readE readOk;rw [if_neg (by omega),e];unfold partsOk at hk;simp only [Bool.and_eq_true,decide_eq_true_eq] at hk;rw [if_pos (by simpa using hk.1.1)]
 unfold readA;rw [if_neg (by omega)]
theorem chkR_parts {B:Bool} {N d:Nat} (hB:B=true→N≠0):chkR B (digs N) (digs d)=if d≠0∧Nat.gcd N d=1 then 0 else 6:=by
 have e1:neg (sg B N)=B:=by
  rw [neg_sg];cases B
  · rfl
  have:=hB rfl;simp;omega
 have e2:=chkZ_canon (sg B N);rw [e1,natAbs_sg] at e2;unfold chkR;have e3:digs d≠[] ↔ d≠0:=by rw [ne_eq,digs_eq_nil]
 simp only [e2,chk_top.2 (top_digs d),e3,val_digs,true_and]
theorem partsOk_chk {l:List UInt8} {B:Bool} {N d:Nat} (hB:B=true→N≠0):partsOk l (B,N,d)=(decide (chkR B (digs N) (digs d)=0) && decide (textP B N d=l)):=by
 rw [chkR_parts hB];unfold partsOk
 by_cases h1:d≠0<;>by_cases h2:Nat.gcd N d=1<;>simp [h1,h2]
theorem val10_len {K:Nat} {L:List Nat} (hd:∀ d ∈ L,d<10) (h:L.length≤K):(digs (valL 10 L)).length≤K:=by
 refine digs_length_le.2 ?_;exact nLt (valL_lt (b:=10) L hd) (nTr (Nat.pow_le_pow_left (by decide) _) (Nat.pow_le_pow_right (by decide) h))
theorem getN_len (l:List UInt8):(digs (getN l)).length≤10000:=by
 unfold getN
 split
 · rename_i h;unfold okL at h;simp only [Bool.and_eq_true,decide_eq_true_eq] at h;have hf:=fineL_bytes h.2;refine val10_len ?_ (by unfold dvals;rw [List.length_map];exact h.1);intro d hd;unfold dvals at hd;obtain ⟨c,hc,rfl⟩:=List.mem_map.1 hd;obtain ⟨j,hj,rfl⟩:=List.getElem_of_mem hc;have:=hf j hj;unfold L8 at this;rw [List.getD_eq_getElem?_getD,List.getElem?_eq_getElem hj] at this;simp at this;omega
 rw [digs_zero]
 decide
def ReadI (w:World) (gp z:Nat) (PB:List ByteArray) (s7 s30:Value) (wr:World):Prop :=
 ∃ k g cap:Nat,k≤2∧k≤PB.length∧s30 = .int .i64 (k:Int)∧s7 = .slice (some ⟨g,0,none⟩) k cap∧Nats wr (w.heap.size+3) g cap k (fun i=>digs (getN (PL PB i)))∧g≠gp∧(∀ i,i<k→okL (PL PB i)=true)∧(∀ i,i<PB.length→wr.cell? ⟨gp,i,none⟩=some (.string (PB.getD i ⟨#[]⟩)))∧Boxes3 w wr w.heap.size∧gp<wr.heap.size∧z≤wr.heap.size
theorem read_short (s:ByteArray) (w:World) (h:s.size≤10000) (m:Int) (hm:w.cell? ⟨2,0,none⟩=some (.int .i64 m)) :
 Calls Tryz.prog 33 #[.string s] w (RetRead w (readR s.data.toList) (readE s.data.toList) (readA s.data.toList)):=by
 have hmb:=World.block_lt_of_cell? w ⟨2,0,none⟩ hm;have HS:=hiD h;have hcut:=fun w=>Tryz.strings_CutPrefix s ⟨#[45]⟩ w
 rw [show (⟨#[45]⟩:ByteArray).data.toList=[45] from rfl,trimPrefix_bare,hasPrefix_minus] at hcut;obtain ⟨R,hR⟩:∃ R:ByteArray,R=⟨(bareL s.data.toList).toArray⟩:=⟨_,rfl⟩;obtain ⟨M,hM⟩:∃ M,minusL s.data.toList=M:=⟨_,rfl⟩;rw [← hR,hM] at hcut;have HCUT:=hiD hcut;have HR:=hiD hR;have HM:=hiD hM;have tS:decide ((10000:Int)<(s.size:Int))=false:=decide_eq_false (by omega);have hRs:R.data.toList=bareL s.data.toList:=by rw [hR]
 have hRl:R.size≤10000:=by
  rw [← size_list,hRs];unfold bareL;have:=size_list s
  split
  · rw [List.length_drop];omega
  omega
 obtain ⟨PB,hPB⟩:∃ PB,Lib.splitB ⟨#[47]⟩ 0 (Lib.countB R ⟨#[47]⟩) R=PB:=⟨_,rfl⟩
 have hPL:PB.map (·.data.toList)=pcs (bareL s.data.toList):=by
  rw [← hPB,Lib.splitB_data,hRs];unfold pcs Lib.countB;rw [hRs]
 have hPn:PB.length=Lib.countB R ⟨#[47]⟩+1:=by
  have e1:=congrArg List.length hPL;rw [List.length_map,pcs_len] at e1;rw [e1];unfold Lib.countB;rw [hRs]
 have hPs:∀ i,i<PB.length→(PB.getD i ⟨#[]⟩).size≤10000:=by
  intro i hi
  have h1:(PB.getD i ⟨#[]⟩).data.toList ∈ pcs (bareL s.data.toList):=by
   rw [← hPL];refine List.mem_map.2 ⟨PB.getD i ⟨#[]⟩,?_,rfl⟩;rw [List.getD_eq_getElem?_getD,List.getElem?_eq_getElem hi];exact List.getElem_mem _
  have h2:=pcs_le _ _ h1;rw [size_list,← hRs,size_list] at h2;omega
 have hsp:=fun w hm=>Tryz.strings_Split R ⟨#[47]⟩ m w (by omega) hm (by decide)
 simp only [hPB,← hPn] at hsp;have HSP:=hiD hsp;have HPL:=hiD hPL;have HPS:=hiD hPs;have HRS:=hiD hRs;have hP1:1≤PB.length:=by omega
 have hP2:PB.length≤10001:=by
  have e1:=congrArg List.length hPL;rw [List.length_map] at e1;have e2:=pcs_many (bareL s.data.toList);rw [← hRs,size_list] at e2;rw [← hRs] at e1;omega
 clear hcut hR hM hsp hPL hPs hPn hPB hRs
 go_enter Tryz.func33,Tryz.ntmps33
 go_wp2_with fail
 obtain ⟨wA,hWA,zA,hbA,qA,fA⟩:=box1g w (w.heap.size) rfl #[.bool false,.slice none 0 0,.slice none 0 0] 28;rw [hWA];obtain ⟨wB,hWB,zB,hbB,qB,fB⟩:=box1g wA (w.heap.size+1) (by omega) #[.int .i64 0,.int .i64 0] 67;rw [hWB];obtain ⟨wC,hWC,zC,hbC,qC,fC⟩:=box1g wB (w.heap.size+1+1) (by omega) #[.int .i64 6,.int .i64 0] 67;rw [hWC]
 have hX:Boxes3 w wC w.heap.size:=by
  have b2:BoxAt wA w.heap.size 3:=BoxAt.of qA fA rfl (by simp [notU_bool,notU_slice]);have b3:BoxAt wB (w.heap.size+1) 2:=BoxAt.of qB fB rfl (by simp [notU_i64]);exact ⟨(b2.past hbB (by omega)).past hbC (by omega),b3.past hbC (by omega),qC 0,qC 1,by omega,bLt (bLt hbA hbB) hbC⟩
 have hmC:=(hX.bel.cell (p:=⟨2,0,none⟩) hmb).trans hm;clear qA fA qB fB qC fC hWA hWB hWC zA zB zC hbA hbB hbC;refine (HCUT.out _).mono ?_;rintro e w' ⟨rfl,hw'⟩;obtain rfl:wC=w':=hw'.symm;have hgC:w.heap.size+3≤wC.heap.size:=hX.lt
 go_wp2_with fail
 have hN0:Nats (wC.alloc (.cells #[] 24)) (w.heap.size+3) wC.heap.size 0 0 (fun i=>digs (getN (PL PB i))) :=
  ⟨[],World.ownsRow_lit wC #[] 0 hgC (by simp) rfl,fun i hi=>by omega⟩
 obtain ⟨wD,hWD,zD,hbD,qD,fD⟩:=box1g wC wC.heap.size rfl #[] 24;rw [hWD] at hN0 ⊢;have hX:=hX.past hbD;have hmD:=(hbD.cell (p:=⟨2,0,none⟩) (World.block_lt_of_cell? _ _ hmC)).trans hmC;clear qD fD hWD;refine (HSP.out wD hmD).mono ?_;rintro e w' ⟨rfl,hw'⟩;obtain ⟨wE,hWE,zE,hbE,qE,fE⟩:=box1g wD wD.heap.size rfl (PB.map Value.string).toArray 9;rw [hWE] at hw';obtain rfl:wE=w':=hw'.symm;have hX:=hX.past hbE;have hN0:=hN0.past hbE
 have hcE:∀ i,i<PB.length→wE.cell? ⟨wD.heap.size,i,none⟩=some (.string (PB.getD i ⟨#[]⟩)):=by
  intro i hi;rw [qE i];simp [List.getD_eq_getElem?_getD,hi]
 have hI0:ReadI w wD.heap.size wE.heap.size PB (.slice (some ⟨wC.heap.size,0,none⟩) 0 0) (.int .i64 0) wE :=
  ⟨0,wC.heap.size,0,by decide,Nat.zero_le _,rfl,rfl,hN0,by omega,fun i hi=>by omega,hcE,hX,by omega,nRf _⟩
 have HI0:=hiD hI0;obtain ⟨gp,hgp⟩:∃ gp,wD.heap.size=gp:=⟨_,rfl⟩;obtain ⟨gc,hgc⟩:∃ gc,wC.heap.size=gc:=⟨_,rfl⟩;obtain ⟨ze,hze⟩:∃ ze,wE.heap.size=ze:=⟨_,rfl⟩;rw [hgp,hgc,hze] at HI0;rw [hgp,hgc];clear hmC hX hN0 hcE hI0 qE fE hWE hmD zD zE hbD hbE hgp hgc hze hgC
 go_wp2_with fail
 go_loopw [7,30] (fun s7 s30 wr=>ReadI w gp ze PB s7 s30 wr) (fun _ s30 _=>PB.length-(intOf s30).toNat)
 case atStart=>exact HI0.out
 case round =>
  clear HI0;obtain ⟨k,g,cap,hk2,hkl,rfl,rfl,hN,hgg,hok,hcl,hX,hgl,hzl⟩:=hrel;have hNl:=hN.lt
  by_cases hlt:k<PB.length
  · have hck:=hcl k hlt;have hps:=HPS.out k hlt;have hPLk:(PB.getD k ⟨#[]⟩).data.toList=PL PB k:=rfl;have hg:=fun w=>get_any (PB.getD k ⟨#[]⟩) w (by omega)
    rw [hPLk] at hg;obtain ⟨P,hP⟩:∃ P,PB.getD k ⟨#[]⟩=P:=⟨_,rfl⟩;rw [hP] at hck hg;have HCL:=hiD hcl;have HOK:=hiD hok;have HPLK:=hiD hPLk;have HPP:=hiD hP;obtain ⟨N,hNe⟩:∃ N,getN (PL PB k)=N:=⟨_,rfl⟩;obtain ⟨E,hEe⟩:∃ E,getE (PL PB k)=E:=⟨_,rfl⟩;obtain ⟨A,hAe⟩:∃ A,getA (PL PB k)=A:=⟨_,rfl⟩;rw [hNe,hEe,hAe] at hg;have HG:=hiD hg;have HNE:=hiD hNe;have HEE:=hiD hEe;clear hg hcl hok hPLk hP hps hNe hEe hAe
    go_wp2_with fail
    refine (HG.out _).mono ?_;rintro e w5 ⟨a5,n5,c5,rfl,h5,hb5⟩;have hN:=hN.past hb5;have hX:=hX.past hb5;have hzw:=hb5.size
    by_cases hE:E=0
    · have tE:((E:Int) != 0)=false:=bne_eq_false_iff_eq.2 (by omega);have HE0:=hiD hE;clear hE
      by_cases hk:k=2
      · have tk:((k:Int) == 2)=true:=beq_iff_eq.2 (by omega);have HK:=hiD hk;clear hk hk2
        go_wp2_with fail
        obtain ⟨wZ,hWZ,zZ,hbZ,qZ,fZ⟩:=box1g w5 w5.heap.size rfl #[.int .i64 (E:Int),.int .i64 (A:Int)] 67;rw [hWZ];have hX:=hX.past hbZ;have q2a:=hX.q0;have q2b:=hX.q1;obtain ⟨u0,u1,u2,r0,r1,r2,p0,p1,p2,n0,n1,n2⟩:=hX.x2.three;obtain ⟨u3,u4,r3,r4,p3,p4,n3,n4⟩:=hX.x3.two
        go_region
        obtain ⟨wY,hWY,hbY,y0,y1,y2,y3,y4,_⟩:=hX.put false none 0 0 none 0 0 6 0;rw [hWY];clear hWY
        go_wp2_with fail
        refine bodyPost_ret (v:=.tuple #[.agg #[.bool false,.slice none 0 0,.slice none 0 0],.agg #[.int .i64 6,.int .i64 0]]) (by simp [results,Tryz.results33,go_sem,y0,y1,y2,y3,y4]) rfl ?_;have hl:s.data.toList.length≤10000:=by rw [size_list];exact HS.out
        have hno:readP s.data.toList=none:=by
         rw [partsP_readP,partsP_many HPL.out (by rw [List.length_map];have:=HK.out;omega)];rfl
        obtain ⟨e1,e2,e3⟩:=told_none hl hno;rw [e1,e2,e3];exact ⟨none,0,0,none,0,0,rfl,OwnAt.nil _ _,OwnAt.nil _ _,hbY.drew⟩
      have tk:((k:Int) == 2)=false:=beq_eq_false_iff_ne.2 (by omega);have HK:Hid (k<2):=hiD (by omega);have hal:=fun w=>(bRf w.heap.size w).alloc (nRf _) (.cells #[.int .i64 (E:Int),.int .i64 (A:Int)] 67)
      have hal2:=fun w=>(bRf w.heap.size w).alloc (nRf _) (.cells #[.slice a5 n5 c5] 24)
      have hN':=(hN.past (hal _)).past (hal2 _);have hX2:=(hX.past (hal _)).past (hal2 _);have h5':=(h5.past (hal _)).past (hal2 _);have hbb:=bLt hb5 (bLt (hal _) (hal2 _));have h5o:=h5'.mono (B':=w.heap.size+3) (by omega);have h5a:=h5'.apart hNl.2;have hs2:g<((w5.alloc (.cells #[.int .i64 (E:Int),.int .i64 (A:Int)] 67)).alloc (.cells #[.slice a5 n5 c5] 24)).heap.size:=hN'.lt.2
      have hbx:((w5.alloc (.cells #[.int .i64 (E:Int),.int .i64 (A:Int)] 67)).alloc (.cells #[.slice a5 n5 c5] 24)).cell? ⟨w5.heap.size+1,0,none⟩=some (.slice a5 n5 c5):=by
       have e:=lit_cell (w5.alloc (.cells #[.int .i64 (E:Int),.int .i64 (A:Int)] 67)) (.slice a5 n5 c5) 24
       rwa [show (w5.alloc (.cells #[.int .i64 (E:Int),.int .i64 (A:Int)] 67)).heap.size=w5.heap.size+1 by simp] at e
      clear hal hal2 hN h5 hX h5'
      go_wp2_with (at_builtin;refine wpList_push_nats rfl (.tmp 49) (.tmp 51) rfl (w.heap.size+3) g cap k (fun i=>digs (getN (PL PB i))) rfl hN' (w5.heap.size+1) a5 n5 c5 (digs N) rfl hbx h5o h5a (by omega) ?_;intro g9 c9 w9 hP)
      generalize ((w5.alloc (.cells #[.int .i64 (E:Int),.int .i64 (A:Int)] 67)).alloc (.cells #[.slice a5 n5 c5] 24))=wq at *;have hX9:=hX2.pushed hP hNl.1
      have hlow:∀ b,b<wr.heap.size→b≠g→∀ i,w9.cell? ⟨b,i,none⟩=wr.cell? ⟨b,i,none⟩:=by
       intro b hb hbg i;rw [World.cell?_of_block (w:=wq) (hP.grown.block b (nLt hb hbb.size) (fun e=>hbg (by injection e)))];exact hbb.cell (p:=⟨b,i,none⟩) hb
      have hg9:g9≠gp:=by
       rcases hP.where_ with h1 | h1
       · rw [h1];exact hgg
       rw [h1];have:=hbb.size;omega
      have hz9:wr.heap.size≤w9.heap.size:=nTr hbb.size hP.grown.size
      have hrow:Nats w9 (w.heap.size+3) g9 c9 (k+1) (fun i=>digs (getN (PL PB i))):=hP.row.congr (fun i hi=>by
       by_cases e:i=k
       · rw [if_pos e,e,HNE.out]
       rw [if_neg e])
      have hokk:okL (PL PB k)=true:=(getE_ok _).1 (by rw [HEE.out];exact HE0.out);have HLT:=hiD hlt;have HRW:=hiD hrow;have HX9:=hiD hX9;have HLW:=hiD hlow;have HG9:=hiD hg9;have HZ9:=hiD hz9;clear hrow hX9 hlow hg9 hz9 hP hX2 hN' h5o h5a hs2 hbb hbx
      go_wp2_with fail
      go_roundw
      case measure=>have:=HLT.out;simp [intOf]<;>omega
      case rel =>
       refine ⟨k+1,g9,c9,by have:=HK.out;omega,by have:=HLT.out;omega,by go_num,rfl,HRW.out,HG9.out,?_,?_,HX9.out,by have:=HZ9.out;omega,by have:=HZ9.out;omega⟩
       · intro i hi
         by_cases e:i=k
         · rw [e];exact hokk
         exact HOK.out i (by omega)
       intro i hi;rw [HLW.out gp hgl (fun e=>hgg e.symm) i];exact HCL.out i hi
    have tE:((E:Int) != 0)=true:=bne_iff_ne.2 (by omega);have HNO:=hiD hE;clear hE
    go_wp2_with fail
    obtain ⟨wZ,hWZ,zZ,hbZ,qZ,fZ⟩:=box1g w5 w5.heap.size rfl #[.int .i64 (E:Int),.int .i64 (A:Int)] 67;rw [hWZ];have hX:=hX.past hbZ;have q2a:=hX.q0;have q2b:=hX.q1;obtain ⟨u0,u1,u2,r0,r1,r2,p0,p1,p2,n0,n1,n2⟩:=hX.x2.three;obtain ⟨u3,u4,r3,r4,p3,p4,n3,n4⟩:=hX.x3.two
    go_region
    obtain ⟨wY,hWY,hbY,y0,y1,y2,y3,y4,_⟩:=hX.put false none 0 0 none 0 0 6 0;rw [hWY];clear hWY
    go_wp2_with fail
    refine bodyPost_ret (v:=.tuple #[.agg #[.bool false,.slice none 0 0,.slice none 0 0],.agg #[.int .i64 6,.int .i64 0]]) (by simp [results,Tryz.results33,go_sem,y0,y1,y2,y3,y4]) rfl ?_;have hl:s.data.toList.length≤10000:=by rw [size_list];exact HS.out
    have hno:readP s.data.toList=none:=by
     rw [partsP_readP,partsP_bad HPL.out (i:=k) (by rw [List.length_map];exact hlt) (by rw [← PL_get];have:=getE_ok (PL PB k);rw [HEE.out] at this;cases hq:okL (PL PB k) with | false=>rfl | true=>exact absurd (this.2 hq) HNO.out)]
     rfl
    obtain ⟨e1,e2,e3⟩:=told_none hl hno;rw [e1,e2,e3];exact ⟨none,0,0,none,0,0,rfl,OwnAt.nil _ _,OwnAt.nil _ _,hbY.drew⟩
  have HKL:Hid (PB.length=k):=hiD (by omega);have hk1:1≤k:=by omega
  have hszr:w.heap.size+3≤wr.heap.size:=by omega
  have hal:=fun w=>(bRf w.heap.size w).alloc (nRf _) (.cells #[.int .u64 1] 109)
  have hal2:=fun w=>(bRf w.heap.size w).alloc (nRf _) (.cells #[.slice (some ⟨wr.heap.size,0,none⟩) 1 1] 24)
  have h1:=(lit1 (E:=109) wr 1 1 rfl (by decide)).past (hal2 _);have hN':=(hN.past (hal _)).past (hal2 _);have hX2:=(hX.past (hal _)).past (hal2 _);have h1o:=h1.mono (B':=w.heap.size+3) (by omega);have h1a:=h1.apart hNl.2
  have hbx:((wr.alloc (.cells #[.int .u64 1] 109)).alloc (.cells #[.slice (some ⟨wr.heap.size,0,none⟩) 1 1] 24)).cell? ⟨wr.heap.size+1,0,none⟩=some (.slice (some ⟨wr.heap.size,0,none⟩) 1 1):=by
   have e:=lit_cell (wr.alloc (.cells #[.int .u64 1] 109)) (.slice (some ⟨wr.heap.size,0,none⟩) 1 1) 24
   rwa [show (wr.alloc (.cells #[.int .u64 1] 109)).heap.size=wr.heap.size+1 by simp] at e
  have hnk:¬ (k:Int)<(PB.length:Int):=by omega
  clear hal hal2 hN hX h1
  go_wp2_with (at_builtin;refine wpList_push_nats rfl (.tmp 54) (.tmp 56) rfl (w.heap.size+3) g cap k (fun i=>digs (getN (PL PB i))) rfl hN' (wr.heap.size+1) (some ⟨wr.heap.size,0,none⟩) 1 1 [1] rfl hbx h1o h1a (by omega) ?_;intro g9 c9 w9 hP)
  have hX9:=hX2.pushed hP hNl.1;have hrow:=hP.row;obtain ⟨a0,n0,c0,hc0,h0,_⟩:=hrow.get (i:=0) (by omega);obtain ⟨a1,n1,c1,hc1,h1,_⟩:=hrow.get (i:=1) (by omega);have hgl9:=hrow.lt.2;obtain ⟨N,hN0⟩:∃ N,getN (PL PB 0)=N:=⟨_,rfl⟩;obtain ⟨d,hd⟩:∃ d,(if PB.length=1 then 1 else getN (PL PB 1))=d:=⟨_,rfl⟩;rw [if_neg (by omega),hN0] at h0
  have h1:OwnAt w9 (w.heap.size+3) a1 n1 c1 (digs d):=by
   rw [← hd]
   by_cases e:1=k
   · rw [if_pos e] at h1;rw [if_pos (by omega)];exact h1
   rw [if_neg e] at h1;rw [if_neg (by omega)];exact h1
  have hn0:n0≤10000:=by rw [← h0.len,← hN0];exact getN_len _
  have hn1:n1≤10000:=by
   rw [← h1.len,← hd]
   split
   · decide
   exact getN_len _
  have hrp:readP s.data.toList=some (M && decide (N≠0),N,d):=by
   have e:=partsP_fine HPL.out (by rw [List.length_map];exact hP1) (by rw [List.length_map];omega) (by
    intro i hi;rw [← PL_get];rw [List.length_map] at hi;exact hok i (by have:=HKL.out;omega))
   rw [← PL_get,← PL_get,List.length_map,hd,hN0] at e;rw [partsP_readP,e,HM.out];rfl
  have HRP:=hiD hrp;have hB:=hX9.bel;have hR:=bRf w9.heap.size w9;have HX9:=hiD hX9;clear hrp hX9 hP hrow hX2 hN' h1o h1a hbx hcl hok hN0 hd;have hmk:=fun w (h:NatAt w a0 n0 c0 (digs N))=>make_any M a0 n0 c0 (digs N) w h (by omega)
  simp only [val_digs] at hmk;have HMK:=hiD hmk;clear hmk
  -- R15
  go_wp2_with fail
  have szW:=hB.size;refine wp_region_inv (by kernel_rfl) rfl (by kernel_rfl) (fun A0 V0 dd aa ww=>∃ (blk:Nat→Nat) (y58 y59 y60 y61 y62 y63 y64 y65 y66 y12:Value),aa=puts A0 [(58,y58),(59,y59),(60,y60),(61,y61),(62,y62),(63,y63),(64,y64),(65,y65),(66,y66),(12,y12)]∧Below V0.heap.size V0 ww∧Boxes [(9,3)] V0.heap.size dd blk ww∧Shut (dd 0=true→y58 = .bool M)∧Shut (dd 1=true→y59 = .slice (some ⟨g9,0,none⟩) (k+1) c9)∧Shut (dd 2=true→y60 = .pointer (some ⟨g9,0,none⟩))∧Shut (dd 3=true→y61 = .slice a0 n0 c0)∧Shut (dd 4=true→CopyV V0.heap.size (neg (sg M N)) (digs (sg M N).natAbs) y62 ww)∧Shut (dd 5=true→y63 = .slice (some ⟨g9,0,none⟩) (k+1) c9)∧Shut (dd 6=true→y64 = .pointer (some ⟨g9,1,none⟩))∧Shut (dd 7=true→y65 = .slice a1 n1 c1)∧Shut (dd 8=true→y66=bld [y62,y65])∧Shut (dd 9=true→y12 = .pointer (some ⟨blk 9,0,none⟩))∧Shut (dd 10=true→HoldsV dd 9 8 (blk 9) y66 ww)) ?_ ?_ ?_
  · exact ⟨fun _=>0,_,_,_,_,_,_,_,_,_,_,puts_self _ [58,59,60,61,62,63,64,65,66,12],(bRf _ _).drew,Boxes.none _ _ _ _,nf,nf,nf,nf,nf,nf,nf,nf,nf,nf,nf⟩
  · refine Steps.cons ?_ (Steps.cons ?_ (Steps.cons ?_ (Steps.cons ?_ (Steps.cons ?_ (Steps.cons ?_ (Steps.cons ?_ (Steps.cons ?_ (Steps.cons ?_ (Steps.cons ?_ (Steps.cons ?_ (Steps.nil)))))))))))
    all_goals (intro dd aa ww K hc hun hn hI hK;obtain ⟨blk,y58,y59,y60,y61,y62,y63,y64,y65,y66,y12,ea,hb,hX,f0,f1,f2,f3,f4,f5,f6,f7,f8,f9,f10⟩:=hI;subst ea;simp only [pu])
    · go_simp;exact hK.out _ _ ⟨blk,_,_,_,_,_,_,_,_,_,_,by simp only [pu]<;>rfl,hb,hX.same 0 rfl,fun _=>rfl,uo f1,uo f2,uo f3,uo f4,uo f5,uo f6,uo f7,uo f8,uo f9,fun h=>(f10.out (upd_of rfl h)).same 0⟩
    · go_simp;exact hK.out _ _ ⟨blk,_,_,_,_,_,_,_,_,_,_,by simp only [pu]<;>rfl,hb,hX.same 1 rfl,uo f0,fun _=>rfl,uo f2,uo f3,uo f4,uo f5,uo f6,uo f7,uo f8,uo f9,fun h=>(f10.out (upd_of rfl h)).same 1⟩
    · obtain rfl:=f1.out (hc.see hn);go_simp;exact hK.out _ _ ⟨blk,_,_,_,_,_,_,_,_,_,_,by simp only [pu]<;>rfl,hb,hX.same 2 rfl,uo f0,fun h=>rfl,fun _=>rfl,uo f3,uo f4,uo f5,uo f6,uo f7,uo f8,uo f9,fun h=>(f10.out (upd_of rfl h)).same 2⟩
    · obtain rfl:=f2.out (hc.see hn);have e0:=(hb.cell (p:=⟨g9,0,none⟩) hgl9).trans hc0;go_simp;exact hK.out _ _ ⟨blk,_,_,_,_,_,_,_,_,_,_,by simp only [pu]<;>rfl,hb,hX.same 3 rfl,uo f0,uo f1,fun h=>rfl,fun _=>rfl,uo f4,uo f5,uo f6,uo f7,uo f8,uo f9,fun h=>(f10.out (upd_of rfl h)).same 3⟩
    · obtain rfl:=f0.out (hc.see hn);obtain rfl:=f3.out (hc.see hn);go_simp
      with_reducible refine (HMK.out _ (h0.past hb).toNatAt).mono ?_
      rintro e w1 ⟨ahU,nhU,chU,rfl,hU,h1⟩;exact hK.out _ _ ⟨blk,_,_,_,_,_,_,_,_,_,_,by simp only [pu]<;>rfl,bLt hb h1,hX.past h1 4 rfl,fun h=>rfl,uo f1,uo f2,fun h=>rfl,fun _=>⟨_,_,_,rfl,hU.mono hb.size⟩,uo f5,uo f6,uo f7,hc.a hun,uo f9,fun h=>(f10.out (upd_of rfl h)).past h1 4⟩
    · go_simp;exact hK.out _ _ ⟨blk,_,_,_,_,_,_,_,_,_,_,by simp only [pu]<;>rfl,hb,hX.same 5 rfl,uo f0,uo f1,uo f2,uo f3,uo f4,fun _=>rfl,uo f6,uo f7,uo f8,uo f9,fun h=>(f10.out (upd_of rfl h)).same 5⟩
    · obtain rfl:=f5.out (hc.see hn);have tk1:(1:Int)<(k:Int)+1:=by omega
      have tk2:1<k+1:=by omega
      have tk3:0<k:=by omega
      have tk4:decide ((1:Int)<(k:Int)+1)=true:=decide_eq_true tk1;go_simp;exact hK.out _ _ ⟨blk,_,_,_,_,_,_,_,_,_,_,by simp only [pu]<;>rfl,hb,hX.same 6 rfl,uo f0,uo f1,uo f2,uo f3,uo f4,fun h=>rfl,fun _=>rfl,uo f7,uo f8,uo f9,fun h=>(f10.out (upd_of rfl h)).same 6⟩
    · obtain rfl:=f6.out (hc.see hn);have e1:=(hb.cell (p:=⟨g9,1,none⟩) hgl9).trans hc1;go_simp;exact hK.out _ _ ⟨blk,_,_,_,_,_,_,_,_,_,_,by simp only [pu]<;>rfl,hb,hX.same 7 rfl,uo f0,uo f1,uo f2,uo f3,uo f4,uo f5,fun h=>rfl,fun _=>rfl,hc.a hun,uo f9,fun h=>(f10.out (upd_of rfl h)).same 7⟩
    · obtain ⟨ahU,nhU,chU,ex,hU⟩:=f4.out (hc.see hn);subst ex;obtain rfl:=f7.out (hc.see hn);go_simp;exact hK.out _ _ ⟨blk,_,_,_,_,_,_,_,_,_,_,by simp only [pu]<;>rfl,hb,hX.same 8 rfl,uo f0,uo f1,uo f2,uo f3,uo f4,uo f5,uo f6,fun h=>rfl,fun _=>rfl,uo f9,fun h=>absurd (HoldsV.vp (f10.out (upd_of rfl h))) (by rw [hun];decide)⟩
    · go_simp;exact hK.out _ _ ⟨setB blk 9 ww.heap.size,_,_,_,_,_,_,_,_,_,_,by simp only [pu]<;>rfl,below_alloc hb _,hX.new hb.size 9 #[.bool false,.slice none 0 0,.slice none 0 0] _ rfl (by simp [notU_bool,notU_slice,notU_i64]),uo f0,uo f1,uo f2,uo f3,fun h=>(f4.out (upd_of rfl h)).past ((bRf _ _).alloc (nRf _) _),uo f5,uo f6,uo f7,uo f8,fun _=>rfl,fun h=>absurd (HoldsV.up (f10.out (upd_of rfl h))) (by rw [hun];decide)⟩
    obtain rfl:=f9.out (hc.see hn);obtain ⟨ahU,nhU,chU,ex,hU⟩:=f4.out (hc.see hn);subst ex;obtain rfl:=f7.out (hc.see hn);have ex:y66 = .agg #[.bool (neg (sg M N)),.slice ahU nhU chU,.slice a1 n1 c1]:=f8.out (hc.see hn);subst ex;have hd9:dd 9=true:=hc.see hn;have hv8:dd 8=true:=hc.see hn;obtain ⟨x1,x2,x3⟩:=hX.at_ (9,3) (by simp) hd9;obtain ⟨v0,v1,v2,z0,z1,z2,z3,z4,z5,_,_,_⟩:=x3.three;have hv:∀ v ∈ ([.bool (neg (sg M N)),.slice ahU nhU chU,.slice a1 n1 c1]:List Value),notU v:=by simp [notU_bool,notU_slice,notU_i64]
    go_simp;exact hK.out _ _ ⟨blk,_,_,_,_,_,_,_,_,_,_,by simp only [pu]<;>rfl,hb.trans (below_setCells _ _ x1 [.bool (neg (sg M N)),.slice ahU nhU chU,.slice a1 n1 c1] 0 _),(hX.sets [.bool (neg (sg M N)),.slice ahU nhU chU,.slice a1 n1 c1] _ 0 _ hv).same 10 rfl,uo f0,uo f1,uo f2,uo f3,fun h=>((f4.out (upd_of rfl h)).sets [.bool (neg (sg M N)),.slice ahU nhU chU,.slice a1 n1 c1] x3 (by simp) hv),uo f5,uo f6,fun h=>rfl,fun h=>rfl,fun h=>rfl,fun _=>(HoldsV.new hd9 hv8 x2 x3 [.bool (neg (sg M N)),.slice ahU nhU chU,.slice a1 n1 c1] (by simp)).same 10⟩
  intro dd aa w21 hd hI;obtain ⟨blk,y58,y59,y60,y61,y62,y63,y64,y65,y66,y12,ea,hb,hX,f0,f1,f2,f3,f4,f5,f6,f7,f8,f9,f10⟩:=hI;obtain rfl:=f0.out (hd 0 (by simp));obtain rfl:=f1.out (hd 1 (by simp));obtain rfl:=f2.out (hd 2 (by simp));obtain rfl:=f3.out (hd 3 (by simp));obtain ⟨ahU,nhU,chU,ex,hU⟩:=f4.out (hd 4 (by simp));subst ex;obtain rfl:=f5.out (hd 5 (by simp));obtain rfl:=f6.out (hd 6 (by simp));obtain rfl:=f7.out (hd 7 (by simp));have ex:y66 = .agg #[.bool (neg (sg M N)),.slice ahU nhU chU,.slice a1 n1 c1]:=f8.out (hd 8 (by simp));subst ex;obtain rfl:=f9.out (hd 9 (by simp));obtain ⟨vs10,e,h10⟩:=f10.out (hd 10 (by simp));cases e;have lx:=h10.lt;have qx0:=h10.at_ 0 (by simp);simp only [lgZ,lgS] at qx0;have qx1:=h10.at_ 1 (by simp);simp only [lgZ,lgS] at qx1;have qx2:=h10.at_ 2 (by simp);simp only [lgZ,lgS] at qx2;generalize blk 9=Bx at *;subst ea;simp only [pu];have hU:=hU.mono szW;have h0:=h0.past hb;have h1:=h1.past hb;have hB:=bLt hB hb;have hR:=bLt hR hb;clear hX;clear hb hd
  -- R16
  have hXq:=HX9.out.past hR;have HX:=hiD hXq;rw [natAbs_sg] at hU
  have eB:neg (sg M N)=(M && decide (N≠0)):=by
   rw [neg_sg]
   by_cases e:N=0
   · subst e;simp
   have e2:0<N:=Nat.pos_of_ne_zero e;simp [e,e2]
  rw [eB] at qx0;obtain ⟨Z,hZ⟩:∃ Z,(M && decide (N≠0))=Z:=⟨_,rfl⟩
  have hZN:Z=true→N≠0:=by
   intro e;rw [← hZ] at e;simp at e;exact e.2
  have HZN:=hiD hZN;rw [hZ] at qx0;rw [hZ] at HRP;have lU:=hU.len;have lN:nhU≤10000:=by rw [← h0.len] at hn0;omega
  have htx:=fun w g1 g2=>text_any Z ahU nhU chU (digs N) a1 n1 c1 (digs d) w g1 g2 (by omega) (by omega)
  clear hXq eB hZ hZN lU h0 hR
  by_cases hc:chkR Z (digs N) (digs d)=0
  · have hT:textE Z (digs N) (digs d)=textB Z N d:=by
     unfold textE;rw [if_pos hc,val_digs,val_digs]
    simp only [hT,hc] at htx;obtain ⟨T,hTT⟩:∃ T,textB Z N d=T:=⟨_,rfl⟩;rw [hTT] at htx;have HTX:=hiD htx;have HTT:=hiD hTT;have HC:=hiD hc;clear htx hTT hT hc
    by_cases hs:T=s
    · subst hs
      go_wp2_with fail
      refine (HTX.out _ hU.toNatAt h1.toNatAt).mono ?_;rintro e w22 ⟨rfl,hb⟩;have hU:=hU.past hb;have h1:=h1.past hb;have qx0:=bq hb lx qx0;have qx1:=bq hb lx qx1;have qx2:=bq hb lx qx2;have hX:=HX.out.past hb;obtain ⟨u0,u1,u2,r0,r1,r2,p0,p1,p2,m0,m1,m2⟩:=hX.x2.three;obtain ⟨u3,u4,r3,r4,p3,p4,m3,m4⟩:=hX.x3.two
      go_wp2_with fail
      obtain ⟨wY,hWY,hbY,y0,y1,y2,y3,y4,hown⟩:=hX.put Z ahU nhU chU a1 n1 c1 0 0;rw [hWY];refine bodyPost_ret (v:=.tuple #[.agg #[.bool Z,.slice ahU nhU chU,.slice a1 n1 c1],.agg #[.int .i64 0,.int .i64 0]]) (by simp [results,Tryz.results33,go_sem,y0,y1,y2,y3,y4]) rfl ?_;have hl:T.data.toList.length≤10000:=by rw [size_list];exact HS.out
      have hte:textP Z N d=T.data.toList:=by rw [← HTT.out,textB_list]
      obtain ⟨e1,e2,e3⟩:=told_yes hl HRP.out (by rw [partsOk_chk HZN.out,HC.out,hte];simp);rw [e1,e2,e3];exact ⟨ahU,nhU,chU,a1,n1,c1,rfl,hown _ _ _ _ _ hU,(hown _ _ _ _ _ h1).mono (by omega),hbY⟩
    have HTS:=hiD hs
    have tT:(T.toList == s.toList)=false:=by
     rw [beq_eq_false_iff_ne];intro e;rw [toList_data,toList_data] at e;exact hs (by cases T;cases s;congr 1;exact Array.toList_inj.1 e)
    clear hs
    go_wp2_with fail
    refine (HTX.out _ hU.toNatAt h1.toNatAt).mono ?_;rintro e w22 ⟨rfl,hb⟩;have hU:=hU.past hb;have h1:=h1.past hb;have qx0:=bq hb lx qx0;have qx1:=bq hb lx qx1;have qx2:=bq hb lx qx2
    go_wp2_with fail
    have hX:=HX.out.past hb;have q2a:=hX.q0;have q2b:=hX.q1;obtain ⟨u0,u1,u2,r0,r1,r2,p0,p1,p2,m0,m1,m2⟩:=hX.x2.three;obtain ⟨u3,u4,r3,r4,p3,p4,m3,m4⟩:=hX.x3.two
    go_region
    obtain ⟨wY,hWY,hbY,y0,y1,y2,y3,y4,_⟩:=hX.put false none 0 0 none 0 0 6 0;rw [hWY];clear hWY
    go_wp2_with fail
    refine bodyPost_ret (v:=.tuple #[.agg #[.bool false,.slice none 0 0,.slice none 0 0],.agg #[.int .i64 6,.int .i64 0]]) (by simp [results,Tryz.results33,go_sem,y0,y1,y2,y3,y4]) rfl ?_;have hl:s.data.toList.length≤10000:=by rw [size_list];exact HS.out
    obtain ⟨e1,e2,e3⟩:=told_bad hl HRP.out (by rw [partsOk_chk HZN.out];have:textP Z N d≠s.data.toList:=(by intro e;apply HTS.out;rw [← HTT.out];unfold textB;rw [e]);simp [this]);rw [e1,e2,e3];exact ⟨none,0,0,none,0,0,rfl,OwnAt.nil _ _,OwnAt.nil _ _,hbY.drew⟩
  have hT:textE Z (digs N) (digs d)=⟨#[]⟩:=if_neg hc;simp only [hT,chkR_no hc] at htx;have HTX:=hiD htx;have HC:=hiD hc;clear htx hT hc
  go_wp2_with fail
  refine (HTX.out _ hU.toNatAt h1.toNatAt).mono ?_;rintro e w22 ⟨rfl,hb⟩;have qx0:=bq hb lx qx0;have qx1:=bq hb lx qx1;have qx2:=bq hb lx qx2
  go_wp2_with fail
  have hX:=HX.out.past hb;have q2a:=hX.q0;have q2b:=hX.q1;obtain ⟨u0,u1,u2,r0,r1,r2,p0,p1,p2,m0,m1,m2⟩:=hX.x2.three;obtain ⟨u3,u4,r3,r4,p3,p4,m3,m4⟩:=hX.x3.two
  go_region
  obtain ⟨wY,hWY,hbY,y0,y1,y2,y3,y4,_⟩:=hX.put false none 0 0 none 0 0 6 0;rw [hWY];clear hWY
  go_wp2_with fail
  refine bodyPost_ret (v:=.tuple #[.agg #[.bool false,.slice none 0 0,.slice none 0 0],.agg #[.int .i64 6,.int .i64 0]]) (by simp [results,Tryz.results33,go_sem,y0,y1,y2,y3,y4]) rfl ?_;have hl:s.data.toList.length≤10000:=by rw [size_list];exact HS.out
  obtain ⟨e1,e2,e3⟩:=told_bad hl HRP.out (by rw [partsOk_chk HZN.out];have:=HC.out;simp [this]);rw [e1,e2,e3];exact ⟨none,0,0,none,0,0,rfl,OwnAt.nil _ _,OwnAt.nil _ _,hbY.drew⟩
theorem read_any (s:ByteArray) (w:World) (hs:s.size≤9223372036854775807) (m:Int) (hm:w.cell? ⟨2,0,none⟩=some (.int .i64 m)) :
 Calls Tryz.prog 33 #[.string s] w (RetRead w (readR s.data.toList) (readE s.data.toList) (readA s.data.toList)):=by
 by_cases h:10000<s.size
 · have hl:10000<s.data.toList.length:=by rw [size_list];exact h
   have e1:readR s.data.toList=(false,0,0):=by unfold readR;rw [if_neg (by omega)]
   have e2:readE s.data.toList=4:=if_pos hl;have e3:readA s.data.toList=10000:=if_pos hl;rw [e1,e2,e3];exact read_long s w h hs
 exact read_short s w (by omega) m hm
end
section
open Go.RowKit
def MaxL (w:World):Prop:=∃ m:Int,w.cell? ⟨2,0,none⟩=some (.int .i64 m)
theorem MaxL.later {w w':World} (h:MaxL w) (hb:Below w.heap.size w w'):MaxL w':=by
 obtain ⟨m,hm⟩:=h;exact ⟨m,(hb.cell (p:=⟨2,0,none⟩) (World.block_lt_of_cell? _ _ hm)).trans hm⟩
end
section
open Go.RowKit
theorem bytesAt_row {w:World} {a:Option Addr} {len cap:Nat} {zs:List Int} (h:RowIn .u8 w a len cap zs):BytesAt w a len cap (digitsOf zs len):=by
 rcases h with ⟨rfl,rfl,rfl,rfl⟩ | ⟨x,rfl,h1,h2,h3,h4,h5⟩
 · exact BytesAt.nil w
 have hz:∀ n ∈ zs,0≤n∧n<256:=by
  intro n hn;have:=h5 n hn;simp only [Lit.wf,IntKind.min,IntKind.max,IntKind.signed,IntKind.bits,Bool.and_eq_true,decide_eq_true_eq] at this;obtain ⟨t1,t2⟩:=this;simp at t1 t2;omega
 have hlen:(digitsOf zs len).length=len:=by simp [digitsOf];omega
 refine ⟨hlen,h1,h2,?_,?_,fun e=>by cases e⟩
 · intro d hd;obtain ⟨n,hn,rfl⟩:=List.mem_map.1 hd;have:=hz n (List.mem_of_mem_take hn);omega
 by_cases h0:len=0
 · exact .inl h0
 have hc0:=h4 0 (by omega)
 have hsp:x.spot=none:=by
  rw [show x.add 0=x from rfl] at hc0;unfold World.cell? at hc0
  split at hc0
  · cases hs:x.spot with
    | none=>rfl
    | some s=>simp [hs] at hc0
  simp at hc0
 obtain ⟨b,o,s⟩:=x;cases hsp;refine .inr ⟨b,o,rfl,fun i hi => ?_⟩;have hc:=h4 i (by omega);rw [addr_add] at hc;rw [hc];have hi':i<zs.length:=by omega
 have hD:((D (digitsOf zs len) i:Nat):Int)=zs.getD i 0:=by
  unfold D digitsOf;rw [List.getD_eq_getElem?_getD,List.getElem?_map,List.getElem?_take,if_pos hi,List.getElem?_eq_getElem hi',List.getD_eq_getElem?_getD,List.getElem?_eq_getElem hi'];have:=hz zs[i] (List.getElem_mem hi');simp;omega
 rw [hD]
end
end Go.Proofs.YtkhcblihbalnbaaGreatDoor
