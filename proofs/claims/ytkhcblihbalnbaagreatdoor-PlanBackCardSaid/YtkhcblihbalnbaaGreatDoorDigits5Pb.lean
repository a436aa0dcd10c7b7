import Derived.Test.YtkhcblihbalnbaaGreatDoorDigits4Pb
import Derived.Test.YtkhcblihbalnbaaGreatDoorDigIter2Pb
import Derived.Test.YtkhcblihbalnbaaGreatDoorTimes2Pb
import Derived.Test.YtkhcblihbalnbaaGreatDoorLimbs3Pb
set_option linter.unusedVariables false
set_option linter.unusedSimpArgs false
set_option maxHeartbeats 8000000
set_option maxRecDepth 100000
namespace Go.Proofs.YtkhcblihbalnbaaGreatDoor
open Go.RowKit Go.Shelf
attribute [local go_sem] Oper.semAt_some
def RetGet (w:World) (N E A:Nat) (e:Ending) (w':World):Prop :=
 ∃ a n c,e = .returned (.tuple #[.slice a n c,.agg #[.int .i64 (E:Int),.int .i64 (A:Int)]])∧OwnAt w' w.heap.size a n c (digs N)∧Below w.heap.size w w'
def GetM (B0 B1 Bd:Nat) (w:World) (s:ByteArray) (c bS bN:Nat) (i:Nat) (x:Array Value) (b:Act) (W:World):Prop :=
 ∃ a',BytesAt W a' (chk19 s.size i) (chk19 s.size i) (((nums s.data.toList).drop (19*i)).take (chk19 s.size i))∧b={ tmps:=#[.string s,undef,.slice none 0 0,.pointer (some ⟨B0,0,none⟩),.int .i64 (s.size:Int),.pointer (some ⟨B1,0,none⟩),.slice a' (chk19 s.size i) (chk19 s.size i),undef,undef,undef,undef,.string s,.int .i64 (s.size:Int),.bool false,undef,.string s,.int .i64 (s.size:Int),.int .i64 (s.size:Int),.string s,.int .i64 (s.size:Int),.bool false,.bool false,.string s,.bool false,.bool false,undef,undef,.string s,.slice (some ⟨Bd,0,none⟩) s.size c,.func (.func 169) #[] #[.pointer (some ⟨bS,0,none⟩),.pointer (some ⟨bN,0,none⟩)],.slice a' (chk19 s.size i) (chk19 s.size i),undef,undef,undef,undef,undef,undef,undef,undef,undef,undef,undef,undef,undef,undef,undef,undef,undef,undef,undef,undef,undef,undef,undef],defers:=[] }∧GetI B0 B1 w s.data.toList i W
theorem get_yes (s:ByteArray) (w:World) (hok:okL s.data.toList=true) :
 Calls Tryz.prog 76 #[.string s] w (RetGet w (getN s.data.toList) 0 0):=by
 have hlen:s.data.toList.length≤10000:=by unfold okL at hok;simp only [Bool.and_eq_true,decide_eq_true_eq] at hok;exact hok.1
 have hfine:fineL s.data.toList=true:=by unfold okL at hok;simp only [Bool.and_eq_true] at hok;exact hok.2
 have hform:formL s.data.toList=s.size:=by unfold fineL at hfine;simp only [Bool.and_eq_true,decide_eq_true_eq] at hfine;rw [hfine.1,size_list]
 have hne:=fineL_ne hfine;have hbytes:=fineL_bytes hfine;rw [size_list] at hlen;have hs0:0<s.size:=by rw [← size_list];exact List.length_pos_iff.2 hne
 have hbig:decide ((10000:Int)<(s.size:Int))=false:=decide_eq_false (by omega)
 have hemp:s.toList.isEmpty=false:=by
  rw [toList_data,List.isEmpty_eq_false_iff];exact hne
 have hff:=fun w=>form_any s w hlen
 rw [hform] at hff;have hres:getN s.data.toList=valL 10 (dvals s.data.toList):=by unfold getN;rw [if_pos hok]
 have HFF:=hiD hff;have HBY:=hiD hbytes;have HRES:=hiD hres;clear hff hform hne hfine hbytes hres hok;refine (callsIn_wide (n:=3)).1 ?_;refine callsIn_of_wp_marks Tryz.func76 rfl trivial ?_ rfl;simp only [Tryz.ntmps76,List.size_toArray,List.length_cons,List.length_nil,Nat.reduceAdd,Nat.reduceSub,Array.replicate_succ,Array.replicate_zero,List.push_toArray,List.append_toArray,List.nil_append,List.cons_append]
 gi_wp2_with fail
 obtain ⟨wA,hwA⟩:∃ wA,w.alloc (.cells #[.int .i64 0,.int .i64 0] 67)=wA:=⟨_,rfl⟩;have hbA:Below w.heap.size w wA:=by rw [← hwA];exact (bRf _ _).alloc (nRf _) _
 have qA:wA.cell? ⟨w.heap.size,0,none⟩=some (.int .i64 0)∧wA.cell? ⟨w.heap.size,1,none⟩=some (.int .i64 0):=by constructor<;>(rw [← hwA,World.cell?_alloc_at _ _ _ _ rfl];rfl)
 have fA:wA.frozen? ⟨w.heap.size,0,none⟩=false∧wA.frozen? ⟨w.heap.size,1,none⟩=false:=by constructor<;>(rw [← hwA];exact World.frozen?_alloc_at _ _ _ _ rfl)
 have sA:wA.heap.size=w.heap.size+1:=by rw [← hwA];simp
 rw [hwA];have SA:=hiD sA;have QA:=hiD (And.intro qA fA);clear hwA sA qA fA;refine ⟨trivial,?_⟩;refine (callsIn_wide.2 (HFF.out _)).mono ?_;rintro e w1 ⟨rfl,hb1⟩;have hb01:=bLt hbA hb1;have hs1:wA.heap.size≤w1.heap.size:=hb1.size;obtain ⟨w2,hw2⟩:∃ w2,w1.alloc (.cells #[.slice none 0 0] 24)=w2:=⟨_,rfl⟩;have hb2:Below w1.heap.size w1 w2:=by rw [← hw2];exact (bRf _ _).alloc (nRf _) _
 have q2:w2.cell? ⟨w1.heap.size,0,none⟩=some (.slice none 0 0):=by rw [← hw2,World.cell?_alloc_at _ _ _ _ rfl];rfl
 have f2:w2.frozen? ⟨w1.heap.size,0,none⟩=false:=by rw [← hw2];exact World.frozen?_alloc_at _ _ _ _ rfl
 have s2:w2.heap.size=w1.heap.size+1:=by rw [← hw2];simp
 obtain ⟨c,w3,hcv,hby,hb3,hc1,hc2⟩:=bytes_conv_at s w2 (by omega)
 have hI3:GetI w.heap.size w1.heap.size w s.data.toList 0 w3:=by
  have h0:=hb1.trans (hb2.mono hs1);have h1:=hb3.mono hb2.size;have l0:w.heap.size<wA.heap.size:=by have:=SA.out;omega
  have l1:w1.heap.size<w2.heap.size:=by omega
  have lz:w.heap.size<w1.heap.size:=by omega
  have cc:=fun k=>(hb3.cell (p:=⟨w.heap.size,k,none⟩) (show w.heap.size<w2.heap.size by omega)).trans ((hb2.cell (p:=⟨w.heap.size,k,none⟩) lz).trans (hb1.cell (p:=⟨w.heap.size,k,none⟩) l0))
  have cf:=fun k=>(hb3.frozen (p:=⟨w.heap.size,k,none⟩) (show w.heap.size<w2.heap.size by omega)).trans ((hb2.frozen (p:=⟨w.heap.size,k,none⟩) lz).trans (hb1.frozen (p:=⟨w.heap.size,k,none⟩) l0))
  refine ⟨none,0,0,(hb3.cell (p:=⟨w1.heap.size,0,none⟩) l1).trans q2,(hb3.frozen (p:=⟨w1.heap.size,0,none⟩) l1).trans f2,OwnAt.nil _ _,(cc 0).trans QA.out.1.1,(cc 1).trans QA.out.1.2,(cf 0).trans QA.out.2.1,(cf 1).trans QA.out.2.2,lz,nLt l1 hb3.size,?_⟩;exact bLt (bLt hb01 hb2) hb3
 have HI3:=hiD hI3;have HBYT:=hiD hby;have hz3:=hb3.size;have HS2:=hiD s2;clear hb01 hb1 q2 f2 hI3 hby hb2 hb3 hbA QA s2
 gi_wp2_with fail
 clear hw2;refine ⟨trivial,?_⟩;refine (callsIn_wide.2 (chunk_any _ _ _ _)).mono ?_;rintro e w4 ⟨rfl,hw4⟩;have hb4:Below w3.heap.size w3 w4:=by rw [← hw4];exact ((bRf _ _).alloc (nRf _) _).alloc (by simp) _
 have q4:w4.cell? ⟨w3.heap.size,0,none⟩=some (.slice (some ⟨w2.heap.size,0,none⟩) s.size c):=by
  rw [← hw4,World.cell?_alloc_lt _ _ ⟨w3.heap.size,0,none⟩ (by simp),World.cell?_alloc_at _ _ _ _ rfl];rfl
 have q5:w4.cell? ⟨w3.heap.size+1,0,none⟩=some (.int .i64 19):=by
  rw [← hw4,World.cell?_alloc_at _ _ _ _ (by simp)];rfl
 have s4:w4.heap.size=w3.heap.size+2:=by rw [← hw4];simp
 have hfix:FixChunk w3.heap.size (w3.heap.size+1) (some ⟨w2.heap.size,0,none⟩) s.size c (nums s.data.toList) w4:=⟨q4,q5,HBYT.out.past hb4⟩;have hI0:=HI3.out.past hb4;have HS4:=hiD s4;clear hcv hw4 q4 q5 hb4 HI3 HBYT s4;obtain ⟨bS,hbSe⟩:∃ bS,w3.heap.size=bS:=⟨_,rfl⟩;obtain ⟨B1,hB1e⟩:∃ B1,w1.heap.size=B1:=⟨_,rfl⟩;rw [hB1e] at hI0 HS2 hs1 ⊢;rw [hbSe] at hfix HS4 hz3 ⊢;have HB:=hiD (show B1<w2.heap.size∧w2.heap.size≤bS∧w.heap.size<B1 from by have:=SA.out;have:=HS2.out;omega);clear hbSe hB1e hz3 hs1
 gi_wp2_with fail
 refine wpIn_roundsF (by decide) rfl (enters_of Tryz.func169 (by kernel_rfl) rfl) (N:=(s.size+18)/19) (Ok:=OkChunk (nums s.data.toList) s.size) (Fix:=FixChunk bS (bS+1) (some ⟨w2.heap.size,0,none⟩) s.size c (nums s.data.toList)) ?_ (chunk1_hands bS (bS+1) _ s.size c _ hlen) (fun _ _ h hb=>h.past hb) (fun W l o o' h hl ho _=>h.turn o' hl ho) hfix
  (fun i W=>GetI w.heap.size B1 w s.data.toList i W) (GetM w.heap.size B1 w2.heap.size w s c bS (bS+1))
  (fun i W W' h hb=>h.past hb) (fun i W l o o' h hl ho hB=>h.turn o' hl ho (by have:=HB.out;have:=HS4.out;omega)) ?_ hI0 ?_ ?_ ?_
 · rintro i x W ⟨a',hx,_⟩;rw [hx];rfl
 · intro i x b W l o o' h hl ho hB;obtain ⟨a',e1,e2,e3⟩:=h;exact ⟨a',e1.turn o' hl ho,e2,e3.turn o' hl ho (by have:=HB.out;have:=HS4.out;omega)⟩
 · rintro lp i x W hi1 hI hF ⟨a',rfl,hx⟩;have hall:=And.intro (KeepsOthers.refl W) (And.intro hF (⟨a',hx,rfl,hI⟩:GetM w.heap.size B1 w2.heap.size w s c bS (bS+1) i #[.slice a' (chk19 s.size i) (chk19 s.size i)] _ W))
   gi_wp2
   first | exact hall | exact hall.2.2
 · rintro lp i x b W hi1 hF ⟨a',hx,rfl,hI⟩;obtain ⟨m,hm⟩:∃ m,chk19 s.size i=m:=⟨_,rfl⟩;have hm2:0<m∧m≤19∧19*i+m≤s.size∧(19*i+m=s.size∨m=19):=by unfold chk19 at hm;omega
   rw [hm] at hx ⊢
   have hcellx:∀ j,j<m→∃ b o,a'=some ⟨b,o,none⟩∧W.cell? ⟨b,o+j,none⟩=some (.int .u8 ((L8 s.data.toList (19*i+j):Nat):Int)):=by
    intro j hj;rcases hx.cell with h' | ⟨b,o,e,hc⟩
    · omega
    refine ⟨b,o,e,?_⟩;rw [hc j hj,D_take hj,D_drop_Byt2,D_nums]
   have HCX:=hiD hcellx;have HF:=hiD hF;have HI:=hiD hI;have HM2:=hiD hm2;clear hx hcellx hF hI hm hm2
   gi_wp2_with fail
   gi_loopw [7,8,33] (fun s7 s8 s33 wq=>∃ (j x:Nat),j≤m∧s33 = .int .i64 (j:Int)∧s7 = .int .u64 (x:Int)∧s8 = .int .u64 ((10 ^ j:Nat):Int)∧x<10 ^ j∧valL 10 (dvals (s.data.toList.take (19*i+j)))=valL 10 (dvals (s.data.toList.take (19*i)))*10 ^ j+x∧wq=W) (fun _ _ s33 _=>m-(intOf s33).toNat)
   case atStart=>exact ⟨0,0,Nat.zero_le _,rfl,rfl,rfl,by decide,by simp,rfl⟩
   case round =>
    obtain ⟨j,x,hj,rfl,rfl,rfl,hxl,hv,hwq⟩:=hrel;have hwq2:W=wr:=hwq.symm;subst hwq2
    by_cases hlt:j<m
    · obtain ⟨b,o,rfl,hcell⟩:=HCX.out j hlt;have hdg:=HBY.out (19*i+j) (by rw [size_list];have:=HM2.out;omega);have hst:=dvals_take s.data.toList (19*i+j) (by rw [size_list];have:=HM2.out;omega);obtain ⟨X,hX⟩:∃ X,L8 s.data.toList (19*i+j)=X:=⟨_,rfl⟩;rw [hX] at hcell hdg hst;have hX1:=hdg.1;have hX2:=hdg.2.1
      have hp:10 ^ j≤1000000000000000000:=by
       have:=Nat.pow_le_pow_right (n:=10) (by decide) (show j≤18 by have:=HM2.out;omega)
       rwa [show (10:Nat) ^ 18=1000000000000000000 by decide] at this
      have hv2:valL 10 (dvals (s.data.toList.take (19*i+(j+1))))=valL 10 (dvals (s.data.toList.take (19*i)))*10 ^ (j+1)+(10*x+(X-48)):=by
       rw [← Nat.add_assoc,hst,hv,Nat.pow_succ,← Nat.mul_assoc,Nat.add_mul];omega
      have hx2:10*x+(X-48)<10 ^ (j+1):=by rw [Nat.pow_succ];omega
      have eX:(X:Int)-48=((X-48:Nat):Int):=by omega
      have eP:10*((10 ^ j:Nat):Int)=((10 ^ (j+1):Nat):Int):=by rw [Nat.pow_succ];omega
      obtain ⟨P,hP⟩:∃ P,10 ^ j=P:=⟨_,rfl⟩;rw [hP] at hp hxl eP ⊢;have HV2:=hiD hv2;have HX2:=hiD hx2;have EX:=hiD eX;have EP:=hiD eP;have HLT:=hiD hlt;have hm19:j≤19:=by have:=HM2.out;omega
      have HX48:=hiD hX1;clear hdg hst hX hv hv2 hx2 eX eP hP
      gi_wp2_with fail
      go_roundw
      case measure=>have:=HLT.out;simp [intOf]<;>omega
      case rel=>exact ⟨j+1,10*x+(X-48),by have:=HLT.out;omega,by go_num,by have:=HX48.out;congr 1;omega,by rw [EP.out],HX2.out,HV2.out,by trivial⟩
    obtain rfl:j=m:=by omega
    obtain ⟨a5,n5,c5,k1,k2,k3,k4,k5,k6,k7,k8,k9,k10⟩:=HI.out
    have hpw:10 ^ j<18446744073709551616:=by
     have:=Nat.pow_le_pow_right (n:=10) (by decide) HM2.out.2.1;rw [show (10:Nat) ^ 19=10000000000000000000 by decide] at this;omega
    have hvl:valL 10 (dvals (s.data.toList.take (19*i)))<18446744073709551616 ^ i:=by
     have:=valL_lt (b:=10) (dvals (s.data.toList.take (19*i))) (fun d hd=>by
      unfold dvals at hd;obtain ⟨ch,hch,rfl⟩:=List.mem_map.1 hd;obtain ⟨q,hq,rfl⟩:=List.mem_iff_getElem.1 (List.mem_of_mem_take hch);have:=HBY.out q hq;unfold L8 at this;rw [List.getD_eq_getElem?_getD,List.getElem?_eq_getElem hq] at this;simp only [Option.getD_some] at this;omega)
     refine nLt this ?_;have e:(dvals (s.data.toList.take (19*i))).length≤19*i:=by simp [dvals];omega
     refine nTr (Nat.pow_le_pow_right (by decide) e) ?_;rw [Nat.pow_mul];exact Nat.pow_le_pow_left (by decide) _
    have hn5:n5≤10000:=by
     have h1:=digs_length_le.2 hvl;rw [k3.len] at h1;omega
    obtain ⟨V,hV⟩:∃ V,valL 10 (dvals (s.data.toList.take (19*i)))=V:=⟨_,rfl⟩;obtain ⟨P,hP⟩:∃ P,10 ^ j=P:=⟨_,rfl⟩
    have hnext:s.data.toList.take (19*i+j)=s.data.toList.take (19*(i+1)):=by
     rcases HM2.out.2.2.2 with h1 | h1
     · rw [List.take_of_length_le (by rw [size_list];omega),List.take_of_length_le (by rw [size_list];have:=HM2.out.2.2.1;have:=HM2.out.2.1;omega)]
     rw [h1,Nat.mul_succ]
    rw [hnext] at hv;rw [hV] at hv k3;rw [hP] at hpw hxl hv ⊢;have HV:=hiD hv;have HPW:=hiD hpw;have K3:=hiD k3;have HXL:=hiD hxl;have hxl2:x<18446744073709551616:=by omega
    have HXL2:=hiD hxl2;clear hv hvl hV hP hnext hpw k3 hxl hxl2 HCX hlt
    gi_wp2_with fail
    refine ⟨trivial,?_⟩;refine (CallsIn.inRound lp (callsIn_wide.2 (tgrow_any _ _ _ _ P _ K3.out.toNatAt (by omega) HPW.out))).mono ?_;rintro e W2 ⟨a6,n6,c6,rfl,h6,hb6⟩
    gi_wp2_with fail
    refine ⟨trivial,?_⟩;refine (CallsIn.inRound lp (callsIn_wide.2 (of_any x _ HXL2.out))).mono ?_;rintro e W3 ⟨a7,n7,c7,rfl,h7,hb7⟩;have h6:=h6.later hb7 (nRf _);have hb7:=bLt hb6 hb7
    have hl6:n6≤20000:=by
     have h1:=h6.len;rw [val_digs] at h1
     have h2:(digs (V*P)).length≤(digs V).length+1:=by
      refine digs_length_le.2 ?_;have h3:=val_lt (dig_digs V);rw [val_digs] at h3;rw [Nat.pow_succ];exact Nat.mul_lt_mul_of_lt_of_le h3 (nOf HPW.out) (by decide)
     have h4:=K3.out.len;omega
    have hl7:n7≤1:=by
     have h1:=h7.len;have h2:(digs x).length≤1:=digs_length_le.2 (by rw [Nat.pow_one];exact HXL2.out);omega
    gi_wp2_with fail
    refine ⟨trivial,?_⟩;refine (CallsIn.inRound lp (callsIn_wide.2 (add_any _ _ _ _ _ _ _ _ _ h6.toNatAt h7.toNatAt (by omega) (by omega)))).mono ?_;rintro e W4 ⟨a8,n8,c8,rfl,h8,hb8⟩;have hb8W:=bLt hb7 hb8;have hz7:=hb7.size;rw [val_digs,val_digs,val_digs,← HV.out] at h8;have qB:=(hb8W.cell (p:=⟨B1,0,none⟩) k9).trans k1;have fB:=(hb8W.frozen (p:=⟨B1,0,none⟩) k9).trans k2;have H8:=hiD (h8.mono hz7);have HB8:=hiD hb8W;clear h6 h7 h8 hb6 hb7 hb8 hb8W hl6 hl7;have hI2:GetI w.heap.size B1 w s.data.toList (i+1) (W4.setCell ⟨B1,0,none⟩ (.slice a8 n8 c8)):=HI.out.store HB8.out H8.out;have hF2:FixChunk bS (bS+1) (some ⟨w2.heap.size,0,none⟩) s.size c (nums s.data.toList) (W4.setCell ⟨B1,0,none⟩ (.slice a8 n8 c8)):=(HF.out.past HB8.out).off _ (by have:=HB.out;omega) (by have:=HB.out;omega) (fun x hx=>by cases hx;have:=HB.out;show w2.heap.size≠B1;omega);have hK2:KeepsOthers W (W4.setCell ⟨B1,0,none⟩ (.slice a8 n8 c8)):=(KeepsOthers.mk HB8.out.size fun k o h _=>(HB8.out.block k (Array.getElem?_eq_some_iff.1 h).1).trans h).trans (KeepsOthers.setCell _ _ _);have hall:=And.intro hK2 (And.intro hF2 hI2);clear hI2 hF2 hK2
    gi_wp2_with fail
    try exact hall
 intro Dd W hD hI hF hdef;obtain ⟨a5,n5,c5,k1,k2,k3,k4,k5,k6,k7,k8,k9,k10⟩:=hI;rw [List.take_of_length_le (by rw [size_list];omega),← HRES.out] at k3;have K3:=hiD k3;clear k3
 gi_wp2_with fail
 obtain ⟨W3,hW3⟩:∃ W3,(W.setCell ⟨w.heap.size,0,none⟩ (.int .i64 0)).setCell ⟨w.heap.size,1,none⟩ (.int .i64 0)=W3:=⟨_,rfl⟩;have hk3:KeepsOthers W W3:=by rw [← hW3];exact (KeepsOthers.setCell _ _ _).trans (KeepsOthers.setCell _ _ _)
 have c0:W3.cell? ⟨w.heap.size,0,none⟩=some (.int .i64 0):=by
  rw [← hW3,World.cell?_setCell_other _ _ _ _ (by intro e;injection e with _ e;cases e)];exact World.cell?_setCell_same _ _ _ k4
 have c1:W3.cell? ⟨w.heap.size,1,none⟩=some (.int .i64 0):=by
  rw [← hW3];exact World.cell?_setCell_same _ _ _ (by rw [World.cell?_setCell_other _ _ _ _ (by intro e;injection e with _ e;cases e)];exact k5)
 have ho3:OwnAt W3 (B1+1) a5 n5 c5 (digs (getN s.data.toList)):=by
  rw [← hW3];exact own_grown5 (own_grown5 K3.out (grownBy_setCell' W w.heap.size _) (fun k e=>by cases e;omega)) (grownBy_setAt _ w.heap.size 1 _) (fun k e=>by cases e;omega)
 have hb3:Below w.heap.size w W3:=by
  rw [← hW3];exact (k10.setCell (p:=⟨w.heap.size,0,none⟩) (nRf _) _).setCell (p:=⟨w.heap.size,1,none⟩) (nRf _) _
 rw [hW3];clear hW3 K3;have hdef3:=hk3.same _ _ hdef rfl;have r0:=cell_turn5 (.deferred none) c0 hdef3 rfl;have r1:=cell_turn5 (.deferred none) c1 hdef3 rfl;refine ⟨by simp,.inl ⟨_,_,rfl,run_takeDeferred hdef3,?_⟩⟩;refine ⟨.tuple #[.slice a5 n5 c5,.agg #[.int .i64 0,.int .i64 0]],?_,?_⟩
 · simp [results,Tryz.f76,go_sem,r0,r1]
 exact ⟨_,_,_,rfl,(ho3.turn5 (.deferred none) hdef3 rfl).mono (by omega),hb3.trans (below_put (.deferred none) (by have:=HB.out;have:=HS4.out;omega))⟩
end Go.Proofs.YtkhcblihbalnbaaGreatDoor
