import Derived.Test.YtkhcblihbalnbaaGreatDoorQuot2Pb
import Derived.Test.YtkhcblihbalnbaaGreatDoorTimes3Pb
import Derived.Test.YtkhcblihbalnbaaGreatDoorLimbs7Pb
set_option linter.unusedVariables false
set_option linter.unusedSimpArgs false
set_option maxHeartbeats 4000000
set_option maxRecDepth 100000
namespace Go.Proofs.YtkhcblihbalnbaaGreatDoor
open Go.RowKit
def RetDiv (w:World) (Q R:Nat) (e:Ending) (w':World):Prop :=
 ∃ a n c a' n' c',e = .returned (.tuple #[.slice a n c,.slice a' n' c',.int .i64 0])∧OwnAt w' w.heap.size a n c (digs Q)∧OwnAt w' w.heap.size a' n' c' (digs R)∧Below w.heap.size w w'
theorem step_any (b o n c:Nat) (us:List Nat) (bv ov c2:Nat) (vs:List Nat) (B:Nat) (w:World) (h:OwnAt w B (some ⟨b,o,none⟩) (n+1) c us) (h2:NatAt w (some ⟨bv,ov,none⟩) n c2 vs) (hs:n≤137438953472) (hn:0<n) (ht:0<D vs (n-1)) (hv:val us<val vs*18446744073709551616) :
 Calls Tryz.prog 216 #[.slice (some ⟨b,o,none⟩) (n+1) c,.slice (some ⟨bv,ov,none⟩) n c2] w (RetStep w b o n (val us/val vs) (val us % val vs)):=by
 by_cases hg:D us n<D vs (n-1)
 · exact step_a b o n c us bv ov c2 vs B w h h2 hs hn ht hv hg
 exact step_b b o n c us bv ov c2 vs B w h h2 hs hn ht hv hg
theorem norm_len {b m s:Nat} (hl:(digs b).length=m+1) (hs:64-nbits (D (digs b) m)=s):(digs (b*2 ^ s)).length=m+1∧0<D (digs (b*2 ^ s)) m∧18446744073709551616 ^ m≤b∧s≤63:=by
 have hb:b≠0:=fun e=>by rw [digs_len0.2 e] at hl;omega
 have ht:D (digs b) m≠0:=by have:=D_digs_last hb;rwa [hl,Nat.add_sub_cancel] at this
 have hn:=nbits_top (dig_digs b) hl ht;rw [val_digs] at hn;have h1:0<nbits (D (digs b) m):=nbits_gt (by rw [Nat.pow_zero];omega);have h2:nbits (D (digs b) m)≤64:=nbits_le (nLt ((dig_digs b).at_ m) (by decide))
 have hup:b*2 ^ s<18446744073709551616 ^ (m+1):=by
  rw [B_pow];have h3:b*2 ^ s<2 ^ nbits b*2 ^ s:=Nat.mul_lt_mul_of_pos_right (nbits_lt b) (Nat.pow_pos (by decide));rw [← Nat.pow_add,hn,show 64*m+nbits (D (digs b) m)+s=64*(m+1) by omega] at h3;exact h3
 have hps:0<2 ^ s:=Nat.pow_pos (by decide)
 have hlen:(digs (b*2 ^ s)).length=m+1:=by
  have h3:=digs_length_le.2 hup;have h4:=digs_len_mono (a:=b) (b:=b*2 ^ s) (Nat.le_mul_of_pos_right _ hps);omega
 have hne:b*2 ^ s≠0:=Nat.mul_ne_zero hb (by omega);refine ⟨hlen,?_,?_,by omega⟩
 · have:=D_digs_last hne;rw [hlen,Nat.add_sub_cancel] at this;omega
 rcases Nat.lt_or_ge b (18446744073709551616 ^ m) with h5 | h5
 · have:=digs_length_le.2 h5;omega
 exact h5
theorem put_own {W wk:World} {B bu ou N cu m j R:Nat} {us:List Nat} (h:OwnAt W B (some ⟨bu,ou,none⟩) N cu us) (hb:Below W.heap.size W wk) (hj:j+(m+1)≤N) (hr:(digs R).length≤m+1) :
 OwnAt ((wk.setCells bu (ou+j) (dv (List.replicate (m+1) 0))).setCells bu (ou+j) (dv (digs R))) B (some ⟨bu,ou,none⟩) N cu (put us j m R):=by
 have hk:=h.later hb (nRf _);have hlu:=hk.len;rcases hk.cell with h' | ⟨b',o',he,hc⟩
 · omega
 cases he;rcases hk.own with h' | ⟨b',o',he,hB,hf⟩
 · omega
 cases he;refine ⟨⟨by rw [put_len (by omega) hr];exact hlu,hk.le,hk.cle,put_dig hk.dig,.inr ⟨bu,ou,rfl,fun i hi => ?_⟩,fun e=>by cases e⟩,.inr ⟨bu,ou,rfl,hB,fun i hi=>by rw [World.frozen?_setCells,World.frozen?_setCells];exact hf i hi⟩⟩
 have hz:∀ i,i<N→((wk.setCells bu (ou+j) (dv (List.replicate (m+1) 0))).cell? ⟨bu,ou+i,none⟩)=some (.int .u64 ((if j≤i∧i<j+(m+1) then 0 else D us i:Nat):Int)):=by
  intro i hi
  by_cases hin:j≤i∧i<j+(m+1)
  · rw [if_pos hin];obtain ⟨d,rfl⟩:∃ d,i=j+d:=⟨i-j,by omega⟩;rw [← Nat.add_assoc,World.cell?_setCells_in bu _ (ou+j) wk (fun q hq=>by rw [dv_length,List.length_replicate] at hq;have:=hc (j+q) (by omega);rw [Nat.add_assoc,this];rfl) d (by rw [dv_length,List.length_replicate];omega)];simp [dv]
  rw [if_neg hin,World.cell?_setCells_out _ _ _ _ _ (fun _ _=>by rw [dv_length,List.length_replicate];show ou+i<ou+j∨_≤ou+i;omega)];exact hc i hi
 by_cases hin:j≤i∧i<j+(digs R).length
 · obtain ⟨d,rfl⟩:∃ d,i=j+d:=⟨i-j,by omega⟩;have hdl:d<(dv (digs R)).length:=by rw [dv_length];omega
   rw [← Nat.add_assoc,World.cell?_setCells_in bu _ (ou+j) _ (fun q hq=>by rw [dv_length] at hq;rw [Nat.add_assoc,hz _ (by omega)];rfl) d hdl];have e1:=dv_at (l:=digs R) (i:=d) (by omega);rw [List.getElem?_eq_getElem hdl] at e1;rw [e1];rw [put_mid (by omega) (by omega)]
 rw [World.cell?_setCells_out _ _ _ _ _ (fun _ _=>by rw [dv_length];show ou+i<ou+j∨_≤ou+i;omega),hz i hi,put_rest (by omega) hr hin]
theorem OwnAt.sub {w:World} {B b o n c:Nat} {l:List Nat} (h:OwnAt w B (some ⟨b,o,none⟩) n c l) {j p:Nat} (hj:j+p≤n):OwnAt w B (some ⟨b,o+j,none⟩) p (c-j) ((l.drop j).take p):=by
 have hd:=h.toNatAt.drop j (by omega);refine ⟨hd.take (by omega),?_⟩;rcases h.own with h0 | ⟨b',o',he,hB,hf⟩
 · exact .inl (by omega)
 cases he;exact .inr ⟨b,o+j,rfl,hB,fun i hi=>by rw [Nat.add_assoc];exact hf (j+i) (by omega)⟩
theorem OwnAt.setOther {w:World} {B b o n c bu s:Nat} {l:List Nat} (h:OwnAt w B (some ⟨b,o,none⟩) n c l) (hb:b≠bu) (vs:List Value):OwnAt (w.setCells bu s vs) B (some ⟨b,o,none⟩) n c l:=by
 refine ⟨⟨h.len,h.le,h.cle,h.dig,?_,h.nilc⟩,?_⟩
 · rcases h.cell with h0 | ⟨b',o',he,hc⟩
   · exact .inl h0
   cases he;exact .inr ⟨b,o,rfl,fun i hi=>by rw [World.cell?_setCells_out _ _ _ _ _ (fun e=>absurd e hb)];exact hc i hi⟩
 rcases h.own with h0 | ⟨b',o',he,hB,hf⟩
 · exact .inl h0
 cases he;exact .inr ⟨b,o,rfl,hB,fun i hi=>by rw [World.frozen?_setCells];exact hf i hi⟩
theorem OwnAt.setDigitOther {w:World} {B b o n c bu s:Nat} {l:List Nat} (h:OwnAt w B (some ⟨b,o,none⟩) n c l) (hb:b≠bu) (v:Value):OwnAt (w.setCell ⟨bu,s,none⟩ v) B (some ⟨b,o,none⟩) n c l:=by
 have:=h.setOther (s:=s) hb [v];exact this
theorem div_less (a:Option Addr) (n c:Nat) (l:List Nat) (a2:Option Addr) (n2 c2:Nat) (l2:List Nat) (w:World) (h:NatAt w a n c l) (h2:NatAt w a2 n2 c2 l2) (hs:n≤68719476736) (hs2:n2≤68719476736) (hz:val l2≠0) (hv:val l<val l2) :
 Calls Tryz.prog 186 #[.slice a n c,.slice a2 n2 c2] w (RetDiv w 0 (val l)):=by
 go_enter Tryz.func186,Tryz.ntmps186
 go_wp2_with fail
 with_reducible refine (trim_any _ _ _ l _ h (by omega)).mono ?_
 rintro e w1 ⟨a1,n1,c1,rfl,h3,hb1⟩;have h2:=h2.later hb1 (nRf _)
 go_wp2_with fail
 with_reducible refine (trim_any _ _ _ l2 _ h2 (by omega)).mono ?_
 rintro e w2 ⟨a4,n4,c4,rfl,h4,hb2⟩;have b1:n1≤n:=by have e1:=h3.len;have e2:=digs_length_val h.dig;rw [h.len] at e2;omega
 have b4:n4≤n2:=by have e1:=h4.len;have e2:=digs_length_val h2.dig;rw [h2.len] at e2;omega
 have h3:=h3.later hb2 (nRf _);have hb:=bLt hb1 hb2;have h4:=h4.mono hb1.size;clear hb1 hb2
 have hn4:((n4:Int) == 0)=false:=beq_eq_false_iff_ne.2 (by
  have h5:=h4.len;have h6:=digs_len0 (n:=val l2);intro e;exact hz (h6.1 (by omega)))
 have HV:=hiD (cmpI_lt hv);clear hz hv
 go_wp2_with fail
 with_reducible refine (cmp_any _ _ _ (digs (val l)) _ _ _ (digs (val l2)) _ h3.toNatAt h4.toNatAt).mono ?_
 rintro e w3 ⟨rfl,hb3⟩;rw [val_digs,val_digs,HV.out]
 go_wp2
 go_ret3
 exact ⟨_,_,_,_,_,_,rfl,OwnAt.nil _ _,h3.later hb3 (nRf _),bLt hb hb3⟩
theorem div_one (a:Option Addr) (n c:Nat) (l:List Nat) (a2:Option Addr) (n2 c2:Nat) (l2:List Nat) (w:World) (h:NatAt w a n c l) (h2:NatAt w a2 n2 c2 l2) (hs:n≤68719476736) (hs2:n2≤68719476736) (hz:val l2≠0) (hv:val l2≤val l) (h1:val l2<18446744073709551616) :
 Calls Tryz.prog 186 #[.slice a n c,.slice a2 n2 c2] w (RetDiv w (val l/val l2) (val l % val l2)):=by
 obtain ⟨R,hR⟩:∃ R,val l % val l2=R:=⟨_,rfl⟩;have hrl:R<18446744073709551616:=by rw [← hR];exact Nat.lt_trans (Nat.mod_lt _ (by omega)) h1
 rw [hR];have HR:=hiD hR;have HRL:=hiD hrl;clear hR hrl
 go_enter Tryz.func186,Tryz.ntmps186
 go_wp2_with fail
 with_reducible refine (trim_any _ _ _ l _ h (by omega)).mono ?_
 rintro e w1 ⟨a1,n1,c1,rfl,h3,hb1⟩;have h2:=h2.later hb1 (nRf _)
 go_wp2_with fail
 with_reducible refine (trim_any _ _ _ l2 _ h2 (by omega)).mono ?_
 rintro e w2 ⟨a4,n4,c4,rfl,h4,hb2⟩;have b1:n1≤n:=by have e1:=h3.len;have e2:=digs_length_val h.dig;rw [h.len] at e2;omega
 have b4:n4≤n2:=by have e1:=h4.len;have e2:=digs_length_val h2.dig;rw [h2.len] at e2;omega
 have h3:=h3.later hb2 (nRf _);have hb:=bLt hb1 hb2;have h4:=h4.mono hb1.size;clear hb1 hb2;have hK:0≤cmpI (val l) (val l2):=by unfold cmpI;split<;>(try split)<;>omega
 obtain ⟨K,hK2⟩:∃ K,cmpI (val l) (val l2)=K:=⟨_,rfl⟩;rw [hK2] at hK;have HK:=hiD hK2;have hd:digs (val l2)=[val l2]:=digs_small hz h1;obtain rfl:n4=1:=by rw [← h4.len,hd];rfl
 have HZ:=hiD hz;have H1:=hiD h1;have HD:=hiD hd;clear hK2 hz hv h1 hd
 go_wp2_with fail
 with_reducible refine (cmp_any _ _ _ (digs (val l)) _ _ _ (digs (val l2)) _ h3.toNatAt h4.toNatAt).mono ?_
 rintro e w3 ⟨rfl,hb3⟩;rw [val_digs,val_digs,HK.out];have h3:=h3.later hb3 (nRf _);have h4:=h4.later hb3 (nRf _);have hb:=bLt hb hb3;clear hb3;rcases h4.toNatAt.parts with h' | ⟨b4',o4,rfl,_,hc4⟩
 · omega
 have hc:=hc4 0 (by omega);rw [HD.out,D_one,Nat.add_zero] at hc;clear hc4
 go_wp2_with fail
 with_reducible refine (part_yes _ _ _ (digs (val l)) (val l2) _ h3.toNatAt (by omega) (by have:=HZ.out;omega) H1.out).mono ?_
 rintro e w5 ⟨a5,n5,c5,rfl,h5,hb5⟩;rw [val_digs] at h5 ⊢;rw [HR.out]
 go_wp2_with fail
 with_reducible refine (of_any _ _ HRL.out).mono ?_
 rintro e w6 ⟨a6,n6,c6,rfl,h6,hb6⟩
 go_wp2
 go_ret3
 exact ⟨_,_,_,_,_,_,rfl,(h5.later hb6 (nRf _)).mono hb.size,h6.mono (nTr hb.size hb5.size),bLt (bLt hb hb5) hb6⟩
theorem div_long (a:Option Addr) (n c:Nat) (l:List Nat) (a2:Option Addr) (n2 c2:Nat) (l2:List Nat) (w:World) (h:NatAt w a n c l) (h2:NatAt w a2 n2 c2 l2) (hs:n≤68719476736) (hs2:n2≤68719476736) (hv:val l2≤val l) (h1:18446744073709551616≤val l2) :
 Calls Tryz.prog 186 #[.slice a n c,.slice a2 n2 c2] w (RetDiv w (val l/val l2) (val l % val l2)):=by
 obtain ⟨i0,hi,hz0,hz1,hz2⟩:=info_parts info109;have ht:Tryz.prog.underlying 3=some (.int .i64):=Tryz.underlying3
 go_enter Tryz.func186,Tryz.ntmps186
 go_wp2_with fail
 with_reducible refine (trim_any _ _ _ l _ h (by omega)).mono ?_
 rintro e w1 ⟨a1,n1,c1,rfl,h3,hb1⟩;have h2:=h2.later hb1 (nRf _)
 go_wp2_with fail
 with_reducible refine (trim_any _ _ _ l2 _ h2 (by omega)).mono ?_
 rintro e w2 ⟨a4,n4,c4,rfl,h4,hb2⟩;have b1:n1≤n:=by have e1:=h3.len;have e2:=digs_length_val h.dig;rw [h.len] at e2;omega
 have b4:n4≤n2:=by have e1:=h4.len;have e2:=digs_length_val h2.dig;rw [h2.len] at e2;omega
 have h3:=h3.later hb2 (nRf _);have hb:=bLt hb1 hb2;have h4:=h4.mono hb1.size;clear hb1 hb2;have hK:0≤cmpI (val l) (val l2):=by unfold cmpI;split<;>(try split)<;>omega
 obtain ⟨K,hK2⟩:∃ K,cmpI (val l) (val l2)=K:=⟨_,rfl⟩;rw [hK2] at hK;have HK:=hiD hK2
 obtain ⟨m,hm⟩:∃ m,n4=m+2:=by
  have h5:=h4.len;have h6:¬ (digs (val l2)).length≤1:=fun h=>by have:=digs_length_le.1 h;rw [Nat.pow_one] at this;omega
  exact ⟨n4-2,by omega⟩
 subst hm;obtain ⟨s,hs3⟩:∃ s,64-nbits (D (digs (val l2)) (m+1))=s:=⟨_,rfl⟩;obtain ⟨k1,k2,k3,k4⟩:=norm_len (m:=m+1) h4.len hs3;have hmn:m+2≤n1:=by rw [← h3.len,← h4.len];exact digs_len_mono hv
 have kA:(digs (val l*2 ^ s)).length≤n1+1:=by have:=digs_len_shift (val l) (s:=s) (k:=1) (by omega);rw [h3.len] at this;exact this
 have hApos:0<(digs (val l*2 ^ s)).length:=by
  rcases Nat.eq_zero_or_pos (digs (val l*2 ^ s)).length with h0 | h0
  · have:=digs_len0.1 h0;have hps:0<2 ^ s:=Nat.pow_pos (by decide);rcases Nat.mul_eq_zero.1 this with h' | h'<;>omega
  exact h0
 have hAlt:val l<18446744073709551616 ^ n1:=digs_length_le.1 (by rw [h3.len];exact nRf _);have hVpos:0<val l2*2 ^ s:=Nat.mul_pos (by omega) (Nat.pow_pos (by decide));have hVlt:val l2*2 ^ s<18446744073709551616 ^ (m+2):=digs_length_le.1 (by rw [k1];exact nRf _);have hmoved:=div_moved (n:=val l) (y:=val l2) (s:=s) (by omega);have hdt:=(dig_digs (val l2)).at_ (m+1);have HS3:=hiD hs3;have HK1:=hiD k1;have HK2:=hiD k2;have HK3:=hiD k3;have HKA:=hiD kA;have HAP:=hiD hApos;have HAL:=hiD hAlt;have HVP:=hiD hVpos;have HVL:=hiD hVlt;have HMV:=hiD hmoved;have HDT:=hiD hdt;clear hK2 hs3 k1 k2 k3 kA hApos hAlt hVpos hVlt hmoved hdt hv h1
 go_wp2_with fail
 with_reducible refine (cmp_any _ _ _ (digs (val l)) _ _ _ (digs (val l2)) _ h3.toNatAt h4.toNatAt).mono ?_
 rintro e w3 ⟨rfl,hb3⟩;rw [val_digs,val_digs,HK.out];have h3:=h3.later hb3 (nRf _);have h4:=h4.later hb3 (nRf _);have hb:=bLt hb hb3;clear hb3;rcases h4.toNatAt.parts with h' | ⟨b4',o4,rfl,_,hc4⟩
 · omega
 have hc:=hc4 (m+1) (by omega);clear hc4;have em0:((m:Int)+2-1).toNat=m+1:=by omega
 have em1:(0:Int)≤(m:Int)+2-1:=by omega
 have em2:(m:Int)+2-1<(m:Int)+2:=by omega
 have em3:((m:Int)+2 == 1)=false:=beq_eq_false_iff_ne.2 (by omega);have em4:((m:Int)+2 == 0)=false:=beq_eq_false_iff_ne.2 (by omega)
 go_wp2_with fail
 with_reducible refine (lz64_any _ _ HDT.out).mono ?_
 rintro e w' ⟨rfl,rfl⟩;rw [HS3.out];clear hc em0 em1 em2 em3 em4;have es:((s:Nat):Int).toNat=s:=Int.toNat_natCast s;have ES:=hiD es;clear es
 go_wp2_with fail
 with_reducible refine (shiftUp_clip _ _ _ (digs (val l2)) _ _ h4.toNatAt (by omega) (by omega) (by omega)).mono ?_
 rintro e w5 ⟨a5,n5,rfl,h5,hb5⟩;rw [val_digs,ES.out] at h5;obtain rfl:n5=m+2:=by rw [← h5.len,HK1.out]
 have h5:=h5.mono hb.size;have h3:=h3.later hb5 (nRf _);have hb:=bLt hb hb5;clear hb5 h4;have hbW5:=hiD hb.size
 obtain ⟨b5,o5,rfl,hlt5⟩:∃ b5 o5,a5=some ⟨b5,o5,none⟩∧b5<w5.heap.size:=by
  rcases h5.toNatAt.parts with h' | ⟨b5,o5,he,hlt,_⟩
  · omega
  exact ⟨b5,o5,he,hlt⟩
 go_wp2_with fail
 with_reducible refine (shiftUp_clip _ _ _ (digs (val l)) _ _ h3.toNatAt (by omega) (by omega) (by omega)).mono ?_
 rintro e w6 ⟨a6,n6,rfl,h6,hb6⟩;rw [val_digs,ES.out] at h6;have hn6:n6≤n1+1:=by rw [← h6.len];exact HKA.out
 have hn60:0<n6:=by rw [← h6.len];exact HAP.out
 obtain ⟨z,hz⟩:∃ z,n6+z=n1+1:=⟨n1+1-n6,by omega⟩;have ez:(n1:Int)+1-(n6:Int)=(z:Int):=by omega
 obtain ⟨bu,ou,cu,wu,us0,hrun,hown,hbu,hval0,hlt⟩:∃ bu ou cu wu us0,(∀ ty,(Builtin.append_ #[24,3] ty #[.slice a6 n6 n6,.int .i64 (z:Int)]).run Tryz.prog w6 = .ok (.slice (some ⟨bu,ou,none⟩) (n1+1) cu) wu)∧OwnAt wu w5.heap.size (some ⟨bu,ou,none⟩) (n1+1) cu us0∧Below w6.heap.size w6 wu∧val us0=val l*2 ^ s∧bu<wu.heap.size:=by
  rcases h6.cell with h' | ⟨b6,o6,rfl,hc6⟩
  · omega
  by_cases hz0':z=0
  · subst hz0';obtain rfl:n6=n1+1:=by omega
    exact ⟨b6,o6,n1+1,w6,_,fun ty=>run_append_none w6 _ _ ty _ i0 .i64 .i64 Tryz.underlying24 ht hi _ _ _ (nRf _),h6,bRf _ _,val_digs _,World.block_lt_of_cell? _ _ (hc6 0 (by omega))⟩
  refine ⟨w6.heap.size,0,grownCap w6 (n6+z) n6 109,w6.drew.alloc (.cells ((dv (digs (val l*2 ^ s))).toArray ++ Builtin.zeroCells (Value.int .u64 0).cells z ++ Builtin.zeroCells (Value.int .u64 0).cells (grownCap w6 (n6+z) n6 109-(n6+z))) 109),digs (val l*2 ^ s) ++ List.replicate z 0,fun ty => ?_,?_,(bRf _ _).drew.alloc (nRf _) _,?_,by simp⟩
  · rw [← hz]
    exact run_append_zeros (P:=Tryz.prog) w6 24 3 ty 109 i0 (.int .u64 0) .i64 .i64 Tryz.underlying24 ht hi hz0 hz1 hz2 ⟨b6,o6,none⟩ n6 n6 (dv (digs (val l*2 ^ s))) (by rw [dv_length];exact h6.len) (fun q v hq=>by
     have hql:q<(digs (val l*2 ^ s)).length:=by have:=(List.getElem?_eq_some_iff.1 hq).1;rwa [dv_length] at this
     rw [dv_at hql] at hq;cases hq;rw [addr_add];exact hc6 q (by rw [h6.len] at hql;exact hql)) z (by omega) (by omega) (by omega)
  · rw [← hz];exact (appended_own (E:=109) (w:=w6) (m:=n6) (n:=z) (cap:=n6) (l:=digs (val l*2 ^ s)) h6.len (dig_digs _) (by omega)).mono hb6.size
  rw [val_append,val_digs,val_replicate,Nat.mul_zero,Nat.add_zero]
 have h5:=(h5.later hb6 (nRf _)).later hbu (nRf _);have hb:=bLt (bLt hb hb6) hbu;obtain ⟨nq,hnq⟩:∃ nq,nq+(m+2)=n1+1:=⟨n1+1-(m+2),by omega⟩;have eq1:(n1:Int)-((m:Int)+2)+1=(nq:Int):=by omega
 have eq2:((nq:Int)-1).toNat=nq-1:=by omega
 have hlen0:=hown.len
 have hst:Go.Proofs.YtkhcblihbalnbaaGreatDoor.hi us0 nq<val l2*2 ^ s:=by
  have:=long_start (u0:=us0) (N:=n1+1) (m:=m+2) hown.dig hval0 HK3.out (by omega) HAL.out (by omega) hlen0
  rwa [show n1+1-(m+2)=nq by omega] at this
 have HST:=hiD hst;have HV0:=hiD hval0;have HLEN0:=hiD hlen0;have HNQ:=hiD hnq;clear h6 hb6 hbu hz hst hval0 hlen0 hnq
 go_wp2_with (first
  | (at_builtin;refine Lib.wpList_append_run _ rfl _ _ 24 3 rfl _ _ rfl rfl _ _ (hrun _) ?_;clear hrun)
  | (at_make;refine wpList_make_full _ rfl _ _ 24 rfl wu.heap.size 109 i0 (.int .u64 0) 1 Tryz.underlying24 hi hz0 hz1 .i64 .i64 _ _ nq rfl rfl rfl rfl (by rw [hz2];omega) (by simp only [maxLen];omega) (nRf _) ?_;intro w7 hr7 hg7))
 have h8:OwnAt w7 wu.heap.size (some ⟨wu.heap.size,0,none⟩) nq nq (List.replicate nq 0):=made_own (by rw [← toList_madeCells_one];rw [Nat.mul_one] at hr7;exact hr7);have hb7:Below wu.heap.size wu w7:=(bRf _ _).grown hg7 (nRf _) (fun k e=>by cases e)
 have hbu5:w5.heap.size≤bu:=by
  rcases hown.own with h' | ⟨b',o',he,hB,_⟩
  · omega
  cases he;exact hB
 have HV:=hiD (show val (digs (val l2*2 ^ s))=val l2*2 ^ s from val_digs _);obtain ⟨V,hV⟩:∃ V,val l2*2 ^ s=V:=⟨_,rfl⟩;rw [hV] at h5 HST HVP HVL HK2 HMV HV;have HVV:=hiD hV;clear hr7 hg7 hi hz0 hz1 hz2 ht eq1 eq2 ez hV
 go_loopw [16] (fun i wr=>∃ (k:Nat) (us qs:List Nat),k≤nq∧i = .int .i64 ((k:Int)-1)∧OwnAt wr w5.heap.size (some ⟨bu,ou,none⟩) (n1+1) cu us∧OwnAt wr wu.heap.size (some ⟨wu.heap.size,0,none⟩) nq nq qs∧OwnAt wr w.heap.size (some ⟨b5,o5,none⟩) (m+2) (m+2) (digs V)∧(∀ i,i<k→D us i=D us0 i)∧Go.Proofs.YtkhcblihbalnbaaGreatDoor.hi us k=Go.Proofs.YtkhcblihbalnbaaGreatDoor.hi us0 k % V∧Go.Proofs.YtkhcblihbalnbaaGreatDoor.hi qs k=Go.Proofs.YtkhcblihbalnbaaGreatDoor.hi us0 k/V∧Below w.heap.size w wr) (fun i _=>(intOf i+1).toNat)
 case atStart=>exact ⟨nq,us0,_,nRf _,rfl,hown.later hb7 (nRf _),h8,h5.later hb7 (nRf _),fun _ _=>rfl,(Nat.mod_eq_of_lt HST.out).symm,by rw [hi_all (by simp),Nat.div_eq_of_lt HST.out],bLt hb hb7⟩
 case round =>
  have hbw5:=hb.size;have hb5w:=hbW5.out;clear hb7 h8 hown h5 hb;obtain ⟨k,us,qs,hk,rfl,hU,hQ,hV,hlow,hh,hq,hBr⟩:=hrel
  by_cases hlt0:0<k
  · obtain ⟨j,rfl⟩:∃ j,k=j+1:=⟨k-1,by omega⟩;have ej:((j+1:Nat):Int)-1=(j:Int):=by omega
    rw [ej];have hjm:j+(m+2+1)≤n1+1:=by have:=HNQ.out;omega
    obtain ⟨s1,s2,s3,s4,s5,s6,s7⟩:=long_step (u0:=us0) (us:=us) (qs:=qs) (V:=V) (m:=m+2) (j:=j) HVP.out HVL.out hU.dig (by rw [hU.len];exact hjm) (by rw [hQ.len];omega) (hlow j (Nat.lt_succ_self j)) hh hq;have hsub:=hU.sub (j:=j) (p:=m+2+1) hjm;have hstep:=step_any bu (ou+j) (m+2) (cu-j) ((us.drop j).take (m+2+1)) b5 o5 (m+2) (digs V) w5.heap.size wr hsub hV.toNatAt (by omega) (by omega) (by have:=HK2.out;exact this) (by rw [HV.out,s1];exact s2);rw [HV.out,s1] at hstep;have hncu:¬ cu=j:=by have:=hU.le;omega
    obtain ⟨qd,hqd⟩:∃ qd,Go.Proofs.YtkhcblihbalnbaaGreatDoor.hi us j/V=qd:=⟨_,rfl⟩;obtain ⟨rd,hrd⟩:∃ rd,Go.Proofs.YtkhcblihbalnbaaGreatDoor.hi us j % V=rd:=⟨_,rfl⟩;rw [hqd,hrd] at hstep;rw [hqd] at s5 s6;rw [hrd] at s4 s7;have hlow2:∀ i,i<j→D (put us j (m+2) rd) i=D us0 i:=fun i hi=>by rw [put_low (by rw [hU.len];exact hjm) hi];exact hlow i (by omega)
    have hh2:Go.Proofs.YtkhcblihbalnbaaGreatDoor.hi (put us j (m+2) rd) j=Go.Proofs.YtkhcblihbalnbaaGreatDoor.hi us0 j % V:=by rw [put_hi (by rw [hU.len];exact hjm) s7,s3,Nat.mul_zero,Nat.add_zero,s4]
    have hle1:=hU.le;have hle2:=hU.cle;have HST2:=hiD hstep;have HS5:=hiD s5;have HS6:=hiD s6;have HS7:=hiD s7;have HL2:=hiD hlow2;have HH2:=hiD hh2;clear s1 s2 s3 s4 s5 s6 s7 hstep hqd hrd hlow2 hh2 hsub hlow hh hq ej;have ea1:(j:Int)+((m:Int)+2)+1=((j+(m+2+1):Nat):Int):=by omega
    have ea2:j+(m+2+1)-j=m+2+1:=by omega
    go_wp2_with fail
    with_reducible refine (HST2.out).mono ?_
    rintro e w' ⟨wk,rfl,hbk,rfl⟩;have hne1:wu.heap.size≠bu:=by omega
    have hne2:b5≠bu:=by omega
    have hU2:=put_own hU hbk hjm HS7.out;have hQ2:=((hQ.later hbk (nRf _)).setOther (s:=ou+j) hne1 (dv (List.replicate (m+2+1) 0))).setOther (s:=ou+j) hne1 (dv (digs rd));have hV2:=((hV.later hbk (nRf _)).setOther (s:=ou+j) hne2 (dv (List.replicate (m+2+1) 0))).setOther (s:=ou+j) hne2 (dv (digs rd));have hB2:=((bLt hBr hbk).trans (below_setCells w.heap.size bu (nTr hb5w hbu5) (dv (List.replicate (m+2+1) 0)) (ou+j) wk)).trans (below_setCells w.heap.size bu (nTr hb5w hbu5) (dv (digs rd)) (ou+j) _);generalize ((wk.setCells bu (ou+j) (dv (List.replicate (m+2+1) 0))).setCells bu (ou+j) (dv (digs rd)))=W at *;clear hbk hU hQ hV hBr;have hjq:j<nq:=by omega
    rcases hQ2.cell with h' | ⟨b',o',he,hco⟩
    · omega
    cases he;have hco':=hco j hjq;clear hco;rcases hQ2.own with h' | ⟨b',o',he,hBo,hfo⟩
    · omega
    cases he;have hfo':=hfo j hjq;clear hfo;rw [Nat.zero_add] at hco' hfo';have hQ3:=hQ2.set (k:=j) hjq HS6.out;have hU3:=hU2.setDigitOther (s:=0+j) (bu:=wu.heap.size) (fun e=>hne1 e.symm) (.int .u64 (qd:Int));have hV3:=hV2.setDigitOther (s:=0+j) (bu:=wu.heap.size) (by omega) (.int .u64 (qd:Int));have hB3:=hB2.setCell (p:=⟨wu.heap.size,0+j,none⟩) hbw5 (.int .u64 (qd:Int));rw [Nat.zero_add] at hQ3 hU3 hV3 hB3;clear hU2 hQ2 hV2 hB2 ea1 ea2 hncu
    go_wp2
    go_roundw
    case rel=>exact ⟨j,_,_,by omega,rfl,hU3,hQ3,hV3,HL2.out,HH2.out,HS5.out,hB3⟩
    case measure=>simp [intOf]<;>omega
  obtain rfl:k=0:=by omega
  rw [hi_zero,hi_zero,HV0.out] at hh;rw [hi_zero,hi_zero,HV0.out] at hq;have hm:=HMV.out;have HH:=hiD hh;have HQ:=hiD hq;have HM:=hiD hm;clear hh hq hm hlow hV
  go_wp2_with fail
  with_reducible refine (trim_any _ _ _ _ _ hU.toNatAt (by omega)).mono ?_
  rintro e w9 ⟨a9,n9,c9,rfl,h9,hb9⟩;have hQ:=hQ.later hb9 (nRf _);have hn9:n9≤n1+1:=by have e1:=h9.len;have e2:=digs_length_val hU.dig;rw [hU.len] at e2;omega
  go_wp2_with fail
  with_reducible refine (shiftDown_any _ _ _ _ _ _ h9.toNatAt (by omega) (by omega) (by omega)).mono ?_
  rintro e w10 ⟨a10,n10,c10,rfl,h10,hb10⟩;rw [val_digs,HH.out,ES.out,HM.out.2] at h10;have hQ:=hQ.later hb10 (nRf _)
  go_wp2_with fail
  with_reducible refine (trim_any _ _ _ _ _ hQ.toNatAt (by have:=HNQ.out;omega)).mono ?_
  rintro e w11 ⟨a11,n11,c11,rfl,h11,hb11⟩;rw [HQ.out,HM.out.1] at h11
  go_wp2
  go_ret3
  exact ⟨_,_,_,_,_,_,rfl,h11.mono (nTr hBr.size (nTr hb9.size hb10.size)),(h10.later hb11 (nRf _)).mono (nTr hBr.size hb9.size),bLt (bLt (bLt hBr hb9) hb10) hb11⟩
theorem div_yes (a:Option Addr) (n c:Nat) (l:List Nat) (a2:Option Addr) (n2 c2:Nat) (l2:List Nat) (w:World) (h:NatAt w a n c l) (h2:NatAt w a2 n2 c2 l2) (hs:n≤68719476736) (hs2:n2≤68719476736) (hz:val l2≠0) :
 Calls Tryz.prog 186 #[.slice a n c,.slice a2 n2 c2] w (RetDiv w (val l/val l2) (val l % val l2)):=by
 by_cases hv:val l<val l2
 · rw [Nat.div_eq_of_lt hv,Nat.mod_eq_of_lt hv];exact div_less a n c l a2 n2 c2 l2 w h h2 hs hs2 hz hv
 by_cases h1:val l2<18446744073709551616
 · exact div_one a n c l a2 n2 c2 l2 w h h2 hs hs2 hz (by omega) h1
 exact div_long a n c l a2 n2 c2 l2 w h h2 hs hs2 (by omega) (by omega)
end Go.Proofs.YtkhcblihbalnbaaGreatDoor
