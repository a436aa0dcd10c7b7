import Derived.Test.YtkhcblihbalnbaaGreatDoorShelf
import Derived.Test.YtkhcblihbalnbaaGreatDoorDigits1Pb
import Derived.Test.YtkhcblihbalnbaaGreatDoorQuot1Pb
set_option linter.unusedVariables false
set_option linter.unusedSimpArgs false
set_option maxHeartbeats 2000000
set_option maxRecDepth 100000
namespace Go.Proofs.YtkhcblihbalnbaaGreatDoor
open Go.RowKit
theorem str_info:(Tryz.prog.info? 9).map (fun i=>(i.zero,i.size,i.bytes))=some (some (.string ByteArray.empty),1,16):=by kernel_rfl
def sv (xs:List (List Nat)):List Value:=xs.map fun l=>Value.string (strB l)
theorem sv_snoc (xs:List (List Nat)) (l:List Nat):sv xs ++ [Value.string (strB l)]=sv (xs ++ [l]):=by simp [sv]
theorem partL_step {M:Nat} (hM:M≠0):digL 10 M=digL 10 (M/10000000000000000000) ++ partL (decide (M/10000000000000000000≠0)) (M % 10000000000000000000):=by
 rw [put_step hM]
 congr 1
 unfold partL
 by_cases h:M/10000000000000000000=0
 · rw [if_pos h,if_neg (by simp [h])]
 rw [if_neg h,if_pos (by simp [h])]
theorem partL_pos {M:Nat} (hM:M≠0):1≤(partL (decide (M/10000000000000000000≠0)) (M % 10000000000000000000)).length:=by
 unfold partL
 by_cases h:M/10000000000000000000=0
 · rw [if_neg (by simp [h]),Nat.mod_eq_of_lt (by omega),digL_step (by decide) hM];simp
 rw [if_pos (by simp [h]),padL_len]
 decide
theorem strB_flat (xs:List (List Nat)):(⟨(Lib.join ((xs.map strB).map (·.data.toList)) []).toArray⟩:ByteArray)=strB xs.flatten:=by
 rw [join_empty];unfold strB;rw [List.map_map,List.map_flatten];rfl
theorem strB_flat_len (xs:List (List Nat)):(Lib.join ((xs.map strB).map (·.data.toList)) []).length=xs.flatten.length:=by
 rw [join_empty,List.map_map,List.length_flatten,List.length_flatten,List.map_map]
 congr 1
 refine List.map_congr_left fun l _ => ?_
 simp [strB]
theorem row_form {w:World} {base size n:Nat} {e:TypeId} {v:Value} {xs:List Value} (h:w.ownsRow base e size v n xs) (hn:0<n):∃ g cap,v = .slice (some ⟨g,0,none⟩) n cap∧n≤cap∧cap≤maxLen:=by
 rcases h.2 with ⟨_,h0⟩ | ⟨g,cap,cur,rfl,_,_,h2,h3,_⟩
 · omega
 exact ⟨g,cap,rfl,h2,h3⟩
theorem row_past {w w':World} {base size n:Nat} {e:TypeId} {v:Value} {xs:List Value} (h:w.ownsRow base e size v n xs) (hb:Below w.heap.size w w'):w'.ownsRow base e size v n xs :=
 h.kept (row:=none) ⟨hb.os,hb.tape,hb.output,hb.size,fun k hk _=>hb.block k hk⟩ (by cases v.ownBlock<;>simp)
theorem own_grown {w w':World} {B:Nat} {a:Option Addr} {n c:Nat} {l:List Nat} {o:Option Nat} (h:OwnAt w B a n c l) (hg:w.grownBy w' o) (hv:∀ k,o=some k→k<B):OwnAt w' B a n c l:=by
 have hne:∀ b,B≤b→some b≠o:=fun b hb e=>by have:=hv b e.symm;omega
 rcases h.own with h0 | ⟨b,k,rfl,hle,hf⟩
 · exact ⟨⟨h.len,h.le,h.cle,h.dig,.inl h0,h.nilc⟩,.inl h0⟩
 rcases h.toNatAt.parts with h0 | ⟨b',k',e,hlt,hc⟩
 · exact ⟨⟨h.len,h.le,h.cle,h.dig,.inl h0,h.nilc⟩,.inl h0⟩
 cases e;refine ⟨⟨h.len,h.le,h.cle,h.dig,.inr ⟨b,k,rfl,fun i hi => ?_⟩,h.nilc⟩,.inr ⟨b,k,rfl,hle,fun i hi => ?_⟩⟩
 · rw [World.cell?_of_block (w:=w) (hg.block b hlt (hne b hle))];exact hc i hi
 rw [World.frozen?_of_block (w:=w) (hg.block b hlt (hne b hle))];exact hf i hi
theorem one_new (w:World) (v:Value) (T:Nat):∀ (j:Nat) u,[v][j]? = some u→(w.alloc (.cells #[v] T)).cell? ((⟨w.heap.size,0,none⟩:Addr).add j)=some u:=by
 intro j u h
 obtain rfl:j=0:=by
  have:=(List.getElem?_eq_some_iff.1 h).1
  simpa using this
 rw [addr_add,World.cell?_alloc_at _ _ _ _ rfl]
 simpa using h
def PutI (w:World) (N:Nat) (k:Nat) (s0 s3:Value) (wr:World):Prop :=
 ∃ (a:Option Addr) (n c:Nat) (v:Value) (xs:List (List Nat)),s0 = .slice a n c∧s3=v∧OwnAt wr w.heap.size a n c (digs k)∧wr.ownsRow w.heap.size 9 1 v xs.length (sv xs)∧digL 10 N=digL 10 k ++ xs.reverse.flatten∧xs.length+(digL 10 k).length≤(digL 10 N).length∧n≤274877906944∧Below w.heap.size w wr
theorem decS_pos {N:Nat} (h:N≠0):decS N=strB (digL 10 N):=by unfold decS decL;rw [if_neg h]
theorem put_end (xs:List (List Nat)) (g cap:Nat) (w w1:World) (hown:w1.ownsRow w.heap.size 9 1 (.slice (some ⟨g,0,none⟩) xs.length cap) xs.length (sv xs)) (hB:Below w.heap.size w w1) (hlen:xs.reverse.flatten.length≤1099511627776) (hx:xs.length≤1099511627776) :
 ∃ w2:Nat→World,(Calls Tryz.prog 162 #[.slice (some ⟨g,0,none⟩) xs.length cap] w1 fun e w'=>e = .returned (.tuple #[])∧∃ q,w'=w2 q)∧∀ q,Below w.heap.size w (w2 q)∧Calls Tryz.prog 163 #[.slice (some ⟨g,0,none⟩) xs.length cap,.string ⟨#[]⟩] (w2 q) (RetVal (w2 q) (.string (strB xs.reverse.flatten))):=by
 have hgg:=hown.lt g rfl
 have hcap:xs.length≤cap:=by
  rcases hown.2 with ⟨h',_⟩ | ⟨g',cap',cur,h',_,_,h2,_⟩
  · simp at h'
  simp only [Value.slice.injEq,Option.some.injEq,Addr.mk.injEq,and_true,true_and] at h';obtain ⟨rfl,rfl⟩:=h';exact h2
 have hc:∀ i,i<xs.length→w1.cell? ⟨g,0+i,none⟩=some (.string (strB (xs.getD i []))):=by
  intro i hi;rw [Nat.zero_add,World.ownsRow.cellAt hown i (by omega)];simp [sv,List.getD_eq_getElem?_getD,hi]
 have hf:∀ j,j<xs.length→w1.frozen? ⟨g,0+j,none⟩=false:=fun j _=>by rw [Nat.zero_add];exact World.ownsRow.frozenAt hown j
 have hrev:=Tryz.slices_Reverse_string_cells g 0 xs.length cap (fun i=>strB (xs.getD i [])) w1 (by omega) hc hf
 have hvs:(Lib.strsOf (fun i=>strB (xs.getD i [])) xs.length).reverse.map encStr=(xs.reverse.map strB).map Value.string:=by
  unfold Lib.strsOf;rw [List.map_reverse,List.map_reverse,List.map_reverse,List.map_map,List.map_map]
  congr 1
  apply List.ext_getElem
  · simp
  intro i h1 h2;simp [strB,List.getD_eq_getElem?_getD,show i<xs.length by simpa using h1]
 rw [hvs] at hrev;refine ⟨fun q=>(w1.drewN q).setCells g 0 ((xs.reverse.map strB).map Value.string),hrev,fun q=>⟨?_,?_⟩⟩
 · exact (Below.draws hB q).trans (below_setCells _ _ hgg.1 _ _ _)
 have hl:(xs.reverse.map strB).length=xs.length:=by simp
 have hj:=Tryz.strings_Join g 0 cap (xs.reverse.map strB) ⟨#[]⟩ ((w1.drewN q).setCells g 0 ((xs.reverse.map strB).map Value.string)) ?_ (by rw [size_setCells];exact hgg.2) (by rw [hl];omega) (by rw [hl];exact hcap) ?_
 · rw [hl] at hj;have e:=strB_flat xs.reverse;rw [show (⟨#[]⟩:ByteArray).data.toList=[] from rfl,e] at hj;exact hj
 · intro j x hx;have hjl:j<(xs.reverse.map strB).length:=(List.getElem?_eq_some_iff.1 hx).1
   have:=World.cell?_setCells_in g ((xs.reverse.map strB).map Value.string) 0 (w1.drewN q) (fun j hj=>by
    rw [show (w1.drewN q).cell? ⟨g,0+j,none⟩=w1.cell? ⟨g,0+j,none⟩ from rfl,hc j (by simpa using hj)];rfl) j (by simpa using hjl)
   rw [this];rw [List.getElem?_eq_getElem hjl] at hx;cases hx;simp
 rw [show (⟨#[]⟩:ByteArray).data.toList=[] from rfl,strB_flat_len];omega
theorem part_ten (a:Option Addr) (n c:Nat) (N:Nat) (w:World) (h:NatAt w a n c (digs N)) (hs:n≤274877906944) :
 Calls Tryz.prog 160 #[.slice a n c,.int .u64 10000000000000000000] w (RetPart w (N/10000000000000000000) (N % 10000000000000000000)):=by
 have:=part_yes a n c (digs N) 10000000000000000000 w h hs (by decide) (by decide);rw [val_digs] at this;exact this
theorem put_any (a:Option Addr) (n c:Nat) (l:List Nat) (w:World) (h:NatAt w a n c l) (hs:n≤1073741824) :
 Calls Tryz.prog 122 #[.slice a n c] w (RetVal w (.string (decS (val l)))):=by
 obtain ⟨i0,hi,hz0,hz1,hz2⟩:=info_parts str_info;have hlim:(digL 10 (val l)).length≤21474836480:=by have:=digL_limbs h.dig;have:=h.len;omega
 go_enter Tryz.func122,Tryz.ntmps122
 go_wp2_with fail
 with_reducible refine (trim_any _ _ _ _ _ h (by omega)).mono ?_
 rintro e w1 ⟨a1,n1,c1,rfl,h1,hb1⟩;have hl1:=h1.len;have hn1:n1≤n:=by have:=h.short;omega
 by_cases h0:val l=0
 · have hn0:n1=0:=by rw [← hl1];exact digs_len0.2 h0
   subst hn0;have e:decS (val l)=⟨#[48]⟩:=by rw [h0];decide +kernel
   have E:=hiD e;clear h1 hl1 h0 e
   go_wp2
   go_ret
   exact ⟨by rw [E.out];rfl,hb1⟩
 have hn0:0<n1:=by
  rcases Nat.eq_zero_or_pos n1 with h2 | h2
  · exact absurd (digs_len0.1 (hl1.trans h2)) h0
  exact h2
 have H0:=hiD h0;have hnb:((n1:Int) == 0)=false:=beq_eq_false_iff_ne.2 (by omega);clear h0 hl1
 go_wp2_with fail
 go_loopg [0,3] (val l) (fun k s0 s3 wr=>PutI w (val l) k s0 s3 wr)
 case atStart=>exact ⟨_,_,_,_,[],rfl,rfl,h1,World.ownsRow_nil _ _ _ _,by simp,by simp,by omega,hb1⟩
 case round =>
  clear h1 hb1 hn1 hn0;obtain ⟨a2,n2,c2,v,xs,rfl,hv,h2,hown,hdig,hlen,hn2,hb⟩:=hrel;have hl2:=h2.len;obtain rfl:=hv
  by_cases hk:gk=0
  · subst hk;obtain rfl:n2=0:=hl2.symm;rw [digL_zero,List.nil_append] at hdig
    have hxs:0<xs.length:=by
     rcases Nat.eq_zero_or_pos xs.length with h3 | h3
     · rw [List.eq_nil_of_length_eq_zero h3] at hdig;rw [digL_step (by decide) H0.out] at hdig;simp at hdig
     exact h3
    have hxl:xs.length≤21474836480:=by omega
    have hfl:xs.reverse.flatten.length≤21474836480:=by rw [← hdig];exact hlim
    obtain ⟨g,cap,rfl,hcap,hcapm⟩:=row_form hown hxs;simp only [maxLen] at hcapm;obtain ⟨wq,hrev,hjoin⟩:=put_end xs g cap w wr hown hb (by omega) (by omega);have e:decS (val l)=strB xs.reverse.flatten:=by rw [decS_pos H0.out,hdig]
    have E:=hiD e;have HR:=hiD hrev;have HJ:=hiD hjoin;clear h2 hown hdig hlen hl2 hfl e hrev hjoin hb hlim
    go_wp2_with fail
    refine HR.out.mono ?_;rintro e w' ⟨rfl,q,rfl⟩;obtain ⟨hb2,hj⟩:=HJ.out q
    go_wp2_with fail
    refine hj.mono ?_;rintro e w3 ⟨rfl,hb3⟩
    go_wp2
    go_ret
    exact ⟨by rw [E.out];rfl,bLt hb2 hb3⟩
  have hn:0<n2:=by
   rcases Nat.eq_zero_or_pos n2 with h3 | h3
   · exact absurd (digs_len0.1 (hl2.trans h3)) hk
   exact h3
  have hst:=partL_step hk;have hps:=partL_pos hk;have hR:gk % 10000000000000000000<10000000000000000000:=Nat.mod_lt _ (by decide);have hlt:gk/10000000000000000000<gk:=Nat.div_lt_self (by omega) (by decide);have hpart:=fun w=>part_ten a2 n2 c2 gk w
  obtain ⟨M,hM⟩:∃ M,gk/10000000000000000000=M:=⟨_,rfl⟩;obtain ⟨R,hRe⟩:∃ R,gk % 10000000000000000000=R:=⟨_,rfl⟩;simp only [hM,hRe] at hpart hst hps hR hlt;have hkk:(digs M).length≤(digs gk).length:=digs_length_le.2 (Nat.lt_trans hlt (by have:=val_lt (dig_digs gk);rwa [val_digs] at this));have HST:=hiD hst;have HPS:=hiD hps;have HLT:=hiD hlt;have HR:=hiD hR;have HD:=hiD hdig;have HL:=hiD hlen;have HKK:=hiD hkk;have HP:=hiD hpart;clear hst hps hlt hR hdig hlen hM hRe hl2 hk hkk hpart
  go_wp2_with fail
  with_reducible refine (HP.out _ h2.toNatAt (by omega)).mono ?_
  rintro e w5 ⟨a3,n3,c3,rfl,h3,hb5⟩;have hvb:∀ k,(u3:Value).ownBlock=some k→k<wr.heap.size:=fun k e=>(hown.lt k e).2
  have hown:=row_past hown hb5;have hwr:=hb.size;have hb:=bLt hb hb5;have hl3:=h3.len;have hn3:n3≤274877906944:=by have:=HKK.out;have:=h2.len;omega
  clear h2 hb5 HP HKK hn
  by_cases hM0:M=0
  · have eB:decide (M≠0)=false:=by simp [hM0]
    have hst:=HST.out;have hps:=HPS.out;rw [eB] at hst hps;obtain rfl:n3=0:=by rw [← hl3];exact digs_len0.2 hM0
    have hpart:=fun w=>dpart_any R false w (by have:=HR.out;omega) (fun _=>HR.out)
    have HQ:=hiD hpart;obtain ⟨D,hD⟩:∃ D,partL false R=D:=⟨_,rfl⟩;rw [hD] at hst hps HQ;have H1:=hiD (⟨hst,hps⟩:digL 10 gk=digL 10 M ++ D∧1≤D.length);have HLT:=HLT;clear eB hst hps hpart hD HST HPS hl3 hM0
    go_wp2_with fail
    with_reducible refine (HQ.out _).mono ?_
    rintro e w6 ⟨rfl,hb6⟩;have hown:=row_past hown hb6;have h3:=h3.later hb6 (nRf _);have hb:=bLt hb hb6;have hw6:=hb.size;have hxl:xs.length≤21474836480:=by have:=HL.out;omega
    clear hb6 HQ
    go_wp2_with (at_builtin;refine wpList_append_own _ rfl _ _ 115 rfl w.heap.size 9 i0 (.string ByteArray.empty) 1 16 Tryz.underlying115 hi hz0 hz1 hz2 rfl (by decide) _ _ _ rfl (row_past hown ((bRf _ _).alloc (nRf _) _)) ⟨w6.heap.size,0,none⟩ 1 1 [Value.string (strB D)] rfl rfl (one_new _ _ _) (by simp [Value.oneCell']) (by simp only [maxLen];omega) (by omega) (by simp;omega) ?_;intro v' w7 hown7 hg7 _)
    have hal:=(bRf w6.heap.size w6).alloc (nRf _) (.cells #[Value.string (strB D)] 9);have h4:=own_grown (h3.later hal (nRf _)) hg7 hvb;have hb7:Below w.heap.size w w7:=(hb.trans (hal.mono hw6)).grown hg7 (by simp;omega) (fun k e=>(hown.lt k e).1);rw [sv_snoc] at hown7
    go_roundg M
    case measure=>exact HLT.out
    case rel =>
     refine ⟨a3,_,c3,v',xs ++ [D],rfl,rfl,h4.mono hwr,by rw [List.length_append];exact hown7,?_,?_,hn3,hb7⟩
     · rw [HD.out,H1.out.1,List.reverse_append,List.append_assoc];rfl
     have e1:=congrArg List.length H1.out.1;rw [List.length_append] at e1;have e2:=H1.out.2;have e3:=HL.out;rw [List.length_append,List.length_singleton];omega
  have eB:decide (M≠0)=true:=by simp [hM0]
  have hst:=HST.out;have hps:=HPS.out;rw [eB] at hst hps
  have hn3p:0<n3:=by
   rcases Nat.eq_zero_or_pos n3 with h4 | h4
   · exact absurd (digs_len0.1 (hl3.trans h4)) hM0
   exact h4
  have hpart:=fun w=>dpart_any R true w (by have:=HR.out;omega) (fun _=>HR.out)
  have HQ:=hiD hpart;obtain ⟨D,hD⟩:∃ D,partL true R=D:=⟨_,rfl⟩;rw [hD] at hst hps HQ;have H1:=hiD (⟨hst,hps⟩:digL 10 gk=digL 10 M ++ D∧1≤D.length);have HLT:=HLT;clear eB hst hps hpart hD HST HPS hl3 hM0
  go_wp2_with fail
  with_reducible refine (HQ.out _).mono ?_
  rintro e w6 ⟨rfl,hb6⟩;have hown:=row_past hown hb6;have h3:=h3.later hb6 (nRf _);have hb:=bLt hb hb6;have hw6:=hb.size;have hxl:xs.length≤21474836480:=by have:=HL.out;omega
  clear hb6 HQ
  go_wp2_with (at_builtin;refine wpList_append_own _ rfl _ _ 115 rfl w.heap.size 9 i0 (.string ByteArray.empty) 1 16 Tryz.underlying115 hi hz0 hz1 hz2 rfl (by decide) _ _ _ rfl (row_past hown ((bRf _ _).alloc (nRf _) _)) ⟨w6.heap.size,0,none⟩ 1 1 [Value.string (strB D)] rfl rfl (one_new _ _ _) (by simp [Value.oneCell']) (by simp only [maxLen];omega) (by omega) (by simp;omega) ?_;intro v' w7 hown7 hg7 _)
  have hal:=(bRf w6.heap.size w6).alloc (nRf _) (.cells #[Value.string (strB D)] 9);have h4:=own_grown (h3.later hal (nRf _)) hg7 hvb;have hb7:Below w.heap.size w w7:=(hb.trans (hal.mono hw6)).grown hg7 (by simp;omega) (fun k e=>(hown.lt k e).1);rw [sv_snoc] at hown7
  go_roundg M
  case measure=>exact HLT.out
  case rel =>
   refine ⟨a3,_,c3,v',xs ++ [D],rfl,rfl,h4.mono hwr,by rw [List.length_append];exact hown7,?_,?_,hn3,hb7⟩
   · rw [HD.out,H1.out.1,List.reverse_append,List.append_assoc];rfl
   have e1:=congrArg List.length H1.out.1;rw [List.length_append] at e1;have e2:=H1.out.2;have e3:=HL.out;rw [List.length_append,List.length_singleton];omega
end Go.Proofs.YtkhcblihbalnbaaGreatDoor
