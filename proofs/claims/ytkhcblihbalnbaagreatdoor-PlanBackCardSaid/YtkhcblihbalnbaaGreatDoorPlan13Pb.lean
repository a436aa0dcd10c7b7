import Derived.Deep.CutBlock
import Derived.Test.YtkhcblihbalnbaaGreatDoorOct5Pb
import Derived.Test.YtkhcblihbalnbaaGreatDoorGet1Pb
import Derived.Test.YtkhcblihbalnbaaGreatDoorPlan4Pb
set_option linter.unusedVariables false
set_option linter.unusedSimpArgs false
set_option maxHeartbeats 16000000
set_option maxRecDepth 100000
namespace Go.Proofs.YtkhcblihbalnbaaGreatDoor
section
open Go.RowKit
def iv (zs:List Int):List Value:=zs.map fun z=>Value.int .i64 z
theorem row_blk {w w':World} {base e size n:Nat} {v:Value} {xs:List Value} (h:w.ownsRow base e size v n xs) (hk:∀ k,base≤k→k<w.heap.size→w'.heap[k]? = w.heap[k]?):w'.ownsRow base e size v n xs :=
 ⟨h.1,h.2.imp id fun ⟨g,cap,cur,e1,hb,hg,r⟩=>⟨g,cap,cur,e1,hb,(hk g hb (Array.getElem?_eq_some_iff.1 hg).1).trans hg,r⟩⟩
structure GetG (w0:World) (b p:Nat) (L:List Nat) (s:Option (List Nat)) (vs:List Value) (w:World):Prop where
 bel:Below w0.heap.size w0 w
 rd:RdAt w b L s
 x0:BoxAt w w0.heap.size 9
 xp:BoxAt w p 9
 cs:∀ i v,vs[i]? = some v→w.cell? ⟨p,i,none⟩=some v
 lb:w0.heap.size<b
 lp:b<p
section
variable {w0 w w':World} {b p:Nat} {L:List Nat} {s s':Option (List Nat)} {vs vs':List Value}
theorem GetG.lt (h:GetG w0 b p L s vs w):p<w.heap.size:=by
 obtain ⟨v,hv,_⟩:=h.xp.c 0 (by decide);exact World.block_lt_of_cell? w ⟨p,0,none⟩ hv
theorem GetG.read (h:GetG w0 b p L s vs w) (hr:RdAt w' b L s') (hm:Moves (fun k=>k=b) w w'):GetG w0 b p L s' vs w':=by
 have h1:=h.lb;have h2:=h.lp;refine ⟨h.bel.trans (hm.below h.bel.size (fun k e=>by omega)),hr,hm.stays.box (by omega) h.x0,hm.stays.box (by omega) h.xp,fun i v e=>hm.stays.cell (by omega) (h.cs i v e),h1,h2⟩
theorem GetG.low (h:GetG w0 b p L s vs w) (hk:∀ k,k≤p→w'.heap[k]? = w.heap[k]?) (hb:Below w0.heap.size w w'):GetG w0 b p L s vs w':=by
 have h1:=h.lb;have h2:=h.lp;exact ⟨h.bel.trans hb,h.rd.low fun k e=>hk k (by omega),h.x0.blk (hk _ (by omega)),h.xp.blk (hk _ (nRf _)),fun i v e=>(World.cell?_of_block (w:=w) (a:=⟨p,i,none⟩) (hk p (nRf _))).trans (h.cs i v e),h1,h2⟩
theorem GetG.past (h:GetG w0 b p L s vs w) (hb:Below w.heap.size w w'):GetG w0 b p L s vs w' :=
 h.low (fun k hk=>hb.block k (Nat.lt_of_le_of_lt hk h.lt)) (hb.mono h.bel.size)
theorem GetG.put (h:GetG w0 b p L s vs w) (us:List Value) (o:Nat) (hl:o+us.length≤9) (hu:∀ v ∈ us,notU v) (hv:∀ i v,vs'[i]? = some v→((i<o∨o+us.length≤i)∧vs[i]? = some v)∨(o≤i∧us[i-o]? = some v)) :
 GetG w0 b p L s vs' (w.setCells p o us)∧Moves (fun k=>k=p) w (w.setCells p o us):=by
 have h1:=h.lb;have h2:=h.lp;have hm:=Moves.sets us o w h.xp hl hu;refine ⟨⟨h.bel.trans (hm.below h.bel.size (fun k e=>by omega)),h.rd.low (fun k e=>hm.block k (by have:=h.rd.lt;omega) (by omega)),hm.stays.box (by omega) h.x0,BoxAt.sets _ _ _ _ h.xp hu,fun i v e => ?_,h1,h2⟩,hm⟩;rcases hv i v e with ⟨k1,k2⟩ | ⟨k1,k2⟩
 · exact (World.cell?_setCells_out _ _ _ _ _ (fun _ _=>by first | omega | (simp;omega))).trans (h.cs i v k2)
 have hj:=(List.getElem?_eq_some_iff.1 k2).1
 have:=World.cell?_setCells_in p us o w (fun j hj=>by
  obtain ⟨v,hv,_⟩:=h.xp.c (o+j) (by omega);rw [hv];rfl) (i-o) hj
 rw [Nat.add_sub_cancel' k1] at this;rw [this];exact (List.getElem?_eq_some_iff.1 k2).2 ▸ rfl
end
def TabR (p:Nat) (a:Option Addr) (c:Nat) (zs:List Int) (w:World):Prop:=w.ownsRow (p+1) 3 1 (.slice a zs.length c) zs.length (iv zs)
theorem TabR.blk {p:Nat} {a:Option Addr} {c:Nat} {zs:List Int} {w w':World} (h:TabR p a c zs w) (hk:∀ k,p<k→k<w.heap.size→w'.heap[k]? = w.heap[k]?):TabR p a c zs w':=row_blk h hk
theorem TabR.past {p:Nat} {a:Option Addr} {c:Nat} {zs:List Int} {w w':World} (h:TabR p a c zs w) (hb:Below w.heap.size w w'):TabR p a c zs w':=h.blk fun k _ hk=>hb.block k hk
theorem TabR.ints {p:Nat} {a:Option Addr} {c:Nat} {zs:List Int} {w:World} (h:TabR p a c zs w) (hz:∀ z ∈ zs,0≤z∧z<4294967296):IntsAt w a zs.length c zs:=by
 have hwf:∀ z ∈ zs,-9223372036854775808≤z∧z≤9223372036854775807:=fun z h=>by have:=hz z h;omega
 rcases h.2 with ⟨e,h0⟩ | ⟨g,cap,cur,e,hb,hg,hnc,hcm,hr⟩
 · obtain ⟨rfl,hn,rfl⟩:=Value.slice.inj e;have hz0:zs=[]:=List.eq_nil_of_length_eq_zero hn;subst hz0;exact ⟨rfl,nRf _,Nat.zero_le _,.inl rfl,fun _=>rfl,hwf⟩
 cases e;refine ⟨rfl,hnc,hcm,.inr ⟨g,0,rfl,(Array.getElem?_eq_some_iff.1 hg).1,fun i hi => ?_⟩,(fun e=>by cases e),hwf⟩;rw [Nat.zero_add,World.ownsRow.cellAt h i (by omega)];unfold iv;rw [List.getElem?_map,List.getD_eq_getElem?_getD,List.getElem?_eq_getElem (by omega)];rfl
theorem GetG.grown {w0 w w':World} {b p:Nat} {L:List Nat} {s:Option (List Nat)} {vs:List Value} {a:Option Addr} {c:Nat} {zs:List Int} (h:GetG w0 b p L s vs w) (ht:TabR p a c zs w) (hg:w.grownBy w' (Value.slice a zs.length c).ownBlock):GetG w0 b p L s vs w':=by
 have h1:=h.lb;have h2:=h.lp;have h3:=h.lt;have hne:∀ k,(Value.slice a zs.length c).ownBlock=some k→p<k:=fun k e=>(World.ownsRow.lt ht k e).1
 exact h.low (fun k hk=>hg.block k (by omega) (fun e=>by have:=hne k e.symm;omega)) ⟨hg.os,hg.tape,hg.output,hg.size,fun k hk=>hg.block k (by have:=h.bel.size;omega) (fun e=>by have:=hne k e.symm;omega)⟩
theorem tbl_stop {j:Nat} {s:Option (List Nat)} (h:j=0∨restL s=0):tblZ j s=[]∧tblR j s=s:=by
 cases j with
 | zero=>exact ⟨rfl,rfl⟩
 | succ j =>
   have h0:restL s=0:=h.resolve_left (by omega);exact ⟨if_pos h0,if_pos h0⟩
def pR:Nat→List Nat→Option (List Nat)
 | 0,L=>p4 L
 | i+1,L=>tkR (gN 2 (pR i L)) (tkR 2 (pR i L))
def pX (i:Nat) (L:List Nat):List Nat:=tkL (gN 2 (pR i L)) (tkR 2 (pR i L))
def RdC (i:Nat) (L:List Nat) (vs:List Value) (w:World):Prop:=readE (bytB (pX i L)).data.toList=0∧∃ a1 n1 c1 a2 n2 c2,vs[2+4*i]? = some (.bool (readR (bytB (pX i L)).data.toList).1)∧vs[2+4*i+1]? = some (.slice a1 n1 c1)∧vs[2+4*i+2]? = some (.slice a2 n2 c2) ∧
 NatAt w a1 n1 c1 (digs (readR (bytB (pX i L)).data.toList).2.1)∧NatAt w a2 n2 c2 (digs (readR (bytB (pX i L)).data.toList).2.2)
structure LpI (P G:Nat) (L:List Nat) (i:Nat) (av:Option Addr) (cv:Nat) (zs:List Int) (vs:List Value) (w:World):Prop where
 tab:TabR P av cv zs w
 l0:w.cell? ⟨G,0,none⟩=some (.pointer (some ⟨P,2,none⟩))
 l1:w.cell? ⟨G,1,none⟩=some (.pointer (some ⟨P,6,none⟩))
 rd:∀ j,j<i→RdC j L vs w
 gp:P<G
theorem LpI.go {X:Nat→Prop} {P G:Nat} {L:List Nat} {i:Nat} {av:Option Addr} {cv:Nat} {zs:List Int} {vs:List Value} {w w':World} (h:LpI P G L i av cv zs vs w) (hm:Moves X w w') (hx:∀ k,X k→k≤P):LpI P G L i av cv zs vs w':=by
 have hg:=h.gp;have n0:¬ X G:=fun e=>by have:=hx G e;omega
 refine ⟨h.tab.blk (fun k hk hl=>hm.block k hl (fun e=>by have:=hx k e;omega)),hm.stays.cell n0 h.l0,hm.stays.cell n0 h.l1,fun j hj => ?_,hg⟩;obtain ⟨h1,a1,n1,c1,a2,n2,c2,h2,h3,h4,h5,h6⟩:=h.rd j hj;exact ⟨h1,a1,n1,c1,a2,n2,c2,h2,h3,h4,h5.stays hm.stays,h6.stays hm.stays⟩
theorem put9 {w:World} {b:Nat} (x:BoxAt w b 9) (v0 v1 v2 v3 v4 v5 v6 v7 v8:Value) (hu:∀ v ∈ [v0,v1,v2,v3,v4,v5,v6,v7,v8],notU v) :
 ∃ w',((((((((w.setCell ⟨b,0,none⟩ v0).setCell ⟨b,1,none⟩ v1).setCell ⟨b,2,none⟩ v2).setCell ⟨b,3,none⟩ v3).setCell ⟨b,4,none⟩ v4).setCell ⟨b,5,none⟩ v5).setCell ⟨b,6,none⟩ v6).setCell ⟨b,7,none⟩ v7).setCell ⟨b,8,none⟩ v8=w'∧(∀ i (h:i<9),w'.cell? ⟨b,i,none⟩=some ([v0,v1,v2,v3,v4,v5,v6,v7,v8][i]'(by simpa using h)))∧Moves (fun k=>k=b) w w':=by
 have hin:=World.cell?_setCells_in b [v0,v1,v2,v3,v4,v5,v6,v7,v8] 0 w (fun j hj=>by
  simp only [List.length_cons,List.length_nil] at hj;obtain ⟨v,hv,_⟩:=x.c (0+j) (by omega);rw [hv];rfl)
 refine ⟨w.setCells b 0 [v0,v1,v2,v3,v4,v5,v6,v7,v8],rfl,fun i h => ?_,Moves.sets _ 0 w x (by simp) hu⟩;have h2:=hin i (by simpa using h);rw [Nat.zero_add] at h2;exact h2
def GotP (L:List Nat) (w:World) (e:Ending) (w':World):Prop :=
 (∃ k zs N eps F aT nT cT a1 n1 c1 a2 n2 c2 a3 n3 c3 a4 n4 c4, KeptP k zs N eps F ∧ rlen eps ≤ 200 ∧ rlen F ≤ 200 ∧ L = putL k zs N eps F ∧ e = .returned (.tuple #[.agg #[.int .i64 (k : Int), .slice aT nT cT, .bool (neg eps.num), .slice a1 n1 c1, .slice a2 n2 c2, .int .i64 (N : Int), .bool (neg F.num), .slice a3 n3 c3, .slice a4 n4 c4], .int .i64 0]) ∧ IntsAt w' aT nT cT zs ∧
   NatAt w' a1 n1 c1 (digs eps.num.natAbs)∧NatAt w' a2 n2 c2 (digs eps.den)∧NatAt w' a3 n3 c3 (digs F.num.natAbs)∧NatAt w' a4 n4 c4 (digs F.den)∧Below w.heap.size w w') ∨
 ((∀ k zs N eps F,KeptP k zs N eps F→L≠putL k zs N eps F)∧e = .returned (.tuple #[.agg #[.int .i64 0,.slice none 0 0,.bool false,.slice none 0 0,.slice none 0 0,.int .i64 0,.bool false,.slice none 0 0,.slice none 0 0],.int .i64 6])∧Below w.heap.size w w')
theorem get27_any (a:Option Addr) (c:Nat) (L:List Nat) (w:World) (g:BytesAt w a L.length c L) (hL:L.length≤2000) (m:Int) (hm:w.cell? ⟨2,0,none⟩=some (.int .i64 m)) :
 Calls Tryz.prog 7 #[.slice a L.length c] w (GotP L w):=by
 have HG:=hiD g;have HM:=hiD hm;have HD:=hiD g.dig;clear g hm
 go_enter Tryz.func7,Tryz.ntmps7
 go_wp2_with fail
 obtain ⟨w1,hW1,y1,hb1,r1,f1⟩:=box1g w w.heap.size rfl #[.int .i64 0,.slice none 0 0,.bool false,.slice none 0 0,.slice none 0 0,.int .i64 0,.bool false,.slice none 0 0,.slice none 0 0] 30;rw [hW1];have x0:BoxAt w1 w.heap.size 9:=BoxAt.of r1 f1 rfl (by simp [notU_bool,notU_slice,notU_i64]);clear hW1 r1 f1;refine (newReader_any a c L w1 (HG.out.past hb1) (by omega)).mono ?_;rintro e w2 ⟨b,rfl,hR,hle,hb2⟩;have x0:=x0.past hb2 (by omega);have hB2:=bLt hb1 hb2;have hlb:w.heap.size<b:=by omega
 clear hb1 hb2 hle y1;have X0:=hiD x0;have HB2:=hiD hB2;have HLB:=hiD hlb;have HR:=hiD hR;clear x0 hB2 hlb hR
 go_wp2_with fail
 refine (rdget_any b 2 L _ w2 HR.out (by omega) (.inl rfl)).mono ?_;rintro e w3 ⟨rfl,hR,hM,hk,_⟩;have hkk:gN 2 (some L)=pK L:=rfl;rw [hkk] at hk;obtain ⟨k,hk0⟩:∃ k,pK L=k:=⟨_,rfl⟩;have hB3:Below w.heap.size w w3:=HB2.out.trans (hM.below HB2.out.size (fun k e=>by have:=HLB.out;omega));have hx3:=hM.stays.box (by have:=HLB.out;omega) X0.out;rw [hkk,hk0];rw [hk0] at hk;have HK:=hiD hk0;have HR3:=hiD hR;have HB3:=hiD hB3;have X3:=hiD hx3;clear hR hM hB3 hx3 hkk HR HB2 X0 hk0
 go_wp2_with fail
 obtain ⟨w4,hW4,y4,hb4,r4,f4⟩:=box1g w3 w3.heap.size rfl #[.int .i64 (k:Int),.slice none 0 0,.bool false,.slice none 0 0,.slice none 0 0,.int .i64 0,.bool false,.slice none 0 0,.slice none 0 0] 30;rw [hW4];have hG:GetG w b w3.heap.size L (p1 L) [.int .i64 (k:Int),.slice none 0 0,.bool false,.slice none 0 0,.slice none 0 0,.int .i64 0,.bool false,.slice none 0 0,.slice none 0 0] w4:=⟨bLt HB3.out hb4,HR3.out.past hb4,X3.out.past hb4 (by have:=HB3.out.size;have:=HLB.out;have:=HR3.out.lt;omega),BoxAt.of r4 f4 rfl (by simp [notU_bool,notU_slice,notU_i64]),fun i v e=>by rw [r4 i];simpa using e,HLB.out,HR3.out.lt⟩;obtain ⟨P,hP⟩:∃ P,w3.heap.size=P:=⟨_,rfl⟩;rw [hP] at hG ⊢;clear hW4 y4 hb4 r4 f4 HR3 HB3 X3 hP;have HGG:=hiD hG;clear hG
 go_wp2_with fail
 refine (rdget_any b 2 L _ _ HGG.out.rd (by omega) (.inl rfl)).mono ?_;rintro e w5 ⟨rfl,hR,hM,hm,_⟩;have hG:=HGG.out.read hR hM;have HG5:=hiD (show GetG w b P L (p2 L) [.int .i64 (k:Int),.slice none 0 0,.bool false,.slice none 0 0,.slice none 0 0,.int .i64 0,.bool false,.slice none 0 0,.slice none 0 0] w5 from hG);have hmm:gN 2 (p1 L)=pM L:=rfl;rw [hmm] at hm ⊢;obtain ⟨j0,hj0⟩:∃ j,pM L=j:=⟨_,rfl⟩;rw [hj0] at hm ⊢;have HJ:=hiD hj0;clear hR hM hG hmm HGG hj0
 go_upto_block 0 with fail
 go_cut [6] from 18 to 33 (fun s6 wx=>∃ (zs:List Int) (av:Option Addr) (cv:Nat),GetG w b P L (p3 L) [.int .i64 (k:Int),.slice av zs.length cv,.bool false,.slice none 0 0,.slice none 0 0,.int .i64 0,.bool false,.slice none 0 0,.slice none 0 0] wx∧TabR P av cv zs wx∧zs=pZ L∧∀ z ∈ zs,0≤z∧z<4294967296)
 case first =>
  go_wp2_with fail
  go_loopg [6] j0 (fun gh s6 wx=>∃ (g:Nat) (zs:List Int) (av:Option Addr) (cv:Nat) (s:Option (List Nat)),g=gh∧s6 = .int .i64 (g:Int)∧g<4294967296∧zs.length+g<4294967296∧GetG w b P L s [.int .i64 (k:Int),.slice av zs.length cv,.bool false,.slice none 0 0,.slice none 0 0,.int .i64 0,.bool false,.slice none 0 0,.slice none 0 0] wx∧TabR P av cv zs wx∧zs ++ tblZ g s=pZ L∧tblR g s=p3 L∧∀ z ∈ zs,0≤z∧z<4294967296)
  case atStart=>exact ⟨j0,[],none,0,p2 L,rfl,rfl,hm,by simpa using hm,HG5.out,World.ownsRow_nil _ _ _ _,by rw [← HJ.out];rfl,by rw [← HJ.out];rfl,by simp⟩
  case round =>
   obtain ⟨g,zs,av,cv,s,rfl,rfl,hg,hzl,hG,hT,hZ,hR,hwf⟩:=hrel;have HZ:=hiD hZ;have HR:=hiD hR;have HWF:=hiD hwf;have HT:=hiD hT;have HG:=hiD hG;clear hZ hR hwf hT hG
   by_cases hg0:g=0
   · subst hg0;obtain ⟨e1,e2⟩:=tbl_stop (j:=0) (s:=s) (.inl rfl)
     go_wp2
     go_meet
     exact ⟨zs,av,cv,by rw [← HR.out,e2];exact HG.out,HT.out,by rw [← HZ.out,e1,List.append_nil],HWF.out⟩
   have hgp:(0:Int)<(g:Int):=by omega
   go_wp2_with fail
   refine (rest_any b L s _ HG.out.rd (by omega)).mono ?_;rintro e w6 ⟨rfl,hb⟩;have HG:=hiD (HG.out.past hb);have HT:=hiD (HT.out.past hb);clear hb
   by_cases h0:restL s=0
   · obtain ⟨e1,e2⟩:=tbl_stop (j:=g) (s:=s) (.inr h0);rw [h0]
     go_wp2
     go_meet
     exact ⟨zs,av,cv,by rw [← HR.out,e2];exact HG.out,HT.out,by rw [← HZ.out,e1,List.append_nil],HWF.out⟩
   have h0p:(0:Int)<(restL s:Int):=by omega
   have h0d:decide (0<restL s)=true:=decide_eq_true (by omega)
   have e1:tblZ g s=((gN 4 s:Nat):Int)::tblZ (g-1) (tkR 4 s):=by
    cases g with
    | zero=>omega
    | succ j=>exact if_neg h0
   have e2:tblR g s=tblR (g-1) (tkR 4 s):=by
    cases g with
    | zero=>omega
    | succ j=>exact if_neg h0
   have E1:=hiD e1;have E2:=hiD e2;clear e1 e2;obtain ⟨i0,hi,hz0,hz1,hz2⟩:=info_parts i64_info;have hlw:=HG.out.lt
   go_wp2_with fail
   refine wp_region_invA (by kernel_rfl) rfl (by kernel_rfl) (fun A0 V0 dd aa ww=>∃ (y27 y28 y29 y30 y31 y32 y33:Value),aa=puts A0 [(27,y27),(28,y28),(29,y29),(30,y30),(31,y31),(32,y32),(33,y33)]∧Shut (dd 3=false→GetG w b P L s [.int .i64 (k:Int),.slice av zs.length cv,.bool false,.slice none 0 0,.slice none 0 0,.int .i64 0,.bool false,.slice none 0 0,.slice none 0 0] ww∧TabR P av cv zs ww)∧Shut (dd 3=true→dd 4=false→y30 = .int .i64 ((gN 4 s:Nat):Int)∧GetG w b P L (tkR 4 s) [.int .i64 (k:Int),.slice av zs.length cv,.bool false,.slice none 0 0,.slice none 0 0,.int .i64 0,.bool false,.slice none 0 0,.slice none 0 0] ww∧TabR P av cv zs ww∧gN 4 s<4294967296)∧Shut (dd 4=true→dd 5=false→∃ G,y31 = .slice (some ⟨G,0,none⟩) 1 1∧ww.cell? ⟨G,0,none⟩=some (.int .i64 ((gN 4 s:Nat):Int))∧GetG w b P L (tkR 4 s) [.int .i64 (k:Int),.slice av zs.length cv,.bool false,.slice none 0 0,.slice none 0 0,.int .i64 0,.bool false,.slice none 0 0,.slice none 0 0] ww∧TabR P av cv zs ww∧gN 4 s<4294967296)∧Shut (dd 5=true→dd 7=false→∃ a2 c2,y32 = .slice a2 (zs.length+1) c2∧GetG w b P L (tkR 4 s) [.int .i64 (k:Int),.slice av zs.length cv,.bool false,.slice none 0 0,.slice none 0 0,.int .i64 0,.bool false,.slice none 0 0,.slice none 0 0] ww∧TabR P a2 c2 (zs ++ [((gN 4 s:Nat):Int)]) ww∧gN 4 s<4294967296)∧Shut (dd 7=true→∃ a2 c2,GetG w b P L (tkR 4 s) [.int .i64 (k:Int),.slice a2 (zs.length+1) c2,.bool false,.slice none 0 0,.slice none 0 0,.int .i64 0,.bool false,.slice none 0 0,.slice none 0 0] ww∧TabR P a2 c2 (zs ++ [((gN 4 s:Nat):Int)]) ww∧gN 4 s<4294967296)∧Shut (dd 5=false→ww.cell? ⟨P,1,none⟩=some (.slice av zs.length cv))∧Shut (dd 0=true→y27 = .pointer (some ⟨P,1,none⟩))∧Shut (dd 1=true→y28 = .slice av zs.length cv)∧Shut (dd 2=true→y29 = .pointer (some ⟨b,0,none⟩))∧Shut (dd 6=true→y33 = .pointer (some ⟨P,1,none⟩))) ?_ ?_ ?_
   · exact ⟨_,_,_,_,_,_,_,puts_self _ [27,28,29,30,31,32,33],fun _=>⟨HG.out.past (bRf _ _).drew,HT.out.past (bRf _ _).drew⟩,nf,nf,nf,nf,fun _=>(HG.out.past (bRf _ _).drew).cs 1 _ rfl,nf,nf,nf,nf⟩
   · refine Steps.cons ?_ (Steps.cons ?_ (Steps.cons ?_ (Steps.cons ?_ (Steps.cons ?_ (Steps.cons ?_ (Steps.cons ?_ (Steps.cons ?_ (Steps.nil))))))))
     all_goals (intro dd aa ww K hc hun hn hI hK;obtain ⟨y27,y28,y29,y30,y31,y32,y33,ea,hF0,F0,F1,F2,F3,hC,f0,f1,f2,f6⟩:=hI;subst ea;simp only [pu])
     · go_simp;exact hK.out _ _ ⟨_,_,_,_,_,_,_,by simp only [pu]<;>rfl,fun h=>hF0.out (upd_off h),fun h h2=>F0.out (upd_of rfl h) (upd_off h2),fun h h2=>F1.out (upd_of rfl h) (upd_off h2),fun h h2=>F2.out (upd_of rfl h) (upd_off h2),fun h=>F3.out (upd_of rfl h),fun h=>hC.out (upd_off h),fun _=>rfl,uo f1,uo f2,uo f6⟩
     · obtain rfl:=f0.out (hc.see hn);have e1:=hC.out (hc.not (f:=20) (s:=5) (l:=1) (by kernel_rfl) hun);go_simp;exact hK.out _ _ ⟨_,_,_,_,_,_,_,by simp only [pu]<;>rfl,fun h=>hF0.out (upd_off h),fun h h2=>F0.out (upd_of rfl h) (upd_off h2),fun h h2=>F1.out (upd_of rfl h) (upd_off h2),fun h h2=>F2.out (upd_of rfl h) (upd_off h2),fun h=>F3.out (upd_of rfl h),fun h=>hC.out (upd_off h),fun h=>rfl,fun _=>rfl,uo f2,uo f6⟩
     · go_simp;exact hK.out _ _ ⟨_,_,_,_,_,_,_,by simp only [pu]<;>rfl,fun h=>hF0.out (upd_off h),fun h h2=>F0.out (upd_of rfl h) (upd_off h2),fun h h2=>F1.out (upd_of rfl h) (upd_off h2),fun h h2=>F2.out (upd_of rfl h) (upd_off h2),fun h=>F3.out (upd_of rfl h),fun h=>hC.out (upd_off h),uo f0,uo f1,fun _=>rfl,uo f6⟩
     · obtain rfl:=f2.out (hc.see hn);have hF:=hF0.out hun;go_simp;refine (rdget_any b 4 L s ww hF.1.rd (by omega) (.inr rfl)).mono ?_;rintro e w1 ⟨rfl,hR1,hM1,hx1,_⟩;have hG1:=hF.1.read hR1 hM1;have hp:=hG1.lp;exact hK.out _ _ ⟨_,_,_,_,_,_,_,by simp only [pu]<;>rfl,fun h=>absurd h (by simp [upd]),fun _ _=>⟨rfl,hG1,hF.2.blk (fun i hi hl=>hM1.block i hl (by omega)),hx1⟩,hc.a hun,hc.a hun,hc.a hun,fun h=>hG1.cs 1 _ rfl,uo f0,uo f1,fun h=>rfl,uo f6⟩
     · obtain ⟨ex,hG1,hT1,hx1⟩:=F0.out (hc.see hn) hun;subst ex;go_simp;exact hK.out _ _ ⟨_,_,_,_,_,_,_,by simp only [pu]<;>rfl,fun h=>absurd (show dd 3=true from (hc.see hn)) (by rw [upd_off h];decide),fun _ h2=>absurd h2 (by simp [upd]),fun _ _=>⟨_,rfl,World.cell?_alloc_at _ _ _ _ rfl,hG1.past ((bRf _ _).alloc (nRf _) _),hT1.past ((bRf _ _).alloc (nRf _) _),hx1⟩,hc.a hun,hc.a hun,fun h=>(hG1.past ((bRf _ _).alloc (nRf _) _)).cs 1 _ rfl,uo f0,uo f1,uo f2,uo f6⟩
     · obtain rfl:=f1.out (hc.see hn);obtain ⟨G,ex,hq2,hG2,hT2,hx2⟩:=F1.out (hc.see hn) hun;subst ex;rw [if_pos (by rfl)];refine wp_append_own ww _ _ 22 rfl (P+1) 3 i0 (.int .i64 0) 1 8 Tryz.underlying22 hi hz0 hz1 hz2 rfl (by decide) (.slice av zs.length cv) zs.length (iv zs) rfl hT2 ⟨G,0,none⟩ 1 1 [.int .i64 ((gN 4 s:Nat):Int)] rfl rfl (fun j u hj=>by obtain rfl:j=0:=(by simpa using (List.getElem?_eq_some_iff.1 hj).1);simp at hj;subst hj;exact hq2) (by simp [Value.oneCell']) (by simp only [maxLen];omega) (by omega) (by have:=hG2.lt;omega) ?_;intro v' w1 hown hgrow hnil;obtain ⟨a2,c2,rfl,_,_⟩:=row_shape hown;have hT3:TabR P a2 c2 (zs ++ [((gN 4 s:Nat):Int)]) w1:=by unfold TabR iv;rw [List.length_append,List.map_append];exact hown
       exact hK.out _ _ ⟨_,_,_,_,_,_,_,by simp only [pu]<;>rfl,fun h=>absurd (show dd 3=true from (hc.see hn)) (by rw [upd_off h];decide),fun _ h2=>absurd (show dd 4=true from (hc.see hn)) (by rw [upd_off h2];decide),fun _ h2=>absurd h2 (by simp [upd]),fun _ _=>⟨_,_,rfl,hG2.grown hT2 hgrow,hT3,hx2⟩,hc.a hun,fun h=>absurd h (by simp [upd]),uo f0,fun h=>rfl,uo f2,uo f6⟩
     · go_simp;exact hK.out _ _ ⟨_,_,_,_,_,_,_,by simp only [pu]<;>rfl,fun h=>hF0.out (upd_off h),fun h h2=>F0.out (upd_of rfl h) (upd_off h2),fun h h2=>F1.out (upd_of rfl h) (upd_off h2),fun h h2=>F2.out (upd_of rfl h) (upd_off h2),fun h=>F3.out (upd_of rfl h),fun h=>hC.out (upd_off h),uo f0,uo f1,uo f2,fun _=>rfl⟩
     obtain rfl:=f6.out (hc.see hn);obtain ⟨a2,c2,ex,hG3,hT3,hx3⟩:=F2.out (hc.see hn) hun;subst ex;have e1:=hG3.cs 1 _ rfl;have z1:=hG3.xp.f 1 (by decide);go_simp;obtain ⟨hG4,hm4⟩:=hG3.put (vs':=[.int .i64 (k:Int),.slice a2 (zs.length+1) c2,.bool false,.slice none 0 0,.slice none 0 0,.int .i64 0,.bool false,.slice none 0 0,.slice none 0 0]) [.slice a2 (zs.length+1) c2] 1 (by simp) (by simp [notU_slice]) (fun i v e=>by match i,e with | 0,e=>exact .inl ⟨.inl (by decide),e⟩ | 1,e=>exact .inr ⟨nRf _,e⟩ | (i+2),e=>exact .inl ⟨.inr (by simp),e⟩);exact hK.out _ _ ⟨_,_,_,_,_,_,_,by simp only [pu]<;>rfl,fun h=>absurd (show dd 3=true from (hc.see hn)) (by rw [upd_off h];decide),fun _ h2=>absurd (show dd 4=true from (hc.see hn)) (by rw [upd_off h2];decide),fun _ h2=>absurd (show dd 5=true from (hc.see hn)) (by rw [upd_off h2];decide),fun _ h2=>absurd h2 (by simp [upd]),fun _=>⟨_,_,hG4,hT3.blk (fun i hi hl=>hm4.block i hl (by omega)),hx3⟩,fun h=>absurd (show dd 5=true from (hc.see hn)) (by rw [upd_off h];decide),uo f0,uo f1,uo f2,fun h=>rfl⟩
   intro dd aa w7 hd hI;obtain ⟨y27,y28,y29,y30,y31,y32,y33,ea,hF0,F0,F1,F2,F3,hC,f0,f1,f2,f6⟩:=hI;obtain rfl:=f0.out (hd 0 (by simp));obtain rfl:=f1.out (hd 1 (by simp));obtain rfl:=f2.out (hd 2 (by simp));obtain rfl:=f6.out (hd 6 (by simp));obtain ⟨a2,c2,hG4,hT4,hx4⟩:=F3.out (hd 7 (by simp));subst ea;simp only [pu];have HG4:=hiD hG4;have HT4:=hiD hT4;clear hG4 hT4 hi hz0 hz1 hz2
   go_wp2
   go_roundg (g-1)
   case measure=>omega
   case rel =>
    have hl:(zs ++ [((gN 4 s:Nat):Int)]).length=zs.length+1:=by simp
    refine ⟨g-1,zs ++ [((gN 4 s:Nat):Int)],a2,c2,tkR 4 s,rfl,by go_num,by omega,by rw [hl];omega,by rw [hl];exact HG4.out,HT4.out,?_,by rw [← HR.out,E2.out],?_⟩
    · rw [← HZ.out,E1.out];simp
    intro z hz;rcases List.mem_append.1 hz with h | h
    · exact HWF.out z h
    rw [List.mem_singleton.1 h];omega
 case rest =>
  obtain ⟨zs,av,cv,hG,hT,hz,hwf⟩:=hcut;have HT:=hiD hT;have HG:=hiD hG;have HZ:=hiD hz;have HWF:=hiD hwf;clear hT hG hz hwf
  go_wp2_with fail
  refine (rdget_any b 2 L _ _ HG.out.rd (by omega) (.inl rfl)).mono ?_;rintro e w8 ⟨rfl,hR,hM,hN,_⟩;have hG8:=HG.out.read hR hM;have hT8:=HT.out.blk (fun i hi hl=>hM.block i hl (by have:=HG.out.lp;omega));obtain ⟨N,hN0⟩:∃ N,gN 2 (p3 L)=N:=⟨_,rfl⟩;rw [hN0] at hN ⊢;have e5:=hG8.cs 5 _ rfl;have z5:=hG8.xp.f 5 (by decide)
  obtain ⟨hG9,hm9⟩:=hG8.put (vs':=[.int .i64 (k:Int),.slice av zs.length cv,.bool false,.slice none 0 0,.slice none 0 0,.int .i64 (N:Int),.bool false,.slice none 0 0,.slice none 0 0]) [.int .i64 (N:Int)] 5 (by simp) (by simp [notU_i64]) (fun i v e=>by
   by_cases h:i=5
   · subst h;exact .inr ⟨nRf _,e⟩
   refine .inl ⟨by simp;omega,?_⟩
   match i,e,h with
   | 0,e,_=>exact e
   | 1,e,_=>exact e
   | 2,e,_=>exact e
   | 3,e,_=>exact e
   | 4,e,_=>exact e
   | 6,e,_=>exact e
   | 7,e,_=>exact e
   | 8,e,_=>exact e)
  have HG9:=hiD hG9;have HM9:=hiD hm9;have HT8:=hiD hT8;have HN:=hiD hN0;clear hR hM hG8 hT8 hG9 hm9 hN0 HT HG
  go_upto_block 2 with fail
  obtain ⟨w9,hW9⟩:∃ W,w8.setCell ⟨P,5,none⟩ (.int .i64 (N:Int))=W:=⟨_,rfl⟩;have hG:=HG9.out;have hm:=HM9.out;simp only [World.setCells] at hG hm;rw [hW9] at hG hm ⊢;have hsz:w9.heap.size=w8.heap.size:=by rw [← hW9];simp
  obtain ⟨wa,hWa,ya,hba,ra,fa⟩:=box1g w9 w8.heap.size hsz.symm #[.pointer (some ⟨P,2,none⟩),.pointer (some ⟨P,6,none⟩)] 64;rw [hWa];obtain ⟨G,hG0⟩:∃ G,w8.heap.size=G:=⟨_,rfl⟩;rw [hG0] at ra ⊢;have l0:=ra 0;have l1:=ra 1;simp only [lgA,lgZ,lgS] at l0 l1;have hGP:P<G:=by have:=hG.lt;omega
  have HGa:=hiD (hG.past hba);have HTa:=hiD ((HT8.out.blk (fun i hi hl=>hm.block i hl (by omega))).past hba);have HL0:=hiD l0;have HL1:=hiD l1;clear hG hm hW9 hsz hWa ya hba ra fa hG0 HG9 HM9 HT8 l0 l1 e5 z5
  go_wp2_with fail
  go_loopg [8,9,10,41,45] 2 (fun gh s8 s9 s10 s41 s45 wx=>∃ (i:Nat) (vs:List Value),gh=2-i∧i≤2∧s41 = .int .i64 (i:Int)∧GetG w b P L (pR i L) vs wx∧LpI P G L i av cv zs vs wx∧vs.length=9∧vs[0]? = some (.int .i64 (k:Int))∧vs[1]? = some (.slice av zs.length cv)∧vs[5]? = some (.int .i64 (N:Int)))
  case atStart=>exact ⟨0,_,rfl,Nat.zero_le _,by go_num,HGa.out,⟨HTa.out,HL0.out,HL1.out,fun j hj=>absurd hj (Nat.not_lt_zero _),hGP⟩,rfl,rfl,rfl,rfl⟩
  case round =>
   obtain ⟨i,vs,rfl,hi,rfl,hG,hI,v9,v0,v1,v5⟩:=hrel;have HI:=hiD hI;have HG:=hiD hG;have HV:=hiD (⟨v9,v0,v1,v5⟩:_∧_∧_∧_);clear HGa HTa HL0 HL1 hI hG v9 v0 v1 v5
   by_cases hlt:i<2
   · obtain ⟨o,ho⟩:∃ o,2+4*i=o:=⟨_,rfl⟩
     have li:wr.cell? ⟨G,i,none⟩=some (.pointer (some ⟨P,o,none⟩)):=by
      rcases (by omega:i=0∨i=1) with h | h<;>subst h<;>subst ho
      · exact HI.out.l0
      exact HI.out.l1
     have HO:=hiD ho;have ho7:o+2<9:=by omega
     clear ho;have hlt2:(i:Int)<2:=by omega
     go_wp2_with fail
     refine (rdget_any b 2 L _ _ HG.out.rd (by omega) (.inl rfl)).mono ?_;rintro e wb ⟨rfl,hR,hM,_,hx⟩;have hlb:=HG.out.lb;have hlp:=HG.out.lp;have HGb:=hiD (HG.out.read hR hM);have HIb:=hiD (HI.out.go hM (fun k e=>by omega));obtain ⟨x,hx0⟩:∃ x,gN 2 (pR i L)=x:=⟨_,rfl⟩;rw [hx0] at hx ⊢;have hxl:=hx rfl;have HX:=hiD hx0;clear hR hM hx hx0 HG HI li
     go_wp2_with fail
     refine (raw_any b x L _ _ HGb.out.rd (by omega) (by omega)).mono ?_;rintro e wc ⟨a',m',c',rfl,hbt,hR,hM⟩;have hG:=HGb.out.read hR hM;have hI:=HIb.out.go hM (fun k e=>by omega);rw [← HX.out] at hbt hG;change BytesAt wc a' m' c' (pX i L) at hbt;change GetG w b P L (pR (i+1) L) vs wc at hG;have hmx:=(hG.bel.cell (p:=⟨2,0,none⟩) (World.block_lt_of_cell? w ⟨2,0,none⟩ HM.out)).trans HM.out;obtain ⟨T,hT0⟩:∃ T,pX i L=T:=⟨_,rfl⟩;rw [hT0] at hbt;have hcv:=hbt.text (P:=Tryz.prog) 31 5 9 Tryz.underlying31 Tryz.underlying5 Tryz.underlying9;have hsz:(bytB T).size≤9223372036854775807:=by have:=hbt.len;have:=hbt.le;have:=hbt.cle;rw [bytB_size];omega
     have HRA:=hiD (read_any (bytB T) wc hsz m hmx);have HT0:=hiD hT0;have HG:=hiD hG;have HI:=hiD hI;clear hR hM hmx hT0 hsz hbt hG hI HGb HIb
     go_wp2_with fail
     refine HRA.out.mono ?_;rintro e wd ⟨a1,n1,c1,a2,n2,c2,rfl,o1,o2,hb⟩;obtain ⟨E,hE0⟩:∃ E,readE (bytB T).data.toList=E:=⟨_,rfl⟩;obtain ⟨A,hA0⟩:∃ A,readA (bytB T).data.toList=A:=⟨_,rfl⟩;obtain ⟨B,hB0⟩:∃ B,(readR (bytB T).data.toList).1=B:=⟨_,rfl⟩;rw [hE0,hA0,hB0];have HG2:=hiD (HG.out.past hb);have HI2:=hiD (HI.out.go (X:=fun _=>False) (.ofBelow hb) (fun _=>False.elim));have O1:=hiD o1.toNatAt;have O2:=hiD o2.toNatAt;have HE:=hiD hE0;have HB:=hiD hB0;clear hE0 hA0 hB0 o1 o2 hb HG HI HRA hcv
     go_upto_region 12 with fail
     obtain ⟨we,hWe,ye,hbe,re,fe⟩:=box1g wd wd.heap.size rfl #[.bool B,.slice a1 n1 c1,.slice a2 n2 c2] 28;rw [hWe];obtain ⟨wf,hWf,yf,hbf,rf,ff⟩:=box1g we (wd.heap.size+1) (by omega) #[.int .i64 (E:Int),.int .i64 (A:Int)] 67;rw [hWf];have hbb:=bLt hbe hbf;have q0:=bq hbf (by omega) (re 0);have q1:=bq hbf (by omega) (re 1);have q2:=bq hbf (by omega) (re 2);have s0:=rf 0;simp only [lgA,lgZ,lgS] at q0 q1 q2 s0;have HG3:=hiD (HG2.out.past hbb);have HI3:=hiD (HI2.out.go (X:=fun _=>False) (.ofBelow hbb) (fun _=>False.elim));have O3:=hiD (O1.out.past hbb);have O4:=hiD (O2.out.past hbb);clear hWe ye hbe re fe hWf yf hbf rf ff hbb HG2 HI2 O1 O2
     by_cases hE:E=0
     · have tE:(((E:Nat):Int) != 0)=false:=by simp [hE]
       obtain ⟨u0,k0,_⟩:=HG3.out.xp.c o (by omega);obtain ⟨u1,k1,_⟩:=HG3.out.xp.c (o+1) (by omega);obtain ⟨u2,k2,_⟩:=HG3.out.xp.c (o+2) ho7;have z0:=HG3.out.xp.f o (by omega);have z1:=HG3.out.xp.f (o+1) (by omega);have z2:=HG3.out.xp.f (o+2) ho7;have HE0:=hiD hE;clear hE
       go_wp2
       go_roundg (2-(i+1))
       case measure=>omega
       case rel =>
        obtain ⟨vs',hvs⟩:∃ vs',((vs.set o (.bool B)).set (o+1) (.slice a1 n1 c1)).set (o+2) (.slice a2 n2 c2)=vs':=⟨_,rfl⟩;obtain ⟨v9,v0,v1,v5⟩:=HV.out;have hw0:vs'[o]? = some (.bool B):=by rw [← hvs];simp [List.getElem?_set];omega
        have hw1:vs'[o+1]? = some (.slice a1 n1 c1):=by rw [← hvs];simp [List.getElem?_set];omega
        have hw2:vs'[o+2]? = some (.slice a2 n2 c2):=by rw [← hvs];simp [List.getElem?_set];omega
        have hwo:∀ t,t<o∨o+3≤t→vs'[t]? = vs[t]?:=fun t ht=>by
         rw [← hvs,List.getElem?_set_ne (by omega),List.getElem?_set_ne (by omega),List.getElem?_set_ne (by omega)]
        obtain ⟨g1,g2⟩:=HG3.out.put (vs':=vs') [.bool B,.slice a1 n1 c1,.slice a2 n2 c2] o (by simp;omega) (by simp [notU_bool,notU_slice]) (fun t v e=>by
         by_cases h:t<o∨o+3≤t
         · exact .inl ⟨by simpa using h,by rw [← hwo t h];exact e⟩
         refine .inr ⟨by omega,?_⟩;rcases (by omega:t=o∨t=o+1∨t=o+2) with h | h | h<;>subst h
         · rw [hw0] at e;rw [Nat.sub_self];exact e
         · rw [hw1] at e;rw [Nat.add_sub_cancel_left];exact e
         rw [hw2] at e;rw [Nat.add_sub_cancel_left];exact e)
        have hI:=HI3.out.go g2 (fun k e=>by omega);have ho:=HO.out;refine ⟨i+1,vs',rfl,by omega,by go_num,g1,⟨hI.tab,hI.l0,hI.l1,fun j hj => ?_,hI.gp⟩,by rw [← hvs];simpa using v9,(hwo 0 (by omega)).trans v0,(hwo 1 (by omega)).trans v1,(hwo 5 (by omega)).trans v5⟩
        by_cases hji:j=i
        · subst hji;unfold RdC;rw [HT0.out,ho,HE.out,HB.out];exact ⟨HE0.out,a1,n1,c1,a2,n2,c2,hw0,hw1,hw2,O3.out.stays g2.stays,O4.out.stays g2.stays⟩
        obtain ⟨h1,b1,m1,d1,b2,m2,d2,h2,h3,h4,h5,h6⟩:=hI.rd j (by omega);exact ⟨h1,b1,m1,d1,b2,m2,d2,(hwo _ (by omega)).trans h2,(hwo _ (by omega)).trans h3,(hwo _ (by omega)).trans h4,h5,h6⟩
     have tE:(((E:Nat):Int) != 0)=true:=by simp;omega
     obtain ⟨u0,u1,u2,u3,u4,u5,u6,u7,u8,k0,k1,k2,k3,k4,k5,k6,k7,k8,z0,z1,z2,z3,z4,z5,z6,z7,z8⟩:=HG3.out.x0.nine;have HE0:=hiD hE;clear hE
     go_wp2
     obtain ⟨wz,hWz,cz,mz⟩:=put9 HG3.out.x0 (.int .i64 0) (.slice none 0 0) (.bool false) (.slice none 0 0) (.slice none 0 0) (.int .i64 0) (.bool false) (.slice none 0 0) (.slice none 0 0) (by simp [notU_bool,notU_slice,notU_i64]);rw [hWz];refine bodyPost_ret (v:=.tuple #[.agg #[.int .i64 0,.slice none 0 0,.bool false,.slice none 0 0,.slice none 0 0,.int .i64 0,.bool false,.slice none 0 0,.slice none 0 0],.int .i64 6]) ?_ rfl (.inr ⟨fun k zs N eps F hk=>gotP_no (.inr ?_) hk,rfl,HG3.out.bel.trans (mz.below HG3.out.bel.size (fun k e=>by omega))⟩)
     · have y0:=cz 0 (by decide);have y1:=cz 1 (by decide);have y2:=cz 2 (by decide);have y3:=cz 3 (by decide);have y4:=cz 4 (by decide);have y5:=cz 5 (by decide);have y6:=cz 6 (by decide);have y7:=cz 7 (by decide);have y8:=cz 8 (by decide);simp only [List.getElem_cons_zero,List.getElem_cons_succ] at y0 y1 y2 y3 y4 y5 y6 y7 y8;simp [results,Tryz.f7,go_sem,y0,y1,y2,y3,y4,y5,y6,y7,y8]
     have he:readE (bytB (pX i L)).data.toList≠0:=by rw [HT0.out,HE.out];exact HE0.out
     rcases (by omega:i=0∨i=1) with h | h<;>subst h
     · exact .inl he
     exact .inr he
   obtain rfl:i=2:=by omega
   obtain ⟨v9,v0,v1,v5⟩:=HV.out;obtain ⟨hE1,a1,n1,c1,a2,n2,c2,v2,v3,v4,d1,d2⟩:=HI.out.rd 0 (by decide);obtain ⟨hE2,a3,n3,c3,a4,n4,c4,v6,v7,v8,d3,d4⟩:=HI.out.rd 1 (by decide);have D:=hiD (⟨d1,d2,d3,d4⟩:_∧_∧_∧_);have VV:=hiD (⟨v0,v1,v2,v3,v4,v5,v6,v7,v8⟩:_∧_∧_∧_∧_∧_∧_∧_∧_);have EE:=hiD (⟨hE1,hE2⟩:_∧_);clear v0 v1 v2 v3 v4 v5 v6 v7 v8 d1 d2 d3 d4 hE1 hE2
   go_wp2_with fail
   refine (end_any b L _ _ HG.out.rd (by omega)).mono ?_;rintro e wg ⟨E,A,rfl,hb,hEA⟩;have HG2:=hiD (HG.out.past hb);have HT2:=hiD (HI.out.tab.past hb);obtain ⟨d1,d2,d3,d4⟩:=D.out;have D2:=hiD (⟨d1.past hb,d2.past hb,d3.past hb,d4.past hb⟩:_∧_∧_∧_);obtain ⟨u0,u1,u2,u3,u4,u5,u6,u7,u8,k0,k1,k2,k3,k4,k5,k6,k7,k8,z0,z1,z2,z3,z4,z5,z6,z7,z8⟩:=HG2.out.x0.nine;clear hb HG HI D d1 d2 d3 d4;rcases hEA with ⟨h8,rfl,rfl⟩ | ⟨h8,hE⟩
   rotate_left
   · have tE:(E == 0)=false:=by simp [hE]
     have tE2:(E != 0)=true:=by simp [hE]
     have H8:=hiD h8;clear h8 hE
     go_wp2
     obtain ⟨wz,hWz,cz,mz⟩:=put9 HG2.out.x0 (.int .i64 0) (.slice none 0 0) (.bool false) (.slice none 0 0) (.slice none 0 0) (.int .i64 0) (.bool false) (.slice none 0 0) (.slice none 0 0) (by simp [notU_bool,notU_slice,notU_i64]);rw [hWz];refine bodyPost_ret (v:=.tuple #[.agg #[.int .i64 0,.slice none 0 0,.bool false,.slice none 0 0,.slice none 0 0,.int .i64 0,.bool false,.slice none 0 0,.slice none 0 0],.int .i64 6]) ?_ rfl (.inr ⟨fun k zs N eps F hk=>gotP_no (.inl H8.out) hk,rfl,HG2.out.bel.trans (mz.below HG2.out.bel.size (fun k e=>by omega))⟩);have y0:=cz 0 (by decide);have y1:=cz 1 (by decide);have y2:=cz 2 (by decide);have y3:=cz 3 (by decide);have y4:=cz 4 (by decide);have y5:=cz 5 (by decide);have y6:=cz 6 (by decide);have y7:=cz 7 (by decide);have y8:=cz 8 (by decide);simp only [List.getElem_cons_zero,List.getElem_cons_succ] at y0 y1 y2 y3 y4 y5 y6 y7 y8;simp [results,Tryz.f7,go_sem,y0,y1,y2,y3,y4,y5,y6,y7,y8]
   obtain ⟨eps,F,r1,r2,hput,s1,s2,s3,s4,hk2,hn2⟩:=gotP_yes HD.out h8 EE.out.1 EE.out.2;have R1:=hiD r1;have R2:=hiD r2;obtain ⟨d1,d2,d3,d4⟩:=D2.out;obtain ⟨v0,v1,v2,v3,v4,v5,v6,v7,v8⟩:=VV.out;change readR (bytB (pX 0 L)).data.toList=_ at r1;change readR (bytB (pX 1 L)).data.toList=_ at r2;rw [r1] at d1 d2 v2;rw [r2] at d3 d4 v6;simp only at d1 d2 d3 d4 v2 v6;have l1:=textQ_rlen (q:=eps) (by omega);have l2:=textQ_rlen (q:=F) (by omega);have ln:∀ {q:Rat},rlen q≤200→(digs q.num.natAbs).length≤200∧(digs q.den).length≤200:=fun h=>by unfold rlen at h;omega
   have m1:n1≤200:=by have:=d1.len;have:=ln l1;omega
   have m2:n2≤200:=by have:=d2.len;have:=ln l1;omega
   have m3:n3≤200:=by have:=d3.len;have:=ln l2;omega
   have m4:n4≤200:=by have:=d4.len;have:=ln l2;omega
   have q0:=HG2.out.cs 0 _ v0;have q1:=HG2.out.cs 1 _ v1;have q2:=HG2.out.cs 2 _ v2;have q3:=HG2.out.cs 3 _ v3;have q4:=HG2.out.cs 4 _ v4;have q5:=HG2.out.cs 5 _ v5;have q6:=HG2.out.cs 6 _ v6;have q7:=HG2.out.cs 7 _ v7;have q8:=HG2.out.cs 8 _ v8;have hT:=HT2.out.ints HWF.out;have DD:=hiD (⟨d1,d2,d3,d4,hT⟩:_∧_∧_∧_∧_);have HKA:=hiD (kept_any (k:Int) (N:Int) zs (neg eps.num) (neg F.num) _ _ _ _ _ _ _ _ _ _ _ _ _ _ _ _ _ _ _ wg hT d1 d2 d3 d4 m1 m2 m3 m4);have HKI:=hiD (keptB_iff (k:=k) (N:=N) (zs:=zs) (eps:=eps) (F:=F));have PUT:=hiD hput;have SS:=hiD (⟨s1,s2,l1,l2⟩:_∧_∧_∧_);have hN:pN L=N:=HN.out;have NN:=hiD (⟨HK.out,HZ.out.symm,hN⟩:_∧_∧_);clear D2 VV v0 v1 v2 v3 v4 v5 v6 v7 v8 r1 r2 d1 d2 d3 d4 m1 m2 m3 m4 l1 l2 s1 s2 s3 s4 hput hT h8 ln hk2 hn2 hN
   go_wp2_with fail
   refine HKA.out.mono ?_;rintro e wh ⟨rfl,hb⟩;have hKI:=HKI.out;generalize hB0:keptB _ _ _ _ _ _ _ _ _=B at hKI ⊢;have hlt:=HG2.out.lt;have q0:=bq hb hlt q0;have q1:=bq hb hlt q1;have q2:=bq hb hlt q2;have q3:=bq hb hlt q3;have q4:=bq hb hlt q4;have q5:=bq hb hlt q5;have q6:=bq hb hlt q6;have q7:=bq hb hlt q7;have q8:=bq hb hlt q8;have HG2:=hiD (HG2.out.past hb);have HT2:=hiD (HT2.out.past hb);obtain ⟨d1,d2,d3,d4,_⟩:=DD.out;have D3:=hiD (⟨d1.past hb,d2.past hb,d3.past hb,d4.past hb⟩:_∧_∧_∧_);have HB0:=hiD hB0;have HKJ:=hiD hKI;clear d1 d2 d3 d4 DD hb hB0 hKI HKA HKI k0 k1 k2 k3 k4 k5 k6 k7 k8 z0 z1 z2 z3 z4 z5 z6 z7 z8 hlt;obtain ⟨u0,u1,u2,u3,u4,u5,u6,u7,u8,k0,k1,k2,k3,k4,k5,k6,k7,k8,z0,z1,z2,z3,z4,z5,z6,z7,z8⟩:=HG2.out.x0.nine;cases B
   · have hno:¬ KeptP (pK L) (pZ L) (pN L) eps F:=by
      rw [NN.out.1,NN.out.2.1,NN.out.2.2];rintro ⟨h1,h2,h3,_⟩;exact absurd (HKJ.out.2 ⟨h1,h2,h3⟩) (by decide)
     have HNO:=hiD hno;clear hno
     go_wp2
     obtain ⟨wz,hWz,cz,mz⟩:=put9 HG2.out.x0 (.int .i64 0) (.slice none 0 0) (.bool false) (.slice none 0 0) (.slice none 0 0) (.int .i64 0) (.bool false) (.slice none 0 0) (.slice none 0 0) (by simp [notU_bool,notU_slice,notU_i64]);rw [hWz];refine bodyPost_ret (v:=.tuple #[.agg #[.int .i64 0,.slice none 0 0,.bool false,.slice none 0 0,.slice none 0 0,.int .i64 0,.bool false,.slice none 0 0,.slice none 0 0],.int .i64 6]) ?_ rfl (.inr ⟨fun k zs N eps F hk=>gotP_not R1.out R2.out HNO.out hk,rfl,HG2.out.bel.trans (mz.below HG2.out.bel.size (fun k e=>by omega))⟩);have y0:=cz 0 (by decide);have y1:=cz 1 (by decide);have y2:=cz 2 (by decide);have y3:=cz 3 (by decide);have y4:=cz 4 (by decide);have y5:=cz 5 (by decide);have y6:=cz 6 (by decide);have y7:=cz 7 (by decide);have y8:=cz 8 (by decide);simp only [List.getElem_cons_zero,List.getElem_cons_succ] at y0 y1 y2 y3 y4 y5 y6 y7 y8;simp [results,Tryz.f7,go_sem,y0,y1,y2,y3,y4,y5,y6,y7,y8]
   obtain ⟨h1,h2,h3⟩:=HKJ.out.1 rfl;have HO:=hiD (⟨h1,h2,h3,SS.out.1,SS.out.2.1⟩:KeptP k zs N eps F);clear h1 h2 h3
   go_wp2
   obtain ⟨wz,hWz,cz,mz⟩:=put9 HG2.out.x0 (.int .i64 (k:Int)) (.slice av zs.length cv) (.bool (neg eps.num)) (.slice a1 n1 c1) (.slice a2 n2 c2) (.int .i64 (N:Int)) (.bool (neg F.num)) (.slice a3 n3 c3) (.slice a4 n4 c4) (by simp [notU_bool,notU_slice,notU_i64]);rw [hWz];have hlb:=HG2.out.lb;have hlp:=HG2.out.lp;have hT:TabR P av cv zs wz:=HT2.out.blk (fun j hj hl=>mz.block j hl (by omega));obtain ⟨d1,d2,d3,d4⟩:=D3.out;refine bodyPost_ret (v:=.tuple #[.agg #[.int .i64 (k:Int),.slice av zs.length cv,.bool (neg eps.num),.slice a1 n1 c1,.slice a2 n2 c2,.int .i64 (N:Int),.bool (neg F.num),.slice a3 n3 c3,.slice a4 n4 c4],.int .i64 0]) ?_ rfl (.inl ⟨k,zs,N,eps,F,av,zs.length,cv,a1,n1,c1,a2,n2,c2,a3,n3,c3,a4,n4,c4,HO.out,SS.out.2.2.1,SS.out.2.2.2,?_,rfl,hT.ints HWF.out,d1.stays mz.stays,d2.stays mz.stays,d3.stays mz.stays,d4.stays mz.stays,HG2.out.bel.trans (mz.below HG2.out.bel.size (fun k e=>by omega))⟩)
   · have y0:=cz 0 (by decide);have y1:=cz 1 (by decide);have y2:=cz 2 (by decide);have y3:=cz 3 (by decide);have y4:=cz 4 (by decide);have y5:=cz 5 (by decide);have y6:=cz 6 (by decide);have y7:=cz 7 (by decide);have y8:=cz 8 (by decide);simp only [List.getElem_cons_zero,List.getElem_cons_succ] at y0 y1 y2 y3 y4 y5 y6 y7 y8;simp [results,Tryz.f7,go_sem,y0,y1,y2,y3,y4,y5,y6,y7,y8]
   have h:=PUT.out;rw [NN.out.1,NN.out.2.1,NN.out.2.2] at h;exact h
end
section
open Go.RowKit
def GetF (L:List Nat) (K3 N3 E:Int) (b5 b6:Bool) (uT:Option Addr) (vT rT:Nat) (u1:Option Addr) (v1 r1:Nat) (u2:Option Addr) (v2 r2:Nat) (u3:Option Addr) (v3 r3:Nat) (u4:Option Addr) (v4 r4:Nat) (w':World):Prop :=
 (E=0∧∃ k zs n eps F,KeptP k zs n eps F∧rlen eps≤200∧rlen F≤200∧L=putL k zs n eps F∧K3=(k:Int)∧N3=(n:Int)∧b5=neg eps.num∧b6=neg F.num∧IntsAt w' uT vT rT zs∧NatAt w' u1 v1 r1 (digs eps.num.natAbs)∧NatAt w' u2 v2 r2 (digs eps.den)∧NatAt w' u3 v3 r3 (digs F.num.natAbs)∧NatAt w' u4 v4 r4 (digs F.den)) ∨
 (E=6∧∀ k zs N eps F,KeptP k zs N eps F→L≠putL k zs N eps F)
theorem GetF.past {L:List Nat} {K3 N3 E:Int} {b5 b6:Bool} {uT:Option Addr} {vT rT:Nat} {u1:Option Addr} {v1 r1:Nat} {u2:Option Addr} {v2 r2:Nat} {u3:Option Addr} {v3 r3:Nat} {u4:Option Addr} {v4 r4:Nat} {w w':World} (h:GetF L K3 N3 E b5 b6 uT vT rT u1 v1 r1 u2 v2 r2 u3 v3 r3 u4 v4 r4 w) (hb:Below w.heap.size w w'):GetF L K3 N3 E b5 b6 uT vT rT u1 v1 r1 u2 v2 r2 u3 v3 r3 u4 v4 r4 w':=by
 rcases h with ⟨e,k,zs,n,eps,F,h1,h2,h3,h4,h5,h6,h7,h8,h9,k1,k2,k3,k4⟩ | h
 · exact .inl ⟨e,k,zs,n,eps,F,h1,h2,h3,h4,h5,h6,h7,h8,h9.past hb,k1.past hb,k2.past hb,k3.past hb,k4.past hb⟩
 exact .inr h
def GetV (L:List Nat) (w:World) (e:Ending) (w':World):Prop :=
 ∃ (K3 N3 E:Int) (b5 b6:Bool) (uT:Option Addr) (vT rT:Nat) (u1:Option Addr) (v1 r1:Nat) (u2:Option Addr) (v2 r2:Nat) (u3:Option Addr) (v3 r3:Nat) (u4:Option Addr) (v4 r4:Nat),e = .returned (.tuple #[.agg #[.int .i64 K3,.slice uT vT rT,.bool b5,.slice u1 v1 r1,.slice u2 v2 r2,.int .i64 N3,.bool b6,.slice u3 v3 r3,.slice u4 v4 r4],.int .i64 E])∧Below w.heap.size w w'∧GetF L K3 N3 E b5 b6 uT vT rT u1 v1 r1 u2 v2 r2 u3 v3 r3 u4 v4 r4 w'
theorem getV_any (a:Option Addr) (c:Nat) (L:List Nat) (w:World) (g:BytesAt w a L.length c L) (hL:L.length≤2000) (hm:MaxL w):Calls Tryz.prog 7 #[.slice a L.length c] w (GetV L w):=by
 obtain ⟨m,hm⟩:=hm;refine (get27_any a c L w g hL m hm).mono ?_;rintro e w' (⟨k,zs,N,eps,F,aT,nT,cT,a1,n1,c1,a2,n2,c2,a3,n3,c3,a4,n4,c4,h1,h2,h3,h4,rfl,h5,h6,h7,h8,h9,h10⟩ | ⟨h1,rfl,h2⟩)
 · exact ⟨_,_,0,_,_,_,_,_,_,_,_,_,_,_,_,_,_,_,_,_,rfl,h10,.inl ⟨rfl,k,zs,N,eps,F,h1,h2,h3,h4,rfl,rfl,rfl,rfl,h5,h6,h7,h8,h9⟩⟩
 exact ⟨0,0,6,false,false,none,0,0,none,0,0,none,0,0,none,0,0,none,0,0,rfl,h2,.inr ⟨rfl,h1⟩⟩
theorem planBack_any (K N:Int) (zs:List Int) (b1 b2:Bool) (l1 l2 l3 l4:List Nat) (K2 N2:Int) (zs2:List Int) (b3 b4:Bool) (l5 l6 l7 l8:List Nat) (aT:Option Addr) (nT cT:Nat) (a1:Option Addr) (n1 c1:Nat) (a2:Option Addr) (n2 c2:Nat) (a3:Option Addr) (n3 c3:Nat) (a4:Option Addr) (n4 c4:Nat) (xT:Option Addr) (yT zT:Nat) (x1:Option Addr) (y1 z1:Nat) (x2:Option Addr) (y2 z2:Nat) (x3:Option Addr) (y3 z3:Nat) (x4:Option Addr) (y4 z4:Nat) (ab:Option Addr) (nb cb:Nat) (Lb:List Nat) (w:World) (g:IntsAt w aT nT cT zs) (d1:NatAt w a1 n1 c1 l1) (d2:NatAt w a2 n2 c2 l2) (d3:NatAt w a3 n3 c3 l3) (d4:NatAt w a4 n4 c4 l4) (gT:IntsAt w xT yT zT zs2) (f1:NatAt w x1 y1 z1 l5) (f2:NatAt w x2 y2 z2 l6) (f3:NatAt w x3 y3 z3 l7) (f4:NatAt w x4 y4 z4 l8) (hy:BytesAt w ab nb cb Lb) (hm:MaxL w) :
 Calls Tryz.prog 3 #[.agg #[.int .i64 K,.slice aT nT cT,.bool b1,.slice a1 n1 c1,.slice a2 n2 c2,.int .i64 N,.bool b2,.slice a3 n3 c3,.slice a4 n4 c4],.agg #[.int .i64 K2,.slice xT yT zT,.bool b3,.slice x1 y1 z1,.slice x2 y2 z2,.int .i64 N2,.bool b4,.slice x3 y3 z3,.slice x4 y4 z4],.slice ab nb cb] w (RetVal w (.bool true)):=by
 obtain rfl:=hy.len;have HLP:=hiD (fun w=>longPlan_any K N b1 b2 aT nT cT a1 n1 c1 a2 n2 c2 a3 n3 c3 a4 n4 c4 w (by have:=g.le;have:=g.cle;simp only [maxLen] at this;omega) (by have:=d1.le;have:=d1.cle;omega) (by have:=d2.le;have:=d2.cle;omega) (by have:=d3.le;have:=d3.cle;omega) (by have:=d4.le;have:=d4.cle;omega));have HLQ:=hiD (fun w=>longPlan_any K2 N2 b3 b4 xT yT zT x1 y1 z1 x2 y2 z2 x3 y3 z3 x4 y4 z4 w (by have:=gT.le;have:=gT.cle;simp only [maxLen] at this;omega) (by have:=f1.le;have:=f1.cle;omega) (by have:=f2.le;have:=f2.cle;omega) (by have:=f3.le;have:=f3.cle;omega) (by have:=f4.le;have:=f4.cle;omega));generalize hBP:(decide (40<(nT:Int)) || ((decide (20<(n1:Int)) || decide (20<(n2:Int))) || (decide (20<(n3:Int)) || decide (20<(n4:Int)))))=BP at HLP
 generalize hBQ:(decide (40<(yT:Int)) || ((decide (20<(y1:Int)) || decide (20<(y2:Int))) || (decide (20<(y3:Int)) || decide (20<(y4:Int)))))=BQ at HLQ
 have HBP:=hiD hBP;have HBQ:=hiD hBQ;have HM:=hiD hm;have GD:=hiD (⟨d1.dig,d2.dig,d3.dig,d4.dig,f1.dig,f2.dig,f3.dig,f4.dig⟩:_∧_∧_∧_∧_∧_∧_∧_);have GL:=hiD (⟨d1.len,d2.len,d3.len,d4.len,f1.len,f2.len,f3.len,f4.len,g.len,gT.len⟩:_∧_∧_∧_∧_∧_∧_∧_∧_∧_);clear hBP hBQ hm
 go_enter Tryz.func3,Tryz.ntmps3
 have hB:=bRf w.heap.size w
 go_wp2_with fail
 obtain ⟨w1,hW,hz0,hb,q,f,qp0,qp1,qp2,qp3,qp4,qp5,qp6,qp7,qp8⟩:=bx9 w (w.heap.size) (by omega) (.int .i64 K) (.slice aT nT cT) (.bool b1) (.slice a1 n1 c1) (.slice a2 n2 c2) (.int .i64 N) (.bool b2) (.slice a3 n3 c3) (.slice a4 n4 c4) 30;rw [hW];clear hW;have g:=g.past hb;have d1:=d1.past hb;have d2:=d2.past hb;have d3:=d3.past hb;have d4:=d4.past hb;have gT:=gT.past hb;have f1:=f1.past hb;have f2:=f2.past hb;have f3:=f3.past hb;have f4:=f4.past hb;have hy:=hy.past hb;have hB:=bLt hB hb;clear hb;have lp:w.heap.size<w1.heap.size:=by omega
 clear q f;obtain ⟨w2,hW,hz1,hb,q,f,qq0,qq1,qq2,qq3,qq4,qq5,qq6,qq7,qq8⟩:=bx9 w1 (w.heap.size+1) (by omega) (.int .i64 K2) (.slice xT yT zT) (.bool b3) (.slice x1 y1 z1) (.slice x2 y2 z2) (.int .i64 N2) (.bool b4) (.slice x3 y3 z3) (.slice x4 y4 z4) 30;rw [hW];clear hW;have g:=g.past hb;have d1:=d1.past hb;have d2:=d2.past hb;have d3:=d3.past hb;have d4:=d4.past hb;have gT:=gT.past hb;have f1:=f1.past hb;have f2:=f2.past hb;have f3:=f3.past hb;have f4:=f4.past hb;have hy:=hy.past hb;obtain ⟨qp0,qp1,qp2,qp3,qp4,qp5,qp6,qp7,qp8,lp⟩:=bq9 hb lp qp0 qp1 qp2 qp3 qp4 qp5 qp6 qp7 qp8;have hB:=bLt hB hb;clear hb;have lq:w.heap.size+1<w2.heap.size:=by omega
 clear q f;clear hz0;clear hz1
 with_reducible refine (awake27 _).mono ?_
 rintro e w3 ⟨rfl,hb⟩;have g:=g.past hb;have d1:=d1.past hb;have d2:=d2.past hb;have d3:=d3.past hb;have d4:=d4.past hb;have gT:=gT.past hb;have f1:=f1.past hb;have f2:=f2.past hb;have f3:=f3.past hb;have f4:=f4.past hb;have hy:=hy.past hb;obtain ⟨qp0,qp1,qp2,qp3,qp4,qp5,qp6,qp7,qp8,lp⟩:=bq9 hb lp qp0 qp1 qp2 qp3 qp4 qp5 qp6 qp7 qp8;obtain ⟨qq0,qq1,qq2,qq3,qq4,qq5,qq6,qq7,qq8,lq⟩:=bq9 hb lq qq0 qq1 qq2 qq3 qq4 qq5 qq6 qq7 qq8;have hB:=bLt hB hb;clear hb
 go_wp2_with fail
 with_reducible refine (HLP.out _).mono ?_
 rintro e w4 ⟨rfl,hb⟩;have g:=g.past hb;have d1:=d1.past hb;have d2:=d2.past hb;have d3:=d3.past hb;have d4:=d4.past hb;have gT:=gT.past hb;have f1:=f1.past hb;have f2:=f2.past hb;have f3:=f3.past hb;have f4:=f4.past hb;have hy:=hy.past hb;obtain ⟨qp0,qp1,qp2,qp3,qp4,qp5,qp6,qp7,qp8,lp⟩:=bq9 hb lp qp0 qp1 qp2 qp3 qp4 qp5 qp6 qp7 qp8;obtain ⟨qq0,qq1,qq2,qq3,qq4,qq5,qq6,qq7,qq8,lq⟩:=bq9 hb lq qq0 qq1 qq2 qq3 qq4 qq5 qq6 qq7 qq8;have hB:=bLt hB hb;clear hb;cases BP
 rotate_left
 · go_wp2
   go_ret
   exact ⟨rfl,hB⟩
 go_wp2_with fail
 with_reducible refine (HLQ.out _).mono ?_
 rintro e w5 ⟨rfl,hb⟩;have g:=g.past hb;have d1:=d1.past hb;have d2:=d2.past hb;have d3:=d3.past hb;have d4:=d4.past hb;have gT:=gT.past hb;have f1:=f1.past hb;have f2:=f2.past hb;have f3:=f3.past hb;have f4:=f4.past hb;have hy:=hy.past hb;obtain ⟨qp0,qp1,qp2,qp3,qp4,qp5,qp6,qp7,qp8,lp⟩:=bq9 hb lp qp0 qp1 qp2 qp3 qp4 qp5 qp6 qp7 qp8;obtain ⟨qq0,qq1,qq2,qq3,qq4,qq5,qq6,qq7,qq8,lq⟩:=bq9 hb lq qq0 qq1 qq2 qq3 qq4 qq5 qq6 qq7 qq8;have hB:=bLt hB hb;clear hb;cases BQ
 rotate_left
 · go_wp2
   go_ret
   exact ⟨rfl,hB⟩
 by_cases hn:2000<Lb.length
 · have hn2:(2000:Int)<(Lb.length:Int):=by omega
   go_wp2
   go_ret
   exact ⟨rfl,hB⟩
 have hn2:¬ (2000:Int)<(Lb.length:Int):=by omega
 have hn3:decide ((2000:Int)<(Lb.length:Int))=false:=decide_eq_false hn2;have hbp:=HBP.out;have hbq:=HBQ.out;simp only [Bool.or_eq_false_iff,decide_eq_false_iff_not] at hbp hbq;obtain ⟨g1,g2,g3,g4,g5,g6,g7,g8,gz1,gz2⟩:=GL.out;obtain ⟨m1,m2,m3,m4,m5,m6,m7,m8⟩:=GD.out;obtain ⟨E1,hE1⟩:∃ E:Int,(bif keptB K zs b1 l1 l2 N b2 l3 l4 then 0 else 2)=E:=⟨_,rfl⟩;obtain ⟨E2,hE2⟩:∃ E:Int,(bif keptB K2 zs2 b3 l5 l6 N2 b4 l7 l8 then 0 else 2)=E:=⟨_,rfl⟩
 have k1:(E1=0∧keptB K zs b1 l1 l2 N b2 l3 l4=true)∨E1=2:=by
  rw [← hE1];cases keptB K zs b1 l1 l2 N b2 l3 l4<;>simp
 have k2:(E2=0∧keptB K2 zs2 b3 l5 l6 N2 b4 l7 l8=true)∨E2=2:=by
  rw [← hE2];cases keptB K2 zs2 b3 l5 l6 N2 b4 l7 l8<;>simp
 have R1:=hiD (kept_rats (K:=K) (N:=N) (zs:=zs) (b1:=b1) (b2:=b2) m1 m2 m3 m4 (by omega) (by omega) (by omega) (by omega));have R2:=hiD (kept_rats (K:=K2) (N:=N2) (zs:=zs2) (b1:=b3) (b2:=b4) m5 m6 m7 m8 (by omega) (by omega) (by omega) (by omega));have HPP:=hiD (fun (w:World) (g:IntsAt w aT nT cT zs) (d1:NatAt w a1 n1 c1 l1) (d2:NatAt w a2 n2 c2 l2) (d3:NatAt w a3 n3 c3 l3) (d4:NatAt w a4 n4 c4 l4)=>hE1 ▸ putp_any K N zs b1 b2 l1 l2 l3 l4 aT nT cT a1 n1 c1 a2 n2 c2 a3 n3 c3 a4 n4 c4 w g d1 d2 d3 d4 (by omega) (by omega) (by omega) (by omega));have HPQ:=hiD (fun (w:World) (g:IntsAt w xT yT zT zs2) (d1:NatAt w x1 y1 z1 l5) (d2:NatAt w x2 y2 z2 l6) (d3:NatAt w x3 y3 z3 l7) (d4:NatAt w x4 y4 z4 l8)=>hE2 ▸ putp_any K2 N2 zs2 b3 b4 l5 l6 l7 l8 xT yT zT x1 y1 z1 x2 y2 z2 x3 y3 z3 x4 y4 z4 w g d1 d2 d3 d4 (by omega) (by omega) (by omega) (by omega));have K1:=hiD k1;have K2':=hiD k2;obtain ⟨LP,hLP0⟩:∃ l,PutB K zs b1 l1 l2 N b2 l3 l4=l:=⟨_,rfl⟩;obtain ⟨LQ,hLQ0⟩:∃ l,PutB K2 zs2 b3 l5 l6 N2 b4 l7 l8=l:=⟨_,rfl⟩;have HL1:=hiD hLP0;have HL2:=hiD hLQ0;have HZ:=hiD (⟨by omega,by omega⟩:zs.length≤40∧zs2.length≤40);clear hLP0 hLQ0 hbp hbq g1 g2 g3 g4 g5 g6 g7 g8 gz1 gz2 m1 m2 m3 m4 m5 m6 m7 m8 hE1 hE2 k1 k2 HBP HBQ GD GL
 go_wp2_with fail
 refine (getV_any ab cb Lb _ hy (by omega) (MaxL.later HM.out hB)).mono ?_;rintro e w6 ⟨K3,N3,E,b5,b6,uT,vT,rT,u1,v1,r1,u2,v2,r2,u3,v3,r3,u4,v4,r4,rfl,hb,hE⟩;have g:=g.past hb;have d1:=d1.past hb;have d2:=d2.past hb;have d3:=d3.past hb;have d4:=d4.past hb;have gT:=gT.past hb;have f1:=f1.past hb;have f2:=f2.past hb;have f3:=f3.past hb;have f4:=f4.past hb;have hy:=hy.past hb;obtain ⟨qp0,qp1,qp2,qp3,qp4,qp5,qp6,qp7,qp8,lp⟩:=bq9 hb lp qp0 qp1 qp2 qp3 qp4 qp5 qp6 qp7 qp8;obtain ⟨qq0,qq1,qq2,qq3,qq4,qq5,qq6,qq7,qq8,lq⟩:=bq9 hb lq qq0 qq1 qq2 qq3 qq4 qq5 qq6 qq7 qq8;have hB:=bLt hB hb;clear hb
 go_upto_if 37 with fail
 obtain ⟨w7,hW,hz0,hb,q,f,qx0,qx1,qx2,qx3,qx4,qx5,qx6,qx7,qx8⟩:=bx9 w6 (w6.heap.size) (by omega) (.int .i64 K3) (.slice uT vT rT) (.bool b5) (.slice u1 v1 r1) (.slice u2 v2 r2) (.int .i64 N3) (.bool b6) (.slice u3 v3 r3) (.slice u4 v4 r4) 30;rw [hW];clear hW;have g:=g.past hb;have d1:=d1.past hb;have d2:=d2.past hb;have d3:=d3.past hb;have d4:=d4.past hb;have gT:=gT.past hb;have f1:=f1.past hb;have f2:=f2.past hb;have f3:=f3.past hb;have f4:=f4.past hb;have hy:=hy.past hb;have hE:=hE.past hb;obtain ⟨qp0,qp1,qp2,qp3,qp4,qp5,qp6,qp7,qp8,lp⟩:=bq9 hb lp qp0 qp1 qp2 qp3 qp4 qp5 qp6 qp7 qp8;obtain ⟨qq0,qq1,qq2,qq3,qq4,qq5,qq6,qq7,qq8,lq⟩:=bq9 hb lq qq0 qq1 qq2 qq3 qq4 qq5 qq6 qq7 qq8;have hB:=bLt hB hb;clear hb;have lx:w6.heap.size<w7.heap.size:=by omega
 clear q f;clear hz0;have HY:=hiD hy;have HE:=hiD hE;clear hE
 go_cut [10,11] from 36 to 50 (fun s10 s11 wx=>Below w7.heap.size w7 wx)
 case first =>
  rcases HE.out with ⟨rfl,k,zs3,n,eps,F,hkp,j1,j2,hL,rfl,rfl,rfl,rfl,e0,e1,e2,e3,e4⟩ | ⟨rfl,_⟩
  · have HP:=hiD (put27_any k n zs3 eps F uT vT rT u1 v1 r1 u2 v2 r2 u3 v3 r3 u4 v4 r4 w7 e0 e1 e2 e3 e4 hkp.1 hkp.2.1 hkp.2.2.1 j1 j2);have HL:=hiD hL;clear hkp j1 j2 e0 e1 e2 e3 e4 hL
    go_wp2_with fail
    refine HP.out.mono ?_;rintro e wy ⟨ac,nc,cc,rfl,hc,hb⟩;have hs:=sameBytes_any _ _ _ _ _ _ _ _ wy hc (HY.out.past hb);rw [show eqY (putL k zs3 n eps F) Lb=true by rw [← HL.out];exact decide_eq_true rfl] at hs;have HS:=hiD hs;have HBY:=hiD hb;clear hs hc hb
    go_wp2_with fail
    refine HS.out.mono ?_;rintro e wz ⟨rfl,hb⟩
    go_wp2
    go_meet
    exact bLt HBY.out hb
  go_wp2
  go_meet
  exact bRf _ _
 case rest =>
  skip
  have hb:=hcut;have g:=g.past hb;have d1:=d1.past hb;have d2:=d2.past hb;have d3:=d3.past hb;have d4:=d4.past hb;have gT:=gT.past hb;have f1:=f1.past hb;have f2:=f2.past hb;have f3:=f3.past hb;have f4:=f4.past hb;obtain ⟨qp0,qp1,qp2,qp3,qp4,qp5,qp6,qp7,qp8,lp⟩:=bq9 hb lp qp0 qp1 qp2 qp3 qp4 qp5 qp6 qp7 qp8;obtain ⟨qq0,qq1,qq2,qq3,qq4,qq5,qq6,qq7,qq8,lq⟩:=bq9 hb lq qq0 qq1 qq2 qq3 qq4 qq5 qq6 qq7 qq8;have hB:=bLt hB hb;clear hb hcut HE
  go_wp2_with fail
  refine (HPP.out _ g d1 d2 d3 d4).mono ?_;rintro e w21 ⟨ac,nc,cc,rfl,hc,hb⟩;have g:=g.past hb;have d1:=d1.past hb;have d2:=d2.past hb;have d3:=d3.past hb;have d4:=d4.past hb;have gT:=gT.past hb;have f1:=f1.past hb;have f2:=f2.past hb;have f3:=f3.past hb;have f4:=f4.past hb;obtain ⟨qp0,qp1,qp2,qp3,qp4,qp5,qp6,qp7,qp8,lp⟩:=bq9 hb lp qp0 qp1 qp2 qp3 qp4 qp5 qp6 qp7 qp8;obtain ⟨qq0,qq1,qq2,qq3,qq4,qq5,qq6,qq7,qq8,lq⟩:=bq9 hb lq qq0 qq1 qq2 qq3 qq4 qq5 qq6 qq7 qq8;have hB:=bLt hB hb;clear hb;rw [HL1.out] at hc
  go_wp2_with fail
  refine (HPQ.out _ gT f1 f2 f3 f4).mono ?_;rintro e w22 ⟨ad,nd,cd,rfl,hd,hb⟩;have g:=g.past hb;have d1:=d1.past hb;have d2:=d2.past hb;have d3:=d3.past hb;have d4:=d4.past hb;have gT:=gT.past hb;have f1:=f1.past hb;have f2:=f2.past hb;have f3:=f3.past hb;have f4:=f4.past hb;have hc:=hc.past hb;obtain ⟨qp0,qp1,qp2,qp3,qp4,qp5,qp6,qp7,qp8,lp⟩:=bq9 hb lp qp0 qp1 qp2 qp3 qp4 qp5 qp6 qp7 qp8;obtain ⟨qq0,qq1,qq2,qq3,qq4,qq5,qq6,qq7,qq8,lq⟩:=bq9 hb lq qq0 qq1 qq2 qq3 qq4 qq5 qq6 qq7 qq8;have hB:=bLt hB hb;clear hb;rw [HL2.out] at hd;rcases K1.out with ⟨rfl,hk1⟩ | rfl
  rotate_left
  · rcases K2'.out with ⟨rfl,_⟩ | rfl
    all_goals
     go_wp2
     go_ret
     exact ⟨rfl,hB⟩
  rcases K2'.out with ⟨rfl,hk2⟩ | rfl
  rotate_left
  · go_wp2
    go_ret
    exact ⟨rfl,hB⟩
  obtain ⟨k,n,eps,F,eK,eN,eb1,el1,el2,eb2,el3,el4,kp,t1,t2,eP⟩:=R1.out hk1;obtain ⟨k',n',eps',F',eK2,eN2,eb3,el5,el6,eb4,el7,el8,kq,t3,t4,eQ⟩:=R2.out hk2;have hlp:LP=putL k zs n eps F:=HL1.out.symm.trans eP;have hlq:LQ=putL k' zs2 n' eps' F':=HL2.out.symm.trans eQ;have hll:LP.length≤2000:=by rw [hlp];exact putL_len t1 t2 HZ.out.1
  obtain rfl:=hc.len;clear HPP HPQ HL1 HL2 R1 R2 K1 K2' HLP HLQ hk1 hk2 eP eQ t1 t2 t3 t4 HZ;subst eK eN eb1 el1 el2 eb2 el3 el4 eK2 eN2 eb3 el5 el6 eb4 el7 el8;have HLL:=hiD (⟨hlp,hlq,kp,kq⟩:_∧_∧_∧_);clear hlp hlq kp kq
  go_wp2_with fail
  refine (getV_any ac cc LP _ hc hll (MaxL.later HM.out hB)).mono ?_;rintro e w23 ⟨K3,N3,E,b5,b6,uT,vT,rT,u1,v1,r1,u2,v2,r2,u3,v3,r3,u4,v4,r4,rfl,hb,hE⟩;have g:=g.past hb;have d1:=d1.past hb;have d2:=d2.past hb;have d3:=d3.past hb;have d4:=d4.past hb;have gT:=gT.past hb;have f1:=f1.past hb;have f2:=f2.past hb;have f3:=f3.past hb;have f4:=f4.past hb;have hc:=hc.past hb;have hd:=hd.past hb;obtain ⟨qp0,qp1,qp2,qp3,qp4,qp5,qp6,qp7,qp8,lp⟩:=bq9 hb lp qp0 qp1 qp2 qp3 qp4 qp5 qp6 qp7 qp8;obtain ⟨qq0,qq1,qq2,qq3,qq4,qq5,qq6,qq7,qq8,lq⟩:=bq9 hb lq qq0 qq1 qq2 qq3 qq4 qq5 qq6 qq7 qq8;have hB:=bLt hB hb;clear hb;rcases hE with ⟨rfl,k3,zs3,n5,eps3,F3,hkp,_,_,hL,rfl,rfl,rfl,rfl,e0,e1,e2,e3,e4⟩ | ⟨_,hno⟩
  rotate_left
  · exact absurd HLL.out.1 (hno _ _ _ _ _ HLL.out.2.2.1)
  obtain ⟨rfl,rfl,rfl,rfl,rfl⟩:=putL_inj HLL.out.2.2.1 hkp (HLL.out.1.symm.trans hL);obtain ⟨B,hB0⟩:∃ B,eqP (k:Int) zs (neg eps.num) (digs eps.num.natAbs) (digs eps.den) (n:Int) (neg F.num) (digs F.num.natAbs) (digs F.den) (k':Int) zs2 (neg eps'.num) (digs eps'.num.natAbs) (digs eps'.den) (n':Int) (neg F'.num) (digs F'.num.natAbs) (digs F'.den)=B:=⟨_,rfl⟩;have hby:eqY LP LQ=B:=by rw [← hB0,← putB_eq HLL.out.2.2.1 HLL.out.2.2.2,HLL.out.1,HLL.out.2.1];rfl
  have HS1:=hiD (fun (w:World) (e0:IntsAt w uT vT rT zs) (e1:NatAt w u1 v1 r1 (digs eps.num.natAbs)) (e2:NatAt w u2 v2 r2 (digs eps.den)) (e3:NatAt w u3 v3 r3 (digs F.num.natAbs)) (e4:NatAt w u4 v4 r4 (digs F.den)) (g:IntsAt w aT nT cT zs) (d1:NatAt w a1 n1 c1 (digs eps.num.natAbs)) (d2:NatAt w a2 n2 c2 (digs eps.den)) (d3:NatAt w a3 n3 c3 (digs F.num.natAbs)) (d4:NatAt w a4 n4 c4 (digs F.den))=>(eqP_same (k:Int) zs (neg eps.num) (digs eps.num.natAbs) (digs eps.den) (n:Int) (neg F.num) (digs F.num.natAbs) (digs F.den)) ▸ samePlan_any (k:Int) (n:Int) zs (neg eps.num) (neg F.num) _ _ _ _ (k:Int) (n:Int) zs (neg eps.num) (neg F.num) _ _ _ _ uT vT rT u1 v1 r1 u2 v2 r2 u3 v3 r3 u4 v4 r4 aT nT cT a1 n1 c1 a2 n2 c2 a3 n3 c3 a4 n4 c4 w e0 e1 e2 e3 e4 g d1 d2 d3 d4);have HS2:=hiD (fun (w:World) (hc:BytesAt w ac LP.length cc LP) (hd:BytesAt w ad nd cd LQ)=>hby ▸ sameBytes_any ac LP.length cc LP ad nd cd LQ w hc hd);have HS3:=hiD (fun (w:World) (g:IntsAt w aT nT cT zs) (d1:NatAt w a1 n1 c1 (digs eps.num.natAbs)) (d2:NatAt w a2 n2 c2 (digs eps.den)) (d3:NatAt w a3 n3 c3 (digs F.num.natAbs)) (d4:NatAt w a4 n4 c4 (digs F.den)) (gT:IntsAt w xT yT zT zs2) (f1:NatAt w x1 y1 z1 (digs eps'.num.natAbs)) (f2:NatAt w x2 y2 z2 (digs eps'.den)) (f3:NatAt w x3 y3 z3 (digs F'.num.natAbs)) (f4:NatAt w x4 y4 z4 (digs F'.den))=>hB0 ▸ samePlan_any (k:Int) (n:Int) zs (neg eps.num) (neg F.num) _ _ _ _ (k':Int) (n':Int) zs2 (neg eps'.num) (neg F'.num) _ _ _ _ aT nT cT a1 n1 c1 a2 n2 c2 a3 n3 c3 a4 n4 c4 xT yT zT x1 y1 z1 x2 y2 z2 x3 y3 z3 x4 y4 z4 w g d1 d2 d3 d4 gT f1 f2 f3 f4)
  have tB:(B == B)=true:=by cases B<;>rfl
  have HK1:=hiD hkp;clear hkp hL hB0 hby HLL
  go_wp2_with fail
  obtain ⟨w24,hW,hz0,hb,q,f,qy0,qy1,qy2,qy3,qy4,qy5,qy6,qy7,qy8⟩:=bx9 w23 (w23.heap.size) (by omega) (.int .i64 (k:Int)) (.slice uT vT rT) (.bool (neg eps.num)) (.slice u1 v1 r1) (.slice u2 v2 r2) (.int .i64 (n:Int)) (.bool (neg F.num)) (.slice u3 v3 r3) (.slice u4 v4 r4) 30;rw [hW];clear hW;have g:=g.past hb;have d1:=d1.past hb;have d2:=d2.past hb;have d3:=d3.past hb;have d4:=d4.past hb;have gT:=gT.past hb;have f1:=f1.past hb;have f2:=f2.past hb;have f3:=f3.past hb;have f4:=f4.past hb;have hc:=hc.past hb;have hd:=hd.past hb;have e0:=e0.past hb;have e1:=e1.past hb;have e2:=e2.past hb;have e3:=e3.past hb;have e4:=e4.past hb;obtain ⟨qp0,qp1,qp2,qp3,qp4,qp5,qp6,qp7,qp8,lp⟩:=bq9 hb lp qp0 qp1 qp2 qp3 qp4 qp5 qp6 qp7 qp8;obtain ⟨qq0,qq1,qq2,qq3,qq4,qq5,qq6,qq7,qq8,lq⟩:=bq9 hb lq qq0 qq1 qq2 qq3 qq4 qq5 qq6 qq7 qq8;have hB:=bLt hB hb;clear hb;have ly:w23.heap.size<w24.heap.size:=by omega
  clear q f;clear hz0;have kp:=fun (w9:World) (h9:Below w24.heap.size w24 w9)=>(⟨(h9.cell (p:=⟨w23.heap.size,0,none⟩) ly).trans qy0,(h9.cell (p:=⟨w23.heap.size,1,none⟩) ly).trans qy1,(h9.cell (p:=⟨w23.heap.size,2,none⟩) ly).trans qy2,(h9.cell (p:=⟨w23.heap.size,3,none⟩) ly).trans qy3,(h9.cell (p:=⟨w23.heap.size,4,none⟩) ly).trans qy4,(h9.cell (p:=⟨w23.heap.size,5,none⟩) ly).trans qy5,(h9.cell (p:=⟨w23.heap.size,6,none⟩) ly).trans qy6,(h9.cell (p:=⟨w23.heap.size,7,none⟩) ly).trans qy7,(h9.cell (p:=⟨w23.heap.size,8,none⟩) ly).trans qy8,(h9.cell (p:=⟨w.heap.size,0,none⟩) lp).trans qp0,(h9.cell (p:=⟨w.heap.size,1,none⟩) lp).trans qp1,(h9.cell (p:=⟨w.heap.size,2,none⟩) lp).trans qp2,(h9.cell (p:=⟨w.heap.size,3,none⟩) lp).trans qp3,(h9.cell (p:=⟨w.heap.size,4,none⟩) lp).trans qp4,(h9.cell (p:=⟨w.heap.size,5,none⟩) lp).trans qp5,(h9.cell (p:=⟨w.heap.size,6,none⟩) lp).trans qp6,(h9.cell (p:=⟨w.heap.size,7,none⟩) lp).trans qp7,(h9.cell (p:=⟨w.heap.size,8,none⟩) lp).trans qp8,(h9.cell (p:=⟨w.heap.size+1,0,none⟩) lq).trans qq0,(h9.cell (p:=⟨w.heap.size+1,1,none⟩) lq).trans qq1,(h9.cell (p:=⟨w.heap.size+1,2,none⟩) lq).trans qq2,(h9.cell (p:=⟨w.heap.size+1,3,none⟩) lq).trans qq3,(h9.cell (p:=⟨w.heap.size+1,4,none⟩) lq).trans qq4,(h9.cell (p:=⟨w.heap.size+1,5,none⟩) lq).trans qq5,(h9.cell (p:=⟨w.heap.size+1,6,none⟩) lq).trans qq6,(h9.cell (p:=⟨w.heap.size+1,7,none⟩) lq).trans qq7,(h9.cell (p:=⟨w.heap.size+1,8,none⟩) lq).trans qq8⟩:_∧_∧_∧_∧_∧_∧_∧_∧_∧_∧_∧_∧_∧_∧_∧_∧_∧_∧_∧_∧_∧_∧_∧_∧_∧_∧_)
  go_region_held3 (fun w'=>(w'.cell? ⟨w23.heap.size,0,none⟩=some (.int .i64 (k:Int))∧w'.cell? ⟨w23.heap.size,1,none⟩=some (.slice uT vT rT)∧w'.cell? ⟨w23.heap.size,2,none⟩=some (.bool (neg eps.num))∧w'.cell? ⟨w23.heap.size,3,none⟩=some (.slice u1 v1 r1)∧w'.cell? ⟨w23.heap.size,4,none⟩=some (.slice u2 v2 r2)∧w'.cell? ⟨w23.heap.size,5,none⟩=some (.int .i64 (n:Int))∧w'.cell? ⟨w23.heap.size,6,none⟩=some (.bool (neg F.num))∧w'.cell? ⟨w23.heap.size,7,none⟩=some (.slice u3 v3 r3)∧w'.cell? ⟨w23.heap.size,8,none⟩=some (.slice u4 v4 r4)∧w'.cell? ⟨w.heap.size,0,none⟩=some (.int .i64 (k:Int))∧w'.cell? ⟨w.heap.size,1,none⟩=some (.slice aT nT cT)∧w'.cell? ⟨w.heap.size,2,none⟩=some (.bool (neg eps.num))∧w'.cell? ⟨w.heap.size,3,none⟩=some (.slice a1 n1 c1)∧w'.cell? ⟨w.heap.size,4,none⟩=some (.slice a2 n2 c2)∧w'.cell? ⟨w.heap.size,5,none⟩=some (.int .i64 (n:Int))∧w'.cell? ⟨w.heap.size,6,none⟩=some (.bool (neg F.num))∧w'.cell? ⟨w.heap.size,7,none⟩=some (.slice a3 n3 c3)∧w'.cell? ⟨w.heap.size,8,none⟩=some (.slice a4 n4 c4)∧w'.cell? ⟨w.heap.size+1,0,none⟩=some (.int .i64 (k':Int))∧w'.cell? ⟨w.heap.size+1,1,none⟩=some (.slice xT yT zT)∧w'.cell? ⟨w.heap.size+1,2,none⟩=some (.bool (neg eps'.num))∧w'.cell? ⟨w.heap.size+1,3,none⟩=some (.slice x1 y1 z1)∧w'.cell? ⟨w.heap.size+1,4,none⟩=some (.slice x2 y2 z2)∧w'.cell? ⟨w.heap.size+1,5,none⟩=some (.int .i64 (n':Int))∧w'.cell? ⟨w.heap.size+1,6,none⟩=some (.bool (neg F'.num))∧w'.cell? ⟨w.heap.size+1,7,none⟩=some (.slice x3 y3 z3)∧w'.cell? ⟨w.heap.size+1,8,none⟩=some (.slice x4 y4 z4))∧Below w24.heap.size w24 w')
   (first
     | exact ⟨(kp _ (bRf w24.heap.size w24).drew),(bRf _ _).drew⟩
     | (rename _ ∧ Below w24.heap.size w24 _ => hS
        first
         | exact ⟨(kp _ (bLt hS.2 hbw27)),bLt hS.2 hbw27⟩
         | exact ⟨(kp _ (bLt hS.2 hbw26)),bLt hS.2 hbw26⟩
         | exact ⟨(kp _ (bLt hS.2 hbw25)),bLt hS.2 hbw25⟩
         | exact ⟨(kp _ (hS.2.drew)),hS.2.drew⟩)
     | assumption)
   (first
     | (go_at_call 10; rename _ ∧ Below w24.heap.size w24 _ => hS
        go_fit (HS1.out _ (e0.past hS.2) (e1.past hS.2) (e2.past hS.2) (e3.past hS.2) (e4.past hS.2) (g.past hS.2) (d1.past hS.2) (d2.past hS.2) (d3.past hS.2) (d4.past hS.2))
        rintro e w25 ⟨rfl,hbw25⟩)
     | (go_at_call 9; rename _ ∧ Below w24.heap.size w24 _ => hS
        go_fit (HS2.out _ (hc.past hS.2) (hd.past hS.2))
        rintro e w26 ⟨rfl,hbw26⟩)
     | (go_at_call 10; rename _ ∧ Below w24.heap.size w24 _ => hS
        go_fit (HS3.out _ (g.past hS.2) (d1.past hS.2) (d2.past hS.2) (d3.past hS.2) (d4.past hS.2) (gT.past hS.2) (f1.past hS.2) (f2.past hS.2) (f3.past hS.2) (f4.past hS.2))
        rintro e w27 ⟨rfl,hbw27⟩))
  rename _∧Below w24.heap.size w24 w27=>hS
  have hbR:=hS.2;have qp0:=bq hbR lp qp0;have qp1:=bq hbR lp qp1;have qp2:=bq hbR lp qp2;have qp3:=bq hbR lp qp3;have qp4:=bq hbR lp qp4;have qp5:=bq hbR lp qp5;have qp6:=bq hbR lp qp6;have qp7:=bq hbR lp qp7;have qp8:=bq hbR lp qp8;have lp:=bl hbR lp;have qq0:=bq hbR lq qq0;have qq1:=bq hbR lq qq1;have qq2:=bq hbR lq qq2;have qq3:=bq hbR lq qq3;have qq4:=bq hbR lq qq4;have qq5:=bq hbR lq qq5;have qq6:=bq hbR lq qq6;have qq7:=bq hbR lq qq7;have qq8:=bq hbR lq qq8;have lq:=bl hbR lq;have qy0:=bq hbR ly qy0;have qy1:=bq hbR ly qy1;have qy2:=bq hbR ly qy2;have qy3:=bq hbR ly qy3;have qy4:=bq hbR ly qy4;have qy5:=bq hbR ly qy5;have qy6:=bq hbR ly qy6;have qy7:=bq hbR ly qy7;have qy8:=bq hbR ly qy8;have ly:=bl hbR ly;have hB:=bLt hB hbR;clear hS hbR kp
  go_wp2
  go_ret
  exact ⟨by simp [tB],hB⟩
end
end Go.Proofs.YtkhcblihbalnbaaGreatDoor
