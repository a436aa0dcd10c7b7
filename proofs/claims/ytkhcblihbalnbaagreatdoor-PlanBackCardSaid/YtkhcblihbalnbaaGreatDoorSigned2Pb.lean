import Derived.Deep.RegionHeld3
import Derived.Laws.EntriesVeiled
import Derived.Test.YtkhcblihbalnbaaGreatDoorTimes3Pb
set_option linter.unusedVariables false
set_option linter.unusedSimpArgs false
set_option maxHeartbeats 4000000
set_option maxRecDepth 100000
namespace Go.Proofs.YtkhcblihbalnbaaGreatDoor
section
open Go.RowKit
structure MulAt (w:World) (BL BM:Nat) (least:Int):Prop where
 least_:w.cell? ⟨BL,0,none⟩=some (.int .i64 least)
 self_:w.cell? ⟨BM,0,none⟩=some (.func (.func 189) #[] #[.pointer (some ⟨BL,0,none⟩),.pointer (some ⟨BM,0,none⟩)])
theorem MulAt.later {w w':World} {BL BM:Nat} {least:Int} (h:MulAt w BL BM least) (hb:Below w.heap.size w w'):MulAt w' BL BM least:=by
 have h1:=World.block_lt_of_cell? w _ h.least_;have h2:=World.block_lt_of_cell? w _ h.self_;exact ⟨(hb.cell (p:=⟨BL,0,none⟩) h1).trans h.least_,(hb.cell (p:=⟨BM,0,none⟩) h2).trans h.self_⟩
theorem MulAt.alloc {w:World} {BL BM:Nat} {least:Int} (h:MulAt w BL BM least) (o:Obj):MulAt (w.alloc o) BL BM least:=h.later ((bRf _ _).alloc (nRf _) o)
theorem MulAt.drew {w:World} {BL BM:Nat} {least:Int} (h:MulAt w BL BM least):MulAt w.drew BL BM least:=h.later (bRf _ _).drew
structure LitV (w:World) (b:Nat) (x y:Value):Prop where
 one:w.cell? ⟨b,0,none⟩=some x
 two:w.cell? ⟨b,0+1,none⟩=some y
theorem lit_new {E:Nat} (w:World) (x y:Value):LitV (w.alloc (.cells #[x,y] E)) w.heap.size x y :=
 ⟨by rw [World.cell?_alloc_at _ _ _ _ rfl];rfl,by rw [World.cell?_alloc_at _ _ _ _ rfl];rfl⟩
theorem LitV.past {w w':World} {b:Nat} {x y:Value} (h:LitV w b x y) (hb:Below w.heap.size w w'):LitV w' b x y:=by
 have h1:=World.block_lt_of_cell? w _ h.one;exact ⟨(hb.cell (p:=⟨b,0,none⟩) h1).trans h.one,(hb.cell (p:=⟨b,0+1,none⟩) h1).trans h.two⟩
theorem LitV.drew {w:World} {b:Nat} {x y:Value} (h:LitV w b x y):LitV w.drew b x y:=h.past (bRf _ _).drew
theorem cut_val {L:List Nat} {g n p:Nat} (hn:L.length=n) (hp:min g n=p):val L=val (L.take p)+18446744073709551616 ^ g*val (L.drop p):=by
 subst hn;subst hp;rcases Nat.le_total g L.length with h | h
 · rw [Nat.min_eq_left h];exact lo_hi L g
 rw [Nat.min_eq_right h,List.drop_length,List.take_length,val_nil,Nat.mul_zero,Nat.add_zero]
theorem mulc_any (M:Nat):∀ (a:Option Addr) (n c:Nat) (l:List Nat) (a2:Option Addr) (n2 c2:Nat) (l2:List Nat) (BL BM:Nat) (least:Int) (w:World),NatAt w a n c l→NatAt w a2 n2 c2 l2→n≤M→n2≤M→M≤68719476736→MulAt w BL BM least →
 Calls Tryz.prog 189 #[.slice a n c,.slice a2 n2 c2,.pointer (some ⟨BL,0,none⟩),.pointer (some ⟨BM,0,none⟩)] w (RetNat w (val l*val l2)):=by
 induction M using Nat.strongRecOn with
 | _ M ih =>
 intro a n c l a2 n2 c2 l2 BL BM least w h h2 hn hn2 hM hmul
 by_cases hless:min (digs (val l)).length (digs (val l2)).length<max least 4
 · go_enter Tryz.func189,Tryz.ntmps189
   go_wp2_with fail
   refine (trim_any _ _ _ l _ h (by omega)).mono ?_;rintro e w1 ⟨a1,n1,c1,rfl,h3,hb1⟩;have h2:=h2.later hb1 (nRf _);have hmul:=hmul.later hb1
   go_wp2_with fail
   refine (trim_any _ _ _ l2 _ h2 (by omega)).mono ?_;rintro e w2 ⟨a4,n4,c4,rfl,h4,hb2⟩;have h3:=h3.later hb2 (nRf _);have hmul:=hmul.later hb2;have b1:n1≤n:=by have e1:=h3.len;have e2:=h.short;omega
   have b4:n4≤n2:=by have e1:=h4.len;have e2:=h2.short;omega
   have hb:=bLt hb1 hb2;have cl:=hmul.least_;have cm:=hmul.self_;have hless':min (n1:Int) (n4:Int)<max least 4:=by have e1:=h3.len;have e2:=h4.len;omega
   go_wp2_with fail
   refine (school_any _ _ _ (digs (val l)) _ _ _ (digs (val l2)) _ h3.toNatAt h4.toNatAt (by omega) (by omega)).mono ?_;rintro e w3 ⟨a5,n5,c5,rfl,h5,hb5⟩;rw [val_digs,val_digs] at h5
   go_wp2
   go_ret
   exact RetNat.of hb ⟨_,_,_,rfl,h5,hb5⟩
 go_enter Tryz.func189,Tryz.ntmps189
 go_wp2_with fail
 refine (trim_any _ _ _ l _ h (by omega)).mono ?_;rintro e w1 ⟨a1,n1,c1,rfl,h3,hb1⟩;have h2:=h2.later hb1 (nRf _);have hmul:=hmul.later hb1
 go_wp2_with fail
 refine (trim_any _ _ _ l2 _ h2 (by omega)).mono ?_;rintro e w2 ⟨a4,n4,c4,rfl,h4,hb2⟩;have h3:=h3.later hb2 (nRf _);have hmul:=hmul.later hb2;have b1:n1≤n:=by have e1:=h3.len;have e2:=h.short;omega
 have b4:n4≤n2:=by have e1:=h4.len;have e2:=h2.short;omega
 have hb:=bLt hb1 hb2;have cl:=hmul.least_;have cm:=hmul.self_;have hless':¬ min (n1:Int) (n4:Int)<max least 4:=by have e1:=h3.len;have e2:=h4.len;omega
 have m1:4≤n1:=by omega
 have m4:4≤n4:=by omega
 obtain ⟨g,hg⟩:∃ g:Nat,(max n1 n4+1)/2=g:=⟨_,rfl⟩;have hg1:(max (n1:Int) (n4:Int)+1)/2=(g:Int):=by omega
 have hg2:g+2≤M:=by omega
 clear hless hg
 go_wp2_with fail
 have ch:(w2.alloc (Obj.cells #[Value.int IntKind.i64 (g:Int)] 3)).cell? ⟨w2.heap.size,0,none⟩=some (.int .i64 (g:Int)):=by rw [World.cell?_alloc_at _ _ _ _ rfl];rfl
 have hb:=below_alloc hb (Obj.cells #[Value.int IntKind.i64 (g:Int)] 3);have h3:=h3.toNatAt.alloc (Obj.cells #[Value.int IntKind.i64 (g:Int)] 3);have h4:=h4.toNatAt.alloc (Obj.cells #[Value.int IntKind.i64 (g:Int)] 3);have hmul:=hmul.alloc (Obj.cells #[Value.int IntKind.i64 (g:Int)] 3);rw [hg1];generalize w2.alloc (Obj.cells #[Value.int IntKind.i64 (g:Int)] 3)=W0 at *;obtain ⟨BH,hBH⟩:∃ BH,w2.heap.size=BH:=⟨_,rfl⟩;rw [hBH] at ch ⊢;clear hBH;obtain ⟨p,hp⟩:∃ p,min g n1=p:=⟨_,rfl⟩;obtain ⟨q,hq⟩:∃ q,min g n4=q:=⟨_,rfl⟩;rcases h3.parts with h' | ⟨ba,oa,rfl,_,_⟩
 · omega
 rcases h4.parts with h' | ⟨bb,ob,rfl,_,_⟩
 · omega
 have ev:=cut_val h3.len hp;have ev2:=cut_val h4.len hq;rw [val_digs] at ev ev2;have EV:=hiD ev;have EV2:=hiD ev2;clear ev ev2;refine (cut_any BH ba oa n1 c1 g p _ W0 hp ch h3).mono ?_;rintro e w3 ⟨a6,n6,c6,rfl,rfl,k1,k2,hb3⟩;have ch:=(hb3.cell (p:=⟨BH,0,none⟩) (World.block_lt_of_cell? _ _ ch)).trans ch;have h4:=h4.past hb3;have hmul:=hmul.later hb3;have hb:=bLt hb hb3;clear hb3
 go_wp2_with fail
 refine (cut_any BH bb ob n4 c4 g q _ w3 hq ch h4).mono ?_;rintro e w4 ⟨a7,n7,c7,rfl,rfl,k3,k4,hb4⟩;have k1:=k1.past hb4;have k2:=k2.past hb4;have ch:=(hb4.cell (p:=⟨BH,0,none⟩) (World.block_lt_of_cell? _ _ ch)).trans ch;have hmul:=hmul.later hb4;have hb:=bLt hb hb4;clear hb4 h3 h4 h h2;generalize (digs (val l)).take p=A0 at *;generalize (digs (val l)).drop p=A1 at *;generalize (digs (val l2)).take q=B0 at *;generalize (digs (val l2)).drop q=B1 at *;have cm:=hmul.self_;have IH:=hiD (ih (M-1) (by omega));have w1:p≤M-1:=by omega
 have w2:q≤M-1:=by omega
 have w3:n1-p≤M-1:=by omega
 have w4:n4-q≤M-1:=by omega
 have w5:M-1≤68719476736:=by omega
 have w6:n1-p+2≤M∧n4-q+2≤M∧p+2≤M∧q+2≤M∧M≤68719476736∧g≤68719476736:=by omega
 have W6:=hiD w6;have W1:=hiD w1;have W2:=hiD w2;have W3:=hiD w3;have W4:=hiD w4;have W5:=hiD w5;clear cl ih w1 w2 w3 w4 w5 w6
 go_wp2_with fail
 clear hless' hn hn2 hM hg1 b1 b4 m1 m4 hp hq hg2
 go_region_held3 (fun w'=>w'.cell? ⟨BM,0,none⟩=some (.func (.func 189) #[] #[.pointer (some ⟨BL,0,none⟩),.pointer (some ⟨BM,0,none⟩)])) (first | assumption)
  (first
    | (go_at_call 189;go_fit (IH.out _ _ _ A0 _ _ _ B0 BL BM least _ k1.drew k3.drew W1.out W2.out W5.out hmul.drew);rintro e w5 ⟨a8,n8,c8,rfl,h8,hb5⟩;have hmul5:=hmul.drew.later hb5;have cm5:=hmul5.self_)
    | (go_at_call 189;go_fit (IH.out _ _ _ A1 _ _ _ B1 BL BM least _ (k2.drew.past hb5) (k4.drew.past hb5) W3.out W4.out W5.out hmul5);rintro e w6 ⟨a9,n9,c9,rfl,h9,hb6⟩;have hmul6:=hmul5.later hb6;have cm6:=hmul6.self_))
 have lBH:=World.block_lt_of_cell? w4 _ ch;have ch:=(hb5.cell (p:=⟨BH,0,none⟩) lBH).trans ch;have ch:=(hb6.cell (p:=⟨BH,0,none⟩) (World.block_lt_of_cell? w5 _ ch)).trans ch;have k1:=(k1.drew.past hb5).past hb6;have k2:=(k2.drew.past hb5).past hb6;have k3:=(k3.drew.past hb5).past hb6;have k4:=(k4.drew.past hb5).past hb6;have h8:=h8.toNatAt.past hb6;have h9:=h9.toNatAt;have hb:=bLt (bLt hb.drew hb5) hb6;clear hb5 hb6 lBH cm cm5 hmul hmul5;obtain ⟨x1,x2,x3,x4,x5,x6⟩:=W6.out;have s1:=k1.short;have s2:=k2.short;have s3:=k3.short;have s4:=k4.short;have hA:(digs (val A0+val A1)).length≤M-1:=by have:=digs_len_add (val A0) (val A1);omega
 have hB:(digs (val B0+val B1)).length≤M-1:=by have:=digs_len_add (val B0) (val B1);omega
 have hN:(digs ((val A0+val A1)*(val B0+val B1))).length≤137438953472:=by have:=digs_len_prod (val A0+val A1) (val B0+val B1);omega
 have hL:n8≤137438953472:=by have:=digs_len_prod (val A0) (val B0);have:=h8.len;omega
 have hH:n9≤137438953472:=by have:=digs_len_prod (val A1) (val B1);have:=h9.len;omega
 have hM:(digs ((val A0+val A1)*(val B0+val B1)-val A0*val B0-val A1*val B1)).length≤137438953472:=nTr (digs_len_mono (nTr (Nat.sub_le _ _) (Nat.sub_le _ _))) hN
 have hV:val (digs (val A0*val B0))+val (digs (val A1*val B1))≤val (digs ((val A0+val A1)*(val B0+val B1))):=by
  rw [val_digs,val_digs,val_digs,Nat.add_mul,Nat.mul_add,Nat.mul_add];omega
 have z1:p≤549755813888:=by omega
 have z2:n1-p≤549755813888:=by omega
 have z3:q≤549755813888:=by omega
 have z4:n4-q≤549755813888:=by omega
 have Z1:=hiD z1;have Z2:=hiD z2;have Z3:=hiD z3;have Z4:=hiD z4;have HA:=hiD hA;have HB:=hiD hB;have HN:=hiD (nTr hN (show 137438953472≤274877906944 by decide));have HL:=hiD hL;have HH:=hiD hH;have HM:=hiD hM;have HV:=hiD hV;obtain ⟨g2,hg2⟩:∃ g2,2*g=g2:=⟨_,rfl⟩;have hg3:g2≤274877906944:=by omega
 have hg4:g≤274877906944:=by omega
 have v2:IntKind.i64.wrap (2*(g:Int))=(g2:Int):=by rw [IntWalk.i64_in _ (by omega)];omega
 have G2:=hiD hg2;have G3:=hiD hg3;have G4:=hiD hg4;have V2:=hiD v2;have lBM:=World.block_lt_of_cell? w6 _ cm6;have LBM:=hiD lBM;clear x1 x2 x3 x4 x5 x6 s1 s2 s3 s4 hA hB hN hL hH hM hV z1 z2 z3 z4 hg2 hg3 hg4 v2 lBM
 go_wp2_with fail
 go_region_held3 (fun w'=>w'.cell? ⟨BM,0,none⟩=some (.func (.func 189) #[] #[.pointer (some ⟨BL,0,none⟩),.pointer (some ⟨BM,0,none⟩)])∧Below w6.heap.size w6 w')
  (first
    | exact ⟨cm6,(bRf _ _).drew⟩
    | (rename _ ∧ Below w6.heap.size w6 _ => hS
       first
        | exact ⟨((bLt hS.2 hb10).cell (p:=⟨BM,0,none⟩) LBM.out).trans cm6,bLt hS.2 hb10⟩
        | exact ⟨((bLt hS.2 hb9).cell (p:=⟨BM,0,none⟩) LBM.out).trans cm6,bLt hS.2 hb9⟩
        | exact ⟨((bLt hS.2 hb8).cell (p:=⟨BM,0,none⟩) LBM.out).trans cm6,bLt hS.2 hb8⟩
        | exact ⟨((bLt hS.2 hb7).cell (p:=⟨BM,0,none⟩) LBM.out).trans cm6,bLt hS.2 hb7⟩
        | exact ⟨((below_alloc hS.2 _).cell (p:=⟨BM,0,none⟩) LBM.out).trans cm6,below_alloc hS.2 _⟩))
  (first
    | (go_at_call 128; rename _ ∧ Below w6.heap.size w6 _ => hS
       go_fit (add_any _ _ _ A0 _ _ _ A1 _ (k1.past hS.2) (k2.past hS.2) Z1.out Z2.out)
       rintro e w7 ⟨a10,n10,c10,rfl,h10,hb7⟩)
    | (go_at_call 128; rename _ ∧ Below w6.heap.size w6 _ => hS
       go_fit (add_any _ _ _ B0 _ _ _ B1 _ (k3.past hS.2) (k4.past hS.2) Z3.out Z4.out)
       rintro e w8 ⟨a11,n11,c11,rfl,h11,hb8⟩)
    | (go_at_call 189; rename _ ∧ Below w6.heap.size w6 _ => hS
       first
        | go_fit (IH.out _ _ _ (digs (val A0+val A1)) _ _ _ (digs (val B0+val B1)) BL BM least _ (h10.toNatAt.past hb8) h11.toNatAt (h10.len ▸ HA.out) (h11.len ▸ HB.out) W5.out (hmul6.later hS.2))
        | go_fit (IH.out _ _ _ (digs (val A0+val A1)) _ _ _ (digs (val B0+val B1)) BL BM least _ ((h10.toNatAt.alloc _).past hb8) h11.toNatAt (h10.len ▸ HA.out) (h11.len ▸ HB.out) W5.out (hmul6.later hS.2))
        | go_fit (IH.out _ _ _ (digs (val A0+val A1)) _ _ _ (digs (val B0+val B1)) BL BM least _ ((h10.toNatAt.past hb8).alloc _) (h11.toNatAt.alloc _) (h10.len ▸ HA.out) (h11.len ▸ HB.out) W5.out (hmul6.later hS.2))
       rintro e w9 ⟨a12,n12,c12,rfl,h12,hb9⟩;rw [val_digs,val_digs] at h12)
    | (go_at_call 191; rename _ ∧ Below w6.heap.size w6 _ => hS
       first
        | go_fit (less_any _ _ _ (digs ((val A0+val A1)*(val B0+val B1))) _ _ _ (digs (val A0*val B0)) _ _ _ (digs (val A1*val B1)) _ 0 2 _ (h12.toNatAt.alloc _) (h8.past hS.2) (h9.past hS.2) (lit_new w9 _ _).one (lit_new w9 _ _).two ⟨by decide,by decide⟩ (h12.len ▸ HN.out) HV.out)
        | go_fit (less_any _ _ _ (digs ((val A0+val A1)*(val B0+val B1))) _ _ _ (digs (val A0*val B0)) _ _ _ (digs (val A1*val B1)) _ 0 2 _ h12.toNatAt (h8.past hS.2) (h9.past hS.2) ((lit_new w8 _ _).past hb9).one ((lit_new w8 _ _).past hb9).two ⟨by decide,by decide⟩ (h12.len ▸ HN.out) HV.out)
        | go_fit (less_any _ _ _ (digs ((val A0+val A1)*(val B0+val B1))) _ _ _ (digs (val A0*val B0)) _ _ _ (digs (val A1*val B1)) _ 0 2 _ h12.toNatAt (h8.past hS.2) (h9.past hS.2) (((lit_new w7 _ _).past hb8).past hb9).one (((lit_new w7 _ _).past hb8).past hb9).two ⟨by decide,by decide⟩ (h12.len ▸ HN.out) HV.out)
        | go_fit (less_any _ _ _ (digs ((val A0+val A1)*(val B0+val B1))) _ _ _ (digs (val A0*val B0)) _ _ _ (digs (val A1*val B1)) _ 0 2 _ h12.toNatAt (h8.past hS.2) (h9.past hS.2) ((((lit_new w6 _ _).drew.past hb7).past hb8).past hb9).one ((((lit_new w6 _ _).drew.past hb7).past hb8).past hb9).two ⟨by decide,by decide⟩ (h12.len ▸ HN.out) HV.out)
       rintro e w10 ⟨a13,n13,c13,rfl,h13,hb10⟩;simp only [val_digs] at h13))
 all_goals
  rename _∧Below w6.heap.size w6 w10=>hS
  have chx:=(hS.2.cell (p:=⟨BH,0,none⟩) (World.block_lt_of_cell? w6 _ ch)).trans ch;have i8:=h8.past hS.2;have i9:=h9.past hS.2;have hbF:=bLt hb hS.2
  have fin:val (digs (val A0*val B0))+18446744073709551616 ^ g*val (digs ((val A0+val A1)*(val B0+val B1)-val A0*val B0-val A1*val B1))+18446744073709551616 ^ g2*val (digs (val A1*val B1))=val l*val l2:=by
   rw [val_digs,val_digs,val_digs,EV.out,EV2.out,← G2.out,show 2*g=g+g by omega,Nat.pow_add];exact halves_eq _ _ _ _ _
  have FIN:=hiD fin;have lx:=World.block_lt_of_cell? w10 _ chx;have LX:=hiD lx;have v2:=V2.out;clear hS h8 h9 hb7 hb8 hb9 hb10 h10 h11 h12 k1 k2 k3 k4 hb ch cm6 hmul6 fin lx
  go_wp2_with fail
  go_region_held3 (fun w'=>w'.cell? ⟨BH,0,none⟩=some (.int .i64 (g:Int))∧Below w10.heap.size w10 w')
   (first
     | exact ⟨chx,(bRf _ _).drew⟩
     | (rename _ ∧ Below w10.heap.size w10 _ => hT
        first
         | exact ⟨((bLt hT.2 hb14).cell (p:=⟨BH,0,none⟩) LX.out).trans chx,bLt hT.2 hb14⟩
         | exact ⟨((bLt hT.2 hb13).cell (p:=⟨BH,0,none⟩) LX.out).trans chx,bLt hT.2 hb13⟩
         | exact ⟨((bLt hT.2 hb12).cell (p:=⟨BH,0,none⟩) LX.out).trans chx,bLt hT.2 hb12⟩
         | exact ⟨((bLt hT.2 hb11).cell (p:=⟨BH,0,none⟩) LX.out).trans chx,bLt hT.2 hb11⟩))
   (first
     | (go_at_call 192; rename _ ∧ Below w10.heap.size w10 _ => hT
        go_fit (at_any _ _ _ (digs ((val A0+val A1)*(val B0+val B1)-val A0*val B0-val A1*val B1)) g _ (h13.toNatAt.past hT.2) (h13.len ▸ (nTr HM.out (by decide))) G4.out)
        rintro e w11 ⟨a14,n14,c14,L14,rfl,h14,y14,m14,hb11⟩;have q14:n14≤412316860416:=by have e1:=h13.len;have e2:=HM.out;have e3:=G4.out;omega
        have Q14:=hiD q14;have Y14:=hiD y14;clear y14 m14 q14)
     | (go_at_call 128; rename _ ∧ Below w10.heap.size w10 _ => hT
        go_fit (add_any _ _ _ (digs (val A0*val B0)) _ _ _ L14 _ (i8.past hT.2) h14.toNatAt (nTr HL.out (by decide)) (nTr Q14.out (by decide)))
        rintro e w12 ⟨a15,n15,c15,rfl,h15,hb12⟩;have q15:n15≤549755813888:=by have e1:=h15.len;have e2:=digs_len_add (val (digs (val A0*val B0))) (val L14);have e3:=h14.toNatAt.short;have e4:=i8.short;have e5:=HL.out;have e6:=Q14.out;omega
        have Q15:=hiD q15;clear q15)
     | (go_at_call 192; rename _ ∧ Below w10.heap.size w10 _ => hT
        go_fit (at_any _ _ _ (digs (val A1*val B1)) g2 _ (i9.past hT.2) (nTr HH.out (by decide)) G3.out)
        rintro e w13 ⟨a16,n16,c16,L16,rfl,h16,y16,m16,hb13⟩;have q16:n16≤549755813888:=by have e2:=HH.out;have e3:=G3.out;omega
        have Q16:=hiD q16;have Y16:=hiD y16;clear y16 m16 q16)
     | (go_at_call 128; rename _ ∧ Below w10.heap.size w10 _ => hT
        go_fit (add_any _ _ _ (digs (val (digs (val A0*val B0))+val L14)) _ _ _ L16 _ (h15.toNatAt.past hb13) h16.toNatAt Q15.out Q16.out)
        rintro e w14 ⟨a17,n17,c17,rfl,h17,hb14⟩))
  rename _∧Below w10.heap.size w10 w14=>hT
  rename _∧Below w10.heap.size w10 w13=>hU
  go_wp2
  go_ret
  rw [val_digs,Y14.out,Y16.out,FIN.out] at h17;exact ⟨_,_,_,rfl,h17.mono (bLt hbF hU.2).size,bLt hbF hT.2⟩
theorem halves_any (a:Option Addr) (n c:Nat) (l:List Nat) (a2:Option Addr) (n2 c2:Nat) (l2:List Nat) (least:Int) (w:World) (h:NatAt w a n c l) (h2:NatAt w a2 n2 c2 l2) (hs:n≤68719476736) (hs2:n2≤68719476736) :
 Calls Tryz.prog 149 #[.slice a n c,.slice a2 n2 c2,.int .i64 least] w (RetNat w (val l*val l2)):=by
 have hcell:((w.alloc (Obj.cells #[Value.int IntKind.i64 least] 3)).alloc (Obj.cells #[Value.nilFunc] 137)).cell? ⟨w.heap.size+1,0,none⟩=some .nilFunc:=World.cell?_alloc_at _ _ _ _ (by simp);have hfro:((w.alloc (Obj.cells #[Value.int IntKind.i64 least] 3)).alloc (Obj.cells #[Value.nilFunc] 137)).frozen? ⟨w.heap.size+1,0,none⟩=false:=World.frozen?_alloc_at _ _ _ _ (by simp);have hbel:Below w.heap.size w ((w.alloc (Obj.cells #[Value.int IntKind.i64 least] 3)).alloc (Obj.cells #[.func (.func 189) #[] #[.pointer (some ⟨w.heap.size,0,none⟩),.pointer (some ⟨w.heap.size+1,0,none⟩)]] 137)):=((bRf _ _).alloc (nRf _) _).alloc (by simp) _
 have hmul:MulAt ((w.alloc (Obj.cells #[Value.int IntKind.i64 least] 3)).alloc (Obj.cells #[.func (.func 189) #[] #[.pointer (some ⟨w.heap.size,0,none⟩),.pointer (some ⟨w.heap.size+1,0,none⟩)]] 137)) w.heap.size (w.heap.size+1) least:=by
  refine ⟨?_,?_⟩
  · rw [World.cell?_alloc_past _ _ _ (by simp),World.cell?_alloc_at _ _ _ _ rfl];rfl
  rw [World.cell?_alloc_at _ _ _ _ (by simp)];rfl
 go_enter Tryz.func149,Tryz.ntmps149
 go_wp2_with fail
 refine (mulc_any (max n n2) a n c l a2 n2 c2 l2 w.heap.size (w.heap.size+1) least _ (h.later hbel (nRf _)) (h2.later hbel (nRf _)) (by omega) (by omega) (by omega) hmul).mono ?_;rintro e w1 ⟨a1,n1,c1,rfl,h3,hb1⟩
 go_wp2
 go_ret
 exact RetNat.of hbel ⟨_,_,_,rfl,h3,hb1⟩
theorem tmul_any (a:Option Addr) (n c:Nat) (l:List Nat) (a2:Option Addr) (n2 c2:Nat) (l2:List Nat) (w:World) (h:NatAt w a n c l) (h2:NatAt w a2 n2 c2 l2) (hs:n≤68719476736) (hs2:n2≤68719476736) :
 Calls Tryz.prog 105 #[.slice a n c,.slice a2 n2 c2] w (RetNat w (val l*val l2)):=by
 go_enter Tryz.func105,Tryz.ntmps105
 go_wp2_with fail
 refine (halves_any _ _ _ l _ _ _ l2 _ _ h h2 hs hs2).mono ?_;rintro e w1 ⟨a1,n1,c1,rfl,h3,hb1⟩
 go_wp2
 go_ret
 exact ⟨_,_,_,rfl,h3,hb1⟩
end
section
open Go.RowKit
theorem OwnAt.ret2 {w w1 w3:World} {R:Nat} {a:Option Addr} {n c:Nat} {l:List Nat} (h:OwnAt w3 w1.heap.size a n c l) (hR:R<w1.heap.size) (hw:w.heap.size≤w1.heap.size) (x y:Value) :
 OwnAt ((w3.setCell ⟨R,0,none⟩ x).setCell ⟨R,1,none⟩ y) w.heap.size a n c l:=((h.setOff hR _).setOff hR _).mono hw
theorem along_any (b:Bool) (a:Option Addr) (n c:Nat) (l:List Nat) (b2:Bool) (a2:Option Addr) (n2 c2:Nat) (l2:List Nat) (w:World) (h:NatAt w a n c l) (h2:NatAt w a2 n2 c2 l2) (hs:n≤274877906944) (hs2:n2≤274877906944) :
 Calls Tryz.prog 187 #[.agg #[.bool b,.slice a n c],.agg #[.bool b2,.slice a2 n2 c2]] w (RetInt w (sg b (val l+val l2))):=by
 have hlen:(digs (val l+val l2)).length≤1099511627776:=by have:=h.short;have:=h2.short;have:=digs_len_add (val l) (val l2);omega
 have HL:=hiD hlen;clear hlen
 go_enter Tryz.func187,Tryz.ntmps187
 go_wp2_with fail
 obtain ⟨W,hW,hz,hBW,q0,q1,q2,q3⟩:=boxes3 w #[.bool b,.slice a n c] #[.bool b2,.slice a2 n2 c2] #[.bool false,.slice none 0 0] 26 26 26;rw [hW];have HLT:Hid (w.heap.size+1+1<W.heap.size):=hiD (by omega);have Q0:=hiD q0;have L0:Hid (w.heap.size<w.heap.size+1+1):=hiD (by omega);have Q1:=hiD q1;have L1:Hid (w.heap.size+1<w.heap.size+1+1):=hiD (by omega);have LR:Hid (w.heap.size≤w.heap.size+1+1):=hiD (by omega);have RM:=hiD (Room.of q2 q3);have HB:=hiD hBW;clear hW hz hBW q0 q1 q2 q3
 go_region_held3 (fun w'=>(w'.cell? ⟨w.heap.size,0,none⟩=some (.bool b)∧w'.cell? ⟨w.heap.size,1,none⟩=some (.slice a n c)∧w'.cell? ⟨w.heap.size+1,0,none⟩=some (.bool b2)∧w'.cell? ⟨w.heap.size+1,1,none⟩=some (.slice a2 n2 c2))∧(Room w' (w.heap.size+1+1) 2∧Below w.heap.size w w'∧Below (w.heap.size+1+1) W w'))
  (first
    | exact ⟨⟨((bRf (w.heap.size+1+1) W).drew.cell (p:=⟨w.heap.size,0,none⟩) L0.out).trans (Q0.out 0),((bRf (w.heap.size+1+1) W).drew.cell (p:=⟨w.heap.size,1,none⟩) L0.out).trans (Q0.out 1),((bRf (w.heap.size+1+1) W).drew.cell (p:=⟨w.heap.size+1,0,none⟩) L1.out).trans (Q1.out 0),((bRf (w.heap.size+1+1) W).drew.cell (p:=⟨w.heap.size+1,1,none⟩) L1.out).trans (Q1.out 1)⟩,RM.out.drew,HB.out.drew,(bRf _ _).drew⟩
    | (rename _ ∧ (Room _ _ _ ∧ Below w.heap.size w _ ∧ Below _ W _) => hS
       first
        | exact ⟨⟨((hS.2.2.2.trans (hb2.mono (nOf (nLt HLT.out hS.2.2.2.size)))).cell (p:=⟨w.heap.size,0,none⟩) L0.out).trans (Q0.out 0),((hS.2.2.2.trans (hb2.mono (nOf (nLt HLT.out hS.2.2.2.size)))).cell (p:=⟨w.heap.size,1,none⟩) L0.out).trans (Q0.out 1),((hS.2.2.2.trans (hb2.mono (nOf (nLt HLT.out hS.2.2.2.size)))).cell (p:=⟨w.heap.size+1,0,none⟩) L1.out).trans (Q1.out 0),((hS.2.2.2.trans (hb2.mono (nOf (nLt HLT.out hS.2.2.2.size)))).cell (p:=⟨w.heap.size+1,1,none⟩) L1.out).trans (Q1.out 1)⟩,hS.2.1.past hb2 (nLt HLT.out hS.2.2.2.size),bLt hS.2.2.1 hb2,(hS.2.2.2.trans (hb2.mono (nOf (nLt HLT.out hS.2.2.2.size))))⟩
        | exact ⟨⟨((hS.2.2.2.trans (hb1.mono (nOf (nLt HLT.out hS.2.2.2.size)))).cell (p:=⟨w.heap.size,0,none⟩) L0.out).trans (Q0.out 0),((hS.2.2.2.trans (hb1.mono (nOf (nLt HLT.out hS.2.2.2.size)))).cell (p:=⟨w.heap.size,1,none⟩) L0.out).trans (Q0.out 1),((hS.2.2.2.trans (hb1.mono (nOf (nLt HLT.out hS.2.2.2.size)))).cell (p:=⟨w.heap.size+1,0,none⟩) L1.out).trans (Q1.out 0),((hS.2.2.2.trans (hb1.mono (nOf (nLt HLT.out hS.2.2.2.size)))).cell (p:=⟨w.heap.size+1,1,none⟩) L1.out).trans (Q1.out 1)⟩,hS.2.1.past hb1 (nLt HLT.out hS.2.2.2.size),bLt hS.2.2.1 hb1,(hS.2.2.2.trans (hb1.mono (nOf (nLt HLT.out hS.2.2.2.size))))⟩
        | exact ⟨⟨((hS.2.2.2.alloc (nOf (nLt HLT.out hS.2.2.2.size)) _).cell (p:=⟨w.heap.size,0,none⟩) L0.out).trans (Q0.out 0),((hS.2.2.2.alloc (nOf (nLt HLT.out hS.2.2.2.size)) _).cell (p:=⟨w.heap.size,1,none⟩) L0.out).trans (Q0.out 1),((hS.2.2.2.alloc (nOf (nLt HLT.out hS.2.2.2.size)) _).cell (p:=⟨w.heap.size+1,0,none⟩) L1.out).trans (Q1.out 0),((hS.2.2.2.alloc (nOf (nLt HLT.out hS.2.2.2.size)) _).cell (p:=⟨w.heap.size+1,1,none⟩) L1.out).trans (Q1.out 1)⟩,hS.2.1.past ((bRf _ _).alloc (nRf _) _) (nLt HLT.out hS.2.2.2.size),below_alloc hS.2.2.1 _,(hS.2.2.2.alloc (nOf (nLt HLT.out hS.2.2.2.size)) _)⟩
        | exact ⟨⟨(((hS.2.2.2.setCell (p:=⟨w.heap.size+1+1,0,none⟩) (nRf _) _).setCell (p:=⟨w.heap.size+1+1,1,none⟩) (nRf _) _).cell (p:=⟨w.heap.size,0,none⟩) L0.out).trans (Q0.out 0),(((hS.2.2.2.setCell (p:=⟨w.heap.size+1+1,0,none⟩) (nRf _) _).setCell (p:=⟨w.heap.size+1+1,1,none⟩) (nRf _) _).cell (p:=⟨w.heap.size,1,none⟩) L0.out).trans (Q0.out 1),(((hS.2.2.2.setCell (p:=⟨w.heap.size+1+1,0,none⟩) (nRf _) _).setCell (p:=⟨w.heap.size+1+1,1,none⟩) (nRf _) _).cell (p:=⟨w.heap.size+1,0,none⟩) L1.out).trans (Q1.out 0),(((hS.2.2.2.setCell (p:=⟨w.heap.size+1+1,0,none⟩) (nRf _) _).setCell (p:=⟨w.heap.size+1+1,1,none⟩) (nRf _) _).cell (p:=⟨w.heap.size+1,1,none⟩) L1.out).trans (Q1.out 1)⟩,((hS.2.1.set _ _).set _ _),((hS.2.2.1.setCell (p:=⟨w.heap.size+1+1,0,none⟩) LR.out _).setCell (p:=⟨w.heap.size+1+1,1,none⟩) LR.out _),((hS.2.2.2.setCell (p:=⟨w.heap.size+1+1,0,none⟩) (nRf _) _).setCell (p:=⟨w.heap.size+1+1,1,none⟩) (nRf _) _)⟩)
    | assumption)
  (first
    | (go_at_call 128; rename _ ∧ (Room _ _ _ ∧ Below w.heap.size w _ ∧ Below _ W _) => hS
       go_fit (add_any _ _ _ l _ _ _ l2 _ (h.past hS.2.2.1) (h2.past hS.2.2.1) (by omega) (by omega))
       rintro e w1 ⟨a1,n1,c1,rfl,h1,hb1⟩)
    | (go_at_call 77; rename _ ∧ (Room _ _ _ ∧ Below w.heap.size w _ ∧ Below _ W _) => hS
       go_fit (make_any _ _ _ _ (digs (val l+val l2)) _ h1.toNatAt (h1.len ▸ HL.out))
       rintro e w3 ⟨a3,n3,c3,rfl,h3,hb2⟩;rw [val_digs] at h3 ⊢;have lt3:=nLt HLT.out hS.2.2.2.size;have le3:=hS.2.2.1.size;have rm3:=hS.2.1.past hb2 lt3;obtain ⟨v0,v1,m0,m1,m2,m3⟩:=rm3.two;have own3:=h3.ret2 lt3 le3 (.bool (neg (sg b (val l+val l2)))) (.slice a3 n3 c3)))
 all_goals
  rename _∧(Room _ _ _∧Below w.heap.size w _∧Below _ W _)=>hH
  have hs:=retIntOf (z:=sg b (val l+val l2)) ⟨own3,hH.2.2.1⟩ rfl _ rfl;clear hH
  go_wp2
  refine bodyPost_ret (v:=.agg #[.bool (neg (sg b (val l+val l2))),.slice a3 n3 c3]) ?_ rfl hs;simp [results,Tryz.f187,go_sem,m0,m1]
theorem smul_any (b:Bool) (a:Option Addr) (n c:Nat) (l:List Nat) (b2:Bool) (a2:Option Addr) (n2 c2:Nat) (l2:List Nat) (w:World) (h:NatAt w a n c l) (h2:NatAt w a2 n2 c2 l2) (hs:n≤68719476736) (hs2:n2≤68719476736) :
 Calls Tryz.prog 103 #[.agg #[.bool b,.slice a n c],.agg #[.bool b2,.slice a2 n2 c2]] w (RetInt w (sg b (val l)*sg b2 (val l2))):=by
 have hlen:(digs (val l*val l2)).length≤1099511627776:=by have:=h.short;have:=h2.short;have:=digs_len_prod (val l) (val l2);omega
 have HL:=hiD hlen;clear hlen;have he:sg b (val l)*sg b2 (val l2)=sg (!(b == b2)) (val l*val l2):=by cases b<;>cases b2<;>simp [sg,Int.neg_mul,Int.mul_neg,Int.neg_neg,Int.natCast_mul]
 rw [he];clear he
 go_enter Tryz.func103,Tryz.ntmps103
 go_wp2_with fail
 obtain ⟨W,hW,hz,hBW,q0,q1,q2,q3⟩:=boxes3 w #[.bool b,.slice a n c] #[.bool b2,.slice a2 n2 c2] #[.bool false,.slice none 0 0] 26 26 26;rw [hW];have HLT:Hid (w.heap.size+1+1<W.heap.size):=hiD (by omega);have Q0:=hiD q0;have L0:Hid (w.heap.size<w.heap.size+1+1):=hiD (by omega);have Q1:=hiD q1;have L1:Hid (w.heap.size+1<w.heap.size+1+1):=hiD (by omega);have LR:Hid (w.heap.size≤w.heap.size+1+1):=hiD (by omega);have RM:=hiD (Room.of q2 q3);have HB:=hiD hBW;clear hW hz hBW q0 q1 q2 q3
 go_region_held3 (fun w'=>(w'.cell? ⟨w.heap.size,0,none⟩=some (.bool b)∧w'.cell? ⟨w.heap.size,1,none⟩=some (.slice a n c)∧w'.cell? ⟨w.heap.size+1,0,none⟩=some (.bool b2)∧w'.cell? ⟨w.heap.size+1,1,none⟩=some (.slice a2 n2 c2))∧(Room w' (w.heap.size+1+1) 2∧Below w.heap.size w w'∧Below (w.heap.size+1+1) W w'))
  (first
    | exact ⟨⟨((bRf (w.heap.size+1+1) W).drew.cell (p:=⟨w.heap.size,0,none⟩) L0.out).trans (Q0.out 0),((bRf (w.heap.size+1+1) W).drew.cell (p:=⟨w.heap.size,1,none⟩) L0.out).trans (Q0.out 1),((bRf (w.heap.size+1+1) W).drew.cell (p:=⟨w.heap.size+1,0,none⟩) L1.out).trans (Q1.out 0),((bRf (w.heap.size+1+1) W).drew.cell (p:=⟨w.heap.size+1,1,none⟩) L1.out).trans (Q1.out 1)⟩,RM.out.drew,HB.out.drew,(bRf _ _).drew⟩
    | (rename _ ∧ (Room _ _ _ ∧ Below w.heap.size w _ ∧ Below _ W _) => hS
       first
        | exact ⟨⟨((hS.2.2.2.trans (hb2.mono (nOf (nLt HLT.out hS.2.2.2.size)))).cell (p:=⟨w.heap.size,0,none⟩) L0.out).trans (Q0.out 0),((hS.2.2.2.trans (hb2.mono (nOf (nLt HLT.out hS.2.2.2.size)))).cell (p:=⟨w.heap.size,1,none⟩) L0.out).trans (Q0.out 1),((hS.2.2.2.trans (hb2.mono (nOf (nLt HLT.out hS.2.2.2.size)))).cell (p:=⟨w.heap.size+1,0,none⟩) L1.out).trans (Q1.out 0),((hS.2.2.2.trans (hb2.mono (nOf (nLt HLT.out hS.2.2.2.size)))).cell (p:=⟨w.heap.size+1,1,none⟩) L1.out).trans (Q1.out 1)⟩,hS.2.1.past hb2 (nLt HLT.out hS.2.2.2.size),bLt hS.2.2.1 hb2,(hS.2.2.2.trans (hb2.mono (nOf (nLt HLT.out hS.2.2.2.size))))⟩
        | exact ⟨⟨((hS.2.2.2.trans (hb1.mono (nOf (nLt HLT.out hS.2.2.2.size)))).cell (p:=⟨w.heap.size,0,none⟩) L0.out).trans (Q0.out 0),((hS.2.2.2.trans (hb1.mono (nOf (nLt HLT.out hS.2.2.2.size)))).cell (p:=⟨w.heap.size,1,none⟩) L0.out).trans (Q0.out 1),((hS.2.2.2.trans (hb1.mono (nOf (nLt HLT.out hS.2.2.2.size)))).cell (p:=⟨w.heap.size+1,0,none⟩) L1.out).trans (Q1.out 0),((hS.2.2.2.trans (hb1.mono (nOf (nLt HLT.out hS.2.2.2.size)))).cell (p:=⟨w.heap.size+1,1,none⟩) L1.out).trans (Q1.out 1)⟩,hS.2.1.past hb1 (nLt HLT.out hS.2.2.2.size),bLt hS.2.2.1 hb1,(hS.2.2.2.trans (hb1.mono (nOf (nLt HLT.out hS.2.2.2.size))))⟩
        | exact ⟨⟨((hS.2.2.2.alloc (nOf (nLt HLT.out hS.2.2.2.size)) _).cell (p:=⟨w.heap.size,0,none⟩) L0.out).trans (Q0.out 0),((hS.2.2.2.alloc (nOf (nLt HLT.out hS.2.2.2.size)) _).cell (p:=⟨w.heap.size,1,none⟩) L0.out).trans (Q0.out 1),((hS.2.2.2.alloc (nOf (nLt HLT.out hS.2.2.2.size)) _).cell (p:=⟨w.heap.size+1,0,none⟩) L1.out).trans (Q1.out 0),((hS.2.2.2.alloc (nOf (nLt HLT.out hS.2.2.2.size)) _).cell (p:=⟨w.heap.size+1,1,none⟩) L1.out).trans (Q1.out 1)⟩,hS.2.1.past ((bRf _ _).alloc (nRf _) _) (nLt HLT.out hS.2.2.2.size),below_alloc hS.2.2.1 _,(hS.2.2.2.alloc (nOf (nLt HLT.out hS.2.2.2.size)) _)⟩
        | exact ⟨⟨(((hS.2.2.2.setCell (p:=⟨w.heap.size+1+1,0,none⟩) (nRf _) _).setCell (p:=⟨w.heap.size+1+1,1,none⟩) (nRf _) _).cell (p:=⟨w.heap.size,0,none⟩) L0.out).trans (Q0.out 0),(((hS.2.2.2.setCell (p:=⟨w.heap.size+1+1,0,none⟩) (nRf _) _).setCell (p:=⟨w.heap.size+1+1,1,none⟩) (nRf _) _).cell (p:=⟨w.heap.size,1,none⟩) L0.out).trans (Q0.out 1),(((hS.2.2.2.setCell (p:=⟨w.heap.size+1+1,0,none⟩) (nRf _) _).setCell (p:=⟨w.heap.size+1+1,1,none⟩) (nRf _) _).cell (p:=⟨w.heap.size+1,0,none⟩) L1.out).trans (Q1.out 0),(((hS.2.2.2.setCell (p:=⟨w.heap.size+1+1,0,none⟩) (nRf _) _).setCell (p:=⟨w.heap.size+1+1,1,none⟩) (nRf _) _).cell (p:=⟨w.heap.size+1,1,none⟩) L1.out).trans (Q1.out 1)⟩,((hS.2.1.set _ _).set _ _),((hS.2.2.1.setCell (p:=⟨w.heap.size+1+1,0,none⟩) LR.out _).setCell (p:=⟨w.heap.size+1+1,1,none⟩) LR.out _),((hS.2.2.2.setCell (p:=⟨w.heap.size+1+1,0,none⟩) (nRf _) _).setCell (p:=⟨w.heap.size+1+1,1,none⟩) (nRf _) _)⟩)
    | assumption)
  (first
    | (go_at_call 105; rename _ ∧ (Room _ _ _ ∧ Below w.heap.size w _ ∧ Below _ W _) => hS
       go_fit (tmul_any _ _ _ l _ _ _ l2 _ (h.past hS.2.2.1) (h2.past hS.2.2.1) (by omega) (by omega))
       rintro e w1 ⟨a1,n1,c1,rfl,h1,hb1⟩)
    | (go_at_call 77; rename _ ∧ (Room _ _ _ ∧ Below w.heap.size w _ ∧ Below _ W _) => hS
       go_fit (make_any _ _ _ _ (digs (val l*val l2)) _ h1.toNatAt (h1.len ▸ HL.out))
       rintro e w3 ⟨a3,n3,c3,rfl,h3,hb2⟩;rw [val_digs] at h3 ⊢;have lt3:=nLt HLT.out hS.2.2.2.size;have le3:=hS.2.2.1.size;have rm3:=hS.2.1.past hb2 lt3;obtain ⟨v0,v1,m0,m1,m2,m3⟩:=rm3.two;have own3:=h3.ret2 lt3 le3 (.bool (neg (sg (!(b == b2)) (val l*val l2)))) (.slice a3 n3 c3)))
 all_goals
  rename _∧(Room _ _ _∧Below w.heap.size w _∧Below _ W _)=>hH
  have hs:=retIntOf (z:=sg (!(b == b2)) (val l*val l2)) ⟨own3,hH.2.2.1⟩ rfl _ rfl;clear hH
  go_wp2
  refine bodyPost_ret (v:=.agg #[.bool (neg (sg (!(b == b2)) (val l*val l2))),.slice a3 n3 c3]) ?_ rfl hs;simp [results,Tryz.f103,go_sem,m0,m1]
theorem against_yes (b:Bool) (a:Option Addr) (n c:Nat) (l:List Nat) (b2:Bool) (a2:Option Addr) (n2 c2:Nat) (l2:List Nat) (w:World) (h:NatAt w a n c l) (h2:NatAt w a2 n2 c2 l2) (hs:n≤549755813888) (hs2:n2≤549755813888) (hv:val l2≤val l) :
 Calls Tryz.prog 188 #[.agg #[.bool b,.slice a n c],.agg #[.bool b2,.slice a2 n2 c2]] w (RetInt w (sg b (val l-val l2))):=by
 have hlen:(digs (val l-val l2)).length≤1099511627776:=nTr (digs_len_mono (Nat.sub_le _ _)) (by have:=h.short;have:=h2.short;omega);have HL:=hiD hlen;clear hlen
 go_enter Tryz.func188,Tryz.ntmps188
 go_wp2_with fail
 obtain ⟨W,hW,hz,hBW,q0,q1,q2,q3⟩:=boxes3 w #[.bool b,.slice a n c] #[.bool b2,.slice a2 n2 c2] #[.bool false,.slice none 0 0] 26 26 26;rw [hW];have HLT:Hid (w.heap.size+1+1<W.heap.size):=hiD (by omega);have Q0:=hiD q0;have L0:Hid (w.heap.size<w.heap.size+1+1):=hiD (by omega);have Q1:=hiD q1;have L1:Hid (w.heap.size+1<w.heap.size+1+1):=hiD (by omega);have LR:Hid (w.heap.size≤w.heap.size+1+1):=hiD (by omega);have RM:=hiD (Room.of q2 q3);have HB:=hiD hBW;clear hW hz hBW q0 q1 q2 q3;have hlt:=HLT.out;have q0:=Q0.out;have q1:=Q1.out;have rm:=RM.out;have k:=h.past HB.out;have k2:=h2.past HB.out;have hBW:=HB.out
 with_reducible refine (sub_yes _ _ _ l _ _ _ l2 _ k k2 (by omega) hv).mono ?_
 rintro e w2 ⟨a1,n1,c1,rfl,h1,hb2⟩;have q0:=cellsPast hb2 (Nat.lt_trans L0.out hlt) q0;have q1:=cellsPast hb2 (Nat.lt_trans L1.out hlt) q1;have rm:=rm.past hb2 hlt;have hlt:=nLt hlt hb2.size;have hBW:=bLt hBW hb2;clear hb2 k k2;have HV:=hiD hv;clear hv
 go_wp2_with fail
 with_reducible refine (make_any _ _ _ _ _ _ h1.toNatAt (h1.len ▸ HL.out)).mono ?_
 rintro e w3 ⟨a3,n3,c3,rfl,h3,hb3⟩;rw [val_digs] at h3 ⊢;have own3:=h3.ret2 hlt hBW.size (.bool (neg (sg b (val l-val l2)))) (.slice a3 n3 c3);have rm:=rm.past hb3 hlt;obtain ⟨v0,v1,m0,m1,m2,m3⟩:=rm.two;have hB3:=bLt hBW hb3;have hs:=retIntOf (z:=sg b (val l-val l2)) ⟨own3,(hB3.setCell (p:=⟨w.heap.size+1+1,0,none⟩) LR.out _).setCell (p:=⟨w.heap.size+1+1,1,none⟩) LR.out _⟩ rfl _ rfl;clear own3 rm hB3 hb3 hBW hlt q0 q1 h1 h3
 go_wp2
 refine bodyPost_ret (v:=.agg #[.bool (neg (sg b (val l-val l2))),.slice a3 n3 c3]) ?_ rfl hs;simp [results,Tryz.f188,go_sem,m0,m1]
theorem against_no (b:Bool) (a:Option Addr) (n c:Nat) (l:List Nat) (b2:Bool) (a2:Option Addr) (n2 c2:Nat) (l2:List Nat) (w:World) (h:NatAt w a n c l) (h2:NatAt w a2 n2 c2 l2) (hs:n≤549755813888) (hs2:n2≤549755813888) (hv:val l<val l2) :
 Calls Tryz.prog 188 #[.agg #[.bool b,.slice a n c],.agg #[.bool b2,.slice a2 n2 c2]] w (RetInt w (sg b2 (val l2-val l))):=by
 have hlen:(digs (val l2-val l)).length≤1099511627776:=nTr (digs_len_mono (Nat.sub_le _ _)) (by have:=h.short;have:=h2.short;omega);have HL:=hiD hlen;clear hlen
 go_enter Tryz.func188,Tryz.ntmps188
 go_wp2_with fail
 obtain ⟨W,hW,hz,hBW,q0,q1,q2,q3⟩:=boxes3 w #[.bool b,.slice a n c] #[.bool b2,.slice a2 n2 c2] #[.bool false,.slice none 0 0] 26 26 26;rw [hW];have HLT:Hid (w.heap.size+1+1<W.heap.size):=hiD (by omega);have Q0:=hiD q0;have L0:Hid (w.heap.size<w.heap.size+1+1):=hiD (by omega);have Q1:=hiD q1;have L1:Hid (w.heap.size+1<w.heap.size+1+1):=hiD (by omega);have LR:Hid (w.heap.size≤w.heap.size+1+1):=hiD (by omega);have RM:=hiD (Room.of q2 q3);have HB:=hiD hBW;clear hW hz hBW q0 q1 q2 q3;have hlt:=HLT.out;have q0:=Q0.out;have q1:=Q1.out;have rm:=RM.out;have k:=h.past HB.out;have k2:=h2.past HB.out
 with_reducible refine (sub_no _ _ _ l _ _ _ l2 _ k k2 hv).mono ?_
 rintro e w1 ⟨rfl,hb1⟩;have q0:=cellsPast hb1 (Nat.lt_trans L0.out hlt) q0;have q1:=cellsPast hb1 (Nat.lt_trans L1.out hlt) q1;have rm:=rm.past hb1 hlt;have hlt:=nLt hlt hb1.size;have k:=k.past hb1;have k2:=k2.past hb1;have hBW:=bLt HB.out hb1;clear hb1
 go_wp2_with fail
 with_reducible refine (sub_yes _ _ _ l2 _ _ _ l _ k2 k (by omega) (nOf hv)).mono ?_
 rintro e w2 ⟨a1,n1,c1,rfl,h1,hb2⟩;have q0:=cellsPast hb2 (Nat.lt_trans L0.out hlt) q0;have q1:=cellsPast hb2 (Nat.lt_trans L1.out hlt) q1;have rm:=rm.past hb2 hlt;have hlt:=nLt hlt hb2.size;have hBW:=bLt hBW hb2;clear hb2 k k2;have HV:=hiD hv;clear hv
 go_wp2_with fail
 with_reducible refine (make_any _ _ _ _ _ _ h1.toNatAt (h1.len ▸ HL.out)).mono ?_
 rintro e w3 ⟨a3,n3,c3,rfl,h3,hb3⟩;rw [val_digs] at h3 ⊢;have own3:=h3.ret2 hlt hBW.size (.bool (neg (sg b2 (val l2-val l)))) (.slice a3 n3 c3);have rm:=rm.past hb3 hlt;obtain ⟨v0,v1,m0,m1,m2,m3⟩:=rm.two;have hB3:=bLt hBW hb3;have hs:=retIntOf (z:=sg b2 (val l2-val l)) ⟨own3,(hB3.setCell (p:=⟨w.heap.size+1+1,0,none⟩) LR.out _).setCell (p:=⟨w.heap.size+1+1,1,none⟩) LR.out _⟩ rfl _ rfl;clear own3 rm hB3 hb3 hBW hlt q0 q1 h1 h3
 go_wp2
 refine bodyPost_ret (v:=.agg #[.bool (neg (sg b2 (val l2-val l))),.slice a3 n3 c3]) ?_ rfl hs;simp [results,Tryz.f188,go_sem,m0,m1]
theorem against_sum (b:Bool) (a:Option Addr) (n c:Nat) (l:List Nat) (b2:Bool) (a2:Option Addr) (n2 c2:Nat) (l2:List Nat) (w:World) (h:NatAt w a n c l) (h2:NatAt w a2 n2 c2 l2) (hs:n≤274877906944) (hs2:n2≤274877906944) (hb:b2 = !b) :
 Calls Tryz.prog 188 #[.agg #[.bool b,.slice a n c],.agg #[.bool b2,.slice a2 n2 c2]] w (RetInt w (sg b (val l)+sg b2 (val l2))):=by
 by_cases hv:val l2≤val l
 · have e:sg b (val l)+sg b2 (val l2)=sg b (val l-val l2):=by subst hb;cases b<;>simp [sg]<;>omega
   rw [e];exact against_yes b a n c l b2 a2 n2 c2 l2 w h h2 (by omega) (by omega) hv
 have e:sg b (val l)+sg b2 (val l2)=sg b2 (val l2-val l):=by subst hb;cases b<;>simp [sg]<;>omega
 rw [e];exact against_no b a n c l b2 a2 n2 c2 l2 w h h2 (by omega) (by omega) (by omega)
theorem along_sum (b:Bool) (a:Option Addr) (n c:Nat) (l:List Nat) (b2:Bool) (a2:Option Addr) (n2 c2:Nat) (l2:List Nat) (w:World) (h:NatAt w a n c l) (h2:NatAt w a2 n2 c2 l2) (hs:n≤274877906944) (hs2:n2≤274877906944) (hb:b2=b) :
 Calls Tryz.prog 187 #[.agg #[.bool b,.slice a n c],.agg #[.bool b2,.slice a2 n2 c2]] w (RetInt w (sg b (val l)+sg b2 (val l2))):=by
 have e:sg b (val l)+sg b2 (val l2)=sg b (val l+val l2):=by subst hb;cases b2<;>simp [sg]<;>omega
 rw [e];exact along_any b a n c l b2 a2 n2 c2 l2 w h h2 hs hs2
theorem sadd_any (b:Bool) (a:Option Addr) (n c:Nat) (l:List Nat) (b2:Bool) (a2:Option Addr) (n2 c2:Nat) (l2:List Nat) (w:World) (h:NatAt w a n c l) (h2:NatAt w a2 n2 c2 l2) (hs:n≤274877906944) (hs2:n2≤274877906944) :
 Calls Tryz.prog 148 #[.agg #[.bool b,.slice a n c],.agg #[.bool b2,.slice a2 n2 c2]] w (RetInt w (sg b (val l)+sg b2 (val l2))):=by
 have hal:=along_sum b a n c l b2 a2 n2 c2 l2;have hag:=against_sum b a n c l b2 a2 n2 c2 l2;generalize hZ:sg b (val l)+sg b2 (val l2)=Z at *;have hZ':=hiD hZ;have HAL:=hiD hal;have HAG:=hiD hag;clear hZ hal hag;cases b<;>cases b2
 · have HX:=hiD (fun (w:World) (k1:NatAt w a n c l) (k2:NatAt w a2 n2 c2 l2)=>HAL.out w k1 k2 hs hs2 rfl);clear HAL HAG;have hix:∀ w:World,(Instr.index 186 (.agg #[.func (.func 187) #[] #[],.func (.func 188) #[] #[]]) (.int .i64 0)).run Tryz.prog w = .ok (.func (.func 187) #[] #[]) w:=fun w=>by kernel_rfl
   go_enter Tryz.func148,Tryz.ntmps148
   go_wp2_with fail
   obtain ⟨W,hW,hz,hBW,q0,q1,q2,q3⟩:=boxes3 w #[.bool false,.slice a n c] #[.bool false,.slice a2 n2 c2] #[.bool false,.slice none 0 0] 26 26 26;rw [hW];have HLT:Hid (w.heap.size+1+1<W.heap.size):=hiD (by omega);have Q0:=hiD q0;have L0:Hid (w.heap.size<w.heap.size+1+1):=hiD (by omega);have Q1:=hiD q1;have L1:Hid (w.heap.size+1<w.heap.size+1+1):=hiD (by omega);have LR:Hid (w.heap.size≤w.heap.size+1+1):=hiD (by omega);have RM:=hiD (Room.of q2 q3);have HB:=hiD hBW;clear hW hz hBW q0 q1 q2 q3
   go_wp2_with fail
   go_region_held3 (fun w'=>(w'.cell? ⟨w.heap.size,0,none⟩=some (.bool false)∧w'.cell? ⟨w.heap.size,1,none⟩=some (.slice a n c)∧w'.cell? ⟨w.heap.size+1,0,none⟩=some (.bool false)∧w'.cell? ⟨w.heap.size+1,1,none⟩=some (.slice a2 n2 c2))∧(Room w' (w.heap.size+1+1) 2∧Below w.heap.size w w'∧Below (w.heap.size+1+1) W w'))
    (first
      | exact ⟨⟨((bRf (w.heap.size+1+1) W).drew.cell (p:=⟨w.heap.size,0,none⟩) L0.out).trans (Q0.out 0),((bRf (w.heap.size+1+1) W).drew.cell (p:=⟨w.heap.size,1,none⟩) L0.out).trans (Q0.out 1),((bRf (w.heap.size+1+1) W).drew.cell (p:=⟨w.heap.size+1,0,none⟩) L1.out).trans (Q1.out 0),((bRf (w.heap.size+1+1) W).drew.cell (p:=⟨w.heap.size+1,1,none⟩) L1.out).trans (Q1.out 1)⟩,RM.out.drew,HB.out.drew,(bRf _ _).drew⟩
      | (rename _ ∧ (Room _ _ _ ∧ Below w.heap.size w _ ∧ Below _ W _) => hS
         first
          | exact ⟨⟨((hS.2.2.2.trans (hb2.mono (nOf (nLt HLT.out hS.2.2.2.size)))).cell (p:=⟨w.heap.size,0,none⟩) L0.out).trans (Q0.out 0),((hS.2.2.2.trans (hb2.mono (nOf (nLt HLT.out hS.2.2.2.size)))).cell (p:=⟨w.heap.size,1,none⟩) L0.out).trans (Q0.out 1),((hS.2.2.2.trans (hb2.mono (nOf (nLt HLT.out hS.2.2.2.size)))).cell (p:=⟨w.heap.size+1,0,none⟩) L1.out).trans (Q1.out 0),((hS.2.2.2.trans (hb2.mono (nOf (nLt HLT.out hS.2.2.2.size)))).cell (p:=⟨w.heap.size+1,1,none⟩) L1.out).trans (Q1.out 1)⟩,hS.2.1.past hb2 (nLt HLT.out hS.2.2.2.size),bLt hS.2.2.1 hb2,(hS.2.2.2.trans (hb2.mono (nOf (nLt HLT.out hS.2.2.2.size))))⟩
          | exact ⟨⟨((hS.2.2.2.alloc (nOf (nLt HLT.out hS.2.2.2.size)) _).cell (p:=⟨w.heap.size,0,none⟩) L0.out).trans (Q0.out 0),((hS.2.2.2.alloc (nOf (nLt HLT.out hS.2.2.2.size)) _).cell (p:=⟨w.heap.size,1,none⟩) L0.out).trans (Q0.out 1),((hS.2.2.2.alloc (nOf (nLt HLT.out hS.2.2.2.size)) _).cell (p:=⟨w.heap.size+1,0,none⟩) L1.out).trans (Q1.out 0),((hS.2.2.2.alloc (nOf (nLt HLT.out hS.2.2.2.size)) _).cell (p:=⟨w.heap.size+1,1,none⟩) L1.out).trans (Q1.out 1)⟩,hS.2.1.past ((bRf _ _).alloc (nRf _) _) (nLt HLT.out hS.2.2.2.size),below_alloc hS.2.2.1 _,(hS.2.2.2.alloc (nOf (nLt HLT.out hS.2.2.2.size)) _)⟩
          | exact ⟨⟨(((hS.2.2.2.setCell (p:=⟨w.heap.size+1+1,0,none⟩) (nRf _) _).setCell (p:=⟨w.heap.size+1+1,1,none⟩) (nRf _) _).cell (p:=⟨w.heap.size,0,none⟩) L0.out).trans (Q0.out 0),(((hS.2.2.2.setCell (p:=⟨w.heap.size+1+1,0,none⟩) (nRf _) _).setCell (p:=⟨w.heap.size+1+1,1,none⟩) (nRf _) _).cell (p:=⟨w.heap.size,1,none⟩) L0.out).trans (Q0.out 1),(((hS.2.2.2.setCell (p:=⟨w.heap.size+1+1,0,none⟩) (nRf _) _).setCell (p:=⟨w.heap.size+1+1,1,none⟩) (nRf _) _).cell (p:=⟨w.heap.size+1,0,none⟩) L1.out).trans (Q1.out 0),(((hS.2.2.2.setCell (p:=⟨w.heap.size+1+1,0,none⟩) (nRf _) _).setCell (p:=⟨w.heap.size+1+1,1,none⟩) (nRf _) _).cell (p:=⟨w.heap.size+1,1,none⟩) L1.out).trans (Q1.out 1)⟩,((hS.2.1.set _ _).set _ _),((hS.2.2.1.setCell (p:=⟨w.heap.size+1+1,0,none⟩) LR.out _).setCell (p:=⟨w.heap.size+1+1,1,none⟩) LR.out _),((hS.2.2.2.setCell (p:=⟨w.heap.size+1+1,0,none⟩) (nRf _) _).setCell (p:=⟨w.heap.size+1+1,1,none⟩) (nRf _) _)⟩)
      | assumption)
    (first
      | (go_at_call 187; rename _ ∧ (Room _ _ _ ∧ Below w.heap.size w _ ∧ Below _ W _) => hS
         go_fit (HX.out _ (h.past hS.2.2.1) (h2.past hS.2.2.1))
         rintro e w3 ⟨a3,n3,c3,rfl,h3,hb2⟩;have lt3:=nLt HLT.out hS.2.2.2.size;have le3:=hS.2.2.1.size;have rm3:=hS.2.1.past hb2 lt3;obtain ⟨v0,v1,m0,m1,m2,m3⟩:=rm3.two;have own3:=h3.ret2 lt3 le3 (.bool (neg Z)) (.slice a3 n3 c3)))
   all_goals
    rename _∧(Room _ _ _∧Below w.heap.size w _∧Below _ W _)=>hH
    have hs:=retIntOf (z:=Z) ⟨own3,hH.2.2.1⟩ rfl _ rfl;clear hH
    go_wp2
    refine bodyPost_ret (v:=.agg #[.bool (neg (Z)),.slice a3 n3 c3]) ?_ rfl hs;simp [results,Tryz.f148,go_sem,m0,m1]
 · have HX:=hiD (fun (w:World) (k1:NatAt w a n c l) (k2:NatAt w a2 n2 c2 l2)=>HAG.out w k1 k2 hs hs2 rfl);clear HAL HAG;have hix:∀ w:World,(Instr.index 186 (.agg #[.func (.func 187) #[] #[],.func (.func 188) #[] #[]]) (.int .i64 1)).run Tryz.prog w = .ok (.func (.func 188) #[] #[]) w:=fun w=>by kernel_rfl
   go_enter Tryz.func148,Tryz.ntmps148
   go_wp2_with fail
   obtain ⟨W,hW,hz,hBW,q0,q1,q2,q3⟩:=boxes3 w #[.bool false,.slice a n c] #[.bool true,.slice a2 n2 c2] #[.bool false,.slice none 0 0] 26 26 26;rw [hW];have HLT:Hid (w.heap.size+1+1<W.heap.size):=hiD (by omega);have Q0:=hiD q0;have L0:Hid (w.heap.size<w.heap.size+1+1):=hiD (by omega);have Q1:=hiD q1;have L1:Hid (w.heap.size+1<w.heap.size+1+1):=hiD (by omega);have LR:Hid (w.heap.size≤w.heap.size+1+1):=hiD (by omega);have RM:=hiD (Room.of q2 q3);have HB:=hiD hBW;clear hW hz hBW q0 q1 q2 q3
   go_wp2_with fail
   go_region_held3 (fun w'=>(w'.cell? ⟨w.heap.size,0,none⟩=some (.bool false)∧w'.cell? ⟨w.heap.size,1,none⟩=some (.slice a n c)∧w'.cell? ⟨w.heap.size+1,0,none⟩=some (.bool true)∧w'.cell? ⟨w.heap.size+1,1,none⟩=some (.slice a2 n2 c2))∧(Room w' (w.heap.size+1+1) 2∧Below w.heap.size w w'∧Below (w.heap.size+1+1) W w'))
    (first
      | exact ⟨⟨((bRf (w.heap.size+1+1) W).drew.cell (p:=⟨w.heap.size,0,none⟩) L0.out).trans (Q0.out 0),((bRf (w.heap.size+1+1) W).drew.cell (p:=⟨w.heap.size,1,none⟩) L0.out).trans (Q0.out 1),((bRf (w.heap.size+1+1) W).drew.cell (p:=⟨w.heap.size+1,0,none⟩) L1.out).trans (Q1.out 0),((bRf (w.heap.size+1+1) W).drew.cell (p:=⟨w.heap.size+1,1,none⟩) L1.out).trans (Q1.out 1)⟩,RM.out.drew,HB.out.drew,(bRf _ _).drew⟩
      | (rename _ ∧ (Room _ _ _ ∧ Below w.heap.size w _ ∧ Below _ W _) => hS
         first
          | exact ⟨⟨((hS.2.2.2.trans (hb2.mono (nOf (nLt HLT.out hS.2.2.2.size)))).cell (p:=⟨w.heap.size,0,none⟩) L0.out).trans (Q0.out 0),((hS.2.2.2.trans (hb2.mono (nOf (nLt HLT.out hS.2.2.2.size)))).cell (p:=⟨w.heap.size,1,none⟩) L0.out).trans (Q0.out 1),((hS.2.2.2.trans (hb2.mono (nOf (nLt HLT.out hS.2.2.2.size)))).cell (p:=⟨w.heap.size+1,0,none⟩) L1.out).trans (Q1.out 0),((hS.2.2.2.trans (hb2.mono (nOf (nLt HLT.out hS.2.2.2.size)))).cell (p:=⟨w.heap.size+1,1,none⟩) L1.out).trans (Q1.out 1)⟩,hS.2.1.past hb2 (nLt HLT.out hS.2.2.2.size),bLt hS.2.2.1 hb2,(hS.2.2.2.trans (hb2.mono (nOf (nLt HLT.out hS.2.2.2.size))))⟩
          | exact ⟨⟨((hS.2.2.2.alloc (nOf (nLt HLT.out hS.2.2.2.size)) _).cell (p:=⟨w.heap.size,0,none⟩) L0.out).trans (Q0.out 0),((hS.2.2.2.alloc (nOf (nLt HLT.out hS.2.2.2.size)) _).cell (p:=⟨w.heap.size,1,none⟩) L0.out).trans (Q0.out 1),((hS.2.2.2.alloc (nOf (nLt HLT.out hS.2.2.2.size)) _).cell (p:=⟨w.heap.size+1,0,none⟩) L1.out).trans (Q1.out 0),((hS.2.2.2.alloc (nOf (nLt HLT.out hS.2.2.2.size)) _).cell (p:=⟨w.heap.size+1,1,none⟩) L1.out).trans (Q1.out 1)⟩,hS.2.1.past ((bRf _ _).alloc (nRf _) _) (nLt HLT.out hS.2.2.2.size),below_alloc hS.2.2.1 _,(hS.2.2.2.alloc (nOf (nLt HLT.out hS.2.2.2.size)) _)⟩
          | exact ⟨⟨(((hS.2.2.2.setCell (p:=⟨w.heap.size+1+1,0,none⟩) (nRf _) _).setCell (p:=⟨w.heap.size+1+1,1,none⟩) (nRf _) _).cell (p:=⟨w.heap.size,0,none⟩) L0.out).trans (Q0.out 0),(((hS.2.2.2.setCell (p:=⟨w.heap.size+1+1,0,none⟩) (nRf _) _).setCell (p:=⟨w.heap.size+1+1,1,none⟩) (nRf _) _).cell (p:=⟨w.heap.size,1,none⟩) L0.out).trans (Q0.out 1),(((hS.2.2.2.setCell (p:=⟨w.heap.size+1+1,0,none⟩) (nRf _) _).setCell (p:=⟨w.heap.size+1+1,1,none⟩) (nRf _) _).cell (p:=⟨w.heap.size+1,0,none⟩) L1.out).trans (Q1.out 0),(((hS.2.2.2.setCell (p:=⟨w.heap.size+1+1,0,none⟩) (nRf _) _).setCell (p:=⟨w.heap.size+1+1,1,none⟩) (nRf _) _).cell (p:=⟨w.heap.size+1,1,none⟩) L1.out).trans (Q1.out 1)⟩,((hS.2.1.set _ _).set _ _),((hS.2.2.1.setCell (p:=⟨w.heap.size+1+1,0,none⟩) LR.out _).setCell (p:=⟨w.heap.size+1+1,1,none⟩) LR.out _),((hS.2.2.2.setCell (p:=⟨w.heap.size+1+1,0,none⟩) (nRf _) _).setCell (p:=⟨w.heap.size+1+1,1,none⟩) (nRf _) _)⟩)
      | assumption)
    (first
      | (go_at_call 188; rename _ ∧ (Room _ _ _ ∧ Below w.heap.size w _ ∧ Below _ W _) => hS
         go_fit (HX.out _ (h.past hS.2.2.1) (h2.past hS.2.2.1))
         rintro e w3 ⟨a3,n3,c3,rfl,h3,hb2⟩;have lt3:=nLt HLT.out hS.2.2.2.size;have le3:=hS.2.2.1.size;have rm3:=hS.2.1.past hb2 lt3;obtain ⟨v0,v1,m0,m1,m2,m3⟩:=rm3.two;have own3:=h3.ret2 lt3 le3 (.bool (neg Z)) (.slice a3 n3 c3)))
   all_goals
    rename _∧(Room _ _ _∧Below w.heap.size w _∧Below _ W _)=>hH
    have hs:=retIntOf (z:=Z) ⟨own3,hH.2.2.1⟩ rfl _ rfl;clear hH
    go_wp2
    refine bodyPost_ret (v:=.agg #[.bool (neg (Z)),.slice a3 n3 c3]) ?_ rfl hs;simp [results,Tryz.f148,go_sem,m0,m1]
 · have HX:=hiD (fun (w:World) (k1:NatAt w a n c l) (k2:NatAt w a2 n2 c2 l2)=>HAG.out w k1 k2 hs hs2 rfl);clear HAL HAG;have hix:∀ w:World,(Instr.index 186 (.agg #[.func (.func 187) #[] #[],.func (.func 188) #[] #[]]) (.int .i64 1)).run Tryz.prog w = .ok (.func (.func 188) #[] #[]) w:=fun w=>by kernel_rfl
   go_enter Tryz.func148,Tryz.ntmps148
   go_wp2_with fail
   obtain ⟨W,hW,hz,hBW,q0,q1,q2,q3⟩:=boxes3 w #[.bool true,.slice a n c] #[.bool false,.slice a2 n2 c2] #[.bool false,.slice none 0 0] 26 26 26;rw [hW];have HLT:Hid (w.heap.size+1+1<W.heap.size):=hiD (by omega);have Q0:=hiD q0;have L0:Hid (w.heap.size<w.heap.size+1+1):=hiD (by omega);have Q1:=hiD q1;have L1:Hid (w.heap.size+1<w.heap.size+1+1):=hiD (by omega);have LR:Hid (w.heap.size≤w.heap.size+1+1):=hiD (by omega);have RM:=hiD (Room.of q2 q3);have HB:=hiD hBW;clear hW hz hBW q0 q1 q2 q3
   go_wp2_with fail
   go_region_held3 (fun w'=>(w'.cell? ⟨w.heap.size,0,none⟩=some (.bool true)∧w'.cell? ⟨w.heap.size,1,none⟩=some (.slice a n c)∧w'.cell? ⟨w.heap.size+1,0,none⟩=some (.bool false)∧w'.cell? ⟨w.heap.size+1,1,none⟩=some (.slice a2 n2 c2))∧(Room w' (w.heap.size+1+1) 2∧Below w.heap.size w w'∧Below (w.heap.size+1+1) W w'))
    (first
      | exact ⟨⟨((bRf (w.heap.size+1+1) W).drew.cell (p:=⟨w.heap.size,0,none⟩) L0.out).trans (Q0.out 0),((bRf (w.heap.size+1+1) W).drew.cell (p:=⟨w.heap.size,1,none⟩) L0.out).trans (Q0.out 1),((bRf (w.heap.size+1+1) W).drew.cell (p:=⟨w.heap.size+1,0,none⟩) L1.out).trans (Q1.out 0),((bRf (w.heap.size+1+1) W).drew.cell (p:=⟨w.heap.size+1,1,none⟩) L1.out).trans (Q1.out 1)⟩,RM.out.drew,HB.out.drew,(bRf _ _).drew⟩
      | (rename _ ∧ (Room _ _ _ ∧ Below w.heap.size w _ ∧ Below _ W _) => hS
         first
          | exact ⟨⟨((hS.2.2.2.trans (hb2.mono (nOf (nLt HLT.out hS.2.2.2.size)))).cell (p:=⟨w.heap.size,0,none⟩) L0.out).trans (Q0.out 0),((hS.2.2.2.trans (hb2.mono (nOf (nLt HLT.out hS.2.2.2.size)))).cell (p:=⟨w.heap.size,1,none⟩) L0.out).trans (Q0.out 1),((hS.2.2.2.trans (hb2.mono (nOf (nLt HLT.out hS.2.2.2.size)))).cell (p:=⟨w.heap.size+1,0,none⟩) L1.out).trans (Q1.out 0),((hS.2.2.2.trans (hb2.mono (nOf (nLt HLT.out hS.2.2.2.size)))).cell (p:=⟨w.heap.size+1,1,none⟩) L1.out).trans (Q1.out 1)⟩,hS.2.1.past hb2 (nLt HLT.out hS.2.2.2.size),bLt hS.2.2.1 hb2,(hS.2.2.2.trans (hb2.mono (nOf (nLt HLT.out hS.2.2.2.size))))⟩
          | exact ⟨⟨((hS.2.2.2.alloc (nOf (nLt HLT.out hS.2.2.2.size)) _).cell (p:=⟨w.heap.size,0,none⟩) L0.out).trans (Q0.out 0),((hS.2.2.2.alloc (nOf (nLt HLT.out hS.2.2.2.size)) _).cell (p:=⟨w.heap.size,1,none⟩) L0.out).trans (Q0.out 1),((hS.2.2.2.alloc (nOf (nLt HLT.out hS.2.2.2.size)) _).cell (p:=⟨w.heap.size+1,0,none⟩) L1.out).trans (Q1.out 0),((hS.2.2.2.alloc (nOf (nLt HLT.out hS.2.2.2.size)) _).cell (p:=⟨w.heap.size+1,1,none⟩) L1.out).trans (Q1.out 1)⟩,hS.2.1.past ((bRf _ _).alloc (nRf _) _) (nLt HLT.out hS.2.2.2.size),below_alloc hS.2.2.1 _,(hS.2.2.2.alloc (nOf (nLt HLT.out hS.2.2.2.size)) _)⟩
          | exact ⟨⟨(((hS.2.2.2.setCell (p:=⟨w.heap.size+1+1,0,none⟩) (nRf _) _).setCell (p:=⟨w.heap.size+1+1,1,none⟩) (nRf _) _).cell (p:=⟨w.heap.size,0,none⟩) L0.out).trans (Q0.out 0),(((hS.2.2.2.setCell (p:=⟨w.heap.size+1+1,0,none⟩) (nRf _) _).setCell (p:=⟨w.heap.size+1+1,1,none⟩) (nRf _) _).cell (p:=⟨w.heap.size,1,none⟩) L0.out).trans (Q0.out 1),(((hS.2.2.2.setCell (p:=⟨w.heap.size+1+1,0,none⟩) (nRf _) _).setCell (p:=⟨w.heap.size+1+1,1,none⟩) (nRf _) _).cell (p:=⟨w.heap.size+1,0,none⟩) L1.out).trans (Q1.out 0),(((hS.2.2.2.setCell (p:=⟨w.heap.size+1+1,0,none⟩) (nRf _) _).setCell (p:=⟨w.heap.size+1+1,1,none⟩) (nRf _) _).cell (p:=⟨w.heap.size+1,1,none⟩) L1.out).trans (Q1.out 1)⟩,((hS.2.1.set _ _).set _ _),((hS.2.2.1.setCell (p:=⟨w.heap.size+1+1,0,none⟩) LR.out _).setCell (p:=⟨w.heap.size+1+1,1,none⟩) LR.out _),((hS.2.2.2.setCell (p:=⟨w.heap.size+1+1,0,none⟩) (nRf _) _).setCell (p:=⟨w.heap.size+1+1,1,none⟩) (nRf _) _)⟩)
      | assumption)
    (first
      | (go_at_call 188; rename _ ∧ (Room _ _ _ ∧ Below w.heap.size w _ ∧ Below _ W _) => hS
         go_fit (HX.out _ (h.past hS.2.2.1) (h2.past hS.2.2.1))
         rintro e w3 ⟨a3,n3,c3,rfl,h3,hb2⟩;have lt3:=nLt HLT.out hS.2.2.2.size;have le3:=hS.2.2.1.size;have rm3:=hS.2.1.past hb2 lt3;obtain ⟨v0,v1,m0,m1,m2,m3⟩:=rm3.two;have own3:=h3.ret2 lt3 le3 (.bool (neg Z)) (.slice a3 n3 c3)))
   all_goals
    rename _∧(Room _ _ _∧Below w.heap.size w _∧Below _ W _)=>hH
    have hs:=retIntOf (z:=Z) ⟨own3,hH.2.2.1⟩ rfl _ rfl;clear hH
    go_wp2
    refine bodyPost_ret (v:=.agg #[.bool (neg (Z)),.slice a3 n3 c3]) ?_ rfl hs;simp [results,Tryz.f148,go_sem,m0,m1]
 have HX:=hiD (fun (w:World) (k1:NatAt w a n c l) (k2:NatAt w a2 n2 c2 l2)=>HAL.out w k1 k2 hs hs2 rfl);clear HAL HAG;have hix:∀ w:World,(Instr.index 186 (.agg #[.func (.func 187) #[] #[],.func (.func 188) #[] #[]]) (.int .i64 0)).run Tryz.prog w = .ok (.func (.func 187) #[] #[]) w:=fun w=>by kernel_rfl
 go_enter Tryz.func148,Tryz.ntmps148
 go_wp2_with fail
 obtain ⟨W,hW,hz,hBW,q0,q1,q2,q3⟩:=boxes3 w #[.bool true,.slice a n c] #[.bool true,.slice a2 n2 c2] #[.bool false,.slice none 0 0] 26 26 26;rw [hW];have HLT:Hid (w.heap.size+1+1<W.heap.size):=hiD (by omega);have Q0:=hiD q0;have L0:Hid (w.heap.size<w.heap.size+1+1):=hiD (by omega);have Q1:=hiD q1;have L1:Hid (w.heap.size+1<w.heap.size+1+1):=hiD (by omega);have LR:Hid (w.heap.size≤w.heap.size+1+1):=hiD (by omega);have RM:=hiD (Room.of q2 q3);have HB:=hiD hBW;clear hW hz hBW q0 q1 q2 q3
 go_wp2_with fail
 go_region_held3 (fun w'=>(w'.cell? ⟨w.heap.size,0,none⟩=some (.bool true)∧w'.cell? ⟨w.heap.size,1,none⟩=some (.slice a n c)∧w'.cell? ⟨w.heap.size+1,0,none⟩=some (.bool true)∧w'.cell? ⟨w.heap.size+1,1,none⟩=some (.slice a2 n2 c2))∧(Room w' (w.heap.size+1+1) 2∧Below w.heap.size w w'∧Below (w.heap.size+1+1) W w'))
  (first
    | exact ⟨⟨((bRf (w.heap.size+1+1) W).drew.cell (p:=⟨w.heap.size,0,none⟩) L0.out).trans (Q0.out 0),((bRf (w.heap.size+1+1) W).drew.cell (p:=⟨w.heap.size,1,none⟩) L0.out).trans (Q0.out 1),((bRf (w.heap.size+1+1) W).drew.cell (p:=⟨w.heap.size+1,0,none⟩) L1.out).trans (Q1.out 0),((bRf (w.heap.size+1+1) W).drew.cell (p:=⟨w.heap.size+1,1,none⟩) L1.out).trans (Q1.out 1)⟩,RM.out.drew,HB.out.drew,(bRf _ _).drew⟩
    | (rename _ ∧ (Room _ _ _ ∧ Below w.heap.size w _ ∧ Below _ W _) => hS
       first
        | exact ⟨⟨((hS.2.2.2.trans (hb2.mono (nOf (nLt HLT.out hS.2.2.2.size)))).cell (p:=⟨w.heap.size,0,none⟩) L0.out).trans (Q0.out 0),((hS.2.2.2.trans (hb2.mono (nOf (nLt HLT.out hS.2.2.2.size)))).cell (p:=⟨w.heap.size,1,none⟩) L0.out).trans (Q0.out 1),((hS.2.2.2.trans (hb2.mono (nOf (nLt HLT.out hS.2.2.2.size)))).cell (p:=⟨w.heap.size+1,0,none⟩) L1.out).trans (Q1.out 0),((hS.2.2.2.trans (hb2.mono (nOf (nLt HLT.out hS.2.2.2.size)))).cell (p:=⟨w.heap.size+1,1,none⟩) L1.out).trans (Q1.out 1)⟩,hS.2.1.past hb2 (nLt HLT.out hS.2.2.2.size),bLt hS.2.2.1 hb2,(hS.2.2.2.trans (hb2.mono (nOf (nLt HLT.out hS.2.2.2.size))))⟩
        | exact ⟨⟨((hS.2.2.2.alloc (nOf (nLt HLT.out hS.2.2.2.size)) _).cell (p:=⟨w.heap.size,0,none⟩) L0.out).trans (Q0.out 0),((hS.2.2.2.alloc (nOf (nLt HLT.out hS.2.2.2.size)) _).cell (p:=⟨w.heap.size,1,none⟩) L0.out).trans (Q0.out 1),((hS.2.2.2.alloc (nOf (nLt HLT.out hS.2.2.2.size)) _).cell (p:=⟨w.heap.size+1,0,none⟩) L1.out).trans (Q1.out 0),((hS.2.2.2.alloc (nOf (nLt HLT.out hS.2.2.2.size)) _).cell (p:=⟨w.heap.size+1,1,none⟩) L1.out).trans (Q1.out 1)⟩,hS.2.1.past ((bRf _ _).alloc (nRf _) _) (nLt HLT.out hS.2.2.2.size),below_alloc hS.2.2.1 _,(hS.2.2.2.alloc (nOf (nLt HLT.out hS.2.2.2.size)) _)⟩
        | exact ⟨⟨(((hS.2.2.2.setCell (p:=⟨w.heap.size+1+1,0,none⟩) (nRf _) _).setCell (p:=⟨w.heap.size+1+1,1,none⟩) (nRf _) _).cell (p:=⟨w.heap.size,0,none⟩) L0.out).trans (Q0.out 0),(((hS.2.2.2.setCell (p:=⟨w.heap.size+1+1,0,none⟩) (nRf _) _).setCell (p:=⟨w.heap.size+1+1,1,none⟩) (nRf _) _).cell (p:=⟨w.heap.size,1,none⟩) L0.out).trans (Q0.out 1),(((hS.2.2.2.setCell (p:=⟨w.heap.size+1+1,0,none⟩) (nRf _) _).setCell (p:=⟨w.heap.size+1+1,1,none⟩) (nRf _) _).cell (p:=⟨w.heap.size+1,0,none⟩) L1.out).trans (Q1.out 0),(((hS.2.2.2.setCell (p:=⟨w.heap.size+1+1,0,none⟩) (nRf _) _).setCell (p:=⟨w.heap.size+1+1,1,none⟩) (nRf _) _).cell (p:=⟨w.heap.size+1,1,none⟩) L1.out).trans (Q1.out 1)⟩,((hS.2.1.set _ _).set _ _),((hS.2.2.1.setCell (p:=⟨w.heap.size+1+1,0,none⟩) LR.out _).setCell (p:=⟨w.heap.size+1+1,1,none⟩) LR.out _),((hS.2.2.2.setCell (p:=⟨w.heap.size+1+1,0,none⟩) (nRf _) _).setCell (p:=⟨w.heap.size+1+1,1,none⟩) (nRf _) _)⟩)
    | assumption)
  (first
    | (go_at_call 187; rename _ ∧ (Room _ _ _ ∧ Below w.heap.size w _ ∧ Below _ W _) => hS
       go_fit (HX.out _ (h.past hS.2.2.1) (h2.past hS.2.2.1))
       rintro e w3 ⟨a3,n3,c3,rfl,h3,hb2⟩;have lt3:=nLt HLT.out hS.2.2.2.size;have le3:=hS.2.2.1.size;have rm3:=hS.2.1.past hb2 lt3;obtain ⟨v0,v1,m0,m1,m2,m3⟩:=rm3.two;have own3:=h3.ret2 lt3 le3 (.bool (neg Z)) (.slice a3 n3 c3)))
 all_goals
  rename _∧(Room _ _ _∧Below w.heap.size w _∧Below _ W _)=>hH
  have hs:=retIntOf (z:=Z) ⟨own3,hH.2.2.1⟩ rfl _ rfl;clear hH
  go_wp2
  refine bodyPost_ret (v:=.agg #[.bool (neg (Z)),.slice a3 n3 c3]) ?_ rfl hs;simp [results,Tryz.f148,go_sem,m0,m1]
end
section
open Go.RowKit
theorem oneN_yes {v:Nat} (h:v<18446744073709551616):oneN v=v∧oneB v=true:=⟨if_pos h,decide_eq_true h⟩
theorem oneN_no {v:Nat} (h:¬ v<18446744073709551616):oneN v=0∧oneB v=false:=⟨if_neg h,decide_eq_false h⟩
end
end Go.Proofs.YtkhcblihbalnbaaGreatDoor
