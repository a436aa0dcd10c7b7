import Derived.Test.YtkhcblihbalnbaaGreatDoorDigits2Pb
import Derived.Test.YtkhcblihbalnbaaGreatDoorRatio1Pb
set_option linter.unusedVariables false
set_option linter.unusedSimpArgs false
set_option maxHeartbeats 4000000
set_option maxRecDepth 100000
namespace Go.Proofs.YtkhcblihbalnbaaGreatDoor
open Go.RowKit
def textB (b:Bool) (u d:Nat):ByteArray:=⟨(textP b u d).toArray⟩
theorem decS_mk (n:Nat):decS n=⟨(decB n).toArray⟩:=rfl
theorem textB_list (b:Bool) (u d:Nat):(textB b u d).data.toList=textP b u d:=by simp [textB]
theorem mk_app (x y:List UInt8):(⟨x.toArray⟩:ByteArray) ++ ⟨y.toArray⟩=⟨(x ++ y).toArray⟩:=by
 apply ByteArray.ext;simp
theorem textB_pos1 (u:Nat):textB false u 1=decS u:=by
 unfold textB textP;rw [decS_mk];simp
theorem textB_neg1 (u:Nat):textB true u 1=⟨#[45]⟩ ++ decS u:=by
 unfold textB textP;rw [decS_mk,show (⟨#[45]⟩:ByteArray)=⟨[45].toArray⟩ from rfl,mk_app];simp
theorem textB_pos {u d:Nat} (h:d≠1):textB false u d=decS u ++ (⟨#[47]⟩ ++ decS d):=by
 unfold textB textP;rw [if_neg h,decS_mk,decS_mk,show (⟨#[47]⟩:ByteArray)=⟨[47].toArray⟩ from rfl,mk_app,mk_app];simp
theorem textB_neg {u d:Nat} (h:d≠1):textB true u d=⟨#[45]⟩ ++ decS u ++ (⟨#[47]⟩ ++ decS d):=by
 unfold textB textP;rw [if_neg h,decS_mk,decS_mk,show (⟨#[47]⟩:ByteArray)=⟨[47].toArray⟩ from rfl,show (⟨#[45]⟩:ByteArray)=⟨[45].toArray⟩ from rfl,mk_app,mk_app,mk_app];simp
def textE (b:Bool) (l l2:List Nat):ByteArray:=if chkR b l l2=0 then textB b (val l) (val l2) else ⟨#[]⟩
theorem decS_limbs {l:List Nat} (hl:Dig l) (h:l.length≤1073741824):(decS (val l)).size≤21474836481:=by
 have h1:=digL_limbs hl;unfold decS decL
 split
 · decide
 rw [strB_size];omega
theorem text_no (b:Bool) (a:Option Addr) (n c:Nat) (l:List Nat) (a2:Option Addr) (n2 c2:Nat) (l2:List Nat) (w:World) (g1:NatAt w a n c l) (g2:NatAt w a2 n2 c2 l2) (hs:n≤1073741824) (hs2:n2≤1073741824) (hk:chkR b l l2≠0) :
 Calls Tryz.prog 69 #[.agg #[.bool b,.slice a n c,.slice a2 n2 c2]] w (RetVal w (.tuple #[.string (⟨#[]⟩),.int .i64 6])):=by
 have hck:=fun w (g1:NatAt w a n c l) (g2:NatAt w a2 n2 c2 l2)=>check05_any b a n c l a2 n2 c2 l2 w g1 g2 (by omega) (by omega)
 simp only [chkR_no hk] at hck;have HCK:=hiD hck;clear hck hk
 go_enter Tryz.func69,Tryz.ntmps69
 have hB:=bRf w.heap.size w
 go_wp2_with fail
 obtain ⟨w1,hW,hz0,hb,q,f,qp0,qp1,qp2⟩:=bx3 w (w.heap.size) (by omega) (.bool b) (.slice a n c) (.slice a2 n2 c2) 28;rw [hW];clear hW;have g1:=g1.past hb;have g2:=g2.past hb;have hB:=bLt hB hb;clear hb;have lp:w.heap.size<w1.heap.size:=by omega
 clear q f;clear hz0
 with_reducible refine (HCK.out _ g1 g2).mono ?_
 rintro e w2 ⟨rfl,hb⟩;obtain ⟨qp0,qp1,qp2,lp⟩:=bq3 hb lp qp0 qp1 qp2;have hB:=bLt hB hb;clear hb
 go_wp2
 go_ret2
 exact ⟨rfl,hB⟩
theorem text_true_one (a:Option Addr) (n c:Nat) (l:List Nat) (a2:Option Addr) (n2 c2:Nat) (l2:List Nat) (w:World) (g1:NatAt w a n c l) (g2:NatAt w a2 n2 c2 l2) (hs:n≤1073741824) (hs2:n2≤1073741824) (hk:chkR true l l2=0) (hd:val l2=1) :
 Calls Tryz.prog 69 #[.agg #[.bool true,.slice a n c,.slice a2 n2 c2]] w (RetVal w (.tuple #[.string (textB true (val l) (val l2)),.int .i64 0])):=by
 have hck:=fun w (g1:NatAt w a n c l) (g2:NatAt w a2 n2 c2 l2)=>check05_any true a n c l a2 n2 c2 l2 w g1 g2 (by omega) (by omega)
 simp only [hk] at hck;have z1:=decS_limbs g1.dig (by rw [g1.len];exact hs);have z2:=decS_limbs g2.dig (by rw [g2.len];exact hs2);have hput:=fun w (g1:NatAt w a n c l)=>put_any a n c l w g1 hs
 have hput2:=fun w (g2:NatAt w a2 n2 c2 l2)=>put_any a2 n2 c2 l2 w g2 hs2
 have hone:=fun w (g2:NatAt w a2 n2 c2 l2)=>one_any a2 n2 c2 l2 w g2
 have hres:textB true (val l) (val l2)=⟨#[45]⟩ ++ decS (val l):=by rw [hd];exact textB_neg1 _
 have ho:=oneN_yes (v:=val l2) (by omega);simp only [ho.1,ho.2,hd] at hone;rw [hres];obtain ⟨S,hS⟩:∃ S,decS (val l)=S:=⟨_,rfl⟩;obtain ⟨T,hT⟩:∃ T,decS (val l2)=T:=⟨_,rfl⟩;simp only [hS] at z1 hput ⊢;have y1:(⟨#[45]⟩:ByteArray).size+S.size≤9223372036854775807:=by rw [show (⟨#[45]⟩:ByteArray).size=1 from rfl];omega
 have HCK:=hiD hck;have HP1:=hiD hput;have HP2:=hiD hput2;have HO:=hiD hone;clear hck hput hput2 hone hk hS hT ho hres z1 z2;clear hd
 go_enter Tryz.func69,Tryz.ntmps69
 have hB:=bRf w.heap.size w
 go_wp2_with fail
 obtain ⟨w1,hW,hz0,hb,q,f,qp0,qp1,qp2⟩:=bx3 w (w.heap.size) (by omega) (.bool true) (.slice a n c) (.slice a2 n2 c2) 28;rw [hW];clear hW;have g1:=g1.past hb;have g2:=g2.past hb;have hB:=bLt hB hb;clear hb;have lp:w.heap.size<w1.heap.size:=by omega
 clear q f;clear hz0
 with_reducible refine (HCK.out _ g1 g2).mono ?_
 rintro e w2 ⟨rfl,hb⟩;have g1:=g1.past hb;have g2:=g2.past hb;obtain ⟨qp0,qp1,qp2,lp⟩:=bq3 hb lp qp0 qp1 qp2;have hB:=bLt hB hb;clear hb
 go_wp2_with fail
 with_reducible refine (HP1.out _ g1).mono ?_
 rintro e w3 ⟨rfl,hb⟩;have g2:=g2.past hb;obtain ⟨qp0,qp1,qp2,lp⟩:=bq3 hb lp qp0 qp1 qp2;have hB:=bLt hB hb;clear hb
 go_wp2_with fail
 with_reducible refine (HO.out _ g2).mono ?_
 rintro e w' ⟨rfl,rfl⟩
 go_wp2
 go_ret2
 exact ⟨rfl,hB⟩
theorem text_true_big (a:Option Addr) (n c:Nat) (l:List Nat) (a2:Option Addr) (n2 c2:Nat) (l2:List Nat) (w:World) (g1:NatAt w a n c l) (g2:NatAt w a2 n2 c2 l2) (hs:n≤1073741824) (hs2:n2≤1073741824) (hk:chkR true l l2=0) (hd:¬ val l2<18446744073709551616) :
 Calls Tryz.prog 69 #[.agg #[.bool true,.slice a n c,.slice a2 n2 c2]] w (RetVal w (.tuple #[.string (textB true (val l) (val l2)),.int .i64 0])):=by
 have hck:=fun w (g1:NatAt w a n c l) (g2:NatAt w a2 n2 c2 l2)=>check05_any true a n c l a2 n2 c2 l2 w g1 g2 (by omega) (by omega)
 simp only [hk] at hck;have z1:=decS_limbs g1.dig (by rw [g1.len];exact hs);have z2:=decS_limbs g2.dig (by rw [g2.len];exact hs2);have hput:=fun w (g1:NatAt w a n c l)=>put_any a n c l w g1 hs
 have hput2:=fun w (g2:NatAt w a2 n2 c2 l2)=>put_any a2 n2 c2 l2 w g2 hs2
 have hone:=fun w (g2:NatAt w a2 n2 c2 l2)=>one_any a2 n2 c2 l2 w g2
 have hres:=textB_neg (u:=val l) (d:=val l2) (by omega);have ho:=oneN_no (v:=val l2) hd;simp only [ho.1,ho.2] at hone;rw [hres];obtain ⟨S,hS⟩:∃ S,decS (val l)=S:=⟨_,rfl⟩;obtain ⟨T,hT⟩:∃ T,decS (val l2)=T:=⟨_,rfl⟩;simp only [hS,hT] at z1 z2 hput hput2 ⊢;have y1:(⟨#[45]⟩:ByteArray).size+S.size≤9223372036854775807:=by rw [show (⟨#[45]⟩:ByteArray).size=1 from rfl];omega
 have y2:(⟨#[47]⟩:ByteArray).size+T.size≤9223372036854775807:=by rw [show (⟨#[47]⟩:ByteArray).size=1 from rfl];omega
 have y3:((⟨#[45]⟩:ByteArray) ++ S).size+((⟨#[47]⟩:ByteArray) ++ T).size≤9223372036854775807:=by simp only [ByteArray.size_append,show (⟨#[47]⟩:ByteArray).size=1 from rfl,show (⟨#[45]⟩:ByteArray).size=1 from rfl];omega
 have HCK:=hiD hck;have HP1:=hiD hput;have HP2:=hiD hput2;have HO:=hiD hone;clear hck hput hput2 hone hk hS hT ho hres z1 z2;clear hd
 go_enter Tryz.func69,Tryz.ntmps69
 have hB:=bRf w.heap.size w
 go_wp2_with fail
 obtain ⟨w1,hW,hz0,hb,q,f,qp0,qp1,qp2⟩:=bx3 w (w.heap.size) (by omega) (.bool true) (.slice a n c) (.slice a2 n2 c2) 28;rw [hW];clear hW;have g1:=g1.past hb;have g2:=g2.past hb;have hB:=bLt hB hb;clear hb;have lp:w.heap.size<w1.heap.size:=by omega
 clear q f;clear hz0
 with_reducible refine (HCK.out _ g1 g2).mono ?_
 rintro e w2 ⟨rfl,hb⟩;have g1:=g1.past hb;have g2:=g2.past hb;obtain ⟨qp0,qp1,qp2,lp⟩:=bq3 hb lp qp0 qp1 qp2;have hB:=bLt hB hb;clear hb
 go_wp2_with fail
 with_reducible refine (HP1.out _ g1).mono ?_
 rintro e w3 ⟨rfl,hb⟩;have g2:=g2.past hb;obtain ⟨qp0,qp1,qp2,lp⟩:=bq3 hb lp qp0 qp1 qp2;have hB:=bLt hB hb;clear hb
 go_wp2_with fail
 with_reducible refine (HO.out _ g2).mono ?_
 rintro e w' ⟨rfl,rfl⟩
 go_wp2_with fail
 with_reducible refine (HP2.out _ g2).mono ?_
 rintro e w4 ⟨rfl,hb⟩;obtain ⟨qp0,qp1,qp2,lp⟩:=bq3 hb lp qp0 qp1 qp2;have hB:=bLt hB hb;clear hb
 go_wp2
 go_ret2
 exact ⟨rfl,hB⟩
theorem text_true_other (a:Option Addr) (n c:Nat) (l:List Nat) (a2:Option Addr) (n2 c2:Nat) (l2:List Nat) (w:World) (g1:NatAt w a n c l) (g2:NatAt w a2 n2 c2 l2) (hs:n≤1073741824) (hs2:n2≤1073741824) (hk:chkR true l l2=0) (hd:val l2<18446744073709551616) (hd1:val l2≠1) :
 Calls Tryz.prog 69 #[.agg #[.bool true,.slice a n c,.slice a2 n2 c2]] w (RetVal w (.tuple #[.string (textB true (val l) (val l2)),.int .i64 0])):=by
 have hck:=fun w (g1:NatAt w a n c l) (g2:NatAt w a2 n2 c2 l2)=>check05_any true a n c l a2 n2 c2 l2 w g1 g2 (by omega) (by omega)
 simp only [hk] at hck;have z1:=decS_limbs g1.dig (by rw [g1.len];exact hs);have z2:=decS_limbs g2.dig (by rw [g2.len];exact hs2);have hput:=fun w (g1:NatAt w a n c l)=>put_any a n c l w g1 hs
 have hput2:=fun w (g2:NatAt w a2 n2 c2 l2)=>put_any a2 n2 c2 l2 w g2 hs2
 have hone:=fun w (g2:NatAt w a2 n2 c2 l2)=>one_any a2 n2 c2 l2 w g2
 have hres:=textB_neg (u:=val l) (d:=val l2) hd1;have ho:=oneN_yes (v:=val l2) hd;simp only [ho.1,ho.2] at hone;rw [hres];obtain ⟨S,hS⟩:∃ S,decS (val l)=S:=⟨_,rfl⟩;obtain ⟨T,hT⟩:∃ T,decS (val l2)=T:=⟨_,rfl⟩;simp only [hS,hT] at z1 z2 hput hput2 ⊢;obtain ⟨X,hX⟩:∃ X,val l2=X:=⟨_,rfl⟩;rw [hX] at hd1;simp only [hX] at hone;have t4:((X:Int) != 1)=true:=bne_iff_ne.2 (by omega);have y1:(⟨#[45]⟩:ByteArray).size+S.size≤9223372036854775807:=by rw [show (⟨#[45]⟩:ByteArray).size=1 from rfl];omega
 have y2:(⟨#[47]⟩:ByteArray).size+T.size≤9223372036854775807:=by rw [show (⟨#[47]⟩:ByteArray).size=1 from rfl];omega
 have y3:((⟨#[45]⟩:ByteArray) ++ S).size+((⟨#[47]⟩:ByteArray) ++ T).size≤9223372036854775807:=by simp only [ByteArray.size_append,show (⟨#[47]⟩:ByteArray).size=1 from rfl,show (⟨#[45]⟩:ByteArray).size=1 from rfl];omega
 have HCK:=hiD hck;have HP1:=hiD hput;have HP2:=hiD hput2;have HO:=hiD hone;clear hck hput hput2 hone hk hS hT ho hres z1 z2;clear hX hd hd1
 go_enter Tryz.func69,Tryz.ntmps69
 have hB:=bRf w.heap.size w
 go_wp2_with fail
 obtain ⟨w1,hW,hz0,hb,q,f,qp0,qp1,qp2⟩:=bx3 w (w.heap.size) (by omega) (.bool true) (.slice a n c) (.slice a2 n2 c2) 28;rw [hW];clear hW;have g1:=g1.past hb;have g2:=g2.past hb;have hB:=bLt hB hb;clear hb;have lp:w.heap.size<w1.heap.size:=by omega
 clear q f;clear hz0
 with_reducible refine (HCK.out _ g1 g2).mono ?_
 rintro e w2 ⟨rfl,hb⟩;have g1:=g1.past hb;have g2:=g2.past hb;obtain ⟨qp0,qp1,qp2,lp⟩:=bq3 hb lp qp0 qp1 qp2;have hB:=bLt hB hb;clear hb
 go_wp2_with fail
 with_reducible refine (HP1.out _ g1).mono ?_
 rintro e w3 ⟨rfl,hb⟩;have g2:=g2.past hb;obtain ⟨qp0,qp1,qp2,lp⟩:=bq3 hb lp qp0 qp1 qp2;have hB:=bLt hB hb;clear hb
 go_wp2_with fail
 with_reducible refine (HO.out _ g2).mono ?_
 rintro e w' ⟨rfl,rfl⟩
 go_wp2_with fail
 with_reducible refine (HP2.out _ g2).mono ?_
 rintro e w4 ⟨rfl,hb⟩;obtain ⟨qp0,qp1,qp2,lp⟩:=bq3 hb lp qp0 qp1 qp2;have hB:=bLt hB hb;clear hb
 go_wp2
 go_ret2
 exact ⟨rfl,hB⟩
theorem text_false_one (a:Option Addr) (n c:Nat) (l:List Nat) (a2:Option Addr) (n2 c2:Nat) (l2:List Nat) (w:World) (g1:NatAt w a n c l) (g2:NatAt w a2 n2 c2 l2) (hs:n≤1073741824) (hs2:n2≤1073741824) (hk:chkR false l l2=0) (hd:val l2=1) :
 Calls Tryz.prog 69 #[.agg #[.bool false,.slice a n c,.slice a2 n2 c2]] w (RetVal w (.tuple #[.string (textB false (val l) (val l2)),.int .i64 0])):=by
 have hck:=fun w (g1:NatAt w a n c l) (g2:NatAt w a2 n2 c2 l2)=>check05_any false a n c l a2 n2 c2 l2 w g1 g2 (by omega) (by omega)
 simp only [hk] at hck;have z1:=decS_limbs g1.dig (by rw [g1.len];exact hs);have z2:=decS_limbs g2.dig (by rw [g2.len];exact hs2);have hput:=fun w (g1:NatAt w a n c l)=>put_any a n c l w g1 hs
 have hput2:=fun w (g2:NatAt w a2 n2 c2 l2)=>put_any a2 n2 c2 l2 w g2 hs2
 have hone:=fun w (g2:NatAt w a2 n2 c2 l2)=>one_any a2 n2 c2 l2 w g2
 have hres:textB false (val l) (val l2)=decS (val l):=by rw [hd];exact textB_pos1 _
 have ho:=oneN_yes (v:=val l2) (by omega);simp only [ho.1,ho.2,hd] at hone;rw [hres];obtain ⟨S,hS⟩:∃ S,decS (val l)=S:=⟨_,rfl⟩;obtain ⟨T,hT⟩:∃ T,decS (val l2)=T:=⟨_,rfl⟩;simp only [hS] at z1 hput ⊢;have HCK:=hiD hck;have HP1:=hiD hput;have HP2:=hiD hput2;have HO:=hiD hone;clear hck hput hput2 hone hk hS hT ho hres z1 z2;clear hd
 go_enter Tryz.func69,Tryz.ntmps69
 have hB:=bRf w.heap.size w
 go_wp2_with fail
 obtain ⟨w1,hW,hz0,hb,q,f,qp0,qp1,qp2⟩:=bx3 w (w.heap.size) (by omega) (.bool false) (.slice a n c) (.slice a2 n2 c2) 28;rw [hW];clear hW;have g1:=g1.past hb;have g2:=g2.past hb;have hB:=bLt hB hb;clear hb;have lp:w.heap.size<w1.heap.size:=by omega
 clear q f;clear hz0
 with_reducible refine (HCK.out _ g1 g2).mono ?_
 rintro e w2 ⟨rfl,hb⟩;have g1:=g1.past hb;have g2:=g2.past hb;obtain ⟨qp0,qp1,qp2,lp⟩:=bq3 hb lp qp0 qp1 qp2;have hB:=bLt hB hb;clear hb
 go_wp2_with fail
 with_reducible refine (HP1.out _ g1).mono ?_
 rintro e w3 ⟨rfl,hb⟩;have g2:=g2.past hb;obtain ⟨qp0,qp1,qp2,lp⟩:=bq3 hb lp qp0 qp1 qp2;have hB:=bLt hB hb;clear hb
 go_wp2_with fail
 with_reducible refine (HO.out _ g2).mono ?_
 rintro e w' ⟨rfl,rfl⟩
 go_wp2
 go_ret2
 exact ⟨rfl,hB⟩
theorem text_false_big (a:Option Addr) (n c:Nat) (l:List Nat) (a2:Option Addr) (n2 c2:Nat) (l2:List Nat) (w:World) (g1:NatAt w a n c l) (g2:NatAt w a2 n2 c2 l2) (hs:n≤1073741824) (hs2:n2≤1073741824) (hk:chkR false l l2=0) (hd:¬ val l2<18446744073709551616) :
 Calls Tryz.prog 69 #[.agg #[.bool false,.slice a n c,.slice a2 n2 c2]] w (RetVal w (.tuple #[.string (textB false (val l) (val l2)),.int .i64 0])):=by
 have hck:=fun w (g1:NatAt w a n c l) (g2:NatAt w a2 n2 c2 l2)=>check05_any false a n c l a2 n2 c2 l2 w g1 g2 (by omega) (by omega)
 simp only [hk] at hck;have z1:=decS_limbs g1.dig (by rw [g1.len];exact hs);have z2:=decS_limbs g2.dig (by rw [g2.len];exact hs2);have hput:=fun w (g1:NatAt w a n c l)=>put_any a n c l w g1 hs
 have hput2:=fun w (g2:NatAt w a2 n2 c2 l2)=>put_any a2 n2 c2 l2 w g2 hs2
 have hone:=fun w (g2:NatAt w a2 n2 c2 l2)=>one_any a2 n2 c2 l2 w g2
 have hres:=textB_pos (u:=val l) (d:=val l2) (by omega);have ho:=oneN_no (v:=val l2) hd;simp only [ho.1,ho.2] at hone;rw [hres];obtain ⟨S,hS⟩:∃ S,decS (val l)=S:=⟨_,rfl⟩;obtain ⟨T,hT⟩:∃ T,decS (val l2)=T:=⟨_,rfl⟩;simp only [hS,hT] at z1 z2 hput hput2 ⊢;have y2:(⟨#[47]⟩:ByteArray).size+T.size≤9223372036854775807:=by rw [show (⟨#[47]⟩:ByteArray).size=1 from rfl];omega
 have y3:(S).size+((⟨#[47]⟩:ByteArray) ++ T).size≤9223372036854775807:=by simp only [ByteArray.size_append,show (⟨#[47]⟩:ByteArray).size=1 from rfl,show (⟨#[45]⟩:ByteArray).size=1 from rfl];omega
 have HCK:=hiD hck;have HP1:=hiD hput;have HP2:=hiD hput2;have HO:=hiD hone;clear hck hput hput2 hone hk hS hT ho hres z1 z2;clear hd
 go_enter Tryz.func69,Tryz.ntmps69
 have hB:=bRf w.heap.size w
 go_wp2_with fail
 obtain ⟨w1,hW,hz0,hb,q,f,qp0,qp1,qp2⟩:=bx3 w (w.heap.size) (by omega) (.bool false) (.slice a n c) (.slice a2 n2 c2) 28;rw [hW];clear hW;have g1:=g1.past hb;have g2:=g2.past hb;have hB:=bLt hB hb;clear hb;have lp:w.heap.size<w1.heap.size:=by omega
 clear q f;clear hz0
 with_reducible refine (HCK.out _ g1 g2).mono ?_
 rintro e w2 ⟨rfl,hb⟩;have g1:=g1.past hb;have g2:=g2.past hb;obtain ⟨qp0,qp1,qp2,lp⟩:=bq3 hb lp qp0 qp1 qp2;have hB:=bLt hB hb;clear hb
 go_wp2_with fail
 with_reducible refine (HP1.out _ g1).mono ?_
 rintro e w3 ⟨rfl,hb⟩;have g2:=g2.past hb;obtain ⟨qp0,qp1,qp2,lp⟩:=bq3 hb lp qp0 qp1 qp2;have hB:=bLt hB hb;clear hb
 go_wp2_with fail
 with_reducible refine (HO.out _ g2).mono ?_
 rintro e w' ⟨rfl,rfl⟩
 go_wp2_with fail
 with_reducible refine (HP2.out _ g2).mono ?_
 rintro e w4 ⟨rfl,hb⟩;obtain ⟨qp0,qp1,qp2,lp⟩:=bq3 hb lp qp0 qp1 qp2;have hB:=bLt hB hb;clear hb
 go_wp2
 go_ret2
 exact ⟨rfl,hB⟩
theorem text_false_other (a:Option Addr) (n c:Nat) (l:List Nat) (a2:Option Addr) (n2 c2:Nat) (l2:List Nat) (w:World) (g1:NatAt w a n c l) (g2:NatAt w a2 n2 c2 l2) (hs:n≤1073741824) (hs2:n2≤1073741824) (hk:chkR false l l2=0) (hd:val l2<18446744073709551616) (hd1:val l2≠1) :
 Calls Tryz.prog 69 #[.agg #[.bool false,.slice a n c,.slice a2 n2 c2]] w (RetVal w (.tuple #[.string (textB false (val l) (val l2)),.int .i64 0])):=by
 have hck:=fun w (g1:NatAt w a n c l) (g2:NatAt w a2 n2 c2 l2)=>check05_any false a n c l a2 n2 c2 l2 w g1 g2 (by omega) (by omega)
 simp only [hk] at hck;have z1:=decS_limbs g1.dig (by rw [g1.len];exact hs);have z2:=decS_limbs g2.dig (by rw [g2.len];exact hs2);have hput:=fun w (g1:NatAt w a n c l)=>put_any a n c l w g1 hs
 have hput2:=fun w (g2:NatAt w a2 n2 c2 l2)=>put_any a2 n2 c2 l2 w g2 hs2
 have hone:=fun w (g2:NatAt w a2 n2 c2 l2)=>one_any a2 n2 c2 l2 w g2
 have hres:=textB_pos (u:=val l) (d:=val l2) hd1;have ho:=oneN_yes (v:=val l2) hd;simp only [ho.1,ho.2] at hone;rw [hres];obtain ⟨S,hS⟩:∃ S,decS (val l)=S:=⟨_,rfl⟩;obtain ⟨T,hT⟩:∃ T,decS (val l2)=T:=⟨_,rfl⟩;simp only [hS,hT] at z1 z2 hput hput2 ⊢;obtain ⟨X,hX⟩:∃ X,val l2=X:=⟨_,rfl⟩;rw [hX] at hd1;simp only [hX] at hone;have t4:((X:Int) != 1)=true:=bne_iff_ne.2 (by omega);have y2:(⟨#[47]⟩:ByteArray).size+T.size≤9223372036854775807:=by rw [show (⟨#[47]⟩:ByteArray).size=1 from rfl];omega
 have y3:(S).size+((⟨#[47]⟩:ByteArray) ++ T).size≤9223372036854775807:=by simp only [ByteArray.size_append,show (⟨#[47]⟩:ByteArray).size=1 from rfl,show (⟨#[45]⟩:ByteArray).size=1 from rfl];omega
 have HCK:=hiD hck;have HP1:=hiD hput;have HP2:=hiD hput2;have HO:=hiD hone;clear hck hput hput2 hone hk hS hT ho hres z1 z2;clear hX hd hd1
 go_enter Tryz.func69,Tryz.ntmps69
 have hB:=bRf w.heap.size w
 go_wp2_with fail
 obtain ⟨w1,hW,hz0,hb,q,f,qp0,qp1,qp2⟩:=bx3 w (w.heap.size) (by omega) (.bool false) (.slice a n c) (.slice a2 n2 c2) 28;rw [hW];clear hW;have g1:=g1.past hb;have g2:=g2.past hb;have hB:=bLt hB hb;clear hb;have lp:w.heap.size<w1.heap.size:=by omega
 clear q f;clear hz0
 with_reducible refine (HCK.out _ g1 g2).mono ?_
 rintro e w2 ⟨rfl,hb⟩;have g1:=g1.past hb;have g2:=g2.past hb;obtain ⟨qp0,qp1,qp2,lp⟩:=bq3 hb lp qp0 qp1 qp2;have hB:=bLt hB hb;clear hb
 go_wp2_with fail
 with_reducible refine (HP1.out _ g1).mono ?_
 rintro e w3 ⟨rfl,hb⟩;have g2:=g2.past hb;obtain ⟨qp0,qp1,qp2,lp⟩:=bq3 hb lp qp0 qp1 qp2;have hB:=bLt hB hb;clear hb
 go_wp2_with fail
 with_reducible refine (HO.out _ g2).mono ?_
 rintro e w' ⟨rfl,rfl⟩
 go_wp2_with fail
 with_reducible refine (HP2.out _ g2).mono ?_
 rintro e w4 ⟨rfl,hb⟩;obtain ⟨qp0,qp1,qp2,lp⟩:=bq3 hb lp qp0 qp1 qp2;have hB:=bLt hB hb;clear hb
 go_wp2
 go_ret2
 exact ⟨rfl,hB⟩
theorem text_any (b:Bool) (a:Option Addr) (n c:Nat) (l:List Nat) (a2:Option Addr) (n2 c2:Nat) (l2:List Nat) (w:World) (g1:NatAt w a n c l) (g2:NatAt w a2 n2 c2 l2) (hs:n≤1073741824) (hs2:n2≤1073741824) :
 Calls Tryz.prog 69 #[.agg #[.bool b,.slice a n c,.slice a2 n2 c2]] w (RetVal w (.tuple #[.string (textE b l l2),.int .i64 (chkR b l l2)])):=by
 by_cases hk:chkR b l l2=0
 · have e:textE b l l2=textB b (val l) (val l2):=if_pos hk;rw [e,hk];cases b
   · by_cases h1:val l2=1
     · exact text_false_one _ _ _ _ _ _ _ _ w g1 g2 hs hs2 hk h1
     by_cases h2:val l2<18446744073709551616
     · exact text_false_other _ _ _ _ _ _ _ _ w g1 g2 hs hs2 hk h2 h1
     exact text_false_big _ _ _ _ _ _ _ _ w g1 g2 hs hs2 hk h2
   by_cases h1:val l2=1
   · exact text_true_one _ _ _ _ _ _ _ _ w g1 g2 hs hs2 hk h1
   by_cases h2:val l2<18446744073709551616
   · exact text_true_other _ _ _ _ _ _ _ _ w g1 g2 hs hs2 hk h2 h1
   exact text_true_big _ _ _ _ _ _ _ _ w g1 g2 hs hs2 hk h2
 have e:textE b l l2=⟨#[]⟩:=if_neg hk;rw [e,chkR_no hk];exact text_no b _ _ _ _ _ _ _ _ w g1 g2 hs hs2 hk
end Go.Proofs.YtkhcblihbalnbaaGreatDoor
