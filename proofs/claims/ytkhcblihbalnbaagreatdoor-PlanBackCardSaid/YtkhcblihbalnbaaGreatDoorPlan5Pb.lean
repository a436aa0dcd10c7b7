import Derived.Test.YtkhcblihbalnbaaGreatDoorOct3Pb
import Derived.Test.YtkhcblihbalnbaaGreatDoorPlan3Pb
import Derived.Test.YtkhcblihbalnbaaGreatDoorDigits4Pb
set_option linter.unusedVariables false
set_option linter.unusedSimpArgs false
set_option maxHeartbeats 16000000
set_option maxRecDepth 100000
namespace Go.Proofs.YtkhcblihbalnbaaGreatDoor
section
open Go.RowKit
def layL:List (Nat×Nat)→List Nat
 | []=>[]
 | (a,n)::r=>beL n a ++ layL r
def layN (fs:List (Nat×Nat)) (i:Nat):List Nat:=layL (fs.take i)
theorem layL_append:∀ (x y:List (Nat×Nat)),layL (x ++ y)=layL x ++ layL y
 | [],y=>rfl
 | (a,n)::r,y=>by rw [List.cons_append,layL,layL,layL_append r y,List.append_assoc]
theorem layN_succ (fs:List (Nat×Nat)) (i:Nat) (h:i<fs.length):layN fs (i+1)=layN fs i ++ beL (fs[i]).2 (fs[i]).1:=by
 unfold layN;rw [List.take_succ_eq_append_getElem h,layL_append];simp [layL]
structure FldAt (w:World) (g:Nat) (fs:List (Nat×Nat)):Prop where
 cell:∀ i (h:i<fs.length),w.cell? ⟨g,i*2,none⟩=some (.int .i64 ((fs[i]).1:Int))∧w.cell? ⟨g,i*2+1,none⟩=some (.int .i64 ((fs[i]).2:Int))
 ty:∀ cur,w.heap[g]? ≠ some (.cells cur 5 (0,0))
 lt:g<w.heap.size
theorem FldAt.kept {w w':World} {B b g:Nat} {fs:List (Nat×Nat)} (h:FldAt w g fs) (hk:WrK B b w w') (hg:g≠b):FldAt w' g fs:=by
 have e:=hk.blk g h.lt hg h.ty;refine ⟨fun i hi => ?_,fun cur=>by rw [e];exact h.ty cur,nLt h.lt hk.bw.size⟩;obtain ⟨h1,h2⟩:=h.cell i hi;exact ⟨(World.cell?_of_block (w:=w) (a:=⟨g,i*2,none⟩) e).trans h1,(World.cell?_of_block (w:=w) (a:=⟨g,i*2+1,none⟩) e).trans h2⟩
def fitF (fs:List (Nat×Nat)):Prop:=∀ f ∈ fs,(f.1=2∨f.1=4)∧f.2<256 ^ f.1
theorem layN_len (fs:List (Nat×Nat)) (h:fitF fs):∀ i,(layN fs i).length≤4*i:=by
 intro i
 induction i with
 | zero=>simp [layN,layL]
 | succ i ih =>
   by_cases hi:i<fs.length
   · rw [layN_succ fs i hi,List.length_append,beL_len];have:=(h fs[i] (List.getElem_mem hi)).1;omega
   unfold layN at ih ⊢;rw [List.take_of_length_le (by omega)] at ih ⊢;omega
theorem lay27_any (B b g m:Nat) (l:List Nat) (fs:List (Nat×Nat)) (w:World) (h:WrAt w B b l) (hf:FldAt w g fs) (hg:g≠b) (hm:fs.length=m) (hm9:m≤1000) (hfit:fitF fs) (hl:l.length+4*m≤100000) :
 Calls Tryz.prog 38 #[.pointer (some ⟨b,0,none⟩),.slice (some ⟨g,0,none⟩) m m] w fun e w'=>e = .returned (.tuple #[])∧WrAt w' B b (l ++ layL fs)∧WrK B b w w':=by
 have HH:=hiD h;have HF:=hiD hf;have HM:=hiD hm;clear h hf hm
 go_enter Tryz.func38,Tryz.ntmps38
 go_wp2
 go_loopw [5,8] (fun s5 s8 wr=>∃ i:Nat,i≤m∧s8 = .int .i64 (i:Int)∧WrAt wr B b (l ++ layN fs i)∧WrK B b w wr) (fun _ s8 _=>m-(intOf s8).toNat)
 case atStart=>exact ⟨0,Nat.zero_le _,rfl,by simpa [layN,layL] using HH.out,.refl _ _ _⟩
 case round =>
  obtain ⟨i,hi,rfl,hW,hK⟩:=hrel
  by_cases hlt:i<m
  · have hFr:=HF.out.kept hK hg;have hif:i<fs.length:=by have:=HM.out;omega
    obtain ⟨c0,c1⟩:=hFr.cell i hif;have hft:=hfit fs[i] (List.getElem_mem hif);have hsucc:=layN_succ fs i hif;have hln:=layN_len fs hfit i;obtain ⟨wd,hwd⟩:∃ wd,(fs[i]).1=wd:=⟨_,rfl⟩;obtain ⟨nn,hnn⟩:∃ nn,(fs[i]).2=nn:=⟨_,rfl⟩;rw [hwd] at c0 hft hsucc;rw [hnn] at c1 hft hsucc;have hB:B≤wr.heap.size:=nTr hW.le (nOf hW.lt);have HW:=hiD hW;have HK:=hiD hK;have HS:=hiD hsucc;have hll:(l ++ layN fs i).length+wd≤100000:=by rw [List.length_append];omega
    have HL:=hiD hll;clear hW hK hwd hnn hFr hsucc hll hln
    go_wp2_with fail
    obtain ⟨w1,hW1,y1,hb1,r1,f1⟩:=box1g wr wr.heap.size rfl #[.int .i64 (wd:Int),.int .i64 (nn:Int)] 77;rw [hW1];have p0:w1.cell? ⟨wr.heap.size,0,none⟩=some (.int .i64 (wd:Int)):=r1 0;have p1:w1.cell? ⟨wr.heap.size,1,none⟩=some (.int .i64 (nn:Int)):=r1 1;have HB1:=hiD hb1;clear hW1 r1 f1 y1 hb1
    go_wp2_with fail
    refine (wput_any B b _ wd nn w1 (HW.out.past HB1.out) hft.1 hft.2 HL.out).mono ?_;rintro e w2 ⟨rfl,h2,hk2⟩;have hk9:=(HK.out.trans (WrK.past hB HB1.out)).trans hk2;have H2:=hiD h2;have HK9:=hiD hk9;clear h2 hk2 hk9
    go_wp2
    exact ⟨⟨i+1,hlt,by go_num,by rw [HS.out,← List.append_assoc];exact H2.out,HK9.out⟩,by simp [intOf];omega⟩
  obtain rfl:i=m:=by omega
  go_wp2
  go_end0
  refine ⟨rfl,?_,hK⟩;have e:layN fs i=layL fs:=by unfold layN;rw [List.take_of_length_le (by have:=HM.out;omega)]
  rw [← e];exact hW
end
section
open Go.RowKit
theorem fld_ty {w W:World} {A:Array Value} (hW:w.alloc (.cells A 77)=W):(∀ cur,W.heap[w.heap.size]? ≠ some (.cells cur 5 (0,0)))∧w.heap.size<W.heap.size:=by
 have hh:W.heap[w.heap.size]? = some (.cells A 77):=by rw [← hW];exact World.alloc_heap_new w _
 exact ⟨fun cur e=>by rw [hh] at e;exact absurd (Obj.cells.inj (Option.some.inj e)).2.1 (by decide),(Array.getElem?_eq_some_iff.1 hh).1⟩
theorem FldAt.one {w W:World} {x y:Int} {a n:Nat} (hx:x=a) (hy:y=n) (hW:w.alloc (.cells #[.int .i64 x,.int .i64 y] 77)=W):FldAt W w.heap.size [(a,n)]:=by
 obtain ⟨h1,h2⟩:=fld_ty hW;refine ⟨fun i hi => ?_,h1,h2⟩;obtain rfl:i=0:=by simpa using hi
 subst hx hy;rw [← hW];exact ⟨World.cell?_alloc_at _ _ _ _ rfl,World.cell?_alloc_at _ _ _ _ rfl⟩
theorem FldAt.two {w W:World} {x y z u:Int} {a n c m:Nat} (hx:x=a) (hy:y=n) (hz:z=c) (hu:u=m) (hW:w.alloc (.cells #[.int .i64 x,.int .i64 y,.int .i64 z,.int .i64 u] 77)=W):FldAt W w.heap.size [(a,n),(c,m)]:=by
 obtain ⟨h1,h2⟩:=fld_ty hW;refine ⟨fun i hi => ?_,h1,h2⟩;subst hx hy hz hu;rw [← hW];have hi:i<2:=hi;rcases (by omega:i=0∨i=1) with rfl | rfl
 · exact ⟨World.cell?_alloc_at _ _ _ _ rfl,World.cell?_alloc_at _ _ _ _ rfl⟩
 exact ⟨World.cell?_alloc_at _ _ _ _ rfl,World.cell?_alloc_at _ _ _ _ rfl⟩
def tbyL (zs:List Int) (i:Nat):List Nat:=(zs.take i).flatMap fun z=>beL z.toNat 4
theorem tbyL_succ (zs:List Int) (i:Nat) (h:i<zs.length):tbyL zs (i+1)=tbyL zs i ++ beL (zs.getD i 0).toNat 4:=by
 unfold tbyL;rw [List.take_succ_eq_append_getElem h,List.flatMap_append,List.getD_eq_getElem?_getD,List.getElem?_eq_getElem h];simp
theorem tbyL_len (zs:List Int):∀ i,i≤zs.length→(tbyL zs i).length=4*i
 | 0,_=>by simp [tbyL]
 | i+1,h=>by rw [tbyL_succ zs i h,List.length_append,tbyL_len zs i (by omega),beL_len];omega
def ratL (q:Rat):List Nat:=beL (textQ q).size 2 ++ nums (textQ q).data.toList
def rl2 (p q:Rat) (i:Nat):List Nat:=if i=0 then [] else if i=1 then ratL p else ratL p ++ ratL q
def putL (k:Nat) (zs:List Int) (N:Nat) (eps F:Rat):List Nat:=beL k 2 ++ beL zs.length 2 ++ tbyL zs zs.length ++ beL N 2 ++ ratL eps ++ ratL F
theorem put27_any (k N:Nat) (zs:List Int) (eps F:Rat) (aT:Option Addr) (nT cT:Nat) (a1:Option Addr) (n1 c1:Nat) (a2:Option Addr) (n2 c2:Nat) (a3:Option Addr) (n3 c3:Nat) (a4:Option Addr) (n4 c4:Nat) (w:World) (g:IntsAt w aT nT cT zs) (d1:NatAt w a1 n1 c1 (digs eps.num.natAbs)) (d2:NatAt w a2 n2 c2 (digs eps.den)) (d3:NatAt w a3 n3 c3 (digs F.num.natAbs)) (d4:NatAt w a4 n4 c4 (digs F.den))
 (hok:okT zs (k:Int)) (hk:k≤1024) (hN:N≤4096) (h1:rlen eps≤200) (h2:rlen F≤200) :
 Calls Tryz.prog 8 #[.agg #[.int .i64 (k:Int),.slice aT nT cT,.bool (neg eps.num),.slice a1 n1 c1,.slice a2 n2 c2,.int .i64 (N:Int),.bool (neg F.num),.slice a3 n3 c3,.slice a4 n4 c4]] w (fun e w'=>∃ a n c,e = .returned (.tuple #[.slice a n c,.int .i64 0])∧BytesAt w' a n c (putL k zs N eps F)∧Below w.heap.size w w'):=by
 have HKP:=hiD (fun (w:World) (g:IntsAt w aT nT cT zs) (d1:NatAt w a1 n1 c1 (digs eps.num.natAbs)) (d2:NatAt w a2 n2 c2 (digs eps.den)) (d3:NatAt w a3 n3 c3 (digs F.num.natAbs)) (d4:NatAt w a4 n4 c4 (digs F.den))=>kept_yes k N zs eps F _ _ _ _ _ _ _ _ _ _ _ _ _ _ _ w g d1 d2 d3 d4 hok hk hN h1 h2);have hlen:=g.len;have hlk:nT≤1024:=by have:=hok.2.2.2.1;omega
 have HZ:=hiD hok.2.2.2.2.1;have HR1:=hiD h1;have HR2:=hiD h2;have hs1:=textQ_size h1;have hs2:=textQ_size h2;have G0:=hiD g;have D1:=hiD d1;have D2:=hiD d2;have D3:=hiD d3;have D4:=hiD d4;clear hok h1 h2 g d1 d2 d3 d4
 go_enter Tryz.func8,Tryz.ntmps8
 go_wp2_with fail
 obtain ⟨u1,hW1,y1,hb1,r1,f1⟩:=box1g w w.heap.size rfl #[.int .i64 (k:Int),.slice aT nT cT,.bool (neg eps.num),.slice a1 n1 c1,.slice a2 n2 c2,.int .i64 (N:Int),.bool (neg F.num),.slice a3 n3 c3,.slice a4 n4 c4] 30;rw [hW1];obtain ⟨q0,q1,q2,q3,q4,q5,q6,q7,q8⟩:=(⟨r1 0,r1 1,r1 2,r1 3,r1 4,r1 5,r1 6,r1 7,r1 8⟩:_∧_∧_∧_∧_∧_∧_∧_∧_);simp only [lgA,lgZ,lgS] at q0 q1 q2 q3 q4 q5 q6 q7 q8;have HB1:=hiD hb1;clear hW1 r1 f1 hb1
 go_wp2_with fail
 refine (HKP.out u1 (G0.out.past HB1.out) (D1.out.past HB1.out) (D2.out.past HB1.out) (D3.out.past HB1.out) (D4.out.past HB1.out)).mono ?_;rintro e V ⟨rfl,hb2⟩;have hbV:=bLt HB1.out hb2;have hSV:w.heap.size<V.heap.size:=by have:=hb2.size;omega
 have q0:=bq hb2 (by omega) q0;have q1:=bq hb2 (by omega) q1;have q2:=bq hb2 (by omega) q2;have q3:=bq hb2 (by omega) q3;have q4:=bq hb2 (by omega) q4;have q5:=bq hb2 (by omega) q5;have q6:=bq hb2 (by omega) q6;have q7:=bq hb2 (by omega) q7;have q8:=bq hb2 (by omega) q8;have HBV:=hiD hbV;obtain ⟨S,hS⟩:∃ S,w.heap.size=S:=⟨_,rfl⟩;rw [hS] at hSV q0 q1 q2 q3 q4 q5 q6 q7 q8 ⊢;have HS:=hiD hS;have HGV:=hiD (G0.out.past hbV);have HD1:=hiD (D1.out.past hbV);have HD2:=hiD (D2.out.past hbV);have HD3:=hiD (D3.out.past hbV);have HD4:=hiD (D4.out.past hbV);clear hb2 hbV hS y1;have HQ:=hiD (⟨q0,q1,q2,q3,q4,q5,q6,q7,q8⟩:_∧_∧_∧_∧_∧_∧_∧_∧_)
 go_wp2_with fail
 refine (newWriter_any V).mono ?_;rintro e W3 ⟨b,rfl,hWr,hb3⟩;obtain ⟨B,hBe⟩:∃ B,V.heap.size=B:=⟨_,rfl⟩;rw [hBe] at hWr hb3 hSV;have hbB:=hWr.le;have hK:WrK B b V W3:=⟨hb3,fun i hi _ _=>hb3.block i (by omega)⟩;have HBE:=hiD hBe;clear hb3 hBe q0 q1 q2 q3 q4 q5 q6 q7 q8;have q0:=(hK.bw.cell (p:=⟨S,0,none⟩) hSV).trans HQ.out.1;have q1:=(hK.bw.cell (p:=⟨S,1,none⟩) hSV).trans HQ.out.2.1;have HWr:=hiD hWr;have HK:=hiD hK;have hBW:B≤W3.heap.size:=by have:=hWr.lt;omega
 have hbW:=hWr.lt;clear hWr hK
 go_wp2_with fail
 obtain ⟨XW4,hX,yX,hbX,rX,fX⟩:=box1g W3 W3.heap.size rfl #[.int .i64 2,.int .i64 (k:Int),.int .i64 2,.int .i64 (nT:Int)] 77;rw [hX];refine (lay27_any B b W3.heap.size 2 ([]) [(2,k),(2,nT)] XW4 (HWr.out.past hbX) (FldAt.two rfl rfl rfl rfl hX) (by omega) rfl (by decide) (by intro f hf;simp at hf;rcases hf with rfl | rfl<;>refine ⟨by simp,?_⟩<;>simp<;>omega) (by first | (simp [tbyL_len,beL_len,nums_len,ratL,size_list];done) | (simp [tbyL_len,beL_len,nums_len,ratL,size_list];omega))).mono ?_
 rintro e W4 ⟨rfl,hWr,hK2⟩;have hK:=(HK.out.trans (WrK.past hBW hbX)).trans hK2;clear hX yX hbX rX fX hK2 hBW hbW HWr HK q0 q1;have e4:[] ++ layL [(2,k),(2,nT)]=beL k 2 ++ beL zs.length 2 ++ tbyL zs 0:=by simp [layL,tbyL,hlen]
 rw [e4] at hWr;clear e4;have q1:=(hK.bw.cell (p:=⟨S,1,none⟩) hSV).trans HQ.out.2.1;have HWr:=hiD hWr;have HK:=hiD hK;clear hWr hK
 go_wp2
 clear q1
 go_loopw [7,32] (fun s7 s32 wr=>∃ i:Nat,i≤nT∧s32 = .int .i64 (i:Int)∧WrAt wr B b (beL k 2 ++ beL zs.length 2 ++ tbyL zs i)∧WrK B b V wr) (fun _ s32 _=>nT-(intOf s32).toNat)
 case atStart=>exact ⟨0,Nat.zero_le _,rfl,HWr.out,HK.out⟩
 case round =>
  obtain ⟨i,hi,rfl,hWr,hK⟩:=hrel
  by_cases hlt:i<nT
  · have gr:=HGV.out.past (by rw [HBE.out];exact hK.bw);rcases gr.cell with h' | ⟨bt,ot,rfl,_,hct⟩
    · omega
    have ct:=hct i hlt;obtain ⟨z,hz⟩:∃ z,zs.getD i 0=z:=⟨_,rfl⟩
    have hzr:0≤z∧z≤16777215:=by
     have h:=HZ.out (zs[i]'(by omega)) (List.getElem_mem _);rw [← hz,List.getD_eq_getElem?_getD,List.getElem?_eq_getElem (by omega)];exact h
    have hsucc:=tbyL_succ zs i (by omega);rw [hz] at ct hsucc;obtain ⟨x,rfl⟩:=Int.eq_ofNat_of_zero_le hzr.1;have HSU:=hiD hsucc;have htl:=tbyL_len zs i (by omega);clear gr hct hz hsucc;have HWr:=hiD hWr;have HK:=hiD hK;have hBW:B≤wr.heap.size:=by have:=hWr.lt;omega
    have hbW:=hWr.lt;clear hWr hK
    go_wp2_with fail
    obtain ⟨XW5,hX,yX,hbX,rX,fX⟩:=box1g wr wr.heap.size rfl #[.int .i64 4,.int .i64 (x:Int)] 77;rw [hX];refine (lay27_any B b wr.heap.size 1 (beL k 2 ++ beL zs.length 2 ++ tbyL zs i) [(4,x)] XW5 (HWr.out.past hbX) (FldAt.one rfl rfl hX) (by omega) rfl (by decide) (by intro f hf;simp at hf;subst hf;refine ⟨by simp,?_⟩;simp;omega) (by first | (simp [tbyL_len,beL_len,nums_len,ratL,size_list];done) | (simp [tbyL_len,beL_len,nums_len,ratL,size_list];omega))).mono ?_
    rintro e W5 ⟨rfl,hWr,hK2⟩;have hK:=(HK.out.trans (WrK.past hBW hbX)).trans hK2;clear hX yX hbX rX fX hK2 hBW hbW HWr HK ;have e5:beL k 2 ++ beL zs.length 2 ++ tbyL zs i ++ layL [(4,x)]=beL k 2 ++ beL zs.length 2 ++ tbyL zs (i+1):=by rw [HSU.out];simp [layL]
    rw [e5] at hWr;have HWr:=hiD hWr;have HK:=hiD hK;clear hWr hK e5
    go_wp2
    exact ⟨⟨i+1,hlt,by go_num,HWr.out,HK.out⟩,by simp [intOf];omega⟩
  obtain rfl:i=nT:=by omega
  clear HWr HK;have htl:=tbyL_len zs i (by omega);have q5:=(hK.bw.cell (p:=⟨S,5,none⟩) hSV).trans HQ.out.2.2.2.2.2.1;have HWr:=hiD hWr;have HK:=hiD hK;have hBW:B≤wr.heap.size:=by have:=hWr.lt;omega
  have hbW:=hWr.lt;clear hWr hK
  go_wp2_with fail
  go_wp2_with fail
  obtain ⟨XW6,hX,yX,hbX,rX,fX⟩:=box1g wr wr.heap.size rfl #[.int .i64 2,.int .i64 (N:Int)] 77;rw [hX];refine (lay27_any B b wr.heap.size 1 (beL k 2 ++ beL zs.length 2 ++ tbyL zs i) [(2,N)] XW6 (HWr.out.past hbX) (FldAt.one rfl rfl hX) (by omega) rfl (by decide) (by intro f hf;simp at hf;subst hf;refine ⟨by simp,?_⟩;simp;omega) (by first | (simp [tbyL_len,beL_len,nums_len,ratL,size_list];done) | (simp [tbyL_len,beL_len,nums_len,ratL,size_list];omega))).mono ?_
  rintro e W6 ⟨rfl,hWr,hK2⟩;have hK:=(HK.out.trans (WrK.past hBW hbX)).trans hK2;clear hX yX hbX rX fX hK2 hBW hbW HWr HK q5;obtain ⟨BL,hBL⟩:∃ BL,beL k 2 ++ beL zs.length 2 ++ tbyL zs i ++ layL [(2,N)]=BL:=⟨_,rfl⟩;have hBLl:BL.length=6+4*i:=by rw [← hBL];simp [layL,beL_len,htl];omega
  rw [hBL] at hWr;have HBL:=hiD hBL;clear hBL;have q2:=(hK.bw.cell (p:=⟨S,2,none⟩) hSV).trans HQ.out.2.2.1;have q3:=(hK.bw.cell (p:=⟨S,3,none⟩) hSV).trans HQ.out.2.2.2.1;have q4:=(hK.bw.cell (p:=⟨S,4,none⟩) hSV).trans HQ.out.2.2.2.2.1;have q6:=(hK.bw.cell (p:=⟨S,6,none⟩) hSV).trans HQ.out.2.2.2.2.2.2.1;have q7:=(hK.bw.cell (p:=⟨S,7,none⟩) hSV).trans HQ.out.2.2.2.2.2.2.2.1;have q8:=(hK.bw.cell (p:=⟨S,8,none⟩) hSV).trans HQ.out.2.2.2.2.2.2.2.2;have HWr:=hiD hWr;have HK:=hiD hK;have hBW:B≤W6.heap.size:=by have:=hWr.lt;omega
  have hbW:=hWr.lt;clear hWr hK
  go_wp2_with fail
  obtain ⟨X7,hX,yX,hbX,rX,fX⟩:=box1g W6 W6.heap.size rfl #[.bool (neg eps.num),.slice a1 n1 c1,.slice a2 n2 c2,.bool (neg F.num),.slice a3 n3 c3,.slice a4 n4 c4] 28;rw [hX]
  have hT:∀ cur,X7.heap[W6.heap.size]? ≠ some (.cells cur 5 (0,0)):=fun cur e=>by
   have hh:X7.heap[W6.heap.size]? = some (.cells #[.bool (neg eps.num),.slice a1 n1 c1,.slice a2 n2 c2,.bool (neg F.num),.slice a3 n3 c3,.slice a4 n4 c4] 28):=by rw [← hX];exact World.alloc_heap_new _ _
   rw [hh] at e;exact absurd (Obj.cells.inj (Option.some.inj e)).2.1 (by decide)
  have hWr:=HWr.out.past hbX;have hK7:=HK.out.trans (WrK.past hBW hbX);obtain ⟨T,hTe⟩:∃ T,W6.heap.size=T:=⟨_,rfl⟩;rw [hTe] at hT rX hbW ⊢;have hTb:T≠b:=by omega
  have z0:=rX 0;have z1:=rX 1;have z2:=rX 2;have z3:=rX 3;have z4:=rX 4;have z5:=rX 5;simp only [lgA,lgZ,lgS] at z0 z1 z2 z3 z4 z5;have HZZ:=hiD (⟨z0,z1,z2,z3,z4,z5⟩:_∧_∧_∧_∧_∧_);have HT:=hiD hT;have HK7:=hiD hK7;have hX7:B≤X7.heap.size:=nTr (by omega) hbX.size;clear hX rX fX hbX HWr HK hT hK7 hTe yX z0 z1 z2 z3 z4 z5 q2 q3 q4 q6 q7 q8
  go_wp2
  go_loopw [9,10,11,54] (fun s9 s10 s11 s54 wr2=>∃ j:Nat,j≤2∧s54 = .int .i64 (j:Int)∧WrAt wr2 B b (BL ++ rl2 eps F j)∧WrK B b X7 wr2) (fun _ _ _ s54 _=>2-(intOf s54).toNat)
  case atStart=>exact ⟨0,by decide,rfl,by simpa [rl2] using hWr,.refl _ _ _⟩
  case round =>
   clear hWr;obtain ⟨j,hj,rfl,hWr,hK⟩:=hrel;have hKV:=HK7.out.trans hK;have hVr:Below V.heap.size V wr:=by rw [HBE.out];exact hKV.bw
   rcases (by omega:j=0∨j=1∨j=2) with rfl | rfl | rfl
   · have z0:=hK.stay HZZ.out.1 hTb HT.out;have z1:=hK.stay HZZ.out.2.1 hTb HT.out;have z2:=hK.stay HZZ.out.2.2.1 hTb HT.out;obtain ⟨TS,hTS⟩:∃ TS,textQ eps=TS:=⟨_,rfl⟩;have hts:=hs1;rw [hTS] at hts;have HTS:=hiD hTS;have d5:=HD1.out.past hVr;have d6:=HD2.out.past hVr;have HWr:=hiD hWr;have HK:=hiD hK;have E5:=hiD d5;have E6:=hiD d6;have hBW:B≤wr.heap.size:=by have:=hWr.lt;omega
     have hbW:=hWr.lt
     have hrl:(BL ++ rl2 eps F 0).length≤20000:=by
      rw [List.length_append];have h5:(ratL eps).length=2+(textQ eps).size:=by simp [ratL,beL_len,nums_len,size_list]
      simp [rl2];omega
     clear hWr hK d5 d6 hTS hVr hKV
     go_wp2_with fail
     obtain ⟨u1,hU,yU,hbU,rU,fU⟩:=box1g wr wr.heap.size rfl #[.bool (neg eps.num),.slice a1 n1 c1,.slice a2 n2 c2] 28;rw [hU];have p0:=rU 0;have p1:=rU 1;have p2:=rU 2;simp only [lgA,lgZ,lgS] at p0 p1 p2;have HBU:=hiD hbU;have F5:=hiD (E5.out.past hbU);have F6:=hiD (E6.out.past hbU);clear hU rU fU hbU yU
     go_wp2_with fail
     refine (text27_any eps _ _ _ _ _ _ _ F5.out F6.out HR1.out).mono ?_;rintro e u2 ⟨rfl,hbT⟩;rw [HTS.out];have hb2:=bLt HBU.out hbT;have hWr:=HWr.out.past hb2;have hK:=HK.out.trans (WrK.past hBW hb2);have HWr:=hiD hWr;have HK:=hiD hK;have hs2:=hb2.size;have hBW:B≤u2.heap.size:=by omega
     have hbW:=hWr.lt;clear hWr hK hb2 hbT p0 p1 p2 HBU F5 F6 E5 E6
     go_wp2_with fail
     obtain ⟨u3,hX,yX,hbX,rX,fX⟩:=box1g u2 u2.heap.size rfl #[.int .i64 2,.int .i64 (TS.size:Int)] 77;rw [hX];refine (lay27_any B b u2.heap.size 1 (BL ++ rl2 eps F 0) [(2,TS.size)] u3 (HWr.out.past hbX) (FldAt.one rfl rfl hX) (by omega) rfl (by decide) (by intro f hf;simp at hf;subst hf;refine ⟨by simp,?_⟩;simp;omega) (by omega)).mono ?_;rintro e u4 ⟨rfl,hWr,hK2⟩;have hK:=(HK.out.trans (WrK.past hBW hbX)).trans hK2;have HWr:=hiD hWr;have HK:=hiD hK;have hBW:B≤u4.heap.size:=by have:=hWr.lt;omega
     obtain ⟨c9,u5,hcv,hby,hb9,hc1,hc2⟩:=bytes_conv_at TS u4 (by omega);have HBY:=hiD hby;have HB9:=hiD hb9;clear hX yX hbX rX fX hK2 hWr hK hby hb9
     go_wp2_with fail
     refine (wraw_any B b _ _ _ _ _ u5 (HWr.out.past HB9.out) HBY.out (by simp [layL,beL_len];simp at hrl;omega)).mono ?_;rintro e u6 ⟨rfl,hWr,hK2⟩;have hK:=(HK.out.trans (WrK.past hBW HB9.out)).trans hK2
     have e9:BL ++ rl2 eps F 0 ++ layL [(2,TS.size)] ++ nums TS.data.toList=BL ++ rl2 eps F (0+1):=by
      simp [rl2,layL,ratL,HTS.out]
     rw [e9] at hWr;have HWr:=hiD hWr;have HK:=hiD hK;clear hWr hK hK2 e9 hcv
     go_wp2
     exact ⟨⟨0+1,by decide,by simp,HWr.out,HK.out⟩,by simp [intOf]⟩
   · have z3:=hK.stay HZZ.out.2.2.2.1 hTb HT.out;have z4:=hK.stay HZZ.out.2.2.2.2.1 hTb HT.out;have z5:=hK.stay HZZ.out.2.2.2.2.2 hTb HT.out;obtain ⟨TS,hTS⟩:∃ TS,textQ F=TS:=⟨_,rfl⟩;have hts:=hs2;rw [hTS] at hts;have HTS:=hiD hTS;have d5:=HD3.out.past hVr;have d6:=HD4.out.past hVr;have HWr:=hiD hWr;have HK:=hiD hK;have E5:=hiD d5;have E6:=hiD d6;have hBW:B≤wr.heap.size:=by have:=hWr.lt;omega
     have hbW:=hWr.lt
     have hrl:(BL ++ rl2 eps F 1).length≤20000:=by
      rw [List.length_append];have h5:(ratL eps).length=2+(textQ eps).size:=by simp [ratL,beL_len,nums_len,size_list]
      simp [rl2];omega
     clear hWr hK d5 d6 hTS hVr hKV
     go_wp2_with fail
     obtain ⟨u1,hU,yU,hbU,rU,fU⟩:=box1g wr wr.heap.size rfl #[.bool (neg F.num),.slice a3 n3 c3,.slice a4 n4 c4] 28;rw [hU];have p0:=rU 0;have p1:=rU 1;have p2:=rU 2;simp only [lgA,lgZ,lgS] at p0 p1 p2;have HBU:=hiD hbU;have F5:=hiD (E5.out.past hbU);have F6:=hiD (E6.out.past hbU);clear hU rU fU hbU yU
     go_wp2_with fail
     refine (text27_any F _ _ _ _ _ _ _ F5.out F6.out HR2.out).mono ?_;rintro e u2 ⟨rfl,hbT⟩;rw [HTS.out];have hb2:=bLt HBU.out hbT;have hWr:=HWr.out.past hb2;have hK:=HK.out.trans (WrK.past hBW hb2);have HWr:=hiD hWr;have HK:=hiD hK;have hs2:=hb2.size;have hBW:B≤u2.heap.size:=by omega
     have hbW:=hWr.lt;clear hWr hK hb2 hbT p0 p1 p2 HBU F5 F6 E5 E6
     go_wp2_with fail
     obtain ⟨u3,hX,yX,hbX,rX,fX⟩:=box1g u2 u2.heap.size rfl #[.int .i64 2,.int .i64 (TS.size:Int)] 77;rw [hX];refine (lay27_any B b u2.heap.size 1 (BL ++ rl2 eps F 1) [(2,TS.size)] u3 (HWr.out.past hbX) (FldAt.one rfl rfl hX) (by omega) rfl (by decide) (by intro f hf;simp at hf;subst hf;refine ⟨by simp,?_⟩;simp;omega) (by omega)).mono ?_;rintro e u4 ⟨rfl,hWr,hK2⟩;have hK:=(HK.out.trans (WrK.past hBW hbX)).trans hK2;have HWr:=hiD hWr;have HK:=hiD hK;have hBW:B≤u4.heap.size:=by have:=hWr.lt;omega
     obtain ⟨c9,u5,hcv,hby,hb9,hc1,hc2⟩:=bytes_conv_at TS u4 (by omega);have HBY:=hiD hby;have HB9:=hiD hb9;clear hX yX hbX rX fX hK2 hWr hK hby hb9
     go_wp2_with fail
     refine (wraw_any B b _ _ _ _ _ u5 (HWr.out.past HB9.out) HBY.out (by simp [layL,beL_len];simp at hrl;omega)).mono ?_;rintro e u6 ⟨rfl,hWr,hK2⟩;have hK:=(HK.out.trans (WrK.past hBW HB9.out)).trans hK2
     have e9:BL ++ rl2 eps F 1 ++ layL [(2,TS.size)] ++ nums TS.data.toList=BL ++ rl2 eps F (1+1):=by
      simp [rl2,layL,ratL,HTS.out]
     rw [e9] at hWr;have HWr:=hiD hWr;have HK:=hiD hK;clear hWr hK hK2 e9 hcv
     go_wp2
     exact ⟨⟨1+1,by decide,by simp,HWr.out,HK.out⟩,by simp [intOf]⟩
   have hrl:(BL ++ rl2 eps F 2).length≤100000:=by
    rw [List.length_append];have h5:(ratL eps).length=2+(textQ eps).size:=by simp [ratL,beL_len,nums_len,size_list]
    have h6:(ratL F).length=2+(textQ F).size:=by simp [ratL,beL_len,nums_len,size_list]
    simp [rl2];omega
   have hbVr:Below w.heap.size w wr:=HBV.out.trans (hVr.mono HBV.out.size);have HBVR:=hiD hbVr;have HWr:=hiD hWr;clear hWr hK hKV hVr hbVr
   go_wp2_with fail
   refine (wbytes_any B b _ wr HWr.out hrl).mono ?_;rintro e w9 ⟨a9,n9,c9,rfl,hby,hb9⟩
   go_wp2
   have e9:BL ++ rl2 eps F 2=putL k zs N eps F:=by
    rw [← HBL.out,putL,hlen];simp [rl2,layL]
   rw [e9] at hby;refine bodyPost_ret (v:=.tuple #[.slice a9 n9 c9,.int .i64 0]) ?_ rfl ⟨_,_,_,rfl,hby,bLt HBVR.out hb9⟩;simp [results,Tryz.f8,go_sem]
end
section
open Go.RowKit
theorem textE_size (b:Bool) {l l2:List Nat} (hl:Dig l) (hl2:Dig l2) (h:l.length≤200) (h2:l2.length≤200):(textE b l l2).size≤10000:=by
 unfold textE
 split
 · have h3:=digL_limbs hl;have h4:=digL_limbs hl2;have e:(textB b (val l) (val l2)).size=(textP b (val l) (val l2)).length:=by unfold textB;simp [ByteArray.size]
   have d1:(decL (val l)).length≤4001:=by unfold decL;split<;>first | (simp;done) | omega
   have d2:(decL (val l2)).length≤4001:=by unfold decL;split<;>first | (simp;done) | omega
   rw [e];unfold textP;simp only [List.length_append,decB_len]
   split<;>split<;>simp [decB_len]<;>omega
 decide
theorem text27_gen (b:Bool) (a1:Option Addr) (n1 c1:Nat) (l1:List Nat) (a2:Option Addr) (n2 c2:Nat) (l2:List Nat) (w:World) (d1:NatAt w a1 n1 c1 l1) (d2:NatAt w a2 n2 c2 l2) (h1:n1≤200) (h2:n2≤200) :
 Calls Tryz.prog 39 #[.agg #[.bool b,.slice a1 n1 c1,.slice a2 n2 c2]] w (RetVal w (.tuple #[.string (textE b l1 l2),.bool (decide (chkR b l1 l2=0))])):=by
 have hz:=textE_size b d1.dig d2.dig (by rw [d1.len];exact h1) (by rw [d2.len];exact h2);have HT:=hiD (fun (w:World) (d1:NatAt w a1 n1 c1 l1) (d2:NatAt w a2 n2 c2 l2)=>text_any b a1 n1 c1 l1 a2 n2 c2 l2 w d1 d2 (by omega) (by omega));have hx:=chkR_no (b:=b) (l:=l1) (l2:=l2);obtain ⟨S,hS⟩:∃ S,textE b l1 l2=S:=⟨_,rfl⟩;obtain ⟨X,hX⟩:∃ X,chkR b l1 l2=X:=⟨_,rfl⟩;rw [hS] at hz ⊢;rw [hX] at hx ⊢;have hsz:((S.size:Int)≤10000):=by omega
 have HS:=hiD hS;have HX:=hiD hX;have hx2:X=0∨X=6:=by omega
 clear hS hX hx h1 h2 hz;rcases hx2 with rfl | rfl
 all_goals
  go_enter Tryz.func39,Tryz.ntmps39
  have hB:=bRf w.heap.size w
  go_wp2_with fail
  obtain ⟨w1,hW,hz0,hb,q,f,qb0,qb1,qb2⟩:=bx3 w (w.heap.size) (by omega) (.bool b) (.slice a1 n1 c1) (.slice a2 n2 c2) 28;rw [hW];clear hW;have d1:=d1.past hb;have d2:=d2.past hb;have hB:=bLt hB hb;clear hb;have lb:w.heap.size<w1.heap.size:=by omega
  clear q f;clear hz0
  with_reducible refine (HT.out _ d1 d2).mono ?_
  rintro e w2 ⟨rfl,hb⟩;obtain ⟨qb0,qb1,qb2,lb⟩:=bq3 hb lb qb0 qb1 qb2;have hB:=bLt hB hb;clear hb;rw [HS.out,HX.out]
  go_wp2
  refine bodyPost_ret (v:=.tuple #[.string S,.bool _]) ?_ rfl ⟨rfl,hB⟩;simp [results,Tryz.f39,go_sem,]
def keptB (K:Int) (zs:List Int) (b1:Bool) (l1 l2:List Nat) (N:Int) (b2:Bool) (l3 l4:List Nat):Bool:=decide (chkR b1 l1 l2=0) && (decide (chkR b2 l3 l4=0) && (decide (1≤K) && (decide (K≤1024) && (decide (chkT zs K=0) && (decide (0≤N) && decide (N≤4096))))))
theorem keptB_iff {k N:Nat} {zs:List Int} {eps F:Rat}:keptB (k:Int) zs (neg eps.num) (digs eps.num.natAbs) (digs eps.den) (N:Int) (neg F.num) (digs F.num.natAbs) (digs F.den)=true ↔ okT zs (k:Int)∧k≤1024∧N≤4096:=by
 unfold keptB;rw [chkR_canon,chkR_canon];simp only [Bool.and_eq_true,decide_eq_true_eq,true_and]
 constructor
 · rintro ⟨h1,h2,h3,h4,h5⟩;refine ⟨?_,by omega,by omega⟩
   by_cases h:okT zs (k:Int)
   · exact h
   rw [chkT_no h] at h3;exact absurd h3 (by decide)
 rintro ⟨h1,h2,h3⟩;exact ⟨h1.1,by omega,chkT_yes h1,by omega,by omega⟩
theorem kept_any (K N:Int) (zs:List Int) (b1 b2:Bool) (l1 l2 l3 l4:List Nat) (aT:Option Addr) (nT cT:Nat) (a1:Option Addr) (n1 c1:Nat) (a2:Option Addr) (n2 c2:Nat) (a3:Option Addr) (n3 c3:Nat) (a4:Option Addr) (n4 c4:Nat) (w:World) (g:IntsAt w aT nT cT zs) (d1:NatAt w a1 n1 c1 l1) (d2:NatAt w a2 n2 c2 l2) (d3:NatAt w a3 n3 c3 l3) (d4:NatAt w a4 n4 c4 l4)
 (h1:n1≤200) (h2:n2≤200) (h3:n3≤200) (h4:n4≤200) :
 Calls Tryz.prog 36 #[.agg #[.int .i64 K,.slice aT nT cT,.bool b1,.slice a1 n1 c1,.slice a2 n2 c2,.int .i64 N,.bool b2,.slice a3 n3 c3,.slice a4 n4 c4]] w (RetVal w (.bool (keptB K zs b1 l1 l2 N b2 l3 l4))):=by
 have HT1:=hiD (fun (w:World) (d1:NatAt w a1 n1 c1 l1) (d2:NatAt w a2 n2 c2 l2)=>text27_gen b1 a1 n1 c1 l1 a2 n2 c2 l2 w d1 d2 h1 h2);have HT2:=hiD (fun (w:World) (d3:NatAt w a3 n3 c3 l3) (d4:NatAt w a4 n4 c4 l4)=>text27_gen b2 a3 n3 c3 l3 a4 n4 c4 l4 w d3 d4 h3 h4);have HCK:=hiD (fun (w:World) (g:IntsAt w aT nT cT zs)=>soliCheck_any aT nT cT zs K w g);unfold keptB;obtain ⟨B1,hB1⟩:∃ B,decide (chkR b1 l1 l2=0)=B:=⟨_,rfl⟩;obtain ⟨B2,hB2⟩:∃ B,decide (chkR b2 l3 l4=0)=B:=⟨_,rfl⟩;obtain ⟨X,hX⟩:∃ X,chkT zs K=X:=⟨_,rfl⟩;rw [hB1,hB2,hX];have HB1:=hiD hB1;have HB2:=hiD hB2;have HX:=hiD hX;clear hB1 hB2 hX h1 h2 h3 h4
 go_enter Tryz.func36,Tryz.ntmps36
 have hB:=bRf w.heap.size w
 go_wp2_with fail
 obtain ⟨w1,hW,hz0,hb,q,f,qp0,qp1,qp2,qp3,qp4,qp5,qp6,qp7,qp8⟩:=bx9 w (w.heap.size) (by omega) (.int .i64 K) (.slice aT nT cT) (.bool b1) (.slice a1 n1 c1) (.slice a2 n2 c2) (.int .i64 N) (.bool b2) (.slice a3 n3 c3) (.slice a4 n4 c4) 30;rw [hW];clear hW;have g:=g.past hb;have d1:=d1.past hb;have d2:=d2.past hb;have d3:=d3.past hb;have d4:=d4.past hb;have hB:=bLt hB hb;clear hb;have lp:w.heap.size<w1.heap.size:=by omega
 clear q f;clear hz0
 with_reducible refine (HT1.out _ d1 d2).mono ?_
 rintro e w2 ⟨rfl,hb⟩;have g:=g.past hb;have d3:=d3.past hb;have d4:=d4.past hb;obtain ⟨qp0,qp1,qp2,qp3,qp4,qp5,qp6,qp7,qp8,lp⟩:=bq9 hb lp qp0 qp1 qp2 qp3 qp4 qp5 qp6 qp7 qp8;have hB:=bLt hB hb;clear hb;rw [HB1.out]
 go_wp2_with fail
 with_reducible refine (HT2.out _ d3 d4).mono ?_
 rintro e w3 ⟨rfl,hb⟩;have g:=g.past hb;obtain ⟨qp0,qp1,qp2,qp3,qp4,qp5,qp6,qp7,qp8,lp⟩:=bq9 hb lp qp0 qp1 qp2 qp3 qp4 qp5 qp6 qp7 qp8;have hB:=bLt hB hb;clear hb;rw [HB2.out];cases B1
 · go_wp2
   go_ret
   exact ⟨by first | (simp [*];done) | (simp [*];intros;omega),hB⟩
 cases B2
 · go_wp2
   go_ret
   exact ⟨by first | (simp [*];done) | (simp [*];intros;omega),hB⟩
 by_cases k1:1≤K
 rotate_left
 · go_wp2
   go_ret
   exact ⟨by first | (simp [*];done) | (simp [*];intros;omega),hB⟩
 by_cases k2:K≤1024
 rotate_left
 · go_wp2
   go_ret
   exact ⟨by first | (simp [*];done) | (simp [*];intros;omega),hB⟩
 go_wp2_with fail
 with_reducible refine (HCK.out _ g).mono ?_
 rintro e w4 ⟨rfl,hb⟩;obtain ⟨qp0,qp1,qp2,qp3,qp4,qp5,qp6,qp7,qp8,lp⟩:=bq9 hb lp qp0 qp1 qp2 qp3 qp4 qp5 qp6 qp7 qp8;have hB:=bLt hB hb;clear hb;rw [HX.out]
 by_cases k3:X=0
 rotate_left
 · go_wp2
   go_ret
   exact ⟨by first | (simp [*];done) | (simp [*];intros;omega),hB⟩
 by_cases k4:0≤N
 rotate_left
 · go_wp2
   go_ret
   exact ⟨by first | (simp [*];done) | (simp [*];intros;omega),hB⟩
 by_cases k5:N≤4096
 rotate_left
 · go_wp2
   go_ret
   exact ⟨by first | (simp [*];done) | (simp [*];intros;omega),hB⟩
 subst k3
 go_wp2
 go_ret
 exact ⟨by first | (simp [*];done) | (simp [*];intros;omega),hB⟩
theorem put_no (K N:Int) (zs:List Int) (b1 b2:Bool) (l1 l2 l3 l4:List Nat) (aT:Option Addr) (nT cT:Nat) (a1:Option Addr) (n1 c1:Nat) (a2:Option Addr) (n2 c2:Nat) (a3:Option Addr) (n3 c3:Nat) (a4:Option Addr) (n4 c4:Nat) (w:World) (g:IntsAt w aT nT cT zs) (d1:NatAt w a1 n1 c1 l1) (d2:NatAt w a2 n2 c2 l2) (d3:NatAt w a3 n3 c3 l3) (d4:NatAt w a4 n4 c4 l4)
 (h1:n1≤200) (h2:n2≤200) (h3:n3≤200) (h4:n4≤200) (hk:keptB K zs b1 l1 l2 N b2 l3 l4=false) :
 Calls Tryz.prog 8 #[.agg #[.int .i64 K,.slice aT nT cT,.bool b1,.slice a1 n1 c1,.slice a2 n2 c2,.int .i64 N,.bool b2,.slice a3 n3 c3,.slice a4 n4 c4]] w (RetVal w (.tuple #[.slice none 0 0,.int .i64 2])):=by
 have HK:=hiD (fun (w:World) (g:IntsAt w aT nT cT zs) (d1:NatAt w a1 n1 c1 l1) (d2:NatAt w a2 n2 c2 l2) (d3:NatAt w a3 n3 c3 l3) (d4:NatAt w a4 n4 c4 l4)=>hk ▸ kept_any K N zs b1 b2 l1 l2 l3 l4 aT nT cT a1 n1 c1 a2 n2 c2 a3 n3 c3 a4 n4 c4 w g d1 d2 d3 d4 h1 h2 h3 h4);clear h1 h2 h3 h4 hk
 go_enter Tryz.func8,Tryz.ntmps8
 have hB:=bRf w.heap.size w
 go_wp2_with fail
 obtain ⟨w1,hW,hz0,hb,q,f,qp0,qp1,qp2,qp3,qp4,qp5,qp6,qp7,qp8⟩:=bx9 w (w.heap.size) (by omega) (.int .i64 K) (.slice aT nT cT) (.bool b1) (.slice a1 n1 c1) (.slice a2 n2 c2) (.int .i64 N) (.bool b2) (.slice a3 n3 c3) (.slice a4 n4 c4) 30;rw [hW];clear hW;have g:=g.past hb;have d1:=d1.past hb;have d2:=d2.past hb;have d3:=d3.past hb;have d4:=d4.past hb;have hB:=bLt hB hb;clear hb;have lp:w.heap.size<w1.heap.size:=by omega
 clear q f;clear hz0
 with_reducible refine (HK.out _ g d1 d2 d3 d4).mono ?_
 rintro e w2 ⟨rfl,hb⟩;obtain ⟨qp0,qp1,qp2,qp3,qp4,qp5,qp6,qp7,qp8,lp⟩:=bq9 hb lp qp0 qp1 qp2 qp3 qp4 qp5 qp6 qp7 qp8;have hB:=bLt hB hb;clear hb
 go_wp2
 refine bodyPost_ret (v:=.tuple #[.slice none 0 0,.int .i64 2]) ?_ rfl ⟨rfl,hB⟩;simp [results,Tryz.f8,go_sem]
end
end Go.Proofs.YtkhcblihbalnbaaGreatDoor
