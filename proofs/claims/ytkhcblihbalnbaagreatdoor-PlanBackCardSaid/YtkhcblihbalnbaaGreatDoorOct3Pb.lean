import Derived.Test.YtkhcblihbalnbaaGreatDoorOct1Pb
set_option linter.unusedVariables false
set_option linter.unusedSimpArgs false
set_option maxHeartbeats 4000000
set_option maxRecDepth 100000
namespace Go.Proofs.YtkhcblihbalnbaaGreatDoor
section
open Go.RowKit
theorem ne_blk {a b i j:Nat} (h:a≠b):(⟨a,i,none⟩:Addr)≠⟨b,j,none⟩:=fun e=>h (by cases e;rfl)
theorem WrAt.setErr {w w':World} {B b:Nat} {l:List Nat} (h:WrAt w B b l) (e:w.setCell ⟨b,3,none⟩ (.int .i64 0)=w'):WrAt w' B b l∧WrK B b w w':=by
 subst e;obtain ⟨v,hv,hr⟩:=h.v;obtain ⟨cur,ht⟩:=h.ty;have hoth:∀ k,k≠b→(w.setCell ⟨b,3,none⟩ (.int .i64 0)).heap[k]? = w.heap[k]?:=fun k hk=>heap_setCell_other w ⟨b,3,none⟩ k _ hk
 have other:∀ i,i≠3→(w.setCell ⟨b,3,none⟩ (.int .i64 0)).cell? ⟨b,i,none⟩=w.cell? ⟨b,i,none⟩:=fun i hi=>World.cell?_setCell_other _ _ _ _ (fun e=>hi (by cases e;rfl))
 refine ⟨⟨⟨v,(other 0 (by decide)).trans hv,hr.1,hr.2.imp id ?_⟩,(other 1 (by decide)).trans h.q1,(other 2 (by decide)).trans h.q2,World.cell?_setCell_same _ _ _ h.q3,fun i hi=>by rw [World.frozen?_setCell];exact h.fr i hi,h.le,h.dig,⟨_,Go.heap_setCell_same w b 3 cur _ _ ht⟩⟩,(bRf _ _).setCell (p:=⟨b,3,none⟩) h.le _,fun k hk hb _=>hoth k hb⟩;rintro ⟨g1,cap,cur2,e2,h1,h2,h4⟩;refine ⟨g1,cap,cur2,e2,h1,(hoth g1 (fun e3 => ?_)).trans h2,h4⟩;rw [e3,ht] at h2;exact absurd (Obj.cells.inj (Option.some.inj h2)).2.1 (by decide)
theorem WrAt.setOff {w w':World} {B b k:Nat} {l:List Nat} {v:Value} (h:WrAt w B b l) (hk:k≠b) (hu:∀ cur,w.heap[k]? ≠ some (.cells cur 5 (0,0))) (e:w.setCell ⟨k,0,none⟩ v=w'):WrAt w' B b l:=by
 subst e;obtain ⟨v1,hv,hr⟩:=h.v;obtain ⟨cur,ht⟩:=h.ty;have hoth:∀ j,j≠k→(w.setCell ⟨k,0,none⟩ v).heap[j]? = w.heap[j]?:=fun j hj=>heap_setCell_other w ⟨k,0,none⟩ j _ hj
 have other:∀ i,(w.setCell ⟨k,0,none⟩ v).cell? ⟨b,i,none⟩=w.cell? ⟨b,i,none⟩:=fun i=>World.cell?_setCell_other _ _ _ _ (fun e=>hk (by cases e;rfl))
 refine ⟨⟨v1,(other 0).trans hv,hr.1,hr.2.imp id ?_⟩,(other 1).trans h.q1,(other 2).trans h.q2,(other 3).trans h.q3,fun i hi=>by rw [World.frozen?_setCell];exact h.fr i hi,h.le,h.dig,⟨_,(hoth b (Ne.symm hk)).trans ht⟩⟩;rintro ⟨g1,cap,cur2,e2,h1,h2,h4⟩;exact ⟨g1,cap,cur2,e2,h1,(hoth g1 (fun e3=>by rw [e3] at h2;exact hu _ h2)).trans h2,h4⟩
theorem WrK.then {w w' w2:World} {B b:Nat} (h:WrK B b w w') (hB:B≤w.heap.size) (k:Below w.heap.size w' w2):WrK B b w w2 :=
 ⟨h.bw.trans (k.mono hB),fun i hi hb hc=>(k.block i hi).trans (h.blk i hi hb hc)⟩
theorem does1_any (be bp b:Nat) (x:Value) (hx:x = .int .i64 0) (w:World) (u:FrameMode) (qe:w.cell? ⟨be,0,none⟩=some x) (qp:w.cell? ⟨bp,0,none⟩=some (.pointer (some ⟨b,0,none⟩))) (q3:w.cell? ⟨b,3,none⟩=some (.int .i64 0)) (f3:w.frozen? ⟨b,3,none⟩=false) :
 CallsD Tryz.prog 133 #[.pointer (some ⟨be,0,none⟩),.pointer (some ⟨bp,0,none⟩)] u w fun e u' w'=>u'=u∧(e = .returned (.tuple #[])∧w'=w.setCell ⟨b,3,none⟩ (.int .i64 0)):=by
 subst hx
 go_enter_d Tryz.func133,Tryz.ntmps133
 go_wp2
 go_end0
 exact ⟨rfl,rfl⟩
theorem does_raw (B b:Nat) (l l':List Nat) (bp bs:Nat) (w:World) (h:WrAt w B b l) (hcall:∀ W,Below w.heap.size w W→Calls Tryz.prog 81 #[.pointer (some ⟨bp,0,none⟩),.pointer (some ⟨bs,0,none⟩)] W fun e W'=>e = .returned (.int .i64 0)∧WrAt W' B b l'∧WrK B b W W') :
 Calls Tryz.prog 80 #[.pointer (some ⟨b,0,none⟩),.func (.func 81) #[] #[.pointer (some ⟨bp,0,none⟩),.pointer (some ⟨bs,0,none⟩)]] w fun e w'=>e = .returned (.int .i64 0)∧WrAt w' B b l'∧WrK B b w w':=by
 have hmf:∀ (fn:Fn) (first cap:Array Value) (w:World),(Instr.makeFunc fn first cap).run Tryz.prog w = .ok (.func fn first cap) w:=fun _ _ _ _=>rfl
 have HH:=hiD h;have hB:B≤w.heap.size:=nTr h.le (nOf h.lt);have hbl:=h.lt;clear h;have HC:=hiD hcall;clear hcall
 go_enter_defers Tryz.func80,Tryz.ntmps80
 go_wp2_with fail
 obtain ⟨w1,hW1,y1,hb1,r1,f1⟩:=box1g w w.heap.size rfl #[.pointer (some ⟨b,0,none⟩)] 72;rw [hW1];obtain ⟨w2,hW2,y2,hb2,r2,f2⟩:=box1g w1 (w.heap.size+1) (by omega) #[.int .i64 0] 34;rw [hW2];have hh1:w2.heap[w.heap.size]? = some (.cells #[.pointer (some ⟨b,0,none⟩)] 72 (0,0)):=(hb2.block _ (by omega)).trans (by rw [← hW1];exact World.alloc_heap_new w _);have hh2:w2.heap[w.heap.size+1]? = some (.cells #[.int .i64 0] 34 (0,0)):=by rw [← hW2,← y1];exact World.alloc_heap_new w1 _
 have hb12:=bLt hb1 hb2;have H2:=hiD (HH.out.past hb12);have q0:w2.cell? ⟨w.heap.size,0,none⟩=some (.pointer (some ⟨b,0,none⟩)):=bq hb2 (by omega) (r1 0);have q1:=H2.out.q1;have q3:=H2.out.q3;have HB:=hiD hb12;clear hW1 hW2 hb1 hb2 r1 f1 hb12
 go_wp2_with fail
 with_reducible refine (wnone_any b _ q1).mono ?_
 rintro e w' ⟨rfl,rfl⟩
 go_wp2_with fail
 refine (HC.out w2 HB.out).mono ?_;rintro e w3 ⟨rfl,h3,hk3⟩;have n1:∀ cur,w2.heap[w.heap.size]? ≠ some (.cells cur 5 (0,0)):=fun cur e=>by rw [hh1] at e;exact absurd (Obj.cells.inj (Option.some.inj e)).2.1 (by decide)
 have n2:∀ cur,w2.heap[w.heap.size+1]? ≠ some (.cells cur 5 (0,0)):=fun cur e=>by rw [hh2] at e;exact absurd (Obj.cells.inj (Option.some.inj e)).2.1 (by decide)
 have e1:w3.heap[w.heap.size]? = w2.heap[w.heap.size]?:=hk3.blk _ (by omega) (by omega) n1;have e2:w3.heap[w.heap.size+1]? = w2.heap[w.heap.size+1]?:=hk3.blk _ (by omega) (by omega) n2;have p0:w3.cell? ⟨w.heap.size,0,none⟩=some (.pointer (some ⟨b,0,none⟩)):=(World.cell?_of_block (w:=w2) (a:=⟨w.heap.size,0,none⟩) e1).trans q0;have p1:w3.cell? ⟨w.heap.size+1,0,none⟩=some (.int .i64 0):=(World.cell?_of_block (w:=w2) (a:=⟨w.heap.size+1,0,none⟩) e2).trans (r2 0);have g1:w3.frozen? ⟨w.heap.size+1,0,none⟩=false:=(World.frozen?_of_block (w:=w2) (a:=⟨w.heap.size+1,0,none⟩) e2).trans (f2 0);have H3:=hiD h3;have HK3:=hiD hk3;have hs3:=hk3.bw.size;have HN2:=hiD (show ∀ cur,w3.heap[w.heap.size+1]? ≠ some (.cells cur 5 (0,0)) from fun cur e=>n2 cur (by rw [← e2];exact e));clear h3 hk3 n1 n2 e1 e2 q0 q1 q3 hh1 hh2 r2 f2
 go_wp2
 obtain ⟨W,hW⟩:∃ W,w3.setCell ⟨w.heap.size+1,0,none⟩ (.int .i64 0)=W:=⟨_,rfl⟩;rw [hW];have hbe:Below w.heap.size w3 W:=by rw [← hW];exact (bRf _ _).setCell (p:=⟨w.heap.size+1,0,none⟩) (by show w.heap.size≤w.heap.size+1;omega) _
 have hWr:=H3.out.setOff (by omega) HN2.out hW
 have p0:W.cell? ⟨w.heap.size,0,none⟩=some (.pointer (some ⟨b,0,none⟩)):=by
  rw [← hW,World.cell?_setCell_other _ _ _ _ (ne_blk (by omega))];exact p0
 have p1:W.cell? ⟨w.heap.size+1,0,none⟩=some (.int .i64 0):=by rw [← hW];exact World.cell?_setCell_same _ _ _ p1
 have hKW:WrK B b w W:=((WrK.past hB HB.out).trans HK3.out).then hB hbe
 refine leaves_cons (f:=133) (args:=#[.pointer (some ⟨w.heap.size+1,0,none⟩),.pointer (some ⟨w.heap.size,0,none⟩)]) (by simp) (by simp [go_sem]) ?_;refine (does1_any _ _ b _ rfl _ .returning p1 p0 hWr.q3 (hWr.fr 3 (by decide))).mono ?_;rintro e u' w'' ⟨rfl,rfl,rfl⟩;obtain ⟨hF,hKF⟩:=hWr.setErr rfl
 have p2:(W.setCell ⟨b,3,none⟩ (.int .i64 0)).cell? ⟨w.heap.size+1,0,none⟩=some (.int .i64 0):=by
  rw [World.cell?_setCell_other _ _ _ _ (ne_blk (by omega))];exact p1
 refine ⟨.int .i64 0,?_,rfl,hF,hKW.trans hKF⟩;simp [results,Tryz.f80,go_sem,p2]
theorem raw1_any (B b bp bs:Nat) (l m:List Nat) (ad:Addr) (n c:Nat) (w:World) (h:WrAt w B b l) (qp:w.cell? ⟨bp,0,none⟩=some (.pointer (some ⟨b,0,none⟩))) (qs:w.cell? ⟨bs,0,none⟩=some (.slice (some ad) n c)) (g:BytesAt w (some ad) n c m) (hn:l.length+n≤100000) :
 Calls Tryz.prog 81 #[.pointer (some ⟨bp,0,none⟩),.pointer (some ⟨bs,0,none⟩)] w fun e w'=>e = .returned (.int .i64 0)∧WrAt w' B b (l ++ m)∧WrK B b w w':=by
 go_enter Tryz.func81,Tryz.ntmps81
 go_wp2_with fail
 refine (wlay_any B b l m ad n c _ h g hn).mono ?_;rintro e w1 ⟨rfl,h1,h2⟩
 go_wp2
 go_ret
 exact ⟨rfl,h1,h2⟩
theorem wraw_any (B b:Nat) (l m:List Nat) (ad:Addr) (n c:Nat) (w:World) (h:WrAt w B b l) (g:BytesAt w (some ad) n c m) (hn:l.length+n≤100000) :
 Calls Tryz.prog 40 #[.pointer (some ⟨b,0,none⟩),.slice (some ad) n c] w fun e w'=>e = .returned (.int .i64 0)∧WrAt w' B b (l ++ m)∧WrK B b w w':=by
 have hmf:∀ (fn:Fn) (first cap:Array Value) (w:World),(Instr.makeFunc fn first cap).run Tryz.prog w = .ok (.func fn first cap) w:=fun _ _ _ _=>rfl
 have hB:B≤w.heap.size:=nTr h.le (nOf h.lt)
 go_enter Tryz.func40,Tryz.ntmps40
 go_wp2_with fail
 obtain ⟨w1,hW1,y1,hb1,r1,f1⟩:=box1g w w.heap.size rfl #[.pointer (some ⟨b,0,none⟩)] 72;rw [hW1];obtain ⟨w2,hW2,y2,hb2,r2,f2⟩:=box1g w1 (w.heap.size+1) (by omega) #[.slice (some ad) n c] 31;rw [hW2];have hb12:=bLt hb1 hb2;have q0:w2.cell? ⟨w.heap.size,0,none⟩=some (.pointer (some ⟨b,0,none⟩)):=bq hb2 (by omega) (r1 0);have q1:w2.cell? ⟨w.heap.size+1,0,none⟩=some (.slice (some ad) n c):=r2 0;have Q1:=hiD q1;have Q0:=hiD q0;have H2:=hiD (h.past hb12);have G2:=hiD (g.past hb12);have HB:=hiD hb12;clear hW1 hW2 hb1 hb2 r1 r2 f1 f2 hb12 q1
 go_wp2_with fail
 refine (does_raw B b l (l ++ m) _ _ w2 H2.out (fun W hW=>raw1_any B b _ _ l m ad n c W (H2.out.past hW) (bq hW (by omega) Q0.out) (bq hW (by omega) Q1.out) (G2.out.past hW) hn)).mono ?_;rintro e w3 ⟨rfl,h1,h2⟩;have hK:=(WrK.past hB HB.out).trans h2
 go_wp2
 go_ret
 exact ⟨rfl,h1,hK⟩
theorem does_put (B b:Nat) (l l':List Nat) (bw bn bp:Nat) (w:World) (h:WrAt w B b l) (hcall:∀ W,Below w.heap.size w W→Calls Tryz.prog 132 #[.pointer (some ⟨bw,0,none⟩),.pointer (some ⟨bn,0,none⟩),.pointer (some ⟨bp,0,none⟩)] W fun e W'=>e = .returned (.int .i64 0)∧WrAt W' B b l'∧WrK B b W W') :
 Calls Tryz.prog 80 #[.pointer (some ⟨b,0,none⟩),.func (.func 132) #[] #[.pointer (some ⟨bw,0,none⟩),.pointer (some ⟨bn,0,none⟩),.pointer (some ⟨bp,0,none⟩)]] w fun e w'=>e = .returned (.int .i64 0)∧WrAt w' B b l'∧WrK B b w w':=by
 have hmf:∀ (fn:Fn) (first cap:Array Value) (w:World),(Instr.makeFunc fn first cap).run Tryz.prog w = .ok (.func fn first cap) w:=fun _ _ _ _=>rfl
 have HH:=hiD h;have hB:B≤w.heap.size:=nTr h.le (nOf h.lt);have hbl:=h.lt;clear h;have HC:=hiD hcall;clear hcall
 go_enter_defers Tryz.func80,Tryz.ntmps80
 go_wp2_with fail
 obtain ⟨w1,hW1,y1,hb1,r1,f1⟩:=box1g w w.heap.size rfl #[.pointer (some ⟨b,0,none⟩)] 72;rw [hW1];obtain ⟨w2,hW2,y2,hb2,r2,f2⟩:=box1g w1 (w.heap.size+1) (by omega) #[.int .i64 0] 34;rw [hW2];have hh1:w2.heap[w.heap.size]? = some (.cells #[.pointer (some ⟨b,0,none⟩)] 72 (0,0)):=(hb2.block _ (by omega)).trans (by rw [← hW1];exact World.alloc_heap_new w _);have hh2:w2.heap[w.heap.size+1]? = some (.cells #[.int .i64 0] 34 (0,0)):=by rw [← hW2,← y1];exact World.alloc_heap_new w1 _
 have hb12:=bLt hb1 hb2;have H2:=hiD (HH.out.past hb12);have q0:w2.cell? ⟨w.heap.size,0,none⟩=some (.pointer (some ⟨b,0,none⟩)):=bq hb2 (by omega) (r1 0);have q1:=H2.out.q1;have q3:=H2.out.q3;have HB:=hiD hb12;clear hW1 hW2 hb1 hb2 r1 f1 hb12
 go_wp2_with fail
 with_reducible refine (wnone_any b _ q1).mono ?_
 rintro e w' ⟨rfl,rfl⟩
 go_wp2_with fail
 refine (HC.out w2 HB.out).mono ?_;rintro e w3 ⟨rfl,h3,hk3⟩;have n1:∀ cur,w2.heap[w.heap.size]? ≠ some (.cells cur 5 (0,0)):=fun cur e=>by rw [hh1] at e;exact absurd (Obj.cells.inj (Option.some.inj e)).2.1 (by decide)
 have n2:∀ cur,w2.heap[w.heap.size+1]? ≠ some (.cells cur 5 (0,0)):=fun cur e=>by rw [hh2] at e;exact absurd (Obj.cells.inj (Option.some.inj e)).2.1 (by decide)
 have e1:w3.heap[w.heap.size]? = w2.heap[w.heap.size]?:=hk3.blk _ (by omega) (by omega) n1;have e2:w3.heap[w.heap.size+1]? = w2.heap[w.heap.size+1]?:=hk3.blk _ (by omega) (by omega) n2;have p0:w3.cell? ⟨w.heap.size,0,none⟩=some (.pointer (some ⟨b,0,none⟩)):=(World.cell?_of_block (w:=w2) (a:=⟨w.heap.size,0,none⟩) e1).trans q0;have p1:w3.cell? ⟨w.heap.size+1,0,none⟩=some (.int .i64 0):=(World.cell?_of_block (w:=w2) (a:=⟨w.heap.size+1,0,none⟩) e2).trans (r2 0);have g1:w3.frozen? ⟨w.heap.size+1,0,none⟩=false:=(World.frozen?_of_block (w:=w2) (a:=⟨w.heap.size+1,0,none⟩) e2).trans (f2 0);have H3:=hiD h3;have HK3:=hiD hk3;have hs3:=hk3.bw.size;have HN2:=hiD (show ∀ cur,w3.heap[w.heap.size+1]? ≠ some (.cells cur 5 (0,0)) from fun cur e=>n2 cur (by rw [← e2];exact e));clear h3 hk3 n1 n2 e1 e2 q0 q1 q3 hh1 hh2 r2 f2
 go_wp2
 obtain ⟨W,hW⟩:∃ W,w3.setCell ⟨w.heap.size+1,0,none⟩ (.int .i64 0)=W:=⟨_,rfl⟩;rw [hW];have hbe:Below w.heap.size w3 W:=by rw [← hW];exact (bRf _ _).setCell (p:=⟨w.heap.size+1,0,none⟩) (by show w.heap.size≤w.heap.size+1;omega) _
 have hWr:=H3.out.setOff (by omega) HN2.out hW
 have p0:W.cell? ⟨w.heap.size,0,none⟩=some (.pointer (some ⟨b,0,none⟩)):=by
  rw [← hW,World.cell?_setCell_other _ _ _ _ (ne_blk (by omega))];exact p0
 have p1:W.cell? ⟨w.heap.size+1,0,none⟩=some (.int .i64 0):=by rw [← hW];exact World.cell?_setCell_same _ _ _ p1
 have hKW:WrK B b w W:=((WrK.past hB HB.out).trans HK3.out).then hB hbe
 refine leaves_cons (f:=133) (args:=#[.pointer (some ⟨w.heap.size+1,0,none⟩),.pointer (some ⟨w.heap.size,0,none⟩)]) (by simp) (by simp [go_sem]) ?_;refine (does1_any _ _ b _ rfl _ .returning p1 p0 hWr.q3 (hWr.fr 3 (by decide))).mono ?_;rintro e u' w'' ⟨rfl,rfl,rfl⟩;obtain ⟨hF,hKF⟩:=hWr.setErr rfl
 have p2:(W.setCell ⟨b,3,none⟩ (.int .i64 0)).cell? ⟨w.heap.size+1,0,none⟩=some (.int .i64 0):=by
  rw [World.cell?_setCell_other _ _ _ _ (ne_blk (by omega))];exact p1
 refine ⟨.int .i64 0,?_,rfl,hF,hKW.trans hKF⟩;simp [results,Tryz.f80,go_sem,p2]
theorem wput_any (B b:Nat) (l:List Nat) (wide n:Nat) (w:World) (h:WrAt w B b l) (hw:wide=2∨wide=4) (hn:n<256 ^ wide) (hl:l.length+wide≤100000) :
 Calls Tryz.prog 79 #[.pointer (some ⟨b,0,none⟩),.int .i64 (wide:Int),.int .i64 (n:Int)] w fun e w'=>e = .returned (.int .i64 0)∧WrAt w' B b (l ++ beL n wide)∧WrK B b w w':=by
 have hmf:∀ (fn:Fn) (first cap:Array Value) (w:World),(Instr.makeFunc fn first cap).run Tryz.prog w = .ok (.func fn first cap) w:=fun _ _ _ _=>rfl
 have hB:B≤w.heap.size:=nTr h.le (nOf h.lt)
 go_enter Tryz.func79,Tryz.ntmps79
 go_wp2_with fail
 obtain ⟨w1,hW1,y1,hb1,r1,f1⟩:=box1g w w.heap.size rfl #[.pointer (some ⟨b,0,none⟩)] 72;rw [hW1];obtain ⟨w2,hW2,y2,hb2,r2,f2⟩:=box1g w1 (w.heap.size+1) (by omega) #[.int .i64 (wide:Int)] 3;rw [hW2];obtain ⟨w3,hW3,y3,hb3,r3,f3⟩:=box1g w2 (w.heap.size+1+1) (by omega) #[.int .i64 (n:Int)] 3;rw [hW3];have hb123:=bLt (bLt hb1 hb2) hb3;have q0:w3.cell? ⟨w.heap.size,0,none⟩=some (.pointer (some ⟨b,0,none⟩)):=bq hb3 (by omega) (bq hb2 (by omega) (r1 0));have q1:w3.cell? ⟨w.heap.size+1,0,none⟩=some (.int .i64 (wide:Int)):=bq hb3 (by omega) (r2 0);have q2:w3.cell? ⟨w.heap.size+1+1,0,none⟩=some (.int .i64 (n:Int)):=r3 0;have Q0:=hiD q0;have Q1:=hiD q1;have Q2:=hiD q2;have H2:=hiD (h.past hb123);have HB:=hiD hb123;clear hW1 hW2 hW3 hb1 hb2 hb3 r1 r2 r3 f1 f2 f3 hb123 q1 q2
 go_wp2_with fail
 refine (does_put B b l (l ++ beL n wide) _ _ _ w3 H2.out (fun W hW=>put1_any B b _ _ _ l wide n W (H2.out.past hW) (bq hW (by omega) Q1.out) (bq hW (by omega) Q2.out) (bq hW (by omega) Q0.out) hw hn hl)).mono ?_;rintro e w4 ⟨rfl,h1,h2⟩;have hK:=(WrK.past hB HB.out).trans h2
 go_wp2
 go_ret
 exact ⟨rfl,h1,hK⟩
end
section
open Go.RowKit
theorem BytesAt.ofRow {w:World} {B:Nat} {v:Value} {l:List Nat} (h:w.ownsRow B 5 1 v l.length (bv l)) (hd:∀ d ∈ l,d<256):∃ a c,v = .slice a l.length c∧BytesAt w a l.length c l:=by
 obtain ⟨a,c,e,hb⟩:=OwnBytes.ofRow h hd;exact ⟨a,c,e,hb.toBytesAt⟩
theorem clone_bytes (a:Option Addr) (n c:Nat) (l:List Nat) (w:World) (h:BytesAt w a n c l) (hs:n≤100000) :
 Calls Tryz.prog 70 #[.slice a n c] w fun e w'=>∃ a' n' c',e = .returned (.slice a' n' c')∧BytesAt w' a' n' c' l∧Below w.heap.size w w':=by
 obtain ⟨i0,hi,hz0,hz1,hz2⟩:=info_parts u8_info;have hq:=fun w=>Lib.run_eql_slice_nil (P:=Tryz.prog) w 31 5 a n c 0 0 Tryz.underlying31
 have hal:Below w.heap.size w (w.alloc (.cells #[] 5)):=(bRf _ _).alloc (nRf _) _;cases a with
 | none =>
   have hc:=h.nilc rfl;have hm:n=0:=by have:=h.le;omega
   subst hc;subst hm;have hl:l=[]:=List.eq_nil_of_length_eq_zero h.len;subst hl
   go_enter Tryz.func70,Tryz.ntmps70
   go_wp2
   go_ret
   exact ⟨_,_,_,rfl,BytesAt.nil _,bRf _ _⟩
 | some ad =>
   have hnews:∀ j u,(bv l)[j]? = some u→(w.alloc (.cells #[] 5)).cell? (ad.add j)=some u:=by
    intro j u hu
    have hj:j<l.length:=by
     have:=(List.getElem?_eq_some_iff.1 hu).1
     rwa [bv_length] at this
    rw [bv_at hj] at hu;cases hu;rcases (h.past hal).cell with h0 | ⟨b,o,he,hc⟩
    · have:=h.len;omega
    cases he;rw [addr_add];exact hc j (by have:=h.len;omega)
   have hlen:=h.len;have hdg:=h.dig
   go_enter Tryz.func70,Tryz.ntmps70
   go_wp2_with (at_builtin;refine wpList_append_own _ rfl _ _ 31 rfl w.heap.size 5 i0 (.int .u8 0) 1 1 Tryz.underlying31 hi hz0 hz1 hz2 rfl (by decide) _ 0 [] rfl (World.ownsRow_lit w #[] 0 (nRf _) (by simp) rfl) ad n c (bv l) rfl (by rw [bv_length,hlen,Nat.mul_one]) hnews (bv_one l) (by simp only [maxLen];omega) (by omega) (by simp) ?_;intro v' w1 hown hgrow hnil)
   go_ret
   rw [Nat.zero_add,List.nil_append] at hown;have hB:Below w.heap.size w w1:=hal.grown hgrow (by simp) (fun k e=>by cases e;exact nRf _);rw [← hlen] at hown;obtain ⟨a',c',rfl,hb⟩:=BytesAt.ofRow hown hdg;exact ⟨_,_,_,rfl,hb,hB⟩
theorem wbytes_any (B b:Nat) (l:List Nat) (w:World) (h:WrAt w B b l) (hl:l.length≤100000) :
 Calls Tryz.prog 41 #[.pointer (some ⟨b,0,none⟩)] w fun e w'=>∃ a n c,e = .returned (.tuple #[.slice a n c,.int .i64 0])∧BytesAt w' a n c l∧Below w.heap.size w w':=by
 obtain ⟨v,hv,hr⟩:=h.v;obtain ⟨av,cv,rfl,hb⟩:=BytesAt.ofRow hr h.dig;have q1:=h.q1;have q3:=h.q3;have HB:=hiD hb;clear hr h hb
 go_enter Tryz.func41,Tryz.ntmps41
 go_wp2_with fail
 with_reducible refine (wnone_any b _ q1).mono ?_
 rintro e w' ⟨rfl,rfl⟩
 go_wp2_with fail
 refine (clone_bytes av l.length cv l _ HB.out hl).mono ?_;rintro e w1 ⟨a',n',c',rfl,h1,h2⟩
 go_wp2
 refine bodyPost_ret (v:=.tuple #[.slice a' n' c',.int .i64 0]) ?_ rfl ⟨_,_,_,rfl,h1,h2⟩;simp [results,Tryz.f41,go_sem]
end
end Go.Proofs.YtkhcblihbalnbaaGreatDoor
