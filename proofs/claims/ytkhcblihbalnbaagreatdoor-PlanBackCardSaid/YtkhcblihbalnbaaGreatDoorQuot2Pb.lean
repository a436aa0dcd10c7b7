import Derived.Test.YtkhcblihbalnbaaGreatDoorQuot1Pb
import Derived.Test.YtkhcblihbalnbaaGreatDoorLimbs6Pb
set_option linter.unusedVariables false
set_option linter.unusedSimpArgs false
set_option maxHeartbeats 4000000
set_option maxRecDepth 100000
namespace Go.Proofs.YtkhcblihbalnbaaGreatDoor
open Go.RowKit
def RetStep (w:World) (b o n:Nat) (q r:Nat) (e:Ending) (w':World):Prop :=
 ∃ wk,e = .returned (.int .u64 ((q:Nat):Int))∧Below w.heap.size w wk∧w'=(wk.setCells b o (dv (List.replicate (n+1) 0))).setCells b o (dv (digs r))
theorem step_a (b o n c:Nat) (us:List Nat) (bv ov c2:Nat) (vs:List Nat) (B:Nat) (w:World) (h:OwnAt w B (some ⟨b,o,none⟩) (n+1) c us) (h2:NatAt w (some ⟨bv,ov,none⟩) n c2 vs) (hs:n≤137438953472) (hn:0<n) (ht:0<D vs (n-1)) (hv:val us<val vs*18446744073709551616)
 (hg:D us n<D vs (n-1)) :
 Calls Tryz.prog 216 #[.slice (some ⟨b,o,none⟩) (n+1) c,.slice (some ⟨bv,ov,none⟩) n c2] w (RetStep w b o n (val us/val vs) (val us % val vs)):=by
 have hlu:=h.len;have hlv:=h2.len;have hdu:=h.dig;have hdv:=h2.dig;obtain ⟨hq1,hq2⟩:=guess_ok hdu hdv hlu hlv hn ht hv
 have hvp:0<val vs:=by
  rcases Nat.eq_zero_or_pos (val vs) with h0 | h0
  · rw [h0] at hv;omega
  exact h0
 have hrl:(digs (val us % val vs)).length≤n:=by
  refine nTr (digs_len_mono (nOf (Nat.mod_lt _ hvp))) ?_;have:=digs_length_val hdv;omega
 have HRL:=hiD hrl;have HVP:=hiD hvp;clear hrl;rcases h.cell with h' | ⟨b',o',he,hc⟩
 · omega
 cases he;have hbw:b<w.heap.size:=World.block_lt_of_cell? w _ (hc 0 (by omega));have hbb:∀ x,w.heap.size≤x→x≠b:=fun x hx e=>by omega
 have HBB:=hiD hbb;rcases h2.parts with h' | ⟨bv',ov',he,_,hcv⟩
 · omega
 cases he;have hc1:=hc n (by omega);have hc0:=hc (n-1) (by omega);have hv0:=hcv (n-1) (by omega);have en:((n:Int)-1).toNat=n-1:=by omega
 have en2:(0:Int)≤(n:Int)-1:=by omega
 have en3:(n:Int)-1<(n:Int):=by omega
 have en4:(n:Int)-1<(n:Int)+1:=by omega
 have en5:(0:Int)≤(n:Int):=by omega
 have en6:(n:Int)<(n:Int)+1:=by omega
 have eg:guessN us vs n=(D us n*18446744073709551616+D us (n-1))/D vs (n-1):=if_pos hg;rw [eg] at hq1 hq2;have hcall:=fun w=>div64_quiet (D us n) (D us (n-1)) (D vs (n-1)) w hg (hdv.at_ _) (hdu.at_ _)
 generalize (D us n*18446744073709551616+D us (n-1))/D vs (n-1)=g0 at *;generalize (D us n*18446744073709551616+D us (n-1)) % D vs (n-1)=r0 at *;have HC:=hiD hcall;have hgd:decide (D us n<D vs (n-1))=true:=decide_eq_true hg;have HQ1:=hiD hq1;have HQ2:=hiD hq2;clear hc hcv hlu hlv hdu hdv eg hg hq1 hq2 hcall hvp hv ht hbb
 go_enter Tryz.func216,Tryz.ntmps216
 go_wp2
 refine wp_scope_jumps 0 (fun a' w'=>∃ (g:Nat) (ap:Option Addr) (np cp:Nat) (u2 u3 u8 u9 u10 u11 u12 u13 u14 u15 u16 u17 u18 u19 u20 u21 u22 u23 u24 u25 u26 u27 u28 u29 u30 u31 u32 u33 u34 u35 u36 u37 u38 u39 u40 u41 u42 u43 u44 u45 u46 u47 u48 u49 u50 u51 u52 u53 u54 u55 u56 u57 u58 u59 u60 u61 u62 u63 u64 u65:Value),a'={ tmps:=#[.slice (some ⟨b,o,none⟩) (n+1) c,.slice (some ⟨bv,ov,none⟩) n c2,u2,u3,.int .u64 0,.int .i64 (n:Int),.int .u64 (g:Int),.slice ap np cp,u8,u9,u10,u11,u12,u13,u14,u15,u16,u17,u18,u19,u20,u21,u22,u23,u24,u25,u26,u27,u28,u29,u30,u31,u32,u33,u34,u35,u36,u37,u38,u39,u40,u41,u42,u43,u44,u45,u46,u47,u48,u49,u50,u51,u52,u53,u54,u55,u56,u57,u58,u59,u60,u61,u62,u63,u64,u65],defers:=[] }∧val us/val vs≤g∧g<18446744073709551616∧OwnAt w' w.heap.size ap np cp (digs (val vs*g))∧Below w.heap.size w w') (fun a' _=>(intOf (a'.tmps.getD 6 undef)).toNat) rfl ?_ ?_
 · go_wp2_with fail
   go_quiet (fail)
   go_wp2_with fail
   obtain ⟨w1,hw1⟩:∃ w1,w.drewN nq=w1:=⟨_,rfl⟩;have hB1:Below w.heap.size w w1:=by rw [← hw1];exact Below.draws (bRf _ _) _
   have hc1:w1.cell? ⟨b,o+n,none⟩=some (.int .u64 ((D us n:Nat):Int)):=by rw [← hw1];exact hc1
   have hc0:w1.cell? ⟨b,o+(n-1),none⟩=some (.int .u64 ((D us (n-1):Nat):Int)):=by rw [← hw1];exact hc0
   have hv0:w1.cell? ⟨bv,ov+(n-1),none⟩=some (.int .u64 ((D vs (n-1):Nat):Int)):=by rw [← hw1];exact hv0
   rw [hw1];clear hw1
   go_quiet ((go_at_call 201;exact Calls.quiet_of (HC.out _)))
   have hB:=Below.draws hB1 nq
   go_wp2_with fail
   with_reducible refine (tgrow_any _ _ _ vs _ _ (h2.later hB (nRf _)) (by omega) HQ2.out).mono ?_
   rintro e w2 ⟨ap,np,cp,rfl,hp,hbp⟩;have hp:=hp.mono hB.size;have hB:=bLt hB hbp;have q1:=HQ1.out;have q2:=HQ2.out;have hvp:=HVP.out;clear hbp
   go_wp2_with fail
   go_step3
   have uW:=h.later hB (nRf _);have vW:=h2.later hB (nRf _);have lP:np≤274877906944:=by have:=hp.len;have:=digs_len_prod (val vs) g0;have:=vW.short;have:=digs_length_le.2 (show g0<18446744073709551616 ^ 1 by simpa using q2);omega
   have lP2:=hiD lP;clear lP
   go_wp2_with fail
   with_reducible refine (cmp_any _ _ _ (digs (val vs*g0)) _ _ _ us _ hp.toNatAt uW.toNatAt).mono ?_
   rintro e wc ⟨rfl,hbc⟩;rw [val_digs];have hBc:=bLt hB hbc;have pC:=hp.later hbc (nRf _);have uC:=uW.later hbc (nRf _);have vC:=vW.later hbc (nRf _);clear hbc uW vW
   by_cases hgt:val us<val vs*g0
   · rw [cmpI_gt hgt];obtain ⟨m1,m2,m3⟩:=guess_less q1 hgt
     have hle:val vs≤val (digs (val vs*g0)):=by
      rw [val_digs];exact Nat.le_mul_of_pos_right _ m1
     have HLE:=hiD hle;have M3:=hiD m3;have M2:=hiD m2;obtain ⟨g2,hg2⟩:∃ g2,g0-1=g2:=⟨_,rfl⟩;have eg:IntKind.u64.wrap ((g0:Int)-1)=(g2:Int):=by rw [IntKind.wrap_u64];omega
     have hg3:g2<g0:=by omega
     have hg4:g2<18446744073709551616:=by omega
     rw [hg2] at M2 M3;have HG3:=hiD hg3;have HG4:=hiD hg4;have GX:=hiD hg2;clear m1 m2 m3 hle hgt hg2 hg3 hg4 q1 q2
     go_wp2_with fail
     with_reducible refine (sub_yes _ _ _ (digs (val vs*g0)) _ _ _ vs _ pC.toNatAt vC (by have:=lP2.out;omega) HLE.out).mono ?_
     rintro e wd ⟨ad,nd,cd,rfl,hd,hbd⟩;rw [val_digs,M3.out] at hd;have hBd:=bLt hBc hbd;have hd:=hd.mono hBc.size;clear hbd pC uC vC
     go_wp2
     go_step3
     refine ⟨rfl,g2,ad,nd,cd,_,_,_,_,_,_,_,_,_,_,_,_,_,_,_,_,_,_,_,_,_,_,_,_,_,_,_,_,_,_,_,_,_,_,_,_,_,_,_,_,_,_,_,_,_,_,_,_,_,_,_,_,_,_,_,_,_,_,_,_,rfl,M2.out,HG4.out,hd,hBd⟩
   have hcm:cmpI (val vs*g0) (val us)≤0:=by unfold cmpI;split<;>(try split)<;>omega
   obtain ⟨K,hK⟩:∃ K,cmpI (val vs*g0) (val us)=K:=⟨_,rfl⟩;rw [hK] at hcm ⊢;clear hK;obtain ⟨e1,e2⟩:=guess_last hvp q1 (by omega);have hle:val (digs (val vs*g0))≤val us:=by rw [val_digs];omega
   have HLE:=hiD hle;have E1:=hiD e1;have E2:=hiD e2;clear e1 e2 hle hgt q1 q2
   go_wp2_with fail
   with_reducible refine (sub_yes _ _ _ us _ _ _ (digs (val vs*g0)) _ uC.toNatAt pC.toNatAt (by omega) HLE.out).mono ?_
   rintro e wd ⟨ad,nd,cd,rfl,hd,hbd⟩;rw [val_digs,E2.out] at hd;have hBd:=bLt hBc hbd;have uD:=uC.later hbd (nRf _);clear hbd pC uC vC;have hnd:nd≤n:=by rw [← hd.len];exact HRL.out
   obtain ⟨wz,hwz⟩:∃ wz,wd.setCells b o (dv (List.replicate (n+1) 0))=wz:=⟨_,rfl⟩
   have hcl:=fun ty=>Lib.run_clear_slice (P:=Tryz.prog) wd 24 109 ty (.int .u64 0) Tryz.underlying24 zero109 rfl rfl b o (n+1) c (by omega) (fun j hj=>by
    rcases uD.cell with h2 | ⟨b',o',he,hc⟩
    · omega
    · cases he;rw [hc j hj];rfl) (fun j hj=>by
    rcases uD.own with h2 | ⟨b',o',he,_,hf⟩
    · omega
    cases he;exact hf j hj)
   rw [← dv_replicate,hwz] at hcl;have uZ:=uD.setAll (l':=List.replicate (n+1) 0) (by simp) (dig_replicate _);rw [hwz] at uZ
   have hcp:∀ ty,(Builtin.copy_ #[24,24] ty #[.slice (some ⟨b,o,none⟩) (n+1) c,.slice ad nd cd]).run Tryz.prog wz = .ok (goInt ((nd:Nat):Int)) (wz.setCells b o (dv (digs (val us % val vs)))):=by
    intro ty;have hisz:(Tryz.prog.info? 109).map (·.size)=some 1:=by kernel_rfl
    by_cases h0:nd=0
    · subst h0;have e0:digs (val us % val vs)=[]:=List.eq_nil_of_length_eq_zero hd.len;rw [e0];exact run_copy_none wz _ _ ty _ _ _ _ _ _ _ Tryz.underlying24 hisz (by simp)
    rcases hd.cell with h' | ⟨bd,od,rfl,hcd⟩
    · exact absurd h' h0
    rcases hd.own with h' | ⟨bd',od',he,hBd',_⟩
    · exact absurd h' h0
    cases he;have hlen:(dv (digs (val us % val vs))).length=nd:=by rw [dv_length];exact hd.len
    have:=run_copy_cells (P:=Tryz.prog) wz 24 24 ty 109 b o (n+1) c ⟨bd,od,none⟩ nd cd (dv (digs (val us % val vs))) Tryz.underlying24 hisz (by rw [hlen];exact (Nat.min_eq_left (by omega)).symm)
     (fun j v hj => ?_) (fun j hj => ?_) (fun j hj => ?_) (dv_one _)
    · rw [hlen] at this;exact this
    · have hjl:j<nd:=by have:=(List.getElem?_eq_some_iff.1 hj).1;rwa [hlen] at this
      rw [dv_at (by rw [hd.len];exact hjl)] at hj;cases hj;rw [addr_add,← hwz,World.cell?_setCells_out _ _ _ _ _ (fun e=>absurd e (HBB.out bd (nTr hBc.size hBd')))];exact hcd j hjl
    · rcases uZ.cell with h' | ⟨b',o',he,hc⟩
      · omega
      cases he;rw [hc j (by rw [hlen] at hj;omega)];rfl
    rcases uZ.own with h' | ⟨b',o',he,_,hf⟩
    · omega
    cases he;exact hf j (by rw [hlen] at hj;omega)
   clear uD uZ hd
   go_wp2
   simp only [Exit.jump]
   go_ret
   exact ⟨wd,by first | exact rfl | (rw [E1.out];exact rfl),hBd,by rw [hwz]⟩
 rintro a' wr ⟨g,ap,np,cp,u2,u3,u8,u9,u10,u11,u12,u13,u14,u15,u16,u17,u18,u19,u20,u21,u22,u23,u24,u25,u26,u27,u28,u29,u30,u31,u32,u33,u34,u35,u36,u37,u38,u39,u40,u41,u42,u43,u44,u45,u46,u47,u48,u49,u50,u51,u52,u53,u54,u55,u56,u57,u58,u59,u60,u61,u62,u63,u64,u65,rfl,q1,q2,hp,hB⟩;have hvp:=HVP.out;have uW:=h.later hB (nRf _);have vW:=h2.later hB (nRf _);have lP:np≤274877906944:=by have:=hp.len;have:=digs_len_prod (val vs) g;have:=vW.short;have:=digs_length_le.2 (show g<18446744073709551616 ^ 1 by simpa using q2);omega
 have lP2:=hiD lP;clear lP
 go_wp2_with fail
 with_reducible refine (cmp_any _ _ _ (digs (val vs*g)) _ _ _ us _ hp.toNatAt uW.toNatAt).mono ?_
 rintro e wc ⟨rfl,hbc⟩;rw [val_digs];have hBc:=bLt hB hbc;have pC:=hp.later hbc (nRf _);have uC:=uW.later hbc (nRf _);have vC:=vW.later hbc (nRf _);clear hbc uW vW
 by_cases hgt:val us<val vs*g
 · rw [cmpI_gt hgt];obtain ⟨m1,m2,m3⟩:=guess_less q1 hgt
   have hle:val vs≤val (digs (val vs*g)):=by
    rw [val_digs];exact Nat.le_mul_of_pos_right _ m1
   have HLE:=hiD hle;have M3:=hiD m3;have M2:=hiD m2;obtain ⟨g2,hg2⟩:∃ g2,g-1=g2:=⟨_,rfl⟩;have eg:IntKind.u64.wrap ((g:Int)-1)=(g2:Int):=by rw [IntKind.wrap_u64];omega
   have hg3:g2<g:=by omega
   have hg4:g2<18446744073709551616:=by omega
   rw [hg2] at M2 M3;have HG3:=hiD hg3;have HG4:=hiD hg4;have GX:=hiD hg2;clear m1 m2 m3 hle hgt hg2 hg3 hg4 q1 q2
   go_wp2_with fail
   with_reducible refine (sub_yes _ _ _ (digs (val vs*g)) _ _ _ vs _ pC.toNatAt vC (by have:=lP2.out;omega) HLE.out).mono ?_
   rintro e wd ⟨ad,nd,cd,rfl,hd,hbd⟩;rw [val_digs,M3.out] at hd;have hBd:=bLt hBc hbd;have hd:=hd.mono hBc.size;clear hbd pC uC vC
   go_wp2
   go_step3
   refine ⟨rfl,⟨g2,ad,nd,cd,_,_,_,_,_,_,_,_,_,_,_,_,_,_,_,_,_,_,_,_,_,_,_,_,_,_,_,_,_,_,_,_,_,_,_,_,_,_,_,_,_,_,_,_,_,_,_,_,_,_,_,_,_,_,_,_,_,_,_,_,rfl,M2.out,HG4.out,hd,hBd⟩,?_⟩;have:=HG3.out;simp [intOf];try omega
 have hcm:cmpI (val vs*g) (val us)≤0:=by unfold cmpI;split<;>(try split)<;>omega
 obtain ⟨K,hK⟩:∃ K,cmpI (val vs*g) (val us)=K:=⟨_,rfl⟩;rw [hK] at hcm ⊢;clear hK;obtain ⟨e1,e2⟩:=guess_last hvp q1 (by omega);have hle:val (digs (val vs*g))≤val us:=by rw [val_digs];omega
 have HLE:=hiD hle;have E1:=hiD e1;have E2:=hiD e2;clear e1 e2 hle hgt q1 q2
 go_wp2_with fail
 with_reducible refine (sub_yes _ _ _ us _ _ _ (digs (val vs*g)) _ uC.toNatAt pC.toNatAt (by omega) HLE.out).mono ?_
 rintro e wd ⟨ad,nd,cd,rfl,hd,hbd⟩;rw [val_digs,E2.out] at hd;have hBd:=bLt hBc hbd;have uD:=uC.later hbd (nRf _);clear hbd pC uC vC;have hnd:nd≤n:=by rw [← hd.len];exact HRL.out
 obtain ⟨wz,hwz⟩:∃ wz,wd.setCells b o (dv (List.replicate (n+1) 0))=wz:=⟨_,rfl⟩
 have hcl:=fun ty=>Lib.run_clear_slice (P:=Tryz.prog) wd 24 109 ty (.int .u64 0) Tryz.underlying24 zero109 rfl rfl b o (n+1) c (by omega) (fun j hj=>by
  rcases uD.cell with h2 | ⟨b',o',he,hc⟩
  · omega
  · cases he;rw [hc j hj];rfl) (fun j hj=>by
  rcases uD.own with h2 | ⟨b',o',he,_,hf⟩
  · omega
  cases he;exact hf j hj)
 rw [← dv_replicate,hwz] at hcl;have uZ:=uD.setAll (l':=List.replicate (n+1) 0) (by simp) (dig_replicate _);rw [hwz] at uZ
 have hcp:∀ ty,(Builtin.copy_ #[24,24] ty #[.slice (some ⟨b,o,none⟩) (n+1) c,.slice ad nd cd]).run Tryz.prog wz = .ok (goInt ((nd:Nat):Int)) (wz.setCells b o (dv (digs (val us % val vs)))):=by
  intro ty;have hisz:(Tryz.prog.info? 109).map (·.size)=some 1:=by kernel_rfl
  by_cases h0:nd=0
  · subst h0;have e0:digs (val us % val vs)=[]:=List.eq_nil_of_length_eq_zero hd.len;rw [e0];exact run_copy_none wz _ _ ty _ _ _ _ _ _ _ Tryz.underlying24 hisz (by simp)
  rcases hd.cell with h' | ⟨bd,od,rfl,hcd⟩
  · exact absurd h' h0
  rcases hd.own with h' | ⟨bd',od',he,hBd',_⟩
  · exact absurd h' h0
  cases he;have hlen:(dv (digs (val us % val vs))).length=nd:=by rw [dv_length];exact hd.len
  have:=run_copy_cells (P:=Tryz.prog) wz 24 24 ty 109 b o (n+1) c ⟨bd,od,none⟩ nd cd (dv (digs (val us % val vs))) Tryz.underlying24 hisz (by rw [hlen];exact (Nat.min_eq_left (by omega)).symm)
   (fun j v hj => ?_) (fun j hj => ?_) (fun j hj => ?_) (dv_one _)
  · rw [hlen] at this;exact this
  · have hjl:j<nd:=by have:=(List.getElem?_eq_some_iff.1 hj).1;rwa [hlen] at this
    rw [dv_at (by rw [hd.len];exact hjl)] at hj;cases hj;rw [addr_add,← hwz,World.cell?_setCells_out _ _ _ _ _ (fun e=>absurd e (HBB.out bd (nTr hBc.size hBd')))];exact hcd j hjl
  · rcases uZ.cell with h' | ⟨b',o',he,hc⟩
    · omega
    cases he;rw [hc j (by rw [hlen] at hj;omega)];rfl
  rcases uZ.own with h' | ⟨b',o',he,_,hf⟩
  · omega
  cases he;exact hf j (by rw [hlen] at hj;omega)
 clear uD uZ hd
 go_wp2
 simp only [Exit.jump]
 go_ret
 exact ⟨wd,by first | exact rfl | (rw [E1.out];exact rfl),hBd,by rw [hwz]⟩
theorem step_b (b o n c:Nat) (us:List Nat) (bv ov c2:Nat) (vs:List Nat) (B:Nat) (w:World) (h:OwnAt w B (some ⟨b,o,none⟩) (n+1) c us) (h2:NatAt w (some ⟨bv,ov,none⟩) n c2 vs) (hs:n≤137438953472) (hn:0<n) (ht:0<D vs (n-1)) (hv:val us<val vs*18446744073709551616)
 (hg:¬ D us n<D vs (n-1)) :
 Calls Tryz.prog 216 #[.slice (some ⟨b,o,none⟩) (n+1) c,.slice (some ⟨bv,ov,none⟩) n c2] w (RetStep w b o n (val us/val vs) (val us % val vs)):=by
 have hlu:=h.len;have hlv:=h2.len;have hdu:=h.dig;have hdv:=h2.dig;obtain ⟨hq1,hq2⟩:=guess_ok hdu hdv hlu hlv hn ht hv
 have hvp:0<val vs:=by
  rcases Nat.eq_zero_or_pos (val vs) with h0 | h0
  · rw [h0] at hv;omega
  exact h0
 have hrl:(digs (val us % val vs)).length≤n:=by
  refine nTr (digs_len_mono (nOf (Nat.mod_lt _ hvp))) ?_;have:=digs_length_val hdv;omega
 have HRL:=hiD hrl;have HVP:=hiD hvp;clear hrl;rcases h.cell with h' | ⟨b',o',he,hc⟩
 · omega
 cases he;have hbw:b<w.heap.size:=World.block_lt_of_cell? w _ (hc 0 (by omega));have hbb:∀ x,w.heap.size≤x→x≠b:=fun x hx e=>by omega
 have HBB:=hiD hbb;rcases h2.parts with h' | ⟨bv',ov',he,_,hcv⟩
 · omega
 cases he;have hc1:=hc n (by omega);have hc0:=hc (n-1) (by omega);have hv0:=hcv (n-1) (by omega);have en:((n:Int)-1).toNat=n-1:=by omega
 have en2:(0:Int)≤(n:Int)-1:=by omega
 have en3:(n:Int)-1<(n:Int):=by omega
 have en4:(n:Int)-1<(n:Int)+1:=by omega
 have en5:(0:Int)≤(n:Int):=by omega
 have en6:(n:Int)<(n:Int)+1:=by omega
 have eg:guessN us vs n=18446744073709551615:=if_neg hg;obtain ⟨g0,hg0⟩:∃ g0,guessN us vs n=g0:=⟨_,rfl⟩;rw [hg0] at hq1 hq2 eg;have egi:(18446744073709551615:Int)=(g0:Int):=by rw [eg];rfl
 have EGI:=hiD egi;clear hg0 egi;have hgd:decide (D us n<D vs (n-1))=false:=decide_eq_false hg;have HQ1:=hiD hq1;have HQ2:=hiD hq2;clear hc hcv hlu hlv hdu hdv eg hg hq1 hq2  hvp hv ht hbb
 go_enter Tryz.func216,Tryz.ntmps216
 go_wp2
 refine wp_scope_jumps 0 (fun a' w'=>∃ (g:Nat) (ap:Option Addr) (np cp:Nat) (u2 u3 u8 u9 u10 u11 u12 u13 u14 u15 u16 u17 u18 u19 u20 u21 u22 u23 u24 u25 u26 u27 u28 u29 u30 u31 u32 u33 u34 u35 u36 u37 u38 u39 u40 u41 u42 u43 u44 u45 u46 u47 u48 u49 u50 u51 u52 u53 u54 u55 u56 u57 u58 u59 u60 u61 u62 u63 u64 u65:Value),a'={ tmps:=#[.slice (some ⟨b,o,none⟩) (n+1) c,.slice (some ⟨bv,ov,none⟩) n c2,u2,u3,.int .u64 0,.int .i64 (n:Int),.int .u64 (g:Int),.slice ap np cp,u8,u9,u10,u11,u12,u13,u14,u15,u16,u17,u18,u19,u20,u21,u22,u23,u24,u25,u26,u27,u28,u29,u30,u31,u32,u33,u34,u35,u36,u37,u38,u39,u40,u41,u42,u43,u44,u45,u46,u47,u48,u49,u50,u51,u52,u53,u54,u55,u56,u57,u58,u59,u60,u61,u62,u63,u64,u65],defers:=[] }∧val us/val vs≤g∧g<18446744073709551616∧OwnAt w' w.heap.size ap np cp (digs (val vs*g))∧Below w.heap.size w w') (fun a' _=>(intOf (a'.tmps.getD 6 undef)).toNat) rfl ?_ ?_
 · go_wp2_with fail
   go_quiet (fail)
   have hB:=Below.draws (bRf w.heap.size w) nq;rw [EGI.out]
   go_wp2_with fail
   with_reducible refine (tgrow_any _ _ _ vs _ _ (h2.later hB (nRf _)) (by omega) HQ2.out).mono ?_
   rintro e w2 ⟨ap,np,cp,rfl,hp,hbp⟩;have hp:=hp.mono hB.size;have hB:=bLt hB hbp;have q1:=HQ1.out;have q2:=HQ2.out;have hvp:=HVP.out;clear hbp
   go_wp2_with fail
   go_step3
   have uW:=h.later hB (nRf _);have vW:=h2.later hB (nRf _);have lP:np≤274877906944:=by have:=hp.len;have:=digs_len_prod (val vs) g0;have:=vW.short;have:=digs_length_le.2 (show g0<18446744073709551616 ^ 1 by simpa using q2);omega
   have lP2:=hiD lP;clear lP
   go_wp2_with fail
   with_reducible refine (cmp_any _ _ _ (digs (val vs*g0)) _ _ _ us _ hp.toNatAt uW.toNatAt).mono ?_
   rintro e wc ⟨rfl,hbc⟩;rw [val_digs];have hBc:=bLt hB hbc;have pC:=hp.later hbc (nRf _);have uC:=uW.later hbc (nRf _);have vC:=vW.later hbc (nRf _);clear hbc uW vW
   by_cases hgt:val us<val vs*g0
   · rw [cmpI_gt hgt];obtain ⟨m1,m2,m3⟩:=guess_less q1 hgt
     have hle:val vs≤val (digs (val vs*g0)):=by
      rw [val_digs];exact Nat.le_mul_of_pos_right _ m1
     have HLE:=hiD hle;have M3:=hiD m3;have M2:=hiD m2;obtain ⟨g2,hg2⟩:∃ g2,g0-1=g2:=⟨_,rfl⟩;have eg:IntKind.u64.wrap ((g0:Int)-1)=(g2:Int):=by rw [IntKind.wrap_u64];omega
     have hg3:g2<g0:=by omega
     have hg4:g2<18446744073709551616:=by omega
     rw [hg2] at M2 M3;have HG3:=hiD hg3;have HG4:=hiD hg4;have GX:=hiD hg2;clear m1 m2 m3 hle hgt hg2 hg3 hg4 q1 q2
     go_wp2_with fail
     with_reducible refine (sub_yes _ _ _ (digs (val vs*g0)) _ _ _ vs _ pC.toNatAt vC (by have:=lP2.out;omega) HLE.out).mono ?_
     rintro e wd ⟨ad,nd,cd,rfl,hd,hbd⟩;rw [val_digs,M3.out] at hd;have hBd:=bLt hBc hbd;have hd:=hd.mono hBc.size;clear hbd pC uC vC
     go_wp2
     go_step3
     refine ⟨rfl,g2,ad,nd,cd,_,_,_,_,_,_,_,_,_,_,_,_,_,_,_,_,_,_,_,_,_,_,_,_,_,_,_,_,_,_,_,_,_,_,_,_,_,_,_,_,_,_,_,_,_,_,_,_,_,_,_,_,_,_,_,_,_,_,_,_,rfl,M2.out,HG4.out,hd,hBd⟩
   have hcm:cmpI (val vs*g0) (val us)≤0:=by unfold cmpI;split<;>(try split)<;>omega
   obtain ⟨K,hK⟩:∃ K,cmpI (val vs*g0) (val us)=K:=⟨_,rfl⟩;rw [hK] at hcm ⊢;clear hK;obtain ⟨e1,e2⟩:=guess_last hvp q1 (by omega);have hle:val (digs (val vs*g0))≤val us:=by rw [val_digs];omega
   have HLE:=hiD hle;have E1:=hiD e1;have E2:=hiD e2;clear e1 e2 hle hgt q1 q2
   go_wp2_with fail
   with_reducible refine (sub_yes _ _ _ us _ _ _ (digs (val vs*g0)) _ uC.toNatAt pC.toNatAt (by omega) HLE.out).mono ?_
   rintro e wd ⟨ad,nd,cd,rfl,hd,hbd⟩;rw [val_digs,E2.out] at hd;have hBd:=bLt hBc hbd;have uD:=uC.later hbd (nRf _);clear hbd pC uC vC;have hnd:nd≤n:=by rw [← hd.len];exact HRL.out
   obtain ⟨wz,hwz⟩:∃ wz,wd.setCells b o (dv (List.replicate (n+1) 0))=wz:=⟨_,rfl⟩
   have hcl:=fun ty=>Lib.run_clear_slice (P:=Tryz.prog) wd 24 109 ty (.int .u64 0) Tryz.underlying24 zero109 rfl rfl b o (n+1) c (by omega) (fun j hj=>by
    rcases uD.cell with h2 | ⟨b',o',he,hc⟩
    · omega
    · cases he;rw [hc j hj];rfl) (fun j hj=>by
    rcases uD.own with h2 | ⟨b',o',he,_,hf⟩
    · omega
    cases he;exact hf j hj)
   rw [← dv_replicate,hwz] at hcl;have uZ:=uD.setAll (l':=List.replicate (n+1) 0) (by simp) (dig_replicate _);rw [hwz] at uZ
   have hcp:∀ ty,(Builtin.copy_ #[24,24] ty #[.slice (some ⟨b,o,none⟩) (n+1) c,.slice ad nd cd]).run Tryz.prog wz = .ok (goInt ((nd:Nat):Int)) (wz.setCells b o (dv (digs (val us % val vs)))):=by
    intro ty;have hisz:(Tryz.prog.info? 109).map (·.size)=some 1:=by kernel_rfl
    by_cases h0:nd=0
    · subst h0;have e0:digs (val us % val vs)=[]:=List.eq_nil_of_length_eq_zero hd.len;rw [e0];exact run_copy_none wz _ _ ty _ _ _ _ _ _ _ Tryz.underlying24 hisz (by simp)
    rcases hd.cell with h' | ⟨bd,od,rfl,hcd⟩
    · exact absurd h' h0
    rcases hd.own with h' | ⟨bd',od',he,hBd',_⟩
    · exact absurd h' h0
    cases he;have hlen:(dv (digs (val us % val vs))).length=nd:=by rw [dv_length];exact hd.len
    have:=run_copy_cells (P:=Tryz.prog) wz 24 24 ty 109 b o (n+1) c ⟨bd,od,none⟩ nd cd (dv (digs (val us % val vs))) Tryz.underlying24 hisz (by rw [hlen];exact (Nat.min_eq_left (by omega)).symm)
     (fun j v hj => ?_) (fun j hj => ?_) (fun j hj => ?_) (dv_one _)
    · rw [hlen] at this;exact this
    · have hjl:j<nd:=by have:=(List.getElem?_eq_some_iff.1 hj).1;rwa [hlen] at this
      rw [dv_at (by rw [hd.len];exact hjl)] at hj;cases hj;rw [addr_add,← hwz,World.cell?_setCells_out _ _ _ _ _ (fun e=>absurd e (HBB.out bd (nTr hBc.size hBd')))];exact hcd j hjl
    · rcases uZ.cell with h' | ⟨b',o',he,hc⟩
      · omega
      cases he;rw [hc j (by rw [hlen] at hj;omega)];rfl
    rcases uZ.own with h' | ⟨b',o',he,_,hf⟩
    · omega
    cases he;exact hf j (by rw [hlen] at hj;omega)
   clear uD uZ hd
   go_wp2
   simp only [Exit.jump]
   go_ret
   exact ⟨wd,by first | exact rfl | (rw [E1.out];exact rfl),hBd,by rw [hwz]⟩
 rintro a' wr ⟨g,ap,np,cp,u2,u3,u8,u9,u10,u11,u12,u13,u14,u15,u16,u17,u18,u19,u20,u21,u22,u23,u24,u25,u26,u27,u28,u29,u30,u31,u32,u33,u34,u35,u36,u37,u38,u39,u40,u41,u42,u43,u44,u45,u46,u47,u48,u49,u50,u51,u52,u53,u54,u55,u56,u57,u58,u59,u60,u61,u62,u63,u64,u65,rfl,q1,q2,hp,hB⟩;have hvp:=HVP.out;have uW:=h.later hB (nRf _);have vW:=h2.later hB (nRf _);have lP:np≤274877906944:=by have:=hp.len;have:=digs_len_prod (val vs) g;have:=vW.short;have:=digs_length_le.2 (show g<18446744073709551616 ^ 1 by simpa using q2);omega
 have lP2:=hiD lP;clear lP
 go_wp2_with fail
 with_reducible refine (cmp_any _ _ _ (digs (val vs*g)) _ _ _ us _ hp.toNatAt uW.toNatAt).mono ?_
 rintro e wc ⟨rfl,hbc⟩;rw [val_digs];have hBc:=bLt hB hbc;have pC:=hp.later hbc (nRf _);have uC:=uW.later hbc (nRf _);have vC:=vW.later hbc (nRf _);clear hbc uW vW
 by_cases hgt:val us<val vs*g
 · rw [cmpI_gt hgt];obtain ⟨m1,m2,m3⟩:=guess_less q1 hgt
   have hle:val vs≤val (digs (val vs*g)):=by
    rw [val_digs];exact Nat.le_mul_of_pos_right _ m1
   have HLE:=hiD hle;have M3:=hiD m3;have M2:=hiD m2;obtain ⟨g2,hg2⟩:∃ g2,g-1=g2:=⟨_,rfl⟩;have eg:IntKind.u64.wrap ((g:Int)-1)=(g2:Int):=by rw [IntKind.wrap_u64];omega
   have hg3:g2<g:=by omega
   have hg4:g2<18446744073709551616:=by omega
   rw [hg2] at M2 M3;have HG3:=hiD hg3;have HG4:=hiD hg4;have GX:=hiD hg2;clear m1 m2 m3 hle hgt hg2 hg3 hg4 q1 q2
   go_wp2_with fail
   with_reducible refine (sub_yes _ _ _ (digs (val vs*g)) _ _ _ vs _ pC.toNatAt vC (by have:=lP2.out;omega) HLE.out).mono ?_
   rintro e wd ⟨ad,nd,cd,rfl,hd,hbd⟩;rw [val_digs,M3.out] at hd;have hBd:=bLt hBc hbd;have hd:=hd.mono hBc.size;clear hbd pC uC vC
   go_wp2
   go_step3
   refine ⟨rfl,⟨g2,ad,nd,cd,_,_,_,_,_,_,_,_,_,_,_,_,_,_,_,_,_,_,_,_,_,_,_,_,_,_,_,_,_,_,_,_,_,_,_,_,_,_,_,_,_,_,_,_,_,_,_,_,_,_,_,_,_,_,_,_,_,_,_,_,rfl,M2.out,HG4.out,hd,hBd⟩,?_⟩;have:=HG3.out;simp [intOf];try omega
 have hcm:cmpI (val vs*g) (val us)≤0:=by unfold cmpI;split<;>(try split)<;>omega
 obtain ⟨K,hK⟩:∃ K,cmpI (val vs*g) (val us)=K:=⟨_,rfl⟩;rw [hK] at hcm ⊢;clear hK;obtain ⟨e1,e2⟩:=guess_last hvp q1 (by omega);have hle:val (digs (val vs*g))≤val us:=by rw [val_digs];omega
 have HLE:=hiD hle;have E1:=hiD e1;have E2:=hiD e2;clear e1 e2 hle hgt q1 q2
 go_wp2_with fail
 with_reducible refine (sub_yes _ _ _ us _ _ _ (digs (val vs*g)) _ uC.toNatAt pC.toNatAt (by omega) HLE.out).mono ?_
 rintro e wd ⟨ad,nd,cd,rfl,hd,hbd⟩;rw [val_digs,E2.out] at hd;have hBd:=bLt hBc hbd;have uD:=uC.later hbd (nRf _);clear hbd pC uC vC;have hnd:nd≤n:=by rw [← hd.len];exact HRL.out
 obtain ⟨wz,hwz⟩:∃ wz,wd.setCells b o (dv (List.replicate (n+1) 0))=wz:=⟨_,rfl⟩
 have hcl:=fun ty=>Lib.run_clear_slice (P:=Tryz.prog) wd 24 109 ty (.int .u64 0) Tryz.underlying24 zero109 rfl rfl b o (n+1) c (by omega) (fun j hj=>by
  rcases uD.cell with h2 | ⟨b',o',he,hc⟩
  · omega
  · cases he;rw [hc j hj];rfl) (fun j hj=>by
  rcases uD.own with h2 | ⟨b',o',he,_,hf⟩
  · omega
  cases he;exact hf j hj)
 rw [← dv_replicate,hwz] at hcl;have uZ:=uD.setAll (l':=List.replicate (n+1) 0) (by simp) (dig_replicate _);rw [hwz] at uZ
 have hcp:∀ ty,(Builtin.copy_ #[24,24] ty #[.slice (some ⟨b,o,none⟩) (n+1) c,.slice ad nd cd]).run Tryz.prog wz = .ok (goInt ((nd:Nat):Int)) (wz.setCells b o (dv (digs (val us % val vs)))):=by
  intro ty;have hisz:(Tryz.prog.info? 109).map (·.size)=some 1:=by kernel_rfl
  by_cases h0:nd=0
  · subst h0;have e0:digs (val us % val vs)=[]:=List.eq_nil_of_length_eq_zero hd.len;rw [e0];exact run_copy_none wz _ _ ty _ _ _ _ _ _ _ Tryz.underlying24 hisz (by simp)
  rcases hd.cell with h' | ⟨bd,od,rfl,hcd⟩
  · exact absurd h' h0
  rcases hd.own with h' | ⟨bd',od',he,hBd',_⟩
  · exact absurd h' h0
  cases he;have hlen:(dv (digs (val us % val vs))).length=nd:=by rw [dv_length];exact hd.len
  have:=run_copy_cells (P:=Tryz.prog) wz 24 24 ty 109 b o (n+1) c ⟨bd,od,none⟩ nd cd (dv (digs (val us % val vs))) Tryz.underlying24 hisz (by rw [hlen];exact (Nat.min_eq_left (by omega)).symm)
   (fun j v hj => ?_) (fun j hj => ?_) (fun j hj => ?_) (dv_one _)
  · rw [hlen] at this;exact this
  · have hjl:j<nd:=by have:=(List.getElem?_eq_some_iff.1 hj).1;rwa [hlen] at this
    rw [dv_at (by rw [hd.len];exact hjl)] at hj;cases hj;rw [addr_add,← hwz,World.cell?_setCells_out _ _ _ _ _ (fun e=>absurd e (HBB.out bd (nTr hBc.size hBd')))];exact hcd j hjl
  · rcases uZ.cell with h' | ⟨b',o',he,hc⟩
    · omega
    cases he;rw [hc j (by rw [hlen] at hj;omega)];rfl
  rcases uZ.own with h' | ⟨b',o',he,_,hf⟩
  · omega
  cases he;exact hf j (by rw [hlen] at hj;omega)
 clear uD uZ hd
 go_wp2
 simp only [Exit.jump]
 go_ret
 exact ⟨wd,by first | exact rfl | (rw [E1.out];exact rfl),hBd,by rw [hwz]⟩
end Go.Proofs.YtkhcblihbalnbaaGreatDoor
