import Derived.Test.YtkhcblihbalnbaaGreatDoorLimbs9Pb
import Derived.Test.YtkhcblihbalnbaaGreatDoorTimes1Pb
set_option linter.unusedVariables false
set_option linter.unusedSimpArgs false
set_option maxHeartbeats 4000000
set_option maxRecDepth 100000
namespace Go.Proofs.YtkhcblihbalnbaaGreatDoor
open Go.RowKit
theorem lz64_any (x:Nat) (w:World) (h:x<18446744073709551616) :
 Calls Tryz.prog 214 #[.int .u64 (x:Int)] w fun e w'=>e = .returned (.int .i64 ((64-nbits x:Nat):Int))∧w=w':=by
 have hb:=nbits_le (n:=x) (k:=64) (nLt h (by decide))
 go_enter Tryz.func214,Tryz.ntmps214
 go_wp2_with fail
 with_reducible refine (len64_any x _ h).mono ?_
 rintro e w' ⟨rfl,rfl⟩
 go_wp2
 go_ret
 exact ⟨ret_int (by omega),rfl⟩
def RetQ (w:World) (v:Value) (e:Ending) (w':World):Prop:=e = .returned v∧∃ m,w'=w.drewN m
theorem div64_zero (lo y:Nat) (w:World) (hy:0<y) (hy2:y<18446744073709551616) (hlo:lo<18446744073709551616) :
 Calls Tryz.prog 201 #[.int .u64 0,.int .u64 (lo:Int),.int .u64 (y:Int)] w (RetQ w (.tuple #[.int .u64 ((lo/y:Nat):Int),.int .u64 ((lo % y:Nat):Int)])):=by
 have h1:((y:Int) == 0)=false:=by simp;omega
 have h2:decide ((y:Int)≤0)=false:=by simp;omega
 have h3:¬ (y:Int)=0:=by omega
 have v1:IntKind.u64.wrap ((lo:Int)/(y:Int))=((lo/y:Nat):Int):=by
  have:=Nat.div_le_self lo y;rw [← Int.natCast_ediv];exact wrapN _ (by omega)
 have V1:=hiD v1;clear hy hy2 hlo v1
 go_enter Tryz.func201,Tryz.ntmps201
 go_wp2_with fail
 go_quiet (fail)
 rw [V1.out]
 go_wp2
 go_ret2
 exact ⟨by rw [Int.natCast_emod];rfl,_,rfl⟩
theorem div64_parts {h lo y s:Nat} (hs:s+nbits y=64) (hy:h<y) (hy2:y<18446744073709551616) (hlo:lo<18446744073709551616) :
 ∃ Y d1 d0 Hs Ls U L u1 u0:Nat,IntKind.u64.wrap ((y:Int)*2 ^ s)=(Y:Int)∧(Y:Int)/4294967296=(d1:Int)∧bits .and .u64 (Y:Int) 4294967295=(d0:Int) ∧
  IntKind.u64.wrap ((h:Int)*2 ^ s)=(Hs:Int)∧(lo:Int)/2 ^ (64-s)=(Ls:Int)∧bits .or .u64 (Hs:Int) (Ls:Int)=(U:Int)∧IntKind.u64.wrap ((lo:Int)*2 ^ s)=(L:Int)∧(L:Int)/4294967296=(u1:Int)∧bits .and .u64 (L:Int) 4294967295=(u0:Int) ∧
  Y=d1*4294967296+d0∧2147483648≤d1∧d1<4294967296∧d0<4294967296∧u1<4294967296∧u0<4294967296∧U<Y∧Y=y*2 ^ s ∧
  (U*4294967296+u1)*4294967296+u0=(h*18446744073709551616+lo)*2 ^ s:=by
 have hy0:y≠0:=by omega
 have hlow:=nbits_low hy0;have hup:=nbits_lt y;have hn1:0<nbits y:=nbits_gt (by rw [Nat.pow_zero];omega)
 have hY:y*2 ^ s<18446744073709551616:=by
  have:y*2 ^ s<2 ^ nbits y*2 ^ s:=Nat.mul_lt_mul_of_pos_right hup (Nat.pow_pos (by decide));rw [← Nat.pow_add,show nbits y+s=64 by omega] at this;exact this
 have hY2:9223372036854775808≤y*2 ^ s:=by
  have:2 ^ (nbits y-1)*2 ^ s≤y*2 ^ s:=Nat.mul_le_mul_right _ hlow;rw [← Nat.pow_add,show nbits y-1+s=63 by omega] at this;exact this
 have hH:(h+1)*2 ^ s≤y*2 ^ s:=Nat.mul_le_mul_right _ hy;have hps:0<2 ^ s:=Nat.pow_pos (by decide);have hpe:2 ^ (64-s)*2 ^ s=18446744073709551616:=by rw [← Nat.pow_add,show 64-s+s=64 by omega]
 have hLs:lo/2 ^ (64-s)<2 ^ s:=by
  rw [Nat.div_lt_iff_lt_mul (Nat.pow_pos (by decide)),Nat.mul_comm,hpe];exact hlo
 have hor:(h*2 ^ s) ||| (lo/2 ^ (64-s))=lo/2 ^ (64-s)+h*2 ^ s:=by
  rw [Nat.or_comm,Nat.mul_comm h];exact or_add hLs
 rw [Nat.add_mul,Nat.one_mul] at hH
 refine ⟨y*2 ^ s,y*2 ^ s/4294967296,y*2 ^ s % 4294967296,h*2 ^ s,lo/2 ^ (64-s),lo/2 ^ (64-s)+h*2 ^ s,lo*2 ^ s % 18446744073709551616,lo*2 ^ s % 18446744073709551616/4294967296,lo*2 ^ s % 18446744073709551616 % 4294967296,
  ?_,divN _,maskN _ hY,?_,?_,?_,?_,divN _,maskN _ (Nat.mod_lt _ (by decide)),by omega,by omega,by omega,by omega,by omega,by omega,by omega,rfl,?_⟩
 · rw [show (y:Int)*2 ^ s=((y*2 ^ s:Nat):Int) by push_cast;rfl];exact wrapN _ hY
 · rw [show (h:Int)*2 ^ s=((h*2 ^ s:Nat):Int) by push_cast;rfl];exact wrapN _ (by omega)
 · push_cast;rfl
 · rw [u64_or_nat _ _ (by omega) (by omega),hor]
 · rw [show (lo:Int)*2 ^ s=((lo*2 ^ s:Nat):Int) by push_cast;rfl];exact wrapM _
 have e1:=Nat.div_add_mod (lo*2 ^ s % 18446744073709551616) 4294967296;have e2:=Nat.div_add_mod (lo*2 ^ s) 18446744073709551616
 have e3:lo*2 ^ s/18446744073709551616=lo/2 ^ (64-s):=by
  rw [← hpe,Nat.mul_div_mul_right _ _ hps]
 rw [e3] at e2;rw [Nat.add_mul (h*18446744073709551616),Nat.mul_assoc h,Nat.mul_comm 18446744073709551616,← Nat.mul_assoc h];generalize lo*2 ^ s % 18446744073709551616=p at *;generalize h*2 ^ s=q at *;generalize lo*2 ^ s=r at *;generalize lo/2 ^ (64-s)=x at *;omega
theorem guess_vals {U u d0 d1 q r:Nat} (g:Guess U 0 u d0 d1 q r) (hd1':d1<4294967296) (hd0:d0<4294967296) (hu:u<4294967296) :
 IntKind.u64.wrap (4294967296*(r:Int))=((4294967296*r:Nat):Int)∧IntKind.u64.wrap (((4294967296*r:Nat):Int)+(u:Int))=((4294967296*r+u:Nat):Int) ∧
 (q<4294967296→IntKind.u64.wrap ((q:Int)*(d0:Int))=((q*d0:Nat):Int))∧IntKind.u64.wrap ((r:Int)+(d1:Int))=((r+d1:Nat):Int)∧(0<q→IntKind.u64.wrap ((q:Int)-1)=((q-1:Nat):Int)):=by
 have hr:=g.lt;have hq:=g.le;refine ⟨?_,?_,fun h => ?_,?_,fun h => ?_⟩
 · rw [IntKind.wrap_u64];omega
 · rw [IntKind.wrap_u64];omega
 · rw [mulN]
   have:q*d0≤4294967296*4294967296-1:=by
    have h1:q*d0≤4294967295*4294967295:=Nat.mul_le_mul (by omega) (by omega);omega
   exact wrapN _ (by omega)
 · rw [IntKind.wrap_u64];omega
 rw [IntKind.wrap_u64];omega
theorem rest_vals {U u Y Q:Nat} (hY:Y<18446744073709551616) (hY0:0<Y) (hQ:Q=(U*4294967296+u)/Y) :
 IntKind.u64.wrap (IntKind.u64.wrap (IntKind.u64.wrap ((U:Int)*4294967296)+(u:Int))-IntKind.u64.wrap ((Q:Int)*(Y:Int)))=(((U*4294967296+u) % Y:Nat):Int):=by
 have h1:=Nat.div_add_mod (U*4294967296+u) Y;rw [← hQ] at h1;have h2:=Nat.mod_lt (U*4294967296+u) hY0;have e:(Q:Int)*(Y:Int)=((Y*Q:Nat):Int):=by rw [mulN,Nat.mul_comm]
 rw [e];generalize (U*4294967296+u) % Y=R at *;generalize Y*Q=z at *;rw [IntKind.wrap_u64,IntKind.wrap_u64,IntKind.wrap_u64,IntKind.wrap_u64];omega
theorem ret_two {a b c d:Int} (h1:a=b) (h2:c=d):Ending.returned (.tuple #[.int .u64 a,.int .u64 c]) = .returned (.tuple #[.int .u64 b,.int .u64 d]):=by rw [h1,h2]
theorem div64_yn {Y d1 d0:Nat} (hY:Y=d1*4294967296+d0) (h1:2147483648≤d1):0<Y:=by omega
theorem div64_pos (h lo y s:Nat) (w:World) (hs:64-nbits y=s) (hh:0<h) (hy:h<y) (hy2:y<18446744073709551616) (hlo:lo<18446744073709551616) :
 Calls Tryz.prog 201 #[.int .u64 (h:Int),.int .u64 (lo:Int),.int .u64 (y:Int)] w (RetQ w (.tuple #[.int .u64 (((h*18446744073709551616+lo)/y:Nat):Int),.int .u64 (((h*18446744073709551616+lo) % y:Nat):Int)])):=by
 have hb:=nbits_le (n:=y) (k:=64) (nLt hy2 (by decide))
 have hsm:s≤63:=by
  have:0<nbits y:=nbits_gt (by rw [Nat.pow_zero];omega);omega
 obtain ⟨Y,d1,d0,Hs,Ls,U,L,u1,u0,v1,v2,v3,v4,v5,v6,v7,v8,v9,eY,k1,k2,k3,k4,k5,hU,eYs,eN⟩:=div64_parts (h:=h) (lo:=lo) (y:=y) (s:=s) (by omega) hy hy2 hlo;have hY0:=div64_yn eY k1;have hYlt:Y<18446744073709551616:=by omega
 have g0:=guess_start (h:=U) (u:=u1) k1 k2 k3 k4 (by rw [← eY];exact hU)
 have b1:IntKind.u64.wrap ((U:Int)/(d1:Int))=((U/d1:Nat):Int):=by
  have:=Nat.div_le_self U d1;rw [← Int.natCast_ediv];exact wrapN _ (by omega)
 have b2:IntKind.u64.wrap ((U:Int)-IntKind.u64.wrap (((U/d1:Nat):Int)*(d1:Int)))=((U % d1:Nat):Int):=by
  have e1:=Nat.div_add_mod U d1;rw [show ((U/d1:Nat):Int)*(d1:Int)=((d1*(U/d1):Nat):Int) by rw [mulN,Nat.mul_comm]];generalize d1*(U/d1)=z at *;rw [IntKind.wrap_u64,IntKind.wrap_u64];omega
 obtain ⟨R,hR⟩:∃ R,(U*4294967296+u1) % Y=R:=⟨_,rfl⟩;have hRY:R<Y:=by rw [← hR];exact Nat.mod_lt _ hY0
 obtain ⟨Q1,hQ1⟩:∃ Q1,(U*4294967296+u1)/Y=Q1:=⟨_,rfl⟩;obtain ⟨Q0,hQ0⟩:∃ Q0,(R*4294967296+u0)/Y=Q0:=⟨_,rfl⟩;have g1:=guess_start (h:=R) (u:=u0) k1 k2 k3 k5 (by rw [← eY];exact hRY);have hQ1lt:Q1<4294967296:=by rw [← hQ1,eY];exact guess_pre k1 k2 k3 k4 (by rw [← eY];exact hU)
 have hQ0lt:Q0<4294967296:=by rw [← hQ0,eY];exact guess_pre k1 k2 k3 k5 (by rw [← eY];exact hRY)
 have r1:=rest_vals (U:=U) (u:=u1) hYlt hY0 hQ1.symm;rw [hR] at r1
 have c1:IntKind.u64.wrap ((R:Int)/(d1:Int))=((R/d1:Nat):Int):=by
  have:=Nat.div_le_self R d1;rw [← Int.natCast_ediv];exact wrapN _ (by omega)
 have c2:IntKind.u64.wrap ((R:Int)-IntKind.u64.wrap (((R/d1:Nat):Int)*(d1:Int)))=((R % d1:Nat):Int):=by
  have e1:=Nat.div_add_mod R d1;rw [show ((R/d1:Nat):Int)*(d1:Int)=((d1*(R/d1):Nat):Int) by rw [mulN,Nat.mul_comm]];generalize d1*(R/d1)=z at *;rw [IntKind.wrap_u64,IntKind.wrap_u64];omega
 have r0:=rest_vals (U:=R) (u:=u0) hYlt hY0 hQ0.symm;obtain ⟨d1',d2'⟩:=div_halves (h:=U) (u1:=u1) (u0:=u0) hY0;rw [hR] at d1' d2';have hfin:=div_moved (n:=h*18446744073709551616+lo) (y:=y) (s:=s) (by omega);rw [← eN,← eYs,d1',d2',hQ1,hQ0] at hfin
 have o1:IntKind.u64.wrap (IntKind.u64.wrap ((Q1:Int)*4294967296)+(Q0:Int))=((Q1*4294967296+Q0:Nat):Int):=by
  rw [IntKind.wrap_u64,IntKind.wrap_u64];omega
 have o2:(((R*4294967296+u0) % Y:Nat):Int)/2 ^ s=(((R*4294967296+u0) % Y/2 ^ s:Nat):Int):=by rw [Int.natCast_ediv _ (2 ^ s),Int.natCast_pow];rfl
 have o1a:IntKind.u64.wrap ((Q1:Int)*4294967296+(Q0:Int))=((Q1*4294967296+Q0:Nat):Int):=by rw [IntKind.wrap_u64];omega
 have o1b:(Q1:Int)*4294967296+(Q0:Int)=((Q1*4294967296+Q0:Nat):Int):=by omega
 obtain ⟨Z,hZ⟩:∃ Z,(R*4294967296+u0) % Y=Z:=⟨_,rfl⟩;rw [hZ] at r0 o2 hfin;obtain ⟨O,hO⟩:∃ O,Q1*4294967296+Q0=O:=⟨_,rfl⟩;obtain ⟨PP,hPP⟩:∃ PP,Z/2 ^ s=PP:=⟨_,rfl⟩;rw [hO] at o1 o1a o1b hfin;rw [hPP] at o2 hfin;obtain ⟨q0,hq0⟩:∃ q0,U/d1=q0:=⟨_,rfl⟩;obtain ⟨m0,hm0⟩:∃ m0,U % d1=m0:=⟨_,rfl⟩;obtain ⟨q0',hq0'⟩:∃ q0,R/d1=q0:=⟨_,rfl⟩;obtain ⟨m0',hm0'⟩:∃ m0,R % d1=m0:=⟨_,rfl⟩;rw [hq0] at b1 b2 g0;rw [hm0] at b2 g0;rw [hq0'] at c1 c2 g1;rw [hm0'] at c2 g1;rw [← hfin.1,← hfin.2];have h1:((y:Int) == 0)=false:=beq_eq_false_iff_ne.2 (by omega);have h2:decide (y≤h)=false:=decide_eq_false (by omega);have h3:((h:Int) == 0)=false:=beq_eq_false_iff_ne.2 (by omega);have h4:¬ (d1:Int)=0:=by omega
 have h5:((d1:Int) == 0)=false:=beq_eq_false_iff_ne.2 (by omega);have eyr:IntKind.u64.wrap (64-(s:Int))=64-(s:Int):=by rw [IntKind.wrap_u64];omega
 have ey64:(64-(s:Int)).toNat=64-s:=by omega
 have HS:=hiD hs;have HY2:=hiD hy2;have V1:=hiD v1;have V2:=hiD v2;have V3:=hiD v3;have V4:=hiD v4;have V5:=hiD v5;have V6:=hiD v6;have V7:=hiD v7;have V8:=hiD v8;have V9:=hiD v9;have B1:=hiD b1;have B2:=hiD b2;have C1:=hiD c1;have C2:=hiD c2;have R1:=hiD r1;have R0:=hiD r0;have O1:=hiD o1;have O1a:=hiD o1a;have O1b:=hiD o1b;have O2:=hiD o2;have G0:=hiD g0;have G1:=hiD g1;have K1:=hiD k1;have K2:=hiD k2;have K3:=hiD k3;have K4:=hiD k4;have K5:=hiD k5;have HU:=hiD hU;have EY:=hiD eY;have HQ1:=hiD hQ1;have HQ0:=hiD hQ0;have HQ1L:=hiD hQ1lt;have HQ0L:=hiD hQ0lt;have HRY:=hiD hRY;clear hs hb hh hy hy2 hlo v1 v2 v3 v4 v5 v6 v7 v8 v9 eY k1 k2 k3 k4 k5 hU eYs eN hY0 hYlt g0 b1 b2 hR hRY hQ1 hQ0 g1 hQ1lt hQ0lt r1 c1 c2 r0 d1' d2' hfin o1 o1a o1b o2 hZ hO hPP hq0 hm0 hq0' hm0'
 go_enter Tryz.func201,Tryz.ntmps201
 go_wp2_with fail
 with_reducible refine (lz64_any y _ HY2.out).mono ?_
 rintro e w' ⟨rfl,rfl⟩;rw [HS.out];have v1:=V1.out;have v2:=V2.out;have v3:=V3.out;have v4:=V4.out;have v5:=V5.out;have v6:=V6.out;have v7:=V7.out;have v8:=V8.out;have v9:=V9.out;have b1:=B1.out;have b2:=B2.out
 go_wp2
 clear v1 v2 v3 v4 v5 v6 v7 v8 v9 b1 b2
 go_loop [15,16] (fun q r=>∃ q' r':Nat,q = .int .u64 (q':Int)∧r = .int .u64 (r':Int)∧Guess U 0 u1 d0 d1 q' r') (fun q _=>(intOf q).toNat)
 case atStart=>exact ⟨_,_,rfl,rfl,G0.out⟩
 case round =>
  obtain ⟨q,r,rfl,rfl,g⟩:=hrel;obtain ⟨e1,e2,e3,e4,e5⟩:=guess_vals g K2.out K3.out K4.out;obtain ⟨S,hS⟩:∃ S,4294967296*r=S:=⟨_,rfl⟩;rw [hS] at e1 e2;obtain ⟨T,hT⟩:∃ T,S+u1=T:=⟨_,rfl⟩;rw [hT] at e2;obtain ⟨r2,hr2⟩:∃ r2,r+d1=r2:=⟨_,rfl⟩;rw [hr2] at e4;obtain ⟨q2,hq2⟩:∃ q2,q-1=q2:=⟨_,rfl⟩;rw [hq2] at e5;obtain ⟨Z1,hZ1⟩:∃ Z1,q*d0=Z1:=⟨_,rfl⟩;rw [hZ1] at e3;have hTr:T=4294967296*r+u1:=by omega
  have hUY:U<d1*4294967296+d0:=by rw [← EY.out];exact HU.out
  have hgv:=g.le;have HT:=hiD hTr;have HR2:=hiD hr2;have HQ2:=hiD hq2;have HZ1:=hiD hZ1;have HG:=hiD g;clear hS hT hr2 hq2 hZ1 hTr g
  by_cases hq:q<4294967296
  · have e3:=e3 hq;have hqd:decide (4294967296≤(q:Int))=false:=decide_eq_false (by omega)
    by_cases hcc:T<Z1
    · have hcd:decide (T<Z1)=true:=decide_eq_true hcc;have hc:4294967296≤q∨4294967296*r+u1<q*d0:=.inr (by rw [← HT.out,HZ1.out];exact hcc);obtain ⟨m1,m2,m3,m4⟩:=guess_down HG.out K1.out K2.out K3.out K4.out hUY hc;have e5:=e5 m1;have HC:=hiD hc
      by_cases hr:r2<4294967296
      · have g2:=guess_next HG.out K1.out K2.out K3.out K4.out hUY HC.out (by rw [HR2.out];exact hr);rw [HQ2.out,HR2.out] at g2;have hrd:decide (4294967296≤(r2:Int))=false:=decide_eq_false (by omega);have hlt:q2<q:=by have:=HQ2.out;omega
        clear hc m1 m2 m3 m4 hr hUY hgv
        go_wp2
        go_round
        case rel=>exact ⟨q2,r2,rfl,rfl,g2⟩
        case measure=>simp [intOf];omega
      have hrd:decide (4294967296≤(r2:Int))=true:=decide_eq_true (by omega);have hend:=guess_stop HG.out K1.out K2.out K3.out K4.out hUY HC.out (by rw [HR2.out];omega);rw [HQ2.out,← EY.out,HQ1.out] at hend;obtain rfl:Q1=q2:=hend.symm;clear hc m1 m2 m3 m4 hr hUY hgv;have x1:=R1.out;have c1:=C1.out;have c2:=C2.out
      go_wp2
      clear e1 e2 e4 e5 hqd;try clear e3
      try clear hcd
      try clear hrd
      clear x1 c1 c2
      go_loop [18,16] (fun q r=>∃ q' r':Nat,q = .int .u64 (q':Int)∧r = .int .u64 (r':Int)∧Guess R 0 u0 d0 d1 q' r') (fun q _=>(intOf q).toNat)
      case atStart=>exact ⟨_,_,rfl,rfl,G1.out⟩
      case round =>
       obtain ⟨q,r,rfl,rfl,g⟩:=hrel;obtain ⟨e1,e2,e3,e4,e5⟩:=guess_vals g K2.out K3.out K5.out;obtain ⟨S,hS⟩:∃ S,4294967296*r=S:=⟨_,rfl⟩;rw [hS] at e1 e2;obtain ⟨T,hT⟩:∃ T,S+u0=T:=⟨_,rfl⟩;rw [hT] at e2;obtain ⟨r2,hr2⟩:∃ r2,r+d1=r2:=⟨_,rfl⟩;rw [hr2] at e4;obtain ⟨q2,hq2⟩:∃ q2,q-1=q2:=⟨_,rfl⟩;rw [hq2] at e5;obtain ⟨Z1,hZ1⟩:∃ Z1,q*d0=Z1:=⟨_,rfl⟩;rw [hZ1] at e3;have hTr:T=4294967296*r+u0:=by omega
       have hUY:R<d1*4294967296+d0:=by rw [← EY.out];exact HRY.out
       have hgv:=g.le;have HT:=hiD hTr;have HR2:=hiD hr2;have HQ2:=hiD hq2;have HZ1:=hiD hZ1;have HG:=hiD g;clear hS hT hr2 hq2 hZ1 hTr g
       by_cases hq:q<4294967296
       · have e3:=e3 hq;have hqd:decide (4294967296≤(q:Int))=false:=decide_eq_false (by omega)
         by_cases hcc:T<Z1
         · have hcd:decide (T<Z1)=true:=decide_eq_true hcc;have hc:4294967296≤q∨4294967296*r+u0<q*d0:=.inr (by rw [← HT.out,HZ1.out];exact hcc);obtain ⟨m1,m2,m3,m4⟩:=guess_down HG.out K1.out K2.out K3.out K5.out hUY hc;have e5:=e5 m1;have HC:=hiD hc
           by_cases hr:r2<4294967296
           · have g2:=guess_next HG.out K1.out K2.out K3.out K5.out hUY HC.out (by rw [HR2.out];exact hr);rw [HQ2.out,HR2.out] at g2;have hrd:decide (4294967296≤(r2:Int))=false:=decide_eq_false (by omega);have hlt:q2<q:=by have:=HQ2.out;omega
             clear hc m1 m2 m3 m4 hr hUY hgv
             go_wp2
             go_round
             case rel=>exact ⟨q2,r2,rfl,rfl,g2⟩
             case measure=>simp [intOf];omega
           have hrd:decide (4294967296≤(r2:Int))=true:=decide_eq_true (by omega);have hend:=guess_stop HG.out K1.out K2.out K3.out K5.out hUY HC.out (by rw [HR2.out];omega);rw [HQ2.out,← EY.out,HQ0.out] at hend;obtain rfl:Q0=q2:=hend.symm;clear hc m1 m2 m3 m4 hr hUY hgv;have z0:=R0.out;have o2:=O2.out
           go_wp2
           go_ret2
           exact ⟨ret_two (by first | exact O1.out | exact O1b.out | exact O1a.out) (by rfl),0,rfl⟩
         have hcd:decide (T<Z1)=false:=decide_eq_false hcc;have hend:=guess_end HG.out K1.out (by rw [← HT.out,HZ1.out];omega);rw [← EY.out,HQ0.out] at hend;obtain rfl:Q0=q:=hend.symm;clear hUY hgv;have z0:=R0.out;have o2:=O2.out
         go_wp2
         go_ret2
         exact ⟨ret_two (by first | exact O1.out | exact O1b.out | exact O1a.out) (by rfl),0,rfl⟩
       have hqd:decide (4294967296≤(q:Int))=true:=decide_eq_true (by omega);clear e3;have hc:4294967296≤q∨4294967296*r+u0<q*d0:=.inl (by omega);obtain ⟨m1,m2,m3,m4⟩:=guess_down HG.out K1.out K2.out K3.out K5.out hUY hc;have e5:=e5 m1;have HC:=hiD hc
       by_cases hr:r2<4294967296
       · have g2:=guess_next HG.out K1.out K2.out K3.out K5.out hUY HC.out (by rw [HR2.out];exact hr);rw [HQ2.out,HR2.out] at g2;have hrd:decide (4294967296≤(r2:Int))=false:=decide_eq_false (by omega);have hlt:q2<q:=by have:=HQ2.out;omega
         clear hc m1 m2 m3 m4 hr hUY hgv
         go_wp2
         go_round
         case rel=>exact ⟨q2,r2,rfl,rfl,g2⟩
         case measure=>simp [intOf];omega
       have hrd:decide (4294967296≤(r2:Int))=true:=decide_eq_true (by omega);have hend:=guess_stop HG.out K1.out K2.out K3.out K5.out hUY HC.out (by rw [HR2.out];omega);rw [HQ2.out,← EY.out,HQ0.out] at hend;obtain rfl:Q0=q2:=hend.symm;clear hc m1 m2 m3 m4 hr hUY hgv;have z0:=R0.out;have o2:=O2.out
       go_wp2
       go_ret2
       exact ⟨ret_two (by first | exact O1.out | exact O1b.out | exact O1a.out) (by rfl),0,rfl⟩
    have hcd:decide (T<Z1)=false:=decide_eq_false hcc;have hend:=guess_end HG.out K1.out (by rw [← HT.out,HZ1.out];omega);rw [← EY.out,HQ1.out] at hend;obtain rfl:Q1=q:=hend.symm;clear hUY hgv;have x1:=R1.out;have c1:=C1.out;have c2:=C2.out
    go_wp2
    clear e1 e2 e4 e5 hqd;try clear e3
    try clear hcd
    try clear hrd
    clear x1 c1 c2
    go_loop [18,16] (fun q r=>∃ q' r':Nat,q = .int .u64 (q':Int)∧r = .int .u64 (r':Int)∧Guess R 0 u0 d0 d1 q' r') (fun q _=>(intOf q).toNat)
    case atStart=>exact ⟨_,_,rfl,rfl,G1.out⟩
    case round =>
     obtain ⟨q,r,rfl,rfl,g⟩:=hrel;obtain ⟨e1,e2,e3,e4,e5⟩:=guess_vals g K2.out K3.out K5.out;obtain ⟨S,hS⟩:∃ S,4294967296*r=S:=⟨_,rfl⟩;rw [hS] at e1 e2;obtain ⟨T,hT⟩:∃ T,S+u0=T:=⟨_,rfl⟩;rw [hT] at e2;obtain ⟨r2,hr2⟩:∃ r2,r+d1=r2:=⟨_,rfl⟩;rw [hr2] at e4;obtain ⟨q2,hq2⟩:∃ q2,q-1=q2:=⟨_,rfl⟩;rw [hq2] at e5;obtain ⟨Z1,hZ1⟩:∃ Z1,q*d0=Z1:=⟨_,rfl⟩;rw [hZ1] at e3;have hTr:T=4294967296*r+u0:=by omega
     have hUY:R<d1*4294967296+d0:=by rw [← EY.out];exact HRY.out
     have hgv:=g.le;have HT:=hiD hTr;have HR2:=hiD hr2;have HQ2:=hiD hq2;have HZ1:=hiD hZ1;have HG:=hiD g;clear hS hT hr2 hq2 hZ1 hTr g
     by_cases hq:q<4294967296
     · have e3:=e3 hq;have hqd:decide (4294967296≤(q:Int))=false:=decide_eq_false (by omega)
       by_cases hcc:T<Z1
       · have hcd:decide (T<Z1)=true:=decide_eq_true hcc;have hc:4294967296≤q∨4294967296*r+u0<q*d0:=.inr (by rw [← HT.out,HZ1.out];exact hcc);obtain ⟨m1,m2,m3,m4⟩:=guess_down HG.out K1.out K2.out K3.out K5.out hUY hc;have e5:=e5 m1;have HC:=hiD hc
         by_cases hr:r2<4294967296
         · have g2:=guess_next HG.out K1.out K2.out K3.out K5.out hUY HC.out (by rw [HR2.out];exact hr);rw [HQ2.out,HR2.out] at g2;have hrd:decide (4294967296≤(r2:Int))=false:=decide_eq_false (by omega);have hlt:q2<q:=by have:=HQ2.out;omega
           clear hc m1 m2 m3 m4 hr hUY hgv
           go_wp2
           go_round
           case rel=>exact ⟨q2,r2,rfl,rfl,g2⟩
           case measure=>simp [intOf];omega
         have hrd:decide (4294967296≤(r2:Int))=true:=decide_eq_true (by omega);have hend:=guess_stop HG.out K1.out K2.out K3.out K5.out hUY HC.out (by rw [HR2.out];omega);rw [HQ2.out,← EY.out,HQ0.out] at hend;obtain rfl:Q0=q2:=hend.symm;clear hc m1 m2 m3 m4 hr hUY hgv;have z0:=R0.out;have o2:=O2.out
         go_wp2
         go_ret2
         exact ⟨ret_two (by first | exact O1.out | exact O1b.out | exact O1a.out) (by rfl),0,rfl⟩
       have hcd:decide (T<Z1)=false:=decide_eq_false hcc;have hend:=guess_end HG.out K1.out (by rw [← HT.out,HZ1.out];omega);rw [← EY.out,HQ0.out] at hend;obtain rfl:Q0=q:=hend.symm;clear hUY hgv;have z0:=R0.out;have o2:=O2.out
       go_wp2
       go_ret2
       exact ⟨ret_two (by first | exact O1.out | exact O1b.out | exact O1a.out) (by rfl),0,rfl⟩
     have hqd:decide (4294967296≤(q:Int))=true:=decide_eq_true (by omega);clear e3;have hc:4294967296≤q∨4294967296*r+u0<q*d0:=.inl (by omega);obtain ⟨m1,m2,m3,m4⟩:=guess_down HG.out K1.out K2.out K3.out K5.out hUY hc;have e5:=e5 m1;have HC:=hiD hc
     by_cases hr:r2<4294967296
     · have g2:=guess_next HG.out K1.out K2.out K3.out K5.out hUY HC.out (by rw [HR2.out];exact hr);rw [HQ2.out,HR2.out] at g2;have hrd:decide (4294967296≤(r2:Int))=false:=decide_eq_false (by omega);have hlt:q2<q:=by have:=HQ2.out;omega
       clear hc m1 m2 m3 m4 hr hUY hgv
       go_wp2
       go_round
       case rel=>exact ⟨q2,r2,rfl,rfl,g2⟩
       case measure=>simp [intOf];omega
     have hrd:decide (4294967296≤(r2:Int))=true:=decide_eq_true (by omega);have hend:=guess_stop HG.out K1.out K2.out K3.out K5.out hUY HC.out (by rw [HR2.out];omega);rw [HQ2.out,← EY.out,HQ0.out] at hend;obtain rfl:Q0=q2:=hend.symm;clear hc m1 m2 m3 m4 hr hUY hgv;have z0:=R0.out;have o2:=O2.out
     go_wp2
     go_ret2
     exact ⟨ret_two (by first | exact O1.out | exact O1b.out | exact O1a.out) (by rfl),0,rfl⟩
  have hqd:decide (4294967296≤(q:Int))=true:=decide_eq_true (by omega);clear e3;have hc:4294967296≤q∨4294967296*r+u1<q*d0:=.inl (by omega);obtain ⟨m1,m2,m3,m4⟩:=guess_down HG.out K1.out K2.out K3.out K4.out hUY hc;have e5:=e5 m1;have HC:=hiD hc
  by_cases hr:r2<4294967296
  · have g2:=guess_next HG.out K1.out K2.out K3.out K4.out hUY HC.out (by rw [HR2.out];exact hr);rw [HQ2.out,HR2.out] at g2;have hrd:decide (4294967296≤(r2:Int))=false:=decide_eq_false (by omega);have hlt:q2<q:=by have:=HQ2.out;omega
    clear hc m1 m2 m3 m4 hr hUY hgv
    go_wp2
    go_round
    case rel=>exact ⟨q2,r2,rfl,rfl,g2⟩
    case measure=>simp [intOf];omega
  have hrd:decide (4294967296≤(r2:Int))=true:=decide_eq_true (by omega);have hend:=guess_stop HG.out K1.out K2.out K3.out K4.out hUY HC.out (by rw [HR2.out];omega);rw [HQ2.out,← EY.out,HQ1.out] at hend;obtain rfl:Q1=q2:=hend.symm;clear hc m1 m2 m3 m4 hr hUY hgv;have x1:=R1.out;have c1:=C1.out;have c2:=C2.out
  go_wp2
  clear e1 e2 e4 e5 hqd;try clear e3
  try clear hcd
  try clear hrd
  clear x1 c1 c2
  go_loop [18,16] (fun q r=>∃ q' r':Nat,q = .int .u64 (q':Int)∧r = .int .u64 (r':Int)∧Guess R 0 u0 d0 d1 q' r') (fun q _=>(intOf q).toNat)
  case atStart=>exact ⟨_,_,rfl,rfl,G1.out⟩
  case round =>
   obtain ⟨q,r,rfl,rfl,g⟩:=hrel;obtain ⟨e1,e2,e3,e4,e5⟩:=guess_vals g K2.out K3.out K5.out;obtain ⟨S,hS⟩:∃ S,4294967296*r=S:=⟨_,rfl⟩;rw [hS] at e1 e2;obtain ⟨T,hT⟩:∃ T,S+u0=T:=⟨_,rfl⟩;rw [hT] at e2;obtain ⟨r2,hr2⟩:∃ r2,r+d1=r2:=⟨_,rfl⟩;rw [hr2] at e4;obtain ⟨q2,hq2⟩:∃ q2,q-1=q2:=⟨_,rfl⟩;rw [hq2] at e5;obtain ⟨Z1,hZ1⟩:∃ Z1,q*d0=Z1:=⟨_,rfl⟩;rw [hZ1] at e3;have hTr:T=4294967296*r+u0:=by omega
   have hUY:R<d1*4294967296+d0:=by rw [← EY.out];exact HRY.out
   have hgv:=g.le;have HT:=hiD hTr;have HR2:=hiD hr2;have HQ2:=hiD hq2;have HZ1:=hiD hZ1;have HG:=hiD g;clear hS hT hr2 hq2 hZ1 hTr g
   by_cases hq:q<4294967296
   · have e3:=e3 hq;have hqd:decide (4294967296≤(q:Int))=false:=decide_eq_false (by omega)
     by_cases hcc:T<Z1
     · have hcd:decide (T<Z1)=true:=decide_eq_true hcc;have hc:4294967296≤q∨4294967296*r+u0<q*d0:=.inr (by rw [← HT.out,HZ1.out];exact hcc);obtain ⟨m1,m2,m3,m4⟩:=guess_down HG.out K1.out K2.out K3.out K5.out hUY hc;have e5:=e5 m1;have HC:=hiD hc
       by_cases hr:r2<4294967296
       · have g2:=guess_next HG.out K1.out K2.out K3.out K5.out hUY HC.out (by rw [HR2.out];exact hr);rw [HQ2.out,HR2.out] at g2;have hrd:decide (4294967296≤(r2:Int))=false:=decide_eq_false (by omega);have hlt:q2<q:=by have:=HQ2.out;omega
         clear hc m1 m2 m3 m4 hr hUY hgv
         go_wp2
         go_round
         case rel=>exact ⟨q2,r2,rfl,rfl,g2⟩
         case measure=>simp [intOf];omega
       have hrd:decide (4294967296≤(r2:Int))=true:=decide_eq_true (by omega);have hend:=guess_stop HG.out K1.out K2.out K3.out K5.out hUY HC.out (by rw [HR2.out];omega);rw [HQ2.out,← EY.out,HQ0.out] at hend;obtain rfl:Q0=q2:=hend.symm;clear hc m1 m2 m3 m4 hr hUY hgv;have z0:=R0.out;have o2:=O2.out
       go_wp2
       go_ret2
       exact ⟨ret_two (by first | exact O1.out | exact O1b.out | exact O1a.out) (by rfl),0,rfl⟩
     have hcd:decide (T<Z1)=false:=decide_eq_false hcc;have hend:=guess_end HG.out K1.out (by rw [← HT.out,HZ1.out];omega);rw [← EY.out,HQ0.out] at hend;obtain rfl:Q0=q:=hend.symm;clear hUY hgv;have z0:=R0.out;have o2:=O2.out
     go_wp2
     go_ret2
     exact ⟨ret_two (by first | exact O1.out | exact O1b.out | exact O1a.out) (by rfl),0,rfl⟩
   have hqd:decide (4294967296≤(q:Int))=true:=decide_eq_true (by omega);clear e3;have hc:4294967296≤q∨4294967296*r+u0<q*d0:=.inl (by omega);obtain ⟨m1,m2,m3,m4⟩:=guess_down HG.out K1.out K2.out K3.out K5.out hUY hc;have e5:=e5 m1;have HC:=hiD hc
   by_cases hr:r2<4294967296
   · have g2:=guess_next HG.out K1.out K2.out K3.out K5.out hUY HC.out (by rw [HR2.out];exact hr);rw [HQ2.out,HR2.out] at g2;have hrd:decide (4294967296≤(r2:Int))=false:=decide_eq_false (by omega);have hlt:q2<q:=by have:=HQ2.out;omega
     clear hc m1 m2 m3 m4 hr hUY hgv
     go_wp2
     go_round
     case rel=>exact ⟨q2,r2,rfl,rfl,g2⟩
     case measure=>simp [intOf];omega
   have hrd:decide (4294967296≤(r2:Int))=true:=decide_eq_true (by omega);have hend:=guess_stop HG.out K1.out K2.out K3.out K5.out hUY HC.out (by rw [HR2.out];omega);rw [HQ2.out,← EY.out,HQ0.out] at hend;obtain rfl:Q0=q2:=hend.symm;clear hc m1 m2 m3 m4 hr hUY hgv;have z0:=R0.out;have o2:=O2.out
   go_wp2
   go_ret2
   exact ⟨ret_two (by first | exact O1.out | exact O1b.out | exact O1a.out) (by rfl),0,rfl⟩
theorem div64_quiet (h lo y:Nat) (w:World) (hy:h<y) (hy2:y<18446744073709551616) (hlo:lo<18446744073709551616) :
 Calls Tryz.prog 201 #[.int .u64 (h:Int),.int .u64 (lo:Int),.int .u64 (y:Int)] w (RetQ w (.tuple #[.int .u64 (((h*18446744073709551616+lo)/y:Nat):Int),.int .u64 (((h*18446744073709551616+lo) % y:Nat):Int)])):=by
 by_cases hh:0<h
 · exact div64_pos h lo y _ w rfl hh hy hy2 hlo
 obtain rfl:h=0:=by omega
 rw [Nat.zero_mul,Nat.zero_add];exact div64_zero lo y w hy hy2 hlo
theorem div64_any (h lo y:Nat) (w:World) (hy:h<y) (hy2:y<18446744073709551616) (hlo:lo<18446744073709551616) :
 Calls Tryz.prog 201 #[.int .u64 (h:Int),.int .u64 (lo:Int),.int .u64 (y:Int)] w (RetVal w (.tuple #[.int .u64 (((h*18446744073709551616+lo)/y:Nat):Int),.int .u64 (((h*18446744073709551616+lo) % y:Nat):Int)])) :=
 (div64_quiet h lo y w hy hy2 hlo).mono fun e w' ⟨he,m,hm⟩=>⟨he,by rw [hm];exact Below.draws (bRf _ _) m⟩
end Go.Proofs.YtkhcblihbalnbaaGreatDoor
