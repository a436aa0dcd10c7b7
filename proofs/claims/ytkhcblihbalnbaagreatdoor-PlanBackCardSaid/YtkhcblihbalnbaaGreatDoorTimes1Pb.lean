import Derived.Lib.Mul64
import Derived.Deep.RegionWith
import Derived.Test.YtkhcblihbalnbaaGreatDoorLimbs1Pb
set_option linter.unusedVariables false
set_option linter.unusedSimpArgs false
set_option maxHeartbeats 2000000
set_option maxRecDepth 100000
namespace Go.Proofs.YtkhcblihbalnbaaGreatDoor
open Go.RowKit
theorem maskN (a:Nat) (ha:a<18446744073709551616):bits .and .u64 (a:Int) 4294967295=((a % 4294967296:Nat):Int):=by
 have h:=bits_and_u64_nat a 4294967295 ha (by omega);have e:a &&& 4294967295=a % 4294967296:=Nat.and_two_pow_sub_one_eq_mod a 32;rw [e] at h;exact h
theorem divN (a:Nat):(a:Int)/4294967296=((a/4294967296:Nat):Int):=by omega
theorem mulN (a b:Nat):(a:Int)*(b:Int)=((a*b:Nat):Int):=(Int.natCast_mul a b).symm
theorem addN (a b:Nat):(a:Int)+(b:Int)=((a+b:Nat):Int):=(Int.natCast_add a b).symm
theorem wrapN (a:Nat) (ha:a<18446744073709551616):IntKind.u64.wrap (a:Int)=(a:Int):=by rw [IntKind.wrap_u64];omega
theorem wrapM (a:Nat):IntKind.u64.wrap (a:Int)=((a % 18446744073709551616:Nat):Int):=by rw [IntKind.wrap_u64];omega
theorem mul64_any (x y:Nat) (hx:x<18446744073709551616) (hy:y<18446744073709551616) (w:World) :
 Calls Tryz.prog 232 #[.int .u64 x,.int .u64 y] w fun e w'=>e = .returned (.tuple #[.int .u64 ((x*y/18446744073709551616:Nat):Int),.int .u64 ((x*y % 18446744073709551616:Nat):Int)])∧w=w':=by
 obtain ⟨bd,bt,bw,hhi⟩:=Lib.mul64_hi x y hx hy;have ba:=Lib.half_mul_le (a:=x/4294967296) (b:=y/4294967296) (by omega) (by omega);have bb:=Lib.half_mul_le (a:=x/4294967296) (b:=y % 4294967296) (by omega) (by omega);have bc:=Lib.half_mul_le (a:=x % 4294967296) (b:=y/4294967296) (by omega) (by omega);have ba':x/4294967296*(y/4294967296)<18446744073709551616:=by omega
 have bb':x/4294967296*(y % 4294967296)<18446744073709551616:=by omega
 have bc':x % 4294967296*(y/4294967296)<18446744073709551616:=by omega
 have bh1:x/4294967296*(y/4294967296)+(x/4294967296*(y % 4294967296)+x % 4294967296*(y % 4294967296)/4294967296)/4294967296<18446744073709551616:=by omega
 have bh:x/4294967296*(y/4294967296)+(x/4294967296*(y % 4294967296)+x % 4294967296*(y % 4294967296)/4294967296)/4294967296+((x/4294967296*(y % 4294967296)+x % 4294967296*(y % 4294967296)/4294967296) % 4294967296+x % 4294967296*(y/4294967296))/4294967296<18446744073709551616:=by omega
 go_enter Tryz.func232,Tryz.ntmps232
 go_wp2
 simp only [maskN x hx,maskN y hy,divN,mulN,addN,wrapN _ bd,wrapN _ bb',wrapN _ bt,maskN _ bt,wrapN _ bc',wrapN _ bw,wrapN _ ba',wrapN _ bh1,wrapN _ bh,wrapM (x*y)];rw [hhi]
 go_ret2
 exact ⟨rfl,rfl⟩
theorem mul64_call (x y:Nat) (hx:x<18446744073709551616) (hy:y<18446744073709551616) :
 ∃ g l:Nat,g<18446744073709551616∧l<18446744073709551616∧l+18446744073709551616*g=x*y ∧
  ∀ w,Calls Tryz.prog 232 #[.int .u64 x,.int .u64 y] w fun e w'=>e = .returned (.tuple #[.int .u64 ((g:Nat):Int),.int .u64 ((l:Nat):Int)])∧w=w':=by
 refine ⟨_,_,?_,?_,?_,fun w=>mul64_any x y hx hy w⟩
 · have h3:x*y≤18446744073709551615*18446744073709551615:=Nat.mul_le_mul (by omega) (by omega);omega
 · omega
 omega
theorem lineb_step {o os l:List Nat} {x p i c s k:Nat} (h:lo o (p+i)+18446744073709551616 ^ (p+i)*c=lo os (p+i)+18446744073709551616 ^ p*(x*lo l i)) (hi':p+i<o.length) (hs:s+18446744073709551616*k=x*D l i+D os (p+i)+c) :
 lo (o.set (p+i) s) (p+i+1)+18446744073709551616 ^ (p+i+1)*k=lo os (p+i+1)+18446744073709551616 ^ p*(x*lo l (i+1)):=by
 rw [lo_step,lo_set (nRf _),D_set_same hi',lo_step os,lo_step l,Nat.pow_succ,Nat.mul_assoc];have e:18446744073709551616 ^ (p+i)*(s+18446744073709551616*k)=18446744073709551616 ^ (p+i)*(x*D l i+D os (p+i)+c):=by rw [hs]
 simp only [Nat.mul_add] at e ⊢;have e2:18446744073709551616 ^ p*(x*(18446744073709551616 ^ i*D l i))=18446744073709551616 ^ (p+i)*(x*D l i):=by rw [Nat.pow_add];ac_rfl
 rw [e2];omega
theorem lineb_end {o os l:List Nat} {x p i:Nat} (h:lo o (p+i)+18446744073709551616 ^ (p+i)*0=lo os (p+i)+18446744073709551616 ^ p*(x*lo l i)) (hh:hi o (p+i)=hi os (p+i)) (hl:l.length≤i):val o=val os+18446744073709551616 ^ p*(x*val l):=by
 rw [lo_hi o (p+i),lo_hi os (p+i),hh];rw [lo_all hl] at h;omega
theorem lineb_room {o os l:List Nat} {x p i c n:Nat} (h:lo o (p+i)+18446744073709551616 ^ (p+i)*c=lo os (p+i)+18446744073709551616 ^ p*(x*lo l i)) (hl:l.length≤i) (hos:os.length=n) (hin:p+i≤n) (hc:0<c) (hv:val os+18446744073709551616 ^ p*(x*val l)<18446744073709551616 ^ n):p+i<n:=by
 rcases Nat.lt_or_ge (p+i) n with h' | h'
 · exact h'
 obtain rfl:p+i=n:=by omega
 rw [lo_all hl,lo_all (l:=os) (by omega)] at h;have:=Nat.le_mul_of_pos_right (18446744073709551616 ^ (p+i)) hc;omega
theorem line_any (b o N c1:Nat) (os:List Nat) (p:Nat) (a:Option Addr) (n c:Nat) (l:List Nat) (x B:Nat) (w:World) (h:OwnAt w B (some ⟨b,o,none⟩) N c1 os) (h2:NatAt w a n c l) (hlt:n=0∨∀ y,a=some y→y.block<B) (hp:p+n≤N) (hx:x<18446744073709551616) (hb:B≤b)
 (hv:val os+18446744073709551616 ^ p*(x*val l)<18446744073709551616 ^ N) :
 Calls Tryz.prog 210 #[.slice (some ⟨b,o+p,none⟩) (N-p) (c1-p),.slice a n c,.int .u64 x] w fun e w'=>e = .returned (.tuple #[])∧Below B w w'∧∃ ds,OwnAt w' B (some ⟨b,o,none⟩) N c1 ds∧val ds=val os+18446744073709551616 ^ p*(x*val l):=by
 have HV:=hiD hv;clear hv;have hle:=h.le;have hcle:=h.cle;have hle2:=h2.le;have hcle2:=h2.cle
 go_enter Tryz.func210,Tryz.ntmps210
 go_wp2_with fail
 go_loopw [6,15] (fun cy i wr=>∃ (k y:Nat) (ds:List Nat),k≤n∧y<18446744073709551616∧i = .int .i64 k∧cy = .int .u64 y∧OwnAt wr B (some ⟨b,o,none⟩) N c1 ds∧lo ds (p+k)+18446744073709551616 ^ (p+k)*y=lo os (p+k)+18446744073709551616 ^ p*(x*lo l k)∧hi ds (p+k)=hi os (p+k)∧Below B w wr) (fun _ i _=>n-(intOf i).toNat)
 case atStart=>exact ⟨0,0,_,Nat.zero_le _,by decide,rfl,rfl,h,by simp [lo_zero],rfl,bRf _ _⟩
 case round =>
  obtain ⟨k,y,ds,hk,hy,rfl,rfl,h4,h5,h5',h6⟩:=hrel;have H5:=hiD h5;have H5':=hiD h5';clear h5 h5'
  by_cases hlt':k<n
  · have e2:NatAt wr a n c l:=h2.below h6 hlt;rcases e2.parts with h' | ⟨ba,oa,rfl,_,hca⟩
    · omega
    have hca':=hca k hlt';clear hca;have d1:=h2.dig.at_ k;obtain ⟨g,u,hg,hu,hgu,hm⟩:=mul64_call x (D l k) hx d1;obtain ⟨s1,k1,hs1,hk1,e1,ha1⟩:=add64_call u y 0 hu hy (by decide);obtain ⟨s2,k2,hs2,hk2,e2',ha2⟩:=add64_call (D ds (p+k)) s1 0 (h4.dig.at_ _) hs1 (by decide);have eD:=D_of_hi H5'.out h4.dig h.dig;have hsum:s2+18446744073709551616*(g+k1+k2)=x*D l k+D os (p+k)+y:=by omega
    have hfit:=digit_fits hx d1 hy (h.dig.at_ (p+k)) hsum;have h9:=lineb_step H5.out (by rw [h4.len];omega) hsum;have h10:=hi_of_hi H5'.out h4.dig h.dig;have H9:=hiD h9;have H10:=hiD h10;clear h9 h10 hsum eD e1 e2' hgu;obtain ⟨q,hq⟩:∃ q,g+k1=q:=⟨_,rfl⟩;obtain ⟨r,hr⟩:∃ r,q+k2=r:=⟨_,rfl⟩;have v1:IntKind.u64.wrap ((g:Int)+(k1:Int))=(q:Int):=by rw [IntKind.wrap_u64];omega
    have v2:IntKind.u64.wrap ((q:Int)+(k2:Int))=(r:Int):=by rw [IntKind.wrap_u64];omega
    have hr':r<18446744073709551616:=by omega
    have HR:=hiD (show g+k1+k2=r by omega);clear hq hr hfit;have ha1:∀ w,(callFunc 171 #[.int .u64 ((u:Nat):Int),.int .u64 ((y:Nat):Int),.int .u64 0]).run Tryz.prog w = .ok (.value (.tuple #[.int .u64 ((s1:Nat):Int),.int .u64 ((k1:Nat):Int)])) w:=ha1;have ha2:∀ w,(callFunc 171 #[.int .u64 ((D ds (p+k):Nat):Int),.int .u64 ((s1:Nat):Int),.int .u64 0]).run Tryz.prog w = .ok (.value (.tuple #[.int .u64 ((s2:Nat):Int),.int .u64 ((k2:Nat):Int)])) w:=ha2
    have hcell:wr.cell? ⟨b,o+p+k,none⟩=some (.int .u64 ((D ds (p+k):Nat):Int)):=by
     rcases h4.cell with h' | ⟨b',o',he,hc⟩
     · omega
     cases he;rw [Nat.add_assoc];exact hc _ (by omega)
    have hfro:wr.frozen? ⟨b,o+p+k,none⟩=false:=by
     rcases h4.own with h' | ⟨b',o',he,_,hf⟩
     · omega
     cases he;rw [Nat.add_assoc];exact hf _ (by omega)
    go_wp2_with fail
    refine (hm _).mono ?_;rintro e w' ⟨rfl,rfl⟩
    go_wp2_with fail
    have h7:=h4.set (k:=p+k) (by omega) hs2;rw [← Nat.add_assoc] at h7;have h9:=H9.out;have h10:=H10.out;rw [HR.out] at h9;rw [← hi_set (l:=ds) (j:=p+k) (x:=s2) (Nat.lt_succ_self _)] at h10;exact ⟨⟨k+1,r,_,by omega,hr',by go_num,rfl,h7,h9,h10,h6.setCell (p:=⟨b,o+p+k,none⟩) hb _⟩,by simp [intOf];omega⟩
  obtain rfl:k=n:=by omega
  clear hlt'
  go_wp2_with fail
  go_loopw [6,12] (fun cy i wr=>∃ (m y:Nat) (ds:List Nat),k≤m∧p+m≤N∧y<18446744073709551616∧i = .int .i64 m∧cy = .int .u64 y∧OwnAt wr B (some ⟨b,o,none⟩) N c1 ds∧lo ds (p+m)+18446744073709551616 ^ (p+m)*y=lo os (p+m)+18446744073709551616 ^ p*(x*lo l m)∧hi ds (p+m)=hi os (p+m)∧Below B w wr) (fun _ i _=>N-(intOf i).toNat)
  case atStart=>exact ⟨k,y,ds,nRf _,hp,hy,rfl,rfl,h4,H5.out,H5'.out,h6⟩
  case round =>
   clear H5 H5' h4 h6 hy;obtain ⟨m,y,ds,hk,hkN,hy,rfl,rfl,h4,h5,h5',h6⟩:=hrel;have H5:=hiD h5;have H5':=hiD h5';clear h5 h5'
   by_cases hy0:0<y
   · have hlm:l.length≤m:=by rw [h2.len];exact hk
     have hroom:=lineb_room H5.out hlm h.len hkN hy0 HV.out;obtain ⟨s2,k2,hs2,hk2,e2',ha2⟩:=add64_call (D ds (p+m)) y 0 (h4.dig.at_ _) hy (by decide);have eD:=D_of_hi H5'.out h4.dig h.dig;have hsum:s2+18446744073709551616*k2=x*D l m+D os (p+m)+y:=by rw [D_out hlm];omega
     have h9:=lineb_step H5.out (by rw [h4.len];omega) hsum;have h10:=hi_of_hi H5'.out h4.dig h.dig;have H9:=hiD h9;have H10:=hiD h10;clear h9 h10 hsum eD e2' hlm;have ha2:∀ w,(callFunc 171 #[.int .u64 ((D ds (p+m):Nat):Int),.int .u64 ((y:Nat):Int),.int .u64 0]).run Tryz.prog w = .ok (.value (.tuple #[.int .u64 ((s2:Nat):Int),.int .u64 ((k2:Nat):Int)])) w:=ha2
     have hcell:wr.cell? ⟨b,o+p+m,none⟩=some (.int .u64 ((D ds (p+m):Nat):Int)):=by
      rcases h4.cell with h' | ⟨b',o',he,hc⟩
      · omega
      cases he;rw [Nat.add_assoc];exact hc _ (by omega)
     have hfro:wr.frozen? ⟨b,o+p+m,none⟩=false:=by
      rcases h4.own with h' | ⟨b',o',he,_,hf⟩
      · omega
      cases he;rw [Nat.add_assoc];exact hf _ (by omega)
     go_wp2_with fail
     have h7:=h4.set (k:=p+m) (by omega) hs2;rw [← Nat.add_assoc] at h7;have h10:=H10.out;rw [← hi_set (l:=ds) (j:=p+m) (x:=s2) (Nat.lt_succ_self _)] at h10;exact ⟨⟨m+1,k2,_,by omega,by omega,by omega,by go_num,rfl,h7,H9.out,h10,h6.setCell (p:=⟨b,o+p+m,none⟩) hb _⟩,by simp [intOf];omega⟩
   obtain rfl:y=0:=by omega
   have h7:=lineb_end H5.out H5'.out (by rw [h2.len];exact hk);clear hy0 H5
   go_wp2_with fail
   go_end0
   exact ⟨rfl,h6,_,h4,h7⟩
end Go.Proofs.YtkhcblihbalnbaaGreatDoor
