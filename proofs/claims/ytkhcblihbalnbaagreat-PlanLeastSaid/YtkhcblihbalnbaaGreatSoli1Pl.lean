import Derived.Test.YtkhcblihbalnbaaGreatS0Pl
import Derived.Test.YtkhcblihbalnbaaGreatRatio6Pl
import Derived.Test.YtkhcblihbalnbaaGreatIntsPl
import Derived.Test.YtkhcblihbalnbaaGreatRegPl
import Derived.Test.YtkhcblihbalnbaaGreatSigned2Pl
import Derived.Test.YtkhcblihbalnbaaGreatRatio1Pl
import Derived.Test.YtkhcblihbalnbaaGreatQuot1Pl
import Derived.Test.YtkhcblihbalnbaaGreatNumPl
set_option linter.unusedVariables false
set_option linter.unusedSimpArgs false
set_option maxHeartbeats 8000000
set_option maxRecDepth 100000
namespace Go.Proofs.YtkhcblihbalnbaaGreat
section
open Go.RowKit
def okT (zs:List Int) (k:Int):Prop:=1≤k∧k≤65536∧1≤zs.length∧(zs.length:Int)≤k∧(∀ z ∈ zs,0≤z∧z≤16777215)∧∃ z ∈ zs,0<z
instance (zs:List Int) (k:Int):Decidable (okT zs k):=by unfold okT;infer_instance
def chkT (zs:List Int) (k:Int):Int:=if okT zs k then 0 else 13
theorem chkT_no {zs:List Int} {k:Int} (h:¬ okT zs k):chkT zs k=13:=if_neg h
theorem chkT_yes {zs:List Int} {k:Int} (h:okT zs k):chkT zs k=0:=if_pos h
def someT (zs:List Int) (j:Nat):Bool:=(zs.take j).any fun z=>decide (0<z)
theorem someT_succ {zs:List Int} {j:Nat} (h:j<zs.length):someT zs (j+1)=(someT zs j || decide (0<zs.getD j 0)):=by
 unfold someT;rw [List.take_add_one,List.any_append,List.getD_eq_getElem?_getD,List.getElem?_eq_getElem h];simp
theorem getD_mem' {zs:List Int} {j:Nat} (h:j<zs.length):zs.getD j 0 ∈ zs:=by
 rw [List.getD_eq_getElem?_getD,List.getElem?_eq_getElem h];exact List.getElem_mem h
def sumW (zs:List Int):Nat→Int
 | 0=>0
 | j+1=>wrap64 (sumW zs j+zs.getD j 0)
theorem soliCheck_any (a:Option Addr) (n c:Nat) (zs:List Int) (k:Int) (w:World) (g:IntsAt w a n c zs) :
 Calls Tryz.prog 30 #[.slice a n c,.int .i64 k] w (RetVal w (.int .i64 (chkT zs k))):=by
 have hcle:=g.cle;have hle:=g.le;have hlen:=g.len;have hm:n≤9223372036854775807:=by unfold maxLen at hcle;omega
 by_cases hb:1≤k∧k≤65536∧1≤n∧(n:Int)≤k
 · obtain ⟨h1,h2,h3,h4⟩:=hb
   have hgo:∀ j,j<n→(0≤zs.getD j 0∧zs.getD j 0≤16777215)∨chkT zs k=13:=fun j hj=>by
    by_cases hz:0≤zs.getD j 0∧zs.getD j 0≤16777215
    · exact .inl hz
    exact .inr (chkT_no fun h=>hz (h.2.2.2.2.1 _ (getD_mem' (by omega))))
   have hend:(∀ j,j<n→0≤zs.getD j 0∧zs.getD j 0≤16777215)→chkT zs k=if someT zs n=true then 0 else 13:=fun hall=>by
    have hiff:okT zs k ↔ someT zs n=true:=by
     constructor
     · intro h;unfold someT;rw [← hlen,List.take_length,List.any_eq_true];obtain ⟨z,hz,h0⟩:=h.2.2.2.2.2;exact ⟨z,hz,decide_eq_true h0⟩
     intro h;refine ⟨h1,h2,by omega,by omega,fun z hz => ?_,?_⟩
     · obtain ⟨i,hi,rfl⟩:=List.getElem_of_mem hz;have:=hall i (by omega)
       rwa [List.getD_eq_getElem?_getD,List.getElem?_eq_getElem hi] at this
     unfold someT at h;rw [← hlen,List.take_length,List.any_eq_true] at h;obtain ⟨z,hz,h0⟩:=h;exact ⟨z,hz,of_decide_eq_true h0⟩
    unfold chkT;simp only [hiff]
   have hs:=fun j (hj:j<n)=>someT_succ (zs:=zs) (j:=j) (by omega)
   obtain ⟨R,hR⟩:∃ R,chkT zs k=R:=⟨_,rfl⟩;rw [hR] at hend ⊢;have HGO:=hiD hgo;have HEND:=hiD hend;have HS:=hiD hs;have HR:=hiD hR;have g0:=g;clear hgo hend hs hR g
   go_enter Tryz.func30,Tryz.ntmps30
   go_wp2
   go_loopw [5,7,27] (fun s x i wr=>∃ (j:Nat),j≤n∧s = .bool (someT zs j)∧i = .int .i64 (j:Int)∧wr=w∧Hid (∀ i,i<j→0≤zs.getD i 0∧zs.getD i 0≤16777215)) (fun s x i _=>n-(intOf i).toNat)
   case atStart=>exact ⟨0,Nat.zero_le _,rfl,rfl,rfl,hiD fun i hi=>absurd hi (Nat.not_lt_zero i)⟩
   case round =>
    obtain ⟨j,hj,rfl,rfl,rfl,HALL⟩:=hrel
    by_cases hlt:j<n
    · rcases g0.cell with h0 | ⟨b,o,rfl,hbl,hc⟩
      · omega
      have q:=hc j hlt;have hs1:=HS.out j hlt;have hg:=HGO.out j hlt;have hall:=HALL.out;obtain ⟨z,hz⟩:∃ z,zs.getD j 0=z:=⟨_,rfl⟩;rw [hz] at q hs1 hg;obtain ⟨s,hs⟩:∃ s,someT zs j=s:=⟨_,rfl⟩;rw [hs] at hs1 ⊢;have HS1:=hiD hs1;have HZ:=hiD hz;clear hc hs1 hz hs
      by_cases hz1:z<0
      · have e:R=13:=(hg.resolve_left (by omega)) ▸ HR.out.symm;subst e;clear hg
        go_wp2
        go_ret
        exact ⟨rfl,bRf _ _⟩
      by_cases hz2:16777215<z
      · have e:R=13:=(hg.resolve_left (by omega)) ▸ HR.out.symm;subst e;clear hg
        go_wp2
        go_ret
        exact ⟨rfl,bRf _ _⟩
      clear hg
      have HN:=hiD (show ∀ i,i<j+1→0≤zs.getD i 0∧zs.getD i 0≤16777215 from fun i hi=>by
       by_cases e:i=j
       · subst e;rw [HZ.out];omega
       exact hall i (by omega))
      clear hall;cases s
      · go_wp2
        go_roundw
        case rel=>exact ⟨j+1,by omega,by rw [HS1.out];rfl,by go_num,trivial,HN⟩
        case measure=>simp [intOf];omega
      go_wp2
      go_roundw
      case rel=>exact ⟨j+1,by omega,by rw [HS1.out];rfl,by go_num,trivial,HN⟩
      case measure=>simp [intOf];omega
    obtain rfl:j=n:=by omega
    have he:=HEND.out HALL.out;obtain ⟨s,hs⟩:∃ s,someT zs j=s:=⟨_,rfl⟩;rw [hs] at he ⊢;have HE:=hiD he;clear he hs;cases s
    · go_wp2
      go_ret
      exact ⟨by rw [HE.out];rfl,bRf _ _⟩
    go_wp2
    go_ret
    exact ⟨by rw [HE.out];rfl,bRf _ _⟩
 have e:chkT zs k=13:=chkT_no fun h=>hb ⟨h.1,h.2.1,by have:=h.2.2.1;omega,by have:=h.2.2.2.1;omega⟩
 rw [e];clear e
 by_cases h1:k<1
 · go_enter Tryz.func30,Tryz.ntmps30
   go_wp2
   go_ret
   exact ⟨rfl,bRf _ _⟩
 by_cases h2:65536<k
 · go_enter Tryz.func30,Tryz.ntmps30
   go_wp2
   go_ret
   exact ⟨rfl,bRf _ _⟩
 by_cases h3:n<1
 · obtain rfl:n=0:=by omega
   go_enter Tryz.func30,Tryz.ntmps30
   go_wp2
   go_ret
   exact ⟨rfl,bRf _ _⟩
 have h4:k<(n:Int):=by omega
 clear hb
 go_enter Tryz.func30,Tryz.ntmps30
 go_wp2
 go_ret
 exact ⟨rfl,bRf _ _⟩
theorem total1_any (b:Nat) (s x:Int) (w:World) (hc:w.cell? ⟨b,0,none⟩=some (.int .i64 s)) (hf:w.frozen? ⟨b,0,none⟩=false) :
 Calls Tryz.prog 235 #[.int .i64 x,.pointer (some ⟨b,0,none⟩)] w fun e w'=>e = .returned (.tuple #[])∧w'=w.setCell ⟨b,0,none⟩ (.int .i64 (wrap64 (s+x))):=by
 go_enter Tryz.func235,Tryz.ntmps235
 go_wp2
 go_end0
 exact ⟨rfl,rfl⟩
theorem pr_pos {x:Int} {y:Nat} (hy:0<y):mkRat (sg (neg x != neg (y:Int)) x.natAbs) (y:Int).natAbs=mkRat x y:=by
 have h1:neg (y:Int)=false:=decide_eq_false (by omega)
 have h2:sg (neg x) x.natAbs=x:=by
  have h:=sg_canon x
  rwa [val_digs] at h
 rw [h1,Bool.bne_false,h2,Int.natAbs_natCast]
end
section
open Go.RowKit
def upS (g:Nat→Int):Nat→Int
 | 0=>0
 | i+1=>upS g i+g i*((i+1:Nat):Int)
def totS (g:Nat→Int):Nat→Int
 | 0=>0
 | i+1=>totS g i+g i
theorem totS_in {g:Nat→Int}:∀ n,(∀ i,i<n→0≤g i∧g i≤16777215)→0≤totS g n∧totS g n≤n*16777215
 | 0,_=>by simp [totS]
 | n + 1, e => by
   have h:=totS_in n fun i hi=>e i (by omega)
   have:=e n (by omega);rw [totS];omega
theorem upS_in {g:Nat→Int}:∀ n,(∀ i,i<n→0≤g i)→totS g n≤upS g n∧upS g n≤n*totS g n∧0≤totS g n
 | 0,_=>by simp [totS,upS]
 | n + 1, e => by
   obtain ⟨h1,h2,h3⟩:=upS_in n fun i hi=>e i (by omega)
   have:=e n (by omega);rw [totS,upS];generalize totS g n=t at *;generalize upS g n=u at *;generalize g n=x at *;have e1:x*((n+1:Nat):Int)=x*n+x:=by rw [Int.natCast_add,Int.mul_add,Int.natCast_one,Int.mul_one]
   have e2:((n+1:Nat):Int)*(t+x)=n*t+t+(n*x+x):=by rw [Int.natCast_add,Int.add_mul,Int.natCast_one,Int.one_mul,Int.mul_add];omega
   have e3:(n:Int)*x=x*n:=Int.mul_comm _ _;have e4:0≤x*n:=Int.mul_nonneg this (by omega);rw [e1,e2,e3];omega
theorem sumW_tot {zs:List Int}:∀ n,n≤65536→(∀ i,i<n→0≤zs.getD i 0∧zs.getD i 0≤16777215)→sumW zs n=totS (fun i=>zs.getD i 0) n
 | 0,_,_=>rfl
 | n + 1, h, e => by
   have h1:=totS_in (g:=fun i=>zs.getD i 0) n fun i hi=>e i (by omega)
   have h2:=e n (by omega);rw [sumW,totS,sumW_tot n (by omega) fun i hi=>e i (by omega)];unfold wrap64;generalize totS (fun i=>zs.getD i 0) n=t at *;generalize zs.getD n 0=x at *;omega
theorem okT_in {zs:List Int} {k:Int} (h:okT zs k):∀ i,i<zs.length→0≤zs.getD i 0∧zs.getD i 0≤16777215:=fun i hi=>h.2.2.2.2.1 _ (getD_mem' hi)
theorem totS_pos {g:Nat→Int}:∀ n,(∀ i,i<n→0≤g i)→(∃ i,i<n∧0<g i)→0<totS g n
 | 0,_,h=>by obtain ⟨i,hi,_⟩:=h;omega
 | n + 1, e, h => by
   have h3:=(upS_in n fun i hi=>e i (by omega)).2.2;obtain ⟨i,hi,hp⟩:=h;rw [totS]
   by_cases hin:i=n
   · subst hin;omega
   have:=totS_pos n (fun i hi=>e i (by omega)) ⟨i,by omega,hp⟩;have:=e n (by omega);omega
theorem okT_pos {zs:List Int} {k:Int} (h:okT zs k):0<totS (fun i=>zs.getD i 0) zs.length:=by
 obtain ⟨z,hz,h0⟩:=h.2.2.2.2.2;obtain ⟨i,hi,rfl⟩:=List.getElem_of_mem hz;refine totS_pos _ (fun i hi=>(okT_in h i hi).1) ⟨i,hi,?_⟩;simp only [List.getD_eq_getElem?_getD,List.getElem?_eq_getElem hi];exact h0
end
section
open Go.RowKit
theorem total_any (a:Option Addr) (n c:Nat) (zs:List Int) (w:World) (g:IntsAt w a n c zs) :
 Calls Tryz.prog 222 #[.slice a n c] w (RetVal w (.int .i64 (sumW zs n))):=by
 have hcle:=g.cle;have hle:=g.le;have hm:n≤9223372036854775807:=by unfold maxLen at hcle;omega
 have h0:sumW zs 0=0:=rfl;obtain ⟨SF,hSF⟩:∃ SF,sumW zs=SF:=⟨_,rfl⟩;rw [hSF] at h0 ⊢;have hs:∀ j,SF (j+1)=wrap64 (SF j+zs.getD j 0):=fun j=>by rw [← hSF];rfl
 have HS:=hiD hs;have H0:=hiD h0;clear hs h0 hSF
 go_enter Tryz.func222,Tryz.ntmps222
 go_wp2
 obtain ⟨w1,hW,hz,hb,q,f⟩:=box1g w w.heap.size rfl #[.int .i64 0] 3;rw [hW];clear hW;have x0:BoxAt w1 w.heap.size 1:=BoxAt.of q f rfl (by simp [notU_i64]);have q0:=q 0;simp only [lgA,lgZ] at q0;have hlt:w.heap.size<w1.heap.size:=by omega
 clear q f hz;generalize hBB:w.heap.size=BB at *
 go_loopw [5,9] (fun x i wr=>∃ (j:Nat),j≤n∧i = .int .i64 (j:Int)∧Below w.heap.size w wr∧BB<wr.heap.size∧wr.cell? ⟨BB,0,none⟩=some (.int .i64 (SF j))∧BoxAt wr BB 1) (fun x i _=>n-(intOf i).toNat)
 case atStart=>exact ⟨0,Nat.zero_le _,rfl,by rw [hBB];exact hb,hlt,by rw [H0.out];exact q0,x0⟩
 case round =>
  clear hb hlt q0 x0;obtain ⟨j,hj,rfl,hB,hlt2,q0,x0⟩:=hrel
  by_cases hlt:j<n
  · rcases (g.past hB).cell with h0 | ⟨b,o,rfl,hbl,hc⟩
    · omega
    have q:=hc j hlt;have hs:=HS.out j;obtain ⟨z,hz⟩:∃ z,zs.getD j 0=z:=⟨_,rfl⟩;rw [hz] at q hs;obtain ⟨S,hS⟩:∃ S,SF j=S:=⟨_,rfl⟩;rw [hS] at hs q0;have HSS:=hiD hs;clear hs hS hz hc
    go_wp2_with fail
    have hf:=x0.f 0 (by decide)
    with_reducible refine (total1_any _ S z _ q0 hf).mono ?_
    rintro e w2 ⟨rfl,rfl⟩
    go_wp2
    go_roundw
    case rel=>exact ⟨j+1,by omega,by go_num,hB.setCell (p:=⟨BB,0,none⟩) (Nat.le_of_eq hBB) _,by simpa using hlt2,by rw [HSS.out];exact World.cell?_setCell_same _ _ _ q0,x0.set ⟨BB,0,none⟩ _ (notU_i64 _)⟩
    case measure=>simp [intOf];omega
  obtain rfl:j=n:=by omega
  obtain ⟨S,hS⟩:∃ S,SF j=S:=⟨_,rfl⟩;rw [hS] at q0;have HSS:=hiD hS;clear hS;have hf:=x0.f 0 (by decide)
  go_wp2
  refine bodyPost_ret (v:=.int .i64 S) ?_ rfl ⟨by rw [HSS.out],hB.setCell (p:=⟨BB,0,none⟩) (Nat.le_of_eq hBB) _⟩;simp [results,Tryz.f222,go_sem,World.cell?_setCell_same _ _ _ q0]
end
section
open Go.RowKit
theorem make_okR {z:Int} {T:Nat} {q:Rat} {a:Option Addr} {n c:Nat} {a2:Option Addr} {n2 c2:Nat} {w:World} (g1:NatAt w a n c (digs z.natAbs)) (g2:NatAt w a2 n2 c2 (digs T)) (hq:makeR (neg z) (digs z.natAbs) (digs T) = .ok q) (hs:n≤68719476736) (hs2:n2≤68719476736) :
 Calls Tryz.prog 82 #[.agg #[.bool (neg z),.slice a n c],.slice a2 n2 c2] w (RetOk w q):=by
 have h:=make05_any (neg z) a n c _ a2 n2 c2 _ w g1 g2 hs hs2;rw [hq] at h;exact h
end
section
open Go.RowKit
def refA (zs:List Int) (k u:Int):Int:=if 1≤k∧k≤1024∧0≤u∧u≤k then chkT zs k else 3
theorem refuses_no (a:Option Addr) (n c:Nat) (zs:List Int) (k u:Int) (w:World) (h:¬ (1≤k∧k≤1024∧0≤u∧u≤k)) :
 Calls Tryz.prog 202 #[.slice a n c,.int .i64 k,.int .i64 u] w (RetVal w (.int .i64 3)):=by
 have hc:¬ 1≤k∨(1≤k∧¬ k≤1024)∨(1≤k∧k≤1024∧¬ 0≤u)∨(1≤k∧k≤1024∧0≤u∧¬ u≤k):=by omega
 clear h;rcases hc with h1 | ⟨h1,h2⟩ | ⟨h1,h2,h3⟩ | ⟨h1,h2,h3,h4⟩
 all_goals
  go_enter Tryz.func202,Tryz.ntmps202
  go_wp2
  go_ret
  exact ⟨rfl,bRf _ _⟩
theorem refuses_bad (a:Option Addr) (n c:Nat) (zs:List Int) (k u:Int) (w:World) (g:IntsAt w a n c zs) (h1:1≤k) (h2:k≤1024) (h3:0≤u) (h4:u≤k) (h5:¬ okT zs k) :
 Calls Tryz.prog 202 #[.slice a n c,.int .i64 k,.int .i64 u] w (RetVal w (.int .i64 13)):=by
 have hc:=chkT_no h5;have HC:=hiD hc;clear hc h5
 go_enter Tryz.func202,Tryz.ntmps202
 have hB:=bRf w.heap.size w
 go_wp2_with fail
 with_reducible refine (soliCheck_any _ _ _ zs k _ g).mono ?_
 rintro e w1 ⟨rfl,hb⟩;have hB:=bLt hB hb;clear hb;rw [HC.out]
 go_wp2
 go_ret
 exact ⟨rfl,hB⟩
theorem refuses_ok (a:Option Addr) (n c:Nat) (zs:List Int) (k u:Int) (w:World) (g:IntsAt w a n c zs) (h1:1≤k) (h2:k≤1024) (h3:0≤u) (h4:u≤k) (h5:okT zs k) :
 Calls Tryz.prog 202 #[.slice a n c,.int .i64 k,.int .i64 u] w (RetVal w (.int .i64 0)):=by
 have hc:=chkT_yes h5;have HC:=hiD hc;clear hc h5
 go_enter Tryz.func202,Tryz.ntmps202
 have hB:=bRf w.heap.size w
 go_wp2_with fail
 with_reducible refine (soliCheck_any _ _ _ zs k _ g).mono ?_
 rintro e w1 ⟨rfl,hb⟩;have hB:=bLt hB hb;clear hb;rw [HC.out]
 go_wp2
 go_ret
 exact ⟨rfl,hB⟩
theorem refuses_any (a:Option Addr) (n c:Nat) (zs:List Int) (k u:Int) (w:World) (g:IntsAt w a n c zs) :
 Calls Tryz.prog 202 #[.slice a n c,.int .i64 k,.int .i64 u] w (RetVal w (.int .i64 (refA zs k u))):=by
 unfold refA
 by_cases h:1≤k∧k≤1024∧0≤u∧u≤k
 · rw [if_pos h];obtain ⟨h1,h2,h3,h4⟩:=h
   by_cases h5:okT zs k
   · rw [chkT_yes h5];exact refuses_ok a n c zs k u w g h1 h2 h3 h4 h5
   rw [chkT_no h5];exact refuses_bad a n c zs k u w g h1 h2 h3 h4 h5
 rw [if_neg h];exact refuses_no a n c zs k u w h
theorem cpair_any (x:Int) (y:Nat) (w:World) (hx:-9223372036854775808≤x∧x≤9223372036854775807) (hy:0<y) (hy2:y≤9223372036854775807) :
 Calls Tryz.prog 208 #[.int .i64 x,.int .i64 (y:Int)] w (RetRat w (mkRat x y)):=by
 have hp:=fun w=>pair_ok (x:=x) (y:=(y:Int)) (q:=mkRat x y) (by omega) (pr_pos hy) w hx (by omega)
 have HP:=hiD hp;obtain ⟨Q,hQ⟩:∃ Q,mkRat x y=Q:=⟨_,rfl⟩;rw [hQ] at HP ⊢;clear hp hQ
 go_enter Tryz.func208,Tryz.ntmps208
 have hB:=bRf w.heap.size w
 go_wp2_with fail
 obtain ⟨w1,hW,hz0,hb,q,f⟩:=box1g w (w.heap.size) (by omega) #[.bool false,.slice none 0 0,.slice none 0 0] 28;rw [hW];clear hW;have hB:=bLt hB hb;clear hb;have lr:w.heap.size<w1.heap.size:=by omega
 have qr0:=q 0;have qr1:=q 1;have qr2:=q 2;simp only [lgA,lgZ,lgS] at qr0 qr1 qr2;have xr:BoxAt w1 (w.heap.size) 3:=BoxAt.of q f rfl (by simp [notU_bool,notU_slice,notU_i64]);clear q f;clear hz0
 with_reducible refine (HP.out _).mono ?_
 rintro e w2 ⟨ahAU,nhAU,chAU,ahAD,nhAD,chAD,rfl,hAU,hAD,hb⟩;have hAU:=hAU.mono hB.size;have hAD:=hAD.mono hB.size;have xr:=xr.past hb lr;obtain ⟨qr0,qr1,qr2,lr⟩:=bq3 hb lr qr0 qr1 qr2;have hB:=bLt hB hb;clear hb;have zf0:=xr.f 0 (by decide);have zf1:=xr.f 1 (by decide);have zf2:=xr.f 2 (by decide)
 go_wp2
 have zf0:=xr.f 0 (by decide);have zf1:=xr.f 1 (by decide);have zf2:=xr.f 2 (by decide);obtain ⟨w3,hW,hO,qN0,qN1,qN2,xN⟩:=store3 xr (.bool (neg (Q).num)) (.slice ahAU nhAU chAU) (.slice ahAD nhAD chAD) (nu rfl) (nu rfl) (nu rfl);try rw [hW]
 clear hW;have hAU:=hO.own hAU;have hAD:=hO.own hAD;have lr:w.heap.size<w3.heap.size:=by rw [hO.size];exact lr
 have qr0:=qN0;have qr1:=qN1;have qr2:=qN2;have xr:=xN;have hB:=hO.below (by omega) hB;clear hO qN0 qN1 qN2 xN zf0 zf1 zf2;obtain ⟨w4,hW,hz0,hb,q,f⟩:=box1g w3 (w3.heap.size) (by omega) #[.bool (neg (Q).num),.slice ahAU nhAU chAU,.slice ahAD nhAD chAD] 28;rw [hW];clear hW;have hAU:=hAU.past hb;have hAD:=hAD.past hb;have xr:=xr.past hb lr;obtain ⟨qr0,qr1,qr2,lr⟩:=bq3 hb lr qr0 qr1 qr2;have hB:=bLt hB hb;clear hb;have lx:w3.heap.size<w4.heap.size:=by omega
 have qx0:=q 0;have qx1:=q 1;have qx2:=q 2;simp only [lgA,lgZ,lgS] at qx0 qx1 qx2;clear q f;clear hz0;refine bodyPost_ret (v:=.agg #[.bool (neg Q.num),.slice ahAU nhAU chAU,.slice ahAD nhAD chAD]) ?_ rfl ⟨_,_,_,_,_,_,rfl,hAU,hAD,hB⟩;simp [results,Tryz.f208,go_sem,qr0,qr1,qr2]
theorem plus_any (p q:Rat) (a1:Option Addr) (n1 c1:Nat) (a2:Option Addr) (n2 c2:Nat) (a3:Option Addr) (n3 c3:Nat) (a4:Option Addr) (n4 c4:Nat) (w:World) (g1:NatAt w a1 n1 c1 (digs p.num.natAbs)) (g2:NatAt w a2 n2 c2 (digs p.den)) (g3:NatAt w a3 n3 c3 (digs q.num.natAbs)) (g4:NatAt w a4 n4 c4 (digs q.den)) (h1:rlen p≤1048576) (h2:rlen q≤1048576) :
 Calls Tryz.prog 226 #[.agg #[.bool (neg p.num),.slice a1 n1 c1,.slice a2 n2 c2],.agg #[.bool (neg q.num),.slice a3 n3 c3,.slice a4 n4 c4]] w (RetRat w (p+q)):=by
 obtain ⟨S,hS⟩:∃ S,p+q=S:=⟨_,rfl⟩;rw [hS];have HS:=hiD hS;clear hS
 go_enter Tryz.func226,Tryz.ntmps226
 have hB:=bRf w.heap.size w
 go_wp2_with fail
 obtain ⟨w1,hW,hz0,hb,q,f⟩:=box1g w (w.heap.size) (by omega) #[.bool (neg p.num),.slice a1 n1 c1,.slice a2 n2 c2] 28;rw [hW];clear hW;have g1:=g1.past hb;have g2:=g2.past hb;have g3:=g3.past hb;have g4:=g4.past hb;have hB:=bLt hB hb;clear hb;have la:w.heap.size<w1.heap.size:=by omega
 have qa0:=q 0;have qa1:=q 1;have qa2:=q 2;simp only [lgA,lgZ,lgS] at qa0 qa1 qa2;clear q f;obtain ⟨w2,hW,hz1,hb,q,f⟩:=box1g w1 (w.heap.size+1) (by omega) #[.bool (neg q.num),.slice a3 n3 c3,.slice a4 n4 c4] 28;rw [hW];clear hW;have g1:=g1.past hb;have g2:=g2.past hb;have g3:=g3.past hb;have g4:=g4.past hb;obtain ⟨qa0,qa1,qa2,la⟩:=bq3 hb la qa0 qa1 qa2;have hB:=bLt hB hb;clear hb;have lb:w.heap.size+1<w2.heap.size:=by omega
 have qb0:=q 0;have qb1:=q 1;have qb2:=q 2;simp only [lgA,lgZ,lgS] at qb0 qb1 qb2;clear q f;obtain ⟨w3,hW,hz2,hb,q,f⟩:=box1g w2 (w.heap.size+1+1) (by omega) #[.bool false,.slice none 0 0,.slice none 0 0] 28;rw [hW];clear hW;have g1:=g1.past hb;have g2:=g2.past hb;have g3:=g3.past hb;have g4:=g4.past hb;obtain ⟨qa0,qa1,qa2,la⟩:=bq3 hb la qa0 qa1 qa2;obtain ⟨qb0,qb1,qb2,lb⟩:=bq3 hb lb qb0 qb1 qb2;have hB:=bLt hB hb;clear hb;have lr:w.heap.size+1+1<w3.heap.size:=by omega
 have qr0:=q 0;have qr1:=q 1;have qr2:=q 2;simp only [lgA,lgZ,lgS] at qr0 qr1 qr2;have xr:BoxAt w3 (w.heap.size+1+1) 3:=BoxAt.of q f rfl (by simp [notU_bool,notU_slice,notU_i64]);clear q f;obtain ⟨w4,hW,hz3,hb,q,f⟩:=box1g w3 (w.heap.size+1+1+1) (by omega) #[.bool (neg p.num),.slice a1 n1 c1,.slice a2 n2 c2,.bool (neg q.num),.slice a3 n3 c3,.slice a4 n4 c4] 28;rw [hW];clear hW;have g1:=g1.past hb;have g2:=g2.past hb;have g3:=g3.past hb;have g4:=g4.past hb;obtain ⟨qa0,qa1,qa2,la⟩:=bq3 hb la qa0 qa1 qa2;obtain ⟨qb0,qb1,qb2,lb⟩:=bq3 hb lb qb0 qb1 qb2;have xr:=xr.past hb lr;obtain ⟨qr0,qr1,qr2,lr⟩:=bq3 hb lr qr0 qr1 qr2;have hB:=bLt hB hb;clear hb;have ll:w.heap.size+1+1+1<w4.heap.size:=by omega
 have ql0:=q 0;have ql1:=q 1;have ql2:=q 2;have ql3:=q 3;have ql4:=q 4;have ql5:=q 5;simp only [lgA,lgZ,lgS] at ql0 ql1 ql2 ql3 ql4 ql5;clear q f;clear hz0;clear hz1;clear hz2;clear hz3
 with_reducible refine (add_two (RatsAt.two ll ql0 ql1 ql2 ql3 ql4 ql5 g1 g2 g3 g4) h1 h2).mono ?_
 rintro e w5 ⟨ahAU,nhAU,chAU,ahAD,nhAD,chAD,rfl,hAU,hAD,hb⟩;have hAU:=hAU.mono hB.size;have hAD:=hAD.mono hB.size;have g1:=g1.past hb;have g2:=g2.past hb;have g3:=g3.past hb;have g4:=g4.past hb;obtain ⟨qa0,qa1,qa2,la⟩:=bq3 hb la qa0 qa1 qa2;obtain ⟨qb0,qb1,qb2,lb⟩:=bq3 hb lb qb0 qb1 qb2;have xr:=xr.past hb lr;obtain ⟨qr0,qr1,qr2,lr⟩:=bq3 hb lr qr0 qr1 qr2;have ql0:=bq hb ll ql0;have ql1:=bq hb ll ql1;have ql2:=bq hb ll ql2;have ql3:=bq hb ll ql3;have ql4:=bq hb ll ql4;have ql5:=bq hb ll ql5;have ll:=bl hb ll;have hB:=bLt hB hb;clear hb;rw [HS.out] at hAU hAD ⊢;have zf0:=xr.f 0 (by decide);have zf1:=xr.f 1 (by decide);have zf2:=xr.f 2 (by decide)
 go_wp2
 have zf0:=xr.f 0 (by decide);have zf1:=xr.f 1 (by decide);have zf2:=xr.f 2 (by decide);obtain ⟨w6,hW,hO,qN0,qN1,qN2,xN⟩:=store3 xr (.bool (neg (S).num)) (.slice ahAU nhAU chAU) (.slice ahAD nhAD chAD) (nu rfl) (nu rfl) (nu rfl);try rw [hW]
 clear hW;have g1:=hO.nat g1;have g2:=hO.nat g2;have g3:=hO.nat g3;have g4:=hO.nat g4;have hAU:=hO.own hAU;have hAD:=hO.own hAD;have qa0:=(hO.cell (b2:=w.heap.size) (k:=0) (by omega)).trans qa0;have qa1:=(hO.cell (b2:=w.heap.size) (k:=1) (by omega)).trans qa1;have qa2:=(hO.cell (b2:=w.heap.size) (k:=2) (by omega)).trans qa2;have la:w.heap.size<w6.heap.size:=by rw [hO.size];exact la
 have qb0:=(hO.cell (b2:=w.heap.size+1) (k:=0) (by omega)).trans qb0;have qb1:=(hO.cell (b2:=w.heap.size+1) (k:=1) (by omega)).trans qb1;have qb2:=(hO.cell (b2:=w.heap.size+1) (k:=2) (by omega)).trans qb2;have lb:w.heap.size+1<w6.heap.size:=by rw [hO.size];exact lb
 have lr:w.heap.size+1+1<w6.heap.size:=by rw [hO.size];exact lr
 have ql0:=(hO.cell (b2:=w.heap.size+1+1+1) (k:=0) (by omega)).trans ql0;have ql1:=(hO.cell (b2:=w.heap.size+1+1+1) (k:=1) (by omega)).trans ql1;have ql2:=(hO.cell (b2:=w.heap.size+1+1+1) (k:=2) (by omega)).trans ql2;have ql3:=(hO.cell (b2:=w.heap.size+1+1+1) (k:=3) (by omega)).trans ql3;have ql4:=(hO.cell (b2:=w.heap.size+1+1+1) (k:=4) (by omega)).trans ql4;have ql5:=(hO.cell (b2:=w.heap.size+1+1+1) (k:=5) (by omega)).trans ql5;have ll:w.heap.size+1+1+1<w6.heap.size:=by rw [hO.size];exact ll
 have qr0:=qN0;have qr1:=qN1;have qr2:=qN2;have xr:=xN;have hB:=hO.below (by omega) hB;clear hO qN0 qN1 qN2 xN zf0 zf1 zf2;obtain ⟨w7,hW,hz0,hb,q,f⟩:=box1g w6 (w6.heap.size) (by omega) #[.bool (neg (S).num),.slice ahAU nhAU chAU,.slice ahAD nhAD chAD] 28;rw [hW];clear hW;have hAU:=hAU.past hb;have hAD:=hAD.past hb;obtain ⟨qa0,qa1,qa2,la⟩:=bq3 hb la qa0 qa1 qa2;obtain ⟨qb0,qb1,qb2,lb⟩:=bq3 hb lb qb0 qb1 qb2;have xr:=xr.past hb lr;obtain ⟨qr0,qr1,qr2,lr⟩:=bq3 hb lr qr0 qr1 qr2;have ql0:=bq hb ll ql0;have ql1:=bq hb ll ql1;have ql2:=bq hb ll ql2;have ql3:=bq hb ll ql3;have ql4:=bq hb ll ql4;have ql5:=bq hb ll ql5;have ll:=bl hb ll;have hB:=bLt hB hb;clear hb;have lx:w6.heap.size<w7.heap.size:=by omega
 have qx0:=q 0;have qx1:=q 1;have qx2:=q 2;simp only [lgA,lgZ,lgS] at qx0 qx1 qx2;clear q f;clear hz0;refine bodyPost_ret (v:=.agg #[.bool (neg S.num),.slice ahAU nhAU chAU,.slice ahAD nhAD chAD]) ?_ rfl ⟨_,_,_,_,_,_,rfl,hAU,hAD,hB⟩;simp [results,Tryz.f226,go_sem,qr0,qr1,qr2]
def chz (n:Nat) (k:Int):Nat:=if 0≤k∧k≤(n:Int) then ch n k.toNat else 0
def meetsR (k u j d:Nat):Rat:=mkRat ((ch u j*chz (k-u) ((d:Int)-(j:Int)):Nat):Int) (ch k d)
theorem chooseI (n:Nat) (y0 x y:Int) (w:World) (hx:x=(n:Int)) (hy:y=y0) (hn:n≤65536):Calls Tryz.prog 206 #[.int .i64 x,.int .i64 y] w (RetNE w (chz n y0) 0):=by
 subst hx;subst hy;unfold chz
 by_cases h:0≤y∧y≤(n:Int)
 · rw [if_pos h];obtain ⟨k,rfl⟩:∃ k:Nat,y=k:=⟨y.toNat,by omega⟩;exact choose_in n k w hn (by omega)
 rw [if_neg h];refine (choose_out n y w hn (by omega)).mono ?_;rintro e w' ⟨rfl,hb⟩;exact ⟨none,0,0,rfl,OwnAt.nil _ _,hb⟩
theorem chz_len {n:Nat} (hn:n≤65536) (k:Int):(digs (chz n k)).length≤65537:=by
 unfold chz
 split
 · have:=ch_len (n:=n) (by omega) k.toNat;omega
 exact Nat.zero_le _
theorem smake_nat {N:Nat} {a:Option Addr} {n c:Nat} {w:World} (g:NatAt w a n c (digs N)) (hs:n≤1099511627776):Calls Tryz.prog 83 #[.bool false,.slice a n c] w (RetInt w (N:Int)):=by
 have h:=make_any false a n c (digs N) w g hs;rw [val_digs] at h;exact h
theorem meets_any (k u j d:Nat) (w:World) (hk:k≤1024) (hu:u≤k) (hj:j≤u) (hd:d≤k) :
 Calls Tryz.prog 225 #[.int .i64 (k:Int),.int .i64 (u:Int),.int .i64 (j:Int),.int .i64 (d:Int)] w (RetRat w (meetsR k u j d)):=by
 unfold meetsR;have l1:=ch_len (n:=u) (by omega) j;have l2:=chz_len (n:=k-u) (by omega) ((d:Int)-(j:Int));have l3:=ch_len (n:=k) (by omega) d;have hp:ch k d≠0:=Nat.pos_iff_ne_zero.1 (ch_pos hd);obtain ⟨A,hA⟩:∃ A,ch u j=A:=⟨_,rfl⟩;obtain ⟨B,hB0⟩:∃ B,chz (k-u) ((d:Int)-(j:Int))=B:=⟨_,rfl⟩;obtain ⟨T,hT⟩:∃ T,ch k d=T:=⟨_,rfl⟩;rw [hA] at l1 ⊢;rw [hB0] at l2 ⊢;rw [hT] at l3 hp ⊢;have l4:(digs (A*B)).length≤1025+65537:=nTr (digs_len_prod A B) (by omega);obtain ⟨N,hN⟩:∃ N,A*B=N:=⟨_,rfl⟩;rw [hN] at l4 ⊢;obtain ⟨Q,hQ⟩:∃ Q,mkRat (N:Int) T=Q:=⟨_,rfl⟩;rw [hQ]
 have hmk:makeR (neg (N:Int)) (digs (N:Int).natAbs) (digs T) = .ok Q:=by
  unfold makeR;rw [if_neg (by rw [chkZ_canon];simp),if_neg (by rw [val_digs];exact hp),sg_canon,val_digs,hQ]
 have HA:=hiD hA;have HB:=hiD hB0;have HT:=hiD hT;have HN:=hiD hN;have HMK:=hiD hmk;have L1:=hiD (show (digs A).length≤1025 by omega);have L2:=hiD l2;have L3:=hiD (show (digs T).length≤1025 by omega);have L4:=hiD (show (digs (N:Int).natAbs).length≤66562 by rw [Int.natAbs_natCast];exact l4);clear hA hB0 hT hN hmk l1 l2 l3 l4 hp hQ
 go_enter Tryz.func225,Tryz.ntmps225
 have hB:=bRf w.heap.size w
 go_wp2_with fail
 obtain ⟨w1,hW,hz0,hb,q,f⟩:=box1g w (w.heap.size) (by omega) #[.bool false,.slice none 0 0,.slice none 0 0] 28;rw [hW];clear hW;have hB:=bLt hB hb;clear hb;have lr:w.heap.size<w1.heap.size:=by omega
 have qr0:=q 0;have qr1:=q 1;have qr2:=q 2;simp only [lgA,lgZ,lgS] at qr0 qr1 qr2;have xr:BoxAt w1 (w.heap.size) 3:=BoxAt.of q f rfl (by simp [notU_bool,notU_slice,notU_i64]);clear q f;clear hz0
 with_reducible refine (choose_in u j _ (by omega) hj).mono ?_
 rintro e w2 ⟨ahA,nhA,chA,rfl,hA,hb⟩;have hA:=hA.mono hB.size;have xr:=xr.past hb lr;obtain ⟨qr0,qr1,qr2,lr⟩:=bq3 hb lr qr0 qr1 qr2;have hB:=bLt hB hb;clear hb;rw [HA.out] at hA
 go_wp2_with fail
 with_reducible refine (chooseI (k-u) ((d:Int)-(j:Int)) _ _ _ (by first | omega | (unfold wrap64;omega)) (by first | omega | (unfold wrap64;omega)) (by omega)).mono ?_
 rintro e w3 ⟨ahC,nhC,chC,rfl,hC,hb⟩;have hC:=hC.mono hB.size;have hA:=hA.past hb;have xr:=xr.past hb lr;obtain ⟨qr0,qr1,qr2,lr⟩:=bq3 hb lr qr0 qr1 qr2;have hB:=bLt hB hb;clear hb;rw [HB.out] at hC
 go_wp2_with fail
 with_reducible refine (choose_in k d _ (by omega) hd).mono ?_
 rintro e w4 ⟨ahT,nhT,chT,rfl,hT,hb⟩;have hT:=hT.mono hB.size;have hA:=hA.past hb;have hC:=hC.past hb;have xr:=xr.past hb lr;obtain ⟨qr0,qr1,qr2,lr⟩:=bq3 hb lr qr0 qr1 qr2;have hB:=bLt hB hb;clear hb;rw [HT.out] at hT
 go_wp2_with fail
 with_reducible refine (tmul_any _ _ _ (digs A) _ _ _ (digs B) _ hA.toNatAt hC.toNatAt (by have:=hA.len;have:=L1.out;omega) (by have:=hC.len;have:=L2.out;omega)).mono ?_
 rintro e w5 ⟨aM,nM,cM,rfl,hM,hb⟩;have hM:=hM.mono hB.size;have hT:=hT.past hb;have xr:=xr.past hb lr;obtain ⟨qr0,qr1,qr2,lr⟩:=bq3 hb lr qr0 qr1 qr2;have hB:=bLt hB hb;clear hb;rw [val_digs,val_digs,HN.out] at hM
 go_wp2_with fail
 with_reducible refine (smake_nat hM.toNatAt (by have:=hM.len;have:=L4.out;rw [Int.natAbs_natCast] at this;omega)).mono ?_
 rintro e w6 ⟨aI,nI,cI,rfl,hI,hb⟩;have hI:=hI.mono hB.size;have hT:=hT.past hb;have xr:=xr.past hb lr;obtain ⟨qr0,qr1,qr2,lr⟩:=bq3 hb lr qr0 qr1 qr2;have hB:=bLt hB hb;clear hb
 go_wp2_with fail
 with_reducible refine (make_okR hI.toNatAt hT.toNatAt HMK.out (by have:=hI.len;have:=L4.out;omega) (by have:=hT.len;have:=L3.out;omega)).mono ?_
 rintro e w7 ⟨ahRU,nhRU,chRU,ahRD,nhRD,chRD,rfl,hRU,hRD,hb⟩;have hRU:=hRU.mono hB.size;have hRD:=hRD.mono hB.size;have xr:=xr.past hb lr;obtain ⟨qr0,qr1,qr2,lr⟩:=bq3 hb lr qr0 qr1 qr2;have hB:=bLt hB hb;clear hb;have zf0:=xr.f 0 (by decide);have zf1:=xr.f 1 (by decide);have zf2:=xr.f 2 (by decide)
 go_wp2
 have zf0:=xr.f 0 (by decide);have zf1:=xr.f 1 (by decide);have zf2:=xr.f 2 (by decide);obtain ⟨w8,hW,hO,qN0,qN1,qN2,xN⟩:=store3 xr (.bool (neg (Q).num)) (.slice ahRU nhRU chRU) (.slice ahRD nhRD chRD) (nu rfl) (nu rfl) (nu rfl);try rw [hW]
 clear hW;have hRU:=hO.own hRU;have hRD:=hO.own hRD;have lr:w.heap.size<w8.heap.size:=by rw [hO.size];exact lr
 have qr0:=qN0;have qr1:=qN1;have qr2:=qN2;have xr:=xN;have hB:=hO.below (by omega) hB;clear hO qN0 qN1 qN2 xN zf0 zf1 zf2;obtain ⟨w9,hW,hz0,hb,q,f⟩:=box1g w8 (w8.heap.size) (by omega) #[.bool (neg (Q).num),.slice ahRU nhRU chRU,.slice ahRD nhRD chRD] 28;rw [hW];clear hW;have hRU:=hRU.past hb;have hRD:=hRD.past hb;have xr:=xr.past hb lr;obtain ⟨qr0,qr1,qr2,lr⟩:=bq3 hb lr qr0 qr1 qr2;have hB:=bLt hB hb;clear hb;have lx:w8.heap.size<w9.heap.size:=by omega
 have qx0:=q 0;have qx1:=q 1;have qx2:=q 2;simp only [lgA,lgZ,lgS] at qx0 qx1 qx2;clear q f;clear hz0;refine bodyPost_ret (v:=.agg #[.bool (neg Q.num),.slice ahRU nhRU chRU,.slice ahRD nhRD chRD]) ?_ rfl ⟨_,_,_,_,_,_,rfl,hRU,hRD,hB⟩;simp [results,Tryz.f225,go_sem,qr0,qr1,qr2]
end
section
open Go.RowKit Go.Shelf
attribute [local go_sem] Oper.semAt_some
theorem cell_turn {W:World} {l:Nat} {o:Obj} (o':Obj) {x:Addr} {v:Value} (h:W.cell? x=some v) (hl:W.heap[l]? = some o) (ho:o.isCells=false):(W.putObj l o').cell? x=some v :=
 cell_kept h (grownBy_putObj' W l o') (fun r e=>by cases e;exact ⟨o,hl,ho⟩)
theorem frozen_turn {W:World} {l:Nat} {o:Obj} (o':Obj) {x:Addr} {v:Value} (h:W.cell? x=some v) (hl:W.heap[l]? = some o) (ho:o.isCells=false):(W.putObj l o').frozen? x=W.frozen? x :=
 frozen_kept h (grownBy_putObj' W l o') (fun r e=>by cases e;exact ⟨o,hl,ho⟩)
theorem NatAt.turn {W:World} {l:Nat} {o:Obj} (o':Obj) {a:Option Addr} {n c:Nat} {L:List Nat} (h:NatAt W a n c L) (hl:W.heap[l]? = some o) (ho:o.isCells=false):NatAt (W.putObj l o') a n c L :=
 ⟨h.len,h.le,h.cle,h.dig,h.cell.imp id fun ⟨b,k,e,hc⟩=>⟨b,k,e,fun i hi=>cell_turn o' (hc i hi) hl ho⟩,h.nilc⟩
theorem OwnAt.turn {W:World} {l B:Nat} {o:Obj} (o':Obj) {a:Option Addr} {n c:Nat} {L:List Nat} (h:OwnAt W B a n c L) (hl:W.heap[l]? = some o) (ho:o.isCells=false):OwnAt (W.putObj l o') B a n c L:=by
 refine ⟨h.toNatAt.turn o' hl ho,?_⟩;rcases h.own with h0 | ⟨b,k,rfl,hB,hf⟩
 · exact .inl h0
 rcases h.cell with h0 | ⟨b2,k2,e,hc⟩
 · exact .inl h0
 injection e with e
 injection e with e1 e2
 subst e1;subst e2;exact .inr ⟨b,k,rfl,hB,fun i hi=>(frozen_turn o' (hc i hi) hl ho).trans (hf i hi)⟩
theorem BoxAt.turn {W:World} {l b k:Nat} {o:Obj} (o':Obj) (h:BoxAt W b k) (hl:W.heap[l]? = some o) (ho:o.isCells=false):BoxAt (W.putObj l o') b k :=
 ⟨fun i hi=>by obtain ⟨v,hv,hu⟩:=h.c i hi;exact ⟨v,cell_turn o' hv hl ho,hu⟩,fun i hi=>by obtain ⟨v,hv,hu⟩:=h.c i hi;exact (frozen_turn o' hv hl ho).trans (h.f i hi)⟩
def RatBox (w:World) (B b:Nat) (q:Rat):Prop :=
 ∃ au nu cu ad nd cd,w.cell? ⟨b,0,none⟩=some (.bool (neg q.num))∧w.cell? ⟨b,1,none⟩=some (.slice au nu cu)∧w.cell? ⟨b,2,none⟩=some (.slice ad nd cd)∧BoxAt w b 3∧b<w.heap.size∧OwnAt w B au nu cu (digs q.num.natAbs)∧OwnAt w B ad nd cd (digs q.den)
theorem RatBox.past {w w':World} {B b:Nat} {q:Rat} (h:RatBox w B b q) (hb:Below w.heap.size w w'):RatBox w' B b q:=by
 obtain ⟨au,nu,cu,ad,nd,cd,h0,h1,h2,hx,hl,hu,hd⟩:=h;exact ⟨au,nu,cu,ad,nd,cd,(hb.cell (p:=⟨b,0,none⟩) hl).trans h0,(hb.cell (p:=⟨b,1,none⟩) hl).trans h1,(hb.cell (p:=⟨b,2,none⟩) hl).trans h2,hx.past hb hl,nLt hl hb.size,hu.past hb,hd.past hb⟩
theorem RatBox.turn {W:World} {l B b:Nat} {o:Obj} (o':Obj) {q:Rat} (h:RatBox W B b q) (hl:W.heap[l]? = some o) (ho:o.isCells=false):RatBox (W.putObj l o') B b q:=by
 obtain ⟨au,nu,cu,ad,nd,cd,h0,h1,h2,hx,hlt,hu,hd⟩:=h;exact ⟨au,nu,cu,ad,nd,cd,cell_turn o' h0 hl ho,cell_turn o' h1 hl ho,cell_turn o' h2 hl ho,hx.turn o' hl ho,by simpa using hlt,hu.turn o' hl ho,hd.turn o' hl ho⟩
def RatOk (q:Nat→Rat) (i:Nat) (x:Value) (_:Nat) (w:World):Prop :=
 ∃ a1 n1 c1 a2 n2 c2,x = .agg #[.bool (neg (q i).num),.slice a1 n1 c1,.slice a2 n2 c2]∧NatAt w a1 n1 c1 (digs (q i).num.natAbs)∧NatAt w a2 n2 c2 (digs (q i).den)
def RatNew (q:Nat→Rat) (i:Nat) (x:Value) (B:Nat) (w:World):Prop :=
 ∃ a1 n1 c1 a2 n2 c2,x = .agg #[.bool (neg (q i).num),.slice a1 n1 c1,.slice a2 n2 c2]∧OwnAt w B a1 n1 c1 (digs (q i).num.natAbs)∧OwnAt w B a2 n2 c2 (digs (q i).den)
theorem RatNew.ok {q:Nat→Rat} {i:Nat} {x:Value} {B:Nat} {w:World}:RatNew q i x B w→RatOk q i x B w:=fun ⟨a1,n1,c1,a2,n2,c2,e,h1,h2⟩=>⟨a1,n1,c1,a2,n2,c2,e,h1.toNatAt,h2.toNatAt⟩
def sumQ (p:Rat) (q:Nat→Rat):Nat→Rat
 | 0=>p
 | i+1=>sumQ p q i+q i
end
section
open Go.RowKit Go.Shelf
attribute [local go_sem] Oper.semAt_some
def FoldI (B bTo bBy bR:Nat) (p:Rat) (q:Nat→Rat) (i:Nat) (W:World):Prop :=
 RatBox W B bTo (sumQ p q i)∧W.cell? ⟨bBy,0,none⟩=some (.func (.func 226) #[] #[])∧bBy<W.heap.size∧BoxAt W bR 3∧bR<W.heap.size
theorem FoldI.past {B bTo bBy bR:Nat} {p:Rat} {q:Nat→Rat} {i:Nat} {W W':World} (h:FoldI B bTo bBy bR p q i W) (hb:Below W.heap.size W W'):FoldI B bTo bBy bR p q i W' :=
 ⟨h.1.past hb,(hb.cell (p:=⟨bBy,0,none⟩) h.2.2.1).trans h.2.1,nLt h.2.2.1 hb.size,h.2.2.2.1.past hb h.2.2.2.2,nLt h.2.2.2.2 hb.size⟩
theorem FoldI.off {B bTo bBy bR b:Nat} {p:Rat} {q:Nat→Rat} {i:Nat} {W:World} {x y:Int} (h:FoldI B bTo bBy bR p q i W) (hb:b<bTo∧b<bBy) (hc:W.cell? ⟨b,0,none⟩=some (.int .i64 x)):FoldI B bTo bBy bR p q i (W.setCell ⟨b,0,none⟩ (.int .i64 y)):=by
 obtain ⟨⟨au,nu,cu,ad,nd,cd,h0,h1,h2,hx,hl,hu,hd⟩,hby,hbl,hR,hRl⟩:=h;have ne:∀ {b2:Nat} (o:Nat),b<b2→(W.setCell ⟨b,0,none⟩ (.int .i64 y)).cell? ⟨b2,o,none⟩=W.cell? ⟨b2,o,none⟩:=fun o hlt=>World.cell?_setCell_other _ _ _ _ (fun e=>by injection e with h2;omega)
 exact ⟨⟨au,nu,cu,ad,nd,cd,(ne 0 hb.1).trans h0,(ne 1 hb.1).trans h1,(ne 2 hb.1).trans h2,hx.set _ _ (notU_i64 y),by simpa using hl,hu.offBox hc (notU_i64 x) _,hd.offBox hc (notU_i64 x) _⟩,(ne 0 hb.2).trans hby,by simpa using hbl,hR.set _ _ (notU_i64 y),by simpa using hRl⟩
theorem FoldI.turn {B bTo bBy bR:Nat} {p:Rat} {q:Nat→Rat} {i:Nat} {W:World} (h:FoldI B bTo bBy bR p q i W) {l:Nat} {o:Obj} (o':Obj) (hl:W.heap[l]? = some o) (ho:o.isCells=false):FoldI B bTo bBy bR p q i (W.putObj l o') :=
 ⟨h.1.turn o' hl ho,cell_turn o' h.2.1 hl ho,by simpa using h.2.2.1,h.2.2.2.1.turn o' hl ho,by simpa using h.2.2.2.2⟩
def FoldM (gf:Nat) (lb:Array Value) (p0:Value) (B bTo bBy bR:Nat) (p:Rat) (q:Nat→Rat) (i:Nat) (x:Value) (b:Act) (W:World):Prop :=
 ∃ bx a1 n1 c1 a2 n2 c2,b={ tmps:=#[.func (.func gf) #[] lb,p0,.func (.func 226) #[] #[],undef,.pointer (some ⟨bTo,0,none⟩),.pointer (some ⟨bBy,0,none⟩),.pointer (some ⟨bR,0,none⟩),.pointer (some ⟨bx,0,none⟩),.func (.func gf) #[] lb,x,undef,undef,undef,undef,undef],defers:=[] } ∧
  W.cell? ⟨bx,0,none⟩=some (.bool (neg (q i).num))∧W.cell? ⟨bx,1,none⟩=some (.slice a1 n1 c1)∧W.cell? ⟨bx,2,none⟩=some (.slice a2 n2 c2)∧NatAt W a1 n1 c1 (digs (q i).num.natAbs)∧NatAt W a2 n2 c2 (digs (q i).den)∧FoldI B bTo bBy bR p q i W
theorem FoldM.turn {gf:Nat} {lb:Array Value} {p0:Value} {B bTo bBy bR:Nat} {p:Rat} {q:Nat→Rat} {i:Nat} {x:Value} {b:Act} {W:World} (h:FoldM gf lb p0 B bTo bBy bR p q i x b W) {l:Nat} {o:Obj} (o':Obj) (hl:W.heap[l]? = some o) (ho:o.isCells=false):FoldM gf lb p0 B bTo bBy bR p q i x b (W.putObj l o'):=by
 obtain ⟨bx,a1,n1,c1,a2,n2,c2,e,h0,h1,h2,g1,g2,hi⟩:=h;exact ⟨bx,a1,n1,c1,a2,n2,c2,e,cell_turn o' h0 hl ho,cell_turn o' h1 hl ho,cell_turn o' h2 hl ho,g1.turn o' hl ho,g2.turn o' hl ho,hi.turn o' hl ho⟩
theorem fold_any (B gf:Nat) (lb:Array Value) (N:Nat) (p:Rat) (q:Nat→Rat) (a1:Option Addr) (n1 c1:Nat) (a2:Option Addr) (n2 c2:Nat) (w:World) (g1:OwnAt w B a1 n1 c1 (digs p.num.natAbs)) (g2:OwnAt w B a2 n2 c2 (digs p.den)) (hBw:B≤w.heap.size)
 (n0:Nat) (bj:Option Nat) (hn0:n0≤w.heap.size) (hbj:∀ b,bj=some b→b<w.heap.size) (hseq:Hands 2 Tryz.prog gf lb w n0 bj N (RatOk q)) (eg:∀ args w,(callFunc gf args).run Tryz.prog w = .ok (.enter gf args) w) (hq:∀ i,i<N→rlen (q i)≤1000000) (hs:∀ i,i≤N→rlen (sumQ p q i)≤1000000) :
 Calls Tryz.prog 223 #[.func (.func gf) #[] lb,.agg #[.bool (neg p.num),.slice a1 n1 c1,.slice a2 n2 c2],.func (.func 226) #[] #[]] w fun e w'=>∃ a3 n3 c3 a4 n4 c4,e = .returned (.agg #[.bool (neg (sumQ p q N).num),.slice a3 n3 c3,.slice a4 n4 c4])∧OwnAt w' B a3 n3 c3 (digs (sumQ p q N).num.natAbs)∧OwnAt w' B a4 n4 c4 (digs (sumQ p q N).den)∧Below n0 w w':=by
 refine (callsIn_wide (n:=3)).1 ?_;refine callsIn_of_wp_marks Tryz.func223 rfl trivial ?_ rfl;simp only [Tryz.ntmps223,List.size_toArray,List.length_cons,List.length_nil,Nat.reduceAdd,Nat.reduceSub,Array.replicate_succ,Array.replicate_zero,List.push_toArray,List.append_toArray,List.nil_append,List.cons_append]
 gi_wp2
 obtain ⟨w1,hW1,hz1,hb1,q1,f1⟩:=box1g w w.heap.size rfl #[.bool (neg p.num),.slice a1 n1 c1,.slice a2 n2 c2] 28;rw [hW1];obtain ⟨w2,hW2,hz2,hb2,q2,f2⟩:=box1g w1 (w.heap.size+1) (by omega) #[.func (.func 226) #[] #[]] 83;rw [hW2];obtain ⟨w3,hW3,hz3,hb3,q3,f3⟩:=box1g w2 (w.heap.size+1+1) (by omega) #[.bool false,.slice none 0 0,.slice none 0 0] 28;rw [hW3];have hb12:=bLt hb1 hb2;have hB:=bLt hb12 hb3;have hb23:Below w1.heap.size w1 w3:=bLt hb2 hb3;have x1:BoxAt w1 w.heap.size 3:=BoxAt.of q1 f1 rfl (by simp [notU_bool,notU_slice]);have x3:BoxAt w3 (w.heap.size+1+1) 3:=BoxAt.of q3 f3 rfl (by simp [notU_bool,notU_slice]);have r1:RatBox w1 B w.heap.size (sumQ p q 0):=⟨_,_,_,_,_,_,q1 0,q1 1,q1 2,x1,by omega,g1.past hb1,g2.past hb1⟩;have hI0:FoldI B w.heap.size (w.heap.size+1) (w.heap.size+1+1) p q 0 w3:=⟨r1.past hb23,(hb3.cell (p:=⟨w.heap.size+1,0,none⟩) (show w.heap.size+1<w2.heap.size by omega)).trans (q2 0),by omega,x3,by omega⟩;clear q1 q2 q3 f1 f2 f3 x1 x3 r1 hb12 hb23 hW1 hW2 hW3 hb1 hb2 hb3
 refine wpIn_rounds (w0:=w) (by decide) rfl eg hn0 hseq hB (FoldI B w.heap.size (w.heap.size+1) (w.heap.size+1+1) p q) (FoldM gf lb (.agg #[.bool (neg p.num),.slice a1 n1 c1,.slice a2 n2 c2]) B w.heap.size (w.heap.size+1) (w.heap.size+1+1) p q)
  (fun i W W' h hb=>h.past hb) (fun b hb i W x y h hc=>h.off ⟨hbj b hb,Nat.lt_succ_of_lt (hbj b hb)⟩ hc) (fun i W l o o' h hl ho _=>h.turn o' hl ho) (fun i x b W l o o' h hl ho _=>h.turn o' hl ho) hI0 ?_ ?_ ?_
 · rintro l i x W0 W hi hI0 hW0 hI hBW ⟨a3,n3,c3,a4,n4,c4,rfl,h3,h4⟩;have hal:Below W.heap.size W (W.alloc (.cells #[.bool (neg (q i).num),.slice a3 n3 c3,.slice a4 n4 c4] 28)):=(bRf _ _).alloc (nRf _) _;have y0:(W.alloc (.cells #[.bool (neg (q i).num),.slice a3 n3 c3,.slice a4 n4 c4] 28)).cell? ⟨W.heap.size,0,none⟩=some (.bool (neg (q i).num)):=by rw [World.cell?_alloc_at _ _ _ _ rfl];rfl
   have y1:(W.alloc (.cells #[.bool (neg (q i).num),.slice a3 n3 c3,.slice a4 n4 c4] 28)).cell? ⟨W.heap.size,1,none⟩=some (.slice a3 n3 c3):=by rw [World.cell?_alloc_at _ _ _ _ rfl];rfl
   have y2:(W.alloc (.cells #[.bool (neg (q i).num),.slice a3 n3 c3,.slice a4 n4 c4] 28)).cell? ⟨W.heap.size,2,none⟩=some (.slice a4 n4 c4):=by rw [World.cell?_alloc_at _ _ _ _ rfl];rfl
   have hM:FoldM gf lb (.agg #[.bool (neg p.num),.slice a1 n1 c1,.slice a2 n2 c2]) B w.heap.size (w.heap.size+1) (w.heap.size+1+1) p q i (.agg #[.bool (neg (q i).num),.slice a3 n3 c3,.slice a4 n4 c4]) _ _:=⟨W.heap.size,a3,n3,c3,a4,n4,c4,rfl,y0,y1,y2,h3.past hal,h4.past hal,hI.past hal⟩;have hall:=And.intro (KeepsOthers.alloc W (.cells #[.bool (neg (q i).num),.slice a3 n3 c3,.slice a4 n4 c4] 28)) (And.intro (hal.mono hBW.size) hM);clear y0 y1 y2 hM
   gi_wp2
   exact hall
 · rintro l i x b W hi hBW0 hWs ⟨bx,a3,n3,c3,a4,n4,c4,rfl,h0,h1,h2,h3,h4,hI⟩;obtain ⟨⟨au,nu,cu,ad,nd,cd,t0,t1,t2,hx,hlt,hu,hd⟩,hby,hbyl,hxR,hRl⟩:=hI;have hS:=hs i (by omega);have hQ:=hq i hi;have hSS:=hs (i+1) (by omega);have hsum:sumQ p q (i+1)=sumQ p q i+q i:=rfl;obtain ⟨S,hSe⟩:∃ S,sumQ p q i=S:=⟨_,rfl⟩;obtain ⟨X,hXe⟩:∃ X,q i=X:=⟨_,rfl⟩;obtain ⟨Z,hZe⟩:∃ Z,sumQ p q (i+1)=Z:=⟨_,rfl⟩;rw [hSe] at hS t0 hu hd hsum;rw [hXe] at hQ h0 h3 h4 hsum;rw [hZe] at hsum;have HPL:=hiD (plus_any S X _ _ _ _ _ _ _ _ _ _ _ _ W hu.toNatAt hd.toNatAt h3 h4 (by omega) (by omega));have HZ:=hiD hZe;have HSUM:=hiD hsum.symm;clear hS hQ hSS hsum hSe hXe hZe
   gi_wp2_with (refine ⟨trivial,?_⟩;gi_at_call 226;refine (CallsIn.inRound l (callsIn_wide.2 HPL.out)).mono ?_;rintro e W2 ⟨a5,n5,c5,a6,n6,c6,rfl,u5,u6,hb⟩;rw [HSUM.out] at u5 u6 ⊢;have t0:=(hb.cell (p:=⟨w.heap.size,0,none⟩) hlt).trans t0;have t1:=(hb.cell (p:=⟨w.heap.size,1,none⟩) hlt).trans t1;have t2:=(hb.cell (p:=⟨w.heap.size,2,none⟩) hlt).trans t2;have hx:=hx.past hb hlt;have hlt2:=nLt hlt hb.size;have zf0:=hx.f 0 (by decide);have zf1:=hx.f 1 (by decide);have zf2:=hx.f 2 (by decide))
   obtain ⟨W3,hW3,hO,qN0,qN1,qN2,xN⟩:=store3 hx (.bool (neg Z.num)) (.slice a5 n5 c5) (.slice a6 n6 c6) (Go.Proofs.YtkhcblihbalnbaaGreat.nu rfl) (Go.Proofs.YtkhcblihbalnbaaGreat.nu rfl) (Go.Proofs.YtkhcblihbalnbaaGreat.nu rfl);have hkW2:KeepsOthers W W2:=⟨hb.size,fun k o h _=>(hb.block k (Array.getElem?_eq_some_iff.1 h).1).trans h⟩;have hk3:KeepsOthers W2 W3:=by rw [← hW3];exact ((KeepsOthers.setCell _ _ _).trans (KeepsOthers.setCell _ _ _)).trans (KeepsOthers.setCell _ _ _)
   have hBl:B≤W.heap.size:=nTr hBw hWs;try rw [hW3]
   exact ⟨hkW2.trans hk3,hO.below (nRf _) (hb.mono hWs),⟨a5,n5,c5,a6,n6,c6,by rw [HZ.out];exact qN0,qN1,qN2,xN,by rw [hO.size];exact hlt2,by rw [HZ.out];exact hO.own (u5.mono hBl),by rw [HZ.out];exact hO.own (u6.mono hBl)⟩,(hO.cell (b2:=w.heap.size+1) (k:=0) (by omega)).trans ((hb.cell (p:=⟨w.heap.size+1,0,none⟩) hbyl).trans hby),by rw [hO.size];exact nLt hbyl hb.size,hO.box (hxR.past hb hRl),by rw [hO.size];exact nLt hRl hb.size⟩
 intro D W hD hI hBW hdef;obtain ⟨⟨au,nu,cu,ad,nd,cd,t0,t1,t2,hx,hlt,hu,hd⟩,hby,hbyl,hxR,hRl⟩:=hI;obtain ⟨v0,v1,v2,z0,z1,z2,z3,z4,z5,_,_,_⟩:=hxR.three
 gi_wp2
 obtain ⟨W3,hW3,hO,qN0,qN1,qN2,xN⟩:=store3 hxR (.bool (neg (sumQ p q N).num)) (.slice au nu cu) (.slice ad nd cd) (Go.Proofs.YtkhcblihbalnbaaGreat.nu rfl) (Go.Proofs.YtkhcblihbalnbaaGreat.nu rfl) (Go.Proofs.YtkhcblihbalnbaaGreat.nu rfl);have hk3:KeepsOthers W W3:=by rw [← hW3];exact ((KeepsOthers.setCell _ _ _).trans (KeepsOthers.setCell _ _ _)).trans (KeepsOthers.setCell _ _ _)
 have hdef3:=hk3.same _ _ hdef rfl;try rw [hW3]
 have r0:=cell_turn (.deferred none) qN0 hdef3 rfl;have r1:=cell_turn (.deferred none) qN1 hdef3 rfl;have r2:=cell_turn (.deferred none) qN2 hdef3 rfl;have hB3:=(hO.below (by omega) hBW).trans (below_put (.deferred none) (show n0≤D by omega));have u3:=(hO.own hu).turn (.deferred none) hdef3 rfl;have u4:=(hO.own hd).turn (.deferred none) hdef3 rfl;refine ⟨by simp,.inl ⟨_,_,rfl,run_takeDeferred hdef3,?_⟩⟩;refine ⟨.agg #[.bool (neg (sumQ p q N).num),.slice au nu cu,.slice ad nd cd],?_,?_⟩
 · simp [results,Tryz.f223,go_sem,r0,r1,r2]
 exact ⟨_,_,_,_,_,_,rfl,u3,u4,hB3⟩
end
section
open Go.RowKit Go.Shelf
attribute [local go_sem] Oper.semAt_some
theorem BoxAt.low {w w':World} {B b k:Nat} (h:BoxAt w b k) (hb:Below B w w') (hl:b<B):BoxAt w' b k :=
 ⟨fun i hi=>by obtain ⟨v,hv,hu⟩:=h.c i hi;exact ⟨v,(hb.cell (p:=⟨b,i,none⟩) hl).trans hv,hu⟩,fun i hi=>(hb.frozen (p:=⟨b,i,none⟩) hl).trans (h.f i hi)⟩
end
section
open Go.RowKit
theorem rip_ref_ok (a:Option Addr) (l c:Nat) (zs:List Int) (k n:Int) (w:World) (g:IntsAt w a l c zs) (h1:1≤k) (h2:k≤1024) (h3:0≤n) (h4:n≤4096) (h5:okT zs k) :
 Calls Tryz.prog 103 #[.slice a l c,.int .i64 k,.int .i64 n] w (RetVal w (.int .i64 0)):=by
 have hc:=chkT_yes h5;have HC:=hiD hc;clear hc h5
 go_enter Tryz.func103,Tryz.ntmps103
 have hB:=bRf w.heap.size w
 go_wp2_with fail
 with_reducible refine (soliCheck_any _ _ _ zs k _ g).mono ?_
 rintro e w1 ⟨rfl,hb⟩;have hB:=bLt hB hb;clear hb;rw [HC.out]
 go_wp2
 go_ret
 exact ⟨rfl,hB⟩
theorem cur_ref_bad (a:Option Addr) (l c:Nat) (zs:List Int) (k n:Int) (w:World) (g:IntsAt w a l c zs) (h1:1≤k) (h2:k≤1024) (h3:0≤n) (h4:n≤4096) (h5:¬ okT zs k) :
 Calls Tryz.prog 71 #[.slice a l c,.int .i64 k,.int .i64 n] w (RetVal w (.int .i64 13)):=by
 have hc:=chkT_no h5;have HC:=hiD hc;clear hc h5
 go_enter Tryz.func71,Tryz.ntmps71
 have hB:=bRf w.heap.size w
 go_wp2_with fail
 with_reducible refine (soliCheck_any _ _ _ zs k _ g).mono ?_
 rintro e w1 ⟨rfl,hb⟩;have hB:=bLt hB hb;clear hb;rw [HC.out]
 go_wp2
 go_ret
 exact ⟨rfl,hB⟩
theorem cur_ref_ok (a:Option Addr) (l c:Nat) (zs:List Int) (k n:Int) (w:World) (g:IntsAt w a l c zs) (h1:1≤k) (h2:k≤1024) (h3:0≤n) (h4:n≤4096) (h5:okT zs k) :
 Calls Tryz.prog 71 #[.slice a l c,.int .i64 k,.int .i64 n] w (RetVal w (.int .i64 0)):=by
 have hc:=chkT_yes h5;have HC:=hiD hc;clear hc h5
 go_enter Tryz.func71,Tryz.ntmps71
 have hB:=bRf w.heap.size w
 go_wp2_with fail
 with_reducible refine (soliCheck_any _ _ _ zs k _ g).mono ?_
 rintro e w1 ⟨rfl,hb⟩;have hB:=bLt hB hb;clear hb;rw [HC.out]
 go_wp2
 go_ret
 exact ⟨rfl,hB⟩
end
end Go.Proofs.YtkhcblihbalnbaaGreat
