import Derived.Test.YtkhcblihbalnbaaGreatDoorLimbs1Pb
set_option linter.unusedVariables false
set_option linter.unusedSimpArgs false
set_option maxHeartbeats 4000000
set_option maxRecDepth 100000
namespace Go.Proofs.YtkhcblihbalnbaaGreatDoor
open Go.RowKit
theorem bytes_conv (s:ByteArray) (W:World):(convert 9 31 (.string s)).run Tryz.prog W = .ok (.slice (some ⟨W.heap.size,0,none⟩) s.size (grownCap W s.size 0 5)) (W.drew.alloc (.cells (bytesRow s (grownCap W s.size 0 5)) 5 ((bytesRow s (grownCap W s.size 0 5)).size,(bytesRow s (grownCap W s.size 0 5)).size+1))) :=
 run_bytes_of_string W 9 31 5 s Tryz.underlying9 Tryz.underlying31 Tryz.underlying5
theorem bytes_conv_at (s:ByteArray) (W:World) (hs:s.size≤9223372036854775807):∃ c W',(convert 9 31 (.string s)).run Tryz.prog W = .ok (.slice (some ⟨W.heap.size,0,none⟩) s.size c) W'∧BytesAt W' (some ⟨W.heap.size,0,none⟩) s.size c (nums s.data.toList)∧Below W.heap.size W W'∧c≤9223372036854775807∧s.size≤c:=by
 have h1:=grownCap_ge W s.size 0 5;have h2:=grownCap_le_maxLen W s.size 0 5 (by simp only [maxLen];omega);simp only [maxLen] at h2;exact ⟨_,_,bytes_conv s W,bytes_made W.drew s _ _ _ h1 h2,(bRf W.heap.size W).drew.alloc (nRf _) _,h2,h1⟩
theorem form_any (s:ByteArray) (w:World) (hs:s.size≤10000) :
 Calls Tryz.prog 126 #[.string s] w (RetVal w (.int .i64 ((formL s.data.toList:Nat):Int))):=by
 obtain ⟨c,w1,hcv,hby,hb1,hc1,hc2⟩:=bytes_conv_at s w (by omega);have hsl:=size_list s;have HSL:=hiD hsl;clear hsl
 go_enter Tryz.func126,Tryz.ntmps126
 go_wp2
 go_loopw [8] (fun s8 wr=>∃ i:Nat,i≤s.size∧s8 = .int .i64 (i:Int)∧Hid (∀ j,j<i→badAt s.data.toList j=false)∧wr=w1) (fun s8 _=>s.size-(intOf s8).toNat)
 case atStart=>exact ⟨0,Nat.zero_le _,rfl,hiD (fun j hj=>absurd hj (by omega)),rfl⟩
 case round =>
  obtain ⟨i,hi,rfl,hfine,rfl⟩:=hrel
  by_cases hlt:i<s.size
  · obtain ⟨X,hX⟩:∃ X,L8 s.data.toList i=X:=⟨_,rfl⟩;obtain ⟨Y,hY⟩:∃ Y,L8 s.data.toList 0=Y:=⟨_,rfl⟩;have hXl:X<256:=by rw [← hX];exact L8_lt _ _
    have hYl:Y<256:=by rw [← hY];exact L8_lt _ _
    have hcell:wr.cell? ⟨w.heap.size,0+i,none⟩=some (.int .u8 (X:Int)):=by
     rcases hby.cell with h' | ⟨b',o',e,hc⟩
     · omega
     cases e;rw [hc i hlt,D_nums,hX]
    rw [Nat.zero_add] at hcell
    have hix:∀ W,(Instr.index 9 (.string s) (.int .i64 0)).run Tryz.prog W = .ok (.int .u8 (Y:Int)) W:=by
     intro W;rw [run_index_string W 9 s .i64 0 Tryz.underlying9];rw [dif_pos ⟨by decide,by omega⟩,← hY,← get_L8 s 0 (by omega)];rfl
    have HX:=hiD hX;have HY:=hiD hY;clear hby hcv hX hY
    by_cases hA:X<48
    · have hA2:(X:Int)<48:=by omega
      go_wp2
      go_ret
      refine ⟨ret_int ?_,hb1⟩;have hbad:badAt s.data.toList i=true:=by unfold badAt;rw [HX.out,HY.out];simp;omega
      rw [formL_stop hfine.out (by rw [HSL.out];exact hlt) hbad]
    by_cases hB:57<X
    · have hB2:(57:Int)<X:=by omega
      have hA2:¬ (X:Int)<48:=by omega
      go_wp2
      go_ret
      refine ⟨ret_int ?_,hb1⟩;have hbad:badAt s.data.toList i=true:=by unfold badAt;rw [HX.out,HY.out];simp;omega
      rw [formL_stop hfine.out (by rw [HSL.out];exact hlt) hbad]
    have hB2:¬ (57:Int)<X:=by omega
    have hA2:¬ (X:Int)<48:=by omega
    by_cases hi1:i=1
    · have hi2:((i:Int) == 1)=true:=beq_iff_eq.2 (by omega);have HI:=hiD hi1;clear hi1
      by_cases hY48:Y=48
      · have hY2:((Y:Int) == 48)=true:=beq_iff_eq.2 (by omega);have HY48:=hiD hY48;clear hY48
        go_wp2
        go_ret
        refine ⟨ret_int ?_,hb1⟩;have hbad:badAt s.data.toList i=true:=by unfold badAt;rw [HX.out,HY.out];simp;have:=HI.out;have:=HY48.out;omega
        rw [formL_stop hfine.out (by rw [HSL.out];exact hlt) hbad]
      have hY2:((Y:Int) == 48)=false:=beq_eq_false_iff_ne.2 (by omega);have hok:badAt s.data.toList i=false:=by unfold badAt;rw [HX.out,HY.out];simp;have:=HI.out;omega
      have hf2:∀ j,j<i+1→badAt s.data.toList j=false:=fun j hj=>by
       by_cases e:j=i
       · rw [e];exact hok
       exact hfine.out j (by omega)
      have HF2:=hiD hf2;clear hok hf2
      go_wp2
      go_roundw
      case measure=>simp [intOf]<;>omega
      case rel=>exact ⟨i+1,by omega,by go_num,HF2,by trivial⟩
    have hi2:((i:Int) == 1)=false:=beq_eq_false_iff_ne.2 (by omega);have hok:badAt s.data.toList i=false:=by unfold badAt;rw [HX.out,HY.out];simp;omega
    have hf2:∀ j,j<i+1→badAt s.data.toList j=false:=fun j hj=>by
     by_cases e:j=i
     · rw [e];exact hok
     exact hfine.out j (by omega)
    have HF2:=hiD hf2;clear hok hf2
    go_wp2
    go_roundw
    case measure=>simp [intOf]<;>omega
    case rel=>exact ⟨i+1,by omega,by go_num,HF2,by trivial⟩
  obtain rfl:i=s.size:=by omega
  have hall:=formL_all (l:=s.data.toList) (fun j hj=>hfine.out j (by rw [HSL.out] at hj;exact hj));have HA:=hiD hall;clear hall hby hcv
  go_wp2
  go_ret
  exact ⟨ret_int (by rw [HA.out,HSL.out]),hb1⟩
end Go.Proofs.YtkhcblihbalnbaaGreatDoor
