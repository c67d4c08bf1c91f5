/- A text cut at its commas: the reference. -/
import Derived.Test.YtlijleemogpifaaDoorS8
namespace Go.Proofs.YtlijleemogpifaaDoor.C
open Go.RowKit Go.Proofs.YtlijleemogpifaaDoor.K
set_option linter.unusedVariables false
set_option linter.unusedSimpArgs false
attribute [local go_sem ↓] Go.wp_at_zero Go.wp_at_succ

/-- where the piece at hand begins, behind k bytes -/
def pcF (s : ByteArray) : Nat → Nat
  | 0 => 0
  | k + 1 => if byt s k = 44 then k + 1 else pcF s k
/-- the pieces that are whole, behind k bytes -/
def pcL (s : ByteArray) : Nat → List ByteArray
  | 0 => []
  | k + 1 => if byt s k = 44 then pcL s k ++ [s.extract (pcF s k) k] else pcL s k
theorem pcF_le (s : ByteArray) : ∀ k, pcF s k ≤ k
  | 0 => Nat.le_refl _
  | k + 1 => by
    have := pcF_le s k
    rw [pcF]; split <;> omega
theorem pcL_le (s : ByteArray) : ∀ k, (pcL s k).length ≤ k
  | 0 => Nat.le_refl _
  | k + 1 => by
    have := pcL_le s k
    rw [pcL]; split
    · rw [List.length_append]; exact Nat.succ_le_succ this
    · omega
/-- all pieces -/
def wds (s : ByteArray) : List ByteArray := pcL s s.size ++ [s.extract (pcF s s.size) s.size]
set_option maxHeartbeats 3200000 in
theorem split_s (s : ByteArray) (w : World) (hs : s.size ≤ 1048576) : Calls Tryd.prog 66 #[.string s, .int .u8 44] w fun e w' => ∃ v, e = .returned v ∧ w'.ownsRow w.heap.size 9 1 v (wds s).length ((wds s).map Value.string) ∧ Below w.heap.size w w' := by
  obtain ⟨i0, hi, hz0, hz1, hz2⟩ := info_parts infoS
  have hown0 : (w.alloc (.cells #[] 9)).ownsRow w.heap.size 9 1 (.slice (some ⟨w.heap.size, 0, none⟩) 0 0) (pcL s 0).length ((pcL s 0).map Value.string) := World.ownsRow_made w #[] 0 (Nat.le_refl _) (by unfold maxLen; omega) rfl
  go_enter Tryd.func66, Tryd.ntmps66
  go_wp2_with fail
  go_loopw [5, 6, 7] (fun v x i wr => ∃ k : Nat, (k ≤ s.size ∧ x = .int .i64 (pcF s k) ∧ wr.ownsRow w.heap.size 9 1 v (pcL s k).length ((pcL s k).map Value.string) ∨ k = s.size + 1 ∧ wr.ownsRow w.heap.size 9 1 v (wds s).length ((wds s).map Value.string) ∧ ∃ m : Nat, x = .int .i64 m) ∧ i = .int .i64 k ∧ Below w.heap.size w wr) (fun _ _ i _ => s.size + 1 - (intOf i).toNat)
  case atStart => exact ⟨0, .inl ⟨Nat.zero_le _, rfl, hown0⟩, rfl, (by repeat (first | (with_reducible exact Below.refl _ _) | (with_reducible assumption) | (with_reducible refine below_alloc ?_ _) | (with_reducible refine Below.setCell ?_ (by first | omega | (simp; done) | (simp; omega)) _) | (with_reducible refine below_drewN ?_ _) | (with_reducible refine Below.drew ?_) | (with_reducible refine below_tr ?_ (by assumption))))⟩
  case round =>
    obtain ⟨k, hk, rfl, hB⟩ := hrel
    clear hown0
    have hsz := hB.size
    rcases hk with ⟨hk, rfl, hown⟩ | ⟨hkk, hown, m, rfl⟩
    · have hF := pcF_le s k
      have hF1 : (pcF s k : Int) ≤ k := by omega
      have hF2 : (k : Int) ≤ s.size := by omega
      have hF3 : (0 : Int) ≤ pcF s k := by omega
      have hPl := pcL_le s k
      by_cases hkl : k < s.size
      · have hne : ((k : Int) == s.size) = false := beq_eq_false_iff_ne.2 (by omega)
        have hbt : byt s k = s[k].toNat := dif_pos hkl
        by_cases hc : byt s k = 44
        · have c1 : ((s[k].toNat : Int) == 44) = true := beq_iff_eq.2 (by omega)
          have e1 : pcF s (k + 1) = k + 1 := by rw [pcF, if_pos hc]
          have e2 : pcL s (k + 1) = pcL s k ++ [s.extract (pcF s k) k] := by rw [pcL, if_pos hc]
          clear hbt hc
          go_wp2_with (at_builtin; refine wpList_append_own_at _ rfl (.tmp 26) (.tmp 31) 70 rfl w.heap.size 9 i0 (.string ⟨#[]⟩) 1 16 Tryd.underlying70 hi hz0 hz1 hz2 rfl (by decide) _ _ _ rfl (hown.alloc _) ⟨_, 0, none⟩ 1 1 [.string (s.extract (pcF s k) k)] rfl rfl (cell_one _ _ _) (by intro u hu; simp at hu; subst hu; rfl) (by unfold maxLen; omega) (by omega) (by simp; omega) ?_; intro v3 w3 hown3 hgrow3 hnil3 hat3)
          go_roundw
          case rel => exact ⟨k + 1, .inl ⟨by omega, by rw [e1]; go_num, by rw [e2, List.map_append, List.length_append]; exact hown3⟩, by go_num, (hB.alloc hsz _).grown hgrow3 (by simp; omega) (fun k hk => (hown.lt k hk).1)⟩
          case measure => simp only [intOf]; omega
        · have c1 : ((s[k].toNat : Int) == 44) = false := beq_eq_false_iff_ne.2 (by omega)
          have e1 : pcF s (k + 1) = pcF s k := by rw [pcF, if_neg hc]
          have e2 : pcL s (k + 1) = pcL s k := by rw [pcL, if_neg hc]
          clear hbt hc
          go_wp2_with fail
          go_roundw
          case rel => exact ⟨k + 1, .inl ⟨by omega, by rw [e1], by rw [e2]; exact hown⟩, by go_num, hB⟩
          case measure => simp only [intOf]; omega
      · have hkk : k = s.size := by omega
        have heq : ((k : Int) == s.size) = true := beq_iff_eq.2 (by omega)
        have e3 : wds s = pcL s k ++ [s.extract (pcF s k) k] := by rw [hkk]; rfl
        have HK := Lib.hid hkk
        have H3 := Lib.hid e3
        clear hkk e3
        go_wp2_with (at_builtin; refine wpList_append_own_at _ rfl (.tmp 26) (.tmp 31) 70 rfl w.heap.size 9 i0 (.string ⟨#[]⟩) 1 16 Tryd.underlying70 hi hz0 hz1 hz2 rfl (by decide) _ _ _ rfl (hown.alloc _) ⟨_, 0, none⟩ 1 1 [.string (s.extract (pcF s k) k)] rfl rfl (cell_one _ _ _) (by intro u hu; simp at hu; subst hu; rfl) (by unfold maxLen; omega) (by omega) (by simp; omega) ?_; intro v3 w3 hown3 hgrow3 hnil3 hat3)
        go_roundw
        case rel => exact ⟨k + 1, .inr ⟨by have := HK.out; omega, by rw [H3.out, List.map_append, List.length_append]; exact hown3, k + 1, by go_num⟩, by go_num, (hB.alloc hsz _).grown hgrow3 (by simp; omega) (fun k hk => (hown.lt k hk).1)⟩
        case measure => simp only [intOf]; omega
    · have hnl : ¬ (k : Int) ≤ s.size := by omega
      clear hkk hs
      go_wp2_with fail
      go_ret
      exact ⟨_, rfl, hown, hB⟩
end Go.Proofs.YtlijleemogpifaaDoor.C
