/- The law on the texts of figures: plain facts, the draws. -/
import Derived.Test.YtlijleemogpifaaDoorS17
import Derived.Test.YtlijleemogpifaaDoorS19
import Derived.Test.YtlijleemogpifaaDoorA2f
namespace Go.Proofs.YtlijleemogpifaaDoor.C
open Go.RowKit Go.Proofs.YtlijleemogpifaaDoor.K
set_option linter.unusedVariables false
set_option linter.unusedSimpArgs false
attribute [local go_sem ↓] Go.wp_at_zero Go.wp_at_succ

/-- rounding again changes nothing, and the rounded figure is near -/
theorem round_again {d t k : Int} (h : rfC d t k = 0) : (rfC (rfD d k) (rfT d t k) k = 0 ∧ rfD (rfD d k) k = rfD d k ∧ rfT (rfD d k) (rfT d t k) k = rfT d t k) ∧ reK (rfD d k) (rfT d t k) d t = 0 ∧ reN (rfD d k) (rfT d t k) d t ≤ 500000 := by
  have hf : figV d t = true := by
    cases hf : figV d t
    · unfold rfC at h; rw [hf] at h; cases h
    · rfl
  have hk : inB k 1 4 = true := by
    cases hk : inB k 1 4
    · unfold rfC at h; rw [hf, hk] at h; cases h
    · rfl
  have hr : figV (rfD d k) (rfT d t k) = true := by
    cases hr : figV (rfD d k) (rfT d t k)
    · unfold rfC at h; rw [hf, hk, hr] at h; cases h
    · rfl
  obtain ⟨d0, d1, t0, t1⟩ := figV_true.1 hf
  obtain ⟨r0, r1, s0, s1⟩ := figV_true.1 hr
  have hk4 : k = 1 ∨ k = 2 ∨ k = 3 ∨ k = 4 := by have := inB_true.1 hk; omega
  have hU : rfU k = 1000 ∨ rfU k = 100 ∨ rfU k = 10 ∨ rfU k = 1 := by rcases hk4 with rfl | rfl | rfl | rfl <;> simp [rfU]
  have hQ : ∀ x, rfQ x k = (2 * x + rfU k) / (2 * rfU k) * rfU k := fun _ => rfl
  have hQd := hQ d
  have hQ1000 := hQ 1000
  have hQQ := hQ (rfQ d k)
  have hmul : rfQ (rfQ d k) k = rfQ d k := by rcases hU with h | h | h | h <;> rw [h] at hQd hQQ <;> omega
  have h1000 : rfQ 1000 k = 1000 := by rcases hU with h | h | h | h <;> rw [h] at hQ1000 <;> omega
  have hnear : -500 ≤ rfQ d k - d ∧ rfQ d k - d ≤ 500 := by rcases hU with h | h | h | h <;> rw [h] at hQd <;> omega
  clear hQ hQd hQ1000 hQQ hU
  have hR : (rfQ d k = 10000 ∧ rfD d k = 1000 ∧ rfT d t k = t + 1) ∨ (rfQ d k ≠ 10000 ∧ rfD d k = rfQ d k ∧ rfT d t k = t) := by
    by_cases h : rfQ d k = 10000
    · exact .inl ⟨h, by unfold rfD; rw [if_pos h], by unfold rfT; rw [if_pos h]⟩
    · exact .inr ⟨h, by unfold rfD; rw [if_neg h], by unfold rfT; rw [if_neg h]⟩
  have hidem : rfQ (rfD d k) k = rfD d k := by
    rcases hR with ⟨_, e, _⟩ | ⟨_, e, _⟩
    · rw [e, h1000]
    · rw [e, hmul]
  have hne : rfQ (rfD d k) k ≠ 10000 := by rw [hidem]; omega
  have e1 : rfD (rfD d k) k = rfD d k := by rw [rfD.eq_1 (rfD d k), if_neg hne, hidem]
  have e2 : rfT (rfD d k) (rfT d t k) k = rfT d t k := by rw [rfT.eq_1 (rfD d k), if_neg hne]
  refine ⟨⟨?_, e1, e2⟩, ?_⟩
  · rw [rfC.eq_1 (rfD d k), hr, hk, e1, e2, hr]; rfl
  · have hn : reN (rfD d k) (rfT d t k) d t ≤ 500000 := by
      rcases hR with ⟨a, b, c⟩ | ⟨a, b, c⟩
      · rw [b, c, reN_one (by omega)]
        exact up_le (by omega) _ (by omega)
      · rw [b, c]
        by_cases hlt : rfQ d k < d
        · rw [reN_lt (by omega) hlt]
          exact up_le (by omega) _ (by omega)
        · rw [reN_ge (by omega) hlt]
          exact up_le (by omega) _ (by omega)
    refine ⟨?_, hn⟩
    unfold reK reC
    rw [if_pos (twoV_true.2 ⟨hr, hf⟩), if_neg (by omega)]
theorem ftV_size (d t : Int) : (ftV d t).size ≤ 40 := by
  unfold ftV
  split
  · rename_i h
    obtain ⟨d0, d1, t0, t1⟩ := figV_true.1 h
    have hi := itoB_size (n := t) (by omega) (by omega)
    have h4 := dec4 d0 d1
    unfold ftB
    rw [ByteArray.size_append, ByteArray.size_append, ByteArray.size_append, ByteArray.size_append, ByteArray.size_extract, ByteArray.size_extract]
    have e1 : (⟨#[46]⟩ : ByteArray).size = 1 := rfl
    have e2 : (⟨#[101]⟩ : ByteArray).size = 1 := rfl
    omega
  · exact Nat.zero_le _
/-- the text of a figure that may be written is read as the figure -/
theorem ft_back {d t : Int} (h : figV d t = true) : fgK (ftV d t) = true ∧ fgD (ftV d t) = d ∧ fgT (ftV d t) = t := by
  have e : ftV d t = ftB d t := by unfold ftV; rw [if_pos h]
  rw [e]
  exact fg_text h
/-- a figure that was read is written as its text -/
theorem fg_there {s : ByteArray} (h : fgK s = true) : figV (fgD s) (fgT s) = true ∧ ftV (fgD s) (fgT s) = s := by
  obtain ⟨e, hf⟩ := fg_back h
  refine ⟨hf, ?_⟩
  unfold ftV
  rw [if_pos hf]
  exact e.symm
set_option maxHeartbeats 6400000 in
theorem DrawReadFigure (a : Option Addr) (len cap : Nat) (w : World) (hL : Lb1 w) (hR : Row8 w a len w.heap.size) : Calls Tryd.prog 36 #[.slice a len cap] w fun e w' => ∃ u : ByteArray, e = .returned (.string u) ∧ u.size ≤ 1048576 ∧ Below w.heap.size w w' := by
  go_enter Tryd.func36, Tryd.ntmps36
  go_upto_region 3 with (first | (go_at_call 57; refine (from_s _ _ _ _ hR).mono ?_; rintro e w1 ⟨rfl, hS1, hb1⟩) | (go_at_call 70; refine (valid_s _ a len cap _ hS1).mono ?_; rintro e w2 ⟨d, t, rfl, d0, d1, t0, t1, hS2, hB2⟩; have hb2 := below_but hb1 hB2 (Nat.le_refl _)) | (go_at_call 49; refine (figtext_spec d t _ (hL.below hb2) d0 d1 (by omega) (by omega)).mono ?_; rintro e w3 ⟨rfl, hb3⟩))
  have hS3 := hS2.below hb3
  have hB3 := below_tr hb2 hb3
  have hT0 : figV d t = true := figV_true.2 ⟨d0, d1, by omega, by omega⟩
  have hsz := ftV_size d t
  have e : ftV d t = ftB d t := by unfold ftV; rw [if_pos hT0]
  rw [e] at hsz
  clear e hT0 d0 d1 t0 t1 hS1 hS2 hb1 hb2 hB2 hb3 hR
  generalize ftB d t = T at *
  obtain ⟨r, r0, r1, hcall⟩ := next3 _ a len cap w3 hS3
  have hTs : T.size ≤ 4000000 := by omega
  by_cases hr : r = 0
  · subst hr
    go_wp2_with (first | (go_at_call 56; refine (hcall _ (Below.refl _ _)).mono ?_; rintro e w4 ⟨rfl, hS4, hB4⟩) | (go_at_call 68; refine (damage_s _ a len cap T _ hS4 hTs).mono ?_; rintro e w5 ⟨u, rfl, hu, hS5, hB5⟩))
    go_ret
    exact ⟨_, rfl, by omega, below_but (below_but hB3 hB4 (Nat.le_refl _)) hB5 (Nat.le_refl _)⟩
  · have hr' : (r == 0) = false := beq_eq_false_iff_ne.2 hr
    go_wp2_with (go_at_call 56; refine (hcall _ (Below.refl _ _)).mono ?_; rintro e w4 ⟨rfl, hS4, hB4⟩)
    go_ret
    exact ⟨_, rfl, by omega, below_but hB3 hB4 (Nat.le_refl _)⟩
end Go.Proofs.YtlijleemogpifaaDoor.C
