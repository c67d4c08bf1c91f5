/- Plain facts on the codes of chapter 5. -/
import Derived.Test.YthmmdcpodadjbaaPlain7
namespace Go.Proofs.Ythmmdcpodadjbaa.K
set_option linter.unusedSimpArgs false

theorem shC_zero {s d t : Int} (h : shC s d t = 0) : figV d t = true ∧ inB s 0 5 = true := by
  unfold shC at h
  cases hf : figV d t
  · rw [hf] at h; simp at h
  · cases hs : inB s 0 5
    · rw [hf, hs] at h; simp at h
    · exact ⟨rfl, rfl⟩
theorem pcC_zero {s d t l : Int} (h : pcC s d t l = 0) : figV d t = true ∧ inB s 0 5 = true ∧ inB l 1 100000 = true := by
  unfold pcC at h
  by_cases hc : shC s d t = 0
  · rw [if_pos hc] at h
    cases hl : inB l 1 100000
    · rw [hl] at h; simp at h
    · exact ⟨(shC_zero hc).1, (shC_zero hc).2, rfl⟩
  · rw [if_neg hc] at h; exact absurd h hc
theorem s2C_eq {s a b c d : Int} (hv : twoV a b c d = true) : s2C s a b c d = 0 ↔ (shC s a b = 0 ∧ shC s c d = 0) := by
  obtain ⟨h1, h2⟩ := twoV_true.1 hv
  unfold s2C shC
  rw [hv, h1, h2]
  cases inB s 0 5 <;> by_cases h5 : s = 5 <;> by_cases hb : b = 0 <;> by_cases hd : d = 0 <;> simp [h5, hb, hd]
theorem p2C_of {s a b c d l : Int} (hv : twoV a b c d = true) (h1 : pcC s a b l = 0) (h2 : pcC s c d l = 0) : p2C s a b c d l = 0 := by
  have hl := (pcC_zero h1).2.2
  have e1 : shC s a b = 0 := by
    rcases Decidable.em (shC s a b = 0) with k | k
    · exact k
    · unfold pcC at h1; rw [if_neg k] at h1; exact h1
  have e2 : shC s c d = 0 := by
    rcases Decidable.em (shC s c d = 0) with k | k
    · exact k
    · unfold pcC at h2; rw [if_neg k] at h2; exact h2
  unfold p2C
  rw [if_pos ((s2C_eq hv).2 ⟨e1, e2⟩), hl]; rfl
theorem s2C_two {s a b c d : Int} (hv : twoV a b c d = true) (h : s2C s a b c d ≠ 0) : s2C s a b c d = 2 := by
  unfold s2C at *
  rw [hv] at *
  simp only [if_true] at *
  split at h
  · exact absurd rfl h
  · rename_i k; rw [if_neg k]
theorem p2C_two {s a b c d l : Int} (hv : twoV a b c d = true) (h : pcC s a b l ≠ 0 ∨ pcC s c d l ≠ 0) : p2C s a b c d l = 2 := by
  unfold p2C
  by_cases k : s2C s a b c d = 0
  · rw [if_pos k]
    obtain ⟨e1, e2⟩ := (s2C_eq hv).1 k
    cases hl : inB l 1 100000
    · rfl
    · exfalso
      unfold pcC at h
      rw [if_pos e1, if_pos e2, hl] at h
      simp at h
  · rw [if_neg k]; exact s2C_two hv k
theorem p2C_zero {s a b c d l : Int} (h : p2C s a b c d l = 0) : figV a b = true ∧ figV c d = true ∧ inB s 0 5 = true ∧ inB l 1 100000 = true := by
  cases hv : twoV a b c d
  · unfold p2C s2C at h; rw [hv] at h; simp at h
  · obtain ⟨h1, h2⟩ := twoV_true.1 hv
    unfold p2C at h
    by_cases k : s2C s a b c d = 0
    · rw [if_pos k] at h
      cases hl : inB l 1 100000
      · rw [hl] at h; simp at h
      · exact ⟨h1, h2, (shC_zero ((s2C_eq hv).1 k).1).2, rfl⟩
    · rw [if_neg k] at h; exact absurd h k

end Go.Proofs.Ythmmdcpodadjbaa.K
