/- Numbers in decimal, written and read: plain. -/
import Derived.Test.YtlijleemogpifaaDoorS7
namespace Go.Proofs.YtlijleemogpifaaDoor.C
open Go.RowKit Go.Proofs.YtlijleemogpifaaDoor.K
set_option linter.unusedVariables false
set_option linter.unusedSimpArgs false

theorem byt_left {s t : ByteArray} {j : Nat} (h : j < s.size) : byt (s ++ t) j = byt s j := by
  unfold byt
  have h2 : j < (s ++ t).size := by rw [ByteArray.size_append]; omega
  rw [dif_pos h, dif_pos h2, ByteArray.getElem_append_left h]
theorem byt_last {s : ByteArray} {b : UInt8} : byt (s ++ ⟨#[b]⟩) s.size = b.toNat := by
  unfold byt
  have h2 : s.size < (s ++ ⟨#[b]⟩).size := by rw [ByteArray.size_append]; exact Nat.lt_succ_self _
  rw [dif_pos h2, ByteArray.getElem_append_right (Nat.le_refl _)]
  simp
  rfl
theorem dg_left {s t : ByteArray} : ∀ {k : Nat}, k ≤ s.size → dgV (s ++ t) k = dgV s k ∧ dgK (s ++ t) k = dgK s k
  | 0, _ => ⟨rfl, rfl⟩
  | k + 1, h => by
    obtain ⟨a, b⟩ := dg_left (t := t) (show k ≤ s.size by omega)
    rw [dgV, dgK, dgV, dgK, a, b, byt_left (by omega)]
    exact ⟨rfl, rfl⟩
theorem dec_read (n : Nat) : dgK (decB n) (decB n).size = true ∧ dgV (decB n) (decB n).size = n := by
  induction n using Nat.strongRecOn with
  | _ n ih =>
    by_cases h : n < 10
    · have hb : byt (⟨#[UInt8.ofNat (48 + n)]⟩ : ByteArray) 0 = 48 + n := by
        show (UInt8.ofNat (48 + n)).toNat = _
        rw [UInt8.toNat_ofNat']; omega
      rw [decB_small h]
      show dgK _ 1 = true ∧ dgV _ 1 = _
      rw [dgK, dgV, dgK, dgV, hb]
      refine ⟨by simp; omega, by omega⟩
    · obtain ⟨a, b⟩ := ih (n / 10) (by omega)
      have hs : (decB (n / 10) ++ ⟨#[UInt8.ofNat (48 + n % 10)]⟩).size = (decB (n / 10)).size + 1 := by rw [ByteArray.size_append]; rfl
      have hl : (UInt8.ofNat (48 + n % 10)).toNat = 48 + n % 10 := by rw [UInt8.toNat_ofNat']; omega
      obtain ⟨c, d⟩ := dg_left (s := decB (n / 10)) (t := ⟨#[UInt8.ofNat (48 + n % 10)]⟩) (Nat.le_refl _)
      rw [decB_big h, hs, dgK, dgV, c, d, a, b, byt_last, hl]
      refine ⟨by simp; omega, by omega⟩
theorem vl_dec {n : Nat} (h : n < 10000000000000) : vlK (decB n) = true ∧ vlV (decB n) = n := by
  obtain ⟨a, b⟩ := dec_read n
  have h1 : 1 ≤ (decB n).size ∧ (decB n).size ≤ 13 := by
    rw [decB_size]
    exact ⟨Lib.nDigits_pos n, nDigits_le 13 _ (by omega) (by omega)⟩
  have hD : vlD (decB n) = true := by unfold vlD; rw [a, decide_eq_true h1.1, decide_eq_true h1.2]; rfl
  unfold vlK vlV
  rw [hD, b]
  exact ⟨by simp, by simp⟩
theorem vl_back {s : ByteArray} (h : vlK s = true) : ∃ n : Nat, n < 10000000000000 ∧ s = decB n ∧ vlV s = n := by
  unfold vlK at h
  rw [Bool.and_eq_true] at h
  obtain ⟨hD, he⟩ := h
  have hv : vlV s = dgV s s.size := by unfold vlV; rw [hD]; rfl
  unfold vlD at hD
  simp only [Bool.and_eq_true, decide_eq_true_eq] at hD
  obtain ⟨d1, d2, d3⟩ := hD
  obtain ⟨b0, b1⟩ := dg_bounds _ _ d3
  have p13 : (10 : Int) ^ s.size ≤ 10 ^ 13 := (by decide : ∀ m, m ≤ 13 → (10 : Int) ^ m ≤ 10 ^ 13) _ d2
  have : (10 : Int) ^ 13 = 10000000000000 := by decide
  refine ⟨(dgV s s.size).toNat, by omega, ?_, by omega⟩
  have e := eq_of_beq he
  apply ByteArray.ext
  apply Array.toList_inj.1
  rw [ByteArray.toList_eq, ByteArray.toList_eq] at e
  exact e.symm
theorem tl1_cons (t : ByteArray) : tl1 (⟨#[45]⟩ ++ t) = t := by
  unfold tl1
  apply ByteArray.ext
  apply Array.toList_inj.1
  simp
  apply List.take_of_length_le
  have h1 : (⟨#[45]⟩ : ByteArray).size = 1 := rfl
  have h2 : t.data.toList.length = t.size := Array.length_toList
  omega
theorem byt_cons (t : ByteArray) : byt (⟨#[45]⟩ ++ t) 0 = 45 := by
  rw [byt_left (show 0 < (⟨#[45]⟩ : ByteArray).size from Nat.zero_lt_one)]; rfl
theorem sg_dec {n : Int} (h0 : -10000000000000 < n) (h1 : n < 10000000000000) : sgK (itoB n) = true ∧ sgV (itoB n) = n := by
  by_cases h : 0 ≤ n
  · rw [itoB_pos h]
    obtain ⟨a, b⟩ := vl_dec (n := n.toNat) (by omega)
    have hs : 0 < (decB n.toNat).size := by rw [decB_size]; exact Lib.nDigits_pos _
    have hd := dgK_lt (dec_read n.toNat).1 hs
    have hc : ¬ (0 < (decB n.toNat).size ∧ byt (decB n.toNat) 0 = 45) := by omega
    unfold sgK sgV
    rw [if_neg hc, if_neg hc, a, b]
    exact ⟨rfl, by omega⟩
  · rw [itoB_neg (by omega)]
    obtain ⟨a, b⟩ := vl_dec (n := n.natAbs) (by omega)
    have hc : 0 < (⟨#[45]⟩ ++ decB n.natAbs : ByteArray).size ∧ byt (⟨#[45]⟩ ++ decB n.natAbs) 0 = 45 := ⟨by rw [ByteArray.size_append]; exact Nat.lt_of_lt_of_le Nat.zero_lt_one (Nat.le_add_right _ _), byt_cons _⟩
    unfold sgK sgV
    rw [if_pos hc, if_pos hc, tl1_cons, a, b]
    exact ⟨by simp; omega, by omega⟩
theorem cons_tl1 {s : ByteArray} (h0 : 0 < s.size) (hb : byt s 0 = 45) : s = ⟨#[45]⟩ ++ tl1 s := by
  unfold byt at hb
  rw [dif_pos h0] at hb
  unfold tl1
  apply ByteArray.ext
  apply Array.ext
  · have h1 : (⟨#[45]⟩ ++ s.extract 1 s.size).size = 1 + (s.size - 1) := by rw [ByteArray.size_append, ByteArray.size_extract]; simp; rfl
    show s.size = (⟨#[45]⟩ ++ s.extract 1 s.size).size
    omega
  · intro j h1 h2
    cases j with
    | zero => simpa using UInt8.toNat_inj.1 hb
    | succ j =>
      simp
      congr 1
      omega
theorem sg_back {s : ByteArray} (h : sgK s = true) : ∃ n : Int, -10000000000000 < n ∧ n < 10000000000000 ∧ s = itoB n ∧ sgV s = n := by
  unfold sgK at h
  by_cases hc : 0 < s.size ∧ byt s 0 = 45
  · rw [if_pos hc, Bool.and_eq_true, decide_eq_true_eq] at h
    obtain ⟨n, h1, h2, h3⟩ := vl_back h.1
    refine ⟨-(n : Int), by omega, by omega, ?_, by unfold sgV; rw [if_pos hc, h3]⟩
    rw [itoB_neg (by omega), cons_tl1 hc.1 hc.2, h2]
    simp
  · rw [if_neg hc] at h
    obtain ⟨n, h1, h2, h3⟩ := vl_back h
    refine ⟨n, by omega, by omega, ?_, by unfold sgV; rw [if_neg hc, h3]⟩
    rw [itoB_pos (by omega), h2]
    rfl
end Go.Proofs.YtlijleemogpifaaDoor.C
