/- The pieces of a text at its commas: the reference's are the library's; what a list read is: plain. -/
import Derived.Test.YtlijleemogpifaaDoorS10
namespace Go.Proofs.YtlijleemogpifaaDoor.C
open Go.RowKit Go.Proofs.YtlijleemogpifaaDoor.K
set_option linter.unusedVariables false
set_option linter.unusedSimpArgs false

theorem wds_inv (s : ByteArray) : ∀ k, k ≤ s.size → cut44 (s.data.toList.take k) = (pcL s k).map (·.data.toList) ++ [(s.extract (pcF s k) k).data.toList]
  | 0, _ => by rw [List.take_zero, Lib.extract_data]; simp [pcL, pcF, cut44]
  | k + 1, h => by
    have ih := wds_inv s k (by omega)
    have hl : s.data.toList.length = s.size := Array.length_toList
    have hF := pcF_le s k
    have hg : s.data.toList[k]? = some (s.data.toList[k]'(by omega)) := List.getElem?_eq_getElem _
    obtain ⟨c, hc⟩ : ∃ c, s.data.toList[k]'(by omega) = c := ⟨_, rfl⟩
    have hb : byt s k = c.toNat := by
      unfold byt
      rw [dif_pos (by omega : k < s.size), ← hc]
      rfl
    rw [hc] at hg
    rw [List.take_add_one, hg]
    show cut44 (_ ++ [c]) = _
    rw [cut44_snoc c _ _ _ ih]
    by_cases h44 : c = 44
    · have hk : byt s k = 44 := by rw [hb, h44]; rfl
      rw [if_pos h44, pcL, pcF, if_pos hk, if_pos hk, List.map_append, Lib.extract_data s (k + 1)]
      simp
    · have hk : byt s k ≠ 44 := fun e => h44 (UInt8.toNat_inj.1 (by rw [← hb, e]; rfl))
      rw [if_neg h44, pcL, pcF, if_neg hk, if_neg hk, Lib.extract_data, Lib.extract_data, show k + 1 - pcF s k = (k - pcF s k) + 1 by omega, List.take_add_one, List.getElem?_drop, show pcF s k + (k - pcF s k) = k by omega, hg]
      rfl
theorem wds_cut (s : ByteArray) : (wds s).map (·.data.toList) = cut44 s.data.toList := by
  have hl : s.data.toList.length = s.size := Array.length_toList
  have h := wds_inv s s.size (Nat.le_refl _)
  rw [List.take_of_length_le (by omega)] at h
  rw [h]
  unfold wds
  rw [List.map_append]
  rfl
theorem map_data_inj : ∀ {xs ys : List ByteArray}, xs.map (·.data.toList) = ys.map (·.data.toList) → xs = ys
  | [], [], _ => rfl
  | [], _ :: _, h => by cases h
  | _ :: _, [], h => by cases h
  | x :: xs, y :: ys, h => by
    obtain ⟨a, b⟩ := List.cons.inj h
    rw [map_data_inj b, ByteArray.ext (Array.toList_inj.1 a)]
theorem wds_split (s : ByteArray) : Lib.splitB ⟨#[44]⟩ 0 (Lib.countB s ⟨#[44]⟩) s = wds s := by
  apply map_data_inj
  rw [Lib.splitB_data, wds_cut]
  exact splitK_cut44 _
theorem wds_ne (s : ByteArray) : wds s ≠ [] := by
  unfold wds
  simp
theorem wds_length (s : ByteArray) : 1 ≤ (wds s).length ∧ (wds s).length ≤ s.size + 1 := by
  have := pcL_le s s.size
  unfold wds
  rw [List.length_append]
  exact ⟨Nat.succ_le_succ (Nat.zero_le _), Nat.succ_le_succ this⟩
theorem pcL_size (s : ByteArray) : ∀ k, ∀ x ∈ pcL s k, x.size ≤ s.size
  | 0, x, h => by cases h
  | k + 1, x, h => by
    rw [pcL] at h
    split at h
    · rcases List.mem_append.1 h with h | h
      · exact pcL_size s k x h
      · obtain rfl := List.mem_singleton.1 h
        rw [ByteArray.size_extract]; omega
    · exact pcL_size s k x h
theorem wds_size (s : ByteArray) : ∀ x ∈ wds s, x.size ≤ s.size := by
  intro x h
  unfold wds at h
  rcases List.mem_append.1 h with h | h
  · exact pcL_size s _ x h
  · obtain rfl := List.mem_singleton.1 h
    rw [ByteArray.size_extract]; omega
/-- element j of a list of numbers read -/
def atV (V : ByteArray → Int) (xs : List ByteArray) (j : Nat) : Int := V (xs.getD j ⟨#[]⟩)
theorem getD_at {xs : List ByteArray} {j : Nat} (h : j < xs.length) : xs.getD j ⟨#[]⟩ = xs[j] := by rw [List.getD_eq_getElem?_getD, List.getElem?_eq_getElem h]; rfl
/-- the text s as a list: whether it is one; how long; its elements -/
def rlB (s : ByteArray) : Bool := (wds s).all sgK && lsV (atV sgV (wds s)) (wds s).length
def rlD (s : ByteArray) : Bool := s.toList == [45]
def rlK (s : ByteArray) : Bool := rlD s || rlB s
def rlN (s : ByteArray) : Nat := if rlD s then 0 else if rlB s then (wds s).length else 0
def rlV (s : ByteArray) : Nat → Int := atV sgV (wds s)
theorem allV_all (f : Nat → Int) : ∀ {n : Nat}, (∀ j, j < n → isV (f j) = true) → allV f n = true
  | 0, _ => rfl
  | n + 1, h => by rw [allV, allV_all f (fun j hj => h j (by omega)), h n (by omega)]; rfl
theorem rlB_iff (s : ByteArray) : rlB s = true ↔ (∀ j (h : j < (wds s).length), sgK (wds s)[j] = true ∧ isV (sgV (wds s)[j]) = true) ∧ (wds s).length ≤ 100 := by
  unfold rlB lsV
  rw [Bool.and_eq_true, Bool.and_eq_true, decide_eq_true_eq]
  constructor
  · rintro ⟨h1, h2, h3⟩
    refine ⟨fun j h => ⟨List.all_eq_true.1 h1 _ (List.getElem_mem h), ?_⟩, h3⟩
    have := allV_lt h2 h
    rw [atV, getD_at h] at this
    exact this
  · rintro ⟨h1, h2⟩
    refine ⟨List.all_eq_true.2 fun x hx => ?_, allV_all _ fun j hj => ?_, h2⟩
    · obtain ⟨j, hj, rfl⟩ := List.getElem_of_mem hx
      exact (h1 j hj).1
    · rw [atV, getD_at hj]; exact (h1 j hj).2
/-- the program's reading of the pieces agrees with the reference's -/
theorem rlB_nm (s : ByteArray) : ((wds s).all nmK && lsV (atV nmV (wds s)) (wds s).length) = rlB s ∧ (rlB s = true → ∀ j, j < (wds s).length → atV nmV (wds s) j = rlV s j) := by
  have hq : ∀ j (h : j < (wds s).length), (sgK (wds s)[j] = true ∧ isV (sgV (wds s)[j]) = true) ↔ (nmK (wds s)[j] = true ∧ isV (nmV (wds s)[j]) = true) := fun j h => by
    rw [← Bool.and_eq_true, ← Bool.and_eq_true, nm_sg.1]
  refine ⟨?_, fun h j hj => ?_⟩
  · apply Bool.eq_iff_iff.2
    rw [rlB_iff]
    unfold lsV
    rw [Bool.and_eq_true, Bool.and_eq_true, decide_eq_true_eq]
    constructor
    · rintro ⟨h1, h2, h3⟩
      refine ⟨fun j h => (hq j h).2 ⟨List.all_eq_true.1 h1 _ (List.getElem_mem h), ?_⟩, h3⟩
      have := allV_lt h2 h
      rw [atV, getD_at h] at this
      exact this
    · rintro ⟨h1, h2⟩
      refine ⟨List.all_eq_true.2 fun x hx => ?_, allV_all _ fun j hj => ?_, h2⟩
      · obtain ⟨j, hj, rfl⟩ := List.getElem_of_mem hx
        exact ((hq j hj).1 (h1 j hj)).1
      · rw [atV, getD_at hj]; exact ((hq j hj).1 (h1 j hj)).2
  · have := ((rlB_iff s).1 h).1 j hj
    rw [← Bool.and_eq_true] at this
    have e := nm_sg.2 this
    unfold rlV atV
    rw [getD_at hj, e]
theorem rlV_bounds {s : ByteArray} (h : rlB s = true) {j : Nat} (hj : j < (wds s).length) : isV (rlV s j) = true := by
  have := ((rlB_iff s).1 h).1 j hj
  unfold rlV atV
  rw [getD_at hj]
  exact this.2
end Go.Proofs.YtlijleemogpifaaDoor.C
