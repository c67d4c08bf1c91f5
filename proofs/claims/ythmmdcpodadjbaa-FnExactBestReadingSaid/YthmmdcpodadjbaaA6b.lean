/- The figures of a scale, in order: a list that the program builds. -/
import Derived.Test.YthmmdcpodadjbaaA6
import Derived.Maps.AppendAt
import Derived.OwnWalk
import Derived.Laws.AppendOwn
namespace Go.Proofs.Ythmmdcpodadjbaa.C
open Go.RowKit Go.Proofs.Ythmmdcpodadjbaa.K
set_option linter.unusedVariables false
set_option linter.unusedSimpArgs false
attribute [local go_sem ↓] Go.wp_at_zero Go.wp_at_succ

theorem infoF : (Try.prog.info? 26).map (fun i => (i.zero, i.size, i.bytes)) = some (some (.agg #[.int .i64 0, .int .i64 0]), 2, 16) := by kernel_rfl
theorem cell_two (w : World) (x y : Value) (t : TypeId) : ∀ j u, [x, y][j]? = some u → (w.alloc (.cells #[x, y] t)).cell? ((⟨w.heap.size, 0, none⟩ : Addr).add j) = some u := by
  intro j u hj
  match j, hj with
  | 0, hj => simp at hj; subst hj; simp [Addr.add]
  | 1, hj => simp at hj; subst hj; simp [Addr.add]
  | (j + 2), hj => simp at hj
/-- the cells of the first k figures -/
def fgs : Nat → List Value
  | 0 => []
  | k + 1 => fgs k ++ [.int .i64 (rnD k), .int .i64 (rnT k)]
theorem fgs_length : ∀ k, (fgs k).length = 2 * k
  | 0 => rfl
  | k + 1 => by rw [fgs, List.length_append, fgs_length k]; rfl
theorem fgs_get {j : Nat} : ∀ {k : Nat}, j < k → (fgs k)[2 * j]? = some (.int .i64 (rnD j)) ∧ (fgs k)[2 * j + 1]? = some (.int .i64 (rnT j))
  | 0, h => by omega
  | k + 1, h => by
    have hl := fgs_length k
    rcases Nat.lt_succ_iff_lt_or_eq.1 h with h' | rfl
    · obtain ⟨a, b⟩ := fgs_get h'
      rw [fgs, List.getElem?_append_left (by omega), List.getElem?_append_left (by omega)]
      exact ⟨a, b⟩
    · rw [fgs, List.getElem?_append_right (by omega), List.getElem?_append_right (by omega), hl]
      simp
theorem own_below6 {B e size n : Nat} {v : Value} {xs : List Value} {w w' : World} (h : w.ownsRow B e size v n xs) (k : Below w.heap.size w w') : w'.ownsRow B e size v n xs := by
  refine ⟨h.1, h.2.imp id ?_⟩
  rintro ⟨g, cap, cur, a, b, c, d⟩
  have hg : g < w.heap.size := (h.lt g (by rw [a]; rfl)).2
  exact ⟨g, cap, cur, a, b, by rw [k.block g hg]; exact c, d⟩
set_option maxHeartbeats 3200000 in
theorem figuresOf_i (s : Int) (w : World) (hs : inB s 0 5 = true) : Calls Try.prog 142 #[.int .i64 s] w fun e w' => ∃ g cap : Nat, e = .returned (.slice (some ⟨g, 0, none⟩) (nfS s) cap) ∧ w.heap.size ≤ g ∧ g < w'.heap.size ∧
    (∀ j, j < nfS s → w'.cell? ⟨g, 2 * j, none⟩ = some (.int .i64 (rnD j)) ∧ w'.cell? ⟨g, 2 * j + 1, none⟩ = some (.int .i64 (rnT j))) ∧ Below w.heap.size w w' := by
  obtain ⟨i0, hi, hz0, hz1, hz2⟩ := info_parts infoF
  obtain ⟨T, hT⟩ : ∃ T : Nat, dcV s = T := ⟨(dcV s).toNat, by have := dcV_cases s; omega⟩
  have hT3 : 1 ≤ T ∧ T ≤ 3 := by have := dcV_cases s; omega
  have hN : nfS s = 900 * T := by unfold nfS; rw [hT]; rfl
  rw [hN]
  go_enter Try.func142, Try.ntmps142
  go_wp2_with (go_at_call 165; refine (decades_impl _ _ hs).mono ?_; rw [hT]; rintro e w1 ⟨rfl, hb⟩)
  have hown0 : w1.ownsRow w.heap.size 26 2 (.slice (some ⟨w.heap.size, 0, none⟩) 0 0) 0 [] := own_below6 (World.ownsRow_made w #[] 0 (Nat.le_refl _) (by unfold maxLen; omega) rfl) hb
  have hbel0 : Below w.heap.size w w1 := below_tr (below_alloc (Below.refl _ _) _) hb
  go_loopw [3, 9] (fun v x wr => ∃ t : Nat, t ≤ T ∧ x = .int .i64 t ∧ wr.ownsRow w.heap.size 26 2 v (900 * t) (fgs (900 * t)) ∧ Below w.heap.size w wr) (fun _ x _ => T - (intOf x).toNat)
  case atStart => exact ⟨0, Nat.zero_le _, rfl, hown0, hbel0⟩
  case round =>
    obtain ⟨t, ht, rfl, hown, hB⟩ := hrel
    clear hown0 hbel0 hb
    by_cases hlt : t < T
    · have hlt' : (t : Int) < T := by omega
      go_wp2_with fail
      go_loopw [3, 5] (fun v x wr' => ∃ j : Nat, j ≤ 900 ∧ x = .int .i64 (1000 + 10 * j) ∧ wr'.ownsRow w.heap.size 26 2 v (900 * t + j) (fgs (900 * t + j)) ∧ Below w.heap.size w wr') (fun _ x _ => 10000 - (intOf x).toNat)
      case atStart => exact ⟨0, by omega, by first | rfl | simp, hown, hB⟩
      case round =>
        obtain ⟨j, hj, rfl, hown2, hB2⟩ := hrel
        clear hown hB
        have hsz := hB2.size
        by_cases hjl : j < 900
        · have hjl' : (1000 : Int) + 10 * j < 10000 := by omega
          obtain ⟨e1, e2⟩ := rn_at (t := t) hjl
          go_wp2_with (at_builtin; refine wpList_append_own_at _ rfl (.tmp 16) (.tmp 20) 75 rfl w.heap.size 26 i0 (.agg #[.int .i64 0, .int .i64 0]) 2 16 Try.underlying75 hi hz0 hz1 hz2 rfl (by decide) _ _ _ rfl (hown2.alloc _) ⟨_, 0, none⟩ 1 1 [.int .i64 (1000 + 10 * (j : Int)), .int .i64 (t : Int)] rfl rfl (cell_two _ _ _ _) (by intro u hu; simp at hu; rcases hu with rfl | rfl <;> rfl) (by unfold maxLen; omega) (by omega) (by simp; omega) ?_; intro v3 w3 hown3 hgrow3 hnil3 hat3)
          go_roundw
          case rel =>
            refine ⟨j + 1, by omega, by go_num, ?_, ?_⟩
            · have e : fgs (900 * t + j) ++ [.int .i64 (1000 + 10 * (j : Int)), .int .i64 (t : Int)] = fgs (900 * t + (j + 1)) := by
                rw [show 900 * t + (j + 1) = 900 * t + j + 1 by omega, fgs, e1, e2]
              rw [← e]; exact hown3
            · exact (hB2.alloc hsz _).grown hgrow3 (by simp; omega) (fun k hk => (hown2.lt k hk).1)
          case measure => simp only [intOf]; omega
        · have hjl' : ¬ (1000 : Int) + 10 * j < 10000 := by omega
          obtain rfl : j = 900 := by omega
          go_wp2_with fail
          go_roundw
          case rel => exact ⟨t + 1, by omega, by go_num, by rw [show 900 * (t + 1) = 900 * t + 900 by omega]; exact hown2, hB2⟩
          case measure => simp [intOf]; omega
    · have hlt' : ¬ (t : Int) < T := by omega
      obtain rfl : t = T := by omega
      rcases hown.2 with ⟨_, h⟩ | ⟨g, cap, cur, rfl, hg, hh, _, _, _, _⟩
      · omega
      · have hcells := hown.cells (g := g) rfl
        have hlt := (hown.lt g rfl).2
        go_wp2_with fail
        go_ret
        refine ⟨g, ⟨cap, rfl⟩, hg, hlt, fun j hj => ?_, hB⟩
        obtain ⟨c1, c2⟩ := fgs_get hj
        have k1 := hcells _ _ c1
        have k2 := hcells _ _ c2
        have ea : ∀ n : Nat, (⟨g, 0, none⟩ : Addr).add n = ⟨g, n, none⟩ := fun n => by cases n <;> simp [Addr.add]
        rw [ea] at k1 k2
        exact ⟨k1, k2⟩
end Go.Proofs.Ythmmdcpodadjbaa.C
