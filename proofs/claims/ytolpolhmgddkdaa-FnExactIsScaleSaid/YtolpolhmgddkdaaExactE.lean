/- The laws of chapter 5 that compare the program with the reference at scales: the walks. -/
import Derived.Test.YtolpolhmgddkdaaA5
namespace Go.Proofs.Ytolpolhmgddkdaa.W
open Go.RowKit Go.Proofs.Ytolpolhmgddkdaa.K Go.Proofs.Ytolpolhmgddkdaa.C
set_option linter.unusedVariables false
set_option maxHeartbeats 400000 in
theorem IsScale (a : Int) (w : World) (_ : (Lit.int .i64 a).wf = true) : Calls Try.prog 4 #[.int .i64 a] w fun e w' => e = .returned (.bool true) ∧ Below w.heap.size w w' := by
  go_enter Try.func4, Try.ntmps4
  go_wp2_with (first | (go_at_call 9; refine (IsScale_spec _ _).mono ?_; rintro e w' ⟨rfl, rfl⟩) | (go_at_call 10; refine (IsScale_impl _ _).mono ?_; rintro e w' ⟨rfl, rfl⟩))
  go_ret
  exact ⟨rfl, (by repeat (first | exact Below.refl _ _ | assumption | refine below_alloc ?_ _ | refine Below.setCell ?_ (by first | omega | (simp; done) | (simp; omega)) _ | refine below_drewN ?_ _ | refine Below.drew ?_ | refine below_tr ?_ (by assumption)))⟩
set_option maxHeartbeats 400000 in
theorem IsRising (a : Int) (w : World) (_ : (Lit.int .i64 a).wf = true) : Calls Try.prog 7 #[.int .i64 a] w fun e w' => e = .returned (.bool true) ∧ Below w.heap.size w w' := by
  go_enter Try.func7, Try.ntmps7
  go_wp2_with (first | (go_at_call 17; refine (IsRising_spec _ _).mono ?_; rintro e w' ⟨rfl, rfl⟩) | (go_at_call 18; refine (IsRising_impl _ _).mono ?_; rintro e w' ⟨rfl, rfl⟩))
  go_ret
  exact ⟨rfl, (by repeat (first | exact Below.refl _ _ | assumption | refine below_alloc ?_ _ | refine Below.setCell ?_ (by first | omega | (simp; done) | (simp; omega)) _ | refine below_drewN ?_ _ | refine Below.drew ?_ | refine below_tr ?_ (by assumption)))⟩
set_option maxHeartbeats 400000 in
theorem ScaleName (a : Int) (w : World) (_ : (Lit.int .i64 a).wf = true) : Calls Try.prog 8 #[.int .i64 a] w fun e w' => e = .returned (.bool true) ∧ Below w.heap.size w w' := by
  go_enter Try.func8, Try.ntmps8
  go_wp2_with (first | (go_at_call 19; refine (ScaleName_spec _ _).mono ?_; rintro e w1 ⟨rfl, hb⟩; obtain ⟨hc, hf⟩ := bcell hb; have hz := hb.size; (try simp at hz); (try (have hz0 : w.heap.size < w1.heap.size := by omega)); (try (have hz1 : w.heap.size + 1 < w1.heap.size := by omega)); (try (have hz2 : w.heap.size + 1 + 1 < w1.heap.size := by omega)); (try (have hz3 : w.heap.size + 1 + 1 + 1 < w1.heap.size := by omega)); (try (have r7 := Nat.lt_of_lt_of_le r5 (show _ ≤ w1.heap.size by omega))); (try (have r6 := Nat.lt_of_lt_of_le r4 (show _ ≤ w1.heap.size by omega))); (try (have r5 := Nat.lt_of_lt_of_le r3 (show _ ≤ w1.heap.size by omega))); (try (have r4 := Nat.lt_of_lt_of_le r2 (show _ ≤ w1.heap.size by omega))); (try (have r3 := Nat.lt_of_lt_of_le r1 (show _ ≤ w1.heap.size by omega))); (try (have r2 := Nat.lt_of_succ_le (Nat.le_of_succ_le hz))); (try (have r1 := Nat.lt_of_succ_le hz)); (try (have hg1 := Nat.lt_of_lt_of_le hg1 (show _ ≤ w1.heap.size by omega))); (try (have hg2 := Nat.lt_of_lt_of_le hg2 (show _ ≤ w1.heap.size by omega))); (try (have hg3 := Nat.lt_of_lt_of_le hg3 (show _ ≤ w1.heap.size by omega)))) | (go_at_call 20; refine (ScaleName_impl _ _).mono ?_; rintro e w1 ⟨rfl, hb⟩; obtain ⟨hc, hf⟩ := bcell hb; have hz := hb.size; (try simp at hz); (try (have hz0 : w.heap.size < w1.heap.size := by omega)); (try (have hz1 : w.heap.size + 1 < w1.heap.size := by omega)); (try (have hz2 : w.heap.size + 1 + 1 < w1.heap.size := by omega)); (try (have hz3 : w.heap.size + 1 + 1 + 1 < w1.heap.size := by omega)); (try (have r7 := Nat.lt_of_lt_of_le r5 (show _ ≤ w1.heap.size by omega))); (try (have r6 := Nat.lt_of_lt_of_le r4 (show _ ≤ w1.heap.size by omega))); (try (have r5 := Nat.lt_of_lt_of_le r3 (show _ ≤ w1.heap.size by omega))); (try (have r4 := Nat.lt_of_lt_of_le r2 (show _ ≤ w1.heap.size by omega))); (try (have r3 := Nat.lt_of_lt_of_le r1 (show _ ≤ w1.heap.size by omega))); (try (have r2 := Nat.lt_of_succ_le (Nat.le_of_succ_le hz))); (try (have r1 := Nat.lt_of_succ_le hz)); (try (have hg1 := Nat.lt_of_lt_of_le hg1 (show _ ≤ w1.heap.size by omega))); (try (have hg2 := Nat.lt_of_lt_of_le hg2 (show _ ≤ w1.heap.size by omega))); (try (have hg3 := Nat.lt_of_lt_of_le hg3 (show _ ≤ w1.heap.size by omega)))))
  go_ret
  exact ⟨rfl, (by repeat (first | exact Below.refl _ _ | assumption | refine below_alloc ?_ _ | refine Below.setCell ?_ (by first | omega | (simp; done) | (simp; omega)) _ | refine below_drewN ?_ _ | refine Below.drew ?_ | refine below_tr ?_ (by assumption)))⟩
end Go.Proofs.Ytolpolhmgddkdaa.W
