/- Contracts of chapter 2: figures compared, made, multiplied, divided, rounded; relative errors. -/
import Derived.Test.YtagfghhfiloebaaA2b
import Derived.Test.YtagfghhfiloebaaA1b
namespace Go.Proofs.Ytagfghhfiloebaa.C
open Go.RowKit Go.Proofs.Ytagfghhfiloebaa.K
set_option linter.unusedVariables false
attribute [local go_sem ↓] Go.wp_at_zero Go.wp_at_succ

set_option maxHeartbeats 400000 in
theorem compare (a b : Int) (w : World) : Calls Try.prog 91 #[.int .i64 a, .int .i64 b] w fun e w' => e = .returned (.int .i64 (sgV a b)) ∧ w = w' := by
  by_cases h : a < b
  · have HR := Lib.hid (show -1 = sgV a b by unfold sgV; rw [if_pos h])
    go_enter Try.func91, Try.ntmps91
    go_wp2
    go_ret
    exact ⟨ret_int HR.out, rfl⟩
  · by_cases k : b < a
    · have HR := Lib.hid (show 1 = sgV a b by unfold sgV; rw [if_neg h, if_pos k])
      go_enter Try.func91, Try.ntmps91
      go_wp2
      go_ret
      exact ⟨ret_int HR.out, rfl⟩
    · have HR := Lib.hid (show 0 = sgV a b by unfold sgV; rw [if_neg h, if_neg k])
      go_enter Try.func91, Try.ntmps91
      go_wp2
      go_ret
      exact ⟨ret_int HR.out, rfl⟩
set_option maxHeartbeats 400000 in
theorem cmpOr (g : Nat) (a b : Int) (w : World) (h0 : w.cell? ⟨g, 0, none⟩ = some (.int .i64 a)) (h1 : w.cell? ⟨g, 1, none⟩ = some (.int .i64 b)) :
    Calls Try.prog 90 #[.slice (some ⟨g, 0, none⟩) 2 2] w fun e w' => e = .returned (.int .i64 (orV a b)) ∧ w = w' := by
  by_cases ha : a = 0
  · subst ha
    by_cases hb : b = 0
    · subst hb
      have HR := Lib.hid (show 0 = orV 0 0 by rfl)
      go_enter Try.func90, Try.ntmps90
      go_wp2_with fail
      refine wp_loop_rounds 3 ?_
      rw [rounds_succ]
      go_wp2
      rw [rounds_succ]
      go_wp2
      rw [rounds_succ]
      go_wp2
      go_ret
      exact ⟨ret_int HR.out, rfl⟩
    · have hb' : (b != 0) = true := by rw [bne_iff_ne]; exact hb
      have HR := Lib.hid (show b = orV 0 b by rfl)
      clear hb
      go_enter Try.func90, Try.ntmps90
      go_wp2_with fail
      refine wp_loop_rounds 3 ?_
      rw [rounds_succ]
      go_wp2
      rw [rounds_succ]
      go_wp2
      go_ret
      exact ⟨ret_int HR.out, rfl⟩
  · have ha' : (a != 0) = true := by rw [bne_iff_ne]; exact ha
    have HR := Lib.hid (show a = orV a b by unfold orV; rw [if_neg ha])
    clear ha
    go_enter Try.func90, Try.ntmps90
    go_wp2_with fail
    refine wp_loop_rounds 3 ?_
    rw [rounds_succ]
    go_wp2
    go_ret
    exact ⟨ret_int HR.out, rfl⟩
set_option maxHeartbeats 1600000 in
theorem cmp_impl (a b c d : Int) (w : World) (hv : twoV a b c d = true) : Calls Try.prog 61 #[.agg #[.int .i64 a, .int .i64 b], .agg #[.int .i64 c, .int .i64 d]] w fun e w' => e = .returned (.int .i64 (cpV a b c d)) ∧ Below w.heap.size w w' := by
  have HR := Lib.hid (show orV (sgV b d) (sgV a c) = cpV a b c d from rfl)
  clear hv
  go_enter Try.func61, Try.ntmps61
  go_wp2_with fail
  have hlt0 : w.heap.size < w.heap.size + 1 + 1 := by omega
  go_region_held3 (S2 w.heap.size (w.heap.size + 1) a b c d) ((first | (with_reducible exact S2.drew (by assumption)) | (with_reducible exact S2.drew (S2.init _ _ _ _ _ _ _)) | (with_reducible exact S2.below (by assumption) (by assumption)) | (with_reducible exact S2.alloc (by assumption) _) | (with_reducible exact S2.set (by assumption) (by omega) (by omega)) | (with_reducible exact S2.set (S2.set (by assumption) (by omega) (by omega)) (by omega) (by omega)) | (with_reducible exact S2.re (by assumption) (by omega) (by omega)) | exact S2.alloc (by assumption) _ | exact S2.below (by assumption) (by assumption) | exact S2.drew (by assumption) | exact S2.set (by assumption) (by omega) (by omega) | exact S2.set (S2.set (by assumption) (by omega) (by omega)) (by omega) (by omega) | exact S2.re (by assumption) (by omega) (by omega) | (go_keep; done)))
    (first | (go_at_call 91; refine (compare _ _ _).mono ?_; rintro e w' ⟨rfl, rfl⟩) | (go_at_call 90; refine (cmpOr _ (sgV b d) (sgV a c) _ ?_ ?_).mono ?_; (simp [go_sem]); (simp [go_sem]); rintro e w' ⟨rfl, rfl⟩))
  all_goals
    go_wp2
    go_ret
    exact ⟨ret_int HR.out, (by repeat (first | (with_reducible exact Below.refl _ _) | (with_reducible assumption) | (with_reducible refine below_alloc ?_ _) | (with_reducible refine Below.setCell ?_ (by first | omega | (simp; done) | (simp; omega)) _) | (with_reducible refine below_drewN ?_ _) | (with_reducible refine Below.drew ?_) | (with_reducible refine below_tr ?_ (by assumption))))⟩
set_option maxHeartbeats 800000 in
theorem cmp_spec (a b c d : Int) (w : World) (hv : twoV a b c d = true) : Calls Try.prog 56 #[.agg #[.int .i64 a, .int .i64 b], .agg #[.int .i64 c, .int .i64 d]] w fun e w' => e = .returned (.int .i64 (cpV a b c d)) ∧ Below w.heap.size w w' := by
  obtain ⟨hv1, hv2⟩ := twoV_true.1 hv
  have hE := cpV_spec hv1 hv2
  obtain ⟨a0, a1, b0, b1⟩ := figV_true.1 hv1
  obtain ⟨c0, c1, d0, d1⟩ := figV_true.1 hv2
  have HE := Lib.hid hE
  clear hv hv1 hv2 hE
  by_cases h : 10000 * b + a < 10000 * d + c
  · have HR := Lib.hid (show -1 = cpV a b c d by rw [HE.out]; unfold sgV; rw [if_pos h])
    go_enter Try.func56, Try.ntmps56
    go_wp2_with fail
    go_quiet (fail)
    go_wp2
    go_ret
    exact ⟨ret_int HR.out, (by repeat (first | (with_reducible exact Below.refl _ _) | (with_reducible assumption) | (with_reducible refine below_alloc ?_ _) | (with_reducible refine Below.setCell ?_ (by first | omega | (simp; done) | (simp; omega)) _) | (with_reducible refine below_drewN ?_ _) | (with_reducible refine Below.drew ?_) | (with_reducible refine below_tr ?_ (by assumption))))⟩
  · by_cases k : 10000 * d + c < 10000 * b + a
    · have HR := Lib.hid (show 1 = cpV a b c d by rw [HE.out]; unfold sgV; rw [if_neg h, if_pos k])
      go_enter Try.func56, Try.ntmps56
      go_wp2_with fail
      go_quiet (fail)
      go_wp2
      go_ret
      exact ⟨ret_int HR.out, (by repeat (first | (with_reducible exact Below.refl _ _) | (with_reducible assumption) | (with_reducible refine below_alloc ?_ _) | (with_reducible refine Below.setCell ?_ (by first | omega | (simp; done) | (simp; omega)) _) | (with_reducible refine below_drewN ?_ _) | (with_reducible refine Below.drew ?_) | (with_reducible refine below_tr ?_ (by assumption))))⟩
    · have HR := Lib.hid (show 0 = cpV a b c d by rw [HE.out]; unfold sgV; rw [if_neg h, if_neg k])
      go_enter Try.func56, Try.ntmps56
      go_wp2_with fail
      go_quiet (fail)
      go_wp2
      go_ret
      exact ⟨ret_int HR.out, (by repeat (first | (with_reducible exact Below.refl _ _) | (with_reducible assumption) | (with_reducible refine below_alloc ?_ _) | (with_reducible refine Below.setCell ?_ (by first | omega | (simp; done) | (simp; omega)) _) | (with_reducible refine below_drewN ?_ _) | (with_reducible refine Below.drew ?_) | (with_reducible refine below_tr ?_ (by assumption))))⟩
end Go.Proofs.Ytagfghhfiloebaa.C
