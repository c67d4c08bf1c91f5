/- Contracts of the functions of chapter 1 (numbers): what each call returns. -/
import Derived.Test.YtlijleemogpifaaDoorRows
import Derived.Test.YtlijleemogpifaaDoorPlain
import Derived.WalkKit
import Derived.ProofKit
import Derived.OpenShut
import Derived.Lib.Hide
import Derived.Outline
namespace Go.Proofs.YtlijleemogpifaaDoor.C
open Go.RowKit Go.Proofs.YtlijleemogpifaaDoor.K

theorem ret_bool {a b : Bool} (h : a = b) : Ending.returned (.bool a) = .returned (.bool b) := by rw [h]
theorem ret_two {a b c d : Int} (h : a = b) (k : c = d) : Ending.returned (.tuple #[.int .i64 a, .int .i64 c]) = .returned (.tuple #[.int .i64 b, .int .i64 d]) := by rw [h, k]
theorem ret_three {a b c d e f : Int} (h : a = b) (k : c = d) (l : e = f) : Ending.returned (.tuple #[.int .i64 a, .int .i64 c, .int .i64 e]) = .returned (.tuple #[.int .i64 b, .int .i64 d, .int .i64 f]) := by rw [h, k, l]
theorem ret_agg1 {a b c d e f : Int} (h : a = b) (k : c = d) (l : e = f) : Ending.returned (.tuple #[.agg #[.int .i64 a, .int .i64 c], .int .i64 e]) = .returned (.tuple #[.agg #[.int .i64 b, .int .i64 d], .int .i64 f]) := by rw [h, k, l]
theorem ret_agg {a b c d : Int} (h : a = b) (k : c = d) : Ending.returned (.agg #[.int .i64 a, .int .i64 c]) = .returned (.agg #[.int .i64 b, .int .i64 d]) := by rw [h, k]
theorem ret_int {k : IntKind} {a b : Int} (h : a = b) : Ending.returned (.int k a) = .returned (.int k b) := by rw [h]

set_option maxHeartbeats 400000 in
theorem in_s (n a b : Int) (w : World) : Calls Tryd.prog 44 #[.int .i64 n, .int .i64 a, .int .i64 b] w fun e w' => e = .returned (.bool (inB n a b)) ∧ w = w' := by
  by_cases h : a ≤ n
  · by_cases k : n ≤ b
    · have hr : true = inB n a b := (inB_mk h k).symm
      have HR := Lib.hid hr; clear hr
      go_enter Tryd.func44, Tryd.ntmps44
      go_wp2
      go_ret
      exact ⟨ret_bool HR.out, rfl⟩
    · have hr : false = inB n a b := (inB_false.2 (by omega)).symm
      have HR := Lib.hid hr; clear hr
      go_enter Tryd.func44, Tryd.ntmps44
      go_wp2
      go_ret
      exact ⟨ret_bool HR.out, rfl⟩
  · have hr : false = inB n a b := (inB_false.2 (by omega)).symm
    have HR := Lib.hid hr; clear hr
    go_enter Tryd.func44, Tryd.ntmps44
    go_wp2
    go_ret
    exact ⟨ret_bool HR.out, rfl⟩
set_option maxHeartbeats 400000 in
theorem in_i (n a b : Int) (w : World) : Calls Tryd.prog 46 #[.int .i64 n, .int .i64 a, .int .i64 b] w fun e w' => e = .returned (.bool (inB n a b)) ∧ w = w' := by
  by_cases h : a ≤ n
  · by_cases k : n ≤ b
    · have hr : true = inB n a b := (inB_mk h k).symm
      have HR := Lib.hid hr; clear hr
      go_enter Tryd.func46, Tryd.ntmps46
      go_wp2
      go_ret
      exact ⟨ret_bool HR.out, rfl⟩
    · have hr : false = inB n a b := (inB_false.2 (by omega)).symm
      have HR := Lib.hid hr; clear hr
      go_enter Tryd.func46, Tryd.ntmps46
      go_wp2
      go_ret
      exact ⟨ret_bool HR.out, rfl⟩
  · have hr : false = inB n a b := (inB_false.2 (by omega)).symm
    have HR := Lib.hid hr; clear hr
    go_enter Tryd.func46, Tryd.ntmps46
    go_wp2
    go_ret
    exact ⟨ret_bool HR.out, rfl⟩
set_option maxHeartbeats 400000 in
theorem is_s (n : Int) (w : World) : Calls Tryd.prog 63 #[.int .i64 n] w fun e w' => e = .returned (.bool (isV n)) ∧ w = w' := by
  go_enter Tryd.func63, Tryd.ntmps63
  go_wp2_with (go_at_call 44; refine (in_s _ _ _ _).mono ?_; rintro e w' ⟨rfl, rfl⟩)
  go_ret
  exact ⟨rfl, rfl⟩
set_option maxHeartbeats 400000 in
theorem is_i (n : Int) (w : World) : Calls Tryd.prog 54 #[.int .i64 n] w fun e w' => e = .returned (.bool (isV n)) ∧ w = w' := by
  by_cases h : -1000000000000 ≤ n
  · by_cases k : n ≤ 1000000000000
    · have hr : true = isV n := (isV_true.2 ⟨h, k⟩).symm
      have HR := Lib.hid hr; clear hr
      go_enter Tryd.func54, Tryd.ntmps54
      go_wp2
      go_ret
      exact ⟨ret_bool HR.out, rfl⟩
    · have hr : false = isV n := (inB_false.2 (by omega)).symm
      have HR := Lib.hid hr; clear hr
      go_enter Tryd.func54, Tryd.ntmps54
      go_wp2
      go_ret
      exact ⟨ret_bool HR.out, rfl⟩
  · have hr : false = isV n := (inB_false.2 (by omega)).symm
    have HR := Lib.hid hr; clear hr
    go_enter Tryd.func54, Tryd.ntmps54
    go_wp2
    go_ret
    exact ⟨ret_bool HR.out, rfl⟩
set_option maxHeartbeats 400000 in
theorem down_i (a b : Int) (w : World) (ha : -2000000000000000000 ≤ a) (ha2 : a ≤ 2000000000000000000) (hb : 1 ≤ b) : Calls Tryd.prog 89 #[.int .i64 a, .int .i64 b] w fun e w' => e = .returned (.int .i64 (a / b)) ∧ w = w' := by
  have hz : (b == 0) = false := beq_eq_false_iff_ne.2 (by omega)
  have hbn : decide (b < 0) = false := decide_eq_false (by omega)
  by_cases h : 0 ≤ a
  · have hn : decide (a < 0) = false := decide_eq_false (by omega)
    have q0 : 0 ≤ a / b := Int.ediv_nonneg h (by omega)
    have q1 : a / b ≤ a := Int.ediv_le_self b h
    by_cases hm : a % b = 0
    · have hm' : (a % b != 0) = false := by rw [hm]; rfl
      clear hm
      go_enter Tryd.func89, Tryd.ntmps89
      go_wp2
      go_ret
      exact ⟨rfl, rfl⟩
    · have hm' : (a % b != 0) = true := by rw [bne_iff_ne]; exact hm
      clear hm
      go_enter Tryd.func89, Tryd.ntmps89
      go_wp2
      go_ret
      exact ⟨rfl, rfl⟩
  · have hn : decide (a < 0) = true := decide_eq_true (by omega)
    have q := tdiv_bounds a b 2000000000000000000 ha ha2
    have q0 := q.1
    have q1 := q.2
    clear q
    have D := down_neg hb (show a < 0 by omega)
    by_cases hm : a.tmod b = 0
    · have hm' : (a.tmod b != 0) = false := by rw [hm]; rfl
      have HR := Lib.hid (D.1 hm); clear hm D
      go_enter Tryd.func89, Tryd.ntmps89
      go_wp2
      go_ret
      exact ⟨ret_int HR.out, rfl⟩
    · have hm' : (a.tmod b != 0) = true := by rw [bne_iff_ne]; exact hm
      have HR := Lib.hid (D.2 hm); clear hm D
      go_enter Tryd.func89, Tryd.ntmps89
      go_wp2
      go_ret
      exact ⟨ret_int HR.out, rfl⟩
/-- a divisor below 0 -/
theorem down_in (a b : Int) (w : World) (ha : -2000000000000000000 ≤ a) (ha2 : a ≤ 2000000000000000000) (hb : b < 0) (hb2 : -2000000000000000000 ≤ b) : Calls Tryd.prog 89 #[.int .i64 a, .int .i64 b] w fun e w' => e = .returned (.int .i64 (flo a b)) ∧ w = w' := by
  have hz : (b == 0) = false := beq_eq_false_iff_ne.2 (by omega)
  have hbn : decide (b < 0) = true := decide_eq_true (by omega)
  have q := tdiv_bounds a b 2000000000000000000 ha ha2
  have q0 := q.1
  have q1 := q.2
  clear q
  have D := down_nd hb a
  by_cases h : 0 ≤ a
  · have D2 := D.1 h
    clear D
    have hn : decide (a < 0) = false := decide_eq_false (by omega)
    have he : a % b = a.tmod b := (IntWalk.rem_in a b h).symm
    by_cases hm : a.tmod b = 0
    · have hm' : (a % b != 0) = false := by rw [he, hm]; rfl
      have HR := Lib.hid (D2.1 hm); clear hm D2 he
      go_enter Tryd.func89, Tryd.ntmps89
      go_wp2
      go_ret
      exact ⟨ret_int HR.out, rfl⟩
    · have hm' : (a % b != 0) = true := by rw [he, bne_iff_ne]; exact hm
      have HR := Lib.hid (D2.2 hm); clear hm D2 he
      go_enter Tryd.func89, Tryd.ntmps89
      go_wp2
      go_ret
      exact ⟨ret_int HR.out, rfl⟩
  · have D2 := D.2 (by omega)
    clear D
    have hn : decide (a < 0) = true := decide_eq_true (by omega)
    by_cases hm : a.tmod b = 0
    · have hm' : (a.tmod b != 0) = false := by rw [hm]; rfl
      have HR := Lib.hid D2; clear hm D2
      go_enter Tryd.func89, Tryd.ntmps89
      go_wp2
      go_ret
      exact ⟨ret_int HR.out, rfl⟩
    · have hm' : (a.tmod b != 0) = true := by rw [bne_iff_ne]; exact hm
      have HR := Lib.hid D2; clear hm D2
      go_enter Tryd.func89, Tryd.ntmps89
      go_wp2
      go_ret
      exact ⟨ret_int HR.out, rfl⟩
set_option maxHeartbeats 400000 in
theorem up_i (a b : Int) (w : World) (ha : -2000000000000000000 ≤ a) (ha2 : a ≤ 2000000000000000000) (hb : 1 ≤ b) : Calls Tryd.prog 91 #[.int .i64 a, .int .i64 b] w fun e w' => e = .returned (.int .i64 (-((-a) / b))) ∧ w = w' := by
  have q := div_bounds (a := -a) hb 2000000000000000000 (by omega) (by omega) (by omega)
  have q0 := q.1
  have q1 := q.2
  clear q
  go_enter Tryd.func91, Tryd.ntmps91
  go_wp2_with (go_at_call 89; refine (down_i _ _ _ (by omega) (by omega) (by omega)).mono ?_; rintro e w' ⟨rfl, rfl⟩)
  go_ret
  exact ⟨rfl, rfl⟩
theorem up_in (a b : Int) (w : World) (ha : -2000000000000000000 ≤ a) (ha2 : a ≤ 2000000000000000000) (hb : b < 0) (hb2 : -2000000000000000000 ≤ b) : Calls Tryd.prog 91 #[.int .i64 a, .int .i64 b] w fun e w' => e = .returned (.int .i64 (-(flo (-a) b))) ∧ w = w' := by
  have q := flo_bounds (a := -a) hb 2000000000000000000 (by omega) (by omega) (by omega)
  have q0 := q.1
  have q1 := q.2
  clear q
  go_enter Tryd.func91, Tryd.ntmps91
  go_wp2_with (go_at_call 89; refine (down_in _ _ _ (by omega) (by omega) (by omega) (by omega)).mono ?_; rintro e w' ⟨rfl, rfl⟩)
  go_ret
  exact ⟨rfl, rfl⟩
set_option maxHeartbeats 400000 in
theorem floor_s (a b : Int) (w : World) (ha : -2000000000000000000 ≤ a) (ha2 : a ≤ 2000000000000000000) (hb : 1 ≤ b) : Calls Tryd.prog 102 #[.int .i64 a, .int .i64 b] w fun e w' => e = .returned (.int .i64 (a / b)) ∧ w = w' := by
  have hz : (b == 0) = false := beq_eq_false_iff_ne.2 (by omega)
  have hbn : ¬ b < 0 := by omega
  by_cases h : 0 ≤ a
  · have q0 : 0 ≤ a / b := Int.ediv_nonneg h (by omega)
    have q1 : a / b ≤ a := Int.ediv_le_self b h
    have q2 : 0 ≤ a % b := Int.emod_nonneg a (by omega)
    go_enter Tryd.func102, Tryd.ntmps102
    go_wp2
    go_ret
    exact ⟨rfl, rfl⟩
  · have q := tdiv_bounds a b 2000000000000000000 ha ha2
    have q0 := q.1
    have q1 := q.2
    clear q
    have D := down_neg hb (show a < 0 by omega)
    have D0 := tmod_np (show a ≤ 0 by omega) b
    by_cases hm : a.tmod b < 0
    · have HR := Lib.hid (D.2 (by omega)); clear D D0
      go_enter Tryd.func102, Tryd.ntmps102
      go_wp2
      go_ret
      exact ⟨ret_int HR.out, rfl⟩
    · have HR := Lib.hid (D.1 (by omega)); clear D D0
      go_enter Tryd.func102, Tryd.ntmps102
      go_wp2
      go_ret
      exact ⟨ret_int HR.out, rfl⟩
theorem floor_sn (a b : Int) (w : World) (ha : -2000000000000000000 ≤ a) (ha2 : a ≤ 2000000000000000000) (hb : b < 0) (hb2 : -2000000000000000000 ≤ b) : Calls Tryd.prog 102 #[.int .i64 a, .int .i64 b] w fun e w' => e = .returned (.int .i64 (flo a b)) ∧ w = w' := by
  have hz : (-b == 0) = false := beq_eq_false_iff_ne.2 (by omega)
  have hz2 : (b == 0) = false := beq_eq_false_iff_ne.2 (by omega)
  have q := tdiv_bounds a b 2000000000000000000 ha ha2
  have q0 := q.1
  have q1 := q.2
  clear q
  have D := down_nd hb a
  by_cases h : 0 < a
  · have D2 := D.1 (by omega)
    have he : a % b = a.tmod b := (IntWalk.rem_in a b (by omega)).symm
    have he2 : 0 ≤ a % b := Int.emod_nonneg a (by omega)
    have hng : ¬ 0 ≤ -a := by omega
    by_cases hm : 0 < a % b
    · have HR := Lib.hid (D2.2 (by omega)); clear D D2 he
      go_enter Tryd.func102, Tryd.ntmps102
      go_wp2
      go_ret
      exact ⟨ret_int HR.out, rfl⟩
    · have HR := Lib.hid (D2.1 (by omega)); clear D D2 he
      go_enter Tryd.func102, Tryd.ntmps102
      go_wp2
      go_ret
      exact ⟨ret_int HR.out, rfl⟩
  · have h0 := tmod_np (show a ≤ 0 by omega) b
    have HR := Lib.hid (show a.tdiv b = flo a b by
      by_cases k : a = 0
      · subst k; rw [flo_neg hb]; simp
      · exact D.2 (by omega)); clear D
    go_enter Tryd.func102, Tryd.ntmps102
    go_wp2
    go_ret
    exact ⟨ret_int HR.out, rfl⟩
set_option maxHeartbeats 400000 in
theorem nearest_s (a b : Int) (w : World) (ha : -500000000000000000 ≤ a) (ha2 : a ≤ 500000000000000000) (hb : 1 ≤ b) (hb2 : b ≤ 500000000000000000) : Calls Tryd.prog 90 #[.int .i64 a, .int .i64 b] w fun e w' => e = .returned (.int .i64 ((2 * a + b) / (2 * b))) ∧ w = w' := by
  go_enter Tryd.func90, Tryd.ntmps90
  go_wp2_with (go_at_call 102; refine (floor_s _ _ _ (by omega) (by omega) (by omega)).mono ?_; rintro e w' ⟨rfl, rfl⟩)
  go_ret
  exact ⟨rfl, rfl⟩
set_option maxHeartbeats 400000 in
theorem abs_s (n : Int) (w : World) (ha : -2000000000000000000 ≤ n) (ha2 : n ≤ 2000000000000000000) : Calls Tryd.prog 84 #[.int .i64 n] w fun e w' => e = .returned (.int .i64 (n.natAbs : Int)) ∧ w = w' := by
  by_cases h : 0 ≤ n
  · have HR := Lib.hid (show n = (n.natAbs : Int) by omega)
    have g : ¬ n < -n := by omega
    go_enter Tryd.func84, Tryd.ntmps84
    go_wp2
    go_ret
    exact ⟨ret_int HR.out, rfl⟩
  · have HR := Lib.hid (show -n = (n.natAbs : Int) by omega)
    have g : n < -n := by omega
    go_enter Tryd.func84, Tryd.ntmps84
    go_wp2
    go_ret
    exact ⟨ret_int HR.out, rfl⟩
end Go.Proofs.YtlijleemogpifaaDoor.C
