/- Contracts of chapter 5: scales, their names and decades. -/
import Derived.Test.YtolpolhmgddkdaaA1
import Derived.Test.YtolpolhmgddkdaaU
namespace Go.Proofs.Ytolpolhmgddkdaa.C
open Go.RowKit Go.Proofs.Ytolpolhmgddkdaa.K
set_option linter.unusedVariables false

theorem scale_cases {a : Int} (h : inB a 0 5 = true) : a = 0 ∨ a = 1 ∨ a = 2 ∨ a = 3 ∨ a = 4 ∨ a = 5 := by
  have := inB_true.1 h; omega
/-- the decades of a scale -/
def dcV (s : Int) : Int := if s = 1 then 2 else if s = 2 then 3 else 1
def dvV (s : Int) : Int := if inB s 0 5 then dcV s else 0
def riV (s : Int) : Bool := inB s 0 5 && s != 3
set_option maxHeartbeats 400000 in
theorem IsScale_spec (a : Int) (w : World) : Calls Try.prog 9 #[.int .i64 a] w fun e w' => e = .returned (.bool (inB a 0 5)) ∧ w = w' := by
  go_enter Try.func9, Try.ntmps9
  go_wp2_with (go_at_call 21; refine (in_s _ _ _ _).mono ?_; rintro e w' ⟨rfl, rfl⟩)
  go_ret
  exact ⟨rfl, rfl⟩
set_option maxHeartbeats 400000 in
theorem IsRising_spec (a : Int) (w : World) : Calls Try.prog 17 #[.int .i64 a] w fun e w' => e = .returned (.tuple #[.bool (riV a), .int .i64 (rgV (inB a 0 5))]) ∧ w = w' := by
  cases ha : inB a 0 5
  · have HR := Lib.hid (show false = riV a by simp [riV, ha])
    go_enter Try.func17, Try.ntmps17
    go_wp2_with (go_at_call 9; refine (IsScale_spec _ _).mono ?_; rintro e w' ⟨rfl, rfl⟩)
    go_ret2
    exact ⟨by rw [← HR.out]; rfl, rfl⟩
  · have HR := Lib.hid (show (a != 3) = riV a by simp [riV, ha])
    go_enter Try.func17, Try.ntmps17
    go_wp2_with (go_at_call 9; refine (IsScale_spec _ _).mono ?_; rintro e w' ⟨rfl, rfl⟩)
    go_ret2
    exact ⟨by rw [← HR.out]; rfl, rfl⟩
set_option maxHeartbeats 400000 in
theorem IsScale_impl (a : Int) (w : World) : Calls Try.prog 10 #[.int .i64 a] w fun e w' => e = .returned (.bool (inB a 0 5)) ∧ w = w' := by
  go_enter Try.func10, Try.ntmps10
  go_wp2_with (go_at_call 22; refine (in_i _ _ _ _).mono ?_; rintro e w' ⟨rfl, rfl⟩)
  go_ret
  exact ⟨rfl, rfl⟩
set_option maxHeartbeats 400000 in
theorem IsRising_impl (a : Int) (w : World) : Calls Try.prog 18 #[.int .i64 a] w fun e w' => e = .returned (.tuple #[.bool (riV a), .int .i64 (rgV (inB a 0 5))]) ∧ w = w' := by
  cases ha : inB a 0 5
  · have HR := Lib.hid (show false = riV a by simp [riV, ha])
    go_enter Try.func18, Try.ntmps18
    go_wp2_with (go_at_call 10; refine (IsScale_impl _ _).mono ?_; rintro e w' ⟨rfl, rfl⟩)
    go_ret2
    exact ⟨by rw [← HR.out]; rfl, rfl⟩
  · have HR := Lib.hid (show (a != 3) = riV a by simp [riV, ha])
    go_enter Try.func18, Try.ntmps18
    go_wp2_with (go_at_call 10; refine (IsScale_impl _ _).mono ?_; rintro e w' ⟨rfl, rfl⟩)
    go_ret2
    exact ⟨by rw [← HR.out]; rfl, rfl⟩
/-- the name of a scale -/
def snV (s : Int) : ByteArray := if s = 0 then ⟨#[67]⟩ else if s = 1 then ⟨#[65]⟩ else if s = 2 then ⟨#[75]⟩ else if s = 3 then ⟨#[67, 73]⟩ else if s = 4 then ⟨#[67, 70]⟩ else if s = 5 then ⟨#[76]⟩ else ⟨#[]⟩
theorem snV_out {s : Int} (h : inB s 0 5 = false) : snV s = ⟨#[]⟩ := by
  have := inB_false.1 h
  unfold snV
  rw [if_neg (by omega), if_neg (by omega), if_neg (by omega), if_neg (by omega), if_neg (by omega), if_neg (by omega)]
theorem ret_name {a b : ByteArray} {c d : Int} (h : a = b) (k : c = d) : Ending.returned (.tuple #[.string a, .int .i64 c]) = .returned (.tuple #[.string b, .int .i64 d]) := by rw [h, k]
set_option maxHeartbeats 1600000 in
theorem ScaleName_spec (a : Int) (w : World) : Calls Try.prog 19 #[.int .i64 a] w fun e w' => e = .returned (.tuple #[.string (snV a), .int .i64 (rgV (inB a 0 5))]) ∧ Below w.heap.size w w' := by
  cases ha : inB a 0 5
  · have HR := Lib.hid (snV_out ha).symm
    go_enter Try.func19, Try.ntmps19
    go_wp2_with (go_at_call 9; refine (IsScale_spec _ _).mono ?_; rintro e w' ⟨rfl, rfl⟩)
    go_ret2
    exact ⟨ret_name HR.out rfl, (by repeat (first | exact Below.refl _ _ | assumption | refine below_alloc ?_ _ | refine Below.setCell ?_ (by first | omega | (simp; done) | (simp; omega)) _ | refine below_drewN ?_ _ | refine Below.drew ?_ | refine below_tr ?_ (by assumption)))⟩
  · rcases scale_cases ha with rfl | rfl | rfl | rfl | rfl | rfl
    all_goals
      clear ha
      go_enter Try.func19, Try.ntmps19
      go_wp2
      go_ret2
      exact ⟨rfl, (by repeat (first | exact Below.refl _ _ | assumption | refine below_alloc ?_ _ | refine Below.setCell ?_ (by first | omega | (simp; done) | (simp; omega)) _ | refine below_drewN ?_ _ | refine Below.drew ?_ | refine below_tr ?_ (by assumption)))⟩
set_option maxHeartbeats 1600000 in
theorem ScaleName_impl (a : Int) (w : World) : Calls Try.prog 20 #[.int .i64 a] w fun e w' => e = .returned (.tuple #[.string (snV a), .int .i64 (rgV (inB a 0 5))]) ∧ Below w.heap.size w w' := by
  cases ha : inB a 0 5
  · have HR := Lib.hid (snV_out ha).symm
    go_enter Try.func20, Try.ntmps20
    go_wp2_with (go_at_call 10; refine (IsScale_impl _ _).mono ?_; rintro e w' ⟨rfl, rfl⟩)
    go_ret2
    exact ⟨ret_name HR.out rfl, (by repeat (first | exact Below.refl _ _ | assumption | refine below_alloc ?_ _ | refine Below.setCell ?_ (by first | omega | (simp; done) | (simp; omega)) _ | refine below_drewN ?_ _ | refine Below.drew ?_ | refine below_tr ?_ (by assumption)))⟩
  · rcases scale_cases ha with rfl | rfl | rfl | rfl | rfl | rfl
    all_goals
      clear ha
      go_enter Try.func20, Try.ntmps20
      go_wp2
      go_ret2
      exact ⟨rfl, (by repeat (first | exact Below.refl _ _ | assumption | refine below_alloc ?_ _ | refine Below.setCell ?_ (by first | omega | (simp; done) | (simp; omega)) _ | refine below_drewN ?_ _ | refine Below.drew ?_ | refine below_tr ?_ (by assumption)))⟩
end Go.Proofs.Ytolpolhmgddkdaa.C
