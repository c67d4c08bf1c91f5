/- Contracts of chapter 5: scales, their names and decades. -/
import Derived.Test.YthmmdcpodadjbaaA1
import Derived.Test.YthmmdcpodadjbaaU
namespace Go.Proofs.Ythmmdcpodadjbaa.C
open Go.RowKit Go.Proofs.Ythmmdcpodadjbaa.K
set_option linter.unusedVariables false

theorem scale_cases {a : Int} (h : inB a 0 5 = true) : a = 0 ∨ a = 1 ∨ a = 2 ∨ a = 3 ∨ a = 4 ∨ a = 5 := by
  have := inB_true.1 h; omega
/-- the decades of a scale -/
def dcV (s : Int) : Int := if s = 1 then 2 else if s = 2 then 3 else 1
def dvV (s : Int) : Int := if inB s 0 5 then dcV s else 0
def riV (s : Int) : Bool := inB s 0 5 && s != 3
set_option maxHeartbeats 400000 in
theorem IsScale_spec (a : Int) (w : World) : Calls Try.prog 127 #[.int .i64 a] w fun e w' => e = .returned (.bool (inB a 0 5)) ∧ w = w' := by
  go_enter Try.func127, Try.ntmps127
  go_wp2_with (go_at_call 93; refine (in_s _ _ _ _).mono ?_; rintro e w' ⟨rfl, rfl⟩)
  go_ret
  exact ⟨rfl, rfl⟩
set_option maxHeartbeats 400000 in
theorem IsScale_impl (a : Int) (w : World) : Calls Try.prog 125 #[.int .i64 a] w fun e w' => e = .returned (.bool (inB a 0 5)) ∧ w = w' := by
  go_enter Try.func125, Try.ntmps125
  go_wp2_with (go_at_call 92; refine (in_i _ _ _ _).mono ?_; rintro e w' ⟨rfl, rfl⟩)
  go_ret
  exact ⟨rfl, rfl⟩
set_option maxHeartbeats 800000 in
theorem decades_spec (a : Int) (w : World) (ha : inB a 0 5 = true) : Calls Try.prog 138 #[.int .i64 a] w fun e w' => e = .returned (.int .i64 (dcV a)) ∧ Below w.heap.size w w' := by
  rcases scale_cases ha with rfl | rfl | rfl | rfl | rfl | rfl
  all_goals
    clear ha
    go_enter Try.func138, Try.ntmps138
    go_wp2
    go_ret
    exact ⟨rfl, (by repeat (first | (with_reducible exact Below.refl _ _) | (with_reducible assumption) | (with_reducible refine below_alloc ?_ _) | (with_reducible refine Below.setCell ?_ (by first | omega | (simp; done) | (simp; omega)) _) | (with_reducible refine below_drewN ?_ _) | (with_reducible refine Below.drew ?_) | (with_reducible refine below_tr ?_ (by assumption))))⟩
set_option maxHeartbeats 800000 in
theorem decades_impl (a : Int) (w : World) (ha : inB a 0 5 = true) : Calls Try.prog 165 #[.int .i64 a] w fun e w' => e = .returned (.int .i64 (dcV a)) ∧ Below w.heap.size w w' := by
  rcases scale_cases ha with rfl | rfl | rfl | rfl | rfl | rfl
  all_goals
    clear ha
    go_enter Try.func165, Try.ntmps165
    go_wp2
    go_ret
    exact ⟨rfl, (by repeat (first | (with_reducible exact Below.refl _ _) | (with_reducible assumption) | (with_reducible refine below_alloc ?_ _) | (with_reducible refine Below.setCell ?_ (by first | omega | (simp; done) | (simp; omega)) _) | (with_reducible refine below_drewN ?_ _) | (with_reducible refine Below.drew ?_) | (with_reducible refine below_tr ?_ (by assumption))))⟩
/-- the name of a scale -/
def snV (s : Int) : ByteArray := if s = 0 then ⟨#[67]⟩ else if s = 1 then ⟨#[65]⟩ else if s = 2 then ⟨#[75]⟩ else if s = 3 then ⟨#[67, 73]⟩ else if s = 4 then ⟨#[67, 70]⟩ else if s = 5 then ⟨#[76]⟩ else ⟨#[]⟩
theorem snV_out {s : Int} (h : inB s 0 5 = false) : snV s = ⟨#[]⟩ := by
  have := inB_false.1 h
  unfold snV
  rw [if_neg (by omega), if_neg (by omega), if_neg (by omega), if_neg (by omega), if_neg (by omega), if_neg (by omega)]
theorem ret_name {a b : ByteArray} {c d : Int} (h : a = b) (k : c = d) : Ending.returned (.tuple #[.string a, .int .i64 c]) = .returned (.tuple #[.string b, .int .i64 d]) := by rw [h, k]
set_option maxHeartbeats 1600000 in
theorem ScaleName_spec (a : Int) (w : World) : Calls Try.prog 62 #[.int .i64 a] w fun e w' => e = .returned (.tuple #[.string (snV a), .int .i64 (rgV (inB a 0 5))]) ∧ Below w.heap.size w w' := by
  cases ha : inB a 0 5
  · have HR := Lib.hid (snV_out ha).symm
    go_enter Try.func62, Try.ntmps62
    go_wp2_with (go_at_call 127; refine (IsScale_spec _ _).mono ?_; rintro e w' ⟨rfl, rfl⟩)
    go_ret2
    exact ⟨ret_name HR.out rfl, (by repeat (first | (with_reducible exact Below.refl _ _) | (with_reducible assumption) | (with_reducible refine below_alloc ?_ _) | (with_reducible refine Below.setCell ?_ (by first | omega | (simp; done) | (simp; omega)) _) | (with_reducible refine below_drewN ?_ _) | (with_reducible refine Below.drew ?_) | (with_reducible refine below_tr ?_ (by assumption))))⟩
  · rcases scale_cases ha with rfl | rfl | rfl | rfl | rfl | rfl
    all_goals
      clear ha
      go_enter Try.func62, Try.ntmps62
      go_wp2
      go_ret2
      exact ⟨rfl, (by repeat (first | (with_reducible exact Below.refl _ _) | (with_reducible assumption) | (with_reducible refine below_alloc ?_ _) | (with_reducible refine Below.setCell ?_ (by first | omega | (simp; done) | (simp; omega)) _) | (with_reducible refine below_drewN ?_ _) | (with_reducible refine Below.drew ?_) | (with_reducible refine below_tr ?_ (by assumption))))⟩
set_option maxHeartbeats 1600000 in
theorem ScaleName_impl (a : Int) (w : World) : Calls Try.prog 61 #[.int .i64 a] w fun e w' => e = .returned (.tuple #[.string (snV a), .int .i64 (rgV (inB a 0 5))]) ∧ Below w.heap.size w w' := by
  cases ha : inB a 0 5
  · have HR := Lib.hid (snV_out ha).symm
    go_enter Try.func61, Try.ntmps61
    go_wp2_with (go_at_call 125; refine (IsScale_impl _ _).mono ?_; rintro e w' ⟨rfl, rfl⟩)
    go_ret2
    exact ⟨ret_name HR.out rfl, (by repeat (first | (with_reducible exact Below.refl _ _) | (with_reducible assumption) | (with_reducible refine below_alloc ?_ _) | (with_reducible refine Below.setCell ?_ (by first | omega | (simp; done) | (simp; omega)) _) | (with_reducible refine below_drewN ?_ _) | (with_reducible refine Below.drew ?_) | (with_reducible refine below_tr ?_ (by assumption))))⟩
  · rcases scale_cases ha with rfl | rfl | rfl | rfl | rfl | rfl
    all_goals
      clear ha
      go_enter Try.func61, Try.ntmps61
      go_wp2
      go_ret2
      exact ⟨rfl, (by repeat (first | (with_reducible exact Below.refl _ _) | (with_reducible assumption) | (with_reducible refine below_alloc ?_ _) | (with_reducible refine Below.setCell ?_ (by first | omega | (simp; done) | (simp; omega)) _) | (with_reducible refine below_drewN ?_ _) | (with_reducible refine Below.drew ?_) | (with_reducible refine below_tr ?_ (by assumption))))⟩
end Go.Proofs.Ythmmdcpodadjbaa.C
