/- The law on fractions: the walk. -/
import Derived.Test.YtjfhaahdjkiciaaA1b
import Derived.Test.YtjfhaahdjkiciaaD1
import Derived.Test.YtjfhaahdjkiciaaPlain10
namespace Go.Proofs.Ytjfhaahdjkiciaa.W
open Go.RowKit Go.Proofs.Ytjfhaahdjkiciaa.K Go.Proofs.Ytjfhaahdjkiciaa.C
set_option linter.unusedVariables false

set_option maxHeartbeats 400000 in
theorem big (a : Option Addr) (len cap : Nat) (w : World) : Calls Try.prog 10 #[.slice a len cap] w fun e w' => e = .returned (.bool (decide (4096 < len))) ∧ w = w' := by
  go_enter Try.func10, Try.ntmps10
  go_wp2
  go_ret
  exact ⟨by simp; omega, rfl⟩
set_option maxHeartbeats 1600000 in
theorem DrawDivideDown (a : Option Addr) (len cap : Nat) (w : World) (hR : Row8 w a len w.heap.size) : Calls Try.prog 11 #[.slice a len cap] w fun e w' => ∃ x y : Int, e = .returned (.tuple #[.int .i64 x, .int .i64 y]) ∧ Below w.heap.size w w' := by
  go_enter Try.func11, Try.ntmps11
  go_wp2_with (first | (go_at_call 70; refine (from_s _ _ _ _ (by first | (with_reducible assumption) | exact Row8.below hR (by first | (with_reducible exact Below.refl _ _) | (repeat (first | (with_reducible assumption) | (with_reducible refine below_drewN ?_ _) | (with_reducible refine Below.drew ?_) | (with_reducible refine below_but ?_ (by assumption) (by omega)) | (with_reducible refine below_tr ?_ (by assumption))))))).mono ?_; rintro e w1 ⟨rfl, hS1, hB1⟩; (try simp only [World.size_drew, World.size_drewN] at hS1 hB1)) | (go_at_call 71; refine (drawValue_s _ _ _ _ _ (by assumption)).mono ?_; rintro e w1 ⟨r, rfl, hS1, hB1⟩) | (go_at_call 73; refine (next_s _ _ _ _ _ _ (by assumption) (by omega)).mono ?_; rintro e w1 ⟨r, rfl, r0, r1, r2, hS1, hB1⟩) | (go_at_call 72; refine (pick_a (fun _ => True) _ _ _ _ _ _ _ _ (by assumption) (by omega) (by omega) ?_).mono ?_; (intro j hj; rcases j with _ | _ | _ | _ | _ | _ | _ | _ | _ | _ | _ | _ | j <;> first | exact ⟨_, trivial, rfl⟩ | omega); rintro e w1 ⟨r, rfl, hp, hS1, hB1⟩))
  go_ret2
  exact ⟨_, _, rfl, (by first | (with_reducible exact Below.refl _ _) | (repeat (first | (with_reducible assumption) | (with_reducible refine below_drewN ?_ _) | (with_reducible refine Below.drew ?_) | (with_reducible refine below_but ?_ (by assumption) (by omega)) | (with_reducible refine below_tr ?_ (by assumption)))))⟩
set_option maxRecDepth 100000 in
set_option maxHeartbeats 1600000 in
theorem Fractions (a : Option Addr) (len cap : Nat) (zs : List Int) (w : World) (hz : IsRow .u8 w a len cap zs) : Calls Try.prog 3 #[.slice a len cap] w fun e w' => e = .returned (.bool true) ∧ Below w.heap.size w w' := by
  have hR := Row8.of_row hz
  clear hz
  go_enter Try.func3, Try.ntmps3
  go_wp2_with (first | (go_at_call 10; refine (big _ _ _ _).mono ?_; rintro e w' ⟨rfl, rfl⟩) | (go_at_call 11; refine (DrawDivideDown _ _ _ _ hR).mono ?_; rintro e w1 ⟨x, y, rfl, hb⟩))
  · go_ret
    exact ⟨rfl, Below.refl _ _⟩
  · rcases frac_cases x y with hc | ⟨hc, x0, x1, y0, y1, b0, b1, b2, b3, b4, b5, b6, b7, b8, b9, h1, h2, h3, h4o, h5, h6⟩ | ⟨hc, x0, x1, y0, y1, b0, b1, b2, b3, b4, b5, b6, b7, b8, b9, h1, h2, h3, h4o, h5, h6⟩
    · have hc' : (codeV x y != 0) = true := by rw [bne_iff_ne]; exact hc
      clear hc
      go_wp2_with (first | (go_at_call 13; refine (DivideDown_spec _ _ _).mono ?_; rintro e w' ⟨rfl, rfl⟩) | (go_at_call 12; refine (DivideDown_impl _ _ _).mono ?_; rintro e w' ⟨rfl, rfl⟩) | (go_at_call 15; refine (DivideUp_spec _ _ _).mono ?_; rintro e w' ⟨rfl, rfl⟩) | (go_at_call 14; refine (DivideUp_impl _ _ _).mono ?_; rintro e w' ⟨rfl, rfl⟩) | (go_at_call 17; refine (DivideNear_spec _ _ _).mono ?_; rintro e w' ⟨rfl, rfl⟩) | (go_at_call 16; refine (DivideNear_impl _ _ _).mono ?_; rintro e w' ⟨rfl, rfl⟩))
      go_ret
      exact ⟨rfl, (by first | (with_reducible exact Below.refl _ _) | (repeat (first | (with_reducible assumption) | (with_reducible refine below_drewN ?_ _) | (with_reducible refine Below.drew ?_) | (with_reducible refine below_but ?_ (by assumption) (by omega)) | (with_reducible refine below_tr ?_ (by assumption)))))⟩
    · have hc' : (codeV x y != 0) = false := by rw [hc]; rfl
      clear hc
      by_cases h4 : dnV x y = ddV x y
      · rw [h4] at h5 h6 b8 b9
        have h6d := decide_eq_true h6
        clear h4o
        go_wp2_with (first | (go_at_call 13; refine (DivideDown_spec _ _ _).mono ?_; rintro e w' ⟨rfl, rfl⟩) | (go_at_call 12; refine (DivideDown_impl _ _ _).mono ?_; rintro e w' ⟨rfl, rfl⟩) | (go_at_call 15; refine (DivideUp_spec _ _ _).mono ?_; rintro e w' ⟨rfl, rfl⟩) | (go_at_call 14; refine (DivideUp_impl _ _ _).mono ?_; rintro e w' ⟨rfl, rfl⟩) | (go_at_call 17; refine (DivideNear_spec _ _ _).mono ?_; rintro e w' ⟨rfl, rfl⟩) | (go_at_call 16; refine (DivideNear_impl _ _ _).mono ?_; rintro e w' ⟨rfl, rfl⟩))
        go_ret
        first | exact ⟨rfl, (by first | (with_reducible exact Below.refl _ _) | (repeat (first | (with_reducible assumption) | (with_reducible refine below_drewN ?_ _) | (with_reducible refine Below.drew ?_) | (with_reducible refine below_but ?_ (by assumption) (by omega)) | (with_reducible refine below_tr ?_ (by assumption)))))⟩ | exact ⟨ret_bool h6d, (by first | (with_reducible exact Below.refl _ _) | (repeat (first | (with_reducible assumption) | (with_reducible refine below_drewN ?_ _) | (with_reducible refine Below.drew ?_) | (with_reducible refine below_but ?_ (by assumption) (by omega)) | (with_reducible refine below_tr ?_ (by assumption)))))⟩
      · have h4 : dnV x y = duV x y := by rcases h4o with e | e; exact absurd e h4; exact e
        have hne : (duV x y == ddV x y) = false := by rw [← h4]; exact beq_eq_false_iff_ne.2 (by assumption)
        rw [h4] at h5 h6 b8 b9
        have h6d := decide_eq_true h6
        clear h4o; rename_i hxx; clear hxx
        go_wp2_with (first | (go_at_call 13; refine (DivideDown_spec _ _ _).mono ?_; rintro e w' ⟨rfl, rfl⟩) | (go_at_call 12; refine (DivideDown_impl _ _ _).mono ?_; rintro e w' ⟨rfl, rfl⟩) | (go_at_call 15; refine (DivideUp_spec _ _ _).mono ?_; rintro e w' ⟨rfl, rfl⟩) | (go_at_call 14; refine (DivideUp_impl _ _ _).mono ?_; rintro e w' ⟨rfl, rfl⟩) | (go_at_call 17; refine (DivideNear_spec _ _ _).mono ?_; rintro e w' ⟨rfl, rfl⟩) | (go_at_call 16; refine (DivideNear_impl _ _ _).mono ?_; rintro e w' ⟨rfl, rfl⟩))
        all_goals
          go_ret
          first | exact ⟨rfl, (by first | (with_reducible exact Below.refl _ _) | (repeat (first | (with_reducible assumption) | (with_reducible refine below_drewN ?_ _) | (with_reducible refine Below.drew ?_) | (with_reducible refine below_but ?_ (by assumption) (by omega)) | (with_reducible refine below_tr ?_ (by assumption)))))⟩ | exact ⟨ret_bool h6d, (by first | (with_reducible exact Below.refl _ _) | (repeat (first | (with_reducible assumption) | (with_reducible refine below_drewN ?_ _) | (with_reducible refine Below.drew ?_) | (with_reducible refine below_but ?_ (by assumption) (by omega)) | (with_reducible refine below_tr ?_ (by assumption)))))⟩
    · have hc' : (codeV x y != 0) = false := by rw [hc]; rfl
      clear hc
      by_cases h4 : dnV x y = ddV x y
      · rw [h4] at h5 h6 b8 b9
        have h6d := decide_eq_true h6
        go_wp2_with (first | (go_at_call 13; refine (DivideDown_spec _ _ _).mono ?_; rintro e w' ⟨rfl, rfl⟩) | (go_at_call 12; refine (DivideDown_impl _ _ _).mono ?_; rintro e w' ⟨rfl, rfl⟩) | (go_at_call 15; refine (DivideUp_spec _ _ _).mono ?_; rintro e w' ⟨rfl, rfl⟩) | (go_at_call 14; refine (DivideUp_impl _ _ _).mono ?_; rintro e w' ⟨rfl, rfl⟩) | (go_at_call 17; refine (DivideNear_spec _ _ _).mono ?_; rintro e w' ⟨rfl, rfl⟩) | (go_at_call 16; refine (DivideNear_impl _ _ _).mono ?_; rintro e w' ⟨rfl, rfl⟩))
        go_ret
        first | exact ⟨rfl, (by first | (with_reducible exact Below.refl _ _) | (repeat (first | (with_reducible assumption) | (with_reducible refine below_drewN ?_ _) | (with_reducible refine Below.drew ?_) | (with_reducible refine below_but ?_ (by assumption) (by omega)) | (with_reducible refine below_tr ?_ (by assumption)))))⟩ | exact ⟨ret_bool h6d, (by first | (with_reducible exact Below.refl _ _) | (repeat (first | (with_reducible assumption) | (with_reducible refine below_drewN ?_ _) | (with_reducible refine Below.drew ?_) | (with_reducible refine below_but ?_ (by assumption) (by omega)) | (with_reducible refine below_tr ?_ (by assumption)))))⟩
      · have h4 : dnV x y = duV x y := by rcases h4o with e | e; exact absurd e h4; exact e
        have hne : (duV x y == ddV x y) = false := by rw [← h4]; exact beq_eq_false_iff_ne.2 (by assumption)
        rw [h4] at h5 h6 b8 b9
        have h6d := decide_eq_true h6
        go_wp2_with (first | (go_at_call 13; refine (DivideDown_spec _ _ _).mono ?_; rintro e w' ⟨rfl, rfl⟩) | (go_at_call 12; refine (DivideDown_impl _ _ _).mono ?_; rintro e w' ⟨rfl, rfl⟩) | (go_at_call 15; refine (DivideUp_spec _ _ _).mono ?_; rintro e w' ⟨rfl, rfl⟩) | (go_at_call 14; refine (DivideUp_impl _ _ _).mono ?_; rintro e w' ⟨rfl, rfl⟩) | (go_at_call 17; refine (DivideNear_spec _ _ _).mono ?_; rintro e w' ⟨rfl, rfl⟩) | (go_at_call 16; refine (DivideNear_impl _ _ _).mono ?_; rintro e w' ⟨rfl, rfl⟩))
        all_goals
          go_ret
          first | exact ⟨rfl, (by first | (with_reducible exact Below.refl _ _) | (repeat (first | (with_reducible assumption) | (with_reducible refine below_drewN ?_ _) | (with_reducible refine Below.drew ?_) | (with_reducible refine below_but ?_ (by assumption) (by omega)) | (with_reducible refine below_tr ?_ (by assumption)))))⟩ | exact ⟨ret_bool h6d, (by first | (with_reducible exact Below.refl _ _) | (repeat (first | (with_reducible assumption) | (with_reducible refine below_drewN ?_ _) | (with_reducible refine Below.drew ?_) | (with_reducible refine below_but ?_ (by assumption) (by omega)) | (with_reducible refine below_tr ?_ (by assumption)))))⟩
end Go.Proofs.Ytjfhaahdjkiciaa.W
