/- Contracts of chapter 2: relative errors. -/
import Derived.Test.YtlijleemogpifaaDoorA2e
namespace Go.Proofs.YtlijleemogpifaaDoor.C
open Go.RowKit Go.Proofs.YtlijleemogpifaaDoor.K
set_option linter.unusedVariables false
attribute [local go_sem ↓] Go.wp_at_zero Go.wp_at_succ

theorem err_end {a b c d v : Int} (h : v = reN a b c d) : (9000000 < v → (3 : Int) = reC a b c d) ∧ (¬ 9000000 < v → (0 : Int) = reC a b c d) :=
  ⟨fun k => by unfold reC; rw [← h, if_pos k], fun k => by unfold reC; rw [← h, if_neg k]⟩
set_option maxHeartbeats 3200000 in
theorem err_impl (a b c d : Int) (w : World) (a0 : 1000 ≤ a) (a1 : a ≤ 9999) (b0 : -30 ≤ b) (b1 : b ≤ 30) (c0 : 1000 ≤ c) (c1 : c ≤ 9999) (d0 : -30 ≤ d) (d1 : d ≤ 30) : Calls Tryd.prog 79 #[.agg #[.int .i64 a, .int .i64 b], .agg #[.int .i64 c, .int .i64 d]] w fun e w' => e = .returned (.tuple #[.int .i64 (rsV (reC a b c d) (reN a b c d)), .int .i64 (reC a b c d)]) ∧ Below w.heap.size w w' := by
  have e0 := ten0
  by_cases h2 : 2 ≤ b - d
  · have HV := Lib.hid (reN_two (a := a) (c := c) h2).symm
    have HC := Lib.hid ((err_end HV.out).1 (by omega))
    go_enter Tryd.func79, Tryd.ntmps79
    go_wp2
    go_ret2
    exact ⟨by rw [← HC.out]; rfl, (by repeat (first | (with_reducible exact Below.refl _ _) | (with_reducible assumption) | (with_reducible refine below_alloc ?_ _) | (with_reducible refine Below.setCell ?_ (by first | omega | (simp; done) | (simp; omega)) _) | (with_reducible refine below_drewN ?_ _) | (with_reducible refine Below.drew ?_) | (with_reducible refine below_tr ?_ (by assumption))))⟩
  · by_cases h1 : b - d = 1
    · have e1 := ten1
      have HV := Lib.hid (reN_one (a := a) (c := c) h1).symm
      have g1 : ¬ a * 10 - c < c - a * 10 := by omega
      have q0 := up_ge (n := 1000000 * (a * 10 - c)) (d := c) (by omega) (by omega)
      by_cases hbig : 9000000 < -((-(1000000 * (a * 10 - c))) / c)
      · have HC := Lib.hid ((err_end HV.out).1 hbig)
        go_enter Tryd.func79, Tryd.ntmps79
        go_wp2_with fail
        have hlt0 : w.heap.size < w.heap.size + 1 + 1 := by omega
        have hw0 : IntKind.i64.wrap (-1) = -1 := IntWalk.i64_in _ (by omega)
        have hw1 : IntKind.i64.wrap (0) = 0 := IntWalk.i64_in _ (by omega)
        have hw2 : IntKind.i64.wrap (a) = a := IntWalk.i64_in _ (by omega)
        have hw3 : IntKind.i64.wrap (c) = c := IntWalk.i64_in _ (by omega)
        have hw4 : IntKind.i64.wrap (a * 10) = a * 10 := IntWalk.i64_in _ (by omega)
        go_region_held3 (S2 w.heap.size (w.heap.size + 1) a b c d) ((first | (with_reducible exact S2.drew (by assumption)) | (with_reducible exact S2.drew (S2.init _ _ _ _ _ _ _)) | (with_reducible exact S2.below (by assumption) (by assumption)) | (with_reducible exact S2.alloc (by assumption) _) | (with_reducible exact S2.set (by assumption) (by omega) (by omega)) | (with_reducible exact S2.set (S2.set (by assumption) (by omega) (by omega)) (by omega) (by omega)) | (with_reducible exact S2.re (by assumption) (by omega) (by omega)) | exact S2.alloc (by assumption) _ | exact S2.below (by assumption) (by assumption) | exact S2.drew (by assumption) | exact S2.set (by assumption) (by omega) (by omega) | exact S2.set (S2.set (by assumption) (by omega) (by omega)) (by omega) (by omega) | exact S2.re (by assumption) (by omega) (by omega) | (go_keep; done)))
          (first | (go_at_call 58; refine (ten_i _ _ (by omega) (by omega)).mono ?_; rintro e w' ⟨rfl, rfl⟩))
        all_goals
          go_wp2_with (first | (go_at_call 58; refine (ten_i _ _ (by omega) (by omega)).mono ?_; rintro e w' ⟨rfl, rfl⟩) | (go_at_call 91; refine (up_i _ _ _ (by omega) (by omega) (by omega)).mono ?_; rintro e w' ⟨rfl, rfl⟩))
          go_ret2
          exact ⟨by rw [← HC.out]; rfl, (by repeat (first | (with_reducible exact Below.refl _ _) | (with_reducible assumption) | (with_reducible refine below_alloc ?_ _) | (with_reducible refine Below.setCell ?_ (by first | omega | (simp; done) | (simp; omega)) _) | (with_reducible refine below_drewN ?_ _) | (with_reducible refine Below.drew ?_) | (with_reducible refine below_tr ?_ (by assumption))))⟩
      · have HC := Lib.hid ((err_end HV.out).2 hbig)
        go_enter Tryd.func79, Tryd.ntmps79
        go_wp2_with fail
        have hlt0 : w.heap.size < w.heap.size + 1 + 1 := by omega
        have hw0 : IntKind.i64.wrap (-1) = -1 := IntWalk.i64_in _ (by omega)
        have hw1 : IntKind.i64.wrap (0) = 0 := IntWalk.i64_in _ (by omega)
        have hw2 : IntKind.i64.wrap (a) = a := IntWalk.i64_in _ (by omega)
        have hw3 : IntKind.i64.wrap (c) = c := IntWalk.i64_in _ (by omega)
        have hw4 : IntKind.i64.wrap (a * 10) = a * 10 := IntWalk.i64_in _ (by omega)
        go_region_held3 (S2 w.heap.size (w.heap.size + 1) a b c d) ((first | (with_reducible exact S2.drew (by assumption)) | (with_reducible exact S2.drew (S2.init _ _ _ _ _ _ _)) | (with_reducible exact S2.below (by assumption) (by assumption)) | (with_reducible exact S2.alloc (by assumption) _) | (with_reducible exact S2.set (by assumption) (by omega) (by omega)) | (with_reducible exact S2.set (S2.set (by assumption) (by omega) (by omega)) (by omega) (by omega)) | (with_reducible exact S2.re (by assumption) (by omega) (by omega)) | exact S2.alloc (by assumption) _ | exact S2.below (by assumption) (by assumption) | exact S2.drew (by assumption) | exact S2.set (by assumption) (by omega) (by omega) | exact S2.set (S2.set (by assumption) (by omega) (by omega)) (by omega) (by omega) | exact S2.re (by assumption) (by omega) (by omega) | (go_keep; done)))
          (first | (go_at_call 58; refine (ten_i _ _ (by omega) (by omega)).mono ?_; rintro e w' ⟨rfl, rfl⟩))
        all_goals
          go_wp2_with (first | (go_at_call 58; refine (ten_i _ _ (by omega) (by omega)).mono ?_; rintro e w' ⟨rfl, rfl⟩) | (go_at_call 91; refine (up_i _ _ _ (by omega) (by omega) (by omega)).mono ?_; rintro e w' ⟨rfl, rfl⟩))
          go_ret2
          exact ⟨by rw [← HC.out, ← HV.out]; rfl, (by repeat (first | (with_reducible exact Below.refl _ _) | (with_reducible assumption) | (with_reducible refine below_alloc ?_ _) | (with_reducible refine Below.setCell ?_ (by first | omega | (simp; done) | (simp; omega)) _) | (with_reducible refine below_drewN ?_ _) | (with_reducible refine Below.drew ?_) | (with_reducible refine below_tr ?_ (by assumption))))⟩
    · by_cases hs : b - d = 0
      · by_cases k : a < c
        · have HV := Lib.hid (reN_lt (a := a) (c := c) hs k).symm
          have g1 : a - c < c - a := by omega
          by_cases hbig : 9000000 < -((-(1000000 * (c - a))) / c)
          · have HC := Lib.hid ((err_end HV.out).1 hbig)
            go_enter Tryd.func79, Tryd.ntmps79
            go_wp2_with fail
            have hlt0 : w.heap.size < w.heap.size + 1 + 1 := by omega
            have hw0 : IntKind.i64.wrap (-1) = -1 := IntWalk.i64_in _ (by omega)
            have hw1 : IntKind.i64.wrap (0) = 0 := IntWalk.i64_in _ (by omega)
            have hw2 : IntKind.i64.wrap (a) = a := IntWalk.i64_in _ (by omega)
            have hw3 : IntKind.i64.wrap (c) = c := IntWalk.i64_in _ (by omega)
            have hw4 : IntKind.i64.wrap (a * 10) = a * 10 := IntWalk.i64_in _ (by omega)
            go_region_held3 (S2 w.heap.size (w.heap.size + 1) a b c d) ((first | (with_reducible exact S2.drew (by assumption)) | (with_reducible exact S2.drew (S2.init _ _ _ _ _ _ _)) | (with_reducible exact S2.below (by assumption) (by assumption)) | (with_reducible exact S2.alloc (by assumption) _) | (with_reducible exact S2.set (by assumption) (by omega) (by omega)) | (with_reducible exact S2.set (S2.set (by assumption) (by omega) (by omega)) (by omega) (by omega)) | (with_reducible exact S2.re (by assumption) (by omega) (by omega)) | exact S2.alloc (by assumption) _ | exact S2.below (by assumption) (by assumption) | exact S2.drew (by assumption) | exact S2.set (by assumption) (by omega) (by omega) | exact S2.set (S2.set (by assumption) (by omega) (by omega)) (by omega) (by omega) | exact S2.re (by assumption) (by omega) (by omega) | (go_keep; done)))
              (first | (go_at_call 58; refine (ten_i _ _ (by omega) (by omega)).mono ?_; rintro e w' ⟨rfl, rfl⟩))
            all_goals
              go_wp2_with (first | (go_at_call 58; refine (ten_i _ _ (by omega) (by omega)).mono ?_; rintro e w' ⟨rfl, rfl⟩) | (go_at_call 91; refine (up_i _ _ _ (by omega) (by omega) (by omega)).mono ?_; rintro e w' ⟨rfl, rfl⟩))
              go_ret2
              exact ⟨by rw [← HC.out]; rfl, (by repeat (first | (with_reducible exact Below.refl _ _) | (with_reducible assumption) | (with_reducible refine below_alloc ?_ _) | (with_reducible refine Below.setCell ?_ (by first | omega | (simp; done) | (simp; omega)) _) | (with_reducible refine below_drewN ?_ _) | (with_reducible refine Below.drew ?_) | (with_reducible refine below_tr ?_ (by assumption))))⟩
          · have HC := Lib.hid ((err_end HV.out).2 hbig)
            go_enter Tryd.func79, Tryd.ntmps79
            go_wp2_with fail
            have hlt0 : w.heap.size < w.heap.size + 1 + 1 := by omega
            have hw0 : IntKind.i64.wrap (-1) = -1 := IntWalk.i64_in _ (by omega)
            have hw1 : IntKind.i64.wrap (0) = 0 := IntWalk.i64_in _ (by omega)
            have hw2 : IntKind.i64.wrap (a) = a := IntWalk.i64_in _ (by omega)
            have hw3 : IntKind.i64.wrap (c) = c := IntWalk.i64_in _ (by omega)
            have hw4 : IntKind.i64.wrap (a * 10) = a * 10 := IntWalk.i64_in _ (by omega)
            go_region_held3 (S2 w.heap.size (w.heap.size + 1) a b c d) ((first | (with_reducible exact S2.drew (by assumption)) | (with_reducible exact S2.drew (S2.init _ _ _ _ _ _ _)) | (with_reducible exact S2.below (by assumption) (by assumption)) | (with_reducible exact S2.alloc (by assumption) _) | (with_reducible exact S2.set (by assumption) (by omega) (by omega)) | (with_reducible exact S2.set (S2.set (by assumption) (by omega) (by omega)) (by omega) (by omega)) | (with_reducible exact S2.re (by assumption) (by omega) (by omega)) | exact S2.alloc (by assumption) _ | exact S2.below (by assumption) (by assumption) | exact S2.drew (by assumption) | exact S2.set (by assumption) (by omega) (by omega) | exact S2.set (S2.set (by assumption) (by omega) (by omega)) (by omega) (by omega) | exact S2.re (by assumption) (by omega) (by omega) | (go_keep; done)))
              (first | (go_at_call 58; refine (ten_i _ _ (by omega) (by omega)).mono ?_; rintro e w' ⟨rfl, rfl⟩))
            all_goals
              go_wp2_with (first | (go_at_call 58; refine (ten_i _ _ (by omega) (by omega)).mono ?_; rintro e w' ⟨rfl, rfl⟩) | (go_at_call 91; refine (up_i _ _ _ (by omega) (by omega) (by omega)).mono ?_; rintro e w' ⟨rfl, rfl⟩))
              go_ret2
              exact ⟨by rw [← HC.out, ← HV.out]; rfl, (by repeat (first | (with_reducible exact Below.refl _ _) | (with_reducible assumption) | (with_reducible refine below_alloc ?_ _) | (with_reducible refine Below.setCell ?_ (by first | omega | (simp; done) | (simp; omega)) _) | (with_reducible refine below_drewN ?_ _) | (with_reducible refine Below.drew ?_) | (with_reducible refine below_tr ?_ (by assumption))))⟩
        · have HV := Lib.hid (reN_ge (a := a) (c := c) hs k).symm
          have g1 : ¬ a - c < c - a := by omega
          by_cases hbig : 9000000 < -((-(1000000 * (a - c))) / c)
          · have HC := Lib.hid ((err_end HV.out).1 hbig)
            go_enter Tryd.func79, Tryd.ntmps79
            go_wp2_with fail
            have hlt0 : w.heap.size < w.heap.size + 1 + 1 := by omega
            have hw0 : IntKind.i64.wrap (-1) = -1 := IntWalk.i64_in _ (by omega)
            have hw1 : IntKind.i64.wrap (0) = 0 := IntWalk.i64_in _ (by omega)
            have hw2 : IntKind.i64.wrap (a) = a := IntWalk.i64_in _ (by omega)
            have hw3 : IntKind.i64.wrap (c) = c := IntWalk.i64_in _ (by omega)
            have hw4 : IntKind.i64.wrap (a * 10) = a * 10 := IntWalk.i64_in _ (by omega)
            go_region_held3 (S2 w.heap.size (w.heap.size + 1) a b c d) ((first | (with_reducible exact S2.drew (by assumption)) | (with_reducible exact S2.drew (S2.init _ _ _ _ _ _ _)) | (with_reducible exact S2.below (by assumption) (by assumption)) | (with_reducible exact S2.alloc (by assumption) _) | (with_reducible exact S2.set (by assumption) (by omega) (by omega)) | (with_reducible exact S2.set (S2.set (by assumption) (by omega) (by omega)) (by omega) (by omega)) | (with_reducible exact S2.re (by assumption) (by omega) (by omega)) | exact S2.alloc (by assumption) _ | exact S2.below (by assumption) (by assumption) | exact S2.drew (by assumption) | exact S2.set (by assumption) (by omega) (by omega) | exact S2.set (S2.set (by assumption) (by omega) (by omega)) (by omega) (by omega) | exact S2.re (by assumption) (by omega) (by omega) | (go_keep; done)))
              (first | (go_at_call 58; refine (ten_i _ _ (by omega) (by omega)).mono ?_; rintro e w' ⟨rfl, rfl⟩))
            all_goals
              go_wp2_with (first | (go_at_call 58; refine (ten_i _ _ (by omega) (by omega)).mono ?_; rintro e w' ⟨rfl, rfl⟩) | (go_at_call 91; refine (up_i _ _ _ (by omega) (by omega) (by omega)).mono ?_; rintro e w' ⟨rfl, rfl⟩))
              go_ret2
              exact ⟨by rw [← HC.out]; rfl, (by repeat (first | (with_reducible exact Below.refl _ _) | (with_reducible assumption) | (with_reducible refine below_alloc ?_ _) | (with_reducible refine Below.setCell ?_ (by first | omega | (simp; done) | (simp; omega)) _) | (with_reducible refine below_drewN ?_ _) | (with_reducible refine Below.drew ?_) | (with_reducible refine below_tr ?_ (by assumption))))⟩
          · have HC := Lib.hid ((err_end HV.out).2 hbig)
            go_enter Tryd.func79, Tryd.ntmps79
            go_wp2_with fail
            have hlt0 : w.heap.size < w.heap.size + 1 + 1 := by omega
            have hw0 : IntKind.i64.wrap (-1) = -1 := IntWalk.i64_in _ (by omega)
            have hw1 : IntKind.i64.wrap (0) = 0 := IntWalk.i64_in _ (by omega)
            have hw2 : IntKind.i64.wrap (a) = a := IntWalk.i64_in _ (by omega)
            have hw3 : IntKind.i64.wrap (c) = c := IntWalk.i64_in _ (by omega)
            have hw4 : IntKind.i64.wrap (a * 10) = a * 10 := IntWalk.i64_in _ (by omega)
            go_region_held3 (S2 w.heap.size (w.heap.size + 1) a b c d) ((first | (with_reducible exact S2.drew (by assumption)) | (with_reducible exact S2.drew (S2.init _ _ _ _ _ _ _)) | (with_reducible exact S2.below (by assumption) (by assumption)) | (with_reducible exact S2.alloc (by assumption) _) | (with_reducible exact S2.set (by assumption) (by omega) (by omega)) | (with_reducible exact S2.set (S2.set (by assumption) (by omega) (by omega)) (by omega) (by omega)) | (with_reducible exact S2.re (by assumption) (by omega) (by omega)) | exact S2.alloc (by assumption) _ | exact S2.below (by assumption) (by assumption) | exact S2.drew (by assumption) | exact S2.set (by assumption) (by omega) (by omega) | exact S2.set (S2.set (by assumption) (by omega) (by omega)) (by omega) (by omega) | exact S2.re (by assumption) (by omega) (by omega) | (go_keep; done)))
              (first | (go_at_call 58; refine (ten_i _ _ (by omega) (by omega)).mono ?_; rintro e w' ⟨rfl, rfl⟩))
            all_goals
              go_wp2_with (first | (go_at_call 58; refine (ten_i _ _ (by omega) (by omega)).mono ?_; rintro e w' ⟨rfl, rfl⟩) | (go_at_call 91; refine (up_i _ _ _ (by omega) (by omega) (by omega)).mono ?_; rintro e w' ⟨rfl, rfl⟩))
              go_ret2
              exact ⟨by rw [← HC.out, ← HV.out]; rfl, (by repeat (first | (with_reducible exact Below.refl _ _) | (with_reducible assumption) | (with_reducible refine below_alloc ?_ _) | (with_reducible refine Below.setCell ?_ (by first | omega | (simp; done) | (simp; omega)) _) | (with_reducible refine below_drewN ?_ _) | (with_reducible refine Below.drew ?_) | (with_reducible refine below_tr ?_ (by assumption))))⟩
      · by_cases h8 : b - d ≤ -8
        · have HV := Lib.hid (reN_far (a := a) (c := c) (show b - d < -6 by omega)).symm
          have HC := Lib.hid ((err_end HV.out).2 (by omega))
          go_enter Tryd.func79, Tryd.ntmps79
          go_wp2
          go_ret2
          exact ⟨by rw [← HC.out, ← HV.out]; rfl, (by repeat (first | (with_reducible exact Below.refl _ _) | (with_reducible assumption) | (with_reducible refine below_alloc ?_ _) | (with_reducible refine Below.setCell ?_ (by first | omega | (simp; done) | (simp; omega)) _) | (with_reducible refine below_drewN ?_ _) | (with_reducible refine Below.drew ?_) | (with_reducible refine below_tr ?_ (by assumption))))⟩
        · obtain ⟨t0, t1⟩ := ct_bounds (s := d - b) c0 c1 (by omega) (by omega)
          have HV : Hid (-((-(1000000 * (c * tenV (d - b) - a))) / (c * tenV (d - b))) = reN a b c d) := by
            by_cases h7 : b - d < -6
            · have e7 : tenV (d - b) = 10000000 := by rw [show d - b = 7 by omega]; exact ten7
              rw [reN_far h7]; rw [e7] at t0 t1 ⊢; exact up_far (by omega) (by omega) (by omega)
            · exact (reN_neg (a := a) (c := c) (by omega) h7).symm
          have g1 : a - c * tenV (d - b) < c * tenV (d - b) - a := by omega
          have hbig' := up_le (n := 1000000 * (c * tenV (d - b) - a)) (d := c * tenV (d - b)) (by omega) 1000000 (by omega)
          have hbig : ¬ 9000000 < -((-(1000000 * (c * tenV (d - b) - a))) / (c * tenV (d - b))) := by omega
          have q0 := up_ge (n := 1000000 * (c * tenV (d - b) - a)) (d := c * tenV (d - b)) (by omega) (by omega)
          have hmx : ¬ 0 < b - d := by omega
          have HC := Lib.hid ((err_end HV.out).2 hbig)
          go_enter Tryd.func79, Tryd.ntmps79
          go_wp2_with fail
          have hlt0 : w.heap.size < w.heap.size + 1 + 1 := by omega
          have hw5 : IntKind.i64.wrap (c * tenV (d - b)) = c * tenV (d - b) := IntWalk.i64_in _ (by omega)
          have hw6 : IntKind.i64.wrap (d - b) = d - b := IntWalk.i64_in _ (by omega)
          have hw7 : IntKind.i64.wrap (-(b - d)) = d - b := by rw [IntWalk.i64_in _ (by omega)]; omega
          have hw0 : IntKind.i64.wrap (-1) = -1 := IntWalk.i64_in _ (by omega)
          have hw1 : IntKind.i64.wrap (0) = 0 := IntWalk.i64_in _ (by omega)
          have hw2 : IntKind.i64.wrap (a) = a := IntWalk.i64_in _ (by omega)
          have hw3 : IntKind.i64.wrap (c) = c := IntWalk.i64_in _ (by omega)
          have hw4 : IntKind.i64.wrap (a * 10) = a * 10 := IntWalk.i64_in _ (by omega)
          go_region_held3 (S2 w.heap.size (w.heap.size + 1) a b c d) ((first | (with_reducible exact S2.drew (by assumption)) | (with_reducible exact S2.drew (S2.init _ _ _ _ _ _ _)) | (with_reducible exact S2.below (by assumption) (by assumption)) | (with_reducible exact S2.alloc (by assumption) _) | (with_reducible exact S2.set (by assumption) (by omega) (by omega)) | (with_reducible exact S2.set (S2.set (by assumption) (by omega) (by omega)) (by omega) (by omega)) | (with_reducible exact S2.re (by assumption) (by omega) (by omega)) | exact S2.alloc (by assumption) _ | exact S2.below (by assumption) (by assumption) | exact S2.drew (by assumption) | exact S2.set (by assumption) (by omega) (by omega) | exact S2.set (S2.set (by assumption) (by omega) (by omega)) (by omega) (by omega) | exact S2.re (by assumption) (by omega) (by omega) | (go_keep; done)))
            (first | (go_at_call 58; refine (ten_i _ _ (by omega) (by omega)).mono ?_; rintro e w' ⟨rfl, rfl⟩))
          all_goals
            go_wp2_with (first | (go_at_call 58; refine (ten_i _ _ (by omega) (by omega)).mono ?_; rintro e w' ⟨rfl, rfl⟩) | (go_at_call 91; refine (up_i _ _ _ (by omega) (by omega) (by omega)).mono ?_; rintro e w' ⟨rfl, rfl⟩))
            go_ret2
            exact ⟨by rw [← HC.out, ← HV.out]; rfl, (by repeat (first | (with_reducible exact Below.refl _ _) | (with_reducible assumption) | (with_reducible refine below_alloc ?_ _) | (with_reducible refine Below.setCell ?_ (by first | omega | (simp; done) | (simp; omega)) _) | (with_reducible refine below_drewN ?_ _) | (with_reducible refine Below.drew ?_) | (with_reducible refine below_tr ?_ (by assumption))))⟩
set_option maxHeartbeats 800000 in
theorem RelativeError_impl (a b c d : Int) (w : World) : Calls Tryd.prog 42 #[.agg #[.int .i64 a, .int .i64 b], .agg #[.int .i64 c, .int .i64 d]] w fun e w' => e = .returned (.tuple #[.int .i64 (rsV (reK a b c d) (reN a b c d)), .int .i64 (reK a b c d)]) ∧ Below w.heap.size w w' := by
  cases hv : twoV a b c d
  · have HR := Lib.hid (show 1 = reK a b c d by simp [reK, hv])
    go_enter Tryd.func42, Tryd.ntmps42
    go_wp2_with (go_at_call 78; refine (two_impl _ a b c d _ ?_ ?_ ?_ ?_ ?_).mono ?_; (simp [go_sem]); (simp [go_sem]); (simp [go_sem]); (simp [go_sem]); (simp [go_sem]); rintro e w1 ⟨rfl, hb⟩; obtain ⟨hc, hf⟩ := bcell hb; (try simp only [World.size_drew, World.cell?_drew] at hc); (try simp only [World.size_drew, World.frozen?_drew] at hf); have hz := hb.size; (try simp at hz); (try (have hz0 : w.heap.size < w1.heap.size := by omega)); (try (have hz1 : w.heap.size + 1 < w1.heap.size := by omega)); (try (have hz2 : w.heap.size + 1 + 1 < w1.heap.size := by omega)); (try (have hz3 : w.heap.size + 1 + 1 + 1 < w1.heap.size := by omega)); (try (have r7 := Nat.lt_of_lt_of_le r5 (show _ ≤ w1.heap.size by omega))); (try (have r6 := Nat.lt_of_lt_of_le r4 (show _ ≤ w1.heap.size by omega))); (try (have r5 := Nat.lt_of_lt_of_le r3 (show _ ≤ w1.heap.size by omega))); (try (have r4 := Nat.lt_of_lt_of_le r2 (show _ ≤ w1.heap.size by omega))); (try (have r3 := Nat.lt_of_lt_of_le r1 (show _ ≤ w1.heap.size by omega))); (try (have r2 := Nat.lt_of_succ_le (Nat.le_of_succ_le hz))); (try (have r1 := Nat.lt_of_succ_le hz)); (try (have hg1 := Nat.lt_of_lt_of_le hg1 (show _ ≤ w1.heap.size by omega))); (try (have hg2 := Nat.lt_of_lt_of_le hg2 (show _ ≤ w1.heap.size by omega))); (try (have hg3 := Nat.lt_of_lt_of_le hg3 (show _ ≤ w1.heap.size by omega))); (try (first | have hK := S1.below hK hb | have hK := S1.below (S1.alloc hK _) hb | have hK := S1.below (S1.alloc (S1.alloc hK _) _) hb | have hK := S1.below (S1.drewN hK _) hb)); (try (first | have hK2 := S1.below hK2 hb | have hK2 := S1.below (S1.alloc hK2 _) hb | have hK2 := S1.below (S1.alloc (S1.alloc hK2 _) _) hb | have hK2 := S1.below (S1.drewN hK2 _) hb)); (try (first | have hK3 := S1.below hK3 hb | have hK3 := S1.below (S1.alloc hK3 _) hb | have hK3 := S1.below (S1.alloc (S1.alloc hK3 _) _) hb | have hK3 := S1.below (S1.drewN hK3 _) hb)); (try (first | have hK4 := S1.below hK4 hb | have hK4 := S1.below (S1.alloc hK4 _) hb | have hK4 := S1.below (S1.alloc (S1.alloc hK4 _) _) hb | have hK4 := S1.below (S1.drewN hK4 _) hb)))
    go_ret2
    exact ⟨by rw [← HR.out]; rfl, (by repeat (first | (with_reducible exact Below.refl _ _) | (with_reducible assumption) | (with_reducible refine below_alloc ?_ _) | (with_reducible refine Below.setCell ?_ (by first | omega | (simp; done) | (simp; omega)) _) | (with_reducible refine below_drewN ?_ _) | (with_reducible refine Below.drew ?_) | (with_reducible refine below_tr ?_ (by assumption))))⟩
  · have HR := Lib.hid (show reC a b c d = reK a b c d by simp [reK, hv])
    obtain ⟨hv1, hv2⟩ := twoV_true.1 hv
    obtain ⟨a0, a1, b0, b1⟩ := figV_true.1 hv1
    obtain ⟨c0, c1, d0, d1⟩ := figV_true.1 hv2
    go_enter Tryd.func42, Tryd.ntmps42
    go_wp2_with (first | (go_at_call 78; refine (two_impl _ a b c d _ ?_ ?_ ?_ ?_ ?_).mono ?_; (simp [go_sem]); (simp [go_sem]); (simp [go_sem]); (simp [go_sem]); (simp [go_sem]); rintro e w1 ⟨rfl, hb⟩; obtain ⟨hc, hf⟩ := bcell hb; (try simp only [World.size_drew, World.cell?_drew] at hc); (try simp only [World.size_drew, World.frozen?_drew] at hf); have hz := hb.size; (try simp at hz); (try (have hz0 : w.heap.size < w1.heap.size := by omega)); (try (have hz1 : w.heap.size + 1 < w1.heap.size := by omega)); (try (have hz2 : w.heap.size + 1 + 1 < w1.heap.size := by omega)); (try (have hz3 : w.heap.size + 1 + 1 + 1 < w1.heap.size := by omega)); (try (have r7 := Nat.lt_of_lt_of_le r5 (show _ ≤ w1.heap.size by omega))); (try (have r6 := Nat.lt_of_lt_of_le r4 (show _ ≤ w1.heap.size by omega))); (try (have r5 := Nat.lt_of_lt_of_le r3 (show _ ≤ w1.heap.size by omega))); (try (have r4 := Nat.lt_of_lt_of_le r2 (show _ ≤ w1.heap.size by omega))); (try (have r3 := Nat.lt_of_lt_of_le r1 (show _ ≤ w1.heap.size by omega))); (try (have r2 := Nat.lt_of_succ_le (Nat.le_of_succ_le hz))); (try (have r1 := Nat.lt_of_succ_le hz)); (try (have hg1 := Nat.lt_of_lt_of_le hg1 (show _ ≤ w1.heap.size by omega))); (try (have hg2 := Nat.lt_of_lt_of_le hg2 (show _ ≤ w1.heap.size by omega))); (try (have hg3 := Nat.lt_of_lt_of_le hg3 (show _ ≤ w1.heap.size by omega))); (try (first | have hK := S1.below hK hb | have hK := S1.below (S1.alloc hK _) hb | have hK := S1.below (S1.alloc (S1.alloc hK _) _) hb | have hK := S1.below (S1.drewN hK _) hb)); (try (first | have hK2 := S1.below hK2 hb | have hK2 := S1.below (S1.alloc hK2 _) hb | have hK2 := S1.below (S1.alloc (S1.alloc hK2 _) _) hb | have hK2 := S1.below (S1.drewN hK2 _) hb)); (try (first | have hK3 := S1.below hK3 hb | have hK3 := S1.below (S1.alloc hK3 _) hb | have hK3 := S1.below (S1.alloc (S1.alloc hK3 _) _) hb | have hK3 := S1.below (S1.drewN hK3 _) hb)); (try (first | have hK4 := S1.below hK4 hb | have hK4 := S1.below (S1.alloc hK4 _) hb | have hK4 := S1.below (S1.alloc (S1.alloc hK4 _) _) hb | have hK4 := S1.below (S1.drewN hK4 _) hb))) | (go_at_call 79; refine (err_impl _ _ _ _ _ (by omega) (by omega) (by omega) (by omega) (by omega) (by omega) (by omega) (by omega)).mono ?_; rintro e w1 ⟨rfl, hb⟩; obtain ⟨hc, hf⟩ := bcell hb; (try simp only [World.size_drew, World.cell?_drew] at hc); (try simp only [World.size_drew, World.frozen?_drew] at hf); have hz := hb.size; (try simp at hz); (try (have hz0 : w.heap.size < w1.heap.size := by omega)); (try (have hz1 : w.heap.size + 1 < w1.heap.size := by omega)); (try (have hz2 : w.heap.size + 1 + 1 < w1.heap.size := by omega)); (try (have hz3 : w.heap.size + 1 + 1 + 1 < w1.heap.size := by omega)); (try (have r7 := Nat.lt_of_lt_of_le r5 (show _ ≤ w1.heap.size by omega))); (try (have r6 := Nat.lt_of_lt_of_le r4 (show _ ≤ w1.heap.size by omega))); (try (have r5 := Nat.lt_of_lt_of_le r3 (show _ ≤ w1.heap.size by omega))); (try (have r4 := Nat.lt_of_lt_of_le r2 (show _ ≤ w1.heap.size by omega))); (try (have r3 := Nat.lt_of_lt_of_le r1 (show _ ≤ w1.heap.size by omega))); (try (have r2 := Nat.lt_of_succ_le (Nat.le_of_succ_le hz))); (try (have r1 := Nat.lt_of_succ_le hz)); (try (have hg1 := Nat.lt_of_lt_of_le hg1 (show _ ≤ w1.heap.size by omega))); (try (have hg2 := Nat.lt_of_lt_of_le hg2 (show _ ≤ w1.heap.size by omega))); (try (have hg3 := Nat.lt_of_lt_of_le hg3 (show _ ≤ w1.heap.size by omega))); (try (first | have hK := S1.below hK hb | have hK := S1.below (S1.alloc hK _) hb | have hK := S1.below (S1.alloc (S1.alloc hK _) _) hb | have hK := S1.below (S1.drewN hK _) hb)); (try (first | have hK2 := S1.below hK2 hb | have hK2 := S1.below (S1.alloc hK2 _) hb | have hK2 := S1.below (S1.alloc (S1.alloc hK2 _) _) hb | have hK2 := S1.below (S1.drewN hK2 _) hb)); (try (first | have hK3 := S1.below hK3 hb | have hK3 := S1.below (S1.alloc hK3 _) hb | have hK3 := S1.below (S1.alloc (S1.alloc hK3 _) _) hb | have hK3 := S1.below (S1.drewN hK3 _) hb)); (try (first | have hK4 := S1.below hK4 hb | have hK4 := S1.below (S1.alloc hK4 _) hb | have hK4 := S1.below (S1.alloc (S1.alloc hK4 _) _) hb | have hK4 := S1.below (S1.drewN hK4 _) hb))))
    go_ret2
    exact ⟨by rw [← HR.out]; rfl, (by repeat (first | (with_reducible exact Below.refl _ _) | (with_reducible assumption) | (with_reducible refine below_alloc ?_ _) | (with_reducible refine Below.setCell ?_ (by first | omega | (simp; done) | (simp; omega)) _) | (with_reducible refine below_drewN ?_ _) | (with_reducible refine Below.drew ?_) | (with_reducible refine below_tr ?_ (by assumption))))⟩
end Go.Proofs.YtlijleemogpifaaDoor.C
