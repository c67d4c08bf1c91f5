/- Contracts of chapter 2: a fraction, rounded to a figure. -/
import Derived.Test.YthmmdcpodadjbaaA2
import Derived.LoopTactic
namespace Go.Proofs.Ythmmdcpodadjbaa.C
open Go.RowKit Go.Proofs.Ythmmdcpodadjbaa.K
set_option linter.unusedVariables false

set_option maxHeartbeats 1600000 in
theorem rounded_impl (n d t : Int) (w : World) (n0 : 1 ≤ n) (n1 : n ≤ 1000000000) (d0 : 1 ≤ d) (d1 : d ≤ 1000000000) (t0 : -1000 ≤ t) (t1 : t ≤ 1000) :
    Calls Try.prog 85 #[.int .i64 n, .int .i64 d, .int .i64 t] w fun e w' => e = .returned (.agg #[.int .i64 (rdD n d), .int .i64 (rdT n d t)]) ∧ Below w.heap.size w w' := by
  go_enter Try.func85, Try.ntmps85
  go_wp2_with fail
  go_loop [0, 2] (fun x y => ∃ m s : Int, DnR n d (t + 3) m s ∧ x = .int .i64 m ∧ y = .int .i64 s) (fun x _ => (1000 * d - intOf x).toNat)
  case atStart => exact ⟨n, t + 3, DnR.start _ n0 n1 d1, rfl, rfl⟩
  case round =>
    obtain ⟨m, s, hR, rfl, rfl⟩ := hrel
    obtain ⟨m0, m1, s0, s1⟩ := hR.bounds
    by_cases hm : m < 1000 * d
    · have HS := Lib.hid (hR.step d1 hm)
      clear hR
      go_wp2_with fail
      go_round
      case rel => exact ⟨10 * m, s - 1, HS.out, by rw [Int.mul_comm], rfl⟩
      case measure => simp [intOf]; omega
    · obtain ⟨e1, e2⟩ := hR.done hm
      have ho := order_i (t + 3) n0 n1 d0 d1
      have hb := r_bounds (t + 3) n0 n1 d0 d1
      have hq := rdQ_bounds n0 n1 d0 d1
      have HX : Hid (m = rN n d ∧ upD 20 m d = rD n d ∧ upT 20 m d s = rT n d (t + 3)) := by
        have hm' : m = rN n d := e1
        exact ⟨hm', by rw [hm']; exact ho.1, by rw [hm', e2]; exact ho.2⟩
      have HB := Lib.hid hb
      have HQ := Lib.hid hq
      clear e1 e2 ho hb hq hR
      go_wp2_with fail
      go_loop [1, 2] (fun x y => ∃ v u : Int, UpR m d s v u ∧ x = .int .i64 v ∧ y = .int .i64 u) (fun x _ => (m - intOf x).toNat)
      case atStart => exact ⟨d, s, UpR.start _ m1 d0 d1, rfl, rfl⟩
      case round =>
        obtain ⟨v, u, hR, rfl, rfl⟩ := hrel
        obtain ⟨v0, v1, u0, u1⟩ := hR.bounds
        by_cases hv : 10000 * v ≤ m
        · have HS := Lib.hid (hR.step m1 hv)
          clear hR
          go_wp2_with fail
          go_round
          case rel => exact ⟨10 * v, u + 1, HS.out, by rw [Int.mul_comm], rfl⟩
          case measure => simp [intOf]; omega
        · obtain ⟨e1, e2⟩ := hR.done hv
          obtain ⟨x1, x2, x3⟩ := HX.out
          rw [x2] at e1
          rw [x3] at e2
          have HQE := Lib.hid (show (2 * m + v) / (2 * v) = rdQ n d by rw [e1, x1]; rfl)
          have hq0 : 1000 ≤ (2 * m + v) / (2 * v) := by rw [HQE.out]; exact HQ.out.1
          have hq1 : (2 * m + v) / (2 * v) ≤ 10000 := by rw [HQE.out]; exact HQ.out.2
          have HU := Lib.hid e2
          clear e1 e2 x1 x2 x3 hR
          by_cases hten : (2 * m + v) / (2 * v) = 10000
          · have ht : ((2 * m + v) / (2 * v) == 10000) = true := beq_iff_eq.2 hten
            have HT := Lib.hid hten
            clear hten
            go_wp2_with (go_at_call 146; refine (near_i _ _ _ (by omega) (by omega) (by omega) (by omega)).mono ?_; rintro e w' ⟨rfl, rfl⟩)
            go_returns
            exact ⟨ret_agg (by unfold rdD; rw [← HQE.out, HT.out]; rfl) (by unfold rdT; rw [← HQE.out, HT.out, ← HU.out]; rfl), (by repeat (first | (with_reducible exact Below.refl _ _) | (with_reducible assumption) | (with_reducible refine below_alloc ?_ _) | (with_reducible refine Below.setCell ?_ (by first | omega | (simp; done) | (simp; omega)) _) | (with_reducible refine below_drewN ?_ _) | (with_reducible refine Below.drew ?_) | (with_reducible refine below_tr ?_ (by assumption))))⟩
          · have ht : ((2 * m + v) / (2 * v) == 10000) = false := beq_eq_false_iff_ne.2 hten
            have HT := Lib.hid hten
            clear hten
            go_wp2_with (go_at_call 146; refine (near_i _ _ _ (by omega) (by omega) (by omega) (by omega)).mono ?_; rintro e w' ⟨rfl, rfl⟩)
            go_returns
            exact ⟨ret_agg (by unfold rdD; rw [← HQE.out, if_neg HT.out]) (by unfold rdT; rw [← HQE.out, if_neg HT.out, ← HU.out]), (by repeat (first | (with_reducible exact Below.refl _ _) | (with_reducible assumption) | (with_reducible refine below_alloc ?_ _) | (with_reducible refine Below.setCell ?_ (by first | omega | (simp; done) | (simp; omega)) _) | (with_reducible refine below_drewN ?_ _) | (with_reducible refine Below.drew ?_) | (with_reducible refine below_tr ?_ (by assumption))))⟩
set_option maxHeartbeats 1600000 in
theorem rounded_spec (n d t : Int) (w : World) (n0 : 1 ≤ n) (n1 : n ≤ 1000000000) (d0 : 1 ≤ d) (d1 : d ≤ 1000000000) (t0 : -1000 ≤ t) (t1 : t ≤ 1000) :
    Calls Try.prog 88 #[.int .i64 n, .int .i64 d, .int .i64 t] w fun e w' => e = .returned (.agg #[.int .i64 (rdD n d), .int .i64 (rdT n d t)]) ∧ Below w.heap.size w w' := by
  go_enter Try.func88, Try.ntmps88
  go_wp2_with fail
  go_loop [1, 2] (fun x y => ∃ v u : Int, UpR n d (t + 3) v u ∧ x = .int .i64 v ∧ y = .int .i64 u) (fun x _ => (n - intOf x).toNat)
  case atStart => exact ⟨d, t + 3, UpR.start _ (by omega) d0 d1, rfl, rfl⟩
  case round =>
    obtain ⟨v, u, hR, rfl, rfl⟩ := hrel
    obtain ⟨v0, v1, u0, u1⟩ := hR.bounds
    by_cases hv : 10000 * v ≤ n
    · have HS := Lib.hid (hR.step (by omega) hv)
      clear hR
      go_wp2_with fail
      go_round
      case rel => exact ⟨10 * v, u + 1, HS.out, rfl, rfl⟩
      case measure => simp [intOf]; omega
    · obtain ⟨e1, e2⟩ := hR.done hv
      have ho := order_s (t + 3) n0 n1 d0 d1
      have hb := r_bounds (t + 3) n0 n1 d0 d1
      have hq := rdQ_bounds n0 n1 d0 d1
      have hm' : v = rD n d := e1
      have HX : Hid (v = rD n d ∧ dnN 20 n v = rN n d ∧ dnT 20 n v u = rT n d (t + 3)) :=
        ⟨hm', by rw [hm']; exact ho.1, by rw [hm', e2]; exact ho.2⟩
      have v2 : v ≤ 1000000000 := by omega
      have HQ := Lib.hid hq
      clear e1 e2 ho hb hq hR hm'
      go_wp2_with fail
      go_loop [0, 2] (fun x y => ∃ m s : Int, DnR n v u m s ∧ x = .int .i64 m ∧ y = .int .i64 s) (fun x _ => (1000 * v - intOf x).toNat)
      case atStart => exact ⟨n, u, DnR.start _ n0 n1 v2, rfl, rfl⟩
      case round =>
        obtain ⟨m, s, hR, rfl, rfl⟩ := hrel
        obtain ⟨m0, m1, s0, s1⟩ := hR.bounds
        by_cases hm : m < 1000 * v
        · have HS := Lib.hid (hR.step v2 hm)
          clear hR
          go_wp2_with fail
          go_round
          case rel => exact ⟨10 * m, s - 1, HS.out, rfl, rfl⟩
          case measure => simp [intOf]; omega
        · obtain ⟨e1, e2⟩ := hR.done hm
          obtain ⟨x1, x2, x3⟩ := HX.out
          rw [x2] at e1
          rw [x3] at e2
          have HQE := Lib.hid (show (2 * m + v) / (2 * v) = rdQ n d by rw [e1, x1]; rfl)
          have hq0 : 1000 ≤ (2 * m + v) / (2 * v) := by rw [HQE.out]; exact HQ.out.1
          have hq1 : (2 * m + v) / (2 * v) ≤ 10000 := by rw [HQE.out]; exact HQ.out.2
          have HU := Lib.hid e2
          clear e1 e2 x1 x2 x3 hR
          by_cases hten : (2 * m + v) / (2 * v) = 10000
          · have ht : ((2 * m + v) / (2 * v) == 10000) = true := beq_iff_eq.2 hten
            have HT := Lib.hid hten
            clear hten
            go_wp2_with (go_at_call 147; refine (nearest_s _ _ _ (by omega) (by omega) (by omega) (by omega)).mono ?_; rintro e w' ⟨rfl, rfl⟩)
            go_returns
            exact ⟨ret_agg (by unfold rdD; rw [← HQE.out, HT.out]; rfl) (by unfold rdT; rw [← HQE.out, HT.out, ← HU.out]; rfl), (by repeat (first | (with_reducible exact Below.refl _ _) | (with_reducible assumption) | (with_reducible refine below_alloc ?_ _) | (with_reducible refine Below.setCell ?_ (by first | omega | (simp; done) | (simp; omega)) _) | (with_reducible refine below_drewN ?_ _) | (with_reducible refine Below.drew ?_) | (with_reducible refine below_tr ?_ (by assumption))))⟩
          · have ht : ((2 * m + v) / (2 * v) == 10000) = false := beq_eq_false_iff_ne.2 hten
            have HT := Lib.hid hten
            clear hten
            go_wp2_with (go_at_call 147; refine (nearest_s _ _ _ (by omega) (by omega) (by omega) (by omega)).mono ?_; rintro e w' ⟨rfl, rfl⟩)
            go_returns
            exact ⟨ret_agg (by unfold rdD; rw [← HQE.out, if_neg HT.out]) (by unfold rdT; rw [← HQE.out, if_neg HT.out, ← HU.out]), (by repeat (first | (with_reducible exact Below.refl _ _) | (with_reducible assumption) | (with_reducible refine below_alloc ?_ _) | (with_reducible refine Below.setCell ?_ (by first | omega | (simp; done) | (simp; omega)) _) | (with_reducible refine below_drewN ?_ _) | (with_reducible refine Below.drew ?_) | (with_reducible refine below_tr ?_ (by assumption))))⟩
end Go.Proofs.Ythmmdcpodadjbaa.C
