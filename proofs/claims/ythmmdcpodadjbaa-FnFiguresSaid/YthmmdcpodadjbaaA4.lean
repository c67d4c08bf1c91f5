/- Contracts of chapter 4: the program's search for the figures below and above a number of units. -/
import Derived.Test.YthmmdcpodadjbaaA3c
import Derived.Test.YthmmdcpodadjbaaPlain5
import Derived.LoopTactic
namespace Go.Proofs.Ythmmdcpodadjbaa.C
open Go.RowKit Go.Proofs.Ythmmdcpodadjbaa.K
set_option linter.unusedVariables false
attribute [local go_sem ↓] Go.wp_at_zero Go.wp_at_succ

theorem field0 (x y : Int) (w : World) : (Instr.field 41 (.agg #[.int .i64 x, .int .i64 y]) 0).run Try.prog w = .ok (.int .i64 x) w := by kernel_rfl
theorem field1 (x y : Int) (w : World) : (Instr.field 41 (.agg #[.int .i64 x, .int .i64 y]) 1).run Try.prog w = .ok (.int .i64 y) w := by kernel_rfl
attribute [local go_sem] field0 field1
/-- two blocks of one integer -/
abbrev C2 (g k : Nat) (a b : Int) (w : World) : Prop := g < w.heap.size ∧ w.cell? ⟨g, 0, none⟩ = some (.int .i64 a) ∧ k < w.heap.size ∧ w.cell? ⟨k, 0, none⟩ = some (.int .i64 b)
theorem C2.below {g k : Nat} {a b : Int} {w w' : World} (l : Below w.heap.size w w') (h : C2 g k a b w) : C2 g k a b w' := by
  obtain ⟨h0, h1, h2, h3⟩ := h
  have hs := l.size
  refine ⟨by omega, ?_, by omega, ?_⟩
  · rw [l.cell (p := ⟨g, 0, none⟩) h0, h1]
  · rw [l.cell (p := ⟨k, 0, none⟩) h2, h3]
theorem C2.drew {g k : Nat} {a b : Int} {w : World} (h : C2 g k a b w) : C2 g k a b w.drew := h.below ((Below.refl _ _).drew)
set_option maxHeartbeats 1600000 in
theorem closure_figureBelow (i u t : Int) (gt gu : Nat) (w : World) (i0 : 0 ≤ i) (i1 : i ≤ 8999) (t0 : -100 ≤ t) (t1 : t ≤ 100) (hC : C2 gt gu t u w) :
    Calls Try.prog 170 #[.int .i64 i, .pointer (some ⟨gt, 0, none⟩), .pointer (some ⟨gu, 0, none⟩)] w fun e w' => e = .returned (.bool (hoV true u (1000 + i) t)) ∧ Below w.heap.size w w' := by
  have HR := Lib.hid (show (decide (u < fgH (1000 + i) t)) = hoV true u (1000 + i) t from rfl)
  have hw : IntKind.i64.wrap (1000 + i) = 1000 + i := IntWalk.i64_in _ (by omega)
  go_enter Try.func170, Try.ntmps170
  go_wp2_with fail
  go_region_held3 (C2 gt gu t u) ((first | exact C2.drew (by assumption) | exact C2.below (by assumption) (by assumption) | (go_keep; done)))
    (first | (go_at_call 115; refine (flog_impl _ _ _ (by omega) (by omega) (by omega) (by omega)).mono ?_; rintro e w1 ⟨rfl, hb⟩; obtain ⟨hc, hf⟩ := bcell hb; (try simp only [World.size_drew, World.cell?_drew] at hc); (try simp only [World.size_drew, World.frozen?_drew] at hf); have hz := hb.size; (try simp at hz); (try (have hz0 : w.heap.size < w1.heap.size := by omega)); (try (have hz1 : w.heap.size + 1 < w1.heap.size := by omega)); (try (have hz2 : w.heap.size + 1 + 1 < w1.heap.size := by omega)); (try (have hz3 : w.heap.size + 1 + 1 + 1 < w1.heap.size := by omega)); (try (have r7 := Nat.lt_of_lt_of_le r5 (show _ ≤ w1.heap.size by omega))); (try (have r6 := Nat.lt_of_lt_of_le r4 (show _ ≤ w1.heap.size by omega))); (try (have r5 := Nat.lt_of_lt_of_le r3 (show _ ≤ w1.heap.size by omega))); (try (have r4 := Nat.lt_of_lt_of_le r2 (show _ ≤ w1.heap.size by omega))); (try (have r3 := Nat.lt_of_lt_of_le r1 (show _ ≤ w1.heap.size by omega))); (try (have r2 := Nat.lt_of_succ_le (Nat.le_of_succ_le hz))); (try (have r1 := Nat.lt_of_succ_le hz)); (try (have hg1 := Nat.lt_of_lt_of_le hg1 (show _ ≤ w1.heap.size by omega))); (try (have hg2 := Nat.lt_of_lt_of_le hg2 (show _ ≤ w1.heap.size by omega))); (try (have hg3 := Nat.lt_of_lt_of_le hg3 (show _ ≤ w1.heap.size by omega))); (try (first | have hK := S1.below hK hb | have hK := S1.below (S1.alloc hK _) hb | have hK := S1.below (S1.alloc (S1.alloc hK _) _) hb | have hK := S1.below (S1.drewN hK _) hb)); (try (first | have hK2 := S1.below hK2 hb | have hK2 := S1.below (S1.alloc hK2 _) hb | have hK2 := S1.below (S1.alloc (S1.alloc hK2 _) _) hb | have hK2 := S1.below (S1.drewN hK2 _) hb)); (try (first | have hK3 := S1.below hK3 hb | have hK3 := S1.below (S1.alloc hK3 _) hb | have hK3 := S1.below (S1.alloc (S1.alloc hK3 _) _) hb | have hK3 := S1.below (S1.drewN hK3 _) hb)); (try (first | have hK4 := S1.below hK4 hb | have hK4 := S1.below (S1.alloc hK4 _) hb | have hK4 := S1.below (S1.alloc (S1.alloc hK4 _) _) hb | have hK4 := S1.below (S1.drewN hK4 _) hb))))
  go_wp2
  go_ret
  exact ⟨ret_bool HR.out, (by repeat (first | (with_reducible exact Below.refl _ _) | (with_reducible assumption) | (with_reducible refine below_alloc ?_ _) | (with_reducible refine Below.setCell ?_ (by first | omega | (simp; done) | (simp; omega)) _) | (with_reducible refine below_drewN ?_ _) | (with_reducible refine Below.drew ?_) | (with_reducible refine below_tr ?_ (by assumption))))⟩
set_option maxHeartbeats 3200000 in
theorem search_below (u t : Int) (gt gu : Nat) (w : World) (t0 : -100 ≤ t) (t1 : t ≤ 100) (hC : C2 gt gu t u w) :
    Calls Try.prog 169 #[.int .i64 9000, .func (.func 170) #[] #[.pointer (some ⟨gt, 0, none⟩), .pointer (some ⟨gu, 0, none⟩)]] w fun e w' => e = .returned (.int .i64 (srV true u t)) ∧ Below w.heap.size w w' := by
  have HC := Lib.hid hC
  clear hC
  go_enter Try.func169, Try.ntmps169
  go_wp2_with fail
  go_loopw [5, 6] (fun x y wr => ∃ (k : Nat) (i j : Int), j - i < (2 : Int) ^ k ∧ 0 ≤ i ∧ i ≤ j ∧ j ≤ 9000 ∧ ssV true u t k i j = srV true u t ∧ x = .int .i64 i ∧ y = .int .i64 j ∧ Below w.heap.size w wr) (fun x y _ => (intOf y - intOf x).toNat)
  case atStart => exact ⟨14, 0, 9000, by decide, by omega, by omega, by omega, rfl, rfl, rfl, Below.refl _ _⟩
  case round =>
    obtain ⟨k, i, j, hk, i0, ij, j1, hs, rfl, rfl, hB⟩ := hrel
    have hCr := HC.out.below hB
    have HS := Lib.hid hs
    clear hs
    by_cases hd : i < j
    · cases k with
      | zero => simp at hk; omega
      | succ k =>
        rw [Int.pow_succ] at hk
        have h0 : 0 ≤ (i + j) / 2 := by omega
        have h1 : (i + j) / 2 < j := by omega
        cases hp : hoV true u (1000 + (i + j) / 2) t
        · have HX := Lib.hid (show ssV true u t k ((i + j) / 2 + 1) j = srV true u t by rw [← HS.out, ssV, if_pos hd, if_neg (by rw [hp]; decide)])
          go_wp2_with (go_at_call 170; refine (closure_figureBelow _ _ _ _ _ _ (by omega) (by omega) (by omega) (by omega) hCr).mono ?_; rintro e w1 ⟨rfl, hb⟩; obtain ⟨hc, hf⟩ := bcell hb; (try simp only [World.size_drew, World.cell?_drew] at hc); (try simp only [World.size_drew, World.frozen?_drew] at hf); have hz := hb.size; (try simp at hz); (try (have hz0 : w.heap.size < w1.heap.size := by omega)); (try (have hz1 : w.heap.size + 1 < w1.heap.size := by omega)); (try (have hz2 : w.heap.size + 1 + 1 < w1.heap.size := by omega)); (try (have hz3 : w.heap.size + 1 + 1 + 1 < w1.heap.size := by omega)); (try (have r7 := Nat.lt_of_lt_of_le r5 (show _ ≤ w1.heap.size by omega))); (try (have r6 := Nat.lt_of_lt_of_le r4 (show _ ≤ w1.heap.size by omega))); (try (have r5 := Nat.lt_of_lt_of_le r3 (show _ ≤ w1.heap.size by omega))); (try (have r4 := Nat.lt_of_lt_of_le r2 (show _ ≤ w1.heap.size by omega))); (try (have r3 := Nat.lt_of_lt_of_le r1 (show _ ≤ w1.heap.size by omega))); (try (have r2 := Nat.lt_of_succ_le (Nat.le_of_succ_le hz))); (try (have r1 := Nat.lt_of_succ_le hz)); (try (have hg1 := Nat.lt_of_lt_of_le hg1 (show _ ≤ w1.heap.size by omega))); (try (have hg2 := Nat.lt_of_lt_of_le hg2 (show _ ≤ w1.heap.size by omega))); (try (have hg3 := Nat.lt_of_lt_of_le hg3 (show _ ≤ w1.heap.size by omega))); (try (first | have hK := S1.below hK hb | have hK := S1.below (S1.alloc hK _) hb | have hK := S1.below (S1.alloc (S1.alloc hK _) _) hb | have hK := S1.below (S1.drewN hK _) hb)); (try (first | have hK2 := S1.below hK2 hb | have hK2 := S1.below (S1.alloc hK2 _) hb | have hK2 := S1.below (S1.alloc (S1.alloc hK2 _) _) hb | have hK2 := S1.below (S1.drewN hK2 _) hb)); (try (first | have hK3 := S1.below hK3 hb | have hK3 := S1.below (S1.alloc hK3 _) hb | have hK3 := S1.below (S1.alloc (S1.alloc hK3 _) _) hb | have hK3 := S1.below (S1.drewN hK3 _) hb)); (try (first | have hK4 := S1.below hK4 hb | have hK4 := S1.below (S1.alloc hK4 _) hb | have hK4 := S1.below (S1.alloc (S1.alloc hK4 _) _) hb | have hK4 := S1.below (S1.drewN hK4 _) hb)))
          go_roundw
          case rel => exact ⟨k, (i + j) / 2 + 1, j, by omega, by omega, by omega, by omega, HX.out, rfl, rfl, (by repeat (first | (with_reducible exact Below.refl _ _) | (with_reducible assumption) | (with_reducible refine below_alloc ?_ _) | (with_reducible refine Below.setCell ?_ (by first | omega | (simp; done) | (simp; omega)) _) | (with_reducible refine below_drewN ?_ _) | (with_reducible refine Below.drew ?_) | (with_reducible refine below_tr ?_ (by assumption))))⟩
          case measure => simp [intOf]; omega
        · have HX := Lib.hid (show ssV true u t k i ((i + j) / 2) = srV true u t by rw [← HS.out, ssV, if_pos hd, if_pos hp])
          go_wp2_with (go_at_call 170; refine (closure_figureBelow _ _ _ _ _ _ (by omega) (by omega) (by omega) (by omega) hCr).mono ?_; rintro e w1 ⟨rfl, hb⟩; obtain ⟨hc, hf⟩ := bcell hb; (try simp only [World.size_drew, World.cell?_drew] at hc); (try simp only [World.size_drew, World.frozen?_drew] at hf); have hz := hb.size; (try simp at hz); (try (have hz0 : w.heap.size < w1.heap.size := by omega)); (try (have hz1 : w.heap.size + 1 < w1.heap.size := by omega)); (try (have hz2 : w.heap.size + 1 + 1 < w1.heap.size := by omega)); (try (have hz3 : w.heap.size + 1 + 1 + 1 < w1.heap.size := by omega)); (try (have r7 := Nat.lt_of_lt_of_le r5 (show _ ≤ w1.heap.size by omega))); (try (have r6 := Nat.lt_of_lt_of_le r4 (show _ ≤ w1.heap.size by omega))); (try (have r5 := Nat.lt_of_lt_of_le r3 (show _ ≤ w1.heap.size by omega))); (try (have r4 := Nat.lt_of_lt_of_le r2 (show _ ≤ w1.heap.size by omega))); (try (have r3 := Nat.lt_of_lt_of_le r1 (show _ ≤ w1.heap.size by omega))); (try (have r2 := Nat.lt_of_succ_le (Nat.le_of_succ_le hz))); (try (have r1 := Nat.lt_of_succ_le hz)); (try (have hg1 := Nat.lt_of_lt_of_le hg1 (show _ ≤ w1.heap.size by omega))); (try (have hg2 := Nat.lt_of_lt_of_le hg2 (show _ ≤ w1.heap.size by omega))); (try (have hg3 := Nat.lt_of_lt_of_le hg3 (show _ ≤ w1.heap.size by omega))); (try (first | have hK := S1.below hK hb | have hK := S1.below (S1.alloc hK _) hb | have hK := S1.below (S1.alloc (S1.alloc hK _) _) hb | have hK := S1.below (S1.drewN hK _) hb)); (try (first | have hK2 := S1.below hK2 hb | have hK2 := S1.below (S1.alloc hK2 _) hb | have hK2 := S1.below (S1.alloc (S1.alloc hK2 _) _) hb | have hK2 := S1.below (S1.drewN hK2 _) hb)); (try (first | have hK3 := S1.below hK3 hb | have hK3 := S1.below (S1.alloc hK3 _) hb | have hK3 := S1.below (S1.alloc (S1.alloc hK3 _) _) hb | have hK3 := S1.below (S1.drewN hK3 _) hb)); (try (first | have hK4 := S1.below hK4 hb | have hK4 := S1.below (S1.alloc hK4 _) hb | have hK4 := S1.below (S1.alloc (S1.alloc hK4 _) _) hb | have hK4 := S1.below (S1.drewN hK4 _) hb)))
          go_roundw
          case rel => exact ⟨k, i, (i + j) / 2, by omega, by omega, by omega, by omega, HX.out, rfl, rfl, (by repeat (first | (with_reducible exact Below.refl _ _) | (with_reducible assumption) | (with_reducible refine below_alloc ?_ _) | (with_reducible refine Below.setCell ?_ (by first | omega | (simp; done) | (simp; omega)) _) | (with_reducible refine below_drewN ?_ _) | (with_reducible refine Below.drew ?_) | (with_reducible refine below_tr ?_ (by assumption))))⟩
          case measure => simp [intOf]; omega
    · have HX := Lib.hid (show i = srV true u t by
        rw [← HS.out]
        cases k with
        | zero => rfl
        | succ k => rw [ssV, if_neg hd])
      go_wp2
      go_ret
      exact ⟨ret_int HX.out, hB⟩
set_option maxHeartbeats 1600000 in
theorem closure_figureAbove (i u t : Int) (gt gu : Nat) (w : World) (i0 : 0 ≤ i) (i1 : i ≤ 8999) (t0 : -100 ≤ t) (t1 : t ≤ 100) (hC : C2 gt gu t u w) :
    Calls Try.prog 171 #[.int .i64 i, .pointer (some ⟨gt, 0, none⟩), .pointer (some ⟨gu, 0, none⟩)] w fun e w' => e = .returned (.bool (hoV false u (1000 + i) t)) ∧ Below w.heap.size w w' := by
  have HR := Lib.hid (show (decide (u ≤ fgL (1000 + i) t)) = hoV false u (1000 + i) t from rfl)
  have hw : IntKind.i64.wrap (1000 + i) = 1000 + i := IntWalk.i64_in _ (by omega)
  go_enter Try.func171, Try.ntmps171
  go_wp2_with fail
  go_region_held3 (C2 gt gu t u) ((first | exact C2.drew (by assumption) | exact C2.below (by assumption) (by assumption) | (go_keep; done)))
    (first | (go_at_call 115; refine (flog_impl _ _ _ (by omega) (by omega) (by omega) (by omega)).mono ?_; rintro e w1 ⟨rfl, hb⟩; obtain ⟨hc, hf⟩ := bcell hb; (try simp only [World.size_drew, World.cell?_drew] at hc); (try simp only [World.size_drew, World.frozen?_drew] at hf); have hz := hb.size; (try simp at hz); (try (have hz0 : w.heap.size < w1.heap.size := by omega)); (try (have hz1 : w.heap.size + 1 < w1.heap.size := by omega)); (try (have hz2 : w.heap.size + 1 + 1 < w1.heap.size := by omega)); (try (have hz3 : w.heap.size + 1 + 1 + 1 < w1.heap.size := by omega)); (try (have r7 := Nat.lt_of_lt_of_le r5 (show _ ≤ w1.heap.size by omega))); (try (have r6 := Nat.lt_of_lt_of_le r4 (show _ ≤ w1.heap.size by omega))); (try (have r5 := Nat.lt_of_lt_of_le r3 (show _ ≤ w1.heap.size by omega))); (try (have r4 := Nat.lt_of_lt_of_le r2 (show _ ≤ w1.heap.size by omega))); (try (have r3 := Nat.lt_of_lt_of_le r1 (show _ ≤ w1.heap.size by omega))); (try (have r2 := Nat.lt_of_succ_le (Nat.le_of_succ_le hz))); (try (have r1 := Nat.lt_of_succ_le hz)); (try (have hg1 := Nat.lt_of_lt_of_le hg1 (show _ ≤ w1.heap.size by omega))); (try (have hg2 := Nat.lt_of_lt_of_le hg2 (show _ ≤ w1.heap.size by omega))); (try (have hg3 := Nat.lt_of_lt_of_le hg3 (show _ ≤ w1.heap.size by omega))); (try (first | have hK := S1.below hK hb | have hK := S1.below (S1.alloc hK _) hb | have hK := S1.below (S1.alloc (S1.alloc hK _) _) hb | have hK := S1.below (S1.drewN hK _) hb)); (try (first | have hK2 := S1.below hK2 hb | have hK2 := S1.below (S1.alloc hK2 _) hb | have hK2 := S1.below (S1.alloc (S1.alloc hK2 _) _) hb | have hK2 := S1.below (S1.drewN hK2 _) hb)); (try (first | have hK3 := S1.below hK3 hb | have hK3 := S1.below (S1.alloc hK3 _) hb | have hK3 := S1.below (S1.alloc (S1.alloc hK3 _) _) hb | have hK3 := S1.below (S1.drewN hK3 _) hb)); (try (first | have hK4 := S1.below hK4 hb | have hK4 := S1.below (S1.alloc hK4 _) hb | have hK4 := S1.below (S1.alloc (S1.alloc hK4 _) _) hb | have hK4 := S1.below (S1.drewN hK4 _) hb))))
  go_wp2
  go_ret
  exact ⟨ret_bool HR.out, (by repeat (first | (with_reducible exact Below.refl _ _) | (with_reducible assumption) | (with_reducible refine below_alloc ?_ _) | (with_reducible refine Below.setCell ?_ (by first | omega | (simp; done) | (simp; omega)) _) | (with_reducible refine below_drewN ?_ _) | (with_reducible refine Below.drew ?_) | (with_reducible refine below_tr ?_ (by assumption))))⟩
set_option maxHeartbeats 3200000 in
theorem search_above (u t : Int) (gt gu : Nat) (w : World) (t0 : -100 ≤ t) (t1 : t ≤ 100) (hC : C2 gt gu t u w) :
    Calls Try.prog 169 #[.int .i64 9000, .func (.func 171) #[] #[.pointer (some ⟨gt, 0, none⟩), .pointer (some ⟨gu, 0, none⟩)]] w fun e w' => e = .returned (.int .i64 (srV false u t)) ∧ Below w.heap.size w w' := by
  have HC := Lib.hid hC
  clear hC
  go_enter Try.func169, Try.ntmps169
  go_wp2_with fail
  go_loopw [5, 6] (fun x y wr => ∃ (k : Nat) (i j : Int), j - i < (2 : Int) ^ k ∧ 0 ≤ i ∧ i ≤ j ∧ j ≤ 9000 ∧ ssV false u t k i j = srV false u t ∧ x = .int .i64 i ∧ y = .int .i64 j ∧ Below w.heap.size w wr) (fun x y _ => (intOf y - intOf x).toNat)
  case atStart => exact ⟨14, 0, 9000, by decide, by omega, by omega, by omega, rfl, rfl, rfl, Below.refl _ _⟩
  case round =>
    obtain ⟨k, i, j, hk, i0, ij, j1, hs, rfl, rfl, hB⟩ := hrel
    have hCr := HC.out.below hB
    have HS := Lib.hid hs
    clear hs
    by_cases hd : i < j
    · cases k with
      | zero => simp at hk; omega
      | succ k =>
        rw [Int.pow_succ] at hk
        have h0 : 0 ≤ (i + j) / 2 := by omega
        have h1 : (i + j) / 2 < j := by omega
        cases hp : hoV false u (1000 + (i + j) / 2) t
        · have HX := Lib.hid (show ssV false u t k ((i + j) / 2 + 1) j = srV false u t by rw [← HS.out, ssV, if_pos hd, if_neg (by rw [hp]; decide)])
          go_wp2_with (go_at_call 171; refine (closure_figureAbove _ _ _ _ _ _ (by omega) (by omega) (by omega) (by omega) hCr).mono ?_; rintro e w1 ⟨rfl, hb⟩; obtain ⟨hc, hf⟩ := bcell hb; (try simp only [World.size_drew, World.cell?_drew] at hc); (try simp only [World.size_drew, World.frozen?_drew] at hf); have hz := hb.size; (try simp at hz); (try (have hz0 : w.heap.size < w1.heap.size := by omega)); (try (have hz1 : w.heap.size + 1 < w1.heap.size := by omega)); (try (have hz2 : w.heap.size + 1 + 1 < w1.heap.size := by omega)); (try (have hz3 : w.heap.size + 1 + 1 + 1 < w1.heap.size := by omega)); (try (have r7 := Nat.lt_of_lt_of_le r5 (show _ ≤ w1.heap.size by omega))); (try (have r6 := Nat.lt_of_lt_of_le r4 (show _ ≤ w1.heap.size by omega))); (try (have r5 := Nat.lt_of_lt_of_le r3 (show _ ≤ w1.heap.size by omega))); (try (have r4 := Nat.lt_of_lt_of_le r2 (show _ ≤ w1.heap.size by omega))); (try (have r3 := Nat.lt_of_lt_of_le r1 (show _ ≤ w1.heap.size by omega))); (try (have r2 := Nat.lt_of_succ_le (Nat.le_of_succ_le hz))); (try (have r1 := Nat.lt_of_succ_le hz)); (try (have hg1 := Nat.lt_of_lt_of_le hg1 (show _ ≤ w1.heap.size by omega))); (try (have hg2 := Nat.lt_of_lt_of_le hg2 (show _ ≤ w1.heap.size by omega))); (try (have hg3 := Nat.lt_of_lt_of_le hg3 (show _ ≤ w1.heap.size by omega))); (try (first | have hK := S1.below hK hb | have hK := S1.below (S1.alloc hK _) hb | have hK := S1.below (S1.alloc (S1.alloc hK _) _) hb | have hK := S1.below (S1.drewN hK _) hb)); (try (first | have hK2 := S1.below hK2 hb | have hK2 := S1.below (S1.alloc hK2 _) hb | have hK2 := S1.below (S1.alloc (S1.alloc hK2 _) _) hb | have hK2 := S1.below (S1.drewN hK2 _) hb)); (try (first | have hK3 := S1.below hK3 hb | have hK3 := S1.below (S1.alloc hK3 _) hb | have hK3 := S1.below (S1.alloc (S1.alloc hK3 _) _) hb | have hK3 := S1.below (S1.drewN hK3 _) hb)); (try (first | have hK4 := S1.below hK4 hb | have hK4 := S1.below (S1.alloc hK4 _) hb | have hK4 := S1.below (S1.alloc (S1.alloc hK4 _) _) hb | have hK4 := S1.below (S1.drewN hK4 _) hb)))
          go_roundw
          case rel => exact ⟨k, (i + j) / 2 + 1, j, by omega, by omega, by omega, by omega, HX.out, rfl, rfl, (by repeat (first | (with_reducible exact Below.refl _ _) | (with_reducible assumption) | (with_reducible refine below_alloc ?_ _) | (with_reducible refine Below.setCell ?_ (by first | omega | (simp; done) | (simp; omega)) _) | (with_reducible refine below_drewN ?_ _) | (with_reducible refine Below.drew ?_) | (with_reducible refine below_tr ?_ (by assumption))))⟩
          case measure => simp [intOf]; omega
        · have HX := Lib.hid (show ssV false u t k i ((i + j) / 2) = srV false u t by rw [← HS.out, ssV, if_pos hd, if_pos hp])
          go_wp2_with (go_at_call 171; refine (closure_figureAbove _ _ _ _ _ _ (by omega) (by omega) (by omega) (by omega) hCr).mono ?_; rintro e w1 ⟨rfl, hb⟩; obtain ⟨hc, hf⟩ := bcell hb; (try simp only [World.size_drew, World.cell?_drew] at hc); (try simp only [World.size_drew, World.frozen?_drew] at hf); have hz := hb.size; (try simp at hz); (try (have hz0 : w.heap.size < w1.heap.size := by omega)); (try (have hz1 : w.heap.size + 1 < w1.heap.size := by omega)); (try (have hz2 : w.heap.size + 1 + 1 < w1.heap.size := by omega)); (try (have hz3 : w.heap.size + 1 + 1 + 1 < w1.heap.size := by omega)); (try (have r7 := Nat.lt_of_lt_of_le r5 (show _ ≤ w1.heap.size by omega))); (try (have r6 := Nat.lt_of_lt_of_le r4 (show _ ≤ w1.heap.size by omega))); (try (have r5 := Nat.lt_of_lt_of_le r3 (show _ ≤ w1.heap.size by omega))); (try (have r4 := Nat.lt_of_lt_of_le r2 (show _ ≤ w1.heap.size by omega))); (try (have r3 := Nat.lt_of_lt_of_le r1 (show _ ≤ w1.heap.size by omega))); (try (have r2 := Nat.lt_of_succ_le (Nat.le_of_succ_le hz))); (try (have r1 := Nat.lt_of_succ_le hz)); (try (have hg1 := Nat.lt_of_lt_of_le hg1 (show _ ≤ w1.heap.size by omega))); (try (have hg2 := Nat.lt_of_lt_of_le hg2 (show _ ≤ w1.heap.size by omega))); (try (have hg3 := Nat.lt_of_lt_of_le hg3 (show _ ≤ w1.heap.size by omega))); (try (first | have hK := S1.below hK hb | have hK := S1.below (S1.alloc hK _) hb | have hK := S1.below (S1.alloc (S1.alloc hK _) _) hb | have hK := S1.below (S1.drewN hK _) hb)); (try (first | have hK2 := S1.below hK2 hb | have hK2 := S1.below (S1.alloc hK2 _) hb | have hK2 := S1.below (S1.alloc (S1.alloc hK2 _) _) hb | have hK2 := S1.below (S1.drewN hK2 _) hb)); (try (first | have hK3 := S1.below hK3 hb | have hK3 := S1.below (S1.alloc hK3 _) hb | have hK3 := S1.below (S1.alloc (S1.alloc hK3 _) _) hb | have hK3 := S1.below (S1.drewN hK3 _) hb)); (try (first | have hK4 := S1.below hK4 hb | have hK4 := S1.below (S1.alloc hK4 _) hb | have hK4 := S1.below (S1.alloc (S1.alloc hK4 _) _) hb | have hK4 := S1.below (S1.drewN hK4 _) hb)))
          go_roundw
          case rel => exact ⟨k, i, (i + j) / 2, by omega, by omega, by omega, by omega, HX.out, rfl, rfl, (by repeat (first | (with_reducible exact Below.refl _ _) | (with_reducible assumption) | (with_reducible refine below_alloc ?_ _) | (with_reducible refine Below.setCell ?_ (by first | omega | (simp; done) | (simp; omega)) _) | (with_reducible refine below_drewN ?_ _) | (with_reducible refine Below.drew ?_) | (with_reducible refine below_tr ?_ (by assumption))))⟩
          case measure => simp [intOf]; omega
    · have HX := Lib.hid (show i = srV false u t by
        rw [← HS.out]
        cases k with
        | zero => rfl
        | succ k => rw [ssV, if_neg hd])
      go_wp2
      go_ret
      exact ⟨ret_int HX.out, hB⟩
end Go.Proofs.Ythmmdcpodadjbaa.C
