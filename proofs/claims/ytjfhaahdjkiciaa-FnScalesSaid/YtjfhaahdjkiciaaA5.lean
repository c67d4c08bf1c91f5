/- Contracts of chapter 5: scales, their names and decades. -/
import Derived.Test.YtjfhaahdjkiciaaA1
import Derived.Test.YtjfhaahdjkiciaaU
namespace Go.Proofs.Ytjfhaahdjkiciaa.C
open Go.RowKit Go.Proofs.Ytjfhaahdjkiciaa.K
set_option linter.unusedVariables false

theorem scale_cases {a : Int} (h : inB a 0 5 = true) : a = 0 ∨ a = 1 ∨ a = 2 ∨ a = 3 ∨ a = 4 ∨ a = 5 := by
  have := inB_true.1 h; omega
/-- the decades of a scale -/
def dcV (s : Int) : Int := if s = 1 then 2 else if s = 2 then 3 else 1
def dvV (s : Int) : Int := if inB s 0 5 then dcV s else 0
def riV (s : Int) : Bool := inB s 0 5 && s != 3
set_option maxHeartbeats 400000 in
theorem IsScale_spec (a : Int) (w : World) : Calls Try.prog 54 #[.int .i64 a] w fun e w' => e = .returned (.bool (inB a 0 5)) ∧ w = w' := by
  go_enter Try.func54, Try.ntmps54
  go_wp2_with (go_at_call 87; refine (in_s _ _ _ _).mono ?_; rintro e w' ⟨rfl, rfl⟩)
  go_ret
  exact ⟨rfl, rfl⟩
set_option maxHeartbeats 400000 in
theorem IsRising_spec (a : Int) (w : World) : Calls Try.prog 50 #[.int .i64 a] w fun e w' => e = .returned (.tuple #[.bool (riV a), .int .i64 (rgV (inB a 0 5))]) ∧ w = w' := by
  cases ha : inB a 0 5
  · have HR := Lib.hid (show false = riV a by simp [riV, ha])
    go_enter Try.func50, Try.ntmps50
    go_wp2_with (go_at_call 54; refine (IsScale_spec _ _).mono ?_; rintro e w' ⟨rfl, rfl⟩)
    go_ret2
    exact ⟨by rw [← HR.out]; rfl, rfl⟩
  · have HR := Lib.hid (show (a != 3) = riV a by simp [riV, ha])
    go_enter Try.func50, Try.ntmps50
    go_wp2_with (go_at_call 54; refine (IsScale_spec _ _).mono ?_; rintro e w' ⟨rfl, rfl⟩)
    go_ret2
    exact ⟨by rw [← HR.out]; rfl, rfl⟩
set_option maxHeartbeats 400000 in
theorem IsScale_impl (a : Int) (w : World) : Calls Try.prog 53 #[.int .i64 a] w fun e w' => e = .returned (.bool (inB a 0 5)) ∧ w = w' := by
  go_enter Try.func53, Try.ntmps53
  go_wp2_with (go_at_call 85; refine (in_i _ _ _ _).mono ?_; rintro e w' ⟨rfl, rfl⟩)
  go_ret
  exact ⟨rfl, rfl⟩
set_option maxHeartbeats 400000 in
theorem IsRising_impl (a : Int) (w : World) : Calls Try.prog 49 #[.int .i64 a] w fun e w' => e = .returned (.tuple #[.bool (riV a), .int .i64 (rgV (inB a 0 5))]) ∧ w = w' := by
  cases ha : inB a 0 5
  · have HR := Lib.hid (show false = riV a by simp [riV, ha])
    go_enter Try.func49, Try.ntmps49
    go_wp2_with (go_at_call 53; refine (IsScale_impl _ _).mono ?_; rintro e w' ⟨rfl, rfl⟩)
    go_ret2
    exact ⟨by rw [← HR.out]; rfl, rfl⟩
  · have HR := Lib.hid (show (a != 3) = riV a by simp [riV, ha])
    go_enter Try.func49, Try.ntmps49
    go_wp2_with (go_at_call 53; refine (IsScale_impl _ _).mono ?_; rintro e w' ⟨rfl, rfl⟩)
    go_ret2
    exact ⟨by rw [← HR.out]; rfl, rfl⟩
set_option maxHeartbeats 800000 in
theorem decades_spec (a : Int) (w : World) (ha : inB a 0 5 = true) : Calls Try.prog 112 #[.int .i64 a] w fun e w' => e = .returned (.int .i64 (dcV a)) ∧ Below w.heap.size w w' := by
  rcases scale_cases ha with rfl | rfl | rfl | rfl | rfl | rfl
  all_goals
    clear ha
    go_enter Try.func112, Try.ntmps112
    go_wp2
    go_ret
    exact ⟨rfl, (by repeat (first | (with_reducible exact Below.refl _ _) | (with_reducible assumption) | (with_reducible refine below_alloc ?_ _) | (with_reducible refine Below.setCell ?_ (by first | omega | (simp; done) | (simp; omega)) _) | (with_reducible refine below_drewN ?_ _) | (with_reducible refine Below.drew ?_) | (with_reducible refine below_tr ?_ (by assumption))))⟩
set_option maxHeartbeats 400000 in
theorem DecadesOf_spec (a : Int) (w : World) : Calls Try.prog 52 #[.int .i64 a] w fun e w' => e = .returned (.tuple #[.int .i64 (dvV a), .int .i64 (rgV (inB a 0 5))]) ∧ Below w.heap.size w w' := by
  cases ha : inB a 0 5
  · have HR := Lib.hid (show 0 = dvV a by simp [dvV, ha])
    go_enter Try.func52, Try.ntmps52
    go_wp2_with (go_at_call 54; refine (IsScale_spec _ _).mono ?_; rintro e w' ⟨rfl, rfl⟩)
    go_ret2
    exact ⟨ret_two HR.out rfl, (by repeat (first | (with_reducible exact Below.refl _ _) | (with_reducible assumption) | (with_reducible refine below_alloc ?_ _) | (with_reducible refine Below.setCell ?_ (by first | omega | (simp; done) | (simp; omega)) _) | (with_reducible refine below_drewN ?_ _) | (with_reducible refine Below.drew ?_) | (with_reducible refine below_tr ?_ (by assumption))))⟩
  · have HR := Lib.hid (show dcV a = dvV a by simp [dvV, ha])
    go_enter Try.func52, Try.ntmps52
    go_wp2_with (first | (go_at_call 54; refine (IsScale_spec _ _).mono ?_; rintro e w' ⟨rfl, rfl⟩) | (go_at_call 112; refine (decades_spec _ _ ha).mono ?_; rintro e w1 ⟨rfl, hb⟩; obtain ⟨hc, hf⟩ := bcell hb; (try simp only [World.size_drew, World.cell?_drew] at hc); (try simp only [World.size_drew, World.frozen?_drew] at hf); have hz := hb.size; (try simp at hz); (try (have hz0 : w.heap.size < w1.heap.size := by omega)); (try (have hz1 : w.heap.size + 1 < w1.heap.size := by omega)); (try (have hz2 : w.heap.size + 1 + 1 < w1.heap.size := by omega)); (try (have hz3 : w.heap.size + 1 + 1 + 1 < w1.heap.size := by omega)); (try (have r7 := Nat.lt_of_lt_of_le r5 (show _ ≤ w1.heap.size by omega))); (try (have r6 := Nat.lt_of_lt_of_le r4 (show _ ≤ w1.heap.size by omega))); (try (have r5 := Nat.lt_of_lt_of_le r3 (show _ ≤ w1.heap.size by omega))); (try (have r4 := Nat.lt_of_lt_of_le r2 (show _ ≤ w1.heap.size by omega))); (try (have r3 := Nat.lt_of_lt_of_le r1 (show _ ≤ w1.heap.size by omega))); (try (have r2 := Nat.lt_of_succ_le (Nat.le_of_succ_le hz))); (try (have r1 := Nat.lt_of_succ_le hz)); (try (have hg1 := Nat.lt_of_lt_of_le hg1 (show _ ≤ w1.heap.size by omega))); (try (have hg2 := Nat.lt_of_lt_of_le hg2 (show _ ≤ w1.heap.size by omega))); (try (have hg3 := Nat.lt_of_lt_of_le hg3 (show _ ≤ w1.heap.size by omega))); (try (first | have hK := S1.below hK hb | have hK := S1.below (S1.alloc hK _) hb | have hK := S1.below (S1.alloc (S1.alloc hK _) _) hb | have hK := S1.below (S1.drewN hK _) hb)); (try (first | have hK2 := S1.below hK2 hb | have hK2 := S1.below (S1.alloc hK2 _) hb | have hK2 := S1.below (S1.alloc (S1.alloc hK2 _) _) hb | have hK2 := S1.below (S1.drewN hK2 _) hb)); (try (first | have hK3 := S1.below hK3 hb | have hK3 := S1.below (S1.alloc hK3 _) hb | have hK3 := S1.below (S1.alloc (S1.alloc hK3 _) _) hb | have hK3 := S1.below (S1.drewN hK3 _) hb)); (try (first | have hK4 := S1.below hK4 hb | have hK4 := S1.below (S1.alloc hK4 _) hb | have hK4 := S1.below (S1.alloc (S1.alloc hK4 _) _) hb | have hK4 := S1.below (S1.drewN hK4 _) hb))))
    go_ret2
    exact ⟨ret_two HR.out rfl, (by repeat (first | (with_reducible exact Below.refl _ _) | (with_reducible assumption) | (with_reducible refine below_alloc ?_ _) | (with_reducible refine Below.setCell ?_ (by first | omega | (simp; done) | (simp; omega)) _) | (with_reducible refine below_drewN ?_ _) | (with_reducible refine Below.drew ?_) | (with_reducible refine below_tr ?_ (by assumption))))⟩
set_option maxHeartbeats 800000 in
theorem decades_impl (a : Int) (w : World) (ha : inB a 0 5 = true) : Calls Try.prog 111 #[.int .i64 a] w fun e w' => e = .returned (.int .i64 (dcV a)) ∧ Below w.heap.size w w' := by
  rcases scale_cases ha with rfl | rfl | rfl | rfl | rfl | rfl
  all_goals
    clear ha
    go_enter Try.func111, Try.ntmps111
    go_wp2
    go_ret
    exact ⟨rfl, (by repeat (first | (with_reducible exact Below.refl _ _) | (with_reducible assumption) | (with_reducible refine below_alloc ?_ _) | (with_reducible refine Below.setCell ?_ (by first | omega | (simp; done) | (simp; omega)) _) | (with_reducible refine below_drewN ?_ _) | (with_reducible refine Below.drew ?_) | (with_reducible refine below_tr ?_ (by assumption))))⟩
set_option maxHeartbeats 400000 in
theorem DecadesOf_impl (a : Int) (w : World) : Calls Try.prog 51 #[.int .i64 a] w fun e w' => e = .returned (.tuple #[.int .i64 (dvV a), .int .i64 (rgV (inB a 0 5))]) ∧ Below w.heap.size w w' := by
  cases ha : inB a 0 5
  · have HR := Lib.hid (show 0 = dvV a by simp [dvV, ha])
    go_enter Try.func51, Try.ntmps51
    go_wp2_with (go_at_call 53; refine (IsScale_impl _ _).mono ?_; rintro e w' ⟨rfl, rfl⟩)
    go_ret2
    exact ⟨ret_two HR.out rfl, (by repeat (first | (with_reducible exact Below.refl _ _) | (with_reducible assumption) | (with_reducible refine below_alloc ?_ _) | (with_reducible refine Below.setCell ?_ (by first | omega | (simp; done) | (simp; omega)) _) | (with_reducible refine below_drewN ?_ _) | (with_reducible refine Below.drew ?_) | (with_reducible refine below_tr ?_ (by assumption))))⟩
  · have HR := Lib.hid (show dcV a = dvV a by simp [dvV, ha])
    go_enter Try.func51, Try.ntmps51
    go_wp2_with (first | (go_at_call 53; refine (IsScale_impl _ _).mono ?_; rintro e w' ⟨rfl, rfl⟩) | (go_at_call 111; refine (decades_impl _ _ ha).mono ?_; rintro e w1 ⟨rfl, hb⟩; obtain ⟨hc, hf⟩ := bcell hb; (try simp only [World.size_drew, World.cell?_drew] at hc); (try simp only [World.size_drew, World.frozen?_drew] at hf); have hz := hb.size; (try simp at hz); (try (have hz0 : w.heap.size < w1.heap.size := by omega)); (try (have hz1 : w.heap.size + 1 < w1.heap.size := by omega)); (try (have hz2 : w.heap.size + 1 + 1 < w1.heap.size := by omega)); (try (have hz3 : w.heap.size + 1 + 1 + 1 < w1.heap.size := by omega)); (try (have r7 := Nat.lt_of_lt_of_le r5 (show _ ≤ w1.heap.size by omega))); (try (have r6 := Nat.lt_of_lt_of_le r4 (show _ ≤ w1.heap.size by omega))); (try (have r5 := Nat.lt_of_lt_of_le r3 (show _ ≤ w1.heap.size by omega))); (try (have r4 := Nat.lt_of_lt_of_le r2 (show _ ≤ w1.heap.size by omega))); (try (have r3 := Nat.lt_of_lt_of_le r1 (show _ ≤ w1.heap.size by omega))); (try (have r2 := Nat.lt_of_succ_le (Nat.le_of_succ_le hz))); (try (have r1 := Nat.lt_of_succ_le hz)); (try (have hg1 := Nat.lt_of_lt_of_le hg1 (show _ ≤ w1.heap.size by omega))); (try (have hg2 := Nat.lt_of_lt_of_le hg2 (show _ ≤ w1.heap.size by omega))); (try (have hg3 := Nat.lt_of_lt_of_le hg3 (show _ ≤ w1.heap.size by omega))); (try (first | have hK := S1.below hK hb | have hK := S1.below (S1.alloc hK _) hb | have hK := S1.below (S1.alloc (S1.alloc hK _) _) hb | have hK := S1.below (S1.drewN hK _) hb)); (try (first | have hK2 := S1.below hK2 hb | have hK2 := S1.below (S1.alloc hK2 _) hb | have hK2 := S1.below (S1.alloc (S1.alloc hK2 _) _) hb | have hK2 := S1.below (S1.drewN hK2 _) hb)); (try (first | have hK3 := S1.below hK3 hb | have hK3 := S1.below (S1.alloc hK3 _) hb | have hK3 := S1.below (S1.alloc (S1.alloc hK3 _) _) hb | have hK3 := S1.below (S1.drewN hK3 _) hb)); (try (first | have hK4 := S1.below hK4 hb | have hK4 := S1.below (S1.alloc hK4 _) hb | have hK4 := S1.below (S1.alloc (S1.alloc hK4 _) _) hb | have hK4 := S1.below (S1.drewN hK4 _) hb))))
    go_ret2
    exact ⟨ret_two HR.out rfl, (by repeat (first | (with_reducible exact Below.refl _ _) | (with_reducible assumption) | (with_reducible refine below_alloc ?_ _) | (with_reducible refine Below.setCell ?_ (by first | omega | (simp; done) | (simp; omega)) _) | (with_reducible refine below_drewN ?_ _) | (with_reducible refine Below.drew ?_) | (with_reducible refine below_tr ?_ (by assumption))))⟩
/-- the name of a scale -/
def snV (s : Int) : ByteArray := if s = 0 then ⟨#[67]⟩ else if s = 1 then ⟨#[65]⟩ else if s = 2 then ⟨#[75]⟩ else if s = 3 then ⟨#[67, 73]⟩ else if s = 4 then ⟨#[67, 70]⟩ else if s = 5 then ⟨#[76]⟩ else ⟨#[]⟩
theorem snV_out {s : Int} (h : inB s 0 5 = false) : snV s = ⟨#[]⟩ := by
  have := inB_false.1 h
  unfold snV
  rw [if_neg (by omega), if_neg (by omega), if_neg (by omega), if_neg (by omega), if_neg (by omega), if_neg (by omega)]
theorem ret_name {a b : ByteArray} {c d : Int} (h : a = b) (k : c = d) : Ending.returned (.tuple #[.string a, .int .i64 c]) = .returned (.tuple #[.string b, .int .i64 d]) := by rw [h, k]
end Go.Proofs.Ytjfhaahdjkiciaa.C
