/- Reading a number: the reference. -/
import Derived.Test.YtlijleemogpifaaDoorS6
namespace Go.Proofs.YtlijleemogpifaaDoor.C
open Go.RowKit Go.Proofs.YtlijleemogpifaaDoor.K
set_option linter.unusedVariables false
set_option linter.unusedSimpArgs false
attribute [local go_sem ↓] Go.wp_at_zero Go.wp_at_succ

/-- byte j -/
def byt (s : ByteArray) (j : Nat) : Nat := if h : j < s.size then s[j].toNat else 0
/-- the number that the first k digits are -/
def dgV (s : ByteArray) : Nat → Int
  | 0 => 0
  | k + 1 => 10 * dgV s k + ((byt s k : Int) - 48)
/-- the first k bytes are digits -/
def dgK (s : ByteArray) : Nat → Bool
  | 0 => true
  | k + 1 => dgK s k && (decide (48 ≤ byt s k) && decide (byt s k ≤ 57))
theorem dg_bounds (s : ByteArray) : ∀ k, dgK s k = true → 0 ≤ dgV s k ∧ dgV s k < 10 ^ k
  | 0, _ => by simp [dgV]
  | k + 1, h => by
    rw [dgK, Bool.and_eq_true, Bool.and_eq_true, decide_eq_true_eq, decide_eq_true_eq] at h
    obtain ⟨h1, h2, h3⟩ := h
    obtain ⟨a, b⟩ := dg_bounds s k h1
    rw [dgV, Int.pow_succ]
    omega
theorem dgK_lt {s : ByteArray} {j : Nat} : ∀ {k : Nat}, dgK s k = true → j < k → 48 ≤ byt s j ∧ byt s j ≤ 57
  | 0, _, h => by omega
  | k + 1, h, hj => by
    rw [dgK, Bool.and_eq_true, Bool.and_eq_true, decide_eq_true_eq, decide_eq_true_eq] at h
    rcases Nat.lt_succ_iff_lt_or_eq.1 hj with h' | rfl
    · exact dgK_lt h.1 h'
    · exact h.2
theorem dgK_false {s : ByteArray} {k n : Nat} (hk : k < n) (h : ¬ (48 ≤ byt s k ∧ byt s k ≤ 57)) : dgK s n = false := by
  cases hn : dgK s n
  · rfl
  · exact absurd (dgK_lt hn hk) h
/-- digits, at least one, at most thirteen -/
def vlD (s : ByteArray) : Bool := decide (1 ≤ s.size) && (decide (s.size ≤ 13) && dgK s s.size)
/-- the number read, and whether it is one -/
def vlV (s : ByteArray) : Int := if vlD s = true then dgV s s.size else 0
def vlK (s : ByteArray) : Bool := vlD s && ((decB (dgV s s.size).toNat).toList == s.toList)
set_option maxHeartbeats 1600000 in
theorem value_s (s : ByteArray) (w : World) : Calls Tryd.prog 72 #[.string s] w fun e w' => e = .returned (.tuple #[.int .i64 (vlV s), .bool (vlK s)]) ∧ Below w.heap.size w w' := by
  by_cases h0 : 1 ≤ s.size
  · by_cases h13 : s.size ≤ 13
    · have g0 : ¬ (s.size : Int) < 1 := by omega
      have g1 : ¬ (13 : Int) < s.size := by omega
      go_enter Tryd.func72, Tryd.ntmps72
      go_wp2_with fail
      go_loopw [4, 5] (fun x i wr => ∃ k : Nat, k ≤ s.size ∧ x = .int .i64 (dgV s k) ∧ i = .int .i64 k ∧ dgK s k = true ∧ w = wr) (fun _ i _ => s.size - (intOf i).toNat)
      case atStart => exact ⟨0, Nat.zero_le _, rfl, rfl, rfl, by trivial⟩
      case round =>
        obtain ⟨k, hk, rfl, rfl, hA, rfl⟩ := hrel
        obtain ⟨b0, b1⟩ := dg_bounds s k hA
        by_cases hkl : k < s.size
        · have hb : byt s k = s[k].toNat := dif_pos hkl
          have p10 : (10 : Int) ^ k ≤ 10 ^ 12 := (by decide : ∀ m, m ≤ 12 → (10 : Int) ^ m ≤ 10 ^ 12) k (by omega)
          by_cases hd : 48 ≤ byt s k ∧ byt s k ≤ 57
          · have c1 : ¬ (s[k].toNat : Int) < 48 := by omega
            have c2 : ¬ (57 : Int) < s[k].toNat := by omega
            go_wp2_with fail
            go_roundw
            case rel => exact ⟨k + 1, by omega, by rw [dgV, hb], by go_num, by rw [dgK, hA]; simp [hd.1, hd.2], by trivial⟩
            case measure => simp only [intOf]; omega
          · have hD : vlD s = false := by unfold vlD; rw [dgK_false hkl hd, Bool.and_false, Bool.and_false]
            have HE := Lib.hid (show (0 : Int) = vlV s by unfold vlV; rw [hD]; rfl)
            have HF := Lib.hid (show false = vlK s by unfold vlK; rw [hD]; rfl)
            clear hD
            by_cases c1 : (s[k].toNat : Int) < 48
            · go_wp2_with fail
              go_ret2
              exact ⟨by rw [← HE.out, ← HF.out]; rfl, (by repeat (first | (with_reducible exact Below.refl _ _) | (with_reducible assumption) | (with_reducible refine below_alloc ?_ _) | (with_reducible refine Below.setCell ?_ (by first | omega | (simp; done) | (simp; omega)) _) | (with_reducible refine below_drewN ?_ _) | (with_reducible refine Below.drew ?_) | (with_reducible refine below_tr ?_ (by assumption))))⟩
            · have c2 : (57 : Int) < s[k].toNat := by omega
              go_wp2_with fail
              go_ret2
              exact ⟨by rw [← HE.out, ← HF.out]; rfl, (by repeat (first | (with_reducible exact Below.refl _ _) | (with_reducible assumption) | (with_reducible refine below_alloc ?_ _) | (with_reducible refine Below.setCell ?_ (by first | omega | (simp; done) | (simp; omega)) _) | (with_reducible refine below_drewN ?_ _) | (with_reducible refine Below.drew ?_) | (with_reducible refine below_tr ?_ (by assumption))))⟩
        · obtain rfl : k = s.size := by omega
          have p13 : (10 : Int) ^ s.size ≤ 10 ^ 13 := (by decide : ∀ m, m ≤ 13 → (10 : Int) ^ m ≤ 10 ^ 13) _ h13
          have hD : vlD s = true := by unfold vlD; rw [hA, decide_eq_true h0, decide_eq_true h13]; rfl
          obtain ⟨m, hm⟩ : ∃ m : Nat, dgV s s.size = m := ⟨(dgV s s.size).toNat, by omega⟩
          have HE := Lib.hid (show (m : Int) = vlV s by unfold vlV; rw [hD, hm]; rfl)
          have HF := Lib.hid (show ((decB m).toList == s.toList) = vlK s by unfold vlK; rw [hD, hm, Bool.true_and]; rfl)
          clear hD
          have hm15 : m ≤ 1000000000000000 := by
            have : (10 : Int) ^ 13 = 10000000000000 := by decide
            omega
          clear b0 b1 p13
          rw [hm] at *
          go_wp2_with (go_at_call 45; refine (dec_s m _ hm15).mono ?_; rintro e w1 ⟨rfl, hb⟩; obtain ⟨hc, hf⟩ := bcell hb; (try simp only [World.size_drew, World.cell?_drew] at hc); (try simp only [World.size_drew, World.frozen?_drew] at hf); have hz := hb.size; (try simp at hz); (try (have hz0 : w.heap.size < w1.heap.size := by omega)); (try (have hz1 : w.heap.size + 1 < w1.heap.size := by omega)); (try (have hz2 : w.heap.size + 1 + 1 < w1.heap.size := by omega)); (try (have hz3 : w.heap.size + 1 + 1 + 1 < w1.heap.size := by omega)); (try (have r7 := Nat.lt_of_lt_of_le r5 (show _ ≤ w1.heap.size by omega))); (try (have r6 := Nat.lt_of_lt_of_le r4 (show _ ≤ w1.heap.size by omega))); (try (have r5 := Nat.lt_of_lt_of_le r3 (show _ ≤ w1.heap.size by omega))); (try (have r4 := Nat.lt_of_lt_of_le r2 (show _ ≤ w1.heap.size by omega))); (try (have r3 := Nat.lt_of_lt_of_le r1 (show _ ≤ w1.heap.size by omega))); (try (have r2 := Nat.lt_of_succ_le (Nat.le_of_succ_le hz))); (try (have r1 := Nat.lt_of_succ_le hz)); (try (have hg1 := Nat.lt_of_lt_of_le hg1 (show _ ≤ w1.heap.size by omega))); (try (have hg2 := Nat.lt_of_lt_of_le hg2 (show _ ≤ w1.heap.size by omega))); (try (have hg3 := Nat.lt_of_lt_of_le hg3 (show _ ≤ w1.heap.size by omega))); (try (first | have hK := S1.below hK hb | have hK := S1.below (S1.alloc hK _) hb | have hK := S1.below (S1.alloc (S1.alloc hK _) _) hb | have hK := S1.below (S1.drewN hK _) hb)); (try (first | have hK2 := S1.below hK2 hb | have hK2 := S1.below (S1.alloc hK2 _) hb | have hK2 := S1.below (S1.alloc (S1.alloc hK2 _) _) hb | have hK2 := S1.below (S1.drewN hK2 _) hb)); (try (first | have hK3 := S1.below hK3 hb | have hK3 := S1.below (S1.alloc hK3 _) hb | have hK3 := S1.below (S1.alloc (S1.alloc hK3 _) _) hb | have hK3 := S1.below (S1.drewN hK3 _) hb)); (try (first | have hK4 := S1.below hK4 hb | have hK4 := S1.below (S1.alloc hK4 _) hb | have hK4 := S1.below (S1.alloc (S1.alloc hK4 _) _) hb | have hK4 := S1.below (S1.drewN hK4 _) hb)))
          go_ret2
          exact ⟨by rw [← HE.out, ← HF.out]; rfl, (by repeat (first | (with_reducible exact Below.refl _ _) | (with_reducible assumption) | (with_reducible refine below_alloc ?_ _) | (with_reducible refine Below.setCell ?_ (by first | omega | (simp; done) | (simp; omega)) _) | (with_reducible refine below_drewN ?_ _) | (with_reducible refine Below.drew ?_) | (with_reducible refine below_tr ?_ (by assumption))))⟩
    · have hD : vlD s = false := by unfold vlD; rw [decide_eq_false h13]; simp
      have HE := Lib.hid (show (0 : Int) = vlV s by unfold vlV; rw [hD]; rfl)
      have HF := Lib.hid (show false = vlK s by unfold vlK; rw [hD]; rfl)
      clear hD
      have g0 : ¬ (s.size : Int) < 1 := by omega
      have g1 : (13 : Int) < s.size := by omega
      go_enter Tryd.func72, Tryd.ntmps72
      go_wp2_with fail
      go_ret2
      exact ⟨by rw [← HE.out, ← HF.out]; rfl, (by repeat (first | (with_reducible exact Below.refl _ _) | (with_reducible assumption) | (with_reducible refine below_alloc ?_ _) | (with_reducible refine Below.setCell ?_ (by first | omega | (simp; done) | (simp; omega)) _) | (with_reducible refine below_drewN ?_ _) | (with_reducible refine Below.drew ?_) | (with_reducible refine below_tr ?_ (by assumption))))⟩
  · have hD : vlD s = false := by unfold vlD; rw [decide_eq_false h0]; rfl
    have HE := Lib.hid (show (0 : Int) = vlV s by unfold vlV; rw [hD]; rfl)
    have HF := Lib.hid (show false = vlK s by unfold vlK; rw [hD]; rfl)
    clear hD
    have g0 : (s.size : Int) < 1 := by omega
    go_enter Tryd.func72, Tryd.ntmps72
    go_wp2_with fail
    go_ret2
    exact ⟨by rw [← HE.out, ← HF.out]; rfl, (by repeat (first | (with_reducible exact Below.refl _ _) | (with_reducible assumption) | (with_reducible refine below_alloc ?_ _) | (with_reducible refine Below.setCell ?_ (by first | omega | (simp; done) | (simp; omega)) _) | (with_reducible refine below_drewN ?_ _) | (with_reducible refine Below.drew ?_) | (with_reducible refine below_tr ?_ (by assumption))))⟩
/-- behind the sign -/
def tl1 (s : ByteArray) : ByteArray := s.extract 1 s.size
/-- a number with its sign: read, and whether it is one -/
def sgV (s : ByteArray) : Int := if 0 < s.size ∧ byt s 0 = 45 then -vlV (tl1 s) else vlV s
def sgK (s : ByteArray) : Bool := if 0 < s.size ∧ byt s 0 = 45 then vlK (tl1 s) && decide (0 < vlV (tl1 s)) else vlK s
set_option maxHeartbeats 1600000 in
theorem signed_s (s : ByteArray) (w : World) (hb : s.size ≤ 1048576) : Calls Tryd.prog 73 #[.string s] w fun e w' => e = .returned (.tuple #[.int .i64 (sgV s), .bool (sgK s)]) ∧ Below w.heap.size w w' := by
  by_cases h0 : 0 < s.size
  · have hb : byt s 0 = s[0].toNat := dif_pos h0
    have g0 : (0 : Int) < s.size := by omega
    by_cases hd : byt s 0 = 45
    · have c1 : ((s[0].toNat : Int) == 45) = true := beq_iff_eq.2 (by omega)
      have hv0 : -10000000000000 ≤ vlV (tl1 s) ∧ vlV (tl1 s) ≤ 10000000000000 := by
        unfold vlV
        split
        · rename_i h
          unfold vlD at h
          simp only [Bool.and_eq_true, decide_eq_true_eq] at h
          have := dg_bounds _ _ h.2.2
          have p13 : (10 : Int) ^ (tl1 s).size ≤ 10 ^ 13 := (by decide : ∀ m, m ≤ 13 → (10 : Int) ^ m ≤ 10 ^ 13) _ h.2.1
          have : (10 : Int) ^ 13 = 10000000000000 := by decide
          omega
        · omega
      have HE := Lib.hid (show -vlV (tl1 s) = sgV s by unfold sgV; rw [if_pos ⟨h0, hd⟩])
      have hF : (vlK (tl1 s) && decide (0 < vlV (tl1 s))) = sgK s := by unfold sgK; rw [if_pos ⟨h0, hd⟩]
      have HT : s.extract 1 s.size = tl1 s := rfl
      clear hd hb
      cases hk : vlK (tl1 s)
      · have HF := Lib.hid (show false = sgK s by rw [← hF, hk]; rfl)
        clear hF
        go_enter Tryd.func73, Tryd.ntmps73
        go_wp2_with (go_at_call 72; refine (value_s _ _).mono ?_; rintro e w1 ⟨rfl, hb⟩; obtain ⟨hc, hf⟩ := bcell hb; (try simp only [World.size_drew, World.cell?_drew] at hc); (try simp only [World.size_drew, World.frozen?_drew] at hf); have hz := hb.size; (try simp at hz); (try (have hz0 : w.heap.size < w1.heap.size := by omega)); (try (have hz1 : w.heap.size + 1 < w1.heap.size := by omega)); (try (have hz2 : w.heap.size + 1 + 1 < w1.heap.size := by omega)); (try (have hz3 : w.heap.size + 1 + 1 + 1 < w1.heap.size := by omega)); (try (have r7 := Nat.lt_of_lt_of_le r5 (show _ ≤ w1.heap.size by omega))); (try (have r6 := Nat.lt_of_lt_of_le r4 (show _ ≤ w1.heap.size by omega))); (try (have r5 := Nat.lt_of_lt_of_le r3 (show _ ≤ w1.heap.size by omega))); (try (have r4 := Nat.lt_of_lt_of_le r2 (show _ ≤ w1.heap.size by omega))); (try (have r3 := Nat.lt_of_lt_of_le r1 (show _ ≤ w1.heap.size by omega))); (try (have r2 := Nat.lt_of_succ_le (Nat.le_of_succ_le hz))); (try (have r1 := Nat.lt_of_succ_le hz)); (try (have hg1 := Nat.lt_of_lt_of_le hg1 (show _ ≤ w1.heap.size by omega))); (try (have hg2 := Nat.lt_of_lt_of_le hg2 (show _ ≤ w1.heap.size by omega))); (try (have hg3 := Nat.lt_of_lt_of_le hg3 (show _ ≤ w1.heap.size by omega))); (try (first | have hK := S1.below hK hb | have hK := S1.below (S1.alloc hK _) hb | have hK := S1.below (S1.alloc (S1.alloc hK _) _) hb | have hK := S1.below (S1.drewN hK _) hb)); (try (first | have hK2 := S1.below hK2 hb | have hK2 := S1.below (S1.alloc hK2 _) hb | have hK2 := S1.below (S1.alloc (S1.alloc hK2 _) _) hb | have hK2 := S1.below (S1.drewN hK2 _) hb)); (try (first | have hK3 := S1.below hK3 hb | have hK3 := S1.below (S1.alloc hK3 _) hb | have hK3 := S1.below (S1.alloc (S1.alloc hK3 _) _) hb | have hK3 := S1.below (S1.drewN hK3 _) hb)); (try (first | have hK4 := S1.below hK4 hb | have hK4 := S1.below (S1.alloc hK4 _) hb | have hK4 := S1.below (S1.alloc (S1.alloc hK4 _) _) hb | have hK4 := S1.below (S1.drewN hK4 _) hb)))
        go_ret2
        exact ⟨by rw [← HE.out, ← HF.out]; rfl, (by repeat (first | (with_reducible exact Below.refl _ _) | (with_reducible assumption) | (with_reducible refine below_alloc ?_ _) | (with_reducible refine Below.setCell ?_ (by first | omega | (simp; done) | (simp; omega)) _) | (with_reducible refine below_drewN ?_ _) | (with_reducible refine Below.drew ?_) | (with_reducible refine below_tr ?_ (by assumption))))⟩
      · have HF := Lib.hid (show decide (0 < vlV (tl1 s)) = sgK s by rw [← hF, hk]; rfl)
        clear hF
        go_enter Tryd.func73, Tryd.ntmps73
        go_wp2_with (go_at_call 72; refine (value_s _ _).mono ?_; rintro e w1 ⟨rfl, hb⟩; obtain ⟨hc, hf⟩ := bcell hb; (try simp only [World.size_drew, World.cell?_drew] at hc); (try simp only [World.size_drew, World.frozen?_drew] at hf); have hz := hb.size; (try simp at hz); (try (have hz0 : w.heap.size < w1.heap.size := by omega)); (try (have hz1 : w.heap.size + 1 < w1.heap.size := by omega)); (try (have hz2 : w.heap.size + 1 + 1 < w1.heap.size := by omega)); (try (have hz3 : w.heap.size + 1 + 1 + 1 < w1.heap.size := by omega)); (try (have r7 := Nat.lt_of_lt_of_le r5 (show _ ≤ w1.heap.size by omega))); (try (have r6 := Nat.lt_of_lt_of_le r4 (show _ ≤ w1.heap.size by omega))); (try (have r5 := Nat.lt_of_lt_of_le r3 (show _ ≤ w1.heap.size by omega))); (try (have r4 := Nat.lt_of_lt_of_le r2 (show _ ≤ w1.heap.size by omega))); (try (have r3 := Nat.lt_of_lt_of_le r1 (show _ ≤ w1.heap.size by omega))); (try (have r2 := Nat.lt_of_succ_le (Nat.le_of_succ_le hz))); (try (have r1 := Nat.lt_of_succ_le hz)); (try (have hg1 := Nat.lt_of_lt_of_le hg1 (show _ ≤ w1.heap.size by omega))); (try (have hg2 := Nat.lt_of_lt_of_le hg2 (show _ ≤ w1.heap.size by omega))); (try (have hg3 := Nat.lt_of_lt_of_le hg3 (show _ ≤ w1.heap.size by omega))); (try (first | have hK := S1.below hK hb | have hK := S1.below (S1.alloc hK _) hb | have hK := S1.below (S1.alloc (S1.alloc hK _) _) hb | have hK := S1.below (S1.drewN hK _) hb)); (try (first | have hK2 := S1.below hK2 hb | have hK2 := S1.below (S1.alloc hK2 _) hb | have hK2 := S1.below (S1.alloc (S1.alloc hK2 _) _) hb | have hK2 := S1.below (S1.drewN hK2 _) hb)); (try (first | have hK3 := S1.below hK3 hb | have hK3 := S1.below (S1.alloc hK3 _) hb | have hK3 := S1.below (S1.alloc (S1.alloc hK3 _) _) hb | have hK3 := S1.below (S1.drewN hK3 _) hb)); (try (first | have hK4 := S1.below hK4 hb | have hK4 := S1.below (S1.alloc hK4 _) hb | have hK4 := S1.below (S1.alloc (S1.alloc hK4 _) _) hb | have hK4 := S1.below (S1.drewN hK4 _) hb)))
        go_ret2
        exact ⟨by rw [← HE.out, ← HF.out]; rfl, (by repeat (first | (with_reducible exact Below.refl _ _) | (with_reducible assumption) | (with_reducible refine below_alloc ?_ _) | (with_reducible refine Below.setCell ?_ (by first | omega | (simp; done) | (simp; omega)) _) | (with_reducible refine below_drewN ?_ _) | (with_reducible refine Below.drew ?_) | (with_reducible refine below_tr ?_ (by assumption))))⟩
    · have HE := Lib.hid (show vlV s = sgV s by unfold sgV; rw [if_neg (fun h => hd h.2)])
      have HF := Lib.hid (show vlK s = sgK s by unfold sgK; rw [if_neg (fun h => hd h.2)])
      have c1 : ((s[0].toNat : Int) == 45) = false := beq_eq_false_iff_ne.2 (by omega)
      clear hd hb
      go_enter Tryd.func73, Tryd.ntmps73
      go_wp2_with (go_at_call 72; refine (value_s _ _).mono ?_; rintro e w1 ⟨rfl, hb⟩; obtain ⟨hc, hf⟩ := bcell hb; (try simp only [World.size_drew, World.cell?_drew] at hc); (try simp only [World.size_drew, World.frozen?_drew] at hf); have hz := hb.size; (try simp at hz); (try (have hz0 : w.heap.size < w1.heap.size := by omega)); (try (have hz1 : w.heap.size + 1 < w1.heap.size := by omega)); (try (have hz2 : w.heap.size + 1 + 1 < w1.heap.size := by omega)); (try (have hz3 : w.heap.size + 1 + 1 + 1 < w1.heap.size := by omega)); (try (have r7 := Nat.lt_of_lt_of_le r5 (show _ ≤ w1.heap.size by omega))); (try (have r6 := Nat.lt_of_lt_of_le r4 (show _ ≤ w1.heap.size by omega))); (try (have r5 := Nat.lt_of_lt_of_le r3 (show _ ≤ w1.heap.size by omega))); (try (have r4 := Nat.lt_of_lt_of_le r2 (show _ ≤ w1.heap.size by omega))); (try (have r3 := Nat.lt_of_lt_of_le r1 (show _ ≤ w1.heap.size by omega))); (try (have r2 := Nat.lt_of_succ_le (Nat.le_of_succ_le hz))); (try (have r1 := Nat.lt_of_succ_le hz)); (try (have hg1 := Nat.lt_of_lt_of_le hg1 (show _ ≤ w1.heap.size by omega))); (try (have hg2 := Nat.lt_of_lt_of_le hg2 (show _ ≤ w1.heap.size by omega))); (try (have hg3 := Nat.lt_of_lt_of_le hg3 (show _ ≤ w1.heap.size by omega))); (try (first | have hK := S1.below hK hb | have hK := S1.below (S1.alloc hK _) hb | have hK := S1.below (S1.alloc (S1.alloc hK _) _) hb | have hK := S1.below (S1.drewN hK _) hb)); (try (first | have hK2 := S1.below hK2 hb | have hK2 := S1.below (S1.alloc hK2 _) hb | have hK2 := S1.below (S1.alloc (S1.alloc hK2 _) _) hb | have hK2 := S1.below (S1.drewN hK2 _) hb)); (try (first | have hK3 := S1.below hK3 hb | have hK3 := S1.below (S1.alloc hK3 _) hb | have hK3 := S1.below (S1.alloc (S1.alloc hK3 _) _) hb | have hK3 := S1.below (S1.drewN hK3 _) hb)); (try (first | have hK4 := S1.below hK4 hb | have hK4 := S1.below (S1.alloc hK4 _) hb | have hK4 := S1.below (S1.alloc (S1.alloc hK4 _) _) hb | have hK4 := S1.below (S1.drewN hK4 _) hb)))
      go_ret2
      exact ⟨by rw [← HE.out, ← HF.out]; rfl, (by repeat (first | (with_reducible exact Below.refl _ _) | (with_reducible assumption) | (with_reducible refine below_alloc ?_ _) | (with_reducible refine Below.setCell ?_ (by first | omega | (simp; done) | (simp; omega)) _) | (with_reducible refine below_drewN ?_ _) | (with_reducible refine Below.drew ?_) | (with_reducible refine below_tr ?_ (by assumption))))⟩
  · have HE := Lib.hid (show vlV s = sgV s by unfold sgV; rw [if_neg (fun h => h0 h.1)])
    have HF := Lib.hid (show vlK s = sgK s by unfold sgK; rw [if_neg (fun h => h0 h.1)])
    have g0 : ¬ (0 : Int) < s.size := by omega
    go_enter Tryd.func73, Tryd.ntmps73
    go_wp2_with (go_at_call 72; refine (value_s _ _).mono ?_; rintro e w1 ⟨rfl, hb⟩; obtain ⟨hc, hf⟩ := bcell hb; (try simp only [World.size_drew, World.cell?_drew] at hc); (try simp only [World.size_drew, World.frozen?_drew] at hf); have hz := hb.size; (try simp at hz); (try (have hz0 : w.heap.size < w1.heap.size := by omega)); (try (have hz1 : w.heap.size + 1 < w1.heap.size := by omega)); (try (have hz2 : w.heap.size + 1 + 1 < w1.heap.size := by omega)); (try (have hz3 : w.heap.size + 1 + 1 + 1 < w1.heap.size := by omega)); (try (have r7 := Nat.lt_of_lt_of_le r5 (show _ ≤ w1.heap.size by omega))); (try (have r6 := Nat.lt_of_lt_of_le r4 (show _ ≤ w1.heap.size by omega))); (try (have r5 := Nat.lt_of_lt_of_le r3 (show _ ≤ w1.heap.size by omega))); (try (have r4 := Nat.lt_of_lt_of_le r2 (show _ ≤ w1.heap.size by omega))); (try (have r3 := Nat.lt_of_lt_of_le r1 (show _ ≤ w1.heap.size by omega))); (try (have r2 := Nat.lt_of_succ_le (Nat.le_of_succ_le hz))); (try (have r1 := Nat.lt_of_succ_le hz)); (try (have hg1 := Nat.lt_of_lt_of_le hg1 (show _ ≤ w1.heap.size by omega))); (try (have hg2 := Nat.lt_of_lt_of_le hg2 (show _ ≤ w1.heap.size by omega))); (try (have hg3 := Nat.lt_of_lt_of_le hg3 (show _ ≤ w1.heap.size by omega))); (try (first | have hK := S1.below hK hb | have hK := S1.below (S1.alloc hK _) hb | have hK := S1.below (S1.alloc (S1.alloc hK _) _) hb | have hK := S1.below (S1.drewN hK _) hb)); (try (first | have hK2 := S1.below hK2 hb | have hK2 := S1.below (S1.alloc hK2 _) hb | have hK2 := S1.below (S1.alloc (S1.alloc hK2 _) _) hb | have hK2 := S1.below (S1.drewN hK2 _) hb)); (try (first | have hK3 := S1.below hK3 hb | have hK3 := S1.below (S1.alloc hK3 _) hb | have hK3 := S1.below (S1.alloc (S1.alloc hK3 _) _) hb | have hK3 := S1.below (S1.drewN hK3 _) hb)); (try (first | have hK4 := S1.below hK4 hb | have hK4 := S1.below (S1.alloc hK4 _) hb | have hK4 := S1.below (S1.alloc (S1.alloc hK4 _) _) hb | have hK4 := S1.below (S1.drewN hK4 _) hb)))
    go_ret2
    exact ⟨by rw [← HE.out, ← HF.out]; rfl, (by repeat (first | (with_reducible exact Below.refl _ _) | (with_reducible assumption) | (with_reducible refine below_alloc ?_ _) | (with_reducible refine Below.setCell ?_ (by first | omega | (simp; done) | (simp; omega)) _) | (with_reducible refine below_drewN ?_ _) | (with_reducible refine Below.drew ?_) | (with_reducible refine below_tr ?_ (by assumption))))⟩
end Go.Proofs.YtlijleemogpifaaDoor.C
