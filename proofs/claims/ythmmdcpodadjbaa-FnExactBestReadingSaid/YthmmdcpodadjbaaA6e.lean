/- The reading nearest to a point: the program. -/
import Derived.Test.YthmmdcpodadjbaaA6d
namespace Go.Proofs.Ythmmdcpodadjbaa.C
open Go.RowKit Go.Proofs.Ythmmdcpodadjbaa.K
set_option linter.unusedVariables false
set_option linter.unusedSimpArgs false
attribute [local go_sem ↓] Go.wp_at_zero Go.wp_at_succ
attribute [local go_sem] field0 field1

set_option maxHeartbeats 800000 in
theorem distance_i (a b : Int) (w : World) (a0 : -2000000000000 ≤ a) (a1 : a ≤ 2000000000000) (b0 : -2000000000000 ≤ b) (b1 : b ≤ 2000000000000) : Calls Try.prog 145 #[.int .i64 a, .int .i64 b] w fun e w' => e = .returned (.int .i64 ((a - b).natAbs : Int)) ∧ w = w' := by
  by_cases h : a - b < b - a
  · have HR := Lib.hid (show b - a = ((a - b).natAbs : Int) by omega)
    go_enter Try.func145, Try.ntmps145
    go_wp2
    go_ret
    exact ⟨ret_int HR.out, rfl⟩
  · have HR := Lib.hid (show a - b = ((a - b).natAbs : Int) by omega)
    go_enter Try.func145, Try.ntmps145
    go_wp2
    go_ret
    exact ⟨ret_int HR.out, rfl⟩
/-- the best figure of the first k -/
def bfD (s l p : Int) (k : Nat) : Int := if k = 0 then 0 else rnD (beR s l p k).1
def bfT (s l p : Int) (k : Nat) : Int := if k = 0 then 0 else rnT (beR s l p k).1
theorem bf_new {s l p : Int} {k : Nat} (h : beR s l p (k + 1) = ((k : Int), awV s l p k)) : bfD s l p (k + 1) = rnD k ∧ bfT s l p (k + 1) = rnT k := by
  unfold bfD bfT; rw [if_neg (by omega), if_neg (by omega), h]; exact ⟨rfl, rfl⟩
theorem bf_old {s l p : Int} {k : Nat} (h : beR s l p (k + 1) = beR s l p k) (h0 : k ≠ 0) : bfD s l p (k + 1) = bfD s l p k ∧ bfT s l p (k + 1) = bfT s l p k := by
  unfold bfD bfT; rw [if_neg (show ¬ k + 1 = 0 by omega), if_neg (show ¬ k + 1 = 0 by omega), if_neg h0, if_neg h0, h]; exact ⟨rfl, rfl⟩
theorem mk1 (w : World) (o : Obj) (a b : Int) (t : TypeId) : Two ((w.alloc o).alloc (.cells #[.int .i64 a, .int .i64 b] t)) (w.heap.size + 1) a b := by
  have h := Two.mk0 (w.alloc o) a b t
  rw [show (w.alloc o).heap.size = w.heap.size + 1 by simp] at h
  exact h
theorem Fg.set {g N x o : Nat} {v : Value} {w : World} (h : Fg g N w) (hx : x ≠ g) : Fg g N (w.setCell ⟨x, o, none⟩ v) :=
  ⟨by simpa using h.1, fun j hj => ⟨by rw [World.cell?_setCell_far _ _ _ _ hx, (h.2 j hj).1], by rw [World.cell?_setCell_far _ _ _ _ hx, (h.2 j hj).2]⟩⟩
set_option maxRecDepth 20000 in
set_option maxHeartbeats 12800000 in
theorem best_i (s l p : Int) (w : World) (hs : inB s 0 5 = true) (l0 : 1 ≤ l) (l1 : l ≤ 100000) (p0 : 0 ≤ p) (p1 : p ≤ l) :
    Calls Try.prog 81 #[.int .i64 s, .int .i64 l, .int .i64 p] w fun x w' => x = .returned (.agg #[.int .i64 (rnD (beN s l p)), .int .i64 (rnT (beN s l p))]) ∧ Below w.heap.size w w' := by
  obtain ⟨_, q1, q2⟩ := nfS_eq s
  have HN : Hid (bfD s l p (nfS s) = rnD (beN s l p) ∧ bfT s l p (nfS s) = rnT (beN s l p)) := Lib.hid (by unfold bfD bfT beN; rw [if_neg (by omega), if_neg (by omega)]; exact ⟨rfl, rfl⟩)
  obtain ⟨N, hN⟩ : ∃ N, nfS s = N := ⟨_, rfl⟩
  rw [hN] at q1 q2 HN
  go_enter Try.func81, Try.ntmps81
  go_wp2_with (go_at_call 142; refine (figuresOf_i _ _ hs).mono ?_; rw [hN]; rintro x w1 ⟨g, cap, rfl, hg0, hg1, hcs, hb⟩)
  have hF0 : Fg g N w1 := ⟨hg1, hcs⟩
  have hT0 : Two w1 w.heap.size 0 0 := Two.go (Two.alloc (Two.mk0 _ _ _ _) _) hb
  have hU0 : Two w1 (w.heap.size + 1) 0 0 := Two.go (mk1 _ _ _ _ _) hb
  have hgw : w.heap.size + 1 < g := by simp at hg0; omega
  have hbel0 : Below w.heap.size w w1 := below_tr (below_alloc (below_alloc (Below.refl _ _) _) _) hb
  clear hcs hb hg0 hg1
  go_loopw [8, 17] (fun x1 x2 wr => ∃ (k : Nat), k ≤ N ∧ x1 = .int .i64 (beR s l p k).2 ∧ x2 = .int .i64 k ∧ Two wr w.heap.size 0 0 ∧ Two wr (w.heap.size + 1) (bfD s l p k) (bfT s l p k) ∧ Fg g N wr ∧ Below w.heap.size w wr) (fun _ x _ => N - (intOf x).toNat)
  case atStart => exact ⟨0, Nat.zero_le _, rfl, rfl, hT0, hU0, hF0, hbel0⟩
  case round =>
    obtain ⟨k, hk, rfl, rfl, hT, hU, hF, hB⟩ := hrel
    clear hT0 hU0 hF0 hbel0
    have hsz := hB.size
    have hgl := hF.1
    by_cases hlt : k < N
    · have hlt' : (k : Int) < N := by omega
      obtain ⟨c0, c1⟩ := hF.2 k hlt
      have c0' : wr.cell? ⟨g, k * 2, none⟩ = some (.int .i64 (rnD k)) := by rw [Nat.mul_comm]; exact c0
      have c1' : wr.cell? ⟨g, k * 2 + 1, none⟩ = some (.int .i64 (rnT k)) := by rw [Nat.mul_comm]; exact c1
      obtain ⟨d0, d1, t0, t1⟩ := rn_bounds (n := (k : Int)) (by omega) (by omega)
      have hpl := pl_rule (s := s) (t := rnT (k : Int)) d0 d1 l0 l1
      have ha : ((plL s (rnD k) (rnT k) l + plH s (rnD k) (rnT k) l - 2 * p).natAbs : Int) = awV s l p k := rfl
      by_cases hc : (beR s l p k).2 < 0
      · have HX : beR s l p (k + 1) = ((k : Int), awV s l p k) := by rw [beR, if_pos (.inl hc)]
        have HY := Lib.hid (bf_new HX)
        have HX := Lib.hid HX
        go_wp2_with (first | (go_at_call 120; refine (place_impl _ _ _ _ _ hs d0 d1 (by omega) (by omega) l0 l1).mono ?_; rintro x w1 ⟨rfl, hb1⟩; have hKf := S1.below (S1.new _ _ _ _) hb1; have hU1 : Two w1 (w.heap.size + 1) (bfD s l p k) (bfT s l p k) := (by repeat (first | (with_reducible assumption) | ((with_reducible refine Two.mk' _ _ _ _ _ ?_); first | with_reducible rfl | (simp; done)) | (with_reducible refine Two.alloc ?_ _) | (with_reducible refine Two.drewN ?_ _) | (with_reducible refine Two.drew ?_) | (with_reducible refine Two.set ?_ (by omega)) | (with_reducible refine Two.but ?_ (by assumption) (by omega)) | (with_reducible refine Two.go ?_ (by assumption)))); obtain ⟨u0, u1, u2, u3, u4⟩ := id hU1; have hs1 := hb1.size; simp at hs1) | (go_at_call 145; refine (distance_i _ _ _ (by omega) (by omega) (by omega) (by omega)).mono ?_; rw [ha]; rintro e w2 ⟨rfl, rfl⟩))
        go_roundw
        case rel =>
          have h1 := hb1.size
          simp at h1
          have hT1 : Two w1 w.heap.size 0 0 := (by repeat (first | (with_reducible assumption) | ((with_reducible refine Two.mk' _ _ _ _ _ ?_); first | with_reducible rfl | (simp; done)) | (with_reducible refine Two.alloc ?_ _) | (with_reducible refine Two.drewN ?_ _) | (with_reducible refine Two.drew ?_) | (with_reducible refine Two.set ?_ (by omega)) | (with_reducible refine Two.but ?_ (by assumption) (by omega)) | (with_reducible refine Two.go ?_ (by assumption))))
          have hF1 := ((hF.alloc _).below hb1)
          have hB1 := below_tr (hB.alloc hsz _) hb1
          refine ⟨k + 1, by omega, by rw [HX.out], by go_num, ?_, ?_, ?_, ?_⟩
          · exact Two.alloc (Two.set (Two.set hT1 (Nat.succ_ne_self _)) (Nat.succ_ne_self _)) _
          · rw [HY.out.1, HY.out.2]; exact Two.alloc (Two.put hU1) _
          · exact (Fg.set (Fg.set hF1 (Nat.ne_of_lt hgw)) (Nat.ne_of_lt hgw)).alloc _
          · exact below_alloc (Below.setCell (Below.setCell hB1 (Nat.le_succ _) _) (Nat.le_succ _) _) _
        case measure => simp [intOf]; omega
      · have hk0 : k ≠ 0 := fun h => hc (by rw [h]; show (-1 : Int) < 0; decide)
        by_cases hc2 : awV s l p k < (beR s l p k).2
        · have HX : beR s l p (k + 1) = ((k : Int), awV s l p k) := by rw [beR, if_pos (.inr hc2)]
          have HY := Lib.hid (bf_new HX)
          have HX := Lib.hid HX
          go_wp2_with (first | (go_at_call 120; refine (place_impl _ _ _ _ _ hs d0 d1 (by omega) (by omega) l0 l1).mono ?_; rintro x w1 ⟨rfl, hb1⟩; have hKf := S1.below (S1.new _ _ _ _) hb1; have hU1 : Two w1 (w.heap.size + 1) (bfD s l p k) (bfT s l p k) := (by repeat (first | (with_reducible assumption) | ((with_reducible refine Two.mk' _ _ _ _ _ ?_); first | with_reducible rfl | (simp; done)) | (with_reducible refine Two.alloc ?_ _) | (with_reducible refine Two.drewN ?_ _) | (with_reducible refine Two.drew ?_) | (with_reducible refine Two.set ?_ (by omega)) | (with_reducible refine Two.but ?_ (by assumption) (by omega)) | (with_reducible refine Two.go ?_ (by assumption)))); obtain ⟨u0, u1, u2, u3, u4⟩ := id hU1; have hs1 := hb1.size; simp at hs1) | (go_at_call 145; refine (distance_i _ _ _ (by omega) (by omega) (by omega) (by omega)).mono ?_; rw [ha]; rintro e w2 ⟨rfl, rfl⟩))
          go_roundw
          case rel =>
            have h1 := hb1.size
            simp at h1
            have hT1 : Two w1 w.heap.size 0 0 := (by repeat (first | (with_reducible assumption) | ((with_reducible refine Two.mk' _ _ _ _ _ ?_); first | with_reducible rfl | (simp; done)) | (with_reducible refine Two.alloc ?_ _) | (with_reducible refine Two.drewN ?_ _) | (with_reducible refine Two.drew ?_) | (with_reducible refine Two.set ?_ (by omega)) | (with_reducible refine Two.but ?_ (by assumption) (by omega)) | (with_reducible refine Two.go ?_ (by assumption))))
            have hF1 := ((hF.alloc _).below hb1)
            have hB1 := below_tr (hB.alloc hsz _) hb1
            refine ⟨k + 1, by omega, by rw [HX.out], by go_num, ?_, ?_, ?_, ?_⟩
            · exact Two.alloc (Two.set (Two.set hT1 (Nat.succ_ne_self _)) (Nat.succ_ne_self _)) _
            · rw [HY.out.1, HY.out.2]; exact Two.alloc (Two.put hU1) _
            · exact (Fg.set (Fg.set hF1 (Nat.ne_of_lt hgw)) (Nat.ne_of_lt hgw)).alloc _
            · exact below_alloc (Below.setCell (Below.setCell hB1 (Nat.le_succ _) _) (Nat.le_succ _) _) _
          case measure => simp [intOf]; omega
        · have HX : beR s l p (k + 1) = beR s l p k := by rw [beR, if_neg (fun h => h.elim hc hc2)]
          have HY := Lib.hid (bf_old HX hk0)
          have HX := Lib.hid HX
          go_wp2_with (first | (go_at_call 120; refine (place_impl _ _ _ _ _ hs d0 d1 (by omega) (by omega) l0 l1).mono ?_; rintro x w1 ⟨rfl, hb1⟩; have hKf := S1.below (S1.new _ _ _ _) hb1; have hU1 : Two w1 (w.heap.size + 1) (bfD s l p k) (bfT s l p k) := (by repeat (first | (with_reducible assumption) | ((with_reducible refine Two.mk' _ _ _ _ _ ?_); first | with_reducible rfl | (simp; done)) | (with_reducible refine Two.alloc ?_ _) | (with_reducible refine Two.drewN ?_ _) | (with_reducible refine Two.drew ?_) | (with_reducible refine Two.set ?_ (by omega)) | (with_reducible refine Two.but ?_ (by assumption) (by omega)) | (with_reducible refine Two.go ?_ (by assumption)))); obtain ⟨u0, u1, u2, u3, u4⟩ := id hU1; have hs1 := hb1.size; simp at hs1) | (go_at_call 145; refine (distance_i _ _ _ (by omega) (by omega) (by omega) (by omega)).mono ?_; rw [ha]; rintro e w2 ⟨rfl, rfl⟩))
          go_roundw
          case rel =>
            have h1 := hb1.size
            simp at h1
            exact ⟨k + 1, by omega, by rw [HX.out], by go_num, (by repeat (first | (with_reducible assumption) | ((with_reducible refine Two.mk' _ _ _ _ _ ?_); first | with_reducible rfl | (simp; done)) | (with_reducible refine Two.alloc ?_ _) | (with_reducible refine Two.drewN ?_ _) | (with_reducible refine Two.drew ?_) | (with_reducible refine Two.set ?_ (by omega)) | (with_reducible refine Two.but ?_ (by assumption) (by omega)) | (with_reducible refine Two.go ?_ (by assumption)))), by rw [HY.out.1, HY.out.2]; exact (by repeat (first | (with_reducible assumption) | ((with_reducible refine Two.mk' _ _ _ _ _ ?_); first | with_reducible rfl | (simp; done)) | (with_reducible refine Two.alloc ?_ _) | (with_reducible refine Two.drewN ?_ _) | (with_reducible refine Two.drew ?_) | (with_reducible refine Two.set ?_ (by omega)) | (with_reducible refine Two.but ?_ (by assumption) (by omega)) | (with_reducible refine Two.go ?_ (by assumption)))), (((hF.alloc _).below hb1).alloc _), below_alloc (below_tr (hB.alloc hsz _) hb1) _⟩
          case measure => simp [intOf]; omega
    · have hlt' : ¬ (k : Int) < N := by omega
      obtain rfl : k = N := by omega
      rw [HN.out.1, HN.out.2] at hU
      obtain ⟨t0, t1, t2, t3, t4⟩ := hT
      obtain ⟨u0, u1, u2, u3, u4⟩ := hU
      go_wp2_with fail
      refine bodyPost_ret (by simp [results, Try.results81, go_sem, *]; try rfl) rfl ?_
      exact ⟨rfl, (by repeat (first | (with_reducible exact Below.refl _ _) | (with_reducible assumption) | (with_reducible refine below_alloc ?_ _) | (with_reducible refine Below.setCell ?_ (by first | omega | (simp; done) | (simp; omega)) _) | (with_reducible refine below_drewN ?_ _) | (with_reducible refine Below.drew ?_) | (with_reducible refine below_tr ?_ (by assumption))))⟩
set_option maxHeartbeats 1600000 in
theorem BestReading_impl (s l p : Int) (w : World) : Calls Try.prog 14 #[.int .i64 s, .int .i64 l, .int .i64 p] w fun x w' => x = .returned (.tuple #[.agg #[.int .i64 (brD s l p), .int .i64 (brT s l p)], .int .i64 (rgV (ptB s l p 0))]) ∧ Below w.heap.size w w' := by
  cases h : ptB s l p 0
  · have HD := Lib.hid (show 0 = brD s l p by simp [brD, h])
    have HT := Lib.hid (show 0 = brT s l p by simp [brT, h])
    go_enter Try.func14, Try.ntmps14
    go_wp2_with (go_at_call 78; refine (point_i _ _ _ _ _).mono ?_; rintro e w1 ⟨rfl, hb⟩; obtain ⟨hc, hf⟩ := bcell hb; (try simp only [World.size_drew, World.cell?_drew] at hc); (try simp only [World.size_drew, World.frozen?_drew] at hf); have hz := hb.size; (try simp at hz); (try (have hz0 : w.heap.size < w1.heap.size := by omega)); (try (have hz1 : w.heap.size + 1 < w1.heap.size := by omega)); (try (have hz2 : w.heap.size + 1 + 1 < w1.heap.size := by omega)); (try (have hz3 : w.heap.size + 1 + 1 + 1 < w1.heap.size := by omega)); (try (have r7 := Nat.lt_of_lt_of_le r5 (show _ ≤ w1.heap.size by omega))); (try (have r6 := Nat.lt_of_lt_of_le r4 (show _ ≤ w1.heap.size by omega))); (try (have r5 := Nat.lt_of_lt_of_le r3 (show _ ≤ w1.heap.size by omega))); (try (have r4 := Nat.lt_of_lt_of_le r2 (show _ ≤ w1.heap.size by omega))); (try (have r3 := Nat.lt_of_lt_of_le r1 (show _ ≤ w1.heap.size by omega))); (try (have r2 := Nat.lt_of_succ_le (Nat.le_of_succ_le hz))); (try (have r1 := Nat.lt_of_succ_le hz)); (try (have hg1 := Nat.lt_of_lt_of_le hg1 (show _ ≤ w1.heap.size by omega))); (try (have hg2 := Nat.lt_of_lt_of_le hg2 (show _ ≤ w1.heap.size by omega))); (try (have hg3 := Nat.lt_of_lt_of_le hg3 (show _ ≤ w1.heap.size by omega))); (try (first | have hK := S1.below hK hb | have hK := S1.below (S1.alloc hK _) hb | have hK := S1.below (S1.alloc (S1.alloc hK _) _) hb | have hK := S1.below (S1.drewN hK _) hb)); (try (first | have hK2 := S1.below hK2 hb | have hK2 := S1.below (S1.alloc hK2 _) hb | have hK2 := S1.below (S1.alloc (S1.alloc hK2 _) _) hb | have hK2 := S1.below (S1.drewN hK2 _) hb)); (try (first | have hK3 := S1.below hK3 hb | have hK3 := S1.below (S1.alloc hK3 _) hb | have hK3 := S1.below (S1.alloc (S1.alloc hK3 _) _) hb | have hK3 := S1.below (S1.drewN hK3 _) hb)); (try (first | have hK4 := S1.below hK4 hb | have hK4 := S1.below (S1.alloc hK4 _) hb | have hK4 := S1.below (S1.alloc (S1.alloc hK4 _) _) hb | have hK4 := S1.below (S1.drewN hK4 _) hb)))
    refine bodyPost_ret (by simp [results, Try.results14, go_sem, *]; try rfl) rfl ?_
    exact ⟨ret_agg1 HD.out HT.out rfl, (by repeat (first | (with_reducible exact Below.refl _ _) | (with_reducible assumption) | (with_reducible refine below_alloc ?_ _) | (with_reducible refine Below.setCell ?_ (by first | omega | (simp; done) | (simp; omega)) _) | (with_reducible refine below_drewN ?_ _) | (with_reducible refine Below.drew ?_) | (with_reducible refine below_tr ?_ (by assumption))))⟩
  · have HD := Lib.hid (show rnD (beN s l p) = brD s l p by simp [brD, h])
    have HT := Lib.hid (show rnT (beN s l p) = brT s l p by simp [brT, h])
    obtain ⟨h1, h2, h3, h4⟩ := ptB_true h
    obtain ⟨l0, l1⟩ := inB_true.1 h2
    obtain ⟨p0, p1⟩ := inB_true.1 h3
    go_enter Try.func14, Try.ntmps14
    go_wp2_with (first | (go_at_call 78; refine (point_i _ _ _ _ _).mono ?_; rintro e w1 ⟨rfl, hb⟩; obtain ⟨hc, hf⟩ := bcell hb; (try simp only [World.size_drew, World.cell?_drew] at hc); (try simp only [World.size_drew, World.frozen?_drew] at hf); have hz := hb.size; (try simp at hz); (try (have hz0 : w.heap.size < w1.heap.size := by omega)); (try (have hz1 : w.heap.size + 1 < w1.heap.size := by omega)); (try (have hz2 : w.heap.size + 1 + 1 < w1.heap.size := by omega)); (try (have hz3 : w.heap.size + 1 + 1 + 1 < w1.heap.size := by omega)); (try (have r7 := Nat.lt_of_lt_of_le r5 (show _ ≤ w1.heap.size by omega))); (try (have r6 := Nat.lt_of_lt_of_le r4 (show _ ≤ w1.heap.size by omega))); (try (have r5 := Nat.lt_of_lt_of_le r3 (show _ ≤ w1.heap.size by omega))); (try (have r4 := Nat.lt_of_lt_of_le r2 (show _ ≤ w1.heap.size by omega))); (try (have r3 := Nat.lt_of_lt_of_le r1 (show _ ≤ w1.heap.size by omega))); (try (have r2 := Nat.lt_of_succ_le (Nat.le_of_succ_le hz))); (try (have r1 := Nat.lt_of_succ_le hz)); (try (have hg1 := Nat.lt_of_lt_of_le hg1 (show _ ≤ w1.heap.size by omega))); (try (have hg2 := Nat.lt_of_lt_of_le hg2 (show _ ≤ w1.heap.size by omega))); (try (have hg3 := Nat.lt_of_lt_of_le hg3 (show _ ≤ w1.heap.size by omega))); (try (first | have hK := S1.below hK hb | have hK := S1.below (S1.alloc hK _) hb | have hK := S1.below (S1.alloc (S1.alloc hK _) _) hb | have hK := S1.below (S1.drewN hK _) hb)); (try (first | have hK2 := S1.below hK2 hb | have hK2 := S1.below (S1.alloc hK2 _) hb | have hK2 := S1.below (S1.alloc (S1.alloc hK2 _) _) hb | have hK2 := S1.below (S1.drewN hK2 _) hb)); (try (first | have hK3 := S1.below hK3 hb | have hK3 := S1.below (S1.alloc hK3 _) hb | have hK3 := S1.below (S1.alloc (S1.alloc hK3 _) _) hb | have hK3 := S1.below (S1.drewN hK3 _) hb)); (try (first | have hK4 := S1.below hK4 hb | have hK4 := S1.below (S1.alloc hK4 _) hb | have hK4 := S1.below (S1.alloc (S1.alloc hK4 _) _) hb | have hK4 := S1.below (S1.drewN hK4 _) hb))) | (go_at_call 81; refine (best_i _ _ _ _ h1 l0 l1 p0 p1).mono ?_; rintro e w1 ⟨rfl, hb⟩; obtain ⟨hc, hf⟩ := bcell hb; (try simp only [World.size_drew, World.cell?_drew] at hc); (try simp only [World.size_drew, World.frozen?_drew] at hf); have hz := hb.size; (try simp at hz); (try (have hz0 : w.heap.size < w1.heap.size := by omega)); (try (have hz1 : w.heap.size + 1 < w1.heap.size := by omega)); (try (have hz2 : w.heap.size + 1 + 1 < w1.heap.size := by omega)); (try (have hz3 : w.heap.size + 1 + 1 + 1 < w1.heap.size := by omega)); (try (have r7 := Nat.lt_of_lt_of_le r5 (show _ ≤ w1.heap.size by omega))); (try (have r6 := Nat.lt_of_lt_of_le r4 (show _ ≤ w1.heap.size by omega))); (try (have r5 := Nat.lt_of_lt_of_le r3 (show _ ≤ w1.heap.size by omega))); (try (have r4 := Nat.lt_of_lt_of_le r2 (show _ ≤ w1.heap.size by omega))); (try (have r3 := Nat.lt_of_lt_of_le r1 (show _ ≤ w1.heap.size by omega))); (try (have r2 := Nat.lt_of_succ_le (Nat.le_of_succ_le hz))); (try (have r1 := Nat.lt_of_succ_le hz)); (try (have hg1 := Nat.lt_of_lt_of_le hg1 (show _ ≤ w1.heap.size by omega))); (try (have hg2 := Nat.lt_of_lt_of_le hg2 (show _ ≤ w1.heap.size by omega))); (try (have hg3 := Nat.lt_of_lt_of_le hg3 (show _ ≤ w1.heap.size by omega))); (try (first | have hK := S1.below hK hb | have hK := S1.below (S1.alloc hK _) hb | have hK := S1.below (S1.alloc (S1.alloc hK _) _) hb | have hK := S1.below (S1.drewN hK _) hb)); (try (first | have hK2 := S1.below hK2 hb | have hK2 := S1.below (S1.alloc hK2 _) hb | have hK2 := S1.below (S1.alloc (S1.alloc hK2 _) _) hb | have hK2 := S1.below (S1.drewN hK2 _) hb)); (try (first | have hK3 := S1.below hK3 hb | have hK3 := S1.below (S1.alloc hK3 _) hb | have hK3 := S1.below (S1.alloc (S1.alloc hK3 _) _) hb | have hK3 := S1.below (S1.drewN hK3 _) hb)); (try (first | have hK4 := S1.below hK4 hb | have hK4 := S1.below (S1.alloc hK4 _) hb | have hK4 := S1.below (S1.alloc (S1.alloc hK4 _) _) hb | have hK4 := S1.below (S1.drewN hK4 _) hb))))
    refine bodyPost_ret (by simp [results, Try.results14, go_sem, *]; try rfl) rfl ?_
    exact ⟨ret_agg1 HD.out HT.out rfl, (by repeat (first | (with_reducible exact Below.refl _ _) | (with_reducible assumption) | (with_reducible refine below_alloc ?_ _) | (with_reducible refine Below.setCell ?_ (by first | omega | (simp; done) | (simp; omega)) _) | (with_reducible refine below_drewN ?_ _) | (with_reducible refine Below.drew ?_) | (with_reducible refine below_tr ?_ (by assumption))))⟩
set_option maxHeartbeats 1600000 in
theorem ExactBestReading (s l p : Int) (w : World) (_ : (Lit.int .i64 s).wf = true) (_ : (Lit.int .i64 l).wf = true) (_ : (Lit.int .i64 p).wf = true) : Calls Try.prog 4 #[.int .i64 s, .int .i64 l, .int .i64 p] w fun x w' => x = .returned (.bool true) ∧ Below w.heap.size w w' := by
  go_enter Try.func4, Try.ntmps4
  go_wp2_with (first | (go_at_call 13; refine (BestReading_spec _ _ _ _).mono ?_; rintro e w1 ⟨rfl, hb⟩; obtain ⟨hc, hf⟩ := bcell hb; (try simp only [World.size_drew, World.cell?_drew] at hc); (try simp only [World.size_drew, World.frozen?_drew] at hf); have hz := hb.size; (try simp at hz); (try (have hz0 : w.heap.size < w1.heap.size := by omega)); (try (have hz1 : w.heap.size + 1 < w1.heap.size := by omega)); (try (have hz2 : w.heap.size + 1 + 1 < w1.heap.size := by omega)); (try (have hz3 : w.heap.size + 1 + 1 + 1 < w1.heap.size := by omega)); (try (have r7 := Nat.lt_of_lt_of_le r5 (show _ ≤ w1.heap.size by omega))); (try (have r6 := Nat.lt_of_lt_of_le r4 (show _ ≤ w1.heap.size by omega))); (try (have r5 := Nat.lt_of_lt_of_le r3 (show _ ≤ w1.heap.size by omega))); (try (have r4 := Nat.lt_of_lt_of_le r2 (show _ ≤ w1.heap.size by omega))); (try (have r3 := Nat.lt_of_lt_of_le r1 (show _ ≤ w1.heap.size by omega))); (try (have r2 := Nat.lt_of_succ_le (Nat.le_of_succ_le hz))); (try (have r1 := Nat.lt_of_succ_le hz)); (try (have hg1 := Nat.lt_of_lt_of_le hg1 (show _ ≤ w1.heap.size by omega))); (try (have hg2 := Nat.lt_of_lt_of_le hg2 (show _ ≤ w1.heap.size by omega))); (try (have hg3 := Nat.lt_of_lt_of_le hg3 (show _ ≤ w1.heap.size by omega))); (try (first | have hK := S1.below hK hb | have hK := S1.below (S1.alloc hK _) hb | have hK := S1.below (S1.alloc (S1.alloc hK _) _) hb | have hK := S1.below (S1.drewN hK _) hb)); (try (first | have hK2 := S1.below hK2 hb | have hK2 := S1.below (S1.alloc hK2 _) hb | have hK2 := S1.below (S1.alloc (S1.alloc hK2 _) _) hb | have hK2 := S1.below (S1.drewN hK2 _) hb)); (try (first | have hK3 := S1.below hK3 hb | have hK3 := S1.below (S1.alloc hK3 _) hb | have hK3 := S1.below (S1.alloc (S1.alloc hK3 _) _) hb | have hK3 := S1.below (S1.drewN hK3 _) hb)); (try (first | have hK4 := S1.below hK4 hb | have hK4 := S1.below (S1.alloc hK4 _) hb | have hK4 := S1.below (S1.alloc (S1.alloc hK4 _) _) hb | have hK4 := S1.below (S1.drewN hK4 _) hb))) | ((go_at_call 14; refine (BestReading_impl _ _ _ _).mono ?_; rintro e w1 ⟨rfl, hb⟩; obtain ⟨hc, hf⟩ := bcell hb; (try simp only [World.size_drew, World.cell?_drew] at hc); (try simp only [World.size_drew, World.frozen?_drew] at hf); have hz := hb.size; (try simp at hz); (try (have hz0 : w.heap.size < w1.heap.size := by omega)); (try (have hz1 : w.heap.size + 1 < w1.heap.size := by omega)); (try (have hz2 : w.heap.size + 1 + 1 < w1.heap.size := by omega)); (try (have hz3 : w.heap.size + 1 + 1 + 1 < w1.heap.size := by omega)); (try (have r7 := Nat.lt_of_lt_of_le r5 (show _ ≤ w1.heap.size by omega))); (try (have r6 := Nat.lt_of_lt_of_le r4 (show _ ≤ w1.heap.size by omega))); (try (have r5 := Nat.lt_of_lt_of_le r3 (show _ ≤ w1.heap.size by omega))); (try (have r4 := Nat.lt_of_lt_of_le r2 (show _ ≤ w1.heap.size by omega))); (try (have r3 := Nat.lt_of_lt_of_le r1 (show _ ≤ w1.heap.size by omega))); (try (have r2 := Nat.lt_of_succ_le (Nat.le_of_succ_le hz))); (try (have r1 := Nat.lt_of_succ_le hz)); (try (have hg1 := Nat.lt_of_lt_of_le hg1 (show _ ≤ w1.heap.size by omega))); (try (have hg2 := Nat.lt_of_lt_of_le hg2 (show _ ≤ w1.heap.size by omega))); (try (have hg3 := Nat.lt_of_lt_of_le hg3 (show _ ≤ w1.heap.size by omega))); (try (first | have hK := S1.below hK hb | have hK := S1.below (S1.alloc hK _) hb | have hK := S1.below (S1.alloc (S1.alloc hK _) _) hb | have hK := S1.below (S1.drewN hK _) hb)); (try (first | have hK2 := S1.below hK2 hb | have hK2 := S1.below (S1.alloc hK2 _) hb | have hK2 := S1.below (S1.alloc (S1.alloc hK2 _) _) hb | have hK2 := S1.below (S1.drewN hK2 _) hb)); (try (first | have hK3 := S1.below hK3 hb | have hK3 := S1.below (S1.alloc hK3 _) hb | have hK3 := S1.below (S1.alloc (S1.alloc hK3 _) _) hb | have hK3 := S1.below (S1.drewN hK3 _) hb)); (try (first | have hK4 := S1.below hK4 hb | have hK4 := S1.below (S1.alloc hK4 _) hb | have hK4 := S1.below (S1.alloc (S1.alloc hK4 _) _) hb | have hK4 := S1.below (S1.drewN hK4 _) hb))); (try (have hK := S1.below (S1.new _ _ _ _) hb))) | (go_at_call 15; refine (eqFigure_same _ _ _).mono ?_; rintro e w1 ⟨rfl, hb⟩; obtain ⟨hc, hf⟩ := bcell hb; (try simp only [World.size_drew, World.cell?_drew] at hc); (try simp only [World.size_drew, World.frozen?_drew] at hf); have hz := hb.size; (try simp at hz); (try (have hz0 : w.heap.size < w1.heap.size := by omega)); (try (have hz1 : w.heap.size + 1 < w1.heap.size := by omega)); (try (have hz2 : w.heap.size + 1 + 1 < w1.heap.size := by omega)); (try (have hz3 : w.heap.size + 1 + 1 + 1 < w1.heap.size := by omega)); (try (have r7 := Nat.lt_of_lt_of_le r5 (show _ ≤ w1.heap.size by omega))); (try (have r6 := Nat.lt_of_lt_of_le r4 (show _ ≤ w1.heap.size by omega))); (try (have r5 := Nat.lt_of_lt_of_le r3 (show _ ≤ w1.heap.size by omega))); (try (have r4 := Nat.lt_of_lt_of_le r2 (show _ ≤ w1.heap.size by omega))); (try (have r3 := Nat.lt_of_lt_of_le r1 (show _ ≤ w1.heap.size by omega))); (try (have r2 := Nat.lt_of_succ_le (Nat.le_of_succ_le hz))); (try (have r1 := Nat.lt_of_succ_le hz)); (try (have hg1 := Nat.lt_of_lt_of_le hg1 (show _ ≤ w1.heap.size by omega))); (try (have hg2 := Nat.lt_of_lt_of_le hg2 (show _ ≤ w1.heap.size by omega))); (try (have hg3 := Nat.lt_of_lt_of_le hg3 (show _ ≤ w1.heap.size by omega))); (try (first | have hK := S1.below hK hb | have hK := S1.below (S1.alloc hK _) hb | have hK := S1.below (S1.alloc (S1.alloc hK _) _) hb | have hK := S1.below (S1.drewN hK _) hb)); (try (first | have hK2 := S1.below hK2 hb | have hK2 := S1.below (S1.alloc hK2 _) hb | have hK2 := S1.below (S1.alloc (S1.alloc hK2 _) _) hb | have hK2 := S1.below (S1.drewN hK2 _) hb)); (try (first | have hK3 := S1.below hK3 hb | have hK3 := S1.below (S1.alloc hK3 _) hb | have hK3 := S1.below (S1.alloc (S1.alloc hK3 _) _) hb | have hK3 := S1.below (S1.drewN hK3 _) hb)); (try (first | have hK4 := S1.below hK4 hb | have hK4 := S1.below (S1.alloc hK4 _) hb | have hK4 := S1.below (S1.alloc (S1.alloc hK4 _) _) hb | have hK4 := S1.below (S1.drewN hK4 _) hb))))
  go_ret
  exact ⟨rfl, (by repeat (first | (with_reducible exact Below.refl _ _) | (with_reducible assumption) | (with_reducible refine below_alloc ?_ _) | (with_reducible refine Below.setCell ?_ (by first | omega | (simp; done) | (simp; omega)) _) | (with_reducible refine below_drewN ?_ _) | (with_reducible refine Below.drew ?_) | (with_reducible refine below_tr ?_ (by assumption))))⟩
end Go.Proofs.Ythmmdcpodadjbaa.C
