/- The readings at a point: how many there are. -/
import Derived.Test.YthmmdcpodadjbaaA6b
namespace Go.Proofs.Ythmmdcpodadjbaa.C
open Go.RowKit Go.Proofs.Ythmmdcpodadjbaa.K
set_option linter.unusedVariables false
set_option linter.unusedSimpArgs false
attribute [local go_sem ↓] Go.wp_at_zero Go.wp_at_succ

/-- a block that holds the first figures of a scale -/
def Fg (g N : Nat) (w : World) : Prop := g < w.heap.size ∧ ∀ j, j < N → w.cell? ⟨g, 2 * j, none⟩ = some (.int .i64 (rnD j)) ∧ w.cell? ⟨g, 2 * j + 1, none⟩ = some (.int .i64 (rnT j))
theorem Fg.below {g N : Nat} {w w' : World} (h : Fg g N w) (k : Below w.heap.size w w') : Fg g N w' := by
  have hs := k.size
  have h1 := h.1
  exact ⟨by omega, fun j hj => ⟨by rw [k.cell (p := ⟨g, 2 * j, none⟩) h.1, (h.2 j hj).1], by rw [k.cell (p := ⟨g, 2 * j + 1, none⟩) h.1, (h.2 j hj).2]⟩⟩
theorem Fg.alloc {g N : Nat} {w : World} (h : Fg g N w) (o : Obj) : Fg g N (w.alloc o) := h.below ((Below.refl _ _).alloc (Nat.le_refl _) _)
theorem Fg.grown {g N : Nat} {w w' : World} {row : Option Nat} (h : Fg g N w) (k : w.grownBy w' row) (hr : row ≠ some g) : Fg g N w' := by
  have hs := k.size
  have h1 := h.1
  have hb : w'.heap[g]? = w.heap[g]? := k.block g h.1 (fun e => hr e.symm)
  exact ⟨by omega, fun j hj => ⟨by rw [World.cell?_of_block (w := w) hb, (h.2 j hj).1], by rw [World.cell?_of_block (w := w) hb, (h.2 j hj).2]⟩⟩
set_option maxRecDepth 20000 in
set_option maxHeartbeats 6400000 in
theorem readingsAt_i (s l p e : Int) (w : World) (hs : inB s 0 5 = true) (l0 : 1 ≤ l) (l1 : l ≤ 100000) (p0 : 0 ≤ p) (p1 : p ≤ l) (e0 : 0 ≤ e) (e1 : e ≤ 200) :
    Calls Try.prog 79 #[.int .i64 s, .int .i64 l, .int .i64 p, .int .i64 e] w fun x w' => ∃ (a : Option Addr) (cap : Nat), x = .returned (.slice a (cnR s l p e (nfS s)) cap) ∧ Below w.heap.size w w' := by
  obtain ⟨i0, hi, hz0, hz1, hz2⟩ := info_parts infoF
  obtain ⟨_, q1, q2⟩ := nfS_eq s
  obtain ⟨N, hN⟩ : ∃ N, nfS s = N := ⟨_, rfl⟩
  rw [hN] at q1 q2 ⊢
  go_enter Try.func79, Try.ntmps79
  go_wp2_with (go_at_call 142; refine (figuresOf_i _ _ hs).mono ?_; rw [hN]; rintro x w1 ⟨g, cap, rfl, hg0, hg1, hcs, hb⟩)
  have hF0 : Fg g N w1 := ⟨hg1, hcs⟩
  have hgw : w.heap.size < g := by simp at hg0; omega
  have hown0 : w1.ownsRow w.heap.size 26 2 (.slice (some ⟨w.heap.size, 0, none⟩) 0 0) 0 [] := own_below6 (World.ownsRow_made w #[] 0 (Nat.le_refl _) (by unfold maxLen; omega) rfl) hb
  have hbel0 : Below w.heap.size w w1 := below_tr (below_alloc (Below.refl _ _) _) hb
  clear hcs hb hg0 hg1
  go_loopw [9, 16] (fun v x wr => ∃ (k : Nat) (xs : List Value), k ≤ N ∧ x = .int .i64 k ∧ wr.ownsRow w.heap.size 26 2 v (cnR s l p e k) xs ∧ v.ownBlock ≠ some g ∧ Fg g N wr ∧ Below w.heap.size w wr) (fun _ x _ => N - (intOf x).toNat)
  case atStart => exact ⟨0, [], Nat.zero_le _, rfl, hown0, by simp [Value.ownBlock]; omega, hF0, hbel0⟩
  case round =>
    obtain ⟨k, xs, hk, rfl, hown, hne, hF, hB⟩ := hrel
    clear hown0 hbel0 hF0
    have hc := cnR_le s l p e k
    have hsz := hB.size
    by_cases hlt : k < N
    · have hlt' : (k : Int) < N := by omega
      obtain ⟨c0, c1⟩ := hF.2 k hlt
      obtain ⟨d0, d1, t0, t1⟩ := rn_bounds (n := (k : Int)) (by omega) (by omega)
      have c0' : wr.cell? ⟨g, k * 2, none⟩ = some (.int .i64 (rnD k)) := by rw [Nat.mul_comm]; exact c0
      have c1' : wr.cell? ⟨g, k * 2 + 1, none⟩ = some (.int .i64 (rnT k)) := by rw [Nat.mul_comm]; exact c1
      have hgl := hF.1
      cases hm : mbB s l p e k
      · have HX := Lib.hid (cnR_no hm)
        go_wp2_with (first | (go_at_call 120; refine (place_impl _ _ _ _ _ hs d0 d1 (by omega) (by omega) l0 l1).mono ?_; rintro x w1 ⟨rfl, hb1⟩; have hKf := S1.below (S1.new _ _ _ _) hb1) | (go_at_call 143; refine (may_i _ _ _ _ _ _ (by omega) (by omega) l0 l1 p0 p1 e0 e1).mono ?_; rintro x w2 ⟨rfl, hb2⟩; replace hKf := S1.below hKf hb2))
        go_roundw
        case rel => exact ⟨k + 1, xs, by omega, by go_num, by rw [HX.out]; exact own_below6 (own_below6 (hown.alloc _) hb1) hb2, hne, ((hF.alloc _).below hb1).below hb2, below_tr (below_tr (hB.alloc hsz _) hb1) hb2⟩
        case measure => simp [intOf]; omega
      · have HX := Lib.hid (cnR_yes hm)
        go_wp2_with (first | (go_at_call 120; refine (place_impl _ _ _ _ _ hs d0 d1 (by omega) (by omega) l0 l1).mono ?_; rintro x w1 ⟨rfl, hb1⟩; have hKf := S1.below (S1.new _ _ _ _) hb1) | (go_at_call 143; refine (may_i _ _ _ _ _ _ (by omega) (by omega) l0 l1 p0 p1 e0 e1).mono ?_; rintro x w2 ⟨rfl, hb2⟩; replace hKf := S1.below hKf hb2) | (at_builtin; refine wpList_append_own_at _ rfl (.tmp 27) (.tmp 29) 75 rfl w.heap.size 26 i0 (.agg #[.int .i64 0, .int .i64 0]) 2 16 Try.underlying75 hi hz0 hz1 hz2 rfl (by decide) _ _ _ rfl ((own_below6 (own_below6 (hown.alloc _) hb1) hb2).alloc _) ⟨_, 0, none⟩ 1 1 [.int .i64 (rnD k), .int .i64 (rnT k)] rfl rfl (cell_two _ _ _ _) (by intro u hu; simp at hu; rcases hu with rfl | rfl <;> rfl) (by unfold maxLen; omega) (by omega) (by have h1 := hb1.size; have h2 := hb2.size; simp at h1 ⊢; omega) ?_; intro v3 w3 hown3 hgrow3 hnil3 hat3))
        go_roundw
        case rel =>
          have h1 := hb1.size
          have h2 := hb2.size
          simp at h1
          refine ⟨k + 1, _, by omega, by go_num, by rw [HX.out]; exact hown3, ?_, (((hF.alloc _).below hb1).below hb2 |>.alloc _).grown hgrow3 hne, ?_⟩
          · rcases hat3 with h | h
            · rw [h]; exact hne
            · rw [h]; intro e; simp at e; omega
          · exact ((below_tr (below_tr (hB.alloc hsz _) hb1) hb2).alloc (by omega) _).grown hgrow3 (by simp; omega) (fun j hj => (hown.lt j hj).1)
        case measure => simp [intOf]; omega
    · have hlt' : ¬ (k : Int) < N := by omega
      obtain rfl : k = N := by omega
      rcases hown.2 with ⟨rfl, h0⟩ | ⟨g2, cap2, cur, rfl, _, _, _, _, _, _⟩
      · go_wp2_with fail
        go_ret
        exact ⟨⟨none, 0, by first | rfl | (rw [h0]; rfl)⟩, hB⟩
      · go_wp2_with fail
        go_ret
        exact ⟨⟨_, _, rfl⟩, hB⟩
set_option maxHeartbeats 1600000 in
theorem CountReadings_impl (s l p e : Int) (w : World) : Calls Try.prog 12 #[.int .i64 s, .int .i64 l, .int .i64 p, .int .i64 e] w fun x w' => x = .returned (.tuple #[.int .i64 (crV s l p e), .int .i64 (rgV (ptB s l p e))]) ∧ Below w.heap.size w w' := by
  cases h : ptB s l p e
  · have HR := Lib.hid (show 0 = crV s l p e by simp [crV, h])
    go_enter Try.func12, Try.ntmps12
    go_wp2_with (go_at_call 78; refine (point_i _ _ _ _ _).mono ?_; rintro e w1 ⟨rfl, hb⟩; obtain ⟨hc, hf⟩ := bcell hb; (try simp only [World.size_drew, World.cell?_drew] at hc); (try simp only [World.size_drew, World.frozen?_drew] at hf); have hz := hb.size; (try simp at hz); (try (have hz0 : w.heap.size < w1.heap.size := by omega)); (try (have hz1 : w.heap.size + 1 < w1.heap.size := by omega)); (try (have hz2 : w.heap.size + 1 + 1 < w1.heap.size := by omega)); (try (have hz3 : w.heap.size + 1 + 1 + 1 < w1.heap.size := by omega)); (try (have r7 := Nat.lt_of_lt_of_le r5 (show _ ≤ w1.heap.size by omega))); (try (have r6 := Nat.lt_of_lt_of_le r4 (show _ ≤ w1.heap.size by omega))); (try (have r5 := Nat.lt_of_lt_of_le r3 (show _ ≤ w1.heap.size by omega))); (try (have r4 := Nat.lt_of_lt_of_le r2 (show _ ≤ w1.heap.size by omega))); (try (have r3 := Nat.lt_of_lt_of_le r1 (show _ ≤ w1.heap.size by omega))); (try (have r2 := Nat.lt_of_succ_le (Nat.le_of_succ_le hz))); (try (have r1 := Nat.lt_of_succ_le hz)); (try (have hg1 := Nat.lt_of_lt_of_le hg1 (show _ ≤ w1.heap.size by omega))); (try (have hg2 := Nat.lt_of_lt_of_le hg2 (show _ ≤ w1.heap.size by omega))); (try (have hg3 := Nat.lt_of_lt_of_le hg3 (show _ ≤ w1.heap.size by omega))); (try (first | have hK := S1.below hK hb | have hK := S1.below (S1.alloc hK _) hb | have hK := S1.below (S1.alloc (S1.alloc hK _) _) hb | have hK := S1.below (S1.drewN hK _) hb)); (try (first | have hK2 := S1.below hK2 hb | have hK2 := S1.below (S1.alloc hK2 _) hb | have hK2 := S1.below (S1.alloc (S1.alloc hK2 _) _) hb | have hK2 := S1.below (S1.drewN hK2 _) hb)); (try (first | have hK3 := S1.below hK3 hb | have hK3 := S1.below (S1.alloc hK3 _) hb | have hK3 := S1.below (S1.alloc (S1.alloc hK3 _) _) hb | have hK3 := S1.below (S1.drewN hK3 _) hb)); (try (first | have hK4 := S1.below hK4 hb | have hK4 := S1.below (S1.alloc hK4 _) hb | have hK4 := S1.below (S1.alloc (S1.alloc hK4 _) _) hb | have hK4 := S1.below (S1.drewN hK4 _) hb)))
    go_ret2
    exact ⟨ret_two HR.out rfl, (by repeat (first | (with_reducible exact Below.refl _ _) | (with_reducible assumption) | (with_reducible refine below_alloc ?_ _) | (with_reducible refine Below.setCell ?_ (by first | omega | (simp; done) | (simp; omega)) _) | (with_reducible refine below_drewN ?_ _) | (with_reducible refine Below.drew ?_) | (with_reducible refine below_tr ?_ (by assumption))))⟩
  · have HR := Lib.hid (show (cnR s l p e (nfS s) : Int) = crV s l p e by simp [crV, h])
    obtain ⟨h1, h2, h3, h4⟩ := ptB_true h
    obtain ⟨l0, l1⟩ := inB_true.1 h2
    obtain ⟨p0, p1⟩ := inB_true.1 h3
    obtain ⟨e0, e1⟩ := inB_true.1 h4
    go_enter Try.func12, Try.ntmps12
    go_wp2_with (first | (go_at_call 78; refine (point_i _ _ _ _ _).mono ?_; rintro e w1 ⟨rfl, hb⟩; obtain ⟨hc, hf⟩ := bcell hb; (try simp only [World.size_drew, World.cell?_drew] at hc); (try simp only [World.size_drew, World.frozen?_drew] at hf); have hz := hb.size; (try simp at hz); (try (have hz0 : w.heap.size < w1.heap.size := by omega)); (try (have hz1 : w.heap.size + 1 < w1.heap.size := by omega)); (try (have hz2 : w.heap.size + 1 + 1 < w1.heap.size := by omega)); (try (have hz3 : w.heap.size + 1 + 1 + 1 < w1.heap.size := by omega)); (try (have r7 := Nat.lt_of_lt_of_le r5 (show _ ≤ w1.heap.size by omega))); (try (have r6 := Nat.lt_of_lt_of_le r4 (show _ ≤ w1.heap.size by omega))); (try (have r5 := Nat.lt_of_lt_of_le r3 (show _ ≤ w1.heap.size by omega))); (try (have r4 := Nat.lt_of_lt_of_le r2 (show _ ≤ w1.heap.size by omega))); (try (have r3 := Nat.lt_of_lt_of_le r1 (show _ ≤ w1.heap.size by omega))); (try (have r2 := Nat.lt_of_succ_le (Nat.le_of_succ_le hz))); (try (have r1 := Nat.lt_of_succ_le hz)); (try (have hg1 := Nat.lt_of_lt_of_le hg1 (show _ ≤ w1.heap.size by omega))); (try (have hg2 := Nat.lt_of_lt_of_le hg2 (show _ ≤ w1.heap.size by omega))); (try (have hg3 := Nat.lt_of_lt_of_le hg3 (show _ ≤ w1.heap.size by omega))); (try (first | have hK := S1.below hK hb | have hK := S1.below (S1.alloc hK _) hb | have hK := S1.below (S1.alloc (S1.alloc hK _) _) hb | have hK := S1.below (S1.drewN hK _) hb)); (try (first | have hK2 := S1.below hK2 hb | have hK2 := S1.below (S1.alloc hK2 _) hb | have hK2 := S1.below (S1.alloc (S1.alloc hK2 _) _) hb | have hK2 := S1.below (S1.drewN hK2 _) hb)); (try (first | have hK3 := S1.below hK3 hb | have hK3 := S1.below (S1.alloc hK3 _) hb | have hK3 := S1.below (S1.alloc (S1.alloc hK3 _) _) hb | have hK3 := S1.below (S1.drewN hK3 _) hb)); (try (first | have hK4 := S1.below hK4 hb | have hK4 := S1.below (S1.alloc hK4 _) hb | have hK4 := S1.below (S1.alloc (S1.alloc hK4 _) _) hb | have hK4 := S1.below (S1.drewN hK4 _) hb))) | (go_at_call 79; refine (readingsAt_i _ _ _ _ _ h1 l0 l1 p0 p1 e0 e1).mono ?_; rintro x w1 ⟨a, cap, rfl, hb⟩))
    go_ret2
    exact ⟨ret_two HR.out rfl, (by repeat (first | (with_reducible exact Below.refl _ _) | (with_reducible assumption) | (with_reducible refine below_alloc ?_ _) | (with_reducible refine Below.setCell ?_ (by first | omega | (simp; done) | (simp; omega)) _) | (with_reducible refine below_drewN ?_ _) | (with_reducible refine Below.drew ?_) | (with_reducible refine below_tr ?_ (by assumption))))⟩
set_option maxHeartbeats 1600000 in
theorem ExactCountReadings (s l p e : Int) (w : World) (_ : (Lit.int .i64 s).wf = true) (_ : (Lit.int .i64 l).wf = true) (_ : (Lit.int .i64 p).wf = true) (_ : (Lit.int .i64 e).wf = true) : Calls Try.prog 3 #[.int .i64 s, .int .i64 l, .int .i64 p, .int .i64 e] w fun x w' => x = .returned (.bool true) ∧ Below w.heap.size w w' := by
  go_enter Try.func3, Try.ntmps3
  go_wp2_with (first | (go_at_call 11; refine (CountReadings_spec _ _ _ _ _).mono ?_; rintro e w1 ⟨rfl, hb⟩; obtain ⟨hc, hf⟩ := bcell hb; (try simp only [World.size_drew, World.cell?_drew] at hc); (try simp only [World.size_drew, World.frozen?_drew] at hf); have hz := hb.size; (try simp at hz); (try (have hz0 : w.heap.size < w1.heap.size := by omega)); (try (have hz1 : w.heap.size + 1 < w1.heap.size := by omega)); (try (have hz2 : w.heap.size + 1 + 1 < w1.heap.size := by omega)); (try (have hz3 : w.heap.size + 1 + 1 + 1 < w1.heap.size := by omega)); (try (have r7 := Nat.lt_of_lt_of_le r5 (show _ ≤ w1.heap.size by omega))); (try (have r6 := Nat.lt_of_lt_of_le r4 (show _ ≤ w1.heap.size by omega))); (try (have r5 := Nat.lt_of_lt_of_le r3 (show _ ≤ w1.heap.size by omega))); (try (have r4 := Nat.lt_of_lt_of_le r2 (show _ ≤ w1.heap.size by omega))); (try (have r3 := Nat.lt_of_lt_of_le r1 (show _ ≤ w1.heap.size by omega))); (try (have r2 := Nat.lt_of_succ_le (Nat.le_of_succ_le hz))); (try (have r1 := Nat.lt_of_succ_le hz)); (try (have hg1 := Nat.lt_of_lt_of_le hg1 (show _ ≤ w1.heap.size by omega))); (try (have hg2 := Nat.lt_of_lt_of_le hg2 (show _ ≤ w1.heap.size by omega))); (try (have hg3 := Nat.lt_of_lt_of_le hg3 (show _ ≤ w1.heap.size by omega))); (try (first | have hK := S1.below hK hb | have hK := S1.below (S1.alloc hK _) hb | have hK := S1.below (S1.alloc (S1.alloc hK _) _) hb | have hK := S1.below (S1.drewN hK _) hb)); (try (first | have hK2 := S1.below hK2 hb | have hK2 := S1.below (S1.alloc hK2 _) hb | have hK2 := S1.below (S1.alloc (S1.alloc hK2 _) _) hb | have hK2 := S1.below (S1.drewN hK2 _) hb)); (try (first | have hK3 := S1.below hK3 hb | have hK3 := S1.below (S1.alloc hK3 _) hb | have hK3 := S1.below (S1.alloc (S1.alloc hK3 _) _) hb | have hK3 := S1.below (S1.drewN hK3 _) hb)); (try (first | have hK4 := S1.below hK4 hb | have hK4 := S1.below (S1.alloc hK4 _) hb | have hK4 := S1.below (S1.alloc (S1.alloc hK4 _) _) hb | have hK4 := S1.below (S1.drewN hK4 _) hb))) | (go_at_call 12; refine (CountReadings_impl _ _ _ _ _).mono ?_; rintro e w1 ⟨rfl, hb⟩; obtain ⟨hc, hf⟩ := bcell hb; (try simp only [World.size_drew, World.cell?_drew] at hc); (try simp only [World.size_drew, World.frozen?_drew] at hf); have hz := hb.size; (try simp at hz); (try (have hz0 : w.heap.size < w1.heap.size := by omega)); (try (have hz1 : w.heap.size + 1 < w1.heap.size := by omega)); (try (have hz2 : w.heap.size + 1 + 1 < w1.heap.size := by omega)); (try (have hz3 : w.heap.size + 1 + 1 + 1 < w1.heap.size := by omega)); (try (have r7 := Nat.lt_of_lt_of_le r5 (show _ ≤ w1.heap.size by omega))); (try (have r6 := Nat.lt_of_lt_of_le r4 (show _ ≤ w1.heap.size by omega))); (try (have r5 := Nat.lt_of_lt_of_le r3 (show _ ≤ w1.heap.size by omega))); (try (have r4 := Nat.lt_of_lt_of_le r2 (show _ ≤ w1.heap.size by omega))); (try (have r3 := Nat.lt_of_lt_of_le r1 (show _ ≤ w1.heap.size by omega))); (try (have r2 := Nat.lt_of_succ_le (Nat.le_of_succ_le hz))); (try (have r1 := Nat.lt_of_succ_le hz)); (try (have hg1 := Nat.lt_of_lt_of_le hg1 (show _ ≤ w1.heap.size by omega))); (try (have hg2 := Nat.lt_of_lt_of_le hg2 (show _ ≤ w1.heap.size by omega))); (try (have hg3 := Nat.lt_of_lt_of_le hg3 (show _ ≤ w1.heap.size by omega))); (try (first | have hK := S1.below hK hb | have hK := S1.below (S1.alloc hK _) hb | have hK := S1.below (S1.alloc (S1.alloc hK _) _) hb | have hK := S1.below (S1.drewN hK _) hb)); (try (first | have hK2 := S1.below hK2 hb | have hK2 := S1.below (S1.alloc hK2 _) hb | have hK2 := S1.below (S1.alloc (S1.alloc hK2 _) _) hb | have hK2 := S1.below (S1.drewN hK2 _) hb)); (try (first | have hK3 := S1.below hK3 hb | have hK3 := S1.below (S1.alloc hK3 _) hb | have hK3 := S1.below (S1.alloc (S1.alloc hK3 _) _) hb | have hK3 := S1.below (S1.drewN hK3 _) hb)); (try (first | have hK4 := S1.below hK4 hb | have hK4 := S1.below (S1.alloc hK4 _) hb | have hK4 := S1.below (S1.alloc (S1.alloc hK4 _) _) hb | have hK4 := S1.below (S1.drewN hK4 _) hb))))
  go_ret
  exact ⟨rfl, (by repeat (first | (with_reducible exact Below.refl _ _) | (with_reducible assumption) | (with_reducible refine below_alloc ?_ _) | (with_reducible refine Below.setCell ?_ (by first | omega | (simp; done) | (simp; omega)) _) | (with_reducible refine below_drewN ?_ _) | (with_reducible refine Below.drew ?_) | (with_reducible refine below_tr ?_ (by assumption))))⟩
end Go.Proofs.Ythmmdcpodadjbaa.C
