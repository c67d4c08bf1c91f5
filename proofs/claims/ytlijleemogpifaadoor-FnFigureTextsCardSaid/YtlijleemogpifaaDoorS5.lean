/- Lists of numbers: rows of int64, the reference's check of a list, the laws' copies. -/
import Derived.Test.YtlijleemogpifaaDoorD1
import Derived.Test.YtlijleemogpifaaDoorS2
import Derived.Deep.OwnRows
namespace Go.Proofs.YtlijleemogpifaaDoor.C
open Go.RowKit Go.Proofs.YtlijleemogpifaaDoor.K
set_option linter.unusedVariables false
set_option linter.unusedSimpArgs false
attribute [local go_sem ↓] Go.wp_at_zero Go.wp_at_succ

/-- a row of int64, element j being f j -/
def Row64 (w : World) (a : Option Addr) (len : Nat) (f : Nat → Int) : Prop :=
  len ≤ 9223372036854775807 ∧ (0 < len → ∃ b off, a = some ⟨b, off, none⟩ ∧ b < w.heap.size ∧ ∀ j, j < len → w.cell? ⟨b, off + j, none⟩ = some (.int .i64 (f j)) ∧ -9223372036854775808 ≤ f j ∧ f j ≤ 9223372036854775807)
theorem i64_wf {z : Int} (h : (Lit.int .i64 z).wf = true) : -9223372036854775808 ≤ z ∧ z ≤ 9223372036854775807 := by
  have e : (Lit.int .i64 z).wf = (decide (-9223372036854775808 ≤ z) && decide (z ≤ 9223372036854775807)) := rfl
  rw [e] at h
  simpa using h
theorem Row64.of_row {w : World} {a : Option Addr} {len cap : Nat} {zs : List Int} (h : IsRow .i64 w a len cap zs) : Row64 w a len (fun j => zs.getD j 0) := by
  rcases h with ⟨rfl, rfl, rfl, rfl⟩ | ⟨x, rfl, hl, hm, hz, hc, hw⟩
  · exact ⟨by omega, fun h => by omega⟩
  · refine ⟨by unfold maxLen at hm; omega, fun h => ?_⟩
    obtain ⟨b, off, rfl, hc'⟩ := ints_at hc (by omega)
    have hs := World.block_lt_of_cell? w _ (hc' 0 (by omega))
    exact ⟨b, off, rfl, hs, fun j hj => ⟨hc' j (by omega), i64_wf (hw _ (getD_mem zs j (by omega)))⟩⟩
theorem Row64.below {w w' : World} {a : Option Addr} {len : Nat} {f : Nat → Int} (h : Row64 w a len f) (k : Below w.heap.size w w') : Row64 w' a len f := by
  refine ⟨h.1, fun hl => ?_⟩
  obtain ⟨b, off, e, hb, hc⟩ := h.2 hl
  have := k.size
  exact ⟨b, off, e, by omega, fun j hj => ⟨by rw [World.cell?_of_block (w := w) (k.block b hb), (hc j hj).1], (hc j hj).2⟩⟩
theorem Row64.drew {w : World} {a : Option Addr} {len : Nat} {f : Nat → Int} (h : Row64 w a len f) : Row64 w.drew a len f := h.below ((Below.refl _ _).drew)
/-- the first k are values -/
def allV (f : Nat → Int) : Nat → Bool
  | 0 => true
  | k + 1 => allV f k && isV (f k)
theorem allV_lt {f : Nat → Int} {j : Nat} : ∀ {k : Nat}, allV f k = true → j < k → isV (f j) = true
  | 0, _, h => by omega
  | k + 1, h, hj => by
    rw [allV, Bool.and_eq_true] at h
    rcases Nat.lt_succ_iff_lt_or_eq.1 hj with h' | rfl
    · exact allV_lt h.1 h'
    · exact h.2
theorem allV_false {f : Nat → Int} {k n : Nat} (hk : k < n) (h : isV (f k) = false) : allV f n = false := by
  cases hn : allV f n
  · rfl
  · rw [allV_lt hn hk] at h; cases h
/-- a list that may be written -/
def lsV (f : Nat → Int) (len : Nat) : Bool := allV f len && decide (len ≤ 100)

set_option maxHeartbeats 1600000 in
theorem list_s (a : Option Addr) (len cap : Nat) (f : Nat → Int) (w : World) (hR : Row64 w a len f) : Calls Tryd.prog 52 #[.slice a len cap] w fun e w' => e = .returned (.bool (lsV f len)) ∧ w = w' := by
  have hl := hR.1
  go_enter Tryd.func52, Tryd.ntmps52
  go_wp2_with fail
  go_loopw [3] (fun i wr => ∃ k : Nat, k ≤ len ∧ i = .int .i64 k ∧ allV f k = true ∧ w = wr) (fun i _ => len - (intOf i).toNat)
  case atStart => exact ⟨0, Nat.zero_le _, rfl, rfl, rfl⟩
  case round =>
    obtain ⟨k, hk, rfl, hA, rfl⟩ := hrel
    by_cases hkl : k < len
    · obtain ⟨b, off, rfl, hb, hc⟩ := hR.2 (by omega)
      obtain ⟨hz, z0, z1⟩ := hc k hkl
      clear hc
      cases hv : isV (f k)
      · have hr : false = lsV f len := by unfold lsV; rw [allV_false hkl hv]; rfl
        have HR := Lib.hid hr; clear hr
        go_wp2_with (go_at_call 63; refine (is_s _ _).mono ?_; rintro e w' ⟨rfl, rfl⟩)
        go_ret
        exact ⟨ret_bool HR.out, rfl⟩
      · go_wp2_with (go_at_call 63; refine (is_s _ _).mono ?_; rintro e w' ⟨rfl, rfl⟩)
        go_roundw
        case rel => exact ⟨k + 1, by omega, by go_num, by rw [allV, hA, hv]; rfl, by trivial⟩
        case measure => simp only [intOf]; omega
    · obtain rfl : k = len := by omega
      have hr : decide ((k : Int) ≤ 100) = lsV f k := by unfold lsV; rw [hA, Bool.true_and]; exact decide_eq_decide.2 (by omega)
      have HR := Lib.hid hr; clear hr
      go_wp2_with fail
      go_ret
      exact ⟨ret_bool HR.out, rfl⟩
theorem infoI : (Tryd.prog.info? 2).map (fun i => (i.zero, i.size, i.bytes)) = some (some (.int .i64 0), 1, 8) := by kernel_rfl
/-- a fresh row, element j being h j -/
def New64 (g len : Nat) (h : Nat → Int) (w : World) : Prop := g < w.heap.size ∧ (∀ j, j < len → w.cell? ⟨g, j, none⟩ = some (.int .i64 (h j))) ∧ ∀ j, w.frozen? ⟨g, j, none⟩ = false
theorem madeCells_get {n j : Nat} (hj : j < n) : (madeCells #[.int .i64 0] n)[j]? = some (.int .i64 0) := by
  simp [madeCells, hj, Nat.mod_one]
theorem New64.new (w : World) (n : Nat) (t : TypeId) : New64 w.heap.size n (fun _ => 0) (w.alloc (.cells (madeCells #[.int .i64 0] n) t)) :=
  ⟨by simp, fun j hj => by rw [World.cell?_alloc_new, madeCells_get hj], fun j => by simp⟩
theorem New64.set {g len : Nat} {h : Nat → Int} {w : World} (H : New64 g len h w) {k : Nat} (hk : k < len) (v : Int) : New64 g len (fun j => if j = k then v else h j) (w.setCell ⟨g, k, none⟩ (.int .i64 v)) := by
  refine ⟨by simpa [World.setCell] using H.1, fun j hj => ?_, fun j => by rw [World.frozen?_setCell]; exact H.2.2 j⟩
  by_cases e : j = k
  · subst e; simp only [if_true]; exact World.cell?_setCell_same _ _ _ (H.2.1 j hj)
  · simp only [if_neg e]; rw [World.cell?_setCell_other _ _ _ _ (by intro h'; cases h'; exact e rfl)]; exact H.2.1 j hj
theorem New64.drew {g len : Nat} {h : Nat → Int} {w : World} (H : New64 g len h w) : New64 g len h w.drew := H
theorem New64.congr {g len : Nat} {h h' : Nat → Int} {w : World} (H : New64 g len h w) (e : ∀ j, j < len → h j = h' j) : New64 g len h' w := ⟨H.1, fun j hj => by rw [H.2.1 j hj, e j hj], H.2.2⟩
set_option maxHeartbeats 1600000 in
theorem to64 (a : Option Addr) (len cap : Nat) (f : Nat → Int) (w : World) (hR : Row64 w a len f) (hn : len ≤ 1048576) : Calls Tryd.prog 17 #[.slice a len cap] w fun e w' => e = .returned (.slice (some ⟨w.heap.size, 0, none⟩) len len) ∧ Row64 w' (some ⟨w.heap.size, 0, none⟩) len f ∧ Below w.heap.size w w' := by
  have hl := hR.1
  have hmk := run_make_row' (P := Tryd.prog) 32 2 (.int .i64 0) 8 Tryd.underlying32 infoI rfl .i64 .i64 len (by omega) (by omega)
  have hN0 := New64.new w len 2
  go_enter Tryd.func17, Tryd.ntmps17
  go_wp2_with fail
  go_loopw [4] (fun i wr => ∃ k : Nat, k ≤ len ∧ i = .int .i64 k ∧ New64 w.heap.size len (fun j => if j < k then f j else 0) wr ∧ Below w.heap.size w wr) (fun i _ => len - (intOf i).toNat)
  case atStart => exact ⟨0, Nat.zero_le _, rfl, hN0.congr (fun j _ => by simp), (by repeat (first | (with_reducible exact Below.refl _ _) | (with_reducible assumption) | (with_reducible refine below_alloc ?_ _) | (with_reducible refine Below.setCell ?_ (by first | omega | (simp; done) | (simp; omega)) _) | (with_reducible refine below_drewN ?_ _) | (with_reducible refine Below.drew ?_) | (with_reducible refine below_tr ?_ (by assumption))))⟩
  case round =>
    obtain ⟨k, hk, rfl, hN, hB⟩ := hrel
    clear hmk hN0
    have HN := Lib.hid hN
    by_cases hkl : k < len
    · obtain ⟨b, off, rfl, hb, hc⟩ := (hR.below hB).2 (by omega)
      obtain ⟨hz, z0, z1⟩ := hc k hkl
      clear hc
      have hz2 := hN.2.1 k hkl
      have hf2 := hN.2.2 k
      clear hN
      go_wp2_with fail
      go_roundw
      case rel => exact ⟨k + 1, by omega, by go_num, (HN.out.set hkl _).congr (fun j hj => by by_cases e : j = k <;> by_cases e' : j < k <;> simp [e, e'] <;> (try omega) <;> (try (intro; omega)) <;> (try (rw [if_pos (by omega)])) <;> (try (rw [if_neg (by omega)]))), (by repeat (first | (with_reducible exact Below.refl _ _) | (with_reducible assumption) | (with_reducible refine below_alloc ?_ _) | (with_reducible refine Below.setCell ?_ (by first | omega | (simp; done) | (simp; omega)) _) | (with_reducible refine below_drewN ?_ _) | (with_reducible refine Below.drew ?_) | (with_reducible refine below_tr ?_ (by assumption))))⟩
      case measure => simp only [intOf]; omega
    · obtain rfl : k = len := by omega
      clear hN
      go_wp2_with fail
      go_ret
      exact ⟨rfl, ⟨hl, fun _ => ⟨_, _, rfl, HN.out.1, fun j hj => ⟨by rw [Nat.zero_add, HN.out.2.1 j hj]; simp only [if_pos hj], by
        obtain ⟨b, off, _, _, hc⟩ := hR.2 (by omega)
        exact (hc j hj).2⟩⟩⟩, hB⟩
set_option maxHeartbeats 1600000 in
theorem eq64 (a b : Option Addr) (len cap cap' : Nat) (f : Nat → Int) (w : World) (hR : Row64 w a len f) (hR' : Row64 w b len f) : Calls Tryd.prog 19 #[.slice a len cap, .slice b len cap'] w fun e w' => e = .returned (.bool true) ∧ Below w.heap.size w w' := by
  have hl := hR.1
  go_enter Tryd.func19, Tryd.ntmps19
  go_wp2_with fail
  go_loopw [5] (fun i wr => ∃ k : Nat, k ≤ len ∧ i = .int .i64 k ∧ Below w.heap.size w wr) (fun i _ => len - (intOf i).toNat)
  case atStart => exact ⟨0, Nat.zero_le _, rfl, (by repeat (first | (with_reducible exact Below.refl _ _) | (with_reducible assumption) | (with_reducible refine below_alloc ?_ _) | (with_reducible refine Below.setCell ?_ (by first | omega | (simp; done) | (simp; omega)) _) | (with_reducible refine below_drewN ?_ _) | (with_reducible refine Below.drew ?_) | (with_reducible refine below_tr ?_ (by assumption))))⟩
  case round =>
    obtain ⟨k, hk, rfl, hB⟩ := hrel
    by_cases hkl : k < len
    · obtain ⟨b1, off1, rfl, hb1, hc1⟩ := (hR.below hB).2 (by omega)
      obtain ⟨b2, off2, rfl, hb2, hc2⟩ := (hR'.below hB).2 (by omega)
      obtain ⟨hz1, y0, y1⟩ := hc1 k hkl
      obtain ⟨hz2, z0, z1⟩ := hc2 k hkl
      clear hc1 hc2
      go_wp2_with fail
      go_quiet (fail)
      go_wp2_with fail
      go_roundw
      case rel => exact ⟨k + 1, by omega, by go_num, hB.trans ⟨rfl, rfl, rfl, Nat.le_refl _, fun _ _ => rfl⟩⟩
      case measure => simp only [intOf]; omega
    · obtain rfl : k = len := by omega
      go_wp2_with fail
      go_ret
      exact ⟨rfl, hB⟩
/-- the first k numbers, with commas -/
def jnB (f : Nat → Int) : Nat → ByteArray
  | 0 => ⟨#[]⟩
  | k + 1 => (if 0 < k then jnB f k ++ ⟨#[44]⟩ else jnB f k) ++ itoB (f k)
theorem isV_bounds {x : Int} (h : isV x = true) : -1000000000000 ≤ x ∧ x ≤ 1000000000000 := isV_true.1 h
theorem jnB_size {f : Nat → Int} : ∀ {k : Nat}, allV f k = true → (jnB f k).size ≤ 18 * k
  | 0, _ => by rw [jnB]; exact Nat.le_refl _
  | k + 1, h => by
    rw [allV, Bool.and_eq_true] at h
    have h1 := jnB_size h.1
    obtain ⟨a0, a1⟩ := isV_bounds h.2
    have h2 := itoB_size (n := f k) (by omega) (by omega)
    rw [jnB, ByteArray.size_append]
    split
    · rw [ByteArray.size_append]
      have : (⟨#[44]⟩ : ByteArray).size = 1 := rfl
      omega
    · omega
set_option maxHeartbeats 3200000 in
theorem join_s (a : Option Addr) (len cap : Nat) (f : Nat → Int) (w : World) (hR : Row64 w a len f) (hV : allV f len = true) (hn : len ≤ 100) : Calls Tryd.prog 82 #[.slice a len cap, .string ⟨#[44]⟩] w fun e w' => e = .returned (.string (jnB f len)) ∧ Below w.heap.size w w' := by
  have hl := hR.1
  have h44 : (⟨#[44]⟩ : ByteArray).size = 1 := rfl
  go_enter Tryd.func82, Tryd.ntmps82
  go_wp2_with fail
  go_loopw [5, 6] (fun s i wr => ∃ k : Nat, k ≤ len ∧ s = .string (jnB f k) ∧ i = .int .i64 k ∧ Below w.heap.size w wr) (fun _ i _ => len - (intOf i).toNat)
  case atStart => exact ⟨0, Nat.zero_le _, rfl, rfl, (by repeat (first | (with_reducible exact Below.refl _ _) | (with_reducible assumption) | (with_reducible refine below_alloc ?_ _) | (with_reducible refine Below.setCell ?_ (by first | omega | (simp; done) | (simp; omega)) _) | (with_reducible refine below_drewN ?_ _) | (with_reducible refine Below.drew ?_) | (with_reducible refine below_tr ?_ (by assumption))))⟩
  case round =>
    obtain ⟨k, hk, rfl, rfl, hB⟩ := hrel
    by_cases hkl : k < len
    · obtain ⟨b, off, rfl, hb, hc⟩ := (hR.below hB).2 (by omega)
      obtain ⟨hz, z0, z1⟩ := hc k hkl
      clear hc
      have hv := isV_bounds (allV_lt hV hkl)
      have hVk : allV f k = true := by
        cases hh : allV f k
        · exfalso
          clear hz
          have : ∀ m, k ≤ m → allV f m = false := fun m hm => by
            induction m with
            | zero => obtain rfl : k = 0 := by omega
                      exact hh
            | succ m ih => rcases Nat.lt_or_ge m k with h' | h'
                           · obtain rfl : k = m + 1 := by omega
                             exact hh
                           · rw [allV, ih h']; rfl
          rw [this len hk] at hV; cases hV
        · rfl
      have hs := jnB_size hVk
      have hi := itoB_size (n := f k) (by omega) (by omega)
      have h1 : ¬ 9223372036854775807 < (jnB f k).size + 1 := by omega
      have h2 : ¬ 9223372036854775807 < (jnB f k).size + (itoB (f k)).size := by omega
      have h3 : ¬ 9223372036854775807 < (jnB f k).size + 1 + (itoB (f k)).size := by omega
      by_cases k0 : 0 < k
      · have e : jnB f k ++ ⟨#[44]⟩ ++ itoB (f k) = jnB f (k + 1) := by rw [jnB, if_pos k0]
        have HE := Lib.hid e; clear e
        have k0' : (0 : Int) < k := by omega
        go_wp2_with (go_at_call 81; refine (number_s _ _ (by omega) (by omega)).mono ?_; rintro e w1 ⟨rfl, hb⟩; obtain ⟨hc, hf⟩ := bcell hb; (try simp only [World.size_drew, World.cell?_drew] at hc); (try simp only [World.size_drew, World.frozen?_drew] at hf); have hz := hb.size; (try simp at hz); (try (have hz0 : w.heap.size < w1.heap.size := by omega)); (try (have hz1 : w.heap.size + 1 < w1.heap.size := by omega)); (try (have hz2 : w.heap.size + 1 + 1 < w1.heap.size := by omega)); (try (have hz3 : w.heap.size + 1 + 1 + 1 < w1.heap.size := by omega)); (try (have r7 := Nat.lt_of_lt_of_le r5 (show _ ≤ w1.heap.size by omega))); (try (have r6 := Nat.lt_of_lt_of_le r4 (show _ ≤ w1.heap.size by omega))); (try (have r5 := Nat.lt_of_lt_of_le r3 (show _ ≤ w1.heap.size by omega))); (try (have r4 := Nat.lt_of_lt_of_le r2 (show _ ≤ w1.heap.size by omega))); (try (have r3 := Nat.lt_of_lt_of_le r1 (show _ ≤ w1.heap.size by omega))); (try (have r2 := Nat.lt_of_succ_le (Nat.le_of_succ_le hz))); (try (have r1 := Nat.lt_of_succ_le hz)); (try (have hg1 := Nat.lt_of_lt_of_le hg1 (show _ ≤ w1.heap.size by omega))); (try (have hg2 := Nat.lt_of_lt_of_le hg2 (show _ ≤ w1.heap.size by omega))); (try (have hg3 := Nat.lt_of_lt_of_le hg3 (show _ ≤ w1.heap.size by omega))); (try (first | have hK := S1.below hK hb | have hK := S1.below (S1.alloc hK _) hb | have hK := S1.below (S1.alloc (S1.alloc hK _) _) hb | have hK := S1.below (S1.drewN hK _) hb)); (try (first | have hK2 := S1.below hK2 hb | have hK2 := S1.below (S1.alloc hK2 _) hb | have hK2 := S1.below (S1.alloc (S1.alloc hK2 _) _) hb | have hK2 := S1.below (S1.drewN hK2 _) hb)); (try (first | have hK3 := S1.below hK3 hb | have hK3 := S1.below (S1.alloc hK3 _) hb | have hK3 := S1.below (S1.alloc (S1.alloc hK3 _) _) hb | have hK3 := S1.below (S1.drewN hK3 _) hb)); (try (first | have hK4 := S1.below hK4 hb | have hK4 := S1.below (S1.alloc hK4 _) hb | have hK4 := S1.below (S1.alloc (S1.alloc hK4 _) _) hb | have hK4 := S1.below (S1.drewN hK4 _) hb)))
        go_roundw
        case rel => exact ⟨k + 1, by omega, by rw [← HE.out], by go_num, (by repeat (first | (with_reducible exact Below.refl _ _) | (with_reducible assumption) | (with_reducible refine below_alloc ?_ _) | (with_reducible refine Below.setCell ?_ (by first | omega | (simp; done) | (simp; omega)) _) | (with_reducible refine below_drewN ?_ _) | (with_reducible refine Below.drew ?_) | (with_reducible refine below_tr ?_ (by assumption))))⟩
        case measure => simp only [intOf]; omega
      · have e : jnB f k ++ itoB (f k) = jnB f (k + 1) := by rw [jnB, if_neg k0]
        have HE := Lib.hid e; clear e
        have k0' : ¬ (0 : Int) < k := by omega
        go_wp2_with (go_at_call 81; refine (number_s _ _ (by omega) (by omega)).mono ?_; rintro e w1 ⟨rfl, hb⟩; obtain ⟨hc, hf⟩ := bcell hb; (try simp only [World.size_drew, World.cell?_drew] at hc); (try simp only [World.size_drew, World.frozen?_drew] at hf); have hz := hb.size; (try simp at hz); (try (have hz0 : w.heap.size < w1.heap.size := by omega)); (try (have hz1 : w.heap.size + 1 < w1.heap.size := by omega)); (try (have hz2 : w.heap.size + 1 + 1 < w1.heap.size := by omega)); (try (have hz3 : w.heap.size + 1 + 1 + 1 < w1.heap.size := by omega)); (try (have r7 := Nat.lt_of_lt_of_le r5 (show _ ≤ w1.heap.size by omega))); (try (have r6 := Nat.lt_of_lt_of_le r4 (show _ ≤ w1.heap.size by omega))); (try (have r5 := Nat.lt_of_lt_of_le r3 (show _ ≤ w1.heap.size by omega))); (try (have r4 := Nat.lt_of_lt_of_le r2 (show _ ≤ w1.heap.size by omega))); (try (have r3 := Nat.lt_of_lt_of_le r1 (show _ ≤ w1.heap.size by omega))); (try (have r2 := Nat.lt_of_succ_le (Nat.le_of_succ_le hz))); (try (have r1 := Nat.lt_of_succ_le hz)); (try (have hg1 := Nat.lt_of_lt_of_le hg1 (show _ ≤ w1.heap.size by omega))); (try (have hg2 := Nat.lt_of_lt_of_le hg2 (show _ ≤ w1.heap.size by omega))); (try (have hg3 := Nat.lt_of_lt_of_le hg3 (show _ ≤ w1.heap.size by omega))); (try (first | have hK := S1.below hK hb | have hK := S1.below (S1.alloc hK _) hb | have hK := S1.below (S1.alloc (S1.alloc hK _) _) hb | have hK := S1.below (S1.drewN hK _) hb)); (try (first | have hK2 := S1.below hK2 hb | have hK2 := S1.below (S1.alloc hK2 _) hb | have hK2 := S1.below (S1.alloc (S1.alloc hK2 _) _) hb | have hK2 := S1.below (S1.drewN hK2 _) hb)); (try (first | have hK3 := S1.below hK3 hb | have hK3 := S1.below (S1.alloc hK3 _) hb | have hK3 := S1.below (S1.alloc (S1.alloc hK3 _) _) hb | have hK3 := S1.below (S1.drewN hK3 _) hb)); (try (first | have hK4 := S1.below hK4 hb | have hK4 := S1.below (S1.alloc hK4 _) hb | have hK4 := S1.below (S1.alloc (S1.alloc hK4 _) _) hb | have hK4 := S1.below (S1.drewN hK4 _) hb)))
        go_roundw
        case rel => exact ⟨k + 1, by omega, by rw [← HE.out], by go_num, (by repeat (first | (with_reducible exact Below.refl _ _) | (with_reducible assumption) | (with_reducible refine below_alloc ?_ _) | (with_reducible refine Below.setCell ?_ (by first | omega | (simp; done) | (simp; omega)) _) | (with_reducible refine below_drewN ?_ _) | (with_reducible refine Below.drew ?_) | (with_reducible refine below_tr ?_ (by assumption))))⟩
        case measure => simp only [intOf]; omega
    · obtain rfl : k = len := by omega
      go_wp2_with fail
      go_ret
      exact ⟨rfl, hB⟩
end Go.Proofs.YtlijleemogpifaaDoor.C
