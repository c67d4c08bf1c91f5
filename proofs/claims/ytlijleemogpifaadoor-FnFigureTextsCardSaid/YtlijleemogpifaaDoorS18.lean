/- The law on lists: plain facts, the draws. -/
import Derived.Test.YtlijleemogpifaaDoorS14
import Derived.Test.YtlijleemogpifaaDoorD4
import Derived.Test.YtlijleemogpifaaDoorD9
namespace Go.Proofs.YtlijleemogpifaaDoor.C
open Go.RowKit Go.Proofs.YtlijleemogpifaaDoor.K
set_option linter.unusedVariables false
set_option linter.unusedSimpArgs false
attribute [local go_sem ↓] Go.wp_at_zero Go.wp_at_succ

theorem dec_no44 (n : Nat) : ∀ c ∈ Lib.decDigits n, c ≠ 44 := by
  induction n using Nat.strongRecOn with
  | _ n ih =>
    by_cases h : n < 10
    · rw [Lib.decDigits_one h]
      intro c hc e
      obtain rfl := List.mem_singleton.1 hc
      have := congrArg UInt8.toNat e
      rw [UInt8.toNat_ofNat'] at this
      have h44 : (44 : UInt8).toNat = 44 := rfl
      omega
    · rw [Lib.decDigits, dif_neg h]
      intro c hc
      rcases List.mem_append.1 hc with hc | hc
      · exact ih (n / 10) (by omega) c hc
      · intro e
        obtain rfl := List.mem_singleton.1 hc
        have := congrArg UInt8.toNat e
        rw [UInt8.toNat_ofNat'] at this
        have h44 : (44 : UInt8).toNat = 44 := rfl
        omega
theorem itoa_no44 (n : Int) : ∀ c ∈ Lib.itoa n, c ≠ 44 := by
  unfold Lib.itoa
  split
  · intro c hc
    rcases List.mem_cons.1 hc with rfl | hc
    · decide
    · exact dec_no44 _ c hc
  · exact dec_no44 _
theorem prt_get (f : Nat → Int) : ∀ (k j : Nat), j < k → (prt f k)[j]? = some (itoB (f j))
  | 0, j, h => by omega
  | k + 1, j, h => by
    rw [prt]
    by_cases hj : j < k
    · rw [List.getElem?_append_left (by rw [prt_length]; exact hj)]; exact prt_get f k j hj
    · obtain rfl : j = k := by omega
      rw [List.getElem?_append_right (by rw [prt_length]; exact Nat.le_refl _), prt_length, Nat.sub_self]
      rfl
theorem prt_mem (f : Nat → Int) : ∀ (k : Nat), ∀ x ∈ prt f k, ∃ j, x = itoB (f j)
  | 0, x, h => by cases h
  | k + 1, x, h => by
    rw [prt] at h
    rcases List.mem_append.1 h with h | h
    · exact prt_mem f k x h
    · exact ⟨k, List.mem_singleton.1 h⟩
theorem prt_eq {f : Nat → Int} {xs : List ByteArray} (h : ∀ j (hj : j < xs.length), xs[j] = itoB (f j)) : prt f xs.length = xs := by
  apply List.ext_getElem?
  intro j
  by_cases hj : j < xs.length
  · rw [prt_get f _ j hj, List.getElem?_eq_getElem hj, h j hj]
  · rw [List.getElem?_eq_none (by rw [prt_length]; omega), List.getElem?_eq_none (by omega)]
/-- a text that is read as a list is the text of that list -/
theorem rl_back {s : ByteArray} (h : rlK s = true) : lsV (rlV s) (rlN s) = true ∧ ltB (rlV s) (rlN s) = s := by
  unfold rlK at h
  cases hd : rlD s
  · rw [hd, Bool.false_or] at h
    have hN : rlN s = (wds s).length := by unfold rlN; rw [hd, h]; rfl
    have hl : lsV (rlV s) (wds s).length = true := by
      unfold rlB at h
      rw [Bool.and_eq_true] at h
      exact h.2
    rw [hN]
    refine ⟨hl, ?_⟩
    have hn0 : (wds s).length ≠ 0 := by have := wds_length s; omega
    unfold ltB txB
    rw [if_pos hl, if_neg hn0]
    have hp : prt (rlV s) (wds s).length = wds s := prt_eq fun j hj => by
      obtain ⟨n, _, _, e, v⟩ := sg_back (((rlB_iff s).1 h).1 j hj).1
      unfold rlV atV
      rw [getD_at hj, v]
      exact e
    apply ByteArray.ext
    apply Array.toList_inj.1
    rw [← prt_join, hp, wds_cut, cut44_join]
  · have hN : rlN s = 0 := by unfold rlN; rw [hd]; rfl
    rw [hN]
    refine ⟨rfl, ?_⟩
    unfold rlD at hd
    show (⟨#[45]⟩ : ByteArray) = s
    have e := eq_of_beq hd
    apply ByteArray.ext
    apply Array.toList_inj.1
    rw [ByteArray.toList_eq] at e
    exact e.symm
/-- the text of a list is read as the list -/
theorem rl_text {f : Nat → Int} {n : Nat} (h : lsV f n = true) : rlK (ltB f n) = true ∧ rlN (ltB f n) = n ∧ ∀ j, j < n → rlV (ltB f n) j = f j := by
  have hp := h
  unfold lsV at hp
  rw [Bool.and_eq_true, decide_eq_true_eq] at hp
  obtain ⟨hA, hn⟩ := hp
  by_cases h0 : n = 0
  · subst h0
    have e : ltB f 0 = ⟨#[45]⟩ := by unfold ltB txB; rw [if_pos h]; rfl
    have hd : rlD ⟨#[45]⟩ = true := by decide +kernel
    rw [e]
    refine ⟨by unfold rlK; rw [hd]; rfl, by unfold rlN; rw [hd]; rfl, fun j hj => by omega⟩
  · have e : ltB f n = jnB f n := by unfold ltB txB; rw [if_pos h, if_neg h0]
    have hb : ∀ j, j < n → -1000000000000 ≤ f j ∧ f j ≤ 1000000000000 := fun j hj => isV_bounds (allV_lt hA hj)
    have hw : wds (jnB f n) = prt f n := by
      apply map_data_inj
      rw [wds_cut, ← prt_join]
      refine cut44_of_join _ (fun e => ?_) fun x hx => ?_
      · have := congrArg List.length e
        rw [List.length_map, prt_length] at this
        exact h0 this
      · obtain ⟨y, hy, rfl⟩ := List.mem_map.1 hx
        obtain ⟨j, rfl⟩ := prt_mem f n y hy
        exact itoa_no44 _
    have hlen : (wds (jnB f n)).length = n := by rw [hw, prt_length]
    have hget : ∀ j (hj : j < (wds (jnB f n)).length), (wds (jnB f n))[j] = itoB (f j) := fun j hj => by
      have h1 : (wds (jnB f n))[j]? = some (itoB (f j)) := by rw [hw]; exact prt_get f n j (by omega)
      rw [List.getElem?_eq_getElem hj] at h1
      exact Option.some.inj h1
    have hB : rlB (jnB f n) = true := (rlB_iff _).2 ⟨fun j hj => by
      have := hb j (by omega)
      obtain ⟨a, b⟩ := sg_dec (n := f j) (by omega) (by omega)
      rw [hget j hj, a, b]
      exact ⟨rfl, allV_lt hA (by omega)⟩, by omega⟩
    have hD : rlD (jnB f n) = false := by
      cases hd : rlD (jnB f n)
      · rfl
      · exfalso
        have h1 := hget 0 (by omega)
        unfold rlD at hd
        have e1 := eq_of_beq hd
        rw [ByteArray.toList_eq] at e1
        have e2 : jnB f n = ⟨#[45]⟩ := ByteArray.ext (Array.toList_inj.1 e1)
        have h2 : (wds (jnB f n))[0]? = some (itoB (f 0)) := by rw [List.getElem?_eq_getElem (by omega), h1]
        rw [e2] at h2
        have h3 : wds ⟨#[45]⟩ = [⟨#[45]⟩] := by
          apply map_data_inj
          rw [wds_cut]
          decide
        rw [h3] at h2
        have h4 : (⟨#[45]⟩ : ByteArray) = itoB (f 0) := Option.some.inj h2
        have := hb 0 (by omega)
        obtain ⟨a, _⟩ := sg_dec (n := f 0) (by omega) (by omega)
        rw [← h4] at a
        have : sgK ⟨#[45]⟩ = false := by decide +kernel
        rw [this] at a
        cases a
    rw [e]
    refine ⟨by unfold rlK; rw [hD, hB]; rfl, by unfold rlN; rw [hD, hB]; exact hlen, fun j hj => ?_⟩
    unfold rlV atV
    have := hb j hj
    rw [getD_at (show j < (wds (jnB f n)).length by omega), hget j (by omega), (sg_dec (n := f j) (by omega) (by omega)).2]
theorem ltB_size (f : Nat → Int) (n : Nat) : (ltB f n).size ≤ 1800 := by
  unfold ltB
  split
  · rename_i h
    unfold lsV at h
    rw [Bool.and_eq_true, decide_eq_true_eq] at h
    unfold txB
    split
    · show 1 ≤ 1800; omega
    · have := jnB_size h.1
      omega
  · exact Nat.zero_le _
set_option maxHeartbeats 1600000 in
theorem like64 (a b : Option Addr) (len cap cap' : Nat) (f : Nat → Int) (w : World) (hR : Row64 w a len f) (hR' : Row64 w b len f) : Calls Tryd.prog 34 #[.slice a len cap, .slice b len cap'] w fun e w' => e = .returned (.bool true) ∧ Below w.heap.size w w' := by
  have hl := hR.1
  go_enter Tryd.func34, Tryd.ntmps34
  go_wp2_with fail
  go_loopw [5] (fun i wr => ∃ k : Nat, k ≤ len ∧ i = .int .i64 k ∧ Below w.heap.size w wr) (fun i _ => len - (intOf i).toNat)
  case atStart => exact ⟨0, Nat.zero_le _, rfl, (by repeat (first | (with_reducible exact Below.refl _ _) | (with_reducible assumption) | (with_reducible refine below_alloc ?_ _) | (with_reducible refine Below.setCell ?_ (by first | omega | (simp; done) | (simp; omega)) _) | (with_reducible refine below_drewN ?_ _) | (with_reducible refine Below.drew ?_) | (with_reducible refine below_tr ?_ (by assumption))))⟩
  case round =>
    obtain ⟨k, hk, rfl, hB⟩ := hrel
    by_cases hkl : k < len
    · obtain ⟨b1, off1, rfl, hb1, hc1⟩ := (hR.below hB).2 (by omega)
      obtain ⟨b2, off2, rfl, hb2, hc2⟩ := (hR'.below hB).2 (by omega)
      obtain ⟨hz1, y0, y1⟩ := hc1 k hkl
      obtain ⟨hz2, z0, z1⟩ := hc2 k hkl
      clear hc1 hc2
      go_wp2_with fail
      go_quiet (fail)
      go_wp2_with fail
      go_roundw
      case rel => exact ⟨k + 1, by omega, by go_num, hB.trans ⟨rfl, rfl, rfl, Nat.le_refl _, fun _ _ => rfl⟩⟩
      case measure => simp only [intOf]; omega
    · obtain rfl : k = len := by omega
      go_wp2_with fail
      go_ret
      exact ⟨rfl, hB⟩
/-- what is drawn as a value is a small number -/
def dvB (v : Int) : Prop := -2000000000000 ≤ v ∧ v ≤ 2000000000000
set_option maxHeartbeats 1600000 in
theorem drawValue_b (g : Nat) (a : Option Addr) (len cap : Nat) (w : World) (hS : Src g a len cap w) :
    Calls Tryd.prog 61 #[.pointer (some ⟨g, 0, none⟩)] w fun e w' => ∃ r : Int, e = .returned (.int .i64 r) ∧ dvB r ∧ Src g a len cap w' ∧ But g w w' := by
  go_enter Tryd.func61, Tryd.ntmps61
  go_wp2_with (first | (go_at_call 56; refine (next_s _ a len cap _ _ (by repeat (first | (with_reducible assumption) | (with_reducible refine Src.drewN ?_ _) | (with_reducible refine Src.drew ?_) | (with_reducible refine Src.alloc ?_ _) | (with_reducible refine Src.setNew ?_ (by omega) _) | (with_reducible refine Src.below ?_ (by assumption)))) (by omega)).mono ?_; rintro e w1 ⟨r, rfl, r0, r1, r2, hS1, hB1⟩; obtain ⟨hc, hf⟩ := bbut hB1; (try simp only [World.size_drew, World.cell?_drew, World.heap_drewN, World.cell?_drewN] at hc); (try simp only [World.size_drew, World.frozen?_drew, World.heap_drewN, World.frozen?_drewN] at hf); have hz := hB1.size; (try simp at hz); (try (have hz0 : w.heap.size < w1.heap.size := by omega)); (try (have hz1 : w.heap.size + 1 < w1.heap.size := by omega)); (try (have hz2 : w.heap.size + 1 + 1 < w1.heap.size := by omega)); (try (have hz3 : w.heap.size + 1 + 1 + 1 < w1.heap.size := by omega)); (try (have r7 := Nat.lt_of_lt_of_le r5 (show _ ≤ w1.heap.size by omega))); (try (have r6 := Nat.lt_of_lt_of_le r4 (show _ ≤ w1.heap.size by omega))); (try (have r5 := Nat.lt_of_lt_of_le r3 (show _ ≤ w1.heap.size by omega))); (try (have r4 := Nat.lt_of_lt_of_le r2 (show _ ≤ w1.heap.size by omega))); (try (have r3 := Nat.lt_of_lt_of_le r1 (show _ ≤ w1.heap.size by omega))); (try (have r2 := Nat.lt_of_succ_le (Nat.le_of_succ_le hz))); (try (have r1 := Nat.lt_of_succ_le hz)); (try (have hg1 := Nat.lt_of_lt_of_le hg1 (show _ ≤ w1.heap.size by omega))); (try (have hg2 := Nat.lt_of_lt_of_le hg2 (show _ ≤ w1.heap.size by omega))); (try (have hg3 := Nat.lt_of_lt_of_le hg3 (show _ ≤ w1.heap.size by omega))); (try (have hn0 := Nat.ne_of_gt hS1.1)); (try (have hq0 := Nat.ne_of_lt hz0)); (try (have hq1 := Nat.ne_of_gt hz0)); (try (have hq2 := Nat.ne_of_lt hz1)); (try (have hq3 := Nat.ne_of_gt hz1)); (try (have hT : S1 w.heap.size 0 0 w1 := by (first | (with_reducible exact S1.but hT hB1 (by omega)) | (with_reducible exact S1.below hT hb) | (with_reducible exact S1.but (S1.alloc hT _) hB1 (by omega)) | (with_reducible exact S1.below (S1.alloc hT _) hb) | (with_reducible exact S1.but (S1.drewN hT _) hB1 (by omega)) | (with_reducible exact S1.below (S1.drewN hT _) hb) | (with_reducible exact S1.but (S1.alloc (S1.alloc hT _) _) hB1 (by omega)) | (with_reducible exact S1.below (S1.alloc (S1.alloc hT _) _) hb) | (with_reducible exact S1.but (S1.drew hT) hB1 (by omega)) | (with_reducible exact S1.below (S1.drew hT) hb) | (with_reducible exact S1.but (S1.alloc (S1.drewN hT _) _) hB1 (by omega)) | (with_reducible exact S1.below (S1.alloc (S1.drewN hT _) _) hb) | (with_reducible exact S1.but (S1.drewN (S1.alloc hT _) _) hB1 (by omega)) | (with_reducible exact S1.below (S1.drewN (S1.alloc hT _) _) hb) | (with_reducible exact S1.but (S1.new _ _ _ _) hB1 (by omega)) | (with_reducible exact S1.below (S1.new _ _ _ _) hb) | (with_reducible exact S1.but (S1.alloc (S1.new _ _ _ _) _) hB1 (by omega)) | (with_reducible exact S1.below (S1.alloc (S1.new _ _ _ _) _) hb) | (with_reducible exact S1.but (S1.drewN (S1.new _ _ _ _) _) hB1 (by omega)) | (with_reducible exact S1.below (S1.drewN (S1.new _ _ _ _) _) hb) | (with_reducible exact S1.but (S1.alloc (S1.alloc (S1.new _ _ _ _) _) _) hB1 (by omega)) | (with_reducible exact S1.below (S1.alloc (S1.alloc (S1.new _ _ _ _) _) _) hb) | (with_reducible exact S1.but (S1.drew (S1.new _ _ _ _)) hB1 (by omega)) | (with_reducible exact S1.below (S1.drew (S1.new _ _ _ _)) hb) | (with_reducible exact S1.but (S1.alloc (S1.drewN (S1.new _ _ _ _) _) _) hB1 (by omega)) | (with_reducible exact S1.below (S1.alloc (S1.drewN (S1.new _ _ _ _) _) _) hb) | (with_reducible exact S1.but (S1.drewN (S1.alloc (S1.new _ _ _ _) _) _) hB1 (by omega)) | (with_reducible exact S1.below (S1.drewN (S1.alloc (S1.new _ _ _ _) _) _) hb) | (with_reducible exact S1.but (S1.alloc (S1.new _ _ _ _) _) hB1 (by omega)) | (with_reducible exact S1.below (S1.alloc (S1.new _ _ _ _) _) hb) | (with_reducible exact S1.but (S1.alloc (S1.alloc (S1.new _ _ _ _) _) _) hB1 (by omega)) | (with_reducible exact S1.below (S1.alloc (S1.alloc (S1.new _ _ _ _) _) _) hb) | (with_reducible exact S1.but (S1.drewN (S1.alloc (S1.new _ _ _ _) _) _) hB1 (by omega)) | (with_reducible exact S1.below (S1.drewN (S1.alloc (S1.new _ _ _ _) _) _) hb) | (with_reducible exact S1.but (S1.alloc (S1.alloc (S1.alloc (S1.new _ _ _ _) _) _) _) hB1 (by omega)) | (with_reducible exact S1.below (S1.alloc (S1.alloc (S1.alloc (S1.new _ _ _ _) _) _) _) hb) | (with_reducible exact S1.but (S1.drew (S1.alloc (S1.new _ _ _ _) _)) hB1 (by omega)) | (with_reducible exact S1.below (S1.drew (S1.alloc (S1.new _ _ _ _) _)) hb) | (with_reducible exact S1.but (S1.alloc (S1.drewN (S1.alloc (S1.new _ _ _ _) _) _) _) hB1 (by omega)) | (with_reducible exact S1.below (S1.alloc (S1.drewN (S1.alloc (S1.new _ _ _ _) _) _) _) hb) | (with_reducible exact S1.but (S1.drewN (S1.alloc (S1.alloc (S1.new _ _ _ _) _) _) _) hB1 (by omega)) | (with_reducible exact S1.below (S1.drewN (S1.alloc (S1.alloc (S1.new _ _ _ _) _) _) _) hb)))); (try (have hT2 : S1 (w.heap.size + 1) 0 0 w1 := by (first | (with_reducible exact S1.but hT2 hB1 (by omega)) | (with_reducible exact S1.below hT2 hb) | (with_reducible exact S1.but (S1.alloc hT2 _) hB1 (by omega)) | (with_reducible exact S1.below (S1.alloc hT2 _) hb) | (with_reducible exact S1.but (S1.drewN hT2 _) hB1 (by omega)) | (with_reducible exact S1.below (S1.drewN hT2 _) hb) | (with_reducible exact S1.but (S1.alloc (S1.alloc hT2 _) _) hB1 (by omega)) | (with_reducible exact S1.below (S1.alloc (S1.alloc hT2 _) _) hb) | (with_reducible exact S1.but (S1.drew hT2) hB1 (by omega)) | (with_reducible exact S1.below (S1.drew hT2) hb) | (with_reducible exact S1.but (S1.alloc (S1.drewN hT2 _) _) hB1 (by omega)) | (with_reducible exact S1.below (S1.alloc (S1.drewN hT2 _) _) hb) | (with_reducible exact S1.but (S1.drewN (S1.alloc hT2 _) _) hB1 (by omega)) | (with_reducible exact S1.below (S1.drewN (S1.alloc hT2 _) _) hb) | (with_reducible exact S1.but (S1.new' _ _ _ _ _ World.size_alloc.symm) hB1 (by omega)) | (with_reducible exact S1.below (S1.new' _ _ _ _ _ World.size_alloc.symm) hb) | (with_reducible exact S1.but (S1.alloc (S1.new' _ _ _ _ _ World.size_alloc.symm) _) hB1 (by omega)) | (with_reducible exact S1.below (S1.alloc (S1.new' _ _ _ _ _ World.size_alloc.symm) _) hb) | (with_reducible exact S1.but (S1.drewN (S1.new' _ _ _ _ _ World.size_alloc.symm) _) hB1 (by omega)) | (with_reducible exact S1.below (S1.drewN (S1.new' _ _ _ _ _ World.size_alloc.symm) _) hb) | (with_reducible exact S1.but (S1.alloc (S1.alloc (S1.new' _ _ _ _ _ World.size_alloc.symm) _) _) hB1 (by omega)) | (with_reducible exact S1.below (S1.alloc (S1.alloc (S1.new' _ _ _ _ _ World.size_alloc.symm) _) _) hb) | (with_reducible exact S1.but (S1.drew (S1.new' _ _ _ _ _ World.size_alloc.symm)) hB1 (by omega)) | (with_reducible exact S1.below (S1.drew (S1.new' _ _ _ _ _ World.size_alloc.symm)) hb) | (with_reducible exact S1.but (S1.alloc (S1.drewN (S1.new' _ _ _ _ _ World.size_alloc.symm) _) _) hB1 (by omega)) | (with_reducible exact S1.below (S1.alloc (S1.drewN (S1.new' _ _ _ _ _ World.size_alloc.symm) _) _) hb) | (with_reducible exact S1.but (S1.drewN (S1.alloc (S1.new' _ _ _ _ _ World.size_alloc.symm) _) _) hB1 (by omega)) | (with_reducible exact S1.below (S1.drewN (S1.alloc (S1.new' _ _ _ _ _ World.size_alloc.symm) _) _) hb))))) | (go_at_call 60; refine (pick_a dvB _ _ _ a len cap _ _ (by repeat (first | (with_reducible assumption) | (with_reducible refine Src.drewN ?_ _) | (with_reducible refine Src.drew ?_) | (with_reducible refine Src.alloc ?_ _) | (with_reducible refine Src.setNew ?_ (by omega) _) | (with_reducible refine Src.below ?_ (by assumption)))) (by omega) (by omega) ?_).mono ?_; (intro j hj; rcases j with _ | _ | _ | _ | _ | _ | _ | _ | _ | _ | _ | _ | j <;> first | exact ⟨_, (by unfold dvB; omega), rfl⟩ | omega); rintro e w1 ⟨r, rfl, hp, hS1, hB1⟩; obtain ⟨hc, hf⟩ := bbut hB1; (try simp only [World.size_drew, World.cell?_drew, World.heap_drewN, World.cell?_drewN] at hc); (try simp only [World.size_drew, World.frozen?_drew, World.heap_drewN, World.frozen?_drewN] at hf); have hz := hB1.size; (try simp at hz); (try (have hz0 : w.heap.size < w1.heap.size := by omega)); (try (have hz1 : w.heap.size + 1 < w1.heap.size := by omega)); (try (have hz2 : w.heap.size + 1 + 1 < w1.heap.size := by omega)); (try (have hz3 : w.heap.size + 1 + 1 + 1 < w1.heap.size := by omega)); (try (have r7 := Nat.lt_of_lt_of_le r5 (show _ ≤ w1.heap.size by omega))); (try (have r6 := Nat.lt_of_lt_of_le r4 (show _ ≤ w1.heap.size by omega))); (try (have r5 := Nat.lt_of_lt_of_le r3 (show _ ≤ w1.heap.size by omega))); (try (have r4 := Nat.lt_of_lt_of_le r2 (show _ ≤ w1.heap.size by omega))); (try (have r3 := Nat.lt_of_lt_of_le r1 (show _ ≤ w1.heap.size by omega))); (try (have r2 := Nat.lt_of_succ_le (Nat.le_of_succ_le hz))); (try (have r1 := Nat.lt_of_succ_le hz)); (try (have hg1 := Nat.lt_of_lt_of_le hg1 (show _ ≤ w1.heap.size by omega))); (try (have hg2 := Nat.lt_of_lt_of_le hg2 (show _ ≤ w1.heap.size by omega))); (try (have hg3 := Nat.lt_of_lt_of_le hg3 (show _ ≤ w1.heap.size by omega))); (try (have hn0 := Nat.ne_of_gt hS1.1)); (try (have hq0 := Nat.ne_of_lt hz0)); (try (have hq1 := Nat.ne_of_gt hz0)); (try (have hq2 := Nat.ne_of_lt hz1)); (try (have hq3 := Nat.ne_of_gt hz1)); (try (have hT : S1 w.heap.size 0 0 w1 := by (first | (with_reducible exact S1.but hT hB1 (by omega)) | (with_reducible exact S1.below hT hb) | (with_reducible exact S1.but (S1.alloc hT _) hB1 (by omega)) | (with_reducible exact S1.below (S1.alloc hT _) hb) | (with_reducible exact S1.but (S1.drewN hT _) hB1 (by omega)) | (with_reducible exact S1.below (S1.drewN hT _) hb) | (with_reducible exact S1.but (S1.alloc (S1.alloc hT _) _) hB1 (by omega)) | (with_reducible exact S1.below (S1.alloc (S1.alloc hT _) _) hb) | (with_reducible exact S1.but (S1.drew hT) hB1 (by omega)) | (with_reducible exact S1.below (S1.drew hT) hb) | (with_reducible exact S1.but (S1.alloc (S1.drewN hT _) _) hB1 (by omega)) | (with_reducible exact S1.below (S1.alloc (S1.drewN hT _) _) hb) | (with_reducible exact S1.but (S1.drewN (S1.alloc hT _) _) hB1 (by omega)) | (with_reducible exact S1.below (S1.drewN (S1.alloc hT _) _) hb) | (with_reducible exact S1.but (S1.new _ _ _ _) hB1 (by omega)) | (with_reducible exact S1.below (S1.new _ _ _ _) hb) | (with_reducible exact S1.but (S1.alloc (S1.new _ _ _ _) _) hB1 (by omega)) | (with_reducible exact S1.below (S1.alloc (S1.new _ _ _ _) _) hb) | (with_reducible exact S1.but (S1.drewN (S1.new _ _ _ _) _) hB1 (by omega)) | (with_reducible exact S1.below (S1.drewN (S1.new _ _ _ _) _) hb) | (with_reducible exact S1.but (S1.alloc (S1.alloc (S1.new _ _ _ _) _) _) hB1 (by omega)) | (with_reducible exact S1.below (S1.alloc (S1.alloc (S1.new _ _ _ _) _) _) hb) | (with_reducible exact S1.but (S1.drew (S1.new _ _ _ _)) hB1 (by omega)) | (with_reducible exact S1.below (S1.drew (S1.new _ _ _ _)) hb) | (with_reducible exact S1.but (S1.alloc (S1.drewN (S1.new _ _ _ _) _) _) hB1 (by omega)) | (with_reducible exact S1.below (S1.alloc (S1.drewN (S1.new _ _ _ _) _) _) hb) | (with_reducible exact S1.but (S1.drewN (S1.alloc (S1.new _ _ _ _) _) _) hB1 (by omega)) | (with_reducible exact S1.below (S1.drewN (S1.alloc (S1.new _ _ _ _) _) _) hb) | (with_reducible exact S1.but (S1.alloc (S1.new _ _ _ _) _) hB1 (by omega)) | (with_reducible exact S1.below (S1.alloc (S1.new _ _ _ _) _) hb) | (with_reducible exact S1.but (S1.alloc (S1.alloc (S1.new _ _ _ _) _) _) hB1 (by omega)) | (with_reducible exact S1.below (S1.alloc (S1.alloc (S1.new _ _ _ _) _) _) hb) | (with_reducible exact S1.but (S1.drewN (S1.alloc (S1.new _ _ _ _) _) _) hB1 (by omega)) | (with_reducible exact S1.below (S1.drewN (S1.alloc (S1.new _ _ _ _) _) _) hb) | (with_reducible exact S1.but (S1.alloc (S1.alloc (S1.alloc (S1.new _ _ _ _) _) _) _) hB1 (by omega)) | (with_reducible exact S1.below (S1.alloc (S1.alloc (S1.alloc (S1.new _ _ _ _) _) _) _) hb) | (with_reducible exact S1.but (S1.drew (S1.alloc (S1.new _ _ _ _) _)) hB1 (by omega)) | (with_reducible exact S1.below (S1.drew (S1.alloc (S1.new _ _ _ _) _)) hb) | (with_reducible exact S1.but (S1.alloc (S1.drewN (S1.alloc (S1.new _ _ _ _) _) _) _) hB1 (by omega)) | (with_reducible exact S1.below (S1.alloc (S1.drewN (S1.alloc (S1.new _ _ _ _) _) _) _) hb) | (with_reducible exact S1.but (S1.drewN (S1.alloc (S1.alloc (S1.new _ _ _ _) _) _) _) hB1 (by omega)) | (with_reducible exact S1.below (S1.drewN (S1.alloc (S1.alloc (S1.new _ _ _ _) _) _) _) hb)))); (try (have hT2 : S1 (w.heap.size + 1) 0 0 w1 := by (first | (with_reducible exact S1.but hT2 hB1 (by omega)) | (with_reducible exact S1.below hT2 hb) | (with_reducible exact S1.but (S1.alloc hT2 _) hB1 (by omega)) | (with_reducible exact S1.below (S1.alloc hT2 _) hb) | (with_reducible exact S1.but (S1.drewN hT2 _) hB1 (by omega)) | (with_reducible exact S1.below (S1.drewN hT2 _) hb) | (with_reducible exact S1.but (S1.alloc (S1.alloc hT2 _) _) hB1 (by omega)) | (with_reducible exact S1.below (S1.alloc (S1.alloc hT2 _) _) hb) | (with_reducible exact S1.but (S1.drew hT2) hB1 (by omega)) | (with_reducible exact S1.below (S1.drew hT2) hb) | (with_reducible exact S1.but (S1.alloc (S1.drewN hT2 _) _) hB1 (by omega)) | (with_reducible exact S1.below (S1.alloc (S1.drewN hT2 _) _) hb) | (with_reducible exact S1.but (S1.drewN (S1.alloc hT2 _) _) hB1 (by omega)) | (with_reducible exact S1.below (S1.drewN (S1.alloc hT2 _) _) hb) | (with_reducible exact S1.but (S1.new' _ _ _ _ _ World.size_alloc.symm) hB1 (by omega)) | (with_reducible exact S1.below (S1.new' _ _ _ _ _ World.size_alloc.symm) hb) | (with_reducible exact S1.but (S1.alloc (S1.new' _ _ _ _ _ World.size_alloc.symm) _) hB1 (by omega)) | (with_reducible exact S1.below (S1.alloc (S1.new' _ _ _ _ _ World.size_alloc.symm) _) hb) | (with_reducible exact S1.but (S1.drewN (S1.new' _ _ _ _ _ World.size_alloc.symm) _) hB1 (by omega)) | (with_reducible exact S1.below (S1.drewN (S1.new' _ _ _ _ _ World.size_alloc.symm) _) hb) | (with_reducible exact S1.but (S1.alloc (S1.alloc (S1.new' _ _ _ _ _ World.size_alloc.symm) _) _) hB1 (by omega)) | (with_reducible exact S1.below (S1.alloc (S1.alloc (S1.new' _ _ _ _ _ World.size_alloc.symm) _) _) hb) | (with_reducible exact S1.but (S1.drew (S1.new' _ _ _ _ _ World.size_alloc.symm)) hB1 (by omega)) | (with_reducible exact S1.below (S1.drew (S1.new' _ _ _ _ _ World.size_alloc.symm)) hb) | (with_reducible exact S1.but (S1.alloc (S1.drewN (S1.new' _ _ _ _ _ World.size_alloc.symm) _) _) hB1 (by omega)) | (with_reducible exact S1.below (S1.alloc (S1.drewN (S1.new' _ _ _ _ _ World.size_alloc.symm) _) _) hb) | (with_reducible exact S1.but (S1.drewN (S1.alloc (S1.new' _ _ _ _ _ World.size_alloc.symm) _) _) hB1 (by omega)) | (with_reducible exact S1.below (S1.drewN (S1.alloc (S1.new' _ _ _ _ _ World.size_alloc.symm) _) _) hb))))))
  all_goals
    go_ret
    exact ⟨_, rfl, hp, (by repeat (first | (with_reducible assumption) | (with_reducible refine Src.drewN ?_ _) | (with_reducible refine Src.drew ?_) | (with_reducible refine Src.alloc ?_ _) | (with_reducible refine Src.setNew ?_ (by omega) _) | (with_reducible refine Src.below ?_ (by assumption)))), (by repeat (first | (with_reducible exact But.refl _ _) | (with_reducible refine But.drewN ?_ _) | (with_reducible refine But.drew ?_) | (with_reducible refine But.alloc ?_ _) | (with_reducible refine But.setNew ?_ (by first | omega | (simp; done) | (simp; omega)) _) | (with_reducible refine But.trans ?_ (by assumption)) | (with_reducible refine But.trans ?_ (But.of_below (by assumption)))))⟩
theorem Src.belowG {g : Nat} {a : Option Addr} {len cap : Nat} {w w' : World} (h : Src g a len cap w) (l : Below (g + 1) w w') : Src g a len cap w' := by
  obtain ⟨h0, h1, h2, ⟨t, t0, ht⟩, ⟨s, s0, s1, hs⟩, f0, f1, f2⟩ := h
  have hz := l.size
  have hR : Row8 w' a len g := by
    refine ⟨h1.1, fun hl => ?_⟩
    obtain ⟨b, off, e, hb, hs, hc⟩ := h1.2 hl
    exact ⟨b, off, e, hb, by omega, fun j hj => by
      obtain ⟨z, z0, z1, hz⟩ := hc j hj
      exact ⟨z, z0, z1, by rw [l.cell (p := ⟨b, off + j, none⟩) (by show b < g + 1; omega), hz]⟩⟩
  refine ⟨by omega, hR, ?_, ⟨t, t0, ?_⟩, ⟨s, s0, s1, ?_⟩, ?_, ?_, ?_⟩
  · rw [l.cell (p := ⟨g, 0, none⟩) (by show g < g + 1; omega), h2]
  · rw [l.cell (p := ⟨g, 1, none⟩) (by show g < g + 1; omega), ht]
  · rw [l.cell (p := ⟨g, 2, none⟩) (by show g < g + 1; omega), hs]
  · rw [l.frozen (p := ⟨g, 0, none⟩) (by show g < g + 1; omega), f0]
  · rw [l.frozen (p := ⟨g, 1, none⟩) (by show g < g + 1; omega), f1]
  · rw [l.frozen (p := ⟨g, 2, none⟩) (by show g < g + 1; omega), f2]
theorem own_but {g B e size n : Nat} {v : Value} {xs : List Value} {w w' : World} (h : w.ownsRow B e size v n xs) (k : But g w w') (hg : g < B) : w'.ownsRow B e size v n xs := by
  refine ⟨h.1, h.2.imp id ?_⟩
  rintro ⟨b, cap, cur, e1, hb, c, d⟩
  have hl : b < w.heap.size := (Array.getElem?_eq_some_iff.1 c).1
  exact ⟨b, cap, cur, e1, hb, by rw [k.block b hl (by omega)]; exact c, d⟩
end Go.Proofs.YtlijleemogpifaaDoor.C
