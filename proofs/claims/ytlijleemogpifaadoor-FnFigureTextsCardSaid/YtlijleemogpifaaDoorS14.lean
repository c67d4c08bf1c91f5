/- A list read: the program; the law that it returns what the reference returns, in memory of its own. -/
import Derived.Test.YtlijleemogpifaaDoorS13
namespace Go.Proofs.YtlijleemogpifaaDoor.C
open Go.RowKit Go.Proofs.YtlijleemogpifaaDoor.K
set_option linter.unusedVariables false
set_option linter.unusedSimpArgs false
attribute [local go_sem ↓] Go.wp_at_zero Go.wp_at_succ

set_option maxHeartbeats 3200000 in
theorem ReadList_impl (s : ByteArray) (w : World) (hL : Lb2 w) (hs : s.size ≤ 1048577) : Calls Tryd.prog 29 #[.string s] w fun e w' => ∃ a cap, e = .returned (.tuple #[.slice a (rlN s) cap, .int .i64 (snV (rlK s))]) ∧ Own64 w.heap.size w' a (rlN s) (rlV s) ∧ Below w.heap.size w w' := by
  obtain ⟨hb1, hb2⟩ := rlB_nm s
  have HB2 := Lib.hid hb2
  clear hb2
  cases hd : rlD s
  · cases hA : (wds s).all nmK
    · rw [hA] at hb1
      have hb : rlB s = false := hb1.symm
      have HN := Lib.hid (show 0 = rlN s by unfold rlN; rw [hd, hb]; rfl)
      have HK := Lib.hid (show 6 = snV (rlK s) by unfold rlK; rw [hd, hb]; rfl)
      clear hb hb1
      unfold rlD at hd
      go_enter Tryd.func29, Tryd.ntmps29
      go_wp2_with (go_at_call 67; refine (numbers_i s _ (Lb2.below hL (by repeat (first | (with_reducible exact Below.refl _ _) | (with_reducible assumption) | (with_reducible refine below_alloc ?_ _) | (with_reducible refine Below.setCell ?_ (by first | omega | (simp; done) | (simp; omega)) _) | (with_reducible refine below_drewN ?_ _) | (with_reducible refine Below.drew ?_) | (with_reducible refine below_tr ?_ (by assumption))))) hs).mono ?_; rintro e w1 ⟨a2, n2, cap2, rfl, hOw, hb⟩; rw [hA])
      go_ret2
      exact ⟨_, _, by rw [← HN.out, ← HK.out]; rfl, by rw [← HN.out]; exact Own64.zero, hb⟩
    · rw [hA, Bool.true_and] at hb1
      cases hB : lsV (atV nmV (wds s)) (wds s).length
      · rw [hB] at hb1
        have hb : rlB s = false := hb1.symm
        have HN := Lib.hid (show 0 = rlN s by unfold rlN; rw [hd, hb]; rfl)
        have HK := Lib.hid (show 6 = snV (rlK s) by unfold rlK; rw [hd, hb]; rfl)
        clear hb hb1
        unfold rlD at hd
        go_enter Tryd.func29, Tryd.ntmps29
        go_wp2_with (first | (go_at_call 67; refine (numbers_i s _ (Lb2.below hL (by repeat (first | (with_reducible exact Below.refl _ _) | (with_reducible assumption) | (with_reducible refine below_alloc ?_ _) | (with_reducible refine Below.setCell ?_ (by first | omega | (simp; done) | (simp; omega)) _) | (with_reducible refine below_drewN ?_ _) | (with_reducible refine Below.drew ?_) | (with_reducible refine below_tr ?_ (by assumption))))) hs).mono ?_; rintro e w1 ⟨a2, n2, cap2, rfl, hOw, hb⟩; obtain ⟨rfl, hO⟩ := hOw hA; clear hOw; rw [hA]; have hR2 := hO.1) | (go_at_call 18; refine (ListText_impl _ _ _ (atV nmV (wds s)) _ (Lb1.below hL.1 (by repeat (first | (with_reducible exact Below.refl _ _) | (with_reducible assumption) | (with_reducible refine below_alloc ?_ _) | (with_reducible refine Below.setCell ?_ (by first | omega | (simp; done) | (simp; omega)) _) | (with_reducible refine below_drewN ?_ _) | (with_reducible refine Below.drew ?_) | (with_reducible refine below_tr ?_ (by assumption))))) (by with_reducible assumption)).mono ?_; rintro e w2 ⟨rfl, hb3⟩; rw [hB]))
        go_ret2
        exact ⟨_, _, by rw [← HN.out, ← HK.out]; rfl, by rw [← HN.out]; exact Own64.zero, below_tr hb hb3⟩
      · rw [hB] at hb1
        have hb : rlB s = true := hb1.symm
        have HN := Lib.hid (show (wds s).length = rlN s by unfold rlN; rw [hd, hb]; rfl)
        have HK := Lib.hid (show 0 = snV (rlK s) by unfold rlK; rw [hd, hb]; rfl)
        have HE := Lib.hid (HB2.out hb)
        clear hb hb1 HB2
        unfold rlD at hd
        go_enter Tryd.func29, Tryd.ntmps29
        go_wp2_with (first | (go_at_call 67; refine (numbers_i s _ (Lb2.below hL (by repeat (first | (with_reducible exact Below.refl _ _) | (with_reducible assumption) | (with_reducible refine below_alloc ?_ _) | (with_reducible refine Below.setCell ?_ (by first | omega | (simp; done) | (simp; omega)) _) | (with_reducible refine below_drewN ?_ _) | (with_reducible refine Below.drew ?_) | (with_reducible refine below_tr ?_ (by assumption))))) hs).mono ?_; rintro e w1 ⟨a2, n2, cap2, rfl, hOw, hb⟩; obtain ⟨rfl, hO⟩ := hOw hA; clear hOw; rw [hA]; have hR2 := hO.1) | (go_at_call 18; refine (ListText_impl _ _ _ (atV nmV (wds s)) _ (Lb1.below hL.1 (by repeat (first | (with_reducible exact Below.refl _ _) | (with_reducible assumption) | (with_reducible refine below_alloc ?_ _) | (with_reducible refine Below.setCell ?_ (by first | omega | (simp; done) | (simp; omega)) _) | (with_reducible refine below_drewN ?_ _) | (with_reducible refine Below.drew ?_) | (with_reducible refine below_tr ?_ (by assumption))))) (by with_reducible assumption)).mono ?_; rintro e w2 ⟨rfl, hb3⟩; rw [hB]))
        go_ret2
        exact ⟨_, _, by rw [← HN.out, ← HK.out]; rfl, by rw [← HN.out]; exact (hO.below hb3).congr HE.out, below_tr hb hb3⟩
  · have HN := Lib.hid (show 0 = rlN s by unfold rlN; rw [hd]; rfl)
    have HK := Lib.hid (show 0 = snV (rlK s) by unfold rlK; rw [hd]; rfl)
    clear hb1 HB2
    unfold rlD at hd
    go_enter Tryd.func29, Tryd.ntmps29
    go_wp2_with fail
    go_ret2
    exact ⟨_, _, by rw [← HN.out, ← HK.out]; rfl, by rw [← HN.out]; exact Own64.zero, (by repeat (first | (with_reducible exact Below.refl _ _) | (with_reducible assumption) | (with_reducible refine below_alloc ?_ _) | (with_reducible refine Below.setCell ?_ (by first | omega | (simp; done) | (simp; omega)) _) | (with_reducible refine below_drewN ?_ _) | (with_reducible refine Below.drew ?_) | (with_reducible refine below_tr ?_ (by assumption))))⟩
theorem Row64.but {g : Nat} {w w' : World} {a : Option Addr} {len : Nat} {f : Nat → Int} (h : Row64 w a len f) (k : But g w w') (hne : 0 < len → ∀ b off, a = some ⟨b, off, none⟩ → b ≠ g) : Row64 w' a len f := by
  refine ⟨h.1, fun hl => ?_⟩
  obtain ⟨b, off, e, hb, hc⟩ := h.2 hl
  have := k.size
  exact ⟨b, off, e, by omega, fun j hj => ⟨by rw [k.cell hb (hne hl b off e)]; exact (hc j hj).1, (hc j hj).2⟩⟩
set_option maxHeartbeats 3200000 in
/-- the cells of a row of the call's own are numbered -/
theorem mark64 (B : Nat) (a : Option Addr) (len cap : Nat) (f : Nat → Int) (w : World) (hO : Own64 B w a len f) (hB : B ≤ w.heap.size) (hn : len ≤ 1000000) : Calls Tryd.prog 30 #[.slice a len cap, .int .i64 1] w fun e w' => e = .returned (.int .i64 ((len : Int) + 1)) ∧ Own64 B w' a len (fun j => (j : Int) + 1) ∧ ∃ g, B ≤ g ∧ (∀ b off, a = some ⟨b, off, none⟩ → 0 < len → b = g) ∧ But g w w' := by
  by_cases h0 : len = 0
  · subst h0
    go_enter Tryd.func30, Tryd.ntmps30
    go_wp2_with fail
    go_loopw [1, 5] (fun x i wr => x = .int .i64 1 ∧ i = .int .i64 0 ∧ w = wr) (fun _ i _ => 0)
    case atStart => exact ⟨rfl, rfl, by trivial⟩
    case round =>
      obtain ⟨rfl, rfl, rfl⟩ := hrel
      go_wp2_with fail
      go_ret
      exact ⟨rfl, Own64.zero, w.heap.size, hB, fun _ _ _ h => by omega, But.refl _ _⟩
  · obtain ⟨g, rfl, hBg, hg, hf⟩ := hO.2 (by omega)
    have hcell : ∀ j, j < len → w.cell? ⟨g, j, none⟩ = some (.int .i64 (f j)) := fun j hj => by
      obtain ⟨b, off, e, _, hc⟩ := hO.1.2 (by omega)
      cases e
      have := (hc j hj).1
      rw [Nat.zero_add] at this
      exact this
    clear hO
    go_enter Tryd.func30, Tryd.ntmps30
    go_wp2_with fail
    go_loopw [1, 5] (fun x i wr => ∃ k : Nat, k ≤ len ∧ x = .int .i64 ((k : Int) + 1) ∧ i = .int .i64 k ∧ (∀ j, j < k → wr.cell? ⟨g, j, none⟩ = some (.int .i64 ((j : Int) + 1))) ∧ (∀ j, k ≤ j → j < len → wr.cell? ⟨g, j, none⟩ = some (.int .i64 (f j))) ∧ (∀ j, wr.frozen? ⟨g, j, none⟩ = false) ∧ But g w wr) (fun _ i _ => len - (intOf i).toNat)
    case atStart => exact ⟨0, Nat.zero_le _, rfl, rfl, fun j h => by omega, fun j _ h => hcell j h, hf, But.refl _ _⟩
    case round =>
      obtain ⟨k, hk, rfl, rfl, hc1, hc2, hf2, hbut⟩ := hrel
      clear hcell hf
      have HC1 := Lib.hid hc1
      have HC2 := Lib.hid hc2
      have HF2 := Lib.hid hf2
      by_cases hkl : k < len
      · have hz := hc2 k (Nat.le_refl _) hkl
        have hf3 := hf2 k
        clear hc1 hc2 hf2
        go_wp2_with fail
        go_roundw
        case rel =>
          refine ⟨k + 1, by omega, by go_num, by go_num, fun j hj => ?_, fun j hj hl => ?_, fun j => by rw [World.frozen?_setCell]; exact HF2.out j, hbut.set _ _⟩
          · by_cases e : j = k
            · subst e; exact World.cell?_setCell_same _ _ _ hz
            · rw [World.cell?_setCell_other _ _ _ _ (by intro h'; cases h'; exact e rfl)]; exact HC1.out j (by omega)
          · rw [World.cell?_setCell_other _ _ _ _ (by intro h'; cases h'; omega)]; exact HC2.out j (by omega) hl
        case measure => simp only [intOf]; omega
      · obtain rfl : k = len := by omega
        clear hc1 hc2 hf2
        go_wp2_with fail
        go_ret
        have hsz := hbut.size
        refine ⟨rfl, ⟨⟨by omega, fun _ => ⟨g, 0, rfl, by omega, fun j hj => ⟨by rw [Nat.zero_add]; exact HC1.out j hj, by show _ ≤ (j : Int) + 1; omega, by show (j : Int) + 1 ≤ _; omega⟩⟩⟩, fun _ => ⟨g, rfl, hBg, by omega, HF2.out⟩⟩, g, hBg, fun b off e _ => by cases e; rfl, hbut⟩
set_option maxHeartbeats 1600000 in
/-- the numbers are held -/
theorem held64 (a : Option Addr) (len cap : Nat) (w : World) (hR : Row64 w a len (fun j => (j : Int) + 1)) (hn : len ≤ 1000000) : Calls Tryd.prog 31 #[.slice a len cap, .int .i64 1] w fun e w' => e = .returned (.int .i64 ((len : Int) + 1)) ∧ w = w' := by
  go_enter Tryd.func31, Tryd.ntmps31
  go_wp2_with fail
  go_loopw [1, 5] (fun x i wr => ∃ k : Nat, k ≤ len ∧ x = .int .i64 ((k : Int) + 1) ∧ i = .int .i64 k ∧ w = wr) (fun _ i _ => len - (intOf i).toNat)
  case atStart => exact ⟨0, Nat.zero_le _, rfl, rfl, by trivial⟩
  case round =>
    obtain ⟨k, hk, rfl, rfl, rfl⟩ := hrel
    by_cases hkl : k < len
    · obtain ⟨b, off, rfl, hb, hc⟩ := hR.2 (by omega)
      obtain ⟨hz, z0, z1⟩ := hc k hkl
      clear hc
      go_wp2_with fail
      go_roundw
      case rel => exact ⟨k + 1, by omega, by go_num, by go_num, by trivial⟩
      case measure => simp only [intOf]; omega
    · obtain rfl : k = len := by omega
      go_wp2_with fail
      go_ret
      exact ⟨rfl, by trivial⟩
theorem rlN_le (s : ByteArray) : rlN s ≤ 100 := by
  unfold rlN
  split
  · omega
  · split
    · rename_i h; exact ((rlB_iff s).1 h).2
    · omega
set_option maxHeartbeats 6400000 in
theorem ExactReadList (s : ByteArray) (w : World) (_ : s.size ≤ maxLen) (hL : Lb2 w) : Calls Tryd.prog 7 #[.string s] w fun e w' => e = .returned (.bool true) ∧ Below w.heap.size w w' := by
  have hL0 := hL.size
  by_cases hn : s.size ≤ 1048576
  · have hn' : ¬ (1048576 : Int) < s.size := by omega
    have hlen := rlN_le s
    have hneg : ¬ ((rlN s : Int) + 1 < 0) := by omega
    generalize hN : rlN s = N at hlen hneg
    generalize hV : rlV s = V
    generalize hK : snV (rlK s) = K
    have CS : ∀ w, Calls Tryd.prog 28 #[.string s] w fun e w' => ∃ a cap, e = .returned (.tuple #[.slice a N cap, .int .i64 K]) ∧ Own64 w.heap.size w' a N V ∧ Below w.heap.size w w' := fun w => by rw [← hN, ← hV, ← hK]; exact ReadList_spec s w hn
    have CI : ∀ w, Lb2 w → Calls Tryd.prog 29 #[.string s] w fun e w' => ∃ a cap, e = .returned (.tuple #[.slice a N cap, .int .i64 K]) ∧ Own64 w.heap.size w' a N V ∧ Below w.heap.size w w' := fun w h => by rw [← hN, ← hV, ← hK]; exact ReadList_impl s w h (by omega)
    clear hN hV hK
    go_enter Tryd.func7, Tryd.ntmps7
    go_upto_region 8 with (first | (go_at_call 28; refine (CS _).mono ?_; rintro e w1 ⟨a0, cap0, rfl, hS, hb1⟩) | (go_at_call 29; refine (CI _ (Lb2.below hL (by with_reducible assumption))).mono ?_; rintro e w2 ⟨a1, cap1, rfl, hI, hb2⟩; have hR1 := hI.1; have hR0 := hS.1.below hb2) | (go_at_call 19; refine (eq64 _ _ N _ _ V _ (by with_reducible assumption) (by with_reducible assumption)).mono ?_; rintro e w3 ⟨rfl, hb3⟩))
    have hI3 := hI.below hb3
    have hS3 := hR0.below hb3
    have hB3 := below_tr (below_tr hb1 hb2) hb3
    have hL3 := Lb2.below hL hB3
    have h13 : w1.heap.size ≤ w3.heap.size := Nat.le_trans hb2.size hb3.size
    have h01 := hb1.size
    have hlt0 : 0 < N → ∃ b off, a0 = some ⟨b, off, none⟩ ∧ b < w1.heap.size := fun h => by
      obtain ⟨b, off, e, hb, _⟩ := hS.1.2 h
      exact ⟨b, off, e, hb⟩
    clear hR1 hR0 hI hS hb2 hb3 CS
    go_upto_region 15 with (first | (go_at_call 30; refine (mark64 w1.heap.size _ N _ V _ hI3 h13 (by omega)).mono ?_; rintro e w4 ⟨rfl, hI4, g, hg0, hg1, hbut⟩; have hR4 := hI4.1) | (go_at_call 31; refine (held64 _ N _ _ (by with_reducible assumption) (by omega)).mono ?_; rintro e w5 ⟨rfl, rfl⟩))
    have hL4 := hL3.but hbut (by omega)
    have hS4 := hS3.but hbut (fun h b off e => by
      obtain ⟨b', off', e', hb'⟩ := hlt0 h
      rw [e'] at e
      cases e
      omega)
    have hB4 := below_but hB3 hbut (by omega)
    have hI5 := hI4.1
    clear hR4 hI4 hL3 hS3 hI3 hbut hlt0 hg1
    go_wp2_with (first | (go_at_call 29; refine (CI _ hL4).mono ?_; rintro e w5 ⟨a2, cap2, rfl, hH, hb5⟩; have hR2 := hH.1; have hR0 := hS4.below hb5; have hR5 := hI5.below hb5) | (go_at_call 19; refine (eq64 _ _ N _ _ V _ (by with_reducible assumption) (by with_reducible assumption)).mono ?_; rintro e w6 ⟨rfl, hb6⟩; have hR6 := hR5.below hb6) | (go_at_call 31; refine (held64 _ N _ _ (by with_reducible assumption) (by omega)).mono ?_; rintro e w7 ⟨rfl, rfl⟩))
    go_ret
    exact ⟨rfl, below_tr (below_tr hB4 hb5) hb6⟩
  · have hn' : (1048576 : Int) < s.size := by omega
    go_enter Tryd.func7, Tryd.ntmps7
    go_wp2_with fail
    go_ret
    exact ⟨rfl, (by repeat (first | (with_reducible exact Below.refl _ _) | (with_reducible assumption) | (with_reducible refine below_alloc ?_ _) | (with_reducible refine Below.setCell ?_ (by first | omega | (simp; done) | (simp; omega)) _) | (with_reducible refine below_drewN ?_ _) | (with_reducible refine Below.drew ?_) | (with_reducible refine below_tr ?_ (by assumption))))⟩
end Go.Proofs.YtlijleemogpifaaDoor.C
