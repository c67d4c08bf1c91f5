/- The law on lists: a list drawn, a text drawn. -/
import Derived.Test.YtlijleemogpifaaDoorS18
namespace Go.Proofs.YtlijleemogpifaaDoor.C
open Go.RowKit Go.Proofs.YtlijleemogpifaaDoor.K
set_option linter.unusedVariables false
set_option linter.unusedSimpArgs false
attribute [local go_sem ↓] Go.wp_at_zero Go.wp_at_succ

theorem own_get {zs : List Int} {j : Nat} (h : j < zs.length) : (zs.map (Value.int .i64))[j]? = some (.int .i64 (zs.getD j 0)) := by
  rw [List.getElem?_map, List.getElem?_eq_getElem h, List.getD_eq_getElem?_getD, List.getElem?_eq_getElem h]; rfl
set_option maxHeartbeats 3200000 in
/-- the number that a draw of two gives, wherever new memory lies -/
theorem next2 (g : Nat) (a : Option Addr) (len cap : Nat) (w : World) (hS : Src g a len cap w) : ∃ r : Int, 0 ≤ r ∧ r < 2 ∧ ∀ w', Below w.heap.size w w' → Calls Tryd.prog 56 #[.pointer (some ⟨g, 0, none⟩), .int .i64 2] w' fun e w'' => e = .returned (.int .i64 r) ∧ Src g a len cap w'' ∧ But g w' w'' := by
  have hS0 := hS
  obtain ⟨h0, h1, h2, ⟨t, t0, ht⟩, ⟨s, s0, s1, hs⟩, f0, f1, f2⟩ := hS
  have q0 : 0 ≤ (s * 48271 + 29) % 2147483647 := Int.emod_nonneg _ (by decide)
  have q1 : (s * 48271 + 29) % 2147483647 < 2147483647 := Int.emod_lt_of_pos _ (by decide)
  have hl := h1.1
  by_cases htl : t < len
  · obtain ⟨b, off, rfl, hb, hbs, hc⟩ := h1.2 (by omega)
    obtain ⟨z, z0, z1, hz⟩ := hc t htl
    clear hc h1
    have hbg : b ≠ g := by omega
    have hgb : g ≠ b := by omega
    by_cases hev : ((t : Int) + 1) % 2 = 0
    · have hev' : (((t : Int) + 1) % 2 == 0) = true := beq_iff_eq.2 hev
      clear hev
      refine ⟨z % 2, by omega, by omega, fun w' hB => ?_⟩
      have HS := Lib.hid (hS0.below hB)
      have hsz := hB.size
      rw [← hB.cell (p := ⟨g, 0, none⟩) h0] at h2
      rw [← hB.cell (p := ⟨g, 1, none⟩) h0] at ht
      rw [← hB.cell (p := ⟨g, 2, none⟩) h0] at hs
      rw [← hB.cell (p := ⟨b, off + t, none⟩) hbs] at hz
      rw [← hB.frozen (p := ⟨g, 0, none⟩) h0] at f0
      rw [← hB.frozen (p := ⟨g, 1, none⟩) h0] at f1
      rw [← hB.frozen (p := ⟨g, 2, none⟩) h0] at f2
      have h0 := Nat.lt_of_lt_of_le h0 hsz
      have hbs := Nat.lt_of_lt_of_le hbs hsz
      clear hB hsz hS0
      go_enter Tryd.func56, Tryd.ntmps56
      go_wp2_with fail
      go_quiet (fail)
      go_wp2_with fail
      go_quiet (fail)
      go_wp2_with fail
      go_quiet (fail)
      go_wp2_with fail
      go_ret
      refine ⟨rfl, ?_, ?_⟩; exact (by repeat (first | (with_reducible exact HS.out) | (with_reducible refine Src.set2 ?_ (by assumption) (by assumption)) | (with_reducible refine Src.set1 ?_ (by omega) (by omega)) | (with_reducible refine Src.drewN ?_ _) | (with_reducible refine Src.drew ?_))); exact (by repeat (first | (with_reducible exact But.refl _ _) | (with_reducible refine But.set ?_ _ _) | (with_reducible refine But.drewN ?_ _) | (with_reducible refine But.drew ?_)))
    · have hev' : (((t : Int) + 1) % 2 == 0) = false := beq_eq_false_iff_ne.2 hev
      clear hev
      refine ⟨((s * 48271 + 29) % 2147483647 / 31 + z) % 2, by omega, by omega, fun w' hB => ?_⟩
      have HS := Lib.hid (hS0.below hB)
      have hsz := hB.size
      rw [← hB.cell (p := ⟨g, 0, none⟩) h0] at h2
      rw [← hB.cell (p := ⟨g, 1, none⟩) h0] at ht
      rw [← hB.cell (p := ⟨g, 2, none⟩) h0] at hs
      rw [← hB.cell (p := ⟨b, off + t, none⟩) hbs] at hz
      rw [← hB.frozen (p := ⟨g, 0, none⟩) h0] at f0
      rw [← hB.frozen (p := ⟨g, 1, none⟩) h0] at f1
      rw [← hB.frozen (p := ⟨g, 2, none⟩) h0] at f2
      have h0 := Nat.lt_of_lt_of_le h0 hsz
      have hbs := Nat.lt_of_lt_of_le hbs hsz
      clear hB hsz hS0
      go_enter Tryd.func56, Tryd.ntmps56
      go_wp2_with fail
      go_quiet (fail)
      go_wp2_with fail
      go_quiet (fail)
      go_wp2_with fail
      go_ret
      refine ⟨rfl, ?_, ?_⟩; exact (by repeat (first | (with_reducible exact HS.out) | (with_reducible refine Src.set2 ?_ (by assumption) (by assumption)) | (with_reducible refine Src.set1 ?_ (by omega) (by omega)) | (with_reducible refine Src.drewN ?_ _) | (with_reducible refine Src.drew ?_))); exact (by repeat (first | (with_reducible exact But.refl _ _) | (with_reducible refine But.set ?_ _ _) | (with_reducible refine But.drewN ?_ _) | (with_reducible refine But.drew ?_)))
  · refine ⟨((s * 48271 + 29) % 2147483647 / 31) % 2, by omega, by omega, fun w' hB => ?_⟩
    have HS := Lib.hid (hS0.below hB)
    have hsz := hB.size
    rw [← hB.cell (p := ⟨g, 0, none⟩) h0] at h2
    rw [← hB.cell (p := ⟨g, 1, none⟩) h0] at ht
    rw [← hB.cell (p := ⟨g, 2, none⟩) h0] at hs
    rw [← hB.frozen (p := ⟨g, 0, none⟩) h0] at f0
    rw [← hB.frozen (p := ⟨g, 1, none⟩) h0] at f1
    rw [← hB.frozen (p := ⟨g, 2, none⟩) h0] at f2
    have h0 := Nat.lt_of_lt_of_le h0 hsz
    clear hB hsz hS0 h1
    go_enter Tryd.func56, Tryd.ntmps56
    go_wp2_with fail
    go_quiet (fail)
    go_wp2_with fail
    go_ret
    refine ⟨rfl, ?_, ?_⟩; exact (by repeat (first | (with_reducible exact HS.out) | (with_reducible refine Src.set2 ?_ (by assumption) (by assumption)) | (with_reducible refine Src.set1 ?_ (by omega) (by omega)) | (with_reducible refine Src.drewN ?_ _) | (with_reducible refine Src.drew ?_))); exact (by repeat (first | (with_reducible exact But.refl _ _) | (with_reducible refine But.set ?_ _ _) | (with_reducible refine But.drewN ?_ _) | (with_reducible refine But.drew ?_)))
set_option maxHeartbeats 3200000 in
/-- the number that a draw of three gives, wherever new memory lies -/
theorem next3 (g : Nat) (a : Option Addr) (len cap : Nat) (w : World) (hS : Src g a len cap w) : ∃ r : Int, 0 ≤ r ∧ r < 3 ∧ ∀ w', Below w.heap.size w w' → Calls Tryd.prog 56 #[.pointer (some ⟨g, 0, none⟩), .int .i64 3] w' fun e w'' => e = .returned (.int .i64 r) ∧ Src g a len cap w'' ∧ But g w' w'' := by
  have hS0 := hS
  obtain ⟨h0, h1, h2, ⟨t, t0, ht⟩, ⟨s, s0, s1, hs⟩, f0, f1, f2⟩ := hS
  have q0 : 0 ≤ (s * 48271 + 29) % 2147483647 := Int.emod_nonneg _ (by decide)
  have q1 : (s * 48271 + 29) % 2147483647 < 2147483647 := Int.emod_lt_of_pos _ (by decide)
  have hl := h1.1
  by_cases htl : t < len
  · obtain ⟨b, off, rfl, hb, hbs, hc⟩ := h1.2 (by omega)
    obtain ⟨z, z0, z1, hz⟩ := hc t htl
    clear hc h1
    have hbg : b ≠ g := by omega
    have hgb : g ≠ b := by omega
    by_cases hev : ((t : Int) + 1) % 2 = 0
    · have hev' : (((t : Int) + 1) % 2 == 0) = true := beq_iff_eq.2 hev
      clear hev
      refine ⟨z % 3, by omega, by omega, fun w' hB => ?_⟩
      have HS := Lib.hid (hS0.below hB)
      have hsz := hB.size
      rw [← hB.cell (p := ⟨g, 0, none⟩) h0] at h2
      rw [← hB.cell (p := ⟨g, 1, none⟩) h0] at ht
      rw [← hB.cell (p := ⟨g, 2, none⟩) h0] at hs
      rw [← hB.cell (p := ⟨b, off + t, none⟩) hbs] at hz
      rw [← hB.frozen (p := ⟨g, 0, none⟩) h0] at f0
      rw [← hB.frozen (p := ⟨g, 1, none⟩) h0] at f1
      rw [← hB.frozen (p := ⟨g, 2, none⟩) h0] at f2
      have h0 := Nat.lt_of_lt_of_le h0 hsz
      have hbs := Nat.lt_of_lt_of_le hbs hsz
      clear hB hsz hS0
      go_enter Tryd.func56, Tryd.ntmps56
      go_wp2_with fail
      go_quiet (fail)
      go_wp2_with fail
      go_quiet (fail)
      go_wp2_with fail
      go_quiet (fail)
      go_wp2_with fail
      go_ret
      refine ⟨rfl, ?_, ?_⟩; exact (by repeat (first | (with_reducible exact HS.out) | (with_reducible refine Src.set2 ?_ (by assumption) (by assumption)) | (with_reducible refine Src.set1 ?_ (by omega) (by omega)) | (with_reducible refine Src.drewN ?_ _) | (with_reducible refine Src.drew ?_))); exact (by repeat (first | (with_reducible exact But.refl _ _) | (with_reducible refine But.set ?_ _ _) | (with_reducible refine But.drewN ?_ _) | (with_reducible refine But.drew ?_)))
    · have hev' : (((t : Int) + 1) % 2 == 0) = false := beq_eq_false_iff_ne.2 hev
      clear hev
      refine ⟨((s * 48271 + 29) % 2147483647 / 31 + z) % 3, by omega, by omega, fun w' hB => ?_⟩
      have HS := Lib.hid (hS0.below hB)
      have hsz := hB.size
      rw [← hB.cell (p := ⟨g, 0, none⟩) h0] at h2
      rw [← hB.cell (p := ⟨g, 1, none⟩) h0] at ht
      rw [← hB.cell (p := ⟨g, 2, none⟩) h0] at hs
      rw [← hB.cell (p := ⟨b, off + t, none⟩) hbs] at hz
      rw [← hB.frozen (p := ⟨g, 0, none⟩) h0] at f0
      rw [← hB.frozen (p := ⟨g, 1, none⟩) h0] at f1
      rw [← hB.frozen (p := ⟨g, 2, none⟩) h0] at f2
      have h0 := Nat.lt_of_lt_of_le h0 hsz
      have hbs := Nat.lt_of_lt_of_le hbs hsz
      clear hB hsz hS0
      go_enter Tryd.func56, Tryd.ntmps56
      go_wp2_with fail
      go_quiet (fail)
      go_wp2_with fail
      go_quiet (fail)
      go_wp2_with fail
      go_ret
      refine ⟨rfl, ?_, ?_⟩; exact (by repeat (first | (with_reducible exact HS.out) | (with_reducible refine Src.set2 ?_ (by assumption) (by assumption)) | (with_reducible refine Src.set1 ?_ (by omega) (by omega)) | (with_reducible refine Src.drewN ?_ _) | (with_reducible refine Src.drew ?_))); exact (by repeat (first | (with_reducible exact But.refl _ _) | (with_reducible refine But.set ?_ _ _) | (with_reducible refine But.drewN ?_ _) | (with_reducible refine But.drew ?_)))
  · refine ⟨((s * 48271 + 29) % 2147483647 / 31) % 3, by omega, by omega, fun w' hB => ?_⟩
    have HS := Lib.hid (hS0.below hB)
    have hsz := hB.size
    rw [← hB.cell (p := ⟨g, 0, none⟩) h0] at h2
    rw [← hB.cell (p := ⟨g, 1, none⟩) h0] at ht
    rw [← hB.cell (p := ⟨g, 2, none⟩) h0] at hs
    rw [← hB.frozen (p := ⟨g, 0, none⟩) h0] at f0
    rw [← hB.frozen (p := ⟨g, 1, none⟩) h0] at f1
    rw [← hB.frozen (p := ⟨g, 2, none⟩) h0] at f2
    have h0 := Nat.lt_of_lt_of_le h0 hsz
    clear hB hsz hS0 h1
    go_enter Tryd.func56, Tryd.ntmps56
    go_wp2_with fail
    go_quiet (fail)
    go_wp2_with fail
    go_ret
    refine ⟨rfl, ?_, ?_⟩; exact (by repeat (first | (with_reducible exact HS.out) | (with_reducible refine Src.set2 ?_ (by assumption) (by assumption)) | (with_reducible refine Src.set1 ?_ (by omega) (by omega)) | (with_reducible refine Src.drewN ?_ _) | (with_reducible refine Src.drew ?_))); exact (by repeat (first | (with_reducible exact But.refl _ _) | (with_reducible refine But.set ?_ _ _) | (with_reducible refine But.drewN ?_ _) | (with_reducible refine But.drew ?_)))
set_option maxHeartbeats 6400000 in
theorem DrawListText (a : Option Addr) (len cap : Nat) (w : World) (hR : Row8 w a len w.heap.size) : Calls Tryd.prog 32 #[.slice a len cap] w fun e w' => ∃ a' n cap' f, e = .returned (.slice a' n cap') ∧ Row64 w' a' n f ∧ n ≤ 101 ∧ Below w.heap.size w w' := by
  obtain ⟨i0, hi, hz0, hz1, hz2⟩ := info_parts infoI
  go_enter Tryd.func32, Tryd.ntmps32
  go_upto_region 3 with (go_at_call 57; refine (from_s _ _ _ _ (by first | (with_reducible assumption) | exact Row8.below hR (by repeat (first | (with_reducible exact Below.refl _ _) | (with_reducible assumption) | (with_reducible refine below_drewN ?_ _) | (with_reducible refine Below.drew ?_) | (with_reducible refine below_alloc ?_ _) | (with_reducible refine Below.setCell ?_ (by first | omega | (simp; done) | (simp; omega)) _) | (with_reducible refine below_but ?_ (by assumption) (by omega)) | (with_reducible refine below_tr ?_ (by assumption)))))).mono ?_; rintro e w1 ⟨rfl, hS1, hb⟩; have hs1 := hb.size)
  have hg1 := hS1.1
  have hown0 : (w1.alloc (.cells #[] 2)).ownsRow (w.heap.size + 1) 2 1 (.slice (some ⟨w1.heap.size, 0, none⟩) 0 0) 0 (([] : List Int).map (Value.int .i64)) := World.ownsRow_made w1 #[] 0 (by omega) (by unfold maxLen; omega) rfl
  have hS2 := hS1.alloc (.cells #[] 2)
  have hB2 : Below w.heap.size w (w1.alloc (.cells #[] 2)) := below_alloc hb _
  clear hS1 hb hR hs1 hg1
  go_upto_region 4 with (go_at_call 56; refine (next_s _ a len cap _ _ hS2 (by omega)).mono ?_; rintro e w2 ⟨r, rfl, r0, r1, _, hS3, hB3⟩)
  have hown1 := own_but hown0 hB3 (by omega)
  have hB4 := below_but hB2 hB3 (Nat.le_refl _)
  obtain ⟨k0, rfl⟩ := Int.eq_ofNat_of_zero_le r0
  have hk0 : k0 ≤ 5 := by omega
  clear r0 r1 hown0 hB3 hS2 hB2
  go_loopw [4, 5] (fun v x wr => ∃ (k : Nat) (zs : List Int), x = .int .i64 k ∧ zs.length + k ≤ 5 ∧ (∀ z ∈ zs, dvB z) ∧ wr.ownsRow (w.heap.size + 1) 2 1 v zs.length (zs.map (Value.int .i64)) ∧ Src w.heap.size a len cap wr ∧ Below w.heap.size w wr) (fun _ x _ => (intOf x).toNat)
  case atStart => exact ⟨k0, [], rfl, by simpa using hk0, fun z h => by (cases h), hown1, hS3, hB4⟩
  case round =>
    clear hown1 hS3 hB4 hk0
    obtain ⟨k, zs, rfl, hk, hz, hown, hS, hB⟩ := hrel
    have hg := hS.1
    by_cases hkl : 0 < k
    · have hkl' : (0 : Int) < k := by omega
      have HZ := Lib.hid hz
      clear hz
      go_wp2_with (first | (go_at_call 61; refine (drawValue_b _ a len cap _ hS).mono ?_; rintro e w3 ⟨z, rfl, hz, hS4, hB4⟩; have hown4 := own_but hown hB4 (by omega); have hB5 := below_but hB hB4 (Nat.le_refl _); have hs4 := hB4.size; have HZ4 := Lib.hid hz; clear hz) | (at_builtin; refine wpList_append_own_at _ rfl (.tmp 15) (.tmp 18) 32 rfl (w.heap.size + 1) 2 i0 (.int .i64 0) 1 8 Tryd.underlying32 hi hz0 hz1 hz2 rfl (by decide) _ _ _ rfl (hown4.alloc _) ⟨_, 0, none⟩ 1 1 [.int .i64 z] rfl rfl (cell_one _ _ _) (by intro u hu; simp at hu; subst hu; rfl) (by unfold maxLen; omega) (by omega) (by simp; omega) ?_; intro v3 w5 hown5 hgrow5 hnil5 hat5))
      go_roundw
      case rel =>
        have hG : Below (w.heap.size + 1) w3 w5 := (((Below.refl _ _).alloc (by omega) _)).grown hgrow5 (by simp; omega) (fun k hk => (hown4.lt k hk).1)
        refine ⟨k - 1, zs ++ [z], by go_num, by rw [List.length_append]; simp; omega, fun y hy => ?_, ?_, hS4.belowG hG, ?_⟩
        · rcases List.mem_append.1 hy with h | h
          · exact HZ.out y h
          · rw [List.mem_singleton.1 h]; exact HZ4.out
        · rw [List.map_append, List.length_append]; exact hown5
        · exact hB5.trans (hG.mono (Nat.le_succ _))
      case measure => simp only [intOf]; omega
    · obtain rfl : k = 0 := by omega
      have hbz : ∀ j, j < zs.length → dvB (zs.getD j 0) := fun j hj => by
        rw [List.getD_eq_getElem?_getD, List.getElem?_eq_getElem hj]
        exact hz _ (List.getElem_mem hj)
      obtain ⟨a', cap', rfl, hO⟩ := Own64.of_own (f := fun j => zs.getD j 0) hown (by omega) (fun j hj => ⟨own_get hj, by
        have h1 : -2000000000000 ≤ zs.getD j 0 := (hbz j hj).1
        have h2 : zs.getD j 0 ≤ 2000000000000 := (hbz j hj).2
        show -9223372036854775808 ≤ zs.getD j 0 ∧ zs.getD j 0 ≤ 9223372036854775807
        omega⟩)
      have hn : zs.length ≤ 101 := by omega
      have hR0 := hO.1
      generalize zs.length = n at *
      generalize (fun j => zs.getD j 0) = f at *
      have HO := Lib.hid hO
      clear hown hz hbz hO hkl hk
      go_wp2_with fail
      refine (next_s _ a len cap 40 _ hS (by omega)).mono ?_
      rintro e w6 ⟨r, rfl, r0, r1, _, hS6, hB6⟩
      have hR6 := hR0.but hB6 (fun hl b off e => by
        obtain ⟨g, e', hg', _⟩ := HO.out.2 hl
        rw [e'] at e
        cases e
        omega)
      have hb6 := below_but hB hB6 (Nat.le_refl _)
      by_cases hr : r = 0
      · subst hr
        obtain ⟨r2, q0, q1, hcall⟩ := next2 _ a len cap w6 hS6
        have q2 : r2 = 0 ∨ r2 = 1 := by omega
        clear q0 q1 r0 r1
        rcases q2 with rfl | rfl
        · have hmk := run_make_row' (P := Tryd.prog) 32 2 (.int .i64 0) 8 Tryd.underlying32 infoI rfl .i64 .i64 100 (by omega) (by omega)
          have hmk : ∀ w : World, (Instr.makeSlice 32 (.int .i64 (100 : Int)) (.int .i64 (100 : Int))).run Tryd.prog w = .ok (.slice (some ⟨w.heap.size, 0, none⟩) 100 100) (w.alloc (.cells (madeCells #[.int .i64 0] 100) 2)) := hmk
          have HW := fun W : World => New64.new W 100 2
          generalize madeCells #[Value.int .i64 0] 100 = C at hmk HW
          have HWW := Lib.hid HW
          clear HW
          go_wp2_with (go_at_call 56; refine (hcall _ (Below.refl _ _)).mono ?_; rintro e w7 ⟨rfl, hS7, hB7⟩)
          go_ret
          have hb7 := below_but hb6 hB7 (Nat.le_refl _)
          exact ⟨_, 100, _, fun _ => 0, rfl, ⟨by omega, fun _ => ⟨_, 0, rfl, (HWW.out _).1, fun j hj => ⟨by rw [Nat.zero_add]; exact (HWW.out _).2.1 j hj, (show (-9223372036854775808 : Int) ≤ 0 by decide), (show (0 : Int) ≤ 9223372036854775807 by decide)⟩⟩⟩, by omega, below_alloc hb7 _⟩
        · have hmk := run_make_row' (P := Tryd.prog) 32 2 (.int .i64 0) 8 Tryd.underlying32 infoI rfl .i64 .i64 101 (by omega) (by omega)
          have hmk : ∀ w : World, (Instr.makeSlice 32 (.int .i64 (101 : Int)) (.int .i64 (101 : Int))).run Tryd.prog w = .ok (.slice (some ⟨w.heap.size, 0, none⟩) 101 101) (w.alloc (.cells (madeCells #[.int .i64 0] 101) 2)) := hmk
          have HW := fun W : World => New64.new W 101 2
          generalize madeCells #[Value.int .i64 0] 101 = C at hmk HW
          have HWW := Lib.hid HW
          clear HW
          go_wp2_with (go_at_call 56; refine (hcall _ (Below.refl _ _)).mono ?_; rintro e w7 ⟨rfl, hS7, hB7⟩)
          go_ret
          have hb7 := below_but hb6 hB7 (Nat.le_refl _)
          exact ⟨_, 101, _, fun _ => 0, rfl, ⟨by omega, fun _ => ⟨_, 0, rfl, (HWW.out _).1, fun j hj => ⟨by rw [Nat.zero_add]; exact (HWW.out _).2.1 j hj, (show (-9223372036854775808 : Int) ≤ 0 by decide), (show (0 : Int) ≤ 9223372036854775807 by decide)⟩⟩⟩, by omega, below_alloc hb7 _⟩
      · have hr' : (r == 0) = false := beq_eq_false_iff_ne.2 hr
        go_wp2_with fail
        go_ret
        exact ⟨_, _, _, _, rfl, hR6, by omega, hb6⟩
set_option maxHeartbeats 6400000 in
theorem DrawReadList (a : Option Addr) (len cap : Nat) (w : World) (hR : Row8 w a len w.heap.size) : Calls Tryd.prog 33 #[.slice a len cap] w fun e w' => ∃ u : ByteArray, e = .returned (.string u) ∧ u.size ≤ 1048576 ∧ Below w.heap.size w w' := by
  go_enter Tryd.func33, Tryd.ntmps33
  go_upto_region 3 with (first | (go_at_call 57; refine (from_s _ _ _ _ hR).mono ?_; rintro e w1 ⟨rfl, hS1, hb1⟩; have hR1 := hR.below hb1) | (go_at_call 32; refine (DrawListText a len cap _ hR1).mono ?_; rintro e w2 ⟨a2, n2, cap2, f, rfl, hR2, hn2, hb2⟩) | (go_at_call 16; refine (ListText_spec _ _ _ _ _ hR2).mono ?_; rintro e w3 ⟨rfl, hb3⟩))
  have hsz := ltB_size f n2
  have hS3 := (hS1.below hb2).below hb3
  have hB3 := below_tr (below_tr hb1 hb2) hb3
  generalize ltB f n2 = T at *
  generalize rgV (lsV f n2) = K
  clear hR1 hR2 hS1 hb1 hb2 hb3 hR
  obtain ⟨r, r0, r1, hcall⟩ := next3 _ a len cap w3 hS3
  have hTs : T.size ≤ 4000000 := by omega
  by_cases hr : r = 0
  · subst hr
    go_wp2_with (first | (go_at_call 56; refine (hcall _ (Below.refl _ _)).mono ?_; rintro e w4 ⟨rfl, hS4, hB4⟩) | (go_at_call 68; refine (damage_s _ a len cap T _ hS4 hTs).mono ?_; rintro e w5 ⟨u, rfl, hu, hS5, hB5⟩))
    go_ret
    exact ⟨_, rfl, by omega, below_but (below_but hB3 hB4 (Nat.le_refl _)) hB5 (Nat.le_refl _)⟩
  · have hr' : (r == 0) = false := beq_eq_false_iff_ne.2 hr
    go_wp2_with (go_at_call 56; refine (hcall _ (Below.refl _ _)).mono ?_; rintro e w4 ⟨rfl, hS4, hB4⟩)
    go_ret
    exact ⟨_, rfl, by omega, below_but hB3 hB4 (Nat.le_refl _)⟩
end Go.Proofs.YtlijleemogpifaaDoor.C
