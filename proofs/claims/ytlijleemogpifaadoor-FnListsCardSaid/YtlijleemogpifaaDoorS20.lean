/- The law on lists: a list is recovered from its text. -/
import Derived.Test.YtlijleemogpifaaDoorS19
namespace Go.Proofs.YtlijleemogpifaaDoor.C
open Go.RowKit Go.Proofs.YtlijleemogpifaaDoor.K
set_option linter.unusedVariables false
set_option linter.unusedSimpArgs false
attribute [local go_sem ↓] Go.wp_at_zero Go.wp_at_succ

set_option maxRecDepth 100000 in
set_option maxHeartbeats 16000000 in
theorem Lists (a : Option Addr) (len cap : Nat) (zs : List Int) (w : World) (hz : IsRow .u8 w a len cap zs) (hL : Lb2 w) : Calls Tryd.prog 8 #[.slice a len cap] w fun e w' => e = .returned (.bool true) ∧ Below w.heap.size w w' := by
  have hR := Row8.of_row hz
  clear hz
  go_enter Tryd.func8, Tryd.ntmps8
  go_wp2_with (first | (go_at_call 20; refine (big _ _ _ _).mono ?_; rintro e w' ⟨rfl, rfl⟩) | (go_at_call 32; refine (DrawListText a len cap _ hR).mono ?_; rintro e w1 ⟨a0, n0, cap0, f, rfl, hF, hn0, hB⟩))
  · go_ret
    exact ⟨rfl, Below.refl _ _⟩
  · go_upto_region 7 with (first | (go_at_call 18; refine (ListText_impl _ n0 _ f _ (hL.below hB).1 hF).mono ?_; rintro e w2 ⟨rfl, hb⟩; have hF := Row64.below hF hb; have hB := below_tr hB hb) | (go_at_call 16; refine (ListText_spec _ n0 _ f _ hF).mono ?_; rintro e w2 ⟨rfl, hb⟩; have hF := Row64.below hF hb; have hB := below_tr hB hb) | (go_at_call 33; refine (DrawReadList a len cap _ (hR.below hB)).mono ?_; rintro e w2 ⟨u, rfl, hu, hb⟩; have hF := Row64.below hF hb; have hB := below_tr hB hb))
    have hts := ltB_size f n0
    have CB0 : lsV f n0 = true → ∀ w, Lb2 w → Calls Tryd.prog 29 #[.string (ltB f n0)] w fun e w' => ∃ a cap, e = .returned (.tuple #[.slice a n0 cap, .int .i64 0]) ∧ Row64 w' a n0 f ∧ Below w.heap.size w w' := fun h w hL => by
      obtain ⟨h1, h2, h3⟩ := rl_text h
      refine (ReadList_impl (ltB f n0) w hL (by omega)).mono ?_
      rintro e w' ⟨a, cap, he, hO, hb⟩
      rw [h2] at he hO
      rw [h1] at he
      exact ⟨a, cap, he, (hO.congr h3).1, hb⟩
    have CL0 : rlK u = true → ∀ a cap w, Lb2 w → Row64 w a (rlN u) (rlV u) → Calls Tryd.prog 18 #[.slice a (rlN u) cap] w fun e w' => e = .returned (.tuple #[.string u, .int .i64 0]) ∧ Below w.heap.size w w' := fun h a cap w hL hR => by
      obtain ⟨h1, h2⟩ := rl_back h
      have := ListText_impl a (rlN u) cap (rlV u) w hL.1 hR
      rw [h1, h2] at this
      exact this
    have CI : ∀ w, Lb2 w → Calls Tryd.prog 29 #[.string u] w fun e w' => ∃ a cap, e = .returned (.tuple #[.slice a (rlN u) cap, .int .i64 (snV (rlK u))]) ∧ Row64 w' a (rlN u) (rlV u) ∧ Below w.heap.size w w' := fun w hL => by
      refine (ReadList_impl u w hL (by omega)).mono ?_
      rintro e w' ⟨a, cap, he, hO, hb⟩
      exact ⟨a, cap, he, hO.1, hb⟩
    have CS : ∀ w, Calls Tryd.prog 28 #[.string u] w fun e w' => ∃ a cap, e = .returned (.tuple #[.slice a (rlN u) cap, .int .i64 (snV (rlK u))]) ∧ Row64 w' a (rlN u) (rlV u) ∧ Below w.heap.size w w' := fun w => by
      refine (ReadList_spec u w hu).mono ?_
      rintro e w' ⟨a, cap, he, hO, hb⟩
      exact ⟨a, cap, he, hO.1, hb⟩
    have hun := rlN_le u
    generalize rlN u = N at *
    generalize rlV u = V at *
    generalize ltB f n0 = T at *
    clear hts
    cases hl : lsV f n0
    · have r2 : rgV false = 2 := rfl
      clear CB0
      cases hk : rlK u
      · have s6 : snV false = 6 := rfl
        rw [hk] at CI CS
        clear CL0
        go_wp2_with (first | (go_at_call 29; (with_reducible refine (CI _ (hL.below hB)).mono ?_); rintro e w3 ⟨a1, cap1, rfl, hX, hb⟩; have hF := Row64.below hF hb; have hB := below_tr hB hb) | (go_at_call 28; (with_reducible refine (CS _).mono ?_); rintro e w3 ⟨a2, cap2, rfl, hY, hb⟩; have hX := Row64.below hX hb; have hF := Row64.below hF hb; have hB := below_tr hB hb) | (go_at_call 34; (with_reducible refine (like64 _ _ N _ _ V _ hX hY).mono ?_); rintro e w4 ⟨rfl, hb⟩; have hX := Row64.below hX hb; have hF := Row64.below hF hb; have hB := below_tr hB hb))
        go_ret
        exact ⟨rfl, hB⟩
      · have s0 : snV true = 0 := rfl
        rw [hk] at CI CS
        have CL := CL0 hk
        clear CL0
        go_wp2_with (first | (go_at_call 29; (with_reducible refine (CI _ (hL.below hB)).mono ?_); rintro e w3 ⟨a1, cap1, rfl, hX, hb⟩; have hF := Row64.below hF hb; have hB := below_tr hB hb) | (go_at_call 28; (with_reducible refine (CS _).mono ?_); rintro e w3 ⟨a2, cap2, rfl, hY, hb⟩; have hX := Row64.below hX hb; have hF := Row64.below hF hb; have hB := below_tr hB hb) | (go_at_call 34; (with_reducible refine (like64 _ _ N _ _ V _ hX hY).mono ?_); rintro e w4 ⟨rfl, hb⟩; have hX := Row64.below hX hb; have hF := Row64.below hF hb; have hB := below_tr hB hb) | (go_at_call 18; (with_reducible refine (CL _ _ _ (hL.below hB) hX).mono ?_); rintro e w5 ⟨rfl, hb⟩; have hF := Row64.below hF hb; have hB := below_tr hB hb))
        go_ret
        exact ⟨rfl, hB⟩
    · have r0 : rgV true = 0 := rfl
      have CB := CB0 hl
      clear CB0
      cases hk : rlK u
      · have s6 : snV false = 6 := rfl
        rw [hk] at CI CS
        clear CL0
        go_wp2_with (first | (go_at_call 29; (with_reducible refine (CI _ (hL.below hB)).mono ?_); rintro e w3 ⟨a1, cap1, rfl, hX, hb⟩; have hF := Row64.below hF hb; have hB := below_tr hB hb) | (go_at_call 28; (with_reducible refine (CS _).mono ?_); rintro e w3 ⟨a2, cap2, rfl, hY, hb⟩; have hX := Row64.below hX hb; have hF := Row64.below hF hb; have hB := below_tr hB hb) | (go_at_call 34; (with_reducible refine (like64 _ _ N _ _ V _ hX hY).mono ?_); rintro e w4 ⟨rfl, hb⟩; have hX := Row64.below hX hb; have hF := Row64.below hF hb; have hB := below_tr hB hb) | (go_at_call 29; (with_reducible refine (CB _ (hL.below hB)).mono ?_); rintro e w6 ⟨a3, cap3, rfl, hZ, hb⟩; have hF := Row64.below hF hb; have hB := below_tr hB hb) | (go_at_call 34; (with_reducible refine (like64 _ _ n0 _ _ f _ hZ hF).mono ?_); rintro e w7 ⟨rfl, hb⟩; have hB := below_tr hB hb))
        go_ret
        exact ⟨rfl, hB⟩
      · have s0 : snV true = 0 := rfl
        rw [hk] at CI CS
        have CL := CL0 hk
        clear CL0
        go_wp2_with (first | (go_at_call 29; (with_reducible refine (CI _ (hL.below hB)).mono ?_); rintro e w3 ⟨a1, cap1, rfl, hX, hb⟩; have hF := Row64.below hF hb; have hB := below_tr hB hb) | (go_at_call 28; (with_reducible refine (CS _).mono ?_); rintro e w3 ⟨a2, cap2, rfl, hY, hb⟩; have hX := Row64.below hX hb; have hF := Row64.below hF hb; have hB := below_tr hB hb) | (go_at_call 34; (with_reducible refine (like64 _ _ N _ _ V _ hX hY).mono ?_); rintro e w4 ⟨rfl, hb⟩; have hX := Row64.below hX hb; have hF := Row64.below hF hb; have hB := below_tr hB hb) | (go_at_call 18; (with_reducible refine (CL _ _ _ (hL.below hB) hX).mono ?_); rintro e w5 ⟨rfl, hb⟩; have hF := Row64.below hF hb; have hB := below_tr hB hb) | (go_at_call 29; (with_reducible refine (CB _ (hL.below hB)).mono ?_); rintro e w6 ⟨a3, cap3, rfl, hZ, hb⟩; have hF := Row64.below hF hb; have hB := below_tr hB hb) | (go_at_call 34; (with_reducible refine (like64 _ _ n0 _ _ f _ hZ hF).mono ?_); rintro e w7 ⟨rfl, hb⟩; have hB := below_tr hB hb))
        go_ret
        exact ⟨rfl, hB⟩
end Go.Proofs.YtlijleemogpifaaDoor.C
