/- The law on the texts of figures: a figure is recovered from its text, and a rounded one is near to it. -/
import Derived.Test.YtlijleemogpifaaDoorS22
namespace Go.Proofs.YtlijleemogpifaaDoor.C
open Go.RowKit Go.Proofs.YtlijleemogpifaaDoor.K
set_option linter.unusedVariables false
set_option linter.unusedSimpArgs false
attribute [local go_sem ↓] Go.wp_at_zero Go.wp_at_succ

set_option maxRecDepth 100000 in
set_option maxHeartbeats 32000000 in
theorem FigureTexts (a : Option Addr) (len cap : Nat) (zs : List Int) (w : World) (hz : IsRow .u8 w a len cap zs) (hL : Lb2 w) : Calls Tryd.prog 9 #[.slice a len cap] w fun e w' => e = .returned (.bool true) ∧ Below w.heap.size w w' := by
  have hRow := Row8.of_row hz
  clear hz
  go_enter Tryd.func9, Tryd.ntmps9
  go_wp2_with (first | (go_at_call 20; refine (big _ _ _ _).mono ?_; rintro e w' ⟨rfl, rfl⟩) | (go_at_call 35; refine (DrawFigureText a len cap _ hRow).mono ?_; rintro e w1 ⟨d, t, rfl, hB1⟩))
  · go_ret
    exact ⟨rfl, Below.refl _ _⟩
  · go_upto_region 7 with (first | (go_at_call 15; refine (FigureText_impl d t _ ((hL.below (below_alloc hB1 _)).1)).mono ?_; rintro e w2 ⟨rfl, hb⟩; have hB2 := below_tr (below_alloc hB1 _) hb; have hA2 : S1 w1.heap.size d t w2 := S1.below (S1.new _ _ _ _) hb) | (go_at_call 13; refine (FigureText_spec d t _ (hL.below hB2).1).mono ?_; rintro e w3 ⟨rfl, hb⟩; have hB3 := below_tr hB2 hb; have hA3 := S1.below hA2 hb) | (go_at_call 36; refine (DrawReadFigure a len cap _ (hL.below hB3).1 (hRow.below hB3)).mono ?_; rintro e w4 ⟨u, rfl, hu, hb⟩; have hBl := below_tr hB3 hb; have hA := S1.below hA3 hb))
    clear hb hA3 hB3 hA2 hB2
    generalize w1.heap.size = bA at *
    clear hB1
    have hts := ftV_size d t
    have CI : ∀ w, Lb2 w → Calls Tryd.prog 37 #[.string u] w fun e w' => e = .returned (.tuple #[.agg #[.int .i64 (fgD u), .int .i64 (fgT u)], .int .i64 (snV (fgK u))]) ∧ Below w.heap.size w w' := fun w h => ReadFigure_impl u w h (by omega)
    have CS : ∀ w, Calls Tryd.prog 38 #[.string u] w fun e w' => e = .returned (.tuple #[.agg #[.int .i64 (fgD u), .int .i64 (fgT u)], .int .i64 (snV (fgK u))]) ∧ Below w.heap.size w w' := fun w => ReadFigure_spec u w hu
    have CT0 : fgK u = true → ∀ w, Lb2 w → Calls Tryd.prog 15 #[.agg #[.int .i64 (fgD u), .int .i64 (fgT u)]] w fun e w' => e = .returned (.tuple #[.string u, .int .i64 0]) ∧ Below w.heap.size w w' := fun h w hw => by
      obtain ⟨h1, h2⟩ := fg_there h
      have := FigureText_impl (fgD u) (fgT u) w hw.1
      rw [h1, h2] at this
      exact this
    have CB0 : figV d t = true → ∀ w, Lb2 w → Calls Tryd.prog 37 #[.string (ftV d t)] w fun e w' => e = .returned (.tuple #[.agg #[.int .i64 d, .int .i64 t], .int .i64 0]) ∧ Below w.heap.size w w' := fun h w hw => by
      obtain ⟨h1, h2, h3⟩ := ft_back h
      have := ReadFigure_impl (ftV d t) w hw (by omega)
      rw [h1, h2, h3] at this
      exact this
    clear hts
    generalize fgD u = xD at *
    generalize fgT u = xT at *
    generalize ftV d t = T at *
    go_upto_region 12 with (first | (go_at_call 37; (with_reducible refine (CI _ (hL.below hBl)).mono ?_); rintro e w5 ⟨rfl, hb⟩; replace hBl := below_tr hBl hb; replace hA := S1.below hA hb) | (go_at_call 38; (with_reducible refine (CS _).mono ?_); rintro e w6 ⟨rfl, hb⟩; replace hBl := below_tr (below_alloc hBl _) hb; replace hA := S1.below (S1.alloc hA _) hb; have hX : S1 w5.heap.size xD xT w6 := S1.below (S1.new _ _ _ _) hb) | (go_at_call 39; (with_reducible refine (DrawRoundFigure a len cap _ (hRow.below (below_alloc hBl _))).mono ?_); rintro e w7 ⟨bd, bt, bk, rfl, hb⟩; replace hBl := below_tr (below_alloc hBl _) hb; replace hA := S1.below (S1.alloc hA _) hb; replace hX := S1.below (S1.alloc hX _) hb; have hY : S1 w6.heap.size xD xT w7 := S1.below (S1.new _ _ _ _) hb) | (go_at_call 40; (with_reducible refine (RoundFigure_impl bd bt bk _).mono ?_); rintro e w8 ⟨rfl, hb⟩; replace hBl := below_tr (below_alloc hBl _) hb; replace hA := S1.below (S1.alloc hA _) hb; replace hX := S1.below (S1.alloc hX _) hb; replace hY := S1.below (S1.alloc hY _) hb; have hB : S1 w7.heap.size bd bt w8 := S1.below (S1.new _ _ _ _) hb) | (go_at_call 41; (with_reducible refine (RoundFigure_spec bd bt bk _).mono ?_); rintro e w9 ⟨rfl, hb⟩; replace hBl := below_tr (below_alloc hBl _) hb; replace hA := S1.below (S1.alloc hA _) hb; replace hX := S1.below (S1.alloc hX _) hb; replace hY := S1.below (S1.alloc hY _) hb; replace hB := S1.below (S1.alloc hB _) hb; have hR : S1 w8.heap.size (rsV (rfC bd bt bk) (rfD bd bk)) (rsV (rfC bd bt bk) (rfT bd bt bk)) w9 := S1.below (S1.new _ _ _ _) hb))
    have CE0 : rfC bd bt bk = 0 → (∃ n, ¬ (500000 < n) ∧ ∀ w, Calls Tryd.prog 42 #[.agg #[.int .i64 (rsV (rfC bd bt bk) (rfD bd bk)), .int .i64 (rsV (rfC bd bt bk) (rfT bd bt bk))], .agg #[.int .i64 bd, .int .i64 bt]] w fun e w' => e = .returned (.tuple #[.int .i64 n, .int .i64 0]) ∧ Below w.heap.size w w') ∧ (∀ w, Calls Tryd.prog 40 #[.agg #[.int .i64 (rsV (rfC bd bt bk) (rfD bd bk)), .int .i64 (rsV (rfC bd bt bk) (rfT bd bt bk))], .int .i64 bk] w fun e w' => e = .returned (.tuple #[.agg #[.int .i64 (rsV (rfC bd bt bk) (rfD bd bk)), .int .i64 (rsV (rfC bd bt bk) (rfT bd bt bk))], .int .i64 0]) ∧ Below w.heap.size w w') := fun h => by
      obtain ⟨⟨h1, h2, h3⟩, h4, h5⟩ := round_again h
      rw [h, rsV_zero, rsV_zero]
      refine ⟨⟨reN (rfD bd bk) (rfT bd bt bk) bd bt, by omega, fun w => ?_⟩, fun w => ?_⟩
      · have := RelativeError_impl (rfD bd bk) (rfT bd bt bk) bd bt w
        rw [h4, rsV_zero] at this
        exact this
      · have := RoundFigure_impl (rfD bd bk) (rfT bd bt bk) bk w
        rw [h1, h2, h3, rsV_zero, rsV_zero] at this
        exact this
    clear CI CS hRow hu
    generalize rsV (rfC bd bt bk) (rfD bd bk) = RD at *
    generalize rsV (rfC bd bt bk) (rfT bd bt bk) = RT at *
    generalize rfC bd bt bk = C at *
    generalize w5.heap.size = bX at *
    generalize w6.heap.size = bY at *
    generalize w7.heap.size = bB at *
    generalize w8.heap.size = bR at *
    cases hf : figV d t
    · have f0 : ioV false = 1 := rfl
      clear CB0
      cases hk : fgK u
      · have k0 : snV false = 6 := rfl
        clear CT0
        by_cases hC : C = 0
        · obtain ⟨⟨n, hn, CE⟩, CR⟩ := CE0 hC
          clear CE0
          subst hC
          go_wp2_with (first | (go_at_call 42; (with_reducible refine (CE _).mono ?_); rintro e wn ⟨rfl, hb⟩; (first | replace hBl := below_tr hBl hb | replace hBl := below_tr (below_alloc hBl _) hb); (first | replace hA := S1.below hA hb | replace hA := S1.below (S1.alloc hA _) hb); (first | replace hR := S1.below hR hb | replace hR := S1.below (S1.alloc hR _) hb)) | (go_at_call 40; (with_reducible refine (CR _).mono ?_); rintro e wn ⟨rfl, hb⟩; (first | replace hBl := below_tr hBl hb | replace hBl := below_tr (below_alloc hBl _) hb); (first | replace hA := S1.below hA hb | replace hA := S1.below (S1.alloc hA _) hb); (first | replace hR := S1.below hR hb | replace hR := S1.below (S1.alloc hR _) hb)))
          go_ret
          exact ⟨rfl, by first | (with_reducible exact hBl) | (with_reducible exact below_alloc hBl _) | (with_reducible exact below_alloc (below_alloc hBl _) _)⟩
        · have hC' : (C == 0) = false := beq_eq_false_iff_ne.2 hC
          clear CE0 hC
          go_wp2_with fail
          go_ret
          exact ⟨rfl, by first | (with_reducible exact hBl) | (with_reducible exact below_alloc hBl _) | (with_reducible exact below_alloc (below_alloc hBl _) _)⟩
      · have k0 : snV true = 0 := rfl
        have CT := CT0 hk
        clear CT0
        by_cases hC : C = 0
        · obtain ⟨⟨n, hn, CE⟩, CR⟩ := CE0 hC
          clear CE0
          subst hC
          go_wp2_with (first | (go_at_call 15; (with_reducible refine (CT _ (hL.below (by first | (with_reducible exact hBl) | (with_reducible exact below_alloc hBl _)))).mono ?_); rintro e wn ⟨rfl, hb⟩; (first | replace hBl := below_tr hBl hb | replace hBl := below_tr (below_alloc hBl _) hb); (first | replace hA := S1.below hA hb | replace hA := S1.below (S1.alloc hA _) hb); (first | replace hB := S1.below hB hb | replace hB := S1.below (S1.alloc hB _) hb); (first | replace hR := S1.below hR hb | replace hR := S1.below (S1.alloc hR _) hb)) | (go_at_call 42; (with_reducible refine (CE _).mono ?_); rintro e wn ⟨rfl, hb⟩; (first | replace hBl := below_tr hBl hb | replace hBl := below_tr (below_alloc hBl _) hb); (first | replace hA := S1.below hA hb | replace hA := S1.below (S1.alloc hA _) hb); (first | replace hR := S1.below hR hb | replace hR := S1.below (S1.alloc hR _) hb)) | (go_at_call 40; (with_reducible refine (CR _).mono ?_); rintro e wn ⟨rfl, hb⟩; (first | replace hBl := below_tr hBl hb | replace hBl := below_tr (below_alloc hBl _) hb); (first | replace hA := S1.below hA hb | replace hA := S1.below (S1.alloc hA _) hb); (first | replace hR := S1.below hR hb | replace hR := S1.below (S1.alloc hR _) hb)))
          go_ret
          exact ⟨rfl, by first | (with_reducible exact hBl) | (with_reducible exact below_alloc hBl _) | (with_reducible exact below_alloc (below_alloc hBl _) _)⟩
        · have hC' : (C == 0) = false := beq_eq_false_iff_ne.2 hC
          clear CE0 hC
          go_wp2_with (first | (go_at_call 15; (with_reducible refine (CT _ (hL.below (by first | (with_reducible exact hBl) | (with_reducible exact below_alloc hBl _)))).mono ?_); rintro e wn ⟨rfl, hb⟩; (first | replace hBl := below_tr hBl hb | replace hBl := below_tr (below_alloc hBl _) hb); (first | replace hA := S1.below hA hb | replace hA := S1.below (S1.alloc hA _) hb)))
          go_ret
          exact ⟨rfl, by first | (with_reducible exact hBl) | (with_reducible exact below_alloc hBl _) | (with_reducible exact below_alloc (below_alloc hBl _) _)⟩
    · have f0 : ioV true = 0 := rfl
      have CB := CB0 hf
      clear CB0
      cases hk : fgK u
      · have k0 : snV false = 6 := rfl
        clear CT0
        by_cases hC : C = 0
        · obtain ⟨⟨n, hn, CE⟩, CR⟩ := CE0 hC
          clear CE0
          subst hC
          go_wp2_with (first | (go_at_call 42; (with_reducible refine (CE _).mono ?_); rintro e wn ⟨rfl, hb⟩; (first | replace hBl := below_tr hBl hb | replace hBl := below_tr (below_alloc hBl _) hb); (first | replace hA := S1.below hA hb | replace hA := S1.below (S1.alloc hA _) hb); (first | replace hR := S1.below hR hb | replace hR := S1.below (S1.alloc hR _) hb)) | (go_at_call 40; (with_reducible refine (CR _).mono ?_); rintro e wn ⟨rfl, hb⟩; (first | replace hBl := below_tr hBl hb | replace hBl := below_tr (below_alloc hBl _) hb); (first | replace hA := S1.below hA hb | replace hA := S1.below (S1.alloc hA _) hb); (first | replace hR := S1.below hR hb | replace hR := S1.below (S1.alloc hR _) hb)) | (go_at_call 37; (with_reducible refine (CB _ (hL.below (by first | (with_reducible exact hBl) | (with_reducible exact below_alloc hBl _)))).mono ?_); rintro e wn ⟨rfl, hb⟩; (first | replace hBl := below_tr hBl hb | replace hBl := below_tr (below_alloc hBl _) hb); (first | replace hA := S1.below hA hb | replace hA := S1.below (S1.alloc hA _) hb)))
          go_ret
          exact ⟨rfl, by first | (with_reducible exact hBl) | (with_reducible exact below_alloc hBl _) | (with_reducible exact below_alloc (below_alloc hBl _) _)⟩
        · have hC' : (C == 0) = false := beq_eq_false_iff_ne.2 hC
          clear CE0 hC
          go_wp2_with (first | (go_at_call 37; (with_reducible refine (CB _ (hL.below (by first | (with_reducible exact hBl) | (with_reducible exact below_alloc hBl _)))).mono ?_); rintro e wn ⟨rfl, hb⟩; (first | replace hBl := below_tr hBl hb | replace hBl := below_tr (below_alloc hBl _) hb); (first | replace hA := S1.below hA hb | replace hA := S1.below (S1.alloc hA _) hb)))
          go_ret
          exact ⟨rfl, by first | (with_reducible exact hBl) | (with_reducible exact below_alloc hBl _) | (with_reducible exact below_alloc (below_alloc hBl _) _)⟩
      · have k0 : snV true = 0 := rfl
        have CT := CT0 hk
        clear CT0
        by_cases hC : C = 0
        · obtain ⟨⟨n, hn, CE⟩, CR⟩ := CE0 hC
          clear CE0
          subst hC
          go_wp2_with (first | (go_at_call 15; (with_reducible refine (CT _ (hL.below (by first | (with_reducible exact hBl) | (with_reducible exact below_alloc hBl _)))).mono ?_); rintro e wn ⟨rfl, hb⟩; (first | replace hBl := below_tr hBl hb | replace hBl := below_tr (below_alloc hBl _) hb); (first | replace hA := S1.below hA hb | replace hA := S1.below (S1.alloc hA _) hb); (first | replace hB := S1.below hB hb | replace hB := S1.below (S1.alloc hB _) hb); (first | replace hR := S1.below hR hb | replace hR := S1.below (S1.alloc hR _) hb)) | (go_at_call 42; (with_reducible refine (CE _).mono ?_); rintro e wn ⟨rfl, hb⟩; (first | replace hBl := below_tr hBl hb | replace hBl := below_tr (below_alloc hBl _) hb); (first | replace hA := S1.below hA hb | replace hA := S1.below (S1.alloc hA _) hb); (first | replace hR := S1.below hR hb | replace hR := S1.below (S1.alloc hR _) hb)) | (go_at_call 40; (with_reducible refine (CR _).mono ?_); rintro e wn ⟨rfl, hb⟩; (first | replace hBl := below_tr hBl hb | replace hBl := below_tr (below_alloc hBl _) hb); (first | replace hA := S1.below hA hb | replace hA := S1.below (S1.alloc hA _) hb); (first | replace hR := S1.below hR hb | replace hR := S1.below (S1.alloc hR _) hb)) | (go_at_call 37; (with_reducible refine (CB _ (hL.below (by first | (with_reducible exact hBl) | (with_reducible exact below_alloc hBl _)))).mono ?_); rintro e wn ⟨rfl, hb⟩; (first | replace hBl := below_tr hBl hb | replace hBl := below_tr (below_alloc hBl _) hb); (first | replace hA := S1.below hA hb | replace hA := S1.below (S1.alloc hA _) hb)))
          go_ret
          exact ⟨rfl, by first | (with_reducible exact hBl) | (with_reducible exact below_alloc hBl _) | (with_reducible exact below_alloc (below_alloc hBl _) _)⟩
        · have hC' : (C == 0) = false := beq_eq_false_iff_ne.2 hC
          clear CE0 hC
          go_wp2_with (first | (go_at_call 15; (with_reducible refine (CT _ (hL.below (by first | (with_reducible exact hBl) | (with_reducible exact below_alloc hBl _)))).mono ?_); rintro e wn ⟨rfl, hb⟩; (first | replace hBl := below_tr hBl hb | replace hBl := below_tr (below_alloc hBl _) hb); (first | replace hA := S1.below hA hb | replace hA := S1.below (S1.alloc hA _) hb)) | (go_at_call 37; (with_reducible refine (CB _ (hL.below (by first | (with_reducible exact hBl) | (with_reducible exact below_alloc hBl _)))).mono ?_); rintro e wn ⟨rfl, hb⟩; (first | replace hBl := below_tr hBl hb | replace hBl := below_tr (below_alloc hBl _) hb); (first | replace hA := S1.below hA hb | replace hA := S1.below (S1.alloc hA _) hb)))
          go_ret
          exact ⟨rfl, by first | (with_reducible exact hBl) | (with_reducible exact below_alloc hBl _) | (with_reducible exact below_alloc (below_alloc hBl _) _)⟩
end Go.Proofs.YtlijleemogpifaaDoor.C
