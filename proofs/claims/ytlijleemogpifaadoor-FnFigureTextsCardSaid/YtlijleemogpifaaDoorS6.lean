/- Lists of numbers: the text of a list. -/
import Derived.Test.YtlijleemogpifaaDoorS5
import Derived.Test.YtlijleemogpifaaDoorShelf
import Derived.Lib.Join
import Derived.Maps.AppendAt
import Derived.OwnWalk
import Derived.Laws.AppendOwn
namespace Go.Proofs.YtlijleemogpifaaDoor.C
open Go.RowKit Go.Proofs.YtlijleemogpifaaDoor.K
set_option linter.unusedVariables false
set_option linter.unusedSimpArgs false
attribute [local go_sem ↓] Go.wp_at_zero Go.wp_at_succ

/-- the text of a list that may be written -/
def txB (f : Nat → Int) (len : Nat) : ByteArray := if len = 0 then ⟨#[45]⟩ else jnB f len
/-- the text of a list -/
def ltB (f : Nat → Int) (len : Nat) : ByteArray := if lsV f len = true then txB f len else ⟨#[]⟩
set_option maxHeartbeats 1600000 in
theorem text_s (a : Option Addr) (len cap : Nat) (f : Nat → Int) (w : World) (hR : Row64 w a len f) (hV : allV f len = true) (hn : len ≤ 100) : Calls Tryd.prog 53 #[.slice a len cap] w fun e w' => e = .returned (.string (txB f len)) ∧ Below w.heap.size w w' := by
  by_cases h0 : len = 0
  · have HE := Lib.hid (show (⟨#[45]⟩ : ByteArray) = txB f len by unfold txB; rw [if_pos h0])
    subst h0
    go_enter Tryd.func53, Tryd.ntmps53
    go_wp2_with fail
    go_ret
    exact ⟨by rw [← HE.out]; rfl, (by repeat (first | (with_reducible exact Below.refl _ _) | (with_reducible assumption) | (with_reducible refine below_alloc ?_ _) | (with_reducible refine Below.setCell ?_ (by first | omega | (simp; done) | (simp; omega)) _) | (with_reducible refine below_drewN ?_ _) | (with_reducible refine Below.drew ?_) | (with_reducible refine below_tr ?_ (by assumption))))⟩
  · have HE := Lib.hid (show jnB f len = txB f len by unfold txB; rw [if_neg h0])
    have h0' : ((len : Int) == 0) = false := beq_eq_false_iff_ne.2 (by omega)
    go_enter Tryd.func53, Tryd.ntmps53
    go_wp2_with (go_at_call 82; refine (join_s a len cap f _ (by with_reducible assumption) hV hn).mono ?_; rintro e w1 ⟨rfl, hb⟩; obtain ⟨hc, hf⟩ := bcell hb; (try simp only [World.size_drew, World.cell?_drew] at hc); (try simp only [World.size_drew, World.frozen?_drew] at hf); have hz := hb.size; (try simp at hz); (try (have hz0 : w.heap.size < w1.heap.size := by omega)); (try (have hz1 : w.heap.size + 1 < w1.heap.size := by omega)); (try (have hz2 : w.heap.size + 1 + 1 < w1.heap.size := by omega)); (try (have hz3 : w.heap.size + 1 + 1 + 1 < w1.heap.size := by omega)); (try (have r7 := Nat.lt_of_lt_of_le r5 (show _ ≤ w1.heap.size by omega))); (try (have r6 := Nat.lt_of_lt_of_le r4 (show _ ≤ w1.heap.size by omega))); (try (have r5 := Nat.lt_of_lt_of_le r3 (show _ ≤ w1.heap.size by omega))); (try (have r4 := Nat.lt_of_lt_of_le r2 (show _ ≤ w1.heap.size by omega))); (try (have r3 := Nat.lt_of_lt_of_le r1 (show _ ≤ w1.heap.size by omega))); (try (have r2 := Nat.lt_of_succ_le (Nat.le_of_succ_le hz))); (try (have r1 := Nat.lt_of_succ_le hz)); (try (have hg1 := Nat.lt_of_lt_of_le hg1 (show _ ≤ w1.heap.size by omega))); (try (have hg2 := Nat.lt_of_lt_of_le hg2 (show _ ≤ w1.heap.size by omega))); (try (have hg3 := Nat.lt_of_lt_of_le hg3 (show _ ≤ w1.heap.size by omega))); (try (first | have hK := S1.below hK hb | have hK := S1.below (S1.alloc hK _) hb | have hK := S1.below (S1.alloc (S1.alloc hK _) _) hb | have hK := S1.below (S1.drewN hK _) hb)); (try (first | have hK2 := S1.below hK2 hb | have hK2 := S1.below (S1.alloc hK2 _) hb | have hK2 := S1.below (S1.alloc (S1.alloc hK2 _) _) hb | have hK2 := S1.below (S1.drewN hK2 _) hb)); (try (first | have hK3 := S1.below hK3 hb | have hK3 := S1.below (S1.alloc hK3 _) hb | have hK3 := S1.below (S1.alloc (S1.alloc hK3 _) _) hb | have hK3 := S1.below (S1.drewN hK3 _) hb)); (try (first | have hK4 := S1.below hK4 hb | have hK4 := S1.below (S1.alloc hK4 _) hb | have hK4 := S1.below (S1.alloc (S1.alloc hK4 _) _) hb | have hK4 := S1.below (S1.drewN hK4 _) hb)))
    go_ret
    exact ⟨by rw [← HE.out]; rfl, (by repeat (first | (with_reducible exact Below.refl _ _) | (with_reducible assumption) | (with_reducible refine below_alloc ?_ _) | (with_reducible refine Below.setCell ?_ (by first | omega | (simp; done) | (simp; omega)) _) | (with_reducible refine below_drewN ?_ _) | (with_reducible refine Below.drew ?_) | (with_reducible refine below_tr ?_ (by assumption))))⟩
set_option maxHeartbeats 1600000 in
theorem ListText_spec (a : Option Addr) (len cap : Nat) (f : Nat → Int) (w : World) (hR : Row64 w a len f) : Calls Tryd.prog 16 #[.slice a len cap] w fun e w' => e = .returned (.tuple #[.string (ltB f len), .int .i64 (rgV (lsV f len))]) ∧ Below w.heap.size w w' := by
  cases hv : lsV f len
  · have HE := Lib.hid (show (⟨#[]⟩ : ByteArray) = ltB f len by unfold ltB; rw [hv]; rfl)
    go_enter Tryd.func16, Tryd.ntmps16
    go_wp2_with (go_at_call 52; refine (list_s a len cap f _ (by with_reducible assumption)).mono ?_; rintro e w1 ⟨rfl, rfl⟩)
    go_ret2
    exact ⟨by rw [← HE.out]; rfl, (by repeat (first | (with_reducible exact Below.refl _ _) | (with_reducible assumption) | (with_reducible refine below_alloc ?_ _) | (with_reducible refine Below.setCell ?_ (by first | omega | (simp; done) | (simp; omega)) _) | (with_reducible refine below_drewN ?_ _) | (with_reducible refine Below.drew ?_) | (with_reducible refine below_tr ?_ (by assumption))))⟩
  · have HE := Lib.hid (show txB f len = ltB f len by unfold ltB; rw [hv]; rfl)
    have hp := hv
    unfold lsV at hp
    rw [Bool.and_eq_true, decide_eq_true_eq] at hp
    obtain ⟨hA, hn⟩ := hp
    go_enter Tryd.func16, Tryd.ntmps16
    go_wp2_with (first | (go_at_call 52; refine (list_s a len cap f _ (by with_reducible assumption)).mono ?_; rintro e w1 ⟨rfl, rfl⟩) | (go_at_call 53; refine (text_s a len cap f _ (by with_reducible assumption) hA hn).mono ?_; rintro e w1 ⟨rfl, hb⟩; obtain ⟨hc, hf⟩ := bcell hb; (try simp only [World.size_drew, World.cell?_drew] at hc); (try simp only [World.size_drew, World.frozen?_drew] at hf); have hz := hb.size; (try simp at hz); (try (have hz0 : w.heap.size < w1.heap.size := by omega)); (try (have hz1 : w.heap.size + 1 < w1.heap.size := by omega)); (try (have hz2 : w.heap.size + 1 + 1 < w1.heap.size := by omega)); (try (have hz3 : w.heap.size + 1 + 1 + 1 < w1.heap.size := by omega)); (try (have r7 := Nat.lt_of_lt_of_le r5 (show _ ≤ w1.heap.size by omega))); (try (have r6 := Nat.lt_of_lt_of_le r4 (show _ ≤ w1.heap.size by omega))); (try (have r5 := Nat.lt_of_lt_of_le r3 (show _ ≤ w1.heap.size by omega))); (try (have r4 := Nat.lt_of_lt_of_le r2 (show _ ≤ w1.heap.size by omega))); (try (have r3 := Nat.lt_of_lt_of_le r1 (show _ ≤ w1.heap.size by omega))); (try (have r2 := Nat.lt_of_succ_le (Nat.le_of_succ_le hz))); (try (have r1 := Nat.lt_of_succ_le hz)); (try (have hg1 := Nat.lt_of_lt_of_le hg1 (show _ ≤ w1.heap.size by omega))); (try (have hg2 := Nat.lt_of_lt_of_le hg2 (show _ ≤ w1.heap.size by omega))); (try (have hg3 := Nat.lt_of_lt_of_le hg3 (show _ ≤ w1.heap.size by omega))); (try (first | have hK := S1.below hK hb | have hK := S1.below (S1.alloc hK _) hb | have hK := S1.below (S1.alloc (S1.alloc hK _) _) hb | have hK := S1.below (S1.drewN hK _) hb)); (try (first | have hK2 := S1.below hK2 hb | have hK2 := S1.below (S1.alloc hK2 _) hb | have hK2 := S1.below (S1.alloc (S1.alloc hK2 _) _) hb | have hK2 := S1.below (S1.drewN hK2 _) hb)); (try (first | have hK3 := S1.below hK3 hb | have hK3 := S1.below (S1.alloc hK3 _) hb | have hK3 := S1.below (S1.alloc (S1.alloc hK3 _) _) hb | have hK3 := S1.below (S1.drewN hK3 _) hb)); (try (first | have hK4 := S1.below hK4 hb | have hK4 := S1.below (S1.alloc hK4 _) hb | have hK4 := S1.below (S1.alloc (S1.alloc hK4 _) _) hb | have hK4 := S1.below (S1.drewN hK4 _) hb))))
    go_ret2
    exact ⟨by rw [← HE.out]; rfl, (by repeat (first | (with_reducible exact Below.refl _ _) | (with_reducible assumption) | (with_reducible refine below_alloc ?_ _) | (with_reducible refine Below.setCell ?_ (by first | omega | (simp; done) | (simp; omega)) _) | (with_reducible refine below_drewN ?_ _) | (with_reducible refine Below.drew ?_) | (with_reducible refine below_tr ?_ (by assumption))))⟩
theorem infoS : (Tryd.prog.info? 9).map (fun i => (i.zero, i.size, i.bytes)) = some (some (.string ⟨#[]⟩), 1, 16) := by kernel_rfl
theorem cell_one (w : World) (x : Value) (t : TypeId) : ∀ j u, [x][j]? = some u → (w.alloc (.cells #[x] t)).cell? ((⟨w.heap.size, 0, none⟩ : Addr).add j) = some u := by
  intro j u hj
  match j, hj with
  | 0, hj => simp at hj; subst hj; simp [Addr.add]
  | (j + 1), hj => simp at hj
theorem own_below6 {B e size n : Nat} {v : Value} {xs : List Value} {w w' : World} (h : w.ownsRow B e size v n xs) (k : Below w.heap.size w w') : w'.ownsRow B e size v n xs := by
  refine ⟨h.1, h.2.imp id ?_⟩
  rintro ⟨g, cap, cur, a, b, c, d⟩
  have hg : g < w.heap.size := (h.lt g (by rw [a]; rfl)).2
  exact ⟨g, cap, cur, a, b, by rw [k.block g hg]; exact c, d⟩
/-- the first k numbers in decimal -/
def prt (f : Nat → Int) : Nat → List ByteArray
  | 0 => []
  | k + 1 => prt f k ++ [itoB (f k)]
theorem prt_length (f : Nat → Int) : ∀ k, (prt f k).length = k
  | 0 => rfl
  | k + 1 => by rw [prt, List.length_append, prt_length f k]; rfl
theorem join_snoc (xs : List (List UInt8)) (y sep : List UInt8) (h : xs ≠ []) : Lib.join (xs ++ [y]) sep = Lib.join xs sep ++ sep ++ y := by
  cases xs with
  | nil => exact absurd rfl h
  | cons x r => rw [List.cons_append, Lib.join_cons, Lib.join_cons]; simp [Lib.joinTail]
theorem prt_join (f : Nat → Int) : ∀ k, Lib.join ((prt f k).map (·.data.toList)) [44] = (jnB f k).data.toList
  | 0 => rfl
  | 1 => by simp [prt, jnB, Lib.join_one]
  | k + 2 => by
    have ih := prt_join f (k + 1)
    rw [prt, List.map_append, List.map_cons, List.map_nil, join_snoc _ _ _ (by
      intro h
      have := congrArg List.length h
      rw [List.length_map, prt_length] at this
      cases this), ih]
    rw [jnB.eq_2 f (k + 1), if_pos (by omega)]
    simp
set_option maxHeartbeats 3200000 in
theorem joined_i (a : Option Addr) (len cap : Nat) (f : Nat → Int) (w : World) (hL : Lb1 w) (hR : Row64 w a len f) (hV : allV f len = true) (hn : len ≤ 100) (h1 : 0 < len) : Calls Tryd.prog 55 #[.slice a len cap, .string ⟨#[44]⟩] w fun e w' => e = .returned (.string (jnB f len)) ∧ Below w.heap.size w w' := by
  obtain ⟨i0, hi, hz0, hz1, hz2⟩ := info_parts infoS
  have hl := hR.1
  have hown0 : (w.alloc (.cells #[] 9)).ownsRow w.heap.size 9 1 (.slice (some ⟨w.heap.size, 0, none⟩) 0 0) 0 ((prt f 0).map Value.string) := World.ownsRow_made w #[] 0 (Nat.le_refl _) (by unfold maxLen; omega) rfl
  go_enter Tryd.func55, Tryd.ntmps55
  go_wp2_with fail
  go_loopw [5, 11] (fun v x wr => ∃ k : Nat, k ≤ len ∧ x = .int .i64 k ∧ wr.ownsRow w.heap.size 9 1 v k ((prt f k).map Value.string) ∧ Below w.heap.size w wr) (fun _ x _ => len - (intOf x).toNat)
  case atStart => exact ⟨0, Nat.zero_le _, rfl, hown0, (by repeat (first | (with_reducible exact Below.refl _ _) | (with_reducible assumption) | (with_reducible refine below_alloc ?_ _) | (with_reducible refine Below.setCell ?_ (by first | omega | (simp; done) | (simp; omega)) _) | (with_reducible refine below_drewN ?_ _) | (with_reducible refine Below.drew ?_) | (with_reducible refine below_tr ?_ (by assumption))))⟩
  case round =>
    obtain ⟨k, hk, rfl, hown, hB⟩ := hrel
    clear hown0
    have hsz := hB.size
    by_cases hkl : k < len
    · obtain ⟨b, off, rfl, hb0, hc⟩ := (hR.below hB).2 (by omega)
      obtain ⟨hz, z0, z1⟩ := hc k hkl
      clear hc
      go_wp2_with (first | (go_at_call 47; refine (decimal_i _ _ (Lb1.below hL (by repeat (first | (with_reducible exact Below.refl _ _) | (with_reducible assumption) | (with_reducible refine below_alloc ?_ _) | (with_reducible refine Below.setCell ?_ (by first | omega | (simp; done) | (simp; omega)) _) | (with_reducible refine below_drewN ?_ _) | (with_reducible refine Below.drew ?_) | (with_reducible refine below_tr ?_ (by assumption))))) (by omega) (by omega)).mono ?_; rintro e w1 ⟨rfl, hb⟩; have hown1 := own_below6 hown hb; have hs1 := hb.size) | (at_builtin; refine wpList_append_own_at _ rfl (.tmp 15) (.tmp 18) 70 rfl w.heap.size 9 i0 (.string ⟨#[]⟩) 1 16 Tryd.underlying70 hi hz0 hz1 hz2 rfl (by decide) _ _ _ rfl (hown1.alloc _) ⟨_, 0, none⟩ 1 1 [.string (itoB (f k))] rfl rfl (cell_one _ _ _) (by intro u hu; simp at hu; subst hu; rfl) (by unfold maxLen; omega) (by omega) (by simp; omega) ?_; intro v3 w3 hown3 hgrow3 hnil3 hat3))
      go_roundw
      case rel =>
        refine ⟨k + 1, by omega, by go_num, ?_, ?_⟩
        · rw [prt, List.map_append]; exact hown3
        · exact ((below_tr hB hb).alloc (by omega) _).grown hgrow3 (by simp; omega) (fun k hk => (hown1.lt k hk).1)
      case measure => simp only [intOf]; omega
    · obtain rfl : k = len := by omega
      rcases hown.2 with ⟨_, h⟩ | ⟨g, cp, cur, rfl, hg, hh, hcp, _, _, _⟩
      · omega
      · have hcells := hown.cells (g := g) rfl
        have hlt := (hown.lt g rfl).2
        have hj := prt_join f k
        have ea : ∀ n : Nat, (⟨g, 0, none⟩ : Addr).add n = ⟨g, 0 + n, none⟩ := fun n => by cases n <;> simp [Addr.add]
        have hJ := Tryd.strings_Join g 0 cp (prt f k) ⟨#[44]⟩ wr (fun j x hx => by rw [← ea]; exact hcells j _ (by rw [List.getElem?_map, hx]; rfl)) hlt (by rw [prt_length]; omega) (by rw [prt_length]; exact hcp) (by
          show (Lib.join _ [44]).length ≤ _
          rw [hj]
          have := jnB_size hV
          rw [Array.length_toList]
          exact Nat.le_trans (show (jnB f k).data.size ≤ 18 * k from this) (by omega))
        rw [prt_length] at hJ
        have hE : (⟨(Lib.join ((prt f k).map (·.data.toList)) (⟨#[44]⟩ : ByteArray).data.toList).toArray⟩ : ByteArray) = jnB f k := by
          show (⟨(Lib.join _ [44]).toArray⟩ : ByteArray) = _
          rw [hj]
        rw [hE] at hJ
        go_wp2_with (go_at_call 83; refine hJ.mono ?_; rintro e w1 ⟨rfl, hb⟩)
        go_ret
        exact ⟨rfl, below_tr hB hb⟩
set_option maxHeartbeats 3200000 in
theorem ListText_impl (a : Option Addr) (len cap : Nat) (f : Nat → Int) (w : World) (hL : Lb1 w) (hR : Row64 w a len f) : Calls Tryd.prog 18 #[.slice a len cap] w fun e w' => e = .returned (.tuple #[.string (ltB f len), .int .i64 (rgV (lsV f len))]) ∧ Below w.heap.size w w' := by
  have hl := hR.1
  by_cases hn : len ≤ 100
  · have hn' : ¬ (100 : Int) < len := by omega
    go_enter Tryd.func18, Tryd.ntmps18
    go_wp2_with fail
    go_loopw [11] (fun x wr => ∃ k : Nat, k ≤ len ∧ x = .int .i64 k ∧ allV f k = true ∧ w = wr) (fun x _ => len - (intOf x).toNat)
    case atStart => exact ⟨0, Nat.zero_le _, rfl, rfl, by trivial⟩
    case round =>
      obtain ⟨k, hk, rfl, hA, rfl⟩ := hrel
      by_cases hkl : k < len
      · obtain ⟨b, off, rfl, hb, hc⟩ := hR.2 (by omega)
        obtain ⟨hz, z0, z1⟩ := hc k hkl
        clear hc
        cases hv : isV (f k)
        · have hr : lsV f len = false := by unfold lsV; rw [allV_false hkl hv]; rfl
          have HE := Lib.hid (show (⟨#[]⟩ : ByteArray) = ltB f len by unfold ltB; rw [hr]; rfl)
          have HF := Lib.hid (show (2 : Int) = rgV (lsV f len) by rw [hr]; rfl)
          clear hr
          go_wp2_with (go_at_call 54; refine (is_i _ _).mono ?_; rintro e w' ⟨rfl, rfl⟩)
          go_ret2
          exact ⟨by rw [← HE.out, ← HF.out]; rfl, (by repeat (first | (with_reducible exact Below.refl _ _) | (with_reducible assumption) | (with_reducible refine below_alloc ?_ _) | (with_reducible refine Below.setCell ?_ (by first | omega | (simp; done) | (simp; omega)) _) | (with_reducible refine below_drewN ?_ _) | (with_reducible refine Below.drew ?_) | (with_reducible refine below_tr ?_ (by assumption))))⟩
        · go_wp2_with (go_at_call 54; refine (is_i _ _).mono ?_; rintro e w' ⟨rfl, rfl⟩)
          go_roundw
          case rel => exact ⟨k + 1, by omega, by go_num, by rw [allV, hA, hv]; rfl, by trivial⟩
          case measure => simp only [intOf]; omega
      · obtain rfl : k = len := by omega
        have hr : lsV f k = true := by unfold lsV; rw [hA, Bool.true_and]; exact decide_eq_true hn
        have HF := Lib.hid (show (0 : Int) = rgV (lsV f k) by rw [hr]; rfl)
        by_cases h0 : k = 0
        · have HE := Lib.hid (show (⟨#[45]⟩ : ByteArray) = ltB f k by unfold ltB txB; rw [if_pos hr, if_pos h0])
          clear hr
          subst h0
          go_wp2_with fail
          go_ret2
          exact ⟨by rw [← HE.out, ← HF.out]; rfl, (by repeat (first | (with_reducible exact Below.refl _ _) | (with_reducible assumption) | (with_reducible refine below_alloc ?_ _) | (with_reducible refine Below.setCell ?_ (by first | omega | (simp; done) | (simp; omega)) _) | (with_reducible refine below_drewN ?_ _) | (with_reducible refine Below.drew ?_) | (with_reducible refine below_tr ?_ (by assumption))))⟩
        · have HE := Lib.hid (show jnB f k = ltB f k by unfold ltB txB; rw [if_pos hr, if_neg h0])
          clear hr
          have h0' : ((k : Int) == 0) = false := beq_eq_false_iff_ne.2 (by omega)
          go_wp2_with (go_at_call 55; refine (joined_i a k cap f _ (by with_reducible assumption) (by with_reducible assumption) hA hn (by omega)).mono ?_; rintro e w1 ⟨rfl, hb⟩; obtain ⟨hc, hf⟩ := bcell hb; (try simp only [World.size_drew, World.cell?_drew] at hc); (try simp only [World.size_drew, World.frozen?_drew] at hf); have hz := hb.size; (try simp at hz); (try (have hz0 : w.heap.size < w1.heap.size := by omega)); (try (have hz1 : w.heap.size + 1 < w1.heap.size := by omega)); (try (have hz2 : w.heap.size + 1 + 1 < w1.heap.size := by omega)); (try (have hz3 : w.heap.size + 1 + 1 + 1 < w1.heap.size := by omega)); (try (have r7 := Nat.lt_of_lt_of_le r5 (show _ ≤ w1.heap.size by omega))); (try (have r6 := Nat.lt_of_lt_of_le r4 (show _ ≤ w1.heap.size by omega))); (try (have r5 := Nat.lt_of_lt_of_le r3 (show _ ≤ w1.heap.size by omega))); (try (have r4 := Nat.lt_of_lt_of_le r2 (show _ ≤ w1.heap.size by omega))); (try (have r3 := Nat.lt_of_lt_of_le r1 (show _ ≤ w1.heap.size by omega))); (try (have r2 := Nat.lt_of_succ_le (Nat.le_of_succ_le hz))); (try (have r1 := Nat.lt_of_succ_le hz)); (try (have hg1 := Nat.lt_of_lt_of_le hg1 (show _ ≤ w1.heap.size by omega))); (try (have hg2 := Nat.lt_of_lt_of_le hg2 (show _ ≤ w1.heap.size by omega))); (try (have hg3 := Nat.lt_of_lt_of_le hg3 (show _ ≤ w1.heap.size by omega))); (try (first | have hK := S1.below hK hb | have hK := S1.below (S1.alloc hK _) hb | have hK := S1.below (S1.alloc (S1.alloc hK _) _) hb | have hK := S1.below (S1.drewN hK _) hb)); (try (first | have hK2 := S1.below hK2 hb | have hK2 := S1.below (S1.alloc hK2 _) hb | have hK2 := S1.below (S1.alloc (S1.alloc hK2 _) _) hb | have hK2 := S1.below (S1.drewN hK2 _) hb)); (try (first | have hK3 := S1.below hK3 hb | have hK3 := S1.below (S1.alloc hK3 _) hb | have hK3 := S1.below (S1.alloc (S1.alloc hK3 _) _) hb | have hK3 := S1.below (S1.drewN hK3 _) hb)); (try (first | have hK4 := S1.below hK4 hb | have hK4 := S1.below (S1.alloc hK4 _) hb | have hK4 := S1.below (S1.alloc (S1.alloc hK4 _) _) hb | have hK4 := S1.below (S1.drewN hK4 _) hb)))
          go_ret2
          exact ⟨by rw [← HE.out, ← HF.out]; rfl, (by repeat (first | (with_reducible exact Below.refl _ _) | (with_reducible assumption) | (with_reducible refine below_alloc ?_ _) | (with_reducible refine Below.setCell ?_ (by first | omega | (simp; done) | (simp; omega)) _) | (with_reducible refine below_drewN ?_ _) | (with_reducible refine Below.drew ?_) | (with_reducible refine below_tr ?_ (by assumption))))⟩
  · have hn' : (100 : Int) < len := by omega
    have hr : lsV f len = false := by unfold lsV; rw [decide_eq_false hn, Bool.and_false]
    have HE := Lib.hid (show (⟨#[]⟩ : ByteArray) = ltB f len by unfold ltB; rw [hr]; rfl)
    have HF := Lib.hid (show (2 : Int) = rgV (lsV f len) by rw [hr]; rfl)
    clear hr
    go_enter Tryd.func18, Tryd.ntmps18
    go_wp2_with fail
    go_ret2
    exact ⟨by rw [← HE.out, ← HF.out]; rfl, (by repeat (first | (with_reducible exact Below.refl _ _) | (with_reducible assumption) | (with_reducible refine below_alloc ?_ _) | (with_reducible refine Below.setCell ?_ (by first | omega | (simp; done) | (simp; omega)) _) | (with_reducible refine below_drewN ?_ _) | (with_reducible refine Below.drew ?_) | (with_reducible refine below_tr ?_ (by assumption))))⟩
set_option maxHeartbeats 3200000 in
theorem ExactListText (a : Option Addr) (len cap : Nat) (zs : List Int) (w : World) (hz : IsRow .i64 w a len cap zs) (hL : Lb1 w) : Calls Tryd.prog 5 #[.slice a len cap] w fun e w' => e = .returned (.bool true) ∧ Below w.heap.size w w' := by
  have hR := Row64.of_row hz
  clear hz
  generalize (fun j => zs.getD j 0) = f at hR
  have hl := hR.1
  by_cases hn : len ≤ 1048576
  · have hn' : ¬ (1048576 : Int) < len := by omega
    go_enter Tryd.func5, Tryd.ntmps5
    go_wp2_with (first | (go_at_call 17; refine (to64 a len cap f _ (Row64.below hR (by repeat (first | (with_reducible exact Below.refl _ _) | (with_reducible assumption) | (with_reducible refine below_alloc ?_ _) | (with_reducible refine Below.setCell ?_ (by first | omega | (simp; done) | (simp; omega)) _) | (with_reducible refine below_drewN ?_ _) | (with_reducible refine Below.drew ?_) | (with_reducible refine below_tr ?_ (by assumption))))) hn).mono ?_; rintro e w1 ⟨rfl, hRow, hb⟩; have hs1 := hb.size; (try (have hX := Row64.below hX hb)); have hX := hRow) | (go_at_call 16; refine (ListText_spec _ len _ f _ (by with_reducible assumption)).mono ?_; rintro e w1 ⟨rfl, hb⟩; obtain ⟨hc, hf⟩ := bcell hb; (try simp only [World.size_drew, World.cell?_drew] at hc); (try simp only [World.size_drew, World.frozen?_drew] at hf); have hz := hb.size; (try simp at hz); (try (have hz0 : w.heap.size < w1.heap.size := by omega)); (try (have hz1 : w.heap.size + 1 < w1.heap.size := by omega)); (try (have hz2 : w.heap.size + 1 + 1 < w1.heap.size := by omega)); (try (have hz3 : w.heap.size + 1 + 1 + 1 < w1.heap.size := by omega)); (try (have r7 := Nat.lt_of_lt_of_le r5 (show _ ≤ w1.heap.size by omega))); (try (have r6 := Nat.lt_of_lt_of_le r4 (show _ ≤ w1.heap.size by omega))); (try (have r5 := Nat.lt_of_lt_of_le r3 (show _ ≤ w1.heap.size by omega))); (try (have r4 := Nat.lt_of_lt_of_le r2 (show _ ≤ w1.heap.size by omega))); (try (have r3 := Nat.lt_of_lt_of_le r1 (show _ ≤ w1.heap.size by omega))); (try (have r2 := Nat.lt_of_succ_le (Nat.le_of_succ_le hz))); (try (have r1 := Nat.lt_of_succ_le hz)); (try (have hg1 := Nat.lt_of_lt_of_le hg1 (show _ ≤ w1.heap.size by omega))); (try (have hg2 := Nat.lt_of_lt_of_le hg2 (show _ ≤ w1.heap.size by omega))); (try (have hg3 := Nat.lt_of_lt_of_le hg3 (show _ ≤ w1.heap.size by omega))); (try (first | have hK := S1.below hK hb | have hK := S1.below (S1.alloc hK _) hb | have hK := S1.below (S1.alloc (S1.alloc hK _) _) hb | have hK := S1.below (S1.drewN hK _) hb)); (try (first | have hK2 := S1.below hK2 hb | have hK2 := S1.below (S1.alloc hK2 _) hb | have hK2 := S1.below (S1.alloc (S1.alloc hK2 _) _) hb | have hK2 := S1.below (S1.drewN hK2 _) hb)); (try (first | have hK3 := S1.below hK3 hb | have hK3 := S1.below (S1.alloc hK3 _) hb | have hK3 := S1.below (S1.alloc (S1.alloc hK3 _) _) hb | have hK3 := S1.below (S1.drewN hK3 _) hb)); (try (first | have hK4 := S1.below hK4 hb | have hK4 := S1.below (S1.alloc hK4 _) hb | have hK4 := S1.below (S1.alloc (S1.alloc hK4 _) _) hb | have hK4 := S1.below (S1.drewN hK4 _) hb))) | (go_at_call 18; refine (ListText_impl _ len _ f _ (Lb1.below hL (by repeat (first | (with_reducible exact Below.refl _ _) | (with_reducible assumption) | (with_reducible refine below_alloc ?_ _) | (with_reducible refine Below.setCell ?_ (by first | omega | (simp; done) | (simp; omega)) _) | (with_reducible refine below_drewN ?_ _) | (with_reducible refine Below.drew ?_) | (with_reducible refine below_tr ?_ (by assumption))))) (by with_reducible assumption)).mono ?_; rintro e w1 ⟨rfl, hb⟩; obtain ⟨hc, hf⟩ := bcell hb; (try simp only [World.size_drew, World.cell?_drew] at hc); (try simp only [World.size_drew, World.frozen?_drew] at hf); have hz := hb.size; (try simp at hz); (try (have hz0 : w.heap.size < w1.heap.size := by omega)); (try (have hz1 : w.heap.size + 1 < w1.heap.size := by omega)); (try (have hz2 : w.heap.size + 1 + 1 < w1.heap.size := by omega)); (try (have hz3 : w.heap.size + 1 + 1 + 1 < w1.heap.size := by omega)); (try (have r7 := Nat.lt_of_lt_of_le r5 (show _ ≤ w1.heap.size by omega))); (try (have r6 := Nat.lt_of_lt_of_le r4 (show _ ≤ w1.heap.size by omega))); (try (have r5 := Nat.lt_of_lt_of_le r3 (show _ ≤ w1.heap.size by omega))); (try (have r4 := Nat.lt_of_lt_of_le r2 (show _ ≤ w1.heap.size by omega))); (try (have r3 := Nat.lt_of_lt_of_le r1 (show _ ≤ w1.heap.size by omega))); (try (have r2 := Nat.lt_of_succ_le (Nat.le_of_succ_le hz))); (try (have r1 := Nat.lt_of_succ_le hz)); (try (have hg1 := Nat.lt_of_lt_of_le hg1 (show _ ≤ w1.heap.size by omega))); (try (have hg2 := Nat.lt_of_lt_of_le hg2 (show _ ≤ w1.heap.size by omega))); (try (have hg3 := Nat.lt_of_lt_of_le hg3 (show _ ≤ w1.heap.size by omega))); (try (first | have hK := S1.below hK hb | have hK := S1.below (S1.alloc hK _) hb | have hK := S1.below (S1.alloc (S1.alloc hK _) _) hb | have hK := S1.below (S1.drewN hK _) hb)); (try (first | have hK2 := S1.below hK2 hb | have hK2 := S1.below (S1.alloc hK2 _) hb | have hK2 := S1.below (S1.alloc (S1.alloc hK2 _) _) hb | have hK2 := S1.below (S1.drewN hK2 _) hb)); (try (first | have hK3 := S1.below hK3 hb | have hK3 := S1.below (S1.alloc hK3 _) hb | have hK3 := S1.below (S1.alloc (S1.alloc hK3 _) _) hb | have hK3 := S1.below (S1.drewN hK3 _) hb)); (try (first | have hK4 := S1.below hK4 hb | have hK4 := S1.below (S1.alloc hK4 _) hb | have hK4 := S1.below (S1.alloc (S1.alloc hK4 _) _) hb | have hK4 := S1.below (S1.drewN hK4 _) hb)); have hX := Row64.below hX hb) | (go_at_call 19; refine (eq64 _ _ len _ _ f _ (by with_reducible assumption) (by with_reducible assumption)).mono ?_; rintro e w1 ⟨rfl, hb⟩; obtain ⟨hc, hf⟩ := bcell hb; (try simp only [World.size_drew, World.cell?_drew] at hc); (try simp only [World.size_drew, World.frozen?_drew] at hf); have hz := hb.size; (try simp at hz); (try (have hz0 : w.heap.size < w1.heap.size := by omega)); (try (have hz1 : w.heap.size + 1 < w1.heap.size := by omega)); (try (have hz2 : w.heap.size + 1 + 1 < w1.heap.size := by omega)); (try (have hz3 : w.heap.size + 1 + 1 + 1 < w1.heap.size := by omega)); (try (have r7 := Nat.lt_of_lt_of_le r5 (show _ ≤ w1.heap.size by omega))); (try (have r6 := Nat.lt_of_lt_of_le r4 (show _ ≤ w1.heap.size by omega))); (try (have r5 := Nat.lt_of_lt_of_le r3 (show _ ≤ w1.heap.size by omega))); (try (have r4 := Nat.lt_of_lt_of_le r2 (show _ ≤ w1.heap.size by omega))); (try (have r3 := Nat.lt_of_lt_of_le r1 (show _ ≤ w1.heap.size by omega))); (try (have r2 := Nat.lt_of_succ_le (Nat.le_of_succ_le hz))); (try (have r1 := Nat.lt_of_succ_le hz)); (try (have hg1 := Nat.lt_of_lt_of_le hg1 (show _ ≤ w1.heap.size by omega))); (try (have hg2 := Nat.lt_of_lt_of_le hg2 (show _ ≤ w1.heap.size by omega))); (try (have hg3 := Nat.lt_of_lt_of_le hg3 (show _ ≤ w1.heap.size by omega))); (try (first | have hK := S1.below hK hb | have hK := S1.below (S1.alloc hK _) hb | have hK := S1.below (S1.alloc (S1.alloc hK _) _) hb | have hK := S1.below (S1.drewN hK _) hb)); (try (first | have hK2 := S1.below hK2 hb | have hK2 := S1.below (S1.alloc hK2 _) hb | have hK2 := S1.below (S1.alloc (S1.alloc hK2 _) _) hb | have hK2 := S1.below (S1.drewN hK2 _) hb)); (try (first | have hK3 := S1.below hK3 hb | have hK3 := S1.below (S1.alloc hK3 _) hb | have hK3 := S1.below (S1.alloc (S1.alloc hK3 _) _) hb | have hK3 := S1.below (S1.drewN hK3 _) hb)); (try (first | have hK4 := S1.below hK4 hb | have hK4 := S1.below (S1.alloc hK4 _) hb | have hK4 := S1.below (S1.alloc (S1.alloc hK4 _) _) hb | have hK4 := S1.below (S1.drewN hK4 _) hb))))
    go_ret
    exact ⟨rfl, (by repeat (first | (with_reducible exact Below.refl _ _) | (with_reducible assumption) | (with_reducible refine below_alloc ?_ _) | (with_reducible refine Below.setCell ?_ (by first | omega | (simp; done) | (simp; omega)) _) | (with_reducible refine below_drewN ?_ _) | (with_reducible refine Below.drew ?_) | (with_reducible refine below_tr ?_ (by assumption))))⟩
  · have hn' : (1048576 : Int) < len := by omega
    go_enter Tryd.func5, Tryd.ntmps5
    go_wp2_with fail
    go_ret
    exact ⟨rfl, (by repeat (first | (with_reducible exact Below.refl _ _) | (with_reducible assumption) | (with_reducible refine below_alloc ?_ _) | (with_reducible refine Below.setCell ?_ (by first | omega | (simp; done) | (simp; omega)) _) | (with_reducible refine below_drewN ?_ _) | (with_reducible refine Below.drew ?_) | (with_reducible refine below_tr ?_ (by assumption))))⟩
end Go.Proofs.YtlijleemogpifaaDoor.C
