/- A list read: the reference. -/
import Derived.Test.YtlijleemogpifaaDoorS11
namespace Go.Proofs.YtlijleemogpifaaDoor.C
open Go.RowKit Go.Proofs.YtlijleemogpifaaDoor.K
set_option linter.unusedVariables false
set_option linter.unusedSimpArgs false
attribute [local go_sem ↓] Go.wp_at_zero Go.wp_at_succ

/-- a row of texts -/
def RowS (w : World) (a : Option Addr) (xs : List ByteArray) : Prop := ∃ b off, a = some ⟨b, off, none⟩ ∧ b < w.heap.size ∧ ∀ j x, xs[j]? = some x → w.cell? ⟨b, off + j, none⟩ = some (.string x)
theorem RowS.below {w w' : World} {a : Option Addr} {xs : List ByteArray} (h : RowS w a xs) (k : Below w.heap.size w w') : RowS w' a xs := by
  obtain ⟨b, off, e, hb, hc⟩ := h
  have := k.size
  exact ⟨b, off, e, by omega, fun j x hx => by rw [World.cell?_of_block (w := w) (k.block b hb)]; exact hc j x hx⟩
theorem RowS.of_own {w : World} {B : Nat} {v : Value} {xs : List ByteArray} (hne : xs ≠ []) (h : w.ownsRow B 9 1 v xs.length (xs.map Value.string)) : ∃ a cap, v = .slice a xs.length cap ∧ RowS w a xs := by
  rcases h.2 with ⟨_, hn⟩ | ⟨g, cp, cur, rfl, _⟩
  · exact absurd (List.length_eq_zero_iff.1 hn) hne
  · have hcells := h.cells (g := g) rfl
    have hlt := (h.lt g rfl).2
    have ea : ∀ n : Nat, (⟨g, 0, none⟩ : Addr).add n = ⟨g, 0 + n, none⟩ := fun n => by cases n <;> simp [Addr.add]
    exact ⟨_, _, rfl, g, 0, rfl, hlt, fun j x hx => by rw [← ea]; exact hcells j _ (by rw [List.getElem?_map, hx]; rfl)⟩
/-- a row of int64 of the call's own, in a block from B on -/
def Own64 (B : Nat) (w : World) (a : Option Addr) (len : Nat) (f : Nat → Int) : Prop :=
  Row64 w a len f ∧ (0 < len → ∃ g, a = some ⟨g, 0, none⟩ ∧ B ≤ g ∧ g < w.heap.size ∧ ∀ j, w.frozen? ⟨g, j, none⟩ = false)
theorem Own64.below {B : Nat} {w w' : World} {a : Option Addr} {len : Nat} {f : Nat → Int} (h : Own64 B w a len f) (k : Below w.heap.size w w') : Own64 B w' a len f := by
  refine ⟨h.1.below k, fun hl => ?_⟩
  obtain ⟨g, e, hB, hg, hf⟩ := h.2 hl
  have := k.size
  exact ⟨g, e, hB, by omega, fun j => by rw [World.frozen?_of_block (w := w) (k.block g hg)]; exact hf j⟩
theorem Own64.zero {B : Nat} {w : World} {a : Option Addr} {f : Nat → Int} : Own64 B w a 0 f := ⟨⟨by omega, fun h => by omega⟩, fun h => by omega⟩
theorem Own64.congr {B : Nat} {w : World} {a : Option Addr} {len : Nat} {f f' : Nat → Int} (h : Own64 B w a len f) (e : ∀ j, j < len → f j = f' j) : Own64 B w a len f' := by
  refine ⟨⟨h.1.1, fun hl => ?_⟩, h.2⟩
  obtain ⟨b, off, ea, hb, hc⟩ := h.1.2 hl
  exact ⟨b, off, ea, hb, fun j hj => by rw [← e j hj]; exact hc j hj⟩
theorem Own64.base {B B' : Nat} {w : World} {a : Option Addr} {len : Nat} {f : Nat → Int} (h : Own64 B w a len f) (hB : B' ≤ B) : Own64 B' w a len f := by
  refine ⟨h.1, fun hl => ?_⟩
  obtain ⟨g, e, hg, r⟩ := h.2 hl
  exact ⟨g, e, by omega, r⟩
theorem Own64.of_own {w : World} {B n : Nat} {v : Value} {f : Nat → Int} {xs : List Value} (h : w.ownsRow B 2 1 v n xs) (hn : n ≤ 9223372036854775807) (hx : ∀ j, j < n → xs[j]? = some (.int .i64 (f j)) ∧ -9223372036854775808 ≤ f j ∧ f j ≤ 9223372036854775807) : ∃ a cap, v = .slice a n cap ∧ Own64 B w a n f := by
  rcases h.2 with ⟨rfl, rfl⟩ | ⟨g, cp, cur, rfl, hB, hh, _⟩
  · exact ⟨_, _, rfl, Own64.zero⟩
  · have hcells := h.cells (g := g) rfl
    have hlt := (h.lt g rfl).2
    have ea : ∀ n : Nat, (⟨g, 0, none⟩ : Addr).add n = ⟨g, 0 + n, none⟩ := fun n => by cases n <;> simp [Addr.add]
    refine ⟨_, _, rfl, ⟨hn, fun _ => ⟨g, 0, rfl, hlt, fun j hj => ⟨?_, (hx j hj).2⟩⟩⟩, fun _ => ⟨g, rfl, hB, hlt, fun j => ?_⟩⟩
    · rw [← ea]; exact hcells j _ (hx j hj).1
    · simp [World.frozen?, hh]
theorem take_all {K : ByteArray → Bool} {xs : List ByteArray} {k : Nat} (hk : k < xs.length) (h : (xs.take k).all K = true) (hx : K xs[k] = true) : (xs.take (k + 1)).all K = true := by
  rw [List.take_add_one, List.getElem?_eq_getElem hk, List.all_append, h]
  show (true && (K xs[k] && true)) = true
  rw [hx]; rfl
theorem all_false {K : ByteArray → Bool} {xs : List ByteArray} {k : Nat} (hk : k < xs.length) (hx : K xs[k] = false) : xs.all K = false := by
  cases h : xs.all K
  · rfl
  · rw [List.all_eq_true.1 h _ (List.getElem_mem hk)] at hx; cases hx
theorem map_take {V : ByteArray → Int} {xs : List ByteArray} {k : Nat} (hk : k < xs.length) : (xs.take (k + 1)).map (fun x => Value.int .i64 (V x)) = (xs.take k).map (fun x => Value.int .i64 (V x)) ++ [.int .i64 (V xs[k])] := by
  rw [List.take_add_one, List.getElem?_eq_getElem hk, List.map_append]
  rfl
theorem at_get {V : ByteArray → Int} {xs : List ByteArray} (j : Nat) (h : j < xs.length) : (xs.map (fun x => Value.int .i64 (V x)))[j]? = some (.int .i64 (atV V xs j)) := by
  rw [List.getElem?_map, List.getElem?_eq_getElem h, atV, getD_at h]; rfl
theorem vl_bounds (s : ByteArray) : -10000000000000 ≤ vlV s ∧ vlV s ≤ 10000000000000 := by
  unfold vlV
  split
  · rename_i h
    unfold vlD at h
    simp only [Bool.and_eq_true, decide_eq_true_eq] at h
    have := dg_bounds _ _ h.2.2
    have p13 : (10 : Int) ^ s.size ≤ 10 ^ 13 := (by decide : ∀ m, m ≤ 13 → (10 : Int) ^ m ≤ 10 ^ 13) _ h.2.1
    have : (10 : Int) ^ 13 = 10000000000000 := by decide
    omega
  · omega
theorem sg_bounds (s : ByteArray) : -10000000000000 ≤ sgV s ∧ sgV s ≤ 10000000000000 := by
  have := vl_bounds s
  have := vl_bounds (tl1 s)
  unfold sgV
  split <;> omega
set_option maxHeartbeats 3200000 in
theorem numbers_s (xs : List ByteArray) (a : Option Addr) (cap : Nat) (w : World) (hR : RowS w a xs) (hs : ∀ x ∈ xs, x.size ≤ 1048576) (hl : xs.length ≤ 2000000) : Calls Tryd.prog 65 #[.slice a xs.length cap] w fun e w' => ∃ a' n cap', e = .returned (.tuple #[.slice a' n cap', .bool (xs.all sgK)]) ∧ (xs.all sgK = true → n = xs.length ∧ Own64 w.heap.size w' a' n (atV sgV xs)) ∧ Below w.heap.size w w' := by
  obtain ⟨i0, hi, hz0, hz1, hz2⟩ := info_parts infoI
  have hown0 : (w.alloc (.cells #[] 2)).ownsRow w.heap.size 2 1 (.slice (some ⟨w.heap.size, 0, none⟩) 0 0) 0 ((xs.take 0).map (fun x => Value.int .i64 (sgV x))) := World.ownsRow_made w #[] 0 (Nat.le_refl _) (by unfold maxLen; omega) rfl
  go_enter Tryd.func65, Tryd.ntmps65
  go_wp2_with fail
  go_loopw [4, 5] (fun v i wr => ∃ k : Nat, k ≤ xs.length ∧ i = .int .i64 k ∧ (xs.take k).all sgK = true ∧ wr.ownsRow w.heap.size 2 1 v k ((xs.take k).map (fun x => Value.int .i64 (sgV x))) ∧ Below w.heap.size w wr) (fun _ i _ => xs.length - (intOf i).toNat)
  case atStart => exact ⟨0, Nat.zero_le _, rfl, rfl, hown0, (by repeat (first | (with_reducible exact Below.refl _ _) | (with_reducible assumption) | (with_reducible refine below_alloc ?_ _) | (with_reducible refine Below.setCell ?_ (by first | omega | (simp; done) | (simp; omega)) _) | (with_reducible refine below_drewN ?_ _) | (with_reducible refine Below.drew ?_) | (with_reducible refine below_tr ?_ (by assumption))))⟩
  case round =>
    obtain ⟨k, hk, rfl, hA, hown, hB⟩ := hrel
    clear hown0
    have hsz := hB.size
    by_cases hkl : k < xs.length
    · obtain ⟨b, off, rfl, hb0, hc⟩ := hR.below hB
      have hz := hc k xs[k] (List.getElem?_eq_getElem hkl)
      have hsx := hs xs[k] (List.getElem_mem hkl)
      have hbd := sg_bounds xs[k]
      have e2 := map_take (V := sgV) hkl
      have e3 := take_all (K := sgK) hkl hA
      have e4 := all_false (K := sgK) hkl
      have HR := Lib.hid (And.intro e2 (And.intro e3 e4))
      clear hc e2 e3 e4 hR hs
      generalize xs[k] = x at *
      cases hv : sgK x
      · have HF := Lib.hid (show false = xs.all sgK from (HR.out.2.2 hv).symm)
        go_wp2_with (go_at_call 73; refine (signed_s x _ hsx).mono ?_; rintro e w1 ⟨rfl, hb⟩; have hs1 := hb.size)
        go_ret2
        exact ⟨_, _, _, by rw [← HF.out]; rfl, (fun h => by rw [← HF.out] at h; cases h), below_tr hB hb⟩
      · go_wp2_with (first | (go_at_call 73; refine (signed_s x _ hsx).mono ?_; rintro e w1 ⟨rfl, hb⟩; have hown1 := own_below6 hown hb; have hs1 := hb.size) | (at_builtin; refine wpList_append_own_at _ rfl (.tmp 25) (.tmp 27) 32 rfl w.heap.size 2 i0 (.int .i64 0) 1 8 Tryd.underlying32 hi hz0 hz1 hz2 rfl (by decide) _ _ _ rfl (hown1.alloc _) ⟨_, 0, none⟩ 1 1 [.int .i64 (sgV x)] rfl rfl (cell_one _ _ _) (by intro u hu; simp at hu; subst hu; rfl) (by unfold maxLen; omega) (by omega) (by simp; omega) ?_; intro v3 w3 hown3 hgrow3 hnil3 hat3))
        go_roundw
        case rel =>
          refine ⟨k + 1, by omega, by go_num, HR.out.2.1 hv, ?_, ?_⟩
          · rw [HR.out.1]; exact hown3
          · exact ((below_tr hB hb).alloc (by omega) _).grown hgrow3 (by simp; omega) (fun k hk => (hown1.lt k hk).1)
        case measure => simp only [intOf]; omega
    · obtain rfl : k = xs.length := by omega
      rw [List.take_length] at hown hA
      have HF := Lib.hid (show true = xs.all sgK from hA.symm)
      obtain ⟨a', cap', rfl, hO⟩ := Own64.of_own (f := atV sgV xs) hown (by omega) (fun j hj => ⟨at_get j hj, by have := sg_bounds (xs.getD j ⟨#[]⟩); unfold atV; omega⟩)
      clear hown hA
      have HO := Lib.hid hO
      clear hO
      go_wp2_with fail
      go_ret2
      exact ⟨_, _, _, by rw [← HF.out]; rfl, fun _ => ⟨rfl, HO.out⟩, hB⟩
/-- nothing, or a fault of the text -/
def snV (b : Bool) : Int := if b then 0 else 6
set_option maxHeartbeats 3200000 in
theorem ReadList_spec (s : ByteArray) (w : World) (hs : s.size ≤ 1048576) : Calls Tryd.prog 28 #[.string s] w fun e w' => ∃ a cap, e = .returned (.tuple #[.slice a (rlN s) cap, .int .i64 (snV (rlK s))]) ∧ Own64 w.heap.size w' a (rlN s) (rlV s) ∧ Below w.heap.size w w' := by
  cases hd : rlD s
  · cases hA : (wds s).all sgK
    · have hb : rlB s = false := by unfold rlB; rw [hA]; rfl
      have HN := Lib.hid (show 0 = rlN s by unfold rlN; rw [hd, hb]; rfl)
      have HK := Lib.hid (show 6 = snV (rlK s) by unfold rlK; rw [hd, hb]; rfl)
      have hl := wds_length s
      have hsz := wds_size s
      clear hb
      unfold rlD at hd
      go_enter Tryd.func28, Tryd.ntmps28
      go_wp2_with (first | (go_at_call 66; refine (split_s s _ hs).mono ?_; rintro e w1 ⟨v, rfl, hown, hb⟩; obtain ⟨a, cap, rfl, hRS⟩ := RowS.of_own (wds_ne s) hown; clear hown) | (go_at_call 65; refine (numbers_s (wds s) _ _ _ (by with_reducible assumption) (fun x hx => Nat.le_trans (hsz x hx) hs) (by omega)).mono ?_; rintro e w2 ⟨a2, n2, cap2, rfl, _, hb2⟩; rw [hA]))
      go_ret2
      exact ⟨_, _, by rw [← HN.out, ← HK.out]; rfl, by rw [← HN.out]; exact Own64.zero, below_tr hb hb2⟩
    · have hl := wds_length s
      have hsz := wds_size s
      have hbb : rlB s = lsV (atV sgV (wds s)) (wds s).length := by unfold rlB; rw [hA]; rfl
      cases hB : lsV (atV sgV (wds s)) (wds s).length
      · rw [hB] at hbb
        have HN := Lib.hid (show 0 = rlN s by unfold rlN; rw [hd, hbb]; rfl)
        have HK := Lib.hid (show 6 = snV (rlK s) by unfold rlK; rw [hd, hbb]; rfl)
        clear hbb
        unfold rlD at hd
        go_enter Tryd.func28, Tryd.ntmps28
        go_wp2_with (first | (go_at_call 66; refine (split_s s _ hs).mono ?_; rintro e w1 ⟨v, rfl, hown, hb⟩; obtain ⟨a, cap, rfl, hRS⟩ := RowS.of_own (wds_ne s) hown; clear hown) | (go_at_call 65; refine (numbers_s (wds s) _ _ _ (by with_reducible assumption) (fun x hx => Nat.le_trans (hsz x hx) hs) (by omega)).mono ?_; rintro e w2 ⟨a2, n2, cap2, rfl, hOw, hb2⟩; obtain ⟨rfl, hO⟩ := hOw hA; clear hOw; rw [hA]; have hR2 := hO.1) | (go_at_call 52; refine (list_s _ _ _ (atV sgV (wds s)) _ (by with_reducible assumption)).mono ?_; rintro e w1 ⟨rfl, rfl⟩; rw [hB]))
        go_ret2
        exact ⟨_, _, by rw [← HN.out, ← HK.out]; rfl, by rw [← HN.out]; exact Own64.zero, below_tr hb hb2⟩
      · rw [hB] at hbb
        have HN := Lib.hid (show (wds s).length = rlN s by unfold rlN; rw [hd, hbb]; rfl)
        have HK := Lib.hid (show 0 = snV (rlK s) by unfold rlK; rw [hd, hbb]; rfl)
        clear hbb
        unfold rlD at hd
        go_enter Tryd.func28, Tryd.ntmps28
        go_wp2_with (first | (go_at_call 66; refine (split_s s _ hs).mono ?_; rintro e w1 ⟨v, rfl, hown, hb⟩; obtain ⟨a, cap, rfl, hRS⟩ := RowS.of_own (wds_ne s) hown; clear hown) | (go_at_call 65; refine (numbers_s (wds s) _ _ _ (by with_reducible assumption) (fun x hx => Nat.le_trans (hsz x hx) hs) (by omega)).mono ?_; rintro e w2 ⟨a2, n2, cap2, rfl, hOw, hb2⟩; obtain ⟨rfl, hO⟩ := hOw hA; clear hOw; rw [hA]; have hR2 := hO.1) | (go_at_call 52; refine (list_s _ _ _ (atV sgV (wds s)) _ (by with_reducible assumption)).mono ?_; rintro e w1 ⟨rfl, rfl⟩; rw [hB]))
        go_ret2
        exact ⟨_, _, by rw [← HN.out, ← HK.out]; rfl, by rw [← HN.out]; exact hO.base hb.size, below_tr hb hb2⟩
  · have HN := Lib.hid (show 0 = rlN s by unfold rlN; rw [hd]; rfl)
    have HK := Lib.hid (show 0 = snV (rlK s) by unfold rlK; rw [hd]; rfl)
    unfold rlD at hd
    go_enter Tryd.func28, Tryd.ntmps28
    go_wp2_with fail
    go_ret2
    exact ⟨_, _, by rw [← HN.out, ← HK.out]; rfl, by rw [← HN.out]; exact Own64.zero, (by repeat (first | (with_reducible exact Below.refl _ _) | (with_reducible assumption) | (with_reducible refine below_alloc ?_ _) | (with_reducible refine Below.setCell ?_ (by first | omega | (simp; done) | (simp; omega)) _) | (with_reducible refine below_drewN ?_ _) | (with_reducible refine Below.drew ?_) | (with_reducible refine below_tr ?_ (by assumption))))⟩
end Go.Proofs.YtlijleemogpifaaDoor.C
