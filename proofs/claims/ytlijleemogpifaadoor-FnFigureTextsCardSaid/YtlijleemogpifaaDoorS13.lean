/- A number and a list read: the program, by the library's contracts. -/
import Derived.Test.YtlijleemogpifaaDoorS12
import Derived.Test.YtlijleemogpifaaDoorShelf2
import Derived.Shelf.Strconv.ParseIntPublic10
import Derived.Shelf.Strings.SplitShaped
namespace Go.Proofs.YtlijleemogpifaaDoor.C
open Go.RowKit Go.Proofs.YtlijleemogpifaaDoor.K
set_option linter.unusedVariables false
set_option linter.unusedSimpArgs false
attribute [local go_sem ↓] Go.wp_at_zero Go.wp_at_succ

/-- what the library's variables hold, as far as it is asked -/
def Lb2 (w : World) : Prop := Lb1 w ∧ (∃ m, w.cell? ⟨1, 0, none⟩ = some (.int .i64 m)) ∧ (∃ te pe, w.cell? ⟨4, 0, none⟩ = some (.iface te pe)) ∧ (∃ te pe, w.cell? ⟨5, 0, none⟩ = some (.iface te pe))
theorem Lb2.below {w w' : World} (h : Lb2 w) (k : Below w.heap.size w w') : Lb2 w' := by
  obtain ⟨h0, ⟨m, hm⟩, ⟨t1, p1, h1⟩, ⟨t2, p2, h2⟩⟩ := h
  have bm := World.block_lt_of_cell? w _ hm
  have b1 := World.block_lt_of_cell? w _ h1
  have b2 := World.block_lt_of_cell? w _ h2
  exact ⟨h0.below k, ⟨m, by rw [k.cell bm, hm]⟩, ⟨t1, p1, by rw [k.cell b1, h1]⟩, ⟨t2, p2, by rw [k.cell b2, h2]⟩⟩
theorem Lb2.size {w : World} (h : Lb2 w) : 6 ≤ w.heap.size := by
  obtain ⟨h0, ⟨m, hm⟩, ⟨t1, p1, h1⟩, ⟨t2, p2, h2⟩⟩ := h
  exact Nat.succ_le_of_lt (World.block_lt_of_cell? w _ h2)
theorem Lb2.but {g : Nat} {w w' : World} (h : Lb2 w) (k : But g w w') (hg : 6 ≤ g) : Lb2 w' := by
  have hz := h.size
  obtain ⟨h0, ⟨m, hm⟩, ⟨t1, p1, h1⟩, ⟨t2, p2, h2⟩⟩ := h
  refine ⟨h0.but (g := g) (fun b o hb hbg => k.cell hb hbg) (k.block 0 (by omega) (by omega)), ⟨m, by rw [k.cell (by omega) (by omega), hm]⟩, ⟨t1, p1, by rw [k.cell (by omega) (by omega), h1]⟩, ⟨t2, p2, by rw [k.cell (by omega) (by omega), h2]⟩⟩
theorem parse_ok (s : ByteArray) (hs : s.size ≤ 281474976710656) (v : Int) (h : Lib.parseIntB 64 s.data.toList = .ok v) (w : World) :
    Calls Tryd.prog 97 #[.string s, .int .i64 10, .int .i64 64] w fun e w' => e = .returned (.tuple #[.int .i64 v, .nilIface]) ∧ Below w.heap.size w w' := by
  refine (Any.strconv_ParseInt_10_at64_ok Tryd.laysC174 s (by omega) v h w).mono ?_
  rintro e w' ⟨he, hw⟩
  refine ⟨he, ?_⟩
  rcases hw with rfl | ⟨t, rfl⟩
  · exact Below.refl _ _
  · exact Lib.bytesWorld_below _ _ _
/-- a text that is no number of an int64: an error -/
theorem parse_no (s : ByteArray) (hs : s.size ≤ 281474976710656) (h : ∀ v, Lib.parseIntB 64 s.data.toList ≠ .ok v) (w : World) (hL : Lb2 w) :
    Calls Tryd.prog 97 #[.string s, .int .i64 10, .int .i64 64] w fun e w' => ∃ n N, e = .returned (.tuple #[.int .i64 n, .iface 132 (.pointer (some ⟨N, 0, none⟩))]) ∧ Below w.heap.size w w' := by
  obtain ⟨h0, _, ⟨t1, p1, h1⟩, ⟨t2, p2, h2⟩⟩ := hL
  cases hp : Lib.parseIntB 64 s.data.toList
  · exact absurd hp (h _)
  · refine (Any.strconv_ParseInt_10_at64_syntax Tryd.laysC174 s hs hp (.iface t1 p1) w h1 (Or.inr ⟨_, _, rfl⟩)).mono ?_
    rintro e w' ⟨N, he, _, _, hb⟩
    exact ⟨_, N, he, hb⟩
  · refine (Any.strconv_ParseInt_10_at64_range Tryd.laysC174 s hs hp (.iface t2 p2) w h2 (Or.inr ⟨_, _, rfl⟩)).mono ?_
    rintro e w' ⟨N, he, _, _, hb⟩
    exact ⟨_, N, he, hb⟩
set_option maxHeartbeats 1600000 in
theorem number_i (s : ByteArray) (w : World) (hL : Lb2 w) (hs : s.size ≤ 281474976710656) : Calls Tryd.prog 86 #[.string s] w fun e w' => e = .returned (.tuple #[.int .i64 (nmV s), .bool (nmK s)]) ∧ Below w.heap.size w w' := by
  have hc : (∃ v, Lib.parseIntB 64 s.data.toList = .ok v) ∨ (∀ v, Lib.parseIntB 64 s.data.toList ≠ .ok v) := by
    cases hp : Lib.parseIntB 64 s.data.toList
    · exact .inl ⟨_, rfl⟩
    · exact .inr (fun v e => by cases e)
    · exact .inr (fun v e => by cases e)
  rcases hc with ⟨v, hp⟩ | hp
  · have hbd := Lib.parseIntB_bounds hp
    have e63 : (2 : Nat) ^ (64 - 1) = 9223372036854775808 := by decide
    rw [e63] at hbd
    have b0 : -9223372036854775808 ≤ v := by omega
    have b1 : v ≤ 9223372036854775807 := by omega
    clear hbd e63
    cases he : (itoB v).toList == s.toList
    · have e : nmO s = none := by unfold nmO; rw [hp]; show (if _ then _ else _) = _; rw [if_neg (by rw [he]; decide)]
      have HV := Lib.hid (show 0 = nmV s by unfold nmV; rw [e]; rfl)
      have HK := Lib.hid (show false = nmK s by unfold nmK; rw [e]; rfl)
      clear e
      go_enter Tryd.func86, Tryd.ntmps86
      go_wp2_with (first | (go_at_call 97; refine (parse_ok s hs v hp _).mono ?_; rintro e w1 ⟨rfl, hb⟩; obtain ⟨hc, hf⟩ := bcell hb; (try simp only [World.size_drew, World.cell?_drew] at hc); (try simp only [World.size_drew, World.frozen?_drew] at hf); have hz := hb.size; (try simp at hz); (try (have hz0 : w.heap.size < w1.heap.size := by omega)); (try (have hz1 : w.heap.size + 1 < w1.heap.size := by omega)); (try (have hz2 : w.heap.size + 1 + 1 < w1.heap.size := by omega)); (try (have hz3 : w.heap.size + 1 + 1 + 1 < w1.heap.size := by omega)); (try (have r7 := Nat.lt_of_lt_of_le r5 (show _ ≤ w1.heap.size by omega))); (try (have r6 := Nat.lt_of_lt_of_le r4 (show _ ≤ w1.heap.size by omega))); (try (have r5 := Nat.lt_of_lt_of_le r3 (show _ ≤ w1.heap.size by omega))); (try (have r4 := Nat.lt_of_lt_of_le r2 (show _ ≤ w1.heap.size by omega))); (try (have r3 := Nat.lt_of_lt_of_le r1 (show _ ≤ w1.heap.size by omega))); (try (have r2 := Nat.lt_of_succ_le (Nat.le_of_succ_le hz))); (try (have r1 := Nat.lt_of_succ_le hz)); (try (have hg1 := Nat.lt_of_lt_of_le hg1 (show _ ≤ w1.heap.size by omega))); (try (have hg2 := Nat.lt_of_lt_of_le hg2 (show _ ≤ w1.heap.size by omega))); (try (have hg3 := Nat.lt_of_lt_of_le hg3 (show _ ≤ w1.heap.size by omega))); (try (first | have hK := S1.below hK hb | have hK := S1.below (S1.alloc hK _) hb | have hK := S1.below (S1.alloc (S1.alloc hK _) _) hb | have hK := S1.below (S1.drewN hK _) hb)); (try (first | have hK2 := S1.below hK2 hb | have hK2 := S1.below (S1.alloc hK2 _) hb | have hK2 := S1.below (S1.alloc (S1.alloc hK2 _) _) hb | have hK2 := S1.below (S1.drewN hK2 _) hb)); (try (first | have hK3 := S1.below hK3 hb | have hK3 := S1.below (S1.alloc hK3 _) hb | have hK3 := S1.below (S1.alloc (S1.alloc hK3 _) _) hb | have hK3 := S1.below (S1.drewN hK3 _) hb)); (try (first | have hK4 := S1.below hK4 hb | have hK4 := S1.below (S1.alloc hK4 _) hb | have hK4 := S1.below (S1.alloc (S1.alloc hK4 _) _) hb | have hK4 := S1.below (S1.drewN hK4 _) hb))) | (go_at_call 47; refine (decimal_i v _ (Lb1.below hL.1 (by repeat (first | (with_reducible exact Below.refl _ _) | (with_reducible assumption) | (with_reducible refine below_alloc ?_ _) | (with_reducible refine Below.setCell ?_ (by first | omega | (simp; done) | (simp; omega)) _) | (with_reducible refine below_drewN ?_ _) | (with_reducible refine Below.drew ?_) | (with_reducible refine below_tr ?_ (by assumption))))) b0 b1).mono ?_; rintro e w1 ⟨rfl, hb⟩; obtain ⟨hc, hf⟩ := bcell hb; (try simp only [World.size_drew, World.cell?_drew] at hc); (try simp only [World.size_drew, World.frozen?_drew] at hf); have hz := hb.size; (try simp at hz); (try (have hz0 : w.heap.size < w1.heap.size := by omega)); (try (have hz1 : w.heap.size + 1 < w1.heap.size := by omega)); (try (have hz2 : w.heap.size + 1 + 1 < w1.heap.size := by omega)); (try (have hz3 : w.heap.size + 1 + 1 + 1 < w1.heap.size := by omega)); (try (have r7 := Nat.lt_of_lt_of_le r5 (show _ ≤ w1.heap.size by omega))); (try (have r6 := Nat.lt_of_lt_of_le r4 (show _ ≤ w1.heap.size by omega))); (try (have r5 := Nat.lt_of_lt_of_le r3 (show _ ≤ w1.heap.size by omega))); (try (have r4 := Nat.lt_of_lt_of_le r2 (show _ ≤ w1.heap.size by omega))); (try (have r3 := Nat.lt_of_lt_of_le r1 (show _ ≤ w1.heap.size by omega))); (try (have r2 := Nat.lt_of_succ_le (Nat.le_of_succ_le hz))); (try (have r1 := Nat.lt_of_succ_le hz)); (try (have hg1 := Nat.lt_of_lt_of_le hg1 (show _ ≤ w1.heap.size by omega))); (try (have hg2 := Nat.lt_of_lt_of_le hg2 (show _ ≤ w1.heap.size by omega))); (try (have hg3 := Nat.lt_of_lt_of_le hg3 (show _ ≤ w1.heap.size by omega))); (try (first | have hK := S1.below hK hb | have hK := S1.below (S1.alloc hK _) hb | have hK := S1.below (S1.alloc (S1.alloc hK _) _) hb | have hK := S1.below (S1.drewN hK _) hb)); (try (first | have hK2 := S1.below hK2 hb | have hK2 := S1.below (S1.alloc hK2 _) hb | have hK2 := S1.below (S1.alloc (S1.alloc hK2 _) _) hb | have hK2 := S1.below (S1.drewN hK2 _) hb)); (try (first | have hK3 := S1.below hK3 hb | have hK3 := S1.below (S1.alloc hK3 _) hb | have hK3 := S1.below (S1.alloc (S1.alloc hK3 _) _) hb | have hK3 := S1.below (S1.drewN hK3 _) hb)); (try (first | have hK4 := S1.below hK4 hb | have hK4 := S1.below (S1.alloc hK4 _) hb | have hK4 := S1.below (S1.alloc (S1.alloc hK4 _) _) hb | have hK4 := S1.below (S1.drewN hK4 _) hb))))
      go_ret2
      exact ⟨by rw [← HV.out, ← HK.out]; rfl, (by repeat (first | (with_reducible exact Below.refl _ _) | (with_reducible assumption) | (with_reducible refine below_alloc ?_ _) | (with_reducible refine Below.setCell ?_ (by first | omega | (simp; done) | (simp; omega)) _) | (with_reducible refine below_drewN ?_ _) | (with_reducible refine Below.drew ?_) | (with_reducible refine below_tr ?_ (by assumption))))⟩
    · have e : nmO s = some v := by unfold nmO; rw [hp]; show (if _ then _ else _) = _; rw [if_pos he]
      have HV := Lib.hid (show v = nmV s by unfold nmV; rw [e]; rfl)
      have HK := Lib.hid (show true = nmK s by unfold nmK; rw [e]; rfl)
      clear e
      go_enter Tryd.func86, Tryd.ntmps86
      go_wp2_with (first | (go_at_call 97; refine (parse_ok s hs v hp _).mono ?_; rintro e w1 ⟨rfl, hb⟩; obtain ⟨hc, hf⟩ := bcell hb; (try simp only [World.size_drew, World.cell?_drew] at hc); (try simp only [World.size_drew, World.frozen?_drew] at hf); have hz := hb.size; (try simp at hz); (try (have hz0 : w.heap.size < w1.heap.size := by omega)); (try (have hz1 : w.heap.size + 1 < w1.heap.size := by omega)); (try (have hz2 : w.heap.size + 1 + 1 < w1.heap.size := by omega)); (try (have hz3 : w.heap.size + 1 + 1 + 1 < w1.heap.size := by omega)); (try (have r7 := Nat.lt_of_lt_of_le r5 (show _ ≤ w1.heap.size by omega))); (try (have r6 := Nat.lt_of_lt_of_le r4 (show _ ≤ w1.heap.size by omega))); (try (have r5 := Nat.lt_of_lt_of_le r3 (show _ ≤ w1.heap.size by omega))); (try (have r4 := Nat.lt_of_lt_of_le r2 (show _ ≤ w1.heap.size by omega))); (try (have r3 := Nat.lt_of_lt_of_le r1 (show _ ≤ w1.heap.size by omega))); (try (have r2 := Nat.lt_of_succ_le (Nat.le_of_succ_le hz))); (try (have r1 := Nat.lt_of_succ_le hz)); (try (have hg1 := Nat.lt_of_lt_of_le hg1 (show _ ≤ w1.heap.size by omega))); (try (have hg2 := Nat.lt_of_lt_of_le hg2 (show _ ≤ w1.heap.size by omega))); (try (have hg3 := Nat.lt_of_lt_of_le hg3 (show _ ≤ w1.heap.size by omega))); (try (first | have hK := S1.below hK hb | have hK := S1.below (S1.alloc hK _) hb | have hK := S1.below (S1.alloc (S1.alloc hK _) _) hb | have hK := S1.below (S1.drewN hK _) hb)); (try (first | have hK2 := S1.below hK2 hb | have hK2 := S1.below (S1.alloc hK2 _) hb | have hK2 := S1.below (S1.alloc (S1.alloc hK2 _) _) hb | have hK2 := S1.below (S1.drewN hK2 _) hb)); (try (first | have hK3 := S1.below hK3 hb | have hK3 := S1.below (S1.alloc hK3 _) hb | have hK3 := S1.below (S1.alloc (S1.alloc hK3 _) _) hb | have hK3 := S1.below (S1.drewN hK3 _) hb)); (try (first | have hK4 := S1.below hK4 hb | have hK4 := S1.below (S1.alloc hK4 _) hb | have hK4 := S1.below (S1.alloc (S1.alloc hK4 _) _) hb | have hK4 := S1.below (S1.drewN hK4 _) hb))) | (go_at_call 47; refine (decimal_i v _ (Lb1.below hL.1 (by repeat (first | (with_reducible exact Below.refl _ _) | (with_reducible assumption) | (with_reducible refine below_alloc ?_ _) | (with_reducible refine Below.setCell ?_ (by first | omega | (simp; done) | (simp; omega)) _) | (with_reducible refine below_drewN ?_ _) | (with_reducible refine Below.drew ?_) | (with_reducible refine below_tr ?_ (by assumption))))) b0 b1).mono ?_; rintro e w1 ⟨rfl, hb⟩; obtain ⟨hc, hf⟩ := bcell hb; (try simp only [World.size_drew, World.cell?_drew] at hc); (try simp only [World.size_drew, World.frozen?_drew] at hf); have hz := hb.size; (try simp at hz); (try (have hz0 : w.heap.size < w1.heap.size := by omega)); (try (have hz1 : w.heap.size + 1 < w1.heap.size := by omega)); (try (have hz2 : w.heap.size + 1 + 1 < w1.heap.size := by omega)); (try (have hz3 : w.heap.size + 1 + 1 + 1 < w1.heap.size := by omega)); (try (have r7 := Nat.lt_of_lt_of_le r5 (show _ ≤ w1.heap.size by omega))); (try (have r6 := Nat.lt_of_lt_of_le r4 (show _ ≤ w1.heap.size by omega))); (try (have r5 := Nat.lt_of_lt_of_le r3 (show _ ≤ w1.heap.size by omega))); (try (have r4 := Nat.lt_of_lt_of_le r2 (show _ ≤ w1.heap.size by omega))); (try (have r3 := Nat.lt_of_lt_of_le r1 (show _ ≤ w1.heap.size by omega))); (try (have r2 := Nat.lt_of_succ_le (Nat.le_of_succ_le hz))); (try (have r1 := Nat.lt_of_succ_le hz)); (try (have hg1 := Nat.lt_of_lt_of_le hg1 (show _ ≤ w1.heap.size by omega))); (try (have hg2 := Nat.lt_of_lt_of_le hg2 (show _ ≤ w1.heap.size by omega))); (try (have hg3 := Nat.lt_of_lt_of_le hg3 (show _ ≤ w1.heap.size by omega))); (try (first | have hK := S1.below hK hb | have hK := S1.below (S1.alloc hK _) hb | have hK := S1.below (S1.alloc (S1.alloc hK _) _) hb | have hK := S1.below (S1.drewN hK _) hb)); (try (first | have hK2 := S1.below hK2 hb | have hK2 := S1.below (S1.alloc hK2 _) hb | have hK2 := S1.below (S1.alloc (S1.alloc hK2 _) _) hb | have hK2 := S1.below (S1.drewN hK2 _) hb)); (try (first | have hK3 := S1.below hK3 hb | have hK3 := S1.below (S1.alloc hK3 _) hb | have hK3 := S1.below (S1.alloc (S1.alloc hK3 _) _) hb | have hK3 := S1.below (S1.drewN hK3 _) hb)); (try (first | have hK4 := S1.below hK4 hb | have hK4 := S1.below (S1.alloc hK4 _) hb | have hK4 := S1.below (S1.alloc (S1.alloc hK4 _) _) hb | have hK4 := S1.below (S1.drewN hK4 _) hb))))
      go_ret2
      exact ⟨by rw [← HV.out, ← HK.out]; rfl, (by repeat (first | (with_reducible exact Below.refl _ _) | (with_reducible assumption) | (with_reducible refine below_alloc ?_ _) | (with_reducible refine Below.setCell ?_ (by first | omega | (simp; done) | (simp; omega)) _) | (with_reducible refine below_drewN ?_ _) | (with_reducible refine Below.drew ?_) | (with_reducible refine below_tr ?_ (by assumption))))⟩
  · have e : nmO s = none := by
      unfold nmO
      split
      · rename_i v hv; exact absurd hv (hp v)
      · rfl
    have HV := Lib.hid (show 0 = nmV s by unfold nmV; rw [e]; rfl)
    have HK := Lib.hid (show false = nmK s by unfold nmK; rw [e]; rfl)
    clear e
    go_enter Tryd.func86, Tryd.ntmps86
    go_wp2_with (go_at_call 97; refine (parse_no s hs hp _ (Lb2.below hL (by repeat (first | (with_reducible exact Below.refl _ _) | (with_reducible assumption) | (with_reducible refine below_alloc ?_ _) | (with_reducible refine Below.setCell ?_ (by first | omega | (simp; done) | (simp; omega)) _) | (with_reducible refine below_drewN ?_ _) | (with_reducible refine Below.drew ?_) | (with_reducible refine below_tr ?_ (by assumption)))))).mono ?_; rintro e w1 ⟨n1, N1, rfl, hb⟩; obtain ⟨hc, hf⟩ := bcell hb; (try simp only [World.size_drew, World.cell?_drew] at hc); (try simp only [World.size_drew, World.frozen?_drew] at hf); have hz := hb.size; (try simp at hz); (try (have hz0 : w.heap.size < w1.heap.size := by omega)); (try (have hz1 : w.heap.size + 1 < w1.heap.size := by omega)); (try (have hz2 : w.heap.size + 1 + 1 < w1.heap.size := by omega)); (try (have hz3 : w.heap.size + 1 + 1 + 1 < w1.heap.size := by omega)); (try (have r7 := Nat.lt_of_lt_of_le r5 (show _ ≤ w1.heap.size by omega))); (try (have r6 := Nat.lt_of_lt_of_le r4 (show _ ≤ w1.heap.size by omega))); (try (have r5 := Nat.lt_of_lt_of_le r3 (show _ ≤ w1.heap.size by omega))); (try (have r4 := Nat.lt_of_lt_of_le r2 (show _ ≤ w1.heap.size by omega))); (try (have r3 := Nat.lt_of_lt_of_le r1 (show _ ≤ w1.heap.size by omega))); (try (have r2 := Nat.lt_of_succ_le (Nat.le_of_succ_le hz))); (try (have r1 := Nat.lt_of_succ_le hz)); (try (have hg1 := Nat.lt_of_lt_of_le hg1 (show _ ≤ w1.heap.size by omega))); (try (have hg2 := Nat.lt_of_lt_of_le hg2 (show _ ≤ w1.heap.size by omega))); (try (have hg3 := Nat.lt_of_lt_of_le hg3 (show _ ≤ w1.heap.size by omega))); (try (first | have hK := S1.below hK hb | have hK := S1.below (S1.alloc hK _) hb | have hK := S1.below (S1.alloc (S1.alloc hK _) _) hb | have hK := S1.below (S1.drewN hK _) hb)); (try (first | have hK2 := S1.below hK2 hb | have hK2 := S1.below (S1.alloc hK2 _) hb | have hK2 := S1.below (S1.alloc (S1.alloc hK2 _) _) hb | have hK2 := S1.below (S1.drewN hK2 _) hb)); (try (first | have hK3 := S1.below hK3 hb | have hK3 := S1.below (S1.alloc hK3 _) hb | have hK3 := S1.below (S1.alloc (S1.alloc hK3 _) _) hb | have hK3 := S1.below (S1.drewN hK3 _) hb)); (try (first | have hK4 := S1.below hK4 hb | have hK4 := S1.below (S1.alloc hK4 _) hb | have hK4 := S1.below (S1.alloc (S1.alloc hK4 _) _) hb | have hK4 := S1.below (S1.drewN hK4 _) hb)); (try (have hT : S1 w.heap.size 0 0 w1 := by (first | (with_reducible exact S1.but hT hB1 (by omega)) | (with_reducible exact S1.below hT hb) | (with_reducible exact S1.but (S1.alloc hT _) hB1 (by omega)) | (with_reducible exact S1.below (S1.alloc hT _) hb) | (with_reducible exact S1.but (S1.drewN hT _) hB1 (by omega)) | (with_reducible exact S1.below (S1.drewN hT _) hb) | (with_reducible exact S1.but (S1.alloc (S1.alloc hT _) _) hB1 (by omega)) | (with_reducible exact S1.below (S1.alloc (S1.alloc hT _) _) hb) | (with_reducible exact S1.but (S1.drew hT) hB1 (by omega)) | (with_reducible exact S1.below (S1.drew hT) hb) | (with_reducible exact S1.but (S1.alloc (S1.drewN hT _) _) hB1 (by omega)) | (with_reducible exact S1.below (S1.alloc (S1.drewN hT _) _) hb) | (with_reducible exact S1.but (S1.drewN (S1.alloc hT _) _) hB1 (by omega)) | (with_reducible exact S1.below (S1.drewN (S1.alloc hT _) _) hb) | (with_reducible exact S1.but (S1.new _ _ _ _) hB1 (by omega)) | (with_reducible exact S1.below (S1.new _ _ _ _) hb) | (with_reducible exact S1.but (S1.alloc (S1.new _ _ _ _) _) hB1 (by omega)) | (with_reducible exact S1.below (S1.alloc (S1.new _ _ _ _) _) hb) | (with_reducible exact S1.but (S1.drewN (S1.new _ _ _ _) _) hB1 (by omega)) | (with_reducible exact S1.below (S1.drewN (S1.new _ _ _ _) _) hb) | (with_reducible exact S1.but (S1.alloc (S1.alloc (S1.new _ _ _ _) _) _) hB1 (by omega)) | (with_reducible exact S1.below (S1.alloc (S1.alloc (S1.new _ _ _ _) _) _) hb) | (with_reducible exact S1.but (S1.drew (S1.new _ _ _ _)) hB1 (by omega)) | (with_reducible exact S1.below (S1.drew (S1.new _ _ _ _)) hb) | (with_reducible exact S1.but (S1.alloc (S1.drewN (S1.new _ _ _ _) _) _) hB1 (by omega)) | (with_reducible exact S1.below (S1.alloc (S1.drewN (S1.new _ _ _ _) _) _) hb) | (with_reducible exact S1.but (S1.drewN (S1.alloc (S1.new _ _ _ _) _) _) hB1 (by omega)) | (with_reducible exact S1.below (S1.drewN (S1.alloc (S1.new _ _ _ _) _) _) hb) | (with_reducible exact S1.but (S1.alloc (S1.new _ _ _ _) _) hB1 (by omega)) | (with_reducible exact S1.below (S1.alloc (S1.new _ _ _ _) _) hb) | (with_reducible exact S1.but (S1.alloc (S1.alloc (S1.new _ _ _ _) _) _) hB1 (by omega)) | (with_reducible exact S1.below (S1.alloc (S1.alloc (S1.new _ _ _ _) _) _) hb) | (with_reducible exact S1.but (S1.drewN (S1.alloc (S1.new _ _ _ _) _) _) hB1 (by omega)) | (with_reducible exact S1.below (S1.drewN (S1.alloc (S1.new _ _ _ _) _) _) hb) | (with_reducible exact S1.but (S1.alloc (S1.alloc (S1.alloc (S1.new _ _ _ _) _) _) _) hB1 (by omega)) | (with_reducible exact S1.below (S1.alloc (S1.alloc (S1.alloc (S1.new _ _ _ _) _) _) _) hb) | (with_reducible exact S1.but (S1.drew (S1.alloc (S1.new _ _ _ _) _)) hB1 (by omega)) | (with_reducible exact S1.below (S1.drew (S1.alloc (S1.new _ _ _ _) _)) hb) | (with_reducible exact S1.but (S1.alloc (S1.drewN (S1.alloc (S1.new _ _ _ _) _) _) _) hB1 (by omega)) | (with_reducible exact S1.below (S1.alloc (S1.drewN (S1.alloc (S1.new _ _ _ _) _) _) _) hb) | (with_reducible exact S1.but (S1.drewN (S1.alloc (S1.alloc (S1.new _ _ _ _) _) _) _) hB1 (by omega)) | (with_reducible exact S1.below (S1.drewN (S1.alloc (S1.alloc (S1.new _ _ _ _) _) _) _) hb)))); (try (have hT2 : S1 (w.heap.size + 1) 0 0 w1 := by (first | (with_reducible exact S1.but hT2 hB1 (by omega)) | (with_reducible exact S1.below hT2 hb) | (with_reducible exact S1.but (S1.alloc hT2 _) hB1 (by omega)) | (with_reducible exact S1.below (S1.alloc hT2 _) hb) | (with_reducible exact S1.but (S1.drewN hT2 _) hB1 (by omega)) | (with_reducible exact S1.below (S1.drewN hT2 _) hb) | (with_reducible exact S1.but (S1.alloc (S1.alloc hT2 _) _) hB1 (by omega)) | (with_reducible exact S1.below (S1.alloc (S1.alloc hT2 _) _) hb) | (with_reducible exact S1.but (S1.drew hT2) hB1 (by omega)) | (with_reducible exact S1.below (S1.drew hT2) hb) | (with_reducible exact S1.but (S1.alloc (S1.drewN hT2 _) _) hB1 (by omega)) | (with_reducible exact S1.below (S1.alloc (S1.drewN hT2 _) _) hb) | (with_reducible exact S1.but (S1.drewN (S1.alloc hT2 _) _) hB1 (by omega)) | (with_reducible exact S1.below (S1.drewN (S1.alloc hT2 _) _) hb) | (with_reducible exact S1.but (S1.new' _ _ _ _ _ World.size_alloc.symm) hB1 (by omega)) | (with_reducible exact S1.below (S1.new' _ _ _ _ _ World.size_alloc.symm) hb) | (with_reducible exact S1.but (S1.alloc (S1.new' _ _ _ _ _ World.size_alloc.symm) _) hB1 (by omega)) | (with_reducible exact S1.below (S1.alloc (S1.new' _ _ _ _ _ World.size_alloc.symm) _) hb) | (with_reducible exact S1.but (S1.drewN (S1.new' _ _ _ _ _ World.size_alloc.symm) _) hB1 (by omega)) | (with_reducible exact S1.below (S1.drewN (S1.new' _ _ _ _ _ World.size_alloc.symm) _) hb) | (with_reducible exact S1.but (S1.alloc (S1.alloc (S1.new' _ _ _ _ _ World.size_alloc.symm) _) _) hB1 (by omega)) | (with_reducible exact S1.below (S1.alloc (S1.alloc (S1.new' _ _ _ _ _ World.size_alloc.symm) _) _) hb) | (with_reducible exact S1.but (S1.drew (S1.new' _ _ _ _ _ World.size_alloc.symm)) hB1 (by omega)) | (with_reducible exact S1.below (S1.drew (S1.new' _ _ _ _ _ World.size_alloc.symm)) hb) | (with_reducible exact S1.but (S1.alloc (S1.drewN (S1.new' _ _ _ _ _ World.size_alloc.symm) _) _) hB1 (by omega)) | (with_reducible exact S1.below (S1.alloc (S1.drewN (S1.new' _ _ _ _ _ World.size_alloc.symm) _) _) hb) | (with_reducible exact S1.but (S1.drewN (S1.alloc (S1.new' _ _ _ _ _ World.size_alloc.symm) _) _) hB1 (by omega)) | (with_reducible exact S1.below (S1.drewN (S1.alloc (S1.new' _ _ _ _ _ World.size_alloc.symm) _) _) hb)))))
    go_ret2
    exact ⟨by rw [← HV.out, ← HK.out]; rfl, (by repeat (first | (with_reducible exact Below.refl _ _) | (with_reducible assumption) | (with_reducible refine below_alloc ?_ _) | (with_reducible refine Below.setCell ?_ (by first | omega | (simp; done) | (simp; omega)) _) | (with_reducible refine below_drewN ?_ _) | (with_reducible refine Below.drew ?_) | (with_reducible refine below_tr ?_ (by assumption))))⟩
theorem split_i (s : ByteArray) (w : World) (hL : Lb2 w) (hs : s.size < 4294967281) : Calls Tryd.prog 85 #[.string s, .string ⟨#[44]⟩] w fun e w' => ∃ cap, e = .returned (.slice (some ⟨w.heap.size, 0, none⟩) (wds s).length cap) ∧ RowS w' (some ⟨w.heap.size, 0, none⟩) (wds s) ∧ Below w.heap.size w w' := by
  obtain ⟨h0, ⟨m, hm⟩, _, _⟩ := hL
  have hlen := Lib.splitB_all ⟨#[44]⟩ (by decide) 0 _ s rfl
  refine (Tryd.strings_Split s ⟨#[44]⟩ m w hs hm (by decide)).mono ?_
  rintro e w' ⟨he, hw⟩
  rw [wds_split] at hlen hw
  rw [← hlen] at he
  refine ⟨_, he, ?_, ?_⟩
  · rw [hw]
    refine ⟨w.heap.size, 0, rfl, by simp, fun j x hx => ?_⟩
    rw [Nat.zero_add, World.cell?_alloc_new]
    rw [List.getElem?_toArray, List.getElem?_map, hx]
    rfl
  · rw [hw]
    exact below_alloc (Below.refl _ _) _
theorem RowS.grown {w w' : World} {b : Nat} {row : Option Nat} {xs : List ByteArray} (h : RowS w (some ⟨b, 0, none⟩) xs) (hg : w.grownBy w' row) (hne : row ≠ some b) : RowS w' (some ⟨b, 0, none⟩) xs := by
  obtain ⟨b', off, e, hb, hc⟩ := h
  cases e
  have hk := hg.block b hb (fun e => hne e.symm)
  have hb' : b < w'.heap.size := by
    rw [Array.getElem?_eq_getElem hb] at hk
    exact (Array.getElem?_eq_some_iff.1 hk).1
  exact ⟨b, 0, rfl, hb', fun j x hx => by rw [World.cell?_of_block (w := w) hk]; exact hc j x hx⟩
theorem nm_bounds (s : ByteArray) : -9223372036854775808 ≤ nmV s ∧ nmV s ≤ 9223372036854775807 := by
  cases h : nmK s
  · unfold nmK at h
    have : nmO s = none := by
      cases e : nmO s
      · rfl
      · rw [e] at h; cases h
    unfold nmV
    rw [this]
    decide
  · exact (nm_back h).2
set_option maxHeartbeats 3200000 in
theorem numbers_i (s : ByteArray) (w : World) (hL : Lb2 w) (hsz : s.size ≤ 1048577) : Calls Tryd.prog 67 #[.string s, .string ⟨#[44]⟩] w fun e w' => ∃ a' n cap', e = .returned (.tuple #[.slice a' n cap', .bool ((wds s).all nmK)]) ∧ ((wds s).all nmK = true → n = (wds s).length ∧ Own64 w.heap.size w' a' n (atV nmV (wds s))) ∧ Below w.heap.size w w' := by
  obtain ⟨i0, hi, hz0, hz1, hz2⟩ := info_parts infoI
  have hl := (wds_length s).2
  have hs : ∀ x ∈ wds s, x.size ≤ 1048577 := fun x hx => Nat.le_trans (wds_size s x hx) hsz
  have HSp : ∀ w0 : World, w0.heap.size = w.heap.size + 1 → Lb2 w0 → Calls Tryd.prog 85 #[.string s, .string ⟨#[44]⟩] w0 fun e w' => ∃ cap, e = .returned (.slice (some ⟨w.heap.size + 1, 0, none⟩) (wds s).length cap) ∧ RowS w' (some ⟨w.heap.size + 1, 0, none⟩) (wds s) ∧ Below w0.heap.size w0 w' := fun w0 hz h => by
    have := split_i s w0 h (by omega)
    rw [hz] at this ⊢
    exact this
  generalize wds s = xs at *
  have hown0 : (w.alloc (.cells #[] 2)).ownsRow w.heap.size 2 1 (.slice (some ⟨w.heap.size, 0, none⟩) 0 0) 0 ((xs.take 0).map (fun x => Value.int .i64 (nmV x))) := World.ownsRow_made w #[] 0 (Nat.le_refl _) (by unfold maxLen; omega) rfl
  go_enter Tryd.func67, Tryd.ntmps67
  go_wp2_with (go_at_call 85; refine (HSp _ (by simp) (Lb2.below hL (by repeat (first | (with_reducible exact Below.refl _ _) | (with_reducible assumption) | (with_reducible refine below_alloc ?_ _) | (with_reducible refine Below.setCell ?_ (by first | omega | (simp; done) | (simp; omega)) _) | (with_reducible refine below_drewN ?_ _) | (with_reducible refine Below.drew ?_) | (with_reducible refine below_tr ?_ (by assumption)))))).mono ?_; rintro e w1 ⟨cap, rfl, hR, hb⟩; have hown1 := own_below6 hown0 hb; have hs1 := hb.size)
  clear hown0
  have hB0 : Below w.heap.size w w1 := below_tr (below_alloc (Below.refl _ _) _) hb
  go_loopw [6, 16] (fun v i wr => ∃ k : Nat, k ≤ xs.length ∧ i = .int .i64 k ∧ (xs.take k).all nmK = true ∧ wr.ownsRow w.heap.size 2 1 v k ((xs.take k).map (fun x => Value.int .i64 (nmV x))) ∧ RowS wr (some ⟨w.heap.size + 1, 0, none⟩) xs ∧ v.ownBlock ≠ some (w.heap.size + 1) ∧ Below w.heap.size w wr) (fun _ i _ => xs.length - (intOf i).toNat)
  case atStart => exact ⟨0, Nat.zero_le _, rfl, rfl, hown1, hR, by simp [Value.ownBlock], hB0⟩
  case round =>
    clear hown1 hR hB0 hb hs1 HSp
    obtain ⟨k, hk, rfl, hA, hown, hR, hne, hB⟩ := hrel
    have hsz := hB.size
    by_cases hkl : k < xs.length
    · have hR0 := hR
      obtain ⟨b, off, e0, hb0, hc⟩ := hR
      cases e0
      have hz := hc k xs[k] (List.getElem?_eq_getElem hkl)
      rw [Nat.zero_add] at hz
      have hsx := hs xs[k] (List.getElem_mem hkl)
      have e2 := map_take (V := nmV) hkl
      have e3 := take_all (K := nmK) hkl hA
      have e4 := all_false (K := nmK) hkl
      have HR := Lib.hid (And.intro e2 (And.intro e3 e4))
      have HNE := Lib.hid hne
      clear hc e2 e3 e4 hs hne
      generalize xs[k] = x at *
      cases hv : nmK x
      · have HF := Lib.hid (show false = xs.all nmK from (HR.out.2.2 hv).symm)
        go_wp2_with (go_at_call 86; refine (number_i x _ (Lb2.below hL (by repeat (first | (with_reducible exact Below.refl _ _) | (with_reducible assumption) | (with_reducible refine below_alloc ?_ _) | (with_reducible refine Below.setCell ?_ (by first | omega | (simp; done) | (simp; omega)) _) | (with_reducible refine below_drewN ?_ _) | (with_reducible refine Below.drew ?_) | (with_reducible refine below_tr ?_ (by assumption))))) (by omega)).mono ?_; rintro e w1 ⟨rfl, hb⟩; have hs1 := hb.size)
        go_ret2
        exact ⟨_, _, _, by rw [← HF.out]; rfl, (fun h => by rw [← HF.out] at h; cases h), below_tr hB hb⟩
      · go_wp2_with (first | (go_at_call 86; refine (number_i x _ (Lb2.below hL (by repeat (first | (with_reducible exact Below.refl _ _) | (with_reducible assumption) | (with_reducible refine below_alloc ?_ _) | (with_reducible refine Below.setCell ?_ (by first | omega | (simp; done) | (simp; omega)) _) | (with_reducible refine below_drewN ?_ _) | (with_reducible refine Below.drew ?_) | (with_reducible refine below_tr ?_ (by assumption))))) (by omega)).mono ?_; rintro e w1 ⟨rfl, hb⟩; have hown1 := own_below6 hown hb; have hs1 := hb.size) | (at_builtin; refine wpList_append_own_at _ rfl (.tmp 27) (.tmp 29) 32 rfl w.heap.size 2 i0 (.int .i64 0) 1 8 Tryd.underlying32 hi hz0 hz1 hz2 rfl (by decide) _ _ _ rfl (hown1.alloc _) ⟨_, 0, none⟩ 1 1 [.int .i64 (nmV x)] rfl rfl (cell_one _ _ _) (by intro u hu; simp at hu; subst hu; rfl) (by unfold maxLen; omega) (by omega) (by simp; omega) ?_; intro v3 w3 hown3 hgrow3 hnil3 hat3))
        go_roundw
        case rel =>
          refine ⟨k + 1, by omega, by go_num, HR.out.2.1 hv, ?_, ?_, ?_, ?_⟩
          · rw [HR.out.1]; exact hown3
          · exact ((hR0.below hb).below (below_alloc (Below.refl _ _) _)).grown hgrow3 HNE.out
          · rcases hat3 with h | h
            · rw [h]; exact HNE.out
            · rw [h]; intro e; have := Option.some.inj e; simp at this; omega
          · exact ((below_tr hB hb).alloc (by omega) _).grown hgrow3 (by simp; omega) (fun k hk => (hown1.lt k hk).1)
        case measure => simp only [intOf]; omega
    · obtain rfl : k = xs.length := by omega
      rw [List.take_length] at hown hA
      have HF := Lib.hid (show true = xs.all nmK from hA.symm)
      obtain ⟨a', cap', rfl, hO⟩ := Own64.of_own (f := atV nmV xs) hown (by omega) (fun j hj => ⟨at_get j hj, by have := nm_bounds (xs.getD j ⟨#[]⟩); unfold atV; omega⟩)
      clear hown hA
      have HO := Lib.hid hO
      clear hO
      go_wp2_with fail
      go_ret2
      exact ⟨_, _, _, by rw [← HF.out]; rfl, fun _ => ⟨rfl, HO.out⟩, hB⟩
end Go.Proofs.YtlijleemogpifaaDoor.C
