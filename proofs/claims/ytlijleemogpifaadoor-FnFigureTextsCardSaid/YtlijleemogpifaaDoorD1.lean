/- The source of the drawn numbers: its block in memory, and what one draw does to it. -/
import Derived.Test.YtlijleemogpifaaDoorU3
import Derived.LoopTactic
import Derived.RegionTactic
import Derived.Deep.RegionWith
namespace Go.Proofs.YtlijleemogpifaaDoor.C
open Go.RowKit Go.Proofs.YtlijleemogpifaaDoor.K
set_option linter.unusedVariables false
set_option linter.unusedSimpArgs false

/-- a row of integers that came in -/
def IsRow (k : IntKind) (w : World) (a : Option Addr) (len cap : Nat) (zs : List Int) : Prop :=
  (a = none ∧ len = 0 ∧ cap = 0 ∧ zs = []) ∨ ∃ x : Addr, a = some x ∧ len ≤ cap ∧ cap ≤ maxLen ∧ zs.length = cap ∧ (∀ i, i < zs.length → w.cell? (x.add i) = some (.int k (zs.getD i 0))) ∧ (∀ n ∈ zs, (Lit.int k n).wf = true)
/-- a row of bytes below block B -/
def Row8 (w : World) (a : Option Addr) (len B : Nat) : Prop :=
  len ≤ 9223372036854775807 ∧ (0 < len → ∃ b off, a = some ⟨b, off, none⟩ ∧ b < B ∧ b < w.heap.size ∧ ∀ j, j < len → ∃ z : Int, 0 ≤ z ∧ z ≤ 255 ∧ w.cell? ⟨b, off + j, none⟩ = some (.int .u8 z))
/-- all blocks but one are as they were -/
structure But (g : Nat) (w w' : World) : Prop where
  os : w'.os = w.os
  tape : w'.tape = w.tape
  output : w'.output = w.output
  size : w.heap.size ≤ w'.heap.size
  block : ∀ k, k < w.heap.size → k ≠ g → w'.heap[k]? = w.heap[k]?
theorem But.refl (g : Nat) (w : World) : But g w w := ⟨rfl, rfl, rfl, Nat.le_refl _, fun _ _ _ => rfl⟩
theorem But.trans {g : Nat} {a b c : World} (h : But g a b) (k : But g b c) : But g a c :=
  ⟨k.os.trans h.os, k.tape.trans h.tape, k.output.trans h.output, Nat.le_trans h.size k.size, fun i hi hg => (k.block i (Nat.lt_of_lt_of_le hi h.size) hg).trans (h.block i hi hg)⟩
theorem But.of_below {g : Nat} {a b : World} (h : Below a.heap.size a b) : But g a b := ⟨h.os, h.tape, h.output, h.size, fun i hi _ => h.block i hi⟩
theorem But.drew {g : Nat} {a w : World} (h : But g a w) : But g a w.drew := ⟨h.os, h.tape, h.output, h.size, h.block⟩
theorem But.alloc {g : Nat} {a w : World} (h : But g a w) (o : Obj) : But g a (w.alloc o) := h.trans (But.of_below ((Below.refl _ _).alloc (Nat.le_refl _) o))
theorem But.set {g : Nat} {a w : World} (h : But g a w) (o : Nat) (v : Value) : But g a (w.setCell ⟨g, o, none⟩ v) :=
  h.trans ⟨rfl, rfl, rfl, by simp [World.setCell], fun k _ hk => Below.heap_setCell _ _ _ _ hk⟩
theorem But.setNew {g : Nat} {a w : World} {p : Addr} (h : But g a w) (hp : a.heap.size ≤ p.block) (v : Value) : But g a (w.setCell p v) :=
  ⟨h.os, h.tape, h.output, by have := h.size; simpa [World.setCell] using this, fun k hk hg => (Below.heap_setCell _ _ _ _ (by omega)).trans (h.block k hk hg)⟩
theorem But.cell {g : Nat} {w w' : World} (h : But g w w') {b o : Nat} (hb : b < w.heap.size) (hg : b ≠ g) : w'.cell? ⟨b, o, none⟩ = w.cell? ⟨b, o, none⟩ := World.cell?_of_block (w := w) (h.block b hb hg)
theorem But.frozen {g : Nat} {w w' : World} (h : But g w w') {b o : Nat} (hb : b < w.heap.size) (hg : b ≠ g) : w'.frozen? ⟨b, o, none⟩ = w.frozen? ⟨b, o, none⟩ := World.frozen?_of_block (w := w) (h.block b hb hg)
theorem But.below {g B : Nat} {w w' : World} (h : But g w w') (hB : B ≤ g) (hs : B ≤ w.heap.size) : Below B w w' := ⟨h.os, h.tape, h.output, h.size, fun k hk => h.block k (by omega) (by omega)⟩
theorem Row8.but {g : Nat} {w w' : World} {a : Option Addr} {len B : Nat} (h : Row8 w a len B) (k : But g w w') (hB : B ≤ g) : Row8 w' a len B := by
  refine ⟨h.1, fun hl => ?_⟩
  obtain ⟨b, off, e, hb, hs, hc⟩ := h.2 hl
  have := k.size
  exact ⟨b, off, e, hb, by omega, fun j hj => by
    obtain ⟨z, z0, z1, hz⟩ := hc j hj
    exact ⟨z, z0, z1, by rw [k.cell hs (by omega), hz]⟩⟩
theorem u8_wf {z : Int} (h : (Lit.int .u8 z).wf = true) : 0 ≤ z ∧ z ≤ 255 := by
  have e : (Lit.int .u8 z).wf = (decide (0 ≤ z) && decide (z ≤ 255)) := rfl
  rw [e] at h
  simpa using h
theorem getD_mem (zs : List Int) (j : Nat) (h : j < zs.length) : zs.getD j 0 ∈ zs := by
  rw [List.getD_eq_getElem?_getD, List.getElem?_eq_getElem h]; exact List.getElem_mem _
theorem Row8.of_row {w : World} {a : Option Addr} {len cap : Nat} {zs : List Int} (h : IsRow .u8 w a len cap zs) : Row8 w a len w.heap.size := by
  rcases h with ⟨rfl, rfl, rfl, rfl⟩ | ⟨x, rfl, hl, hm, hz, hc, hw⟩
  · exact ⟨by omega, fun h => by omega⟩
  · refine ⟨by unfold maxLen at hm; omega, fun h => ?_⟩
    obtain ⟨b, off, rfl, hc'⟩ := ints_at hc (by omega)
    have hs := World.block_lt_of_cell? w _ (hc' 0 (by omega))
    refine ⟨b, off, rfl, hs, hs, fun j hj => ⟨zs.getD j 0, ?_, ?_, hc' j (by omega)⟩⟩
    · exact (u8_wf (hw _ (getD_mem zs j (by omega)))).1
    · exact (u8_wf (hw _ (getD_mem zs j (by omega)))).2
theorem Row8.below {w w' : World} {a : Option Addr} {len : Nat} (h : Row8 w a len w.heap.size) (k : Below w.heap.size w w') : Row8 w' a len w'.heap.size := by
  have h' := h.but (g := w.heap.size) (But.of_below k) (Nat.le_refl _)
  refine ⟨h'.1, fun hl => ?_⟩
  obtain ⟨b, off, e, hb, hs, hc⟩ := h'.2 hl
  exact ⟨b, off, e, hs, hs, hc⟩
theorem below_but {w a b : World} {g : Nat} (h : Below w.heap.size w a) (k : But g a b) (hg : w.heap.size ≤ g) : Below w.heap.size w b := h.trans (k.below hg h.size)
/-- the source's block -/
def Src (g : Nat) (a : Option Addr) (len cap : Nat) (w : World) : Prop :=
  g < w.heap.size ∧ Row8 w a len g ∧ w.cell? ⟨g, 0, none⟩ = some (.slice a len cap) ∧
  (∃ t : Nat, t ≤ len ∧ w.cell? ⟨g, 1, none⟩ = some (.int .i64 t)) ∧ (∃ s : Int, 0 ≤ s ∧ s < 2147483647 ∧ w.cell? ⟨g, 2, none⟩ = some (.int .i64 s)) ∧
  w.frozen? ⟨g, 0, none⟩ = false ∧ w.frozen? ⟨g, 1, none⟩ = false ∧ w.frozen? ⟨g, 2, none⟩ = false
theorem Src.below {g : Nat} {a : Option Addr} {len cap : Nat} {w w' : World} (h : Src g a len cap w) (k : Below w.heap.size w w') : Src g a len cap w' := by
  obtain ⟨h0, h1, h2, ⟨t, t0, ht⟩, ⟨s, s0, s1, hs⟩, f0, f1, f2⟩ := h
  have hz := k.size
  refine ⟨by omega, h1.but (g := g) (But.of_below k) (Nat.le_refl _), ?_, ⟨t, t0, ?_⟩, ⟨s, s0, s1, ?_⟩, ?_, ?_, ?_⟩
  · rw [k.cell (p := ⟨g, 0, none⟩) h0, h2]
  · rw [k.cell (p := ⟨g, 1, none⟩) h0, ht]
  · rw [k.cell (p := ⟨g, 2, none⟩) h0, hs]
  · rw [k.frozen (p := ⟨g, 0, none⟩) h0, f0]
  · rw [k.frozen (p := ⟨g, 1, none⟩) h0, f1]
  · rw [k.frozen (p := ⟨g, 2, none⟩) h0, f2]
theorem bbut {g : Nat} {W w1 : World} (hb : But g W w1) : (∀ b o, b < W.heap.size → b ≠ g → w1.cell? ⟨b, o, none⟩ = W.cell? ⟨b, o, none⟩) ∧ (∀ b o, b < W.heap.size → b ≠ g → w1.frozen? ⟨b, o, none⟩ = W.frozen? ⟨b, o, none⟩) :=
  ⟨fun b o h k => hb.cell h k, fun b o h k => hb.frozen h k⟩
theorem Src.setNew {g : Nat} {a : Option Addr} {len cap : Nat} {w : World} (h : Src g a len cap w) {k o : Nat} (hk : g < k) (v : Value) : Src g a len cap (w.setCell ⟨k, o, none⟩ v) := by
  have l : Below (g + 1) w (w.setCell ⟨k, o, none⟩ v) := (Below.refl _ _).setCell (p := ⟨k, o, none⟩) (by show g + 1 ≤ k; omega) v
  obtain ⟨h0, h1, h2, ⟨t, t0, ht⟩, ⟨s, s0, s1, hs⟩, f0, f1, f2⟩ := h
  have hz := l.size
  have hR : Row8 (w.setCell ⟨k, o, none⟩ v) a len g := by
    refine ⟨h1.1, fun hl => ?_⟩
    obtain ⟨b, off, e, hb, hs, hc⟩ := h1.2 hl
    exact ⟨b, off, e, hb, by omega, fun j hj => by
      obtain ⟨z, z0, z1, hz⟩ := hc j hj
      exact ⟨z, z0, z1, by rw [l.cell (p := ⟨b, off + j, none⟩) (by show b < g + 1; omega), hz]⟩⟩
  refine ⟨by omega, hR, ?_, ⟨t, t0, ?_⟩, ⟨s, s0, s1, ?_⟩, ?_, ?_, ?_⟩
  · rw [l.cell (p := ⟨g, 0, none⟩) (by show g < g + 1; omega), h2]
  · rw [l.cell (p := ⟨g, 1, none⟩) (by show g < g + 1; omega), ht]
  · rw [l.cell (p := ⟨g, 2, none⟩) (by show g < g + 1; omega), hs]
  · rw [l.frozen (p := ⟨g, 0, none⟩) (by show g < g + 1; omega), f0]
  · rw [l.frozen (p := ⟨g, 1, none⟩) (by show g < g + 1; omega), f1]
  · rw [l.frozen (p := ⟨g, 2, none⟩) (by show g < g + 1; omega), f2]

theorem Src.set2 {g : Nat} {a : Option Addr} {len cap : Nat} {w : World} (h : Src g a len cap w) {s : Int} (s0 : 0 ≤ s) (s1 : s < 2147483647) : Src g a len cap (w.setCell ⟨g, 2, none⟩ (.int .i64 s)) := by
  obtain ⟨h0, h1, h2, ⟨t, t0, ht⟩, ⟨s', _, _, hs⟩, f0, f1, f2⟩ := h
  refine ⟨by simpa using h0, h1.but (g := g) ((But.refl g w).set 2 _) (Nat.le_refl _), ?_, ⟨t, t0, ?_⟩, ⟨s, s0, s1, ?_⟩, by simpa using f0, by simpa using f1, by simpa using f2⟩
  · rw [World.cell?_setCell_other _ _ _ _ (by simp), h2]
  · rw [World.cell?_setCell_other _ _ _ _ (by simp), ht]
  · exact World.cell?_setCell_same _ _ _ hs
theorem Src.set1 {g : Nat} {a : Option Addr} {len cap : Nat} {w : World} (h : Src g a len cap w) {t : Int} (t0 : 0 ≤ t) (t1 : t ≤ len) : Src g a len cap (w.setCell ⟨g, 1, none⟩ (.int .i64 t)) := by
  obtain ⟨h0, h1, h2, ⟨t', _, ht⟩, ⟨s, s0, s1, hs⟩, f0, f1, f2⟩ := h
  obtain ⟨m, rfl⟩ := Int.eq_ofNat_of_zero_le t0
  refine ⟨by simpa using h0, h1.but (g := g) ((But.refl g w).set 1 _) (Nat.le_refl _), ?_, ⟨m, by omega, ?_⟩, ⟨s, s0, s1, ?_⟩, by simpa using f0, by simpa using f1, by simpa using f2⟩
  · rw [World.cell?_setCell_other _ _ _ _ (by simp), h2]
  · exact World.cell?_setCell_same _ _ _ ht
  · rw [World.cell?_setCell_other _ _ _ _ (by simp), hs]
theorem Src.drew {g : Nat} {a : Option Addr} {len cap : Nat} {w : World} (h : Src g a len cap w) : Src g a len cap w.drew := h.below ((Below.refl _ _).drew)
theorem Src.alloc {g : Nat} {a : Option Addr} {len cap : Nat} {w : World} (h : Src g a len cap w) (o : Obj) : Src g a len cap (w.alloc o) := h.below ((Below.refl _ _).alloc (Nat.le_refl _) _)
theorem Src.new (w : World) (a : Option Addr) (len cap : Nat) (s : Int) (t : TypeId) (hR : Row8 w a len w.heap.size) (s0 : 0 ≤ s) (s1 : s < 2147483647) : Src w.heap.size a len cap (w.alloc (.cells #[.slice a len cap, .int .i64 0, .int .i64 s] t)) :=
  ⟨by simp, hR.but (g := w.heap.size) (But.of_below ((Below.refl _ _).alloc (Nat.le_refl _) _)) (Nat.le_refl _), by simp, ⟨0, by omega, by simp⟩, ⟨s, s0, s1, by simp⟩, by simp, by simp, by simp⟩

theorem S1.but {k g : Nat} {x y : Int} {w w' : World} (h : S1 k x y w) (b : But g w w') (hk : k ≠ g) : S1 k x y w' := by
  obtain ⟨h0, h1, h2⟩ := h
  have hs := b.size
  exact ⟨by omega, by rw [b.cell h0 hk, h1], by rw [b.cell h0 hk, h2]⟩
theorem S1.drewN {k : Nat} {x y : Int} {w : World} (h : S1 k x y w) (n : Nat) : S1 k x y (w.drewN n) := h.below (below_drewN (Below.refl _ _) n)

set_option maxHeartbeats 1600000 in
theorem from_s (a : Option Addr) (len cap : Nat) (w : World) (hR : Row8 w a len w.heap.size) : Calls Tryd.prog 57 #[.slice a len cap] w fun e w' => e = .returned (.pointer (some ⟨w.heap.size, 0, none⟩)) ∧ Src w.heap.size a len cap w' ∧ Below w.heap.size w w' := by
  have HN := Lib.hid (Src.new w a len cap 17021 85 hR (by decide) (by decide))
  have hl := hR.1
  clear hR
  go_enter Tryd.func57, Tryd.ntmps57
  go_wp2_with fail
  go_loopw [4] (fun i wr => ∃ k : Nat, k ≤ len ∧ i = .int .i64 k ∧ Src w.heap.size a len cap wr ∧ Below w.heap.size w wr) (fun i _ => len - (intOf i).toNat)
  case atStart => exact ⟨0, Nat.zero_le _, rfl, HN.out, (by repeat (first | (with_reducible exact Below.refl _ _) | (with_reducible assumption) | (with_reducible refine below_alloc ?_ _) | (with_reducible refine Below.setCell ?_ (by first | omega | (simp; done) | (simp; omega)) _) | (with_reducible refine below_drewN ?_ _) | (with_reducible refine Below.drew ?_) | (with_reducible refine below_tr ?_ (by assumption))))⟩
  case round =>
    obtain ⟨k, hk, rfl, hS, hB⟩ := hrel
    have HS := Lib.hid hS
    obtain ⟨h0, h1, h2, ⟨t, t0, ht⟩, ⟨s, s0, s1, hs⟩, f0, f1, f2⟩ := hS
    clear ht h2
    by_cases hkl : k < len
    · by_cases hk64 : k < 64
      · obtain ⟨b, off, rfl, hb, hbs, hc⟩ := h1.2 (by omega)
        obtain ⟨z, z0, z1, hz⟩ := hc k hkl
        clear hc h1
        have q0 : 0 ≤ (s * 73 + z) % 2147483647 := Int.emod_nonneg _ (by decide)
        have q1 : (s * 73 + z) % 2147483647 < 2147483647 := Int.emod_lt_of_pos _ (by decide)
        go_wp2_with fail
        go_region
        go_wp2_with fail
        go_roundw
        case rel => exact ⟨k + 1, by omega, by go_num, by (repeat (first | (with_reducible exact HS.out) | (with_reducible refine Src.set2 ?_ (by assumption) (by assumption)) | (with_reducible refine Src.drew ?_))), (by repeat (first | (with_reducible exact Below.refl _ _) | (with_reducible assumption) | (with_reducible refine below_alloc ?_ _) | (with_reducible refine Below.setCell ?_ (by first | omega | (simp; done) | (simp; omega)) _) | (with_reducible refine below_drewN ?_ _) | (with_reducible refine Below.drew ?_) | (with_reducible refine below_tr ?_ (by assumption))))⟩
        case measure => simp [intOf]; omega
      · go_wp2_with fail
        go_ret
        exact ⟨rfl, HS.out, hB⟩
    · go_wp2_with fail
      go_ret
      exact ⟨rfl, HS.out, hB⟩
theorem Src.drewN {g : Nat} {a : Option Addr} {len cap : Nat} {w : World} (h : Src g a len cap w) (n : Nat) : Src g a len cap (w.drewN n) := h.below (below_drewN (Below.refl _ _) n)
theorem But.drewN {g : Nat} {a w : World} (h : But g a w) (n : Nat) : But g a (w.drewN n) := h.trans (But.of_below (below_drewN (Below.refl _ _) n))
set_option maxHeartbeats 3200000 in
theorem next_s (g : Nat) (a : Option Addr) (len cap : Nat) (n : Int) (w : World) (hS : Src g a len cap w) (n1 : n ≤ 1000000000000) : Calls Tryd.prog 56 #[.pointer (some ⟨g, 0, none⟩), .int .i64 n] w fun e w' => ∃ r : Int, e = .returned (.int .i64 r) ∧ 0 ≤ r ∧ (1 < n → r < n) ∧ (n ≤ 1 → r = 0) ∧ Src g a len cap w' ∧ But g w w' := by
  by_cases hn : n ≤ 1
  · go_enter Tryd.func56, Tryd.ntmps56
    go_wp2_with fail
    go_ret
    exact ⟨0, rfl, by omega, fun h => by omega, fun _ => rfl, hS, But.refl _ _⟩
  · have HS := Lib.hid hS
    obtain ⟨h0, h1, h2, ⟨t, t0, ht⟩, ⟨s, s0, s1, hs⟩, f0, f1, f2⟩ := hS
    have q0 : 0 ≤ (s * 48271 + 29) % 2147483647 := Int.emod_nonneg _ (by decide)
    have q1 : (s * 48271 + 29) % 2147483647 < 2147483647 := Int.emod_lt_of_pos _ (by decide)
    have hl := h1.1
    have hnz : (n == 0) = false := beq_eq_false_iff_ne.2 (by omega)
    by_cases htl : t < len
    · obtain ⟨b, off, rfl, hb, hbs, hc⟩ := h1.2 (by omega)
      obtain ⟨z, z0, z1, hz⟩ := hc t htl
      clear hc h1
      have hbg : b ≠ g := by omega
      have hgb : g ≠ b := by omega
      by_cases h256 : n ≤ 256
      · by_cases hev : ((t : Int) + 1) % 2 = 0
        · have hev' : (((t : Int) + 1) % 2 == 0) = true := beq_iff_eq.2 hev
          clear hev
          go_enter Tryd.func56, Tryd.ntmps56
          go_wp2_with fail
          go_quiet (fail)
          go_wp2_with fail
          go_quiet (fail)
          go_wp2_with fail
          go_quiet (fail)
          go_wp2_with fail
          go_ret
          refine ⟨_, rfl, Int.emod_nonneg _ (by omega), ?_, fun h => by omega, ?_, ?_⟩ ; (first | exact Int.emod_lt_of_pos _ (by omega) | exact fun _ => Int.emod_lt_of_pos _ (by omega)); exact (by repeat (first | (with_reducible exact HS.out) | (with_reducible refine Src.set2 ?_ (by assumption) (by assumption)) | (with_reducible refine Src.set1 ?_ (by omega) (by omega)) | (with_reducible refine Src.drewN ?_ _) | (with_reducible refine Src.drew ?_))); exact (by repeat (first | (with_reducible exact But.refl _ _) | (with_reducible refine But.set ?_ _ _) | (with_reducible refine But.drewN ?_ _) | (with_reducible refine But.drew ?_)))
        · have hev' : (((t : Int) + 1) % 2 == 0) = false := beq_eq_false_iff_ne.2 hev
          clear hev
          go_enter Tryd.func56, Tryd.ntmps56
          go_wp2_with fail
          go_quiet (fail)
          go_wp2_with fail
          go_quiet (fail)
          go_wp2_with fail
          go_ret
          refine ⟨_, rfl, Int.emod_nonneg _ (by omega), ?_, fun h => by omega, ?_, ?_⟩ ; (first | exact Int.emod_lt_of_pos _ (by omega) | exact fun _ => Int.emod_lt_of_pos _ (by omega)); exact (by repeat (first | (with_reducible exact HS.out) | (with_reducible refine Src.set2 ?_ (by assumption) (by assumption)) | (with_reducible refine Src.set1 ?_ (by omega) (by omega)) | (with_reducible refine Src.drewN ?_ _) | (with_reducible refine Src.drew ?_))); exact (by repeat (first | (with_reducible exact But.refl _ _) | (with_reducible refine But.set ?_ _ _) | (with_reducible refine But.drewN ?_ _) | (with_reducible refine But.drew ?_)))
      · go_enter Tryd.func56, Tryd.ntmps56
        go_wp2_with fail
        go_quiet (fail)
        go_wp2_with fail
        go_quiet (fail)
        go_wp2_with fail
        go_ret
        refine ⟨_, rfl, Int.emod_nonneg _ (by omega), ?_, fun h => by omega, ?_, ?_⟩ ; (first | exact Int.emod_lt_of_pos _ (by omega) | exact fun _ => Int.emod_lt_of_pos _ (by omega)); exact (by repeat (first | (with_reducible exact HS.out) | (with_reducible refine Src.set2 ?_ (by assumption) (by assumption)) | (with_reducible refine Src.set1 ?_ (by omega) (by omega)) | (with_reducible refine Src.drewN ?_ _) | (with_reducible refine Src.drew ?_))); exact (by repeat (first | (with_reducible exact But.refl _ _) | (with_reducible refine But.set ?_ _ _) | (with_reducible refine But.drewN ?_ _) | (with_reducible refine But.drew ?_)))
    · go_enter Tryd.func56, Tryd.ntmps56
      go_wp2_with fail
      go_quiet (fail)
      go_wp2_with fail
      go_ret
      refine ⟨_, rfl, Int.emod_nonneg _ (by omega), ?_, fun h => by omega, ?_, ?_⟩ ; (first | exact Int.emod_lt_of_pos _ (by omega) | exact fun _ => Int.emod_lt_of_pos _ (by omega)); exact (by repeat (first | (with_reducible exact HS.out) | (with_reducible refine Src.set2 ?_ (by assumption) (by assumption)) | (with_reducible refine Src.set1 ?_ (by omega) (by omega)) | (with_reducible refine Src.drewN ?_ _) | (with_reducible refine Src.drew ?_))); exact (by repeat (first | (with_reducible exact But.refl _ _) | (with_reducible refine But.set ?_ _ _) | (with_reducible refine But.drewN ?_ _) | (with_reducible refine But.drew ?_)))
theorem pick_aux {P : Int → Prop} {arr : Array Value} {g b n : Nat} {w w1 : World} (m : Nat) (hbg : b ≠ g) (hb : b < w.heap.size) (hB1 : But g w w1)
    (HC : Hid (∀ j, w.cell? ⟨b, j, none⟩ = arr[j]?)) (HP : Hid (∀ j, j < n → ∃ v, P v ∧ arr[j]? = some (.int .i64 v))) (r1 : 1 < (n : Int) → (m : Int) < n) (r2 : (n : Int) ≤ 1 → (m : Int) = 0) (h1 : 1 ≤ n) :
    ∃ v, Hid (P v) ∧ w1.cell? ⟨b, m, none⟩ = some (.int .i64 v) := by
  have hm : m < n := by omega
  obtain ⟨v, hv, hav⟩ := HP.out m hm
  exact ⟨v, hv, by rw [hB1.cell hb hbg, HC.out, hav]⟩
set_option maxHeartbeats 1600000 in
/-- one of some numbers -/
theorem pick_s (P : Int → Prop) (arr : Array Value) (g b : Nat) (a : Option Addr) (len cap n : Nat) (w : World) (hS : Src g a len cap w) (h1 : 1 ≤ n) (h2 : n ≤ 1000) (hbg : b ≠ g) (hb : b < w.heap.size)
    (hP : ∀ j, j < n → ∃ v, P v ∧ arr[j]? = some (.int .i64 v)) (hc : ∀ j, w.cell? ⟨b, j, none⟩ = arr[j]?) :
    Calls Tryd.prog 60 #[.pointer (some ⟨g, 0, none⟩), .slice (some ⟨b, 0, none⟩) n n] w fun e w' => ∃ r : Int, e = .returned (.int .i64 r) ∧ P r ∧ Src g a len cap w' ∧ But g w w' := by
  have HC := Lib.hid hc
  have HP := Lib.hid hP
  clear hc hP
  go_enter Tryd.func60, Tryd.ntmps60
  go_wp2_with (go_at_call 56; refine (next_s _ _ _ _ _ _ hS (by omega)).mono ?_; rintro e w1 ⟨r, rfl, r0, r1, r2, hS1, hB1⟩; obtain ⟨m, rfl⟩ := Int.eq_ofNat_of_zero_le r0; obtain ⟨v, hv, hcm⟩ := pick_aux m hbg hb hB1 HC HP r1 r2 h1)
  go_ret
  exact ⟨_, rfl, hv.out, by assumption, by assumption⟩
/-- the same, of an array that was just made -/
theorem pick_a (P : Int → Prop) (arr : Array Value) (t : TypeId) (g : Nat) (a : Option Addr) (len cap n : Nat) (w : World) (hS : Src g a len cap w) (h1 : 1 ≤ n) (h2 : n ≤ 1000)
    (hP : ∀ j, j < n → ∃ v, P v ∧ arr[j]? = some (.int .i64 v)) :
    Calls Tryd.prog 60 #[.pointer (some ⟨g, 0, none⟩), .slice (some ⟨w.heap.size, 0, none⟩) n n] (w.alloc (.cells arr t)) fun e w' => ∃ r : Int, e = .returned (.int .i64 r) ∧ P r ∧ Src g a len cap w' ∧ But g w w' := by
  have hg := hS.1
  refine (pick_s P arr g w.heap.size a len cap n _ (hS.alloc _) h1 h2 (by omega) (by simp) hP (fun j => by rw [World.cell?_alloc_new])).mono ?_
  rintro e w' ⟨r, rfl, hr, hS', hB'⟩
  exact ⟨r, rfl, hr, hS', ((But.refl g w).alloc _).trans hB'⟩
set_option maxHeartbeats 1600000 in
theorem drawValue_s (g : Nat) (a : Option Addr) (len cap : Nat) (w : World) (hS : Src g a len cap w) :
    Calls Tryd.prog 61 #[.pointer (some ⟨g, 0, none⟩)] w fun e w' => ∃ r : Int, e = .returned (.int .i64 r) ∧ Src g a len cap w' ∧ But g w w' := by
  go_enter Tryd.func61, Tryd.ntmps61
  go_wp2_with (first | (go_at_call 56; refine (next_s _ a len cap _ _ (by repeat (first | (with_reducible assumption) | (with_reducible refine Src.drewN ?_ _) | (with_reducible refine Src.drew ?_) | (with_reducible refine Src.alloc ?_ _) | (with_reducible refine Src.setNew ?_ (by omega) _) | (with_reducible refine Src.below ?_ (by assumption)))) (by omega)).mono ?_; rintro e w1 ⟨r, rfl, r0, r1, r2, hS1, hB1⟩; obtain ⟨hc, hf⟩ := bbut hB1; (try simp only [World.size_drew, World.cell?_drew, World.heap_drewN, World.cell?_drewN] at hc); (try simp only [World.size_drew, World.frozen?_drew, World.heap_drewN, World.frozen?_drewN] at hf); have hz := hB1.size; (try simp at hz); (try (have hz0 : w.heap.size < w1.heap.size := by omega)); (try (have hz1 : w.heap.size + 1 < w1.heap.size := by omega)); (try (have hz2 : w.heap.size + 1 + 1 < w1.heap.size := by omega)); (try (have hz3 : w.heap.size + 1 + 1 + 1 < w1.heap.size := by omega)); (try (have r7 := Nat.lt_of_lt_of_le r5 (show _ ≤ w1.heap.size by omega))); (try (have r6 := Nat.lt_of_lt_of_le r4 (show _ ≤ w1.heap.size by omega))); (try (have r5 := Nat.lt_of_lt_of_le r3 (show _ ≤ w1.heap.size by omega))); (try (have r4 := Nat.lt_of_lt_of_le r2 (show _ ≤ w1.heap.size by omega))); (try (have r3 := Nat.lt_of_lt_of_le r1 (show _ ≤ w1.heap.size by omega))); (try (have r2 := Nat.lt_of_succ_le (Nat.le_of_succ_le hz))); (try (have r1 := Nat.lt_of_succ_le hz)); (try (have hg1 := Nat.lt_of_lt_of_le hg1 (show _ ≤ w1.heap.size by omega))); (try (have hg2 := Nat.lt_of_lt_of_le hg2 (show _ ≤ w1.heap.size by omega))); (try (have hg3 := Nat.lt_of_lt_of_le hg3 (show _ ≤ w1.heap.size by omega))); (try (have hn0 := Nat.ne_of_gt hS1.1)); (try (have hq0 := Nat.ne_of_lt hz0)); (try (have hq1 := Nat.ne_of_gt hz0)); (try (have hq2 := Nat.ne_of_lt hz1)); (try (have hq3 := Nat.ne_of_gt hz1)); (try (have hT : S1 w.heap.size 0 0 w1 := by (first | (with_reducible exact S1.but hT hB1 (by omega)) | (with_reducible exact S1.below hT hb) | (with_reducible exact S1.but (S1.alloc hT _) hB1 (by omega)) | (with_reducible exact S1.below (S1.alloc hT _) hb) | (with_reducible exact S1.but (S1.drewN hT _) hB1 (by omega)) | (with_reducible exact S1.below (S1.drewN hT _) hb) | (with_reducible exact S1.but (S1.alloc (S1.alloc hT _) _) hB1 (by omega)) | (with_reducible exact S1.below (S1.alloc (S1.alloc hT _) _) hb) | (with_reducible exact S1.but (S1.drew hT) hB1 (by omega)) | (with_reducible exact S1.below (S1.drew hT) hb) | (with_reducible exact S1.but (S1.alloc (S1.drewN hT _) _) hB1 (by omega)) | (with_reducible exact S1.below (S1.alloc (S1.drewN hT _) _) hb) | (with_reducible exact S1.but (S1.drewN (S1.alloc hT _) _) hB1 (by omega)) | (with_reducible exact S1.below (S1.drewN (S1.alloc hT _) _) hb) | (with_reducible exact S1.but (S1.new _ _ _ _) hB1 (by omega)) | (with_reducible exact S1.below (S1.new _ _ _ _) hb) | (with_reducible exact S1.but (S1.alloc (S1.new _ _ _ _) _) hB1 (by omega)) | (with_reducible exact S1.below (S1.alloc (S1.new _ _ _ _) _) hb) | (with_reducible exact S1.but (S1.drewN (S1.new _ _ _ _) _) hB1 (by omega)) | (with_reducible exact S1.below (S1.drewN (S1.new _ _ _ _) _) hb) | (with_reducible exact S1.but (S1.alloc (S1.alloc (S1.new _ _ _ _) _) _) hB1 (by omega)) | (with_reducible exact S1.below (S1.alloc (S1.alloc (S1.new _ _ _ _) _) _) hb) | (with_reducible exact S1.but (S1.drew (S1.new _ _ _ _)) hB1 (by omega)) | (with_reducible exact S1.below (S1.drew (S1.new _ _ _ _)) hb) | (with_reducible exact S1.but (S1.alloc (S1.drewN (S1.new _ _ _ _) _) _) hB1 (by omega)) | (with_reducible exact S1.below (S1.alloc (S1.drewN (S1.new _ _ _ _) _) _) hb) | (with_reducible exact S1.but (S1.drewN (S1.alloc (S1.new _ _ _ _) _) _) hB1 (by omega)) | (with_reducible exact S1.below (S1.drewN (S1.alloc (S1.new _ _ _ _) _) _) hb) | (with_reducible exact S1.but (S1.alloc (S1.new _ _ _ _) _) hB1 (by omega)) | (with_reducible exact S1.below (S1.alloc (S1.new _ _ _ _) _) hb) | (with_reducible exact S1.but (S1.alloc (S1.alloc (S1.new _ _ _ _) _) _) hB1 (by omega)) | (with_reducible exact S1.below (S1.alloc (S1.alloc (S1.new _ _ _ _) _) _) hb) | (with_reducible exact S1.but (S1.drewN (S1.alloc (S1.new _ _ _ _) _) _) hB1 (by omega)) | (with_reducible exact S1.below (S1.drewN (S1.alloc (S1.new _ _ _ _) _) _) hb) | (with_reducible exact S1.but (S1.alloc (S1.alloc (S1.alloc (S1.new _ _ _ _) _) _) _) hB1 (by omega)) | (with_reducible exact S1.below (S1.alloc (S1.alloc (S1.alloc (S1.new _ _ _ _) _) _) _) hb) | (with_reducible exact S1.but (S1.drew (S1.alloc (S1.new _ _ _ _) _)) hB1 (by omega)) | (with_reducible exact S1.below (S1.drew (S1.alloc (S1.new _ _ _ _) _)) hb) | (with_reducible exact S1.but (S1.alloc (S1.drewN (S1.alloc (S1.new _ _ _ _) _) _) _) hB1 (by omega)) | (with_reducible exact S1.below (S1.alloc (S1.drewN (S1.alloc (S1.new _ _ _ _) _) _) _) hb) | (with_reducible exact S1.but (S1.drewN (S1.alloc (S1.alloc (S1.new _ _ _ _) _) _) _) hB1 (by omega)) | (with_reducible exact S1.below (S1.drewN (S1.alloc (S1.alloc (S1.new _ _ _ _) _) _) _) hb)))); (try (have hT2 : S1 (w.heap.size + 1) 0 0 w1 := by (first | (with_reducible exact S1.but hT2 hB1 (by omega)) | (with_reducible exact S1.below hT2 hb) | (with_reducible exact S1.but (S1.alloc hT2 _) hB1 (by omega)) | (with_reducible exact S1.below (S1.alloc hT2 _) hb) | (with_reducible exact S1.but (S1.drewN hT2 _) hB1 (by omega)) | (with_reducible exact S1.below (S1.drewN hT2 _) hb) | (with_reducible exact S1.but (S1.alloc (S1.alloc hT2 _) _) hB1 (by omega)) | (with_reducible exact S1.below (S1.alloc (S1.alloc hT2 _) _) hb) | (with_reducible exact S1.but (S1.drew hT2) hB1 (by omega)) | (with_reducible exact S1.below (S1.drew hT2) hb) | (with_reducible exact S1.but (S1.alloc (S1.drewN hT2 _) _) hB1 (by omega)) | (with_reducible exact S1.below (S1.alloc (S1.drewN hT2 _) _) hb) | (with_reducible exact S1.but (S1.drewN (S1.alloc hT2 _) _) hB1 (by omega)) | (with_reducible exact S1.below (S1.drewN (S1.alloc hT2 _) _) hb) | (with_reducible exact S1.but (S1.new' _ _ _ _ _ World.size_alloc.symm) hB1 (by omega)) | (with_reducible exact S1.below (S1.new' _ _ _ _ _ World.size_alloc.symm) hb) | (with_reducible exact S1.but (S1.alloc (S1.new' _ _ _ _ _ World.size_alloc.symm) _) hB1 (by omega)) | (with_reducible exact S1.below (S1.alloc (S1.new' _ _ _ _ _ World.size_alloc.symm) _) hb) | (with_reducible exact S1.but (S1.drewN (S1.new' _ _ _ _ _ World.size_alloc.symm) _) hB1 (by omega)) | (with_reducible exact S1.below (S1.drewN (S1.new' _ _ _ _ _ World.size_alloc.symm) _) hb) | (with_reducible exact S1.but (S1.alloc (S1.alloc (S1.new' _ _ _ _ _ World.size_alloc.symm) _) _) hB1 (by omega)) | (with_reducible exact S1.below (S1.alloc (S1.alloc (S1.new' _ _ _ _ _ World.size_alloc.symm) _) _) hb) | (with_reducible exact S1.but (S1.drew (S1.new' _ _ _ _ _ World.size_alloc.symm)) hB1 (by omega)) | (with_reducible exact S1.below (S1.drew (S1.new' _ _ _ _ _ World.size_alloc.symm)) hb) | (with_reducible exact S1.but (S1.alloc (S1.drewN (S1.new' _ _ _ _ _ World.size_alloc.symm) _) _) hB1 (by omega)) | (with_reducible exact S1.below (S1.alloc (S1.drewN (S1.new' _ _ _ _ _ World.size_alloc.symm) _) _) hb) | (with_reducible exact S1.but (S1.drewN (S1.alloc (S1.new' _ _ _ _ _ World.size_alloc.symm) _) _) hB1 (by omega)) | (with_reducible exact S1.below (S1.drewN (S1.alloc (S1.new' _ _ _ _ _ World.size_alloc.symm) _) _) hb))))) | (go_at_call 60; refine (pick_a (fun _ => True) _ _ _ a len cap _ _ (by repeat (first | (with_reducible assumption) | (with_reducible refine Src.drewN ?_ _) | (with_reducible refine Src.drew ?_) | (with_reducible refine Src.alloc ?_ _) | (with_reducible refine Src.setNew ?_ (by omega) _) | (with_reducible refine Src.below ?_ (by assumption)))) (by omega) (by omega) ?_).mono ?_; (intro j hj; rcases j with _ | _ | _ | _ | _ | _ | _ | _ | _ | _ | _ | _ | j <;> first | exact ⟨_, trivial, rfl⟩ | omega); rintro e w1 ⟨r, rfl, hp, hS1, hB1⟩; obtain ⟨hc, hf⟩ := bbut hB1; (try simp only [World.size_drew, World.cell?_drew, World.heap_drewN, World.cell?_drewN] at hc); (try simp only [World.size_drew, World.frozen?_drew, World.heap_drewN, World.frozen?_drewN] at hf); have hz := hB1.size; (try simp at hz); (try (have hz0 : w.heap.size < w1.heap.size := by omega)); (try (have hz1 : w.heap.size + 1 < w1.heap.size := by omega)); (try (have hz2 : w.heap.size + 1 + 1 < w1.heap.size := by omega)); (try (have hz3 : w.heap.size + 1 + 1 + 1 < w1.heap.size := by omega)); (try (have r7 := Nat.lt_of_lt_of_le r5 (show _ ≤ w1.heap.size by omega))); (try (have r6 := Nat.lt_of_lt_of_le r4 (show _ ≤ w1.heap.size by omega))); (try (have r5 := Nat.lt_of_lt_of_le r3 (show _ ≤ w1.heap.size by omega))); (try (have r4 := Nat.lt_of_lt_of_le r2 (show _ ≤ w1.heap.size by omega))); (try (have r3 := Nat.lt_of_lt_of_le r1 (show _ ≤ w1.heap.size by omega))); (try (have r2 := Nat.lt_of_succ_le (Nat.le_of_succ_le hz))); (try (have r1 := Nat.lt_of_succ_le hz)); (try (have hg1 := Nat.lt_of_lt_of_le hg1 (show _ ≤ w1.heap.size by omega))); (try (have hg2 := Nat.lt_of_lt_of_le hg2 (show _ ≤ w1.heap.size by omega))); (try (have hg3 := Nat.lt_of_lt_of_le hg3 (show _ ≤ w1.heap.size by omega))); (try (have hn0 := Nat.ne_of_gt hS1.1)); (try (have hq0 := Nat.ne_of_lt hz0)); (try (have hq1 := Nat.ne_of_gt hz0)); (try (have hq2 := Nat.ne_of_lt hz1)); (try (have hq3 := Nat.ne_of_gt hz1)); (try (have hT : S1 w.heap.size 0 0 w1 := by (first | (with_reducible exact S1.but hT hB1 (by omega)) | (with_reducible exact S1.below hT hb) | (with_reducible exact S1.but (S1.alloc hT _) hB1 (by omega)) | (with_reducible exact S1.below (S1.alloc hT _) hb) | (with_reducible exact S1.but (S1.drewN hT _) hB1 (by omega)) | (with_reducible exact S1.below (S1.drewN hT _) hb) | (with_reducible exact S1.but (S1.alloc (S1.alloc hT _) _) hB1 (by omega)) | (with_reducible exact S1.below (S1.alloc (S1.alloc hT _) _) hb) | (with_reducible exact S1.but (S1.drew hT) hB1 (by omega)) | (with_reducible exact S1.below (S1.drew hT) hb) | (with_reducible exact S1.but (S1.alloc (S1.drewN hT _) _) hB1 (by omega)) | (with_reducible exact S1.below (S1.alloc (S1.drewN hT _) _) hb) | (with_reducible exact S1.but (S1.drewN (S1.alloc hT _) _) hB1 (by omega)) | (with_reducible exact S1.below (S1.drewN (S1.alloc hT _) _) hb) | (with_reducible exact S1.but (S1.new _ _ _ _) hB1 (by omega)) | (with_reducible exact S1.below (S1.new _ _ _ _) hb) | (with_reducible exact S1.but (S1.alloc (S1.new _ _ _ _) _) hB1 (by omega)) | (with_reducible exact S1.below (S1.alloc (S1.new _ _ _ _) _) hb) | (with_reducible exact S1.but (S1.drewN (S1.new _ _ _ _) _) hB1 (by omega)) | (with_reducible exact S1.below (S1.drewN (S1.new _ _ _ _) _) hb) | (with_reducible exact S1.but (S1.alloc (S1.alloc (S1.new _ _ _ _) _) _) hB1 (by omega)) | (with_reducible exact S1.below (S1.alloc (S1.alloc (S1.new _ _ _ _) _) _) hb) | (with_reducible exact S1.but (S1.drew (S1.new _ _ _ _)) hB1 (by omega)) | (with_reducible exact S1.below (S1.drew (S1.new _ _ _ _)) hb) | (with_reducible exact S1.but (S1.alloc (S1.drewN (S1.new _ _ _ _) _) _) hB1 (by omega)) | (with_reducible exact S1.below (S1.alloc (S1.drewN (S1.new _ _ _ _) _) _) hb) | (with_reducible exact S1.but (S1.drewN (S1.alloc (S1.new _ _ _ _) _) _) hB1 (by omega)) | (with_reducible exact S1.below (S1.drewN (S1.alloc (S1.new _ _ _ _) _) _) hb) | (with_reducible exact S1.but (S1.alloc (S1.new _ _ _ _) _) hB1 (by omega)) | (with_reducible exact S1.below (S1.alloc (S1.new _ _ _ _) _) hb) | (with_reducible exact S1.but (S1.alloc (S1.alloc (S1.new _ _ _ _) _) _) hB1 (by omega)) | (with_reducible exact S1.below (S1.alloc (S1.alloc (S1.new _ _ _ _) _) _) hb) | (with_reducible exact S1.but (S1.drewN (S1.alloc (S1.new _ _ _ _) _) _) hB1 (by omega)) | (with_reducible exact S1.below (S1.drewN (S1.alloc (S1.new _ _ _ _) _) _) hb) | (with_reducible exact S1.but (S1.alloc (S1.alloc (S1.alloc (S1.new _ _ _ _) _) _) _) hB1 (by omega)) | (with_reducible exact S1.below (S1.alloc (S1.alloc (S1.alloc (S1.new _ _ _ _) _) _) _) hb) | (with_reducible exact S1.but (S1.drew (S1.alloc (S1.new _ _ _ _) _)) hB1 (by omega)) | (with_reducible exact S1.below (S1.drew (S1.alloc (S1.new _ _ _ _) _)) hb) | (with_reducible exact S1.but (S1.alloc (S1.drewN (S1.alloc (S1.new _ _ _ _) _) _) _) hB1 (by omega)) | (with_reducible exact S1.below (S1.alloc (S1.drewN (S1.alloc (S1.new _ _ _ _) _) _) _) hb) | (with_reducible exact S1.but (S1.drewN (S1.alloc (S1.alloc (S1.new _ _ _ _) _) _) _) hB1 (by omega)) | (with_reducible exact S1.below (S1.drewN (S1.alloc (S1.alloc (S1.new _ _ _ _) _) _) _) hb)))); (try (have hT2 : S1 (w.heap.size + 1) 0 0 w1 := by (first | (with_reducible exact S1.but hT2 hB1 (by omega)) | (with_reducible exact S1.below hT2 hb) | (with_reducible exact S1.but (S1.alloc hT2 _) hB1 (by omega)) | (with_reducible exact S1.below (S1.alloc hT2 _) hb) | (with_reducible exact S1.but (S1.drewN hT2 _) hB1 (by omega)) | (with_reducible exact S1.below (S1.drewN hT2 _) hb) | (with_reducible exact S1.but (S1.alloc (S1.alloc hT2 _) _) hB1 (by omega)) | (with_reducible exact S1.below (S1.alloc (S1.alloc hT2 _) _) hb) | (with_reducible exact S1.but (S1.drew hT2) hB1 (by omega)) | (with_reducible exact S1.below (S1.drew hT2) hb) | (with_reducible exact S1.but (S1.alloc (S1.drewN hT2 _) _) hB1 (by omega)) | (with_reducible exact S1.below (S1.alloc (S1.drewN hT2 _) _) hb) | (with_reducible exact S1.but (S1.drewN (S1.alloc hT2 _) _) hB1 (by omega)) | (with_reducible exact S1.below (S1.drewN (S1.alloc hT2 _) _) hb) | (with_reducible exact S1.but (S1.new' _ _ _ _ _ World.size_alloc.symm) hB1 (by omega)) | (with_reducible exact S1.below (S1.new' _ _ _ _ _ World.size_alloc.symm) hb) | (with_reducible exact S1.but (S1.alloc (S1.new' _ _ _ _ _ World.size_alloc.symm) _) hB1 (by omega)) | (with_reducible exact S1.below (S1.alloc (S1.new' _ _ _ _ _ World.size_alloc.symm) _) hb) | (with_reducible exact S1.but (S1.drewN (S1.new' _ _ _ _ _ World.size_alloc.symm) _) hB1 (by omega)) | (with_reducible exact S1.below (S1.drewN (S1.new' _ _ _ _ _ World.size_alloc.symm) _) hb) | (with_reducible exact S1.but (S1.alloc (S1.alloc (S1.new' _ _ _ _ _ World.size_alloc.symm) _) _) hB1 (by omega)) | (with_reducible exact S1.below (S1.alloc (S1.alloc (S1.new' _ _ _ _ _ World.size_alloc.symm) _) _) hb) | (with_reducible exact S1.but (S1.drew (S1.new' _ _ _ _ _ World.size_alloc.symm)) hB1 (by omega)) | (with_reducible exact S1.below (S1.drew (S1.new' _ _ _ _ _ World.size_alloc.symm)) hb) | (with_reducible exact S1.but (S1.alloc (S1.drewN (S1.new' _ _ _ _ _ World.size_alloc.symm) _) _) hB1 (by omega)) | (with_reducible exact S1.below (S1.alloc (S1.drewN (S1.new' _ _ _ _ _ World.size_alloc.symm) _) _) hb) | (with_reducible exact S1.but (S1.drewN (S1.alloc (S1.new' _ _ _ _ _ World.size_alloc.symm) _) _) hB1 (by omega)) | (with_reducible exact S1.below (S1.drewN (S1.alloc (S1.new' _ _ _ _ _ World.size_alloc.symm) _) _) hb))))))
  all_goals
    go_ret
    exact ⟨_, rfl, (by repeat (first | (with_reducible assumption) | (with_reducible refine Src.drewN ?_ _) | (with_reducible refine Src.drew ?_) | (with_reducible refine Src.alloc ?_ _) | (with_reducible refine Src.setNew ?_ (by omega) _) | (with_reducible refine Src.below ?_ (by assumption)))), (by repeat (first | (with_reducible exact But.refl _ _) | (with_reducible refine But.drewN ?_ _) | (with_reducible refine But.drew ?_) | (with_reducible refine But.alloc ?_ _) | (with_reducible refine But.setNew ?_ (by first | omega | (simp; done) | (simp; omega)) _) | (with_reducible refine But.trans ?_ (by assumption)) | (with_reducible refine But.trans ?_ (But.of_below (by assumption)))))⟩
end Go.Proofs.YtlijleemogpifaaDoor.C
