/- Blocks of two integers in memory: what stays behind calls, new blocks and stores. -/
import Derived.Test.YtlijleemogpifaaDoorU
namespace Go.Proofs.YtlijleemogpifaaDoor.C
open Go.RowKit Go.Proofs.YtlijleemogpifaaDoor.K

/-- a block of two integers -/
def Two (w : World) (g : Nat) (a b : Int) : Prop := g < w.heap.size ∧ w.cell? ⟨g, 0, none⟩ = some (.int .i64 a) ∧ w.cell? ⟨g, 1, none⟩ = some (.int .i64 b) ∧ w.frozen? ⟨g, 0, none⟩ = false ∧ w.frozen? ⟨g, 1, none⟩ = false
theorem Two.below {w w' : World} {g : Nat} {a b : Int} (h : Two w g a b) {B : Nat} (k : Below B w w') (hB : g < B) : Two w' g a b := by
  obtain ⟨h0, h1, h2, h3, h4⟩ := h
  have hs := k.size
  refine ⟨by omega, ?_, ?_, ?_, ?_⟩
  · rw [k.cell (p := ⟨g, 0, none⟩) hB, h1]
  · rw [k.cell (p := ⟨g, 1, none⟩) hB, h2]
  · rw [k.frozen (p := ⟨g, 0, none⟩) hB, h3]
  · rw [k.frozen (p := ⟨g, 1, none⟩) hB, h4]
theorem Two.mk0 (w : World) (a b : Int) (t : TypeId) : Two (w.alloc (.cells #[.int .i64 a, .int .i64 b] t)) w.heap.size a b := by
  unfold Two; refine ⟨by simp, by simp [World.cell?_alloc_new], by simp [World.cell?_alloc_new], by simp, by simp⟩
theorem Two.alloc {w : World} {g : Nat} {a b : Int} (h : Two w g a b) (o : Obj) : Two (w.alloc o) g a b :=
  h.below (B := w.heap.size) ((Below.refl _ _).alloc (Nat.le_refl _) _) h.1
theorem Two.drew {w : World} {g : Nat} {a b : Int} (h : Two w g a b) : Two w.drew g a b := h.below (B := w.heap.size) ((Below.refl _ _).drew) h.1
theorem Two.set {w : World} {g k o : Nat} {v : Value} {a b : Int} (h : Two w g a b) (hk : k ≠ g) : Two (w.setCell ⟨k, o, none⟩ v) g a b := by
  obtain ⟨h0, h1, h2, h3, h4⟩ := h
  refine ⟨by simpa using h0, ?_, ?_, by simpa using h3, by simpa using h4⟩
  · rw [World.cell?_setCell_far _ _ _ _ hk, h1]
  · rw [World.cell?_setCell_far _ _ _ _ hk, h2]

/-- two blocks of two integers, as a region's loads read them -/
abbrev S2 (g k : Nat) (a b c d : Int) (w : World) : Prop := g < w.heap.size ∧ w.cell? ⟨g, 0, none⟩ = some (.int .i64 a) ∧ w.cell? ⟨g, 1, none⟩ = some (.int .i64 b) ∧ k < w.heap.size ∧ w.cell? ⟨k, 0, none⟩ = some (.int .i64 c) ∧ w.cell? ⟨k, 1, none⟩ = some (.int .i64 d)
theorem S2.below {g k : Nat} {a b c d : Int} {w w' : World} (l : Below w.heap.size w w') (h : S2 g k a b c d w) : S2 g k a b c d w' := by
  obtain ⟨h0, h1, h2, h3, h4, h5⟩ := h
  have hs := l.size
  refine ⟨by omega, ?_, ?_, by omega, ?_, ?_⟩
  · rw [l.cell (p := ⟨g, 0, none⟩) h0, h1]
  · rw [l.cell (p := ⟨g, 1, none⟩) h0, h2]
  · rw [l.cell (p := ⟨k, 0, none⟩) h3, h4]
  · rw [l.cell (p := ⟨k, 1, none⟩) h3, h5]
theorem S2.alloc {g k : Nat} {a b c d : Int} {w : World} (h : S2 g k a b c d w) (o : Obj) : S2 g k a b c d (w.alloc o) := h.below ((Below.refl _ _).alloc (Nat.le_refl _) _)
theorem S2.drew {g k : Nat} {a b c d : Int} {w : World} (h : S2 g k a b c d w) : S2 g k a b c d w.drew := h.below ((Below.refl _ _).drew)
theorem S2.set {g k x o : Nat} {v : Value} {a b c d : Int} {w : World} (h : S2 g k a b c d w) (hg : x ≠ g) (hk : x ≠ k) : S2 g k a b c d (w.setCell ⟨x, o, none⟩ v) := by
  obtain ⟨h0, h1, h2, h3, h4, h5⟩ := h
  refine ⟨by simpa using h0, ?_, ?_, by simpa using h3, ?_, ?_⟩
  · rw [World.cell?_setCell_far _ _ _ _ hg, h1]
  · rw [World.cell?_setCell_far _ _ _ _ hg, h2]
  · rw [World.cell?_setCell_far _ _ _ _ hk, h4]
  · rw [World.cell?_setCell_far _ _ _ _ hk, h5]

theorem S2.re {g k : Nat} {a b c d : Int} {w : World} {X Y : Obj} (h : S2 g k a b c d (w.alloc X)) (hg : g < w.heap.size) (hk : k < w.heap.size) : S2 g k a b c d (w.alloc Y) := by
  have l : Below w.heap.size w (w.alloc X) := (Below.refl _ _).alloc (Nat.le_refl _) _
  obtain ⟨_, h1, h2, _, h4, h5⟩ := h
  rw [l.cell (p := ⟨g, 0, none⟩) hg] at h1
  rw [l.cell (p := ⟨g, 1, none⟩) hg] at h2
  rw [l.cell (p := ⟨k, 0, none⟩) hk] at h4
  rw [l.cell (p := ⟨k, 1, none⟩) hk] at h5
  exact S2.alloc ⟨hg, h1, h2, hk, h4, h5⟩ Y
abbrev S1 (g : Nat) (a b : Int) (w : World) : Prop := g < w.heap.size ∧ w.cell? ⟨g, 0, none⟩ = some (.int .i64 a) ∧ w.cell? ⟨g, 1, none⟩ = some (.int .i64 b)
theorem S1.below {g : Nat} {a b : Int} {w w' : World} (h : S1 g a b w) (l : Below w.heap.size w w') : S1 g a b w' := by
  obtain ⟨h0, h1, h2⟩ := h
  have hs := l.size
  refine ⟨by omega, ?_, ?_⟩
  · rw [l.cell (p := ⟨g, 0, none⟩) h0, h1]
  · rw [l.cell (p := ⟨g, 1, none⟩) h0, h2]
theorem S1.alloc {g : Nat} {a b : Int} {w : World} (h : S1 g a b w) (o : Obj) : S1 g a b (w.alloc o) := h.below ((Below.refl _ _).alloc (Nat.le_refl _) _)
theorem S1.drew {g : Nat} {a b : Int} {w : World} (h : S1 g a b w) : S1 g a b w.drew := h.below ((Below.refl _ _).drew)
theorem S1.set {g x o : Nat} {v : Value} {a b : Int} {w : World} (h : S1 g a b w) (hg : x ≠ g) : S1 g a b (w.setCell ⟨x, o, none⟩ v) := by
  obtain ⟨h0, h1, h2⟩ := h
  refine ⟨by simpa using h0, ?_, ?_⟩
  · rw [World.cell?_setCell_far _ _ _ _ hg, h1]
  · rw [World.cell?_setCell_far _ _ _ _ hg, h2]
theorem S1.re {g : Nat} {a b : Int} {w : World} {X Y : Obj} (h : S1 g a b (w.alloc X)) (hg : g < w.heap.size) : S1 g a b (w.alloc Y) := by
  have l : Below w.heap.size w (w.alloc X) := (Below.refl _ _).alloc (Nat.le_refl _) _
  obtain ⟨_, h1, h2⟩ := h
  rw [l.cell (p := ⟨g, 0, none⟩) hg] at h1
  rw [l.cell (p := ⟨g, 1, none⟩) hg] at h2
  exact S1.alloc ⟨hg, h1, h2⟩ Y
theorem S1.new (w : World) (a b : Int) (t : TypeId) : S1 w.heap.size a b (w.alloc (.cells #[.int .i64 a, .int .i64 b] t)) := ⟨by simp, by simp [World.cell?_alloc_new], by simp [World.cell?_alloc_new]⟩
theorem S1.set2 {g : Nat} {a b : Int} {w : World} (hx' : (w.cell? ⟨g, 0, none⟩).isSome = true) (hy' : (w.cell? ⟨g, 1, none⟩).isSome = true) : S1 g a b ((w.setCell ⟨g, 0, none⟩ (.int .i64 a)).setCell ⟨g, 1, none⟩ (.int .i64 b)) := by
  obtain ⟨x, hx⟩ := Option.isSome_iff_exists.1 hx'
  obtain ⟨y, hy⟩ := Option.isSome_iff_exists.1 hy'
  have hl := World.block_lt_of_cell? w _ hx
  refine ⟨by simpa using hl, ?_, ?_⟩
  · have h : (⟨g, 1, none⟩ : Addr) ≠ ⟨g, 0, none⟩ := by simp
    rw [World.cell?_setCell_other _ _ _ _ h]
    exact World.cell?_setCell_same _ _ _ hx
  · have h : (⟨g, 0, none⟩ : Addr) ≠ ⟨g, 1, none⟩ := by simp
    refine World.cell?_setCell_same _ _ _ (u := y) ?_
    rw [World.cell?_setCell_other _ _ _ _ h]
    exact hy
theorem S1.new' (w : World) (a b : Int) (t : TypeId) (g : Nat) (h : g = w.heap.size) : S1 g a b (w.alloc (.cells #[.int .i64 a, .int .i64 b] t)) := by subst h; exact S1.new w a b t
theorem S1.set3 {g : Nat} {a b x y : Int} {w : World} (h : S1 g x y w) : S1 g a b ((w.setCell ⟨g, 0, none⟩ (.int .i64 a)).setCell ⟨g, 1, none⟩ (.int .i64 b)) :=
  S1.set2 (by rw [h.2.1]; rfl) (by rw [h.2.2]; rfl)
theorem S2.init (w : World) (a b c d : Int) (t u : TypeId) : S2 w.heap.size (w.heap.size + 1) a b c d ((w.alloc (.cells #[.int .i64 a, .int .i64 b] t)).alloc (.cells #[.int .i64 c, .int .i64 d] u)) := by
  have h := (Two.mk0 w a b t).alloc (.cells #[.int .i64 c, .int .i64 d] u)
  have k := Two.mk0 (w.alloc (.cells #[.int .i64 a, .int .i64 b] t)) c d u
  rw [show (w.alloc (.cells #[.int .i64 a, .int .i64 b] t)).heap.size = w.heap.size + 1 by simp] at k
  exact ⟨h.1, h.2.1, h.2.2.1, k.1, k.2.1, k.2.2.1⟩

end Go.Proofs.YtlijleemogpifaaDoor.C
