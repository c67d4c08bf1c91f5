/- The text of a figure, read: plain. -/
import Derived.Test.YtlijleemogpifaaDoorS11
import Derived.Test.YtlijleemogpifaaDoorS3
import Derived.Lib.ReplaceLaws
namespace Go.Proofs.YtlijleemogpifaaDoor.C
open Go.RowKit Go.Proofs.YtlijleemogpifaaDoor.K
set_option linter.unusedVariables false
set_option linter.unusedSimpArgs false

/-- the four digits of a figure's text, and what stands behind the e -/
def hdB (s : ByteArray) : ByteArray := s.extract 0 1 ++ s.extract 2 5
def tlB (s : ByteArray) : ByteArray := s.extract 6 s.size
/-- the form of a figure's text -/
def fgG (s : ByteArray) : Bool := decide (7 ≤ s.size) && (decide (byt s 1 = 46) && decide (byt s 5 = 101))
/-- whether a text is a figure's; the figure -/
def fgK (s : ByteArray) : Bool := fgG s && (vlK (hdB s) && (sgK (tlB s) && figV (vlV (hdB s)) (sgV (tlB s))))
def fgD (s : ByteArray) : Int := if fgK s then vlV (hdB s) else 0
def fgT (s : ByteArray) : Int := if fgK s then sgV (tlB s) else 0
theorem data_append (a b : ByteArray) : (a ++ b).data.toList = a.data.toList ++ b.data.toList := by
  rw [ByteArray.data_append, Array.toList_append]
theorem byt_list {s : ByteArray} {j : Nat} {c : UInt8} (h : s.data.toList[j]? = some c) : byt s j = c.toNat := by
  have hl : s.data.toList.length = s.size := Array.length_toList
  obtain ⟨hj, e⟩ := List.getElem?_eq_some_iff.1 h
  unfold byt
  rw [dif_pos (by omega), ← e]
  rfl
theorem eq_of_list {s t : ByteArray} (h : s.data.toList = t.data.toList) : s = t := ByteArray.ext (Array.toList_inj.1 h)
/-- seven bytes and more, spelt out -/
theorem seven {s : ByteArray} (h : 7 ≤ s.size) : ∃ a b c d e f g r, s.data.toList = a :: b :: c :: d :: e :: f :: g :: r := by
  have hl : s.data.toList.length = s.size := Array.length_toList
  revert hl
  generalize s.data.toList = l
  intro hl
  match l, hl with
  | a :: b :: c :: d :: e :: f :: g :: r, _ => exact ⟨a, b, c, d, e, f, g, r, rfl⟩
  | [], hl => simp at hl; omega
  | [_], hl => simp at hl; omega
  | [_, _], hl => simp at hl; omega
  | [_, _, _], hl => simp at hl; omega
  | [_, _, _, _], hl => simp at hl; omega
  | [_, _, _, _, _], hl => simp at hl; omega
  | [_, _, _, _, _, _], hl => simp at hl; omega
theorem size_list {s : ByteArray} {l : List UInt8} (h : s.data.toList = l) : s.size = l.length := by rw [← h]; exact Array.length_toList.symm
theorem hd_list {s : ByteArray} {a b c d e f : UInt8} {r : List UInt8} (h : s.data.toList = a :: b :: c :: d :: e :: f :: r) : (hdB s).data.toList = [a, c, d, e] := by
  unfold hdB
  rw [data_append, Lib.extract_data, Lib.extract_data, h]
  rfl
theorem tl_list {s : ByteArray} {a b c d e f : UInt8} {r : List UInt8} (h : s.data.toList = a :: b :: c :: d :: e :: f :: r) : (tlB s).data.toList = r := by
  unfold tlB
  rw [Lib.extract_to_end, h]
  rfl
/-- the text of a figure, spelt out -/
theorem ft_list {d t : Int} {a b c e : UInt8} (h : Lib.decDigits d.toNat = [a, b, c, e]) : (ftB d t).data.toList = a :: 46 :: b :: c :: e :: 101 :: Lib.itoa t := by
  have hd : (decB d.toNat).data.toList = [a, b, c, e] := h
  unfold ftB
  rw [data_append, data_append, data_append, data_append, Lib.extract_data, Lib.extract_data, hd]
  rfl
theorem dec_four {d : Int} (d0 : 1000 ≤ d) (d1 : d ≤ 9999) : ∃ a b c e, Lib.decDigits d.toNat = [a, b, c, e] ∧ (48 ≤ a.toNat ∧ a.toNat ≤ 57) ∧ (48 ≤ b.toNat ∧ b.toNat ≤ 57) ∧ (48 ≤ c.toNat ∧ c.toNat ≤ 57) ∧ (48 ≤ e.toNat ∧ e.toNat ≤ 57) := by
  have h4 := dec4 d0 d1
  have hl : (Lib.decDigits d.toNat).length = 4 := by rw [← h4]; exact (size_list (s := decB d.toNat) rfl).symm
  have hr := (dec_read d.toNat).1
  rw [h4] at hr
  have hb : ∀ j, j < 4 → 48 ≤ byt (decB d.toNat) j ∧ byt (decB d.toNat) j ≤ 57 := fun j hj => dgK_lt hr hj
  have hd : (decB d.toNat).data.toList = Lib.decDigits d.toNat := rfl
  revert hl hd
  generalize Lib.decDigits d.toNat = l
  intro hl hd
  match l, hl with
  | [a, b, c, e], _ =>
    have ea := byt_list (s := decB d.toNat) (j := 0) (c := a) (by rw [hd]; rfl)
    have eb := byt_list (s := decB d.toNat) (j := 1) (c := b) (by rw [hd]; rfl)
    have ec := byt_list (s := decB d.toNat) (j := 2) (c := c) (by rw [hd]; rfl)
    have ee := byt_list (s := decB d.toNat) (j := 3) (c := e) (by rw [hd]; rfl)
    have h0 := hb 0 (by omega)
    have h1 := hb 1 (by omega)
    have h2 := hb 2 (by omega)
    have h3 := hb 3 (by omega)
    exact ⟨a, b, c, e, rfl, by omega, by omega, by omega, by omega⟩
/-- a text that is a figure's is the text of that figure -/
theorem fg_back {s : ByteArray} (h : fgK s = true) : s = ftB (fgD s) (fgT s) ∧ figV (fgD s) (fgT s) = true := by
  have hD : fgD s = vlV (hdB s) := by unfold fgD; rw [if_pos h]
  have hT : fgT s = sgV (tlB s) := by unfold fgT; rw [if_pos h]
  rw [hD, hT]
  unfold fgK fgG at h
  simp only [Bool.and_eq_true, decide_eq_true_eq] at h
  obtain ⟨⟨h7, hb1, hb5⟩, hk, hs, hf⟩ := h
  refine ⟨?_, hf⟩
  obtain ⟨n, hn, hdec, hv⟩ := vl_back hk
  obtain ⟨m, m0, m1, htl, hm⟩ := sg_back hs
  obtain ⟨a, b, c, d, e, f, g, r, hl⟩ := seven h7
  have eb := byt_list (s := s) (j := 1) (c := b) (by rw [hl]; rfl)
  have ef := byt_list (s := s) (j := 5) (c := f) (by rw [hl]; rfl)
  have eb' : b = 46 := UInt8.toNat_inj.1 (by rw [← eb, hb1]; rfl)
  have ef' : f = 101 := UInt8.toNat_inj.1 (by rw [← ef, hb5]; rfl)
  have h1 := hd_list hl
  have h2 := tl_list hl
  rw [hdec] at h1
  rw [htl] at h2
  rw [hv, hm]
  apply eq_of_list
  rw [ft_list (d := (n : Int)) (t := m) (a := a) (b := c) (c := d) (e := e) (by rw [Int.toNat_natCast]; exact h1), hl, eb', ef']
  rw [show Lib.itoa m = g :: r from h2]
/-- the text of a figure is read as it -/
theorem fg_text {d t : Int} (h : figV d t = true) : fgK (ftB d t) = true ∧ fgD (ftB d t) = d ∧ fgT (ftB d t) = t := by
  obtain ⟨d0, d1, t0, t1⟩ := figV_true.1 h
  obtain ⟨a, b, c, e, hd, _⟩ := dec_four d0 d1
  have hl := ft_list (t := t) hd
  have hi := itoB_size (n := t) (by omega) (by omega)
  have hz := size_list hl
  have hii : (Lib.itoa t).length = (itoB t).size := (size_list (s := itoB t) rfl).symm
  have e1 : hdB (ftB d t) = decB d.toNat := eq_of_list ((hd_list hl).trans hd.symm)
  have e2 : tlB (ftB d t) = itoB t := eq_of_list (tl_list hl)
  have b1 := byt_list (s := ftB d t) (j := 1) (c := 46) (by rw [hl]; rfl)
  have b5 := byt_list (s := ftB d t) (j := 5) (c := 101) (by rw [hl]; rfl)
  obtain ⟨v1, v2⟩ := vl_dec (n := d.toNat) (by omega)
  obtain ⟨s1, s2⟩ := sg_dec (n := t) (by omega) (by omega)
  have e3 : vlV (hdB (ftB d t)) = d := by rw [e1, v2]; omega
  have e4 : sgV (tlB (ftB d t)) = t := by rw [e2, s2]
  have hK : fgK (ftB d t) = true := by
    unfold fgK fgG
    rw [e3, e4, e1, e2, v1, s1, h, b1, b5, decide_eq_true (by simp only [List.length_cons] at hz; omega)]
    rfl
  refine ⟨hK, ?_, ?_⟩
  · unfold fgD; rw [if_pos hK, e3]
  · unfold fgT; rw [if_pos hK, e4]
/-- the program's way: cut at the first e, the first point struck -/
def ctH (s : ByteArray) : ByteArray := ⟨(Lib.cut s.data.toList [101]).1.toArray⟩
def ctT (s : ByteArray) : ByteArray := ⟨(Lib.cut s.data.toList [101]).2.1.toArray⟩
def ctO (s : ByteArray) : Bool := (Lib.cut s.data.toList [101]).2.2
def rpB (s : ByteArray) : ByteArray := ⟨(Lib.replace s.data.toList [46] [] 1).toArray⟩
theorem ct_size (s : ByteArray) : (ctH s).size ≤ s.size ∧ (ctT s).size ≤ s.size := by
  have hl : s.data.toList.length = s.size := Array.length_toList
  unfold ctH ctT Lib.cut
  split
  · constructor
    · show (List.take _ _).toArray.size ≤ _
      rw [List.size_toArray, List.length_take]; omega
    · show (List.drop _ _).toArray.size ≤ _
      rw [List.size_toArray, List.length_drop]; omega
  · constructor
    · show s.data.toList.toArray.size ≤ _
      rw [List.size_toArray]; omega
    · exact Nat.zero_le _
theorem replaceK_le (old : List UInt8) : ∀ (k : Nat) (s : List UInt8), (Lib.replaceK old [] k s).length ≤ s.length
  | 0, s => Nat.le_refl _
  | k + 1, s => by
    rw [Lib.replaceK]
    split
    · exact Nat.le_refl _
    · rename_i h
      have ih := replaceK_le old k (s.drop ((Lib.index s old).toNat + old.length))
      rw [List.length_append, List.length_append, List.length_take, List.length_nil]
      rw [List.length_drop] at ih
      omega
theorem rp_size (s : ByteArray) : (rpB s).size ≤ s.size := by
  have hl : s.data.toList.length = s.size := Array.length_toList
  unfold rpB Lib.replace
  show (List.toArray _).size ≤ _
  rw [List.size_toArray]
  split
  · omega
  · have := replaceK_le [46] (Lib.replaceNum s.data.toList [46] 1) s.data.toList
    omega
theorem index_cons_ne {b c : UInt8} {l : List UInt8} {j : Nat} (h : b ≠ c) (hj : Lib.index l [c] = j) : Lib.index (b :: l) [c] = ((j + 1 : Nat) : Int) := by
  have hp : ([c] : List UInt8).isPrefixOf (b :: l) = false := by simp [List.isPrefixOf, Ne.symm h]
  rw [Lib.index, hp]
  simp only [Bool.false_eq_true, if_false]
  rw [hj, if_neg (by rw [beq_iff_eq]; omega)]
  omega
theorem index_cons_eq {c : UInt8} {l : List UInt8} : Lib.index (c :: l) [c] = ((0 : Nat) : Int) := by rw [Lib.index]; simp [List.isPrefixOf]
/-- at the text of a figure the program's way gives its parts -/
theorem ct_text {d t : Int} (h : figV d t = true) : rpB (ctH (ftB d t)) = itoB d ∧ ctT (ftB d t) = itoB t ∧ ctO (ftB d t) = true := by
  obtain ⟨d0, d1, t0, t1⟩ := figV_true.1 h
  obtain ⟨a, b, c, e, hd, ha, hb, hc, he⟩ := dec_four d0 d1
  have hl := ft_list (t := t) hd
  have n46 : ∀ x : UInt8, x.toNat ≠ 46 → x ≠ 46 := fun x hx e => hx (by rw [e]; rfl)
  have n101 : ∀ x : UInt8, x.toNat ≠ 101 → x ≠ 101 := fun x hx e => hx (by rw [e]; rfl)
  have i5 : Lib.index (101 :: Lib.itoa t) [101] = ((0 : Nat) : Int) := index_cons_eq
  have i4 := index_cons_ne (n101 e (by omega)) i5
  have i3 := index_cons_ne (n101 c (by omega)) i4
  have i2 := index_cons_ne (n101 b (by omega)) i3
  have i1 := index_cons_ne (b := 46) (c := 101) (by decide) i2
  have i0 := index_cons_ne (n101 a (by omega)) i1
  have hcut : Lib.cut (ftB d t).data.toList [101] = ([a, 46, b, c, e], Lib.itoa t, true) := by
    rw [hl]
    unfold Lib.cut
    rw [show Lib.index (a :: 46 :: b :: c :: e :: 101 :: Lib.itoa t) [101] = ((5 : Nat) : Int) from i0, if_pos (by omega)]
    rfl
  have r1 : Lib.index [a, 46, b, c, e] [46] = ((1 : Nat) : Int) := index_cons_ne (n46 a (by omega)) index_cons_eq
  have r2 : Lib.count [b, c, e] [46] = 0 := by
    rw [Lib.count_cons_ne _ _ _ (n46 b (by omega)), Lib.count_cons_ne _ _ _ (n46 c (by omega)), Lib.count_cons_ne _ _ _ (n46 e (by omega)), Lib.count_miss (by simp [Lib.index])]
  have r3 : Lib.count [a, 46, b, c, e] [46] = 1 := by
    rw [Lib.count_cons_ne _ _ _ (n46 a (by omega)), Lib.count_cons_eq, r2]
  have hrep : Lib.replace [a, 46, b, c, e] [46] [] 1 = [a, b, c, e] := by
    have hn : Lib.replaceNum [a, 46, b, c, e] [46] 1 = 1 := by
      unfold Lib.replaceNum
      rw [r3, if_neg (by omega)]
      rfl
    unfold Lib.replace
    rw [if_neg (by decide), hn, Lib.replaceK_hit _ _ 0 _ 1 r1]
    rfl
  refine ⟨?_, ?_, ?_⟩
  · apply eq_of_list
    unfold rpB ctH
    rw [hcut]
    show Lib.replace [a, 46, b, c, e] [46] [] 1 = _
    rw [hrep, itoB_pos (by omega)]
    exact hd.symm
  · apply eq_of_list
    unfold ctT
    rw [hcut]
    rfl
  · unfold ctO
    rw [hcut]
end Go.Proofs.YtlijleemogpifaaDoor.C
