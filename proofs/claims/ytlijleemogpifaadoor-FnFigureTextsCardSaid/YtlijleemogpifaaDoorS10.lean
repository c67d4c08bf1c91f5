/- Numbers in decimal read by the library's ParseInt, and texts cut at commas: plain. -/
import Derived.Test.YtlijleemogpifaaDoorS9
import Derived.Lib.ParseIntBTie
import Derived.Lib.SplitLaws
namespace Go.Proofs.YtlijleemogpifaaDoor.C
open Go.RowKit Go.Proofs.YtlijleemogpifaaDoor.K
set_option linter.unusedVariables false
set_option linter.unusedSimpArgs false

theorem parseM_snoc (M : Nat) (c : UInt8) : ∀ (l : List UInt8) (acc : Nat), Lib.parseUintM M acc (l ++ [c]) = (match Lib.parseUintM M acc l with | .ok u => Lib.parseUintM M u [c] | e => e)
  | [], acc => rfl
  | d :: r, acc => by
    have ih := parseM_snoc M c r
    rw [List.cons_append, Lib.parseUintM, Lib.parseUintM]
    split
    · split
      · rfl
      · split
        · rfl
        · exact ih _
    · rfl
theorem parseM_digit (M acc k : Nat) (hk : k < 10) (ha : acc < 1844674407370955162) (hM : acc * 10 + k ≤ M) : Lib.parseUintM M acc [UInt8.ofNat (48 + k)] = .ok (acc * 10 + k) := by
  have hc : (UInt8.ofNat (48 + k)).toNat = 48 + k := by rw [UInt8.toNat_ofNat']; omega
  rw [Lib.parseUintM, hc, if_pos (by omega), if_neg (by omega), if_neg (by omega), Lib.parseUintM]
  exact congrArg _ (by omega)
theorem parseM_dec (M n : Nat) (h : n ≤ M) (hn : n ≤ 9223372036854775808) : Lib.parseUintM M 0 (Lib.decDigits n) = .ok n := by
  induction n using Nat.strongRecOn with
  | _ n ih =>
    by_cases h10 : n < 10
    · rw [Lib.decDigits_one h10]
      have := parseM_digit M 0 n h10 (by omega) (by omega)
      rw [this]; exact congrArg _ (by omega)
    · rw [Lib.decDigits, dif_neg h10, parseM_snoc, ih (n / 10) (by omega) (by omega) (by omega)]
      show Lib.parseUintM M (n / 10) [UInt8.ofNat (48 + n % 10)] = _
      rw [parseM_digit M (n / 10) (n % 10) (by omega) (by omega) (by omega)]
      exact congrArg _ (by omega)
theorem dec_head (n : Nat) : ∃ c r, Lib.decDigits n = c :: r ∧ 48 ≤ c.toNat ∧ c.toNat ≤ 57 := by
  induction n using Nat.strongRecOn with
  | _ n ih =>
    by_cases h10 : n < 10
    · rw [Lib.decDigits_one h10]
      have hc : (UInt8.ofNat (48 + n)).toNat = 48 + n := by rw [UInt8.toNat_ofNat']; omega
      exact ⟨_, _, rfl, by omega, by omega⟩
    · obtain ⟨c, r, e, a, b⟩ := ih (n / 10) (by omega)
      rw [Lib.decDigits, dif_neg h10, e]
      exact ⟨c, r ++ _, rfl, a, b⟩
theorem parseB_dec (n : Nat) (hn : n ≤ 9223372036854775808) : Lib.parseUintB 64 (Lib.decDigits n) = .ok n := by
  obtain ⟨c, r, e, _⟩ := dec_head n
  unfold Lib.parseUintB
  rw [if_neg (by rw [e]; exact List.cons_ne_nil _ _)]
  exact parseM_dec _ n (by have : (2 : Nat) ^ 64 - 1 = 18446744073709551615 := by decide
                           omega) hn
theorem parseI_itoa (n : Int) (h0 : -9223372036854775808 ≤ n) (h1 : n ≤ 9223372036854775807) : Lib.parseIntB 64 (Lib.itoa n) = .ok n := by
  have e63 : (2 : Nat) ^ (64 - 1) = 9223372036854775808 := by decide
  unfold Lib.itoa
  by_cases h : n < 0
  · rw [if_pos h, Lib.parseIntB_minus, parseB_dec _ (by omega), e63]
    show (if 9223372036854775808 < n.natAbs then Lib.NumEnd.range else .ok (-(n.natAbs : Int))) = _
    rw [if_neg (by omega)]
    exact congrArg _ (by omega)
  · rw [if_neg h]
    obtain ⟨c, r, e, a, b⟩ := dec_head n.toNat
    have hp := parseB_dec n.toNat (by omega)
    rw [e] at hp ⊢
    rw [Lib.parseIntB_plain _ _ _ (by omega) (by omega), hp, e63]
    show (if 9223372036854775808 ≤ n.toNat then Lib.NumEnd.range else .ok (n.toNat : Int)) = _
    rw [if_neg (by omega)]
    exact congrArg _ (by omega)
/-- a number as the program reads it -/
def nmO (s : ByteArray) : Option Int := match Lib.parseIntB 64 s.data.toList with
  | .ok v => if (itoB v).toList == s.toList then some v else none
  | _ => none
def nmK (s : ByteArray) : Bool := (nmO s).isSome
def nmV (s : ByteArray) : Int := (nmO s).getD 0
theorem bytes_eq {s t : ByteArray} (h : (s.toList == t.toList) = true) : s = t := by
  have e := eq_of_beq h
  apply ByteArray.ext
  apply Array.toList_inj.1
  rw [ByteArray.toList_eq, ByteArray.toList_eq] at e
  exact e
theorem nm_itoB {n : Int} (h0 : -9223372036854775808 ≤ n) (h1 : n ≤ 9223372036854775807) : nmK (itoB n) = true ∧ nmV (itoB n) = n := by
  have e : nmO (itoB n) = some n := by
    unfold nmO
    have hp := parseI_itoa n h0 h1
    have e2 : (itoB n).data.toList = Lib.itoa n := rfl
    rw [e2, hp]
    show (if _ then _ else _) = _
    rw [if_pos (by simp)]
  unfold nmK nmV
  rw [e]
  exact ⟨rfl, rfl⟩
theorem nm_back {s : ByteArray} (h : nmK s = true) : s = itoB (nmV s) ∧ -9223372036854775808 ≤ nmV s ∧ nmV s ≤ 9223372036854775807 := by
  unfold nmK at h
  unfold nmV
  obtain ⟨v, hv⟩ := Option.isSome_iff_exists.1 h
  rw [hv]
  unfold nmO at hv
  split at hv
  · rename_i v' hp
    have hb := Lib.parseIntB_bounds hp
    have e63 : (2 : Nat) ^ (64 - 1) = 9223372036854775808 := by decide
    rw [e63] at hb
    split at hv
    · rename_i he
      have : v' = v := Option.some.inj hv
      subst this
      exact ⟨(bytes_eq he).symm, by show _ ≤ v'; omega, by show v' ≤ _; omega⟩
    · cases hv
  · cases hv
/-- the two readers agree where values are read -/
theorem nm_sg {s : ByteArray} : (sgK s && isV (sgV s)) = (nmK s && isV (nmV s)) ∧ ((sgK s && isV (sgV s)) = true → sgV s = nmV s) := by
  have hA : (sgK s && isV (sgV s)) = true → nmK s = true ∧ nmV s = sgV s := fun h => by
    rw [Bool.and_eq_true] at h
    obtain ⟨n, n0, n1, hs, hv⟩ := sg_back h.1
    have := nm_itoB (n := n) (by omega) (by omega)
    rw [← hs] at this
    exact ⟨this.1, by rw [this.2, hv]⟩
  have hB : (nmK s && isV (nmV s)) = true → sgK s = true ∧ sgV s = nmV s := fun h => by
    rw [Bool.and_eq_true] at h
    obtain ⟨hs, n0, n1⟩ := nm_back h.1
    have hv := isV_bounds h.2
    have := sg_dec (n := nmV s) (by omega) (by omega)
    rw [← hs] at this
    exact this
  refine ⟨?_, fun h => (hA h).2.symm⟩
  cases h1 : (sgK s && isV (sgV s)) <;> cases h2 : (nmK s && isV (nmV s))
  · rfl
  · obtain ⟨a, b⟩ := hB h2
    rw [Bool.and_eq_true] at h2
    rw [a, b, h2.2] at h1
    exact h1.symm
  · obtain ⟨a, b⟩ := hA h1
    rw [Bool.and_eq_true] at h1
    rw [a, b, h1.2] at h2
    exact h2
  · rfl
/-- a list of bytes cut at its commas -/
def cut44 : List UInt8 → List (List UInt8)
  | [] => [[]]
  | c :: r => if c = 44 then [] :: cut44 r else match cut44 r with
    | [] => [[c]]
    | x :: xs => (c :: x) :: xs
theorem cut44_ne : ∀ l, cut44 l ≠ []
  | [], h => by cases h
  | c :: r, h => by
    unfold cut44 at h
    split at h
    · cases h
    · split at h <;> cases h
theorem cut44_comma (r : List UInt8) : cut44 (44 :: r) = [] :: cut44 r := by rw [cut44, if_pos rfl]
theorem cut44_other {c : UInt8} {r x : List UInt8} {xs : List (List UInt8)} (hc : c ≠ 44) (h : cut44 r = x :: xs) : cut44 (c :: r) = (c :: x) :: xs := by rw [cut44, if_neg hc, h]
theorem cut44_snoc (c : UInt8) : ∀ (l : List UInt8) (xs : List (List UInt8)) (y : List UInt8), cut44 l = xs ++ [y] → cut44 (l ++ [c]) = if c = 44 then xs ++ [y] ++ [[]] else xs ++ [y ++ [c]]
  | [], xs, y, h => by
    have hx : xs = [] := by
      cases xs with
      | nil => rfl
      | cons a t => have := congrArg List.length h; simp [cut44] at this
    subst hx
    have hy : y = [] := by simpa [cut44] using h.symm
    subst hy
    by_cases hc : c = 44
    · subst hc; rfl
    · rw [if_neg hc, List.nil_append, cut44_other (x := []) (xs := []) hc rfl]; rfl
  | d :: r, xs, y, h => by
    by_cases hd : d = 44
    · subst hd
      rw [cut44_comma] at h
      cases xs with
      | nil => exact absurd (List.cons.inj h).2 (cut44_ne r)
      | cons a t =>
        obtain ⟨ha, ht⟩ := List.cons.inj h
        rw [List.cons_append, cut44_comma, cut44_snoc c r t y ht, ← ha]
        split <;> rfl
    · obtain ⟨x, t, hr⟩ : ∃ x t, cut44 r = x :: t := by
        cases hh : cut44 r with
        | nil => exact absurd hh (cut44_ne r)
        | cons x t => exact ⟨x, t, rfl⟩
      rw [cut44_other hd hr] at h
      cases xs with
      | nil =>
        obtain ⟨ha, ht⟩ := List.cons.inj h
        subst ht ha
        have ih := cut44_snoc c r [] x hr
        rw [List.cons_append]
        by_cases hc : c = 44
        · rw [if_pos hc] at ih ⊢
          exact cut44_other hd ih
        · rw [if_neg hc] at ih ⊢
          exact cut44_other hd ih
      | cons a t' =>
        obtain ⟨ha, ht⟩ := List.cons.inj h
        subst ha
        have ih := cut44_snoc c r (x :: t') y (by rw [hr, ht]; rfl)
        rw [List.cons_append]
        by_cases hc : c = 44
        · rw [if_pos hc] at ih ⊢
          exact cut44_other hd ih
        · rw [if_neg hc] at ih ⊢
          exact cut44_other hd ih
theorem cut44_join : ∀ l, Lib.join (cut44 l) [44] = l
  | [] => rfl
  | c :: r => by
    have ih := cut44_join r
    obtain ⟨x, t, hr⟩ : ∃ x t, cut44 r = x :: t := by
      cases hh : cut44 r with
      | nil => exact absurd hh (cut44_ne r)
      | cons x t => exact ⟨x, t, rfl⟩
    rw [hr, Lib.join_cons] at ih
    by_cases hc : c = 44
    · subst hc
      rw [cut44_comma, Lib.join_cons, hr]
      show [] ++ Lib.joinTail [44] (x :: t) = _
      rw [← ih]
      simp [Lib.joinTail]
    · rw [cut44_other hc hr, Lib.join_cons, ← ih]
      rfl
theorem cut44_append (l : List UInt8) (hl : ∀ c ∈ l, c ≠ 44) : ∀ r, cut44 (l ++ 44 :: r) = l :: cut44 r := by
  intro r
  induction l with
  | nil => exact cut44_comma r
  | cons c t ih =>
    rw [List.cons_append, cut44_other (hl c List.mem_cons_self) (ih fun d hd => hl d (List.mem_cons_of_mem _ hd))]
theorem cut44_none (l : List UInt8) (hl : ∀ c ∈ l, c ≠ 44) : cut44 l = [l] := by
  induction l with
  | nil => rfl
  | cons c t ih => rw [cut44_other (hl c List.mem_cons_self) (ih fun d hd => hl d (List.mem_cons_of_mem _ hd))]
theorem cut44_of_join : ∀ (xs : List (List UInt8)), xs ≠ [] → (∀ x ∈ xs, ∀ c ∈ x, c ≠ 44) → cut44 (Lib.join xs [44]) = xs
  | [], h, _ => absurd rfl h
  | [x], _, h => by rw [Lib.join_one, cut44_none x (h x List.mem_cons_self)]
  | x :: y :: t, _, h => by
    have ih := cut44_of_join (y :: t) (List.cons_ne_nil _ _) (fun z hz => h z (List.mem_cons_of_mem _ hz))
    have e : Lib.join (x :: y :: t) [44] = x ++ 44 :: Lib.join (y :: t) [44] := by
      rw [Lib.join_cons, Lib.join_cons]; simp [Lib.joinTail]
    rw [e, cut44_append x (h x List.mem_cons_self), ih]
theorem splitK_cut44 : ∀ l : List UInt8, Lib.splitK [44] 0 (Lib.count l [44]) l = cut44 l
  | [] => rfl
  | c :: r => by
    have ih := splitK_cut44 r
    by_cases hc : c = 44
    · subst hc
      have hix : Lib.index (44 :: r) [44] = ((0 : Nat) : Int) := by rw [Lib.index]; simp [List.isPrefixOf]
      rw [Lib.count_cons_eq, Nat.add_comm 1, cut44_comma, ← ih, Lib.splitK, hix]
      rfl
    · have hp : ([44] : List UInt8).isPrefixOf (c :: r) = false := by simp [List.isPrefixOf, Ne.symm hc]
      have hix : Lib.index (c :: r) [44] = if Lib.index r [44] == -1 then -1 else Lib.index r [44] + 1 := by rw [Lib.index, hp]; simp
      rw [Lib.count_cons_ne _ _ _ hc]
      by_cases hm : Lib.index r [44] = -1
      · rw [Lib.count_miss hm] at ih ⊢
        exact (cut44_other hc (by rw [← ih]; rfl)).symm
      · have hge := Lib.index_ge r [44]
        obtain ⟨j, hj⟩ : ∃ j : Nat, Lib.index r [44] = j := ⟨(Lib.index r [44]).toNat, by omega⟩
        have hix' : Lib.index (c :: r) [44] = ((j + 1 : Nat) : Int) := by rw [hix, if_neg (fun e => hm (beq_iff_eq.1 e)), hj]; omega
        rw [Lib.count_hit (by simp) hj, Nat.add_comm 1] at ih ⊢
        rw [Lib.splitK, hj, if_neg (by rw [beq_iff_eq]; omega)] at ih
        rw [Lib.splitK, hix', if_neg (by rw [beq_iff_eq]; omega)]
        exact (cut44_other hc ih.symm).symm
end Go.Proofs.YtlijleemogpifaaDoor.C
