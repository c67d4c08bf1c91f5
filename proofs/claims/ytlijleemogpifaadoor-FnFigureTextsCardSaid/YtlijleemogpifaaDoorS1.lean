/- Numbers in decimal: the reference. -/
import Derived.Test.YtlijleemogpifaaDoorA1b
import Derived.Test.YtlijleemogpifaaDoorU3
import Derived.Lib.ItoaNum
import Derived.Laws.BytesString
import Derived.Laws.Concat
import Derived.Laws.Strings
import Derived.Laws.Strings2
import Derived.Laws.Strings3
import Derived.Deep.RegionWith
namespace Go.Proofs.YtlijleemogpifaaDoor.C
open Go.RowKit Go.Proofs.YtlijleemogpifaaDoor.K
set_option linter.unusedVariables false
set_option linter.unusedSimpArgs false
attribute [local go_sem ↓] Go.wp_at_zero Go.wp_at_succ

/-- a number in decimal, as bytes -/
def decB (n : Nat) : ByteArray := ⟨(Lib.decDigits n).toArray⟩
theorem decB_small {n : Nat} (h : n < 10) : decB n = ⟨#[UInt8.ofNat (48 + n)]⟩ := by unfold decB; rw [Lib.decDigits_one h]
theorem decB_big {n : Nat} (h : ¬ n < 10) : decB n = decB (n / 10) ++ ⟨#[UInt8.ofNat (48 + n % 10)]⟩ := by
  unfold decB
  rw [Lib.decDigits, dif_neg h]
  apply ByteArray.ext
  simp
theorem decB_size (n : Nat) : (decB n).size = Lib.nDigits n := by
  unfold decB
  show (Lib.decDigits n).toArray.size = _
  rw [List.size_toArray, Lib.decDigits_length]
theorem nDigits_le : ∀ (k n : Nat), n < 10 ^ k → 1 ≤ k → Lib.nDigits n ≤ k
  | 0, n, _, h => by omega
  | k + 1, n, h, _ => by
    by_cases hn : n < 10
    · rw [Lib.nDigits_small hn]; omega
    · rw [Lib.nDigits_big hn]
      have hk : 1 ≤ k := by
        cases k with
        | zero => simp at h; omega
        | succ k => omega
      have := nDigits_le k (n / 10) (by rw [Nat.pow_succ] at h; omega) hk
      omega
def isU8 : Option Value → Bool
  | some (.int .u8 _) => true
  | _ => false
def byteStr : Option Value → ByteArray
  | some (.int _ v) => ⟨#[UInt8.ofNat v.toNat]⟩
  | _ => ⟨#[]⟩
theorem isU8_int (v : Int) : isU8 (some (.int .u8 v)) = true := rfl
theorem byteStr_int (k : IntKind) (v : Int) : byteStr (some (.int k v)) = ⟨#[UInt8.ofNat v.toNat]⟩ := rfl
/-- one byte as a string -/
theorem str_one (g : Nat) (w : World) (hc : isU8 (w.cell? ⟨g, 0, none⟩) = true) :
    (convert 37 9 (.slice (some ⟨g, 0, none⟩) 1 1)).run Tryd.prog w = .ok (.string (byteStr (w.cell? ⟨g, 0, none⟩))) w := by
  obtain ⟨v, hv⟩ : ∃ v, w.cell? ⟨g, 0, none⟩ = some (.int .u8 v) := by
    revert hc
    generalize w.cell? ⟨g, 0, none⟩ = c
    intro hc
    unfold isU8 at hc
    split at hc
    · exact ⟨_, rfl⟩
    · cases hc
  rw [run_convert_bytes_string w _ _ 5 _ _ _ Tryd.underlying37 Tryd.underlying5 Tryd.underlying9]
  rw [run_bytesToString w ⟨g, 0, none⟩ 1 1 [v] (by
    have e : ([v].map (Value.int .u8)).toArray = #[Value.int .u8 v] := rfl
    rw [e]
    simp [loadCells, loadCellsFrom, go_sem, hv])]
  rw [hv]
  rfl
attribute [local go_sem] str_one isU8_int byteStr_int
set_option maxRecDepth 20000 in
set_option maxHeartbeats 3200000 in
theorem dec_s (n : Nat) : ∀ (w : World), n ≤ 1000000000000000 → Calls Tryd.prog 45 #[.int .i64 n] w fun e w' => e = .returned (.string (decB n)) ∧ Below w.heap.size w w' := by
  induction n using Nat.strongRecOn with
  | _ n ih =>
    intro w hn
    by_cases h : n < 10
    · have h1 : (n : Int) < 10 := by omega
      have hw : IntKind.i64.wrap (48 + (n : Int)) = ((48 + n : Nat) : Int) := by rw [IntWalk.i64_in _ (by omega)]; omega
      have hv : IntKind.u8.wrap ((48 + n : Nat) : Int) = ((48 + n : Nat) : Int) := by unfold IntKind.wrap; simp [IntKind.bits, IntKind.signed]; omega
      rw [decB_small h]
      generalize 48 + n = b at *
      go_enter Tryd.func45, Tryd.ntmps45
      go_wp2_with fail
      go_ret
      exact ⟨rfl, (by repeat (first | (with_reducible exact Below.refl _ _) | (with_reducible assumption) | (with_reducible refine below_alloc ?_ _) | (with_reducible refine Below.setCell ?_ (by first | omega | (simp; done) | (simp; omega)) _) | (with_reducible refine below_drewN ?_ _) | (with_reducible refine Below.drew ?_) | (with_reducible refine below_tr ?_ (by assumption))))⟩
    · have h1 : ¬ (n : Int) < 10 := by omega
      have hw : IntKind.i64.wrap ((n : Int) / 10) = ((n / 10 : Nat) : Int) := by rw [IntWalk.i64_in _ (by omega)]; omega
      have hm : IntKind.i64.wrap (48 + (n : Int) % 10) = ((48 + n % 10 : Nat) : Int) := by rw [IntWalk.i64_in _ (by omega)]; omega
      have hv : IntKind.u8.wrap ((48 + n % 10 : Nat) : Int) = ((48 + n % 10 : Nat) : Int) := by unfold IntKind.wrap; simp [IntKind.bits, IntKind.signed]; omega
      have htm : (n : Int).tmod 10 = ((n % 10 : Nat) : Int) := rfl
      have hm2 : IntKind.i64.wrap (48 + ((n % 10 : Nat) : Int)) = ((48 + n % 10 : Nat) : Int) := by rw [IntWalk.i64_in _ (by omega)]; omega
      have hsz : (decB (n / 10)).size ≤ 16 := by rw [decB_size]; exact nDigits_le 16 _ (by omega) (by omega)
      rw [decB_big h]
      generalize 48 + n % 10 = b at *
      go_enter Tryd.func45, Tryd.ntmps45
      go_wp2_with fail
      go_region_with (first | (go_at_call 45; (try rw [hw]); refine (ih (n / 10) (by omega) _ (by omega)).mono ?_; rintro e w1 ⟨rfl, hb⟩; obtain ⟨hc, hf⟩ := bcell hb; (try simp only [World.size_drew, World.cell?_drew] at hc); (try simp only [World.size_drew, World.frozen?_drew] at hf); have hz := hb.size; (try simp at hz); (try (have hz0 : w.heap.size < w1.heap.size := by omega)); (try (have hz1 : w.heap.size + 1 < w1.heap.size := by omega)); (try (have hz2 : w.heap.size + 1 + 1 < w1.heap.size := by omega)); (try (have hz3 : w.heap.size + 1 + 1 + 1 < w1.heap.size := by omega)); (try (have r7 := Nat.lt_of_lt_of_le r5 (show _ ≤ w1.heap.size by omega))); (try (have r6 := Nat.lt_of_lt_of_le r4 (show _ ≤ w1.heap.size by omega))); (try (have r5 := Nat.lt_of_lt_of_le r3 (show _ ≤ w1.heap.size by omega))); (try (have r4 := Nat.lt_of_lt_of_le r2 (show _ ≤ w1.heap.size by omega))); (try (have r3 := Nat.lt_of_lt_of_le r1 (show _ ≤ w1.heap.size by omega))); (try (have r2 := Nat.lt_of_succ_le (Nat.le_of_succ_le hz))); (try (have r1 := Nat.lt_of_succ_le hz)); (try (have hg1 := Nat.lt_of_lt_of_le hg1 (show _ ≤ w1.heap.size by omega))); (try (have hg2 := Nat.lt_of_lt_of_le hg2 (show _ ≤ w1.heap.size by omega))); (try (have hg3 := Nat.lt_of_lt_of_le hg3 (show _ ≤ w1.heap.size by omega))); (try (first | have hK := S1.below hK hb | have hK := S1.below (S1.alloc hK _) hb | have hK := S1.below (S1.alloc (S1.alloc hK _) _) hb | have hK := S1.below (S1.drewN hK _) hb)); (try (first | have hK2 := S1.below hK2 hb | have hK2 := S1.below (S1.alloc hK2 _) hb | have hK2 := S1.below (S1.alloc (S1.alloc hK2 _) _) hb | have hK2 := S1.below (S1.drewN hK2 _) hb)); (try (first | have hK3 := S1.below hK3 hb | have hK3 := S1.below (S1.alloc hK3 _) hb | have hK3 := S1.below (S1.alloc (S1.alloc hK3 _) _) hb | have hK3 := S1.below (S1.drewN hK3 _) hb)); (try (first | have hK4 := S1.below hK4 hb | have hK4 := S1.below (S1.alloc hK4 _) hb | have hK4 := S1.below (S1.alloc (S1.alloc hK4 _) _) hb | have hK4 := S1.below (S1.drewN hK4 _) hb))))
      all_goals
        go_wp2_with fail
        go_ret
        exact ⟨rfl, (by repeat (first | (with_reducible exact Below.refl _ _) | (with_reducible assumption) | (with_reducible refine below_alloc ?_ _) | (with_reducible refine Below.setCell ?_ (by first | omega | (simp; done) | (simp; omega)) _) | (with_reducible refine below_drewN ?_ _) | (with_reducible refine Below.drew ?_) | (with_reducible refine below_tr ?_ (by assumption))))⟩
end Go.Proofs.YtlijleemogpifaaDoor.C
