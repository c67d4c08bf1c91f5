/- Contracts of chapter 5: the name of a scale read. -/
import Derived.Test.YthmmdcpodadjbaaA5
import Derived.LoopTactic
namespace Go.Proofs.Ythmmdcpodadjbaa.C
open Go.RowKit Go.Proofs.Ythmmdcpodadjbaa.K
set_option linter.unusedVariables false
set_option linter.unusedSimpArgs false
attribute [local go_sem ↓] Go.wp_at_zero Go.wp_at_succ

/-- the number of the scale with a name, -1 if there is none -/
def rxV (l : List UInt8) : Int := if l = [67] then 0 else if l = [65] then 1 else if l = [75] then 2 else if l = [67, 73] then 3 else if l = [67, 70] then 4 else if l = [76] then 5 else -1
def rsI (l : List UInt8) : Int := if rxV l < 0 then 0 else rxV l
def rsE (l : List UInt8) : Int := if rxV l < 0 then 6 else 0
set_option maxHeartbeats 1600000 in
theorem ReadScale_spec (s : ByteArray) (w : World) : Calls Try.prog 65 #[.string s] w fun e w' => e = .returned (.tuple #[.int .i64 (rsI s.toList), .int .i64 (rsE s.toList)]) ∧ Below w.heap.size w w' := by
  by_cases e0 : s.toList = [67]
  · have HR := Lib.hid (show 0 = rsI s.toList by simp [rsI, rxV, e0])
    have HE := Lib.hid (show 0 = rsE s.toList by simp [rsE, rxV, e0])
    have p0 : ([67] == s.toList) = true := by rw [e0]; rfl
    have q0 : (s.toList == [67]) = true := by rw [e0]; rfl
    clear e0
    go_enter Try.func65, Try.ntmps65
    go_wp2_with go_in
    refine wp_loop_rounds 7 ?_
    rw [rounds_succ]
    go_wp2_with fail
    go_ret2
    exact ⟨ret_two HR.out HE.out, (by repeat (first | (with_reducible exact Below.refl _ _) | (with_reducible assumption) | (with_reducible refine below_alloc ?_ _) | (with_reducible refine Below.setCell ?_ (by first | omega | (simp; done) | (simp; omega)) _) | (with_reducible refine below_drewN ?_ _) | (with_reducible refine Below.drew ?_) | (with_reducible refine below_tr ?_ (by assumption))))⟩
  · by_cases e1 : s.toList = [65]
    · have HR := Lib.hid (show 1 = rsI s.toList by simp [rsI, rxV, e0, e1])
      have HE := Lib.hid (show 0 = rsE s.toList by simp [rsE, rxV, e0, e1])
      have p0 : ([67] == s.toList) = false := beq_eq_false_iff_ne.2 (fun h => e0 h.symm)
      have q0 : (s.toList == [67]) = false := beq_eq_false_iff_ne.2 e0
      have p1 : ([65] == s.toList) = true := by rw [e1]; rfl
      have q1 : (s.toList == [65]) = true := by rw [e1]; rfl
      clear e0 e1
      go_enter Try.func65, Try.ntmps65
      go_wp2_with go_in
      refine wp_loop_rounds 7 ?_
      rw [rounds_succ]
      go_wp2_with fail
      rw [rounds_succ]
      go_wp2_with fail
      go_ret2
      exact ⟨ret_two HR.out HE.out, (by repeat (first | (with_reducible exact Below.refl _ _) | (with_reducible assumption) | (with_reducible refine below_alloc ?_ _) | (with_reducible refine Below.setCell ?_ (by first | omega | (simp; done) | (simp; omega)) _) | (with_reducible refine below_drewN ?_ _) | (with_reducible refine Below.drew ?_) | (with_reducible refine below_tr ?_ (by assumption))))⟩
    · by_cases e2 : s.toList = [75]
      · have HR := Lib.hid (show 2 = rsI s.toList by simp [rsI, rxV, e0, e1, e2])
        have HE := Lib.hid (show 0 = rsE s.toList by simp [rsE, rxV, e0, e1, e2])
        have p0 : ([67] == s.toList) = false := beq_eq_false_iff_ne.2 (fun h => e0 h.symm)
        have q0 : (s.toList == [67]) = false := beq_eq_false_iff_ne.2 e0
        have p1 : ([65] == s.toList) = false := beq_eq_false_iff_ne.2 (fun h => e1 h.symm)
        have q1 : (s.toList == [65]) = false := beq_eq_false_iff_ne.2 e1
        have p2 : ([75] == s.toList) = true := by rw [e2]; rfl
        have q2 : (s.toList == [75]) = true := by rw [e2]; rfl
        clear e0 e1 e2
        go_enter Try.func65, Try.ntmps65
        go_wp2_with go_in
        refine wp_loop_rounds 7 ?_
        rw [rounds_succ]
        go_wp2_with fail
        rw [rounds_succ]
        go_wp2_with fail
        rw [rounds_succ]
        go_wp2_with fail
        go_ret2
        exact ⟨ret_two HR.out HE.out, (by repeat (first | (with_reducible exact Below.refl _ _) | (with_reducible assumption) | (with_reducible refine below_alloc ?_ _) | (with_reducible refine Below.setCell ?_ (by first | omega | (simp; done) | (simp; omega)) _) | (with_reducible refine below_drewN ?_ _) | (with_reducible refine Below.drew ?_) | (with_reducible refine below_tr ?_ (by assumption))))⟩
      · by_cases e3 : s.toList = [67, 73]
        · have HR := Lib.hid (show 3 = rsI s.toList by simp [rsI, rxV, e0, e1, e2, e3])
          have HE := Lib.hid (show 0 = rsE s.toList by simp [rsE, rxV, e0, e1, e2, e3])
          have p0 : ([67] == s.toList) = false := beq_eq_false_iff_ne.2 (fun h => e0 h.symm)
          have q0 : (s.toList == [67]) = false := beq_eq_false_iff_ne.2 e0
          have p1 : ([65] == s.toList) = false := beq_eq_false_iff_ne.2 (fun h => e1 h.symm)
          have q1 : (s.toList == [65]) = false := beq_eq_false_iff_ne.2 e1
          have p2 : ([75] == s.toList) = false := beq_eq_false_iff_ne.2 (fun h => e2 h.symm)
          have q2 : (s.toList == [75]) = false := beq_eq_false_iff_ne.2 e2
          have p3 : ([67, 73] == s.toList) = true := by rw [e3]; rfl
          have q3 : (s.toList == [67, 73]) = true := by rw [e3]; rfl
          clear e0 e1 e2 e3
          go_enter Try.func65, Try.ntmps65
          go_wp2_with go_in
          refine wp_loop_rounds 7 ?_
          rw [rounds_succ]
          go_wp2_with fail
          rw [rounds_succ]
          go_wp2_with fail
          rw [rounds_succ]
          go_wp2_with fail
          rw [rounds_succ]
          go_wp2_with fail
          go_ret2
          exact ⟨ret_two HR.out HE.out, (by repeat (first | (with_reducible exact Below.refl _ _) | (with_reducible assumption) | (with_reducible refine below_alloc ?_ _) | (with_reducible refine Below.setCell ?_ (by first | omega | (simp; done) | (simp; omega)) _) | (with_reducible refine below_drewN ?_ _) | (with_reducible refine Below.drew ?_) | (with_reducible refine below_tr ?_ (by assumption))))⟩
        · by_cases e4 : s.toList = [67, 70]
          · have HR := Lib.hid (show 4 = rsI s.toList by simp [rsI, rxV, e0, e1, e2, e3, e4])
            have HE := Lib.hid (show 0 = rsE s.toList by simp [rsE, rxV, e0, e1, e2, e3, e4])
            have p0 : ([67] == s.toList) = false := beq_eq_false_iff_ne.2 (fun h => e0 h.symm)
            have q0 : (s.toList == [67]) = false := beq_eq_false_iff_ne.2 e0
            have p1 : ([65] == s.toList) = false := beq_eq_false_iff_ne.2 (fun h => e1 h.symm)
            have q1 : (s.toList == [65]) = false := beq_eq_false_iff_ne.2 e1
            have p2 : ([75] == s.toList) = false := beq_eq_false_iff_ne.2 (fun h => e2 h.symm)
            have q2 : (s.toList == [75]) = false := beq_eq_false_iff_ne.2 e2
            have p3 : ([67, 73] == s.toList) = false := beq_eq_false_iff_ne.2 (fun h => e3 h.symm)
            have q3 : (s.toList == [67, 73]) = false := beq_eq_false_iff_ne.2 e3
            have p4 : ([67, 70] == s.toList) = true := by rw [e4]; rfl
            have q4 : (s.toList == [67, 70]) = true := by rw [e4]; rfl
            clear e0 e1 e2 e3 e4
            go_enter Try.func65, Try.ntmps65
            go_wp2_with go_in
            refine wp_loop_rounds 7 ?_
            rw [rounds_succ]
            go_wp2_with fail
            rw [rounds_succ]
            go_wp2_with fail
            rw [rounds_succ]
            go_wp2_with fail
            rw [rounds_succ]
            go_wp2_with fail
            rw [rounds_succ]
            go_wp2_with fail
            go_ret2
            exact ⟨ret_two HR.out HE.out, (by repeat (first | (with_reducible exact Below.refl _ _) | (with_reducible assumption) | (with_reducible refine below_alloc ?_ _) | (with_reducible refine Below.setCell ?_ (by first | omega | (simp; done) | (simp; omega)) _) | (with_reducible refine below_drewN ?_ _) | (with_reducible refine Below.drew ?_) | (with_reducible refine below_tr ?_ (by assumption))))⟩
          · by_cases e5 : s.toList = [76]
            · have HR := Lib.hid (show 5 = rsI s.toList by simp [rsI, rxV, e0, e1, e2, e3, e4, e5])
              have HE := Lib.hid (show 0 = rsE s.toList by simp [rsE, rxV, e0, e1, e2, e3, e4, e5])
              have p0 : ([67] == s.toList) = false := beq_eq_false_iff_ne.2 (fun h => e0 h.symm)
              have q0 : (s.toList == [67]) = false := beq_eq_false_iff_ne.2 e0
              have p1 : ([65] == s.toList) = false := beq_eq_false_iff_ne.2 (fun h => e1 h.symm)
              have q1 : (s.toList == [65]) = false := beq_eq_false_iff_ne.2 e1
              have p2 : ([75] == s.toList) = false := beq_eq_false_iff_ne.2 (fun h => e2 h.symm)
              have q2 : (s.toList == [75]) = false := beq_eq_false_iff_ne.2 e2
              have p3 : ([67, 73] == s.toList) = false := beq_eq_false_iff_ne.2 (fun h => e3 h.symm)
              have q3 : (s.toList == [67, 73]) = false := beq_eq_false_iff_ne.2 e3
              have p4 : ([67, 70] == s.toList) = false := beq_eq_false_iff_ne.2 (fun h => e4 h.symm)
              have q4 : (s.toList == [67, 70]) = false := beq_eq_false_iff_ne.2 e4
              have p5 : ([76] == s.toList) = true := by rw [e5]; rfl
              have q5 : (s.toList == [76]) = true := by rw [e5]; rfl
              clear e0 e1 e2 e3 e4 e5
              go_enter Try.func65, Try.ntmps65
              go_wp2_with go_in
              refine wp_loop_rounds 7 ?_
              rw [rounds_succ]
              go_wp2_with fail
              rw [rounds_succ]
              go_wp2_with fail
              rw [rounds_succ]
              go_wp2_with fail
              rw [rounds_succ]
              go_wp2_with fail
              rw [rounds_succ]
              go_wp2_with fail
              rw [rounds_succ]
              go_wp2_with fail
              go_ret2
              exact ⟨ret_two HR.out HE.out, (by repeat (first | (with_reducible exact Below.refl _ _) | (with_reducible assumption) | (with_reducible refine below_alloc ?_ _) | (with_reducible refine Below.setCell ?_ (by first | omega | (simp; done) | (simp; omega)) _) | (with_reducible refine below_drewN ?_ _) | (with_reducible refine Below.drew ?_) | (with_reducible refine below_tr ?_ (by assumption))))⟩
            · have HR := Lib.hid (show 0 = rsI s.toList by simp [rsI, rxV, e0, e1, e2, e3, e4, e5])
              have HE := Lib.hid (show 6 = rsE s.toList by simp [rsE, rxV, e0, e1, e2, e3, e4, e5])
              have p0 : ([67] == s.toList) = false := beq_eq_false_iff_ne.2 (fun h => e0 h.symm)
              have q0 : (s.toList == [67]) = false := beq_eq_false_iff_ne.2 e0
              have p1 : ([65] == s.toList) = false := beq_eq_false_iff_ne.2 (fun h => e1 h.symm)
              have q1 : (s.toList == [65]) = false := beq_eq_false_iff_ne.2 e1
              have p2 : ([75] == s.toList) = false := beq_eq_false_iff_ne.2 (fun h => e2 h.symm)
              have q2 : (s.toList == [75]) = false := beq_eq_false_iff_ne.2 e2
              have p3 : ([67, 73] == s.toList) = false := beq_eq_false_iff_ne.2 (fun h => e3 h.symm)
              have q3 : (s.toList == [67, 73]) = false := beq_eq_false_iff_ne.2 e3
              have p4 : ([67, 70] == s.toList) = false := beq_eq_false_iff_ne.2 (fun h => e4 h.symm)
              have q4 : (s.toList == [67, 70]) = false := beq_eq_false_iff_ne.2 e4
              have p5 : ([76] == s.toList) = false := beq_eq_false_iff_ne.2 (fun h => e5 h.symm)
              have q5 : (s.toList == [76]) = false := beq_eq_false_iff_ne.2 e5
              clear e0 e1 e2 e3 e4 e5
              go_enter Try.func65, Try.ntmps65
              go_wp2_with go_in
              refine wp_loop_rounds 7 ?_
              rw [rounds_succ]
              go_wp2_with fail
              rw [rounds_succ]
              go_wp2_with fail
              rw [rounds_succ]
              go_wp2_with fail
              rw [rounds_succ]
              go_wp2_with fail
              rw [rounds_succ]
              go_wp2_with fail
              rw [rounds_succ]
              go_wp2_with fail
              rw [rounds_succ]
              go_wp2_with fail
              go_ret2
              exact ⟨ret_two HR.out HE.out, (by repeat (first | (with_reducible exact Below.refl _ _) | (with_reducible assumption) | (with_reducible refine below_alloc ?_ _) | (with_reducible refine Below.setCell ?_ (by first | omega | (simp; done) | (simp; omega)) _) | (with_reducible refine below_drewN ?_ _) | (with_reducible refine Below.drew ?_) | (with_reducible refine below_tr ?_ (by assumption))))⟩
set_option maxHeartbeats 1600000 in
theorem index_i (g : Nat) (s : ByteArray) (w : World) (h0 : w.cell? ⟨g, 0, none⟩ = some (.string ⟨#[67]⟩)) (h1 : w.cell? ⟨g, 1, none⟩ = some (.string ⟨#[65]⟩)) (h2 : w.cell? ⟨g, 2, none⟩ = some (.string ⟨#[75]⟩)) (h3 : w.cell? ⟨g, 3, none⟩ = some (.string ⟨#[67, 73]⟩)) (h4 : w.cell? ⟨g, 4, none⟩ = some (.string ⟨#[67, 70]⟩)) (h5 : w.cell? ⟨g, 5, none⟩ = some (.string ⟨#[76]⟩)) : Calls Try.prog 130 #[.slice (some ⟨g, 0, none⟩) 6 6, .string s] w fun e w' => e = .returned (.int .i64 (rxV s.toList)) ∧ w = w' := by
  by_cases e0 : s.toList = [67]
  · have HR := Lib.hid (show 0 = rxV s.toList by simp [rxV, e0])
    have p0 : ([67] == s.toList) = true := by rw [e0]; rfl
    have q0 : (s.toList == [67]) = true := by rw [e0]; rfl
    clear e0
    go_enter Try.func130, Try.ntmps130
    go_wp2_with fail
    refine wp_loop_rounds 7 ?_
    rw [rounds_succ]
    go_wp2_with fail
    go_ret
    exact ⟨ret_int HR.out, rfl⟩
  · by_cases e1 : s.toList = [65]
    · have HR := Lib.hid (show 1 = rxV s.toList by simp [rxV, e0, e1])
      have p0 : ([67] == s.toList) = false := beq_eq_false_iff_ne.2 (fun h => e0 h.symm)
      have q0 : (s.toList == [67]) = false := beq_eq_false_iff_ne.2 e0
      have p1 : ([65] == s.toList) = true := by rw [e1]; rfl
      have q1 : (s.toList == [65]) = true := by rw [e1]; rfl
      clear e0 e1
      go_enter Try.func130, Try.ntmps130
      go_wp2_with fail
      refine wp_loop_rounds 7 ?_
      rw [rounds_succ]
      go_wp2_with fail
      rw [rounds_succ]
      go_wp2_with fail
      go_ret
      exact ⟨ret_int HR.out, rfl⟩
    · by_cases e2 : s.toList = [75]
      · have HR := Lib.hid (show 2 = rxV s.toList by simp [rxV, e0, e1, e2])
        have p0 : ([67] == s.toList) = false := beq_eq_false_iff_ne.2 (fun h => e0 h.symm)
        have q0 : (s.toList == [67]) = false := beq_eq_false_iff_ne.2 e0
        have p1 : ([65] == s.toList) = false := beq_eq_false_iff_ne.2 (fun h => e1 h.symm)
        have q1 : (s.toList == [65]) = false := beq_eq_false_iff_ne.2 e1
        have p2 : ([75] == s.toList) = true := by rw [e2]; rfl
        have q2 : (s.toList == [75]) = true := by rw [e2]; rfl
        clear e0 e1 e2
        go_enter Try.func130, Try.ntmps130
        go_wp2_with fail
        refine wp_loop_rounds 7 ?_
        rw [rounds_succ]
        go_wp2_with fail
        rw [rounds_succ]
        go_wp2_with fail
        rw [rounds_succ]
        go_wp2_with fail
        go_ret
        exact ⟨ret_int HR.out, rfl⟩
      · by_cases e3 : s.toList = [67, 73]
        · have HR := Lib.hid (show 3 = rxV s.toList by simp [rxV, e0, e1, e2, e3])
          have p0 : ([67] == s.toList) = false := beq_eq_false_iff_ne.2 (fun h => e0 h.symm)
          have q0 : (s.toList == [67]) = false := beq_eq_false_iff_ne.2 e0
          have p1 : ([65] == s.toList) = false := beq_eq_false_iff_ne.2 (fun h => e1 h.symm)
          have q1 : (s.toList == [65]) = false := beq_eq_false_iff_ne.2 e1
          have p2 : ([75] == s.toList) = false := beq_eq_false_iff_ne.2 (fun h => e2 h.symm)
          have q2 : (s.toList == [75]) = false := beq_eq_false_iff_ne.2 e2
          have p3 : ([67, 73] == s.toList) = true := by rw [e3]; rfl
          have q3 : (s.toList == [67, 73]) = true := by rw [e3]; rfl
          clear e0 e1 e2 e3
          go_enter Try.func130, Try.ntmps130
          go_wp2_with fail
          refine wp_loop_rounds 7 ?_
          rw [rounds_succ]
          go_wp2_with fail
          rw [rounds_succ]
          go_wp2_with fail
          rw [rounds_succ]
          go_wp2_with fail
          rw [rounds_succ]
          go_wp2_with fail
          go_ret
          exact ⟨ret_int HR.out, rfl⟩
        · by_cases e4 : s.toList = [67, 70]
          · have HR := Lib.hid (show 4 = rxV s.toList by simp [rxV, e0, e1, e2, e3, e4])
            have p0 : ([67] == s.toList) = false := beq_eq_false_iff_ne.2 (fun h => e0 h.symm)
            have q0 : (s.toList == [67]) = false := beq_eq_false_iff_ne.2 e0
            have p1 : ([65] == s.toList) = false := beq_eq_false_iff_ne.2 (fun h => e1 h.symm)
            have q1 : (s.toList == [65]) = false := beq_eq_false_iff_ne.2 e1
            have p2 : ([75] == s.toList) = false := beq_eq_false_iff_ne.2 (fun h => e2 h.symm)
            have q2 : (s.toList == [75]) = false := beq_eq_false_iff_ne.2 e2
            have p3 : ([67, 73] == s.toList) = false := beq_eq_false_iff_ne.2 (fun h => e3 h.symm)
            have q3 : (s.toList == [67, 73]) = false := beq_eq_false_iff_ne.2 e3
            have p4 : ([67, 70] == s.toList) = true := by rw [e4]; rfl
            have q4 : (s.toList == [67, 70]) = true := by rw [e4]; rfl
            clear e0 e1 e2 e3 e4
            go_enter Try.func130, Try.ntmps130
            go_wp2_with fail
            refine wp_loop_rounds 7 ?_
            rw [rounds_succ]
            go_wp2_with fail
            rw [rounds_succ]
            go_wp2_with fail
            rw [rounds_succ]
            go_wp2_with fail
            rw [rounds_succ]
            go_wp2_with fail
            rw [rounds_succ]
            go_wp2_with fail
            go_ret
            exact ⟨ret_int HR.out, rfl⟩
          · by_cases e5 : s.toList = [76]
            · have HR := Lib.hid (show 5 = rxV s.toList by simp [rxV, e0, e1, e2, e3, e4, e5])
              have p0 : ([67] == s.toList) = false := beq_eq_false_iff_ne.2 (fun h => e0 h.symm)
              have q0 : (s.toList == [67]) = false := beq_eq_false_iff_ne.2 e0
              have p1 : ([65] == s.toList) = false := beq_eq_false_iff_ne.2 (fun h => e1 h.symm)
              have q1 : (s.toList == [65]) = false := beq_eq_false_iff_ne.2 e1
              have p2 : ([75] == s.toList) = false := beq_eq_false_iff_ne.2 (fun h => e2 h.symm)
              have q2 : (s.toList == [75]) = false := beq_eq_false_iff_ne.2 e2
              have p3 : ([67, 73] == s.toList) = false := beq_eq_false_iff_ne.2 (fun h => e3 h.symm)
              have q3 : (s.toList == [67, 73]) = false := beq_eq_false_iff_ne.2 e3
              have p4 : ([67, 70] == s.toList) = false := beq_eq_false_iff_ne.2 (fun h => e4 h.symm)
              have q4 : (s.toList == [67, 70]) = false := beq_eq_false_iff_ne.2 e4
              have p5 : ([76] == s.toList) = true := by rw [e5]; rfl
              have q5 : (s.toList == [76]) = true := by rw [e5]; rfl
              clear e0 e1 e2 e3 e4 e5
              go_enter Try.func130, Try.ntmps130
              go_wp2_with fail
              refine wp_loop_rounds 7 ?_
              rw [rounds_succ]
              go_wp2_with fail
              rw [rounds_succ]
              go_wp2_with fail
              rw [rounds_succ]
              go_wp2_with fail
              rw [rounds_succ]
              go_wp2_with fail
              rw [rounds_succ]
              go_wp2_with fail
              rw [rounds_succ]
              go_wp2_with fail
              go_ret
              exact ⟨ret_int HR.out, rfl⟩
            · have HR := Lib.hid (show -1 = rxV s.toList by simp [rxV, e0, e1, e2, e3, e4, e5])
              have p0 : ([67] == s.toList) = false := beq_eq_false_iff_ne.2 (fun h => e0 h.symm)
              have q0 : (s.toList == [67]) = false := beq_eq_false_iff_ne.2 e0
              have p1 : ([65] == s.toList) = false := beq_eq_false_iff_ne.2 (fun h => e1 h.symm)
              have q1 : (s.toList == [65]) = false := beq_eq_false_iff_ne.2 e1
              have p2 : ([75] == s.toList) = false := beq_eq_false_iff_ne.2 (fun h => e2 h.symm)
              have q2 : (s.toList == [75]) = false := beq_eq_false_iff_ne.2 e2
              have p3 : ([67, 73] == s.toList) = false := beq_eq_false_iff_ne.2 (fun h => e3 h.symm)
              have q3 : (s.toList == [67, 73]) = false := beq_eq_false_iff_ne.2 e3
              have p4 : ([67, 70] == s.toList) = false := beq_eq_false_iff_ne.2 (fun h => e4 h.symm)
              have q4 : (s.toList == [67, 70]) = false := beq_eq_false_iff_ne.2 e4
              have p5 : ([76] == s.toList) = false := beq_eq_false_iff_ne.2 (fun h => e5 h.symm)
              have q5 : (s.toList == [76]) = false := beq_eq_false_iff_ne.2 e5
              clear e0 e1 e2 e3 e4 e5
              go_enter Try.func130, Try.ntmps130
              go_wp2_with fail
              refine wp_loop_rounds 7 ?_
              rw [rounds_succ]
              go_wp2_with fail
              rw [rounds_succ]
              go_wp2_with fail
              rw [rounds_succ]
              go_wp2_with fail
              rw [rounds_succ]
              go_wp2_with fail
              rw [rounds_succ]
              go_wp2_with fail
              rw [rounds_succ]
              go_wp2_with fail
              rw [rounds_succ]
              go_wp2_with fail
              go_ret
              exact ⟨ret_int HR.out, rfl⟩
theorem rxV_bounds (l : List UInt8) : -1 ≤ rxV l ∧ rxV l ≤ 5 := by
  unfold rxV; repeat' split
  all_goals omega
set_option maxHeartbeats 1600000 in
theorem ReadScale_impl (s : ByteArray) (w : World) : Calls Try.prog 64 #[.string s] w fun e w' => e = .returned (.tuple #[.int .i64 (rsI s.toList), .int .i64 (rsE s.toList)]) ∧ Below w.heap.size w w' := by
  obtain ⟨b0, b1⟩ := rxV_bounds s.toList
  by_cases hn : rxV s.toList < 0
  · have HR := Lib.hid (show 0 = rsI s.toList by unfold rsI; rw [if_pos hn])
    have HE := Lib.hid (show 6 = rsE s.toList by unfold rsE; rw [if_pos hn])
    go_enter Try.func64, Try.ntmps64
    go_wp2_with (first | (go_at_call 130; refine (index_i _ _ _ ?_ ?_ ?_ ?_ ?_ ?_).mono ?_; (simp [go_sem]); (simp [go_sem]); (simp [go_sem]); (simp [go_sem]); (simp [go_sem]); (simp [go_sem]); rintro e w1 ⟨rfl, rfl⟩) | go_in)
    go_ret2
    exact ⟨ret_two HR.out HE.out, (by repeat (first | (with_reducible exact Below.refl _ _) | (with_reducible assumption) | (with_reducible refine below_alloc ?_ _) | (with_reducible refine Below.setCell ?_ (by first | omega | (simp; done) | (simp; omega)) _) | (with_reducible refine below_drewN ?_ _) | (with_reducible refine Below.drew ?_) | (with_reducible refine below_tr ?_ (by assumption))))⟩
  · have HR := Lib.hid (show rxV s.toList = rsI s.toList by unfold rsI; rw [if_neg hn])
    have HE := Lib.hid (show 0 = rsE s.toList by unfold rsE; rw [if_neg hn])
    go_enter Try.func64, Try.ntmps64
    go_wp2_with (first | (go_at_call 130; refine (index_i _ _ _ ?_ ?_ ?_ ?_ ?_ ?_).mono ?_; (simp [go_sem]); (simp [go_sem]); (simp [go_sem]); (simp [go_sem]); (simp [go_sem]); (simp [go_sem]); rintro e w1 ⟨rfl, rfl⟩) | go_in)
    go_ret2
    exact ⟨ret_two HR.out HE.out, (by repeat (first | (with_reducible exact Below.refl _ _) | (with_reducible assumption) | (with_reducible refine below_alloc ?_ _) | (with_reducible refine Below.setCell ?_ (by first | omega | (simp; done) | (simp; omega)) _) | (with_reducible refine below_drewN ?_ _) | (with_reducible refine Below.drew ?_) | (with_reducible refine below_tr ?_ (by assumption))))⟩
end Go.Proofs.Ythmmdcpodadjbaa.C
