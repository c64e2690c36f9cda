import Derived.Test.YtbopfhbeegkkaaaDoorClkR
namespace Go.Proofs.YtbopfhbeegkkaaaDoor
open Go.RowKit
theorem size3 (w : World) : (sizeOf 3).run Tryd.prog w = .ok 1 w := by kernel_rfl
@[go_sem] theorem eqVec (w : World) (d : Nat) (a0 a1 a2 a3 b0 b1 b2 b3 : Int) :
    (Op.equalIn (d + 2) 37 (.agg #[.int .i64 a0, .int .i64 a1, .int .i64 a2, .int .i64 a3]) (.agg #[.int .i64 b0, .int .i64 b1, .int .i64 b2, .int .i64 b3])).run Tryd.prog w = .ok (a0 == b0 && a1 == b1 && a2 == b2 && a3 == b3) w :=
  run_equalIn_four w d 37 3 .i64 _ _ _ _ _ _ _ _ Tryd.underlying37 size3 Tryd.underlying3

def rgtB (a0 a1 a2 a3 : Int) : Bool := decide (0 ≤ a0 ∧ a0 ≤ 1099511627776) && decide (0 ≤ a1 ∧ a1 ≤ 1099511627776) && decide (0 ≤ a2 ∧ a2 ≤ 1099511627776) && decide (0 ≤ a3 ∧ a3 ≤ 1099511627776)

@[go_sem] theorem ix0 (w : World) (a0 a1 a2 a3 : Int) : (Instr.index 37 (.agg #[.int .i64 a0, .int .i64 a1, .int .i64 a2, .int .i64 a3]) (.int .i64 0)).run Tryd.prog w = .ok (.int .i64 a0) w := by kernel_rfl
@[go_sem] theorem ix1 (w : World) (a0 a1 a2 a3 : Int) : (Instr.index 37 (.agg #[.int .i64 a0, .int .i64 a1, .int .i64 a2, .int .i64 a3]) (.int .i64 1)).run Tryd.prog w = .ok (.int .i64 a1) w := by kernel_rfl
@[go_sem] theorem ix2 (w : World) (a0 a1 a2 a3 : Int) : (Instr.index 37 (.agg #[.int .i64 a0, .int .i64 a1, .int .i64 a2, .int .i64 a3]) (.int .i64 2)).run Tryd.prog w = .ok (.int .i64 a2) w := by kernel_rfl
@[go_sem] theorem ix3 (w : World) (a0 a1 a2 a3 : Int) : (Instr.index 37 (.agg #[.int .i64 a0, .int .i64 a1, .int .i64 a2, .int .i64 a3]) (.int .i64 3)).run Tryd.prog w = .ok (.int .i64 a3) w := by kernel_rfl
set_option maxHeartbeats 2000000 in
theorem right_any (a0 a1 a2 a3 : Int) (w : World) :
    Calls Tryd.prog 61 #[.agg #[.int .i64 a0, .int .i64 a1, .int .i64 a2, .int .i64 a3]] w
      fun e w' => e = .returned (.bool (rgtB a0 a1 a2 a3)) ∧ Below w.heap.size w w' := by
  go_enter Tryd.func61, Tryd.ntmps61
  go_wp2
  refine wp_loop_rounds 5 ?_
  rw [rounds_succ]
  by_cases p0 : a0 < 0
  · go_wp2
    all_goals go_ret
    all_goals exact ⟨by simp [rgtB]; omega, (by repeat (first | exact Below.refl _ _ | refine blw_alloc ?_ | refine blw_plus ?_ | refine Below.drew ?_))⟩
  by_cases q0 : 1099511627776 < a0
  · go_wp2
    all_goals go_ret
    all_goals exact ⟨by simp [rgtB]; omega, (by repeat (first | exact Below.refl _ _ | refine blw_alloc ?_ | refine blw_plus ?_ | refine Below.drew ?_))⟩
  go_wp2
  rw [rounds_succ]
  by_cases p1 : a1 < 0
  · go_wp2
    all_goals go_ret
    all_goals exact ⟨by simp [rgtB]; omega, (by repeat (first | exact Below.refl _ _ | refine blw_alloc ?_ | refine blw_plus ?_ | refine Below.drew ?_))⟩
  by_cases q1 : 1099511627776 < a1
  · go_wp2
    all_goals go_ret
    all_goals exact ⟨by simp [rgtB]; omega, (by repeat (first | exact Below.refl _ _ | refine blw_alloc ?_ | refine blw_plus ?_ | refine Below.drew ?_))⟩
  go_wp2
  rw [rounds_succ]
  by_cases p2 : a2 < 0
  · go_wp2
    all_goals go_ret
    all_goals exact ⟨by simp [rgtB]; omega, (by repeat (first | exact Below.refl _ _ | refine blw_alloc ?_ | refine blw_plus ?_ | refine Below.drew ?_))⟩
  by_cases q2 : 1099511627776 < a2
  · go_wp2
    all_goals go_ret
    all_goals exact ⟨by simp [rgtB]; omega, (by repeat (first | exact Below.refl _ _ | refine blw_alloc ?_ | refine blw_plus ?_ | refine Below.drew ?_))⟩
  go_wp2
  rw [rounds_succ]
  by_cases p3 : a3 < 0
  · go_wp2
    all_goals go_ret
    all_goals exact ⟨by simp [rgtB]; omega, (by repeat (first | exact Below.refl _ _ | refine blw_alloc ?_ | refine blw_plus ?_ | refine Below.drew ?_))⟩
  by_cases q3 : 1099511627776 < a3
  · go_wp2
    all_goals go_ret
    all_goals exact ⟨by simp [rgtB]; omega, (by repeat (first | exact Below.refl _ _ | refine blw_alloc ?_ | refine blw_plus ?_ | refine Below.drew ?_))⟩
  go_wp2
  rw [rounds_succ]
  go_wp2
  go_ret
  exact ⟨by simp [rgtB]; omega, (by repeat (first | exact Below.refl _ _ | refine blw_alloc ?_ | refine blw_plus ?_ | refine Below.drew ?_))⟩

set_option maxHeartbeats 2000000 in
theorem rRight_any (a0 a1 a2 a3 : Int) (w : World) :
    Calls Tryd.prog 60 #[.agg #[.int .i64 a0, .int .i64 a1, .int .i64 a2, .int .i64 a3]] w
      fun e w' => e = .returned (.bool (rgtB a0 a1 a2 a3)) ∧ Below w.heap.size w w' := by
  go_enter Tryd.func60, Tryd.ntmps60
  go_wp2
  refine wp_loop_rounds 5 ?_
  rw [rounds_succ]
  by_cases p0 : a0 < 0
  · go_wp2_with (go_at_call 54; refine (in_no _ _ _ _ (by omega)).mono ?_; rintro e w' ⟨rfl, rfl⟩)
    all_goals go_ret
    all_goals exact ⟨by simp [rgtB]; omega, (by repeat (first | exact Below.refl _ _ | refine blw_alloc ?_ | refine blw_plus ?_ | refine Below.drew ?_))⟩
  by_cases q0 : 1099511627776 < a0
  · go_wp2_with (go_at_call 54; refine (in_no _ _ _ _ (by omega)).mono ?_; rintro e w' ⟨rfl, rfl⟩)
    all_goals go_ret
    all_goals exact ⟨by simp [rgtB]; omega, (by repeat (first | exact Below.refl _ _ | refine blw_alloc ?_ | refine blw_plus ?_ | refine Below.drew ?_))⟩
  go_wp2_with (go_at_call 54; refine (in_yes _ _ _ _ (by omega) (by omega)).mono ?_; rintro e w' ⟨rfl, rfl⟩)
  rw [rounds_succ]
  by_cases p1 : a1 < 0
  · go_wp2_with (go_at_call 54; refine (in_no _ _ _ _ (by omega)).mono ?_; rintro e w' ⟨rfl, rfl⟩)
    all_goals go_ret
    all_goals exact ⟨by simp [rgtB]; omega, (by repeat (first | exact Below.refl _ _ | refine blw_alloc ?_ | refine blw_plus ?_ | refine Below.drew ?_))⟩
  by_cases q1 : 1099511627776 < a1
  · go_wp2_with (go_at_call 54; refine (in_no _ _ _ _ (by omega)).mono ?_; rintro e w' ⟨rfl, rfl⟩)
    all_goals go_ret
    all_goals exact ⟨by simp [rgtB]; omega, (by repeat (first | exact Below.refl _ _ | refine blw_alloc ?_ | refine blw_plus ?_ | refine Below.drew ?_))⟩
  go_wp2_with (go_at_call 54; refine (in_yes _ _ _ _ (by omega) (by omega)).mono ?_; rintro e w' ⟨rfl, rfl⟩)
  rw [rounds_succ]
  by_cases p2 : a2 < 0
  · go_wp2_with (go_at_call 54; refine (in_no _ _ _ _ (by omega)).mono ?_; rintro e w' ⟨rfl, rfl⟩)
    all_goals go_ret
    all_goals exact ⟨by simp [rgtB]; omega, (by repeat (first | exact Below.refl _ _ | refine blw_alloc ?_ | refine blw_plus ?_ | refine Below.drew ?_))⟩
  by_cases q2 : 1099511627776 < a2
  · go_wp2_with (go_at_call 54; refine (in_no _ _ _ _ (by omega)).mono ?_; rintro e w' ⟨rfl, rfl⟩)
    all_goals go_ret
    all_goals exact ⟨by simp [rgtB]; omega, (by repeat (first | exact Below.refl _ _ | refine blw_alloc ?_ | refine blw_plus ?_ | refine Below.drew ?_))⟩
  go_wp2_with (go_at_call 54; refine (in_yes _ _ _ _ (by omega) (by omega)).mono ?_; rintro e w' ⟨rfl, rfl⟩)
  rw [rounds_succ]
  by_cases p3 : a3 < 0
  · go_wp2_with (go_at_call 54; refine (in_no _ _ _ _ (by omega)).mono ?_; rintro e w' ⟨rfl, rfl⟩)
    all_goals go_ret
    all_goals exact ⟨by simp [rgtB]; omega, (by repeat (first | exact Below.refl _ _ | refine blw_alloc ?_ | refine blw_plus ?_ | refine Below.drew ?_))⟩
  by_cases q3 : 1099511627776 < a3
  · go_wp2_with (go_at_call 54; refine (in_no _ _ _ _ (by omega)).mono ?_; rintro e w' ⟨rfl, rfl⟩)
    all_goals go_ret
    all_goals exact ⟨by simp [rgtB]; omega, (by repeat (first | exact Below.refl _ _ | refine blw_alloc ?_ | refine blw_plus ?_ | refine Below.drew ?_))⟩
  go_wp2_with (go_at_call 54; refine (in_yes _ _ _ _ (by omega) (by omega)).mono ?_; rintro e w' ⟨rfl, rfl⟩)
  rw [rounds_succ]
  go_wp2
  go_ret
  exact ⟨by simp [rgtB]; omega, (by repeat (first | exact Below.refl _ _ | refine blw_alloc ?_ | refine blw_plus ?_ | refine Below.drew ?_))⟩
end Go.Proofs.YtbopfhbeegkkaaaDoor
