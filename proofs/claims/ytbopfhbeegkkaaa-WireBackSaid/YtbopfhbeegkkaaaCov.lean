import Derived.Test.YtbopfhbeegkkaaaRef
namespace Go.Proofs.Ytbopfhbeegkkaaa
open Go.RowKit
theorem size3 (w : World) : (sizeOf 3).run Try.prog w = .ok 1 w := by kernel_rfl
@[go_sem] theorem eqVec (w : World) (d : Nat) (a0 a1 a2 a3 b0 b1 b2 b3 : Int) :
    (Op.equalIn (d + 2) 23 (.agg #[.int .i64 a0, .int .i64 a1, .int .i64 a2, .int .i64 a3]) (.agg #[.int .i64 b0, .int .i64 b1, .int .i64 b2, .int .i64 b3])).run Try.prog w = .ok (a0 == b0 && a1 == b1 && a2 == b2 && a3 == b3) w :=
  run_equalIn_four w d 23 3 .i64 _ _ _ _ _ _ _ _ Try.underlying23 size3 Try.underlying3

def covB (a0 a1 a2 a3 b0 b1 b2 b3 : Int) : Bool := decide (b0 ≤ a0) && decide (b1 ≤ a1) && decide (b2 ≤ a2) && decide (b3 ≤ a3)
theorem max_beq (a b : Int) : (max a b == a) = decide (b ≤ a) := by
  rw [Bool.eq_iff_iff]; simp; omega
def rgtB (a0 a1 a2 a3 : Int) : Bool := decide (0 ≤ a0 ∧ a0 ≤ 1099511627776) && decide (0 ≤ a1 ∧ a1 ≤ 1099511627776) && decide (0 ≤ a2 ∧ a2 ≤ 1099511627776) && decide (0 ≤ a3 ∧ a3 ≤ 1099511627776)

set_option maxHeartbeats 400000 in
theorem covers_any (a0 a1 a2 a3 b0 b1 b2 b3 : Int) (w : World) :
    Calls Try.prog 10 #[.agg #[.int .i64 a0, .int .i64 a1, .int .i64 a2, .int .i64 a3], .agg #[.int .i64 b0, .int .i64 b1, .int .i64 b2, .int .i64 b3]] w
      fun e w' => e = .returned (.bool (covB a0 a1 a2 a3 b0 b1 b2 b3)) ∧ Below w.heap.size w w' := by
  go_enter Try.func10, Try.ntmps10
  go_wp2
  refine wp_region_plus (by kernel_rfl) (by kernel_rfl) ?_
  repeat (first | go_big_quiet_skip | (go_big_quiet_want; go_big_quiet_op; first | go_big_quiet_on | (apply Exists.intro; refine ⟨fun _ => Calls.plus_of (vMax_any _ _ _ _ _ _ _ _ _), ?_⟩; go_big_quiet_on)))
  refine wpQuiet_nil ?_
  rintro _ ⟨x1, rfl⟩
  go_wp2
  go_ret
  exact ⟨by simp [covB, max_beq, Bool.and_assoc], (by repeat (first | exact Below.refl _ _ | refine blw_alloc ?_ | refine blw_plus ?_ | refine Below.drew ?_))⟩

def Plus (W wr : World) : Prop := ∃ x, wr = wplus W x
set_option maxHeartbeats 2000000 in
theorem rCovers_any (a0 a1 a2 a3 b0 b1 b2 b3 : Int) (w : World) :
    Calls Try.prog 13 #[.agg #[.int .i64 a0, .int .i64 a1, .int .i64 a2, .int .i64 a3], .agg #[.int .i64 b0, .int .i64 b1, .int .i64 b2, .int .i64 b3]] w
      fun e w' => e = .returned (.bool (covB a0 a1 a2 a3 b0 b1 b2 b3)) ∧ Below w.heap.size w w' := by
  go_enter Try.func13, Try.ntmps13
  go_wp2
  go_loopw [6] (fun u wr => ∃ k : Nat, k ≤ 4 ∧ u = .int .i64 k ∧ (0 < k → b0 ≤ a0) ∧ (1 < k → b1 ≤ a1) ∧ (2 < k → b2 ≤ a2) ∧ (3 < k → b3 ≤ a3) ∧ Plus ((w.alloc (.cells #[.int .i64 a0, .int .i64 a1, .int .i64 a2, .int .i64 a3] 23)).alloc (.cells #[.int .i64 b0, .int .i64 b1, .int .i64 b2, .int .i64 b3] 23)) wr) (fun u _ => 4 - (intOf u).toNat)
  case atStart => exact ⟨0, by omega, rfl, by omega, by omega, by omega, by omega, ⟨#[], w.drawn⟩, by simp [wplus]; rfl⟩
  case round =>
    obtain ⟨k, hk, rfl, h0, h1, h2, h3, x, rfl⟩ := hrel
    obtain rfl | rfl | rfl | rfl | rfl : k = 0 ∨ k = 1 ∨ k = 2 ∨ k = 3 ∨ k = 4 := by omega
    · clear h0 h1 h2 h3
      go_wp2
      refine wp_region_plus (by kernel_rfl) (by kernel_rfl) ?_
      repeat (first | go_big_quiet_skip | (go_big_quiet_want; go_big_quiet_op; first | go_big_quiet_on))
      refine wpQuiet_nil ?_
      rintro _ ⟨x1, rfl⟩
      by_cases h : a0 < b0
      · go_wp2
        go_ret
        exact ⟨by simp [covB]; omega, (by repeat (first | exact Below.refl _ _ | refine blw_alloc ?_ | refine blw_plus ?_ | refine Below.drew ?_))⟩
      · go_wp2
        go_roundw
        case rel => exact ⟨1, by omega, rfl, by omega, by omega, by omega, by omega, ⟨_, wplus_wplus _ _ _⟩⟩
        case measure => simp [intOf]
    · have h0 := h0 (by omega)
      clear h1 h2 h3
      go_wp2
      refine wp_region_plus (by kernel_rfl) (by kernel_rfl) ?_
      repeat (first | go_big_quiet_skip | (go_big_quiet_want; go_big_quiet_op; first | go_big_quiet_on))
      refine wpQuiet_nil ?_
      rintro _ ⟨x1, rfl⟩
      by_cases h : a1 < b1
      · go_wp2
        go_ret
        exact ⟨by simp [covB]; omega, (by repeat (first | exact Below.refl _ _ | refine blw_alloc ?_ | refine blw_plus ?_ | refine Below.drew ?_))⟩
      · go_wp2
        go_roundw
        case rel => exact ⟨2, by omega, rfl, by omega, by omega, by omega, by omega, ⟨_, wplus_wplus _ _ _⟩⟩
        case measure => simp [intOf]
    · have h0 := h0 (by omega); have h1 := h1 (by omega)
      clear h2 h3
      go_wp2
      refine wp_region_plus (by kernel_rfl) (by kernel_rfl) ?_
      repeat (first | go_big_quiet_skip | (go_big_quiet_want; go_big_quiet_op; first | go_big_quiet_on))
      refine wpQuiet_nil ?_
      rintro _ ⟨x1, rfl⟩
      by_cases h : a2 < b2
      · go_wp2
        go_ret
        exact ⟨by simp [covB]; omega, (by repeat (first | exact Below.refl _ _ | refine blw_alloc ?_ | refine blw_plus ?_ | refine Below.drew ?_))⟩
      · go_wp2
        go_roundw
        case rel => exact ⟨3, by omega, rfl, by omega, by omega, by omega, by omega, ⟨_, wplus_wplus _ _ _⟩⟩
        case measure => simp [intOf]
    · have h0 := h0 (by omega); have h1 := h1 (by omega); have h2 := h2 (by omega)
      clear h3
      go_wp2
      refine wp_region_plus (by kernel_rfl) (by kernel_rfl) ?_
      repeat (first | go_big_quiet_skip | (go_big_quiet_want; go_big_quiet_op; first | go_big_quiet_on))
      refine wpQuiet_nil ?_
      rintro _ ⟨x1, rfl⟩
      by_cases h : a3 < b3
      · go_wp2
        go_ret
        exact ⟨by simp [covB]; omega, (by repeat (first | exact Below.refl _ _ | refine blw_alloc ?_ | refine blw_plus ?_ | refine Below.drew ?_))⟩
      · go_wp2
        go_roundw
        case rel => exact ⟨4, by omega, rfl, by omega, by omega, by omega, by omega, ⟨_, wplus_wplus _ _ _⟩⟩
        case measure => simp [intOf]
    · have h0 := h0 (by omega); have h1 := h1 (by omega); have h2 := h2 (by omega); have h3 := h3 (by omega)
      go_wp2
      go_ret
      exact ⟨by simp [covB]; omega, (by repeat (first | exact Below.refl _ _ | refine blw_alloc ?_ | refine blw_plus ?_ | refine Below.drew ?_))⟩

@[go_sem] theorem ix0 (w : World) (a0 a1 a2 a3 : Int) : (Instr.index 23 (.agg #[.int .i64 a0, .int .i64 a1, .int .i64 a2, .int .i64 a3]) (.int .i64 0)).run Try.prog w = .ok (.int .i64 a0) w := by kernel_rfl
@[go_sem] theorem ix1 (w : World) (a0 a1 a2 a3 : Int) : (Instr.index 23 (.agg #[.int .i64 a0, .int .i64 a1, .int .i64 a2, .int .i64 a3]) (.int .i64 1)).run Try.prog w = .ok (.int .i64 a1) w := by kernel_rfl
@[go_sem] theorem ix2 (w : World) (a0 a1 a2 a3 : Int) : (Instr.index 23 (.agg #[.int .i64 a0, .int .i64 a1, .int .i64 a2, .int .i64 a3]) (.int .i64 2)).run Try.prog w = .ok (.int .i64 a2) w := by kernel_rfl
@[go_sem] theorem ix3 (w : World) (a0 a1 a2 a3 : Int) : (Instr.index 23 (.agg #[.int .i64 a0, .int .i64 a1, .int .i64 a2, .int .i64 a3]) (.int .i64 3)).run Try.prog w = .ok (.int .i64 a3) w := by kernel_rfl
set_option maxHeartbeats 400000 in
theorem in_yes (n lo hi : Int) (w : World) (h1 : lo ≤ n) (h2 : n ≤ hi) :
    Calls Try.prog 31 #[.int .i64 n, .int .i64 lo, .int .i64 hi] w fun e w' => e = .returned (.bool true) ∧ w = w' := by
  go_enter Try.func31, Try.ntmps31
  go_wp2
  go_ret
  exact ⟨by simp, rfl⟩
set_option maxHeartbeats 400000 in
theorem in_no (n lo hi : Int) (w : World) (h : n < lo ∨ hi < n) :
    Calls Try.prog 31 #[.int .i64 n, .int .i64 lo, .int .i64 hi] w fun e w' => e = .returned (.bool false) ∧ w = w' := by
  by_cases h1 : n < lo
  · clear h
    go_enter Try.func31, Try.ntmps31
    go_wp2
    go_ret
    exact ⟨by simp, rfl⟩
  · have h2 : hi < n := by omega
    clear h
    go_enter Try.func31, Try.ntmps31
    go_wp2
    go_ret
    exact ⟨by simp; omega, rfl⟩

set_option maxHeartbeats 2000000 in
theorem right_any (a0 a1 a2 a3 : Int) (w : World) :
    Calls Try.prog 14 #[.agg #[.int .i64 a0, .int .i64 a1, .int .i64 a2, .int .i64 a3]] w
      fun e w' => e = .returned (.bool (rgtB a0 a1 a2 a3)) ∧ Below w.heap.size w w' := by
  go_enter Try.func14, Try.ntmps14
  go_wp2
  refine wp_loop_rounds 5 ?_
  rw [rounds_succ]
  by_cases p0 : a0 < 0
  · go_wp2
    all_goals go_ret
    all_goals exact ⟨by simp [rgtB]; omega, (by repeat (first | exact Below.refl _ _ | refine blw_alloc ?_ | refine blw_plus ?_ | refine Below.drew ?_))⟩
  by_cases q0 : 1099511627776 < a0
  · go_wp2
    all_goals go_ret
    all_goals exact ⟨by simp [rgtB]; omega, (by repeat (first | exact Below.refl _ _ | refine blw_alloc ?_ | refine blw_plus ?_ | refine Below.drew ?_))⟩
  go_wp2
  rw [rounds_succ]
  by_cases p1 : a1 < 0
  · go_wp2
    all_goals go_ret
    all_goals exact ⟨by simp [rgtB]; omega, (by repeat (first | exact Below.refl _ _ | refine blw_alloc ?_ | refine blw_plus ?_ | refine Below.drew ?_))⟩
  by_cases q1 : 1099511627776 < a1
  · go_wp2
    all_goals go_ret
    all_goals exact ⟨by simp [rgtB]; omega, (by repeat (first | exact Below.refl _ _ | refine blw_alloc ?_ | refine blw_plus ?_ | refine Below.drew ?_))⟩
  go_wp2
  rw [rounds_succ]
  by_cases p2 : a2 < 0
  · go_wp2
    all_goals go_ret
    all_goals exact ⟨by simp [rgtB]; omega, (by repeat (first | exact Below.refl _ _ | refine blw_alloc ?_ | refine blw_plus ?_ | refine Below.drew ?_))⟩
  by_cases q2 : 1099511627776 < a2
  · go_wp2
    all_goals go_ret
    all_goals exact ⟨by simp [rgtB]; omega, (by repeat (first | exact Below.refl _ _ | refine blw_alloc ?_ | refine blw_plus ?_ | refine Below.drew ?_))⟩
  go_wp2
  rw [rounds_succ]
  by_cases p3 : a3 < 0
  · go_wp2
    all_goals go_ret
    all_goals exact ⟨by simp [rgtB]; omega, (by repeat (first | exact Below.refl _ _ | refine blw_alloc ?_ | refine blw_plus ?_ | refine Below.drew ?_))⟩
  by_cases q3 : 1099511627776 < a3
  · go_wp2
    all_goals go_ret
    all_goals exact ⟨by simp [rgtB]; omega, (by repeat (first | exact Below.refl _ _ | refine blw_alloc ?_ | refine blw_plus ?_ | refine Below.drew ?_))⟩
  go_wp2
  rw [rounds_succ]
  go_wp2
  go_ret
  exact ⟨by simp [rgtB]; omega, (by repeat (first | exact Below.refl _ _ | refine blw_alloc ?_ | refine blw_plus ?_ | refine Below.drew ?_))⟩

set_option maxHeartbeats 2000000 in
theorem rRight_any (a0 a1 a2 a3 : Int) (w : World) :
    Calls Try.prog 15 #[.agg #[.int .i64 a0, .int .i64 a1, .int .i64 a2, .int .i64 a3]] w
      fun e w' => e = .returned (.bool (rgtB a0 a1 a2 a3)) ∧ Below w.heap.size w w' := by
  go_enter Try.func15, Try.ntmps15
  go_wp2
  refine wp_loop_rounds 5 ?_
  rw [rounds_succ]
  by_cases p0 : a0 < 0
  · go_wp2_with (go_at_call 31; refine (in_no _ _ _ _ (by omega)).mono ?_; rintro e w' ⟨rfl, rfl⟩)
    all_goals go_ret
    all_goals exact ⟨by simp [rgtB]; omega, (by repeat (first | exact Below.refl _ _ | refine blw_alloc ?_ | refine blw_plus ?_ | refine Below.drew ?_))⟩
  by_cases q0 : 1099511627776 < a0
  · go_wp2_with (go_at_call 31; refine (in_no _ _ _ _ (by omega)).mono ?_; rintro e w' ⟨rfl, rfl⟩)
    all_goals go_ret
    all_goals exact ⟨by simp [rgtB]; omega, (by repeat (first | exact Below.refl _ _ | refine blw_alloc ?_ | refine blw_plus ?_ | refine Below.drew ?_))⟩
  go_wp2_with (go_at_call 31; refine (in_yes _ _ _ _ (by omega) (by omega)).mono ?_; rintro e w' ⟨rfl, rfl⟩)
  rw [rounds_succ]
  by_cases p1 : a1 < 0
  · go_wp2_with (go_at_call 31; refine (in_no _ _ _ _ (by omega)).mono ?_; rintro e w' ⟨rfl, rfl⟩)
    all_goals go_ret
    all_goals exact ⟨by simp [rgtB]; omega, (by repeat (first | exact Below.refl _ _ | refine blw_alloc ?_ | refine blw_plus ?_ | refine Below.drew ?_))⟩
  by_cases q1 : 1099511627776 < a1
  · go_wp2_with (go_at_call 31; refine (in_no _ _ _ _ (by omega)).mono ?_; rintro e w' ⟨rfl, rfl⟩)
    all_goals go_ret
    all_goals exact ⟨by simp [rgtB]; omega, (by repeat (first | exact Below.refl _ _ | refine blw_alloc ?_ | refine blw_plus ?_ | refine Below.drew ?_))⟩
  go_wp2_with (go_at_call 31; refine (in_yes _ _ _ _ (by omega) (by omega)).mono ?_; rintro e w' ⟨rfl, rfl⟩)
  rw [rounds_succ]
  by_cases p2 : a2 < 0
  · go_wp2_with (go_at_call 31; refine (in_no _ _ _ _ (by omega)).mono ?_; rintro e w' ⟨rfl, rfl⟩)
    all_goals go_ret
    all_goals exact ⟨by simp [rgtB]; omega, (by repeat (first | exact Below.refl _ _ | refine blw_alloc ?_ | refine blw_plus ?_ | refine Below.drew ?_))⟩
  by_cases q2 : 1099511627776 < a2
  · go_wp2_with (go_at_call 31; refine (in_no _ _ _ _ (by omega)).mono ?_; rintro e w' ⟨rfl, rfl⟩)
    all_goals go_ret
    all_goals exact ⟨by simp [rgtB]; omega, (by repeat (first | exact Below.refl _ _ | refine blw_alloc ?_ | refine blw_plus ?_ | refine Below.drew ?_))⟩
  go_wp2_with (go_at_call 31; refine (in_yes _ _ _ _ (by omega) (by omega)).mono ?_; rintro e w' ⟨rfl, rfl⟩)
  rw [rounds_succ]
  by_cases p3 : a3 < 0
  · go_wp2_with (go_at_call 31; refine (in_no _ _ _ _ (by omega)).mono ?_; rintro e w' ⟨rfl, rfl⟩)
    all_goals go_ret
    all_goals exact ⟨by simp [rgtB]; omega, (by repeat (first | exact Below.refl _ _ | refine blw_alloc ?_ | refine blw_plus ?_ | refine Below.drew ?_))⟩
  by_cases q3 : 1099511627776 < a3
  · go_wp2_with (go_at_call 31; refine (in_no _ _ _ _ (by omega)).mono ?_; rintro e w' ⟨rfl, rfl⟩)
    all_goals go_ret
    all_goals exact ⟨by simp [rgtB]; omega, (by repeat (first | exact Below.refl _ _ | refine blw_alloc ?_ | refine blw_plus ?_ | refine Below.drew ?_))⟩
  go_wp2_with (go_at_call 31; refine (in_yes _ _ _ _ (by omega) (by omega)).mono ?_; rintro e w' ⟨rfl, rfl⟩)
  rw [rounds_succ]
  go_wp2
  go_ret
  exact ⟨by simp [rgtB]; omega, (by repeat (first | exact Below.refl _ _ | refine blw_alloc ?_ | refine blw_plus ?_ | refine Below.drew ?_))⟩
end Go.Proofs.Ytbopfhbeegkkaaa
