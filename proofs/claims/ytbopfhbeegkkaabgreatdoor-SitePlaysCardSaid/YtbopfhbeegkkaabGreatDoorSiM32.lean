/- Part 32 of a proof: lemmas and contracts that other parts use. -/
import Derived.Test.YtbopfhbeegkkaabGreatDoorSiM18
import Derived.Test.YtbopfhbeegkkaabGreatDoorSiM20
set_option linter.unusedVariables false
set_option linter.unusedSimpArgs false
namespace Go.Proofs.YtbopfhbeegkkaabGreatDoor
open Go.RowKit

set_option maxHeartbeats 400000 in
theorem min1_any (a b : Int) (w : World) :
    Calls Tryz.prog 140 #[.int .i64 a, .int .i64 b] w fun e w' => e = .returned (.int .i64 (min a b)) ∧ w = w' := by
  rcases Int.le_total a b with h | h
  · rw [Int.min_eq_left h]
    by_cases h1 : a < b
    all_goals
      go_enter Tryz.func140, Tryz.ntmps140
      go_wp2
      all_goals go_ret
      all_goals exact ⟨by simp; try omega, rfl⟩
  · rw [Int.min_eq_right h]
    by_cases h1 : b < a
    all_goals
      go_enter Tryz.func140, Tryz.ntmps140
      go_wp2
      all_goals go_ret
      all_goals exact ⟨by simp; try omega, rfl⟩

set_option maxHeartbeats 1000000 in
theorem eachMin_any (a0 a1 a2 a3 b0 b1 b2 b3 : Int) (w : World) :
    Calls Tryz.prog 138 #[.agg #[.int .i64 a0, .int .i64 a1, .int .i64 a2, .int .i64 a3], .agg #[.int .i64 b0, .int .i64 b1, .int .i64 b2, .int .i64 b3], .func (.func 140) #[] #[]] w
      fun e w' => e = .returned (.agg #[.int .i64 (min a0 b0), .int .i64 (min a1 b1), .int .i64 (min a2 b2), .int .i64 (min a3 b3)]) ∧ Below w.heap.size w w' := by
  go_enter Tryz.func138, Tryz.ntmps138
  go_wp2
  refine wp_loop_rounds 5 ?_
  rw [rounds_succ]
  go_wp2
  refine wp_region_plus_tail 10 (by kernel_rfl) (by kernel_rfl) ?_
  simp only [List.take_succ_cons, List.take_zero, List.drop_succ_cons, List.drop_zero]
  repeat (first | go_big_quiet_skip | (go_big_quiet_want; go_big_quiet_op; first | go_big_quiet_on | (apply Exists.intro; refine ⟨fun _ => Calls.plus_same (min1_any _ _ _), ?_⟩; go_big_quiet_on)))
  refine wpQuiet_nil ?_
  rintro _ ⟨x0, rfl⟩
  go_wp2
  rw [rounds_succ]
  go_wp2
  refine wp_region_plus_tail 10 (by kernel_rfl) (by kernel_rfl) ?_
  simp only [List.take_succ_cons, List.take_zero, List.drop_succ_cons, List.drop_zero]
  repeat (first | go_big_quiet_skip | (go_big_quiet_want; go_big_quiet_op; first | go_big_quiet_on | (apply Exists.intro; refine ⟨fun _ => Calls.plus_same (min1_any _ _ _), ?_⟩; go_big_quiet_on)))
  refine wpQuiet_nil ?_
  rintro _ ⟨x1, rfl⟩
  go_wp2
  rw [rounds_succ]
  go_wp2
  refine wp_region_plus_tail 10 (by kernel_rfl) (by kernel_rfl) ?_
  simp only [List.take_succ_cons, List.take_zero, List.drop_succ_cons, List.drop_zero]
  repeat (first | go_big_quiet_skip | (go_big_quiet_want; go_big_quiet_op; first | go_big_quiet_on | (apply Exists.intro; refine ⟨fun _ => Calls.plus_same (min1_any _ _ _), ?_⟩; go_big_quiet_on)))
  refine wpQuiet_nil ?_
  rintro _ ⟨x2, rfl⟩
  go_wp2
  rw [rounds_succ]
  go_wp2
  refine wp_region_plus_tail 10 (by kernel_rfl) (by kernel_rfl) ?_
  simp only [List.take_succ_cons, List.take_zero, List.drop_succ_cons, List.drop_zero]
  repeat (first | go_big_quiet_skip | (go_big_quiet_want; go_big_quiet_op; first | go_big_quiet_on | (apply Exists.intro; refine ⟨fun _ => Calls.plus_same (min1_any _ _ _), ?_⟩; go_big_quiet_on)))
  refine wpQuiet_nil ?_
  rintro _ ⟨x3, rfl⟩
  go_wp2
  rw [rounds_succ]
  go_wp2
  exact bodyPost_ret (v := .agg #[.int .i64 (min a0 b0), .int .i64 (min a1 b1), .int .i64 (min a2 b2), .int .i64 (min a3 b3)]) (by simp [results, Tryz.results138, go_sem]) rfl ⟨rfl, (by repeat (first | exact Below.refl _ _ | refine blw_alloc ?_ | refine blw_plus ?_ | refine Below.drew ?_))⟩

set_option maxHeartbeats 400000 in
theorem vMin_any (a0 a1 a2 a3 b0 b1 b2 b3 : Int) (w : World) :
    Calls Tryz.prog 89 #[.agg #[.int .i64 a0, .int .i64 a1, .int .i64 a2, .int .i64 a3], .agg #[.int .i64 b0, .int .i64 b1, .int .i64 b2, .int .i64 b3]] w
      fun e w' => e = .returned (.agg #[.int .i64 (min a0 b0), .int .i64 (min a1 b1), .int .i64 (min a2 b2), .int .i64 (min a3 b3)]) ∧ Below w.heap.size w w' := by
  go_enter Tryz.func89, Tryz.ntmps89
  go_wp2_with (go_at_call 138; refine (eachMin_any _ _ _ _ _ _ _ _ _).mono ?_; rintro e w' ⟨rfl, hb⟩; obtain ⟨x, rfl⟩ := wplus_of_below hb; clear hb)
  exact bodyPost_ret (v := .agg #[.int .i64 (min a0 b0), .int .i64 (min a1 b1), .int .i64 (min a2 b2), .int .i64 (min a3 b3)]) (by simp [results, Tryz.results89, go_sem]) rfl ⟨rfl, (by repeat (first | exact Below.refl _ _ | refine blw_alloc ?_ | refine blw_plus ?_ | refine Below.drew ?_))⟩
def mmax (k j : Nat) (a b : Int) : Int := if j < k then max a b else a
def Rmax (w : World) (a0 a1 a2 a3 b0 b1 b2 b3 : Int) (k : Nat) (wr : World) : Prop := ∃ x, wr = wplus (((w.alloc (.cells #[.int .i64 (mmax k 0 a0 b0), .int .i64 (mmax k 1 a1 b1), .int .i64 (mmax k 2 a2 b2), .int .i64 (mmax k 3 a3 b3)] 32)).alloc (.cells #[.int .i64 b0, .int .i64 b1, .int .i64 b2, .int .i64 b3] 32)).alloc (.cells #[.int .i64 0, .int .i64 0, .int .i64 0, .int .i64 0] 32)) x
set_option maxHeartbeats 2000000 in
theorem rMax_any (a0 a1 a2 a3 b0 b1 b2 b3 : Int) (w : World) :
    Calls Tryz.prog 19 #[.agg #[.int .i64 a0, .int .i64 a1, .int .i64 a2, .int .i64 a3], .agg #[.int .i64 b0, .int .i64 b1, .int .i64 b2, .int .i64 b3]] w
      fun e w' => e = .returned (.agg #[.int .i64 (max a0 b0), .int .i64 (max a1 b1), .int .i64 (max a2 b2), .int .i64 (max a3 b3)]) ∧ Below w.heap.size w w' := by
  go_enter Tryz.func19, Tryz.ntmps19
  go_wp2
  go_loopw [6] (fun u wr => ∃ k : Nat, k ≤ 4 ∧ u = .int .i64 k ∧ Rmax w a0 a1 a2 a3 b0 b1 b2 b3 k wr) (fun u _ => 4 - (intOf u).toNat)
  case atStart => exact ⟨0, by omega, rfl, ⟨#[], w.drawn⟩, by simp [wplus, mmax]; rfl⟩
  case round =>
    obtain ⟨k, hk, rfl, x, rfl⟩ := hrel
    obtain rfl | rfl | rfl | rfl | rfl : k = 0 ∨ k = 1 ∨ k = 2 ∨ k = 3 ∨ k = 4 := by omega
    · simp only [mmax, Nat.reduceLT, if_true, if_false]
      go_wp2
      refine wp_region_plus (by kernel_rfl) (by kernel_rfl) ?_
      repeat (first | go_big_quiet_skip | (go_big_quiet_want; go_big_quiet_op;  go_big_quiet_on))
      refine wpQuiet_nil ?_
      rintro _ ⟨x1, rfl⟩
      by_cases h : a0 < b0
      · go_wp2
        go_roundw
        case rel => exact ⟨1, by omega, rfl, ⟨_, by rw [wplus_wplus]; simp only [mmax, Nat.reduceLT, if_true, if_false, show max a0 b0 = b0 by omega]; rfl⟩⟩
        case measure => simp [intOf]
      · go_wp2
        go_roundw
        case rel => exact ⟨1, by omega, rfl, ⟨_, by rw [wplus_wplus]; simp only [mmax, Nat.reduceLT, if_true, if_false, show max a0 b0 = a0 by omega]; rfl⟩⟩
        case measure => simp [intOf]
    · simp only [mmax, Nat.reduceLT, if_true, if_false]
      go_wp2
      refine wp_region_plus (by kernel_rfl) (by kernel_rfl) ?_
      repeat (first | go_big_quiet_skip | (go_big_quiet_want; go_big_quiet_op;  go_big_quiet_on))
      refine wpQuiet_nil ?_
      rintro _ ⟨x1, rfl⟩
      by_cases h : a1 < b1
      · go_wp2
        go_roundw
        case rel => exact ⟨2, by omega, rfl, ⟨_, by rw [wplus_wplus]; simp only [mmax, Nat.reduceLT, if_true, if_false, show max a1 b1 = b1 by omega]; rfl⟩⟩
        case measure => simp [intOf]
      · go_wp2
        go_roundw
        case rel => exact ⟨2, by omega, rfl, ⟨_, by rw [wplus_wplus]; simp only [mmax, Nat.reduceLT, if_true, if_false, show max a1 b1 = a1 by omega]; rfl⟩⟩
        case measure => simp [intOf]
    · simp only [mmax, Nat.reduceLT, if_true, if_false]
      go_wp2
      refine wp_region_plus (by kernel_rfl) (by kernel_rfl) ?_
      repeat (first | go_big_quiet_skip | (go_big_quiet_want; go_big_quiet_op;  go_big_quiet_on))
      refine wpQuiet_nil ?_
      rintro _ ⟨x1, rfl⟩
      by_cases h : a2 < b2
      · go_wp2
        go_roundw
        case rel => exact ⟨3, by omega, rfl, ⟨_, by rw [wplus_wplus]; simp only [mmax, Nat.reduceLT, if_true, if_false, show max a2 b2 = b2 by omega]; rfl⟩⟩
        case measure => simp [intOf]
      · go_wp2
        go_roundw
        case rel => exact ⟨3, by omega, rfl, ⟨_, by rw [wplus_wplus]; simp only [mmax, Nat.reduceLT, if_true, if_false, show max a2 b2 = a2 by omega]; rfl⟩⟩
        case measure => simp [intOf]
    · simp only [mmax, Nat.reduceLT, if_true, if_false]
      go_wp2
      refine wp_region_plus (by kernel_rfl) (by kernel_rfl) ?_
      repeat (first | go_big_quiet_skip | (go_big_quiet_want; go_big_quiet_op;  go_big_quiet_on))
      refine wpQuiet_nil ?_
      rintro _ ⟨x1, rfl⟩
      by_cases h : a3 < b3
      · go_wp2
        go_roundw
        case rel => exact ⟨4, by omega, rfl, ⟨_, by rw [wplus_wplus]; simp only [mmax, Nat.reduceLT, if_true, if_false, show max a3 b3 = b3 by omega]; rfl⟩⟩
        case measure => simp [intOf]
      · go_wp2
        go_roundw
        case rel => exact ⟨4, by omega, rfl, ⟨_, by rw [wplus_wplus]; simp only [mmax, Nat.reduceLT, if_true, if_false, show max a3 b3 = a3 by omega]; rfl⟩⟩
        case measure => simp [intOf]
    · simp only [mmax, Nat.reduceLT, if_true, if_false]
      go_wp2
      exact bodyPost_ret (v := .agg #[.int .i64 (max a0 b0), .int .i64 (max a1 b1), .int .i64 (max a2 b2), .int .i64 (max a3 b3)]) (by simp [results, Tryz.results19, go_sem]) rfl ⟨rfl, (by repeat (first | exact Below.refl _ _ | refine blw_alloc ?_ | refine blw_plus ?_ | refine Below.drew ?_))⟩

def mmin (k j : Nat) (a b : Int) : Int := if j < k then min a b else a
def Rmin (w : World) (a0 a1 a2 a3 b0 b1 b2 b3 : Int) (k : Nat) (wr : World) : Prop := ∃ x, wr = wplus (((w.alloc (.cells #[.int .i64 (mmin k 0 a0 b0), .int .i64 (mmin k 1 a1 b1), .int .i64 (mmin k 2 a2 b2), .int .i64 (mmin k 3 a3 b3)] 32)).alloc (.cells #[.int .i64 b0, .int .i64 b1, .int .i64 b2, .int .i64 b3] 32)).alloc (.cells #[.int .i64 0, .int .i64 0, .int .i64 0, .int .i64 0] 32)) x
set_option maxHeartbeats 2000000 in
theorem rMin_any (a0 a1 a2 a3 b0 b1 b2 b3 : Int) (w : World) :
    Calls Tryz.prog 23 #[.agg #[.int .i64 a0, .int .i64 a1, .int .i64 a2, .int .i64 a3], .agg #[.int .i64 b0, .int .i64 b1, .int .i64 b2, .int .i64 b3]] w
      fun e w' => e = .returned (.agg #[.int .i64 (min a0 b0), .int .i64 (min a1 b1), .int .i64 (min a2 b2), .int .i64 (min a3 b3)]) ∧ Below w.heap.size w w' := by
  go_enter Tryz.func23, Tryz.ntmps23
  go_wp2
  go_loopw [6] (fun u wr => ∃ k : Nat, k ≤ 4 ∧ u = .int .i64 k ∧ Rmin w a0 a1 a2 a3 b0 b1 b2 b3 k wr) (fun u _ => 4 - (intOf u).toNat)
  case atStart => exact ⟨0, by omega, rfl, ⟨#[], w.drawn⟩, by simp [wplus, mmin]; rfl⟩
  case round =>
    obtain ⟨k, hk, rfl, x, rfl⟩ := hrel
    obtain rfl | rfl | rfl | rfl | rfl : k = 0 ∨ k = 1 ∨ k = 2 ∨ k = 3 ∨ k = 4 := by omega
    · simp only [mmin, Nat.reduceLT, if_true, if_false]
      go_wp2
      refine wp_region_plus (by kernel_rfl) (by kernel_rfl) ?_
      repeat (first | go_big_quiet_skip | (go_big_quiet_want; go_big_quiet_op;  go_big_quiet_on))
      refine wpQuiet_nil ?_
      rintro _ ⟨x1, rfl⟩
      by_cases h : b0 < a0
      · go_wp2
        go_roundw
        case rel => exact ⟨1, by omega, rfl, ⟨_, by rw [wplus_wplus]; simp only [mmin, Nat.reduceLT, if_true, if_false, show min a0 b0 = b0 by omega]; rfl⟩⟩
        case measure => simp [intOf]
      · go_wp2
        go_roundw
        case rel => exact ⟨1, by omega, rfl, ⟨_, by rw [wplus_wplus]; simp only [mmin, Nat.reduceLT, if_true, if_false, show min a0 b0 = a0 by omega]; rfl⟩⟩
        case measure => simp [intOf]
    · simp only [mmin, Nat.reduceLT, if_true, if_false]
      go_wp2
      refine wp_region_plus (by kernel_rfl) (by kernel_rfl) ?_
      repeat (first | go_big_quiet_skip | (go_big_quiet_want; go_big_quiet_op;  go_big_quiet_on))
      refine wpQuiet_nil ?_
      rintro _ ⟨x1, rfl⟩
      by_cases h : b1 < a1
      · go_wp2
        go_roundw
        case rel => exact ⟨2, by omega, rfl, ⟨_, by rw [wplus_wplus]; simp only [mmin, Nat.reduceLT, if_true, if_false, show min a1 b1 = b1 by omega]; rfl⟩⟩
        case measure => simp [intOf]
      · go_wp2
        go_roundw
        case rel => exact ⟨2, by omega, rfl, ⟨_, by rw [wplus_wplus]; simp only [mmin, Nat.reduceLT, if_true, if_false, show min a1 b1 = a1 by omega]; rfl⟩⟩
        case measure => simp [intOf]
    · simp only [mmin, Nat.reduceLT, if_true, if_false]
      go_wp2
      refine wp_region_plus (by kernel_rfl) (by kernel_rfl) ?_
      repeat (first | go_big_quiet_skip | (go_big_quiet_want; go_big_quiet_op;  go_big_quiet_on))
      refine wpQuiet_nil ?_
      rintro _ ⟨x1, rfl⟩
      by_cases h : b2 < a2
      · go_wp2
        go_roundw
        case rel => exact ⟨3, by omega, rfl, ⟨_, by rw [wplus_wplus]; simp only [mmin, Nat.reduceLT, if_true, if_false, show min a2 b2 = b2 by omega]; rfl⟩⟩
        case measure => simp [intOf]
      · go_wp2
        go_roundw
        case rel => exact ⟨3, by omega, rfl, ⟨_, by rw [wplus_wplus]; simp only [mmin, Nat.reduceLT, if_true, if_false, show min a2 b2 = a2 by omega]; rfl⟩⟩
        case measure => simp [intOf]
    · simp only [mmin, Nat.reduceLT, if_true, if_false]
      go_wp2
      refine wp_region_plus (by kernel_rfl) (by kernel_rfl) ?_
      repeat (first | go_big_quiet_skip | (go_big_quiet_want; go_big_quiet_op;  go_big_quiet_on))
      refine wpQuiet_nil ?_
      rintro _ ⟨x1, rfl⟩
      by_cases h : b3 < a3
      · go_wp2
        go_roundw
        case rel => exact ⟨4, by omega, rfl, ⟨_, by rw [wplus_wplus]; simp only [mmin, Nat.reduceLT, if_true, if_false, show min a3 b3 = b3 by omega]; rfl⟩⟩
        case measure => simp [intOf]
      · go_wp2
        go_roundw
        case rel => exact ⟨4, by omega, rfl, ⟨_, by rw [wplus_wplus]; simp only [mmin, Nat.reduceLT, if_true, if_false, show min a3 b3 = a3 by omega]; rfl⟩⟩
        case measure => simp [intOf]
    · simp only [mmin, Nat.reduceLT, if_true, if_false]
      go_wp2
      exact bodyPost_ret (v := .agg #[.int .i64 (min a0 b0), .int .i64 (min a1 b1), .int .i64 (min a2 b2), .int .i64 (min a3 b3)]) (by simp [results, Tryz.results23, go_sem]) rfl ⟨rfl, (by repeat (first | exact Below.refl _ _ | refine blw_alloc ?_ | refine blw_plus ?_ | refine Below.drew ?_))⟩
def covB (a0 a1 a2 a3 b0 b1 b2 b3 : Int) : Bool := decide (b0 ≤ a0) && decide (b1 ≤ a1) && decide (b2 ≤ a2) && decide (b3 ≤ a3)
def Plus (W wr : World) : Prop := ∃ x, wr = wplus W x
set_option maxHeartbeats 2000000 in
theorem rCovers_any (a0 a1 a2 a3 b0 b1 b2 b3 : Int) (w : World) :
    Calls Tryz.prog 73 #[.agg #[.int .i64 a0, .int .i64 a1, .int .i64 a2, .int .i64 a3], .agg #[.int .i64 b0, .int .i64 b1, .int .i64 b2, .int .i64 b3]] w
      fun e w' => e = .returned (.bool (covB a0 a1 a2 a3 b0 b1 b2 b3)) ∧ Below w.heap.size w w' := by
  go_enter Tryz.func73, Tryz.ntmps73
  go_wp2
  go_loopw [6] (fun u wr => ∃ k : Nat, k ≤ 4 ∧ u = .int .i64 k ∧ (0 < k → b0 ≤ a0) ∧ (1 < k → b1 ≤ a1) ∧ (2 < k → b2 ≤ a2) ∧ (3 < k → b3 ≤ a3) ∧ Plus ((w.alloc (.cells #[.int .i64 a0, .int .i64 a1, .int .i64 a2, .int .i64 a3] 32)).alloc (.cells #[.int .i64 b0, .int .i64 b1, .int .i64 b2, .int .i64 b3] 32)) wr) (fun u _ => 4 - (intOf u).toNat)
  case atStart => exact ⟨0, by omega, rfl, by omega, by omega, by omega, by omega, ⟨#[], w.drawn⟩, by simp [wplus]; rfl⟩
  case round =>
    obtain ⟨k, hk, rfl, h0, h1, h2, h3, x, rfl⟩ := hrel
    obtain rfl | rfl | rfl | rfl | rfl : k = 0 ∨ k = 1 ∨ k = 2 ∨ k = 3 ∨ k = 4 := by omega
    · clear h0 h1 h2 h3
      go_wp2
      refine wp_region_plus (by kernel_rfl) (by kernel_rfl) ?_
      repeat (first | go_big_quiet_skip | (go_big_quiet_want; go_big_quiet_op; first | go_big_quiet_on))
      refine wpQuiet_nil ?_
      rintro _ ⟨x1, rfl⟩
      by_cases h : a0 < b0
      · go_wp2
        go_ret
        exact ⟨by simp [covB]; omega, (by repeat (first | exact Below.refl _ _ | refine blw_alloc ?_ | refine blw_plus ?_ | refine Below.drew ?_))⟩
      · go_wp2
        go_roundw
        case rel => exact ⟨1, by omega, rfl, by omega, by omega, by omega, by omega, ⟨_, wplus_wplus _ _ _⟩⟩
        case measure => simp [intOf]
    · have h0 := h0 (by omega)
      clear h1 h2 h3
      go_wp2
      refine wp_region_plus (by kernel_rfl) (by kernel_rfl) ?_
      repeat (first | go_big_quiet_skip | (go_big_quiet_want; go_big_quiet_op; first | go_big_quiet_on))
      refine wpQuiet_nil ?_
      rintro _ ⟨x1, rfl⟩
      by_cases h : a1 < b1
      · go_wp2
        go_ret
        exact ⟨by simp [covB]; omega, (by repeat (first | exact Below.refl _ _ | refine blw_alloc ?_ | refine blw_plus ?_ | refine Below.drew ?_))⟩
      · go_wp2
        go_roundw
        case rel => exact ⟨2, by omega, rfl, by omega, by omega, by omega, by omega, ⟨_, wplus_wplus _ _ _⟩⟩
        case measure => simp [intOf]
    · have h0 := h0 (by omega); have h1 := h1 (by omega)
      clear h2 h3
      go_wp2
      refine wp_region_plus (by kernel_rfl) (by kernel_rfl) ?_
      repeat (first | go_big_quiet_skip | (go_big_quiet_want; go_big_quiet_op; first | go_big_quiet_on))
      refine wpQuiet_nil ?_
      rintro _ ⟨x1, rfl⟩
      by_cases h : a2 < b2
      · go_wp2
        go_ret
        exact ⟨by simp [covB]; omega, (by repeat (first | exact Below.refl _ _ | refine blw_alloc ?_ | refine blw_plus ?_ | refine Below.drew ?_))⟩
      · go_wp2
        go_roundw
        case rel => exact ⟨3, by omega, rfl, by omega, by omega, by omega, by omega, ⟨_, wplus_wplus _ _ _⟩⟩
        case measure => simp [intOf]
    · have h0 := h0 (by omega); have h1 := h1 (by omega); have h2 := h2 (by omega)
      clear h3
      go_wp2
      refine wp_region_plus (by kernel_rfl) (by kernel_rfl) ?_
      repeat (first | go_big_quiet_skip | (go_big_quiet_want; go_big_quiet_op; first | go_big_quiet_on))
      refine wpQuiet_nil ?_
      rintro _ ⟨x1, rfl⟩
      by_cases h : a3 < b3
      · go_wp2
        go_ret
        exact ⟨by simp [covB]; omega, (by repeat (first | exact Below.refl _ _ | refine blw_alloc ?_ | refine blw_plus ?_ | refine Below.drew ?_))⟩
      · go_wp2
        go_roundw
        case rel => exact ⟨4, by omega, rfl, by omega, by omega, by omega, by omega, ⟨_, wplus_wplus _ _ _⟩⟩
        case measure => simp [intOf]
    · have h0 := h0 (by omega); have h1 := h1 (by omega); have h2 := h2 (by omega); have h3 := h3 (by omega)
      go_wp2
      go_ret
      exact ⟨by simp [covB]; omega, (by repeat (first | exact Below.refl _ _ | refine blw_alloc ?_ | refine blw_plus ?_ | refine Below.drew ?_))⟩

end Go.Proofs.YtbopfhbeegkkaabGreatDoor
