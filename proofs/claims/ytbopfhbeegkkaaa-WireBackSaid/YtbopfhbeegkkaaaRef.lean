import Derived.Test.YtbopfhbeegkkaaaVec
namespace Go.Proofs.Ytbopfhbeegkkaaa
open Go.RowKit

def mmax (k j : Nat) (a b : Int) : Int := if j < k then max a b else a
def Rmax (w : World) (a0 a1 a2 a3 b0 b1 b2 b3 : Int) (k : Nat) (wr : World) : Prop := ∃ x, wr = wplus (((w.alloc (.cells #[.int .i64 (mmax k 0 a0 b0), .int .i64 (mmax k 1 a1 b1), .int .i64 (mmax k 2 a2 b2), .int .i64 (mmax k 3 a3 b3)] 23)).alloc (.cells #[.int .i64 b0, .int .i64 b1, .int .i64 b2, .int .i64 b3] 23)).alloc (.cells #[.int .i64 0, .int .i64 0, .int .i64 0, .int .i64 0] 23)) x
set_option maxHeartbeats 2000000 in
theorem rMax_any (a0 a1 a2 a3 b0 b1 b2 b3 : Int) (w : World) :
    Calls Try.prog 11 #[.agg #[.int .i64 a0, .int .i64 a1, .int .i64 a2, .int .i64 a3], .agg #[.int .i64 b0, .int .i64 b1, .int .i64 b2, .int .i64 b3]] w
      fun e w' => e = .returned (.agg #[.int .i64 (max a0 b0), .int .i64 (max a1 b1), .int .i64 (max a2 b2), .int .i64 (max a3 b3)]) ∧ Below w.heap.size w w' := by
  go_enter Try.func11, Try.ntmps11
  go_wp2
  go_loopw [6] (fun u wr => ∃ k : Nat, k ≤ 4 ∧ u = .int .i64 k ∧ Rmax w a0 a1 a2 a3 b0 b1 b2 b3 k wr) (fun u _ => 4 - (intOf u).toNat)
  case atStart => exact ⟨0, by omega, rfl, ⟨#[], w.drawn⟩, by simp [wplus, mmax]; rfl⟩
  case round =>
    obtain ⟨k, hk, rfl, x, rfl⟩ := hrel
    obtain rfl | rfl | rfl | rfl | rfl : k = 0 ∨ k = 1 ∨ k = 2 ∨ k = 3 ∨ k = 4 := by omega
    · simp only [mmax, Nat.reduceLT, if_true, if_false]
      go_wp2
      refine wp_region_plus (by kernel_rfl) (by kernel_rfl) ?_
      repeat (first | go_big_quiet_skip | (go_big_quiet_want; go_big_quiet_op;  go_big_quiet_on))
      refine wpQuiet_nil ?_
      rintro _ ⟨x1, rfl⟩
      by_cases h : a0 < b0
      · go_wp2
        go_roundw
        case rel => exact ⟨1, by omega, rfl, ⟨_, by rw [wplus_wplus]; simp only [mmax, Nat.reduceLT, if_true, if_false, show max a0 b0 = b0 by omega]; rfl⟩⟩
        case measure => simp [intOf]
      · go_wp2
        go_roundw
        case rel => exact ⟨1, by omega, rfl, ⟨_, by rw [wplus_wplus]; simp only [mmax, Nat.reduceLT, if_true, if_false, show max a0 b0 = a0 by omega]; rfl⟩⟩
        case measure => simp [intOf]
    · simp only [mmax, Nat.reduceLT, if_true, if_false]
      go_wp2
      refine wp_region_plus (by kernel_rfl) (by kernel_rfl) ?_
      repeat (first | go_big_quiet_skip | (go_big_quiet_want; go_big_quiet_op;  go_big_quiet_on))
      refine wpQuiet_nil ?_
      rintro _ ⟨x1, rfl⟩
      by_cases h : a1 < b1
      · go_wp2
        go_roundw
        case rel => exact ⟨2, by omega, rfl, ⟨_, by rw [wplus_wplus]; simp only [mmax, Nat.reduceLT, if_true, if_false, show max a1 b1 = b1 by omega]; rfl⟩⟩
        case measure => simp [intOf]
      · go_wp2
        go_roundw
        case rel => exact ⟨2, by omega, rfl, ⟨_, by rw [wplus_wplus]; simp only [mmax, Nat.reduceLT, if_true, if_false, show max a1 b1 = a1 by omega]; rfl⟩⟩
        case measure => simp [intOf]
    · simp only [mmax, Nat.reduceLT, if_true, if_false]
      go_wp2
      refine wp_region_plus (by kernel_rfl) (by kernel_rfl) ?_
      repeat (first | go_big_quiet_skip | (go_big_quiet_want; go_big_quiet_op;  go_big_quiet_on))
      refine wpQuiet_nil ?_
      rintro _ ⟨x1, rfl⟩
      by_cases h : a2 < b2
      · go_wp2
        go_roundw
        case rel => exact ⟨3, by omega, rfl, ⟨_, by rw [wplus_wplus]; simp only [mmax, Nat.reduceLT, if_true, if_false, show max a2 b2 = b2 by omega]; rfl⟩⟩
        case measure => simp [intOf]
      · go_wp2
        go_roundw
        case rel => exact ⟨3, by omega, rfl, ⟨_, by rw [wplus_wplus]; simp only [mmax, Nat.reduceLT, if_true, if_false, show max a2 b2 = a2 by omega]; rfl⟩⟩
        case measure => simp [intOf]
    · simp only [mmax, Nat.reduceLT, if_true, if_false]
      go_wp2
      refine wp_region_plus (by kernel_rfl) (by kernel_rfl) ?_
      repeat (first | go_big_quiet_skip | (go_big_quiet_want; go_big_quiet_op;  go_big_quiet_on))
      refine wpQuiet_nil ?_
      rintro _ ⟨x1, rfl⟩
      by_cases h : a3 < b3
      · go_wp2
        go_roundw
        case rel => exact ⟨4, by omega, rfl, ⟨_, by rw [wplus_wplus]; simp only [mmax, Nat.reduceLT, if_true, if_false, show max a3 b3 = b3 by omega]; rfl⟩⟩
        case measure => simp [intOf]
      · go_wp2
        go_roundw
        case rel => exact ⟨4, by omega, rfl, ⟨_, by rw [wplus_wplus]; simp only [mmax, Nat.reduceLT, if_true, if_false, show max a3 b3 = a3 by omega]; rfl⟩⟩
        case measure => simp [intOf]
    · simp only [mmax, Nat.reduceLT, if_true, if_false]
      go_wp2
      exact bodyPost_ret (v := .agg #[.int .i64 (max a0 b0), .int .i64 (max a1 b1), .int .i64 (max a2 b2), .int .i64 (max a3 b3)]) (by simp [results, Try.results11, go_sem]) rfl ⟨rfl, (by repeat (first | exact Below.refl _ _ | refine blw_alloc ?_ | refine blw_plus ?_ | refine Below.drew ?_))⟩

def mmin (k j : Nat) (a b : Int) : Int := if j < k then min a b else a
def Rmin (w : World) (a0 a1 a2 a3 b0 b1 b2 b3 : Int) (k : Nat) (wr : World) : Prop := ∃ x, wr = wplus (((w.alloc (.cells #[.int .i64 (mmin k 0 a0 b0), .int .i64 (mmin k 1 a1 b1), .int .i64 (mmin k 2 a2 b2), .int .i64 (mmin k 3 a3 b3)] 23)).alloc (.cells #[.int .i64 b0, .int .i64 b1, .int .i64 b2, .int .i64 b3] 23)).alloc (.cells #[.int .i64 0, .int .i64 0, .int .i64 0, .int .i64 0] 23)) x
set_option maxHeartbeats 2000000 in
theorem rMin_any (a0 a1 a2 a3 b0 b1 b2 b3 : Int) (w : World) :
    Calls Try.prog 12 #[.agg #[.int .i64 a0, .int .i64 a1, .int .i64 a2, .int .i64 a3], .agg #[.int .i64 b0, .int .i64 b1, .int .i64 b2, .int .i64 b3]] w
      fun e w' => e = .returned (.agg #[.int .i64 (min a0 b0), .int .i64 (min a1 b1), .int .i64 (min a2 b2), .int .i64 (min a3 b3)]) ∧ Below w.heap.size w w' := by
  go_enter Try.func12, Try.ntmps12
  go_wp2
  go_loopw [6] (fun u wr => ∃ k : Nat, k ≤ 4 ∧ u = .int .i64 k ∧ Rmin w a0 a1 a2 a3 b0 b1 b2 b3 k wr) (fun u _ => 4 - (intOf u).toNat)
  case atStart => exact ⟨0, by omega, rfl, ⟨#[], w.drawn⟩, by simp [wplus, mmin]; rfl⟩
  case round =>
    obtain ⟨k, hk, rfl, x, rfl⟩ := hrel
    obtain rfl | rfl | rfl | rfl | rfl : k = 0 ∨ k = 1 ∨ k = 2 ∨ k = 3 ∨ k = 4 := by omega
    · simp only [mmin, Nat.reduceLT, if_true, if_false]
      go_wp2
      refine wp_region_plus (by kernel_rfl) (by kernel_rfl) ?_
      repeat (first | go_big_quiet_skip | (go_big_quiet_want; go_big_quiet_op;  go_big_quiet_on))
      refine wpQuiet_nil ?_
      rintro _ ⟨x1, rfl⟩
      by_cases h : b0 < a0
      · go_wp2
        go_roundw
        case rel => exact ⟨1, by omega, rfl, ⟨_, by rw [wplus_wplus]; simp only [mmin, Nat.reduceLT, if_true, if_false, show min a0 b0 = b0 by omega]; rfl⟩⟩
        case measure => simp [intOf]
      · go_wp2
        go_roundw
        case rel => exact ⟨1, by omega, rfl, ⟨_, by rw [wplus_wplus]; simp only [mmin, Nat.reduceLT, if_true, if_false, show min a0 b0 = a0 by omega]; rfl⟩⟩
        case measure => simp [intOf]
    · simp only [mmin, Nat.reduceLT, if_true, if_false]
      go_wp2
      refine wp_region_plus (by kernel_rfl) (by kernel_rfl) ?_
      repeat (first | go_big_quiet_skip | (go_big_quiet_want; go_big_quiet_op;  go_big_quiet_on))
      refine wpQuiet_nil ?_
      rintro _ ⟨x1, rfl⟩
      by_cases h : b1 < a1
      · go_wp2
        go_roundw
        case rel => exact ⟨2, by omega, rfl, ⟨_, by rw [wplus_wplus]; simp only [mmin, Nat.reduceLT, if_true, if_false, show min a1 b1 = b1 by omega]; rfl⟩⟩
        case measure => simp [intOf]
      · go_wp2
        go_roundw
        case rel => exact ⟨2, by omega, rfl, ⟨_, by rw [wplus_wplus]; simp only [mmin, Nat.reduceLT, if_true, if_false, show min a1 b1 = a1 by omega]; rfl⟩⟩
        case measure => simp [intOf]
    · simp only [mmin, Nat.reduceLT, if_true, if_false]
      go_wp2
      refine wp_region_plus (by kernel_rfl) (by kernel_rfl) ?_
      repeat (first | go_big_quiet_skip | (go_big_quiet_want; go_big_quiet_op;  go_big_quiet_on))
      refine wpQuiet_nil ?_
      rintro _ ⟨x1, rfl⟩
      by_cases h : b2 < a2
      · go_wp2
        go_roundw
        case rel => exact ⟨3, by omega, rfl, ⟨_, by rw [wplus_wplus]; simp only [mmin, Nat.reduceLT, if_true, if_false, show min a2 b2 = b2 by omega]; rfl⟩⟩
        case measure => simp [intOf]
      · go_wp2
        go_roundw
        case rel => exact ⟨3, by omega, rfl, ⟨_, by rw [wplus_wplus]; simp only [mmin, Nat.reduceLT, if_true, if_false, show min a2 b2 = a2 by omega]; rfl⟩⟩
        case measure => simp [intOf]
    · simp only [mmin, Nat.reduceLT, if_true, if_false]
      go_wp2
      refine wp_region_plus (by kernel_rfl) (by kernel_rfl) ?_
      repeat (first | go_big_quiet_skip | (go_big_quiet_want; go_big_quiet_op;  go_big_quiet_on))
      refine wpQuiet_nil ?_
      rintro _ ⟨x1, rfl⟩
      by_cases h : b3 < a3
      · go_wp2
        go_roundw
        case rel => exact ⟨4, by omega, rfl, ⟨_, by rw [wplus_wplus]; simp only [mmin, Nat.reduceLT, if_true, if_false, show min a3 b3 = b3 by omega]; rfl⟩⟩
        case measure => simp [intOf]
      · go_wp2
        go_roundw
        case rel => exact ⟨4, by omega, rfl, ⟨_, by rw [wplus_wplus]; simp only [mmin, Nat.reduceLT, if_true, if_false, show min a3 b3 = a3 by omega]; rfl⟩⟩
        case measure => simp [intOf]
    · simp only [mmin, Nat.reduceLT, if_true, if_false]
      go_wp2
      exact bodyPost_ret (v := .agg #[.int .i64 (min a0 b0), .int .i64 (min a1 b1), .int .i64 (min a2 b2), .int .i64 (min a3 b3)]) (by simp [results, Try.results12, go_sem]) rfl ⟨rfl, (by repeat (first | exact Below.refl _ _ | refine blw_alloc ?_ | refine blw_plus ?_ | refine Below.drew ?_))⟩
end Go.Proofs.Ytbopfhbeegkkaaa
