/- The greatest of two vectors; picking; telling an error's number; a fresh store; three stores beside each other. -/
import Derived.Test.YtbopfhbeegkkaaaDoorRdS
import Derived.Test.YtbopfhbeegkkaaaDoorAs
namespace Go.Proofs.YtbopfhbeegkkaaaDoor
open Go.RowKit

set_option maxHeartbeats 400000 in
theorem max1_any (a b : Int) (w : World) :
    Calls Tryd.prog 72 #[.int .i64 a, .int .i64 b] w fun e w' => e = .returned (.int .i64 (max a b)) ∧ w = w' := by
  rcases Int.le_total a b with h | h
  · rw [Int.max_eq_right h]
    by_cases h1 : a < b
    all_goals
      go_enter Tryd.func72, Tryd.ntmps72
      go_wp2
      all_goals go_ret
      all_goals exact ⟨by simp; try omega, rfl⟩
  · rw [Int.max_eq_left h]
    by_cases h1 : b < a
    all_goals
      go_enter Tryd.func72, Tryd.ntmps72
      go_wp2
      all_goals go_ret
      all_goals exact ⟨by simp; try omega, rfl⟩

set_option maxHeartbeats 1000000 in
theorem eachMax_any (a0 a1 a2 a3 b0 b1 b2 b3 : Int) (w : World) :
    Calls Tryd.prog 71 #[.agg #[.int .i64 a0, .int .i64 a1, .int .i64 a2, .int .i64 a3], .agg #[.int .i64 b0, .int .i64 b1, .int .i64 b2, .int .i64 b3], .func (.func 72) #[] #[]] w
      fun e w' => e = .returned (.agg #[.int .i64 (max a0 b0), .int .i64 (max a1 b1), .int .i64 (max a2 b2), .int .i64 (max a3 b3)]) ∧ Below w.heap.size w w' := by
  go_enter Tryd.func71, Tryd.ntmps71
  go_wp2
  refine wp_loop_rounds 5 ?_
  rw [rounds_succ]
  go_wp2
  refine wp_region_plus_tail 10 (by kernel_rfl) (by kernel_rfl) ?_
  simp only [List.take_succ_cons, List.take_zero, List.drop_succ_cons, List.drop_zero]
  repeat (first | go_big_quiet_skip | (go_big_quiet_want; go_big_quiet_op; first | go_big_quiet_on | (apply Exists.intro; refine ⟨fun _ => Calls.plus_same (max1_any _ _ _), ?_⟩; go_big_quiet_on)))
  refine wpQuiet_nil ?_
  rintro _ ⟨x0, rfl⟩
  go_wp2
  rw [rounds_succ]
  go_wp2
  refine wp_region_plus_tail 10 (by kernel_rfl) (by kernel_rfl) ?_
  simp only [List.take_succ_cons, List.take_zero, List.drop_succ_cons, List.drop_zero]
  repeat (first | go_big_quiet_skip | (go_big_quiet_want; go_big_quiet_op; first | go_big_quiet_on | (apply Exists.intro; refine ⟨fun _ => Calls.plus_same (max1_any _ _ _), ?_⟩; go_big_quiet_on)))
  refine wpQuiet_nil ?_
  rintro _ ⟨x1, rfl⟩
  go_wp2
  rw [rounds_succ]
  go_wp2
  refine wp_region_plus_tail 10 (by kernel_rfl) (by kernel_rfl) ?_
  simp only [List.take_succ_cons, List.take_zero, List.drop_succ_cons, List.drop_zero]
  repeat (first | go_big_quiet_skip | (go_big_quiet_want; go_big_quiet_op; first | go_big_quiet_on | (apply Exists.intro; refine ⟨fun _ => Calls.plus_same (max1_any _ _ _), ?_⟩; go_big_quiet_on)))
  refine wpQuiet_nil ?_
  rintro _ ⟨x2, rfl⟩
  go_wp2
  rw [rounds_succ]
  go_wp2
  refine wp_region_plus_tail 10 (by kernel_rfl) (by kernel_rfl) ?_
  simp only [List.take_succ_cons, List.take_zero, List.drop_succ_cons, List.drop_zero]
  repeat (first | go_big_quiet_skip | (go_big_quiet_want; go_big_quiet_op; first | go_big_quiet_on | (apply Exists.intro; refine ⟨fun _ => Calls.plus_same (max1_any _ _ _), ?_⟩; go_big_quiet_on)))
  refine wpQuiet_nil ?_
  rintro _ ⟨x3, rfl⟩
  go_wp2
  rw [rounds_succ]
  go_wp2
  exact bodyPost_ret (v := .agg #[.int .i64 (max a0 b0), .int .i64 (max a1 b1), .int .i64 (max a2 b2), .int .i64 (max a3 b3)]) (by simp [results, Tryd.results71, go_sem]) rfl ⟨rfl, (by repeat (first | exact Below.refl _ _ | refine blw_alloc ?_ | refine blw_plus ?_ | refine Below.drew ?_))⟩

set_option maxHeartbeats 400000 in
theorem vMax_any (a0 a1 a2 a3 b0 b1 b2 b3 : Int) (w : World) :
    Calls Tryd.prog 35 #[.agg #[.int .i64 a0, .int .i64 a1, .int .i64 a2, .int .i64 a3], .agg #[.int .i64 b0, .int .i64 b1, .int .i64 b2, .int .i64 b3]] w
      fun e w' => e = .returned (.agg #[.int .i64 (max a0 b0), .int .i64 (max a1 b1), .int .i64 (max a2 b2), .int .i64 (max a3 b3)]) ∧ Below w.heap.size w w' := by
  go_enter Tryd.func35, Tryd.ntmps35
  go_wp2_with (go_at_call 71; refine (eachMax_any _ _ _ _ _ _ _ _ _).mono ?_; rintro e w' ⟨rfl, hb⟩; obtain ⟨x, rfl⟩ := wplus_of_below hb; clear hb)
  exact bodyPost_ret (v := .agg #[.int .i64 (max a0 b0), .int .i64 (max a1 b1), .int .i64 (max a2 b2), .int .i64 (max a3 b3)]) (by simp [results, Tryd.results35, go_sem]) rfl ⟨rfl, (by repeat (first | exact Below.refl _ _ | refine blw_alloc ?_ | refine blw_plus ?_ | refine Below.drew ?_))⟩


def pickN (a : Int) (n : Nat) : Nat := (IntKind.u64.wrap a).toNat % n
theorem pickN_lt (a : Int) {n : Nat} (hn : 0 < n) : pickN a n < n := Nat.mod_lt _ hn
theorem pick_is (a : Int) (n : Nat) (w : World) (hn : 0 < n) (hn2 : n ≤ 1000000) :
    Calls Tryd.prog 32 #[.int .i64 a, .int .i64 n] w fun e w' => e = .returned (.int .i64 (pickN a n)) ∧ w = w' := by
  go_enter Tryd.func32, Tryd.ntmps32
  go_wp2
  go_ret
  have h1 : 0 ≤ IntKind.u64.wrap a := by simp [IntKind.wrap, IntKind.signed, IntKind.bits]; omega
  obtain ⟨x, hx⟩ := Int.eq_ofNat_of_zero_le h1
  have h2 : (IntKind.u64.wrap a).tmod (n : Int) = ((x % n : Nat) : Int) := by rw [hx]; rfl
  have h3 : x % n < n := Nat.mod_lt _ hn
  have h5 : pickN a n = x % n := by unfold pickN; rw [hx]; rfl
  refine ⟨?_, rfl⟩
  have h4 : wrap64 ((x % n : Nat) : Int) = ((x % n : Nat) : Int) := by unfold wrap64; omega
  rw [h2, h4, h5]
  rfl
theorem tell_any (n : Int) (w : World) (hg : EType w) : Calls Tryd.prog 37 #[errV n] w fun e w' => e = .returned (.int .i64 n) ∧ Below w.heap.size w w' := by
  unfold errV
  split
  · rename_i h
    subst h
    exact (tell_nil w).mono fun e w' ⟨h1, h2⟩ => ⟨h1, h2 ▸ Below.refl _ _⟩
  · exact tell_errno n w hg
end Go.Proofs.YtbopfhbeegkkaaaDoor
