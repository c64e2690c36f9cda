import Derived.Test.YtbopfhbeegkkaaaCov
namespace Go.Proofs.Ytbopfhbeegkkaaa
open Go.RowKit
set_option maxHeartbeats 4000000 in
theorem vectorMeets_walk (a0 a1 a2 a3 b0 b1 b2 b3 : Int) (w : World) :
    Calls Try.prog 4 #[.agg #[.int .i64 a0, .int .i64 a1, .int .i64 a2, .int .i64 a3], .agg #[.int .i64 b0, .int .i64 b1, .int .i64 b2, .int .i64 b3]] w
      fun e w' => e = .returned (.bool true) ∧ Below w.heap.size w w' := by
  go_enter Try.func4, Try.ntmps4
  go_wp2
  refine wp_region_plus (by kernel_rfl) (by kernel_rfl) ?_
  repeat (first | go_big_quiet_skip | (go_big_quiet_want; go_big_quiet_op; first | go_big_quiet_on | (apply Exists.intro; refine ⟨fun _ => ?_, ?_⟩; (first | (go_at_call 8; exact Calls.plus_of (vMax_any _ _ _ _ _ _ _ _ _)) | (go_at_call 9; exact Calls.plus_of (vMin_any _ _ _ _ _ _ _ _ _)) | (go_at_call 10; exact Calls.plus_of (covers_any _ _ _ _ _ _ _ _ _)) | (go_at_call 11; exact Calls.plus_of (rMax_any _ _ _ _ _ _ _ _ _)) | (go_at_call 12; exact Calls.plus_of (rMin_any _ _ _ _ _ _ _ _ _)) | (go_at_call 13; exact Calls.plus_of (rCovers_any _ _ _ _ _ _ _ _ _)) | (go_at_call 14; exact Calls.plus_of (right_any _ _ _ _ _)) | (go_at_call 15; exact Calls.plus_of (rRight_any _ _ _ _ _))); go_big_quiet_on)))
  refine wpQuiet_nil ?_
  rintro _ ⟨x, rfl⟩
  go_wp2
  go_ret
  exact ⟨rfl, (by repeat (first | exact Below.refl _ _ | refine blw_alloc ?_ | refine blw_plus ?_ | refine Below.drew ?_))⟩
end Go.Proofs.Ytbopfhbeegkkaaa
