import Derived.Test.YtbopfhbeegkkaaaDoorClkR
namespace Go.Proofs.YtbopfhbeegkkaaaDoor
open Go.RowKit
set_option maxRecDepth 100000 in
set_option maxHeartbeats 4000000 in
theorem clockStamps_lt (aw ac bw bc now : Int) (w : World) (hg : EType w) (hX : cmpS aw ac bw bc < 0) :
    Calls Tryd.prog 3 #[.agg #[.int .i64 aw, .int .i64 ac], .agg #[.int .i64 bw, .int .i64 bc], .int .i64 now] w fun e w' => e = .returned (.bool true) ∧ Below w.heap.size w w' := by
  have HC := hidp (fun w => compare_any aw ac bw bc w)
  have HR := hidp (fun w => rCompare_any aw ac bw bc w)
  have HL := hidp (fun w => later_any aw ac bw bc w)
  rw [if_pos hX] at HL
  have hn0 := nexts aw ac now
  generalize cmpS aw ac bw bc = X at *
  rcases hn0 with ⟨sw, sc, hn, hrn⟩ | ⟨sw, sc, n, hn, hrn⟩
  · skip
    have HN := hidp hn
    have HRN := hidp hrn
    clear hn hrn
    go_enter Tryd.func3, Tryd.ntmps3
    go_wp2_with fail
    refine (HRN.out _).mono ?_
    rintro e w' ⟨rfl, hb⟩; obtain ⟨_, rfl⟩ := wplus_of_below hb; clear hb
    go_wp2_with fail
    refine (HN.out _).mono ?_
    rintro e w' ⟨rfl, hb⟩; obtain ⟨_, rfl⟩ := wplus_of_below hb; clear hb
    go_wp2_with fail
    refine (HR.out _).mono ?_
    rintro e w' ⟨rfl, hb⟩; obtain ⟨_, rfl⟩ := wplus_of_below hb; clear hb
    go_wp2_with fail
    clear HN HRN
    refine wp_region_plus (by kernel_rfl) (by kernel_rfl) ?_
    repeat (first | go_big_quiet_skip | (go_big_quiet_want; go_big_quiet_op; first | go_big_quiet_on | (apply Exists.intro; refine ⟨fun _ => ?_, ?_⟩; (first | (go_at_call 12; with_reducible exact Calls.plus_of (bareL_nil _)) | (go_at_call 12; with_reducible exact Calls.plus_of (bareL_errno _ _ (hg.plus (by repeat (first | exact Below.refl _ _ | refine blw_alloc ?_ | refine blw_plus ?_))))) | (go_at_call 13; with_reducible exact Calls.plus_of (rightS_any _ _ _)) | (go_at_call 14; with_reducible exact Calls.plus_of (rRightS_any _ _ _)) | (go_at_call 15; with_reducible exact Calls.plus_of (HC.out _)) | (go_at_call 11; with_reducible exact Calls.plus_of (HR.out _)) | (go_at_call 16; with_reducible exact Calls.plus_of (HL.out _))); go_big_quiet_on)))
    refine wpQuiet_nil ?_
    rintro _ ⟨x, rfl⟩
    go_wp2
    go_ret
    exact ⟨rfl, (by repeat (first | exact Below.refl _ _ | refine blw_alloc ?_ | refine blw_plus ?_ | refine Below.drew ?_))⟩
  · skip
    have HN := hidp hn
    have HRN := hidp hrn
    clear hn hrn
    go_enter Tryd.func3, Tryd.ntmps3
    go_wp2_with fail
    refine (HRN.out _).mono ?_
    rintro e w' ⟨rfl, hb⟩; obtain ⟨_, rfl⟩ := wplus_of_below hb; clear hb
    go_wp2_with fail
    refine (HN.out _).mono ?_
    rintro e w' ⟨rfl, hb⟩; obtain ⟨_, rfl⟩ := wplus_of_below hb; clear hb
    go_wp2_with fail
    refine (HR.out _).mono ?_
    rintro e w' ⟨rfl, hb⟩; obtain ⟨_, rfl⟩ := wplus_of_below hb; clear hb
    go_wp2_with fail
    clear HN HRN
    refine wp_region_plus (by kernel_rfl) (by kernel_rfl) ?_
    repeat (first | go_big_quiet_skip | (go_big_quiet_want; go_big_quiet_op; first | go_big_quiet_on | (apply Exists.intro; refine ⟨fun _ => ?_, ?_⟩; (first | (go_at_call 12; with_reducible exact Calls.plus_of (bareL_nil _)) | (go_at_call 12; with_reducible exact Calls.plus_of (bareL_errno _ _ (hg.plus (by repeat (first | exact Below.refl _ _ | refine blw_alloc ?_ | refine blw_plus ?_))))) | (go_at_call 13; with_reducible exact Calls.plus_of (rightS_any _ _ _)) | (go_at_call 14; with_reducible exact Calls.plus_of (rRightS_any _ _ _)) | (go_at_call 15; with_reducible exact Calls.plus_of (HC.out _)) | (go_at_call 11; with_reducible exact Calls.plus_of (HR.out _)) | (go_at_call 16; with_reducible exact Calls.plus_of (HL.out _))); go_big_quiet_on)))
    refine wpQuiet_nil ?_
    rintro _ ⟨x, rfl⟩
    go_wp2
    go_ret
    exact ⟨rfl, (by repeat (first | exact Below.refl _ _ | refine blw_alloc ?_ | refine blw_plus ?_ | refine Below.drew ?_))⟩

set_option maxRecDepth 100000 in
set_option maxHeartbeats 4000000 in
theorem clockStamps_ge (aw ac bw bc now : Int) (w : World) (hg : EType w) (hX : ¬ cmpS aw ac bw bc < 0) :
    Calls Tryd.prog 3 #[.agg #[.int .i64 aw, .int .i64 ac], .agg #[.int .i64 bw, .int .i64 bc], .int .i64 now] w fun e w' => e = .returned (.bool true) ∧ Below w.heap.size w w' := by
  have HC := hidp (fun w => compare_any aw ac bw bc w)
  have HR := hidp (fun w => rCompare_any aw ac bw bc w)
  have HL := hidp (fun w => later_any aw ac bw bc w)
  rw [if_neg hX] at HL
  have hn0 := nexts aw ac now
  generalize cmpS aw ac bw bc = X at *
  rcases hn0 with ⟨sw, sc, hn, hrn⟩ | ⟨sw, sc, n, hn, hrn⟩
  · skip
    have HN := hidp hn
    have HRN := hidp hrn
    clear hn hrn
    go_enter Tryd.func3, Tryd.ntmps3
    go_wp2_with fail
    refine (HRN.out _).mono ?_
    rintro e w' ⟨rfl, hb⟩; obtain ⟨_, rfl⟩ := wplus_of_below hb; clear hb
    go_wp2_with fail
    refine (HN.out _).mono ?_
    rintro e w' ⟨rfl, hb⟩; obtain ⟨_, rfl⟩ := wplus_of_below hb; clear hb
    go_wp2_with fail
    refine (HR.out _).mono ?_
    rintro e w' ⟨rfl, hb⟩; obtain ⟨_, rfl⟩ := wplus_of_below hb; clear hb
    go_wp2_with fail
    clear HN HRN
    refine wp_region_plus (by kernel_rfl) (by kernel_rfl) ?_
    repeat (first | go_big_quiet_skip | (go_big_quiet_want; go_big_quiet_op; first | go_big_quiet_on | (apply Exists.intro; refine ⟨fun _ => ?_, ?_⟩; (first | (go_at_call 12; with_reducible exact Calls.plus_of (bareL_nil _)) | (go_at_call 12; with_reducible exact Calls.plus_of (bareL_errno _ _ (hg.plus (by repeat (first | exact Below.refl _ _ | refine blw_alloc ?_ | refine blw_plus ?_))))) | (go_at_call 13; with_reducible exact Calls.plus_of (rightS_any _ _ _)) | (go_at_call 14; with_reducible exact Calls.plus_of (rRightS_any _ _ _)) | (go_at_call 15; with_reducible exact Calls.plus_of (HC.out _)) | (go_at_call 11; with_reducible exact Calls.plus_of (HR.out _)) | (go_at_call 16; with_reducible exact Calls.plus_of (HL.out _))); go_big_quiet_on)))
    refine wpQuiet_nil ?_
    rintro _ ⟨x, rfl⟩
    go_wp2
    go_ret
    exact ⟨rfl, (by repeat (first | exact Below.refl _ _ | refine blw_alloc ?_ | refine blw_plus ?_ | refine Below.drew ?_))⟩
  · skip
    have HN := hidp hn
    have HRN := hidp hrn
    clear hn hrn
    go_enter Tryd.func3, Tryd.ntmps3
    go_wp2_with fail
    refine (HRN.out _).mono ?_
    rintro e w' ⟨rfl, hb⟩; obtain ⟨_, rfl⟩ := wplus_of_below hb; clear hb
    go_wp2_with fail
    refine (HN.out _).mono ?_
    rintro e w' ⟨rfl, hb⟩; obtain ⟨_, rfl⟩ := wplus_of_below hb; clear hb
    go_wp2_with fail
    refine (HR.out _).mono ?_
    rintro e w' ⟨rfl, hb⟩; obtain ⟨_, rfl⟩ := wplus_of_below hb; clear hb
    go_wp2_with fail
    clear HN HRN
    refine wp_region_plus (by kernel_rfl) (by kernel_rfl) ?_
    repeat (first | go_big_quiet_skip | (go_big_quiet_want; go_big_quiet_op; first | go_big_quiet_on | (apply Exists.intro; refine ⟨fun _ => ?_, ?_⟩; (first | (go_at_call 12; with_reducible exact Calls.plus_of (bareL_nil _)) | (go_at_call 12; with_reducible exact Calls.plus_of (bareL_errno _ _ (hg.plus (by repeat (first | exact Below.refl _ _ | refine blw_alloc ?_ | refine blw_plus ?_))))) | (go_at_call 13; with_reducible exact Calls.plus_of (rightS_any _ _ _)) | (go_at_call 14; with_reducible exact Calls.plus_of (rRightS_any _ _ _)) | (go_at_call 15; with_reducible exact Calls.plus_of (HC.out _)) | (go_at_call 11; with_reducible exact Calls.plus_of (HR.out _)) | (go_at_call 16; with_reducible exact Calls.plus_of (HL.out _))); go_big_quiet_on)))
    refine wpQuiet_nil ?_
    rintro _ ⟨x, rfl⟩
    go_wp2
    go_ret
    exact ⟨rfl, (by repeat (first | exact Below.refl _ _ | refine blw_alloc ?_ | refine blw_plus ?_ | refine Below.drew ?_))⟩

theorem clockStamps_walk (aw ac bw bc now : Int) (w : World) (hg : EType w) :
    Calls Tryd.prog 3 #[.agg #[.int .i64 aw, .int .i64 ac], .agg #[.int .i64 bw, .int .i64 bc], .int .i64 now] w fun e w' => e = .returned (.bool true) ∧ Below w.heap.size w w' := by
  by_cases hX : cmpS aw ac bw bc < 0
  · exact clockStamps_lt aw ac bw bc now w hg hX
  · exact clockStamps_ge aw ac bw bc now w hg hX
end Go.Proofs.YtbopfhbeegkkaaaDoor
