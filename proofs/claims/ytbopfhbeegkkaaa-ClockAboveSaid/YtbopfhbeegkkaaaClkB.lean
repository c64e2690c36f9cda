import Derived.Test.YtbopfhbeegkkaaaClkA
namespace Go.Proofs.Ytbopfhbeegkkaaa
open Go.RowKit
@[go_sem 3000] theorem eqStamp (w : World) (d : Nat) (aw ac bw bc : Int) :
    (Op.equalIn (d + 2) 30 (.agg #[.int .i64 aw, .int .i64 ac]) (.agg #[.int .i64 bw, .int .i64 bc])).run Try.prog w = .ok (aw == bw && ac == bc) w := by
  rw [run_equalIn_agg w (d + 1) 30 _ _ (by kernel_rfl) (by kernel_rfl)]
  by_cases h1 : aw = bw <;> by_cases h2 : ac = bc <;> simp [go_sem, h1, h2]

set_option maxHeartbeats 4000000 in
theorem clockAbove_neg_y (aw ac bw bc cw cc now : Int) (w : World) (hX : cmpS aw ac bw bc < 0) (hY : 0 < cmpS bw bc cw cc) :
    Calls Try.prog 5 #[.agg #[.int .i64 aw, .int .i64 ac], .agg #[.int .i64 bw, .int .i64 bc], .agg #[.int .i64 cw, .int .i64 cc], .int .i64 now] w fun e w' => e = .returned (.bool true) ∧ Below w.heap.size w w' := by
  have HN := hidp (fun w => next_any aw ac now w)
  have hne : (aw == bw && ac == bc) = false := by
    rw [Bool.eq_false_iff]; intro h; simp at h
    have := (cmpS_zero_iff aw ac bw bc).2 h; omega
  have hbd := cmpS_bd aw ac bw bc
  have HAB := hidp (fun w => compare_any aw ac bw bc w)
  have HBA := hidp (fun w => compare_any bw bc aw ac w)
  have HBC := hidp (fun w => compare_any bw bc cw cc w)
  have HAC := hidp (fun w => compare_any aw ac cw cc w)
  have LAB := hidp (fun w => later_any aw ac bw bc w)
  have LBA := hidp (fun w => later_any bw bc aw ac w)
  rw [cmpS_swap aw ac bw bc] at HBA LBA
  rw [if_pos hX] at LAB
  rw [if_neg (by omega)] at LBA
  generalize cmpS aw ac bw bc = X at *
  generalize cmpS bw bc cw cc = Y at *
  generalize cmpS aw ac cw cc = Z at *
  have hX0 : (X == 0) = false := by simp; omega
  have hXd : decide (0 < X) = false := by simp; omega
  have hYd : decide (0 < Y) = true := by simp; omega
  go_enter Try.func5, Try.ntmps5
  go_wp2_with fail
  refine (timed_any _).mono ?_
  rintro e w' ⟨rfl, hb⟩; obtain ⟨_, rfl⟩ := wplus_of_below hb; clear hb
  go_wp2_with fail
  refine (HN.out _).mono ?_
  rintro e w' ⟨hb, h⟩; obtain ⟨_, rfl⟩ := wplus_of_below hb; clear hb
  rcases h with ⟨sw, sc, rfl, g1, g2, g3⟩ | ⟨sw, sc, n, rfl⟩
  · have HS := hidp (fun w => compare_any aw ac sw sc w)
    have HR := hidp (fun w => rightS_any sw sc w)
    rw [g1] at HS
    rw [g3] at HR
    clear g1 g3
    have g2' : ¬ sw < now := by omega
    go_wp2_with fail
    refine (HS.out _).mono ?_
    rintro e w' ⟨rfl, hb⟩; obtain ⟨_, rfl⟩ := wplus_of_below hb; clear hb
    go_wp2_with fail
    refine (HR.out _).mono ?_
    rintro e w' ⟨rfl, hb⟩; obtain ⟨_, rfl⟩ := wplus_of_below hb; clear hb
    go_wp2_with fail
    clear HS HR g2 g2'
    refine wp_region_plus (by kernel_rfl) (by kernel_rfl) ?_
    repeat (first | go_big_quiet_skip | (go_big_quiet_want; go_big_quiet_op; first | go_big_quiet_on | (apply Exists.intro; refine ⟨fun _ => ?_, ?_⟩; (first | (go_at_call 18; with_reducible exact Calls.plus_of (HAB.out _)) | (go_at_call 18; with_reducible exact Calls.plus_of (HBC.out _)) | (go_at_call 18; with_reducible exact Calls.plus_of (HAC.out _)) | (go_at_call 18; with_reducible exact Calls.plus_of (HBA.out _)) | (go_at_call 20; with_reducible exact Calls.plus_of (LAB.out _)) | (go_at_call 20; with_reducible exact Calls.plus_of (LBA.out _))); go_big_quiet_on)))
    refine wpQuiet_nil ?_
    rintro _ ⟨x, rfl⟩
    go_wp2
    refine wp_region_plus (by kernel_rfl) (by kernel_rfl) ?_
    repeat (first | go_big_quiet_skip | (go_big_quiet_want; go_big_quiet_op; first | go_big_quiet_on | (apply Exists.intro; refine ⟨fun _ => ?_, ?_⟩; (first | (go_at_call 18; with_reducible exact Calls.plus_of (HAB.out _)) | (go_at_call 18; with_reducible exact Calls.plus_of (HBC.out _)) | (go_at_call 18; with_reducible exact Calls.plus_of (HAC.out _)) | (go_at_call 18; with_reducible exact Calls.plus_of (HBA.out _)) | (go_at_call 20; with_reducible exact Calls.plus_of (LAB.out _)) | (go_at_call 20; with_reducible exact Calls.plus_of (LBA.out _))); go_big_quiet_on)))
    refine wpQuiet_nil ?_
    rintro _ ⟨x, rfl⟩
    go_wp2
    go_ret
    exact ⟨rfl, (by repeat (first | exact Below.refl _ _ | refine blw_alloc ?_ | refine blw_plus ?_ | refine Below.drew ?_))⟩
  · go_wp2_with fail
    refine wp_region_plus (by kernel_rfl) (by kernel_rfl) ?_
    repeat (first | go_big_quiet_skip | (go_big_quiet_want; go_big_quiet_op; first | go_big_quiet_on | (apply Exists.intro; refine ⟨fun _ => ?_, ?_⟩; (first | (go_at_call 18; with_reducible exact Calls.plus_of (HAB.out _)) | (go_at_call 18; with_reducible exact Calls.plus_of (HBC.out _)) | (go_at_call 18; with_reducible exact Calls.plus_of (HAC.out _)) | (go_at_call 18; with_reducible exact Calls.plus_of (HBA.out _)) | (go_at_call 20; with_reducible exact Calls.plus_of (LAB.out _)) | (go_at_call 20; with_reducible exact Calls.plus_of (LBA.out _))); go_big_quiet_on)))
    refine wpQuiet_nil ?_
    rintro _ ⟨x, rfl⟩
    go_wp2
    refine wp_region_plus (by kernel_rfl) (by kernel_rfl) ?_
    repeat (first | go_big_quiet_skip | (go_big_quiet_want; go_big_quiet_op; first | go_big_quiet_on | (apply Exists.intro; refine ⟨fun _ => ?_, ?_⟩; (first | (go_at_call 18; with_reducible exact Calls.plus_of (HAB.out _)) | (go_at_call 18; with_reducible exact Calls.plus_of (HBC.out _)) | (go_at_call 18; with_reducible exact Calls.plus_of (HAC.out _)) | (go_at_call 18; with_reducible exact Calls.plus_of (HBA.out _)) | (go_at_call 20; with_reducible exact Calls.plus_of (LAB.out _)) | (go_at_call 20; with_reducible exact Calls.plus_of (LBA.out _))); go_big_quiet_on)))
    refine wpQuiet_nil ?_
    rintro _ ⟨x, rfl⟩
    go_wp2
    go_ret
    exact ⟨rfl, (by repeat (first | exact Below.refl _ _ | refine blw_alloc ?_ | refine blw_plus ?_ | refine Below.drew ?_))⟩

set_option maxHeartbeats 4000000 in
theorem clockAbove_neg_z (aw ac bw bc cw cc now : Int) (w : World) (hX : cmpS aw ac bw bc < 0) (hY : ¬ 0 < cmpS bw bc cw cc) :
    Calls Try.prog 5 #[.agg #[.int .i64 aw, .int .i64 ac], .agg #[.int .i64 bw, .int .i64 bc], .agg #[.int .i64 cw, .int .i64 cc], .int .i64 now] w fun e w' => e = .returned (.bool true) ∧ Below w.heap.size w w' := by
  have HN := hidp (fun w => next_any aw ac now w)
  have hne : (aw == bw && ac == bc) = false := by
    rw [Bool.eq_false_iff]; intro h; simp at h
    have := (cmpS_zero_iff aw ac bw bc).2 h; omega
  have hbd := cmpS_bd aw ac bw bc
  have hZ : cmpS aw ac cw cc ≤ 0 := by
    have a1 := (cmpS_neg_iff aw ac bw bc).1 hX
    have a2 : ¬ (cw < bw ∨ bw = cw ∧ cc < bc) := fun h => hY ((cmpS_pos_iff bw bc cw cc).2 h)
    have a3 : ¬ 0 < cmpS aw ac cw cc := fun h => by have := (cmpS_pos_iff aw ac cw cc).1 h; omega
    omega
  have HAB := hidp (fun w => compare_any aw ac bw bc w)
  have HBA := hidp (fun w => compare_any bw bc aw ac w)
  have HBC := hidp (fun w => compare_any bw bc cw cc w)
  have HAC := hidp (fun w => compare_any aw ac cw cc w)
  have LAB := hidp (fun w => later_any aw ac bw bc w)
  have LBA := hidp (fun w => later_any bw bc aw ac w)
  rw [cmpS_swap aw ac bw bc] at HBA LBA
  rw [if_pos hX] at LAB
  rw [if_neg (by omega)] at LBA
  generalize cmpS aw ac bw bc = X at *
  generalize cmpS bw bc cw cc = Y at *
  generalize cmpS aw ac cw cc = Z at *
  have hX0 : (X == 0) = false := by simp; omega
  have hXd : decide (0 < X) = false := by simp; omega
  have hYd : decide (0 < Y) = false := by simp; omega
  have hZd : decide (Z ≤ 0) = true := by simp; omega
  go_enter Try.func5, Try.ntmps5
  go_wp2_with fail
  refine (timed_any _).mono ?_
  rintro e w' ⟨rfl, hb⟩; obtain ⟨_, rfl⟩ := wplus_of_below hb; clear hb
  go_wp2_with fail
  refine (HN.out _).mono ?_
  rintro e w' ⟨hb, h⟩; obtain ⟨_, rfl⟩ := wplus_of_below hb; clear hb
  rcases h with ⟨sw, sc, rfl, g1, g2, g3⟩ | ⟨sw, sc, n, rfl⟩
  · have HS := hidp (fun w => compare_any aw ac sw sc w)
    have HR := hidp (fun w => rightS_any sw sc w)
    rw [g1] at HS
    rw [g3] at HR
    clear g1 g3
    have g2' : ¬ sw < now := by omega
    go_wp2_with fail
    refine (HS.out _).mono ?_
    rintro e w' ⟨rfl, hb⟩; obtain ⟨_, rfl⟩ := wplus_of_below hb; clear hb
    go_wp2_with fail
    refine (HR.out _).mono ?_
    rintro e w' ⟨rfl, hb⟩; obtain ⟨_, rfl⟩ := wplus_of_below hb; clear hb
    go_wp2_with fail
    clear HS HR g2 g2'
    refine wp_region_plus (by kernel_rfl) (by kernel_rfl) ?_
    repeat (first | go_big_quiet_skip | (go_big_quiet_want; go_big_quiet_op; first | go_big_quiet_on | (apply Exists.intro; refine ⟨fun _ => ?_, ?_⟩; (first | (go_at_call 18; with_reducible exact Calls.plus_of (HAB.out _)) | (go_at_call 18; with_reducible exact Calls.plus_of (HBC.out _)) | (go_at_call 18; with_reducible exact Calls.plus_of (HAC.out _)) | (go_at_call 18; with_reducible exact Calls.plus_of (HBA.out _)) | (go_at_call 20; with_reducible exact Calls.plus_of (LAB.out _)) | (go_at_call 20; with_reducible exact Calls.plus_of (LBA.out _))); go_big_quiet_on)))
    refine wpQuiet_nil ?_
    rintro _ ⟨x, rfl⟩
    go_wp2
    refine wp_region_plus (by kernel_rfl) (by kernel_rfl) ?_
    repeat (first | go_big_quiet_skip | (go_big_quiet_want; go_big_quiet_op; first | go_big_quiet_on | (apply Exists.intro; refine ⟨fun _ => ?_, ?_⟩; (first | (go_at_call 18; with_reducible exact Calls.plus_of (HAB.out _)) | (go_at_call 18; with_reducible exact Calls.plus_of (HBC.out _)) | (go_at_call 18; with_reducible exact Calls.plus_of (HAC.out _)) | (go_at_call 18; with_reducible exact Calls.plus_of (HBA.out _)) | (go_at_call 20; with_reducible exact Calls.plus_of (LAB.out _)) | (go_at_call 20; with_reducible exact Calls.plus_of (LBA.out _))); go_big_quiet_on)))
    refine wpQuiet_nil ?_
    rintro _ ⟨x, rfl⟩
    go_wp2
    go_ret
    exact ⟨rfl, (by repeat (first | exact Below.refl _ _ | refine blw_alloc ?_ | refine blw_plus ?_ | refine Below.drew ?_))⟩
  · go_wp2_with fail
    refine wp_region_plus (by kernel_rfl) (by kernel_rfl) ?_
    repeat (first | go_big_quiet_skip | (go_big_quiet_want; go_big_quiet_op; first | go_big_quiet_on | (apply Exists.intro; refine ⟨fun _ => ?_, ?_⟩; (first | (go_at_call 18; with_reducible exact Calls.plus_of (HAB.out _)) | (go_at_call 18; with_reducible exact Calls.plus_of (HBC.out _)) | (go_at_call 18; with_reducible exact Calls.plus_of (HAC.out _)) | (go_at_call 18; with_reducible exact Calls.plus_of (HBA.out _)) | (go_at_call 20; with_reducible exact Calls.plus_of (LAB.out _)) | (go_at_call 20; with_reducible exact Calls.plus_of (LBA.out _))); go_big_quiet_on)))
    refine wpQuiet_nil ?_
    rintro _ ⟨x, rfl⟩
    go_wp2
    refine wp_region_plus (by kernel_rfl) (by kernel_rfl) ?_
    repeat (first | go_big_quiet_skip | (go_big_quiet_want; go_big_quiet_op; first | go_big_quiet_on | (apply Exists.intro; refine ⟨fun _ => ?_, ?_⟩; (first | (go_at_call 18; with_reducible exact Calls.plus_of (HAB.out _)) | (go_at_call 18; with_reducible exact Calls.plus_of (HBC.out _)) | (go_at_call 18; with_reducible exact Calls.plus_of (HAC.out _)) | (go_at_call 18; with_reducible exact Calls.plus_of (HBA.out _)) | (go_at_call 20; with_reducible exact Calls.plus_of (LAB.out _)) | (go_at_call 20; with_reducible exact Calls.plus_of (LBA.out _))); go_big_quiet_on)))
    refine wpQuiet_nil ?_
    rintro _ ⟨x, rfl⟩
    go_wp2
    go_ret
    exact ⟨rfl, (by repeat (first | exact Below.refl _ _ | refine blw_alloc ?_ | refine blw_plus ?_ | refine Below.drew ?_))⟩

set_option maxHeartbeats 4000000 in
theorem clockAbove_pos (aw ac bw bc cw cc now : Int) (w : World) (hX : 0 < cmpS aw ac bw bc) :
    Calls Try.prog 5 #[.agg #[.int .i64 aw, .int .i64 ac], .agg #[.int .i64 bw, .int .i64 bc], .agg #[.int .i64 cw, .int .i64 cc], .int .i64 now] w fun e w' => e = .returned (.bool true) ∧ Below w.heap.size w w' := by
  have HN := hidp (fun w => next_any aw ac now w)
  have hne : (aw == bw && ac == bc) = false := by
    rw [Bool.eq_false_iff]; intro h; simp at h
    have := (cmpS_zero_iff aw ac bw bc).2 h; omega
  have hbd := cmpS_bd aw ac bw bc
  have HAB := hidp (fun w => compare_any aw ac bw bc w)
  have HBA := hidp (fun w => compare_any bw bc aw ac w)
  have HBC := hidp (fun w => compare_any bw bc cw cc w)
  have HAC := hidp (fun w => compare_any aw ac cw cc w)
  have LAB := hidp (fun w => later_any aw ac bw bc w)
  have LBA := hidp (fun w => later_any bw bc aw ac w)
  rw [cmpS_swap aw ac bw bc] at HBA LBA
  rw [if_neg (by omega)] at LAB
  rw [if_pos (by omega)] at LBA
  generalize cmpS aw ac bw bc = X at *
  generalize cmpS bw bc cw cc = Y at *
  generalize cmpS aw ac cw cc = Z at *
  have hX0 : (X == 0) = false := by simp; omega
  have hXd : decide (0 < X) = true := by simp; omega
  go_enter Try.func5, Try.ntmps5
  go_wp2_with fail
  refine (timed_any _).mono ?_
  rintro e w' ⟨rfl, hb⟩; obtain ⟨_, rfl⟩ := wplus_of_below hb; clear hb
  go_wp2_with fail
  refine (HN.out _).mono ?_
  rintro e w' ⟨hb, h⟩; obtain ⟨_, rfl⟩ := wplus_of_below hb; clear hb
  rcases h with ⟨sw, sc, rfl, g1, g2, g3⟩ | ⟨sw, sc, n, rfl⟩
  · have HS := hidp (fun w => compare_any aw ac sw sc w)
    have HR := hidp (fun w => rightS_any sw sc w)
    rw [g1] at HS
    rw [g3] at HR
    clear g1 g3
    have g2' : ¬ sw < now := by omega
    go_wp2_with fail
    refine (HS.out _).mono ?_
    rintro e w' ⟨rfl, hb⟩; obtain ⟨_, rfl⟩ := wplus_of_below hb; clear hb
    go_wp2_with fail
    refine (HR.out _).mono ?_
    rintro e w' ⟨rfl, hb⟩; obtain ⟨_, rfl⟩ := wplus_of_below hb; clear hb
    go_wp2_with fail
    clear HS HR g2 g2'
    refine wp_region_plus (by kernel_rfl) (by kernel_rfl) ?_
    repeat (first | go_big_quiet_skip | (go_big_quiet_want; go_big_quiet_op; first | go_big_quiet_on | (apply Exists.intro; refine ⟨fun _ => ?_, ?_⟩; (first | (go_at_call 18; with_reducible exact Calls.plus_of (HAB.out _)) | (go_at_call 18; with_reducible exact Calls.plus_of (HBC.out _)) | (go_at_call 18; with_reducible exact Calls.plus_of (HAC.out _)) | (go_at_call 18; with_reducible exact Calls.plus_of (HBA.out _)) | (go_at_call 20; with_reducible exact Calls.plus_of (LAB.out _)) | (go_at_call 20; with_reducible exact Calls.plus_of (LBA.out _))); go_big_quiet_on)))
    refine wpQuiet_nil ?_
    rintro _ ⟨x, rfl⟩
    go_wp2
    refine wp_region_plus (by kernel_rfl) (by kernel_rfl) ?_
    repeat (first | go_big_quiet_skip | (go_big_quiet_want; go_big_quiet_op; first | go_big_quiet_on | (apply Exists.intro; refine ⟨fun _ => ?_, ?_⟩; (first | (go_at_call 18; with_reducible exact Calls.plus_of (HAB.out _)) | (go_at_call 18; with_reducible exact Calls.plus_of (HBC.out _)) | (go_at_call 18; with_reducible exact Calls.plus_of (HAC.out _)) | (go_at_call 18; with_reducible exact Calls.plus_of (HBA.out _)) | (go_at_call 20; with_reducible exact Calls.plus_of (LAB.out _)) | (go_at_call 20; with_reducible exact Calls.plus_of (LBA.out _))); go_big_quiet_on)))
    refine wpQuiet_nil ?_
    rintro _ ⟨x, rfl⟩
    go_wp2
    go_ret
    exact ⟨rfl, (by repeat (first | exact Below.refl _ _ | refine blw_alloc ?_ | refine blw_plus ?_ | refine Below.drew ?_))⟩
  · go_wp2_with fail
    refine wp_region_plus (by kernel_rfl) (by kernel_rfl) ?_
    repeat (first | go_big_quiet_skip | (go_big_quiet_want; go_big_quiet_op; first | go_big_quiet_on | (apply Exists.intro; refine ⟨fun _ => ?_, ?_⟩; (first | (go_at_call 18; with_reducible exact Calls.plus_of (HAB.out _)) | (go_at_call 18; with_reducible exact Calls.plus_of (HBC.out _)) | (go_at_call 18; with_reducible exact Calls.plus_of (HAC.out _)) | (go_at_call 18; with_reducible exact Calls.plus_of (HBA.out _)) | (go_at_call 20; with_reducible exact Calls.plus_of (LAB.out _)) | (go_at_call 20; with_reducible exact Calls.plus_of (LBA.out _))); go_big_quiet_on)))
    refine wpQuiet_nil ?_
    rintro _ ⟨x, rfl⟩
    go_wp2
    refine wp_region_plus (by kernel_rfl) (by kernel_rfl) ?_
    repeat (first | go_big_quiet_skip | (go_big_quiet_want; go_big_quiet_op; first | go_big_quiet_on | (apply Exists.intro; refine ⟨fun _ => ?_, ?_⟩; (first | (go_at_call 18; with_reducible exact Calls.plus_of (HAB.out _)) | (go_at_call 18; with_reducible exact Calls.plus_of (HBC.out _)) | (go_at_call 18; with_reducible exact Calls.plus_of (HAC.out _)) | (go_at_call 18; with_reducible exact Calls.plus_of (HBA.out _)) | (go_at_call 20; with_reducible exact Calls.plus_of (LAB.out _)) | (go_at_call 20; with_reducible exact Calls.plus_of (LBA.out _))); go_big_quiet_on)))
    refine wpQuiet_nil ?_
    rintro _ ⟨x, rfl⟩
    go_wp2
    go_ret
    exact ⟨rfl, (by repeat (first | exact Below.refl _ _ | refine blw_alloc ?_ | refine blw_plus ?_ | refine Below.drew ?_))⟩

set_option maxHeartbeats 4000000 in
theorem clockAbove_zero_y (aw ac cw cc now : Int) (w : World) (hY : 0 < cmpS aw ac cw cc) :
    Calls Try.prog 5 #[.agg #[.int .i64 aw, .int .i64 ac], .agg #[.int .i64 aw, .int .i64 ac], .agg #[.int .i64 cw, .int .i64 cc], .int .i64 now] w fun e w' => e = .returned (.bool true) ∧ Below w.heap.size w w' := by
  have HN := hidp (fun w => next_any aw ac now w)
  have HAB := hidp (fun w => compare_any aw ac aw ac w)
  have HBC := hidp (fun w => compare_any aw ac cw cc w)
  have LAB := hidp (fun w => later_any aw ac aw ac w)
  rw [(cmpS_zero_iff aw ac aw ac).2 ⟨rfl, rfl⟩] at HAB LAB
  rw [if_neg (by omega)] at LAB
  have HAC := HBC
  have HBA := HAB
  have LBA := LAB
  generalize cmpS aw ac cw cc = Z at *
  have hZd : decide (0 < Z) = true := by simp; omega
  go_enter Try.func5, Try.ntmps5
  go_wp2_with fail
  refine (timed_any _).mono ?_
  rintro e w' ⟨rfl, hb⟩; obtain ⟨_, rfl⟩ := wplus_of_below hb; clear hb
  go_wp2_with fail
  refine (HN.out _).mono ?_
  rintro e w' ⟨hb, h⟩; obtain ⟨_, rfl⟩ := wplus_of_below hb; clear hb
  rcases h with ⟨sw, sc, rfl, g1, g2, g3⟩ | ⟨sw, sc, n, rfl⟩
  · have HS := hidp (fun w => compare_any aw ac sw sc w)
    have HR := hidp (fun w => rightS_any sw sc w)
    rw [g1] at HS
    rw [g3] at HR
    clear g1 g3
    have g2' : ¬ sw < now := by omega
    go_wp2_with fail
    refine (HS.out _).mono ?_
    rintro e w' ⟨rfl, hb⟩; obtain ⟨_, rfl⟩ := wplus_of_below hb; clear hb
    go_wp2_with fail
    refine (HR.out _).mono ?_
    rintro e w' ⟨rfl, hb⟩; obtain ⟨_, rfl⟩ := wplus_of_below hb; clear hb
    go_wp2_with fail
    clear HS HR g2 g2'
    refine wp_region_plus (by kernel_rfl) (by kernel_rfl) ?_
    repeat (first | go_big_quiet_skip | (go_big_quiet_want; go_big_quiet_op; first | go_big_quiet_on | (apply Exists.intro; refine ⟨fun _ => ?_, ?_⟩; (first | (go_at_call 18; with_reducible exact Calls.plus_of (HAB.out _)) | (go_at_call 18; with_reducible exact Calls.plus_of (HBC.out _)) | (go_at_call 18; with_reducible exact Calls.plus_of (HAC.out _)) | (go_at_call 18; with_reducible exact Calls.plus_of (HBA.out _)) | (go_at_call 20; with_reducible exact Calls.plus_of (LAB.out _)) | (go_at_call 20; with_reducible exact Calls.plus_of (LBA.out _))); go_big_quiet_on)))
    refine wpQuiet_nil ?_
    rintro _ ⟨x, rfl⟩
    go_wp2
    refine wp_region_plus (by kernel_rfl) (by kernel_rfl) ?_
    repeat (first | go_big_quiet_skip | (go_big_quiet_want; go_big_quiet_op; first | go_big_quiet_on | (apply Exists.intro; refine ⟨fun _ => ?_, ?_⟩; (first | (go_at_call 18; with_reducible exact Calls.plus_of (HAB.out _)) | (go_at_call 18; with_reducible exact Calls.plus_of (HBC.out _)) | (go_at_call 18; with_reducible exact Calls.plus_of (HAC.out _)) | (go_at_call 18; with_reducible exact Calls.plus_of (HBA.out _)) | (go_at_call 20; with_reducible exact Calls.plus_of (LAB.out _)) | (go_at_call 20; with_reducible exact Calls.plus_of (LBA.out _))); go_big_quiet_on)))
    refine wpQuiet_nil ?_
    rintro _ ⟨x, rfl⟩
    go_wp2
    go_ret
    exact ⟨rfl, (by repeat (first | exact Below.refl _ _ | refine blw_alloc ?_ | refine blw_plus ?_ | refine Below.drew ?_))⟩
  · go_wp2_with fail
    refine wp_region_plus (by kernel_rfl) (by kernel_rfl) ?_
    repeat (first | go_big_quiet_skip | (go_big_quiet_want; go_big_quiet_op; first | go_big_quiet_on | (apply Exists.intro; refine ⟨fun _ => ?_, ?_⟩; (first | (go_at_call 18; with_reducible exact Calls.plus_of (HAB.out _)) | (go_at_call 18; with_reducible exact Calls.plus_of (HBC.out _)) | (go_at_call 18; with_reducible exact Calls.plus_of (HAC.out _)) | (go_at_call 18; with_reducible exact Calls.plus_of (HBA.out _)) | (go_at_call 20; with_reducible exact Calls.plus_of (LAB.out _)) | (go_at_call 20; with_reducible exact Calls.plus_of (LBA.out _))); go_big_quiet_on)))
    refine wpQuiet_nil ?_
    rintro _ ⟨x, rfl⟩
    go_wp2
    refine wp_region_plus (by kernel_rfl) (by kernel_rfl) ?_
    repeat (first | go_big_quiet_skip | (go_big_quiet_want; go_big_quiet_op; first | go_big_quiet_on | (apply Exists.intro; refine ⟨fun _ => ?_, ?_⟩; (first | (go_at_call 18; with_reducible exact Calls.plus_of (HAB.out _)) | (go_at_call 18; with_reducible exact Calls.plus_of (HBC.out _)) | (go_at_call 18; with_reducible exact Calls.plus_of (HAC.out _)) | (go_at_call 18; with_reducible exact Calls.plus_of (HBA.out _)) | (go_at_call 20; with_reducible exact Calls.plus_of (LAB.out _)) | (go_at_call 20; with_reducible exact Calls.plus_of (LBA.out _))); go_big_quiet_on)))
    refine wpQuiet_nil ?_
    rintro _ ⟨x, rfl⟩
    go_wp2
    go_ret
    exact ⟨rfl, (by repeat (first | exact Below.refl _ _ | refine blw_alloc ?_ | refine blw_plus ?_ | refine Below.drew ?_))⟩

set_option maxHeartbeats 4000000 in
theorem clockAbove_zero_z (aw ac cw cc now : Int) (w : World) (hY : ¬ 0 < cmpS aw ac cw cc) :
    Calls Try.prog 5 #[.agg #[.int .i64 aw, .int .i64 ac], .agg #[.int .i64 aw, .int .i64 ac], .agg #[.int .i64 cw, .int .i64 cc], .int .i64 now] w fun e w' => e = .returned (.bool true) ∧ Below w.heap.size w w' := by
  have HN := hidp (fun w => next_any aw ac now w)
  have HAB := hidp (fun w => compare_any aw ac aw ac w)
  have HBC := hidp (fun w => compare_any aw ac cw cc w)
  have LAB := hidp (fun w => later_any aw ac aw ac w)
  rw [(cmpS_zero_iff aw ac aw ac).2 ⟨rfl, rfl⟩] at HAB LAB
  rw [if_neg (by omega)] at LAB
  have HAC := HBC
  have HBA := HAB
  have LBA := LAB
  generalize cmpS aw ac cw cc = Z at *
  have hZd : decide (0 < Z) = false := by simp; omega
  have hZe : decide (Z ≤ 0) = true := by simp; omega
  go_enter Try.func5, Try.ntmps5
  go_wp2_with fail
  refine (timed_any _).mono ?_
  rintro e w' ⟨rfl, hb⟩; obtain ⟨_, rfl⟩ := wplus_of_below hb; clear hb
  go_wp2_with fail
  refine (HN.out _).mono ?_
  rintro e w' ⟨hb, h⟩; obtain ⟨_, rfl⟩ := wplus_of_below hb; clear hb
  rcases h with ⟨sw, sc, rfl, g1, g2, g3⟩ | ⟨sw, sc, n, rfl⟩
  · have HS := hidp (fun w => compare_any aw ac sw sc w)
    have HR := hidp (fun w => rightS_any sw sc w)
    rw [g1] at HS
    rw [g3] at HR
    clear g1 g3
    have g2' : ¬ sw < now := by omega
    go_wp2_with fail
    refine (HS.out _).mono ?_
    rintro e w' ⟨rfl, hb⟩; obtain ⟨_, rfl⟩ := wplus_of_below hb; clear hb
    go_wp2_with fail
    refine (HR.out _).mono ?_
    rintro e w' ⟨rfl, hb⟩; obtain ⟨_, rfl⟩ := wplus_of_below hb; clear hb
    go_wp2_with fail
    clear HS HR g2 g2'
    refine wp_region_plus (by kernel_rfl) (by kernel_rfl) ?_
    repeat (first | go_big_quiet_skip | (go_big_quiet_want; go_big_quiet_op; first | go_big_quiet_on | (apply Exists.intro; refine ⟨fun _ => ?_, ?_⟩; (first | (go_at_call 18; with_reducible exact Calls.plus_of (HAB.out _)) | (go_at_call 18; with_reducible exact Calls.plus_of (HBC.out _)) | (go_at_call 18; with_reducible exact Calls.plus_of (HAC.out _)) | (go_at_call 18; with_reducible exact Calls.plus_of (HBA.out _)) | (go_at_call 20; with_reducible exact Calls.plus_of (LAB.out _)) | (go_at_call 20; with_reducible exact Calls.plus_of (LBA.out _))); go_big_quiet_on)))
    refine wpQuiet_nil ?_
    rintro _ ⟨x, rfl⟩
    go_wp2
    refine wp_region_plus (by kernel_rfl) (by kernel_rfl) ?_
    repeat (first | go_big_quiet_skip | (go_big_quiet_want; go_big_quiet_op; first | go_big_quiet_on | (apply Exists.intro; refine ⟨fun _ => ?_, ?_⟩; (first | (go_at_call 18; with_reducible exact Calls.plus_of (HAB.out _)) | (go_at_call 18; with_reducible exact Calls.plus_of (HBC.out _)) | (go_at_call 18; with_reducible exact Calls.plus_of (HAC.out _)) | (go_at_call 18; with_reducible exact Calls.plus_of (HBA.out _)) | (go_at_call 20; with_reducible exact Calls.plus_of (LAB.out _)) | (go_at_call 20; with_reducible exact Calls.plus_of (LBA.out _))); go_big_quiet_on)))
    refine wpQuiet_nil ?_
    rintro _ ⟨x, rfl⟩
    go_wp2
    go_ret
    exact ⟨rfl, (by repeat (first | exact Below.refl _ _ | refine blw_alloc ?_ | refine blw_plus ?_ | refine Below.drew ?_))⟩
  · go_wp2_with fail
    refine wp_region_plus (by kernel_rfl) (by kernel_rfl) ?_
    repeat (first | go_big_quiet_skip | (go_big_quiet_want; go_big_quiet_op; first | go_big_quiet_on | (apply Exists.intro; refine ⟨fun _ => ?_, ?_⟩; (first | (go_at_call 18; with_reducible exact Calls.plus_of (HAB.out _)) | (go_at_call 18; with_reducible exact Calls.plus_of (HBC.out _)) | (go_at_call 18; with_reducible exact Calls.plus_of (HAC.out _)) | (go_at_call 18; with_reducible exact Calls.plus_of (HBA.out _)) | (go_at_call 20; with_reducible exact Calls.plus_of (LAB.out _)) | (go_at_call 20; with_reducible exact Calls.plus_of (LBA.out _))); go_big_quiet_on)))
    refine wpQuiet_nil ?_
    rintro _ ⟨x, rfl⟩
    go_wp2
    refine wp_region_plus (by kernel_rfl) (by kernel_rfl) ?_
    repeat (first | go_big_quiet_skip | (go_big_quiet_want; go_big_quiet_op; first | go_big_quiet_on | (apply Exists.intro; refine ⟨fun _ => ?_, ?_⟩; (first | (go_at_call 18; with_reducible exact Calls.plus_of (HAB.out _)) | (go_at_call 18; with_reducible exact Calls.plus_of (HBC.out _)) | (go_at_call 18; with_reducible exact Calls.plus_of (HAC.out _)) | (go_at_call 18; with_reducible exact Calls.plus_of (HBA.out _)) | (go_at_call 20; with_reducible exact Calls.plus_of (LAB.out _)) | (go_at_call 20; with_reducible exact Calls.plus_of (LBA.out _))); go_big_quiet_on)))
    refine wpQuiet_nil ?_
    rintro _ ⟨x, rfl⟩
    go_wp2
    go_ret
    exact ⟨rfl, (by repeat (first | exact Below.refl _ _ | refine blw_alloc ?_ | refine blw_plus ?_ | refine Below.drew ?_))⟩

theorem clockAbove_walk (aw ac bw bc cw cc now : Int) (w : World) :
    Calls Try.prog 5 #[.agg #[.int .i64 aw, .int .i64 ac], .agg #[.int .i64 bw, .int .i64 bc], .agg #[.int .i64 cw, .int .i64 cc], .int .i64 now] w fun e w' => e = .returned (.bool true) ∧ Below w.heap.size w w' := by
  by_cases hX : cmpS aw ac bw bc < 0
  · by_cases hY : 0 < cmpS bw bc cw cc
    · exact clockAbove_neg_y aw ac bw bc cw cc now w hX hY
    · exact clockAbove_neg_z aw ac bw bc cw cc now w hX hY
  · by_cases hP : 0 < cmpS aw ac bw bc
    · exact clockAbove_pos aw ac bw bc cw cc now w hP
    · obtain ⟨rfl, rfl⟩ := (cmpS_zero_iff aw ac bw bc).1 (by omega)
      by_cases hY : 0 < cmpS aw ac cw cc
      · exact clockAbove_zero_y aw ac cw cc now w hY
      · exact clockAbove_zero_z aw ac cw cc now w hY
end Go.Proofs.Ytbopfhbeegkkaaa
