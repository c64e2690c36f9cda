import Derived.Test.YtbopfhbeegkkaaaDoorLib
import Derived.Test.YtbopfhbeegkkaaaDoorRows
namespace Go.Proofs.YtbopfhbeegkkaaaDoor
open Go.RowKit

def cmpI (x y : Int) : Int := if x < y then -1 else if y < x then 1 else 0
def orI (x y : Int) : Int := if x = 0 then y else x
def cmpS (aw ac bw bc : Int) : Int := orI (cmpI aw bw) (cmpI ac bc)
def rightS (w c : Int) : Bool := decide (0 ≤ w) && decide (w ≤ 1099511627776) && decide (0 ≤ c) && decide (c ≤ 1099511627776)
theorem cmpI_lt {x y : Int} (h : x < y) : cmpI x y = -1 := by simp [cmpI, h]
theorem cmpI_gt {x y : Int} (h : y < x) : cmpI x y = 1 := by unfold cmpI; rw [if_neg (by omega), if_pos h]
theorem cmpI_eq {x y : Int} (h : ¬ x < y) (h' : ¬ y < x) : cmpI x y = 0 := by simp [cmpI, h, h']

set_option maxHeartbeats 400000 in
theorem nan_any (x : Int) (w : World) : Calls Tryd.prog 83 #[.int .i64 x] w fun e w' => e = .returned (.bool false) ∧ w = w' := by
  go_enter Tryd.func83, Tryd.ntmps83
  go_wp2
  go_ret
  exact ⟨by simp, rfl⟩

set_option maxHeartbeats 400000 in
theorem cmp_any (x y : Int) (w : World) : Calls Tryd.prog 57 #[.int .i64 x, .int .i64 y] w fun e w' => e = .returned (.int .i64 (cmpI x y)) ∧ w = w' := by
  by_cases h : x < y
  · rw [cmpI_lt h]
    go_enter Tryd.func57, Tryd.ntmps57
    go_wp2_with (go_at_call 83; refine (nan_any _ _).mono ?_; rintro e w' ⟨rfl, rfl⟩)
    go_ret
    exact ⟨rfl, rfl⟩
  by_cases h' : y < x
  · rw [cmpI_gt h']
    go_enter Tryd.func57, Tryd.ntmps57
    go_wp2_with (go_at_call 83; refine (nan_any _ _).mono ?_; rintro e w' ⟨rfl, rfl⟩)
    go_ret
    exact ⟨rfl, rfl⟩
  · rw [cmpI_eq h h']
    go_enter Tryd.func57, Tryd.ntmps57
    go_wp2_with (go_at_call 83; refine (nan_any _ _).mono ?_; rintro e w' ⟨rfl, rfl⟩)
    go_ret
    exact ⟨rfl, rfl⟩

set_option maxHeartbeats 400000 in
theorem or_any (x y : Int) (b c : Nat) (w : World) (h0 : w.cell? ⟨b, 0, none⟩ = some (.int .i64 x)) (h1 : w.cell? ⟨b, 1, none⟩ = some (.int .i64 y)) :
    Calls Tryd.prog 56 #[.slice (some ⟨b, 0, none⟩) 2 c] w fun e w' => e = .returned (.int .i64 (orI x y)) ∧ w = w' := by
  by_cases hx : x = 0
  · have e1 : orI x y = y := by simp [orI, hx]
    rw [e1]
    clear e1
    subst hx
    by_cases hy : y = 0
    · subst hy
      go_enter Tryd.func56, Tryd.ntmps56
      go_wp2
      refine wp_loop_rounds 3 ?_
      rw [rounds_succ]; go_wp2
      rw [rounds_succ]; go_wp2
      rw [rounds_succ]; go_wp2
      go_ret
      exact ⟨rfl, rfl⟩
    · have hyb : (y != 0) = true := by simp [hy]
      go_enter Tryd.func56, Tryd.ntmps56
      go_wp2
      refine wp_loop_rounds 3 ?_
      rw [rounds_succ]; go_wp2
      rw [rounds_succ]; go_wp2
      go_ret
      exact ⟨rfl, rfl⟩
  · have e1 : orI x y = x := by simp [orI, hx]
    rw [e1]
    clear e1
    have hxb : (x != 0) = true := by simp [hx]
    go_enter Tryd.func56, Tryd.ntmps56
    go_wp2
    refine wp_loop_rounds 3 ?_
    rw [rounds_succ]; go_wp2
    go_ret
    exact ⟨rfl, rfl⟩

set_option maxHeartbeats 400000 in
theorem compare_any (aw ac bw bc : Int) (w : World) : Calls Tryd.prog 15 #[.agg #[.int .i64 aw, .int .i64 ac], .agg #[.int .i64 bw, .int .i64 bc]] w fun e w' => e = .returned (.int .i64 (cmpS aw ac bw bc)) ∧ Below w.heap.size w w' := by
  go_enter Tryd.func15, Tryd.ntmps15
  go_wp2
  refine wp_region_plus_tail 10 (by kernel_rfl) (by kernel_rfl) ?_
  simp only [List.take_succ_cons, List.take_zero, List.drop_succ_cons, List.drop_zero]
  repeat (first | go_big_quiet_skip | (go_big_quiet_want; go_big_quiet_op; first | go_big_quiet_on | (apply Exists.intro; refine ⟨fun _ => ?_, ?_⟩; (first | (go_at_call 57; exact Calls.plus_same (cmp_any _ _ _))); go_big_quiet_on)))
  refine wpQuiet_nil ?_
  rintro _ ⟨x, rfl⟩
  go_wp2_with fail
  refine (or_any (cmpI aw bw) (cmpI ac bc) _ _ _ ?_ ?_).mono ?_
  · simp [go_sem]
  · simp [go_sem]
  rintro e w' ⟨rfl, rfl⟩
  go_wp2
  go_ret
  exact ⟨rfl, (by repeat (first | exact Below.refl _ _ | refine blw_alloc ?_ | refine blw_plus ?_ | refine Below.drew ?_))⟩

set_option maxHeartbeats 800000 in
theorem rightS_any (aw ac : Int) (w : World) : Calls Tryd.prog 13 #[.agg #[.int .i64 aw, .int .i64 ac]] w fun e w' => e = .returned (.bool (rightS aw ac)) ∧ Below w.heap.size w w' := by
  by_cases ha : aw < 0
  · have e1 : rightS aw ac = false := by simp [rightS]; omega
    rw [e1]
    clear e1
    go_enter Tryd.func13, Tryd.ntmps13
    go_wp2
    go_ret
    exact ⟨by first | rfl | (simp; omega), (by repeat (first | exact Below.refl _ _ | refine blw_alloc ?_ | refine blw_plus ?_ | refine Below.drew ?_))⟩
  by_cases hb : 1099511627776 < aw
  · have e1 : rightS aw ac = false := by simp [rightS]; omega
    rw [e1]
    clear e1
    go_enter Tryd.func13, Tryd.ntmps13
    go_wp2
    go_ret
    exact ⟨by first | rfl | (simp; omega), (by repeat (first | exact Below.refl _ _ | refine blw_alloc ?_ | refine blw_plus ?_ | refine Below.drew ?_))⟩
  by_cases hc : ac < 0
  · have e1 : rightS aw ac = false := by simp [rightS]; omega
    rw [e1]
    clear e1
    go_enter Tryd.func13, Tryd.ntmps13
    go_wp2
    go_ret
    exact ⟨by first | rfl | (simp; omega), (by repeat (first | exact Below.refl _ _ | refine blw_alloc ?_ | refine blw_plus ?_ | refine Below.drew ?_))⟩
  by_cases hd : 1099511627776 < ac
  · have e1 : rightS aw ac = false := by simp [rightS]; omega
    rw [e1]
    clear e1
    go_enter Tryd.func13, Tryd.ntmps13
    go_wp2
    go_ret
    exact ⟨by first | rfl | (simp; omega), (by repeat (first | exact Below.refl _ _ | refine blw_alloc ?_ | refine blw_plus ?_ | refine Below.drew ?_))⟩
  have e1 : rightS aw ac = true := by simp [rightS]; omega
  rw [e1]
  clear e1
  go_enter Tryd.func13, Tryd.ntmps13
  go_wp2
  go_ret
  exact ⟨by first | rfl | (simp; omega), (by repeat (first | exact Below.refl _ _ | refine blw_alloc ?_ | refine blw_plus ?_ | refine Below.drew ?_))⟩

set_option maxHeartbeats 400000 in
theorem later_any (aw ac bw bc : Int) (w : World) : Calls Tryd.prog 16 #[.agg #[.int .i64 aw, .int .i64 ac], .agg #[.int .i64 bw, .int .i64 bc]] w fun e w' => e = .returned (if cmpS aw ac bw bc < 0 then .agg #[.int .i64 bw, .int .i64 bc] else .agg #[.int .i64 aw, .int .i64 ac]) ∧ Below w.heap.size w w' := by
  generalize hg : cmpS aw ac bw bc = g
  have hc := fun w => compare_any aw ac bw bc w
  rw [hg] at hc
  have HC := hidp hc
  clear hc hg
  by_cases h : g < 0
  · rw [if_pos h]
    go_enter Tryd.func16, Tryd.ntmps16
    go_wp2_with (go_at_call 15; refine (HC.out _).mono ?_; rintro e w' ⟨rfl, hb⟩; obtain ⟨x, rfl⟩ := wplus_of_below hb; clear hb)
    exact bodyPost_ret (v := .agg #[.int .i64 bw, .int .i64 bc]) (by simp [results, Tryd.results16, go_sem]) rfl ⟨rfl, (by repeat (first | exact Below.refl _ _ | refine blw_alloc ?_ | refine blw_plus ?_ | refine Below.drew ?_))⟩
  · rw [if_neg h]
    go_enter Tryd.func16, Tryd.ntmps16
    go_wp2_with (go_at_call 15; refine (HC.out _).mono ?_; rintro e w' ⟨rfl, hb⟩; obtain ⟨x, rfl⟩ := wplus_of_below hb; clear hb)
    exact bodyPost_ret (v := .agg #[.int .i64 aw, .int .i64 ac]) (by simp [results, Tryd.results16, go_sem]) rfl ⟨rfl, (by repeat (first | exact Below.refl _ _ | refine blw_alloc ?_ | refine blw_plus ?_ | refine Below.drew ?_))⟩

set_option maxHeartbeats 800000 in
theorem next_r1 (aw ac now : Int) (w : World) (hr : rightS aw ac = false) :
    Calls Tryd.prog 10 #[.agg #[.int .i64 aw, .int .i64 ac], .int .i64 now] w fun e w' => e = .returned (.tuple #[.agg #[.int .i64 0, .int .i64 0], .iface 24 (.int .i64 2)]) ∧ Below w.heap.size w w' := by
  go_enter Tryd.func10, Tryd.ntmps10
  go_wp2_with (go_at_call 13; refine (rightS_any _ _ _).mono ?_; rintro e w' ⟨rfl, hb⟩; obtain ⟨x, rfl⟩ := wplus_of_below hb; clear hb)
  exact bodyPost_ret (v := .tuple #[.agg #[.int .i64 0, .int .i64 0], .iface 24 (.int .i64 2)]) (by simp [results, Tryd.results10, go_sem]) rfl ⟨rfl, (by repeat (first | exact Below.refl _ _ | refine blw_alloc ?_ | refine blw_plus ?_ | refine Below.drew ?_))⟩

set_option maxHeartbeats 800000 in
theorem next_r2 (aw ac now : Int) (w : World) (hr : rightS aw ac = true) (h : now < 0) :
    Calls Tryd.prog 10 #[.agg #[.int .i64 aw, .int .i64 ac], .int .i64 now] w fun e w' => e = .returned (.tuple #[.agg #[.int .i64 0, .int .i64 0], .iface 24 (.int .i64 2)]) ∧ Below w.heap.size w w' := by
  go_enter Tryd.func10, Tryd.ntmps10
  go_wp2_with (go_at_call 13; refine (rightS_any _ _ _).mono ?_; rintro e w' ⟨rfl, hb⟩; obtain ⟨x, rfl⟩ := wplus_of_below hb; clear hb)
  exact bodyPost_ret (v := .tuple #[.agg #[.int .i64 0, .int .i64 0], .iface 24 (.int .i64 2)]) (by simp [results, Tryd.results10, go_sem]) rfl ⟨rfl, (by repeat (first | exact Below.refl _ _ | refine blw_alloc ?_ | refine blw_plus ?_ | refine Below.drew ?_))⟩

set_option maxHeartbeats 800000 in
theorem next_r3 (aw ac now : Int) (w : World) (hr : rightS aw ac = true) (h0 : 0 ≤ now) (h : 1099511627776 < now) :
    Calls Tryd.prog 10 #[.agg #[.int .i64 aw, .int .i64 ac], .int .i64 now] w fun e w' => e = .returned (.tuple #[.agg #[.int .i64 0, .int .i64 0], .iface 24 (.int .i64 2)]) ∧ Below w.heap.size w w' := by
  go_enter Tryd.func10, Tryd.ntmps10
  go_wp2_with (go_at_call 13; refine (rightS_any _ _ _).mono ?_; rintro e w' ⟨rfl, hb⟩; obtain ⟨x, rfl⟩ := wplus_of_below hb; clear hb)
  exact bodyPost_ret (v := .tuple #[.agg #[.int .i64 0, .int .i64 0], .iface 24 (.int .i64 2)]) (by simp [results, Tryd.results10, go_sem]) rfl ⟨rfl, (by repeat (first | exact Below.refl _ _ | refine blw_alloc ?_ | refine blw_plus ?_ | refine Below.drew ?_))⟩

set_option maxHeartbeats 800000 in
theorem next_new (aw ac now : Int) (w : World) (hr : rightS aw ac = true) (h0 : 0 ≤ now) (h1 : now ≤ 1099511627776) (h : aw < now) :
    Calls Tryd.prog 10 #[.agg #[.int .i64 aw, .int .i64 ac], .int .i64 now] w fun e w' => e = .returned (.tuple #[.agg #[.int .i64 now, .int .i64 0], .nilIface]) ∧ Below w.heap.size w w' := by
  go_enter Tryd.func10, Tryd.ntmps10
  go_wp2_with (go_at_call 13; refine (rightS_any _ _ _).mono ?_; rintro e w' ⟨rfl, hb⟩; obtain ⟨x, rfl⟩ := wplus_of_below hb; clear hb)
  exact bodyPost_ret (v := .tuple #[.agg #[.int .i64 now, .int .i64 0], .nilIface]) (by simp [results, Tryd.results10, go_sem]) rfl ⟨rfl, (by repeat (first | exact Below.refl _ _ | refine blw_alloc ?_ | refine blw_plus ?_ | refine Below.drew ?_))⟩

set_option maxHeartbeats 800000 in
theorem next_full (aw ac now : Int) (w : World) (hr : rightS aw ac = true) (h0 : 0 ≤ now) (h1 : now ≤ 1099511627776) (h : now ≤ aw) (hf : (ac == 1099511627776) = true) :
    Calls Tryd.prog 10 #[.agg #[.int .i64 aw, .int .i64 ac], .int .i64 now] w fun e w' => e = .returned (.tuple #[.agg #[.int .i64 0, .int .i64 0], .iface 24 (.int .i64 12)]) ∧ Below w.heap.size w w' := by
  go_enter Tryd.func10, Tryd.ntmps10
  go_wp2_with (go_at_call 13; refine (rightS_any _ _ _).mono ?_; rintro e w' ⟨rfl, hb⟩; obtain ⟨x, rfl⟩ := wplus_of_below hb; clear hb)
  exact bodyPost_ret (v := .tuple #[.agg #[.int .i64 0, .int .i64 0], .iface 24 (.int .i64 12)]) (by simp [results, Tryd.results10, go_sem]) rfl ⟨rfl, (by repeat (first | exact Below.refl _ _ | refine blw_alloc ?_ | refine blw_plus ?_ | refine Below.drew ?_))⟩

set_option maxHeartbeats 800000 in
theorem next_inc (aw ac now : Int) (w : World) (hr : rightS aw ac = true) (h0 : 0 ≤ now) (h1 : now ≤ 1099511627776) (h : now ≤ aw) (hf : (ac == 1099511627776) = false) (hb : 0 ≤ ac ∧ ac ≤ 1099511627776) :
    Calls Tryd.prog 10 #[.agg #[.int .i64 aw, .int .i64 ac], .int .i64 now] w fun e w' => e = .returned (.tuple #[.agg #[.int .i64 aw, .int .i64 (ac + 1)], .nilIface]) ∧ Below w.heap.size w w' := by
  go_enter Tryd.func10, Tryd.ntmps10
  go_wp2_with (go_at_call 13; refine (rightS_any _ _ _).mono ?_; rintro e w' ⟨rfl, hb⟩; obtain ⟨x, rfl⟩ := wplus_of_below hb; clear hb)
  exact bodyPost_ret (v := .tuple #[.agg #[.int .i64 aw, .int .i64 (ac + 1)], .nilIface]) (by simp [results, Tryd.results10, go_sem]) rfl ⟨rfl, (by repeat (first | exact Below.refl _ _ | refine blw_alloc ?_ | refine blw_plus ?_ | refine Below.drew ?_))⟩
theorem cmpI_bd (x y : Int) : -1 ≤ cmpI x y ∧ cmpI x y ≤ 1 := by unfold cmpI; split <;> (try split) <;> omega
theorem cmpS_bd (aw ac bw bc : Int) : -1 ≤ cmpS aw ac bw bc ∧ cmpS aw ac bw bc ≤ 1 := by
  unfold cmpS orI; split
  · exact cmpI_bd _ _
  · exact cmpI_bd _ _
theorem cmpS_neg_iff (aw ac bw bc : Int) : cmpS aw ac bw bc < 0 ↔ (aw < bw ∨ aw = bw ∧ ac < bc) := by
  unfold cmpS orI cmpI; (repeat' split) <;> omega
theorem cmpS_pos_iff (aw ac bw bc : Int) : 0 < cmpS aw ac bw bc ↔ (bw < aw ∨ aw = bw ∧ bc < ac) := by
  unfold cmpS orI cmpI; (repeat' split) <;> omega
theorem cmpS_zero_iff (aw ac bw bc : Int) : cmpS aw ac bw bc = 0 ↔ (aw = bw ∧ ac = bc) := by
  unfold cmpS orI cmpI; (repeat' split) <;> omega
theorem cmpS_swap (aw ac bw bc : Int) : cmpS bw bc aw ac = - cmpS aw ac bw bc := by
  have h1 := cmpS_bd aw ac bw bc; have h2 := cmpS_bd bw bc aw ac
  have a1 := cmpS_neg_iff aw ac bw bc; have a2 := cmpS_pos_iff aw ac bw bc
  have b1 := cmpS_neg_iff bw bc aw ac; have b2 := cmpS_pos_iff bw bc aw ac
  by_cases p : cmpS aw ac bw bc < 0
  · have := a1.1 p; have := b2.2 (by omega); omega
  · by_cases q : 0 < cmpS aw ac bw bc
    · have := a2.1 q; have := b1.2 (by omega); omega
    · have c1 := (cmpS_zero_iff aw ac bw bc).1 (by omega)
      have := (cmpS_zero_iff bw bc aw ac).2 (by omega)
      omega

@[go_sem 3000] theorem eqStamp (w : World) (d : Nat) (aw ac bw bc : Int) :
    (Op.equalIn (d + 2) 23 (.agg #[.int .i64 aw, .int .i64 ac]) (.agg #[.int .i64 bw, .int .i64 bc])).run Tryd.prog w = .ok (aw == bw && ac == bc) w := by
  rw [run_equalIn_agg w (d + 1) _ _ _ (by kernel_rfl) (by kernel_rfl)]
  by_cases h1 : aw = bw <;> by_cases h2 : ac = bc <;> simp [go_sem, h1, h2]

end Go.Proofs.YtbopfhbeegkkaaaDoor
