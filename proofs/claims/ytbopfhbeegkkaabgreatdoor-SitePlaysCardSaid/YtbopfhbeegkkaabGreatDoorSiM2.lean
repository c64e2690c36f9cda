/- Part 2 of a proof: lemmas and contracts that other parts use. -/
import Derived.Test.YtbopfhbeegkkaabGreatDoorSiM1
import Derived.Test.YtbopfhbeegkkaabGreatDoorRows
import Derived.LaidEql
import Derived.Stop.Asserts
set_option linter.unusedVariables false
set_option linter.unusedSimpArgs false
namespace Go.Proofs.YtbopfhbeegkkaabGreatDoor
open Go.RowKit

def cmpI (x y : Int) : Int := if x < y then -1 else if y < x then 1 else 0
def orI (x y : Int) : Int := if x = 0 then y else x
def cmpS (aw ac bw bc : Int) : Int := orI (cmpI aw bw) (cmpI ac bc)
def rightS (w c : Int) : Bool := decide (0 ≤ w) && decide (w ≤ 1099511627776) && decide (0 ≤ c) && decide (c ≤ 1099511627776)
theorem cmpI_lt {x y : Int} (h : x < y) : cmpI x y = -1 := by simp [cmpI, h]
theorem cmpI_gt {x y : Int} (h : y < x) : cmpI x y = 1 := by unfold cmpI; rw [if_neg (by omega), if_pos h]
theorem cmpI_eq {x y : Int} (h : ¬ x < y) (h' : ¬ y < x) : cmpI x y = 0 := by simp [cmpI, h, h']

set_option maxHeartbeats 400000 in
theorem nan_any (x : Int) (w : World) : Calls Tryz.prog 189 #[.int .i64 x] w fun e w' => e = .returned (.bool false) ∧ w = w' := by
  go_enter Tryz.func189, Tryz.ntmps189
  go_wp2
  go_ret
  exact ⟨by simp, rfl⟩

set_option maxHeartbeats 400000 in
theorem cmp_any (x y : Int) (w : World) : Calls Tryz.prog 153 #[.int .i64 x, .int .i64 y] w fun e w' => e = .returned (.int .i64 (cmpI x y)) ∧ w = w' := by
  by_cases h : x < y
  · rw [cmpI_lt h]
    go_enter Tryz.func153, Tryz.ntmps153
    go_wp2_with (go_at_call 189; refine (nan_any _ _).mono ?_; rintro e w' ⟨rfl, rfl⟩)
    go_ret
    exact ⟨rfl, rfl⟩
  by_cases h' : y < x
  · rw [cmpI_gt h']
    go_enter Tryz.func153, Tryz.ntmps153
    go_wp2_with (go_at_call 189; refine (nan_any _ _).mono ?_; rintro e w' ⟨rfl, rfl⟩)
    go_ret
    exact ⟨rfl, rfl⟩
  · rw [cmpI_eq h h']
    go_enter Tryz.func153, Tryz.ntmps153
    go_wp2_with (go_at_call 189; refine (nan_any _ _).mono ?_; rintro e w' ⟨rfl, rfl⟩)
    go_ret
    exact ⟨rfl, rfl⟩

set_option maxHeartbeats 400000 in
theorem or_any (x y : Int) (b c : Nat) (w : World) (h0 : w.cell? ⟨b, 0, none⟩ = some (.int .i64 x)) (h1 : w.cell? ⟨b, 1, none⟩ = some (.int .i64 y)) :
    Calls Tryz.prog 152 #[.slice (some ⟨b, 0, none⟩) 2 c] w fun e w' => e = .returned (.int .i64 (orI x y)) ∧ w = w' := by
  by_cases hx : x = 0
  · have e1 : orI x y = y := by simp [orI, hx]
    rw [e1]
    clear e1
    subst hx
    by_cases hy : y = 0
    · subst hy
      go_enter Tryz.func152, Tryz.ntmps152
      go_wp2
      refine wp_loop_rounds 3 ?_
      rw [rounds_succ]; go_wp2
      rw [rounds_succ]; go_wp2
      rw [rounds_succ]; go_wp2
      go_ret
      exact ⟨rfl, rfl⟩
    · have hyb : (y != 0) = true := by simp [hy]
      go_enter Tryz.func152, Tryz.ntmps152
      go_wp2
      refine wp_loop_rounds 3 ?_
      rw [rounds_succ]; go_wp2
      rw [rounds_succ]; go_wp2
      go_ret
      exact ⟨rfl, rfl⟩
  · have e1 : orI x y = x := by simp [orI, hx]
    rw [e1]
    clear e1
    have hxb : (x != 0) = true := by simp [hx]
    go_enter Tryz.func152, Tryz.ntmps152
    go_wp2
    refine wp_loop_rounds 3 ?_
    rw [rounds_succ]; go_wp2
    go_ret
    exact ⟨rfl, rfl⟩

set_option maxHeartbeats 400000 in
theorem compare_any (aw ac bw bc : Int) (w : World) : Calls Tryz.prog 114 #[.agg #[.int .i64 aw, .int .i64 ac], .agg #[.int .i64 bw, .int .i64 bc]] w fun e w' => e = .returned (.int .i64 (cmpS aw ac bw bc)) ∧ Below w.heap.size w w' := by
  go_enter Tryz.func114, Tryz.ntmps114
  go_wp2
  refine wp_region_plus_tail 10 (by kernel_rfl) (by kernel_rfl) ?_
  simp only [List.take_succ_cons, List.take_zero, List.drop_succ_cons, List.drop_zero]
  repeat (first | go_big_quiet_skip | (go_big_quiet_want; go_big_quiet_op; first | go_big_quiet_on | (apply Exists.intro; refine ⟨fun _ => ?_, ?_⟩; (first | (go_at_call 153; exact Calls.plus_same (cmp_any _ _ _))); go_big_quiet_on)))
  refine wpQuiet_nil ?_
  rintro _ ⟨x, rfl⟩
  go_wp2_with fail
  refine (or_any (cmpI aw bw) (cmpI ac bc) _ _ _ ?_ ?_).mono ?_
  · simp [go_sem]
  · simp [go_sem]
  rintro e w' ⟨rfl, rfl⟩
  go_wp2
  go_ret
  exact ⟨rfl, (by repeat (first | exact Below.refl _ _ | refine blw_alloc ?_ | refine blw_plus ?_ | refine Below.drew ?_))⟩

set_option maxHeartbeats 800000 in
theorem rightS_any (aw ac : Int) (w : World) : Calls Tryz.prog 135 #[.agg #[.int .i64 aw, .int .i64 ac]] w fun e w' => e = .returned (.bool (rightS aw ac)) ∧ Below w.heap.size w w' := by
  by_cases ha : aw < 0
  · have e1 : rightS aw ac = false := by simp [rightS]; omega
    rw [e1]
    clear e1
    go_enter Tryz.func135, Tryz.ntmps135
    go_wp2
    go_ret
    exact ⟨by first | rfl | (simp; omega), (by repeat (first | exact Below.refl _ _ | refine blw_alloc ?_ | refine blw_plus ?_ | refine Below.drew ?_))⟩
  by_cases hb : 1099511627776 < aw
  · have e1 : rightS aw ac = false := by simp [rightS]; omega
    rw [e1]
    clear e1
    go_enter Tryz.func135, Tryz.ntmps135
    go_wp2
    go_ret
    exact ⟨by first | rfl | (simp; omega), (by repeat (first | exact Below.refl _ _ | refine blw_alloc ?_ | refine blw_plus ?_ | refine Below.drew ?_))⟩
  by_cases hc : ac < 0
  · have e1 : rightS aw ac = false := by simp [rightS]; omega
    rw [e1]
    clear e1
    go_enter Tryz.func135, Tryz.ntmps135
    go_wp2
    go_ret
    exact ⟨by first | rfl | (simp; omega), (by repeat (first | exact Below.refl _ _ | refine blw_alloc ?_ | refine blw_plus ?_ | refine Below.drew ?_))⟩
  by_cases hd : 1099511627776 < ac
  · have e1 : rightS aw ac = false := by simp [rightS]; omega
    rw [e1]
    clear e1
    go_enter Tryz.func135, Tryz.ntmps135
    go_wp2
    go_ret
    exact ⟨by first | rfl | (simp; omega), (by repeat (first | exact Below.refl _ _ | refine blw_alloc ?_ | refine blw_plus ?_ | refine Below.drew ?_))⟩
  have e1 : rightS aw ac = true := by simp [rightS]; omega
  rw [e1]
  clear e1
  go_enter Tryz.func135, Tryz.ntmps135
  go_wp2
  go_ret
  exact ⟨by first | rfl | (simp; omega), (by repeat (first | exact Below.refl _ _ | refine blw_alloc ?_ | refine blw_plus ?_ | refine Below.drew ?_))⟩

set_option maxHeartbeats 400000 in
theorem later_any (aw ac bw bc : Int) (w : World) : Calls Tryz.prog 137 #[.agg #[.int .i64 aw, .int .i64 ac], .agg #[.int .i64 bw, .int .i64 bc]] w fun e w' => e = .returned (if cmpS aw ac bw bc < 0 then .agg #[.int .i64 bw, .int .i64 bc] else .agg #[.int .i64 aw, .int .i64 ac]) ∧ Below w.heap.size w w' := by
  generalize hg : cmpS aw ac bw bc = g
  have hc := fun w => compare_any aw ac bw bc w
  rw [hg] at hc
  have HC := hidp hc
  clear hc hg
  by_cases h : g < 0
  · rw [if_pos h]
    go_enter Tryz.func137, Tryz.ntmps137
    go_wp2_with (go_at_call 114; refine (HC.out _).mono ?_; rintro e w' ⟨rfl, hb⟩; obtain ⟨x, rfl⟩ := wplus_of_below hb; clear hb)
    exact bodyPost_ret (v := .agg #[.int .i64 bw, .int .i64 bc]) (by simp [results, Tryz.results137, go_sem]) rfl ⟨rfl, (by repeat (first | exact Below.refl _ _ | refine blw_alloc ?_ | refine blw_plus ?_ | refine Below.drew ?_))⟩
  · rw [if_neg h]
    go_enter Tryz.func137, Tryz.ntmps137
    go_wp2_with (go_at_call 114; refine (HC.out _).mono ?_; rintro e w' ⟨rfl, hb⟩; obtain ⟨x, rfl⟩ := wplus_of_below hb; clear hb)
    exact bodyPost_ret (v := .agg #[.int .i64 aw, .int .i64 ac]) (by simp [results, Tryz.results137, go_sem]) rfl ⟨rfl, (by repeat (first | exact Below.refl _ _ | refine blw_alloc ?_ | refine blw_plus ?_ | refine Below.drew ?_))⟩

set_option maxHeartbeats 800000 in
theorem next_r1 (aw ac now : Int) (w : World) (hr : rightS aw ac = false) :
    Calls Tryz.prog 78 #[.agg #[.int .i64 aw, .int .i64 ac], .int .i64 now] w fun e w' => e = .returned (.tuple #[.agg #[.int .i64 0, .int .i64 0], .iface 29 (.int .i64 2)]) ∧ Below w.heap.size w w' := by
  go_enter Tryz.func78, Tryz.ntmps78
  go_wp2_with (go_at_call 135; refine (rightS_any _ _ _).mono ?_; rintro e w' ⟨rfl, hb⟩; obtain ⟨x, rfl⟩ := wplus_of_below hb; clear hb)
  exact bodyPost_ret (v := .tuple #[.agg #[.int .i64 0, .int .i64 0], .iface 29 (.int .i64 2)]) (by simp [results, Tryz.results78, go_sem]) rfl ⟨rfl, (by repeat (first | exact Below.refl _ _ | refine blw_alloc ?_ | refine blw_plus ?_ | refine Below.drew ?_))⟩

set_option maxHeartbeats 800000 in
theorem next_r2 (aw ac now : Int) (w : World) (hr : rightS aw ac = true) (h : now < 0) :
    Calls Tryz.prog 78 #[.agg #[.int .i64 aw, .int .i64 ac], .int .i64 now] w fun e w' => e = .returned (.tuple #[.agg #[.int .i64 0, .int .i64 0], .iface 29 (.int .i64 2)]) ∧ Below w.heap.size w w' := by
  go_enter Tryz.func78, Tryz.ntmps78
  go_wp2_with (go_at_call 135; refine (rightS_any _ _ _).mono ?_; rintro e w' ⟨rfl, hb⟩; obtain ⟨x, rfl⟩ := wplus_of_below hb; clear hb)
  exact bodyPost_ret (v := .tuple #[.agg #[.int .i64 0, .int .i64 0], .iface 29 (.int .i64 2)]) (by simp [results, Tryz.results78, go_sem]) rfl ⟨rfl, (by repeat (first | exact Below.refl _ _ | refine blw_alloc ?_ | refine blw_plus ?_ | refine Below.drew ?_))⟩

set_option maxHeartbeats 800000 in
theorem next_r3 (aw ac now : Int) (w : World) (hr : rightS aw ac = true) (h0 : 0 ≤ now) (h : 1099511627776 < now) :
    Calls Tryz.prog 78 #[.agg #[.int .i64 aw, .int .i64 ac], .int .i64 now] w fun e w' => e = .returned (.tuple #[.agg #[.int .i64 0, .int .i64 0], .iface 29 (.int .i64 2)]) ∧ Below w.heap.size w w' := by
  go_enter Tryz.func78, Tryz.ntmps78
  go_wp2_with (go_at_call 135; refine (rightS_any _ _ _).mono ?_; rintro e w' ⟨rfl, hb⟩; obtain ⟨x, rfl⟩ := wplus_of_below hb; clear hb)
  exact bodyPost_ret (v := .tuple #[.agg #[.int .i64 0, .int .i64 0], .iface 29 (.int .i64 2)]) (by simp [results, Tryz.results78, go_sem]) rfl ⟨rfl, (by repeat (first | exact Below.refl _ _ | refine blw_alloc ?_ | refine blw_plus ?_ | refine Below.drew ?_))⟩

set_option maxHeartbeats 800000 in
theorem next_new (aw ac now : Int) (w : World) (hr : rightS aw ac = true) (h0 : 0 ≤ now) (h1 : now ≤ 1099511627776) (h : aw < now) :
    Calls Tryz.prog 78 #[.agg #[.int .i64 aw, .int .i64 ac], .int .i64 now] w fun e w' => e = .returned (.tuple #[.agg #[.int .i64 now, .int .i64 0], .nilIface]) ∧ Below w.heap.size w w' := by
  go_enter Tryz.func78, Tryz.ntmps78
  go_wp2_with (go_at_call 135; refine (rightS_any _ _ _).mono ?_; rintro e w' ⟨rfl, hb⟩; obtain ⟨x, rfl⟩ := wplus_of_below hb; clear hb)
  exact bodyPost_ret (v := .tuple #[.agg #[.int .i64 now, .int .i64 0], .nilIface]) (by simp [results, Tryz.results78, go_sem]) rfl ⟨rfl, (by repeat (first | exact Below.refl _ _ | refine blw_alloc ?_ | refine blw_plus ?_ | refine Below.drew ?_))⟩

set_option maxHeartbeats 800000 in
theorem next_full (aw ac now : Int) (w : World) (hr : rightS aw ac = true) (h0 : 0 ≤ now) (h1 : now ≤ 1099511627776) (h : now ≤ aw) (hf : (ac == 1099511627776) = true) :
    Calls Tryz.prog 78 #[.agg #[.int .i64 aw, .int .i64 ac], .int .i64 now] w fun e w' => e = .returned (.tuple #[.agg #[.int .i64 0, .int .i64 0], .iface 29 (.int .i64 12)]) ∧ Below w.heap.size w w' := by
  go_enter Tryz.func78, Tryz.ntmps78
  go_wp2_with (go_at_call 135; refine (rightS_any _ _ _).mono ?_; rintro e w' ⟨rfl, hb⟩; obtain ⟨x, rfl⟩ := wplus_of_below hb; clear hb)
  exact bodyPost_ret (v := .tuple #[.agg #[.int .i64 0, .int .i64 0], .iface 29 (.int .i64 12)]) (by simp [results, Tryz.results78, go_sem]) rfl ⟨rfl, (by repeat (first | exact Below.refl _ _ | refine blw_alloc ?_ | refine blw_plus ?_ | refine Below.drew ?_))⟩

set_option maxHeartbeats 800000 in
theorem next_inc (aw ac now : Int) (w : World) (hr : rightS aw ac = true) (h0 : 0 ≤ now) (h1 : now ≤ 1099511627776) (h : now ≤ aw) (hf : (ac == 1099511627776) = false) (hb : 0 ≤ ac ∧ ac ≤ 1099511627776) :
    Calls Tryz.prog 78 #[.agg #[.int .i64 aw, .int .i64 ac], .int .i64 now] w fun e w' => e = .returned (.tuple #[.agg #[.int .i64 aw, .int .i64 (ac + 1)], .nilIface]) ∧ Below w.heap.size w w' := by
  go_enter Tryz.func78, Tryz.ntmps78
  go_wp2_with (go_at_call 135; refine (rightS_any _ _ _).mono ?_; rintro e w' ⟨rfl, hb⟩; obtain ⟨x, rfl⟩ := wplus_of_below hb; clear hb)
  exact bodyPost_ret (v := .tuple #[.agg #[.int .i64 aw, .int .i64 (ac + 1)], .nilIface]) (by simp [results, Tryz.results78, go_sem]) rfl ⟨rfl, (by repeat (first | exact Below.refl _ _ | refine blw_alloc ?_ | refine blw_plus ?_ | refine Below.drew ?_))⟩
theorem cmpI_bd (x y : Int) : -1 ≤ cmpI x y ∧ cmpI x y ≤ 1 := by unfold cmpI; split <;> (try split) <;> omega
theorem cmpS_bd (aw ac bw bc : Int) : -1 ≤ cmpS aw ac bw bc ∧ cmpS aw ac bw bc ≤ 1 := by
  unfold cmpS orI; split
  · exact cmpI_bd _ _
  · exact cmpI_bd _ _
theorem cmpS_neg_iff (aw ac bw bc : Int) : cmpS aw ac bw bc < 0 ↔ (aw < bw ∨ aw = bw ∧ ac < bc) := by
  unfold cmpS orI cmpI; (repeat' split) <;> omega
theorem cmpS_pos_iff (aw ac bw bc : Int) : 0 < cmpS aw ac bw bc ↔ (bw < aw ∨ aw = bw ∧ bc < ac) := by
  unfold cmpS orI cmpI; (repeat' split) <;> omega
theorem cmpS_zero_iff (aw ac bw bc : Int) : cmpS aw ac bw bc = 0 ↔ (aw = bw ∧ ac = bc) := by
  unfold cmpS orI cmpI; (repeat' split) <;> omega
theorem cmpS_swap (aw ac bw bc : Int) : cmpS bw bc aw ac = - cmpS aw ac bw bc := by
  have h1 := cmpS_bd aw ac bw bc; have h2 := cmpS_bd bw bc aw ac
  have a1 := cmpS_neg_iff aw ac bw bc; have a2 := cmpS_pos_iff aw ac bw bc
  have b1 := cmpS_neg_iff bw bc aw ac; have b2 := cmpS_pos_iff bw bc aw ac
  by_cases p : cmpS aw ac bw bc < 0
  · have := a1.1 p; have := b2.2 (by omega); omega
  · by_cases q : 0 < cmpS aw ac bw bc
    · have := a2.1 q; have := b1.2 (by omega); omega
    · have c1 := (cmpS_zero_iff aw ac bw bc).1 (by omega)
      have := (cmpS_zero_iff bw bc aw ac).2 (by omega)
      omega

@[go_sem 3000] theorem eqStamp (w : World) (d : Nat) (aw ac bw bc : Int) :
    (Op.equalIn (d + 2) 34 (.agg #[.int .i64 aw, .int .i64 ac]) (.agg #[.int .i64 bw, .int .i64 bc])).run Tryz.prog w = .ok (aw == bw && ac == bc) w := by
  rw [run_equalIn_agg w (d + 1) _ _ _ (by kernel_rfl) (by kernel_rfl)]
  by_cases h1 : aw = bw <;> by_cases h2 : ac = bc <;> simp [go_sem, h1, h2]

end Go.Proofs.YtbopfhbeegkkaabGreatDoor

namespace Go.Proofs.YtbopfhbeegkkaabGreatDoor
open Go.RowKit Go.Extern.Stop Go.Stop Go.Extern

theorem as_nil (t : Value) (w : World) :
    Calls Tryz.prog 115 #[.nilIface, t] w fun e w' => e = .returned (.bool false) ∧ w = w' := by
  go_enter Tryz.func115, Tryz.ntmps115
  go_wp2
  go_ret
  exact ⟨rfl, rfl⟩

theorem valueOfP (t : Addr) (w : World) : (ReflectliteValue.unpack (.iface 194 (.pointer (some t)))).run Tryz.prog w
    = .ok (.agg #[.pointer (some ⟨10, 194, none⟩), .pointer (some ⟨w.heap.size, 0, none⟩), .int .u64 150]) (w.alloc (.cells #[.pointer (some t)] 194)) := by kernel_rfl
theorem typeP (a : Addr) (w : World) : (ReflectliteValue.methodAny (ReflectliteValue.valueError "reflectlite.Value.Type" 0) (fun t _ _ _ => ReflectliteType.toType t) #[.agg #[.pointer (some ⟨10, 194, none⟩), .pointer (some a), .int .u64 150]]).run Tryz.prog w
    = .ok (.iface 295 (.agg #[.pointer (some ⟨10, 194, none⟩)])) w := by kernel_rfl
theorem kindP (w : World) : ((ReflectliteType.abiMethod fun t => (fun a : Nat => Value.int IntKind.u8 (a : Int)) <$> Rtype.kind t) #[.pointer (some ⟨10, 194, none⟩)]).run Tryz.prog w = .ok (.int .u8 22) w := by kernel_rfl
theorem kindE (w : World) : ((ReflectliteType.abiMethod fun t => (fun a : Nat => Value.int IntKind.u8 (a : Int)) <$> Rtype.kind t) #[.pointer (some ⟨10, 29, none⟩)]).run Tryz.prog w = .ok (.int .u8 2) w := by kernel_rfl
theorem rlm (z : Sem Value) (f : TypeId → Addr → Nat → Nat → Sem Value) (v : Value) :
    ReflectliteValue.method z f #[v] = (do match ← ReflectliteValue.parts v with | none => z | some (t, a, fl) => f t a fl (fl % 32)) := rfl
theorem partsP (a : Addr) (w : World) : (ReflectliteValue.parts (.agg #[.pointer (some ⟨10, 194, none⟩), .pointer (some a), .int .u64 150])).run Tryz.prog w = .ok (some (194, a, 150)) w := by kernel_rfl
theorem isNilP (a p : Addr) (W : World) (ha : W.cell? a = some (.pointer (some p))) :
    (ReflectliteValue.method (ReflectliteValue.valueError "reflectlite.Value.IsNil" 0) ReflectliteValue.isNil #[.agg #[.pointer (some ⟨10, 194, none⟩), .pointer (some a), .int .u64 150]]).run Tryz.prog W = .ok (.bool false) W := by
  rw [rlm]
  simp only [Sem.run_bind, partsP, Result.andThen]
  simp [ReflectliteValue.isNil, loadVar, isAgg, underlying, Tryz.underlying194, ha, Result.andThen]
theorem elemP (w : World) : (ReflectliteType.method ReflectliteType.elem #[.agg #[.pointer (some ⟨10, 194, none⟩)]]).run Tryz.prog w = .ok (.iface 295 (.agg #[.pointer (some ⟨10, 29, none⟩)])) w := by kernel_rfl
theorem implementsE (w : World) : (ReflectliteType.relation "Implements" ReflectliteType.implements_ #[.agg #[.pointer (some ⟨10, 29, none⟩)], .iface 295 (.agg #[.pointer (some ⟨10, 25, none⟩)])]).run Tryz.prog w = .ok (.bool true) w := by kernel_rfl
theorem typeOfE (v : Value) (w : World) : (ReflectliteType.typeOf #[.iface 29 v]).run Tryz.prog w = .ok (.iface 295 (.agg #[.pointer (some ⟨10, 29, none⟩)])) w := by kernel_rfl
theorem assignableE (w : World) : (ReflectliteType.relation "AssignableTo" ReflectliteType.assignableTo #[.agg #[.pointer (some ⟨10, 29, none⟩)], .iface 295 (.agg #[.pointer (some ⟨10, 29, none⟩)])]).run Tryz.prog w = .ok (.bool true) w := by kernel_rfl
theorem methodKind (k : Nat) (h : Value) (w : World) : (Go.method (k + 1) 295 (.agg #[h]) "Kind").run Tryz.prog w = .ok (310, h) w := by kernel_rfl
theorem methodElem (k : Nat) (h : Value) (w : World) : (Go.method (k + 1) 295 (.agg #[h]) "Elem").run Tryz.prog w = .ok (323, .agg #[h]) w := by kernel_rfl
theorem methodImplements (k : Nat) (h : Value) (w : World) : (Go.method (k + 1) 295 (.agg #[h]) "Implements").run Tryz.prog w = .ok (324, .agg #[h]) w := by kernel_rfl
theorem methodAssignableTo (k : Nat) (h : Value) (w : World) : (Go.method (k + 1) 295 (.agg #[h]) "AssignableTo").run Tryz.prog w = .ok (321, .agg #[h]) w := by kernel_rfl
theorem valueOfE (n : Int) (w : World) : (ReflectliteValue.unpack (.iface 29 (.int .i64 n))).run Tryz.prog w
    = .ok (.agg #[.pointer (some ⟨10, 29, none⟩), .pointer (some ⟨w.heap.size, 0, none⟩), .int .u64 130]) (w.alloc (.cells #[.int .i64 n] 29)) := by kernel_rfl
theorem elemOfP (w : World) : (Rtype.elem? 194).run Tryz.prog w = .ok (some 29) w := by kernel_rfl
theorem mkE (p : Addr) (w : World) : (ReflectliteValue.mk 29 p ReflectliteValue.flagAddr).run Tryz.prog w = .ok (.agg #[.pointer (some ⟨10, 29, none⟩), .pointer (some p), .int .u64 386]) w := by kernel_rfl
theorem elemVP (a p : Addr) (W : World) (ha : W.cell? a = some (.pointer (some p))) :
    (ReflectliteValue.method (ReflectliteValue.valueError "reflectlite.Value.Elem" 0) ReflectliteValue.elem #[.agg #[.pointer (some ⟨10, 194, none⟩), .pointer (some a), .int .u64 150]]).run Tryz.prog W
      = .ok (.agg #[.pointer (some ⟨10, 29, none⟩), .pointer (some p), .int .u64 386]) W := by
  rw [rlm]
  simp only [Sem.run_bind, partsP, Result.andThen]
  simp [ReflectliteValue.elem, loadVar, isAgg, underlying, Tryz.underlying194, ha, Result.andThen, elemOfP, mkE]
theorem rls (v x : Value) : ReflectliteValue.set #[v, x] = (do
    let (some (dst, a, fl), some (src, b, _)) := (← ReflectliteValue.parts v, ← ReflectliteValue.parts x)
      | unsupported (.noEntry "extern/(internal/reflectlite.Value).Set.zeroValue")
    if fl / ReflectliteValue.flagAddr % 2 == 0 then unsupported (.noEntry "extern/(internal/reflectlite.Value).Set.unaddressable")
    let val ← loadVar src b
    if ← Rtype.directlyAssignable dst src then storeVar dst a val
    else if ← Rtype.implements dst src then
      if (← Rtype.kind src) == 20 then
        match val with
        | .nilIface => unsupported (.noEntry "extern/reflectlite: a nil value of one interface type handed on as a value of another")
        | _ => storeVar dst a val
      else storeVar dst a (.iface src val)
    else panicString ("reflectlite.Set: value of type " ++ (← Rtype.spelt src) ++ " is not assignable to type " ++ (← Rtype.spelt dst))
    pure (.tuple #[])) := rfl
theorem partsEa (a : Addr) (w : World) : (ReflectliteValue.parts (.agg #[.pointer (some ⟨10, 29, none⟩), .pointer (some a), .int .u64 386])).run Tryz.prog w = .ok (some (29, a, 386)) w := by kernel_rfl
theorem partsE (a : Addr) (w : World) : (ReflectliteValue.parts (.agg #[.pointer (some ⟨10, 29, none⟩), .pointer (some a), .int .u64 130])).run Tryz.prog w = .ok (some (29, a, 130)) w := by kernel_rfl
theorem directE (w : World) : (Rtype.directlyAssignable 29 29).run Tryz.prog w = .ok true w := by kernel_rfl
theorem setE (ta b : Addr) (n : Int) (old : Value) (W : World) (hb : W.cell? b = some (.int .i64 n)) (ht : W.cell? ta = some old) (hf : W.frozen? ta = false) :
    (ReflectliteValue.set #[.agg #[.pointer (some ⟨10, 29, none⟩), .pointer (some ta), .int .u64 386], .agg #[.pointer (some ⟨10, 29, none⟩), .pointer (some b), .int .u64 130]]).run Tryz.prog W
      = .ok (.tuple #[]) (W.setCell ta (.int .i64 n)) := by
  rw [rls]
  simp only [Sem.run_bind, partsEa, partsE, Result.andThen]
  simp [ReflectliteValue.flagAddr, loadVar, isAgg, underlying, Tryz.underlying29, hb, Result.andThen, directE, storeVar, Value.cells, storeCells, Addr.add]
  rw [run_store Tryz.prog W ta _ _ (by rfl)]
  simp [ht, hf]

set_option maxRecDepth 100000 in
set_option maxHeartbeats 4000000 in
theorem as_hit (n : Int) (t : Nat) (old : Value) (w : World) (hg : w.cell? ⟨0, 0, none⟩ = some (.iface 295 (.agg #[.pointer (some ⟨10, 25, none⟩)]))) (ht0 : w.cell? ⟨t, 0, none⟩ = some old) (hf0 : w.frozen? ⟨t, 0, none⟩ = false) :
    Calls Tryz.prog 115 #[.iface 29 (.int .i64 n), .iface 194 (.pointer (some ⟨t, 0, none⟩))] w fun ev w' => ev = .returned (.bool true) ∧ ∃ x, w' = wplus (w.setCell ⟨t, 0, none⟩ (.int .i64 n)) x := by
  have h6 := @run_callFunc_extern Tryz.prog 154 _ (fun args => ReflectliteValue.unpack (args.getD 0 (.tuple #[]))) Tryz.func154 (by kernel_rfl) (by kernel_rfl) (by kernel_rfl) (by kernel_rfl)
  have h7 := @run_callFunc_extern Tryz.prog 155 _ (ReflectliteValue.methodAny (ReflectliteValue.valueError "reflectlite.Value.Type" 0) (fun t _ _ _ => ReflectliteType.toType t)) Tryz.func155 (by kernel_rfl) (by kernel_rfl) (by kernel_rfl) (by kernel_rfl)
  have h8 := @run_callFunc_extern Tryz.prog 156 _ (ReflectliteValue.method (ReflectliteValue.valueError "reflectlite.Value.IsNil" 0) ReflectliteValue.isNil) Tryz.func156 (by kernel_rfl) (by kernel_rfl) (by kernel_rfl) (by kernel_rfl)
  have h27 := @run_callFunc_extern Tryz.prog 310 _ (ReflectliteType.abiMethod fun t => do pure (.int .u8 (← Rtype.kind t))) Tryz.func310 (by kernel_rfl) (by kernel_rfl) (by kernel_rfl) (by kernel_rfl)
  have h37 := @run_callFunc_extern Tryz.prog 323 _ (ReflectliteType.method ReflectliteType.elem) Tryz.func323 (by kernel_rfl) (by kernel_rfl) (by kernel_rfl) (by kernel_rfl)
  have h38 := @run_callFunc_extern Tryz.prog 324 _ (ReflectliteType.relation "Implements" ReflectliteType.implements_) Tryz.func324 (by kernel_rfl) (by kernel_rfl) (by kernel_rfl) (by kernel_rfl)
  have h10 := @run_callFunc_extern Tryz.prog 190 _ ReflectliteType.typeOf Tryz.func190 (by kernel_rfl) (by kernel_rfl) (by kernel_rfl) (by kernel_rfl)
  have h35 := @run_callFunc_extern Tryz.prog 321 _ (ReflectliteType.relation "AssignableTo" ReflectliteType.assignableTo) Tryz.func321 (by kernel_rfl) (by kernel_rfl) (by kernel_rfl) (by kernel_rfl)
  have h11 := @run_callFunc_extern Tryz.prog 191 _ (ReflectliteValue.method (ReflectliteValue.valueError "reflectlite.Value.Elem" 0) ReflectliteValue.elem) Tryz.func191 (by kernel_rfl) (by kernel_rfl) (by kernel_rfl) (by kernel_rfl)
  have h12 := @run_callFunc_extern Tryz.prog 192 _ ReflectliteValue.set Tryz.func192 (by kernel_rfl) (by kernel_rfl) (by kernel_rfl) (by kernel_rfl)
  have tO := typeOfE
  have aE := assignableE
  have vE := valueOfE
  have vP := valueOfP
  have tP := typeP
  have kP := kindP
  have kE := kindE
  have eP := elemP
  have iE := implementsE
  have mK := methodKind
  have mE := methodElem
  have mI := methodImplements
  have mA := methodAssignableTo
  have hlt : 0 < w.heap.size := World.block_lt_of_cell? w _ hg
  have htl : t < w.heap.size := World.block_lt_of_cell? w _ ht0
  haveI : SzGe (0 + 1) w := ⟨hlt⟩
  haveI : SzGe (t + 1) w := ⟨htl⟩
  have n8 := isNilP ⟨w.heap.size, 0, none⟩ ⟨t, 0, none⟩ ((w.alloc (.cells #[.pointer (some ⟨t, 0, none⟩)] 194)).alloc (.cells #[.pointer (some ⟨10, 194, none⟩), .pointer (some ⟨w.heap.size, 0, none⟩), .int .u64 150] 253)) (by simp)
  have el := elemVP ⟨w.heap.size, 0, none⟩ ⟨t, 0, none⟩ (((w.alloc (.cells #[.pointer (some ⟨t, 0, none⟩)] 194)).alloc (.cells #[.pointer (some ⟨10, 194, none⟩), .pointer (some ⟨w.heap.size, 0, none⟩), .int .u64 150] 253)).alloc (.cells #[.pointer (some ⟨10, 194, none⟩), .pointer (some ⟨w.heap.size, 0, none⟩), .int .u64 150] 253)) (by simp [go_sem])
  have st := setE ⟨t, 0, none⟩ ⟨w.heap.size + 1 + 1 + 1, 0, none⟩ n old ((((w.alloc (.cells #[.pointer (some ⟨t, 0, none⟩)] 194)).alloc (.cells #[.pointer (some ⟨10, 194, none⟩), .pointer (some ⟨w.heap.size, 0, none⟩), .int .u64 150] 253)).alloc (.cells #[.pointer (some ⟨10, 194, none⟩), .pointer (some ⟨w.heap.size, 0, none⟩), .int .u64 150] 253)).alloc (.cells #[.int .i64 n] 29)) (by simp [go_sem]) (by simp [go_sem, ht0]) (by simp [go_sem, hf0])
  go_enter Tryz.func115, Tryz.ntmps115
  go_wp2
  refine wp_loop_rounds 1 ?_
  rw [rounds_succ]
  go_wp2
  go_ret
  refine ⟨rfl, ?_⟩
  exact wplus_of_below (by repeat (first | exact Below.refl _ _ | refine blw_alloc ?_))

/-- what errors.errorType holds -/
def EType (w : World) : Prop := w.cell? ⟨0, 0, none⟩ = some (.iface 295 (.agg #[.pointer (some ⟨10, 25, none⟩)]))
theorem EType.plus {w w' : World} (h : EType w) (hb : Below w.heap.size w w') : EType w' := by
  have hlt : 0 < w.heap.size := World.block_lt_of_cell? w _ h
  unfold EType; rw [hb.cell (p := ⟨0, 0, none⟩) hlt]; exact h

theorem tell_nil (w : World) : Calls Tryz.prog 61 #[.nilIface] w fun e w' => e = .returned (.int .i64 0) ∧ w = w' := by
  go_enter Tryz.func61, Tryz.ntmps61
  go_wp2
  go_ret
  exact ⟨rfl, rfl⟩
set_option maxHeartbeats 1000000 in
theorem tell_errno (n : Int) (w : World) (hg : EType w) : Calls Tryz.prog 61 #[.iface 29 (.int .i64 n)] w fun e w' => e = .returned (.int .i64 n) ∧ Below w.heap.size w w' := by
  have hlt : 0 < w.heap.size := World.block_lt_of_cell? w _ hg
  haveI : SzGe (0 + 1) w := ⟨hlt⟩
  go_enter Tryz.func61, Tryz.ntmps61
  go_wp2_with fail
  refine (as_hit n w.heap.size (.int .i64 0) _ ?_ ?_ ?_).mono ?_
  · rw [alloc_cell]; exact hg
  · simp [go_sem]
  · simp [go_sem]
  rintro e w' ⟨rfl, x, rfl⟩
  go_wp2
  go_ret
  exact ⟨rfl, by repeat (first | exact Below.refl _ _ | refine blw_alloc ?_ | refine blw_plus ?_)⟩

set_option maxHeartbeats 1000000 in
theorem noAt (n : Int) (xT : TypeId) (w : World) : (Instr.typeAssert (.iface 29 (.int .i64 n)) xT 223 true).run Tryz.prog w = .ok (.tuple #[.pointer none, .bool false]) w := by kernel_rfl
theorem noUnwrap (v : Value) (xT : TypeId) (w : World) : (Instr.typeAssert (.iface 29 v) xT 225 true).run Tryz.prog w = .ok (.tuple #[.nilIface, .bool false]) w :=
  run_typeAssert_lacksB Tryz.underlying225 (by kernel_rfl) (by kernel_rfl) v xT w
theorem bare_nil (w : World) : Calls Tryz.prog 70 #[.nilIface] w fun e w' => e = .returned (.tuple #[.int .i64 0, .bool true]) ∧ w = w' := by
  go_enter Tryz.func70, Tryz.ntmps70
  go_wp2_with (go_at_call 61; refine (tell_nil _).mono ?_; rintro e w' ⟨rfl, rfl⟩)
  refine wp_loop_rounds 1 ?_
  rw [rounds_succ]
  go_wp2
  go_ret2
  exact ⟨rfl, rfl⟩
set_option maxRecDepth 100000 in
set_option maxHeartbeats 1000000 in
theorem bare_errno (n : Int) (w : World) (hg : EType w) : Calls Tryz.prog 70 #[.iface 29 (.int .i64 n)] w fun e w' => e = .returned (.tuple #[.int .i64 n, .bool true]) ∧ Below w.heap.size w w' := by
  have nA := noAt
  have nU := noUnwrap
  go_enter Tryz.func70, Tryz.ntmps70
  go_wp2_with fail
  refine (tell_errno n _ hg).mono ?_
  rintro e w' ⟨rfl, hb⟩; obtain ⟨x, rfl⟩ := wplus_of_below hb; clear hb
  go_wp2_with fail
  refine wp_loop_rounds 1 ?_
  rw [rounds_succ]
  go_wp2
  go_ret2
  exact ⟨rfl, by repeat (first | exact Below.refl _ _ | refine blw_alloc ?_ | refine blw_plus ?_)⟩
end Go.Proofs.YtbopfhbeegkkaabGreatDoor
