/- Part 36 of a proof: lemmas and contracts that other parts use. -/
import Derived.Test.YtbopfhbeegkkaabGreatDoorSiM26
set_option linter.unusedVariables false
set_option linter.unusedSimpArgs false
namespace Go.Proofs.YtbopfhbeegkkaabGreatDoor
open Go.RowKit

theorem rRightS_is {aw ac : Int} {b : Bool} (h : rightS aw ac = b) (w : World) : Calls Tryz.prog 132 #[.agg #[.int .i64 aw, .int .i64 ac]] w fun e w' => e = .returned (.bool b) ∧ Below w.heap.size w w' := by
  subst h; exact rRightS_any aw ac w
theorem rRight_is {a0 a1 a2 a3 : Int} {b : Bool} (h : rgtB a0 a1 a2 a3 = b) (w : World) : Calls Tryz.prog 72 #[.agg #[.int .i64 a0, .int .i64 a1, .int .i64 a2, .int .i64 a3]] w fun e w' => e = .returned (.bool b) ∧ Below w.heap.size w w' := by
  subst h; exact rRight_any a0 a1 a2 a3 w
set_option maxHeartbeats 4000000 in
theorem rrtx_1 (site : Int) (seq wall count d0 d1 d2 d3 : Int) (A : Option Addr) (c : Nat) (ws : List WrP) (w : World) (hn : ws.length ≤ 1000000) (hws : WsAt w A ws) (h1 : ¬ (0 ≤ site ∧ site ≤ 3)) :
    Calls Tryz.prog 86 #[.agg #[.int .i64 site, .int .i64 seq, .int .i64 wall, .int .i64 count, .int .i64 d0, .int .i64 d1, .int .i64 d2, .int .i64 d3, .slice A ws.length c]] w
      fun e w' => e = .returned (.bool (rightTx ⟨site, seq, wall, count, d0, d1, d2, d3, ws⟩)) ∧ Below w.heap.size w w' := by
  have HF : Hid (rightTx ⟨site, seq, wall, count, d0, d1, d2, d3, ws⟩ = false) := hidp (by rw [rightTx, headTx_eq]; simp; omega)
  clear hws
  have HI1 := hidp fun w => in_is w (decide_eq_false h1)
  go_enter Tryz.func86, Tryz.ntmps86
  go_wp2
  refine wp_region_plus (by kernel_rfl) (by kernel_rfl) ?_
  repeat (first | go_big_quiet_skip | (go_big_quiet_want; go_big_quiet_op; first | go_big_quiet_on | (apply Exists.intro; refine ⟨fun _ => ?_, ?_⟩; (first | (go_at_call 96; with_reducible exact Calls.plus_same (HI1.out _))); go_big_quiet_on)))
  refine wpQuiet_nil ?_
  rintro _ ⟨x, rfl⟩
  go_wp2
  go_ret
  exact ⟨by rw [HF.out]; rfl, (by repeat (first | exact Below.refl _ _ | refine blw_alloc ?_ | refine blw_plus ?_ | refine Below.drew ?_))⟩
set_option maxHeartbeats 4000000 in
theorem rrtx_2 (site : Int) (seq wall count d0 d1 d2 d3 : Int) (A : Option Addr) (c : Nat) (ws : List WrP) (w : World) (hn : ws.length ≤ 1000000) (hws : WsAt w A ws) (h1 : 0 ≤ site ∧ site ≤ 3) (h2 : ¬ (1 ≤ seq ∧ seq ≤ 1099511627776)) :
    Calls Tryz.prog 86 #[.agg #[.int .i64 site, .int .i64 seq, .int .i64 wall, .int .i64 count, .int .i64 d0, .int .i64 d1, .int .i64 d2, .int .i64 d3, .slice A ws.length c]] w
      fun e w' => e = .returned (.bool (rightTx ⟨site, seq, wall, count, d0, d1, d2, d3, ws⟩)) ∧ Below w.heap.size w w' := by
  have HF : Hid (rightTx ⟨site, seq, wall, count, d0, d1, d2, d3, ws⟩ = false) := hidp (by rw [rightTx, headTx_eq]; simp; omega)
  clear hws
  have HI1 := hidp fun w => in_is w (decide_eq_true h1)
  have HI2 := hidp fun w => in_is w (decide_eq_false h2)
  go_enter Tryz.func86, Tryz.ntmps86
  go_wp2
  refine wp_region_plus (by kernel_rfl) (by kernel_rfl) ?_
  repeat (first | go_big_quiet_skip | (go_big_quiet_want; go_big_quiet_op; first | go_big_quiet_on | (apply Exists.intro; refine ⟨fun _ => ?_, ?_⟩; (first | (go_at_call 96; with_reducible exact Calls.plus_same (HI1.out _)) | (go_at_call 96; with_reducible exact Calls.plus_same (HI2.out _))); go_big_quiet_on)))
  refine wpQuiet_nil ?_
  rintro _ ⟨x, rfl⟩
  go_wp2
  go_ret
  exact ⟨by rw [HF.out]; rfl, (by repeat (first | exact Below.refl _ _ | refine blw_alloc ?_ | refine blw_plus ?_ | refine Below.drew ?_))⟩
set_option maxHeartbeats 4000000 in
theorem rrtx_3 (site : Int) (seq wall count d0 d1 d2 d3 : Int) (A : Option Addr) (c : Nat) (ws : List WrP) (w : World) (hn : ws.length ≤ 1000000) (hws : WsAt w A ws) (h1 : 0 ≤ site ∧ site ≤ 3) (h2 : 1 ≤ seq ∧ seq ≤ 1099511627776) (hs : rightS wall count = false) :
    Calls Tryz.prog 86 #[.agg #[.int .i64 site, .int .i64 seq, .int .i64 wall, .int .i64 count, .int .i64 d0, .int .i64 d1, .int .i64 d2, .int .i64 d3, .slice A ws.length c]] w
      fun e w' => e = .returned (.bool (rightTx ⟨site, seq, wall, count, d0, d1, d2, d3, ws⟩)) ∧ Below w.heap.size w w' := by
  have HF : Hid (rightTx ⟨site, seq, wall, count, d0, d1, d2, d3, ws⟩ = false) := hidp (by rw [rightTx, headTx_eq]; simp [hs])
  clear hws
  have HI1 := hidp fun w => in_is w (decide_eq_true h1)
  have HI2 := hidp fun w => in_is w (decide_eq_true h2)
  have HS := hidp (fun w => rRightS_is hs w)
  go_enter Tryz.func86, Tryz.ntmps86
  go_wp2
  refine wp_region_plus (by kernel_rfl) (by kernel_rfl) ?_
  repeat (first | go_big_quiet_skip | (go_big_quiet_want; go_big_quiet_op; first | go_big_quiet_on | (apply Exists.intro; refine ⟨fun _ => ?_, ?_⟩; (first | (go_at_call 96; with_reducible exact Calls.plus_same (HI1.out _)) | (go_at_call 96; with_reducible exact Calls.plus_same (HI2.out _)) | (go_at_call 132; exact Calls.plus_of (HS.out _))); go_big_quiet_on)))
  refine wpQuiet_nil ?_
  rintro _ ⟨x, rfl⟩
  go_wp2
  go_ret
  exact ⟨by rw [HF.out]; rfl, (by repeat (first | exact Below.refl _ _ | refine blw_alloc ?_ | refine blw_plus ?_ | refine Below.drew ?_))⟩
set_option maxHeartbeats 4000000 in
theorem rrtx_4 (site : Int) (seq wall count d0 d1 d2 d3 : Int) (A : Option Addr) (c : Nat) (ws : List WrP) (w : World) (hn : ws.length ≤ 1000000) (hws : WsAt w A ws) (h1 : 0 ≤ site ∧ site ≤ 3) (h2 : 1 ≤ seq ∧ seq ≤ 1099511627776) (hs : rightS wall count = true) (hr : rgtB d0 d1 d2 d3 = false) :
    Calls Tryz.prog 86 #[.agg #[.int .i64 site, .int .i64 seq, .int .i64 wall, .int .i64 count, .int .i64 d0, .int .i64 d1, .int .i64 d2, .int .i64 d3, .slice A ws.length c]] w
      fun e w' => e = .returned (.bool (rightTx ⟨site, seq, wall, count, d0, d1, d2, d3, ws⟩)) ∧ Below w.heap.size w w' := by
  have HF : Hid (rightTx ⟨site, seq, wall, count, d0, d1, d2, d3, ws⟩ = false) := hidp (by rw [rightTx, headTx_eq]; simp [hr])
  clear hws
  have HI1 := hidp fun w => in_is w (decide_eq_true h1)
  have HI2 := hidp fun w => in_is w (decide_eq_true h2)
  have HS := hidp (fun w => rRightS_is hs w)
  have HR := hidp (fun w => rRight_is hr w)
  go_enter Tryz.func86, Tryz.ntmps86
  go_wp2
  refine wp_region_plus (by kernel_rfl) (by kernel_rfl) ?_
  repeat (first | go_big_quiet_skip | (go_big_quiet_want; go_big_quiet_op; first | go_big_quiet_on | (apply Exists.intro; refine ⟨fun _ => ?_, ?_⟩; (first | (go_at_call 96; with_reducible exact Calls.plus_same (HI1.out _)) | (go_at_call 96; with_reducible exact Calls.plus_same (HI2.out _)) | (go_at_call 132; exact Calls.plus_of (HS.out _)) | (go_at_call 72; exact Calls.plus_of (HR.out _))); go_big_quiet_on)))
  refine wpQuiet_nil ?_
  rintro _ ⟨x, rfl⟩
  go_wp2
  go_ret
  exact ⟨by rw [HF.out]; rfl, (by repeat (first | exact Below.refl _ _ | refine blw_alloc ?_ | refine blw_plus ?_ | refine Below.drew ?_))⟩
set_option maxHeartbeats 4000000 in
theorem rrtx_50 (seq wall count d0 d1 d2 d3 : Int) (A : Option Addr) (c : Nat) (ws : List WrP) (w : World) (hn : ws.length ≤ 1000000) (hws : WsAt w A ws) (h2 : 1 ≤ seq ∧ seq ≤ 1099511627776) (hs : rightS wall count = true) (hr : rgtB d0 d1 d2 d3 = true) (hd : d0 ≠ seq - 1) :
    Calls Tryz.prog 86 #[.agg #[.int .i64 0, .int .i64 seq, .int .i64 wall, .int .i64 count, .int .i64 d0, .int .i64 d1, .int .i64 d2, .int .i64 d3, .slice A ws.length c]] w
      fun e w' => e = .returned (.bool (rightTx ⟨0, seq, wall, count, d0, d1, d2, d3, ws⟩)) ∧ Below w.heap.size w w' := by
  have HF : Hid (rightTx ⟨0, seq, wall, count, d0, d1, d2, d3, ws⟩ = false) := hidp (by rw [rightTx, headTx_eq]; simp [depAt, hd])
  clear hws
  have HI1 := hidp fun w => in_is (n := 0) (lo := 0) (hi := 3) (b := true) w (by decide)
  have HI2 := hidp fun w => in_is w (decide_eq_true h2)
  have HS := hidp (fun w => rRightS_is hs w)
  have HR := hidp (fun w => rRight_is hr w)
  have hd1 : (d0 == seq - 1) = false := by simpa using hd
  obtain ⟨h3, h4⟩ := h2
  go_enter Tryz.func86, Tryz.ntmps86
  go_wp2
  refine wp_region_plus (by kernel_rfl) (by kernel_rfl) ?_
  repeat (first | go_big_quiet_skip | (go_big_quiet_want; go_big_quiet_op; first | go_big_quiet_on | (apply Exists.intro; refine ⟨fun _ => ?_, ?_⟩; (first | (go_at_call 96; with_reducible exact Calls.plus_same (HI1.out _)) | (go_at_call 96; with_reducible exact Calls.plus_same (HI2.out _)) | (go_at_call 132; exact Calls.plus_of (HS.out _)) | (go_at_call 72; exact Calls.plus_of (HR.out _))); go_big_quiet_on)))
  refine wpQuiet_nil ?_
  rintro _ ⟨x, rfl⟩
  go_wp2
  go_ret
  exact ⟨by rw [HF.out]; rfl, (by repeat (first | exact Below.refl _ _ | refine blw_alloc ?_ | refine blw_plus ?_ | refine Below.drew ?_))⟩
set_option maxHeartbeats 4000000 in
theorem rrtx_60 (seq wall count d0 d1 d2 d3 : Int) (A : Option Addr) (c : Nat) (ws : List WrP) (w : World) (hn : ws.length ≤ 1000000) (hws : WsAt w A ws) (h2 : 1 ≤ seq ∧ seq ≤ 1099511627776) (hs : rightS wall count = true) (hr : rgtB d0 d1 d2 d3 = true) (hd : d0 = seq - 1) :
    Calls Tryz.prog 86 #[.agg #[.int .i64 0, .int .i64 seq, .int .i64 wall, .int .i64 count, .int .i64 d0, .int .i64 d1, .int .i64 d2, .int .i64 d3, .slice A ws.length c]] w
      fun e w' => e = .returned (.bool (rightTx ⟨0, seq, wall, count, d0, d1, d2, d3, ws⟩)) ∧ Below w.heap.size w w' := by
  have HF : Hid (rightTx ⟨0, seq, wall, count, d0, d1, d2, d3, ws⟩ = rightWs ws) := hidp (by rw [rightTx, headTx_eq]; simp only [depAt]; rw [hs, hr, decide_eq_true h2]; simp [hd])
  have HW := hidp hws
  clear hws
  have HI1 := hidp fun w => in_is (n := 0) (lo := 0) (hi := 3) (b := true) w (by decide)
  have HI2 := hidp fun w => in_is w (decide_eq_true h2)
  have HS := hidp (fun w => rRightS_is hs w)
  have HR := hidp (fun w => rRight_is hr w)
  have hd1 : (d0 == seq - 1) = true := by simpa using hd
  obtain ⟨h3, h4⟩ := h2
  clear hd
  go_enter Tryz.func86, Tryz.ntmps86
  go_wp2
  refine wp_region_plus (by kernel_rfl) (by kernel_rfl) ?_
  repeat (first | go_big_quiet_skip | (go_big_quiet_want; go_big_quiet_op; first | go_big_quiet_on | (apply Exists.intro; refine ⟨fun _ => ?_, ?_⟩; (first | (go_at_call 96; with_reducible exact Calls.plus_same (HI1.out _)) | (go_at_call 96; with_reducible exact Calls.plus_same (HI2.out _)) | (go_at_call 132; exact Calls.plus_of (HS.out _)) | (go_at_call 72; exact Calls.plus_of (HR.out _)) | (go_at_call 71; exact Calls.plus_of (rRightWs_any A c ws _ hn (HW.out.below (by repeat (first | exact Below.refl _ _ | refine blw_alloc ?_ | refine blw_plus ?_ | refine Below.drew ?_)))))); go_big_quiet_on)))
  refine wpQuiet_nil ?_
  rintro _ ⟨x, rfl⟩
  go_wp2
  go_ret
  exact ⟨by rw [HF.out]; rfl, (by repeat (first | exact Below.refl _ _ | refine blw_alloc ?_ | refine blw_plus ?_ | refine Below.drew ?_))⟩
set_option maxHeartbeats 4000000 in
theorem rrtx_51 (seq wall count d0 d1 d2 d3 : Int) (A : Option Addr) (c : Nat) (ws : List WrP) (w : World) (hn : ws.length ≤ 1000000) (hws : WsAt w A ws) (h2 : 1 ≤ seq ∧ seq ≤ 1099511627776) (hs : rightS wall count = true) (hr : rgtB d0 d1 d2 d3 = true) (hd : d1 ≠ seq - 1) :
    Calls Tryz.prog 86 #[.agg #[.int .i64 1, .int .i64 seq, .int .i64 wall, .int .i64 count, .int .i64 d0, .int .i64 d1, .int .i64 d2, .int .i64 d3, .slice A ws.length c]] w
      fun e w' => e = .returned (.bool (rightTx ⟨1, seq, wall, count, d0, d1, d2, d3, ws⟩)) ∧ Below w.heap.size w w' := by
  have HF : Hid (rightTx ⟨1, seq, wall, count, d0, d1, d2, d3, ws⟩ = false) := hidp (by rw [rightTx, headTx_eq]; simp [depAt, hd])
  clear hws
  have HI1 := hidp fun w => in_is (n := 1) (lo := 0) (hi := 3) (b := true) w (by decide)
  have HI2 := hidp fun w => in_is w (decide_eq_true h2)
  have HS := hidp (fun w => rRightS_is hs w)
  have HR := hidp (fun w => rRight_is hr w)
  have hd1 : (d1 == seq - 1) = false := by simpa using hd
  obtain ⟨h3, h4⟩ := h2
  go_enter Tryz.func86, Tryz.ntmps86
  go_wp2
  refine wp_region_plus (by kernel_rfl) (by kernel_rfl) ?_
  repeat (first | go_big_quiet_skip | (go_big_quiet_want; go_big_quiet_op; first | go_big_quiet_on | (apply Exists.intro; refine ⟨fun _ => ?_, ?_⟩; (first | (go_at_call 96; with_reducible exact Calls.plus_same (HI1.out _)) | (go_at_call 96; with_reducible exact Calls.plus_same (HI2.out _)) | (go_at_call 132; exact Calls.plus_of (HS.out _)) | (go_at_call 72; exact Calls.plus_of (HR.out _))); go_big_quiet_on)))
  refine wpQuiet_nil ?_
  rintro _ ⟨x, rfl⟩
  go_wp2
  go_ret
  exact ⟨by rw [HF.out]; rfl, (by repeat (first | exact Below.refl _ _ | refine blw_alloc ?_ | refine blw_plus ?_ | refine Below.drew ?_))⟩
set_option maxHeartbeats 4000000 in
theorem rrtx_61 (seq wall count d0 d1 d2 d3 : Int) (A : Option Addr) (c : Nat) (ws : List WrP) (w : World) (hn : ws.length ≤ 1000000) (hws : WsAt w A ws) (h2 : 1 ≤ seq ∧ seq ≤ 1099511627776) (hs : rightS wall count = true) (hr : rgtB d0 d1 d2 d3 = true) (hd : d1 = seq - 1) :
    Calls Tryz.prog 86 #[.agg #[.int .i64 1, .int .i64 seq, .int .i64 wall, .int .i64 count, .int .i64 d0, .int .i64 d1, .int .i64 d2, .int .i64 d3, .slice A ws.length c]] w
      fun e w' => e = .returned (.bool (rightTx ⟨1, seq, wall, count, d0, d1, d2, d3, ws⟩)) ∧ Below w.heap.size w w' := by
  have HF : Hid (rightTx ⟨1, seq, wall, count, d0, d1, d2, d3, ws⟩ = rightWs ws) := hidp (by rw [rightTx, headTx_eq]; simp only [depAt]; rw [hs, hr, decide_eq_true h2]; simp [hd])
  have HW := hidp hws
  clear hws
  have HI1 := hidp fun w => in_is (n := 1) (lo := 0) (hi := 3) (b := true) w (by decide)
  have HI2 := hidp fun w => in_is w (decide_eq_true h2)
  have HS := hidp (fun w => rRightS_is hs w)
  have HR := hidp (fun w => rRight_is hr w)
  have hd1 : (d1 == seq - 1) = true := by simpa using hd
  obtain ⟨h3, h4⟩ := h2
  clear hd
  go_enter Tryz.func86, Tryz.ntmps86
  go_wp2
  refine wp_region_plus (by kernel_rfl) (by kernel_rfl) ?_
  repeat (first | go_big_quiet_skip | (go_big_quiet_want; go_big_quiet_op; first | go_big_quiet_on | (apply Exists.intro; refine ⟨fun _ => ?_, ?_⟩; (first | (go_at_call 96; with_reducible exact Calls.plus_same (HI1.out _)) | (go_at_call 96; with_reducible exact Calls.plus_same (HI2.out _)) | (go_at_call 132; exact Calls.plus_of (HS.out _)) | (go_at_call 72; exact Calls.plus_of (HR.out _)) | (go_at_call 71; exact Calls.plus_of (rRightWs_any A c ws _ hn (HW.out.below (by repeat (first | exact Below.refl _ _ | refine blw_alloc ?_ | refine blw_plus ?_ | refine Below.drew ?_)))))); go_big_quiet_on)))
  refine wpQuiet_nil ?_
  rintro _ ⟨x, rfl⟩
  go_wp2
  go_ret
  exact ⟨by rw [HF.out]; rfl, (by repeat (first | exact Below.refl _ _ | refine blw_alloc ?_ | refine blw_plus ?_ | refine Below.drew ?_))⟩
set_option maxHeartbeats 4000000 in
theorem rrtx_52 (seq wall count d0 d1 d2 d3 : Int) (A : Option Addr) (c : Nat) (ws : List WrP) (w : World) (hn : ws.length ≤ 1000000) (hws : WsAt w A ws) (h2 : 1 ≤ seq ∧ seq ≤ 1099511627776) (hs : rightS wall count = true) (hr : rgtB d0 d1 d2 d3 = true) (hd : d2 ≠ seq - 1) :
    Calls Tryz.prog 86 #[.agg #[.int .i64 2, .int .i64 seq, .int .i64 wall, .int .i64 count, .int .i64 d0, .int .i64 d1, .int .i64 d2, .int .i64 d3, .slice A ws.length c]] w
      fun e w' => e = .returned (.bool (rightTx ⟨2, seq, wall, count, d0, d1, d2, d3, ws⟩)) ∧ Below w.heap.size w w' := by
  have HF : Hid (rightTx ⟨2, seq, wall, count, d0, d1, d2, d3, ws⟩ = false) := hidp (by rw [rightTx, headTx_eq]; simp [depAt, hd])
  clear hws
  have HI1 := hidp fun w => in_is (n := 2) (lo := 0) (hi := 3) (b := true) w (by decide)
  have HI2 := hidp fun w => in_is w (decide_eq_true h2)
  have HS := hidp (fun w => rRightS_is hs w)
  have HR := hidp (fun w => rRight_is hr w)
  have hd1 : (d2 == seq - 1) = false := by simpa using hd
  obtain ⟨h3, h4⟩ := h2
  go_enter Tryz.func86, Tryz.ntmps86
  go_wp2
  refine wp_region_plus (by kernel_rfl) (by kernel_rfl) ?_
  repeat (first | go_big_quiet_skip | (go_big_quiet_want; go_big_quiet_op; first | go_big_quiet_on | (apply Exists.intro; refine ⟨fun _ => ?_, ?_⟩; (first | (go_at_call 96; with_reducible exact Calls.plus_same (HI1.out _)) | (go_at_call 96; with_reducible exact Calls.plus_same (HI2.out _)) | (go_at_call 132; exact Calls.plus_of (HS.out _)) | (go_at_call 72; exact Calls.plus_of (HR.out _))); go_big_quiet_on)))
  refine wpQuiet_nil ?_
  rintro _ ⟨x, rfl⟩
  go_wp2
  go_ret
  exact ⟨by rw [HF.out]; rfl, (by repeat (first | exact Below.refl _ _ | refine blw_alloc ?_ | refine blw_plus ?_ | refine Below.drew ?_))⟩
set_option maxHeartbeats 4000000 in
theorem rrtx_62 (seq wall count d0 d1 d2 d3 : Int) (A : Option Addr) (c : Nat) (ws : List WrP) (w : World) (hn : ws.length ≤ 1000000) (hws : WsAt w A ws) (h2 : 1 ≤ seq ∧ seq ≤ 1099511627776) (hs : rightS wall count = true) (hr : rgtB d0 d1 d2 d3 = true) (hd : d2 = seq - 1) :
    Calls Tryz.prog 86 #[.agg #[.int .i64 2, .int .i64 seq, .int .i64 wall, .int .i64 count, .int .i64 d0, .int .i64 d1, .int .i64 d2, .int .i64 d3, .slice A ws.length c]] w
      fun e w' => e = .returned (.bool (rightTx ⟨2, seq, wall, count, d0, d1, d2, d3, ws⟩)) ∧ Below w.heap.size w w' := by
  have HF : Hid (rightTx ⟨2, seq, wall, count, d0, d1, d2, d3, ws⟩ = rightWs ws) := hidp (by rw [rightTx, headTx_eq]; simp only [depAt]; rw [hs, hr, decide_eq_true h2]; simp [hd])
  have HW := hidp hws
  clear hws
  have HI1 := hidp fun w => in_is (n := 2) (lo := 0) (hi := 3) (b := true) w (by decide)
  have HI2 := hidp fun w => in_is w (decide_eq_true h2)
  have HS := hidp (fun w => rRightS_is hs w)
  have HR := hidp (fun w => rRight_is hr w)
  have hd1 : (d2 == seq - 1) = true := by simpa using hd
  obtain ⟨h3, h4⟩ := h2
  clear hd
  go_enter Tryz.func86, Tryz.ntmps86
  go_wp2
  refine wp_region_plus (by kernel_rfl) (by kernel_rfl) ?_
  repeat (first | go_big_quiet_skip | (go_big_quiet_want; go_big_quiet_op; first | go_big_quiet_on | (apply Exists.intro; refine ⟨fun _ => ?_, ?_⟩; (first | (go_at_call 96; with_reducible exact Calls.plus_same (HI1.out _)) | (go_at_call 96; with_reducible exact Calls.plus_same (HI2.out _)) | (go_at_call 132; exact Calls.plus_of (HS.out _)) | (go_at_call 72; exact Calls.plus_of (HR.out _)) | (go_at_call 71; exact Calls.plus_of (rRightWs_any A c ws _ hn (HW.out.below (by repeat (first | exact Below.refl _ _ | refine blw_alloc ?_ | refine blw_plus ?_ | refine Below.drew ?_)))))); go_big_quiet_on)))
  refine wpQuiet_nil ?_
  rintro _ ⟨x, rfl⟩
  go_wp2
  go_ret
  exact ⟨by rw [HF.out]; rfl, (by repeat (first | exact Below.refl _ _ | refine blw_alloc ?_ | refine blw_plus ?_ | refine Below.drew ?_))⟩
set_option maxHeartbeats 4000000 in
theorem rrtx_53 (seq wall count d0 d1 d2 d3 : Int) (A : Option Addr) (c : Nat) (ws : List WrP) (w : World) (hn : ws.length ≤ 1000000) (hws : WsAt w A ws) (h2 : 1 ≤ seq ∧ seq ≤ 1099511627776) (hs : rightS wall count = true) (hr : rgtB d0 d1 d2 d3 = true) (hd : d3 ≠ seq - 1) :
    Calls Tryz.prog 86 #[.agg #[.int .i64 3, .int .i64 seq, .int .i64 wall, .int .i64 count, .int .i64 d0, .int .i64 d1, .int .i64 d2, .int .i64 d3, .slice A ws.length c]] w
      fun e w' => e = .returned (.bool (rightTx ⟨3, seq, wall, count, d0, d1, d2, d3, ws⟩)) ∧ Below w.heap.size w w' := by
  have HF : Hid (rightTx ⟨3, seq, wall, count, d0, d1, d2, d3, ws⟩ = false) := hidp (by rw [rightTx, headTx_eq]; simp [depAt, hd])
  clear hws
  have HI1 := hidp fun w => in_is (n := 3) (lo := 0) (hi := 3) (b := true) w (by decide)
  have HI2 := hidp fun w => in_is w (decide_eq_true h2)
  have HS := hidp (fun w => rRightS_is hs w)
  have HR := hidp (fun w => rRight_is hr w)
  have hd1 : (d3 == seq - 1) = false := by simpa using hd
  obtain ⟨h3, h4⟩ := h2
  go_enter Tryz.func86, Tryz.ntmps86
  go_wp2
  refine wp_region_plus (by kernel_rfl) (by kernel_rfl) ?_
  repeat (first | go_big_quiet_skip | (go_big_quiet_want; go_big_quiet_op; first | go_big_quiet_on | (apply Exists.intro; refine ⟨fun _ => ?_, ?_⟩; (first | (go_at_call 96; with_reducible exact Calls.plus_same (HI1.out _)) | (go_at_call 96; with_reducible exact Calls.plus_same (HI2.out _)) | (go_at_call 132; exact Calls.plus_of (HS.out _)) | (go_at_call 72; exact Calls.plus_of (HR.out _))); go_big_quiet_on)))
  refine wpQuiet_nil ?_
  rintro _ ⟨x, rfl⟩
  go_wp2
  go_ret
  exact ⟨by rw [HF.out]; rfl, (by repeat (first | exact Below.refl _ _ | refine blw_alloc ?_ | refine blw_plus ?_ | refine Below.drew ?_))⟩
set_option maxHeartbeats 4000000 in
theorem rrtx_63 (seq wall count d0 d1 d2 d3 : Int) (A : Option Addr) (c : Nat) (ws : List WrP) (w : World) (hn : ws.length ≤ 1000000) (hws : WsAt w A ws) (h2 : 1 ≤ seq ∧ seq ≤ 1099511627776) (hs : rightS wall count = true) (hr : rgtB d0 d1 d2 d3 = true) (hd : d3 = seq - 1) :
    Calls Tryz.prog 86 #[.agg #[.int .i64 3, .int .i64 seq, .int .i64 wall, .int .i64 count, .int .i64 d0, .int .i64 d1, .int .i64 d2, .int .i64 d3, .slice A ws.length c]] w
      fun e w' => e = .returned (.bool (rightTx ⟨3, seq, wall, count, d0, d1, d2, d3, ws⟩)) ∧ Below w.heap.size w w' := by
  have HF : Hid (rightTx ⟨3, seq, wall, count, d0, d1, d2, d3, ws⟩ = rightWs ws) := hidp (by rw [rightTx, headTx_eq]; simp only [depAt]; rw [hs, hr, decide_eq_true h2]; simp [hd])
  have HW := hidp hws
  clear hws
  have HI1 := hidp fun w => in_is (n := 3) (lo := 0) (hi := 3) (b := true) w (by decide)
  have HI2 := hidp fun w => in_is w (decide_eq_true h2)
  have HS := hidp (fun w => rRightS_is hs w)
  have HR := hidp (fun w => rRight_is hr w)
  have hd1 : (d3 == seq - 1) = true := by simpa using hd
  obtain ⟨h3, h4⟩ := h2
  clear hd
  go_enter Tryz.func86, Tryz.ntmps86
  go_wp2
  refine wp_region_plus (by kernel_rfl) (by kernel_rfl) ?_
  repeat (first | go_big_quiet_skip | (go_big_quiet_want; go_big_quiet_op; first | go_big_quiet_on | (apply Exists.intro; refine ⟨fun _ => ?_, ?_⟩; (first | (go_at_call 96; with_reducible exact Calls.plus_same (HI1.out _)) | (go_at_call 96; with_reducible exact Calls.plus_same (HI2.out _)) | (go_at_call 132; exact Calls.plus_of (HS.out _)) | (go_at_call 72; exact Calls.plus_of (HR.out _)) | (go_at_call 71; exact Calls.plus_of (rRightWs_any A c ws _ hn (HW.out.below (by repeat (first | exact Below.refl _ _ | refine blw_alloc ?_ | refine blw_plus ?_ | refine Below.drew ?_)))))); go_big_quiet_on)))
  refine wpQuiet_nil ?_
  rintro _ ⟨x, rfl⟩
  go_wp2
  go_ret
  exact ⟨by rw [HF.out]; rfl, (by repeat (first | exact Below.refl _ _ | refine blw_alloc ?_ | refine blw_plus ?_ | refine Below.drew ?_))⟩
theorem rRightTx_any (site seq wall count d0 d1 d2 d3 : Int) (A : Option Addr) (c : Nat) (ws : List WrP) (w : World) (hn : ws.length ≤ 1000000) (hws : WsAt w A ws) :
    Calls Tryz.prog 86 #[.agg #[.int .i64 site, .int .i64 seq, .int .i64 wall, .int .i64 count, .int .i64 d0, .int .i64 d1, .int .i64 d2, .int .i64 d3, .slice A ws.length c]] w
      fun e w' => e = .returned (.bool (rightTx ⟨site, seq, wall, count, d0, d1, d2, d3, ws⟩)) ∧ Below w.heap.size w w' := by
  by_cases h1 : 0 ≤ site ∧ site ≤ 3
  rotate_left
  · exact rrtx_1 site seq wall count d0 d1 d2 d3 A c ws w hn hws h1
  by_cases h2 : 1 ≤ seq ∧ seq ≤ 1099511627776
  rotate_left
  · exact rrtx_2 site seq wall count d0 d1 d2 d3 A c ws w hn hws h1 h2
  cases hs : rightS wall count
  · exact rrtx_3 site seq wall count d0 d1 d2 d3 A c ws w hn hws h1 h2 hs
  cases hr : rgtB d0 d1 d2 d3
  · exact rrtx_4 site seq wall count d0 d1 d2 d3 A c ws w hn hws h1 h2 hs hr
  have h5 : site = 0 ∨ site = 1 ∨ site = 2 ∨ site = 3 := by omega
  rcases h5 with rfl | rfl | rfl | rfl
  · by_cases hd : d0 = seq - 1
    · exact rrtx_60 seq wall count d0 d1 d2 d3 A c ws w hn hws h2 hs hr hd
    · exact rrtx_50 seq wall count d0 d1 d2 d3 A c ws w hn hws h2 hs hr hd
  · by_cases hd : d1 = seq - 1
    · exact rrtx_61 seq wall count d0 d1 d2 d3 A c ws w hn hws h2 hs hr hd
    · exact rrtx_51 seq wall count d0 d1 d2 d3 A c ws w hn hws h2 hs hr hd
  · by_cases hd : d2 = seq - 1
    · exact rrtx_62 seq wall count d0 d1 d2 d3 A c ws w hn hws h2 hs hr hd
    · exact rrtx_52 seq wall count d0 d1 d2 d3 A c ws w hn hws h2 hs hr hd
  · by_cases hd : d3 = seq - 1
    · exact rrtx_63 seq wall count d0 d1 d2 d3 A c ws w hn hws h2 hs hr hd
    · exact rrtx_53 seq wall count d0 d1 d2 d3 A c ws w hn hws h2 hs hr hd

theorem rRightTx_is {t : TxP} {b : Bool} (h : rightTx t = b) (A : Option Addr) (c : Nat) (w : World) (hn : t.ws.length ≤ 1000000) (hws : WsAt w A t.ws) :
    Calls Tryz.prog 86 #[.agg #[.int .i64 t.site, .int .i64 t.seq, .int .i64 t.wall, .int .i64 t.count, .int .i64 t.d0, .int .i64 t.d1, .int .i64 t.d2, .int .i64 t.d3, .slice A t.ws.length c]] w
      fun e w' => e = .returned (.bool b) ∧ Below w.heap.size w w' := by
  subst h; exact rRightTx_any t.site t.seq t.wall t.count t.d0 t.d1 t.d2 t.d3 A c t.ws w hn hws
end Go.Proofs.YtbopfhbeegkkaabGreatDoor
