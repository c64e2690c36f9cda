/- Part 2 of a proof: lemmas and contracts that the parts behind it use. -/
import Derived.Test.YtbopfhbeegkkaaaDoorOrdM1
import Derived.Deep.RegionHeld3
import Derived.Laws.BitsAllLaws
import Derived.Laws.BitsLemmas
import Derived.Laws.BytesArg
import Derived.Deep.AppendLies
namespace Go.Proofs.YtbopfhbeegkkaaaDoor
open Go.RowKit
theorem size3 (w : World) : (sizeOf 3).run Tryd.prog w = .ok 1 w := by kernel_rfl
@[go_sem] theorem eqVec (w : World) (d : Nat) (a0 a1 a2 a3 b0 b1 b2 b3 : Int) :
    (Op.equalIn (d + 2) 37 (.agg #[.int .i64 a0, .int .i64 a1, .int .i64 a2, .int .i64 a3]) (.agg #[.int .i64 b0, .int .i64 b1, .int .i64 b2, .int .i64 b3])).run Tryd.prog w = .ok (a0 == b0 && a1 == b1 && a2 == b2 && a3 == b3) w :=
  run_equalIn_four w d 37 3 .i64 _ _ _ _ _ _ _ _ Tryd.underlying37 size3 Tryd.underlying3

def rgtB (a0 a1 a2 a3 : Int) : Bool := decide (0 ≤ a0 ∧ a0 ≤ 1099511627776) && decide (0 ≤ a1 ∧ a1 ≤ 1099511627776) && decide (0 ≤ a2 ∧ a2 ≤ 1099511627776) && decide (0 ≤ a3 ∧ a3 ≤ 1099511627776)

@[go_sem] theorem ix0 (w : World) (a0 a1 a2 a3 : Int) : (Instr.index 37 (.agg #[.int .i64 a0, .int .i64 a1, .int .i64 a2, .int .i64 a3]) (.int .i64 0)).run Tryd.prog w = .ok (.int .i64 a0) w := by kernel_rfl
@[go_sem] theorem ix1 (w : World) (a0 a1 a2 a3 : Int) : (Instr.index 37 (.agg #[.int .i64 a0, .int .i64 a1, .int .i64 a2, .int .i64 a3]) (.int .i64 1)).run Tryd.prog w = .ok (.int .i64 a1) w := by kernel_rfl
@[go_sem] theorem ix2 (w : World) (a0 a1 a2 a3 : Int) : (Instr.index 37 (.agg #[.int .i64 a0, .int .i64 a1, .int .i64 a2, .int .i64 a3]) (.int .i64 2)).run Tryd.prog w = .ok (.int .i64 a2) w := by kernel_rfl
@[go_sem] theorem ix3 (w : World) (a0 a1 a2 a3 : Int) : (Instr.index 37 (.agg #[.int .i64 a0, .int .i64 a1, .int .i64 a2, .int .i64 a3]) (.int .i64 3)).run Tryd.prog w = .ok (.int .i64 a3) w := by kernel_rfl
set_option maxHeartbeats 2000000 in
theorem right_any (a0 a1 a2 a3 : Int) (w : World) :
    Calls Tryd.prog 61 #[.agg #[.int .i64 a0, .int .i64 a1, .int .i64 a2, .int .i64 a3]] w
      fun e w' => e = .returned (.bool (rgtB a0 a1 a2 a3)) ∧ Below w.heap.size w w' := by
  go_enter Tryd.func61, Tryd.ntmps61
  go_wp2
  refine wp_loop_rounds 5 ?_
  rw [rounds_succ]
  by_cases p0 : a0 < 0
  · go_wp2
    all_goals go_ret
    all_goals exact ⟨by simp [rgtB]; omega, (by repeat (first | exact Below.refl _ _ | refine blw_alloc ?_ | refine blw_plus ?_ | refine Below.drew ?_))⟩
  by_cases q0 : 1099511627776 < a0
  · go_wp2
    all_goals go_ret
    all_goals exact ⟨by simp [rgtB]; omega, (by repeat (first | exact Below.refl _ _ | refine blw_alloc ?_ | refine blw_plus ?_ | refine Below.drew ?_))⟩
  go_wp2
  rw [rounds_succ]
  by_cases p1 : a1 < 0
  · go_wp2
    all_goals go_ret
    all_goals exact ⟨by simp [rgtB]; omega, (by repeat (first | exact Below.refl _ _ | refine blw_alloc ?_ | refine blw_plus ?_ | refine Below.drew ?_))⟩
  by_cases q1 : 1099511627776 < a1
  · go_wp2
    all_goals go_ret
    all_goals exact ⟨by simp [rgtB]; omega, (by repeat (first | exact Below.refl _ _ | refine blw_alloc ?_ | refine blw_plus ?_ | refine Below.drew ?_))⟩
  go_wp2
  rw [rounds_succ]
  by_cases p2 : a2 < 0
  · go_wp2
    all_goals go_ret
    all_goals exact ⟨by simp [rgtB]; omega, (by repeat (first | exact Below.refl _ _ | refine blw_alloc ?_ | refine blw_plus ?_ | refine Below.drew ?_))⟩
  by_cases q2 : 1099511627776 < a2
  · go_wp2
    all_goals go_ret
    all_goals exact ⟨by simp [rgtB]; omega, (by repeat (first | exact Below.refl _ _ | refine blw_alloc ?_ | refine blw_plus ?_ | refine Below.drew ?_))⟩
  go_wp2
  rw [rounds_succ]
  by_cases p3 : a3 < 0
  · go_wp2
    all_goals go_ret
    all_goals exact ⟨by simp [rgtB]; omega, (by repeat (first | exact Below.refl _ _ | refine blw_alloc ?_ | refine blw_plus ?_ | refine Below.drew ?_))⟩
  by_cases q3 : 1099511627776 < a3
  · go_wp2
    all_goals go_ret
    all_goals exact ⟨by simp [rgtB]; omega, (by repeat (first | exact Below.refl _ _ | refine blw_alloc ?_ | refine blw_plus ?_ | refine Below.drew ?_))⟩
  go_wp2
  rw [rounds_succ]
  go_wp2
  go_ret
  exact ⟨by simp [rgtB]; omega, (by repeat (first | exact Below.refl _ _ | refine blw_alloc ?_ | refine blw_plus ?_ | refine Below.drew ?_))⟩

set_option maxHeartbeats 2000000 in
theorem rRight_any (a0 a1 a2 a3 : Int) (w : World) :
    Calls Tryd.prog 60 #[.agg #[.int .i64 a0, .int .i64 a1, .int .i64 a2, .int .i64 a3]] w
      fun e w' => e = .returned (.bool (rgtB a0 a1 a2 a3)) ∧ Below w.heap.size w w' := by
  go_enter Tryd.func60, Tryd.ntmps60
  go_wp2
  refine wp_loop_rounds 5 ?_
  rw [rounds_succ]
  by_cases p0 : a0 < 0
  · go_wp2_with (go_at_call 54; refine (in_no _ _ _ _ (by omega)).mono ?_; rintro e w' ⟨rfl, rfl⟩)
    all_goals go_ret
    all_goals exact ⟨by simp [rgtB]; omega, (by repeat (first | exact Below.refl _ _ | refine blw_alloc ?_ | refine blw_plus ?_ | refine Below.drew ?_))⟩
  by_cases q0 : 1099511627776 < a0
  · go_wp2_with (go_at_call 54; refine (in_no _ _ _ _ (by omega)).mono ?_; rintro e w' ⟨rfl, rfl⟩)
    all_goals go_ret
    all_goals exact ⟨by simp [rgtB]; omega, (by repeat (first | exact Below.refl _ _ | refine blw_alloc ?_ | refine blw_plus ?_ | refine Below.drew ?_))⟩
  go_wp2_with (go_at_call 54; refine (in_yes _ _ _ _ (by omega) (by omega)).mono ?_; rintro e w' ⟨rfl, rfl⟩)
  rw [rounds_succ]
  by_cases p1 : a1 < 0
  · go_wp2_with (go_at_call 54; refine (in_no _ _ _ _ (by omega)).mono ?_; rintro e w' ⟨rfl, rfl⟩)
    all_goals go_ret
    all_goals exact ⟨by simp [rgtB]; omega, (by repeat (first | exact Below.refl _ _ | refine blw_alloc ?_ | refine blw_plus ?_ | refine Below.drew ?_))⟩
  by_cases q1 : 1099511627776 < a1
  · go_wp2_with (go_at_call 54; refine (in_no _ _ _ _ (by omega)).mono ?_; rintro e w' ⟨rfl, rfl⟩)
    all_goals go_ret
    all_goals exact ⟨by simp [rgtB]; omega, (by repeat (first | exact Below.refl _ _ | refine blw_alloc ?_ | refine blw_plus ?_ | refine Below.drew ?_))⟩
  go_wp2_with (go_at_call 54; refine (in_yes _ _ _ _ (by omega) (by omega)).mono ?_; rintro e w' ⟨rfl, rfl⟩)
  rw [rounds_succ]
  by_cases p2 : a2 < 0
  · go_wp2_with (go_at_call 54; refine (in_no _ _ _ _ (by omega)).mono ?_; rintro e w' ⟨rfl, rfl⟩)
    all_goals go_ret
    all_goals exact ⟨by simp [rgtB]; omega, (by repeat (first | exact Below.refl _ _ | refine blw_alloc ?_ | refine blw_plus ?_ | refine Below.drew ?_))⟩
  by_cases q2 : 1099511627776 < a2
  · go_wp2_with (go_at_call 54; refine (in_no _ _ _ _ (by omega)).mono ?_; rintro e w' ⟨rfl, rfl⟩)
    all_goals go_ret
    all_goals exact ⟨by simp [rgtB]; omega, (by repeat (first | exact Below.refl _ _ | refine blw_alloc ?_ | refine blw_plus ?_ | refine Below.drew ?_))⟩
  go_wp2_with (go_at_call 54; refine (in_yes _ _ _ _ (by omega) (by omega)).mono ?_; rintro e w' ⟨rfl, rfl⟩)
  rw [rounds_succ]
  by_cases p3 : a3 < 0
  · go_wp2_with (go_at_call 54; refine (in_no _ _ _ _ (by omega)).mono ?_; rintro e w' ⟨rfl, rfl⟩)
    all_goals go_ret
    all_goals exact ⟨by simp [rgtB]; omega, (by repeat (first | exact Below.refl _ _ | refine blw_alloc ?_ | refine blw_plus ?_ | refine Below.drew ?_))⟩
  by_cases q3 : 1099511627776 < a3
  · go_wp2_with (go_at_call 54; refine (in_no _ _ _ _ (by omega)).mono ?_; rintro e w' ⟨rfl, rfl⟩)
    all_goals go_ret
    all_goals exact ⟨by simp [rgtB]; omega, (by repeat (first | exact Below.refl _ _ | refine blw_alloc ?_ | refine blw_plus ?_ | refine Below.drew ?_))⟩
  go_wp2_with (go_at_call 54; refine (in_yes _ _ _ _ (by omega) (by omega)).mono ?_; rintro e w' ⟨rfl, rfl⟩)
  rw [rounds_succ]
  go_wp2
  go_ret
  exact ⟨by simp [rgtB]; omega, (by repeat (first | exact Below.refl _ _ | refine blw_alloc ?_ | refine blw_plus ?_ | refine Below.drew ?_))⟩
end Go.Proofs.YtbopfhbeegkkaaaDoor

namespace Go.Proofs.YtbopfhbeegkkaaaDoor
open Go.RowKit

theorem rightS_is {aw ac : Int} {b : Bool} (h : rightS aw ac = b) (w : World) : Calls Tryd.prog 13 #[.agg #[.int .i64 aw, .int .i64 ac]] w fun e w' => e = .returned (.bool b) ∧ Below w.heap.size w w' := by
  subst h; exact rightS_any aw ac w
theorem right_is {a0 a1 a2 a3 : Int} {b : Bool} (h : rgtB a0 a1 a2 a3 = b) (w : World) : Calls Tryd.prog 61 #[.agg #[.int .i64 a0, .int .i64 a1, .int .i64 a2, .int .i64 a3]] w fun e w' => e = .returned (.bool b) ∧ Below w.heap.size w w' := by
  subst h; exact right_any a0 a1 a2 a3 w
theorem headTx_eq (t : TxP) : headTx t = (decide (0 ≤ t.site ∧ t.site < 4) && decide (1 ≤ t.seq ∧ t.seq ≤ 1099511627776) && rightS t.wall t.count && rgtB t.d0 t.d1 t.d2 t.d3 && decide (depAt t = t.seq - 1)) := by
  rw [Bool.eq_iff_iff]
  simp only [headTx, okN, rightS, rgtB, Bool.and_eq_true, decide_eq_true_eq]
  constructor <;> (intro h; simp only [and_assoc] at h ⊢; obtain ⟨h0, h1, h2, h3, h4, h5, h6, h7, h8⟩ := h; omega)

set_option maxHeartbeats 2000000 in
theorem rtx_1 (site : Int) (seq wall count d0 d1 d2 d3 : Int) (A : Option Addr) (c : Nat) (ws : List WrP) (w : World) (hn : ws.length ≤ 1000000) (hws : WsAt w A ws) (hseq : -9223372036854775808 ≤ seq ∧ seq ≤ 9223372036854775807) (h1 : site < 0) :
    Calls Tryd.prog 22 #[.agg #[.int .i64 site, .int .i64 seq, .int .i64 wall, .int .i64 count, .int .i64 d0, .int .i64 d1, .int .i64 d2, .int .i64 d3, .slice A ws.length c]] w
      fun e w' => e = .returned (.bool (rightTx ⟨site, seq, wall, count, d0, d1, d2, d3, ws⟩)) ∧ Below w.heap.size w w' := by
  have HF : Hid (rightTx ⟨site, seq, wall, count, d0, d1, d2, d3, ws⟩ = false) := hidp (by rw [rightTx, headTx_eq]; simp; omega)
  clear hws
  have _ : decide (site < 0) = true := by simpa using h1
  go_enter Tryd.func22, Tryd.ntmps22
  go_wp2
  refine wp_region_plus (by kernel_rfl) (by kernel_rfl) ?_
  repeat (first | go_big_quiet_skip | (go_big_quiet_want; go_big_quiet_op; first | go_big_quiet_on | (apply Exists.intro; refine ⟨fun _ => ?_, ?_⟩; (first | (go_at_call 13; exact Calls.plus_of (HS.out _)) | (go_at_call 61; exact Calls.plus_of (HR.out _))); go_big_quiet_on)))
  refine wpQuiet_nil ?_
  rintro _ ⟨x, rfl⟩
  go_wp2
  go_ret
  exact ⟨by rw [HF.out]; rfl, (by repeat (first | exact Below.refl _ _ | refine blw_alloc ?_ | refine blw_plus ?_ | refine Below.drew ?_))⟩
set_option maxHeartbeats 2000000 in
theorem rtx_2 (site : Int) (seq wall count d0 d1 d2 d3 : Int) (A : Option Addr) (c : Nat) (ws : List WrP) (w : World) (hn : ws.length ≤ 1000000) (hws : WsAt w A ws) (hseq : -9223372036854775808 ≤ seq ∧ seq ≤ 9223372036854775807) (h1 : 0 ≤ site) (h2 : 4 ≤ site) :
    Calls Tryd.prog 22 #[.agg #[.int .i64 site, .int .i64 seq, .int .i64 wall, .int .i64 count, .int .i64 d0, .int .i64 d1, .int .i64 d2, .int .i64 d3, .slice A ws.length c]] w
      fun e w' => e = .returned (.bool (rightTx ⟨site, seq, wall, count, d0, d1, d2, d3, ws⟩)) ∧ Below w.heap.size w w' := by
  have HF : Hid (rightTx ⟨site, seq, wall, count, d0, d1, d2, d3, ws⟩ = false) := hidp (by rw [rightTx, headTx_eq]; simp; omega)
  clear hws
  have _ : decide (site < 0) = false := by simpa using h1
  have _ : decide (4 ≤ site) = true := by simpa using h2
  go_enter Tryd.func22, Tryd.ntmps22
  go_wp2
  refine wp_region_plus (by kernel_rfl) (by kernel_rfl) ?_
  repeat (first | go_big_quiet_skip | (go_big_quiet_want; go_big_quiet_op; first | go_big_quiet_on | (apply Exists.intro; refine ⟨fun _ => ?_, ?_⟩; (first | (go_at_call 13; exact Calls.plus_of (HS.out _)) | (go_at_call 61; exact Calls.plus_of (HR.out _))); go_big_quiet_on)))
  refine wpQuiet_nil ?_
  rintro _ ⟨x, rfl⟩
  go_wp2
  go_ret
  exact ⟨by rw [HF.out]; rfl, (by repeat (first | exact Below.refl _ _ | refine blw_alloc ?_ | refine blw_plus ?_ | refine Below.drew ?_))⟩
set_option maxHeartbeats 2000000 in
theorem rtx_3 (site : Int) (seq wall count d0 d1 d2 d3 : Int) (A : Option Addr) (c : Nat) (ws : List WrP) (w : World) (hn : ws.length ≤ 1000000) (hws : WsAt w A ws) (hseq : -9223372036854775808 ≤ seq ∧ seq ≤ 9223372036854775807) (h1 : 0 ≤ site) (h2 : site < 4) (h3 : seq < 1) :
    Calls Tryd.prog 22 #[.agg #[.int .i64 site, .int .i64 seq, .int .i64 wall, .int .i64 count, .int .i64 d0, .int .i64 d1, .int .i64 d2, .int .i64 d3, .slice A ws.length c]] w
      fun e w' => e = .returned (.bool (rightTx ⟨site, seq, wall, count, d0, d1, d2, d3, ws⟩)) ∧ Below w.heap.size w w' := by
  have HF : Hid (rightTx ⟨site, seq, wall, count, d0, d1, d2, d3, ws⟩ = false) := hidp (by rw [rightTx, headTx_eq]; simp; omega)
  clear hws
  have _ : decide (site < 0) = false := by simpa using h1
  have _ : decide (4 ≤ site) = false := by simpa using h2
  have _ : decide (seq < 1) = true := by simpa using h3
  go_enter Tryd.func22, Tryd.ntmps22
  go_wp2
  refine wp_region_plus (by kernel_rfl) (by kernel_rfl) ?_
  repeat (first | go_big_quiet_skip | (go_big_quiet_want; go_big_quiet_op; first | go_big_quiet_on | (apply Exists.intro; refine ⟨fun _ => ?_, ?_⟩; (first | (go_at_call 13; exact Calls.plus_of (HS.out _)) | (go_at_call 61; exact Calls.plus_of (HR.out _))); go_big_quiet_on)))
  refine wpQuiet_nil ?_
  rintro _ ⟨x, rfl⟩
  go_wp2
  go_ret
  exact ⟨by rw [HF.out]; rfl, (by repeat (first | exact Below.refl _ _ | refine blw_alloc ?_ | refine blw_plus ?_ | refine Below.drew ?_))⟩
set_option maxHeartbeats 2000000 in
theorem rtx_4 (site : Int) (seq wall count d0 d1 d2 d3 : Int) (A : Option Addr) (c : Nat) (ws : List WrP) (w : World) (hn : ws.length ≤ 1000000) (hws : WsAt w A ws) (hseq : -9223372036854775808 ≤ seq ∧ seq ≤ 9223372036854775807) (h1 : 0 ≤ site) (h2 : site < 4) (h3 : 1 ≤ seq) (h4 : 1099511627776 < seq) :
    Calls Tryd.prog 22 #[.agg #[.int .i64 site, .int .i64 seq, .int .i64 wall, .int .i64 count, .int .i64 d0, .int .i64 d1, .int .i64 d2, .int .i64 d3, .slice A ws.length c]] w
      fun e w' => e = .returned (.bool (rightTx ⟨site, seq, wall, count, d0, d1, d2, d3, ws⟩)) ∧ Below w.heap.size w w' := by
  have HF : Hid (rightTx ⟨site, seq, wall, count, d0, d1, d2, d3, ws⟩ = false) := hidp (by rw [rightTx, headTx_eq]; simp; omega)
  clear hws
  have _ : decide (site < 0) = false := by simpa using h1
  have _ : decide (4 ≤ site) = false := by simpa using h2
  have _ : decide (seq < 1) = false := by simpa using h3
  have _ : decide (1099511627776 < seq) = true := by simpa using h4
  go_enter Tryd.func22, Tryd.ntmps22
  go_wp2
  refine wp_region_plus (by kernel_rfl) (by kernel_rfl) ?_
  repeat (first | go_big_quiet_skip | (go_big_quiet_want; go_big_quiet_op; first | go_big_quiet_on | (apply Exists.intro; refine ⟨fun _ => ?_, ?_⟩; (first | (go_at_call 13; exact Calls.plus_of (HS.out _)) | (go_at_call 61; exact Calls.plus_of (HR.out _))); go_big_quiet_on)))
  refine wpQuiet_nil ?_
  rintro _ ⟨x, rfl⟩
  go_wp2
  go_ret
  exact ⟨by rw [HF.out]; rfl, (by repeat (first | exact Below.refl _ _ | refine blw_alloc ?_ | refine blw_plus ?_ | refine Below.drew ?_))⟩
set_option maxHeartbeats 2000000 in
theorem rtx_5 (site : Int) (seq wall count d0 d1 d2 d3 : Int) (A : Option Addr) (c : Nat) (ws : List WrP) (w : World) (hn : ws.length ≤ 1000000) (hws : WsAt w A ws) (hseq : -9223372036854775808 ≤ seq ∧ seq ≤ 9223372036854775807) (h1 : 0 ≤ site) (h2 : site < 4) (h3 : 1 ≤ seq) (h4 : seq ≤ 1099511627776) (hs : rightS wall count = false) :
    Calls Tryd.prog 22 #[.agg #[.int .i64 site, .int .i64 seq, .int .i64 wall, .int .i64 count, .int .i64 d0, .int .i64 d1, .int .i64 d2, .int .i64 d3, .slice A ws.length c]] w
      fun e w' => e = .returned (.bool (rightTx ⟨site, seq, wall, count, d0, d1, d2, d3, ws⟩)) ∧ Below w.heap.size w w' := by
  have HF : Hid (rightTx ⟨site, seq, wall, count, d0, d1, d2, d3, ws⟩ = false) := hidp (by rw [rightTx, headTx_eq]; simp [hs])
  clear hws
  have HS := hidp (fun w => rightS_is hs w)
  clear hs
  have _ : decide (site < 0) = false := by simpa using h1
  have _ : decide (4 ≤ site) = false := by simpa using h2
  have _ : decide (seq < 1) = false := by simpa using h3
  have _ : decide (1099511627776 < seq) = false := by simpa using h4
  go_enter Tryd.func22, Tryd.ntmps22
  go_wp2
  refine wp_region_plus (by kernel_rfl) (by kernel_rfl) ?_
  repeat (first | go_big_quiet_skip | (go_big_quiet_want; go_big_quiet_op; first | go_big_quiet_on | (apply Exists.intro; refine ⟨fun _ => ?_, ?_⟩; (first | (go_at_call 13; exact Calls.plus_of (HS.out _)) | (go_at_call 61; exact Calls.plus_of (HR.out _))); go_big_quiet_on)))
  refine wpQuiet_nil ?_
  rintro _ ⟨x, rfl⟩
  go_wp2
  go_ret
  exact ⟨by rw [HF.out]; rfl, (by repeat (first | exact Below.refl _ _ | refine blw_alloc ?_ | refine blw_plus ?_ | refine Below.drew ?_))⟩
set_option maxHeartbeats 2000000 in
theorem rtx_6 (site : Int) (seq wall count d0 d1 d2 d3 : Int) (A : Option Addr) (c : Nat) (ws : List WrP) (w : World) (hn : ws.length ≤ 1000000) (hws : WsAt w A ws) (hseq : -9223372036854775808 ≤ seq ∧ seq ≤ 9223372036854775807) (h1 : 0 ≤ site) (h2 : site < 4) (h3 : 1 ≤ seq) (h4 : seq ≤ 1099511627776) (hs : rightS wall count = true) (hr : rgtB d0 d1 d2 d3 = false) :
    Calls Tryd.prog 22 #[.agg #[.int .i64 site, .int .i64 seq, .int .i64 wall, .int .i64 count, .int .i64 d0, .int .i64 d1, .int .i64 d2, .int .i64 d3, .slice A ws.length c]] w
      fun e w' => e = .returned (.bool (rightTx ⟨site, seq, wall, count, d0, d1, d2, d3, ws⟩)) ∧ Below w.heap.size w w' := by
  have HF : Hid (rightTx ⟨site, seq, wall, count, d0, d1, d2, d3, ws⟩ = false) := hidp (by rw [rightTx, headTx_eq]; simp [hr])
  clear hws
  have HS := hidp (fun w => rightS_is hs w)
  have HR := hidp (fun w => right_is hr w)
  clear hs hr
  have _ : decide (site < 0) = false := by simpa using h1
  have _ : decide (4 ≤ site) = false := by simpa using h2
  have _ : decide (seq < 1) = false := by simpa using h3
  have _ : decide (1099511627776 < seq) = false := by simpa using h4
  go_enter Tryd.func22, Tryd.ntmps22
  go_wp2
  refine wp_region_plus (by kernel_rfl) (by kernel_rfl) ?_
  repeat (first | go_big_quiet_skip | (go_big_quiet_want; go_big_quiet_op; first | go_big_quiet_on | (apply Exists.intro; refine ⟨fun _ => ?_, ?_⟩; (first | (go_at_call 13; exact Calls.plus_of (HS.out _)) | (go_at_call 61; exact Calls.plus_of (HR.out _))); go_big_quiet_on)))
  refine wpQuiet_nil ?_
  rintro _ ⟨x, rfl⟩
  go_wp2
  go_ret
  exact ⟨by rw [HF.out]; rfl, (by repeat (first | exact Below.refl _ _ | refine blw_alloc ?_ | refine blw_plus ?_ | refine Below.drew ?_))⟩
set_option maxHeartbeats 2000000 in
theorem rtx_70 (seq wall count d0 d1 d2 d3 : Int) (A : Option Addr) (c : Nat) (ws : List WrP) (w : World) (hn : ws.length ≤ 1000000) (hws : WsAt w A ws) (hseq : -9223372036854775808 ≤ seq ∧ seq ≤ 9223372036854775807) (h3 : 1 ≤ seq) (h4 : seq ≤ 1099511627776) (hs : rightS wall count = true) (hr : rgtB d0 d1 d2 d3 = true) (hd : d0 ≠ seq - 1) :
    Calls Tryd.prog 22 #[.agg #[.int .i64 0, .int .i64 seq, .int .i64 wall, .int .i64 count, .int .i64 d0, .int .i64 d1, .int .i64 d2, .int .i64 d3, .slice A ws.length c]] w
      fun e w' => e = .returned (.bool (rightTx ⟨0, seq, wall, count, d0, d1, d2, d3, ws⟩)) ∧ Below w.heap.size w w' := by
  have HF : Hid (rightTx ⟨0, seq, wall, count, d0, d1, d2, d3, ws⟩ = false) := hidp (by rw [rightTx, headTx_eq]; simp [depAt, hd])
  clear hws
  have HS := hidp (fun w => rightS_is hs w)
  have HR := hidp (fun w => right_is hr w)
  have hd1 : (d0 != seq - 1) = true := by simpa using hd
  clear hs hr hd
  have _ : decide (seq < 1) = false := by simpa using h3
  have _ : decide (1099511627776 < seq) = false := by simpa using h4
  go_enter Tryd.func22, Tryd.ntmps22
  go_wp2
  refine wp_region_plus (by kernel_rfl) (by kernel_rfl) ?_
  repeat (first | go_big_quiet_skip | (go_big_quiet_want; go_big_quiet_op; first | go_big_quiet_on | (apply Exists.intro; refine ⟨fun _ => ?_, ?_⟩; (first | (go_at_call 13; exact Calls.plus_of (HS.out _)) | (go_at_call 61; exact Calls.plus_of (HR.out _))); go_big_quiet_on)))
  refine wpQuiet_nil ?_
  rintro _ ⟨x, rfl⟩
  go_wp2
  go_ret
  exact ⟨by rw [HF.out]; rfl, (by repeat (first | exact Below.refl _ _ | refine blw_alloc ?_ | refine blw_plus ?_ | refine Below.drew ?_))⟩
set_option maxHeartbeats 2000000 in
theorem rtx_80 (seq wall count d0 d1 d2 d3 : Int) (A : Option Addr) (c : Nat) (ws : List WrP) (w : World) (hn : ws.length ≤ 1000000) (hws : WsAt w A ws) (hseq : -9223372036854775808 ≤ seq ∧ seq ≤ 9223372036854775807) (h3 : 1 ≤ seq) (h4 : seq ≤ 1099511627776) (hs : rightS wall count = true) (hr : rgtB d0 d1 d2 d3 = true) (hd : d0 = seq - 1) :
    Calls Tryd.prog 22 #[.agg #[.int .i64 0, .int .i64 seq, .int .i64 wall, .int .i64 count, .int .i64 d0, .int .i64 d1, .int .i64 d2, .int .i64 d3, .slice A ws.length c]] w
      fun e w' => e = .returned (.bool (rightTx ⟨0, seq, wall, count, d0, d1, d2, d3, ws⟩)) ∧ Below w.heap.size w w' := by
  have HF : Hid (rightTx ⟨0, seq, wall, count, d0, d1, d2, d3, ws⟩ = rightWs ws) := hidp (by rw [rightTx, headTx_eq]; simp only [depAt]; rw [hs, hr, decide_eq_true (show 1 ≤ seq ∧ seq ≤ 1099511627776 from ⟨h3, h4⟩)]; simp [hd])
  have HS := hidp (fun w => rightS_is hs w)
  have HR := hidp (fun w => right_is hr w)
  have HW := hidp hws
  have hd1 : (d0 != seq - 1) = false := by simpa using hd
  clear hs hr hd hws
  have _ : decide (seq < 1) = false := by simpa using h3
  have _ : decide (1099511627776 < seq) = false := by simpa using h4
  go_enter Tryd.func22, Tryd.ntmps22
  go_wp2
  refine wp_region_plus (by kernel_rfl) (by kernel_rfl) ?_
  repeat (first | go_big_quiet_skip | (go_big_quiet_want; go_big_quiet_op; first | go_big_quiet_on | (apply Exists.intro; refine ⟨fun _ => ?_, ?_⟩; (first | (go_at_call 13; exact Calls.plus_of (HS.out _)) | (go_at_call 61; exact Calls.plus_of (HR.out _))); go_big_quiet_on)))
  refine wpQuiet_nil ?_
  rintro _ ⟨x, rfl⟩
  go_wp2_with fail
  refine (rightWs_any A c ws _ hn (HW.out.below (by repeat (first | exact Below.refl _ _ | refine blw_alloc ?_ | refine blw_plus ?_ | refine Below.drew ?_)))).mono ?_
  rintro e w' ⟨rfl, hb⟩
  obtain ⟨y, rfl⟩ := wplus_of_below hb
  clear hb
  go_wp2
  go_ret
  exact ⟨by rw [HF.out]; rfl, (by repeat (first | exact Below.refl _ _ | refine blw_alloc ?_ | refine blw_plus ?_ | refine Below.drew ?_))⟩
set_option maxHeartbeats 2000000 in
theorem rtx_71 (seq wall count d0 d1 d2 d3 : Int) (A : Option Addr) (c : Nat) (ws : List WrP) (w : World) (hn : ws.length ≤ 1000000) (hws : WsAt w A ws) (hseq : -9223372036854775808 ≤ seq ∧ seq ≤ 9223372036854775807) (h3 : 1 ≤ seq) (h4 : seq ≤ 1099511627776) (hs : rightS wall count = true) (hr : rgtB d0 d1 d2 d3 = true) (hd : d1 ≠ seq - 1) :
    Calls Tryd.prog 22 #[.agg #[.int .i64 1, .int .i64 seq, .int .i64 wall, .int .i64 count, .int .i64 d0, .int .i64 d1, .int .i64 d2, .int .i64 d3, .slice A ws.length c]] w
      fun e w' => e = .returned (.bool (rightTx ⟨1, seq, wall, count, d0, d1, d2, d3, ws⟩)) ∧ Below w.heap.size w w' := by
  have HF : Hid (rightTx ⟨1, seq, wall, count, d0, d1, d2, d3, ws⟩ = false) := hidp (by rw [rightTx, headTx_eq]; simp [depAt, hd])
  clear hws
  have HS := hidp (fun w => rightS_is hs w)
  have HR := hidp (fun w => right_is hr w)
  have hd1 : (d1 != seq - 1) = true := by simpa using hd
  clear hs hr hd
  have _ : decide (seq < 1) = false := by simpa using h3
  have _ : decide (1099511627776 < seq) = false := by simpa using h4
  go_enter Tryd.func22, Tryd.ntmps22
  go_wp2
  refine wp_region_plus (by kernel_rfl) (by kernel_rfl) ?_
  repeat (first | go_big_quiet_skip | (go_big_quiet_want; go_big_quiet_op; first | go_big_quiet_on | (apply Exists.intro; refine ⟨fun _ => ?_, ?_⟩; (first | (go_at_call 13; exact Calls.plus_of (HS.out _)) | (go_at_call 61; exact Calls.plus_of (HR.out _))); go_big_quiet_on)))
  refine wpQuiet_nil ?_
  rintro _ ⟨x, rfl⟩
  go_wp2
  go_ret
  exact ⟨by rw [HF.out]; rfl, (by repeat (first | exact Below.refl _ _ | refine blw_alloc ?_ | refine blw_plus ?_ | refine Below.drew ?_))⟩
set_option maxHeartbeats 2000000 in
theorem rtx_81 (seq wall count d0 d1 d2 d3 : Int) (A : Option Addr) (c : Nat) (ws : List WrP) (w : World) (hn : ws.length ≤ 1000000) (hws : WsAt w A ws) (hseq : -9223372036854775808 ≤ seq ∧ seq ≤ 9223372036854775807) (h3 : 1 ≤ seq) (h4 : seq ≤ 1099511627776) (hs : rightS wall count = true) (hr : rgtB d0 d1 d2 d3 = true) (hd : d1 = seq - 1) :
    Calls Tryd.prog 22 #[.agg #[.int .i64 1, .int .i64 seq, .int .i64 wall, .int .i64 count, .int .i64 d0, .int .i64 d1, .int .i64 d2, .int .i64 d3, .slice A ws.length c]] w
      fun e w' => e = .returned (.bool (rightTx ⟨1, seq, wall, count, d0, d1, d2, d3, ws⟩)) ∧ Below w.heap.size w w' := by
  have HF : Hid (rightTx ⟨1, seq, wall, count, d0, d1, d2, d3, ws⟩ = rightWs ws) := hidp (by rw [rightTx, headTx_eq]; simp only [depAt]; rw [hs, hr, decide_eq_true (show 1 ≤ seq ∧ seq ≤ 1099511627776 from ⟨h3, h4⟩)]; simp [hd])
  have HS := hidp (fun w => rightS_is hs w)
  have HR := hidp (fun w => right_is hr w)
  have HW := hidp hws
  have hd1 : (d1 != seq - 1) = false := by simpa using hd
  clear hs hr hd hws
  have _ : decide (seq < 1) = false := by simpa using h3
  have _ : decide (1099511627776 < seq) = false := by simpa using h4
  go_enter Tryd.func22, Tryd.ntmps22
  go_wp2
  refine wp_region_plus (by kernel_rfl) (by kernel_rfl) ?_
  repeat (first | go_big_quiet_skip | (go_big_quiet_want; go_big_quiet_op; first | go_big_quiet_on | (apply Exists.intro; refine ⟨fun _ => ?_, ?_⟩; (first | (go_at_call 13; exact Calls.plus_of (HS.out _)) | (go_at_call 61; exact Calls.plus_of (HR.out _))); go_big_quiet_on)))
  refine wpQuiet_nil ?_
  rintro _ ⟨x, rfl⟩
  go_wp2_with fail
  refine (rightWs_any A c ws _ hn (HW.out.below (by repeat (first | exact Below.refl _ _ | refine blw_alloc ?_ | refine blw_plus ?_ | refine Below.drew ?_)))).mono ?_
  rintro e w' ⟨rfl, hb⟩
  obtain ⟨y, rfl⟩ := wplus_of_below hb
  clear hb
  go_wp2
  go_ret
  exact ⟨by rw [HF.out]; rfl, (by repeat (first | exact Below.refl _ _ | refine blw_alloc ?_ | refine blw_plus ?_ | refine Below.drew ?_))⟩
set_option maxHeartbeats 2000000 in
theorem rtx_72 (seq wall count d0 d1 d2 d3 : Int) (A : Option Addr) (c : Nat) (ws : List WrP) (w : World) (hn : ws.length ≤ 1000000) (hws : WsAt w A ws) (hseq : -9223372036854775808 ≤ seq ∧ seq ≤ 9223372036854775807) (h3 : 1 ≤ seq) (h4 : seq ≤ 1099511627776) (hs : rightS wall count = true) (hr : rgtB d0 d1 d2 d3 = true) (hd : d2 ≠ seq - 1) :
    Calls Tryd.prog 22 #[.agg #[.int .i64 2, .int .i64 seq, .int .i64 wall, .int .i64 count, .int .i64 d0, .int .i64 d1, .int .i64 d2, .int .i64 d3, .slice A ws.length c]] w
      fun e w' => e = .returned (.bool (rightTx ⟨2, seq, wall, count, d0, d1, d2, d3, ws⟩)) ∧ Below w.heap.size w w' := by
  have HF : Hid (rightTx ⟨2, seq, wall, count, d0, d1, d2, d3, ws⟩ = false) := hidp (by rw [rightTx, headTx_eq]; simp [depAt, hd])
  clear hws
  have HS := hidp (fun w => rightS_is hs w)
  have HR := hidp (fun w => right_is hr w)
  have hd1 : (d2 != seq - 1) = true := by simpa using hd
  clear hs hr hd
  have _ : decide (seq < 1) = false := by simpa using h3
  have _ : decide (1099511627776 < seq) = false := by simpa using h4
  go_enter Tryd.func22, Tryd.ntmps22
  go_wp2
  refine wp_region_plus (by kernel_rfl) (by kernel_rfl) ?_
  repeat (first | go_big_quiet_skip | (go_big_quiet_want; go_big_quiet_op; first | go_big_quiet_on | (apply Exists.intro; refine ⟨fun _ => ?_, ?_⟩; (first | (go_at_call 13; exact Calls.plus_of (HS.out _)) | (go_at_call 61; exact Calls.plus_of (HR.out _))); go_big_quiet_on)))
  refine wpQuiet_nil ?_
  rintro _ ⟨x, rfl⟩
  go_wp2
  go_ret
  exact ⟨by rw [HF.out]; rfl, (by repeat (first | exact Below.refl _ _ | refine blw_alloc ?_ | refine blw_plus ?_ | refine Below.drew ?_))⟩
set_option maxHeartbeats 2000000 in
theorem rtx_82 (seq wall count d0 d1 d2 d3 : Int) (A : Option Addr) (c : Nat) (ws : List WrP) (w : World) (hn : ws.length ≤ 1000000) (hws : WsAt w A ws) (hseq : -9223372036854775808 ≤ seq ∧ seq ≤ 9223372036854775807) (h3 : 1 ≤ seq) (h4 : seq ≤ 1099511627776) (hs : rightS wall count = true) (hr : rgtB d0 d1 d2 d3 = true) (hd : d2 = seq - 1) :
    Calls Tryd.prog 22 #[.agg #[.int .i64 2, .int .i64 seq, .int .i64 wall, .int .i64 count, .int .i64 d0, .int .i64 d1, .int .i64 d2, .int .i64 d3, .slice A ws.length c]] w
      fun e w' => e = .returned (.bool (rightTx ⟨2, seq, wall, count, d0, d1, d2, d3, ws⟩)) ∧ Below w.heap.size w w' := by
  have HF : Hid (rightTx ⟨2, seq, wall, count, d0, d1, d2, d3, ws⟩ = rightWs ws) := hidp (by rw [rightTx, headTx_eq]; simp only [depAt]; rw [hs, hr, decide_eq_true (show 1 ≤ seq ∧ seq ≤ 1099511627776 from ⟨h3, h4⟩)]; simp [hd])
  have HS := hidp (fun w => rightS_is hs w)
  have HR := hidp (fun w => right_is hr w)
  have HW := hidp hws
  have hd1 : (d2 != seq - 1) = false := by simpa using hd
  clear hs hr hd hws
  have _ : decide (seq < 1) = false := by simpa using h3
  have _ : decide (1099511627776 < seq) = false := by simpa using h4
  go_enter Tryd.func22, Tryd.ntmps22
  go_wp2
  refine wp_region_plus (by kernel_rfl) (by kernel_rfl) ?_
  repeat (first | go_big_quiet_skip | (go_big_quiet_want; go_big_quiet_op; first | go_big_quiet_on | (apply Exists.intro; refine ⟨fun _ => ?_, ?_⟩; (first | (go_at_call 13; exact Calls.plus_of (HS.out _)) | (go_at_call 61; exact Calls.plus_of (HR.out _))); go_big_quiet_on)))
  refine wpQuiet_nil ?_
  rintro _ ⟨x, rfl⟩
  go_wp2_with fail
  refine (rightWs_any A c ws _ hn (HW.out.below (by repeat (first | exact Below.refl _ _ | refine blw_alloc ?_ | refine blw_plus ?_ | refine Below.drew ?_)))).mono ?_
  rintro e w' ⟨rfl, hb⟩
  obtain ⟨y, rfl⟩ := wplus_of_below hb
  clear hb
  go_wp2
  go_ret
  exact ⟨by rw [HF.out]; rfl, (by repeat (first | exact Below.refl _ _ | refine blw_alloc ?_ | refine blw_plus ?_ | refine Below.drew ?_))⟩
set_option maxHeartbeats 2000000 in
theorem rtx_73 (seq wall count d0 d1 d2 d3 : Int) (A : Option Addr) (c : Nat) (ws : List WrP) (w : World) (hn : ws.length ≤ 1000000) (hws : WsAt w A ws) (hseq : -9223372036854775808 ≤ seq ∧ seq ≤ 9223372036854775807) (h3 : 1 ≤ seq) (h4 : seq ≤ 1099511627776) (hs : rightS wall count = true) (hr : rgtB d0 d1 d2 d3 = true) (hd : d3 ≠ seq - 1) :
    Calls Tryd.prog 22 #[.agg #[.int .i64 3, .int .i64 seq, .int .i64 wall, .int .i64 count, .int .i64 d0, .int .i64 d1, .int .i64 d2, .int .i64 d3, .slice A ws.length c]] w
      fun e w' => e = .returned (.bool (rightTx ⟨3, seq, wall, count, d0, d1, d2, d3, ws⟩)) ∧ Below w.heap.size w w' := by
  have HF : Hid (rightTx ⟨3, seq, wall, count, d0, d1, d2, d3, ws⟩ = false) := hidp (by rw [rightTx, headTx_eq]; simp [depAt, hd])
  clear hws
  have HS := hidp (fun w => rightS_is hs w)
  have HR := hidp (fun w => right_is hr w)
  have hd1 : (d3 != seq - 1) = true := by simpa using hd
  clear hs hr hd
  have _ : decide (seq < 1) = false := by simpa using h3
  have _ : decide (1099511627776 < seq) = false := by simpa using h4
  go_enter Tryd.func22, Tryd.ntmps22
  go_wp2
  refine wp_region_plus (by kernel_rfl) (by kernel_rfl) ?_
  repeat (first | go_big_quiet_skip | (go_big_quiet_want; go_big_quiet_op; first | go_big_quiet_on | (apply Exists.intro; refine ⟨fun _ => ?_, ?_⟩; (first | (go_at_call 13; exact Calls.plus_of (HS.out _)) | (go_at_call 61; exact Calls.plus_of (HR.out _))); go_big_quiet_on)))
  refine wpQuiet_nil ?_
  rintro _ ⟨x, rfl⟩
  go_wp2
  go_ret
  exact ⟨by rw [HF.out]; rfl, (by repeat (first | exact Below.refl _ _ | refine blw_alloc ?_ | refine blw_plus ?_ | refine Below.drew ?_))⟩
set_option maxHeartbeats 2000000 in
theorem rtx_83 (seq wall count d0 d1 d2 d3 : Int) (A : Option Addr) (c : Nat) (ws : List WrP) (w : World) (hn : ws.length ≤ 1000000) (hws : WsAt w A ws) (hseq : -9223372036854775808 ≤ seq ∧ seq ≤ 9223372036854775807) (h3 : 1 ≤ seq) (h4 : seq ≤ 1099511627776) (hs : rightS wall count = true) (hr : rgtB d0 d1 d2 d3 = true) (hd : d3 = seq - 1) :
    Calls Tryd.prog 22 #[.agg #[.int .i64 3, .int .i64 seq, .int .i64 wall, .int .i64 count, .int .i64 d0, .int .i64 d1, .int .i64 d2, .int .i64 d3, .slice A ws.length c]] w
      fun e w' => e = .returned (.bool (rightTx ⟨3, seq, wall, count, d0, d1, d2, d3, ws⟩)) ∧ Below w.heap.size w w' := by
  have HF : Hid (rightTx ⟨3, seq, wall, count, d0, d1, d2, d3, ws⟩ = rightWs ws) := hidp (by rw [rightTx, headTx_eq]; simp only [depAt]; rw [hs, hr, decide_eq_true (show 1 ≤ seq ∧ seq ≤ 1099511627776 from ⟨h3, h4⟩)]; simp [hd])
  have HS := hidp (fun w => rightS_is hs w)
  have HR := hidp (fun w => right_is hr w)
  have HW := hidp hws
  have hd1 : (d3 != seq - 1) = false := by simpa using hd
  clear hs hr hd hws
  have _ : decide (seq < 1) = false := by simpa using h3
  have _ : decide (1099511627776 < seq) = false := by simpa using h4
  go_enter Tryd.func22, Tryd.ntmps22
  go_wp2
  refine wp_region_plus (by kernel_rfl) (by kernel_rfl) ?_
  repeat (first | go_big_quiet_skip | (go_big_quiet_want; go_big_quiet_op; first | go_big_quiet_on | (apply Exists.intro; refine ⟨fun _ => ?_, ?_⟩; (first | (go_at_call 13; exact Calls.plus_of (HS.out _)) | (go_at_call 61; exact Calls.plus_of (HR.out _))); go_big_quiet_on)))
  refine wpQuiet_nil ?_
  rintro _ ⟨x, rfl⟩
  go_wp2_with fail
  refine (rightWs_any A c ws _ hn (HW.out.below (by repeat (first | exact Below.refl _ _ | refine blw_alloc ?_ | refine blw_plus ?_ | refine Below.drew ?_)))).mono ?_
  rintro e w' ⟨rfl, hb⟩
  obtain ⟨y, rfl⟩ := wplus_of_below hb
  clear hb
  go_wp2
  go_ret
  exact ⟨by rw [HF.out]; rfl, (by repeat (first | exact Below.refl _ _ | refine blw_alloc ?_ | refine blw_plus ?_ | refine Below.drew ?_))⟩
theorem rightTx_any (site seq wall count d0 d1 d2 d3 : Int) (A : Option Addr) (c : Nat) (ws : List WrP) (w : World) (hn : ws.length ≤ 1000000) (hws : WsAt w A ws) (hseq : -9223372036854775808 ≤ seq ∧ seq ≤ 9223372036854775807) :
    Calls Tryd.prog 22 #[.agg #[.int .i64 site, .int .i64 seq, .int .i64 wall, .int .i64 count, .int .i64 d0, .int .i64 d1, .int .i64 d2, .int .i64 d3, .slice A ws.length c]] w
      fun e w' => e = .returned (.bool (rightTx ⟨site, seq, wall, count, d0, d1, d2, d3, ws⟩)) ∧ Below w.heap.size w w' := by
  by_cases h1 : site < 0
  · exact rtx_1 site seq wall count d0 d1 d2 d3 A c ws w hn hws hseq h1
  have h1 : 0 ≤ site := by omega
  by_cases h2 : 4 ≤ site
  · exact rtx_2 site seq wall count d0 d1 d2 d3 A c ws w hn hws hseq h1 h2
  have h2 : site < 4 := by omega
  by_cases h3 : seq < 1
  · exact rtx_3 site seq wall count d0 d1 d2 d3 A c ws w hn hws hseq h1 h2 h3
  have h3 : 1 ≤ seq := by omega
  by_cases h4 : 1099511627776 < seq
  · exact rtx_4 site seq wall count d0 d1 d2 d3 A c ws w hn hws hseq h1 h2 h3 h4
  have h4 : seq ≤ 1099511627776 := by omega
  cases hs : rightS wall count
  · exact rtx_5 site seq wall count d0 d1 d2 d3 A c ws w hn hws hseq h1 h2 h3 h4 hs
  cases hr : rgtB d0 d1 d2 d3
  · exact rtx_6 site seq wall count d0 d1 d2 d3 A c ws w hn hws hseq h1 h2 h3 h4 hs hr
  have h5 : site = 0 ∨ site = 1 ∨ site = 2 ∨ site = 3 := by omega
  rcases h5 with rfl | rfl | rfl | rfl
  · by_cases hd : d0 = seq - 1
    · exact rtx_80 seq wall count d0 d1 d2 d3 A c ws w hn hws hseq h3 h4 hs hr hd
    · exact rtx_70 seq wall count d0 d1 d2 d3 A c ws w hn hws hseq h3 h4 hs hr hd
  · by_cases hd : d1 = seq - 1
    · exact rtx_81 seq wall count d0 d1 d2 d3 A c ws w hn hws hseq h3 h4 hs hr hd
    · exact rtx_71 seq wall count d0 d1 d2 d3 A c ws w hn hws hseq h3 h4 hs hr hd
  · by_cases hd : d2 = seq - 1
    · exact rtx_82 seq wall count d0 d1 d2 d3 A c ws w hn hws hseq h3 h4 hs hr hd
    · exact rtx_72 seq wall count d0 d1 d2 d3 A c ws w hn hws hseq h3 h4 hs hr hd
  · by_cases hd : d3 = seq - 1
    · exact rtx_83 seq wall count d0 d1 d2 d3 A c ws w hn hws hseq h3 h4 hs hr hd
    · exact rtx_73 seq wall count d0 d1 d2 d3 A c ws w hn hws hseq h3 h4 hs hr hd
end Go.Proofs.YtbopfhbeegkkaaaDoor

namespace Go.Proofs.YtbopfhbeegkkaaaDoor
open Go.RowKit

/-- the buffer as a function hands it back: its own, in new memory -/
def Fresh (w w' : World) (v : Value) (bs : List UInt8) : Prop := Below w.heap.size w w' ∧ w'.ownsRow w.heap.size 5 1 v bs.length (u8s bs)

theorem own_lit {w : World} {B b : Nat} {c : UInt8} {x : Int} (hB : B ≤ b) (h : w.heap[b]? = some (.cells #[.int .u8 x] 5)) (hx : x = (c.toNat : Int)) :
    w.ownsRow B 5 1 (.slice (some ⟨b, 0, none⟩) 1 1) [c].length (u8s [c]) := by
  subst hx
  exact ⟨by simp [u8s], .inr ⟨b, 1, _, rfl, hB, h, Nat.le_refl _, by simp [maxLen], by simp, by simp [u8s]⟩⟩

theorem heap_alloc (W : World) (o : Obj) (k : Nat) : (W.alloc o).heap[k]? = if k = W.heap.size then some o else W.heap[k]? := by
  show (W.heap.push o)[k]? = _
  rw [Array.getElem?_push]
theorem heap_drew (W : World) : W.drew.heap = W.heap := rfl
theorem Buf.cell {B : Nat} {w0 w : World} {v0 v : Value} {bs : List UInt8} (h : Buf B w0 v0 w v bs) {b o : Nat} {s : Option Nat} (hb : b < w0.heap.size) (hne : v0.ownBlock ≠ some b) :
    w.cell? ⟨b, o, s⟩ = w0.cell? ⟨b, o, s⟩ := World.cell?_of_block (h.grown.block b hb (fun e => hne e.symm))
theorem Buf.ne {B : Nat} {w0 w : World} {v0 v : Value} {bs : List UInt8} (h : Buf B w0 v0 w v bs) {b : Nat} (hb : b < w0.heap.size) (hne : v0.ownBlock ≠ some b) : v.ownBlock ≠ some b := by
  rcases h.blk with hk | hk
  · rw [hk]; exact hne
  · intro e; have := hk b e; omega
theorem Buf.below {B n : Nat} {w0 w : World} {v0 v : Value} {bs : List UInt8} (h : Buf B w0 v0 w v bs) (hn : n ≤ w0.heap.size) (hv : ∀ k, v0.ownBlock = some k → n ≤ k) : Below n w0 w :=
  ⟨h.grown.os, h.grown.tape, h.grown.output, h.grown.size, fun k hk => h.grown.block k (by omega) (fun e => by have := hv k e.symm; omega)⟩

theorem put_len (B : Nat) (v : Value) (bs : List UInt8) (zs : List Nat) (lb lo n c : Nat) (w : World) (hn : zs.length = n) (hB : B ≤ w.heap.size)
    (hown : w.ownsRow B 5 1 v bs.length (u8s bs)) (hz : ∀ z ∈ zs, z < 4398046511104) (hbs : bs.length + 6 * zs.length ≤ 1000000)
    (hl : ∀ (i : Nat) (z : Nat), zs[i]? = some z → w.cell? ⟨lb, lo + i, none⟩ = some (.int .i64 (z : Int))) (hne : v.ownBlock ≠ some lb) :
    Calls Tryd.prog 59 #[v, .slice (some ⟨lb, lo, none⟩) n c] w fun e w' => ∃ v', e = .returned v' ∧ Buf B w v w' v' (bs ++ numsB zs) := by
  subst hn; exact put_any B v bs zs lb lo c w hB hown hz hbs hl hne

theorem encAsk_bad (s a0 a1 a2 a3 : Int) (w : World) (h : s < 0 ∨ 4 ≤ s ∨ rgtB a0 a1 a2 a3 = false) :
    Calls Tryd.prog 21 #[.int .i64 s, .agg #[.int .i64 a0, .int .i64 a1, .int .i64 a2, .int .i64 a3]] w fun e w' => e = .returned (.tuple #[.slice none 0 0, .iface 24 (.int .i64 1)]) ∧ Below w.heap.size w w' := by
  by_cases h1 : s < 0
  · clear h
    go_enter Tryd.func21, Tryd.ntmps21
    go_wp2
    go_ret2
    exact ⟨rfl, (by repeat (first | exact Below.refl _ _ | refine blw_alloc ?_ | refine blw_plus ?_ | refine Below.drew ?_))⟩
  by_cases h2 : 4 ≤ s
  · clear h
    go_enter Tryd.func21, Tryd.ntmps21
    go_wp2
    go_ret2
    exact ⟨rfl, (by repeat (first | exact Below.refl _ _ | refine blw_alloc ?_ | refine blw_plus ?_ | refine Below.drew ?_))⟩
  have h3 : rgtB a0 a1 a2 a3 = false := by
    rcases h with h | h | h
    · omega
    · omega
    · exact h
  have HR := hidp (fun w => right_is h3 w)
  clear h h3
  go_enter Tryd.func21, Tryd.ntmps21
  go_wp2_with (go_at_call 61; with_reducible refine (HR.out _).mono ?_; rintro e w' ⟨rfl, hb⟩; obtain ⟨x, rfl⟩ := wplus_of_below hb; clear hb)
  go_ret2
  exact ⟨rfl, (by repeat (first | exact Below.refl _ _ | refine blw_alloc ?_ | refine blw_plus ?_ | refine Below.drew ?_))⟩

set_option maxRecDepth 100000 in
set_option maxHeartbeats 4000000 in
theorem encAsk_good (s a0 a1 a2 a3 : Nat) (w : World) (hs : s < 4) (hr : rgtB a0 a1 a2 a3 = true) :
    Calls Tryd.prog 21 #[.int .i64 s, .agg #[.int .i64 a0, .int .i64 a1, .int .i64 a2, .int .i64 a3]] w fun e w' => ∃ v, e = .returned (.tuple #[v, .nilIface]) ∧ Fresh w w' v (97 :: numsB [s, a0, a1, a2, a3]) := by
  have hs' : ((s : Int) < 4) := by omega
  have HB : Hid ((a0 ≤ 1099511627776 ∧ a1 ≤ 1099511627776) ∧ (a2 ≤ 1099511627776 ∧ a3 ≤ 1099511627776)) := hidp (by simp only [rgtB, Bool.and_eq_true, decide_eq_true_eq] at hr; omega)
  have HR := hidp (fun w => right_is hr w)
  clear hr
  go_enter Tryd.func21, Tryd.ntmps21
  go_wp2_with (go_at_call 61; with_reducible refine (HR.out _).mono ?_; rintro e w' ⟨rfl, hb⟩; obtain ⟨x, rfl⟩ := wplus_of_below hb; clear hb)
  clear HR
  go_region_held3 (fun _ : World => True) (trivial) (first
    | (go_at_call 59
       with_reducible refine (put_len w.heap.size v (97 :: numsB [s]) [a0, a1, a2, a3] w.heap.size 0 4 4 _ rfl ?_ ?_ ?_ ?_ ?_ ?_).mono ?_
       · exact Nat.le_trans (by simp; omega) hb.grown.size
       · exact hb.own
       · intro z hz; have := HB.out; simp at hz; omega
       · have := numB_len s 6 (by omega) (by omega); simp [numsB]; omega
       · intro i z hi
         rw [hb.cell (by simp; omega) (by simp [Value.ownBlock]; omega)]
         rcases i with _ | _ | _ | _ | i <;> simp at hi <;> subst hi <;> simp [go_sem]
       · exact hb.ne (by simp; omega) (by simp [Value.ownBlock]; omega)
       rintro e w'' ⟨v2, rfl, hb2⟩)
    | (go_at_call 59
       with_reducible refine (put_len w.heap.size _ [97] [s] _ 0 1 1 _ rfl ?_ ?_ ?_ ?_ ?_ ?_).mono ?_
       · simp; omega
       · exact own_lit (c := 97) (by omega) (by (try rw [heap_drew]); first | (rw [heap_alloc, if_pos (by simp)]; rfl) | (rw [heap_alloc, if_neg (by simp), heap_alloc, if_pos (by simp)]; rfl)) rfl
       · simp; omega
       · simp
       · intro i z hi; rcases i with _ | i <;> simp at hi; subst hi; simp [go_sem]
       · simp [Value.ownBlock]
       rintro e w' ⟨v, rfl, hb⟩))
  all_goals
    have HFr : Hid (Fresh w w'' v2 (97 :: numsB [s, a0, a1, a2, a3])) := hidp ⟨Below.trans (Below.trans (by repeat (first | exact Below.refl _ _ | refine blw_alloc ?_ | refine blw_plus ?_ | refine Below.drew ?_)) (hb.below (n := w.heap.size) (by simp; omega) (by intro k hk; simp [Value.ownBlock] at hk; omega)))
      (hb2.below (n := w.heap.size) (Nat.le_trans (by simp; omega) hb.grown.size) (by intro k hk; rcases hb.blk with h | h; (· rw [h] at hk; simp [Value.ownBlock] at hk; omega); (· exact Nat.le_trans (by simp; omega) (h k hk)))), by
      have := hb2.own; simpa [numsB] using this⟩
    go_wp2
    go_ret2
    exact ⟨v2, rfl, HFr.out⟩
end Go.Proofs.YtbopfhbeegkkaaaDoor

namespace Go.Proofs.YtbopfhbeegkkaaaDoor
open Go.RowKit

/-- a slice of bytes that reads as a list, in another block than g -/
def BsVal (w : World) (g : Nat) (v : Value) (l : List UInt8) : Prop :=
  ∃ A c, v = .slice A l.length c ∧ l.length ≤ c ∧ c ≤ maxLen ∧ ∀ (i : Nat) (b : UInt8), l[i]? = some b → ∃ B o, A = some ⟨B, o, none⟩ ∧ B < g ∧ w.cell? ⟨B, o + i, none⟩ = some (.int .u8 (b.toNat : Int))
/-- a reader in block g -/
def RdAt (w : World) (g : Nat) (r : Rd) : Prop := ∃ v, w.heap[g]? = some (.cells #[v, .bool r.bad] 125) ∧ BsVal w g v r.l

theorem cell_blk {w : World} {g : Nat} {cs : Array Value} {t : TypeId} (h : w.heap[g]? = some (.cells cs t)) (i : Nat) : w.cell? ⟨g, i, none⟩ = cs[i]? := cell_of_row w g i cs t (0, 0) h
theorem frozen_blk {w : World} {g : Nat} {cs : Array Value} {t : TypeId} (h : w.heap[g]? = some (.cells cs t)) (i : Nat) : w.frozen? ⟨g, i, none⟩ = false := by
  simp [World.frozen?, h]
theorem lt_blk {w : World} {g : Nat} {o : Obj} (h : w.heap[g]? = some o) : g < w.heap.size := (Array.getElem?_eq_some_iff.1 h).1
theorem blk_set {w : World} {g : Nat} {cs : Array Value} {t : TypeId} (h : w.heap[g]? = some (.cells cs t)) (i : Nat) (u : Value) : (w.setCell ⟨g, i, none⟩ u).heap[g]? = some (.cells (cs.setIfInBounds i u) t) := by
  simp [World.setCell, Array.getElem?_modify, h]
theorem grown_set (w : World) (g i : Nat) (u : Value) : w.grownBy (w.setCell ⟨g, i, none⟩ u) (some g) :=
  ⟨rfl, rfl, rfl, by simp [World.setCell], fun k _ hne => Below.heap_setCell w ⟨g, i, none⟩ u k (fun e => hne (by rw [e]))⟩
theorem and127 : ∀ x : Fin 256, bits BinOp.and IntKind.u8 (x.val : Int) 127 = ((x.val % 128 : Nat) : Int) := by decide +kernel
theorem and127_nat (y : Nat) (h : y < 256) : bits BinOp.and IntKind.u8 (y : Int) 127 = ((y % 128 : Nat) : Int) := and127 ⟨y, h⟩
theorem ofInt_i64 (a : Nat) (ha : a < 9223372036854775808) : (BitVec.ofInt 64 (a : Int)).toNat = a := by
  rw [BitVec.ofInt_natCast, BitVec.toNat_ofNat]; exact Nat.mod_eq_of_lt (by omega)
theorem i64_or_nat (a b : Nat) (ha : a < 9223372036854775808) (hb : b < 9223372036854775808) : bits .or .i64 (a : Int) (b : Int) = ((a ||| b : Nat) : Int) := by
  have hx : a ||| b < 2 ^ 63 := Nat.or_lt_two_pow (by omega) (by omega)
  show IntKind.i64.wrap ((BitVec.ofInt 64 (a : Int) ||| BitVec.ofInt 64 (b : Int)).toNat : Int) = _
  rw [BitVec.toNat_or, ofInt_i64 a ha, ofInt_i64 b hb, IntKind.wrap_i64]
  omega
theorem or_mul (m x i : Nat) (hm : m < 2 ^ i) : m ||| x * 2 ^ i = m + x * 2 ^ i := by
  rw [Nat.mul_comm, Nat.or_comm, ← Nat.two_pow_add_eq_or_of_lt hm, Nat.add_comm]
theorem or_add (m x i p : Nat) (hm : m < p) (hp : p = 2 ^ i) (hx : x < 128) (hb : p < 9007199254740992) : bits .or .i64 (m : Int) ((x : Int) * (p : Int)) = ((m + x * p : Nat) : Int) := by
  have h1 : x * p ≤ 127 * p := Nat.mul_le_mul_right _ (by omega)
  rw [← Int.natCast_mul, i64_or_nat m (x * p) (by omega) (by omega)]
  subst hp
  rw [or_mul m x i hm]
theorem BsVal.set {w : World} {g : Nat} {v : Value} {l : List UInt8} (h : BsVal w g v l) (i : Nat) (u : Value) : BsVal (w.setCell ⟨g, i, none⟩ u) g v l := by
  obtain ⟨A, c, rfl, h1, h2, h3⟩ := h
  refine ⟨A, c, rfl, h1, h2, fun j b hb => ?_⟩
  obtain ⟨B, o, hA, hne, hc⟩ := h3 j b hb
  refine ⟨B, o, hA, hne, ?_⟩
  rw [World.cell?_of_block (w := w) (Below.heap_setCell w ⟨g, i, none⟩ u B (Nat.ne_of_lt hne))]
  exact hc
theorem BsVal.drop {w : World} {g B o : Nat} {l : List UInt8} {c k : Nat} (hk : k ≤ l.length) (h : BsVal w g (.slice (some ⟨B, o, none⟩) l.length c) l) :
    BsVal w g (.slice (some (if c = k then ⟨B, o, none⟩ else ⟨B, o + k, none⟩)) (l.length - k) (c - k)) (l.drop k) := by
  obtain ⟨A, c', e, h1, h2, h3⟩ := h
  cases e
  refine ⟨_, c - k, by rw [List.length_drop], by rw [List.length_drop]; omega, by omega, fun j b hb => ?_⟩
  rw [List.getElem?_drop] at hb
  have hlt : k + j < l.length := (List.getElem?_eq_some_iff.1 hb).1
  obtain ⟨B', o', hA, hne, hc⟩ := h3 (k + j) b hb
  cases hA
  rw [if_neg (by omega)]
  exact ⟨B, o + k, rfl, hne, by rw [Nat.add_assoc]; exact hc⟩
theorem BsVal.above {w w' : World} {g : Nat} {v : Value} {l : List UInt8} (h : BsVal w g v l) (hk : ∀ k, k < g → w'.heap[k]? = w.heap[k]?) : BsVal w' g v l := by
  obtain ⟨A, c, rfl, h1, h2, h3⟩ := h
  refine ⟨A, c, rfl, h1, h2, fun j b hb => ?_⟩
  obtain ⟨B, o, hA, hne, hc⟩ := h3 j b hb
  exact ⟨B, o, hA, hne, by rw [World.cell?_of_block (w := w) (hk B hne)]; exact hc⟩
theorem RdAt.above {w w' : World} {g : Nat} {r : Rd} (h : RdAt w g r) (hk : ∀ k, k ≤ g → w'.heap[k]? = w.heap[k]?) : RdAt w' g r := by
  obtain ⟨v, hb, hv⟩ := h
  exact ⟨v, by rw [hk g (Nat.le_refl _)]; exact hb, hv.above fun k h => hk k (Nat.le_of_lt h)⟩
theorem RdAt.lt {w : World} {g : Nat} {r : Rd} (h : RdAt w g r) : g < w.heap.size := by
  obtain ⟨v, hb, _⟩ := h
  exact lt_blk hb
/-- nothing is read: bad -/
theorem num_none {w : World} {g : Nat} {l : List UInt8} {bad : Bool} {v : Value} (hb : w.heap[g]? = some (.cells #[v, .bool bad] 125)) (hv : BsVal w g v l) (h : rdNum l = none) :
    (numR ⟨l, bad⟩).1 = 0 ∧ RdAt (w.setCell ⟨g, 1, none⟩ (.bool true)) g (numR ⟨l, bad⟩).2 ∧ w.grownBy (w.setCell ⟨g, 1, none⟩ (.bool true)) (some g) := by
  simp only [numR, h]
  exact ⟨trivial, ⟨v, by simpa using blk_set hb 1 (.bool true), hv.set 1 _⟩, grown_set w g 1 _⟩
theorem num_some {w : World} {g B o : Nat} {l : List UInt8} {bad : Bool} {c k n : Nat} (hb : w.heap[g]? = some (.cells #[.slice (some ⟨B, o, none⟩) l.length c, .bool bad] 125)) (hv : BsVal w g (.slice (some ⟨B, o, none⟩) l.length c) l)
    (hk : k ≤ l.length) (h : rdNum l = some (n, l.drop k)) {u : Value} (hu : u = (.slice (some (if c = k then ⟨B, o, none⟩ else ⟨B, o + k, none⟩)) (l.length - k) (c - k))) :
    (numR ⟨l, bad⟩).1 = n ∧ RdAt (w.setCell ⟨g, 0, none⟩ u) g (numR ⟨l, bad⟩).2 ∧ w.grownBy (w.setCell ⟨g, 0, none⟩ u) (some g) := by
  subst hu
  simp only [numR, h]
  exact ⟨trivial, ⟨_, by simpa using blk_set hb 0 _, (hv.drop hk).set 0 _⟩, grown_set w g 0 _⟩
theorem rdGo_step {k m y : Nat} {b : UInt8} {l : List UInt8} (hk : k < l.length) (hb : l[k] = b) (hy : b.toNat = y) :
    rdGo k m (l.drop k) = if 5 < k ∨ 1099511627776 < m + y % 128 * 128 ^ k ∨ (y = 0 ∧ 0 < k) then none else if y < 128 then some (m + y % 128 * 128 ^ k, l.drop (k + 1)) else rdGo (k + 1) (m + y % 128 * 128 ^ k) (l.drop (k + 1)) := by
  rw [List.drop_eq_getElem_cons hk, hb]
  subst hy
  rfl
theorem num_fin {w w' : World} {g : Nat} {l : List UInt8} {bad : Bool} {n : Nat} (h : (numR ⟨l, bad⟩).1 = n ∧ RdAt w' g (numR ⟨l, bad⟩).2 ∧ w.grownBy w' (some g)) {x : Int} (hx : x = (n : Int)) :
    Ending.returned (.int .i64 x) = .returned (.int .i64 ((numR ⟨l, bad⟩).1 : Int)) ∧ RdAt w' g (numR ⟨l, bad⟩).2 ∧ w.grownBy w' (some g) := by
  rw [h.1, hx]; exact ⟨rfl, h.2⟩

set_option maxRecDepth 20000 in
set_option maxHeartbeats 8000000 in
theorem num_any (g : Nat) (r : Rd) (w : World) (hr : RdAt w g r) (hl : r.l.length ≤ 1000000) :
    Calls Tryd.prog 64 #[.pointer (some ⟨g, 0, none⟩)] w fun e w' => e = .returned (.int .i64 (numR r).1) ∧ RdAt w' g (numR r).2 ∧ w.grownBy w' (some g) := by
  obtain ⟨l, bad⟩ := r
  obtain ⟨v, hb, hv⟩ := hr
  have hv' := hv
  obtain ⟨A, c, rfl, hc, hcm, hx⟩ := hv'
  simp only at *
  have HV := hidp hv
  have g0 := cell_blk hb 0
  have g1 := cell_blk hb 1
  have f0 := frozen_blk hb 0
  have f1 := frozen_blk hb 1
  simp at g0 g1
  have HX := hidp hx
  have HBk := hidp hb
  clear hx hb hv
  unfold maxLen at hcm
  go_enter Tryd.func64, Tryd.ntmps64
  go_wp2
  go_loop [3, 11] (fun n i => ∃ k m : Nat, k ≤ l.length ∧ k ≤ 6 ∧ i = .int .i64 k ∧ n = .int .i64 m ∧ m < 128 ^ k ∧ rdNum l = rdGo k m (l.drop k)) (fun _ i => l.length - (intOf i).toNat)
  case atStart => exact ⟨0, 0, Nat.zero_le _, Nat.zero_le _, rfl, rfl, by simp, rfl⟩
  case round =>
    obtain ⟨k, m, hk, hk6, rfl, rfl, hm, hrd⟩ := hrel
    by_cases hlt : k < l.length
    · obtain ⟨B, o, rfl, hBg', hcell⟩ := HX.out k l[k] (List.getElem?_eq_getElem hlt)
      have hBg : B ≠ g := Nat.ne_of_lt hBg'
      obtain ⟨y, hy⟩ : ∃ y, l[k].toNat = y := ⟨_, rfl⟩
      have hbl : y < 256 := by rw [← hy]; exact l[k].toNat_lt
      rw [rdGo_step hlt rfl hy] at hrd
      rw [hy] at hcell
      have HRD := hidp hrd
      clear hrd hy
      obtain ⟨X, hX, hXe⟩ : ∃ X : Nat, bits BinOp.and IntKind.u8 (y : Int) 127 = (X : Int) ∧ Hid (X = y % 128) := ⟨_, and127_nat y hbl, rfl⟩
      have hXb : X < 128 := by have := hXe.out; omega
      have h5 : k = 0 ∨ k = 1 ∨ k = 2 ∨ k = 3 ∨ k = 4 ∨ k = 5 ∨ k = 6 := by omega
      rcases h5 with rfl | rfl | rfl | rfl | rfl | rfl | rfl
      · have hm : m < 1 := hm
        rw [Nat.add_zero] at hcell
        obtain ⟨M, hM, hMe⟩ : ∃ M : Nat, bits BinOp.or IntKind.i64 (m : Int) ((X : Int)) = (M : Int) ∧ Hid (M = m + X * 1) := ⟨_, by have := or_add m X 0 1 hm rfl hXb (by omega); simpa using this, rfl⟩
        have hMb : M < 128 := by have := hMe.out; omega
        have HR : Hid (rdNum l = if 5 < 0 ∨ 1099511627776 < M ∨ (y = 0 ∧ 0 < 0) then none else if y < 128 then some (M, l.drop (0 + 1)) else rdGo (0 + 1) M (l.drop (0 + 1))) := hidp (by rw [hMe.out, hXe.out]; exact HRD.out)
        clear HRD hMe hXe hm
        have c1' : (M : Int) ≤ 1099511627776 := by omega
        cases c2 : ((y : Int) == 0) with
        | true =>
          have e0 : y < 128 := by have := eq_of_beq c2; omega
          by_cases c4 : c = 1
          · subst c4
            have HN := hidp (num_some (k := 1) (n := M) (u := .slice (some ⟨B, o, none⟩) 0 0) HBk.out HV.out (by omega) (by rw [HR.out, if_neg (by omega), if_pos (by omega)]) (by rw [if_pos rfl, show l.length - 1 = 0 by omega]))
            go_wp2
            go_ret
            exact num_fin HN.out rfl
          · have HN := hidp (num_some (k := 1) (n := M) (u := .slice (some ⟨B, o + 1, none⟩) (l.length - 1) (c - 1)) HBk.out HV.out (by omega) (by rw [HR.out, if_neg (by omega), if_pos (by omega)]) (by rw [if_neg c4]))
            go_wp2
            go_ret
            exact num_fin HN.out rfl
        | false =>
          by_cases c3 : y < 128
          · by_cases c4 : c = 1
            · subst c4
              have HN := hidp (num_some (k := 1) (n := M) (u := .slice (some ⟨B, o, none⟩) 0 0) HBk.out HV.out (by omega) (by rw [HR.out, if_neg (by omega), if_pos (by omega)]) (by rw [if_pos rfl, show l.length - 1 = 0 by omega]))
              go_wp2
              go_ret
              exact num_fin HN.out rfl
            · have HN := hidp (num_some (k := 1) (n := M) (u := .slice (some ⟨B, o + 1, none⟩) (l.length - 1) (c - 1)) HBk.out HV.out (by omega) (by rw [HR.out, if_neg (by omega), if_pos (by omega)]) (by rw [if_neg c4]))
              go_wp2
              go_ret
              exact num_fin HN.out rfl
          · have HN : Hid (rdNum l = rdGo 1 M (l.drop 1)) := hidp (by rw [HR.out, if_neg (by omega), if_neg c3])
            go_wp2
            go_round
            case rel => exact ⟨1, M, by omega, by omega, rfl, rfl, hMb, HN.out⟩
            case measure => simp [intOf]; omega
      · have hm : m < 128 := hm
        obtain ⟨M, hM, hMe⟩ : ∃ M : Nat, bits BinOp.or IntKind.i64 (m : Int) ((X : Int) * 128) = (M : Int) ∧ Hid (M = m + X * 128) := ⟨_, or_add m X 7 128 hm rfl hXb (by omega), rfl⟩
        have hMb : M < 16384 := by have := hMe.out; omega
        have HR : Hid (rdNum l = if 5 < 1 ∨ 1099511627776 < M ∨ (y = 0 ∧ 0 < 1) then none else if y < 128 then some (M, l.drop (1 + 1)) else rdGo (1 + 1) M (l.drop (1 + 1))) := hidp (by rw [hMe.out, hXe.out]; exact HRD.out)
        clear HRD hMe hXe hm
        have c1' : (M : Int) ≤ 1099511627776 := by omega
        cases c2 : ((y : Int) == 0) with
        | true =>
          have e0 : y = 0 := by have := eq_of_beq c2; omega
          have HN := hidp (num_none HBk.out HV.out (by rw [HR.out, if_pos (by omega)]))
          clear e0
          go_wp2
          go_ret
          exact num_fin HN.out rfl
        | false =>
          have e0 : y ≠ 0 := by have := ne_of_beq_false c2; omega
          by_cases c3 : y < 128
          · by_cases c4 : c = 2
            · subst c4
              have HN := hidp (num_some (k := 2) (n := M) (u := .slice (some ⟨B, o, none⟩) 0 0) HBk.out HV.out (by omega) (by rw [HR.out, if_neg (by omega), if_pos (by omega)]) (by rw [if_pos rfl, show l.length - 2 = 0 by omega]))
              go_wp2
              go_ret
              exact num_fin HN.out rfl
            · have HN := hidp (num_some (k := 2) (n := M) (u := .slice (some ⟨B, o + 2, none⟩) (l.length - 2) (c - 2)) HBk.out HV.out (by omega) (by rw [HR.out, if_neg (by omega), if_pos (by omega)]) (by rw [if_neg c4]))
              go_wp2
              go_ret
              exact num_fin HN.out rfl
          · have HN : Hid (rdNum l = rdGo 2 M (l.drop 2)) := hidp (by rw [HR.out, if_neg (by omega), if_neg c3])
            go_wp2
            go_round
            case rel => exact ⟨2, M, by omega, by omega, rfl, rfl, hMb, HN.out⟩
            case measure => simp [intOf]; omega
      · have hm : m < 16384 := hm
        obtain ⟨M, hM, hMe⟩ : ∃ M : Nat, bits BinOp.or IntKind.i64 (m : Int) ((X : Int) * 16384) = (M : Int) ∧ Hid (M = m + X * 16384) := ⟨_, or_add m X 14 16384 hm rfl hXb (by omega), rfl⟩
        have hMb : M < 2097152 := by have := hMe.out; omega
        have HR : Hid (rdNum l = if 5 < 2 ∨ 1099511627776 < M ∨ (y = 0 ∧ 0 < 2) then none else if y < 128 then some (M, l.drop (2 + 1)) else rdGo (2 + 1) M (l.drop (2 + 1))) := hidp (by rw [hMe.out, hXe.out]; exact HRD.out)
        clear HRD hMe hXe hm
        have c1' : (M : Int) ≤ 1099511627776 := by omega
        cases c2 : ((y : Int) == 0) with
        | true =>
          have e0 : y = 0 := by have := eq_of_beq c2; omega
          have HN := hidp (num_none HBk.out HV.out (by rw [HR.out, if_pos (by omega)]))
          clear e0
          go_wp2
          go_ret
          exact num_fin HN.out rfl
        | false =>
          have e0 : y ≠ 0 := by have := ne_of_beq_false c2; omega
          by_cases c3 : y < 128
          · by_cases c4 : c = 3
            · subst c4
              have HN := hidp (num_some (k := 3) (n := M) (u := .slice (some ⟨B, o, none⟩) 0 0) HBk.out HV.out (by omega) (by rw [HR.out, if_neg (by omega), if_pos (by omega)]) (by rw [if_pos rfl, show l.length - 3 = 0 by omega]))
              go_wp2
              go_ret
              exact num_fin HN.out rfl
            · have HN := hidp (num_some (k := 3) (n := M) (u := .slice (some ⟨B, o + 3, none⟩) (l.length - 3) (c - 3)) HBk.out HV.out (by omega) (by rw [HR.out, if_neg (by omega), if_pos (by omega)]) (by rw [if_neg c4]))
              go_wp2
              go_ret
              exact num_fin HN.out rfl
          · have HN : Hid (rdNum l = rdGo 3 M (l.drop 3)) := hidp (by rw [HR.out, if_neg (by omega), if_neg c3])
            go_wp2
            go_round
            case rel => exact ⟨3, M, by omega, by omega, rfl, rfl, hMb, HN.out⟩
            case measure => simp [intOf]; omega
      · have hm : m < 2097152 := hm
        obtain ⟨M, hM, hMe⟩ : ∃ M : Nat, bits BinOp.or IntKind.i64 (m : Int) ((X : Int) * 2097152) = (M : Int) ∧ Hid (M = m + X * 2097152) := ⟨_, or_add m X 21 2097152 hm rfl hXb (by omega), rfl⟩
        have hMb : M < 268435456 := by have := hMe.out; omega
        have HR : Hid (rdNum l = if 5 < 3 ∨ 1099511627776 < M ∨ (y = 0 ∧ 0 < 3) then none else if y < 128 then some (M, l.drop (3 + 1)) else rdGo (3 + 1) M (l.drop (3 + 1))) := hidp (by rw [hMe.out, hXe.out]; exact HRD.out)
        clear HRD hMe hXe hm
        have c1' : (M : Int) ≤ 1099511627776 := by omega
        cases c2 : ((y : Int) == 0) with
        | true =>
          have e0 : y = 0 := by have := eq_of_beq c2; omega
          have HN := hidp (num_none HBk.out HV.out (by rw [HR.out, if_pos (by omega)]))
          clear e0
          go_wp2
          go_ret
          exact num_fin HN.out rfl
        | false =>
          have e0 : y ≠ 0 := by have := ne_of_beq_false c2; omega
          by_cases c3 : y < 128
          · by_cases c4 : c = 4
            · subst c4
              have HN := hidp (num_some (k := 4) (n := M) (u := .slice (some ⟨B, o, none⟩) 0 0) HBk.out HV.out (by omega) (by rw [HR.out, if_neg (by omega), if_pos (by omega)]) (by rw [if_pos rfl, show l.length - 4 = 0 by omega]))
              go_wp2
              go_ret
              exact num_fin HN.out rfl
            · have HN := hidp (num_some (k := 4) (n := M) (u := .slice (some ⟨B, o + 4, none⟩) (l.length - 4) (c - 4)) HBk.out HV.out (by omega) (by rw [HR.out, if_neg (by omega), if_pos (by omega)]) (by rw [if_neg c4]))
              go_wp2
              go_ret
              exact num_fin HN.out rfl
          · have HN : Hid (rdNum l = rdGo 4 M (l.drop 4)) := hidp (by rw [HR.out, if_neg (by omega), if_neg c3])
            go_wp2
            go_round
            case rel => exact ⟨4, M, by omega, by omega, rfl, rfl, hMb, HN.out⟩
            case measure => simp [intOf]; omega
      · have hm : m < 268435456 := hm
        obtain ⟨M, hM, hMe⟩ : ∃ M : Nat, bits BinOp.or IntKind.i64 (m : Int) ((X : Int) * 268435456) = (M : Int) ∧ Hid (M = m + X * 268435456) := ⟨_, or_add m X 28 268435456 hm rfl hXb (by omega), rfl⟩
        have hMb : M < 34359738368 := by have := hMe.out; omega
        have HR : Hid (rdNum l = if 5 < 4 ∨ 1099511627776 < M ∨ (y = 0 ∧ 0 < 4) then none else if y < 128 then some (M, l.drop (4 + 1)) else rdGo (4 + 1) M (l.drop (4 + 1))) := hidp (by rw [hMe.out, hXe.out]; exact HRD.out)
        clear HRD hMe hXe hm
        have c1' : (M : Int) ≤ 1099511627776 := by omega
        cases c2 : ((y : Int) == 0) with
        | true =>
          have e0 : y = 0 := by have := eq_of_beq c2; omega
          have HN := hidp (num_none HBk.out HV.out (by rw [HR.out, if_pos (by omega)]))
          clear e0
          go_wp2
          go_ret
          exact num_fin HN.out rfl
        | false =>
          have e0 : y ≠ 0 := by have := ne_of_beq_false c2; omega
          by_cases c3 : y < 128
          · by_cases c4 : c = 5
            · subst c4
              have HN := hidp (num_some (k := 5) (n := M) (u := .slice (some ⟨B, o, none⟩) 0 0) HBk.out HV.out (by omega) (by rw [HR.out, if_neg (by omega), if_pos (by omega)]) (by rw [if_pos rfl, show l.length - 5 = 0 by omega]))
              go_wp2
              go_ret
              exact num_fin HN.out rfl
            · have HN := hidp (num_some (k := 5) (n := M) (u := .slice (some ⟨B, o + 5, none⟩) (l.length - 5) (c - 5)) HBk.out HV.out (by omega) (by rw [HR.out, if_neg (by omega), if_pos (by omega)]) (by rw [if_neg c4]))
              go_wp2
              go_ret
              exact num_fin HN.out rfl
          · have HN : Hid (rdNum l = rdGo 5 M (l.drop 5)) := hidp (by rw [HR.out, if_neg (by omega), if_neg c3])
            go_wp2
            go_round
            case rel => exact ⟨5, M, by omega, by omega, rfl, rfl, hMb, HN.out⟩
            case measure => simp [intOf]; omega
      · have hm : m < 34359738368 := hm
        obtain ⟨M, hM, hMe⟩ : ∃ M : Nat, bits BinOp.or IntKind.i64 (m : Int) ((X : Int) * 34359738368) = (M : Int) ∧ Hid (M = m + X * 34359738368) := ⟨_, or_add m X 35 34359738368 hm rfl hXb (by omega), rfl⟩
        have hMb : M < 4398046511104 := by have := hMe.out; omega
        have HR : Hid (rdNum l = if 5 < 5 ∨ 1099511627776 < M ∨ (y = 0 ∧ 0 < 5) then none else if y < 128 then some (M, l.drop (5 + 1)) else rdGo (5 + 1) M (l.drop (5 + 1))) := hidp (by rw [hMe.out, hXe.out]; exact HRD.out)
        clear HRD hMe hXe hm
        by_cases c1 : (1099511627776 : Int) < (M : Int)
        · have HN := hidp (num_none HBk.out HV.out (by rw [HR.out, if_pos (by omega)]))
          go_wp2
          go_ret
          exact num_fin HN.out rfl
        have c1' : (M : Int) ≤ 1099511627776 := by omega
        clear c1
        cases c2 : ((y : Int) == 0) with
        | true =>
          have e0 : y = 0 := by have := eq_of_beq c2; omega
          have HN := hidp (num_none HBk.out HV.out (by rw [HR.out, if_pos (by omega)]))
          clear e0
          go_wp2
          go_ret
          exact num_fin HN.out rfl
        | false =>
          have e0 : y ≠ 0 := by have := ne_of_beq_false c2; omega
          by_cases c3 : y < 128
          · by_cases c4 : c = 6
            · subst c4
              have HN := hidp (num_some (k := 6) (n := M) (u := .slice (some ⟨B, o, none⟩) 0 0) HBk.out HV.out (by omega) (by rw [HR.out, if_neg (by omega), if_pos (by omega)]) (by rw [if_pos rfl, show l.length - 6 = 0 by omega]))
              go_wp2
              go_ret
              exact num_fin HN.out rfl
            · have HN := hidp (num_some (k := 6) (n := M) (u := .slice (some ⟨B, o + 6, none⟩) (l.length - 6) (c - 6)) HBk.out HV.out (by omega) (by rw [HR.out, if_neg (by omega), if_pos (by omega)]) (by rw [if_neg c4]))
              go_wp2
              go_ret
              exact num_fin HN.out rfl
          · have HN : Hid (rdNum l = rdGo 6 M (l.drop 6)) := hidp (by rw [HR.out, if_neg (by omega), if_neg c3])
            go_wp2
            go_round
            case rel => exact ⟨6, M, by omega, by omega, rfl, rfl, hMb, HN.out⟩
            case measure => simp [intOf]; omega
      · have hm : m < 4398046511104 := hm
        obtain ⟨M, hM, hMe⟩ : ∃ M : Nat, bits BinOp.or IntKind.i64 (m : Int) ((X : Int) * 4398046511104) = (M : Int) ∧ Hid (M = m + X * 4398046511104) := ⟨_, or_add m X 42 4398046511104 hm rfl hXb (by omega), rfl⟩
        have hMb : M < 562949953421312 := by have := hMe.out; omega
        have HR : Hid (rdNum l = if 5 < 6 ∨ 1099511627776 < M ∨ (y = 0 ∧ 0 < 6) then none else if y < 128 then some (M, l.drop (6 + 1)) else rdGo (6 + 1) M (l.drop (6 + 1))) := hidp (by rw [hMe.out, hXe.out]; exact HRD.out)
        clear HRD hMe hXe hm
        have HN := hidp (num_none HBk.out HV.out (by rw [HR.out, if_pos (by omega)]))
        go_wp2
        go_ret
        exact num_fin HN.out rfl
    · have HN := hidp (num_none HBk.out HV.out (by rw [hrd, List.drop_eq_nil_of_le (by omega)]; rfl))
      clear hrd
      go_wp2
      go_ret
      exact num_fin HN.out rfl
end Go.Proofs.YtbopfhbeegkkaaaDoor

namespace Go.Proofs.YtbopfhbeegkkaaaDoor
open Go.RowKit

theorem numR_len (r : Rd) : (numR r).2.l.length ≤ r.l.length := by
  unfold numR
  cases e : rdNum r.l with
  | none => exact Nat.le_refl _
  | some x =>
    have h := (rdNum_back (l := r.l) (m := x.1) (r := x.2) (by rw [e])).1
    have h2 := congrArg List.length h
    simp only [List.length_append] at h2
    show x.2.length ≤ _
    omega

/-- while a vector is read: the result's block, the block of what has been read -/
structure VecSt (w W : World) (g : Nat) (r : Rd) (a0 a1 a2 a3 : Int) : Prop where
  rd : RdAt W g r
  t2 : W.heap[w.heap.size]? = some (.cells #[.int .i64 0, .int .i64 0, .int .i64 0, .int .i64 0] 37)
  t3 : W.heap[w.heap.size + 1]? = some (.cells #[.int .i64 a0, .int .i64 a1, .int .i64 a2, .int .i64 a3] 37)
  gr : w.grownBy W (some g)
  lt : g < w.heap.size

theorem grown_trans {w w1 w2 : World} {g : Nat} (h1 : w.grownBy w1 (some g)) (h2 : w1.grownBy w2 (some g)) : w.grownBy w2 (some g) :=
  ⟨h2.os.trans h1.os, h2.tape.trans h1.tape, h2.output.trans h1.output, Nat.le_trans h1.size h2.size, fun k hk hne => (h2.block k (Nat.lt_of_lt_of_le hk h1.size) hne).trans (h1.block k hk hne)⟩

theorem VecSt.call {w W W' : World} {g : Nat} {r r' : Rd} {a0 a1 a2 a3 : Int} (st : VecSt w W g r a0 a1 a2 a3) (hr : RdAt W' g r') (hg : W.grownBy W' (some g)) : VecSt w W' g r' a0 a1 a2 a3 := by
  have hlt := st.lt
  have h2 := lt_blk st.t2
  have h3 := lt_blk st.t3
  exact ⟨hr, by rw [hg.block _ h2 (by simp; omega)]; exact st.t2, by rw [hg.block _ h3 (by simp; omega)]; exact st.t3, grown_trans st.gr hg, hlt⟩
theorem VecSt.set {w W : World} {g : Nat} {r : Rd} {a0 a1 a2 a3 b0 b1 b2 b3 : Int} {i : Nat} {u : Value} (st : VecSt w W g r a0 a1 a2 a3)
    (hu : (#[.int .i64 a0, .int .i64 a1, .int .i64 a2, .int .i64 a3] : Array Value).setIfInBounds i u = #[.int .i64 b0, .int .i64 b1, .int .i64 b2, .int .i64 b3]) :
    VecSt w (W.setCell ⟨w.heap.size + 1, i, none⟩ u) g r b0 b1 b2 b3 := by
  have hlt := st.lt
  refine ⟨st.rd.above fun k hk => Below.heap_setCell W _ u k (by simp only; omega), by rw [Below.heap_setCell W _ u _ (by simp only; omega)]; exact st.t2, ?_, ?_, hlt⟩
  · rw [blk_set st.t3 i u, hu]
  · exact ⟨st.gr.os, st.gr.tape, st.gr.output, by simpa [World.setCell] using st.gr.size, fun k hk hne => by rw [Below.heap_setCell W _ u _ (by simp only; omega)]; exact st.gr.block k hk hne⟩

theorem VecSt.res {w W : World} {g i : Nat} {r : Rd} {u : Value} {cs : Array Value} (hr : RdAt W g r) (hg : w.grownBy W (some g)) (hlt : g < w.heap.size) (h2 : W.heap[w.heap.size]? = some (.cells cs 37)) :
    RdAt (W.setCell ⟨w.heap.size, i, none⟩ u) g r ∧ w.grownBy (W.setCell ⟨w.heap.size, i, none⟩ u) (some g) ∧ (W.setCell ⟨w.heap.size, i, none⟩ u).heap[w.heap.size]? = some (.cells (cs.setIfInBounds i u) 37) := by
  refine ⟨hr.above fun k hk => Below.heap_setCell W _ u k (by simp only; omega), ?_, blk_set h2 i u⟩
  exact ⟨hg.os, hg.tape, hg.output, by simpa [World.setCell] using hg.size, fun k hk hne => by rw [Below.heap_setCell W _ u _ (by simp only; omega)]; exact hg.block k hk hne⟩
theorem VecSt.fin {w W : World} {g : Nat} {r : Rd} {a0 a1 a2 a3 : Int} {u0 u1 u2 u3 : Value} (st : VecSt w W g r a0 a1 a2 a3) :
    RdAt ((((W.setCell ⟨w.heap.size, 0, none⟩ u0).setCell ⟨w.heap.size, 1, none⟩ u1).setCell ⟨w.heap.size, 2, none⟩ u2).setCell ⟨w.heap.size, 3, none⟩ u3) g r ∧
    w.grownBy ((((W.setCell ⟨w.heap.size, 0, none⟩ u0).setCell ⟨w.heap.size, 1, none⟩ u1).setCell ⟨w.heap.size, 2, none⟩ u2).setCell ⟨w.heap.size, 3, none⟩ u3) (some g) ∧
    ((((W.setCell ⟨w.heap.size, 0, none⟩ u0).setCell ⟨w.heap.size, 1, none⟩ u1).setCell ⟨w.heap.size, 2, none⟩ u2).setCell ⟨w.heap.size, 3, none⟩ u3).heap[w.heap.size]? = some (.cells #[u0, u1, u2, u3] 37) := by
  have h0 := VecSt.res (i := 0) (u := u0) st.rd st.gr st.lt st.t2
  have h1 := VecSt.res (i := 1) (u := u1) h0.1 h0.2.1 st.lt h0.2.2
  have h2 := VecSt.res (i := 2) (u := u2) h1.1 h1.2.1 st.lt h1.2.2
  exact VecSt.res (i := 3) (u := u3) h2.1 h2.2.1 st.lt h2.2.2

theorem blk4 {W : World} {b : Nat} {x0 x1 x2 x3 : Value} {t : TypeId} (h : W.heap[b]? = some (.cells #[x0, x1, x2, x3] t)) :
    W.cell? ⟨b, 0, none⟩ = some x0 ∧ W.cell? ⟨b, 1, none⟩ = some x1 ∧ W.cell? ⟨b, 2, none⟩ = some x2 ∧ W.cell? ⟨b, 3, none⟩ = some x3 ∧
    W.frozen? ⟨b, 0, none⟩ = false ∧ W.frozen? ⟨b, 1, none⟩ = false ∧ W.frozen? ⟨b, 2, none⟩ = false ∧ W.frozen? ⟨b, 3, none⟩ = false :=
  ⟨cell_blk h 0, cell_blk h 1, cell_blk h 2, cell_blk h 3, frozen_blk h 0, frozen_blk h 1, frozen_blk h 2, frozen_blk h 3⟩

set_option maxRecDepth 20000 in
set_option maxHeartbeats 2000000 in
theorem vec_any (g : Nat) (r : Rd) (w : World) (hr : RdAt w g r) (hl : r.l.length ≤ 1000000) :
    Calls Tryd.prog 65 #[.pointer (some ⟨g, 0, none⟩)] w fun e w' => e = .returned (.agg #[.int .i64 (numR4 r).1.1, .int .i64 (numR4 r).1.2.1, .int .i64 (numR4 r).1.2.2.1, .int .i64 (numR4 r).1.2.2.2])
      ∧ RdAt w' g (numR4 r).2 ∧ w.grownBy w' (some g) := by
  have hg := hr.lt
  have st0 : ∀ o o2 : Obj, o = .cells #[.int .i64 0, .int .i64 0, .int .i64 0, .int .i64 0] 37 → o2 = .cells #[.int .i64 0, .int .i64 0, .int .i64 0, .int .i64 0] 37 → VecSt w ((w.alloc o).alloc o2) g r 0 0 0 0 := by
    rintro o o2 rfl rfl
    refine ⟨hr.above fun k hk => ?_, ?_, ?_, grown_trans (World.grownBy_alloc w _ _) (World.grownBy_alloc _ _ _), hg⟩
    · rw [heap_alloc, if_neg (by simp; omega), heap_alloc, if_neg (by omega)]
    · rw [heap_alloc, if_neg (by simp), heap_alloc, if_pos rfl]
    · rw [heap_alloc, if_pos (by simp)]
  have hl1 := Nat.le_trans (numR_len r) hl
  have hl2 := Nat.le_trans (numR_len (numR r).2) hl1
  have hl3 := Nat.le_trans (numR_len (numR (numR r).2).2) hl2
  have ST0 := hidp st0
  clear st0 hr
  unfold numR4
  simp only
  generalize hr1 : (numR r).2 = r1 at *
  generalize hr2 : (numR r1).2 = r2 at *
  generalize hr3 : (numR r2).2 = r3 at *
  generalize hr4 : (numR r3).2 = r4 at *
  generalize hn1 : (numR r).1 = n1 at *
  generalize hn2 : (numR r1).1 = n2 at *
  generalize hn3 : (numR r2).1 = n3 at *
  generalize hn4 : (numR r3).1 = n4 at *
  have N1 := hidp fun W h => (hr1 ▸ hn1 ▸ num_any g r W h hl)
  have N2 := hidp fun W h => (hr2 ▸ hn2 ▸ num_any g r1 W h hl1)
  have N3 := hidp fun W h => (hr3 ▸ hn3 ▸ num_any g r2 W h hl2)
  have N4 := hidp fun W h => (hr4 ▸ hn4 ▸ num_any g r3 W h hl3)
  clear hr1 hr2 hr3 hr4 hn1 hn2 hn3 hn4 hl hl1 hl2 hl3
  go_enter Tryd.func65, Tryd.ntmps65
  go_wp2
  have st := hidp (ST0.out _ _ rfl rfl)
  clear ST0
  refine wp_loop_rounds 5 ?_
  rw [rounds_succ]
  go_wp2_with fail
  go_at_call 64
  refine (N1.out _ st.out.rd).mono ?_
  rintro e w1 ⟨rfl, hr1, hg1⟩
  have sta := st.out.call hr1 hg1
  have c1 := cell_blk sta.t3 0
  have c2 := frozen_blk sta.t3 0
  simp at c1
  have ST := hidp (sta.set (i := 0) (u := .int .i64 n1) rfl)
  clear sta hr1 hg1 st N1
  go_wp2
  have st := ST
  clear ST c1 c2
  rw [rounds_succ]
  go_wp2_with fail
  go_at_call 64
  refine (N2.out _ st.out.rd).mono ?_
  rintro e w2 ⟨rfl, hr2, hg2⟩
  have sta := st.out.call hr2 hg2
  have c1 := cell_blk sta.t3 1
  have c2 := frozen_blk sta.t3 1
  simp at c1
  have ST := hidp (sta.set (i := 1) (u := .int .i64 n2) rfl)
  clear sta hr2 hg2 st N2
  go_wp2
  have st := ST
  clear ST c1 c2
  rw [rounds_succ]
  go_wp2_with fail
  go_at_call 64
  refine (N3.out _ st.out.rd).mono ?_
  rintro e w3 ⟨rfl, hr3, hg3⟩
  have sta := st.out.call hr3 hg3
  have c1 := cell_blk sta.t3 2
  have c2 := frozen_blk sta.t3 2
  simp at c1
  have ST := hidp (sta.set (i := 2) (u := .int .i64 n3) rfl)
  clear sta hr3 hg3 st N3
  go_wp2
  have st := ST
  clear ST c1 c2
  rw [rounds_succ]
  go_wp2_with fail
  go_at_call 64
  refine (N4.out _ st.out.rd).mono ?_
  rintro e w4 ⟨rfl, hr4, hg4⟩
  have sta := st.out.call hr4 hg4
  have c1 := cell_blk sta.t3 3
  have c2 := frozen_blk sta.t3 3
  simp at c1
  have ST := hidp (sta.set (i := 3) (u := .int .i64 n4) rfl)
  clear sta hr4 hg4 st N4
  go_wp2
  have st := ST
  clear ST c1 c2
  rw [rounds_succ]
  have h2 := blk4 st.out.t2
  have h3 := blk4 st.out.t3
  go_split_ands
  go_wp2
  have hf := st.out.fin (u0 := .int .i64 n1) (u1 := .int .i64 n2) (u2 := .int .i64 n3) (u3 := .int .i64 n4)
  obtain ⟨hf1, hf2, hf3⟩ := hf
  have hf4 := blk4 hf3
  go_split_ands
  exact bodyPost_ret (v := .agg #[.int .i64 n1, .int .i64 n2, .int .i64 n3, .int .i64 n4]) (by simp only [results, Tryd.results65]; simp [go_sem, *]) rfl ⟨rfl, hf1, hf2⟩
end Go.Proofs.YtbopfhbeegkkaaaDoor

namespace Go.Proofs.YtbopfhbeegkkaaaDoor
open Go.RowKit

theorem conv_bs {w : World} {g n c : Nat} {A : Option Addr} {l : List UInt8} (h : BsVal w g (.slice A l.length c) l) (hn : n ≤ l.length) :
    (convert 44 9 (.slice A n c)).run Tryd.prog w = .ok (.string ⟨(l.take n).toArray⟩) w := by
  obtain ⟨A', c', e, h1, h2, h3⟩ := h
  cases e
  rcases Nat.eq_zero_or_pos n with rfl | hp
  · rw [run_convert_bytes_string w 44 9 5 _ 0 c Tryd.underlying44 Tryd.underlying5 Tryd.underlying9]
    cases A <;> simp [Conv.bytesToString, loadCells]
    all_goals rfl
  · obtain ⟨B, o, rfl, _, _⟩ := h3 0 l[0] (List.getElem?_eq_getElem (by omega))
    rw [run_convert_bytes_arg w 44 5 Tryd.underlying44 Tryd.underlying5 B o n c ((l.take n).map fun b => (b.toNat : Int)) (by simp; omega) ?_ 9 Tryd.underlying9]
    · congr 1
      have e : ∀ x : List UInt8, strOfNums (x.map fun b => (b.toNat : Int)) = ⟨x.toArray⟩ := by
        intro x
        have e2 : ∀ b : UInt8, UInt8.ofNat ((b.toNat : Int)).toNat = b := fun b => by simp
        simp only [strOfNums, List.map_map]
        rw [show ((fun n : Int => UInt8.ofNat n.toNat) ∘ fun b : UInt8 => (b.toNat : Int)) = id from funext e2, List.map_id]
      rw [e]
    · intro i hi
      obtain ⟨B', o', e, _, hc⟩ := h3 i l[i] (List.getElem?_eq_getElem (by omega))
      cases e
      rw [hc]
      have hi' : i < l.length := by omega
      simp [List.getD, List.getElem?_map, List.getElem?_take, hi, hi']

theorem bs_full {w : World} {g n : Nat} {A : Option Addr} {l : List UInt8} (hn : n ≤ l.length) (h : BsVal w g (.slice A l.length n) l) : BsVal w g (.slice A (l.length - n) 0) (l.drop n) := by
  obtain ⟨A', c', e, h1, h2, h3⟩ := h
  cases e
  have e : l.length = n := by omega
  refine ⟨A, 0, by rw [List.length_drop], by rw [List.length_drop]; omega, Nat.zero_le _, fun i b hi => ?_⟩
  rw [List.drop_eq_nil_of_le (by omega)] at hi
  simp at hi
theorem bs_rest {w : World} {g n c : Nat} {A : Option Addr} {l : List UInt8} (hn : n ≤ l.length) (h : BsVal w g (.slice A l.length c) l) : BsVal w g (.slice (A.map fun x => x.add n) (l.length - n) (c - n)) (l.drop n) := by
  obtain ⟨A', c', e, h1, h2, h3⟩ := h
  cases e
  refine ⟨_, _, by rw [List.length_drop], by rw [List.length_drop]; omega, by omega, fun i b hi => ?_⟩
  rw [List.getElem?_drop] at hi
  obtain ⟨B, o, rfl, hB, hc⟩ := h3 _ _ hi
  exact ⟨B, o + n, by simp [Addr.add], hB, by rw [Nat.add_assoc]; exact hc⟩

set_option maxRecDepth 20000 in
set_option maxHeartbeats 2000000 in
theorem text_any (g : Nat) (r : Rd) (w : World) (hr : RdAt w g r) (hl : r.l.length ≤ 1000000) :
    Calls Tryd.prog 66 #[.pointer (some ⟨g, 0, none⟩)] w fun e w' => e = .returned (.string (textR r).1) ∧ RdAt w' g (textR r).2 ∧ w.grownBy w' (some g) := by
  have hg := hr.lt
  have hl1 := Nat.le_trans (numR_len r) hl
  have hnum := num_any g r w hr hl
  unfold textR
  generalize hr1 : (numR r).2 = r1 at *
  generalize hn1 : (numR r).1 = n at *
  clear hr1 hn1 hl
  have N := hidp hnum
  clear hnum hr
  obtain ⟨l, bad⟩ := r1
  simp only at *
  by_cases hn : l.length < n
  all_goals
    first | rw [if_pos hn] | rw [if_neg hn]
    go_enter Tryd.func66, Tryd.ntmps66
    go_wp2_with fail
    go_at_call 64
    refine (N.out).mono ?_
    rintro e w1 ⟨rfl, hr1, hg1⟩
    obtain ⟨v, hb, hv⟩ := hr1
    have hv' := hv
    obtain ⟨A, c, rfl, hc, hcm, hx⟩ := hv'
    simp only at *
    have b0 := cell_blk hb 0
    have b1 := cell_blk hb 1
    have f0 := frozen_blk hb 0
    have f1 := frozen_blk hb 1
    simp at b0 b1
    have HX := hidp hx
    have HV := hidp hv
    have HB := hidp hb
    have HG := hidp hg1
    clear hx hb hv N hg1
  · go_wp2
    go_ret
    refine ⟨rfl, ⟨_, blk_set HB.out 1 _, HV.out.set 1 _⟩, grown_trans HG.out (grown_set w1 g 1 _)⟩
  · have hnm : n ≤ l.length := by omega
    have hcv := conv_bs HV.out hnm
    go_wp2
    all_goals go_ret
    · have e : c = n := by first | assumption | omega
      subst e
      exact ⟨rfl, ⟨_, blk_set HB.out 0 _, (bs_full hnm HV.out).set 0 _⟩, grown_trans HG.out (grown_set w1 g 0 _)⟩
    · exact ⟨rfl, ⟨_, blk_set HB.out 0 _, (bs_rest hnm HV.out).set 0 _⟩, grown_trans HG.out (grown_set w1 g 0 _)⟩
end Go.Proofs.YtbopfhbeegkkaaaDoor

namespace Go.Proofs.YtbopfhbeegkkaaaDoor
open Go.RowKit

theorem BsVal.mono {w : World} {g g' : Nat} {v : Value} {l : List UInt8} (h : BsVal w g v l) (hg : g ≤ g') : BsVal w g' v l := by
  obtain ⟨A, c, rfl, h1, h2, h3⟩ := h
  refine ⟨A, c, rfl, h1, h2, fun i b hb => ?_⟩
  obtain ⟨B, o, hA, hB, hc⟩ := h3 i b hb
  exact ⟨B, o, hA, by omega, hc⟩
theorem rd_new {w : World} {v : Value} {l : List UInt8} {b : Bool} (h : BsVal w w.heap.size v l) : RdAt (w.alloc (.cells #[v, .bool b] 125)) w.heap.size ⟨l, b⟩ :=
  ⟨v, by rw [heap_alloc, if_pos rfl], h.above fun k hk => by rw [heap_alloc, if_neg (by omega)]⟩
theorem bs_nil (w : World) (g : Nat) : BsVal w g (.slice none 0 0) [] := ⟨none, 0, rfl, Nat.le_refl _, Nat.zero_le _, fun i b h => by simp at h⟩

set_option maxRecDepth 20000 in
set_option maxHeartbeats 1000000 in
theorem begin_any (v : Value) (l : List UInt8) (z : Int) (c : UInt8) (hz : z = (c.toNat : Int)) (w : World) (hv : BsVal w w.heap.size v l) (hl : l.length ≤ 1000000) :
    Calls Tryd.prog 63 #[v, .int .u8 z] w fun e w' => e = .returned (.pointer (some ⟨w.heap.size, 0, none⟩)) ∧ RdAt w' w.heap.size (beginR c l) ∧ Below w.heap.size w w' := by
  subst hz
  have HV := hidp hv
  obtain ⟨A, k, rfl, hc, hcm, hx⟩ := hv
  unfold beginR
  cases l with
  | nil =>
    clear hx
    go_enter Tryd.func63, Tryd.ntmps63
    go_wp2
    go_ret
    exact ⟨rfl, rd_new (bs_nil _ _), (by repeat (first | exact Below.refl _ _ | refine blw_alloc ?_ | refine blw_plus ?_ | refine Below.drew ?_))⟩
  | cons x l =>
    obtain ⟨B, o, rfl, hB, hcell⟩ := hx 0 x (by simp)
    simp only [List.length_cons, Nat.add_zero] at *
    by_cases he : x = c
    · have HB := hidp (bs_rest (n := 1) (l := x :: l) (by simp) HV.out)
      have HB2 := hidp fun e : k = 1 => bs_full (n := 1) (l := x :: l) (by simp) (e ▸ HV.out)
      clear hx
      rw [if_pos he]
      subst he
      go_enter Tryd.func63, Tryd.ntmps63
      go_wp2
      all_goals go_ret
      all_goals refine ⟨rfl, rd_new ?_, (by repeat (first | exact Below.refl _ _ | refine blw_alloc ?_ | refine blw_plus ?_ | refine Below.drew ?_))⟩
      · exact HB2.out (by first | assumption | omega)
      · exact HB.out
    · rw [if_neg he]
      have hne : ((x.toNat : Int) != (c.toNat : Int)) = true := by
        rw [bne_iff_ne]; intro e; exact he (UInt8.toNat_inj.1 (by omega))
      go_enter Tryd.func63, Tryd.ntmps63
      go_wp2
      go_ret
      exact ⟨rfl, rd_new (bs_nil _ _), (by repeat (first | exact Below.refl _ _ | refine blw_alloc ?_ | refine blw_plus ?_ | refine Below.drew ?_))⟩
end Go.Proofs.YtbopfhbeegkkaaaDoor

namespace Go.Proofs.YtbopfhbeegkkaaaDoor
open Go.RowKit

theorem numR4_len (r : Rd) : (numR4 r).2.l.length ≤ r.l.length := by
  unfold numR4
  exact Nat.le_trans (numR_len _) (Nat.le_trans (numR_len _) (Nat.le_trans (numR_len _) (numR_len _)))
theorem beginR_len (c : UInt8) (l : List UInt8) : (beginR c l).l.length ≤ l.length := by
  unfold beginR
  cases l with
  | nil => simp
  | cons x l =>
    simp only
    split <;> simp
theorem below_grown {n g : Nat} {w w1 w2 : World} (h : Below n w w1) (hg : w1.grownBy w2 (some g)) (hn : n ≤ g) (hs : n ≤ w.heap.size) : Below n w w2 :=
  Below.grown h hg (Nat.le_trans hs h.size) (fun k e => by cases e; exact hn)

/-- what DecodeAsk hands back -/
def askV : Option (Nat × (Nat × Nat × Nat × Nat)) → Value
  | none => .tuple #[.int .i64 0, .agg #[.int .i64 0, .int .i64 0, .int .i64 0, .int .i64 0], .iface 24 (.int .i64 3)]
  | some (s, a, b, c, d) => .tuple #[.int .i64 s, .agg #[.int .i64 a, .int .i64 b, .int .i64 c, .int .i64 d], .nilIface]

set_option maxRecDepth 20000 in
set_option maxHeartbeats 2000000 in
theorem decAsk_any (v : Value) (l : List UInt8) (w : World) (hv : BsVal w w.heap.size v l) (hl : l.length ≤ 1000000) :
    Calls Tryd.prog 29 #[v] w fun e w' => e = .returned (askV (decAsk l)) ∧ Below w.heap.size w w' := by
  have hbeg := fun o => begin_any v l 97 97 rfl (w.alloc o) ((hv.above fun k hk => by rw [heap_alloc, if_neg (by omega)]).mono (by simp)) hl
  simp only [show ∀ o, (w.alloc o).heap.size = w.heap.size + 1 from fun o => by simp] at hbeg
  have hlen0 := Nat.le_trans (beginR_len 97 l) hl
  have hlen1 := Nat.le_trans (numR_len (beginR 97 l)) hlen0
  have hD : decAsk l = if (numR4 (numR (beginR 97 l)).2).2.bad || !(numR4 (numR (beginR 97 l)).2).2.l.isEmpty || decide (4 ≤ (numR (beginR 97 l)).1) then none else some ((numR (beginR 97 l)).1, (numR4 (numR (beginR 97 l)).2).1) := rfl
  rw [hD]
  clear hD hv hl
  generalize beginR 97 l = r0 at *
  have hnum := fun W g h => num_any g r0 W h hlen0
  generalize hn1 : (numR r0).1 = n at *
  generalize hr1 : (numR r0).2 = r1 at *
  have hvec := fun W g h => vec_any g r1 W h hlen1
  clear hr1 hn1
  generalize (numR4 r1).2 = r2 at *
  generalize (numR4 r1).1 = q at *
  obtain ⟨a, b, c, d⟩ := q
  obtain ⟨l2, bad2⟩ := r2
  simp only at *
  have HB := hidp hbeg
  have HN := hidp hnum
  have HV := hidp hvec
  clear hbeg hnum hvec hlen0 hlen1
  rcases Bool.eq_false_or_eq_true bad2 with rfl | rfl
  · rw [Bool.true_or, Bool.true_or, if_pos rfl]
    go_enter Tryd.func29, Tryd.ntmps29
    go_wp2_with fail
    go_at_call 63
    refine (HB.out _).mono ?_
    rintro e w1 ⟨rfl, hr1, hb1⟩
    go_wp2_with fail
    go_at_call 64
    refine (HN.out _ _ hr1).mono ?_
    rintro e w2 ⟨rfl, hr2, hg2⟩
    go_wp2_with fail
    go_at_call 65
    refine (HV.out _ _ hr2).mono ?_
    rintro e w3 ⟨rfl, hr3, hg3⟩
    have hb3 := below_grown (below_grown hb1 hg2 (Nat.le_refl _) (by simp)) hg3 (Nat.le_refl _) (by simp)
    have hz := hb3.block w.heap.size (by omega)
    rw [heap_alloc, if_pos rfl] at hz
    obtain ⟨v3, hb, A, k, rfl, hc, hcm, hx⟩ := hr3
    simp only at *
    have c0 := cell_blk hb 0
    have c1 := cell_blk hb 1
    simp at c0 c1
    have hz4 := blk4 hz
    have hlt := lt_blk hb
    have hlt0 : w.heap.size < w3.heap.size := by omega
    go_split_ands
    have HB3 : Hid (Below w.heap.size w w3) := hidp (Below.trans (blw_alloc (Below.refl _ _)) (hb3.mono (by omega)))
    clear hx hr1 hr2 hg2 hg3 HB HN HV hb1 hb3 hb hz
    go_wp2
    all_goals
      haveI : SzGe w.heap.size w3 := ⟨by omega⟩
      refine bodyPost_ret (v := askV none) (by simp only [results, Tryd.results29]; simp [go_sem, askV, *]) rfl ⟨rfl, ?_⟩
      (repeat (first | exact HB3.out | refine blw_alloc ?_ | refine Below.drew ?_ | refine Below.setCell ?_ (by simp only; omega) _))
  rcases l2 with _ | ⟨y, l2⟩
  rotate_left
  · rw [List.isEmpty_cons, Bool.not_false, Bool.or_true, Bool.true_or, if_pos rfl]
    go_enter Tryd.func29, Tryd.ntmps29
    go_wp2_with fail
    go_at_call 63
    refine (HB.out _).mono ?_
    rintro e w1 ⟨rfl, hr1, hb1⟩
    go_wp2_with fail
    go_at_call 64
    refine (HN.out _ _ hr1).mono ?_
    rintro e w2 ⟨rfl, hr2, hg2⟩
    go_wp2_with fail
    go_at_call 65
    refine (HV.out _ _ hr2).mono ?_
    rintro e w3 ⟨rfl, hr3, hg3⟩
    have hb3 := below_grown (below_grown hb1 hg2 (Nat.le_refl _) (by simp)) hg3 (Nat.le_refl _) (by simp)
    have hz := hb3.block w.heap.size (by omega)
    rw [heap_alloc, if_pos rfl] at hz
    obtain ⟨v3, hb, A, k, rfl, hc, hcm, hx⟩ := hr3
    simp only at *
    have c0 := cell_blk hb 0
    have c1 := cell_blk hb 1
    simp at c0 c1
    have hz4 := blk4 hz
    have hlt := lt_blk hb
    have hlt0 : w.heap.size < w3.heap.size := by omega
    go_split_ands
    have HB3 : Hid (Below w.heap.size w w3) := hidp (Below.trans (blw_alloc (Below.refl _ _)) (hb3.mono (by omega)))
    clear hx hr1 hr2 hg2 hg3 HB HN HV hb1 hb3 hb hz
    go_wp2
    all_goals
      haveI : SzGe w.heap.size w3 := ⟨by omega⟩
      refine bodyPost_ret (v := askV none) (by simp only [results, Tryd.results29]; simp [go_sem, askV, *]) rfl ⟨rfl, ?_⟩
      (repeat (first | exact HB3.out | refine blw_alloc ?_ | refine Below.drew ?_ | refine Below.setCell ?_ (by simp only; omega) _))
  by_cases h4 : 4 ≤ n
  · rw [decide_eq_true h4, Bool.or_true, if_pos rfl]
    go_enter Tryd.func29, Tryd.ntmps29
    go_wp2_with fail
    go_at_call 63
    refine (HB.out _).mono ?_
    rintro e w1 ⟨rfl, hr1, hb1⟩
    go_wp2_with fail
    go_at_call 64
    refine (HN.out _ _ hr1).mono ?_
    rintro e w2 ⟨rfl, hr2, hg2⟩
    go_wp2_with fail
    go_at_call 65
    refine (HV.out _ _ hr2).mono ?_
    rintro e w3 ⟨rfl, hr3, hg3⟩
    have hb3 := below_grown (below_grown hb1 hg2 (Nat.le_refl _) (by simp)) hg3 (Nat.le_refl _) (by simp)
    have hz := hb3.block w.heap.size (by omega)
    rw [heap_alloc, if_pos rfl] at hz
    obtain ⟨v3, hb, A, k, rfl, hc, hcm, hx⟩ := hr3
    simp only at *
    have c0 := cell_blk hb 0
    have c1 := cell_blk hb 1
    simp at c0 c1
    have hz4 := blk4 hz
    have hlt := lt_blk hb
    have hlt0 : w.heap.size < w3.heap.size := by omega
    go_split_ands
    have HB3 : Hid (Below w.heap.size w w3) := hidp (Below.trans (blw_alloc (Below.refl _ _)) (hb3.mono (by omega)))
    clear hx hr1 hr2 hg2 hg3 HB HN HV hb1 hb3 hb hz
    go_wp2
    all_goals
      haveI : SzGe w.heap.size w3 := ⟨by omega⟩
      refine bodyPost_ret (v := askV none) (by simp only [results, Tryd.results29]; simp [go_sem, askV, *]) rfl ⟨rfl, ?_⟩
      (repeat (first | exact HB3.out | refine blw_alloc ?_ | refine Below.drew ?_ | refine Below.setCell ?_ (by simp only; omega) _))
  · rw [decide_eq_false h4, Bool.or_false, List.isEmpty_nil, Bool.not_true, Bool.or_false, if_neg Bool.false_ne_true]
    go_enter Tryd.func29, Tryd.ntmps29
    go_wp2_with fail
    go_at_call 63
    refine (HB.out _).mono ?_
    rintro e w1 ⟨rfl, hr1, hb1⟩
    go_wp2_with fail
    go_at_call 64
    refine (HN.out _ _ hr1).mono ?_
    rintro e w2 ⟨rfl, hr2, hg2⟩
    go_wp2_with fail
    go_at_call 65
    refine (HV.out _ _ hr2).mono ?_
    rintro e w3 ⟨rfl, hr3, hg3⟩
    have hb3 := below_grown (below_grown hb1 hg2 (Nat.le_refl _) (by simp)) hg3 (Nat.le_refl _) (by simp)
    have hz := hb3.block w.heap.size (by omega)
    rw [heap_alloc, if_pos rfl] at hz
    obtain ⟨v3, hb, A, k, rfl, hc, hcm, hx⟩ := hr3
    simp only at *
    have c0 := cell_blk hb 0
    have c1 := cell_blk hb 1
    simp at c0 c1
    have hz4 := blk4 hz
    have hlt := lt_blk hb
    have hlt0 : w.heap.size < w3.heap.size := by omega
    go_split_ands
    have HB3 : Hid (Below w.heap.size w w3) := hidp (Below.trans (blw_alloc (Below.refl _ _)) (hb3.mono (by omega)))
    clear hx hr1 hr2 hg2 hg3 HB HN HV hb1 hb3 hb hz
    go_wp2
    go_region_held3 (fun W : World => W.cell? ⟨w3.heap.size, 0, none⟩ = some (.int .i64 a) ∧ W.cell? ⟨w3.heap.size, 1, none⟩ = some (.int .i64 b) ∧ W.cell? ⟨w3.heap.size, 2, none⟩ = some (.int .i64 c) ∧ W.cell? ⟨w3.heap.size, 3, none⟩ = some (.int .i64 d)) ((repeat' apply And.intro) <;> simp [go_sem, *]) (fail)
    all_goals go_wp2
    all_goals
      haveI : SzGe w.heap.size w3 := ⟨by omega⟩
      refine bodyPost_ret (v := askV (some (n, a, b, c, d))) (by simp only [results, Tryd.results29]; simp [go_sem, askV, *]) rfl ⟨rfl, ?_⟩
      (repeat (first | exact HB3.out | refine blw_alloc ?_ | refine Below.drew ?_ | refine Below.setCell ?_ (by simp only; omega) _))
end Go.Proofs.YtbopfhbeegkkaaaDoor

namespace Go.Proofs.YtbopfhbeegkkaaaDoor
open Go.RowKit

theorem info43 : (Tryd.prog.info? 115).map (fun i => (i.zero, i.size, i.bytes)) = some (some (.agg #[.int .i64 0, .string ⟨#[]⟩, .bool false]), 3, 32) := by kernel_rfl

def wrCells (l : List WrP) : List Value := l.flatMap fun x => [.int .i64 x.key, .string x.data, .bool x.gone]
theorem wrCells_len (l : List WrP) : (wrCells l).length = l.length * 3 := by
  induction l with
  | nil => rfl
  | cons x l ih => simp only [wrCells, List.flatMap_cons, List.length_append, List.length_cons, List.length_nil] at ih ⊢; omega
theorem wrCells_append (a b : List WrP) : wrCells (a ++ b) = wrCells a ++ wrCells b := by simp [wrCells]
theorem wrCells_at : ∀ (l : List WrP) (i : Nat) (x : WrP), l[i]? = some x → (wrCells l)[i * 3]? = some (.int .i64 x.key) ∧ (wrCells l)[i * 3 + 1]? = some (.string x.data) ∧ (wrCells l)[i * 3 + 2]? = some (.bool x.gone)
  | [], i, x, h => by simp at h
  | y :: l, 0, x, h => by simp at h; subst h; simp [wrCells]
  | y :: l, i + 1, x, h => by
    have := wrCells_at l i x (by simpa using h)
    have e : ∀ j, (wrCells (y :: l))[j + 3]? = (wrCells l)[j]? := fun j => by simp [wrCells, List.getElem?_append_right]
    rw [show (i + 1) * 3 = i * 3 + 3 by omega, show i * 3 + 3 + 1 = (i * 3 + 1) + 3 by omega, show i * 3 + 3 + 2 = (i * 3 + 2) + 3 by omega, e, e, e]
    exact this
theorem own_ws {w : World} {B c : Nat} {A : Option Addr} {ws : List WrP} (h : w.ownsRow B 115 3 (.slice A ws.length c) ws.length (wrCells ws)) : WsAt w A ws := by
  intro i x hx
  obtain ⟨hl, hn | ⟨g, cap, cur, hv, hb, hg, rest⟩⟩ := id h
  · have : ws = [] := List.eq_nil_of_length_eq_zero hn.2
    subst this; simp at hx
  · simp only [Value.slice.injEq] at hv
    obtain ⟨rfl, _, rfl⟩ := hv
    have hc := h.cells (g := g) rfl
    obtain ⟨h0, h1, h2⟩ := wrCells_at ws i x hx
    have e : ∀ j : Nat, (⟨g, 0, none⟩ : Addr).add j = ⟨g, 0 + j, none⟩ := fun j => by unfold Addr.add; split <;> simp_all
    have k0 := hc _ _ h0
    have k1 := hc _ _ h1
    have k2 := hc _ _ h2
    rw [e] at k0 k1 k2
    exact ⟨g, 0, rfl, (Array.getElem?_eq_some_iff.1 hg).1, k0, k1, k2⟩

/-- while a transaction is read -/
structure DtSt (w W : World) (g tb : Nat) (x0 x1 x2 x3 x4 x5 x6 x7 : Int) (A : Option Addr) (c : Nat) (ws : List WrP) (r : Rd) : Prop where
  rd : RdAt W g r
  z : W.heap[w.heap.size]? = some (.cells #[.int .i64 0, .int .i64 0, .int .i64 0, .int .i64 0, .int .i64 0, .int .i64 0, .int .i64 0, .int .i64 0, .slice none 0 0] 40)
  tx : W.heap[tb]? = some (.cells #[.int .i64 x0, .int .i64 x1, .int .i64 x2, .int .i64 x3, .int .i64 x4, .int .i64 x5, .int .i64 x6, .int .i64 x7, .slice A ws.length c] 40)
  own : W.ownsRow (tb + 1) 115 3 (.slice A ws.length c) ws.length (wrCells ws)
  bl : Below w.heap.size w W
  lg : w.heap.size < g
  lt : g < tb

theorem own_ge {w : World} {B e s n : Nat} {v : Value} {xs : List Value} (h : w.ownsRow B e s v n xs) {k : Nat} (hk : v.ownBlock = some k) : B ≤ k ∧ k < w.heap.size := by
  obtain ⟨_, hn | ⟨g, cap, cur, hv, hb, hg, _⟩⟩ := h
  · rw [hn.1] at hk; simp [Value.ownBlock] at hk
  · subst hv
    have : g = k := by simpa [Value.ownBlock] using hk
    subst this
    exact ⟨hb, (Array.getElem?_eq_some_iff.1 hg).1⟩

theorem DtSt.keep {w W W' : World} {g tb p : Nat} {x0 x1 x2 x3 x4 x5 x6 x7 : Int} {A : Option Addr} {c : Nat} {ws : List WrP} {r r' : Rd} (st : DtSt w W g tb x0 x1 x2 x3 x4 x5 x6 x7 A c ws r)
    (hg : W.grownBy W' (some p)) (hp : w.heap.size < p) (hpt : p ≠ tb) (hown : (Value.slice A ws.length c).ownBlock ≠ some p) (hr : RdAt W' g r') : DtSt w W' g tb x0 x1 x2 x3 x4 x5 x6 x7 A c ws r' := by
  have h1 := lt_blk st.z
  have h2 := lt_blk st.tx
  exact ⟨hr, by rw [hg.block _ h1 (by simp; omega)]; exact st.z, by rw [hg.block _ h2 (by simp; omega)]; exact st.tx, st.own.kept hg (.inr hown), below_grown st.bl hg (by omega) (Nat.le_refl _), st.lg, st.lt⟩
theorem DtSt.call {w W W' : World} {g tb : Nat} {x0 x1 x2 x3 x4 x5 x6 x7 : Int} {A : Option Addr} {c : Nat} {ws : List WrP} {r r' : Rd} (st : DtSt w W g tb x0 x1 x2 x3 x4 x5 x6 x7 A c ws r)
    (hr : RdAt W' g r') (hg : W.grownBy W' (some g)) : DtSt w W' g tb x0 x1 x2 x3 x4 x5 x6 x7 A c ws r' :=
  st.keep hg st.lg (Nat.ne_of_lt st.lt) (fun e => by have := (own_ge st.own e).1; have := st.lt; omega) hr
theorem rd_grown {W W' : World} {g p : Nat} {r : Rd} (h : RdAt W g r) (hg : W.grownBy W' (some p)) (hp : g < p) : RdAt W' g r :=
  h.above fun k hk => hg.block k (Nat.lt_of_le_of_lt hk h.lt) (by simp; omega)

/-- in a round: the write that is read lies in block p -/
structure DtR (w W : World) (g tb : Nat) (x0 x1 x2 x3 x4 x5 x6 x7 : Int) (A : Option Addr) (c : Nat) (ws : List WrP) (r : Rd) (p : Nat) (k : Int) (dt : ByteArray) (gn : Bool) : Prop where
  st : DtSt w W g tb x0 x1 x2 x3 x4 x5 x6 x7 A c ws r
  t7 : W.heap[p]? = some (.cells #[.int .i64 k, .string dt, .bool gn] 115)
  hp : tb < p
  ho : (Value.slice A ws.length c).ownBlock ≠ some p

theorem DtSt.round {w W : World} {g tb : Nat} {x0 x1 x2 x3 x4 x5 x6 x7 : Int} {A : Option Addr} {c : Nat} {ws : List WrP} {r : Rd} {k : Int} {dt : ByteArray} {gn : Bool} {o : Obj} (st : DtSt w W g tb x0 x1 x2 x3 x4 x5 x6 x7 A c ws r)
    (ho : o = .cells #[.int .i64 k, .string dt, .bool gn] 115) : DtR w (W.alloc o) g tb x0 x1 x2 x3 x4 x5 x6 x7 A c ws r W.heap.size k dt gn := by
  subst ho
  have h2 := lt_blk st.tx
  have hg := World.grownBy_alloc W (.cells #[.int .i64 k, .string dt, .bool gn] 115) (some W.heap.size)
  have h3 : (Value.slice A ws.length c).ownBlock ≠ some W.heap.size := fun e => by have := (own_ge st.own e).2; omega
  have h4 := st.lt
  have h5 := st.lg
  exact ⟨st.keep hg (by omega) (by omega) h3 (rd_grown st.rd hg (by omega)), by rw [heap_alloc, if_pos rfl], h2, h3⟩
theorem DtR.call {w W W' : World} {g tb : Nat} {x0 x1 x2 x3 x4 x5 x6 x7 : Int} {A : Option Addr} {c : Nat} {ws : List WrP} {r r' : Rd} {p : Nat} {k : Int} {dt : ByteArray} {gn : Bool} (st : DtR w W g tb x0 x1 x2 x3 x4 x5 x6 x7 A c ws r p k dt gn)
    (hr : RdAt W' g r') (hg : W.grownBy W' (some g)) : DtR w W' g tb x0 x1 x2 x3 x4 x5 x6 x7 A c ws r' p k dt gn := by
  have h1 := lt_blk st.t7
  have h2 := st.hp
  have h3 := st.st.lt
  exact ⟨st.st.call hr hg, by rw [hg.block _ h1 (by simp; omega)]; exact st.t7, st.hp, st.ho⟩
theorem DtR.set {w W : World} {g tb : Nat} {x0 x1 x2 x3 x4 x5 x6 x7 : Int} {A : Option Addr} {c : Nat} {ws : List WrP} {r : Rd} {p : Nat} {k k' : Int} {dt dt' : ByteArray} {gn gn' : Bool} {i : Nat} {u : Value} (st : DtR w W g tb x0 x1 x2 x3 x4 x5 x6 x7 A c ws r p k dt gn)
    (hu : (#[.int .i64 k, .string dt, .bool gn] : Array Value).setIfInBounds i u = #[.int .i64 k', .string dt', .bool gn']) : DtR w (W.setCell ⟨p, i, none⟩ u) g tb x0 x1 x2 x3 x4 x5 x6 x7 A c ws r p k' dt' gn' := by
  have h2 := st.hp
  have h3 := st.st.lt
  have h4 := st.st.lg
  have hg := grown_set W p i u
  exact ⟨st.st.keep hg (by omega) (by omega) st.ho (rd_grown st.st.rd hg (by omega)), by rw [blk_set st.t7 i u, hu], h2, st.ho⟩
theorem DtR.setBad {w W : World} {g tb : Nat} {x0 x1 x2 x3 x4 x5 x6 x7 : Int} {A : Option Addr} {c : Nat} {ws : List WrP} {r : Rd} {p : Nat} {k : Int} {dt : ByteArray} {gn : Bool} (b : Bool) (st : DtR w W g tb x0 x1 x2 x3 x4 x5 x6 x7 A c ws r p k dt gn) :
    DtR w (W.setCell ⟨g, 1, none⟩ (.bool b)) g tb x0 x1 x2 x3 x4 x5 x6 x7 A c ws ⟨r.l, b⟩ p k dt gn := by
  refine st.call ?_ (grown_set W g 1 _)
  obtain ⟨v, hb, hv⟩ := st.st.rd
  exact ⟨v, by simpa using blk_set hb 1 (.bool b), hv.set 1 _⟩
theorem DtR.app {w W W1 : World} {g tb : Nat} {x0 x1 x2 x3 x4 x5 x6 x7 : Int} {A : Option Addr} {c : Nat} {ws : List WrP} {r : Rd} {p : Nat} {k : Int} {dt : ByteArray} {gn : Bool} {o : Obj} {g1 cap : Nat} (st : DtR w W g tb x0 x1 x2 x3 x4 x5 x6 x7 A c ws r p k dt gn)
    (hown : W1.ownsRow (tb + 1) 115 3 (.slice (some ⟨g1, 0, none⟩) (ws.length + 1) cap) (ws.length + 1) (wrCells ws ++ [.int .i64 k, .string dt, .bool gn])) (hg : (W.alloc o).grownBy W1 (Value.slice A ws.length c).ownBlock) :
    W1.cell? ⟨tb, 8, none⟩ = some (.slice A ws.length c) ∧ W1.frozen? ⟨tb, 8, none⟩ = false ∧
    DtSt w (W1.setCell ⟨tb, 8, none⟩ (.slice (some ⟨g1, 0, none⟩) (ws.length + 1) cap)) g tb x0 x1 x2 x3 x4 x5 x6 x7 (some ⟨g1, 0, none⟩) cap (ws ++ [⟨k, dt, gn⟩]) r := by
  have h2 := st.hp
  have h3 := st.st.lt
  have h4 := st.st.lg
  have hge : ∀ j, (Value.slice A ws.length c).ownBlock = some j → tb + 1 ≤ j := fun j e => (own_ge st.st.own e).1
  have hgr : W.grownBy W1 (Value.slice A ws.length c).ownBlock := grownBy_trans' (World.grownBy_alloc W o _) hg (.inl rfl)
  have h5 := lt_blk st.st.tx
  have h6 := lt_blk st.st.z
  have htb : W1.heap[tb]? = W.heap[tb]? := hgr.block tb h5 (fun e => by have := hge tb e.symm; omega)
  have hz : W1.heap[w.heap.size]? = W.heap[w.heap.size]? := hgr.block _ h6 (fun e => by have := hge _ e.symm; omega)
  have htx := st.st.tx
  rw [← htb] at htx
  have hgs := grown_set W1 tb 8 (.slice (some ⟨g1, 0, none⟩) (ws.length + 1) cap)
  refine ⟨cell_blk htx 8, frozen_blk htx 8, ?_, ?_, ?_, ?_, ?_, h4, h3⟩
  · refine rd_grown ?_ hgs h3
    exact st.st.rd.above fun j hj => hgr.block j (by omega) (fun e => by have := hge _ e.symm; omega)
  · rw [hgs.block _ (by have := hgr.size; omega) (by simp; omega), hz]; exact st.st.z
  · rw [blk_set htx 8 _]; simp
  · have hn : (ws ++ [(⟨k, dt, gn⟩ : WrP)]).length = ws.length + 1 := by simp
    rw [hn, wrCells_append]
    exact hown.kept hgs (.inr (by have := (own_ge hown (k := g1) rfl).1; simp [Value.ownBlock]; omega))
  · refine below_grown (g := tb) ?_ hgs (by omega) (Nat.le_refl _)
    exact Below.grown st.st.bl hgr (Nat.le_of_lt h6) (fun j e => by have := hge j e; omega)
end Go.Proofs.YtbopfhbeegkkaaaDoor

namespace Go.Proofs.YtbopfhbeegkkaaaDoor
open Go.RowKit

theorem num_to {r r' : Rd} {n : Nat} (h : numR r = (n, r')) (g : Nat) (W : World) (hr : RdAt W g r) (hl : r.l.length ≤ 1000000) :
    Calls Tryd.prog 64 #[.pointer (some ⟨g, 0, none⟩)] W fun e w' => e = .returned (.int .i64 n) ∧ RdAt w' g r' ∧ W.grownBy w' (some g) := by
  have := num_any g r W hr hl; rw [h] at this; exact this
theorem text_to {r r' : Rd} {b : ByteArray} (h : textR r = (b, r')) (g : Nat) (W : World) (hr : RdAt W g r) (hl : r.l.length ≤ 1000000) :
    Calls Tryd.prog 66 #[.pointer (some ⟨g, 0, none⟩)] W fun e w' => e = .returned (.string b) ∧ RdAt w' g r' ∧ W.grownBy w' (some g) := by
  have := text_any g r W hr hl; rw [h] at this; exact this
theorem vec_to {r r' : Rd} {a b c d : Nat} (h : numR4 r = ((a, b, c, d), r')) (g : Nat) (W : World) (hr : RdAt W g r) (hl : r.l.length ≤ 1000000) :
    Calls Tryd.prog 65 #[.pointer (some ⟨g, 0, none⟩)] W fun e w' => e = .returned (.agg #[.int .i64 a, .int .i64 b, .int .i64 c, .int .i64 d]) ∧ RdAt w' g r' ∧ W.grownBy w' (some g) := by
  have := vec_any g r W hr hl; rw [h] at this; exact this
theorem num_to_len {r r' : Rd} {n : Nat} (h : numR r = (n, r')) (hl : r.l.length ≤ 1000000) : r'.l.length ≤ 1000000 := by
  have := numR_len r; rw [h] at this; exact Nat.le_trans this hl
theorem text_to_len {r r' : Rd} {b : ByteArray} (h : textR r = (b, r')) (hl : r.l.length ≤ 1000000) : r'.l.length ≤ 1000000 := by
  have h1 := numR_len r
  unfold textR at h
  split at h <;> (cases h; simp only [List.length_drop] ; omega)
theorem vec_to_len {r r' : Rd} {q : Nat × Nat × Nat × Nat} (h : numR4 r = (q, r')) (hl : r.l.length ≤ 1000000) : r'.l.length ≤ 1000000 := by
  have := numR4_len r; rw [h] at this; exact Nat.le_trans this hl
theorem num_to_le {r r' : Rd} {n : Nat} (h : numR r = (n, r')) : n ≤ 1099511627776 := by
  unfold numR at h
  cases e : rdNum r.l with
  | none => rw [e] at h; cases h; omega
  | some x =>
    obtain ⟨k, l⟩ := x
    rw [e] at h
    cases h
    exact (rdNum_back e).2
theorem vec_to_le {r r' : Rd} {a b c d : Nat} (h : numR4 r = ((a, b, c, d), r')) : a ≤ 1099511627776 ∧ b ≤ 1099511627776 ∧ c ≤ 1099511627776 ∧ d ≤ 1099511627776 := by
  unfold numR4 at h
  simp only [Prod.mk.injEq] at h
  obtain ⟨⟨rfl, rfl, rfl, rfl⟩, _⟩ := h
  exact ⟨num_to_le rfl, num_to_le rfl, num_to_le rfl, num_to_le rfl⟩

def finTx (h d : Nat × Nat × Nat × Nat) (F : List WrP × Rd) : Option TxP :=
  if F.2.bad || !F.2.l.isEmpty || !rightTx (txOf h d F.1) then none else some (txOf h d F.1)

theorem blk9 {W : World} {b : Nat} {x0 x1 x2 x3 x4 x5 x6 x7 x8 : Value} {t : TypeId} (h : W.heap[b]? = some (.cells #[x0, x1, x2, x3, x4, x5, x6, x7, x8] t)) :
    W.cell? ⟨b, 0, none⟩ = some x0 ∧ W.cell? ⟨b, 1, none⟩ = some x1 ∧ W.cell? ⟨b, 2, none⟩ = some x2 ∧ W.cell? ⟨b, 3, none⟩ = some x3 ∧ W.cell? ⟨b, 4, none⟩ = some x4 ∧
    W.cell? ⟨b, 5, none⟩ = some x5 ∧ W.cell? ⟨b, 6, none⟩ = some x6 ∧ W.cell? ⟨b, 7, none⟩ = some x7 ∧ W.cell? ⟨b, 8, none⟩ = some x8 ∧
    W.frozen? ⟨b, 0, none⟩ = false ∧ W.frozen? ⟨b, 1, none⟩ = false ∧ W.frozen? ⟨b, 2, none⟩ = false ∧ W.frozen? ⟨b, 3, none⟩ = false ∧ W.frozen? ⟨b, 4, none⟩ = false ∧
    W.frozen? ⟨b, 5, none⟩ = false ∧ W.frozen? ⟨b, 6, none⟩ = false ∧ W.frozen? ⟨b, 7, none⟩ = false ∧ W.frozen? ⟨b, 8, none⟩ = false :=
  ⟨cell_blk h 0, cell_blk h 1, cell_blk h 2, cell_blk h 3, cell_blk h 4, cell_blk h 5, cell_blk h 6, cell_blk h 7, cell_blk h 8,
   frozen_blk h 0, frozen_blk h 1, frozen_blk h 2, frozen_blk h 3, frozen_blk h 4, frozen_blk h 5, frozen_blk h 6, frozen_blk h 7, frozen_blk h 8⟩

/-- nine cells written into one block -/
def put9 (W : World) (b : Nat) (u0 u1 u2 u3 u4 u5 u6 u7 u8 : Value) : World :=
  ((((((((W.setCell ⟨b, 0, none⟩ u0).setCell ⟨b, 1, none⟩ u1).setCell ⟨b, 2, none⟩ u2).setCell ⟨b, 3, none⟩ u3).setCell ⟨b, 4, none⟩ u4).setCell ⟨b, 5, none⟩ u5).setCell ⟨b, 6, none⟩ u6).setCell ⟨b, 7, none⟩ u7).setCell ⟨b, 8, none⟩ u8
theorem put9_blk {W : World} {b : Nat} {x0 x1 x2 x3 x4 x5 x6 x7 x8 u0 u1 u2 u3 u4 u5 u6 u7 u8 : Value} {t : TypeId} (h : W.heap[b]? = some (.cells #[x0, x1, x2, x3, x4, x5, x6, x7, x8] t)) :
    (put9 W b u0 u1 u2 u3 u4 u5 u6 u7 u8).heap[b]? = some (.cells #[u0, u1, u2, u3, u4, u5, u6, u7, u8] t) := by
  have h0 := blk_set h 0 u0
  simp only [List.setIfInBounds_toArray, List.set_cons_zero, List.set_cons_succ] at h0
  have h1 := blk_set h0 1 u1
  simp only [List.setIfInBounds_toArray, List.set_cons_zero, List.set_cons_succ] at h1
  have h2 := blk_set h1 2 u2
  simp only [List.setIfInBounds_toArray, List.set_cons_zero, List.set_cons_succ] at h2
  have h3 := blk_set h2 3 u3
  simp only [List.setIfInBounds_toArray, List.set_cons_zero, List.set_cons_succ] at h3
  have h4 := blk_set h3 4 u4
  simp only [List.setIfInBounds_toArray, List.set_cons_zero, List.set_cons_succ] at h4
  have h5 := blk_set h4 5 u5
  simp only [List.setIfInBounds_toArray, List.set_cons_zero, List.set_cons_succ] at h5
  have h6 := blk_set h5 6 u6
  simp only [List.setIfInBounds_toArray, List.set_cons_zero, List.set_cons_succ] at h6
  have h7 := blk_set h6 7 u7
  simp only [List.setIfInBounds_toArray, List.set_cons_zero, List.set_cons_succ] at h7
  have h8 := blk_set h7 8 u8
  simp only [List.setIfInBounds_toArray, List.set_cons_zero, List.set_cons_succ] at h8
  exact h8
theorem set_below {n b i : Nat} {u : Value} {w W : World} (h : Below n w W) (hn : n ≤ b) : Below n w (W.setCell ⟨b, i, none⟩ u) := Below.setCell h (by simpa using hn) _
theorem put9_below {n b : Nat} {w W : World} {u0 u1 u2 u3 u4 u5 u6 u7 u8 : Value} (h : Below n w W) (hn : n ≤ b) : Below n w (put9 W b u0 u1 u2 u3 u4 u5 u6 u7 u8) :=
  set_below (set_below (set_below (set_below (set_below (set_below (set_below (set_below (set_below h hn) hn) hn) hn) hn) hn) hn) hn) hn
theorem set_own {w : World} {B e s n b i : Nat} {v u : Value} {xs : List Value} (h : w.ownsRow B e s v n xs) (hb : v.ownBlock ≠ some b) : (w.setCell ⟨b, i, none⟩ u).ownsRow B e s v n xs :=
  h.kept (grown_set w b i u) (.inr hb)
theorem put9_own {W : World} {B e s n b : Nat} {v u0 u1 u2 u3 u4 u5 u6 u7 u8 : Value} {xs : List Value} (h : W.ownsRow B e s v n xs) (hb : v.ownBlock ≠ some b) :
    (put9 W b u0 u1 u2 u3 u4 u5 u6 u7 u8).ownsRow B e s v n xs :=
  set_own (set_own (set_own (set_own (set_own (set_own (set_own (set_own (set_own h hb) hb) hb) hb) hb) hb) hb) hb) hb
theorem own_base {w : World} {B B' e s n : Nat} {v : Value} {xs : List Value} (h : w.ownsRow B e s v n xs) (hb : B' ≤ B) : w.ownsRow B' e s v n xs := by
  obtain ⟨hl, hn | ⟨g, cap, cur, hv, hb', hg, rest⟩⟩ := h
  · exact ⟨hl, .inl hn⟩
  · exact ⟨hl, .inr ⟨g, cap, cur, hv, Nat.le_trans hb hb', hg, rest⟩⟩
theorem own_below {w w' : World} {n B e s m : Nat} {v : Value} {xs : List Value} (h : w.ownsRow B e s v m xs) (hb : Below n w w') (hn : ∀ k, v.ownBlock = some k → k < n) : w'.ownsRow B e s v m xs := by
  obtain ⟨hl, hh | ⟨g, cap, cur, hv, hb', hg, rest⟩⟩ := h
  · exact ⟨hl, .inl hh⟩
  · refine ⟨hl, .inr ⟨g, cap, cur, hv, hb', ?_, rest⟩⟩
    rw [hb.block g (hn g (by rw [hv]; rfl))]; exact hg

theorem DtSt.below {w W W' : World} {g tb : Nat} {x0 x1 x2 x3 x4 x5 x6 x7 : Int} {A : Option Addr} {c : Nat} {ws : List WrP} {r : Rd} (st : DtSt w W g tb x0 x1 x2 x3 x4 x5 x6 x7 A c ws r)
    (hb : Below W.heap.size W W') : DtSt w W' g tb x0 x1 x2 x3 x4 x5 x6 x7 A c ws r := by
  have h1 := lt_blk st.z
  have h2 := lt_blk st.tx
  have h3 := st.lt
  refine ⟨st.rd.above fun k hk => hb.block k (by omega), by rw [hb.block _ h1]; exact st.z, by rw [hb.block _ h2]; exact st.tx, own_below st.own hb fun k hk => (own_ge st.own hk).2, st.bl.trans (hb.mono (Nat.le_of_lt h1)), st.lg, st.lt⟩

/-- what DecodeTx hands back -/
def TxPost (w : World) (D : Option TxP) (e : Ending) (w' : World) : Prop :=
  match D with
  | none => e = .returned (.tuple #[.agg #[.int .i64 0, .int .i64 0, .int .i64 0, .int .i64 0, .int .i64 0, .int .i64 0, .int .i64 0, .int .i64 0, .slice none 0 0], .iface 24 (.int .i64 3)]) ∧ Below w.heap.size w w'
  | some t => ∃ A c, e = .returned (.tuple #[.agg #[.int .i64 t.site, .int .i64 t.seq, .int .i64 t.wall, .int .i64 t.count, .int .i64 t.d0, .int .i64 t.d1, .int .i64 t.d2, .int .i64 t.d3, .slice A t.ws.length c], .nilIface]) ∧
      Below w.heap.size w w' ∧ w'.ownsRow w.heap.size 115 3 (.slice A t.ws.length c) t.ws.length (wrCells t.ws)

theorem cells3_new {W : World} {x0 x1 x2 : Value} {n : Nat} (hn : n = W.heap.size) :
    ∀ (j : Nat) (u : Value), [x0, x1, x2][j]? = some u → (W.alloc (.cells #[x0, x1, x2] 115)).cell? ((⟨n, 0, none⟩ : Addr).add j) = some u := by
  subst hn
  intro j u hj
  have e : (⟨W.heap.size, 0, none⟩ : Addr).add j = ⟨W.heap.size, j, none⟩ := by unfold Addr.add; split <;> simp_all
  rw [e, cell_blk (cs := #[x0, x1, x2]) (t := 115) (by rw [heap_alloc, if_pos rfl]) j]
  simpa using hj
end Go.Proofs.YtbopfhbeegkkaaaDoor
