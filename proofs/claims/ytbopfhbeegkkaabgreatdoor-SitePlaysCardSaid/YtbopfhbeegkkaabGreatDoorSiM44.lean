/- Part 44 of a proof: lemmas and contracts that other parts use. -/
import Derived.Test.YtbopfhbeegkkaabGreatDoorSiM43
import Derived.Deep.DeepCutAuto
import Derived.Test.YtbopfhbeegkkaabGreatDoorSiM38
set_option linter.unusedVariables false
set_option linter.unusedSimpArgs false
namespace Go.Proofs.YtbopfhbeegkkaabGreatDoor
open Go.RowKit

def stabF (id : Int) (ot : Nat → Int) (p : Int) (c : Nat) : Nat → Int
  | 0 => p
  | k + 1 => if (k : Int) = id then stabF id ot p c k else min (stabF id ot p c k) (ot (k * 4 + c))
def stabN (n : Int) : Nat := (min (max n 0) 4).toNat
theorem stabN_le (n : Int) : stabN n ≤ 4 := by unfold stabN; omega
theorem set4_spec {w : World} {g t : Nat} {a0 a1 a2 a3 : Value} (b0 b1 b2 b3 : Value) (h : w.heap[g]? = some (.cells #[a0, a1, a2, a3] t)) :
    ((((w.setCell ⟨g, 0, none⟩ b0).setCell ⟨g, 1, none⟩ b1).setCell ⟨g, 2, none⟩ b2).setCell ⟨g, 3, none⟩ b3).heap[g]? = some (.cells #[b0, b1, b2, b3] t) ∧
    Below g w ((((w.setCell ⟨g, 0, none⟩ b0).setCell ⟨g, 1, none⟩ b1).setCell ⟨g, 2, none⟩ b2).setCell ⟨g, 3, none⟩ b3) :=
  ⟨blk_set (blk_set (blk_set (blk_set h 0 b0) 1 b1) 2 b2) 3 b3,
   ((((Below.refl g w).setCell (p := ⟨g, 0, none⟩) (Nat.le_refl _) b0).setCell (p := ⟨g, 1, none⟩) (Nat.le_refl _) b1).setCell (p := ⟨g, 2, none⟩) (Nat.le_refl _) b2).setCell (p := ⟨g, 3, none⟩) (Nat.le_refl _) b3⟩
set_option maxRecDepth 20000 in
set_option maxHeartbeats 8000000 in
theorem stable_any (B x mb : Nat) (s : SiP) (lv : Value) (sv : Nat → Value) (n : Int) (w : World) (h : SiAt w B x s mb lv sv) :
    Calls Tryz.prog 28 #[.pointer (some ⟨x, 0, none⟩), .int .i64 n] w fun e w' =>
      e = .returned (.agg #[.int .i64 (stabF s.id s.ot s.p0 0 (stabN n)), .int .i64 (stabF s.id s.ot s.p1 1 (stabN n)), .int .i64 (stabF s.id s.ot s.p2 2 (stabN n)), .int .i64 (stabF s.id s.ot s.p3 3 (stabN n))]) ∧ Below w.heap.size w w' := by
  have HS := hidp h
  obtain ⟨c1, c2, c3, c4⟩ := h.vec
  haveI : SzGe (x + 1) w := ⟨h.sto.lt⟩
  have hm4 := stabN_le n
  have HM : Hid ((stabN n : Int) = min (max n 0) 4) := hidp (by unfold stabN; omega)
  clear h
  generalize stabN n = m at *
  go_enter Tryz.func28, Tryz.ntmps28
  go_upto_region 2 with fail
  go_cut [13, 14] (fun s13 s14 W' => s13 = .int .i64 (m : Nat) ∧ s14 = .int .i64 0 ∧ (w.alloc (.cells #[.int .i64 0, .int .i64 0, .int .i64 0, .int .i64 0] 32)).alloc (.cells #[.int .i64 s.p0, .int .i64 s.p1, .int .i64 s.p2, .int .i64 s.p3] 32) = W')
  case first =>
    have hm := HM.out
    clear HM
    by_cases h0 : n < 0
    · obtain rfl : m = 0 := by omega
      clear hm
      go_wp2_with fail
      all_goals (go_meet; first | exact ⟨rfl, rfl, rfl⟩ | (refine ⟨?_, rfl, rfl⟩; congr 1; omega))
    · by_cases h4 : 4 < n
      · obtain rfl : m = 4 := by omega
        clear hm
        go_wp2_with fail
        all_goals (go_meet; first | exact ⟨rfl, rfl, rfl⟩ | (refine ⟨?_, rfl, rfl⟩; congr 1; omega))
      · obtain rfl : n = (m : Int) := by omega
        clear hm
        go_wp2_with fail
        all_goals (go_meet; first | exact ⟨rfl, rfl, rfl⟩ | (refine ⟨?_, rfl, rfl⟩; congr 1; omega))
  case rest =>
    obtain ⟨rfl, rfl, rfl⟩ := hcut
    have HB0 := hidp (show Below w.heap.size w ((w.alloc (.cells #[.int .i64 0, .int .i64 0, .int .i64 0, .int .i64 0] 32)).alloc (.cells #[.int .i64 s.p0, .int .i64 s.p1, .int .i64 s.p2, .int .i64 s.p3] 32)) from (by repeat (first | exact Below.refl _ _ | refine blw_alloc ?_ | refine blw_plus ?_ | refine Below.drew ?_)))
    have HR0 := hidp (show ((w.alloc (.cells #[.int .i64 0, .int .i64 0, .int .i64 0, .int .i64 0] 32)).alloc (.cells #[.int .i64 s.p0, .int .i64 s.p1, .int .i64 s.p2, .int .i64 s.p3] 32)).heap[w.heap.size]? = some (.cells #[.int .i64 0, .int .i64 0, .int .i64 0, .int .i64 0] 32) from blk_alloc (blk_new rfl _) _)
    have HV0 := hidp (show ((w.alloc (.cells #[.int .i64 0, .int .i64 0, .int .i64 0, .int .i64 0] 32)).alloc (.cells #[.int .i64 s.p0, .int .i64 s.p1, .int .i64 s.p2, .int .i64 s.p3] 32)).heap[w.heap.size + 1]? = some (.cells #[.int .i64 s.p0, .int .i64 s.p1, .int .i64 s.p2, .int .i64 s.p3] 32) from blk_new (by simp) _)
    clear HM c1 c2 c3 c4
    generalize (w.alloc (.cells #[.int .i64 0, .int .i64 0, .int .i64 0, .int .i64 0] 32)).alloc (.cells #[.int .i64 s.p0, .int .i64 s.p1, .int .i64 s.p2, .int .i64 s.p3] 32) = wo at *
    go_wp2_with fail
    go_loopw [14] (fun i W => ∃ k : Nat, i = .int .i64 k ∧ k ≤ m ∧ Below w.heap.size w W ∧ Hid (W.heap[w.heap.size]? = some (.cells #[.int .i64 0, .int .i64 0, .int .i64 0, .int .i64 0] 32)) ∧
      Hid (W.heap[w.heap.size + 1]? = some (.cells #[.int .i64 (stabF s.id s.ot s.p0 0 k), .int .i64 (stabF s.id s.ot s.p1 1 k), .int .i64 (stabF s.id s.ot s.p2 2 k), .int .i64 (stabF s.id s.ot s.p3 3 k)] 32))) (fun i _ => m - (intOf i).toNat)
    case atStart => exact ⟨0, rfl, Nat.zero_le _, HB0.out, HR0, HV0⟩
    case round =>
      obtain ⟨k, rfl, hk, hb, HR, HV⟩ := hrel
      obtain ⟨W, rfl⟩ : ∃ W : World, W = wr := ⟨_, rfl⟩
      have HB := hidp hb
      clear hb HB0 HR0 HV0
      have HSW := hidp (HS.out.below HB.out)
      haveI : SzGe (w.heap.size + 1 + 1) W := ⟨lt_blk HV.out⟩
      haveI : SzGe (x + 1) W := ⟨HSW.out.sto.lt⟩
      by_cases hkm : k < m
      · have hkd : decide ((k : Int) < (m : Int)) = true := decide_eq_true (by omega)
        have c0 := HSW.out.c0
        have HST : Hid (∀ (p : Int) (c : Nat), stabF s.id s.ot p c (k + 1) = if (k : Int) = s.id then stabF s.id s.ot p c k else min (stabF s.id s.ot p c k) (s.ot (k * 4 + c))) := hidp (fun p c => rfl)
        by_cases hid : (k : Int) = s.id
        · have hd : ((k : Int) != s.id) = false := by simp [hid]
          have HID := hidp hid
          clear hid
          go_wp2_with fail
          go_roundw
          case rel => exact ⟨k + 1, by go_num, by omega, HB.out, HR, hidp (by rw [HST.out, HST.out, HST.out, HST.out, if_pos HID.out, if_pos HID.out, if_pos HID.out, if_pos HID.out]; exact HV.out)⟩
          case measure => simp [intOf]; omega
        · have hd : ((k : Int) != s.id) = true := by simpa using hid
          have HID := hidp hid
          clear hid
          have hk0 : (0 : Int) ≤ (k : Int) := by omega
          have hk4 : (k : Int) < 4 := by omega
          have o0 := HSW.out.oth (k * 4) (by omega)
          have o1 := HSW.out.oth (k * 4 + 1) (by omega)
          have o2 := HSW.out.oth (k * 4 + 2) (by omega)
          have o3 := HSW.out.oth (k * 4 + 3) (by omega)
          rw [show 17 + (k * 4 + 1) = 17 + k * 4 + 1 by omega] at o1
          rw [show 17 + (k * 4 + 2) = 17 + k * 4 + 2 by omega] at o2
          rw [show 17 + (k * 4 + 3) = 17 + k * 4 + 3 by omega] at o3
          have HMN := hidp fun X => vMin_any (stabF s.id s.ot s.p0 0 k) (stabF s.id s.ot s.p1 1 k) (stabF s.id s.ot s.p2 2 k) (stabF s.id s.ot s.p3 3 k) (s.ot (k * 4)) (s.ot (k * 4 + 1)) (s.ot (k * 4 + 2)) (s.ot (k * 4 + 3)) X
          have e0 := cell_blk HV.out 0; have e1 := cell_blk HV.out 1; have e2 := cell_blk HV.out 2; have e3 := cell_blk HV.out 3
          simp only [List.getElem?_toArray, List.getElem?_cons_zero, List.getElem?_cons_succ] at e0 e1 e2 e3
          have z0 := frozen_blk HV.out 0; have z1 := frozen_blk HV.out 1; have z2 := frozen_blk HV.out 2; have z3 := frozen_blk HV.out 3
          have HS0 := hidp (show stabF s.id s.ot s.p0 0 (k + 1) = min (stabF s.id s.ot s.p0 0 k) (s.ot (k * 4))  from by rw [HST.out, if_neg HID.out]; try rfl)
          have HS1 := hidp (show stabF s.id s.ot s.p1 1 (k + 1) = min (stabF s.id s.ot s.p1 1 k) (s.ot (k * 4 + 1))  from by rw [HST.out, if_neg HID.out]; try rfl)
          have HS2 := hidp (show stabF s.id s.ot s.p2 2 (k + 1) = min (stabF s.id s.ot s.p2 2 k) (s.ot (k * 4 + 2))  from by rw [HST.out, if_neg HID.out]; try rfl)
          have HS3 := hidp (show stabF s.id s.ot s.p3 3 (k + 1) = min (stabF s.id s.ot s.p3 3 k) (s.ot (k * 4 + 3))  from by rw [HST.out, if_neg HID.out]; try rfl)
          generalize stabF s.id s.ot s.p0 0 k = q0 at *
          generalize stabF s.id s.ot s.p1 1 k = q1 at *
          generalize stabF s.id s.ot s.p2 2 k = q2 at *
          generalize stabF s.id s.ot s.p3 3 k = q3 at *
          go_wp2_with fail
          refine wp_region_plus_tail 8 (by kernel_rfl) (by kernel_rfl) ?_
          simp only [List.take_succ_cons, List.take_zero, List.drop_succ_cons, List.drop_zero]
          repeat (first | go_big_quiet_skip | (go_big_quiet_want; go_big_quiet_op; first | go_big_quiet_on | (apply Exists.intro; refine ⟨fun _ => ?_, ?_⟩; (go_at_call 89; exact Calls.plus_of (HMN.out _)); go_big_quiet_on)))
          refine wpQuiet_nil ?_
          rintro _ ⟨x3, rfl⟩
          go_wp2_with fail
          obtain ⟨p1, p2⟩ := set4_spec (.int .i64 (min q0 (s.ot (k * 4)))) (.int .i64 (min q1 (s.ot (k * 4 + 1)))) (.int .i64 (min q2 (s.ot (k * 4 + 2)))) (.int .i64 (min q3 (s.ot (k * 4 + 3)))) HV.out
          go_roundw
          case rel => exact ⟨k + 1, by go_num, by omega, (HB.out.trans (p2.mono (by omega))).trans ((below_wplus _ x3).mono (Nat.le_trans (by have := lt_blk HV.out; omega) p2.size)), hidp (by rw [← HR.out]; exact (below_wplus _ x3).block _ (Nat.lt_of_lt_of_le (lt_blk HR.out) p2.size) |>.trans (p2.block _ (by omega))), hidp (by rw [HS0.out, HS1.out, HS2.out, HS3.out]; exact ((below_wplus _ x3).block _ (lt_blk p1)).trans p1)⟩
          case measure => simp [intOf]; omega
      · obtain rfl : k = m := by omega
        have hkd : decide ((k : Int) < (k : Int)) = false := decide_eq_false (by omega)
        generalize hq0 : stabF s.id s.ot s.p0 0 k = q0 at *
        replace hq0 := hidp hq0
        generalize hq1 : stabF s.id s.ot s.p1 1 k = q1 at *
        replace hq1 := hidp hq1
        generalize hq2 : stabF s.id s.ot s.p2 2 k = q2 at *
        replace hq2 := hidp hq2
        generalize hq3 : stabF s.id s.ot s.p3 3 k = q3 at *
        replace hq3 := hidp hq3
        have e0 := cell_blk HV.out 0; have e1 := cell_blk HV.out 1; have e2 := cell_blk HV.out 2; have e3 := cell_blk HV.out 3
        simp only [List.getElem?_toArray, List.getElem?_cons_zero, List.getElem?_cons_succ] at e0 e1 e2 e3
        have z0 := frozen_blk HR.out 0; have z1 := frozen_blk HR.out 1; have z2 := frozen_blk HR.out 2; have z3 := frozen_blk HR.out 3
        have r0 := cell_blk HR.out 0; have r1 := cell_blk HR.out 1; have r2 := cell_blk HR.out 2; have r3 := cell_blk HR.out 3
        simp only [List.getElem?_toArray, List.getElem?_cons_zero, List.getElem?_cons_succ] at r0 r1 r2 r3
        go_wp2_with fail
        obtain ⟨p1, p2⟩ := set4_spec (.int .i64 q0) (.int .i64 q1) (.int .i64 q2) (.int .i64 q3) HR.out
        generalize hW1 : World.setCell _ _ (Value.int .i64 q3) = W1
        rw [hW1] at p1 p2
        have y0 := cell_blk p1 0; have y1 := cell_blk p1 1; have y2 := cell_blk p1 2; have y3 := cell_blk p1 3
        simp only [List.getElem?_toArray, List.getElem?_cons_zero, List.getElem?_cons_succ] at y0 y1 y2 y3
        refine bodyPost_ret (v := .agg #[.int .i64 q0, .int .i64 q1, .int .i64 q2, .int .i64 q3]) ?_ rfl ⟨by rw [hq0.out, hq1.out, hq2.out, hq3.out], HB.out.trans p2⟩
        simp [results, Tryz.results28, go_sem, y0, y1, y2, y3]
end Go.Proofs.YtbopfhbeegkkaabGreatDoor

namespace Go.Proofs.YtbopfhbeegkkaabGreatDoor
open Go.RowKit

set_option maxRecDepth 20000 in
set_option maxHeartbeats 8000000 in
theorem rStable_any (B x wc : Nat) (s : RsP) (lv : Value) (wA : Option Addr) (av : Value) (n : Int) (w : World) (h : RsAt w B x s lv wA wc av) :
    Calls Tryz.prog 29 #[.pointer (some ⟨x, 0, none⟩), .int .i64 n] w fun e w' =>
      e = .returned (.agg #[.int .i64 (stabF s.id s.ot s.p0 0 (stabN n)), .int .i64 (stabF s.id s.ot s.p1 1 (stabN n)), .int .i64 (stabF s.id s.ot s.p2 2 (stabN n)), .int .i64 (stabF s.id s.ot s.p3 3 (stabN n))]) ∧ Below w.heap.size w w' := by
  have HS := hidp h
  obtain ⟨c1, c2, c3, c4⟩ := h.vec
  haveI : SzGe (x + 1) w := ⟨h.sto.lt⟩
  have hm4 := stabN_le n
  have HM : Hid ((stabN n : Int) = min (max n 0) 4) := hidp (by unfold stabN; omega)
  clear h
  generalize stabN n = m at *
  go_enter Tryz.func29, Tryz.ntmps29
  go_wp2_with fail
  have HB0 := hidp (show Below w.heap.size w ((w.alloc (.cells #[.int .i64 0, .int .i64 0, .int .i64 0, .int .i64 0] 32)).alloc (.cells #[.int .i64 s.p0, .int .i64 s.p1, .int .i64 s.p2, .int .i64 s.p3] 32)) from (by repeat (first | exact Below.refl _ _ | refine blw_alloc ?_ | refine blw_plus ?_ | refine Below.drew ?_)))
  have HR0 := hidp (show ((w.alloc (.cells #[.int .i64 0, .int .i64 0, .int .i64 0, .int .i64 0] 32)).alloc (.cells #[.int .i64 s.p0, .int .i64 s.p1, .int .i64 s.p2, .int .i64 s.p3] 32)).heap[w.heap.size]? = some (.cells #[.int .i64 0, .int .i64 0, .int .i64 0, .int .i64 0] 32) from blk_alloc (blk_new rfl _) _)
  have HV0 := hidp (show ((w.alloc (.cells #[.int .i64 0, .int .i64 0, .int .i64 0, .int .i64 0] 32)).alloc (.cells #[.int .i64 s.p0, .int .i64 s.p1, .int .i64 s.p2, .int .i64 s.p3] 32)).heap[w.heap.size + 1]? = some (.cells #[.int .i64 s.p0, .int .i64 s.p1, .int .i64 s.p2, .int .i64 s.p3] 32) from blk_new (by simp) _)
  clear c1 c2 c3 c4
  generalize (w.alloc (.cells #[.int .i64 0, .int .i64 0, .int .i64 0, .int .i64 0] 32)).alloc (.cells #[.int .i64 s.p0, .int .i64 s.p1, .int .i64 s.p2, .int .i64 s.p3] 32) = wo at *
  go_loopw [6] (fun i W => ∃ k : Nat, i = .int .i64 k ∧ k ≤ m ∧ Below w.heap.size w W ∧ Hid (W.heap[w.heap.size]? = some (.cells #[.int .i64 0, .int .i64 0, .int .i64 0, .int .i64 0] 32)) ∧
    Hid (W.heap[w.heap.size + 1]? = some (.cells #[.int .i64 (stabF s.id s.ot s.p0 0 k), .int .i64 (stabF s.id s.ot s.p1 1 k), .int .i64 (stabF s.id s.ot s.p2 2 k), .int .i64 (stabF s.id s.ot s.p3 3 k)] 32))) (fun i _ => m - (intOf i).toNat)
  case atStart => exact ⟨0, rfl, Nat.zero_le _, HB0.out, HR0, HV0⟩
  case round =>
    obtain ⟨k, rfl, hk, hb, HR, HV⟩ := hrel
    obtain ⟨W, rfl⟩ : ∃ W : World, W = wr := ⟨_, rfl⟩
    have HB := hidp hb
    clear hb HB0 HR0 HV0
    have HSW := hidp (HS.out.below HB.out)
    haveI : SzGe (w.heap.size + 1 + 1) W := ⟨lt_blk HV.out⟩
    haveI : SzGe (x + 1) W := ⟨HSW.out.sto.lt⟩
    by_cases hkm : k < m
    · have hkd : decide ((k : Int) < n) = true := decide_eq_true (by have := HM.out; omega)
      have hkd4 : decide ((k : Int) < 4) = true := decide_eq_true (by omega)
      have c0 := HSW.out.c0
      have HST : Hid (∀ (p : Int) (c : Nat), stabF s.id s.ot p c (k + 1) = if (k : Int) = s.id then stabF s.id s.ot p c k else min (stabF s.id s.ot p c k) (s.ot (k * 4 + c))) := hidp (fun p c => rfl)
      by_cases hid : (k : Int) = s.id
      · have hd : ((k : Int) != s.id) = false := by simp [hid]
        have HID := hidp hid
        clear hid
        go_wp2_with fail
        go_roundw
        case rel => exact ⟨k + 1, by go_num, by omega, HB.out, HR, hidp (by rw [HST.out, HST.out, HST.out, HST.out, if_pos HID.out, if_pos HID.out, if_pos HID.out, if_pos HID.out]; exact HV.out)⟩
        case measure => simp [intOf]; omega
      · have hd : ((k : Int) != s.id) = true := by simpa using hid
        have HID := hidp hid
        clear hid
        have hk0 : (0 : Int) ≤ (k : Int) := by omega
        have hk4 : (k : Int) < 4 := by omega
        have o0 := HSW.out.oth (k * 4) (by omega)
        have o1 := HSW.out.oth (k * 4 + 1) (by omega)
        have o2 := HSW.out.oth (k * 4 + 2) (by omega)
        have o3 := HSW.out.oth (k * 4 + 3) (by omega)
        rw [show 10 + (k * 4 + 1) = 10 + k * 4 + 1 by omega] at o1
        rw [show 10 + (k * 4 + 2) = 10 + k * 4 + 2 by omega] at o2
        rw [show 10 + (k * 4 + 3) = 10 + k * 4 + 3 by omega] at o3
        have HMN := hidp fun X => rMin_any (stabF s.id s.ot s.p0 0 k) (stabF s.id s.ot s.p1 1 k) (stabF s.id s.ot s.p2 2 k) (stabF s.id s.ot s.p3 3 k) (s.ot (k * 4)) (s.ot (k * 4 + 1)) (s.ot (k * 4 + 2)) (s.ot (k * 4 + 3)) X
        have e0 := cell_blk HV.out 0; have e1 := cell_blk HV.out 1; have e2 := cell_blk HV.out 2; have e3 := cell_blk HV.out 3
        simp only [List.getElem?_toArray, List.getElem?_cons_zero, List.getElem?_cons_succ] at e0 e1 e2 e3
        have z0 := frozen_blk HV.out 0; have z1 := frozen_blk HV.out 1; have z2 := frozen_blk HV.out 2; have z3 := frozen_blk HV.out 3
        have HS0 := hidp (show stabF s.id s.ot s.p0 0 (k + 1) = min (stabF s.id s.ot s.p0 0 k) (s.ot (k * 4))  from by rw [HST.out, if_neg HID.out]; try rfl)
        have HS1 := hidp (show stabF s.id s.ot s.p1 1 (k + 1) = min (stabF s.id s.ot s.p1 1 k) (s.ot (k * 4 + 1))  from by rw [HST.out, if_neg HID.out]; try rfl)
        have HS2 := hidp (show stabF s.id s.ot s.p2 2 (k + 1) = min (stabF s.id s.ot s.p2 2 k) (s.ot (k * 4 + 2))  from by rw [HST.out, if_neg HID.out]; try rfl)
        have HS3 := hidp (show stabF s.id s.ot s.p3 3 (k + 1) = min (stabF s.id s.ot s.p3 3 k) (s.ot (k * 4 + 3))  from by rw [HST.out, if_neg HID.out]; try rfl)
        generalize stabF s.id s.ot s.p0 0 k = q0 at *
        generalize stabF s.id s.ot s.p1 1 k = q1 at *
        generalize stabF s.id s.ot s.p2 2 k = q2 at *
        generalize stabF s.id s.ot s.p3 3 k = q3 at *
        go_wp2_with fail
        refine wp_region_plus_tail 8 (by kernel_rfl) (by kernel_rfl) ?_
        simp only [List.take_succ_cons, List.take_zero, List.drop_succ_cons, List.drop_zero]
        repeat (first | go_big_quiet_skip | (go_big_quiet_want; go_big_quiet_op; first | go_big_quiet_on | (apply Exists.intro; refine ⟨fun _ => ?_, ?_⟩; (go_at_call 23; exact Calls.plus_of (HMN.out _)); go_big_quiet_on)))
        refine wpQuiet_nil ?_
        rintro _ ⟨x3, rfl⟩
        go_wp2_with fail
        obtain ⟨p1, p2⟩ := set4_spec (.int .i64 (min q0 (s.ot (k * 4)))) (.int .i64 (min q1 (s.ot (k * 4 + 1)))) (.int .i64 (min q2 (s.ot (k * 4 + 2)))) (.int .i64 (min q3 (s.ot (k * 4 + 3)))) HV.out
        go_roundw
        case rel => exact ⟨k + 1, by go_num, by omega, (HB.out.trans (p2.mono (by omega))).trans ((below_wplus _ x3).mono (Nat.le_trans (by have := lt_blk HV.out; omega) p2.size)), hidp (by rw [← HR.out]; exact (below_wplus _ x3).block _ (Nat.lt_of_lt_of_le (lt_blk HR.out) p2.size) |>.trans (p2.block _ (by omega))), hidp (by rw [HS0.out, HS1.out, HS2.out, HS3.out]; exact ((below_wplus _ x3).block _ (lt_blk p1)).trans p1)⟩
        case measure => simp [intOf]; omega
    · obtain rfl : k = m := by omega
      generalize hq0 : stabF s.id s.ot s.p0 0 k = q0 at *
      replace hq0 := hidp hq0
      generalize hq1 : stabF s.id s.ot s.p1 1 k = q1 at *
      replace hq1 := hidp hq1
      generalize hq2 : stabF s.id s.ot s.p2 2 k = q2 at *
      replace hq2 := hidp hq2
      generalize hq3 : stabF s.id s.ot s.p3 3 k = q3 at *
      replace hq3 := hidp hq3
      have e0 := cell_blk HV.out 0; have e1 := cell_blk HV.out 1; have e2 := cell_blk HV.out 2; have e3 := cell_blk HV.out 3
      simp only [List.getElem?_toArray, List.getElem?_cons_zero, List.getElem?_cons_succ] at e0 e1 e2 e3
      have z0 := frozen_blk HR.out 0; have z1 := frozen_blk HR.out 1; have z2 := frozen_blk HR.out 2; have z3 := frozen_blk HR.out 3
      have r0 := cell_blk HR.out 0; have r1 := cell_blk HR.out 1; have r2 := cell_blk HR.out 2; have r3 := cell_blk HR.out 3
      simp only [List.getElem?_toArray, List.getElem?_cons_zero, List.getElem?_cons_succ] at r0 r1 r2 r3
      by_cases h4 : n ≤ 4
      · have hkd : decide ((k : Int) < n) = false := decide_eq_false (by have := HM.out; omega)
        clear h4
        go_wp2_with fail
        obtain ⟨p1, p2⟩ := set4_spec (.int .i64 q0) (.int .i64 q1) (.int .i64 q2) (.int .i64 q3) HR.out
        generalize hW1 : World.setCell _ _ (Value.int .i64 q3) = W1
        rw [hW1] at p1 p2
        have y0 := cell_blk p1 0; have y1 := cell_blk p1 1; have y2 := cell_blk p1 2; have y3 := cell_blk p1 3
        simp only [List.getElem?_toArray, List.getElem?_cons_zero, List.getElem?_cons_succ] at y0 y1 y2 y3
        refine bodyPost_ret (v := .agg #[.int .i64 q0, .int .i64 q1, .int .i64 q2, .int .i64 q3]) ?_ rfl ⟨by rw [hq0.out, hq1.out, hq2.out, hq3.out], HB.out.trans p2⟩
        simp [results, Tryz.results29, go_sem, y0, y1, y2, y3]
      · have hkd : decide ((k : Int) < n) = true := decide_eq_true (by have := HM.out; omega)
        have hkd4 : decide ((k : Int) < 4) = false := decide_eq_false (by have := HM.out; omega)
        clear h4
        go_wp2_with fail
        obtain ⟨p1, p2⟩ := set4_spec (.int .i64 q0) (.int .i64 q1) (.int .i64 q2) (.int .i64 q3) HR.out
        generalize hW1 : World.setCell _ _ (Value.int .i64 q3) = W1
        rw [hW1] at p1 p2
        have y0 := cell_blk p1 0; have y1 := cell_blk p1 1; have y2 := cell_blk p1 2; have y3 := cell_blk p1 3
        simp only [List.getElem?_toArray, List.getElem?_cons_zero, List.getElem?_cons_succ] at y0 y1 y2 y3
        refine bodyPost_ret (v := .agg #[.int .i64 q0, .int .i64 q1, .int .i64 q2, .int .i64 q3]) ?_ rfl ⟨by rw [hq0.out, hq1.out, hq2.out, hq3.out], HB.out.trans p2⟩
        simp [results, Tryz.results29, go_sem, y0, y1, y2, y3]
end Go.Proofs.YtbopfhbeegkkaabGreatDoor
