import Derived.Test.YtbopfhbeegkkaaaDoorRT
import Derived.Test.YtbopfhbeegkkaaaDoorRNum
import Derived.Test.YtbopfhbeegkkaaaDoorEncT
namespace Go.Proofs.YtbopfhbeegkkaaaDoor
open Go.RowKit

def fewB (ws : List WrP) : Bool := decide (ws.length ≤ 20) && ws.all fun w => decide (w.data.size ≤ 100)

set_option maxHeartbeats 1000000 in
theorem few_any (site seq wall count d0 d1 d2 d3 : Int) (A : Option Addr) (c : Nat) (ws : List WrP) (w : World) (hn : ws.length ≤ 9223372036854775807) (hws : WsAt w A ws) :
    Calls Tryd.prog 17 #[.agg #[.int .i64 site, .int .i64 seq, .int .i64 wall, .int .i64 count, .int .i64 d0, .int .i64 d1, .int .i64 d2, .int .i64 d3, .slice A ws.length c]] w
      fun e w' => ∃ b : Bool, e = .returned (.bool b) ∧ (b = true → ws.length ≤ 20) ∧ Below w.heap.size w w' := by
  by_cases h10 : 20 < ws.length
  · clear hws
    go_enter Tryd.func17, Tryd.ntmps17
    go_wp2
    go_ret
    exact ⟨false, rfl, (fun h => by cases h), (by repeat (first | exact Below.refl _ _ | refine blw_alloc ?_ | refine blw_plus ?_ | refine Below.drew ?_))⟩
  have HWS := hidp hws
  clear hws
  go_enter Tryd.func17, Tryd.ntmps17
  go_wp2
  go_loopw [3] (fun i wr => ∃ (k : Nat) (x : Tail), k ≤ ws.length ∧ i = .int .i64 k ∧ wr = wplus (w.alloc (.cells #[.int .i64 site, .int .i64 seq, .int .i64 wall, .int .i64 count, .int .i64 d0, .int .i64 d1, .int .i64 d2, .int .i64 d3, .slice A ws.length c] 40)) x) (fun i _ => ws.length - (intOf i).toNat)
  case atStart => exact ⟨0, ⟨#[], w.drawn⟩, Nat.zero_le _, rfl, by simp [wplus]; rfl⟩
  case round =>
    obtain ⟨k, x, hk, rfl, rfl⟩ := hrel
    by_cases hlt : k < ws.length
    · obtain ⟨b, o, rfl, hb, h0, h1, h2⟩ := HWS.out k ws[k] (List.getElem?_eq_getElem hlt)
      haveI : SzGe (b + 1) w := ⟨hb⟩
      generalize ws[k] = y at *
      obtain ⟨key, data, gone⟩ := y
      simp only at *
      by_cases hd : 100 < data.size
      · go_wp2
        go_ret
        exact ⟨false, rfl, (fun h => by cases h), (by repeat (first | exact Below.refl _ _ | refine blw_alloc ?_ | refine blw_plus ?_ | refine Below.drew ?_))⟩
      · go_wp2
        go_roundw
        case rel => exact ⟨k + 1, _, by omega, by go_num, rfl⟩
        case measure => simp [intOf]; omega
    · have hkk : k = ws.length := by omega
      go_wp2
      go_ret
      exact ⟨true, rfl, (fun _ => by omega), (by repeat (first | exact Below.refl _ _ | refine blw_alloc ?_ | refine blw_plus ?_ | refine Below.drew ?_))⟩

theorem in_is {n lo hi : Int} {b : Bool} (w : World) (h : decide (lo ≤ n ∧ n ≤ hi) = b) :
    Calls Tryd.prog 54 #[.int .i64 n, .int .i64 lo, .int .i64 hi] w fun e w' => e = .returned (.bool b) ∧ w = w' := by
  subst h
  by_cases h : lo ≤ n ∧ n ≤ hi
  · rw [decide_eq_true h]; exact in_yes n lo hi w h.1 h.2
  · rw [decide_eq_false h]; exact in_no n lo hi w (by omega)

set_option maxHeartbeats 4000000 in
theorem rRightWs_any (A : Option Addr) (c : Nat) (ws : List WrP) (w : World) (hn : ws.length ≤ 1000000) (hws : WsAt w A ws) :
    Calls Tryd.prog 25 #[.slice A ws.length c] w fun e w' => e = .returned (.bool (rightWs ws)) ∧ Below w.heap.size w w' := by
  have HWS := hidp hws
  clear hws
  go_enter Tryd.func25, Tryd.ntmps25
  go_wp2
  go_loopw [7] (fun i wr => ∃ (k : Nat) (z : Int), k ≤ ws.length ∧ i = .int .i64 k ∧ -1 ≤ z ∧ Below w.heap.size w wr ∧ rwGo (-1) ws = rwGo z (ws.drop k) ∧ ((k = 0 ∧ z = -1) ∨ (0 < k ∧ ∃ u, ws[k - 1]? = some u ∧ u.key = z ∧ 0 ≤ z))) (fun i _ => ws.length - (intOf i).toNat)
  case atStart => exact ⟨0, -1, Nat.zero_le _, rfl, by omega, Below.refl _ _, rfl, .inl ⟨rfl, rfl⟩⟩
  case round =>
    obtain ⟨k, z, hk, rfl, hz, hbl, hrw, hprev⟩ := hrel
    obtain ⟨x, rfl⟩ := wplus_of_below hbl
    clear hbl
    have HRW := hidp hrw
    clear hrw
    by_cases hlt : k < ws.length
    · obtain ⟨b, o, rfl, hb, h0, h1, h2⟩ := HWS.out k ws[k] (List.getElem?_eq_getElem hlt)
      haveI : SzGe (b + 1) w := ⟨hb⟩
      obtain ⟨y, hy⟩ : ∃ y, ws[k] = y := ⟨_, rfl⟩
      rw [hy] at h0 h1 h2
      have hdrop : ws.drop k = y :: ws.drop (k + 1) := by rw [List.drop_eq_getElem_cons hlt, hy]
      have hbad : badW z y = true → rightWs ws = false := fun h => by
        rw [rightWs, HRW.out, hdrop]; simp [rwGo, h]
      have hgood : badW z y = false → rwGo (-1) ws = rwGo y.key (ws.drop (k + 1)) := fun h => by
        rw [HRW.out, hdrop]; simp [rwGo, h]
      have hprev' : Hid (0 ≤ y.key → ((k + 1 = 0 ∧ y.key = -1) ∨ (0 < k + 1 ∧ ∃ u, ws[k + 1 - 1]? = some u ∧ u.key = y.key ∧ 0 ≤ y.key))) := hidp fun h => .inr ⟨by omega, y, by simp [List.getElem?_eq_getElem hlt, hy], rfl, h⟩
      have HB := hidp hbad
      have HG := hidp hgood
      clear hbad hgood hdrop hy
      by_cases c0 : 0 ≤ y.key ∧ y.key ≤ 7
      · have HI := hidp fun w => in_is w (decide_eq_true c0)
        obtain ⟨c0, c0'⟩ := c0
        have hprev' := hprev'.out c0
        rcases Nat.eq_zero_or_pos k with rfl | hkp
        · have hz1 : z = -1 := by omega
          subst hz1
          clear hprev
          simp only [Nat.zero_mul, Nat.add_zero] at h0 h1 h2
          have _ : decide ((0 : Int) < ((0 : Nat) : Int)) = false := rfl
          by_cases c3 : 12 < y.data.size
          · have HF := hidp (HB.out (by simp [badW, c3]))
            have _ : decide ((12 : Int) < (y.data.size : Int)) = true := decide_eq_true (by omega)
            go_wp2
            refine wp_region_plus (by kernel_rfl) (by kernel_rfl) ?_
            repeat (first | go_big_quiet_skip | (go_big_quiet_want; go_big_quiet_op; first | go_big_quiet_on | (apply Exists.intro; refine ⟨fun _ => ?_, ?_⟩; (first | (go_at_call 54; exact Calls.plus_same (HI.out _))); go_big_quiet_on)))
            refine wpQuiet_nil ?_
            rintro _ ⟨x, rfl⟩
            go_wp2
            go_ret
            exact ⟨by rw [HF.out]; rfl, (by repeat (first | exact Below.refl _ _ | refine blw_alloc ?_ | refine blw_plus ?_ | refine Below.drew ?_))⟩
          have _ : decide ((12 : Int) < (y.data.size : Int)) = false := decide_eq_false (by omega)
          obtain ⟨key, data, gone⟩ := y
          simp only at *
          cases gone
          · have HF := hidp (HG.out (by simp [badW]; omega))
            go_wp2
            refine wp_region_plus (by kernel_rfl) (by kernel_rfl) ?_
            repeat (first | go_big_quiet_skip | (go_big_quiet_want; go_big_quiet_op; first | go_big_quiet_on | (apply Exists.intro; refine ⟨fun _ => ?_, ?_⟩; (first | (go_at_call 54; exact Calls.plus_same (HI.out _))); go_big_quiet_on)))
            refine wpQuiet_nil ?_
            rintro _ ⟨x, rfl⟩
            go_wp2
            go_roundw
            case rel => exact ⟨0 + 1, key, by omega, by go_num, by omega, (by repeat (first | exact Below.refl _ _ | refine blw_alloc ?_ | refine blw_plus ?_ | refine Below.drew ?_)), HF.out, hprev'⟩
            case measure => simp [intOf]; omega
          · by_cases c4 : data.toList = []
            · have hs : data.size = 0 := by rw [ba_size, ← ByteArray.toList_eq, c4]; rfl
              have HF := hidp (HG.out (by simp [badW, hs]; omega))
              have c5 : (!data.toList.isEmpty) = false := by rw [c4]; rfl
              clear hs
              go_wp2
              refine wp_region_plus (by kernel_rfl) (by kernel_rfl) ?_
              repeat (first | go_big_quiet_skip | (go_big_quiet_want; go_big_quiet_op; first | go_big_quiet_on | (apply Exists.intro; refine ⟨fun _ => ?_, ?_⟩; (first | (go_at_call 54; exact Calls.plus_same (HI.out _))); go_big_quiet_on)))
              refine wpQuiet_nil ?_
              rintro _ ⟨x, rfl⟩
              go_wp2
              go_roundw
              case rel => exact ⟨0 + 1, key, by omega, by go_num, by omega, (by repeat (first | exact Below.refl _ _ | refine blw_alloc ?_ | refine blw_plus ?_ | refine Below.drew ?_)), HF.out, hprev'⟩
              case measure => simp [intOf]; omega
            · have hs : data.size ≠ 0 := by rw [ba_size, ← ByteArray.toList_eq]; intro h; exact c4 (List.eq_nil_of_length_eq_zero h)
              have HF := hidp (HB.out (by simp [badW, hs]))
              have c5 : (!data.toList.isEmpty) = true := by simpa using c4
              clear hs
              go_wp2
              refine wp_region_plus (by kernel_rfl) (by kernel_rfl) ?_
              repeat (first | go_big_quiet_skip | (go_big_quiet_want; go_big_quiet_op; first | go_big_quiet_on | (apply Exists.intro; refine ⟨fun _ => ?_, ?_⟩; (first | (go_at_call 54; exact Calls.plus_same (HI.out _))); go_big_quiet_on)))
              refine wpQuiet_nil ?_
              rintro _ ⟨x, rfl⟩
              go_wp2
              go_ret
              exact ⟨by rw [HF.out]; rfl, (by repeat (first | exact Below.refl _ _ | refine blw_alloc ?_ | refine blw_plus ?_ | refine Below.drew ?_))⟩
        · obtain ⟨_, u, hu, hue, hz0⟩ : 0 < k ∧ ∃ u, ws[k - 1]? = some u ∧ u.key = z ∧ 0 ≤ z := by
            rcases hprev with h | h
            · omega
            · exact h
          obtain ⟨b', o', e', hb', g0, _, _⟩ := HWS.out (k - 1) u hu
          cases e'
          rw [hue] at g0
          clear hprev hu
          have _ : decide ((0 : Int) < (k : Int)) = true := decide_eq_true (by omega)
          by_cases c1 : y.key ≤ z
          · have HF := hidp (HB.out (by simp [badW, c1]))
            have _ : decide (y.key ≤ z) = true := decide_eq_true (by omega)
            go_wp2
            refine wp_region_plus (by kernel_rfl) (by kernel_rfl) ?_
            repeat (first | go_big_quiet_skip | (go_big_quiet_want; go_big_quiet_op; first | go_big_quiet_on | (apply Exists.intro; refine ⟨fun _ => ?_, ?_⟩; (first | (go_at_call 54; exact Calls.plus_same (HI.out _))); go_big_quiet_on)))
            refine wpQuiet_nil ?_
            rintro _ ⟨x, rfl⟩
            go_wp2
            go_ret
            exact ⟨by rw [HF.out]; rfl, (by repeat (first | exact Below.refl _ _ | refine blw_alloc ?_ | refine blw_plus ?_ | refine Below.drew ?_))⟩
          have _ : decide (y.key ≤ z) = false := decide_eq_false (by omega)
          by_cases c3 : 12 < y.data.size
          · have HF := hidp (HB.out (by simp [badW, c3]))
            have _ : decide ((12 : Int) < (y.data.size : Int)) = true := decide_eq_true (by omega)
            go_wp2
            refine wp_region_plus (by kernel_rfl) (by kernel_rfl) ?_
            repeat (first | go_big_quiet_skip | (go_big_quiet_want; go_big_quiet_op; first | go_big_quiet_on | (apply Exists.intro; refine ⟨fun _ => ?_, ?_⟩; (first | (go_at_call 54; exact Calls.plus_same (HI.out _))); go_big_quiet_on)))
            refine wpQuiet_nil ?_
            rintro _ ⟨x, rfl⟩
            go_wp2
            go_ret
            exact ⟨by rw [HF.out]; rfl, (by repeat (first | exact Below.refl _ _ | refine blw_alloc ?_ | refine blw_plus ?_ | refine Below.drew ?_))⟩
          have _ : decide ((12 : Int) < (y.data.size : Int)) = false := decide_eq_false (by omega)
          obtain ⟨key, data, gone⟩ := y
          simp only at *
          cases gone
          · have HF := hidp (HG.out (by simp [badW]; omega))
            go_wp2
            refine wp_region_plus (by kernel_rfl) (by kernel_rfl) ?_
            repeat (first | go_big_quiet_skip | (go_big_quiet_want; go_big_quiet_op; first | go_big_quiet_on | (apply Exists.intro; refine ⟨fun _ => ?_, ?_⟩; (first | (go_at_call 54; exact Calls.plus_same (HI.out _))); go_big_quiet_on)))
            refine wpQuiet_nil ?_
            rintro _ ⟨x, rfl⟩
            go_wp2
            go_roundw
            case rel => exact ⟨k + 1, key, by omega, by go_num, by omega, (by repeat (first | exact Below.refl _ _ | refine blw_alloc ?_ | refine blw_plus ?_ | refine Below.drew ?_)), HF.out, hprev'⟩
            case measure => simp [intOf]; omega
          · by_cases c4 : data.toList = []
            · have hs : data.size = 0 := by rw [ba_size, ← ByteArray.toList_eq, c4]; rfl
              have HF := hidp (HG.out (by simp [badW, hs]; omega))
              have c5 : (!data.toList.isEmpty) = false := by rw [c4]; rfl
              clear hs
              go_wp2
              refine wp_region_plus (by kernel_rfl) (by kernel_rfl) ?_
              repeat (first | go_big_quiet_skip | (go_big_quiet_want; go_big_quiet_op; first | go_big_quiet_on | (apply Exists.intro; refine ⟨fun _ => ?_, ?_⟩; (first | (go_at_call 54; exact Calls.plus_same (HI.out _))); go_big_quiet_on)))
              refine wpQuiet_nil ?_
              rintro _ ⟨x, rfl⟩
              go_wp2
              go_roundw
              case rel => exact ⟨k + 1, key, by omega, by go_num, by omega, (by repeat (first | exact Below.refl _ _ | refine blw_alloc ?_ | refine blw_plus ?_ | refine Below.drew ?_)), HF.out, hprev'⟩
              case measure => simp [intOf]; omega
            · have hs : data.size ≠ 0 := by rw [ba_size, ← ByteArray.toList_eq]; intro h; exact c4 (List.eq_nil_of_length_eq_zero h)
              have HF := hidp (HB.out (by simp [badW, hs]))
              have c5 : (!data.toList.isEmpty) = true := by simpa using c4
              clear hs
              go_wp2
              refine wp_region_plus (by kernel_rfl) (by kernel_rfl) ?_
              repeat (first | go_big_quiet_skip | (go_big_quiet_want; go_big_quiet_op; first | go_big_quiet_on | (apply Exists.intro; refine ⟨fun _ => ?_, ?_⟩; (first | (go_at_call 54; exact Calls.plus_same (HI.out _))); go_big_quiet_on)))
              refine wpQuiet_nil ?_
              rintro _ ⟨x, rfl⟩
              go_wp2
              go_ret
              exact ⟨by rw [HF.out]; rfl, (by repeat (first | exact Below.refl _ _ | refine blw_alloc ?_ | refine blw_plus ?_ | refine Below.drew ?_))⟩
      · have HI := hidp fun w => in_is w (decide_eq_false c0)
        have HF := hidp (HB.out (by simp [badW]; omega))
        clear hprev'
        go_wp2
        refine wp_region_plus (by kernel_rfl) (by kernel_rfl) ?_
        repeat (first | go_big_quiet_skip | (go_big_quiet_want; go_big_quiet_op; first | go_big_quiet_on | (apply Exists.intro; refine ⟨fun _ => ?_, ?_⟩; (first | (go_at_call 54; exact Calls.plus_same (HI.out _))); go_big_quiet_on)))
        refine wpQuiet_nil ?_
        rintro _ ⟨x, rfl⟩
        go_wp2
        go_ret
        exact ⟨by rw [HF.out]; rfl, (by repeat (first | exact Below.refl _ _ | refine blw_alloc ?_ | refine blw_plus ?_ | refine Below.drew ?_))⟩
    · have hkk : k = ws.length := by omega
      have hfin : rightWs ws = decide (1 ≤ (ws.length : Int) ∧ (ws.length : Int) ≤ 5) := by
        have h1 := HRW.out
        rw [hkk, List.drop_length] at h1
        rw [rightWs, h1, Bool.eq_iff_iff]; simp [rwGo]; omega
      have HI := hidp fun w => in_is (n := (ws.length : Int)) (lo := 1) (hi := 5) w hfin.symm
      clear hfin hkk HRW hprev
      go_wp2_with (go_at_call 54; refine (HI.out _).mono ?_; rintro e w' ⟨rfl, rfl⟩)
      go_ret
      exact ⟨rfl, (by repeat (first | exact Below.refl _ _ | refine blw_alloc ?_ | refine blw_plus ?_ | refine Below.drew ?_))⟩
end Go.Proofs.YtbopfhbeegkkaaaDoor
