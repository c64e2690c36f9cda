import Derived.Test.YtbopfhbeegkkaaaDoorClk
import Derived.Test.YtbopfhbeegkkaaaDoorAs
namespace Go.Proofs.YtbopfhbeegkkaaaDoor
open Go.RowKit
theorem in_yes (n lo hi : Int) (w : World) (h1 : lo ≤ n) (h2 : n ≤ hi) :
    Calls Tryd.prog 54 #[.int .i64 n, .int .i64 lo, .int .i64 hi] w fun e w' => e = .returned (.bool true) ∧ w = w' := by
  go_enter Tryd.func54, Tryd.ntmps54
  go_wp2
  go_ret
  exact ⟨by simp, rfl⟩
theorem in_no (n lo hi : Int) (w : World) (h : n < lo ∨ hi < n) :
    Calls Tryd.prog 54 #[.int .i64 n, .int .i64 lo, .int .i64 hi] w fun e w' => e = .returned (.bool false) ∧ w = w' := by
  by_cases h1 : n < lo
  · clear h
    go_enter Tryd.func54, Tryd.ntmps54
    go_wp2
    go_ret
    exact ⟨by simp, rfl⟩
  · have h2 : hi < n := by omega
    clear h
    go_enter Tryd.func54, Tryd.ntmps54
    go_wp2
    go_ret
    exact ⟨by simp; omega, rfl⟩

set_option maxHeartbeats 800000 in
theorem rRightS_any (aw ac : Int) (w : World) : Calls Tryd.prog 14 #[.agg #[.int .i64 aw, .int .i64 ac]] w fun e w' => e = .returned (.bool (rightS aw ac)) ∧ Below w.heap.size w w' := by
  by_cases ha : aw < 0
  · have e1 : rightS aw ac = false := by simp [rightS]; omega
    rw [e1]
    clear e1
    go_enter Tryd.func14, Tryd.ntmps14
    go_wp2_with ((go_at_call 54; first | (with_reducible refine (in_yes _ _ _ _ (by omega) (by omega)).mono ?_) | (with_reducible refine (in_no _ _ _ _ (by omega)).mono ?_)); (rintro e w' ⟨rfl, rfl⟩))
    go_ret
    exact ⟨by first | rfl | (simp; omega), (by repeat (first | exact Below.refl _ _ | refine blw_alloc ?_ | refine blw_plus ?_ | refine Below.drew ?_))⟩
  by_cases hb : 1099511627776 < aw
  · have e1 : rightS aw ac = false := by simp [rightS]; omega
    rw [e1]
    clear e1
    go_enter Tryd.func14, Tryd.ntmps14
    go_wp2_with ((go_at_call 54; first | (with_reducible refine (in_yes _ _ _ _ (by omega) (by omega)).mono ?_) | (with_reducible refine (in_no _ _ _ _ (by omega)).mono ?_)); (rintro e w' ⟨rfl, rfl⟩))
    go_ret
    exact ⟨by first | rfl | (simp; omega), (by repeat (first | exact Below.refl _ _ | refine blw_alloc ?_ | refine blw_plus ?_ | refine Below.drew ?_))⟩
  by_cases hc : ac < 0
  · have e1 : rightS aw ac = false := by simp [rightS]; omega
    rw [e1]
    clear e1
    go_enter Tryd.func14, Tryd.ntmps14
    go_wp2_with ((go_at_call 54; first | (with_reducible refine (in_yes _ _ _ _ (by omega) (by omega)).mono ?_) | (with_reducible refine (in_no _ _ _ _ (by omega)).mono ?_)); (rintro e w' ⟨rfl, rfl⟩))
    go_ret
    exact ⟨by first | rfl | (simp; omega), (by repeat (first | exact Below.refl _ _ | refine blw_alloc ?_ | refine blw_plus ?_ | refine Below.drew ?_))⟩
  by_cases hd : 1099511627776 < ac
  · have e1 : rightS aw ac = false := by simp [rightS]; omega
    rw [e1]
    clear e1
    go_enter Tryd.func14, Tryd.ntmps14
    go_wp2_with ((go_at_call 54; first | (with_reducible refine (in_yes _ _ _ _ (by omega) (by omega)).mono ?_) | (with_reducible refine (in_no _ _ _ _ (by omega)).mono ?_)); (rintro e w' ⟨rfl, rfl⟩))
    go_ret
    exact ⟨by first | rfl | (simp; omega), (by repeat (first | exact Below.refl _ _ | refine blw_alloc ?_ | refine blw_plus ?_ | refine Below.drew ?_))⟩
  have e1 : rightS aw ac = true := by simp [rightS]; omega
  rw [e1]
  clear e1
  go_enter Tryd.func14, Tryd.ntmps14
  go_wp2_with ((go_at_call 54; first | (with_reducible refine (in_yes _ _ _ _ (by omega) (by omega)).mono ?_) | (with_reducible refine (in_no _ _ _ _ (by omega)).mono ?_)); (rintro e w' ⟨rfl, rfl⟩))
  go_ret
  exact ⟨by first | rfl | (simp; omega), (by repeat (first | exact Below.refl _ _ | refine blw_alloc ?_ | refine blw_plus ?_ | refine Below.drew ?_))⟩

set_option maxHeartbeats 800000 in
theorem rCompare_any (aw ac bw bc : Int) (w : World) : Calls Tryd.prog 11 #[.agg #[.int .i64 aw, .int .i64 ac], .agg #[.int .i64 bw, .int .i64 bc]] w fun e w' => e = .returned (.int .i64 (cmpS aw ac bw bc)) ∧ Below w.heap.size w w' := by
  by_cases h0 : cmpS aw ac bw bc = 0
  · rw [h0]
    obtain ⟨rfl, rfl⟩ := (cmpS_zero_iff aw ac bw bc).1 h0
    clear h0
    go_enter Tryd.func11, Tryd.ntmps11
    go_wp2
    go_ret
    exact ⟨rfl, (by repeat (first | exact Below.refl _ _ | refine blw_alloc ?_ | refine blw_plus ?_ | refine Below.drew ?_))⟩
  · have hne : (aw == bw && ac == bc) = false := by
      rw [Bool.eq_false_iff]; intro h; simp at h
      exact h0 ((cmpS_zero_iff aw ac bw bc).2 h)
    have hbd := cmpS_bd aw ac bw bc
    by_cases h1 : cmpS aw ac bw bc < 0
    · have e1 : cmpS aw ac bw bc = -1 := by omega
      rw [e1]
      have hc := (cmpS_neg_iff aw ac bw bc).1 h1
      clear h0 h1 e1 hbd
      by_cases hl : aw < bw
      · go_enter Tryd.func11, Tryd.ntmps11
        go_wp2
        go_ret
        exact ⟨rfl, (by repeat (first | exact Below.refl _ _ | refine blw_alloc ?_ | refine blw_plus ?_ | refine Below.drew ?_))⟩
      · have hb1 : (aw == bw) = true := by simp; omega
        have hb2 : ac < bc := by omega
        have hd : decide (ac < bc) = true := by simp; omega
        clear hc
        go_enter Tryd.func11, Tryd.ntmps11
        go_wp2
        go_ret
        exact ⟨rfl, (by repeat (first | exact Below.refl _ _ | refine blw_alloc ?_ | refine blw_plus ?_ | refine Below.drew ?_))⟩
    · have e1 : cmpS aw ac bw bc = 1 := by omega
      rw [e1]
      have hc := (cmpS_pos_iff aw ac bw bc).1 (by omega)
      clear h0 h1 e1 hbd
      by_cases hl : bw < aw
      · have hb1 : (aw == bw) = false := by simp; omega
        have hb2 : ¬ aw < bw := by omega
        have hd : decide (aw < bw) = false := by simp; omega
        clear hc
        go_enter Tryd.func11, Tryd.ntmps11
        go_wp2
        go_ret
        exact ⟨rfl, (by repeat (first | exact Below.refl _ _ | refine blw_alloc ?_ | refine blw_plus ?_ | refine Below.drew ?_))⟩
      · have hb0 : aw = bw := by omega
        subst hb0
        have hb2 : ¬ ac < bc := by omega
        have hd : decide (ac < bc) = false := by simp; omega
        have hn2 : (ac == bc) = false := by simp; omega
        clear hc hne
        go_enter Tryd.func11, Tryd.ntmps11
        go_wp2
        go_ret
        exact ⟨rfl, (by repeat (first | exact Below.refl _ _ | refine blw_alloc ?_ | refine blw_plus ?_ | refine Below.drew ?_))⟩

set_option maxHeartbeats 800000 in
theorem rnext_r1 (aw ac now : Int) (w : World) (hr : rightS aw ac = false) :
    Calls Tryd.prog 9 #[.agg #[.int .i64 aw, .int .i64 ac], .int .i64 now] w fun e w' => e = .returned (.tuple #[.agg #[.int .i64 0, .int .i64 0], .int .i64 2]) ∧ Below w.heap.size w w' := by
  go_enter Tryd.func9, Tryd.ntmps9
  go_wp2_with (first | (go_at_call 14; with_reducible refine (rRightS_any _ _ _).mono ?_; (rintro e w' ⟨rfl, hb⟩; obtain ⟨x, rfl⟩ := wplus_of_below hb; clear hb)) | ((go_at_call 54; first | (with_reducible refine (in_yes _ _ _ _ (by omega) (by omega)).mono ?_) | (with_reducible refine (in_no _ _ _ _ (by omega)).mono ?_)); (rintro e w' ⟨rfl, rfl⟩)))
  exact bodyPost_ret (v := .tuple #[.agg #[.int .i64 0, .int .i64 0], .int .i64 2]) (by simp [results, Tryd.results9, go_sem]) rfl ⟨rfl, (by repeat (first | exact Below.refl _ _ | refine blw_alloc ?_ | refine blw_plus ?_ | refine Below.drew ?_))⟩

set_option maxHeartbeats 800000 in
theorem rnext_r2 (aw ac now : Int) (w : World) (hr : rightS aw ac = true) (h : now < 0) :
    Calls Tryd.prog 9 #[.agg #[.int .i64 aw, .int .i64 ac], .int .i64 now] w fun e w' => e = .returned (.tuple #[.agg #[.int .i64 0, .int .i64 0], .int .i64 2]) ∧ Below w.heap.size w w' := by
  go_enter Tryd.func9, Tryd.ntmps9
  go_wp2_with (first | (go_at_call 14; with_reducible refine (rRightS_any _ _ _).mono ?_; (rintro e w' ⟨rfl, hb⟩; obtain ⟨x, rfl⟩ := wplus_of_below hb; clear hb)) | ((go_at_call 54; first | (with_reducible refine (in_yes _ _ _ _ (by omega) (by omega)).mono ?_) | (with_reducible refine (in_no _ _ _ _ (by omega)).mono ?_)); (rintro e w' ⟨rfl, rfl⟩)))
  exact bodyPost_ret (v := .tuple #[.agg #[.int .i64 0, .int .i64 0], .int .i64 2]) (by simp [results, Tryd.results9, go_sem]) rfl ⟨rfl, (by repeat (first | exact Below.refl _ _ | refine blw_alloc ?_ | refine blw_plus ?_ | refine Below.drew ?_))⟩

set_option maxHeartbeats 800000 in
theorem rnext_r3 (aw ac now : Int) (w : World) (hr : rightS aw ac = true) (h0 : 0 ≤ now) (h : 1099511627776 < now) :
    Calls Tryd.prog 9 #[.agg #[.int .i64 aw, .int .i64 ac], .int .i64 now] w fun e w' => e = .returned (.tuple #[.agg #[.int .i64 0, .int .i64 0], .int .i64 2]) ∧ Below w.heap.size w w' := by
  go_enter Tryd.func9, Tryd.ntmps9
  go_wp2_with (first | (go_at_call 14; with_reducible refine (rRightS_any _ _ _).mono ?_; (rintro e w' ⟨rfl, hb⟩; obtain ⟨x, rfl⟩ := wplus_of_below hb; clear hb)) | ((go_at_call 54; first | (with_reducible refine (in_yes _ _ _ _ (by omega) (by omega)).mono ?_) | (with_reducible refine (in_no _ _ _ _ (by omega)).mono ?_)); (rintro e w' ⟨rfl, rfl⟩)))
  exact bodyPost_ret (v := .tuple #[.agg #[.int .i64 0, .int .i64 0], .int .i64 2]) (by simp [results, Tryd.results9, go_sem]) rfl ⟨rfl, (by repeat (first | exact Below.refl _ _ | refine blw_alloc ?_ | refine blw_plus ?_ | refine Below.drew ?_))⟩

set_option maxHeartbeats 800000 in
theorem rnext_new (aw ac now : Int) (w : World) (hr : rightS aw ac = true) (h0 : 0 ≤ now) (h1 : now ≤ 1099511627776) (h : aw < now) :
    Calls Tryd.prog 9 #[.agg #[.int .i64 aw, .int .i64 ac], .int .i64 now] w fun e w' => e = .returned (.tuple #[.agg #[.int .i64 now, .int .i64 0], .int .i64 0]) ∧ Below w.heap.size w w' := by
  go_enter Tryd.func9, Tryd.ntmps9
  go_wp2_with (first | (go_at_call 14; with_reducible refine (rRightS_any _ _ _).mono ?_; (rintro e w' ⟨rfl, hb⟩; obtain ⟨x, rfl⟩ := wplus_of_below hb; clear hb)) | ((go_at_call 54; first | (with_reducible refine (in_yes _ _ _ _ (by omega) (by omega)).mono ?_) | (with_reducible refine (in_no _ _ _ _ (by omega)).mono ?_)); (rintro e w' ⟨rfl, rfl⟩)))
  exact bodyPost_ret (v := .tuple #[.agg #[.int .i64 now, .int .i64 0], .int .i64 0]) (by simp [results, Tryd.results9, go_sem]) rfl ⟨rfl, (by repeat (first | exact Below.refl _ _ | refine blw_alloc ?_ | refine blw_plus ?_ | refine Below.drew ?_))⟩

set_option maxHeartbeats 800000 in
theorem rnext_full (aw ac now : Int) (w : World) (hr : rightS aw ac = true) (h0 : 0 ≤ now) (h1 : now ≤ 1099511627776) (h : now ≤ aw) (hf : 1099511627776 < ac + 1) (hb : 0 ≤ ac ∧ ac ≤ 1099511627776) :
    Calls Tryd.prog 9 #[.agg #[.int .i64 aw, .int .i64 ac], .int .i64 now] w fun e w' => e = .returned (.tuple #[.agg #[.int .i64 0, .int .i64 0], .int .i64 12]) ∧ Below w.heap.size w w' := by
  go_enter Tryd.func9, Tryd.ntmps9
  go_wp2_with (first | (go_at_call 14; with_reducible refine (rRightS_any _ _ _).mono ?_; (rintro e w' ⟨rfl, hb⟩; obtain ⟨x, rfl⟩ := wplus_of_below hb; clear hb)) | ((go_at_call 54; first | (with_reducible refine (in_yes _ _ _ _ (by omega) (by omega)).mono ?_) | (with_reducible refine (in_no _ _ _ _ (by omega)).mono ?_)); (rintro e w' ⟨rfl, rfl⟩)))
  exact bodyPost_ret (v := .tuple #[.agg #[.int .i64 0, .int .i64 0], .int .i64 12]) (by simp [results, Tryd.results9, go_sem]) rfl ⟨rfl, (by repeat (first | exact Below.refl _ _ | refine blw_alloc ?_ | refine blw_plus ?_ | refine Below.drew ?_))⟩

set_option maxHeartbeats 800000 in
theorem rnext_inc (aw ac now : Int) (w : World) (hr : rightS aw ac = true) (h0 : 0 ≤ now) (h1 : now ≤ 1099511627776) (h : now ≤ aw) (hf : ac + 1 ≤ 1099511627776) (hb : 0 ≤ ac ∧ ac ≤ 1099511627776) :
    Calls Tryd.prog 9 #[.agg #[.int .i64 aw, .int .i64 ac], .int .i64 now] w fun e w' => e = .returned (.tuple #[.agg #[.int .i64 aw, .int .i64 (ac + 1)], .int .i64 0]) ∧ Below w.heap.size w w' := by
  go_enter Tryd.func9, Tryd.ntmps9
  go_wp2_with (first | (go_at_call 14; with_reducible refine (rRightS_any _ _ _).mono ?_; (rintro e w' ⟨rfl, hb⟩; obtain ⟨x, rfl⟩ := wplus_of_below hb; clear hb)) | ((go_at_call 54; first | (with_reducible refine (in_yes _ _ _ _ (by omega) (by omega)).mono ?_) | (with_reducible refine (in_no _ _ _ _ (by omega)).mono ?_)); (rintro e w' ⟨rfl, rfl⟩)))
  exact bodyPost_ret (v := .tuple #[.agg #[.int .i64 aw, .int .i64 (ac + 1)], .int .i64 0]) (by simp [results, Tryd.results9, go_sem]) rfl ⟨rfl, (by repeat (first | exact Below.refl _ _ | refine blw_alloc ?_ | refine blw_plus ?_ | refine Below.drew ?_))⟩

theorem bareL_nil (w : World) : Calls Tryd.prog 12 #[.nilIface, .int .i64 0] w fun e w' => e = .returned (.bool true) ∧ Below w.heap.size w w' := by
  go_enter Tryd.func12, Tryd.ntmps12
  go_wp2_with (go_at_call 55; refine (bare_nil _).mono ?_; rintro e w' ⟨rfl, rfl⟩)
  go_ret
  exact ⟨rfl, Below.refl _ _⟩
theorem bareL_errno (n : Int) (w : World) (hg : EType w) : Calls Tryd.prog 12 #[.iface 24 (.int .i64 n), .int .i64 n] w fun e w' => e = .returned (.bool true) ∧ Below w.heap.size w w' := by
  go_enter Tryd.func12, Tryd.ntmps12
  go_wp2_with fail
  refine (bare_errno n _ hg).mono ?_
  rintro e w' ⟨rfl, hb⟩; obtain ⟨x, rfl⟩ := wplus_of_below hb; clear hb
  go_wp2
  go_ret
  exact ⟨rfl, (by repeat (first | exact Below.refl _ _ | refine blw_alloc ?_ | refine blw_plus ?_ | refine Below.drew ?_))⟩

/-- the two Nexts answer alike -/
theorem nexts (aw ac now : Int) :
    (∃ sw sc, (∀ w, Calls Tryd.prog 10 #[.agg #[.int .i64 aw, .int .i64 ac], .int .i64 now] w fun e w' => e = .returned (.tuple #[.agg #[.int .i64 sw, .int .i64 sc], .nilIface]) ∧ Below w.heap.size w w') ∧
      (∀ w, Calls Tryd.prog 9 #[.agg #[.int .i64 aw, .int .i64 ac], .int .i64 now] w fun e w' => e = .returned (.tuple #[.agg #[.int .i64 sw, .int .i64 sc], .int .i64 0]) ∧ Below w.heap.size w w')) ∨
    (∃ sw sc n, (∀ w, Calls Tryd.prog 10 #[.agg #[.int .i64 aw, .int .i64 ac], .int .i64 now] w fun e w' => e = .returned (.tuple #[.agg #[.int .i64 sw, .int .i64 sc], .iface 24 (.int .i64 n)]) ∧ Below w.heap.size w w') ∧
      (∀ w, Calls Tryd.prog 9 #[.agg #[.int .i64 aw, .int .i64 ac], .int .i64 now] w fun e w' => e = .returned (.tuple #[.agg #[.int .i64 sw, .int .i64 sc], .int .i64 n]) ∧ Below w.heap.size w w')) := by
  by_cases hr : rightS aw ac = true
  · have hb : 0 ≤ aw ∧ aw ≤ 1099511627776 ∧ 0 ≤ ac ∧ ac ≤ 1099511627776 := by simpa [rightS, and_assoc] using hr
    by_cases h0 : 0 ≤ now
    · by_cases h1 : now ≤ 1099511627776
      · by_cases h : aw < now
        · exact .inl ⟨_, _, fun w => next_new aw ac now w hr h0 h1 h, fun w => rnext_new aw ac now w hr h0 h1 h⟩
        · by_cases hf : ac = 1099511627776
          · exact .inr ⟨_, _, _, fun w => next_full aw ac now w hr h0 h1 (by omega) (by simp [hf]), fun w => rnext_full aw ac now w hr h0 h1 (by omega) (by omega) (by omega)⟩
          · exact .inl ⟨_, _, fun w => next_inc aw ac now w hr h0 h1 (by omega) (by simp [hf]) (by omega), fun w => rnext_inc aw ac now w hr h0 h1 (by omega) (by omega) (by omega)⟩
      · exact .inr ⟨_, _, _, fun w => next_r3 aw ac now w hr h0 (by omega), fun w => rnext_r3 aw ac now w hr h0 (by omega)⟩
    · exact .inr ⟨_, _, _, fun w => next_r2 aw ac now w hr (by omega), fun w => rnext_r2 aw ac now w hr (by omega)⟩
  · exact .inr ⟨_, _, _, fun w => next_r1 aw ac now w (by simpa using hr), fun w => rnext_r1 aw ac now w (by simpa using hr)⟩
end Go.Proofs.YtbopfhbeegkkaaaDoor
