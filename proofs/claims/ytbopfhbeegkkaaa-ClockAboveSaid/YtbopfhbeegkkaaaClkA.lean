import Derived.Test.YtbopfhbeegkkaaaClk
namespace Go.Proofs.Ytbopfhbeegkkaaa
open Go.RowKit

theorem cmpI_bd (x y : Int) : -1 ≤ cmpI x y ∧ cmpI x y ≤ 1 := by unfold cmpI; split <;> (try split) <;> omega
theorem cmpS_bd (aw ac bw bc : Int) : -1 ≤ cmpS aw ac bw bc ∧ cmpS aw ac bw bc ≤ 1 := by
  unfold cmpS orI; split
  · exact cmpI_bd _ _
  · exact cmpI_bd _ _
theorem cmpS_neg_iff (aw ac bw bc : Int) : cmpS aw ac bw bc < 0 ↔ (aw < bw ∨ aw = bw ∧ ac < bc) := by
  unfold cmpS orI cmpI; (repeat' split) <;> omega
theorem cmpS_pos_iff (aw ac bw bc : Int) : 0 < cmpS aw ac bw bc ↔ (bw < aw ∨ aw = bw ∧ bc < ac) := by
  unfold cmpS orI cmpI; (repeat' split) <;> omega
theorem cmpS_zero_iff (aw ac bw bc : Int) : cmpS aw ac bw bc = 0 ↔ (aw = bw ∧ ac = bc) := by
  unfold cmpS orI cmpI; (repeat' split) <;> omega
theorem cmpS_swap (aw ac bw bc : Int) : cmpS bw bc aw ac = - cmpS aw ac bw bc := by
  have h1 := cmpS_bd aw ac bw bc; have h2 := cmpS_bd bw bc aw ac
  have a1 := cmpS_neg_iff aw ac bw bc; have a2 := cmpS_pos_iff aw ac bw bc
  have b1 := cmpS_neg_iff bw bc aw ac; have b2 := cmpS_pos_iff bw bc aw ac
  by_cases p : cmpS aw ac bw bc < 0
  · have := a1.1 p; have := b2.2 (by omega); omega
  · by_cases q : 0 < cmpS aw ac bw bc
    · have := a2.1 q; have := b1.2 (by omega); omega
    · have c1 := (cmpS_zero_iff aw ac bw bc).1 (by omega)
      have := (cmpS_zero_iff bw bc aw ac).2 (by omega)
      omega

/-- what Next answers, as far as the order wants it -/
def NextGood (aw ac now sw sc : Int) : Prop := cmpS aw ac sw sc = -1 ∧ now ≤ sw ∧ rightS sw sc = true
theorem next_any (aw ac now : Int) (w : World) :
    Calls Try.prog 17 #[.agg #[.int .i64 aw, .int .i64 ac], .int .i64 now] w fun e w' => Below w.heap.size w w' ∧
      ((∃ sw sc, e = .returned (.tuple #[.agg #[.int .i64 sw, .int .i64 sc], .nilIface]) ∧ NextGood aw ac now sw sc) ∨
       (∃ sw sc n, e = .returned (.tuple #[.agg #[.int .i64 sw, .int .i64 sc], .iface 57 (.int .i64 n)]))) := by
  by_cases hr : rightS aw ac = true
  · have hb : 0 ≤ aw ∧ aw ≤ 1099511627776 ∧ 0 ≤ ac ∧ ac ≤ 1099511627776 := by simpa [rightS, and_assoc] using hr
    by_cases h0 : 0 ≤ now
    · by_cases h1 : now ≤ 1099511627776
      · by_cases h : aw < now
        · refine (next_new aw ac now w hr h0 h1 h).mono fun e w' ⟨he, hw⟩ => ⟨hw, .inl ⟨_, _, he, ?_, by omega, by simp [rightS]; omega⟩⟩
          have := (cmpS_neg_iff aw ac now 0).2 (by omega); have := cmpS_bd aw ac now 0; omega
        · by_cases hf : ac = 1099511627776
          · exact (next_full aw ac now w hr h0 h1 (by omega) (by simp [hf])).mono fun e w' ⟨he, hw⟩ => ⟨hw, .inr ⟨_, _, _, he⟩⟩
          · refine (next_inc aw ac now w hr h0 h1 (by omega) (by simp [hf]) (by omega)).mono fun e w' ⟨he, hw⟩ => ⟨hw, .inl ⟨_, _, he, ?_, by omega, by simp [rightS]; omega⟩⟩
            have := (cmpS_neg_iff aw ac aw (ac + 1)).2 (by omega); have := cmpS_bd aw ac aw (ac + 1); omega
      · exact (next_r3 aw ac now w hr h0 (by omega)).mono fun e w' ⟨he, hw⟩ => ⟨hw, .inr ⟨_, _, _, he⟩⟩
    · exact (next_r2 aw ac now w hr (by omega)).mono fun e w' ⟨he, hw⟩ => ⟨hw, .inr ⟨_, _, _, he⟩⟩
  · exact (next_r1 aw ac now w (by simpa using hr)).mono fun e w' ⟨he, hw⟩ => ⟨hw, .inr ⟨_, _, _, he⟩⟩

set_option maxHeartbeats 800000 in
theorem timed_any (w : World) : Calls Try.prog 16 #[] w fun e w' => e = .returned (.bool true) ∧ Below w.heap.size w w' := by
  go_enter Try.func16, Try.ntmps16
  go_wp2_with fail
  refine (next_inc 5 3 4 _ rfl (by omega) (by omega) (by omega) rfl (by omega)).mono ?_
  rintro e w' ⟨rfl, hb⟩; obtain ⟨x, rfl⟩ := wplus_of_below hb; clear hb
  go_wp2_with fail
  refine (next_new 5 4 6 _ rfl (by omega) (by omega) (by omega)).mono ?_
  rintro e w' ⟨rfl, hb⟩; obtain ⟨y, rfl⟩ := wplus_of_below hb; clear hb
  go_wp2

  go_ret
  exact ⟨rfl, (by repeat (first | exact Below.refl _ _ | refine blw_alloc ?_ | refine blw_plus ?_ | refine Below.drew ?_))⟩
end Go.Proofs.Ytbopfhbeegkkaaa
