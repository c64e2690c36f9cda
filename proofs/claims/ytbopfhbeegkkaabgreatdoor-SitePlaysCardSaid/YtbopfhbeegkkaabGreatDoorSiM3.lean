/- Part 3 of a proof: lemmas and contracts that other parts use. -/
import Derived.Test.YtbopfhbeegkkaabGreatDoorSiM2
set_option linter.unusedVariables false
set_option linter.unusedSimpArgs false
namespace Go.Proofs.YtbopfhbeegkkaabGreatDoor
open Go.RowKit
theorem in_yes (n lo hi : Int) (w : World) (h1 : lo ≤ n) (h2 : n ≤ hi) :
    Calls Tryz.prog 96 #[.int .i64 n, .int .i64 lo, .int .i64 hi] w fun e w' => e = .returned (.bool true) ∧ w = w' := by
  go_enter Tryz.func96, Tryz.ntmps96
  go_wp2
  go_ret
  exact ⟨by simp, rfl⟩
theorem in_no (n lo hi : Int) (w : World) (h : n < lo ∨ hi < n) :
    Calls Tryz.prog 96 #[.int .i64 n, .int .i64 lo, .int .i64 hi] w fun e w' => e = .returned (.bool false) ∧ w = w' := by
  by_cases h1 : n < lo
  · clear h
    go_enter Tryz.func96, Tryz.ntmps96
    go_wp2
    go_ret
    exact ⟨by simp, rfl⟩
  · have h2 : hi < n := by omega
    clear h
    go_enter Tryz.func96, Tryz.ntmps96
    go_wp2
    go_ret
    exact ⟨by simp; omega, rfl⟩

set_option maxHeartbeats 800000 in
theorem rRightS_any (aw ac : Int) (w : World) : Calls Tryz.prog 132 #[.agg #[.int .i64 aw, .int .i64 ac]] w fun e w' => e = .returned (.bool (rightS aw ac)) ∧ Below w.heap.size w w' := by
  by_cases ha : aw < 0
  · have e1 : rightS aw ac = false := by simp [rightS]; omega
    rw [e1]
    clear e1
    go_enter Tryz.func132, Tryz.ntmps132
    go_wp2_with ((go_at_call 96; first | (with_reducible refine (in_yes _ _ _ _ (by omega) (by omega)).mono ?_) | (with_reducible refine (in_no _ _ _ _ (by omega)).mono ?_)); (rintro e w' ⟨rfl, rfl⟩))
    go_ret
    exact ⟨by first | rfl | (simp; omega), (by repeat (first | exact Below.refl _ _ | refine blw_alloc ?_ | refine blw_plus ?_ | refine Below.drew ?_))⟩
  by_cases hb : 1099511627776 < aw
  · have e1 : rightS aw ac = false := by simp [rightS]; omega
    rw [e1]
    clear e1
    go_enter Tryz.func132, Tryz.ntmps132
    go_wp2_with ((go_at_call 96; first | (with_reducible refine (in_yes _ _ _ _ (by omega) (by omega)).mono ?_) | (with_reducible refine (in_no _ _ _ _ (by omega)).mono ?_)); (rintro e w' ⟨rfl, rfl⟩))
    go_ret
    exact ⟨by first | rfl | (simp; omega), (by repeat (first | exact Below.refl _ _ | refine blw_alloc ?_ | refine blw_plus ?_ | refine Below.drew ?_))⟩
  by_cases hc : ac < 0
  · have e1 : rightS aw ac = false := by simp [rightS]; omega
    rw [e1]
    clear e1
    go_enter Tryz.func132, Tryz.ntmps132
    go_wp2_with ((go_at_call 96; first | (with_reducible refine (in_yes _ _ _ _ (by omega) (by omega)).mono ?_) | (with_reducible refine (in_no _ _ _ _ (by omega)).mono ?_)); (rintro e w' ⟨rfl, rfl⟩))
    go_ret
    exact ⟨by first | rfl | (simp; omega), (by repeat (first | exact Below.refl _ _ | refine blw_alloc ?_ | refine blw_plus ?_ | refine Below.drew ?_))⟩
  by_cases hd : 1099511627776 < ac
  · have e1 : rightS aw ac = false := by simp [rightS]; omega
    rw [e1]
    clear e1
    go_enter Tryz.func132, Tryz.ntmps132
    go_wp2_with ((go_at_call 96; first | (with_reducible refine (in_yes _ _ _ _ (by omega) (by omega)).mono ?_) | (with_reducible refine (in_no _ _ _ _ (by omega)).mono ?_)); (rintro e w' ⟨rfl, rfl⟩))
    go_ret
    exact ⟨by first | rfl | (simp; omega), (by repeat (first | exact Below.refl _ _ | refine blw_alloc ?_ | refine blw_plus ?_ | refine Below.drew ?_))⟩
  have e1 : rightS aw ac = true := by simp [rightS]; omega
  rw [e1]
  clear e1
  go_enter Tryz.func132, Tryz.ntmps132
  go_wp2_with ((go_at_call 96; first | (with_reducible refine (in_yes _ _ _ _ (by omega) (by omega)).mono ?_) | (with_reducible refine (in_no _ _ _ _ (by omega)).mono ?_)); (rintro e w' ⟨rfl, rfl⟩))
  go_ret
  exact ⟨by first | rfl | (simp; omega), (by repeat (first | exact Below.refl _ _ | refine blw_alloc ?_ | refine blw_plus ?_ | refine Below.drew ?_))⟩

set_option maxHeartbeats 800000 in
theorem rCompare_any (aw ac bw bc : Int) (w : World) : Calls Tryz.prog 134 #[.agg #[.int .i64 aw, .int .i64 ac], .agg #[.int .i64 bw, .int .i64 bc]] w fun e w' => e = .returned (.int .i64 (cmpS aw ac bw bc)) ∧ Below w.heap.size w w' := by
  by_cases h0 : cmpS aw ac bw bc = 0
  · rw [h0]
    obtain ⟨rfl, rfl⟩ := (cmpS_zero_iff aw ac bw bc).1 h0
    clear h0
    go_enter Tryz.func134, Tryz.ntmps134
    go_wp2
    go_ret
    exact ⟨rfl, (by repeat (first | exact Below.refl _ _ | refine blw_alloc ?_ | refine blw_plus ?_ | refine Below.drew ?_))⟩
  · have hne : (aw == bw && ac == bc) = false := by
      rw [Bool.eq_false_iff]; intro h; simp at h
      exact h0 ((cmpS_zero_iff aw ac bw bc).2 h)
    have hbd := cmpS_bd aw ac bw bc
    by_cases h1 : cmpS aw ac bw bc < 0
    · have e1 : cmpS aw ac bw bc = -1 := by omega
      rw [e1]
      have hc := (cmpS_neg_iff aw ac bw bc).1 h1
      clear h0 h1 e1 hbd
      by_cases hl : aw < bw
      · go_enter Tryz.func134, Tryz.ntmps134
        go_wp2
        go_ret
        exact ⟨rfl, (by repeat (first | exact Below.refl _ _ | refine blw_alloc ?_ | refine blw_plus ?_ | refine Below.drew ?_))⟩
      · have hb1 : (aw == bw) = true := by simp; omega
        have hb2 : ac < bc := by omega
        have hd : decide (ac < bc) = true := by simp; omega
        clear hc
        go_enter Tryz.func134, Tryz.ntmps134
        go_wp2
        go_ret
        exact ⟨rfl, (by repeat (first | exact Below.refl _ _ | refine blw_alloc ?_ | refine blw_plus ?_ | refine Below.drew ?_))⟩
    · have e1 : cmpS aw ac bw bc = 1 := by omega
      rw [e1]
      have hc := (cmpS_pos_iff aw ac bw bc).1 (by omega)
      clear h0 h1 e1 hbd
      by_cases hl : bw < aw
      · have hb1 : (aw == bw) = false := by simp; omega
        have hb2 : ¬ aw < bw := by omega
        have hd : decide (aw < bw) = false := by simp; omega
        clear hc
        go_enter Tryz.func134, Tryz.ntmps134
        go_wp2
        go_ret
        exact ⟨rfl, (by repeat (first | exact Below.refl _ _ | refine blw_alloc ?_ | refine blw_plus ?_ | refine Below.drew ?_))⟩
      · have hb0 : aw = bw := by omega
        subst hb0
        have hb2 : ¬ ac < bc := by omega
        have hd : decide (ac < bc) = false := by simp; omega
        have hn2 : (ac == bc) = false := by simp; omega
        clear hc hne
        go_enter Tryz.func134, Tryz.ntmps134
        go_wp2
        go_ret
        exact ⟨rfl, (by repeat (first | exact Below.refl _ _ | refine blw_alloc ?_ | refine blw_plus ?_ | refine Below.drew ?_))⟩

set_option maxHeartbeats 800000 in
theorem rnext_r1 (aw ac now : Int) (w : World) (hr : rightS aw ac = false) :
    Calls Tryz.prog 74 #[.agg #[.int .i64 aw, .int .i64 ac], .int .i64 now] w fun e w' => e = .returned (.tuple #[.agg #[.int .i64 0, .int .i64 0], .int .i64 2]) ∧ Below w.heap.size w w' := by
  go_enter Tryz.func74, Tryz.ntmps74
  go_wp2_with (first | (go_at_call 132; with_reducible refine (rRightS_any _ _ _).mono ?_; (rintro e w' ⟨rfl, hb⟩; obtain ⟨x, rfl⟩ := wplus_of_below hb; clear hb)) | ((go_at_call 96; first | (with_reducible refine (in_yes _ _ _ _ (by omega) (by omega)).mono ?_) | (with_reducible refine (in_no _ _ _ _ (by omega)).mono ?_)); (rintro e w' ⟨rfl, rfl⟩)))
  exact bodyPost_ret (v := .tuple #[.agg #[.int .i64 0, .int .i64 0], .int .i64 2]) (by simp [results, Tryz.results74, go_sem]) rfl ⟨rfl, (by repeat (first | exact Below.refl _ _ | refine blw_alloc ?_ | refine blw_plus ?_ | refine Below.drew ?_))⟩

set_option maxHeartbeats 800000 in
theorem rnext_r2 (aw ac now : Int) (w : World) (hr : rightS aw ac = true) (h : now < 0) :
    Calls Tryz.prog 74 #[.agg #[.int .i64 aw, .int .i64 ac], .int .i64 now] w fun e w' => e = .returned (.tuple #[.agg #[.int .i64 0, .int .i64 0], .int .i64 2]) ∧ Below w.heap.size w w' := by
  go_enter Tryz.func74, Tryz.ntmps74
  go_wp2_with (first | (go_at_call 132; with_reducible refine (rRightS_any _ _ _).mono ?_; (rintro e w' ⟨rfl, hb⟩; obtain ⟨x, rfl⟩ := wplus_of_below hb; clear hb)) | ((go_at_call 96; first | (with_reducible refine (in_yes _ _ _ _ (by omega) (by omega)).mono ?_) | (with_reducible refine (in_no _ _ _ _ (by omega)).mono ?_)); (rintro e w' ⟨rfl, rfl⟩)))
  exact bodyPost_ret (v := .tuple #[.agg #[.int .i64 0, .int .i64 0], .int .i64 2]) (by simp [results, Tryz.results74, go_sem]) rfl ⟨rfl, (by repeat (first | exact Below.refl _ _ | refine blw_alloc ?_ | refine blw_plus ?_ | refine Below.drew ?_))⟩

set_option maxHeartbeats 800000 in
theorem rnext_r3 (aw ac now : Int) (w : World) (hr : rightS aw ac = true) (h0 : 0 ≤ now) (h : 1099511627776 < now) :
    Calls Tryz.prog 74 #[.agg #[.int .i64 aw, .int .i64 ac], .int .i64 now] w fun e w' => e = .returned (.tuple #[.agg #[.int .i64 0, .int .i64 0], .int .i64 2]) ∧ Below w.heap.size w w' := by
  go_enter Tryz.func74, Tryz.ntmps74
  go_wp2_with (first | (go_at_call 132; with_reducible refine (rRightS_any _ _ _).mono ?_; (rintro e w' ⟨rfl, hb⟩; obtain ⟨x, rfl⟩ := wplus_of_below hb; clear hb)) | ((go_at_call 96; first | (with_reducible refine (in_yes _ _ _ _ (by omega) (by omega)).mono ?_) | (with_reducible refine (in_no _ _ _ _ (by omega)).mono ?_)); (rintro e w' ⟨rfl, rfl⟩)))
  exact bodyPost_ret (v := .tuple #[.agg #[.int .i64 0, .int .i64 0], .int .i64 2]) (by simp [results, Tryz.results74, go_sem]) rfl ⟨rfl, (by repeat (first | exact Below.refl _ _ | refine blw_alloc ?_ | refine blw_plus ?_ | refine Below.drew ?_))⟩

set_option maxHeartbeats 800000 in
theorem rnext_new (aw ac now : Int) (w : World) (hr : rightS aw ac = true) (h0 : 0 ≤ now) (h1 : now ≤ 1099511627776) (h : aw < now) :
    Calls Tryz.prog 74 #[.agg #[.int .i64 aw, .int .i64 ac], .int .i64 now] w fun e w' => e = .returned (.tuple #[.agg #[.int .i64 now, .int .i64 0], .int .i64 0]) ∧ Below w.heap.size w w' := by
  go_enter Tryz.func74, Tryz.ntmps74
  go_wp2_with (first | (go_at_call 132; with_reducible refine (rRightS_any _ _ _).mono ?_; (rintro e w' ⟨rfl, hb⟩; obtain ⟨x, rfl⟩ := wplus_of_below hb; clear hb)) | ((go_at_call 96; first | (with_reducible refine (in_yes _ _ _ _ (by omega) (by omega)).mono ?_) | (with_reducible refine (in_no _ _ _ _ (by omega)).mono ?_)); (rintro e w' ⟨rfl, rfl⟩)))
  exact bodyPost_ret (v := .tuple #[.agg #[.int .i64 now, .int .i64 0], .int .i64 0]) (by simp [results, Tryz.results74, go_sem]) rfl ⟨rfl, (by repeat (first | exact Below.refl _ _ | refine blw_alloc ?_ | refine blw_plus ?_ | refine Below.drew ?_))⟩

set_option maxHeartbeats 800000 in
theorem rnext_full (aw ac now : Int) (w : World) (hr : rightS aw ac = true) (h0 : 0 ≤ now) (h1 : now ≤ 1099511627776) (h : now ≤ aw) (hf : 1099511627776 < ac + 1) (hb : 0 ≤ ac ∧ ac ≤ 1099511627776) :
    Calls Tryz.prog 74 #[.agg #[.int .i64 aw, .int .i64 ac], .int .i64 now] w fun e w' => e = .returned (.tuple #[.agg #[.int .i64 0, .int .i64 0], .int .i64 12]) ∧ Below w.heap.size w w' := by
  go_enter Tryz.func74, Tryz.ntmps74
  go_wp2_with (first | (go_at_call 132; with_reducible refine (rRightS_any _ _ _).mono ?_; (rintro e w' ⟨rfl, hb⟩; obtain ⟨x, rfl⟩ := wplus_of_below hb; clear hb)) | ((go_at_call 96; first | (with_reducible refine (in_yes _ _ _ _ (by omega) (by omega)).mono ?_) | (with_reducible refine (in_no _ _ _ _ (by omega)).mono ?_)); (rintro e w' ⟨rfl, rfl⟩)))
  exact bodyPost_ret (v := .tuple #[.agg #[.int .i64 0, .int .i64 0], .int .i64 12]) (by simp [results, Tryz.results74, go_sem]) rfl ⟨rfl, (by repeat (first | exact Below.refl _ _ | refine blw_alloc ?_ | refine blw_plus ?_ | refine Below.drew ?_))⟩

set_option maxHeartbeats 800000 in
theorem rnext_inc (aw ac now : Int) (w : World) (hr : rightS aw ac = true) (h0 : 0 ≤ now) (h1 : now ≤ 1099511627776) (h : now ≤ aw) (hf : ac + 1 ≤ 1099511627776) (hb : 0 ≤ ac ∧ ac ≤ 1099511627776) :
    Calls Tryz.prog 74 #[.agg #[.int .i64 aw, .int .i64 ac], .int .i64 now] w fun e w' => e = .returned (.tuple #[.agg #[.int .i64 aw, .int .i64 (ac + 1)], .int .i64 0]) ∧ Below w.heap.size w w' := by
  go_enter Tryz.func74, Tryz.ntmps74
  go_wp2_with (first | (go_at_call 132; with_reducible refine (rRightS_any _ _ _).mono ?_; (rintro e w' ⟨rfl, hb⟩; obtain ⟨x, rfl⟩ := wplus_of_below hb; clear hb)) | ((go_at_call 96; first | (with_reducible refine (in_yes _ _ _ _ (by omega) (by omega)).mono ?_) | (with_reducible refine (in_no _ _ _ _ (by omega)).mono ?_)); (rintro e w' ⟨rfl, rfl⟩)))
  exact bodyPost_ret (v := .tuple #[.agg #[.int .i64 aw, .int .i64 (ac + 1)], .int .i64 0]) (by simp [results, Tryz.results74, go_sem]) rfl ⟨rfl, (by repeat (first | exact Below.refl _ _ | refine blw_alloc ?_ | refine blw_plus ?_ | refine Below.drew ?_))⟩

theorem bareL_nil (w : World) : Calls Tryz.prog 12 #[.nilIface, .int .i64 0] w fun e w' => e = .returned (.bool true) ∧ Below w.heap.size w w' := by
  go_enter Tryz.func12, Tryz.ntmps12
  go_wp2_with (go_at_call 70; refine (bare_nil _).mono ?_; rintro e w' ⟨rfl, rfl⟩)
  go_ret
  exact ⟨rfl, Below.refl _ _⟩
theorem bareL_errno (n : Int) (w : World) (hg : EType w) : Calls Tryz.prog 12 #[.iface 29 (.int .i64 n), .int .i64 n] w fun e w' => e = .returned (.bool true) ∧ Below w.heap.size w w' := by
  go_enter Tryz.func12, Tryz.ntmps12
  go_wp2_with fail
  refine (bare_errno n _ hg).mono ?_
  rintro e w' ⟨rfl, hb⟩; obtain ⟨x, rfl⟩ := wplus_of_below hb; clear hb
  go_wp2
  go_ret
  exact ⟨rfl, (by repeat (first | exact Below.refl _ _ | refine blw_alloc ?_ | refine blw_plus ?_ | refine Below.drew ?_))⟩

/-- the two Nexts answer alike -/
theorem nexts (aw ac now : Int) :
    (∃ sw sc, (∀ w, Calls Tryz.prog 78 #[.agg #[.int .i64 aw, .int .i64 ac], .int .i64 now] w fun e w' => e = .returned (.tuple #[.agg #[.int .i64 sw, .int .i64 sc], .nilIface]) ∧ Below w.heap.size w w') ∧
      (∀ w, Calls Tryz.prog 74 #[.agg #[.int .i64 aw, .int .i64 ac], .int .i64 now] w fun e w' => e = .returned (.tuple #[.agg #[.int .i64 sw, .int .i64 sc], .int .i64 0]) ∧ Below w.heap.size w w')) ∨
    (∃ sw sc n, (∀ w, Calls Tryz.prog 78 #[.agg #[.int .i64 aw, .int .i64 ac], .int .i64 now] w fun e w' => e = .returned (.tuple #[.agg #[.int .i64 sw, .int .i64 sc], .iface 29 (.int .i64 n)]) ∧ Below w.heap.size w w') ∧
      (∀ w, Calls Tryz.prog 74 #[.agg #[.int .i64 aw, .int .i64 ac], .int .i64 now] w fun e w' => e = .returned (.tuple #[.agg #[.int .i64 sw, .int .i64 sc], .int .i64 n]) ∧ Below w.heap.size w w')) := by
  by_cases hr : rightS aw ac = true
  · have hb : 0 ≤ aw ∧ aw ≤ 1099511627776 ∧ 0 ≤ ac ∧ ac ≤ 1099511627776 := by simpa [rightS, and_assoc] using hr
    by_cases h0 : 0 ≤ now
    · by_cases h1 : now ≤ 1099511627776
      · by_cases h : aw < now
        · exact .inl ⟨_, _, fun w => next_new aw ac now w hr h0 h1 h, fun w => rnext_new aw ac now w hr h0 h1 h⟩
        · by_cases hf : ac = 1099511627776
          · exact .inr ⟨_, _, _, fun w => next_full aw ac now w hr h0 h1 (by omega) (by simp [hf]), fun w => rnext_full aw ac now w hr h0 h1 (by omega) (by omega) (by omega)⟩
          · exact .inl ⟨_, _, fun w => next_inc aw ac now w hr h0 h1 (by omega) (by simp [hf]) (by omega), fun w => rnext_inc aw ac now w hr h0 h1 (by omega) (by omega) (by omega)⟩
      · exact .inr ⟨_, _, _, fun w => next_r3 aw ac now w hr h0 (by omega), fun w => rnext_r3 aw ac now w hr h0 (by omega)⟩
    · exact .inr ⟨_, _, _, fun w => next_r2 aw ac now w hr (by omega), fun w => rnext_r2 aw ac now w hr (by omega)⟩
  · exact .inr ⟨_, _, _, fun w => next_r1 aw ac now w (by simpa using hr), fun w => rnext_r1 aw ac now w (by simpa using hr)⟩
end Go.Proofs.YtbopfhbeegkkaabGreatDoor

namespace Go.Proofs.YtbopfhbeegkkaabGreatDoor

/-- a number's bytes: seven bits a byte, the least ones first -/
def numB (n : Nat) : List UInt8 := if h : n < 128 then [n.toUInt8] else (n % 128 + 128).toUInt8 :: numB (n / 128)
termination_by n
decreasing_by omega
def numsB (l : List Nat) : List UInt8 := l.flatMap numB
theorem numB_lt {n : Nat} (h : n < 128) : numB n = [n.toUInt8] := by rw [numB]; simp [h]
theorem numB_ge {n : Nat} (h : ¬ n < 128) : numB n = (n % 128 + 128).toUInt8 :: numB (n / 128) := by rw [numB]; simp [h]
theorem numB_len (n : Nat) : ∀ k, n < 128 ^ k → 1 ≤ k → (numB n).length ≤ k := by
  induction n using Nat.strongRecOn with
  | _ n ih =>
    intro k hk h1
    by_cases h : n < 128
    · rw [numB_lt h]; simpa using h1
    · rw [numB_ge h]
      have hk2 : 2 ≤ k := by
        rcases k with _ | _ | k
        · omega
        · simp at hk; omega
        · omega
      obtain ⟨j, rfl⟩ : ∃ j, k = j + 1 := ⟨k - 1, by omega⟩
      have := ih (n / 128) (by omega) j (by rw [Nat.div_lt_iff_lt_mul (by decide)]; rw [Nat.pow_succ] at hk; exact hk) (by omega)
      simp; omega

/-- a number, read from a list of bytes: seven bits a byte -/
def rdGo (i n : Nat) : List UInt8 → Option (Nat × List UInt8)
  | [] => none
  | b :: bs =>
    if 5 < i ∨ 1099511627776 < n + b.toNat % 128 * 128 ^ i ∨ (b.toNat = 0 ∧ 0 < i) then none
    else if b.toNat < 128 then some (n + b.toNat % 128 * 128 ^ i, bs) else rdGo (i + 1) (n + b.toNat % 128 * 128 ^ i) bs
def rdNum (l : List UInt8) : Option (Nat × List UInt8) := rdGo 0 0 l

theorem rdGo_more {s : List UInt8} : ∀ (p : List UInt8) (i n m : Nat) (r : List UInt8), rdGo i n p = some (m, r) → rdGo i n (p ++ s) = some (m, r ++ s)
  | [], _, _, _, _, h => by simp [rdGo] at h
  | b :: p, i, n, m, r, h => by
    simp only [rdGo, List.cons_append] at h ⊢
    by_cases h1 : 5 < i ∨ 1099511627776 < n + b.toNat % 128 * 128 ^ i ∨ (b.toNat = 0 ∧ 0 < i)
    · rw [if_pos h1] at h; cases h
    · rw [if_neg h1] at h ⊢
      by_cases h2 : b.toNat < 128
      · rw [if_pos h2] at h ⊢
        simp only [Option.some.injEq, Prod.mk.injEq] at h ⊢
        exact ⟨h.1, by rw [h.2]⟩
      · rw [if_neg h2] at h ⊢
        exact rdGo_more p _ _ _ _ h
theorem rdNum_more {p s r : List UInt8} {m : Nat} (h : rdNum p = some (m, r)) : rdNum (p ++ s) = some (m, r ++ s) := rdGo_more p _ _ _ _ h

theorem rdGo_len : ∀ (p : List UInt8) (i n m : Nat) (r : List UInt8), rdGo i n p = some (m, r) → m ≤ 1099511627776 ∧ ∃ k, 1 ≤ k ∧ k ≤ p.length ∧ i + k ≤ 6 ∧ r = p.drop k
  | [], _, _, _, _, h => by simp [rdGo] at h
  | b :: p, i, n, m, r, h => by
    simp only [rdGo] at h
    by_cases h1 : 5 < i ∨ 1099511627776 < n + b.toNat % 128 * 128 ^ i ∨ (b.toNat = 0 ∧ 0 < i)
    · rw [if_pos h1] at h; cases h
    · rw [if_neg h1] at h
      by_cases h2 : b.toNat < 128
      · rw [if_pos h2] at h
        simp only [Option.some.injEq, Prod.mk.injEq] at h
        refine ⟨by omega, 1, by omega, by simp, by omega, by rw [← h.2]; rfl⟩
      · rw [if_neg h2] at h
        obtain ⟨hm, k, hk1, hk2, hk3, hk4⟩ := rdGo_len p _ _ _ _ h
        exact ⟨hm, k + 1, by omega, by simpa using hk2, by omega, by simpa using hk4⟩

theorem pow_le_of (i z : Nat) (h : z * 128 ^ i ≤ 1099511627776) (hz : i = 0 ∨ 0 < z) : i ≤ 5 := by
  rcases Nat.lt_or_ge 5 i with h5 | h5
  · exfalso
    have h6 : 128 ^ 6 ≤ 128 ^ i := Nat.pow_le_pow_right (by decide) h5
    have h7 : 1 * 128 ^ i ≤ z * 128 ^ i := Nat.mul_le_mul_right _ (by omega)
    have : (128 : Nat) ^ 6 = 4398046511104 := by decide
    omega
  · exact h5

theorem rdGo_numB (r : List UInt8) : ∀ (z i n : Nat), n + z * 128 ^ i ≤ 1099511627776 → (i = 0 ∨ 0 < z) → rdGo i n (numB z ++ r) = some (n + z * 128 ^ i, r) := by
  intro z
  induction z using Nat.strongRecOn with
  | _ z ih =>
    intro i n hn hz
    have hi := pow_le_of i z (by omega) hz
    by_cases h : z < 128
    · rw [numB_lt h]
      have hb : z.toUInt8.toNat = z := by simp; omega
      simp only [List.cons_append, List.nil_append, rdGo, hb, Nat.mod_eq_of_lt h]
      rw [if_neg (by omega), if_pos h]
    · rw [numB_ge h]
      have hb : (z % 128 + 128).toUInt8.toNat = z % 128 + 128 := by simp; omega
      have hm : (z % 128 + 128) % 128 = z % 128 := by omega
      simp only [List.cons_append, rdGo, hb, hm]
      have e : z * 128 ^ i = z % 128 * 128 ^ i + z / 128 * 128 ^ (i + 1) := by
        have h1 : z / 128 * 128 ^ (i + 1) = z / 128 * 128 * 128 ^ i := by rw [Nat.pow_succ, Nat.mul_comm (128 ^ i), Nat.mul_assoc]
        rw [h1, ← Nat.add_mul]
        congr 1; omega
      rw [if_neg (by omega), if_neg (by omega)]
      rw [ih (z / 128) (by omega) (i + 1) _ (by omega) (.inr (by omega))]
      congr 2; omega
theorem rdNum_numB (z : Nat) (r : List UInt8) (h : z ≤ 1099511627776) : rdNum (numB z ++ r) = some (z, r) := by
  have := rdGo_numB r z 0 0 (by simpa using h) (.inl rfl)
  simpa [rdNum] using this

/-- several numbers, one behind the other -/
def rdNums : Nat → List UInt8 → Option (List Nat × List UInt8)
  | 0, l => some ([], l)
  | k + 1, l => match rdNum l with
    | none => none
    | some (n, r) => match rdNums k r with
      | none => none
      | some (ns, r') => some (n :: ns, r')
theorem rdNums_more {s : List UInt8} : ∀ (k : Nat) (p r : List UInt8) (ns : List Nat), rdNums k p = some (ns, r) → rdNums k (p ++ s) = some (ns, r ++ s)
  | 0, p, r, ns, h => by simp only [rdNums, Option.some.injEq, Prod.mk.injEq] at h ⊢; exact ⟨h.1, by rw [h.2]⟩
  | k + 1, p, r, ns, h => by
    simp only [rdNums] at h ⊢
    cases h1 : rdNum p with
    | none => rw [h1] at h; cases h
    | some x =>
      obtain ⟨n, r1⟩ := x
      rw [h1] at h; simp only at h
      rw [rdNum_more h1]; simp only
      cases h2 : rdNums k r1 with
      | none => rw [h2] at h; cases h
      | some y =>
        obtain ⟨ns', r2⟩ := y
        rw [h2] at h; simp only [Option.some.injEq, Prod.mk.injEq] at h
        rw [rdNums_more k r1 r2 ns' h2]; simp only [Option.some.injEq, Prod.mk.injEq]
        exact ⟨h.1, by rw [h.2]⟩
theorem rdNums_numsB (r : List UInt8) : ∀ (zs : List Nat), (∀ z ∈ zs, z ≤ 1099511627776) → rdNums zs.length (numsB zs ++ r) = some (zs, r)
  | [], _ => rfl
  | z :: zs, h => by
    have e : numsB (z :: zs) ++ r = numB z ++ (numsB zs ++ r) := by simp [numsB]
    rw [e]
    simp only [List.length_cons, rdNums]
    rw [rdNum_numB z _ (h z (by simp))]; simp only
    rw [rdNums_numsB r zs (fun y hy => h y (by simp [hy]))]
end Go.Proofs.YtbopfhbeegkkaabGreatDoor
