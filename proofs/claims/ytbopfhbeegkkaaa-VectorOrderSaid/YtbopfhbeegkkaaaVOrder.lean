import Derived.Test.YtbopfhbeegkkaaaCov
import Derived.Deep.RegionHeld3
namespace Go.Proofs.Ytbopfhbeegkkaaa
open Go.RowKit

/-- a cut: what follows a piece of code, for every frame and world of a family -/
theorem wp_cut {P : Program} {c : Code} {Q : Exit → Act → World → Prop} {a : Act} {w : World} (F : Nat → Nat → Act → Act) (J : Nat → Nat → World → Prop)
    (h : c.wp P (fun e a' w' => e = .normal ∧ ∃ p q, a' = F p q a ∧ J p q w') a w) (h2 : ∀ p q w', J p q w' → Q .normal (F p q a) w') : c.wp P Q a w :=
  Code.wp_mono (fun e a' w' ⟨he, p, q, ha, hj⟩ => by subst he ha; exact h2 p q w' hj) h

theorem cov_as {a0 a1 a2 a3 b0 b1 b2 b3 : Int} {V : Bool} (h : covB a0 a1 a2 a3 b0 b1 b2 b3 = V) (w : World) :
    Calls Try.prog 10 #[.agg #[.int .i64 a0, .int .i64 a1, .int .i64 a2, .int .i64 a3], .agg #[.int .i64 b0, .int .i64 b1, .int .i64 b2, .int .i64 b3]] w
      fun e w' => e = .returned (.bool V) ∧ Below w.heap.size w w' := h ▸ covers_any a0 a1 a2 a3 b0 b1 b2 b3 w
theorem max_as {a0 a1 a2 a3 b0 b1 b2 b3 m0 m1 m2 m3 : Int} (h0 : max a0 b0 = m0) (h1 : max a1 b1 = m1) (h2 : max a2 b2 = m2) (h3 : max a3 b3 = m3) (w : World) :
    Calls Try.prog 8 #[.agg #[.int .i64 a0, .int .i64 a1, .int .i64 a2, .int .i64 a3], .agg #[.int .i64 b0, .int .i64 b1, .int .i64 b2, .int .i64 b3]] w
      fun e w' => e = .returned (.agg #[.int .i64 m0, .int .i64 m1, .int .i64 m2, .int .i64 m3]) ∧ Below w.heap.size w w' := by
  subst h0 h1 h2 h3; exact vMax_any _ _ _ _ _ _ _ _ w

set_option maxHeartbeats 1000000 in
theorem joined_any (w : World) : Calls Try.prog 7 #[] w fun e w' => e = .returned (.bool true) ∧ Below w.heap.size w w' := by
  go_enter Try.func7, Try.ntmps7
  go_wp2_with (first
    | (go_at_call 8; refine (vMax_any _ _ _ _ _ _ _ _ _).mono ?_; rintro e w' ⟨rfl, hb⟩; obtain ⟨x, rfl⟩ := wplus_of_below hb; clear hb)
    | (go_at_call 10; refine (covers_any _ _ _ _ _ _ _ _ _).mono ?_; rintro e w' ⟨rfl, hb⟩; obtain ⟨x, rfl⟩ := wplus_of_below hb; clear hb))
  go_ret
  exact ⟨by simp [covB], (by repeat (first | exact Below.refl _ _ | refine blw_alloc ?_ | refine blw_plus ?_ | refine Below.drew ?_))⟩

set_option maxRecDepth 100000 in
set_option maxHeartbeats 8000000 in
theorem vectorOrder_walk (a0 a1 a2 a3 b0 b1 b2 b3 c0 c1 c2 c3 : Int) (w : World) :
    Calls Try.prog 3 #[.agg #[.int .i64 a0, .int .i64 a1, .int .i64 a2, .int .i64 a3], .agg #[.int .i64 b0, .int .i64 b1, .int .i64 b2, .int .i64 b3], .agg #[.int .i64 c0, .int .i64 c1, .int .i64 c2, .int .i64 c3]] w
      fun e w' => e = .returned (.bool true) ∧ Below w.heap.size w w' := by
  go_enter Try.func3, Try.ntmps3
  go_wp2_with (go_at_call 7; refine (joined_any _).mono ?_; rintro e w' ⟨rfl, hb⟩; obtain ⟨x, rfl⟩ := wplus_of_below hb; clear hb)
  refine wp_cut (fun p q a => ((((((((a.put (some 12) (.agg #[.int .i64 a0, .int .i64 a1, .int .i64 a2, .int .i64 a3])).put (some 13) (.agg #[.int .i64 b0, .int .i64 b1, .int .i64 b2, .int .i64 b3])).put (some 14) (.agg #[.int .i64 (max a0 b0), .int .i64 (max a1 b1), .int .i64 (max a2 b2), .int .i64 (max a3 b3)])).put (some 15) (.agg #[.int .i64 a0, .int .i64 a1, .int .i64 a2, .int .i64 a3])).put (some 16) (.agg #[.int .i64 b0, .int .i64 b1, .int .i64 b2, .int .i64 b3])).put (some 17) (.agg #[.int .i64 (min a0 b0), .int .i64 (min a1 b1), .int .i64 (min a2 b2), .int .i64 (min a3 b3)])).put (some 7) (.pointer (some ⟨p, 0, none⟩))).put (some 8) (.pointer (some ⟨q, 0, none⟩)))) (fun p q W => SzGe (w.heap.size + 2 + 1) W ∧ SzGe (p + 1) W ∧ SzGe (q + 1) W ∧ Below w.heap.size w W ∧ W.cell? ⟨w.heap.size, 0, none⟩ = some (.int .i64 a0) ∧ W.cell? ⟨w.heap.size, 1, none⟩ = some (.int .i64 a1) ∧ W.cell? ⟨w.heap.size, 2, none⟩ = some (.int .i64 a2) ∧ W.cell? ⟨w.heap.size, 3, none⟩ = some (.int .i64 a3) ∧ W.cell? ⟨w.heap.size + 1, 0, none⟩ = some (.int .i64 b0) ∧ W.cell? ⟨w.heap.size + 1, 1, none⟩ = some (.int .i64 b1) ∧ W.cell? ⟨w.heap.size + 1, 2, none⟩ = some (.int .i64 b2) ∧ W.cell? ⟨w.heap.size + 1, 3, none⟩ = some (.int .i64 b3) ∧ W.cell? ⟨w.heap.size + 2, 0, none⟩ = some (.int .i64 c0) ∧ W.cell? ⟨w.heap.size + 2, 1, none⟩ = some (.int .i64 c1) ∧ W.cell? ⟨w.heap.size + 2, 2, none⟩ = some (.int .i64 c2) ∧ W.cell? ⟨w.heap.size + 2, 3, none⟩ = some (.int .i64 c3) ∧ W.cell? ⟨p, 0, none⟩ = some (.int .i64 (max a0 b0)) ∧ W.cell? ⟨p, 1, none⟩ = some (.int .i64 (max a1 b1)) ∧ W.cell? ⟨p, 2, none⟩ = some (.int .i64 (max a2 b2)) ∧ W.cell? ⟨p, 3, none⟩ = some (.int .i64 (max a3 b3)) ∧ W.cell? ⟨q, 0, none⟩ = some (.int .i64 (min a0 b0)) ∧ W.cell? ⟨q, 1, none⟩ = some (.int .i64 (min a1 b1)) ∧ W.cell? ⟨q, 2, none⟩ = some (.int .i64 (min a2 b2)) ∧ W.cell? ⟨q, 3, none⟩ = some (.int .i64 (min a3 b3))) ?_ ?_
  · go_region_held3 (fun W : World => W.cell? ⟨w.heap.size, 0, none⟩ = some (.int .i64 a0) ∧ W.cell? ⟨w.heap.size, 1, none⟩ = some (.int .i64 a1) ∧ W.cell? ⟨w.heap.size, 2, none⟩ = some (.int .i64 a2) ∧ W.cell? ⟨w.heap.size, 3, none⟩ = some (.int .i64 a3) ∧ W.cell? ⟨w.heap.size + 1, 0, none⟩ = some (.int .i64 b0) ∧ W.cell? ⟨w.heap.size + 1, 1, none⟩ = some (.int .i64 b1) ∧ W.cell? ⟨w.heap.size + 1, 2, none⟩ = some (.int .i64 b2) ∧ W.cell? ⟨w.heap.size + 1, 3, none⟩ = some (.int .i64 b3)) ((repeat' apply And.intro) <;> simp [go_sem]) (first | (go_at_call 8; refine (vMax_any _ _ _ _ _ _ _ _ _).mono ?_; rintro e w' ⟨rfl, hb⟩; obtain ⟨x, rfl⟩ := wplus_of_below hb; clear hb) | (go_at_call 9; refine (vMin_any _ _ _ _ _ _ _ _ _).mono ?_; rintro e w' ⟨rfl, hb⟩; obtain ⟨x, rfl⟩ := wplus_of_below hb; clear hb))
    all_goals
      refine ⟨rfl, _, _, rfl, ⟨by simp; try omega⟩, ⟨by simp; try omega⟩, ⟨by simp; try omega⟩, (by repeat (first | exact Below.refl _ _ | refine blw_alloc ?_ | refine blw_plus ?_ | refine Below.drew ?_)), ?_⟩
      (repeat' apply And.intro) <;> simp [go_sem]
  · rintro p q W ⟨hs2, hsp, hsq, hbW, HCELLS⟩
    go_split_ands
    haveI := hs2; haveI := hsp; haveI := hsq
    haveI : SzGe (w.heap.size + 1 + 1) W := ⟨by have := hs2.out; omega⟩
    haveI : SzGe (w.heap.size + 1) W := ⟨by have := hs2.out; omega⟩
    haveI : SzGe w.heap.size W := ⟨by have := hs2.out; omega⟩
    simp only [Act.put, List.setIfInBounds_toArray, List.set_cons_zero, List.set_cons_succ]
    have HJa := hidp (fun w' => cov_as (V := true) (show covB (max a0 b0) (max a1 b1) (max a2 b2) (max a3 b3) a0 a1 a2 a3 = true from (by simp only [covB, Bool.and_eq_true, decide_eq_true_eq]; omega)) w')
    have HJb := hidp (fun w' => cov_as (V := true) (show covB (max a0 b0) (max a1 b1) (max a2 b2) (max a3 b3) b0 b1 b2 b3 = true from (by simp only [covB, Bool.and_eq_true, decide_eq_true_eq]; omega)) w')
    have HaM := hidp (fun w' => cov_as (V := true) (show covB a0 a1 a2 a3 (min a0 b0) (min a1 b1) (min a2 b2) (min a3 b3) = true from (by simp only [covB, Bool.and_eq_true, decide_eq_true_eq]; omega)) w')
    have HbM := hidp (fun w' => cov_as (V := true) (show covB b0 b1 b2 b3 (min a0 b0) (min a1 b1) (min a2 b2) (min a3 b3) = true from (by simp only [covB, Bool.and_eq_true, decide_eq_true_eq]; omega)) w')
    have HMb := hidp (fun w' => max_as (Int.max_comm b0 a0) (Int.max_comm b1 a1) (Int.max_comm b2 a2) (Int.max_comm b3 a3) w')
    have HMas := hidp (fun w' => max_as ((Int.max_assoc a0 b0 c0).symm) ((Int.max_assoc a1 b1 c1).symm) ((Int.max_assoc a2 b2 c2).symm) ((Int.max_assoc a3 b3 c3).symm) w')
    have HAb := hidp (fun w' => max_as (show max a0 (min a0 b0) = a0 by omega) (show max a1 (min a1 b1) = a1 by omega) (show max a2 (min a2 b2) = a2 by omega) (show max a3 (min a3 b3) = a3 by omega) w')
    refine (by assumption : ∀ (a : Act) (w : World), _ → _) _ _ ?_
    go_wp2_with (first | (go_at_call 10; with_reducible refine (HJa.out _).mono ?_; rintro e w' ⟨rfl, hb⟩; obtain ⟨x, rfl⟩ := wplus_of_below hb; clear hb) | (go_at_call 10; with_reducible refine (HJb.out _).mono ?_; rintro e w' ⟨rfl, hb⟩; obtain ⟨x, rfl⟩ := wplus_of_below hb; clear hb) | (go_at_call 10; with_reducible refine (HaM.out _).mono ?_; rintro e w' ⟨rfl, hb⟩; obtain ⟨x, rfl⟩ := wplus_of_below hb; clear hb) | (go_at_call 10; with_reducible refine (HbM.out _).mono ?_; rintro e w' ⟨rfl, hb⟩; obtain ⟨x, rfl⟩ := wplus_of_below hb; clear hb))
    have hJ : covB c0 c1 c2 c3 (max a0 b0) (max a1 b1) (max a2 b2) (max a3 b3) = (covB c0 c1 c2 c3 a0 a1 a2 a3 && covB c0 c1 c2 c3 b0 b1 b2 b3) := by
      simp only [covB]; rw [Bool.eq_iff_iff]; simp only [Bool.and_eq_true, decide_eq_true_eq]; omega
    have hM : covB (min a0 b0) (min a1 b1) (min a2 b2) (min a3 b3) c0 c1 c2 c3 = (covB a0 a1 a2 a3 c0 c1 c2 c3 && covB b0 b1 b2 b3 c0 c1 c2 c3) := by
      simp only [covB]; rw [Bool.eq_iff_iff]; simp only [Bool.and_eq_true, decide_eq_true_eq]; omega
    have hE : (a0 == b0 && a1 == b1 && a2 == b2 && a3 == b3) = (covB a0 a1 a2 a3 b0 b1 b2 b3 && covB b0 b1 b2 b3 a0 a1 a2 a3) := by
      simp only [covB]; rw [Bool.eq_iff_iff]; simp only [Bool.and_eq_true, decide_eq_true_eq, beq_iff_eq]; omega
    rcases hca : covB c0 c1 c2 c3 a0 a1 a2 a3 with _ | _ <;> rcases hac : covB a0 a1 a2 a3 c0 c1 c2 c3 with _ | _ <;> rcases hab : covB a0 a1 a2 a3 b0 b1 b2 b3 with _ | _
    all_goals
      rw [hca] at hJ; rw [hac] at hM; rw [hab] at hE
      simp only [Bool.true_and, Bool.false_and] at hJ hM hE
      have HCJ := hidp (fun w' => cov_as hJ w')
      have HMC := hidp (fun w' => cov_as hM w')
      have HCA := hidp (fun w' => cov_as hca w')
      have HAC := hidp (fun w' => cov_as hac w')
      have HAB := hidp (fun w' => cov_as hab w')
      have HBA := hidp (fun (h : covB b0 b1 b2 b3 a0 a1 a2 a3 = (a0 == b0 && a1 == b1 && a2 == b2 && a3 == b3)) w' => cov_as h w')
      clear hJ hM hca hac hab
      refine wp_region_plus (by kernel_rfl) (by kernel_rfl) ?_
      repeat (first | go_big_quiet_skip | (go_big_quiet_want; go_big_quiet_op; first | go_big_quiet_on | (apply Exists.intro; refine ⟨fun _ => ?_, ?_⟩; (first | (go_at_call 10; with_reducible exact Calls.plus_of (HCJ.out _)) | (go_at_call 10; with_reducible exact Calls.plus_of (HCA.out _)) | (go_at_call 10; exact Calls.plus_of (covers_any _ _ _ _ _ _ _ _ _))); go_big_quiet_on)))
      refine wpQuiet_nil ?_
      rintro _ ⟨x1, rfl⟩
      go_wp2
      refine wp_region_plus (by kernel_rfl) (by kernel_rfl) ?_
      repeat (first | go_big_quiet_skip | (go_big_quiet_want; go_big_quiet_op; first | go_big_quiet_on | (apply Exists.intro; refine ⟨fun _ => ?_, ?_⟩; (first | (go_at_call 10; with_reducible exact Calls.plus_of (HMC.out _)) | (go_at_call 10; with_reducible exact Calls.plus_of (HAC.out _)) | (go_at_call 10; exact Calls.plus_of (covers_any _ _ _ _ _ _ _ _ _))); go_big_quiet_on)))
      refine wpQuiet_nil ?_
      rintro _ ⟨x2, rfl⟩
      go_wp2
      refine wp_region_plus (by kernel_rfl) (by kernel_rfl) ?_
      repeat (first | go_big_quiet_skip | (go_big_quiet_want; go_big_quiet_op; first | go_big_quiet_on | (apply Exists.intro; refine ⟨fun _ => ?_, ?_⟩; (first | (go_at_call 8; with_reducible exact Calls.plus_of (HMb.out _)) | (go_at_call 8; with_reducible exact Calls.plus_of (HMas.out _)) | (go_at_call 8; with_reducible exact Calls.plus_of (HAb.out _)) | (go_at_call 10; with_reducible exact Calls.plus_of (HAB.out _)) | (go_at_call 10; with_reducible exact Calls.plus_of (HBA.out (by exact hE.symm) _)) | (go_at_call 8; exact Calls.plus_of (vMax_any _ _ _ _ _ _ _ _ _)) | (go_at_call 9; exact Calls.plus_of (vMin_any _ _ _ _ _ _ _ _ _)) | (go_at_call 10; exact Calls.plus_of (covers_any _ _ _ _ _ _ _ _ _))); go_big_quiet_on)))
      refine wpQuiet_nil ?_
      rintro _ ⟨x3, rfl⟩
      go_wp2
      go_ret
      exact ⟨by simp [hE], (by repeat (first | exact hbW | refine blw_alloc ?_ | refine blw_plus ?_ | refine Below.drew ?_))⟩

end Go.Proofs.Ytbopfhbeegkkaaa
