import Derived.Test.YtbopfhbeegkkaaaDoorBegR
namespace Go.Proofs.YtbopfhbeegkkaaaDoor
open Go.RowKit

theorem numR4_len (r : Rd) : (numR4 r).2.l.length ≤ r.l.length := by
  unfold numR4
  exact Nat.le_trans (numR_len _) (Nat.le_trans (numR_len _) (Nat.le_trans (numR_len _) (numR_len _)))
theorem beginR_len (c : UInt8) (l : List UInt8) : (beginR c l).l.length ≤ l.length := by
  unfold beginR
  cases l with
  | nil => simp
  | cons x l =>
    simp only
    split <;> simp
theorem below_grown {n g : Nat} {w w1 w2 : World} (h : Below n w w1) (hg : w1.grownBy w2 (some g)) (hn : n ≤ g) (hs : n ≤ w.heap.size) : Below n w w2 :=
  Below.grown h hg (Nat.le_trans hs h.size) (fun k e => by cases e; exact hn)

/-- what DecodeAsk hands back -/
def askV : Option (Nat × (Nat × Nat × Nat × Nat)) → Value
  | none => .tuple #[.int .i64 0, .agg #[.int .i64 0, .int .i64 0, .int .i64 0, .int .i64 0], .iface 24 (.int .i64 3)]
  | some (s, a, b, c, d) => .tuple #[.int .i64 s, .agg #[.int .i64 a, .int .i64 b, .int .i64 c, .int .i64 d], .nilIface]

set_option maxRecDepth 20000 in
set_option maxHeartbeats 2000000 in
theorem decAsk_any (v : Value) (l : List UInt8) (w : World) (hv : BsVal w w.heap.size v l) (hl : l.length ≤ 1000000) :
    Calls Tryd.prog 29 #[v] w fun e w' => e = .returned (askV (decAsk l)) ∧ Below w.heap.size w w' := by
  have hbeg := fun o => begin_any v l 97 97 rfl (w.alloc o) ((hv.above fun k hk => by rw [heap_alloc, if_neg (by omega)]).mono (by simp)) hl
  simp only [show ∀ o, (w.alloc o).heap.size = w.heap.size + 1 from fun o => by simp] at hbeg
  have hlen0 := Nat.le_trans (beginR_len 97 l) hl
  have hlen1 := Nat.le_trans (numR_len (beginR 97 l)) hlen0
  have hD : decAsk l = if (numR4 (numR (beginR 97 l)).2).2.bad || !(numR4 (numR (beginR 97 l)).2).2.l.isEmpty || decide (4 ≤ (numR (beginR 97 l)).1) then none else some ((numR (beginR 97 l)).1, (numR4 (numR (beginR 97 l)).2).1) := rfl
  rw [hD]
  clear hD hv hl
  generalize beginR 97 l = r0 at *
  have hnum := fun W g h => num_any g r0 W h hlen0
  generalize hn1 : (numR r0).1 = n at *
  generalize hr1 : (numR r0).2 = r1 at *
  have hvec := fun W g h => vec_any g r1 W h hlen1
  clear hr1 hn1
  generalize (numR4 r1).2 = r2 at *
  generalize (numR4 r1).1 = q at *
  obtain ⟨a, b, c, d⟩ := q
  obtain ⟨l2, bad2⟩ := r2
  simp only at *
  have HB := hidp hbeg
  have HN := hidp hnum
  have HV := hidp hvec
  clear hbeg hnum hvec hlen0 hlen1
  rcases Bool.eq_false_or_eq_true bad2 with rfl | rfl
  · rw [Bool.true_or, Bool.true_or, if_pos rfl]
    go_enter Tryd.func29, Tryd.ntmps29
    go_wp2_with fail
    go_at_call 63
    refine (HB.out _).mono ?_
    rintro e w1 ⟨rfl, hr1, hb1⟩
    go_wp2_with fail
    go_at_call 64
    refine (HN.out _ _ hr1).mono ?_
    rintro e w2 ⟨rfl, hr2, hg2⟩
    go_wp2_with fail
    go_at_call 65
    refine (HV.out _ _ hr2).mono ?_
    rintro e w3 ⟨rfl, hr3, hg3⟩
    have hb3 := below_grown (below_grown hb1 hg2 (Nat.le_refl _) (by simp)) hg3 (Nat.le_refl _) (by simp)
    have hz := hb3.block w.heap.size (by omega)
    rw [heap_alloc, if_pos rfl] at hz
    obtain ⟨v3, hb, A, k, rfl, hc, hcm, hx⟩ := hr3
    simp only at *
    have c0 := cell_blk hb 0
    have c1 := cell_blk hb 1
    simp at c0 c1
    have hz4 := blk4 hz
    have hlt := lt_blk hb
    have hlt0 : w.heap.size < w3.heap.size := by omega
    go_split_ands
    have HB3 : Hid (Below w.heap.size w w3) := hidp (Below.trans (blw_alloc (Below.refl _ _)) (hb3.mono (by omega)))
    clear hx hr1 hr2 hg2 hg3 HB HN HV hb1 hb3 hb hz
    go_wp2
    all_goals
      haveI : SzGe w.heap.size w3 := ⟨by omega⟩
      refine bodyPost_ret (v := askV none) (by simp only [results, Tryd.results29]; simp [go_sem, askV, *]) rfl ⟨rfl, ?_⟩
      (repeat (first | exact HB3.out | refine blw_alloc ?_ | refine Below.drew ?_ | refine Below.setCell ?_ (by simp only; omega) _))
  rcases l2 with _ | ⟨y, l2⟩
  rotate_left
  · rw [List.isEmpty_cons, Bool.not_false, Bool.or_true, Bool.true_or, if_pos rfl]
    go_enter Tryd.func29, Tryd.ntmps29
    go_wp2_with fail
    go_at_call 63
    refine (HB.out _).mono ?_
    rintro e w1 ⟨rfl, hr1, hb1⟩
    go_wp2_with fail
    go_at_call 64
    refine (HN.out _ _ hr1).mono ?_
    rintro e w2 ⟨rfl, hr2, hg2⟩
    go_wp2_with fail
    go_at_call 65
    refine (HV.out _ _ hr2).mono ?_
    rintro e w3 ⟨rfl, hr3, hg3⟩
    have hb3 := below_grown (below_grown hb1 hg2 (Nat.le_refl _) (by simp)) hg3 (Nat.le_refl _) (by simp)
    have hz := hb3.block w.heap.size (by omega)
    rw [heap_alloc, if_pos rfl] at hz
    obtain ⟨v3, hb, A, k, rfl, hc, hcm, hx⟩ := hr3
    simp only at *
    have c0 := cell_blk hb 0
    have c1 := cell_blk hb 1
    simp at c0 c1
    have hz4 := blk4 hz
    have hlt := lt_blk hb
    have hlt0 : w.heap.size < w3.heap.size := by omega
    go_split_ands
    have HB3 : Hid (Below w.heap.size w w3) := hidp (Below.trans (blw_alloc (Below.refl _ _)) (hb3.mono (by omega)))
    clear hx hr1 hr2 hg2 hg3 HB HN HV hb1 hb3 hb hz
    go_wp2
    all_goals
      haveI : SzGe w.heap.size w3 := ⟨by omega⟩
      refine bodyPost_ret (v := askV none) (by simp only [results, Tryd.results29]; simp [go_sem, askV, *]) rfl ⟨rfl, ?_⟩
      (repeat (first | exact HB3.out | refine blw_alloc ?_ | refine Below.drew ?_ | refine Below.setCell ?_ (by simp only; omega) _))
  by_cases h4 : 4 ≤ n
  · rw [decide_eq_true h4, Bool.or_true, if_pos rfl]
    go_enter Tryd.func29, Tryd.ntmps29
    go_wp2_with fail
    go_at_call 63
    refine (HB.out _).mono ?_
    rintro e w1 ⟨rfl, hr1, hb1⟩
    go_wp2_with fail
    go_at_call 64
    refine (HN.out _ _ hr1).mono ?_
    rintro e w2 ⟨rfl, hr2, hg2⟩
    go_wp2_with fail
    go_at_call 65
    refine (HV.out _ _ hr2).mono ?_
    rintro e w3 ⟨rfl, hr3, hg3⟩
    have hb3 := below_grown (below_grown hb1 hg2 (Nat.le_refl _) (by simp)) hg3 (Nat.le_refl _) (by simp)
    have hz := hb3.block w.heap.size (by omega)
    rw [heap_alloc, if_pos rfl] at hz
    obtain ⟨v3, hb, A, k, rfl, hc, hcm, hx⟩ := hr3
    simp only at *
    have c0 := cell_blk hb 0
    have c1 := cell_blk hb 1
    simp at c0 c1
    have hz4 := blk4 hz
    have hlt := lt_blk hb
    have hlt0 : w.heap.size < w3.heap.size := by omega
    go_split_ands
    have HB3 : Hid (Below w.heap.size w w3) := hidp (Below.trans (blw_alloc (Below.refl _ _)) (hb3.mono (by omega)))
    clear hx hr1 hr2 hg2 hg3 HB HN HV hb1 hb3 hb hz
    go_wp2
    all_goals
      haveI : SzGe w.heap.size w3 := ⟨by omega⟩
      refine bodyPost_ret (v := askV none) (by simp only [results, Tryd.results29]; simp [go_sem, askV, *]) rfl ⟨rfl, ?_⟩
      (repeat (first | exact HB3.out | refine blw_alloc ?_ | refine Below.drew ?_ | refine Below.setCell ?_ (by simp only; omega) _))
  · rw [decide_eq_false h4, Bool.or_false, List.isEmpty_nil, Bool.not_true, Bool.or_false, if_neg Bool.false_ne_true]
    go_enter Tryd.func29, Tryd.ntmps29
    go_wp2_with fail
    go_at_call 63
    refine (HB.out _).mono ?_
    rintro e w1 ⟨rfl, hr1, hb1⟩
    go_wp2_with fail
    go_at_call 64
    refine (HN.out _ _ hr1).mono ?_
    rintro e w2 ⟨rfl, hr2, hg2⟩
    go_wp2_with fail
    go_at_call 65
    refine (HV.out _ _ hr2).mono ?_
    rintro e w3 ⟨rfl, hr3, hg3⟩
    have hb3 := below_grown (below_grown hb1 hg2 (Nat.le_refl _) (by simp)) hg3 (Nat.le_refl _) (by simp)
    have hz := hb3.block w.heap.size (by omega)
    rw [heap_alloc, if_pos rfl] at hz
    obtain ⟨v3, hb, A, k, rfl, hc, hcm, hx⟩ := hr3
    simp only at *
    have c0 := cell_blk hb 0
    have c1 := cell_blk hb 1
    simp at c0 c1
    have hz4 := blk4 hz
    have hlt := lt_blk hb
    have hlt0 : w.heap.size < w3.heap.size := by omega
    go_split_ands
    have HB3 : Hid (Below w.heap.size w w3) := hidp (Below.trans (blw_alloc (Below.refl _ _)) (hb3.mono (by omega)))
    clear hx hr1 hr2 hg2 hg3 HB HN HV hb1 hb3 hb hz
    go_wp2
    go_region_held3 (fun W : World => W.cell? ⟨w3.heap.size, 0, none⟩ = some (.int .i64 a) ∧ W.cell? ⟨w3.heap.size, 1, none⟩ = some (.int .i64 b) ∧ W.cell? ⟨w3.heap.size, 2, none⟩ = some (.int .i64 c) ∧ W.cell? ⟨w3.heap.size, 3, none⟩ = some (.int .i64 d)) ((repeat' apply And.intro) <;> simp [go_sem, *]) (fail)
    all_goals go_wp2
    all_goals
      haveI : SzGe w.heap.size w3 := ⟨by omega⟩
      refine bodyPost_ret (v := askV (some (n, a, b, c, d))) (by simp only [results, Tryd.results29]; simp [go_sem, askV, *]) rfl ⟨rfl, ?_⟩
      (repeat (first | exact HB3.out | refine blw_alloc ?_ | refine Below.drew ?_ | refine Below.setCell ?_ (by simp only; omega) _))
end Go.Proofs.YtbopfhbeegkkaaaDoor
