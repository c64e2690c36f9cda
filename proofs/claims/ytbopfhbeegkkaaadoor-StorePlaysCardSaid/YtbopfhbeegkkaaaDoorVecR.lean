import Derived.Test.YtbopfhbeegkkaaaDoorNumR
namespace Go.Proofs.YtbopfhbeegkkaaaDoor
open Go.RowKit

theorem numR_len (r : Rd) : (numR r).2.l.length ≤ r.l.length := by
  unfold numR
  cases e : rdNum r.l with
  | none => exact Nat.le_refl _
  | some x =>
    have h := (rdNum_back (l := r.l) (m := x.1) (r := x.2) (by rw [e])).1
    have h2 := congrArg List.length h
    simp only [List.length_append] at h2
    show x.2.length ≤ _
    omega

/-- while a vector is read: the result's block, the block of what has been read -/
structure VecSt (w W : World) (g : Nat) (r : Rd) (a0 a1 a2 a3 : Int) : Prop where
  rd : RdAt W g r
  t2 : W.heap[w.heap.size]? = some (.cells #[.int .i64 0, .int .i64 0, .int .i64 0, .int .i64 0] 37)
  t3 : W.heap[w.heap.size + 1]? = some (.cells #[.int .i64 a0, .int .i64 a1, .int .i64 a2, .int .i64 a3] 37)
  gr : w.grownBy W (some g)
  lt : g < w.heap.size

theorem grown_trans {w w1 w2 : World} {g : Nat} (h1 : w.grownBy w1 (some g)) (h2 : w1.grownBy w2 (some g)) : w.grownBy w2 (some g) :=
  ⟨h2.os.trans h1.os, h2.tape.trans h1.tape, h2.output.trans h1.output, Nat.le_trans h1.size h2.size, fun k hk hne => (h2.block k (Nat.lt_of_lt_of_le hk h1.size) hne).trans (h1.block k hk hne)⟩

theorem VecSt.call {w W W' : World} {g : Nat} {r r' : Rd} {a0 a1 a2 a3 : Int} (st : VecSt w W g r a0 a1 a2 a3) (hr : RdAt W' g r') (hg : W.grownBy W' (some g)) : VecSt w W' g r' a0 a1 a2 a3 := by
  have hlt := st.lt
  have h2 := lt_blk st.t2
  have h3 := lt_blk st.t3
  exact ⟨hr, by rw [hg.block _ h2 (by simp; omega)]; exact st.t2, by rw [hg.block _ h3 (by simp; omega)]; exact st.t3, grown_trans st.gr hg, hlt⟩
theorem VecSt.set {w W : World} {g : Nat} {r : Rd} {a0 a1 a2 a3 b0 b1 b2 b3 : Int} {i : Nat} {u : Value} (st : VecSt w W g r a0 a1 a2 a3)
    (hu : (#[.int .i64 a0, .int .i64 a1, .int .i64 a2, .int .i64 a3] : Array Value).setIfInBounds i u = #[.int .i64 b0, .int .i64 b1, .int .i64 b2, .int .i64 b3]) :
    VecSt w (W.setCell ⟨w.heap.size + 1, i, none⟩ u) g r b0 b1 b2 b3 := by
  have hlt := st.lt
  refine ⟨st.rd.above fun k hk => Below.heap_setCell W _ u k (by simp only; omega), by rw [Below.heap_setCell W _ u _ (by simp only; omega)]; exact st.t2, ?_, ?_, hlt⟩
  · rw [blk_set st.t3 i u, hu]
  · exact ⟨st.gr.os, st.gr.tape, st.gr.output, by simpa [World.setCell] using st.gr.size, fun k hk hne => by rw [Below.heap_setCell W _ u _ (by simp only; omega)]; exact st.gr.block k hk hne⟩

theorem VecSt.res {w W : World} {g i : Nat} {r : Rd} {u : Value} {cs : Array Value} (hr : RdAt W g r) (hg : w.grownBy W (some g)) (hlt : g < w.heap.size) (h2 : W.heap[w.heap.size]? = some (.cells cs 37)) :
    RdAt (W.setCell ⟨w.heap.size, i, none⟩ u) g r ∧ w.grownBy (W.setCell ⟨w.heap.size, i, none⟩ u) (some g) ∧ (W.setCell ⟨w.heap.size, i, none⟩ u).heap[w.heap.size]? = some (.cells (cs.setIfInBounds i u) 37) := by
  refine ⟨hr.above fun k hk => Below.heap_setCell W _ u k (by simp only; omega), ?_, blk_set h2 i u⟩
  exact ⟨hg.os, hg.tape, hg.output, by simpa [World.setCell] using hg.size, fun k hk hne => by rw [Below.heap_setCell W _ u _ (by simp only; omega)]; exact hg.block k hk hne⟩
theorem VecSt.fin {w W : World} {g : Nat} {r : Rd} {a0 a1 a2 a3 : Int} {u0 u1 u2 u3 : Value} (st : VecSt w W g r a0 a1 a2 a3) :
    RdAt ((((W.setCell ⟨w.heap.size, 0, none⟩ u0).setCell ⟨w.heap.size, 1, none⟩ u1).setCell ⟨w.heap.size, 2, none⟩ u2).setCell ⟨w.heap.size, 3, none⟩ u3) g r ∧
    w.grownBy ((((W.setCell ⟨w.heap.size, 0, none⟩ u0).setCell ⟨w.heap.size, 1, none⟩ u1).setCell ⟨w.heap.size, 2, none⟩ u2).setCell ⟨w.heap.size, 3, none⟩ u3) (some g) ∧
    ((((W.setCell ⟨w.heap.size, 0, none⟩ u0).setCell ⟨w.heap.size, 1, none⟩ u1).setCell ⟨w.heap.size, 2, none⟩ u2).setCell ⟨w.heap.size, 3, none⟩ u3).heap[w.heap.size]? = some (.cells #[u0, u1, u2, u3] 37) := by
  have h0 := VecSt.res (i := 0) (u := u0) st.rd st.gr st.lt st.t2
  have h1 := VecSt.res (i := 1) (u := u1) h0.1 h0.2.1 st.lt h0.2.2
  have h2 := VecSt.res (i := 2) (u := u2) h1.1 h1.2.1 st.lt h1.2.2
  exact VecSt.res (i := 3) (u := u3) h2.1 h2.2.1 st.lt h2.2.2

theorem blk4 {W : World} {b : Nat} {x0 x1 x2 x3 : Value} {t : TypeId} (h : W.heap[b]? = some (.cells #[x0, x1, x2, x3] t)) :
    W.cell? ⟨b, 0, none⟩ = some x0 ∧ W.cell? ⟨b, 1, none⟩ = some x1 ∧ W.cell? ⟨b, 2, none⟩ = some x2 ∧ W.cell? ⟨b, 3, none⟩ = some x3 ∧
    W.frozen? ⟨b, 0, none⟩ = false ∧ W.frozen? ⟨b, 1, none⟩ = false ∧ W.frozen? ⟨b, 2, none⟩ = false ∧ W.frozen? ⟨b, 3, none⟩ = false :=
  ⟨cell_blk h 0, cell_blk h 1, cell_blk h 2, cell_blk h 3, frozen_blk h 0, frozen_blk h 1, frozen_blk h 2, frozen_blk h 3⟩

set_option maxRecDepth 20000 in
set_option maxHeartbeats 2000000 in
theorem vec_any (g : Nat) (r : Rd) (w : World) (hr : RdAt w g r) (hl : r.l.length ≤ 1000000) :
    Calls Tryd.prog 65 #[.pointer (some ⟨g, 0, none⟩)] w fun e w' => e = .returned (.agg #[.int .i64 (numR4 r).1.1, .int .i64 (numR4 r).1.2.1, .int .i64 (numR4 r).1.2.2.1, .int .i64 (numR4 r).1.2.2.2])
      ∧ RdAt w' g (numR4 r).2 ∧ w.grownBy w' (some g) := by
  have hg := hr.lt
  have st0 : ∀ o o2 : Obj, o = .cells #[.int .i64 0, .int .i64 0, .int .i64 0, .int .i64 0] 37 → o2 = .cells #[.int .i64 0, .int .i64 0, .int .i64 0, .int .i64 0] 37 → VecSt w ((w.alloc o).alloc o2) g r 0 0 0 0 := by
    rintro o o2 rfl rfl
    refine ⟨hr.above fun k hk => ?_, ?_, ?_, grown_trans (World.grownBy_alloc w _ _) (World.grownBy_alloc _ _ _), hg⟩
    · rw [heap_alloc, if_neg (by simp; omega), heap_alloc, if_neg (by omega)]
    · rw [heap_alloc, if_neg (by simp), heap_alloc, if_pos rfl]
    · rw [heap_alloc, if_pos (by simp)]
  have hl1 := Nat.le_trans (numR_len r) hl
  have hl2 := Nat.le_trans (numR_len (numR r).2) hl1
  have hl3 := Nat.le_trans (numR_len (numR (numR r).2).2) hl2
  have ST0 := hidp st0
  clear st0 hr
  unfold numR4
  simp only
  generalize hr1 : (numR r).2 = r1 at *
  generalize hr2 : (numR r1).2 = r2 at *
  generalize hr3 : (numR r2).2 = r3 at *
  generalize hr4 : (numR r3).2 = r4 at *
  generalize hn1 : (numR r).1 = n1 at *
  generalize hn2 : (numR r1).1 = n2 at *
  generalize hn3 : (numR r2).1 = n3 at *
  generalize hn4 : (numR r3).1 = n4 at *
  have N1 := hidp fun W h => (hr1 ▸ hn1 ▸ num_any g r W h hl)
  have N2 := hidp fun W h => (hr2 ▸ hn2 ▸ num_any g r1 W h hl1)
  have N3 := hidp fun W h => (hr3 ▸ hn3 ▸ num_any g r2 W h hl2)
  have N4 := hidp fun W h => (hr4 ▸ hn4 ▸ num_any g r3 W h hl3)
  clear hr1 hr2 hr3 hr4 hn1 hn2 hn3 hn4 hl hl1 hl2 hl3
  go_enter Tryd.func65, Tryd.ntmps65
  go_wp2
  have st := hidp (ST0.out _ _ rfl rfl)
  clear ST0
  refine wp_loop_rounds 5 ?_
  rw [rounds_succ]
  go_wp2_with fail
  go_at_call 64
  refine (N1.out _ st.out.rd).mono ?_
  rintro e w1 ⟨rfl, hr1, hg1⟩
  have sta := st.out.call hr1 hg1
  have c1 := cell_blk sta.t3 0
  have c2 := frozen_blk sta.t3 0
  simp at c1
  have ST := hidp (sta.set (i := 0) (u := .int .i64 n1) rfl)
  clear sta hr1 hg1 st N1
  go_wp2
  have st := ST
  clear ST c1 c2
  rw [rounds_succ]
  go_wp2_with fail
  go_at_call 64
  refine (N2.out _ st.out.rd).mono ?_
  rintro e w2 ⟨rfl, hr2, hg2⟩
  have sta := st.out.call hr2 hg2
  have c1 := cell_blk sta.t3 1
  have c2 := frozen_blk sta.t3 1
  simp at c1
  have ST := hidp (sta.set (i := 1) (u := .int .i64 n2) rfl)
  clear sta hr2 hg2 st N2
  go_wp2
  have st := ST
  clear ST c1 c2
  rw [rounds_succ]
  go_wp2_with fail
  go_at_call 64
  refine (N3.out _ st.out.rd).mono ?_
  rintro e w3 ⟨rfl, hr3, hg3⟩
  have sta := st.out.call hr3 hg3
  have c1 := cell_blk sta.t3 2
  have c2 := frozen_blk sta.t3 2
  simp at c1
  have ST := hidp (sta.set (i := 2) (u := .int .i64 n3) rfl)
  clear sta hr3 hg3 st N3
  go_wp2
  have st := ST
  clear ST c1 c2
  rw [rounds_succ]
  go_wp2_with fail
  go_at_call 64
  refine (N4.out _ st.out.rd).mono ?_
  rintro e w4 ⟨rfl, hr4, hg4⟩
  have sta := st.out.call hr4 hg4
  have c1 := cell_blk sta.t3 3
  have c2 := frozen_blk sta.t3 3
  simp at c1
  have ST := hidp (sta.set (i := 3) (u := .int .i64 n4) rfl)
  clear sta hr4 hg4 st N4
  go_wp2
  have st := ST
  clear ST c1 c2
  rw [rounds_succ]
  have h2 := blk4 st.out.t2
  have h3 := blk4 st.out.t3
  go_split_ands
  go_wp2
  have hf := st.out.fin (u0 := .int .i64 n1) (u1 := .int .i64 n2) (u2 := .int .i64 n3) (u3 := .int .i64 n4)
  obtain ⟨hf1, hf2, hf3⟩ := hf
  have hf4 := blk4 hf3
  go_split_ands
  exact bodyPost_ret (v := .agg #[.int .i64 n1, .int .i64 n2, .int .i64 n3, .int .i64 n4]) (by simp only [results, Tryd.results65]; simp [go_sem, *]) rfl ⟨rfl, hf1, hf2⟩
end Go.Proofs.YtbopfhbeegkkaaaDoor
