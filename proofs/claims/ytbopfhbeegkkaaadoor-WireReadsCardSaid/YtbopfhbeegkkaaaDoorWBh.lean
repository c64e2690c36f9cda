import Derived.Test.YtbopfhbeegkkaaaDoorEncT
import Derived.Test.YtbopfhbeegkkaaaDoorDecW
import Derived.Test.YtbopfhbeegkkaaaDoorSame
namespace Go.Proofs.YtbopfhbeegkkaaaDoor
open Go.RowKit
theorem decTx_to {D : Option TxP} (v : Value) (l : List UInt8) (w : World) (hd : decTx l = D) (hv : BsVal w w.heap.size v l) (hl : l.length ≤ 1000000) :
    Calls Tryd.prog 27 #[v] w (TxPost w D) := by subst hd; exact decTx_any v l w hv hl

theorem txB_len {t : TxP} (h : rightTx t = true) : (txB t).length ≤ 1000 ∧ 0 < (txB t).length := by
  have h2 := h
  simp only [rightTx, Bool.and_eq_true] at h2
  obtain ⟨hw, hl1, hl5⟩ := rightWs_all h2.2
  obtain ⟨q1, q2, q3, q4, q5, q6, q7, q8, _⟩ := headTx_all h2.1
  have h1 := numsB_le [t.site.toNat, t.seq.toNat, t.wall.toNat, t.count.toNat] (by intro z hz; simp at hz; omega)
  have h3 := numsB_le [t.d0.toNat, t.d1.toNat, t.d2.toNat, t.d3.toNat] (by intro z hz; simp at hz; omega)
  have h4 := numsB_le [t.ws.length] (by intro z hz; simp at hz; omega)
  have h5 := wrB_take_le t.ws hw t.ws.length (Nat.le_refl _)
  rw [List.take_length] at h5
  simp only [txB, List.length_cons, List.length_append, List.length_nil] at *
  omega

theorem own_bs {w : World} {B g : Nat} {v : Value} {bs : List UInt8} (h : w.ownsRow B 5 1 v bs.length (u8s bs)) (hg : w.heap.size = g) : BsVal w g v bs ∧ ∃ A c, v = .slice A bs.length c ∧ bs.length ≤ c ∧ c ≤ maxLen := by
  subst hg
  obtain ⟨hl, hn | ⟨b, cap, cur, rfl, hb, hg, hc, hm, hsz, ht⟩⟩ := id h
  · have : bs = [] := List.eq_nil_of_length_eq_zero hn.2
    subst this
    rw [hn.1]
    exact ⟨bs_nil _ _, none, 0, rfl, Nat.le_refl _, Nat.zero_le _⟩
  · have hcell := h.cells (g := b) rfl
    refine ⟨⟨_, cap, rfl, hc, hm, fun i x hi => ⟨b, 0, rfl, lt_blk hg, ?_⟩⟩, _, cap, rfl, hc, hm⟩
    have := hcell i (.int .u8 x.toNat) (by simp [u8s, hi])
    have e : (⟨b, 0, none⟩ : Addr).add i = ⟨b, 0 + i, none⟩ := by unfold Addr.add; split <;> simp_all
    rw [e] at this
    exact this
theorem BsVal.below {w w' : World} {g : Nat} {v : Value} {l : List UInt8} (h : BsVal w g v l) (hg : g ≤ w.heap.size) (hb : Below w.heap.size w w') : BsVal w' w'.heap.size v l :=
  (h.above fun k hk => hb.block k (by omega)).mono (Nat.le_trans hg hb.size)
theorem bs_take {w : World} {g c r : Nat} {A : Option Addr} {l : List UInt8} (h : BsVal w g (.slice A l.length c) l) (hr : r ≤ l.length) : BsVal w g (.slice A r c) (l.take r) := by
  obtain ⟨A', c', e, h1, h2, h3⟩ := h
  cases e
  refine ⟨A, c, by rw [List.length_take, Nat.min_eq_left hr], by rw [List.length_take, Nat.min_eq_left hr]; omega, h2, fun i b hi => ?_⟩
  rw [List.getElem?_take] at hi
  split at hi
  · exact h3 i b hi
  · cases hi

/-- what was boxed stays -/
structure WB (w W : World) (cs1 cs2 : Array Value) : Prop where
  b1 : W.heap[w.heap.size]? = some (.cells cs1 40)
  b2 : W.heap[w.heap.size + 1]? = some (.cells cs2 37)
  bl : Below w.heap.size w W
theorem WB.below {w W W' : World} {cs1 cs2 : Array Value} (h : WB w W cs1 cs2) (hb : Below W.heap.size W W') : WB w W' cs1 cs2 :=
  ⟨by rw [hb.block _ (lt_blk h.b1)]; exact h.b1, by rw [hb.block _ (lt_blk h.b2)]; exact h.b2, h.bl.trans (hb.mono (Nat.le_of_lt (lt_blk h.b1)))⟩
theorem WB.alloc {w W : World} {cs1 cs2 : Array Value} (h : WB w W cs1 cs2) (o : Obj) : WB w (W.alloc o) cs1 cs2 := h.below (blw_alloc (Below.refl _ _))
theorem WB.sz {w W : World} {cs1 cs2 : Array Value} (h : WB w W cs1 cs2) : w.heap.size + 2 ≤ W.heap.size := lt_blk h.b2
theorem wb_start (w : World) (cs1 cs2 : Array Value) : WB w ((w.alloc (.cells cs1 40)).alloc (.cells cs2 37)) cs1 cs2 :=
  ⟨by rw [heap_alloc, if_neg (by simp), heap_alloc, if_pos rfl], by rw [heap_alloc, if_pos (by simp)], blw_alloc (blw_alloc (Below.refl _ _))⟩

theorem encAsk_bad' {s a0 a1 a2 a3 : Int} (w : World) (h : okAsk s a0 a1 a2 a3 = false) :
    Calls Tryd.prog 21 #[.int .i64 s, .agg #[.int .i64 a0, .int .i64 a1, .int .i64 a2, .int .i64 a3]] w fun e w' => e = .returned (.tuple #[.slice none 0 0, .iface 24 (.int .i64 1)]) ∧ Below w.heap.size w w' := by
  refine encAsk_bad s a0 a1 a2 a3 w ?_
  rcases hr : rgtB a0 a1 a2 a3 with _ | _
  · exact .inr (.inr rfl)
  · rcases Int.lt_or_le s 0 with h1 | h1
    · exact .inl h1
    · rcases Int.lt_or_le s 4 with h2 | h2
      · simp only [okAsk, okN, rgtB, Bool.and_eq_true, Bool.and_eq_false_iff, decide_eq_true_eq, decide_eq_false_iff_not] at h hr
        omega
      · exact .inr (.inl h2)
theorem encAsk_good' {s a0 a1 a2 a3 : Int} (w : World) (h : okAsk s a0 a1 a2 a3 = true) :
    Calls Tryd.prog 21 #[.int .i64 s, .agg #[.int .i64 a0, .int .i64 a1, .int .i64 a2, .int .i64 a3]] w fun e w' => ∃ v, e = .returned (.tuple #[v, .nilIface]) ∧ Fresh w w' v (askB s a0 a1 a2 a3) := by
  obtain ⟨h1, h2, h3, h4, h5⟩ := okAsk_all h
  obtain ⟨s, rfl⟩ := Int.eq_ofNat_of_zero_le h1.1
  obtain ⟨a0, rfl⟩ := Int.eq_ofNat_of_zero_le h2.1
  obtain ⟨a1, rfl⟩ := Int.eq_ofNat_of_zero_le h3.1
  obtain ⟨a2, rfl⟩ := Int.eq_ofNat_of_zero_le h4.1
  obtain ⟨a3, rfl⟩ := Int.eq_ofNat_of_zero_le h5.1
  have e : askB (s : Int) (a0 : Int) (a1 : Int) (a2 : Int) (a3 : Int) = 97 :: numsB [s, a0, a1, a2, a3] := by simp [askB, numsB]
  rw [e]
  refine encAsk_good s a0 a1 a2 a3 w (by omega) ?_
  simp only [rgtB, Bool.and_eq_true, decide_eq_true_eq]
  omega
theorem decAsk_to {D : Option (Nat × (Nat × Nat × Nat × Nat))} (v : Value) (l : List UInt8) (w : World) (hd : decAsk l = D) (hv : BsVal w w.heap.size v l) (hl : l.length ≤ 1000000) :
    Calls Tryd.prog 29 #[v] w fun e w' => e = .returned (askV D) ∧ Below w.heap.size w w' := by subst hd; exact decAsk_any v l w hv hl
theorem askB_len {s a0 a1 a2 a3 : Int} (h : okAsk s a0 a1 a2 a3 = true) : (askB s a0 a1 a2 a3).length ≤ 1000 ∧ 0 < (askB s a0 a1 a2 a3).length := by
  obtain ⟨h1, h2, h3, h4, h5⟩ := okAsk_all h
  have h6 := numsB_le [s.toNat] (by intro z hz; simp at hz; omega)
  have h7 := numsB_le [a0.toNat, a1.toNat, a2.toNat, a3.toNat] (by intro z hz; simp at hz; omega)
  simp only [askB, List.length_cons, List.length_append, List.length_nil] at *
  omega

end Go.Proofs.YtbopfhbeegkkaaaDoor
