import Derived.Test.YtbopfhbeegkkaaaPick
import Derived.Test.YtbopfhbeegkkaaaDecW
namespace Go.Proofs.Ytbopfhbeegkkaaa
open Go.RowKit

theorem decTx_to {D : Option TxP} (v : Value) (l : List UInt8) (w : World) (hd : decTx l = D) (hv : BsVal w w.heap.size v l) (hl : l.length ≤ 1000000) :
    Calls Try.prog 23 #[v] w (TxPost w D) := by subst hd; exact decTx_any v l w hv hl

def tx0 : TxP := ⟨1, 2, 0, 0, 0, 1, 0, 0, [⟨3, ⟨#[120]⟩, false⟩]⟩
theorem tx0_right : rightTx tx0 = true := by decide
theorem wsAt_one {w : World} {b : Nat} {k : Int} {dt : ByteArray} {gn : Bool} (h : w.heap[b]? = some (.cells #[.int .i64 k, .string dt, .bool gn] 43)) : WsAt w (some ⟨b, 0, none⟩) [⟨k, dt, gn⟩] := by
  intro i x hx
  rcases i with _ | i
  · simp at hx; subst hx
    exact ⟨b, 0, rfl, lt_blk h, cell_blk h 0, cell_blk h 1, cell_blk h 2⟩
  · simp at hx
theorem txB_len {t : TxP} (h : rightTx t = true) : (txB t).length ≤ 1000 ∧ 0 < (txB t).length := by
  have h2 := h
  simp only [rightTx, Bool.and_eq_true] at h2
  obtain ⟨hw, hl1, hl5⟩ := rightWs_all h2.2
  obtain ⟨q1, q2, q3, q4, q5, q6, q7, q8, _⟩ := headTx_all h2.1
  have h1 := numsB_le [t.site.toNat, t.seq.toNat, t.wall.toNat, t.count.toNat] (by intro z hz; simp at hz; omega)
  have h3 := numsB_le [t.d0.toNat, t.d1.toNat, t.d2.toNat, t.d3.toNat] (by intro z hz; simp at hz; omega)
  have h4 := numsB_le [t.ws.length] (by intro z hz; simp at hz; omega)
  have h5 := wrB_take_le t.ws hw t.ws.length (Nat.le_refl _)
  rw [List.take_length] at h5
  simp only [txB, List.length_cons, List.length_append, List.length_nil] at *
  omega

set_option maxRecDepth 20000 in
set_option maxHeartbeats 4000000 in
theorem sent_any (w : World) : Calls Try.prog 21 #[] w fun e w' => e = .returned (.bool true) ∧ Below w.heap.size w w' := by
  go_enter Try.func21, Try.ntmps21
  go_wp2_with fail
  go_at_call 22
  refine (encTx_good tx0 (some ⟨w.heap.size, 0, none⟩) 1 _ tx0_right ?_).mono ?_
  · exact wsAt_one (by rw [heap_alloc, if_neg (by simp), heap_alloc, if_pos rfl])
  rintro e w1 ⟨v, rfl, hb1, hown⟩
  have hl := (txB_len tx0_right).1
  have hz1 := hb1.block w.heap.size (by simp; omega)
  rw [heap_alloc, if_neg (by simp), heap_alloc, if_pos rfl] at hz1
  have hz2 := hb1.block (w.heap.size + 1) (by simp)
  rw [heap_alloc, if_pos (by simp)] at hz2
  have hbs := (own_bs hown rfl).1
  have hB1 : Below w.heap.size w w1 := Below.trans (blw_alloc (blw_alloc (Below.refl _ _))) (hb1.mono (by simp; omega))
  clear hb1 hown
  go_wp2_with fail
  go_at_call 23
  refine (decTx_to v (txB tx0) w1 (decTx_B tx0 tx0_right) hbs (by omega)).mono ?_
  rintro e w2 ⟨A, c, rfl, hb2, hown⟩
  have hs1 := lt_blk hz2
  have hz3 := hb2.block w.heap.size (by omega)
  rw [hz1] at hz3
  have hz4 := hb2.block (w.heap.size + 1) hs1
  rw [hz2] at hz4
  have hB2 := hB1.trans (hb2.mono (by omega))
  have hs2 := lt_blk hz4
  have hws := own_ws hown
  have hc := blk9 hz4
  go_split_ands
  clear hb2 hown hbs hz1 hz2 hs1
  haveI : SzGe (w.heap.size + 2) w2 := ⟨by omega⟩
  go_wp2_with fail
  go_at_call 26
  refine (same_eq 1 2 0 0 0 1 0 0 tx0.ws (some ⟨w.heap.size, 0, none⟩) A 1 c _ (by decide) ((wsAt_one hz3).alloc _) (hws.alloc _)).mono ?_
  rintro e w3 ⟨rfl, hb3⟩
  have hB3 := (hB2.alloc (by omega) _).trans (hb3.mono (by simp; omega))
  clear hb3 hB2 hB1
  go_wp2
  go_ret
  exact ⟨rfl, hB3⟩
end Go.Proofs.Ytbopfhbeegkkaaa
