/- The document's store in memory: one owned slice of held versions; its order of versions. -/
import Derived.Test.YtbopfhbeegkkaaaDoorSp1
import Derived.Test.YtbopfhbeegkkaaaDoorSw5
import Derived.Test.YtbopfhbeegkkaaaDoorRRight
namespace Go.Proofs.YtbopfhbeegkkaaaDoor
open Go.RowKit

def putCells (p : PtP) : List Value := [.int .i64 p.key, .int .i64 p.v.w, .int .i64 p.v.c, .int .i64 p.v.site, .int .i64 p.v.seq, .string p.v.data, .bool p.v.gone]
def heldRow (L : List PtP) : List Value := L.flatMap putCells
theorem heldRow_len (L : List PtP) : (heldRow L).length = L.length * 7 := by
  induction L with
  | nil => rfl
  | cons x l ih => simp only [heldRow, List.flatMap_cons, List.length_append, putCells, List.length_cons, List.length_nil] at ih ⊢; omega
theorem heldRow_append (a b : List PtP) : heldRow (a ++ b) = heldRow a ++ heldRow b := by simp [heldRow]
theorem heldRow_at : ∀ (l : List PtP) (i : Nat) (x : PtP), l[i]? = some x → (heldRow l)[i * 7]? = some (.int .i64 x.key) ∧ (heldRow l)[i * 7 + 1]? = some (.int .i64 x.v.w) ∧ (heldRow l)[i * 7 + 2]? = some (.int .i64 x.v.c) ∧ (heldRow l)[i * 7 + 3]? = some (.int .i64 x.v.site) ∧
    (heldRow l)[i * 7 + 4]? = some (.int .i64 x.v.seq) ∧ (heldRow l)[i * 7 + 5]? = some (.string x.v.data) ∧ (heldRow l)[i * 7 + 6]? = some (.bool x.v.gone)
  | [], i, x, h => by simp at h
  | y :: l, 0, x, h => by simp at h; subst h; simp [heldRow, putCells]
  | y :: l, i + 1, x, h => by
    have := heldRow_at l i x (by simpa using h)
    have e : ∀ j, (heldRow (y :: l))[j + 7]? = (heldRow l)[j]? := fun j => by simp [heldRow, putCells, List.getElem?_append_right]
    rw [show (i + 1) * 7 = i * 7 + 7 by omega, show i * 7 + 7 + 1 = (i * 7 + 1) + 7 by omega, show i * 7 + 7 + 2 = (i * 7 + 2) + 7 by omega, show i * 7 + 7 + 3 = (i * 7 + 3) + 7 by omega, show i * 7 + 7 + 4 = (i * 7 + 4) + 7 by omega, show i * 7 + 7 + 5 = (i * 7 + 5) + 7 by omega, show i * 7 + 7 + 6 = (i * 7 + 6) + 7 by omega, e, e, e, e, e, e, e]
    exact this
theorem own_puts {w : World} {B c : Nat} {A : Option Addr} {ps : List PtP} (h : w.ownsRow B 141 7 (.slice A ps.length c) ps.length (heldRow ps)) : PtsAt w A ps := by
  intro i x hx
  obtain ⟨hl, hn | ⟨g, cap, cur, hv, hb, hg, rest⟩⟩ := id h
  · have : ps = [] := List.eq_nil_of_length_eq_zero hn.2
    subst this; simp at hx
  · simp only [Value.slice.injEq] at hv
    obtain ⟨rfl, _, rfl⟩ := hv
    have hc := h.cells (g := g) rfl
    obtain ⟨h0, h1, h2, h3, h4, h5, h6⟩ := heldRow_at ps i x hx
    have e : ∀ j : Nat, (⟨g, 0, none⟩ : Addr).add j = ⟨g, 0 + j, none⟩ := fun j => by unfold Addr.add; split <;> simp_all
    have k0 := hc _ _ h0; have k1 := hc _ _ h1; have k2 := hc _ _ h2; have k3 := hc _ _ h3; have k4 := hc _ _ h4; have k5 := hc _ _ h5; have k6 := hc _ _ h6
    rw [e] at k0 k1 k2 k3 k4 k5 k6
    exact ⟨g, 0, rfl, (Array.getElem?_eq_some_iff.1 hg).1, by unfold PtC; exact ⟨k0, k1, k2, k3, k4, k5, k6⟩⟩

/-- the document's store: the block r holds the slice v, which it owns -/
structure RfAt (w : World) (r B : Nat) (L : List PtP) (v : Value) : Prop where
  blk : w.heap[r]? = some (.cells #[v] 83)
  own : w.ownsRow B 141 7 v L.length (heldRow L)
  ng : v.ownBlock ≠ some r
def RfOwn (r : Nat) (v : Value) (b : Nat) : Prop := b = r ∨ v.ownBlock = some b
structure RfFr (w w' : World) (r : Nat) (v v' : Value) : Prop where
  os : w'.os = w.os
  tape : w'.tape = w.tape
  output : w'.output = w.output
  size : w.heap.size ≤ w'.heap.size
  block : ∀ k, k < w.heap.size → ¬ RfOwn r v k → w'.heap[k]? = w.heap[k]?
  own : ∀ b, RfOwn r v' b → RfOwn r v b ∨ w.heap.size ≤ b
theorem RfAt.lt {w : World} {r B : Nat} {L : List PtP} {v : Value} (h : RfAt w r B L v) {b : Nat} (hb : RfOwn r v b) : b < w.heap.size := by
  rcases hb with rfl | hb
  · exact lt_blk h.blk
  · exact (own_ge h.own hb).2
theorem RfAt.below {w w' : World} {r B : Nat} {L : List PtP} {v : Value} (h : RfAt w r B L v) (hb : Below w.heap.size w w') : RfAt w' r B L v :=
  ⟨by rw [hb.block _ (lt_blk h.blk)]; exact h.blk, own_below h.own hb fun b e => (own_ge h.own e).2, h.ng⟩
theorem RfFr.of_below {w w' : World} (r : Nat) (v : Value) (hb : Below w.heap.size w w') : RfFr w w' r v v :=
  ⟨hb.os, hb.tape, hb.output, hb.size, fun k hk _ => hb.block k hk, fun _ h => .inl h⟩
theorem RfFr.from {w W W' : World} {r : Nat} {v v' : Value} (hb : Below w.heap.size w W) (h : RfFr W W' r v v') : RfFr w W' r v v' :=
  ⟨h.os.trans hb.os, h.tape.trans hb.tape, h.output.trans hb.output, Nat.le_trans hb.size h.size, fun k hk hn => (h.block k (Nat.lt_of_lt_of_le hk hb.size) hn).trans (hb.block k hk), fun b h' => (h.own b h').imp id (fun e => Nat.le_trans hb.size e)⟩
theorem RfAt.cell {w : World} {r B : Nat} {L : List PtP} {v : Value} (h : RfAt w r B L v) : w.cell? ⟨r, 0, none⟩ = some v ∧ w.frozen? ⟨r, 0, none⟩ = false :=
  ⟨cell_blk h.blk 0, frozen_blk h.blk 0⟩
/-- the slice is taken anew -/
theorem RfAt.upd {w w1 : World} {r B : Nat} {L L' : List PtP} {v v' : Value} (h : RfAt w r B L v) (hg : w.grownBy w1 v.ownBlock)
    (hown : w1.ownsRow B 141 7 v' L'.length (heldRow L')) (hv : v'.ownBlock = v.ownBlock ∨ ∀ b, v'.ownBlock = some b → w.heap.size ≤ b) :
    RfAt (w1.setCell ⟨r, 0, none⟩ v') r B L' v' ∧ RfFr w (w1.setCell ⟨r, 0, none⟩ v') r v v' := by
  have hlg := lt_blk h.blk
  have hgb : w1.heap[r]? = w.heap[r]? := hg.block r hlg (fun e => h.ng e.symm)
  have hb1 : w1.heap[r]? = some (.cells #[v] 83) := by rw [hgb]; exact h.blk
  have hgs := grown_set w1 r 0 v'
  have hvg : v'.ownBlock ≠ some r := by
    rcases hv with e | e
    · rw [e]; exact h.ng
    · intro e2; have := e r e2; omega
  refine ⟨⟨blk_set hb1 0 v', hown.kept hgs (.inr hvg), hvg⟩, ⟨hg.os, hg.tape, hg.output, by simpa [World.setCell] using hg.size, ?_, ?_⟩⟩
  · intro b hb hno
    have h1 : b ≠ r := fun e => hno (.inl e)
    have h2 : v.ownBlock ≠ some b := fun e => hno (.inr e)
    rw [hgs.block b (by have := hg.size; omega) (by simp; exact h1)]
    exact hg.block b hb (fun e => h2 e.symm)
  · rintro b (rfl | hb)
    · exact .inl (.inl rfl)
    · rcases hv with e2 | e2
      · rw [e2] at hb; exact .inl (.inr hb)
      · exact .inr (e2 b hb)

theorem before_eq (a b : VerP) : (if cmpS a.w a.c b.w b.c ≠ 0 then decide (cmpS a.w a.c b.w b.c < 0) else decide (a.site < b.site)) = decide (cmpV a b < 0) := by
  unfold cmpV
  split
  · rfl
  · simp only [decide_eq_decide]; omega
set_option maxHeartbeats 2000000 in
theorem before_any (a b : VerP) (w : World) : Calls Tryd.prog 91 #[verV a, verV b] w fun e w' => e = .returned (.bool (decide (cmpV a b < 0))) ∧ Below w.heap.size w w' := by
  unfold verV
  have HC := hidp fun w => rCompare_any a.w a.c b.w b.c w
  have HE := hidp (before_eq a b)
  by_cases h : cmpS a.w a.c b.w b.c = 0
  · have HF : Hid (decide (cmpV a b < 0) = decide (a.site < b.site)) := hidp (by rw [← HE.out, if_neg (by simpa using h)])
    rw [h] at HC
    clear h HE
    go_enter Tryd.func91, Tryd.ntmps91
    go_wp2_with (go_at_call 11; refine (HC.out _).mono ?_; rintro e w' ⟨rfl, hb⟩; obtain ⟨x, rfl⟩ := wplus_of_below hb; clear hb)
    go_ret
    exact ⟨by rw [HF.out]; rfl, (by repeat (first | exact Below.refl _ _ | refine blw_alloc ?_ | refine blw_plus ?_ | refine Below.drew ?_))⟩
  · have HF : Hid (decide (cmpV a b < 0) = decide (cmpS a.w a.c b.w b.c < 0)) := hidp (by rw [← HE.out, if_pos h])
    have hne : (cmpS a.w a.c b.w b.c != 0) = true := by simpa using h
    clear HE
    generalize cmpS a.w a.c b.w b.c = z at *
    go_enter Tryd.func91, Tryd.ntmps91
    go_wp2_with (go_at_call 11; refine (HC.out _).mono ?_; rintro e w' ⟨rfl, hb⟩; obtain ⟨x, rfl⟩ := wplus_of_below hb; clear hb)
    go_ret
    exact ⟨by rw [HF.out]; rfl, (by repeat (first | exact Below.refl _ _ | refine blw_alloc ?_ | refine blw_plus ?_ | refine Below.drew ?_))⟩
theorem bareL_any (n : Int) (w : World) (hg : EType w) : Calls Tryd.prog 12 #[errV n, .int .i64 n] w fun e w' => e = .returned (.bool true) ∧ Below w.heap.size w w' := by
  unfold errV
  split
  · rename_i h
    subst h
    exact bareL_nil w
  · exact bareL_errno n w hg
end Go.Proofs.YtbopfhbeegkkaaaDoor
