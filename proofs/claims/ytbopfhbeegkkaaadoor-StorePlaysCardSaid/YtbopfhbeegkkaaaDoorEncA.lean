import Derived.Test.YtbopfhbeegkkaaaDoorPut
import Derived.Test.YtbopfhbeegkkaaaDoorRT
import Derived.Deep.RegionHeld3
namespace Go.Proofs.YtbopfhbeegkkaaaDoor
open Go.RowKit

/-- the buffer as a function hands it back: its own, in new memory -/
def Fresh (w w' : World) (v : Value) (bs : List UInt8) : Prop := Below w.heap.size w w' ∧ w'.ownsRow w.heap.size 5 1 v bs.length (u8s bs)

theorem own_lit {w : World} {B b : Nat} {c : UInt8} {x : Int} (hB : B ≤ b) (h : w.heap[b]? = some (.cells #[.int .u8 x] 5)) (hx : x = (c.toNat : Int)) :
    w.ownsRow B 5 1 (.slice (some ⟨b, 0, none⟩) 1 1) [c].length (u8s [c]) := by
  subst hx
  exact ⟨by simp [u8s], .inr ⟨b, 1, _, rfl, hB, h, Nat.le_refl _, by simp [maxLen], by simp, by simp [u8s]⟩⟩

theorem heap_alloc (W : World) (o : Obj) (k : Nat) : (W.alloc o).heap[k]? = if k = W.heap.size then some o else W.heap[k]? := by
  show (W.heap.push o)[k]? = _
  rw [Array.getElem?_push]
theorem heap_drew (W : World) : W.drew.heap = W.heap := rfl
theorem Buf.cell {B : Nat} {w0 w : World} {v0 v : Value} {bs : List UInt8} (h : Buf B w0 v0 w v bs) {b o : Nat} {s : Option Nat} (hb : b < w0.heap.size) (hne : v0.ownBlock ≠ some b) :
    w.cell? ⟨b, o, s⟩ = w0.cell? ⟨b, o, s⟩ := World.cell?_of_block (h.grown.block b hb (fun e => hne e.symm))
theorem Buf.ne {B : Nat} {w0 w : World} {v0 v : Value} {bs : List UInt8} (h : Buf B w0 v0 w v bs) {b : Nat} (hb : b < w0.heap.size) (hne : v0.ownBlock ≠ some b) : v.ownBlock ≠ some b := by
  rcases h.blk with hk | hk
  · rw [hk]; exact hne
  · intro e; have := hk b e; omega
theorem Buf.below {B n : Nat} {w0 w : World} {v0 v : Value} {bs : List UInt8} (h : Buf B w0 v0 w v bs) (hn : n ≤ w0.heap.size) (hv : ∀ k, v0.ownBlock = some k → n ≤ k) : Below n w0 w :=
  ⟨h.grown.os, h.grown.tape, h.grown.output, h.grown.size, fun k hk => h.grown.block k (by omega) (fun e => by have := hv k e.symm; omega)⟩

theorem put_len (B : Nat) (v : Value) (bs : List UInt8) (zs : List Nat) (lb lo n c : Nat) (w : World) (hn : zs.length = n) (hB : B ≤ w.heap.size)
    (hown : w.ownsRow B 5 1 v bs.length (u8s bs)) (hz : ∀ z ∈ zs, z < 4398046511104) (hbs : bs.length + 6 * zs.length ≤ 1000000)
    (hl : ∀ (i : Nat) (z : Nat), zs[i]? = some z → w.cell? ⟨lb, lo + i, none⟩ = some (.int .i64 (z : Int))) (hne : v.ownBlock ≠ some lb) :
    Calls Tryd.prog 59 #[v, .slice (some ⟨lb, lo, none⟩) n c] w fun e w' => ∃ v', e = .returned v' ∧ Buf B w v w' v' (bs ++ numsB zs) := by
  subst hn; exact put_any B v bs zs lb lo c w hB hown hz hbs hl hne

theorem encAsk_bad (s a0 a1 a2 a3 : Int) (w : World) (h : s < 0 ∨ 4 ≤ s ∨ rgtB a0 a1 a2 a3 = false) :
    Calls Tryd.prog 21 #[.int .i64 s, .agg #[.int .i64 a0, .int .i64 a1, .int .i64 a2, .int .i64 a3]] w fun e w' => e = .returned (.tuple #[.slice none 0 0, .iface 24 (.int .i64 1)]) ∧ Below w.heap.size w w' := by
  by_cases h1 : s < 0
  · clear h
    go_enter Tryd.func21, Tryd.ntmps21
    go_wp2
    go_ret2
    exact ⟨rfl, (by repeat (first | exact Below.refl _ _ | refine blw_alloc ?_ | refine blw_plus ?_ | refine Below.drew ?_))⟩
  by_cases h2 : 4 ≤ s
  · clear h
    go_enter Tryd.func21, Tryd.ntmps21
    go_wp2
    go_ret2
    exact ⟨rfl, (by repeat (first | exact Below.refl _ _ | refine blw_alloc ?_ | refine blw_plus ?_ | refine Below.drew ?_))⟩
  have h3 : rgtB a0 a1 a2 a3 = false := by
    rcases h with h | h | h
    · omega
    · omega
    · exact h
  have HR := hidp (fun w => right_is h3 w)
  clear h h3
  go_enter Tryd.func21, Tryd.ntmps21
  go_wp2_with (go_at_call 61; with_reducible refine (HR.out _).mono ?_; rintro e w' ⟨rfl, hb⟩; obtain ⟨x, rfl⟩ := wplus_of_below hb; clear hb)
  go_ret2
  exact ⟨rfl, (by repeat (first | exact Below.refl _ _ | refine blw_alloc ?_ | refine blw_plus ?_ | refine Below.drew ?_))⟩

set_option maxRecDepth 100000 in
set_option maxHeartbeats 4000000 in
theorem encAsk_good (s a0 a1 a2 a3 : Nat) (w : World) (hs : s < 4) (hr : rgtB a0 a1 a2 a3 = true) :
    Calls Tryd.prog 21 #[.int .i64 s, .agg #[.int .i64 a0, .int .i64 a1, .int .i64 a2, .int .i64 a3]] w fun e w' => ∃ v, e = .returned (.tuple #[v, .nilIface]) ∧ Fresh w w' v (97 :: numsB [s, a0, a1, a2, a3]) := by
  have hs' : ((s : Int) < 4) := by omega
  have HB : Hid ((a0 ≤ 1099511627776 ∧ a1 ≤ 1099511627776) ∧ (a2 ≤ 1099511627776 ∧ a3 ≤ 1099511627776)) := hidp (by simp only [rgtB, Bool.and_eq_true, decide_eq_true_eq] at hr; omega)
  have HR := hidp (fun w => right_is hr w)
  clear hr
  go_enter Tryd.func21, Tryd.ntmps21
  go_wp2_with (go_at_call 61; with_reducible refine (HR.out _).mono ?_; rintro e w' ⟨rfl, hb⟩; obtain ⟨x, rfl⟩ := wplus_of_below hb; clear hb)
  clear HR
  go_region_held3 (fun _ : World => True) (trivial) (first
    | (go_at_call 59
       with_reducible refine (put_len w.heap.size v (97 :: numsB [s]) [a0, a1, a2, a3] w.heap.size 0 4 4 _ rfl ?_ ?_ ?_ ?_ ?_ ?_).mono ?_
       · exact Nat.le_trans (by simp; omega) hb.grown.size
       · exact hb.own
       · intro z hz; have := HB.out; simp at hz; omega
       · have := numB_len s 6 (by omega) (by omega); simp [numsB]; omega
       · intro i z hi
         rw [hb.cell (by simp; omega) (by simp [Value.ownBlock]; omega)]
         rcases i with _ | _ | _ | _ | i <;> simp at hi <;> subst hi <;> simp [go_sem]
       · exact hb.ne (by simp; omega) (by simp [Value.ownBlock]; omega)
       rintro e w'' ⟨v2, rfl, hb2⟩)
    | (go_at_call 59
       with_reducible refine (put_len w.heap.size _ [97] [s] _ 0 1 1 _ rfl ?_ ?_ ?_ ?_ ?_ ?_).mono ?_
       · simp; omega
       · exact own_lit (c := 97) (by omega) (by (try rw [heap_drew]); first | (rw [heap_alloc, if_pos (by simp)]; rfl) | (rw [heap_alloc, if_neg (by simp), heap_alloc, if_pos (by simp)]; rfl)) rfl
       · simp; omega
       · simp
       · intro i z hi; rcases i with _ | i <;> simp at hi; subst hi; simp [go_sem]
       · simp [Value.ownBlock]
       rintro e w' ⟨v, rfl, hb⟩))
  all_goals
    have HFr : Hid (Fresh w w'' v2 (97 :: numsB [s, a0, a1, a2, a3])) := hidp ⟨Below.trans (Below.trans (by repeat (first | exact Below.refl _ _ | refine blw_alloc ?_ | refine blw_plus ?_ | refine Below.drew ?_)) (hb.below (n := w.heap.size) (by simp; omega) (by intro k hk; simp [Value.ownBlock] at hk; omega)))
      (hb2.below (n := w.heap.size) (Nat.le_trans (by simp; omega) hb.grown.size) (by intro k hk; rcases hb.blk with h | h; (· rw [h] at hk; simp [Value.ownBlock] at hk; omega); (· exact Nat.le_trans (by simp; omega) (h k hk)))), by
      have := hb2.own; simpa [numsB] using this⟩
    go_wp2
    go_ret2
    exact ⟨v2, rfl, HFr.out⟩
end Go.Proofs.YtbopfhbeegkkaaaDoor
