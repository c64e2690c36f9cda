import Derived.RangeFuncBox
import Derived.RangeFuncLeaves
import Derived.Shelf.Abstract
import Derived.WalkKit
import Derived.OwnWalkIn
import Derived.TacticsInMore
import Derived.LoopNIn
import Derived.LoopIn
import Derived.Test.YtbopfhbeegkkaaaDoorSt3
namespace Go.Proofs.YtbopfhbeegkkaaaDoor
open Go.RowKit Go.Shelf

attribute [local go_sem] Oper.semAt_some

/-- what has come when k rounds are over: the places of the last k, the last one first -/
def bUpto (vs : List VerP) (k : Nat) : List Nat := (List.range k).map fun j => vs.length - 1 - j
theorem bUpto_succ (vs : List VerP) (k : Nat) : bUpto vs (k + 1) = bUpto vs k ++ [vs.length - 1 - k] := by simp [bUpto, List.range_succ]
theorem bUpto_length (vs : List VerP) (k : Nat) : (bUpto vs k).length = k := by simp [bUpto]

set_option maxRecDepth 100000 in
set_option maxHeartbeats 2000000 in
theorem back1_in (F : Fence) (n : Nat) (h86 : F.fn 86) (hro : F.round = none) (hn : 1 ≤ n) (l Bs n₀ b o cap : Nat) (vs : List VerP) (hlen : vs.length ≤ 1000000) (hb : b < n₀) (J Jx : List Nat → World → Prop)
    (hY : ∀ (pre : List Nat) (x : Nat) W, J pre W → pre.length < vs.length → YieldAt F (n - 1) Tryd.prog l #[.int .i64 (x : Int), verV (vs.getD x default)] W fun e W' =>
      (e = .returned (.bool true) ∧ J (pre ++ [x]) W' ∧ Below n₀ W W') ∨ (e = .returned (.bool false) ∧ Jx (pre ++ [x]) W'))
    (W : World) (hBs : W.cell? ⟨Bs, 0, none⟩ = some (.slice (some ⟨b, o, none⟩) vs.length cap)) (hBn : Bs < n₀) (hc : VsAt W (some ⟨b, o, none⟩) vs) (hn0 : n₀ ≤ W.heap.size) (h0 : J [] W) :
    CallsIn F n Tryd.prog 86 #[.func (.yield l) #[] #[], .pointer (some ⟨Bs, 0, none⟩)] W fun e W' => (∃ v, e = .returned v) ∧
      (J (bUpto vs vs.length) W' ∨ (∃ k, k ≤ vs.length ∧ Jx (bUpto vs k) W')) := by
  refine callsIn_of_wp Tryd.func86 rfl h86 ?_ hro
  simp only [Tryd.ntmps86, List.size_toArray, List.length_cons, List.length_nil, Nat.reduceAdd, Nat.reduceSub, Array.replicate_succ, Array.replicate_zero, List.push_toArray, List.append_toArray, List.nil_append, List.cons_append]
  gi_wp2
  gi_loopw [3] (fun i wr => ∃ k : Nat, k ≤ vs.length ∧ i = .int .i64 ((vs.length : Int) - 1 - (k : Int)) ∧ J (bUpto vs k) wr ∧ Below n₀ W wr)
    (fun i _ => (intOf i + 1).toNat)
  case atStart => exact ⟨0, Nat.zero_le _, by simp, h0, Below.refl _ _⟩
  case round =>
    obtain ⟨k, hk, rfl, hJs, hnx⟩ := hrel
    have hBs' := (hnx.cell (p := ⟨Bs, 0, none⟩) hBn).trans hBs
    by_cases hlt : k < vs.length
    · obtain ⟨m, hm⟩ : ∃ m : Nat, vs.length - 1 - k = m := ⟨_, rfl⟩
      have hmi : (vs.length : Int) - 1 - (k : Int) = (m : Int) := by omega
      have hml : m < vs.length := by omega
      obtain ⟨b', o', e', hb', c0, c1, c2, c3, c4, c5⟩ := hc m vs[m] (List.getElem?_eq_getElem hml)
      cases e'
      have hgd : vs.getD m default = vs[m] := by simp [List.getD, List.getElem?_eq_getElem hml]
      have hY1 := hY _ m wr hJs (by rw [bUpto_length]; exact hlt)
      rw [hgd] at hY1
      have hnext : bUpto vs (k + 1) = bUpto vs k ++ [m] := by rw [bUpto_succ, hm]
      have HNX := hidp hnext
      have HNB := hidp hnx
      have e6 : ∀ j, wr.cell? ⟨b, j, none⟩ = W.cell? ⟨b, j, none⟩ := fun j => hnx.cell (p := ⟨b, j, none⟩) hb
      rw [← e6] at c0 c1 c2 c3 c4 c5
      rw [hmi]
      generalize vs[m] = y at *
      have HM := hidp hmi
      clear hgd hnext hnx e6 hm hmi
      unfold verV at hY1
      obtain ⟨fn, tmps, assign, body, hy, hR⟩ := hY1
      gi_wp2
      refine hR.mono ?_
      rintro e W3 (⟨rfl, hJ3, hk3⟩ | ⟨rfl, hJx3⟩)
      · gi_wp2
        go_roundw
        case rel => exact ⟨k + 1, by omega, congrArg (Value.int IntKind.i64) (by have := HM.out; omega), by rw [HNX.out]; exact hJ3, HNB.out.trans hk3⟩
        case measure => simp [intOf]
      · gi_wp2
        refine bodyPost_ret (results_none rfl _ _ _) rfl ?_
        exact ⟨⟨_, rfl⟩, .inr ⟨k + 1, by omega, by rw [HNX.out]; exact hJx3⟩⟩
    · have hkk : k = vs.length := by omega
      have hmi : (vs.length : Int) - 1 - (k : Int) = -1 := by omega
      rw [hmi]
      rw [hkk] at hJs
      clear hmi
      gi_wp2
      go_end0
      exact ⟨⟨_, rfl⟩, .inl hJs⟩

theorem back1_nil_in (F : Fence) (n : Nat) (h86 : F.fn 86) (hro : F.round = none) (l Bs : Nat) (J : List Nat → World → Prop) (W : World) (hBs : W.cell? ⟨Bs, 0, none⟩ = some (.slice none 0 0)) (h0 : J [] W) :
    CallsIn F n Tryd.prog 86 #[.func (.yield l) #[] #[], .pointer (some ⟨Bs, 0, none⟩)] W fun e W' => (∃ v, e = .returned v) ∧ J [] W' := by
  refine callsIn_of_wp Tryd.func86 rfl h86 ?_ hro
  simp only [Tryd.ntmps86, List.size_toArray, List.length_cons, List.length_nil, Nat.reduceAdd, Nat.reduceSub, Array.replicate_succ, Array.replicate_zero, List.push_toArray, List.append_toArray, List.nil_append, List.cons_append]
  gi_wp2
  gi_loopw [3] (fun i wr => i = .int .i64 (-1) ∧ J [] wr) (fun _ _ => 0)
  case atStart => exact ⟨rfl, h0⟩
  case round =>
    obtain ⟨rfl, hJs⟩ := hrel
    gi_wp2
    go_end0
    exact ⟨⟨_, rfl⟩, hJs⟩

theorem backward_in (F : Fence) (n : Nat) (h73 : F.fn 73) (hro : F.round = none) (a : Option Addr) (len cap : Nat) (w : World) :
    CallsIn F n Tryd.prog 73 #[.slice a len cap] w fun e w' => e = .returned (.func (.func 86) #[] #[.pointer (some ⟨w.heap.size, 0, none⟩)]) ∧ w' = w.alloc (.cells #[.slice a len cap] 63) := by
  refine callsIn_of_wp Tryd.func73 rfl h73 ?_ hro
  simp only [Tryd.ntmps73, List.size_toArray, List.length_cons, List.length_nil, Nat.reduceAdd, Nat.reduceSub, Array.replicate_succ, Array.replicate_zero, List.push_toArray, List.append_toArray, List.nil_append, List.cons_append]
  gi_wp2
  go_ret
  exact ⟨rfl, rfl⟩

/-- slices.Backward(s) hands back a value that yields the versions, the last one first -/
theorem back_stops (F : Fence) (n : Nat) (h86 : F.fn 86) (hro : F.round = none) (hn : 1 ≤ n) (Bs n₀ : Nat) (A : Option Addr) (cap : Nat) (vs : List VerP) (hlen : vs.length ≤ 1000000) (w : World) (hBn : Bs < n₀) (hn₀ : n₀ ≤ w.heap.size)
    (hc : w.cell? ⟨Bs, 0, none⟩ = some (.slice A vs.length cap)) (hI : VsAt w A vs) (hIb : (A = none ∧ cap = 0 ∧ vs = []) ∨ ∃ b o, A = some ⟨b, o, none⟩ ∧ b < n₀) :
    SeqStopsK F n Tryd.prog 86 #[.pointer (some ⟨Bs, 0, none⟩)] (fun x : Nat => #[Value.int .i64 (x : Int), verV (vs.getD x default)]) (Below n₀) (fun ys => ys = bUpto vs vs.length) (fun pre => ∃ k, k ≤ vs.length ∧ pre = bUpto vs k) vs.length w := fun l J Jx W hW _ _ hY h0 => by
  have hc' := (hW.cell (p := ⟨Bs, 0, none⟩) (Nat.lt_of_lt_of_le hBn hn₀)).trans hc
  rcases hIb with ⟨rfl, rfl, rfl⟩ | ⟨b, o, rfl, hb⟩
  · exact (back1_nil_in F n h86 hro l Bs J W hc' h0).mono fun e W' ⟨he, hj⟩ => ⟨he, .inl ⟨_, rfl, hj⟩⟩
  · refine (back1_in F n h86 hro hn l Bs n₀ b o cap vs hlen hb J Jx hY W hc' hBn (hI.below hW) (Nat.le_trans hn₀ hW.size) h0).mono ?_
    rintro e W' ⟨he, hj | ⟨k, hk, hj⟩⟩
    · exact ⟨he, .inl ⟨_, rfl, hj⟩⟩
    · exact ⟨he, .inr ⟨_, ⟨k, hk, rfl⟩, hj⟩⟩
end Go.Proofs.YtbopfhbeegkkaaaDoor
