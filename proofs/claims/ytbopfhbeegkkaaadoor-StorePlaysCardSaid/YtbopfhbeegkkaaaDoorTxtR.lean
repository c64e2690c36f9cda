import Derived.Test.YtbopfhbeegkkaaaDoorVecR
import Derived.Laws.BytesArg
namespace Go.Proofs.YtbopfhbeegkkaaaDoor
open Go.RowKit

theorem conv_bs {w : World} {g n c : Nat} {A : Option Addr} {l : List UInt8} (h : BsVal w g (.slice A l.length c) l) (hn : n ≤ l.length) :
    (convert 44 9 (.slice A n c)).run Tryd.prog w = .ok (.string ⟨(l.take n).toArray⟩) w := by
  obtain ⟨A', c', e, h1, h2, h3⟩ := h
  cases e
  rcases Nat.eq_zero_or_pos n with rfl | hp
  · rw [run_convert_bytes_string w 44 9 5 _ 0 c Tryd.underlying44 Tryd.underlying5 Tryd.underlying9]
    cases A <;> simp [Conv.bytesToString, loadCells]
    all_goals rfl
  · obtain ⟨B, o, rfl, _, _⟩ := h3 0 l[0] (List.getElem?_eq_getElem (by omega))
    rw [run_convert_bytes_arg w 44 5 Tryd.underlying44 Tryd.underlying5 B o n c ((l.take n).map fun b => (b.toNat : Int)) (by simp; omega) ?_ 9 Tryd.underlying9]
    · congr 1
      have e : ∀ x : List UInt8, strOfNums (x.map fun b => (b.toNat : Int)) = ⟨x.toArray⟩ := by
        intro x
        have e2 : ∀ b : UInt8, UInt8.ofNat ((b.toNat : Int)).toNat = b := fun b => by simp
        simp only [strOfNums, List.map_map]
        rw [show ((fun n : Int => UInt8.ofNat n.toNat) ∘ fun b : UInt8 => (b.toNat : Int)) = id from funext e2, List.map_id]
      rw [e]
    · intro i hi
      obtain ⟨B', o', e, _, hc⟩ := h3 i l[i] (List.getElem?_eq_getElem (by omega))
      cases e
      rw [hc]
      have hi' : i < l.length := by omega
      simp [List.getD, List.getElem?_map, List.getElem?_take, hi, hi']

theorem bs_full {w : World} {g n : Nat} {A : Option Addr} {l : List UInt8} (hn : n ≤ l.length) (h : BsVal w g (.slice A l.length n) l) : BsVal w g (.slice A (l.length - n) 0) (l.drop n) := by
  obtain ⟨A', c', e, h1, h2, h3⟩ := h
  cases e
  have e : l.length = n := by omega
  refine ⟨A, 0, by rw [List.length_drop], by rw [List.length_drop]; omega, Nat.zero_le _, fun i b hi => ?_⟩
  rw [List.drop_eq_nil_of_le (by omega)] at hi
  simp at hi
theorem bs_rest {w : World} {g n c : Nat} {A : Option Addr} {l : List UInt8} (hn : n ≤ l.length) (h : BsVal w g (.slice A l.length c) l) : BsVal w g (.slice (A.map fun x => x.add n) (l.length - n) (c - n)) (l.drop n) := by
  obtain ⟨A', c', e, h1, h2, h3⟩ := h
  cases e
  refine ⟨_, _, by rw [List.length_drop], by rw [List.length_drop]; omega, by omega, fun i b hi => ?_⟩
  rw [List.getElem?_drop] at hi
  obtain ⟨B, o, rfl, hB, hc⟩ := h3 _ _ hi
  exact ⟨B, o + n, by simp [Addr.add], hB, by rw [Nat.add_assoc]; exact hc⟩

set_option maxRecDepth 20000 in
set_option maxHeartbeats 2000000 in
theorem text_any (g : Nat) (r : Rd) (w : World) (hr : RdAt w g r) (hl : r.l.length ≤ 1000000) :
    Calls Tryd.prog 66 #[.pointer (some ⟨g, 0, none⟩)] w fun e w' => e = .returned (.string (textR r).1) ∧ RdAt w' g (textR r).2 ∧ w.grownBy w' (some g) := by
  have hg := hr.lt
  have hl1 := Nat.le_trans (numR_len r) hl
  have hnum := num_any g r w hr hl
  unfold textR
  generalize hr1 : (numR r).2 = r1 at *
  generalize hn1 : (numR r).1 = n at *
  clear hr1 hn1 hl
  have N := hidp hnum
  clear hnum hr
  obtain ⟨l, bad⟩ := r1
  simp only at *
  by_cases hn : l.length < n
  all_goals
    first | rw [if_pos hn] | rw [if_neg hn]
    go_enter Tryd.func66, Tryd.ntmps66
    go_wp2_with fail
    go_at_call 64
    refine (N.out).mono ?_
    rintro e w1 ⟨rfl, hr1, hg1⟩
    obtain ⟨v, hb, hv⟩ := hr1
    have hv' := hv
    obtain ⟨A, c, rfl, hc, hcm, hx⟩ := hv'
    simp only at *
    have b0 := cell_blk hb 0
    have b1 := cell_blk hb 1
    have f0 := frozen_blk hb 0
    have f1 := frozen_blk hb 1
    simp at b0 b1
    have HX := hidp hx
    have HV := hidp hv
    have HB := hidp hb
    have HG := hidp hg1
    clear hx hb hv N hg1
  · go_wp2
    go_ret
    refine ⟨rfl, ⟨_, blk_set HB.out 1 _, HV.out.set 1 _⟩, grown_trans HG.out (grown_set w1 g 1 _)⟩
  · have hnm : n ≤ l.length := by omega
    have hcv := conv_bs HV.out hnm
    go_wp2
    all_goals go_ret
    · have e : c = n := by first | assumption | omega
      subst e
      exact ⟨rfl, ⟨_, blk_set HB.out 0 _, (bs_full hnm HV.out).set 0 _⟩, grown_trans HG.out (grown_set w1 g 0 _)⟩
    · exact ⟨rfl, ⟨_, blk_set HB.out 0 _, (bs_rest hnm HV.out).set 0 _⟩, grown_trans HG.out (grown_set w1 g 0 _)⟩
end Go.Proofs.YtbopfhbeegkkaaaDoor
