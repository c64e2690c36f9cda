import Derived.Test.YtbopfhbeegkkaaaDoorTxtR
namespace Go.Proofs.YtbopfhbeegkkaaaDoor
open Go.RowKit

theorem BsVal.mono {w : World} {g g' : Nat} {v : Value} {l : List UInt8} (h : BsVal w g v l) (hg : g ≤ g') : BsVal w g' v l := by
  obtain ⟨A, c, rfl, h1, h2, h3⟩ := h
  refine ⟨A, c, rfl, h1, h2, fun i b hb => ?_⟩
  obtain ⟨B, o, hA, hB, hc⟩ := h3 i b hb
  exact ⟨B, o, hA, by omega, hc⟩
theorem rd_new {w : World} {v : Value} {l : List UInt8} {b : Bool} (h : BsVal w w.heap.size v l) : RdAt (w.alloc (.cells #[v, .bool b] 125)) w.heap.size ⟨l, b⟩ :=
  ⟨v, by rw [heap_alloc, if_pos rfl], h.above fun k hk => by rw [heap_alloc, if_neg (by omega)]⟩
theorem bs_nil (w : World) (g : Nat) : BsVal w g (.slice none 0 0) [] := ⟨none, 0, rfl, Nat.le_refl _, Nat.zero_le _, fun i b h => by simp at h⟩

set_option maxRecDepth 20000 in
set_option maxHeartbeats 1000000 in
theorem begin_any (v : Value) (l : List UInt8) (z : Int) (c : UInt8) (hz : z = (c.toNat : Int)) (w : World) (hv : BsVal w w.heap.size v l) (hl : l.length ≤ 1000000) :
    Calls Tryd.prog 63 #[v, .int .u8 z] w fun e w' => e = .returned (.pointer (some ⟨w.heap.size, 0, none⟩)) ∧ RdAt w' w.heap.size (beginR c l) ∧ Below w.heap.size w w' := by
  subst hz
  have HV := hidp hv
  obtain ⟨A, k, rfl, hc, hcm, hx⟩ := hv
  unfold beginR
  cases l with
  | nil =>
    clear hx
    go_enter Tryd.func63, Tryd.ntmps63
    go_wp2
    go_ret
    exact ⟨rfl, rd_new (bs_nil _ _), (by repeat (first | exact Below.refl _ _ | refine blw_alloc ?_ | refine blw_plus ?_ | refine Below.drew ?_))⟩
  | cons x l =>
    obtain ⟨B, o, rfl, hB, hcell⟩ := hx 0 x (by simp)
    simp only [List.length_cons, Nat.add_zero] at *
    by_cases he : x = c
    · have HB := hidp (bs_rest (n := 1) (l := x :: l) (by simp) HV.out)
      have HB2 := hidp fun e : k = 1 => bs_full (n := 1) (l := x :: l) (by simp) (e ▸ HV.out)
      clear hx
      rw [if_pos he]
      subst he
      go_enter Tryd.func63, Tryd.ntmps63
      go_wp2
      all_goals go_ret
      all_goals refine ⟨rfl, rd_new ?_, (by repeat (first | exact Below.refl _ _ | refine blw_alloc ?_ | refine blw_plus ?_ | refine Below.drew ?_))⟩
      · exact HB2.out (by first | assumption | omega)
      · exact HB.out
    · rw [if_neg he]
      have hne : ((x.toNat : Int) != (c.toNat : Int)) = true := by
        rw [bne_iff_ne]; intro e; exact he (UInt8.toNat_inj.1 (by omega))
      go_enter Tryd.func63, Tryd.ntmps63
      go_wp2
      go_ret
      exact ⟨rfl, rd_new (bs_nil _ _), (by repeat (first | exact Below.refl _ _ | refine blw_alloc ?_ | refine blw_plus ?_ | refine Below.drew ?_))⟩
end Go.Proofs.YtbopfhbeegkkaaaDoor
