/- The document's store: Read. -/
import Derived.Test.YtbopfhbeegkkaaaDoorSp3
namespace Go.Proofs.YtbopfhbeegkkaaaDoor
open Go.RowKit

set_option maxRecDepth 20000 in
set_option maxHeartbeats 8000000 in
theorem rRead_any (r B : Nat) (L : List PtP) (v : Value) (key a0 a1 a2 a3 : Int) (w : World) (hst : RfAt w r B L v) (hok : ∀ p ∈ L, 0 ≤ p.v.site ∧ p.v.site < 4) (hlen : L.length ≤ 900000) :
    Calls Tryd.prog 40 #[.pointer (some ⟨r, 0, none⟩), .int .i64 key, .agg #[.int .i64 a0, .int .i64 a1, .int .i64 a2, .int .i64 a3]] w fun e w' =>
      e = .returned (.tuple #[verV (rRead a0 a1 a2 a3 L key).1, .int .i64 (rRead a0 a1 a2 a3 L key).2]) ∧ Below w.heap.size w w' := by
  obtain ⟨F, hF⟩ : ∃ F, rRead a0 a1 a2 a3 L key = F := ⟨_, rfl⟩
  rw [hF]
  have HF := hidp hF
  clear hF
  have HL := hidp fun w' (hb : Below w.heap.size w w') => rLast_any r B L v key a0 a1 a2 a3 w' (hst.below hb) hok hlen
  clear hst hok hlen
  by_cases hk : 0 ≤ key ∧ key ≤ 7
  · obtain ⟨⟨⟨bw, bc, bs, bq, bd, bg⟩, sm⟩, hR⟩ : ∃ R, rLast a0 a1 a2 a3 key L = R := ⟨_, rfl⟩
    rw [hR] at HL
    have hF2 := HF.out
    unfold rRead at hF2
    rw [if_neg (by omega), hR] at hF2
    have HI := hidp fun w => in_is (n := key) (lo := 0) (hi := 7) (b := true) w (decide_eq_true hk)
    unfold verV at HL
    have HF2 := hidp hF2
    clear hF2 hR HF hk
    cases sm
    case false =>
      have HF3 : Hid ((verZ, (8 : Int)) = F) := hidp (by have := HF2.out; simpa using this)
      clear HF2
      go_enter Tryd.func40, Tryd.ntmps40
      go_wp2_with (first | (go_at_call 54; refine (HI.out _).mono ?_; rintro e w' ⟨rfl, rfl⟩) | (go_at_call 75; go_must (refine (HL.out _ (by repeat (first | exact Below.refl _ _ | refine blw_alloc ?_ | refine blw_plus ?_ | refine Below.drew ?_))).mono ?_; rintro e w' ⟨rfl, hb⟩; obtain ⟨x, rfl⟩ := wplus_of_below hb; clear hb)))
      refine bodyPost_ret (v := .tuple #[verV verZ, .int .i64 8]) ?_ rfl ⟨by rw [← HF3.out], (by repeat (first | exact Below.refl _ _ | refine blw_alloc ?_ | refine blw_plus ?_ | refine Below.drew ?_))⟩
      simp [results, Tryd.results40, go_sem, verV, verZ]
    case true =>
      cases bg
      case true =>
        have HF3 : Hid ((verZ, (8 : Int)) = F) := hidp (by have := HF2.out; simpa using this)
        clear HF2
        go_enter Tryd.func40, Tryd.ntmps40
        go_wp2_with (first | (go_at_call 54; refine (HI.out _).mono ?_; rintro e w' ⟨rfl, rfl⟩) | (go_at_call 75; go_must (refine (HL.out _ (by repeat (first | exact Below.refl _ _ | refine blw_alloc ?_ | refine blw_plus ?_ | refine Below.drew ?_))).mono ?_; rintro e w' ⟨rfl, hb⟩; obtain ⟨x, rfl⟩ := wplus_of_below hb; clear hb)))
        refine bodyPost_ret (v := .tuple #[verV verZ, .int .i64 8]) ?_ rfl ⟨by rw [← HF3.out], (by repeat (first | exact Below.refl _ _ | refine blw_alloc ?_ | refine blw_plus ?_ | refine Below.drew ?_))⟩
        simp [results, Tryd.results40, go_sem, verV, verZ]
      case false =>
        have HF3 : Hid (((⟨bw, bc, bs, bq, bd, false⟩ : VerP), (0 : Int)) = F) := hidp (by have := HF2.out; simpa using this)
        clear HF2
        go_enter Tryd.func40, Tryd.ntmps40
        go_wp2_with (first | (go_at_call 54; refine (HI.out _).mono ?_; rintro e w' ⟨rfl, rfl⟩) | (go_at_call 75; go_must (refine (HL.out _ (by repeat (first | exact Below.refl _ _ | refine blw_alloc ?_ | refine blw_plus ?_ | refine Below.drew ?_))).mono ?_; rintro e w' ⟨rfl, hb⟩; obtain ⟨x, rfl⟩ := wplus_of_below hb; clear hb)))
        refine bodyPost_ret (v := .tuple #[verV ⟨bw, bc, bs, bq, bd, false⟩, .int .i64 0]) ?_ rfl ⟨by rw [← HF3.out], (by repeat (first | exact Below.refl _ _ | refine blw_alloc ?_ | refine blw_plus ?_ | refine Below.drew ?_))⟩
        simp [results, Tryd.results40, go_sem, verV, verZ]
  · have HI := hidp fun w => in_is (n := key) (lo := 0) (hi := 7) (b := false) w (decide_eq_false hk)
    have HF3 : Hid ((verZ, (2 : Int)) = F) := hidp (by have := HF.out; unfold rRead at this; rw [if_pos (by omega)] at this; exact this)
    clear HF HL
    go_enter Tryd.func40, Tryd.ntmps40
    go_wp2_with (go_at_call 54; refine (HI.out _).mono ?_; rintro e w' ⟨rfl, rfl⟩)
    refine bodyPost_ret (v := .tuple #[verV verZ, .int .i64 2]) ?_ rfl ⟨by rw [← HF3.out], (by repeat (first | exact Below.refl _ _ | refine blw_alloc ?_ | refine blw_plus ?_ | refine Below.drew ?_))⟩
    simp [results, Tryd.results40, go_sem, verV, verZ]
end Go.Proofs.YtbopfhbeegkkaaaDoor
