/- Versions: which may be, and their order. -/
import Derived.Test.YtbopfhbeegkkaaaDoorClkR
import Derived.Test.YtbopfhbeegkkaaaDoorTx
namespace Go.Proofs.YtbopfhbeegkkaaaDoor
open Go.RowKit

structure VerP where
  w : Int
  c : Int
  site : Int
  seq : Int
  data : ByteArray
  gone : Bool
def verCells (v : VerP) : List Value := [.int .i64 v.w, .int .i64 v.c, .int .i64 v.site, .int .i64 v.seq, .string v.data, .bool v.gone]
def verV (v : VerP) : Value := .agg #[.int .i64 v.w, .int .i64 v.c, .int .i64 v.site, .int .i64 v.seq, .string v.data, .bool v.gone]
def rightV (v : VerP) : Bool := rightS v.w v.c && decide (0 ≤ v.site) && decide (v.site < 4) && decide (1 ≤ v.seq) && decide (v.seq ≤ 1099511627776) && decide (v.data.size ≤ 12) && (!v.gone || decide (v.data.size = 0))
def cmpV (a b : VerP) : Int := if cmpS a.w a.c b.w b.c ≠ 0 then cmpS a.w a.c b.w b.c else a.site - b.site
theorem rightS_isD {aw ac : Int} {b : Bool} (h : rightS aw ac = b) (w : World) : Calls Tryd.prog 13 #[.agg #[.int .i64 aw, .int .i64 ac]] w fun e w' => e = .returned (.bool b) ∧ Below w.heap.size w w' := by
  subst h; exact rightS_any aw ac w

set_option maxHeartbeats 2000000 in
theorem rightV_any (v : VerP) (w : World) : Calls Tryd.prog 67 #[verV v] w fun e w' => e = .returned (.bool (rightV v)) ∧ Below w.heap.size w w' := by
  unfold verV
  rcases h0 : rightS v.w v.c with _ | _
  · have HS := hidp fun w => rightS_isD h0 w
    have HF : Hid (rightV v = false) := hidp (by simp [rightV, h0])
    clear h0
    go_enter Tryd.func67, Tryd.ntmps67
    go_wp2_with (go_at_call 13; refine (HS.out _).mono ?_; rintro e w' ⟨rfl, hb⟩; obtain ⟨x, rfl⟩ := wplus_of_below hb; clear hb)
    go_ret
    exact ⟨by rw [HF.out]; rfl, (by repeat (first | exact Below.refl _ _ | refine blw_alloc ?_ | refine blw_plus ?_ | refine Below.drew ?_))⟩
  have HS := hidp fun w => rightS_isD h0 w
  by_cases h1 : v.site < 0
  · have HF : Hid (rightV v = false) := hidp (by simp [rightV]; omega)
    clear h0
    go_enter Tryd.func67, Tryd.ntmps67
    go_wp2_with (go_at_call 13; refine (HS.out _).mono ?_; rintro e w' ⟨rfl, hb⟩; obtain ⟨x, rfl⟩ := wplus_of_below hb; clear hb)
    go_ret
    exact ⟨by rw [HF.out]; rfl, (by repeat (first | exact Below.refl _ _ | refine blw_alloc ?_ | refine blw_plus ?_ | refine Below.drew ?_))⟩
  by_cases h2 : 4 ≤ v.site
  · have HF : Hid (rightV v = false) := hidp (by simp [rightV]; omega)
    clear h0
    go_enter Tryd.func67, Tryd.ntmps67
    go_wp2_with (go_at_call 13; refine (HS.out _).mono ?_; rintro e w' ⟨rfl, hb⟩; obtain ⟨x, rfl⟩ := wplus_of_below hb; clear hb)
    go_ret
    exact ⟨by rw [HF.out]; rfl, (by repeat (first | exact Below.refl _ _ | refine blw_alloc ?_ | refine blw_plus ?_ | refine Below.drew ?_))⟩
  by_cases h3 : v.seq < 1
  · have HF : Hid (rightV v = false) := hidp (by simp [rightV]; omega)
    clear h0
    go_enter Tryd.func67, Tryd.ntmps67
    go_wp2_with (go_at_call 13; refine (HS.out _).mono ?_; rintro e w' ⟨rfl, hb⟩; obtain ⟨x, rfl⟩ := wplus_of_below hb; clear hb)
    go_ret
    exact ⟨by rw [HF.out]; rfl, (by repeat (first | exact Below.refl _ _ | refine blw_alloc ?_ | refine blw_plus ?_ | refine Below.drew ?_))⟩
  by_cases h4 : 1099511627776 < v.seq
  · have HF : Hid (rightV v = false) := hidp (by simp [rightV]; omega)
    clear h0
    go_enter Tryd.func67, Tryd.ntmps67
    go_wp2_with (go_at_call 13; refine (HS.out _).mono ?_; rintro e w' ⟨rfl, hb⟩; obtain ⟨x, rfl⟩ := wplus_of_below hb; clear hb)
    go_ret
    exact ⟨by rw [HF.out]; rfl, (by repeat (first | exact Below.refl _ _ | refine blw_alloc ?_ | refine blw_plus ?_ | refine Below.drew ?_))⟩
  by_cases h5 : 12 < v.data.size
  · have HF : Hid (rightV v = false) := hidp (by simp [rightV]; omega)
    clear h0
    go_enter Tryd.func67, Tryd.ntmps67
    go_wp2_with (go_at_call 13; refine (HS.out _).mono ?_; rintro e w' ⟨rfl, hb⟩; obtain ⟨x, rfl⟩ := wplus_of_below hb; clear hb)
    go_ret
    exact ⟨by rw [HF.out]; rfl, (by repeat (first | exact Below.refl _ _ | refine blw_alloc ?_ | refine blw_plus ?_ | refine Below.drew ?_))⟩
  obtain ⟨vw, vc, site, seq, data, gone⟩ := v
  simp only at *
  cases gone
  · have HF : Hid (rightV ⟨vw, vc, site, seq, data, false⟩ = true) := hidp (by simp [rightV, h0]; omega)
    clear h0
    go_enter Tryd.func67, Tryd.ntmps67
    go_wp2_with (go_at_call 13; refine (HS.out _).mono ?_; rintro e w' ⟨rfl, hb⟩; obtain ⟨x, rfl⟩ := wplus_of_below hb; clear hb)
    go_ret
    exact ⟨by rw [HF.out]; rfl, (by repeat (first | exact Below.refl _ _ | refine blw_alloc ?_ | refine blw_plus ?_ | refine Below.drew ?_))⟩
  by_cases c4 : data.toList = []
  · have hs : data.size = 0 := by rw [ba_size, ← ByteArray.toList_eq, c4]; rfl
    have HF : Hid (rightV ⟨vw, vc, site, seq, data, true⟩ = true) := hidp (by simp [rightV, h0, hs]; omega)
    have c5 : data.toList.isEmpty = true := by rw [c4]; rfl
    clear h0 hs
    go_enter Tryd.func67, Tryd.ntmps67
    go_wp2_with (go_at_call 13; refine (HS.out _).mono ?_; rintro e w' ⟨rfl, hb⟩; obtain ⟨x, rfl⟩ := wplus_of_below hb; clear hb)
    go_ret
    exact ⟨by rw [HF.out]; rfl, (by repeat (first | exact Below.refl _ _ | refine blw_alloc ?_ | refine blw_plus ?_ | refine Below.drew ?_))⟩
  · have hs : data.size ≠ 0 := by rw [ba_size, ← ByteArray.toList_eq]; intro h; exact c4 (List.eq_nil_of_length_eq_zero h)
    have HF : Hid (rightV ⟨vw, vc, site, seq, data, true⟩ = false) := hidp (by simp [rightV, hs])
    have c5 : data.toList.isEmpty = false := by simpa using c4
    clear h0 hs
    go_enter Tryd.func67, Tryd.ntmps67
    go_wp2_with (go_at_call 13; refine (HS.out _).mono ?_; rintro e w' ⟨rfl, hb⟩; obtain ⟨x, rfl⟩ := wplus_of_below hb; clear hb)
    go_ret
    exact ⟨by rw [HF.out]; rfl, (by repeat (first | exact Below.refl _ _ | refine blw_alloc ?_ | refine blw_plus ?_ | refine Below.drew ?_))⟩

set_option maxHeartbeats 2000000 in
theorem cmpV_any (a b : VerP) (w : World) (ha : 0 ≤ a.site ∧ a.site < 4) (hb : 0 ≤ b.site ∧ b.site < 4) :
    Calls Tryd.prog 69 #[verV a, verV b] w fun e w' => e = .returned (.int .i64 (cmpV a b)) ∧ Below w.heap.size w w' := by
  unfold verV
  have HC := hidp fun w => compare_any a.w a.c b.w b.c w
  by_cases h : cmpS a.w a.c b.w b.c = 0
  · have HF : Hid (cmpV a b = a.site - b.site) := hidp (by unfold cmpV; rw [if_neg (by simpa using h)])
    rw [h] at HC
    clear h
    obtain ⟨ha1, ha2⟩ := ha
    obtain ⟨hb1, hb2⟩ := hb
    go_enter Tryd.func69, Tryd.ntmps69
    go_wp2_with (go_at_call 15; refine (HC.out _).mono ?_; rintro e w' ⟨rfl, hb⟩; obtain ⟨x, rfl⟩ := wplus_of_below hb; clear hb)
    go_ret
    exact ⟨by rw [HF.out]; rfl, (by repeat (first | exact Below.refl _ _ | refine blw_alloc ?_ | refine blw_plus ?_ | refine Below.drew ?_))⟩
  · have HF : Hid (cmpV a b = cmpS a.w a.c b.w b.c) := hidp (by unfold cmpV; rw [if_pos h])
    have hne : (cmpS a.w a.c b.w b.c != 0) = true := by simpa using h
    generalize cmpS a.w a.c b.w b.c = z at *
    go_enter Tryd.func69, Tryd.ntmps69
    go_wp2_with (go_at_call 15; refine (HC.out _).mono ?_; rintro e w' ⟨rfl, hb⟩; obtain ⟨x, rfl⟩ := wplus_of_below hb; clear hb)
    go_ret
    exact ⟨by rw [HF.out]; rfl, (by repeat (first | exact Below.refl _ _ | refine blw_alloc ?_ | refine blw_plus ?_ | refine Below.drew ?_))⟩
end Go.Proofs.YtbopfhbeegkkaaaDoor
