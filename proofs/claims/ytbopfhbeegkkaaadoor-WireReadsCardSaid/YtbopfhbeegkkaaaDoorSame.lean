import Derived.Test.YtbopfhbeegkkaaaDoorRW
import Derived.Test.YtbopfhbeegkkaaaDoorCov
namespace Go.Proofs.YtbopfhbeegkkaaaDoor
open Go.RowKit

set_option maxHeartbeats 2000000 in
theorem same_eq (site seq wall count d0 d1 d2 d3 : Int) (ws : List WrP) (A A' : Option Addr) (c c' : Nat) (w : World) (hn : ws.length ≤ 1000000) (h1 : WsAt w A ws) (h2 : WsAt w A' ws) :
    Calls Tryd.prog 30 #[.agg #[.int .i64 site, .int .i64 seq, .int .i64 wall, .int .i64 count, .int .i64 d0, .int .i64 d1, .int .i64 d2, .int .i64 d3, .slice A ws.length c],
      .agg #[.int .i64 site, .int .i64 seq, .int .i64 wall, .int .i64 count, .int .i64 d0, .int .i64 d1, .int .i64 d2, .int .i64 d3, .slice A' ws.length c']] w
      fun e w' => e = .returned (.bool true) ∧ Below w.heap.size w w' := by
  have H1 := hidp h1
  have H2 := hidp h2
  clear h1 h2
  go_enter Tryd.func30, Tryd.ntmps30
  go_wp2
  go_loopw [44] (fun i wr => ∃ (k : Nat) (x : Tail), k ≤ ws.length ∧ i = .int .i64 k ∧ wr = wplus ((w.alloc (.cells #[.int .i64 site, .int .i64 seq, .int .i64 wall, .int .i64 count, .int .i64 d0, .int .i64 d1, .int .i64 d2, .int .i64 d3, .slice A ws.length c] 40)).alloc (.cells #[.int .i64 site, .int .i64 seq, .int .i64 wall, .int .i64 count, .int .i64 d0, .int .i64 d1, .int .i64 d2, .int .i64 d3, .slice A' ws.length c'] 40)) x) (fun i _ => ws.length - (intOf i).toNat)
  case atStart => exact ⟨0, ⟨#[], w.drawn⟩, Nat.zero_le _, rfl, by simp [wplus]; rfl⟩
  case round =>
    obtain ⟨k, x, hk, rfl, rfl⟩ := hrel
    by_cases hlt : k < ws.length
    · obtain ⟨b, o, rfl, hb, h0, h1, h2⟩ := H1.out k ws[k] (List.getElem?_eq_getElem hlt)
      obtain ⟨b', o', rfl, hb', h0', h1', h2'⟩ := H2.out k ws[k] (List.getElem?_eq_getElem hlt)
      haveI : SzGe (b + 1) w := ⟨hb⟩
      haveI : SzGe (b' + 1) w := ⟨hb'⟩
      generalize ws[k] = y at *
      obtain ⟨key, data, gone⟩ := y
      simp only at *
      go_wp2
      refine wp_region_plus (by kernel_rfl) (by kernel_rfl) ?_
      repeat (first | go_big_quiet_skip | (go_big_quiet_want; go_big_quiet_op; first | go_big_quiet_on))
      refine wpQuiet_nil ?_
      rintro _ ⟨x, rfl⟩
      go_wp2
      go_roundw
      case rel => exact ⟨k + 1, _, by omega, by go_num, wplus_wplus _ _ _⟩
      case measure => simp [intOf]; omega
    · have hkk : k = ws.length := by omega
      go_wp2
      go_ret
      exact ⟨rfl, (by repeat (first | exact Below.refl _ _ | refine blw_alloc ?_ | refine blw_plus ?_ | refine Below.drew ?_))⟩
end Go.Proofs.YtbopfhbeegkkaaaDoor
