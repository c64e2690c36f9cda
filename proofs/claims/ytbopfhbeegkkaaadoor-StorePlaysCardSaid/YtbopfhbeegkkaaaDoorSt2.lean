import Derived.Test.YtbopfhbeegkkaaaDoorSt1
import Derived.Test.YtbopfhbeegkkaaaDoorDecU
namespace Go.Proofs.YtbopfhbeegkkaaaDoor
open Go.RowKit

instance : Inhabited VerP := ⟨⟨0, 0, 0, 0, ⟨#[]⟩, false⟩⟩

/-- a slice of versions -/
def VsAt (w : World) (A : Option Addr) (vs : List VerP) : Prop := ∀ (i : Nat) (x : VerP), vs[i]? = some x → ∃ b o, A = some ⟨b, o, none⟩ ∧ b < w.heap.size ∧
  w.cell? ⟨b, o + i * 6, none⟩ = some (.int .i64 x.w) ∧ w.cell? ⟨b, o + i * 6 + 1, none⟩ = some (.int .i64 x.c) ∧ w.cell? ⟨b, o + i * 6 + 2, none⟩ = some (.int .i64 x.site) ∧
  w.cell? ⟨b, o + i * 6 + 3, none⟩ = some (.int .i64 x.seq) ∧ w.cell? ⟨b, o + i * 6 + 4, none⟩ = some (.string x.data) ∧ w.cell? ⟨b, o + i * 6 + 5, none⟩ = some (.bool x.gone)
theorem VsAt.below {w w' : World} {A : Option Addr} {vs : List VerP} (h : VsAt w A vs) (hb : Below w.heap.size w w') : VsAt w' A vs := fun i x hx => by
  obtain ⟨b, o, hA, hlt, h0, h1, h2, h3, h4, h5⟩ := h i x hx
  have e : ∀ k, w'.cell? ⟨b, k, none⟩ = w.cell? ⟨b, k, none⟩ := fun k => hb.cell (p := ⟨b, k, none⟩) hlt
  exact ⟨b, o, hA, Nat.lt_of_lt_of_le hlt hb.size, by rw [e]; exact h0, by rw [e]; exact h1, by rw [e]; exact h2, by rw [e]; exact h3, by rw [e]; exact h4, by rw [e]; exact h5⟩

def bsGo (vs : List VerP) (v : VerP) : Nat → Nat → Nat → Nat
  | 0, lo, _ => lo
  | f + 1, lo, hi => if lo < hi then (if cmpV (vs.getD ((lo + hi) / 2) default) v < 0 then bsGo vs v f ((lo + hi) / 2 + 1) hi else bsGo vs v f lo ((lo + hi) / 2)) else lo
theorem bsGo_end (vs : List VerP) (v : VerP) : ∀ (f lo hi : Nat), ¬ lo < hi → bsGo vs v f lo hi = lo
  | 0, _, _, _ => rfl
  | f + 1, lo, hi, h => by unfold bsGo; rw [if_neg h]
theorem bsGo_le (vs : List VerP) (v : VerP) : ∀ (f lo hi : Nat), lo ≤ hi → lo ≤ bsGo vs v f lo hi ∧ bsGo vs v f lo hi ≤ hi
  | 0, lo, hi, h => ⟨Nat.le_refl _, h⟩
  | f + 1, lo, hi, h => by
    unfold bsGo
    split
    · split
      · have := bsGo_le vs v f ((lo + hi) / 2 + 1) hi (by omega); omega
      · have := bsGo_le vs v f lo ((lo + hi) / 2) (by omega); omega
    · omega
def bsK (vs : List VerP) (v : VerP) : Nat := bsGo vs v vs.length 0 vs.length
def bsF (vs : List VerP) (v : VerP) : Bool := decide (bsK vs v < vs.length) && decide (cmpV (vs.getD (bsK vs v) default) v = 0)

set_option maxHeartbeats 8000000 in
theorem search_any (vs : List VerP) (v : VerP) (A : Option Addr) (c : Nat) (w : World) (hn : vs.length ≤ 1000000) (hvs : VsAt w A vs) (hs : ∀ x ∈ vs, 0 ≤ x.site ∧ x.site < 4) (hv : 0 ≤ v.site ∧ v.site < 4) :
    Calls Tryd.prog 68 #[.slice A vs.length c, verV v, .func (.func 69) #[] #[]] w fun e w' => e = .returned (.tuple #[.int .i64 (bsK vs v), .bool (bsF vs v)]) ∧ Below w.heap.size w w' := by
  have HV := hidp hvs
  have HS := hidp hs
  have HSV := hidp hv
  clear hvs hs hv
  unfold verV
  go_enter Tryd.func68, Tryd.ntmps68
  go_wp2
  go_loopw [9, 10] (fun i j wr => ∃ (lo hi f : Nat), i = .int .i64 lo ∧ j = .int .i64 hi ∧ lo ≤ hi ∧ hi ≤ vs.length ∧ hi - lo ≤ f ∧ bsGo vs v f lo hi = bsK vs v ∧ Below (w.alloc (.cells #[.int .i64 v.w, .int .i64 v.c, .int .i64 v.site, .int .i64 v.seq, .string v.data, .bool v.gone] 71)).heap.size (w.alloc (.cells #[.int .i64 v.w, .int .i64 v.c, .int .i64 v.site, .int .i64 v.seq, .string v.data, .bool v.gone] 71)) wr) (fun i j _ => ((intOf j).toNat - (intOf i).toNat))
  case atStart => exact ⟨0, vs.length, vs.length, rfl, rfl, Nat.zero_le _, Nat.le_refl _, by omega, rfl, Below.refl _ _⟩
  case round =>
    obtain ⟨lo, hi, f, rfl, rfl, h1, h2, h3, hB, hbl⟩ := hrel
    obtain ⟨x, rfl⟩ := wplus_of_below hbl
    clear hbl
    have HB := hidp hB
    clear hB
    by_cases hlt : lo < hi
    · obtain ⟨f, rfl⟩ : ∃ f', f = f' + 1 := ⟨f - 1, by omega⟩
      obtain ⟨m, hm⟩ : ∃ m, (lo + hi) / 2 = m := ⟨_, rfl⟩
      have hml : m < hi := by omega
      have hmg : lo ≤ m := by omega
      have hmi : ((lo : Int) + (hi : Int)) / 2 = (m : Int) := by omega
      have hmv : m < vs.length := by omega
      obtain ⟨b, o, rfl, hb, c0, c1, c2, c3, c4, c5⟩ := HV.out m vs[m] (List.getElem?_eq_getElem hmv)
      obtain ⟨y, hy⟩ : ∃ y, vs[m] = y := ⟨_, rfl⟩
      have hys := HS.out vs[m] (List.getElem_mem hmv)
      rw [hy] at c0 c1 c2 c3 c4 c5 hys
      have hgd : vs.getD m default = y := by simp [List.getD, List.getElem?_eq_getElem hmv, hy]
      have hB2 : bsK vs v = if cmpV y v < 0 then bsGo vs v f (m + 1) hi else bsGo vs v f lo m := by
        rw [← HB.out]; conv => lhs; unfold bsGo
        rw [if_pos hlt, hm, hgd]
      have HB2 := hidp hB2
      have HC := hidp fun w => cmpV_any y v w hys HSV.out
      unfold verV at HC
      generalize cmpV y v = z at *
      haveI : SzGe (b + 1) w := ⟨hb⟩
      clear hB2 hgd hy hm HB hys
      go_wp2
      by_cases hz : z < 0
      · have hd : decide (z < 0) = true := by simpa using hz
        have HB3 : Hid (bsGo vs v f (m + 1) hi = bsK vs v) := hidp (by rw [HB2.out, if_pos hz])
        clear HB2
        refine wp_region_plus (by kernel_rfl) (by kernel_rfl) ?_
        repeat (first | go_big_quiet_skip | (go_big_quiet_want; go_big_quiet_op; first | go_big_quiet_on | (apply Exists.intro; refine ⟨fun _ => ?_, ?_⟩; (first | (go_at_call 69; exact Calls.plus_of (HC.out _))); go_big_quiet_on)))
        refine wpQuiet_nil ?_
        rintro _ ⟨x3, rfl⟩
        go_wp2
        go_roundw
        case rel => exact ⟨m + 1, hi, f, congrArg (Value.int IntKind.i64) (by omega), rfl, by omega, h2, by omega, HB3.out, (by repeat (first | exact Below.refl _ _ | refine blw_alloc ?_ | refine blw_plus ?_ | refine Below.drew ?_))⟩
        case measure => simp only [intOf]; omega
      · have hd : decide (z < 0) = false := by simpa using hz
        have HB3 : Hid (bsGo vs v f lo m = bsK vs v) := hidp (by rw [HB2.out, if_neg hz])
        clear HB2
        refine wp_region_plus (by kernel_rfl) (by kernel_rfl) ?_
        repeat (first | go_big_quiet_skip | (go_big_quiet_want; go_big_quiet_op; first | go_big_quiet_on | (apply Exists.intro; refine ⟨fun _ => ?_, ?_⟩; (first | (go_at_call 69; exact Calls.plus_of (HC.out _))); go_big_quiet_on)))
        refine wpQuiet_nil ?_
        rintro _ ⟨x3, rfl⟩
        go_wp2
        go_roundw
        case rel => exact ⟨lo, m, f, rfl, rfl, hmg, by omega, by omega, HB3.out, (by repeat (first | exact Below.refl _ _ | refine blw_alloc ?_ | refine blw_plus ?_ | refine Below.drew ?_))⟩
        case measure => simp only [intOf]; omega
    · have hk : bsK vs v = lo := by rw [← HB.out, bsGo_end vs v f lo hi hlt]
      have HK := hidp hk
      clear hk HB
      by_cases hln : lo < vs.length
      · obtain ⟨b, o, rfl, hb, c0, c1, c2, c3, c4, c5⟩ := HV.out lo vs[lo] (List.getElem?_eq_getElem hln)
        obtain ⟨y, hy⟩ : ∃ y, vs[lo] = y := ⟨_, rfl⟩
        have hys := HS.out vs[lo] (List.getElem_mem hln)
        rw [hy] at c0 c1 c2 c3 c4 c5 hys
        have hgd : vs.getD lo default = y := by simp [List.getD, List.getElem?_eq_getElem hln, hy]
        have HC := hidp fun w => cmpV_any y v w hys HSV.out
        have HF : Hid (bsF vs v = decide (cmpV y v = 0)) := hidp (by unfold bsF; rw [HK.out, hgd, decide_eq_true hln, Bool.true_and])
        unfold verV at HC
        generalize cmpV y v = z at *
        haveI : SzGe (b + 1) w := ⟨hb⟩
        have hd : decide ((lo : Int) < (vs.length : Int)) = true := decide_eq_true (by omega)
        clear hgd hy hys
        go_wp2
        refine wp_region_plus (by kernel_rfl) (by kernel_rfl) ?_
        repeat (first | go_big_quiet_skip | (go_big_quiet_want; go_big_quiet_op; first | go_big_quiet_on | (apply Exists.intro; refine ⟨fun _ => ?_, ?_⟩; (first | (go_at_call 69; exact Calls.plus_of (HC.out _))); go_big_quiet_on)))
        refine wpQuiet_nil ?_
        rintro _ ⟨x3, rfl⟩
        go_wp2
        go_ret2
        refine ⟨?_, (by repeat (first | exact Below.refl _ _ | refine blw_alloc ?_ | refine blw_plus ?_ | refine Below.drew ?_))⟩
        rw [HK.out, HF.out, show decide (z = 0) = (z == 0) from by rw [Bool.eq_iff_iff]; simp]
        rfl
      · have HF : Hid (bsF vs v = false) := hidp (by unfold bsF; rw [HK.out, decide_eq_false hln, Bool.false_and])
        have hd : decide ((lo : Int) < (vs.length : Int)) = false := decide_eq_false (by omega)
        go_wp2
        refine wp_region_plus (by kernel_rfl) (by kernel_rfl) ?_
        repeat (first | go_big_quiet_skip | (go_big_quiet_want; go_big_quiet_op; go_big_quiet_on))
        refine wpQuiet_nil ?_
        rintro _ ⟨x3, rfl⟩
        go_wp2
        go_ret2
        refine ⟨?_, (by repeat (first | exact Below.refl _ _ | refine blw_alloc ?_ | refine blw_plus ?_ | refine Below.drew ?_))⟩
        rw [HK.out, HF.out]
        rfl
end Go.Proofs.YtbopfhbeegkkaaaDoor
