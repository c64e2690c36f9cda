/- The law StoreSwept, walked. -/
import Derived.Test.YtbopfhbeegkkaaaDoorSw5
import Derived.RegionTactic
import Derived.Deep.RegionHeld3
namespace Go.Proofs.YtbopfhbeegkkaaaDoor
open Go.RowKit

def gOf (ps : List PtP) (i : Nat) : PtP := ps.getD i default
theorem gOf_at {ps : List PtP} {i : Nat} (h : i < ps.length) : ps[i]? = some (gOf ps i) := by
  unfold gOf; simp [List.getD, List.getElem?_eq_getElem h]
theorem eqVer_iff (xw xc xs xq : Int) (xd : ByteArray) (xg : Bool) (yw yc ys yq : Int) (yd : ByteArray) (yg : Bool) :
    (⟨xw, xc, xs, xq, xd, xg⟩ : VerP) = ⟨yw, yc, ys, yq, yd, yg⟩ ↔ xw = yw ∧ xc = yc ∧ xs = ys ∧ xq = yq ∧ xd = yd ∧ xg = yg := by simp
set_option maxHeartbeats 4000000 in
@[go_sem 3000] theorem eqVer (w : World) (d : Nat) (xw xc xs xq : Int) (xd : ByteArray) (xg : Bool) (yw yc ys yq : Int) (yd : ByteArray) (yg : Bool) :
    (Op.equalIn (d + 3) 71 (.agg #[.int .i64 xw, .int .i64 xc, .int .i64 xs, .int .i64 xq, .string xd, .bool xg]) (.agg #[.int .i64 yw, .int .i64 yc, .int .i64 ys, .int .i64 yq, .string yd, .bool yg])).run Tryd.prog w =
      .ok (xw == yw && xc == yc && xs == ys && xq == yq && decide (xd = yd) && xg == yg) w := by
  rw [run_equalIn_agg w (d + 2) _ _ _ (by kernel_rfl) (by kernel_rfl)]
  by_cases h1 : xw = yw
  case neg => simp [go_sem, h1]
  by_cases h2 : xc = yc
  case neg => simp [go_sem, h1, h2]
  by_cases h3 : xs = ys
  case neg => simp [go_sem, h1, h2, h3]
  by_cases h4 : xq = yq
  case neg => simp [go_sem, h1, h2, h3, h4]
  by_cases h5 : xd = yd
  case neg =>
    have h6 : ¬ xd.toList = yd.toList := fun e => h5 (by
      obtain ⟨xd⟩ := xd; obtain ⟨yd⟩ := yd
      rw [ByteArray.toList_eq, ByteArray.toList_eq] at e
      exact congrArg _ (Array.toList_inj.1 e))
    simp [go_sem, h1, h2, h3, h4, h5, h6]
  subst h5
  by_cases h6 : xg = yg <;> simp [go_sem, h1, h2, h3, h4, h6]

theorem T3.read' {n a b c : Nat} {w1 w : World} {SA SB SC : Nat → List VerP} (h : T3 n w1 w a SA b SB c SC) (key a0 a1 a2 a3 : Int) (hf : Fit SA 900000) {xw xc xs xq : Int} {xd : ByteArray} {xg : Bool} {z : Int} (hR : readR a0 a1 a2 a3 SA key = (⟨xw, xc, xs, xq, xd, xg⟩, z)) :
    Calls Tryd.prog 36 #[.pointer (some ⟨a, 0, none⟩), .int .i64 key, .agg #[.int .i64 a0, .int .i64 a1, .int .i64 a2, .int .i64 a3]] w fun e w' =>
      e = .returned (.tuple #[.agg #[.int .i64 xw, .int .i64 xc, .int .i64 xs, .int .i64 xq, .string xd, .bool xg], errV z]) ∧ Below w.heap.size w w' := by
  have := h.read key a0 a1 a2 a3 hf
  rw [hR] at this
  exact this
theorem EType.below {n : Nat} {w w' : World} (h : EType w) (hb : Below n w w') (hn : n ≤ w.heap.size) (h0 : 0 < n) : EType w' := by
  unfold EType at *
  rw [hb.cell (p := ⟨0, 0, none⟩) h0]
  exact h

set_option maxRecDepth 20000 in
set_option maxHeartbeats 16000000 in
theorem storeSwept_any (A : Option Addr) (c : Nat) (ps : List PtP) (a0 a1 a2 a3 m0 m1 m2 m3 k turn : Int) (w : World) (hg : EType w) (hps : PtsAt w A ps) (hlen : ps.length ≤ maxLen) :
    Calls Tryd.prog 6 #[.slice A ps.length c, .agg #[.int .i64 a0, .int .i64 a1, .int .i64 a2, .int .i64 a3], .agg #[.int .i64 m0, .int .i64 m1, .int .i64 m2, .int .i64 m3], .int .i64 k, .int .i64 turn] w
      fun e w' => e = .returned (.bool true) ∧ Below w.heap.size w w' := by
  have HG := hidp hg
  have HPS := hidp hps
  have HLM := hidp hlen
  clear hg hps hlen
  by_cases h60 : 60 < ps.length
  · clear HLM
    have hd0 : decide ((60 : Int) < (ps.length : Int)) = true := decide_eq_true (by omega)
    go_enter Tryd.func6, Tryd.ntmps6
    go_wp2
    go_ret
    exact ⟨rfl, (by repeat (first | exact Below.refl _ _ | refine blw_alloc ?_ | refine blw_plus ?_ | refine Below.drew ?_))⟩
  have hd0 : decide ((60 : Int) < (ps.length : Int)) = false := decide_eq_false (by omega)
  have hn : ps.length ≤ 60 := by omega
  clear HLM h60
  go_enter Tryd.func6, Tryd.ntmps6
  go_wp2_with fail
  go_at_call 31
  refine (held_any _).mono ?_
  rintro e W0 ⟨rfl, hb⟩
  have HBW : Hid (Below w.heap.size w W0) := hidp (Below.trans (by repeat (first | exact Below.refl _ _ | refine blw_alloc ?_ | refine blw_plus ?_ | refine Below.drew ?_)) (hb.mono (by simp; omega)))
  have HAT : Hid (W0.heap[w.heap.size]? = some (.cells #[.int .i64 a0, .int .i64 a1, .int .i64 a2, .int .i64 a3] 37)) := hidp ((hb.block _ (by simp; omega)).trans (blk_alloc (blk_new rfl _) _))
  have HMO : Hid (W0.heap[w.heap.size + 1]? = some (.cells #[.int .i64 m0, .int .i64 m1, .int .i64 m2, .int .i64 m3] 37)) := hidp ((hb.block _ (by simp)).trans (blk_new (by simp) _))
  have hsz : w.heap.size + 2 ≤ W0.heap.size := by have := hb.size; simp at this; omega
  clear hb
  haveI : SzGe (w.heap.size + 1) W0 := ⟨by omega⟩
  haveI : SzGe (w.heap.size + 1 + 1) W0 := ⟨by omega⟩
  have HPS0 := hidp (HPS.out.below (HBW.out.mono (Nat.le_refl _)))
  have HT0 : Hid (T3 W0.heap.size W0 (((W0.alloc (.cells #[.slice none 0 0, .slice none 0 0, .slice none 0 0, .slice none 0 0, .slice none 0 0, .slice none 0 0, .slice none 0 0, .slice none 0 0] 66)).alloc (.cells #[.slice none 0 0, .slice none 0 0, .slice none 0 0, .slice none 0 0, .slice none 0 0, .slice none 0 0, .slice none 0 0, .slice none 0 0] 66)).alloc (.cells #[.slice none 0 0, .slice none 0 0, .slice none 0 0, .slice none 0 0, .slice none 0 0, .slice none 0 0, .slice none 0 0, .slice none 0 0] 66)) W0.heap.size (fun _ => []) (W0.heap.size + 1) (fun _ => []) (W0.heap.size + 1 + 1) (fun _ => [])) :=
    hidp (T3.fresh (blk_alloc (blk_alloc (blk_new rfl _) _) _) (blk_alloc (blk_new (by simp) _) _) (blk_new (by simp) _) (by omega) (by omega) (by omega) (by repeat (first | exact Below.refl _ _ | refine blw_alloc ?_ | refine blw_plus ?_ | refine Below.drew ?_)) (Nat.le_refl _) (by omega) (by omega))
  go_wp2_with fail
  go_at_call 32
  refine (pick_is k (ps.length + 1) _ (by omega) (by omega)).mono ?_
  rintro e W1 ⟨rfl, rfl⟩
  have hwn := pickN_lt k (n := ps.length + 1) (by omega)
  generalize pickN k (ps.length + 1) = wn at *
  go_wp2_with fail
  go_loopw [15] (fun i wr => ∃ j : Nat, i = .int .i64 j ∧ j ≤ ps.length ∧ T3 W0.heap.size W0 wr W0.heap.size (sAt (gOf ps) j) (W0.heap.size + 1) (bAt a0 a1 a2 a3 wn (gOf ps) j) (W0.heap.size + 1 + 1) (fun _ => [])) (fun i _ => ps.length - (intOf i).toNat)
  case atStart => exact ⟨0, rfl, Nat.zero_le _, HT0.out⟩
  case round =>
    obtain ⟨j, rfl, hj, ht⟩ := hrel
    have HT := hidp ht
    clear ht HT0
    by_cases hjl : j < ps.length
    · obtain ⟨b, o, rfl, hb0, hc⟩ := HPS0.out j (gOf ps j) (gOf_at hjl)
      have HX : Hid (sAt (gOf ps) (j + 1) = putP (sAt (gOf ps) j) (gOf ps j) ∧ bAt a0 a1 a2 a3 wn (gOf ps) (j + 1) = putP (if j = wn then sweepS a0 a1 a2 a3 (bAt a0 a1 a2 a3 wn (gOf ps) j) else bAt a0 a1 a2 a3 wn (gOf ps) j) (gOf ps j)) := hidp ⟨rfl, rfl⟩
      have HFA : Hid (Fit (sAt (gOf ps) j) 900000) := hidp ((sAt_fit (gOf ps) j).mono (by omega))
      have HFB : Hid (Fit (bAt a0 a1 a2 a3 wn (gOf ps) j) 900000) := hidp ((bAt_fit a0 a1 a2 a3 wn (gOf ps) j).mono (by omega))
      generalize gOf ps j = xx at hc HX
      obtain ⟨xk, ⟨xw, xc, xs, xq, xd, xg⟩⟩ := xx
      have HC := hidp hc
      clear hc
      by_cases hjw : j = wn
      · have hd1 : ((j : Int) == (wn : Int)) = true := by simp [hjw]
        have HJ := hidp hjw
        clear hjw
        have hatr := HT.out.low.block _ (show w.heap.size < W0.heap.size by omega)
        rw [HAT.out] at hatr
        have e0 := cell_blk hatr 0; have e1 := cell_blk hatr 1; have e2 := cell_blk hatr 2; have e3 := cell_blk hatr 3
        simp only [List.getElem?_toArray, List.getElem?_cons_zero, List.getElem?_cons_succ] at e0 e1 e2 e3
        clear hatr
        go_wp2_with fail
        go_at_call 33
        refine (T3.sweep HT.out.rot a0 a1 a2 a3 HFB.out).mono ?_
        rintro e wA ⟨rfl, ht, hz⟩
        have HT2 := hidp ht.rot.rot
        have HFB2 : Hid (Fit (sweepS a0 a1 a2 a3 (bAt a0 a1 a2 a3 wn (gOf ps) j)) 900000) := hidp (HFB.out.sweep _ _ _ _)
        clear ht hz e0 e1 e2 e3
        have hlow := HT2.out.low
        obtain ⟨d0, d1, d2, d3, d4, d5, d6⟩ := HC.out.below hlow hb0
        haveI : SzGe (b + 1) wA := ⟨Nat.le_trans hb0 hlow.size⟩
        clear hlow
        go_wp2_with fail
        refine wp_region_plus_tail 10 (by kernel_rfl) (by kernel_rfl) ?_
        simp only [List.take_succ_cons, List.take_zero, List.drop_succ_cons, List.drop_zero]
        repeat (first | go_big_quiet_skip | (go_big_quiet_want; go_big_quiet_op; go_big_quiet_on))
        refine wpQuiet_nil ?_
        rintro _ ⟨x3, rfl⟩
        go_wp2_with fail
        go_at_call 34
        refine (T3.put (HT2.out.below (below_wplus _ _)) xk ⟨xw, xc, xs, xq, xd, xg⟩ HFA.out).mono ?_
        rintro e w3 ⟨rfl, ht3, hz3⟩
        have HT3 := hidp ht3.rot
        clear ht3 hz3 d0 d1 d2 d3 d4 d5 d6
        have hlow := HT3.out.low
        obtain ⟨d0, d1, d2, d3, d4, d5, d6⟩ := HC.out.below hlow hb0
        haveI : SzGe (b + 1) w3 := ⟨Nat.le_trans hb0 hlow.size⟩
        clear hlow
        go_wp2_with fail
        refine wp_region_plus_tail 10 (by kernel_rfl) (by kernel_rfl) ?_
        simp only [List.take_succ_cons, List.take_zero, List.drop_succ_cons, List.drop_zero]
        repeat (first | go_big_quiet_skip | (go_big_quiet_want; go_big_quiet_op; go_big_quiet_on))
        refine wpQuiet_nil ?_
        rintro _ ⟨x4, rfl⟩
        go_wp2_with fail
        go_at_call 34
        refine (T3.put (HT3.out.below (below_wplus _ _)) xk ⟨xw, xc, xs, xq, xd, xg⟩ HFB2.out).mono ?_
        rintro e w4 ⟨rfl, ht4, hz4⟩
        have HT4 := hidp ht4.rot.rot
        clear ht4 hz4 d0 d1 d2 d3 d4 d5 d6
        go_wp2_with fail
        go_roundw
        case rel =>
          refine ⟨j + 1, by go_num, by omega, ?_⟩
          rw [HX.out.1, HX.out.2, if_pos HJ.out]
          exact HT4.out
        case measure => simp [intOf]; omega
      · have hd1 : ((j : Int) == (wn : Int)) = false := by simp; omega
        have HJ := hidp hjw
        clear hjw
        have hlow := HT.out.low
        obtain ⟨d0, d1, d2, d3, d4, d5, d6⟩ := HC.out.below hlow hb0
        haveI : SzGe (b + 1) wr := ⟨Nat.le_trans hb0 hlow.size⟩
        clear hlow
        go_wp2_with fail
        refine wp_region_plus_tail 10 (by kernel_rfl) (by kernel_rfl) ?_
        simp only [List.take_succ_cons, List.take_zero, List.drop_succ_cons, List.drop_zero]
        repeat (first | go_big_quiet_skip | (go_big_quiet_want; go_big_quiet_op; go_big_quiet_on))
        refine wpQuiet_nil ?_
        rintro _ ⟨x3, rfl⟩
        go_wp2_with fail
        go_at_call 34
        refine (T3.put (HT.out.below (below_wplus _ _)) xk ⟨xw, xc, xs, xq, xd, xg⟩ HFA.out).mono ?_
        rintro e w3 ⟨rfl, ht3, hz3⟩
        have HT3 := hidp ht3.rot
        clear ht3 hz3 d0 d1 d2 d3 d4 d5 d6
        have hlow := HT3.out.low
        obtain ⟨d0, d1, d2, d3, d4, d5, d6⟩ := HC.out.below hlow hb0
        haveI : SzGe (b + 1) w3 := ⟨Nat.le_trans hb0 hlow.size⟩
        clear hlow
        go_wp2_with fail
        refine wp_region_plus_tail 10 (by kernel_rfl) (by kernel_rfl) ?_
        simp only [List.take_succ_cons, List.take_zero, List.drop_succ_cons, List.drop_zero]
        repeat (first | go_big_quiet_skip | (go_big_quiet_want; go_big_quiet_op; go_big_quiet_on))
        refine wpQuiet_nil ?_
        rintro _ ⟨x4, rfl⟩
        go_wp2_with fail
        go_at_call 34
        refine (T3.put (HT3.out.below (below_wplus _ _)) xk ⟨xw, xc, xs, xq, xd, xg⟩ HFB.out).mono ?_
        rintro e w4 ⟨rfl, ht4, hz4⟩
        have HT4 := hidp ht4.rot.rot
        clear ht4 hz4 d0 d1 d2 d3 d4 d5 d6
        go_wp2_with fail
        go_roundw
        case rel =>
          refine ⟨j + 1, by go_num, by omega, ?_⟩
          rw [HX.out.1, HX.out.2, if_neg HJ.out]
          exact HT4.out
        case measure => simp [intOf]; omega
    · obtain rfl : j = ps.length := by omega
      have HFB : Hid (Fit (bAt a0 a1 a2 a3 wn (gOf ps) ps.length) 900000) := hidp ((bAt_fit a0 a1 a2 a3 wn (gOf ps) ps.length).mono (by omega))
      have hatr := HT.out.low.block _ (show w.heap.size < W0.heap.size by omega)
      rw [HAT.out] at hatr
      have e0 := cell_blk hatr 0; have e1 := cell_blk hatr 1; have e2 := cell_blk hatr 2; have e3 := cell_blk hatr 3
      simp only [List.getElem?_toArray, List.getElem?_cons_zero, List.getElem?_cons_succ] at e0 e1 e2 e3
      clear hatr
      clear hwn hjl hj
      go_wp2_with fail
      go_at_call 33
      refine (T3.sweep HT.out.rot a0 a1 a2 a3 HFB.out).mono ?_
      rintro e wA ⟨rfl, ht, hz⟩
      have HT5 : Hid (T3 W0.heap.size W0 wA W0.heap.size (sAt (gOf ps) ps.length) (W0.heap.size + 1) (sweepS a0 a1 a2 a3 (bAt a0 a1 a2 a3 wn (gOf ps) ps.length)) (W0.heap.size + 1 + 1) (fun _ => [])) := hidp ht.rot.rot
      clear ht hz e0 e1 e2 e3 HT HFB
      go_wp2_with fail
      go_loopw [16, 17] (fun tw i wr => ∃ i' : Nat, i = .int .i64 i' ∧ tw = .bool (twO (gOf ps) i') ∧ i' ≤ ps.length ∧ Below wA.heap.size wA wr) (fun _ i _ => ps.length - (intOf i).toNat)
      case atStart => exact ⟨0, rfl, rfl, Nat.zero_le _, Below.refl _ _⟩
      case round =>
        obtain ⟨i, rfl, rfl, hi, hbl⟩ := hrel
        obtain ⟨x, rfl⟩ := wplus_of_below hbl
        clear hbl
        by_cases hil : i < ps.length
        · obtain ⟨T0, hT0⟩ : ∃ T0, twO (gOf ps) i = T0 := ⟨_, rfl⟩
          have HT0 := hidp hT0
          rw [hT0]
          clear hT0
          go_wp2_with fail
          go_loopw [16, 18] (fun tw j wr => ∃ j' : Nat, j = .int .i64 j' ∧ tw = .bool (T0 || twI (gOf ps) i j') ∧ j' ≤ i ∧ Below wA.heap.size wA wr) (fun _ j _ => i - (intOf j).toNat)
          case atStart => exact ⟨0, rfl, by simp [twI], Nat.zero_le _, (by repeat (first | exact Below.refl _ _ | refine blw_alloc ?_ | refine blw_plus ?_ | refine Below.drew ?_))⟩
          case round =>
            obtain ⟨j, rfl, rfl, hj, hbl⟩ := hrel
            have HLW : Hid (Below W0.heap.size W0 wr) := hidp (HT5.out.low.trans (hbl.mono HT5.out.low.size))
            have HBL := hidp hbl
            clear hbl
            obtain ⟨T1, hT1⟩ : ∃ T1, (T0 || twI (gOf ps) i j) = T1 := ⟨_, rfl⟩
            rw [hT1]
            by_cases hjl : j < i
            · obtain ⟨b, o, rfl, hb0, hc⟩ := HPS0.out i (gOf ps i) (gOf_at hil)
              obtain ⟨b', o', hbo, hb1, hc'⟩ := HPS0.out j (gOf ps j) (gOf_at (show j < ps.length by omega))
              obtain ⟨rfl, rfl⟩ : b' = b ∧ o' = o := by simp at hbo; exact ⟨hbo.1.symm, hbo.2.symm⟩
              clear hbo
              have HX : Hid ((T0 || twI (gOf ps) i (j + 1)) = (T1 || sameB (gOf ps i) (gOf ps j))) := hidp (by rw [← hT1, Bool.or_assoc]; rfl)
              clear hT1
              generalize gOf ps i = xx at hc HX
              generalize gOf ps j = yy at hc' HX
              obtain ⟨xk, ⟨xw, xc, xs, xq, xd, xg⟩⟩ := xx
              obtain ⟨yk, ⟨yw, yc, ys, yq, yd, yg⟩⟩ := yy
              obtain ⟨d0, d1, d2, d3, d4, d5, d6⟩ := hc.below HLW.out hb0
              obtain ⟨f0, f1, f2, f3, f4, f5, f6⟩ := hc'.below HLW.out hb0
              haveI : SzGe (b' + 1) wr := ⟨Nat.le_trans hb0 HLW.out.size⟩
              have hjp : j < ps.length := by omega
              clear hc hc'
              go_wp2_with fail
              go_region_held3 (fun W : World => W.cell? ⟨b', o' + i * 7, none⟩ = some (.int .i64 xk) ∧ W.cell? ⟨b', o' + i * 7 + 1, none⟩ = some (.int .i64 xw) ∧ W.cell? ⟨b', o' + i * 7 + 2, none⟩ = some (.int .i64 xc) ∧ W.cell? ⟨b', o' + i * 7 + 3, none⟩ = some (.int .i64 xs) ∧ W.cell? ⟨b', o' + i * 7 + 4, none⟩ = some (.int .i64 xq) ∧ W.cell? ⟨b', o' + i * 7 + 5, none⟩ = some (.string xd) ∧ W.cell? ⟨b', o' + i * 7 + 6, none⟩ = some (.bool xg) ∧ W.cell? ⟨b', o' + j * 7, none⟩ = some (.int .i64 yk) ∧ W.cell? ⟨b', o' + j * 7 + 1, none⟩ = some (.int .i64 yw) ∧ W.cell? ⟨b', o' + j * 7 + 2, none⟩ = some (.int .i64 yc) ∧ W.cell? ⟨b', o' + j * 7 + 3, none⟩ = some (.int .i64 ys) ∧ W.cell? ⟨b', o' + j * 7 + 4, none⟩ = some (.int .i64 yq) ∧ W.cell? ⟨b', o' + j * 7 + 5, none⟩ = some (.string yd) ∧ W.cell? ⟨b', o' + j * 7 + 6, none⟩ = some (.bool yg)) ((repeat' apply And.intro) <;> simp [go_sem, *]) (fail)
              all_goals go_wp2_with fail
              all_goals
                refine ⟨⟨j + 1, by go_num, ?_, by omega, HBL.out.trans (Below.mono (B := wr.heap.size) (by repeat (first | exact Below.refl _ _ | refine blw_alloc ?_ | refine blw_plus ?_ | refine Below.drew ?_)) HBL.out.size)⟩, by simp [intOf]; omega⟩
                refine congrArg Value.bool ?_
                rw [HX.out]
                simp [sameB, *]
            · obtain rfl : j = i := by omega
              have HB2 := hidp (show twO (gOf ps) (j + 1) = T1 by rw [← hT1, ← HT0.out]; rfl)
              clear hT1
              go_wp2_with fail
              go_roundw
              case rel => exact ⟨j + 1, by go_num, congrArg Value.bool HB2.out.symm, by omega, HBL.out⟩
              case measure => simp [intOf]; omega
        · obtain rfl : i = ps.length := by omega
          obtain ⟨TW, hTW⟩ : ∃ TW, twO (gOf ps) ps.length = TW := ⟨_, rfl⟩
          rw [hTW]
          have HTW := hidp hTW
          clear hTW hil hi
          have HTX := hidp (HT5.out.below (below_wplus _ x))
          clear HT5
          obtain ⟨wB, hwB⟩ : ∃ wB, wplus wA x = wB := ⟨_, rfl⟩
          rw [hwB] at HTX ⊢
          clear hwB
          obtain ⟨tn, htn⟩ : ∃ tn, pickN turn ps.length = tn := ⟨_, rfl⟩
          have HTN := hidp htn
          clear htn
          go_wp2_with fail
          go_loopw [21] (fun i wr => ∃ i' : Nat, i = .int .i64 i' ∧ i' ≤ ps.length ∧ T3 W0.heap.size W0 wr W0.heap.size (sAt (gOf ps) ps.length) (W0.heap.size + 1) (sweepS a0 a1 a2 a3 (bAt a0 a1 a2 a3 wn (gOf ps) ps.length)) (W0.heap.size + 1 + 1) (sAt (fun n => gOf ps ((n + tn) % ps.length)) i')) (fun i _ => ps.length - (intOf i).toNat)
          case atStart => exact ⟨0, rfl, Nat.zero_le _, HTX.out⟩
          case round =>
            obtain ⟨i, rfl, hi, ht⟩ := hrel
            have HT := hidp ht
            clear ht HTX
            by_cases hil : i < ps.length
            · have htl : tn < ps.length := by rw [← HTN.out]; exact pickN_lt turn (by omega)
              obtain ⟨q, hq⟩ : ∃ q, (i + tn) % ps.length = q := ⟨_, rfl⟩
              have hql : q < ps.length := by rw [← hq]; exact Nat.mod_lt _ (by omega)
              have hmod : ((i : Int) + (tn : Int)).tmod (ps.length : Int) = (q : Int) := by rw [← hq]; rfl
              have hn0 : ((ps.length : Int) == 0) = false := by rw [beq_eq_false_iff_ne]; omega
              have hn1 : ¬ ((ps.length : Int) = 0) := by omega
              obtain ⟨b, o, rfl, hb0, hc⟩ := HPS0.out q (gOf ps q) (gOf_at hql)
              have HX : Hid (sAt (fun n => gOf ps ((n + tn) % ps.length)) (i + 1) = putP (sAt (fun n => gOf ps ((n + tn) % ps.length)) i) (gOf ps q)) := hidp (by rw [← hq]; rfl)
              have HFC : Hid (Fit (sAt (fun n => gOf ps ((n + tn) % ps.length)) i) 900000) := hidp ((sAt_fit _ i).mono (by omega))
              have hlow := HT.out.low
              obtain ⟨d0, d1, d2, d3, d4, d5, d6⟩ := hc.below hlow hb0
              haveI : SzGe (b + 1) wr := ⟨Nat.le_trans hb0 hlow.size⟩
              generalize gOf ps q = xx at *
              obtain ⟨xk, ⟨xw, xc, xs, xq, xd, xg⟩⟩ := xx
              simp only at d0 d1 d2 d3 d4 d5 d6
              clear hc hlow hq
              go_wp2_with fail
              go_at_call 32
              refine (pick_is turn ps.length _ (by omega) (by omega)).mono ?_
              rintro e W2 ⟨rfl, rfl⟩
              rw [HTN.out]
              go_wp2_with fail
              go_at_call 34
              refine (T3.put (HT.out.rot.rot.below (by repeat (first | exact Below.refl _ _ | refine blw_alloc ?_ | refine blw_plus ?_ | refine Below.drew ?_))) xk ⟨xw, xc, xs, xq, xd, xg⟩ HFC.out).mono ?_
              rintro e w6 ⟨rfl, ht6, hz6⟩
              have HT6 := hidp ht6.rot
              clear ht6 hz6 d0 d1 d2 d3 d4 d5 d6
              go_wp2_with fail
              go_roundw
              case rel => exact ⟨i + 1, by go_num, by omega, by rw [HX.out]; exact HT6.out⟩
              case measure => simp [intOf]; omega
            · obtain rfl : i = ps.length := by omega
              obtain ⟨SA, hSA⟩ : ∃ SA, sAt (gOf ps) ps.length = SA := ⟨_, rfl⟩
              obtain ⟨SB, hSB⟩ : ∃ SB, sweepS a0 a1 a2 a3 (bAt a0 a1 a2 a3 wn (gOf ps) ps.length) = SB := ⟨_, rfl⟩
              obtain ⟨SC, hSC⟩ : ∃ SC, sAt (fun n => gOf ps ((n + tn) % ps.length)) ps.length = SC := ⟨_, rfl⟩
              have HFA : Hid (Fit SA 900000) := hidp (by rw [← hSA]; exact (sAt_fit _ _).mono (by omega))
              have HFB : Hid (Fit SB 900000) := hidp (by rw [← hSB]; exact ((bAt_fit _ _ _ _ _ _ _).sweep _ _ _ _).mono (by omega))
              have HFC : Hid (Fit SC 900000) := hidp (by rw [← hSC]; exact (sAt_fit _ _).mono (by omega))
              have HLB : Hid (TW = false → ∀ key : Nat, key < 8 → readR (max a0 m0) (max a1 m1) (max a2 m2) (max a3 m3) SB key = readR (max a0 m0) (max a1 m1) (max a2 m2) (max a3 m3) SA key ∧ readR (max a0 m0) (max a1 m1) (max a2 m2) (max a3 m3) SC key = readR (max a0 m0) (max a1 m1) (max a2 m2) (max a3 m3) SA key) := hidp (by
                intro e key hk
                rw [← HTW.out] at e
                rw [← hSA, ← hSB, ← hSC]
                exact ⟨swept_b (by omega) (by omega) (by omega) (by omega) wn e hk, swept_c tn e hk⟩)
              rw [hSA, hSB, hSC] at HT
              clear hSA hSB hSC hil hi HTW HTN
              have hlow := HT.out.low
              have hatr := hlow.block _ (show w.heap.size < W0.heap.size by omega)
              rw [HAT.out] at hatr
              have e0 := cell_blk hatr 0; have e1 := cell_blk hatr 1; have e2 := cell_blk hatr 2; have e3 := cell_blk hatr 3
              have hmor := hlow.block _ (show w.heap.size + 1 < W0.heap.size by omega)
              rw [HMO.out] at hmor
              have f0 := cell_blk hmor 0; have f1 := cell_blk hmor 1; have f2 := cell_blk hmor 2; have f3 := cell_blk hmor 3
              simp only [List.getElem?_toArray, List.getElem?_cons_zero, List.getElem?_cons_succ] at e0 e1 e2 e3 f0 f1 f2 f3
              haveI : SzGe (w.heap.size + 1) wr := ⟨Nat.le_trans (by omega) hlow.size⟩
              haveI : SzGe (w.heap.size + 1 + 1) wr := ⟨Nat.le_trans (by omega) hlow.size⟩
              clear hatr hmor hlow
              go_wp2_with fail
              go_at_call 35
              refine (vMax_any a0 a1 a2 a3 m0 m1 m2 m3 _).mono ?_
              rintro e w7 ⟨rfl, hb⟩
              obtain ⟨x7, rfl⟩ := wplus_of_below hb
              clear hb e0 e1 e2 e3 f0 f1 f2 f3
              generalize max a0 m0 = M0 at *
              generalize max a1 m1 = M1 at *
              generalize max a2 m2 = M2 at *
              generalize max a3 m3 = M3 at *
              go_wp2_with fail
              have HTE0 := hidp (HT.out.below (show Below wr.heap.size wr ((wplus wr x7).alloc (.cells #[.int .i64 M0, .int .i64 M1, .int .i64 M2, .int .i64 M3] 37)) from (by repeat (first | exact Below.refl _ _ | refine blw_alloc ?_ | refine blw_plus ?_ | refine Below.drew ?_))))
              have HSB0 : Hid (((wplus wr x7).alloc (.cells #[.int .i64 M0, .int .i64 M1, .int .i64 M2, .int .i64 M3] 37)).heap[wr.heap.size + x7.blocks.size]? = some (.cells #[.int .i64 M0, .int .i64 M1, .int .i64 M2, .int .i64 M3] 37)) := hidp (blk_new (by simp) _)
              generalize (wplus wr x7).alloc (.cells #[.int .i64 M0, .int .i64 M1, .int .i64 M2, .int .i64 M3] 37) = wE at *
              generalize wr.heap.size + x7.blocks.size = sb at *
              have HTE := hidp HTE0.out
              have HGE := hidp ((HG.out.plus HBW.out).plus HTE.out.low)
              have hlow := HTE.out.low
              have hlw := hlow.size
              have HWE : Hid (Below w.heap.size w wE) := hidp (HBW.out.trans (hlow.mono HBW.out.size))
              clear HT HTE0 hlow
              have e0 := cell_blk HSB0.out 0; have e1 := cell_blk HSB0.out 1; have e2 := cell_blk HSB0.out 2; have e3 := cell_blk HSB0.out 3
              simp only [List.getElem?_toArray, List.getElem?_cons_zero, List.getElem?_cons_succ] at e0 e1 e2 e3
              haveI : SzGe (sb + 1) wE := ⟨lt_blk HSB0.out⟩
              go_loopw [24] (fun i wr => ∃ key : Nat, i = .int .i64 key ∧ key ≤ 8 ∧ Below wE.heap.size wE wr) (fun i _ => 8 - (intOf i).toNat)
              case atStart => exact ⟨0, rfl, by omega, Below.refl _ _⟩
              case round =>
                obtain ⟨key, rfl, hk, hbl⟩ := hrel
                obtain ⟨x, rfl⟩ := wplus_of_below hbl
                clear hbl
                by_cases hk8 : key < 8
                · cases TW
                  · obtain ⟨⟨⟨xw, xc, xs, xq, xd, xg⟩, xz⟩, hR⟩ : ∃ R, readR M0 M1 M2 M3 SA key = R := ⟨_, rfl⟩
                    obtain ⟨hRb, hRc⟩ := HLB.out rfl key hk8
                    have HRA := hidp hR
                    have HRB := hidp (hRb.trans hR)
                    have HRC := hidp (hRc.trans hR)
                    clear hR hRb hRc
                    go_wp2_with fail
                    go_at_call 36
                    refine (T3.read' (HTE.out.below (by repeat (first | exact Below.refl _ _ | refine blw_alloc ?_ | refine blw_plus ?_ | refine Below.drew ?_))) (key : Int) M0 M1 M2 M3 HFA.out HRA.out).mono ?_
                    rintro e wr8 ⟨rfl, hb⟩
                    obtain ⟨x8, rfl⟩ := wplus_of_below hb
                    clear hb
                    go_wp2_with fail
                    go_at_call 36
                    refine (T3.read' (HTE.out.rot.below (by repeat (first | exact Below.refl _ _ | refine blw_alloc ?_ | refine blw_plus ?_ | refine Below.drew ?_))) (key : Int) M0 M1 M2 M3 HFB.out HRB.out).mono ?_
                    rintro e wr9 ⟨rfl, hb⟩
                    obtain ⟨x9, rfl⟩ := wplus_of_below hb
                    clear hb
                    go_wp2_with fail
                    go_at_call 36
                    refine (T3.read' (HTE.out.rot.rot.below (by repeat (first | exact Below.refl _ _ | refine blw_alloc ?_ | refine blw_plus ?_ | refine Below.drew ?_))) (key : Int) M0 M1 M2 M3 HFC.out HRC.out).mono ?_
                    rintro e wr10 ⟨rfl, hb⟩
                    obtain ⟨x10, rfl⟩ := wplus_of_below hb
                    clear hb
                    go_wp2_with (go_at_call 37; go_must (refine (tell_any _ _ (HGE.out.plus (by repeat (first | exact Below.refl _ _ | refine blw_alloc ?_ | refine blw_plus ?_ | refine Below.drew ?_)))).mono ?_; rintro e wt ⟨rfl, hb⟩; obtain ⟨xt, rfl⟩ := wplus_of_below hb; clear hb))
                    all_goals first | (refine ⟨⟨key + 1, by go_num, by omega, (by repeat (first | exact Below.refl _ _ | refine blw_alloc ?_ | refine blw_plus ?_ | refine Below.drew ?_))⟩, by simp [intOf]; omega⟩) | (go_ret; exact ⟨rfl, HWE.out.trans (Below.mono (B := wE.heap.size) (by repeat (first | exact Below.refl _ _ | refine blw_alloc ?_ | refine blw_plus ?_ | refine Below.drew ?_)) HWE.out.size)⟩)
                  · obtain ⟨⟨⟨xw, xc, xs, xq, xd, xg⟩, xz⟩, hR⟩ : ∃ R, readR M0 M1 M2 M3 SA key = R := ⟨_, rfl⟩
                    have HRA := hidp hR
                    clear hR
                    obtain ⟨⟨⟨yw, yc, ys, yq, yd, yg⟩, yz⟩, hR⟩ : ∃ R, readR M0 M1 M2 M3 SB key = R := ⟨_, rfl⟩
                    have HRB := hidp hR
                    clear hR
                    obtain ⟨⟨⟨zw, zc, zs, zq, zd, zg⟩, zz⟩, hR⟩ : ∃ R, readR M0 M1 M2 M3 SC key = R := ⟨_, rfl⟩
                    have HRC := hidp hR
                    clear hR
                    go_wp2_with fail
                    go_at_call 36
                    refine (T3.read' (HTE.out.below (by repeat (first | exact Below.refl _ _ | refine blw_alloc ?_ | refine blw_plus ?_ | refine Below.drew ?_))) (key : Int) M0 M1 M2 M3 HFA.out HRA.out).mono ?_
                    rintro e wr8 ⟨rfl, hb⟩
                    obtain ⟨x8, rfl⟩ := wplus_of_below hb
                    clear hb
                    go_wp2_with fail
                    go_at_call 36
                    refine (T3.read' (HTE.out.rot.below (by repeat (first | exact Below.refl _ _ | refine blw_alloc ?_ | refine blw_plus ?_ | refine Below.drew ?_))) (key : Int) M0 M1 M2 M3 HFB.out HRB.out).mono ?_
                    rintro e wr9 ⟨rfl, hb⟩
                    obtain ⟨x9, rfl⟩ := wplus_of_below hb
                    clear hb
                    go_wp2_with fail
                    go_at_call 36
                    refine (T3.read' (HTE.out.rot.rot.below (by repeat (first | exact Below.refl _ _ | refine blw_alloc ?_ | refine blw_plus ?_ | refine Below.drew ?_))) (key : Int) M0 M1 M2 M3 HFC.out HRC.out).mono ?_
                    rintro e wr10 ⟨rfl, hb⟩
                    obtain ⟨x10, rfl⟩ := wplus_of_below hb
                    clear hb
                    go_wp2_with (go_at_call 37; go_must (refine (tell_any _ _ (HGE.out.plus (by repeat (first | exact Below.refl _ _ | refine blw_alloc ?_ | refine blw_plus ?_ | refine Below.drew ?_)))).mono ?_; rintro e wt ⟨rfl, hb⟩; obtain ⟨xt, rfl⟩ := wplus_of_below hb; clear hb))
                    all_goals first | (refine ⟨⟨key + 1, by go_num, by omega, (by repeat (first | exact Below.refl _ _ | refine blw_alloc ?_ | refine blw_plus ?_ | refine Below.drew ?_))⟩, by simp [intOf]; omega⟩) | (go_ret; exact ⟨rfl, HWE.out.trans (Below.mono (B := wE.heap.size) (by repeat (first | exact Below.refl _ _ | refine blw_alloc ?_ | refine blw_plus ?_ | refine Below.drew ?_)) HWE.out.size)⟩)
                · go_wp2_with fail
                  go_ret; exact ⟨rfl, HWE.out.trans (Below.mono (B := wE.heap.size) (by repeat (first | exact Below.refl _ _ | refine blw_alloc ?_ | refine blw_plus ?_ | refine Below.drew ?_)) HWE.out.size)⟩
end Go.Proofs.YtbopfhbeegkkaaaDoor
