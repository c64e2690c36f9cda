import Derived.Test.YtbopfhbeegkkaaaDoorRRT
namespace Go.Proofs.YtbopfhbeegkkaaaDoor
open Go.RowKit

theorem ba_app (a b : List UInt8) : (⟨a.toArray⟩ : ByteArray) ++ ⟨b.toArray⟩ = ⟨(a ++ b).toArray⟩ := by
  apply ba_ext; rw [ByteArray.data_append]; simp
theorem numB_le6 (n : Nat) (h : n ≤ 1099511627776) : (numB n).length ≤ 6 := numB_len n 6 (by omega) (by omega)

set_option maxHeartbeats 1000000 in
theorem rEncTx_bad (site seq wall count d0 d1 d2 d3 : Int) (ws : List WrP) (A : Option Addr) (c : Nat) (w : World) (h : rightTx ⟨site, seq, wall, count, d0, d1, d2, d3, ws⟩ = false) (hn : ws.length ≤ 1000000) (hws : WsAt w A ws) :
    Calls Tryd.prog 18 #[.agg #[.int .i64 site, .int .i64 seq, .int .i64 wall, .int .i64 count, .int .i64 d0, .int .i64 d1, .int .i64 d2, .int .i64 d3, .slice A ws.length c]] w fun e w' => e = .returned (.tuple #[.string ⟨#[]⟩, .int .i64 1]) ∧ Below w.heap.size w w' := by
  have HR := hidp (fun o => rRightTx_is h A c (w.alloc o) hn (hws.alloc o))
  clear h hws
  go_enter Tryd.func18, Tryd.ntmps18
  go_wp2_with (go_at_call 23; with_reducible refine (HR.out _).mono ?_; rintro e w' ⟨rfl, hb⟩; obtain ⟨x, rfl⟩ := wplus_of_below hb; clear hb)
  go_ret2
  exact ⟨rfl, (by repeat (first | exact Below.refl _ _ | refine blw_alloc ?_ | refine blw_plus ?_ | refine Below.drew ?_))⟩

set_option maxRecDepth 20000 in
set_option maxHeartbeats 8000000 in
theorem rEncTx_good (t : TxP) (A : Option Addr) (c : Nat) (w : World) (h : rightTx t = true) (hws : WsAt w A t.ws) :
    Calls Tryd.prog 18 #[.agg #[.int .i64 t.site, .int .i64 t.seq, .int .i64 t.wall, .int .i64 t.count, .int .i64 t.d0, .int .i64 t.d1, .int .i64 t.d2, .int .i64 t.d3, .slice A t.ws.length c]] w
      fun e w' => e = .returned (.tuple #[.string ⟨(txB t).toArray⟩, .int .i64 0]) ∧ Below w.heap.size w w' := by
  have h2 := h
  simp only [rightTx, Bool.and_eq_true] at h2
  obtain ⟨hw, hl1, hl5⟩ := rightWs_all h2.2
  obtain ⟨q1, q2, q3, q4, q5, q6, q7, q8, _⟩ := headTx_all h2.1
  have HR := hidp (fun o => rRightTx_is h A c (w.alloc o) (by omega) (hws.alloc o))
  clear h h2
  obtain ⟨site, seq, wall, count, d0, d1, d2, d3, ws⟩ := t
  simp only at *
  obtain ⟨s, rfl⟩ := Int.eq_ofNat_of_zero_le q1.1
  obtain ⟨q, rfl⟩ := Int.eq_ofNat_of_zero_le (show 0 ≤ seq by omega)
  obtain ⟨wl, rfl⟩ := Int.eq_ofNat_of_zero_le q3.1
  obtain ⟨ct, rfl⟩ := Int.eq_ofNat_of_zero_le q4.1
  obtain ⟨e0, rfl⟩ := Int.eq_ofNat_of_zero_le q5.1
  obtain ⟨e1, rfl⟩ := Int.eq_ofNat_of_zero_le q6.1
  obtain ⟨e2, rfl⟩ := Int.eq_ofNat_of_zero_le q7.1
  obtain ⟨e3, rfl⟩ := Int.eq_ofNat_of_zero_le q8.1
  have HW := hidp hw
  have HWS := hidp hws
  have N1 := hidp (rNumber_any s (by omega))
  have N2 := hidp (rNumber_any q (by omega))
  have N3 := hidp (rNumber_any wl (by omega))
  have N4 := hidp (rNumber_any ct (by omega))
  have E0 := hidp (rNumber_any e0 (by omega))
  have E1 := hidp (rNumber_any e1 (by omega))
  have E2 := hidp (rNumber_any e2 (by omega))
  have E3 := hidp (rNumber_any e3 (by omega))
  have NL := hidp (rNumber_any ws.length (by omega))
  have b1 := numB_le6 s (by omega)
  have b2 := numB_le6 q (by omega)
  have b3 := numB_le6 wl (by omega)
  have b4 := numB_le6 ct (by omega)
  have b5 := numB_le6 e0 (by omega)
  have b6 := numB_le6 e1 (by omega)
  have b7 := numB_le6 e2 (by omega)
  have b8 := numB_le6 e3 (by omega)
  have b9 := numB_le6 ws.length (by omega)
  obtain ⟨L0, hL0⟩ : ∃ L0, 116 :: (numsB [s, q, wl, ct] ++ numsB [e0, e1, e2, e3] ++ numsB [ws.length]) = L0 := ⟨_, rfl⟩
  have HFIN : Hid (txB ⟨s, q, wl, ct, e0, e1, e2, e3, ws⟩ = L0 ++ ws.flatMap wrB) := hidp (by rw [← hL0]; simp [txB])
  have HL0 := hidp hL0
  have HLL : Hid (L0.length ≤ 100) := hidp (by rw [← hL0]; simp [numsB]; omega)
  clear hw hws hL0
  go_enter Tryd.func18, Tryd.ntmps18
  go_wp2_with (go_at_call 23; with_reducible refine (HR.out _).mono ?_; rintro e w' ⟨rfl, hb⟩; obtain ⟨x, rfl⟩ := wplus_of_below hb; clear hb)
  refine wp_region_plus (by kernel_rfl) (by kernel_rfl) ?_
  repeat (first | go_big_quiet_skip | (go_big_quiet_want; go_big_quiet_op; first | go_big_quiet_on | (apply Exists.intro; refine ⟨fun _ => ?_, ?_⟩; (first | (go_at_call 58; with_reducible exact Calls.plus_of (N1.out _)) | (go_at_call 58; with_reducible exact Calls.plus_of (N2.out _)) | (go_at_call 58; with_reducible exact Calls.plus_of (N3.out _)) | (go_at_call 58; with_reducible exact Calls.plus_of (N4.out _))); go_big_quiet_on)))
  refine wpQuiet_nil ?_
  rintro _ ⟨x1, rfl⟩
  go_wp2
  refine wp_loop_rounds 5 ?_
  rw [rounds_succ]
  go_wp2_with (go_at_call 58; with_reducible refine (E0.out _).mono ?_; rintro e w' ⟨rfl, hb⟩; obtain ⟨y, rfl⟩ := wplus_of_below hb; clear hb)
  rw [rounds_succ]
  go_wp2_with (go_at_call 58; with_reducible refine (E1.out _).mono ?_; rintro e w' ⟨rfl, hb⟩; obtain ⟨y, rfl⟩ := wplus_of_below hb; clear hb)
  rw [rounds_succ]
  go_wp2_with (go_at_call 58; with_reducible refine (E2.out _).mono ?_; rintro e w' ⟨rfl, hb⟩; obtain ⟨y, rfl⟩ := wplus_of_below hb; clear hb)
  rw [rounds_succ]
  go_wp2_with (go_at_call 58; with_reducible refine (E3.out _).mono ?_; rintro e w' ⟨rfl, hb⟩; obtain ⟨y, rfl⟩ := wplus_of_below hb; clear hb)
  rw [rounds_succ]
  go_wp2_with (go_at_call 58; with_reducible refine (NL.out _).mono ?_; rintro e w' ⟨rfl, hb⟩; obtain ⟨y, rfl⟩ := wplus_of_below hb; clear hb)
  have HS0 : Hid (((⟨#[116]⟩ : ByteArray) ++ ⟨(numB s).toArray⟩ ++ ⟨(numB q).toArray⟩ ++ ⟨(numB wl).toArray⟩ ++ ⟨(numB ct).toArray⟩ ++ ⟨(numB e0).toArray⟩ ++ ⟨(numB e1).toArray⟩ ++ ⟨(numB e2).toArray⟩ ++ ⟨(numB e3).toArray⟩ ++ ⟨(numB ws.length).toArray⟩) = ⟨L0.toArray⟩) := hidp (by
    rw [← HL0.out]; apply ba_ext; simp [ByteArray.data_append, numsB])
  go_loopw [4, 49] (fun b i wr => ∃ (k : Nat) (L : List UInt8), k ≤ ws.length ∧ i = .int .i64 k ∧ b = .string ⟨L.toArray⟩ ∧ L = L0 ++ (ws.take k).flatMap wrB ∧ Below (w.alloc (.cells #[.int .i64 s, .int .i64 q, .int .i64 wl, .int .i64 ct, .int .i64 e0, .int .i64 e1, .int .i64 e2, .int .i64 e3, .slice A ws.length c] 40)).heap.size (w.alloc (.cells #[.int .i64 s, .int .i64 q, .int .i64 wl, .int .i64 ct, .int .i64 e0, .int .i64 e1, .int .i64 e2, .int .i64 e3, .slice A ws.length c] 40)) wr) (fun _ i _ => ws.length - (intOf i).toNat)
  case atStart => exact ⟨0, L0, Nat.zero_le _, rfl, congrArg Value.string HS0.out, by simp, (by repeat (first | exact Below.refl _ _ | refine blw_alloc ?_ | refine blw_plus ?_ | refine Below.drew ?_))⟩
  case round =>
    obtain ⟨k, L, hk, rfl, rfl, hL, hbl⟩ := hrel
    obtain ⟨x2, rfl⟩ := wplus_of_below hbl
    clear hbl
    have hlen : L.length ≤ 100 + 30 * k := by
      rw [hL, List.length_append]
      have := HLL.out
      have := wrB_take_le ws HW.out k hk
      omega
    have HLe := hidp hL
    clear hL
    by_cases hlt : k < ws.length
    · obtain ⟨b, o, rfl, hb, h0, h1, h2⟩ := HWS.out k ws[k] (List.getElem?_eq_getElem hlt)
      have hwk := HW.out ws[k] (List.getElem_mem hlt)
      obtain ⟨y, hy⟩ : ∃ y, ws[k] = y := ⟨_, rfl⟩
      have HY := hidp hy
      rw [hy] at h0 h1 h2 hwk
      clear hy
      obtain ⟨key, data, gone⟩ := y
      simp only at *
      obtain ⟨key, rfl⟩ := Int.eq_ofNat_of_zero_le hwk.1.1
      have NK := hidp (rNumber_any key (by omega))
      have ND := hidp (rNumber_any data.size (by omega))
      have bk := numB_le6 key (by omega)
      have bd := numB_le6 data.size (by omega)
      haveI : SzGe (b + 1) w := ⟨hb⟩
      cases gone
      · 
        go_wp2_with (go_at_call 58; with_reducible refine (NK.out _).mono ?_; rintro e w' ⟨rfl, hb⟩; obtain ⟨y, rfl⟩ := wplus_of_below hb; clear hb)
        refine wp_region_plus (by kernel_rfl) (by kernel_rfl) ?_
        repeat (first | go_big_quiet_skip | (go_big_quiet_want; go_big_quiet_op; first | go_big_quiet_on | (apply Exists.intro; refine ⟨fun _ => ?_, ?_⟩; (first | (go_at_call 58; with_reducible exact Calls.plus_of (ND.out _))); go_big_quiet_on)))
        refine wpQuiet_nil ?_
        rintro _ ⟨x3, rfl⟩
        have HS : Hid (((⟨L.toArray⟩ : ByteArray) ++ ⟨(numB key).toArray⟩ ++ ⟨#[0]⟩ ++ (⟨(numB data.size).toArray⟩ ++ data)) = ⟨(L ++ wrB ⟨(key : Int), data, false⟩).toArray⟩) := hidp (by
          apply ba_ext; simp [ByteArray.data_append, wrB, numsB, goneN, numB_lt])
        go_wp2
        go_roundw
        case rel =>
          refine ⟨k + 1, _, by omega, by go_num, congrArg Value.string HS.out, ?_, (by repeat (first | exact Below.refl _ _ | refine blw_alloc ?_ | refine blw_plus ?_ | refine Below.drew ?_))⟩
          rw [List.take_succ_eq_append_getElem hlt, HLe.out, HY.out]; simp
        case measure => simp [intOf]; omega
      · 
        go_wp2_with (go_at_call 58; with_reducible refine (NK.out _).mono ?_; rintro e w' ⟨rfl, hb⟩; obtain ⟨y, rfl⟩ := wplus_of_below hb; clear hb)
        refine wp_region_plus (by kernel_rfl) (by kernel_rfl) ?_
        repeat (first | go_big_quiet_skip | (go_big_quiet_want; go_big_quiet_op; first | go_big_quiet_on | (apply Exists.intro; refine ⟨fun _ => ?_, ?_⟩; (first | (go_at_call 58; with_reducible exact Calls.plus_of (ND.out _))); go_big_quiet_on)))
        refine wpQuiet_nil ?_
        rintro _ ⟨x3, rfl⟩
        have HS : Hid (((⟨L.toArray⟩ : ByteArray) ++ ⟨(numB key).toArray⟩ ++ ⟨#[1]⟩ ++ (⟨(numB data.size).toArray⟩ ++ data)) = ⟨(L ++ wrB ⟨(key : Int), data, true⟩).toArray⟩) := hidp (by
          apply ba_ext; simp [ByteArray.data_append, wrB, numsB, goneN, numB_lt])
        go_wp2
        go_roundw
        case rel =>
          refine ⟨k + 1, _, by omega, by go_num, congrArg Value.string HS.out, ?_, (by repeat (first | exact Below.refl _ _ | refine blw_alloc ?_ | refine blw_plus ?_ | refine Below.drew ?_))⟩
          rw [List.take_succ_eq_append_getElem hlt, HLe.out, HY.out]; simp
        case measure => simp [intOf]; omega
    · have hkk : k = ws.length := by omega
      go_wp2
      go_ret2
      refine ⟨?_, (by repeat (first | exact Below.refl _ _ | refine blw_alloc ?_ | refine blw_plus ?_ | refine Below.drew ?_))⟩
      have hL := HLe.out
      rw [hkk, List.take_length] at hL
      rw [HFIN.out, ← hL]
      rfl

theorem okAsk_rgt (s a0 a1 a2 a3 : Int) : okAsk s a0 a1 a2 a3 = (decide (0 ≤ s ∧ s ≤ 3) && rgtB a0 a1 a2 a3) := by
  rw [Bool.eq_iff_iff]
  simp only [okAsk, okN, rgtB, Bool.and_eq_true, decide_eq_true_eq]
  omega
set_option maxHeartbeats 1000000 in
theorem rEncAsk_bad (s a0 a1 a2 a3 : Int) (w : World) (h : okAsk s a0 a1 a2 a3 = false) :
    Calls Tryd.prog 20 #[.int .i64 s, .agg #[.int .i64 a0, .int .i64 a1, .int .i64 a2, .int .i64 a3]] w fun e w' => e = .returned (.tuple #[.string ⟨#[]⟩, .int .i64 1]) ∧ Below w.heap.size w w' := by
  rw [okAsk_rgt] at h
  by_cases h1 : 0 ≤ s ∧ s ≤ 3
  · rw [decide_eq_true h1, Bool.true_and] at h
    have HI := hidp fun w => in_is w (decide_eq_true h1)
    have HR := hidp (fun w => rRight_is h w)
    clear h
    go_enter Tryd.func20, Tryd.ntmps20
    go_wp2_with (first | (go_at_call 54; refine (HI.out _).mono ?_; rintro e w' ⟨rfl, rfl⟩) | (go_at_call 60; refine (HR.out _).mono ?_; rintro e w' ⟨rfl, hb⟩; obtain ⟨x, rfl⟩ := wplus_of_below hb; clear hb))
    go_ret2
    exact ⟨rfl, (by repeat (first | exact Below.refl _ _ | refine blw_alloc ?_ | refine blw_plus ?_ | refine Below.drew ?_))⟩
  · have HI := hidp fun w => in_is w (decide_eq_false h1)
    clear h
    go_enter Tryd.func20, Tryd.ntmps20
    go_wp2_with (go_at_call 54; refine (HI.out _).mono ?_; rintro e w' ⟨rfl, rfl⟩)
    go_ret2
    exact ⟨rfl, (by repeat (first | exact Below.refl _ _ | refine blw_alloc ?_ | refine blw_plus ?_ | refine Below.drew ?_))⟩

set_option maxRecDepth 20000 in
set_option maxHeartbeats 4000000 in
theorem rEncAsk_good (s a0 a1 a2 a3 : Int) (w : World) (h : okAsk s a0 a1 a2 a3 = true) :
    Calls Tryd.prog 20 #[.int .i64 s, .agg #[.int .i64 a0, .int .i64 a1, .int .i64 a2, .int .i64 a3]] w fun e w' => e = .returned (.tuple #[.string ⟨(askB s a0 a1 a2 a3).toArray⟩, .int .i64 0]) ∧ Below w.heap.size w w' := by
  obtain ⟨g1, g2, g3, g4, g5⟩ := okAsk_all h
  rw [okAsk_rgt, Bool.and_eq_true] at h
  obtain ⟨h1, h2⟩ := h
  have HI := hidp fun w => in_is w h1
  have HR := hidp (fun w => rRight_is h2 w)
  clear h1 h2
  obtain ⟨s, rfl⟩ := Int.eq_ofNat_of_zero_le g1.1
  obtain ⟨e0, rfl⟩ := Int.eq_ofNat_of_zero_le g2.1
  obtain ⟨e1, rfl⟩ := Int.eq_ofNat_of_zero_le g3.1
  obtain ⟨e2, rfl⟩ := Int.eq_ofNat_of_zero_le g4.1
  obtain ⟨e3, rfl⟩ := Int.eq_ofNat_of_zero_le g5.1
  have NL := hidp (rNumber_any s (by omega))
  have E0 := hidp (rNumber_any e0 (by omega))
  have E1 := hidp (rNumber_any e1 (by omega))
  have E2 := hidp (rNumber_any e2 (by omega))
  have E3 := hidp (rNumber_any e3 (by omega))
  have b4 := numB_le6 s (by omega)
  have b5 := numB_le6 e0 (by omega)
  have b6 := numB_le6 e1 (by omega)
  have b7 := numB_le6 e2 (by omega)
  have b8 := numB_le6 e3 (by omega)
  have HS0 : Hid (((⟨#[97]⟩ : ByteArray) ++ ⟨(numB s).toArray⟩ ++ ⟨(numB e0).toArray⟩ ++ ⟨(numB e1).toArray⟩ ++ ⟨(numB e2).toArray⟩ ++ ⟨(numB e3).toArray⟩) = ⟨(askB (s : Int) (e0 : Int) (e1 : Int) (e2 : Int) (e3 : Int)).toArray⟩) := hidp (by
    apply ba_ext; simp [ByteArray.data_append, numsB, askB])
  go_enter Tryd.func20, Tryd.ntmps20
  go_wp2_with (first | (go_at_call 54; refine (HI.out _).mono ?_; rintro e w' ⟨rfl, rfl⟩) | (go_at_call 60; refine (HR.out _).mono ?_; rintro e w' ⟨rfl, hb⟩; obtain ⟨x, rfl⟩ := wplus_of_below hb; clear hb))
  go_wp2_with (go_at_call 58; with_reducible refine (NL.out _).mono ?_; rintro e w' ⟨rfl, hb⟩; obtain ⟨y, rfl⟩ := wplus_of_below hb; clear hb)
  refine wp_loop_rounds 5 ?_
  rw [rounds_succ]
  go_wp2_with (go_at_call 58; with_reducible refine (E0.out _).mono ?_; rintro e w' ⟨rfl, hb⟩; obtain ⟨y, rfl⟩ := wplus_of_below hb; clear hb)
  rw [rounds_succ]
  go_wp2_with (go_at_call 58; with_reducible refine (E1.out _).mono ?_; rintro e w' ⟨rfl, hb⟩; obtain ⟨y, rfl⟩ := wplus_of_below hb; clear hb)
  rw [rounds_succ]
  go_wp2_with (go_at_call 58; with_reducible refine (E2.out _).mono ?_; rintro e w' ⟨rfl, hb⟩; obtain ⟨y, rfl⟩ := wplus_of_below hb; clear hb)
  rw [rounds_succ]
  go_wp2_with (go_at_call 58; with_reducible refine (E3.out _).mono ?_; rintro e w' ⟨rfl, hb⟩; obtain ⟨y, rfl⟩ := wplus_of_below hb; clear hb)
  rw [rounds_succ]
  go_wp2
  go_ret2
  refine ⟨?_, (by repeat (first | exact Below.refl _ _ | refine blw_alloc ?_ | refine blw_plus ?_ | refine Below.drew ?_))⟩
  rw [← HS0.out]
  rfl
end Go.Proofs.YtbopfhbeegkkaaaDoor
