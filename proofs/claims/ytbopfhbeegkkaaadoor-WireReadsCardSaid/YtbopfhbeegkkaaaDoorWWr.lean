import Derived.Test.YtbopfhbeegkkaaaDoorWBh
import Derived.Test.YtbopfhbeegkkaaaDoorREnc
namespace Go.Proofs.YtbopfhbeegkkaaaDoor
open Go.RowKit

theorem conv_all {w : World} {g c : Nat} {A : Option Addr} {l : List UInt8} (h : BsVal w g (.slice A l.length c) l) : (convert 44 9 (.slice A l.length c)).run Tryd.prog w = .ok (.string ⟨l.toArray⟩) w := by
  have := conv_bs h (Nat.le_refl _)
  rwa [List.take_length] at this
theorem EType.plus' {w w' : World} (h : EType w) (hb : Below w.heap.size w w') : EType w' := h.plus hb

set_option maxRecDepth 20000 in
set_option maxHeartbeats 16000000 in
theorem wireWrites_any (site seq wall count d0 d1 d2 d3 : Int) (A : Option Addr) (c : Nat) (ws : List WrP) (n a0 a1 a2 a3 : Int) (w : World) (hg : EType w) (hn : ws.length ≤ 9223372036854775807) (hws : WsAt w A ws)
    (hseq : -9223372036854775808 ≤ seq ∧ seq ≤ 9223372036854775807) :
    Calls Tryd.prog 4 #[.agg #[.int .i64 site, .int .i64 seq, .int .i64 wall, .int .i64 count, .int .i64 d0, .int .i64 d1, .int .i64 d2, .int .i64 d3, .slice A ws.length c], .int .i64 n, .agg #[.int .i64 a0, .int .i64 a1, .int .i64 a2, .int .i64 a3]] w fun e w' => e = .returned (.bool true) ∧ Below w.heap.size w w' := by
  have HWS := hidp hws
  have HSEQ := hidp hseq
  have HG := hidp hg
  clear hws hseq hg
  go_enter Tryd.func4, Tryd.ntmps4
  have st1 := wb_start w #[.int .i64 site, .int .i64 seq, .int .i64 wall, .int .i64 count, .int .i64 d0, .int .i64 d1, .int .i64 d2, .int .i64 d3, .slice A ws.length c] #[.int .i64 a0, .int .i64 a1, .int .i64 a2, .int .i64 a3]
  go_wp2_with fail
  go_at_call 17
  refine (few_any site seq wall count d0 d1 d2 d3 A c ws _ hn (HWS.out.below st1.bl)).mono ?_
  rintro e w2 ⟨b, rfl, hb20, hb⟩
  have st2 := hidp (st1.below hb)
  clear hb st1
  cases b
  · clear HWS
    have hc := blk9 st2.out.b1
    have hd := blk4 st2.out.b2
    have hsz2 := st2.out.sz
    haveI : SzGe (w.heap.size + 2) w2 := ⟨hsz2⟩
    haveI : SzGe (w.heap.size + 1) w2 := ⟨Nat.le_of_succ_le hsz2⟩
    go_split_ands
    go_wp2
    go_ret
    exact ⟨rfl, st2.out.bl⟩
  have h20 := hb20 rfl
  have hn20 : ws.length ≤ 1000000 := by omega
  clear hb20
  rcases hr : rightTx ⟨site, seq, wall, count, d0, d1, d2, d3, ws⟩ with _ | _
  · 
    rcases hk2 : okAsk n a0 a1 a2 a3 with _ | _
    · 
      have hc := blk9 st2.out.b1
      have hd := blk4 st2.out.b2
      have hsz2 := st2.out.sz
      haveI : SzGe (w.heap.size + 2) w2 := ⟨hsz2⟩
      haveI : SzGe (w.heap.size + 1) w2 := ⟨Nat.le_of_succ_le hsz2⟩
      go_split_ands
      go_wp2_with fail
      go_at_call 18
      refine (rEncTx_bad site seq wall count d0 d1 d2 d3 ws A c _ hr (by omega) (HWS.out.below st2.out.bl)).mono ?_
      rintro e w3 ⟨rfl, hb⟩
      have st3 := hidp (st2.out.below hb)
      clear hb st2
      have hc := blk9 st3.out.b1
      have hd := blk4 st3.out.b2
      have hsz3 := st3.out.sz
      haveI : SzGe (w.heap.size + 2) w3 := ⟨hsz3⟩
      haveI : SzGe (w.heap.size + 1) w3 := ⟨Nat.le_of_succ_le hsz3⟩
      go_split_ands
      go_wp2_with fail
      go_at_call 19
      refine (encTx_bad site seq wall count d0 d1 d2 d3 ws A c _ hr (by omega) (HWS.out.below st3.out.bl) HSEQ.out).mono ?_
      rintro e w4 ⟨rfl, hb⟩
      have st4 := hidp (st3.out.below hb)
      clear hb st3
      have hc := blk9 st4.out.b1
      have hd := blk4 st4.out.b2
      have hsz4 := st4.out.sz
      haveI : SzGe (w.heap.size + 2) w4 := ⟨hsz4⟩
      haveI : SzGe (w.heap.size + 1) w4 := ⟨Nat.le_of_succ_le hsz4⟩
      go_split_ands
      go_wp2_with fail
      go_at_call 20
      refine (rEncAsk_bad n a0 a1 a2 a3 _ hk2).mono ?_
      rintro e w5 ⟨rfl, hb⟩
      have st5 := hidp (st4.out.below hb)
      clear hb st4
      have hc := blk9 st5.out.b1
      have hd := blk4 st5.out.b2
      have hsz5 := st5.out.sz
      haveI : SzGe (w.heap.size + 2) w5 := ⟨hsz5⟩
      haveI : SzGe (w.heap.size + 1) w5 := ⟨Nat.le_of_succ_le hsz5⟩
      go_split_ands
      go_wp2_with fail
      go_at_call 21
      refine (encAsk_bad' _ hk2).mono ?_
      rintro e w6 ⟨rfl, hb⟩
      have st6 := hidp (st5.out.below hb)
      clear hb st5
      have hc := blk9 st6.out.b1
      have hd := blk4 st6.out.b2
      have hsz6 := st6.out.sz
      haveI : SzGe (w.heap.size + 2) w6 := ⟨hsz6⟩
      haveI : SzGe (w.heap.size + 1) w6 := ⟨Nat.le_of_succ_le hsz6⟩
      go_split_ands
      have HWS6 := hidp (HWS.out.below st6.out.bl)
      have hg6 := hidp (HG.out.plus' st6.out.bl)
      have hcv1 : ∀ y, (convert 44 9 (.slice none 0 0)).run Tryd.prog (wplus w6 y) = .ok (.string ⟨#[]⟩) (wplus w6 y) := fun y => conv_all (l := []) (bs_nil _ 0)
      have hcv2 : ∀ y, (convert 44 9 (.slice none 0 0)).run Tryd.prog (wplus w6 y) = .ok (.string ⟨#[]⟩) (wplus w6 y) := fun y => conv_all (l := []) (bs_nil _ 0)
      go_wp2_with fail
      refine wp_region_plus (by kernel_rfl) (by kernel_rfl) ?_
      repeat (first | go_big_quiet_skip | (go_big_quiet_want; go_big_quiet_op; first | go_big_quiet_on | (apply Exists.intro; refine ⟨fun _ => ?_, ?_⟩; (first | (go_at_call 12; with_reducible exact Calls.plus_of (bareL_nil _)) | (go_at_call 12; with_reducible exact Calls.plus_of (bareL_errno _ _ (hg6.out.plus (by repeat (first | exact Below.refl _ _ | refine blw_alloc ?_ | refine blw_plus ?_ | refine Below.drew ?_))))) | (go_at_call 22; exact Calls.plus_of (rightTx_is (t := ⟨site, seq, wall, count, d0, d1, d2, d3, ws⟩) hr A c _ hn20 (HWS6.out.below (by repeat (first | exact Below.refl _ _ | refine blw_alloc ?_ | refine blw_plus ?_ | refine Below.drew ?_))) HSEQ.out)) | (go_at_call 23; exact Calls.plus_of (rRightTx_is (t := ⟨site, seq, wall, count, d0, d1, d2, d3, ws⟩) hr A c _ hn20 (HWS6.out.below (by repeat (first | exact Below.refl _ _ | refine blw_alloc ?_ | refine blw_plus ?_ | refine Below.drew ?_))))) | (go_at_call 24; exact Calls.plus_of (rightWs_any A c ws _ (by omega) (HWS6.out.below (by repeat (first | exact Below.refl _ _ | refine blw_alloc ?_ | refine blw_plus ?_ | refine Below.drew ?_))))) | (go_at_call 25; exact Calls.plus_of (rRightWs_any A c ws _ (by omega) (HWS6.out.below (by repeat (first | exact Below.refl _ _ | refine blw_alloc ?_ | refine blw_plus ?_ | refine Below.drew ?_)))))); go_big_quiet_on)))
      refine wpQuiet_nil ?_
      rintro _ ⟨x3, rfl⟩
      go_wp2
      go_ret
      exact ⟨rfl, blw_plus (hs := ⟨by omega⟩) st6.out.bl⟩
    · 
      have hc := blk9 st2.out.b1
      have hd := blk4 st2.out.b2
      have hsz2 := st2.out.sz
      haveI : SzGe (w.heap.size + 2) w2 := ⟨hsz2⟩
      haveI : SzGe (w.heap.size + 1) w2 := ⟨Nat.le_of_succ_le hsz2⟩
      go_split_ands
      go_wp2_with fail
      go_at_call 18
      refine (rEncTx_bad site seq wall count d0 d1 d2 d3 ws A c _ hr (by omega) (HWS.out.below st2.out.bl)).mono ?_
      rintro e w3 ⟨rfl, hb⟩
      have st3 := hidp (st2.out.below hb)
      clear hb st2
      have hc := blk9 st3.out.b1
      have hd := blk4 st3.out.b2
      have hsz3 := st3.out.sz
      haveI : SzGe (w.heap.size + 2) w3 := ⟨hsz3⟩
      haveI : SzGe (w.heap.size + 1) w3 := ⟨Nat.le_of_succ_le hsz3⟩
      go_split_ands
      go_wp2_with fail
      go_at_call 19
      refine (encTx_bad site seq wall count d0 d1 d2 d3 ws A c _ hr (by omega) (HWS.out.below st3.out.bl) HSEQ.out).mono ?_
      rintro e w4 ⟨rfl, hb⟩
      have st4 := hidp (st3.out.below hb)
      clear hb st3
      have hc := blk9 st4.out.b1
      have hd := blk4 st4.out.b2
      have hsz4 := st4.out.sz
      haveI : SzGe (w.heap.size + 2) w4 := ⟨hsz4⟩
      haveI : SzGe (w.heap.size + 1) w4 := ⟨Nat.le_of_succ_le hsz4⟩
      go_split_ands
      go_wp2_with fail
      go_at_call 20
      refine (rEncAsk_good n a0 a1 a2 a3 _ hk2).mono ?_
      rintro e w5 ⟨rfl, hb⟩
      have st5 := hidp (st4.out.below hb)
      clear hb st4
      have hc := blk9 st5.out.b1
      have hd := blk4 st5.out.b2
      have hsz5 := st5.out.sz
      haveI : SzGe (w.heap.size + 2) w5 := ⟨hsz5⟩
      haveI : SzGe (w.heap.size + 1) w5 := ⟨Nat.le_of_succ_le hsz5⟩
      go_split_ands
      go_wp2_with fail
      go_at_call 21
      refine (encAsk_good' _ hk2).mono ?_
      rintro e w6 ⟨v2, rfl, hb, hown⟩
      have st6 := hidp (st5.out.below hb)
      obtain ⟨hbs2, A2, c2, rfl, hc2, hc2m⟩ := own_bs hown rfl
      have BS2 := hidp hbs2
      clear hown hbs2 hc2 hc2m
      generalize hL2 : askB n a0 a1 a2 a3 = bs2 at *
      clear hb st5
      have hc := blk9 st6.out.b1
      have hd := blk4 st6.out.b2
      have hsz6 := st6.out.sz
      haveI : SzGe (w.heap.size + 2) w6 := ⟨hsz6⟩
      haveI : SzGe (w.heap.size + 1) w6 := ⟨Nat.le_of_succ_le hsz6⟩
      go_split_ands
      have HWS6 := hidp (HWS.out.below st6.out.bl)
      have hg6 := hidp (HG.out.plus' st6.out.bl)
      have hcv1 : ∀ y, (convert 44 9 (.slice none 0 0)).run Tryd.prog (wplus w6 y) = .ok (.string ⟨#[]⟩) (wplus w6 y) := fun y => conv_all (l := []) (bs_nil _ 0)
      have hcv2 : ∀ y, (convert 44 9 (.slice A2 bs2.length c2)).run Tryd.prog (wplus w6 y) = .ok (.string ⟨bs2.toArray⟩) (wplus w6 y) := fun y => conv_all (BS2.out.below (Nat.le_refl _) (below_wplus _ _))
      go_wp2_with fail
      refine wp_region_plus (by kernel_rfl) (by kernel_rfl) ?_
      repeat (first | go_big_quiet_skip | (go_big_quiet_want; go_big_quiet_op; first | go_big_quiet_on | (apply Exists.intro; refine ⟨fun _ => ?_, ?_⟩; (first | (go_at_call 12; with_reducible exact Calls.plus_of (bareL_nil _)) | (go_at_call 12; with_reducible exact Calls.plus_of (bareL_errno _ _ (hg6.out.plus (by repeat (first | exact Below.refl _ _ | refine blw_alloc ?_ | refine blw_plus ?_ | refine Below.drew ?_))))) | (go_at_call 22; exact Calls.plus_of (rightTx_is (t := ⟨site, seq, wall, count, d0, d1, d2, d3, ws⟩) hr A c _ hn20 (HWS6.out.below (by repeat (first | exact Below.refl _ _ | refine blw_alloc ?_ | refine blw_plus ?_ | refine Below.drew ?_))) HSEQ.out)) | (go_at_call 23; exact Calls.plus_of (rRightTx_is (t := ⟨site, seq, wall, count, d0, d1, d2, d3, ws⟩) hr A c _ hn20 (HWS6.out.below (by repeat (first | exact Below.refl _ _ | refine blw_alloc ?_ | refine blw_plus ?_ | refine Below.drew ?_))))) | (go_at_call 24; exact Calls.plus_of (rightWs_any A c ws _ (by omega) (HWS6.out.below (by repeat (first | exact Below.refl _ _ | refine blw_alloc ?_ | refine blw_plus ?_ | refine Below.drew ?_))))) | (go_at_call 25; exact Calls.plus_of (rRightWs_any A c ws _ (by omega) (HWS6.out.below (by repeat (first | exact Below.refl _ _ | refine blw_alloc ?_ | refine blw_plus ?_ | refine Below.drew ?_)))))); go_big_quiet_on)))
      refine wpQuiet_nil ?_
      rintro _ ⟨x3, rfl⟩
      go_wp2
      go_ret
      exact ⟨rfl, blw_plus (hs := ⟨by omega⟩) st6.out.bl⟩
  · 
    rcases hk2 : okAsk n a0 a1 a2 a3 with _ | _
    · 
      have hc := blk9 st2.out.b1
      have hd := blk4 st2.out.b2
      have hsz2 := st2.out.sz
      haveI : SzGe (w.heap.size + 2) w2 := ⟨hsz2⟩
      haveI : SzGe (w.heap.size + 1) w2 := ⟨Nat.le_of_succ_le hsz2⟩
      go_split_ands
      go_wp2_with fail
      go_at_call 18
      refine (rEncTx_good ⟨site, seq, wall, count, d0, d1, d2, d3, ws⟩ A c _ hr (HWS.out.below st2.out.bl)).mono ?_
      rintro e w3 ⟨rfl, hb⟩
      have st3 := hidp (st2.out.below hb)
      clear hb st2
      have hc := blk9 st3.out.b1
      have hd := blk4 st3.out.b2
      have hsz3 := st3.out.sz
      haveI : SzGe (w.heap.size + 2) w3 := ⟨hsz3⟩
      haveI : SzGe (w.heap.size + 1) w3 := ⟨Nat.le_of_succ_le hsz3⟩
      go_split_ands
      go_wp2_with fail
      go_at_call 19
      refine (encTx_good ⟨site, seq, wall, count, d0, d1, d2, d3, ws⟩ A c _ hr (HWS.out.below st3.out.bl)).mono ?_
      rintro e w4 ⟨v1, rfl, hb, hown⟩
      have st4 := hidp (st3.out.below hb)
      obtain ⟨hbs1, A1, c1, rfl, hc1, hc1m⟩ := own_bs hown rfl
      have BS1 := hidp hbs1
      clear hown hbs1 hc1 hc1m
      generalize hL1 : txB ⟨site, seq, wall, count, d0, d1, d2, d3, ws⟩ = bs1 at *
      clear hb st3
      have hc := blk9 st4.out.b1
      have hd := blk4 st4.out.b2
      have hsz4 := st4.out.sz
      haveI : SzGe (w.heap.size + 2) w4 := ⟨hsz4⟩
      haveI : SzGe (w.heap.size + 1) w4 := ⟨Nat.le_of_succ_le hsz4⟩
      go_split_ands
      go_wp2_with fail
      go_at_call 20
      refine (rEncAsk_bad n a0 a1 a2 a3 _ hk2).mono ?_
      rintro e w5 ⟨rfl, hb⟩
      have st5 := hidp (st4.out.below hb)
      have BS1 := hidp (BS1.out.below (Nat.le_refl _) hb)
      clear hb st4
      have hc := blk9 st5.out.b1
      have hd := blk4 st5.out.b2
      have hsz5 := st5.out.sz
      haveI : SzGe (w.heap.size + 2) w5 := ⟨hsz5⟩
      haveI : SzGe (w.heap.size + 1) w5 := ⟨Nat.le_of_succ_le hsz5⟩
      go_split_ands
      go_wp2_with fail
      go_at_call 21
      refine (encAsk_bad' _ hk2).mono ?_
      rintro e w6 ⟨rfl, hb⟩
      have st6 := hidp (st5.out.below hb)
      have BS1 := hidp (BS1.out.below (Nat.le_refl _) hb)
      clear hb st5
      have hc := blk9 st6.out.b1
      have hd := blk4 st6.out.b2
      have hsz6 := st6.out.sz
      haveI : SzGe (w.heap.size + 2) w6 := ⟨hsz6⟩
      haveI : SzGe (w.heap.size + 1) w6 := ⟨Nat.le_of_succ_le hsz6⟩
      go_split_ands
      have HWS6 := hidp (HWS.out.below st6.out.bl)
      have hg6 := hidp (HG.out.plus' st6.out.bl)
      have hcv1 : ∀ y, (convert 44 9 (.slice A1 bs1.length c1)).run Tryd.prog (wplus w6 y) = .ok (.string ⟨bs1.toArray⟩) (wplus w6 y) := fun y => conv_all (BS1.out.below (Nat.le_refl _) (below_wplus _ _))
      have hcv2 : ∀ y, (convert 44 9 (.slice none 0 0)).run Tryd.prog (wplus w6 y) = .ok (.string ⟨#[]⟩) (wplus w6 y) := fun y => conv_all (l := []) (bs_nil _ 0)
      go_wp2_with fail
      refine wp_region_plus (by kernel_rfl) (by kernel_rfl) ?_
      repeat (first | go_big_quiet_skip | (go_big_quiet_want; go_big_quiet_op; first | go_big_quiet_on | (apply Exists.intro; refine ⟨fun _ => ?_, ?_⟩; (first | (go_at_call 12; with_reducible exact Calls.plus_of (bareL_nil _)) | (go_at_call 12; with_reducible exact Calls.plus_of (bareL_errno _ _ (hg6.out.plus (by repeat (first | exact Below.refl _ _ | refine blw_alloc ?_ | refine blw_plus ?_ | refine Below.drew ?_))))) | (go_at_call 22; exact Calls.plus_of (rightTx_is (t := ⟨site, seq, wall, count, d0, d1, d2, d3, ws⟩) hr A c _ hn20 (HWS6.out.below (by repeat (first | exact Below.refl _ _ | refine blw_alloc ?_ | refine blw_plus ?_ | refine Below.drew ?_))) HSEQ.out)) | (go_at_call 23; exact Calls.plus_of (rRightTx_is (t := ⟨site, seq, wall, count, d0, d1, d2, d3, ws⟩) hr A c _ hn20 (HWS6.out.below (by repeat (first | exact Below.refl _ _ | refine blw_alloc ?_ | refine blw_plus ?_ | refine Below.drew ?_))))) | (go_at_call 24; exact Calls.plus_of (rightWs_any A c ws _ (by omega) (HWS6.out.below (by repeat (first | exact Below.refl _ _ | refine blw_alloc ?_ | refine blw_plus ?_ | refine Below.drew ?_))))) | (go_at_call 25; exact Calls.plus_of (rRightWs_any A c ws _ (by omega) (HWS6.out.below (by repeat (first | exact Below.refl _ _ | refine blw_alloc ?_ | refine blw_plus ?_ | refine Below.drew ?_)))))); go_big_quiet_on)))
      refine wpQuiet_nil ?_
      rintro _ ⟨x3, rfl⟩
      go_wp2
      go_ret
      exact ⟨rfl, blw_plus (hs := ⟨by omega⟩) st6.out.bl⟩
    · 
      have hc := blk9 st2.out.b1
      have hd := blk4 st2.out.b2
      have hsz2 := st2.out.sz
      haveI : SzGe (w.heap.size + 2) w2 := ⟨hsz2⟩
      haveI : SzGe (w.heap.size + 1) w2 := ⟨Nat.le_of_succ_le hsz2⟩
      go_split_ands
      go_wp2_with fail
      go_at_call 18
      refine (rEncTx_good ⟨site, seq, wall, count, d0, d1, d2, d3, ws⟩ A c _ hr (HWS.out.below st2.out.bl)).mono ?_
      rintro e w3 ⟨rfl, hb⟩
      have st3 := hidp (st2.out.below hb)
      clear hb st2
      have hc := blk9 st3.out.b1
      have hd := blk4 st3.out.b2
      have hsz3 := st3.out.sz
      haveI : SzGe (w.heap.size + 2) w3 := ⟨hsz3⟩
      haveI : SzGe (w.heap.size + 1) w3 := ⟨Nat.le_of_succ_le hsz3⟩
      go_split_ands
      go_wp2_with fail
      go_at_call 19
      refine (encTx_good ⟨site, seq, wall, count, d0, d1, d2, d3, ws⟩ A c _ hr (HWS.out.below st3.out.bl)).mono ?_
      rintro e w4 ⟨v1, rfl, hb, hown⟩
      have st4 := hidp (st3.out.below hb)
      obtain ⟨hbs1, A1, c1, rfl, hc1, hc1m⟩ := own_bs hown rfl
      have BS1 := hidp hbs1
      clear hown hbs1 hc1 hc1m
      generalize hL1 : txB ⟨site, seq, wall, count, d0, d1, d2, d3, ws⟩ = bs1 at *
      clear hb st3
      have hc := blk9 st4.out.b1
      have hd := blk4 st4.out.b2
      have hsz4 := st4.out.sz
      haveI : SzGe (w.heap.size + 2) w4 := ⟨hsz4⟩
      haveI : SzGe (w.heap.size + 1) w4 := ⟨Nat.le_of_succ_le hsz4⟩
      go_split_ands
      go_wp2_with fail
      go_at_call 20
      refine (rEncAsk_good n a0 a1 a2 a3 _ hk2).mono ?_
      rintro e w5 ⟨rfl, hb⟩
      have st5 := hidp (st4.out.below hb)
      have BS1 := hidp (BS1.out.below (Nat.le_refl _) hb)
      clear hb st4
      have hc := blk9 st5.out.b1
      have hd := blk4 st5.out.b2
      have hsz5 := st5.out.sz
      haveI : SzGe (w.heap.size + 2) w5 := ⟨hsz5⟩
      haveI : SzGe (w.heap.size + 1) w5 := ⟨Nat.le_of_succ_le hsz5⟩
      go_split_ands
      go_wp2_with fail
      go_at_call 21
      refine (encAsk_good' _ hk2).mono ?_
      rintro e w6 ⟨v2, rfl, hb, hown⟩
      have st6 := hidp (st5.out.below hb)
      have BS1 := hidp (BS1.out.below (Nat.le_refl _) hb)
      obtain ⟨hbs2, A2, c2, rfl, hc2, hc2m⟩ := own_bs hown rfl
      have BS2 := hidp hbs2
      clear hown hbs2 hc2 hc2m
      generalize hL2 : askB n a0 a1 a2 a3 = bs2 at *
      clear hb st5
      have hc := blk9 st6.out.b1
      have hd := blk4 st6.out.b2
      have hsz6 := st6.out.sz
      haveI : SzGe (w.heap.size + 2) w6 := ⟨hsz6⟩
      haveI : SzGe (w.heap.size + 1) w6 := ⟨Nat.le_of_succ_le hsz6⟩
      go_split_ands
      have HWS6 := hidp (HWS.out.below st6.out.bl)
      have hg6 := hidp (HG.out.plus' st6.out.bl)
      have hcv1 : ∀ y, (convert 44 9 (.slice A1 bs1.length c1)).run Tryd.prog (wplus w6 y) = .ok (.string ⟨bs1.toArray⟩) (wplus w6 y) := fun y => conv_all (BS1.out.below (Nat.le_refl _) (below_wplus _ _))
      have hcv2 : ∀ y, (convert 44 9 (.slice A2 bs2.length c2)).run Tryd.prog (wplus w6 y) = .ok (.string ⟨bs2.toArray⟩) (wplus w6 y) := fun y => conv_all (BS2.out.below (Nat.le_refl _) (below_wplus _ _))
      go_wp2_with fail
      refine wp_region_plus (by kernel_rfl) (by kernel_rfl) ?_
      repeat (first | go_big_quiet_skip | (go_big_quiet_want; go_big_quiet_op; first | go_big_quiet_on | (apply Exists.intro; refine ⟨fun _ => ?_, ?_⟩; (first | (go_at_call 12; with_reducible exact Calls.plus_of (bareL_nil _)) | (go_at_call 12; with_reducible exact Calls.plus_of (bareL_errno _ _ (hg6.out.plus (by repeat (first | exact Below.refl _ _ | refine blw_alloc ?_ | refine blw_plus ?_ | refine Below.drew ?_))))) | (go_at_call 22; exact Calls.plus_of (rightTx_is (t := ⟨site, seq, wall, count, d0, d1, d2, d3, ws⟩) hr A c _ hn20 (HWS6.out.below (by repeat (first | exact Below.refl _ _ | refine blw_alloc ?_ | refine blw_plus ?_ | refine Below.drew ?_))) HSEQ.out)) | (go_at_call 23; exact Calls.plus_of (rRightTx_is (t := ⟨site, seq, wall, count, d0, d1, d2, d3, ws⟩) hr A c _ hn20 (HWS6.out.below (by repeat (first | exact Below.refl _ _ | refine blw_alloc ?_ | refine blw_plus ?_ | refine Below.drew ?_))))) | (go_at_call 24; exact Calls.plus_of (rightWs_any A c ws _ (by omega) (HWS6.out.below (by repeat (first | exact Below.refl _ _ | refine blw_alloc ?_ | refine blw_plus ?_ | refine Below.drew ?_))))) | (go_at_call 25; exact Calls.plus_of (rRightWs_any A c ws _ (by omega) (HWS6.out.below (by repeat (first | exact Below.refl _ _ | refine blw_alloc ?_ | refine blw_plus ?_ | refine Below.drew ?_)))))); go_big_quiet_on)))
      refine wpQuiet_nil ?_
      rintro _ ⟨x3, rfl⟩
      go_wp2
      go_ret
      exact ⟨rfl, blw_plus (hs := ⟨by omega⟩) st6.out.bl⟩
end Go.Proofs.YtbopfhbeegkkaaaDoor
