import Derived.Test.YtbopfhbeegkkaaaSent
namespace Go.Proofs.Ytbopfhbeegkkaaa
open Go.RowKit

theorem BsVal.below {w w' : World} {g : Nat} {v : Value} {l : List UInt8} (h : BsVal w g v l) (hg : g ≤ w.heap.size) (hb : Below w.heap.size w w') : BsVal w' w'.heap.size v l :=
  (h.above fun k hk => hb.block k (by omega)).mono (Nat.le_trans hg hb.size)
theorem bs_take {w : World} {g c r : Nat} {A : Option Addr} {l : List UInt8} (h : BsVal w g (.slice A l.length c) l) (hr : r ≤ l.length) : BsVal w g (.slice A r c) (l.take r) := by
  obtain ⟨A', c', e, h1, h2, h3⟩ := h
  cases e
  refine ⟨A, c, by rw [List.length_take, Nat.min_eq_left hr], by rw [List.length_take, Nat.min_eq_left hr]; omega, h2, fun i b hi => ?_⟩
  rw [List.getElem?_take] at hi
  split at hi
  · exact h3 i b hi
  · cases hi

/-- what was boxed stays -/
structure WB (w W : World) (cs1 cs2 : Array Value) : Prop where
  b1 : W.heap[w.heap.size]? = some (.cells cs1 41)
  b2 : W.heap[w.heap.size + 1]? = some (.cells cs2 23)
  bl : Below w.heap.size w W
theorem WB.below {w W W' : World} {cs1 cs2 : Array Value} (h : WB w W cs1 cs2) (hb : Below W.heap.size W W') : WB w W' cs1 cs2 :=
  ⟨by rw [hb.block _ (lt_blk h.b1)]; exact h.b1, by rw [hb.block _ (lt_blk h.b2)]; exact h.b2, h.bl.trans (hb.mono (Nat.le_of_lt (lt_blk h.b1)))⟩
theorem WB.alloc {w W : World} {cs1 cs2 : Array Value} (h : WB w W cs1 cs2) (o : Obj) : WB w (W.alloc o) cs1 cs2 := h.below (blw_alloc (Below.refl _ _))
theorem WB.sz {w W : World} {cs1 cs2 : Array Value} (h : WB w W cs1 cs2) : w.heap.size + 2 ≤ W.heap.size := lt_blk h.b2
theorem wb_start (w : World) (cs1 cs2 : Array Value) : WB w ((w.alloc (.cells cs1 41)).alloc (.cells cs2 23)) cs1 cs2 :=
  ⟨by rw [heap_alloc, if_neg (by simp), heap_alloc, if_pos rfl], by rw [heap_alloc, if_pos (by simp)], blw_alloc (blw_alloc (Below.refl _ _))⟩

theorem encAsk_bad' {s a0 a1 a2 a3 : Int} (w : World) (h : okAsk s a0 a1 a2 a3 = false) :
    Calls Try.prog 27 #[.int .i64 s, .agg #[.int .i64 a0, .int .i64 a1, .int .i64 a2, .int .i64 a3]] w fun e w' => e = .returned (.tuple #[.slice none 0 0, .iface 57 (.int .i64 1)]) ∧ Below w.heap.size w w' := by
  refine encAsk_bad s a0 a1 a2 a3 w ?_
  rcases hr : rgtB a0 a1 a2 a3 with _ | _
  · exact .inr (.inr rfl)
  · rcases Int.lt_or_le s 0 with h1 | h1
    · exact .inl h1
    · rcases Int.lt_or_le s 4 with h2 | h2
      · simp only [okAsk, okN, rgtB, Bool.and_eq_true, Bool.and_eq_false_iff, decide_eq_true_eq, decide_eq_false_iff_not] at h hr
        omega
      · exact .inr (.inl h2)
theorem encAsk_good' {s a0 a1 a2 a3 : Int} (w : World) (h : okAsk s a0 a1 a2 a3 = true) :
    Calls Try.prog 27 #[.int .i64 s, .agg #[.int .i64 a0, .int .i64 a1, .int .i64 a2, .int .i64 a3]] w fun e w' => ∃ v, e = .returned (.tuple #[v, .nilIface]) ∧ Fresh w w' v (askB s a0 a1 a2 a3) := by
  obtain ⟨h1, h2, h3, h4, h5⟩ := okAsk_all h
  obtain ⟨s, rfl⟩ := Int.eq_ofNat_of_zero_le h1.1
  obtain ⟨a0, rfl⟩ := Int.eq_ofNat_of_zero_le h2.1
  obtain ⟨a1, rfl⟩ := Int.eq_ofNat_of_zero_le h3.1
  obtain ⟨a2, rfl⟩ := Int.eq_ofNat_of_zero_le h4.1
  obtain ⟨a3, rfl⟩ := Int.eq_ofNat_of_zero_le h5.1
  have e : askB (s : Int) (a0 : Int) (a1 : Int) (a2 : Int) (a3 : Int) = 97 :: numsB [s, a0, a1, a2, a3] := by simp [askB, numsB]
  rw [e]
  refine encAsk_good s a0 a1 a2 a3 w (by omega) ?_
  simp only [rgtB, Bool.and_eq_true, decide_eq_true_eq]
  omega
theorem decAsk_to {D : Option (Nat × (Nat × Nat × Nat × Nat))} (v : Value) (l : List UInt8) (w : World) (hd : decAsk l = D) (hv : BsVal w w.heap.size v l) (hl : l.length ≤ 1000000) :
    Calls Try.prog 25 #[v] w fun e w' => e = .returned (askV D) ∧ Below w.heap.size w w' := by subst hd; exact decAsk_any v l w hv hl
theorem askB_len {s a0 a1 a2 a3 : Int} (h : okAsk s a0 a1 a2 a3 = true) : (askB s a0 a1 a2 a3).length ≤ 1000 ∧ 0 < (askB s a0 a1 a2 a3).length := by
  obtain ⟨h1, h2, h3, h4, h5⟩ := okAsk_all h
  have h6 := numsB_le [s.toNat] (by intro z hz; simp at hz; omega)
  have h7 := numsB_le [a0.toNat, a1.toNat, a2.toNat, a3.toNat] (by intro z hz; simp at hz; omega)
  simp only [askB, List.length_cons, List.length_append, List.length_nil] at *
  omega

set_option maxRecDepth 20000 in
set_option maxHeartbeats 16000000 in
theorem wireBack_any (site seq wall count d0 d1 d2 d3 : Int) (A : Option Addr) (c : Nat) (ws : List WrP) (n a0 a1 a2 a3 cut : Int) (w : World) (hn : ws.length ≤ 9223372036854775807) (hws : WsAt w A ws)
    (hseq : -9223372036854775808 ≤ seq ∧ seq ≤ 9223372036854775807) (hcut : -9223372036854775808 ≤ cut ∧ cut ≤ 9223372036854775807) :
    Calls Try.prog 6 #[.agg #[.int .i64 site, .int .i64 seq, .int .i64 wall, .int .i64 count, .int .i64 d0, .int .i64 d1, .int .i64 d2, .int .i64 d3, .slice A ws.length c], .int .i64 n, .agg #[.int .i64 a0, .int .i64 a1, .int .i64 a2, .int .i64 a3], .int .i64 cut] w fun e w' => e = .returned (.bool true) ∧ Below w.heap.size w w' := by
  by_cases h10 : 10 < ws.length
  · clear hws
    go_enter Try.func6, Try.ntmps6
    go_wp2
    go_ret
    exact ⟨rfl, (by repeat (first | exact Below.refl _ _ | refine blw_alloc ?_ | refine blw_plus ?_ | refine Below.drew ?_))⟩
  have HWS := hidp hws
  have HSEQ := hidp hseq
  have HCUT := hidp hcut
  clear hws hseq hcut
  go_enter Try.func6, Try.ntmps6
  go_wp2
  go_loopw [9] (fun i wr => ∃ (k : Nat) (x : Tail), k ≤ ws.length ∧ i = .int .i64 k ∧ wr = wplus ((w.alloc (.cells #[.int .i64 site, .int .i64 seq, .int .i64 wall, .int .i64 count, .int .i64 d0, .int .i64 d1, .int .i64 d2, .int .i64 d3, .slice A ws.length c] 41)).alloc (.cells #[.int .i64 a0, .int .i64 a1, .int .i64 a2, .int .i64 a3] 23)) x) (fun i _ => ws.length - (intOf i).toNat)
  case atStart => exact ⟨0, ⟨#[], w.drawn⟩, Nat.zero_le _, rfl, by simp [wplus]; rfl⟩
  case round =>
    obtain ⟨k, x, hk, rfl, rfl⟩ := hrel
    by_cases hlt : k < ws.length
    · obtain ⟨b, o, rfl, hb, h0, h1, h2⟩ := HWS.out k ws[k] (List.getElem?_eq_getElem hlt)
      haveI : SzGe (b + 1) w := ⟨hb⟩
      generalize ws[k] = y at *
      obtain ⟨key, data, gone⟩ := y
      simp only at *
      by_cases hd : 100 < data.size
      · go_wp2
        go_ret
        exact ⟨rfl, (by repeat (first | exact Below.refl _ _ | refine blw_alloc ?_ | refine blw_plus ?_ | refine Below.drew ?_))⟩
      · go_wp2
        go_roundw
        case rel => exact ⟨k + 1, _, by omega, by go_num, rfl⟩
        case measure => simp [intOf]; omega
    · have hkk : k = ws.length := by omega
      have st0 := (wb_start w #[.int .i64 site, .int .i64 seq, .int .i64 wall, .int .i64 count, .int .i64 d0, .int .i64 d1, .int .i64 d2, .int .i64 d3, .slice A ws.length c] #[.int .i64 a0, .int .i64 a1, .int .i64 a2, .int .i64 a3]).below (blw_plus (x := x) (Below.refl _ _))
      go_wp2_with fail
      go_at_call 21
      refine (sent_any _).mono ?_
      rintro e w1 ⟨rfl, hb⟩
      have st1 := hidp (st0.below hb)
      have hws1 := HWS.out.below st1.out.bl
      clear hb st0 HWS hlt hk hkk
      have hc := blk9 st1.out.b1
      have hd := blk4 st1.out.b2
      have hsz1 := st1.out.sz
      haveI : SzGe (w.heap.size + 2) w1 := ⟨hsz1⟩
      haveI : SzGe (w.heap.size + 1) w1 := ⟨Nat.le_of_succ_le hsz1⟩
      go_split_ands
      rcases hr : rightTx ⟨site, seq, wall, count, d0, d1, d2, d3, ws⟩ with _ | _
      · 
        go_wp2_with fail
        go_at_call 22
        refine (encTx_bad site seq wall count d0 d1 d2 d3 ws A c _ hr (by omega) hws1 HSEQ.out).mono ?_
        rintro e w2 ⟨rfl, hb⟩
        have st2 := hidp (st1.out.below hb)
        clear hb hr st1 hws1
        have hc := blk9 st2.out.b1
        have hd := blk4 st2.out.b2
        have hsz2 := st2.out.sz
        haveI : SzGe (w.heap.size + 2) w2 := ⟨hsz2⟩
        haveI : SzGe (w.heap.size + 1) w2 := ⟨Nat.le_of_succ_le hsz2⟩
        go_split_ands
        rcases hk2 : okAsk n a0 a1 a2 a3 with _ | _
        · 
          go_wp2_with fail
          go_at_call 27
          refine (encAsk_bad' _ hk2).mono ?_
          rintro e w3 ⟨rfl, hb⟩
          have st3 := st2.out.below hb
          clear hb
          go_wp2
          go_ret
          exact ⟨rfl, st3.bl⟩
        · 
          have hok := okAsk_all hk2
          obtain ⟨h1, h2, h3, h4, h5⟩ := hok
          have hln := askB_len hk2
          have hdB := decAsk_B n a0 a1 a2 a3 hk2
          have hdS := decAsk_short n a0 a1 a2 a3 hk2
          have hdT := tx_no_ask n a0 a1 a2 a3
          go_wp2_with fail
          go_at_call 27
          refine (encAsk_good' _ hk2).mono ?_
          rintro e w3 ⟨v2, rfl, hb, hown⟩
          have st3 := hidp (st2.out.below hb)
          clear hk2
          generalize askB n a0 a1 a2 a3 = bs at *
          have hbs := (own_bs hown rfl)
          obtain ⟨hbs, A2, c2, rfl, hc2, hc2m⟩ := hbs
          clear hb hown st2
          have BS3 := hidp hbs
          clear hbs
          have hc := blk9 st3.out.b1
          have hd := blk4 st3.out.b2
          have hsz3 := st3.out.sz
          haveI : SzGe (w.heap.size + 2) w3 := ⟨hsz3⟩
          haveI : SzGe (w.heap.size + 1) w3 := ⟨Nat.le_of_succ_le hsz3⟩
          go_split_ands
          go_wp2_with fail
          go_at_call 25
          refine (decAsk_to _ bs _ hdB BS3.out (by omega)).mono ?_
          rintro e w4 ⟨rfl, hb⟩
          have st4 := hidp (st3.out.below hb)
          have BS4 := hidp (BS3.out.below (Nat.le_refl _) hb)
          clear hb hdB BS3 st3
          simp only [askV]
          have hc := blk9 st4.out.b1
          have hd := blk4 st4.out.b2
          have hsz4 := st4.out.sz
          haveI : SzGe (w.heap.size + 2) w4 := ⟨hsz4⟩
          haveI : SzGe (w.heap.size + 1) w4 := ⟨Nat.le_of_succ_le hsz4⟩
          go_split_ands
          have e1 : ((n.toNat : Nat) : Int) = n := by omega
          have e2 : ((a0.toNat : Nat) : Int) = a0 := by omega
          have e3 : ((a1.toNat : Nat) : Int) = a1 := by omega
          have e4 : ((a2.toNat : Nat) : Int) = a2 := by omega
          have e5 : ((a3.toNat : Nat) : Int) = a3 := by omega
          rw [e1, e2, e3, e4, e5]
          clear e1 e2 e3 e4 e5
          go_wp2_with fail
          go_at_call 24
          refine (pick_any cut bs.length _ HCUT.out (by omega) (by omega)).mono ?_
          rintro e _ ⟨⟨r, hr, rfl⟩, rfl⟩
          go_wp2_with fail
          go_at_call 25
          refine (decAsk_to _ (bs.take r) _ (hdS r hr) (bs_take ((BS4.out.below (Nat.le_refl _) (blw_alloc (Below.refl _ _)))) (by omega)) (by simp; omega)).mono ?_
          rintro e w5 ⟨rfl, hb⟩
          have st5 := hidp ((st4.out.alloc _).below hb)
          have BS5 := hidp (BS4.out.below (Nat.le_refl _) (Below.trans (blw_alloc (Below.refl _ _)) (hb.mono (by simp))))
          have hx := hb.block w4.heap.size (by simp)
          rw [heap_alloc, if_pos rfl] at hx
          clear hb st4 BS4
          simp only [askV]
          have hc := blk9 st5.out.b1
          have hd := blk4 st5.out.b2
          have hsz5 := st5.out.sz
          haveI : SzGe (w.heap.size + 2) w5 := ⟨hsz5⟩
          haveI : SzGe (w.heap.size + 1) w5 := ⟨Nat.le_of_succ_le hsz5⟩
          go_split_ands
          go_wp2_with fail
          go_at_call 23
          refine (decTx_to _ bs _ hdT ((BS5.out.below (Nat.le_refl _) (blw_alloc (Below.refl _ _)))) (by omega)).mono ?_
          rintro e w6 ⟨rfl, hb⟩
          have st6 := hidp ((st5.out.alloc _).below hb)
          have hx2 := hb.block w4.heap.size (by have := lt_blk hx; simp; omega)
          rw [heap_alloc, if_neg (by have := lt_blk hx; omega), hx] at hx2
          have hy := blk4 hx2
          have hlt := lt_blk hx2
          haveI : SzGe (w4.heap.size + 1) w6 := ⟨hlt⟩
          clear hb st5 BS5 hx hx2
          have hc := blk9 st6.out.b1
          have hd := blk4 st6.out.b2
          have hsz6 := st6.out.sz
          haveI : SzGe (w.heap.size + 2) w6 := ⟨hsz6⟩
          haveI : SzGe (w.heap.size + 1) w6 := ⟨Nat.le_of_succ_le hsz6⟩
          go_split_ands
          go_wp2
          go_ret
          exact ⟨rfl, (st6.out.alloc _).bl⟩
      · 
        have hln := txB_len hr
        have hdB := decTx_B _ hr
        have hdS := decTx_short _ hr
        have hdT := ask_no_tx ⟨site, seq, wall, count, d0, d1, d2, d3, ws⟩
        go_wp2_with fail
        go_at_call 22
        refine (encTx_good ⟨site, seq, wall, count, d0, d1, d2, d3, ws⟩ A c _ hr hws1).mono ?_
        rintro e w2 ⟨v1, rfl, hb, hown⟩
        have st2 := hidp (st1.out.below hb)
        have hws2 := hidp (hws1.below hb)
        clear hr hws1
        generalize txB ⟨site, seq, wall, count, d0, d1, d2, d3, ws⟩ = bs at *
        obtain ⟨hbs, A2, c2, rfl, hc2, hc2m⟩ := own_bs hown rfl
        clear hb hown st1
        have BS2 := hidp hbs
        clear hbs
        have hc := blk9 st2.out.b1
        have hd := blk4 st2.out.b2
        have hsz2 := st2.out.sz
        haveI : SzGe (w.heap.size + 2) w2 := ⟨hsz2⟩
        haveI : SzGe (w.heap.size + 1) w2 := ⟨Nat.le_of_succ_le hsz2⟩
        go_split_ands
        go_wp2_with fail
        go_at_call 23
        refine (decTx_to _ bs _ hdB BS2.out (by omega)).mono ?_
        rintro e w3 ⟨A3, c3, rfl, hb, hown⟩
        have st3 := hidp (st2.out.below hb)
        have BS3 := hidp (BS2.out.below (Nat.le_refl _) hb)
        have hws3 := hidp (hws2.out.below hb)
        have hwx := hidp (own_ws hown)
        clear hb hown hdB BS2 st2 hws2
        simp only at hwx
        have hc := blk9 st3.out.b1
        have hd := blk4 st3.out.b2
        have hsz3 := st3.out.sz
        haveI : SzGe (w.heap.size + 2) w3 := ⟨hsz3⟩
        haveI : SzGe (w.heap.size + 1) w3 := ⟨Nat.le_of_succ_le hsz3⟩
        go_split_ands
        go_wp2_with fail
        go_at_call 24
        refine (pick_any cut bs.length _ HCUT.out (by omega) (by omega)).mono ?_
        rintro e _ ⟨⟨r, hr, rfl⟩, rfl⟩
        go_wp2_with fail
        go_at_call 23
        refine (decTx_to _ (bs.take r) _ (hdS r hr) (bs_take ((BS3.out.below (Nat.le_refl _) (blw_alloc (Below.refl _ _)))) (by omega)) (by simp; omega)).mono ?_
        rintro e w4 ⟨rfl, hb⟩
        have st4 := hidp ((st3.out.alloc _).below hb)
        have hbb := Below.trans (blw_alloc (Below.refl w3.heap.size w3)) (hb.mono (by simp))
        have BS4 := hidp (BS3.out.below (Nat.le_refl _) hbb)
        have hws4 := hidp (hws3.out.below hbb)
        have hwx2 := hidp (hwx.out.below hbb)
        have hx := hb.block w3.heap.size (by simp)
        rw [heap_alloc, if_pos rfl] at hx
        clear hb hbb st3 BS3 hws3 hwx hdS
        have hc := blk9 st4.out.b1
        have hd := blk4 st4.out.b2
        have hsz4 := st4.out.sz
        haveI : SzGe (w.heap.size + 2) w4 := ⟨hsz4⟩
        haveI : SzGe (w.heap.size + 1) w4 := ⟨Nat.le_of_succ_le hsz4⟩
        go_split_ands
        go_wp2_with fail
        go_at_call 25
        refine (decAsk_to _ bs _ hdT ((BS4.out.below (Nat.le_refl _) (blw_alloc (Below.refl _ _)))) (by omega)).mono ?_
        rintro e w5 ⟨rfl, hb⟩
        have st5 := hidp ((st4.out.alloc _).below hb)
        have hbb := Below.trans (blw_alloc (Below.refl w4.heap.size w4)) (hb.mono (by simp))
        have hws5 := hidp (hws4.out.below hbb)
        have hwx3 := hidp (hwx2.out.below hbb)
        have hx2 := hbb.block w3.heap.size (lt_blk hx)
        rw [hx] at hx2
        have hy := blk9 hx2
        have hlt := lt_blk hx2
        haveI : SzGe (w3.heap.size + 1) w5 := ⟨hlt⟩
        clear hb hbb st4 BS4 hx hx2 hdT hws4 hwx2
        simp only [askV]
        have hc := blk9 st5.out.b1
        have hd := blk4 st5.out.b2
        have hsz5 := st5.out.sz
        haveI : SzGe (w.heap.size + 2) w5 := ⟨hsz5⟩
        haveI : SzGe (w.heap.size + 1) w5 := ⟨Nat.le_of_succ_le hsz5⟩
        go_split_ands
        go_wp2_with fail
        go_at_call 26
        refine (same_eq site seq wall count d0 d1 d2 d3 ws A3 A c3 c _ (by omega) (hwx3.out.below (blw_alloc (Below.refl _ _))) (hws5.out.below (blw_alloc (Below.refl _ _)))).mono ?_
        rintro e w6 ⟨rfl, hb⟩
        have st6 := hidp ((st5.out.alloc _).below hb)
        clear hb st5 hws5 hwx3 hlt
        have hc := blk9 st6.out.b1
        have hd := blk4 st6.out.b2
        have hsz6 := st6.out.sz
        haveI : SzGe (w.heap.size + 2) w6 := ⟨hsz6⟩
        haveI : SzGe (w.heap.size + 1) w6 := ⟨Nat.le_of_succ_le hsz6⟩
        go_split_ands
        rcases hk2 : okAsk n a0 a1 a2 a3 with _ | _
        · 
          go_wp2_with fail
          go_at_call 27
          refine (encAsk_bad' _ hk2).mono ?_
          rintro e w7 ⟨rfl, hb⟩
          have st7 := st6.out.below hb
          clear hb
          go_wp2
          go_ret
          exact ⟨rfl, st7.bl⟩
        · 
          have hok := okAsk_all hk2
          obtain ⟨h1, h2, h3, h4, h5⟩ := hok
          have hln := askB_len hk2
          have hdB := decAsk_B n a0 a1 a2 a3 hk2
          have hdS := decAsk_short n a0 a1 a2 a3 hk2
          have hdT := tx_no_ask n a0 a1 a2 a3
          go_wp2_with fail
          go_at_call 27
          refine (encAsk_good' _ hk2).mono ?_
          rintro e w7 ⟨v2, rfl, hb, hown⟩
          have st7 := hidp (st6.out.below hb)
          clear hk2
          generalize askB n a0 a1 a2 a3 = bs at *
          have hbs := (own_bs hown rfl)
          obtain ⟨hbs, A2, c2, rfl, hc2, hc2m⟩ := hbs
          clear hb hown st6
          have BS7 := hidp hbs
          clear hbs
          have hc := blk9 st7.out.b1
          have hd := blk4 st7.out.b2
          have hsz7 := st7.out.sz
          haveI : SzGe (w.heap.size + 2) w7 := ⟨hsz7⟩
          haveI : SzGe (w.heap.size + 1) w7 := ⟨Nat.le_of_succ_le hsz7⟩
          go_split_ands
          go_wp2_with fail
          go_at_call 25
          refine (decAsk_to _ bs _ hdB BS7.out (by omega)).mono ?_
          rintro e w8 ⟨rfl, hb⟩
          have st8 := hidp (st7.out.below hb)
          have BS8 := hidp (BS7.out.below (Nat.le_refl _) hb)
          clear hb hdB BS7 st7
          simp only [askV]
          have hc := blk9 st8.out.b1
          have hd := blk4 st8.out.b2
          have hsz8 := st8.out.sz
          haveI : SzGe (w.heap.size + 2) w8 := ⟨hsz8⟩
          haveI : SzGe (w.heap.size + 1) w8 := ⟨Nat.le_of_succ_le hsz8⟩
          go_split_ands
          have e1 : ((n.toNat : Nat) : Int) = n := by omega
          have e2 : ((a0.toNat : Nat) : Int) = a0 := by omega
          have e3 : ((a1.toNat : Nat) : Int) = a1 := by omega
          have e4 : ((a2.toNat : Nat) : Int) = a2 := by omega
          have e5 : ((a3.toNat : Nat) : Int) = a3 := by omega
          rw [e1, e2, e3, e4, e5]
          clear e1 e2 e3 e4 e5
          go_wp2_with fail
          go_at_call 24
          refine (pick_any cut bs.length _ HCUT.out (by omega) (by omega)).mono ?_
          rintro e _ ⟨⟨r, hr, rfl⟩, rfl⟩
          go_wp2_with fail
          go_at_call 25
          refine (decAsk_to _ (bs.take r) _ (hdS r hr) (bs_take ((BS8.out.below (Nat.le_refl _) (blw_alloc (Below.refl _ _)))) (by omega)) (by simp; omega)).mono ?_
          rintro e w9 ⟨rfl, hb⟩
          have st9 := hidp ((st8.out.alloc _).below hb)
          have BS9 := hidp (BS8.out.below (Nat.le_refl _) (Below.trans (blw_alloc (Below.refl _ _)) (hb.mono (by simp))))
          have hx := hb.block w8.heap.size (by simp)
          rw [heap_alloc, if_pos rfl] at hx
          clear hb st8 BS8
          simp only [askV]
          have hc := blk9 st9.out.b1
          have hd := blk4 st9.out.b2
          have hsz9 := st9.out.sz
          haveI : SzGe (w.heap.size + 2) w9 := ⟨hsz9⟩
          haveI : SzGe (w.heap.size + 1) w9 := ⟨Nat.le_of_succ_le hsz9⟩
          go_split_ands
          go_wp2_with fail
          go_at_call 23
          refine (decTx_to _ bs _ hdT ((BS9.out.below (Nat.le_refl _) (blw_alloc (Below.refl _ _)))) (by omega)).mono ?_
          rintro e w10 ⟨rfl, hb⟩
          have st10 := hidp ((st9.out.alloc _).below hb)
          have hx2 := hb.block w8.heap.size (by have := lt_blk hx; simp; omega)
          rw [heap_alloc, if_neg (by have := lt_blk hx; omega), hx] at hx2
          have hy := blk4 hx2
          have hlt := lt_blk hx2
          haveI : SzGe (w8.heap.size + 1) w10 := ⟨hlt⟩
          clear hb st9 BS9 hx hx2
          have hc := blk9 st10.out.b1
          have hd := blk4 st10.out.b2
          have hsz10 := st10.out.sz
          haveI : SzGe (w.heap.size + 2) w10 := ⟨hsz10⟩
          haveI : SzGe (w.heap.size + 1) w10 := ⟨Nat.le_of_succ_le hsz10⟩
          go_split_ands
          go_wp2
          go_ret
          exact ⟨rfl, (st10.out.alloc _).bl⟩
end Go.Proofs.Ytbopfhbeegkkaaa
