/- Part 46 of a proof: lemmas and contracts that other parts use. -/
import Derived.Test.YtbopfhbeegkkaabGreatDoorSiM45
import Derived.Test.YtbopfhbeegkkaabGreatDoorSiM44
import Derived.Test.YtbopfhbeegkkaabGreatDoorSiM6
set_option linter.unusedVariables false
set_option linter.unusedSimpArgs false
namespace Go.Proofs.YtbopfhbeegkkaabGreatDoor
open Go.RowKit

set_option maxRecDepth 20000 in
set_option maxHeartbeats 16000000 in
theorem rMissing_any (B x wc : Nat) (s : RsP) (lv : Value) (wA : Option Addr) (av : Value) (a0 a1 a2 a3 : Int) (w : World) (h : RsAt w B x s lv wA wc av) (hr : ∀ m ∈ s.log, rightTx m.t = true) (hn : s.log.length ≤ 1000) :
    Calls Tryz.prog 36 #[.pointer (some ⟨x, 0, none⟩), .agg #[.int .i64 a0, .int .i64 a1, .int .i64 a2, .int .i64 a3]] w fun e w' => ∃ (A' : Option Addr) (c' : Nat), e = .returned (.slice A' (s.log.filter (notHas a0 a1 a2 a3)).length c') ∧ XsAt w' A' (s.log.filter (notHas a0 a1 a2 a3)) ∧ (∀ b o, A' = some ⟨b, o, none⟩ → w.heap.size ≤ b ∧ b < w'.heap.size) ∧ Below w.heap.size w w' := by
  have hb0 : Below w.heap.size w (w.alloc (.cells #[.int .i64 a0, .int .i64 a1, .int .i64 a2, .int .i64 a3] 32)) := blw_alloc (Below.refl _ _)
  have HS := hidp (h.below hb0)
  have HB0 := hidp hb0
  have HBX := hidp (show (w.alloc (.cells #[.int .i64 a0, .int .i64 a1, .int .i64 a2, .int .i64 a3] 32)).heap[w.heap.size]? = some (.cells #[.int .i64 a0, .int .i64 a1, .int .i64 a2, .int .i64 a3] 32) from blk_new rfl _)
  have HR := hidp hr
  obtain ⟨Al, cl, hlv⟩ := own_form h.row
  have HLV := hidp hlv
  have HXS : Hid (XsAt (w.alloc (.cells #[.int .i64 a0, .int .i64 a1, .int .i64 a2, .int .i64 a3] 32)) Al s.log) := hidp (by have := HS.out.row; rw [hlv] at this; exact own_xs this)
  have c7 : w.cell? ⟨x, 7, none⟩ = some (.slice Al s.log.length cl) := by rw [← hlv]; exact h.c7
  haveI : SzGe (x + 1) w := ⟨h.sto.lt⟩
  clear h hb0 hr hlv
  obtain ⟨i0, hi0, hz0, hz1, hz2⟩ := info40
  go_enter Tryz.func36, Tryz.ntmps36
  go_wp2_with fail
  generalize w.alloc (.cells #[.int .i64 a0, .int .i64 a1, .int .i64 a2, .int .i64 a3] 32) = wo at *
  go_loopw [5, 13] (fun o i W => ∃ (k : Nat) (outs : List MTx) (Ao : Option Addr) (co : Nat), k ≤ s.log.length ∧ i = .int .i64 k ∧ o = .slice Ao outs.length co ∧ Hid (outs = (s.log.take k).filter (notHas a0 a1 a2 a3)) ∧ outs.length ≤ k ∧
    W.ownsRow wo.heap.size 44 9 (.slice Ao outs.length co) outs.length (outs.flatMap MTx.cells) ∧ Below wo.heap.size wo W) (fun _ i _ => s.log.length - (intOf i).toNat)
  case atStart => exact ⟨0, [], none, 0, Nat.zero_le _, rfl, rfl, hidp (by simp), by simp, ⟨rfl, .inl ⟨rfl, rfl⟩⟩, Below.refl _ _⟩
  case round =>
    obtain ⟨k, outs, Ao, co, hk, rfl, rfl, hout, hol, hown, hbl⟩ := hrel
    obtain ⟨W, rfl⟩ : ∃ W : World, W = wr := ⟨_, rfl⟩
    have HOUT := hidp hout.out
    have HOW := hidp hown
    have HBW := hidp hbl
    clear hown hbl hout
    by_cases hlt : k < s.log.length
    · have HSW := hidp (HS.out.below HBW.out)
      have hm := s.log[k]
      obtain ⟨b, o, rfl, hb, d0, d1, d2, d3, d4, d5, d6, d7, d8⟩ := (HXS.out.below HBW.out) k s.log[k] (List.getElem?_eq_getElem hlt)
      have HRK := hidp (HR.out s.log[k] (List.getElem_mem hlt))
      have HDK := hidp (HSW.out.dat s.log[k] (.inl (List.getElem_mem hlt)))
      have htk : s.log.take (k + 1) = s.log.take k ++ [s.log[k]] := by rw [List.take_add_one, List.getElem?_eq_getElem hlt]; rfl
      have HTK : Hid ((s.log.take (k + 1)).filter (notHas a0 a1 a2 a3) = (s.log.take k).filter (notHas a0 a1 a2 a3) ++ (if notHas a0 a1 a2 a3 s.log[k] = true then [s.log[k]] else [])) := hidp (by
        rw [htk, List.filter_append]
        congr 1
        cases hq : notHas a0 a1 a2 a3 s.log[k] <;> simp [hq])
      clear hm htk
      generalize s.log[k] = m at *
      obtain ⟨⟨msite, mseq, mwall, mcount, md0, md1, md2, md3, mws⟩, mA, mc⟩ := m
      simp only at d0 d1 d2 d3 d4 d5 d6 d7 d8
      obtain ⟨hp1, hp2, hp3, hp4⟩ := rightTx_parts HRK.out
      try simp only at hp1 hp2 hp3 hp4
      obtain ⟨st, rfl⟩ := Int.eq_ofNat_of_zero_le hp1.1
      have hst4 : st < 4 := by omega
      have hbx : W.heap[w.heap.size]? = some (.cells #[.int .i64 a0, .int .i64 a1, .int .i64 a2, .int .i64 a3] 32) := (HBW.out.block _ (lt_blk HBX.out)).trans HBX.out
      have hat := at_cell hbx hst4
      obtain ⟨aS, haS⟩ : ∃ aS, atV a0 a1 a2 a3 (st : Int) = aS := ⟨_, rfl⟩
      rw [haS] at hat
      haveI : SzGe (b + 1) W := ⟨hb⟩
      haveI : SzGe (w.heap.size + 1) W := ⟨lt_blk hbx⟩
      haveI : SzGe w.heap.size W := ⟨by have := lt_blk hbx; omega⟩
      have hk0 : (0 : Int) ≤ (st : Int) := by omega
      have hk4 : (st : Int) < 4 := by omega
      have HNH : Hid (notHas a0 a1 a2 a3 ⟨⟨(st : Int), mseq, mwall, mcount, md0, md1, md2, md3, mws⟩, mA, mc⟩ = decide (aS < mseq)) := hidp (by unfold notHas; rw [← haS])
      clear haS hbx hp1 hp2 hp3 hp4
      by_cases hq : aS < mseq
      · have hd1 : decide (aS < mseq) = true := decide_eq_true hq
        have HT1 : Hid ((s.log.take (k + 1)).filter (notHas a0 a1 a2 a3) = outs ++ [(⟨⟨(st : Int), mseq, mwall, mcount, md0, md1, md2, md3, mws⟩, mA, mc⟩ : MTx)]) := hidp (by rw [HTK.out, HOUT.out, HNH.out, hd1]; rfl)
        clear hq HTK
        go_wp2_with fail
        refine wp_region_plus (by kernel_rfl) (by kernel_rfl) ?_
        repeat (first | go_big_quiet_skip | (go_big_quiet_want; go_big_quiet_op; go_big_quiet_on))
        refine wpQuiet_nil ?_
        rintro _ ⟨x3, rfl⟩
        have HCUR := hidp (show Below W.heap.size W (wplus (W.alloc (.cells #[.int .i64 (st : Int), .int .i64 mseq, .int .i64 mwall, .int .i64 mcount, .int .i64 md0, .int .i64 md1, .int .i64 md2, .int .i64 md3, .slice mA mws.length mc] 44)) x3) from (by repeat (first | exact Below.refl _ _ | refine blw_alloc ?_ | refine blw_plus ?_ | refine Below.drew ?_)))
        have HN9 := hidp (show (wplus (W.alloc (.cells #[.int .i64 (st : Int), .int .i64 mseq, .int .i64 mwall, .int .i64 mcount, .int .i64 md0, .int .i64 md1, .int .i64 md2, .int .i64 md3, .slice mA mws.length mc] 44)) x3).heap[W.heap.size]? = some (.cells #[.int .i64 (st : Int), .int .i64 mseq, .int .i64 mwall, .int .i64 mcount, .int .i64 md0, .int .i64 md1, .int .i64 md2, .int .i64 md3, .slice mA mws.length mc] 44) from (((below_wplus _ x3).block _ (lt_blk (blk_new rfl _))).trans (blk_new rfl _)))
        have HOC := hidp (own_below HOW.out HCUR.out (fun j e => (own_ge HOW.out e).2))
        have HBC := hidp (HBW.out.trans (HCUR.out.mono HBW.out.size))
        obtain ⟨t0, t1, t2, t3, t4, t5, t6, t7, t8⟩ := cell9 HN9.out
        generalize (wplus (W.alloc (.cells #[.int .i64 (st : Int), .int .i64 mseq, .int .i64 mwall, .int .i64 mcount, .int .i64 md0, .int .i64 md1, .int .i64 md2, .int .i64 md3, .slice mA mws.length mc] 44)) x3) = w5 at *
        have hsC := HBC.out.size
        go_wp2_with (at_builtin; go_must (refine wpList_append_lies _ rfl _ _ 35 rfl wo.heap.size 44 i0 txZero 9 88 Tryz.underlying35 hi0 hz0 hz1 hz2 rfl (by decide) (.slice Ao outs.length co) outs.length (outs.flatMap MTx.cells) rfl (HOC.out.alloc _) ⟨w5.heap.size, 0, none⟩ 1 1 [.int .i64 (st : Int), .int .i64 mseq, .int .i64 mwall, .int .i64 mcount, .int .i64 md0, .int .i64 md1, .int .i64 md2, .int .i64 md3, .slice mA mws.length mc] rfl rfl (World.news_of_block (cs := #[.int .i64 (st : Int), .int .i64 mseq, .int .i64 mwall, .int .i64 mcount, .int .i64 md0, .int .i64 md1, .int .i64 md2, .int .i64 md3, .slice mA mws.length mc]) (blk_new rfl _)) ?c1 (by decide) ?c2 ?c3 ?c4 _ rfl ?_))
        case c1 => first | exact ⟨rfl, rfl, rfl, rfl, rfl, rfl, rfl, rfl, rfl⟩ | (intro u hu; simp at hu; rcases hu with rfl | rfl | rfl | rfl | rfl | rfl | rfl | rfl | rfl <;> rfl)
        case c2 => refine Nat.le_trans ?_ maxLen_ge; omega
        case c3 => omega
        case c4 => first | omega | (simp; omega)
        intro gq cap1 w1 hown1 hgrow hgl hlt1
        have HN1 : Hid (w1.ownsRow wo.heap.size 44 9 (.slice (some ⟨gq, 0, none⟩) (outs ++ [(⟨⟨(st : Int), mseq, mwall, mcount, md0, md1, md2, md3, mws⟩, mA, mc⟩ : MTx)]).length cap1) (outs ++ [(⟨⟨(st : Int), mseq, mwall, mcount, md0, md1, md2, md3, mws⟩, mA, mc⟩ : MTx)]).length ((outs ++ [(⟨⟨(st : Int), mseq, mwall, mcount, md0, md1, md2, md3, mws⟩, mA, mc⟩ : MTx)]).flatMap MTx.cells)) := hidp (by
          have e : (outs ++ [(⟨⟨(st : Int), mseq, mwall, mcount, md0, md1, md2, md3, mws⟩, mA, mc⟩ : MTx)]).length = outs.length + 1 := by simp
          rw [e, List.flatMap_append]; exact hown1)
        have HB1 : Hid (Below wo.heap.size wo w1) := hidp (Below.grown HBC.out (grown_alloc hgrow) HBC.out.size (fun j e => (own_ge HOW.out e).1))
        clear hown1 hgrow hgl hlt1
        go_wp2_with fail
        go_roundw
        case rel => exact ⟨k + 1, outs ++ [(⟨⟨(st : Int), mseq, mwall, mcount, md0, md1, md2, md3, mws⟩, mA, mc⟩ : MTx)], some ⟨gq, 0, none⟩, cap1, by omega, by go_num, by simp, hidp HT1.out.symm, by simp; omega, HN1.out, HB1.out⟩
        case measure => simp [intOf]; omega
      · have hd1 : decide (aS < mseq) = false := decide_eq_false hq
        have HT1 : Hid ((s.log.take (k + 1)).filter (notHas a0 a1 a2 a3) = outs) := hidp (by rw [HTK.out, HOUT.out, HNH.out, hd1]; simp)
        clear hq HTK
        go_wp2_with fail
        refine wp_region_plus (by kernel_rfl) (by kernel_rfl) ?_
        repeat (first | go_big_quiet_skip | (go_big_quiet_want; go_big_quiet_op; go_big_quiet_on))
        refine wpQuiet_nil ?_
        rintro _ ⟨x3, rfl⟩
        have HCUR := hidp (show Below W.heap.size W (wplus (W.alloc (.cells #[.int .i64 (st : Int), .int .i64 mseq, .int .i64 mwall, .int .i64 mcount, .int .i64 md0, .int .i64 md1, .int .i64 md2, .int .i64 md3, .slice mA mws.length mc] 44)) x3) from (by repeat (first | exact Below.refl _ _ | refine blw_alloc ?_ | refine blw_plus ?_ | refine Below.drew ?_)))
        have HOC := hidp (own_below HOW.out HCUR.out (fun j e => (own_ge HOW.out e).2))
        have HBC := hidp (HBW.out.trans (HCUR.out.mono HBW.out.size))
        go_wp2_with fail
        go_roundw
        case rel => exact ⟨k + 1, outs, Ao, co, by omega, by go_num, rfl, hidp HT1.out.symm, by omega, HOC.out, HBC.out⟩
        case measure => simp [intOf]; omega
    · obtain rfl : k = s.log.length := by omega
      have HT : Hid (outs = s.log.filter (notHas a0 a1 a2 a3)) := hidp (by rw [HOUT.out, List.take_length])
      go_wp2_with fail
      go_ret
      have hws : w.heap.size ≤ wo.heap.size := HB0.out.size
      exact ⟨Ao, co, by rw [← HT.out]; rfl, by rw [← HT.out]; exact own_xs HOW.out, fun b o e => ⟨Nat.le_trans hws (own_ge HOW.out (by rw [e]; rfl)).1, (own_ge HOW.out (by rw [e]; rfl)).2⟩, HB0.out.trans (HBW.out.mono HB0.out.size)⟩
end Go.Proofs.YtbopfhbeegkkaabGreatDoor

namespace Go.Proofs.YtbopfhbeegkkaabGreatDoor
open Go.RowKit

set_option maxHeartbeats 2000000 in
theorem same_eq (site seq wall count d0 d1 d2 d3 : Int) (ws : List WrP) (A A' : Option Addr) (c c' : Nat) (w : World) (hn : ws.length ≤ 1000000) (h1 : WsAt w A ws) (h2 : WsAt w A' ws) :
    Calls Tryz.prog 16 #[.agg #[.int .i64 site, .int .i64 seq, .int .i64 wall, .int .i64 count, .int .i64 d0, .int .i64 d1, .int .i64 d2, .int .i64 d3, .slice A ws.length c],
      .agg #[.int .i64 site, .int .i64 seq, .int .i64 wall, .int .i64 count, .int .i64 d0, .int .i64 d1, .int .i64 d2, .int .i64 d3, .slice A' ws.length c']] w
      fun e w' => e = .returned (.bool true) ∧ Below w.heap.size w w' := by
  have H1 := hidp h1
  have H2 := hidp h2
  clear h1 h2
  go_enter Tryz.func16, Tryz.ntmps16
  go_wp2
  go_loopw [44] (fun i wr => ∃ (k : Nat) (x : Tail), k ≤ ws.length ∧ i = .int .i64 k ∧ wr = wplus ((w.alloc (.cells #[.int .i64 site, .int .i64 seq, .int .i64 wall, .int .i64 count, .int .i64 d0, .int .i64 d1, .int .i64 d2, .int .i64 d3, .slice A ws.length c] 44)).alloc (.cells #[.int .i64 site, .int .i64 seq, .int .i64 wall, .int .i64 count, .int .i64 d0, .int .i64 d1, .int .i64 d2, .int .i64 d3, .slice A' ws.length c'] 44)) x) (fun i _ => ws.length - (intOf i).toNat)
  case atStart => exact ⟨0, ⟨#[], w.drawn⟩, Nat.zero_le _, rfl, by simp [wplus]; rfl⟩
  case round =>
    obtain ⟨k, x, hk, rfl, rfl⟩ := hrel
    by_cases hlt : k < ws.length
    · obtain ⟨b, o, rfl, hb, h0, h1, h2⟩ := H1.out k ws[k] (List.getElem?_eq_getElem hlt)
      obtain ⟨b', o', rfl, hb', h0', h1', h2'⟩ := H2.out k ws[k] (List.getElem?_eq_getElem hlt)
      haveI : SzGe (b + 1) w := ⟨hb⟩
      haveI : SzGe (b' + 1) w := ⟨hb'⟩
      generalize ws[k] = y at *
      obtain ⟨key, data, gone⟩ := y
      simp only at *
      go_wp2
      refine wp_region_plus (by kernel_rfl) (by kernel_rfl) ?_
      repeat (first | go_big_quiet_skip | (go_big_quiet_want; go_big_quiet_op; first | go_big_quiet_on))
      refine wpQuiet_nil ?_
      rintro _ ⟨x, rfl⟩
      go_wp2
      go_roundw
      case rel => exact ⟨k + 1, _, by omega, by go_num, wplus_wplus _ _ _⟩
      case measure => simp [intOf]; omega
    · have hkk : k = ws.length := by omega
      go_wp2
      go_ret
      exact ⟨rfl, (by repeat (first | exact Below.refl _ _ | refine blw_alloc ?_ | refine blw_plus ?_ | refine Below.drew ?_))⟩
end Go.Proofs.YtbopfhbeegkkaabGreatDoor

namespace Go.Proofs.YtbopfhbeegkkaabGreatDoor
open Go.RowKit

set_option maxRecDepth 20000 in
set_option maxHeartbeats 8000000 in
theorem sameTxs_any (A1 A2 : Option Addr) (c1 c2 : Nat) (l1 l2 : List MTx) (w : World) (hn : l1.length ≤ 100000) (he : l1.map (·.t) = l2.map (·.t)) (h1 : XsAt w A1 l1) (h2 : XsAt w A2 l2)
    (hd1 : ∀ m ∈ l1, WsAt w m.A m.t.ws ∧ m.t.ws.length ≤ 1000000) (hd2 : ∀ m ∈ l2, WsAt w m.A m.t.ws) :
    Calls Tryz.prog 34 #[.slice A1 l1.length c1, .slice A2 l2.length c2] w fun e w' => e = .returned (.bool true) ∧ Below w.heap.size w w' := by
  have hl : l2.length = l1.length := by have := congrArg List.length he; simpa using this.symm
  rw [hl]
  have HL := hidp hl
  have HE := hidp he
  have H1 := hidp h1
  have H2 := hidp h2
  have HD1 := hidp hd1
  have HD2 := hidp hd2
  clear hl he h1 h2 hd1 hd2
  go_enter Tryz.func34, Tryz.ntmps34
  go_wp2_with fail
  go_loopw [5] (fun i W => ∃ k : Nat, i = .int .i64 k ∧ k ≤ l1.length ∧ Below w.heap.size w W) (fun i _ => l1.length - (intOf i).toNat)
  case atStart => exact ⟨0, rfl, Nat.zero_le _, Below.refl _ _⟩
  case round =>
    obtain ⟨k, rfl, hk, hb⟩ := hrel
    obtain ⟨W, rfl⟩ : ∃ W : World, W = wr := ⟨_, rfl⟩
    have HB := hidp hb
    clear hb
    by_cases hlt : k < l1.length
    · have hlt2 : k < l2.length := by rw [HL.out]; exact hlt
      obtain ⟨b, o, rfl, hb, d0, d1, d2, d3, d4, d5, d6, d7, d8⟩ := (H1.out.below HB.out) k l1[k] (List.getElem?_eq_getElem hlt)
      obtain ⟨b', o', rfl, hb', e0, e1, e2, e3, e4, e5, e6, e7, e8⟩ := (H2.out.below HB.out) k l2[k] (List.getElem?_eq_getElem hlt2)
      have HT : Hid (l1[k].t = l2[k].t) := hidp (by have := congrArg (·[k]?) HE.out; simpa [List.getElem?_eq_getElem hlt, List.getElem?_eq_getElem hlt2] using this)
      have HQ1 := hidp (HD1.out l1[k] (List.getElem_mem hlt))
      have HQ2 := hidp (HD2.out l2[k] (List.getElem_mem hlt2))
      generalize l1[k] = m at *
      generalize l2[k] = m' at *
      clear hlt2
      obtain ⟨t, mA, mc⟩ := m
      obtain ⟨t', mA', mc'⟩ := m'
      obtain rfl : t = t' := HT.out
      obtain ⟨msite, mseq, mwall, mcount, md0, md1, md2, md3, mws⟩ := t
      simp only at d0 d1 d2 d3 d4 d5 d6 d7 d8 e0 e1 e2 e3 e4 e5 e6 e7 e8
      haveI : SzGe (b + 1) W := ⟨hb⟩
      haveI : SzGe (b' + 1) W := ⟨hb'⟩
      haveI : SzGe w.heap.size W := ⟨HB.out.size⟩
      have HSM := hidp (fun X (hX : Below W.heap.size W X) => same_eq msite mseq mwall mcount md0 md1 md2 md3 mws mA mA' mc mc' X HQ1.out.2 ((HQ1.out.1.below HB.out).below hX) ((HQ2.out.below HB.out).below hX))
      go_wp2_with fail
      refine wp_region_plus (by kernel_rfl) (by kernel_rfl) ?_
      repeat (first | go_big_quiet_skip | (go_big_quiet_want; go_big_quiet_op; first | go_big_quiet_on | (apply Exists.intro; refine ⟨fun _ => ?_, ?_⟩; (go_at_call 16; exact Calls.plus_of (HSM.out _ (by repeat (first | exact Below.refl _ _ | refine blw_alloc ?_ | refine blw_plus ?_ | refine Below.drew ?_)))); go_big_quiet_on)))
      refine wpQuiet_nil ?_
      rintro _ ⟨x3, rfl⟩
      go_wp2_with fail
      go_roundw
      case rel => exact ⟨k + 1, by go_num, by omega, HB.out.trans (show Below w.heap.size W (wplus W x3) from (below_wplus W x3).mono HB.out.size)⟩
      case measure => simp [intOf]; omega
    · obtain rfl : k = l1.length := by omega
      go_wp2_with fail
      go_ret
      exact ⟨rfl, HB.out⟩
end Go.Proofs.YtbopfhbeegkkaabGreatDoor
