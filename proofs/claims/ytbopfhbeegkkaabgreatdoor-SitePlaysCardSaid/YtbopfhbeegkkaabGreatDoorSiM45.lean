/- Part 45 of a proof: lemmas and contracts that other parts use. -/
import Derived.Test.YtbopfhbeegkkaabGreatDoorSiM43
set_option linter.unusedVariables false
set_option linter.unusedSimpArgs false
namespace Go.Proofs.YtbopfhbeegkkaabGreatDoor
open Go.RowKit

def notHasT (a0 a1 a2 a3 : Int) (t : TxP) : Bool := decide (atV a0 a1 a2 a3 t.site < t.seq)
/-- elements of a new list: their writes lie in blocks from `B` on, none of them the list's own -/
def Els (w : World) (B : Nat) (v : Value) (l : List MTx) : Prop := ∀ m ∈ l, WsAt w m.A m.t.ws ∧ ∀ b o, m.A = some ⟨b, o, none⟩ → B ≤ b ∧ b < w.heap.size ∧ v.ownBlock ≠ some b
theorem Els.below {w w' : World} {B : Nat} {v : Value} {l : List MTx} (h : Els w B v l) (hb : Below w.heap.size w w') : Els w' B v l := fun m hm => by
  obtain ⟨h1, h2⟩ := h m hm
  exact ⟨h1.below hb, fun b o e => ⟨(h2 b o e).1, Nat.lt_of_lt_of_le (h2 b o e).2.1 hb.size, (h2 b o e).2.2⟩⟩
theorem Els.push {w w1 : World} {B g n c : Nat} {v : Value} {l : List MTx} {m : MTx} {o1 : Obj} (h : Els w B v l) (hg : (w.alloc o1).grownBy w1 v.ownBlock) (hgl : v.ownBlock = some g ∨ g = w.heap.size + 1) (hw : WsAt w m.A m.t.ws)
    (hm : ∀ b o, m.A = some ⟨b, o, none⟩ → B ≤ b ∧ b < w.heap.size ∧ v.ownBlock ≠ some b) : Els w1 B (.slice (some ⟨g, 0, none⟩) n c) (l ++ [m]) := by
  have hall : Els w B v (l ++ [m]) := fun x hx => by
    rcases List.mem_append.1 hx with hx | hx
    · exact h x hx
    · obtain rfl : x = m := by simpa using hx
      exact ⟨hw, hm⟩
  intro x hx
  obtain ⟨h1, h2⟩ := hall x hx
  refine ⟨h1.keep fun b o e => (grown_alloc hg).block b (h2 b o e).2.1 (fun e2 => (h2 b o e).2.2 e2.symm), fun b o e => ⟨(h2 b o e).1, Nat.lt_of_lt_of_le (h2 b o e).2.1 (grown_alloc hg).size, ?_⟩⟩
  intro e3
  have e4 : g = b := by simpa [Value.ownBlock] using e3
  subst e4
  rcases hgl with e5 | e5
  · exact (h2 _ o e).2.2 e5
  · have := (h2 _ o e).2.1; omega
theorem ws_lt {w : World} {b o : Nat} {ws : List WrP} (h : WsAt w (some ⟨b, o, none⟩) ws) (h0 : 0 < ws.length) : b < w.heap.size := by
  obtain ⟨b', o', hA, hlt, _⟩ := h 0 ws[0] (List.getElem?_eq_getElem h0)
  cases hA; exact hlt
set_option maxRecDepth 20000 in
set_option maxHeartbeats 16000000 in
theorem missing_all (B x mb : Nat) (s : SiP) (lv : Value) (sv : Nat → Value) (a0 a1 a2 a3 : Int) (w : World) (h : SiAt w B x s mb lv sv) (hr : ∀ m ∈ s.log, rightTx m.t = true) (hn : s.log.length ≤ 1000) :
    Calls Tryz.prog 35 #[.pointer (some ⟨x, 0, none⟩), .agg #[.int .i64 a0, .int .i64 a1, .int .i64 a2, .int .i64 a3]] w fun e w' => ∃ (A' : Option Addr) (c' : Nat) (outs : List MTx), e = .returned (.slice A' outs.length c') ∧ outs.map (·.t) = (s.log.map (·.t)).filter (notHasT a0 a1 a2 a3) ∧ XsAt w' A' outs ∧ (∀ b o, A' = some ⟨b, o, none⟩ → w.heap.size ≤ b ∧ b < w'.heap.size) ∧ (∀ m ∈ outs, WsAt w' m.A m.t.ws ∧ ∀ b o, m.A = some ⟨b, o, none⟩ → w.heap.size ≤ b ∧ b < w'.heap.size) ∧ Below w.heap.size w w' := by
  have hb0 : Below w.heap.size w (w.alloc (.cells #[.int .i64 a0, .int .i64 a1, .int .i64 a2, .int .i64 a3] 32)) := blw_alloc (Below.refl _ _)
  have HS := hidp (h.below hb0)
  have HB0 := hidp hb0
  have HBX := hidp (show (w.alloc (.cells #[.int .i64 a0, .int .i64 a1, .int .i64 a2, .int .i64 a3] 32)).heap[w.heap.size]? = some (.cells #[.int .i64 a0, .int .i64 a1, .int .i64 a2, .int .i64 a3] 32) from blk_new rfl _)
  have HR := hidp hr
  obtain ⟨Al, cl, hlv⟩ := own_form h.row
  have HLV := hidp hlv
  have HXS : Hid (XsAt (w.alloc (.cells #[.int .i64 a0, .int .i64 a1, .int .i64 a2, .int .i64 a3] 32)) Al s.log) := hidp (by have := HS.out.row; rw [hlv] at this; exact own_xs this)
  have c7 : w.cell? ⟨x, 7, none⟩ = some (.slice Al s.log.length cl) := by rw [← hlv]; exact h.c7
  haveI : SzGe (x + 1) w := ⟨h.sto.lt⟩
  clear h hb0 hr hlv
  obtain ⟨i0, hi0, hz0, hz1, hz2⟩ := info40
  go_enter Tryz.func35, Tryz.ntmps35
  go_wp2_with fail
  generalize w.alloc (.cells #[.int .i64 a0, .int .i64 a1, .int .i64 a2, .int .i64 a3] 32) = wo at *
  go_loopw [5, 13] (fun o i W => ∃ (k : Nat) (outs : List MTx) (Ao : Option Addr) (co : Nat), k ≤ s.log.length ∧ i = .int .i64 k ∧ o = .slice Ao outs.length co ∧ Hid (outs.map (·.t) = ((s.log.take k).map (·.t)).filter (notHasT a0 a1 a2 a3)) ∧ outs.length ≤ k ∧ Hid (Els W wo.heap.size (.slice Ao outs.length co) outs) ∧
    W.ownsRow wo.heap.size 44 9 (.slice Ao outs.length co) outs.length (outs.flatMap MTx.cells) ∧ Below wo.heap.size wo W) (fun _ i _ => s.log.length - (intOf i).toNat)
  case atStart => exact ⟨0, [], none, 0, Nat.zero_le _, rfl, rfl, hidp (by simp), by simp, hidp (fun m hm => absurd hm (by simp)), ⟨rfl, .inl ⟨rfl, rfl⟩⟩, Below.refl _ _⟩
  case round =>
    obtain ⟨k, outs, Ao, co, hk, rfl, rfl, hout, hol, hels, hown, hbl⟩ := hrel
    obtain ⟨W, rfl⟩ : ∃ W : World, W = wr := ⟨_, rfl⟩
    have HOUT := hidp hout.out
    have HOW := hidp hown
    have HBW := hidp hbl
    clear hown hbl hout
    by_cases hlt : k < s.log.length
    · have HSW := hidp (HS.out.below HBW.out)
      have hm := s.log[k]
      obtain ⟨b, o, rfl, hb, d0, d1, d2, d3, d4, d5, d6, d7, d8⟩ := (HXS.out.below HBW.out) k s.log[k] (List.getElem?_eq_getElem hlt)
      have HRK := hidp (HR.out s.log[k] (List.getElem_mem hlt))
      have HDK := hidp (HSW.out.dat s.log[k] (.inl (List.getElem_mem hlt)))
      have htk : s.log.take (k + 1) = s.log.take k ++ [s.log[k]] := by rw [List.take_add_one, List.getElem?_eq_getElem hlt]; rfl
      have HTK : Hid (((s.log.take (k + 1)).map (·.t)).filter (notHasT a0 a1 a2 a3) = ((s.log.take k).map (·.t)).filter (notHasT a0 a1 a2 a3) ++ (if notHasT a0 a1 a2 a3 s.log[k].t = true then [s.log[k].t] else [])) := hidp (by
        rw [htk, List.map_append, List.filter_append]
        congr 1
        cases hq : notHasT a0 a1 a2 a3 s.log[k].t <;> simp [hq])
      clear hm htk
      generalize s.log[k] = m at *
      obtain ⟨⟨msite, mseq, mwall, mcount, md0, md1, md2, md3, mws⟩, mA, mc⟩ := m
      simp only at d0 d1 d2 d3 d4 d5 d6 d7 d8
      obtain ⟨hp1, hp2, hp3, hp4⟩ := rightTx_parts HRK.out
      try simp only at hp1 hp2 hp3 hp4
      obtain ⟨st, rfl⟩ := Int.eq_ofNat_of_zero_le hp1.1
      have hst4 : st < 4 := by omega
      have hbx : W.heap[w.heap.size]? = some (.cells #[.int .i64 a0, .int .i64 a1, .int .i64 a2, .int .i64 a3] 32) := (HBW.out.block _ (lt_blk HBX.out)).trans HBX.out
      have hat := at_cell hbx hst4
      obtain ⟨aS, haS⟩ : ∃ aS, atV a0 a1 a2 a3 (st : Int) = aS := ⟨_, rfl⟩
      rw [haS] at hat
      haveI : SzGe (b + 1) W := ⟨hb⟩
      haveI : SzGe (w.heap.size + 1) W := ⟨lt_blk hbx⟩
      haveI : SzGe w.heap.size W := ⟨by have := lt_blk hbx; omega⟩
      have hk0 : (0 : Int) ≤ (st : Int) := by omega
      have hk4 : (st : Int) < 4 := by omega
      have HNH : Hid (notHasT a0 a1 a2 a3 ⟨(st : Int), mseq, mwall, mcount, md0, md1, md2, md3, mws⟩ = decide (aS < mseq)) := hidp (by unfold notHasT; rw [← haS])
      have HCL := hidp fun W' (hB : Below W.heap.size W W') => clone_any ⟨(st : Int), mseq, mwall, mcount, md0, md1, md2, md3, mws⟩ mA mc W' (HDK.out.1.below hB) (by show 0 < mws.length; omega) (by show mws.length ≤ 1000; omega)
      unfold MTx.val at HCL
      simp only at HCL
      have HP0 : Hid (0 < mws.length) := hidp (by omega)
      clear haS hbx hp1 hp2 hp3 hp4
      by_cases hq : aS < mseq
      · have hd1 : decide (aS < mseq) = true := decide_eq_true hq
        have HT1 : Hid (((s.log.take (k + 1)).map (·.t)).filter (notHasT a0 a1 a2 a3) = outs.map (·.t) ++ [(⟨(st : Int), mseq, mwall, mcount, md0, md1, md2, md3, mws⟩ : TxP)]) := hidp (by rw [HTK.out, HOUT.out, HNH.out, hd1]; rfl)
        clear hq HTK
        go_wp2_with fail
        refine wp_region_plus (by kernel_rfl) (by kernel_rfl) ?_
        repeat (first | go_big_quiet_skip | (go_big_quiet_want; go_big_quiet_op; go_big_quiet_on))
        refine wpQuiet_nil ?_
        rintro _ ⟨x3, rfl⟩
        go_wp2_with fail
        go_at_call 81
        refine (HCL.out _ (by repeat (first | exact Below.refl _ _ | refine blw_alloc ?_ | refine blw_plus ?_ | refine Below.drew ?_))).mono ?_
        rintro e w5 ⟨A', c', rfl, hw5, hb5, bb, rfl, hbb⟩
        have HB5a := hidp (Below.size (show Below W.heap.size W (wplus (W.alloc (.cells #[.int .i64 (st : Int), .int .i64 mseq, .int .i64 mwall, .int .i64 mcount, .int .i64 md0, .int .i64 md1, .int .i64 md2, .int .i64 md3, .slice mA mws.length mc] 44)) x3) from (by repeat (first | exact Below.refl _ _ | refine blw_alloc ?_ | refine blw_plus ?_ | refine Below.drew ?_))))
        have HCUR := hidp (Below.trans (show Below W.heap.size W (wplus (W.alloc (.cells #[.int .i64 (st : Int), .int .i64 mseq, .int .i64 mwall, .int .i64 mcount, .int .i64 md0, .int .i64 md1, .int .i64 md2, .int .i64 md3, .slice mA mws.length mc] 44)) x3) from (by repeat (first | exact Below.refl _ _ | refine blw_alloc ?_ | refine blw_plus ?_ | refine Below.drew ?_))) (hb5.mono (by simp; omega)))
        have HOC := hidp (own_below HOW.out HCUR.out (fun j e => (own_ge HOW.out e).2))
        have HBC := hidp (HBW.out.trans (HCUR.out.mono HBW.out.size))
        have HLT := hidp (ws_lt hw5 HP0.out)
        have HW5 := hidp hw5
        have HBB : Hid (W.heap.size ≤ bb) := hidp (Nat.le_trans (HB5a.out) hbb)
        clear hw5 hb5 hbb
        have hsC := HBC.out.size
        go_wp2_with (at_builtin; go_must (refine wpList_append_lies _ rfl _ _ 35 rfl wo.heap.size 44 i0 txZero 9 88 Tryz.underlying35 hi0 hz0 hz1 hz2 rfl (by decide) (.slice Ao outs.length co) outs.length (outs.flatMap MTx.cells) rfl (HOC.out.alloc _) ⟨w5.heap.size, 0, none⟩ 1 1 [.int .i64 (st : Int), .int .i64 mseq, .int .i64 mwall, .int .i64 mcount, .int .i64 md0, .int .i64 md1, .int .i64 md2, .int .i64 md3, .slice (some ⟨bb, 0, none⟩) mws.length c'] rfl rfl (World.news_of_block (cs := #[.int .i64 (st : Int), .int .i64 mseq, .int .i64 mwall, .int .i64 mcount, .int .i64 md0, .int .i64 md1, .int .i64 md2, .int .i64 md3, .slice (some ⟨bb, 0, none⟩) mws.length c']) (blk_new rfl _)) ?c1 (by decide) ?c2 ?c3 ?c4 _ rfl ?_))
        case c1 => first | exact ⟨rfl, rfl, rfl, rfl, rfl, rfl, rfl, rfl, rfl⟩ | (intro u hu; simp at hu; rcases hu with rfl | rfl | rfl | rfl | rfl | rfl | rfl | rfl | rfl <;> rfl)
        case c2 => refine Nat.le_trans ?_ maxLen_ge; omega
        case c3 => omega
        case c4 => first | omega | (simp; omega)
        intro gq cap1 w1 hown1 hgrow hgl hlt1
        have HN1 : Hid (w1.ownsRow wo.heap.size 44 9 (.slice (some ⟨gq, 0, none⟩) (outs ++ [(⟨⟨(st : Int), mseq, mwall, mcount, md0, md1, md2, md3, mws⟩, some ⟨bb, 0, none⟩, c'⟩ : MTx)]).length cap1) (outs ++ [(⟨⟨(st : Int), mseq, mwall, mcount, md0, md1, md2, md3, mws⟩, some ⟨bb, 0, none⟩, c'⟩ : MTx)]).length ((outs ++ [(⟨⟨(st : Int), mseq, mwall, mcount, md0, md1, md2, md3, mws⟩, some ⟨bb, 0, none⟩, c'⟩ : MTx)]).flatMap MTx.cells)) := hidp (by
          have e : (outs ++ [(⟨⟨(st : Int), mseq, mwall, mcount, md0, md1, md2, md3, mws⟩, some ⟨bb, 0, none⟩, c'⟩ : MTx)]).length = outs.length + 1 := by simp
          rw [e, List.flatMap_append]; exact hown1)
        have HB1 : Hid (Below wo.heap.size wo w1) := hidp (Below.grown HBC.out (grown_alloc hgrow) HBC.out.size (fun j e => (own_ge HOW.out e).1))
        have HE1 : Hid (Els w1 wo.heap.size (.slice (some ⟨gq, 0, none⟩) (outs ++ [(⟨⟨(st : Int), mseq, mwall, mcount, md0, md1, md2, md3, mws⟩, some ⟨bb, 0, none⟩, c'⟩ : MTx)]).length cap1) (outs ++ [(⟨⟨(st : Int), mseq, mwall, mcount, md0, md1, md2, md3, mws⟩, some ⟨bb, 0, none⟩, c'⟩ : MTx)])) := hidp ((hels.out.below HCUR.out).push hgrow hgl HW5.out (fun b o e => by
          obtain ⟨rfl, rfl⟩ : bb = b ∧ 0 = o := by simpa using e
          exact ⟨Nat.le_trans HBW.out.size HBB.out, HLT.out, fun e2 => by have := (own_ge HOW.out e2).2; have := HBB.out; omega⟩))
        clear hown1 hgrow hgl hlt1
        go_wp2_with fail
        go_roundw
        case rel => exact ⟨k + 1, outs ++ [(⟨⟨(st : Int), mseq, mwall, mcount, md0, md1, md2, md3, mws⟩, some ⟨bb, 0, none⟩, c'⟩ : MTx)], some ⟨gq, 0, none⟩, cap1, by omega, by go_num, by simp, hidp (by rw [HT1.out]; simp), by simp; omega, HE1, HN1.out, HB1.out⟩
        case measure => simp [intOf]; omega
      · have hd1 : decide (aS < mseq) = false := decide_eq_false hq
        have HT1 : Hid (((s.log.take (k + 1)).map (·.t)).filter (notHasT a0 a1 a2 a3) = outs.map (·.t)) := hidp (by rw [HTK.out, HOUT.out, HNH.out, hd1]; simp)
        clear hq HTK
        go_wp2_with fail
        refine wp_region_plus (by kernel_rfl) (by kernel_rfl) ?_
        repeat (first | go_big_quiet_skip | (go_big_quiet_want; go_big_quiet_op; go_big_quiet_on))
        refine wpQuiet_nil ?_
        rintro _ ⟨x3, rfl⟩
        have HCUR := hidp (show Below W.heap.size W (wplus (W.alloc (.cells #[.int .i64 (st : Int), .int .i64 mseq, .int .i64 mwall, .int .i64 mcount, .int .i64 md0, .int .i64 md1, .int .i64 md2, .int .i64 md3, .slice mA mws.length mc] 44)) x3) from (by repeat (first | exact Below.refl _ _ | refine blw_alloc ?_ | refine blw_plus ?_ | refine Below.drew ?_)))
        have HOC := hidp (own_below HOW.out HCUR.out (fun j e => (own_ge HOW.out e).2))
        have HBC := hidp (HBW.out.trans (HCUR.out.mono HBW.out.size))
        go_wp2_with fail
        go_roundw
        case rel => exact ⟨k + 1, outs, Ao, co, by omega, by go_num, rfl, hidp HT1.out.symm, by omega, hidp (hels.out.below HCUR.out), HOC.out, HBC.out⟩
        case measure => simp [intOf]; omega
    · obtain rfl : k = s.log.length := by omega
      have HT : Hid (outs.map (·.t) = (s.log.map (·.t)).filter (notHasT a0 a1 a2 a3)) := hidp (by rw [HOUT.out, List.take_length])
      go_wp2_with fail
      go_ret
      have hws : w.heap.size ≤ wo.heap.size := HB0.out.size
      exact ⟨Ao, co, outs, rfl, HT.out, own_xs HOW.out, fun b o e => ⟨Nat.le_trans hws (own_ge HOW.out (by rw [e]; rfl)).1, (own_ge HOW.out (by rw [e]; rfl)).2⟩,
        fun m hm => ⟨(hels.out m hm).1, fun b o e => ⟨Nat.le_trans hws ((hels.out m hm).2 b o e).1, ((hels.out m hm).2 b o e).2.1⟩⟩, HB0.out.trans (HBW.out.mono HB0.out.size)⟩
end Go.Proofs.YtbopfhbeegkkaabGreatDoor
