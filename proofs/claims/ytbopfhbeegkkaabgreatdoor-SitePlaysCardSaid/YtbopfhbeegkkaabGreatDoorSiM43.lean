/- Part 43 of a proof: lemmas and contracts that other parts use. -/
import Derived.Test.YtbopfhbeegkkaabGreatDoorSiM23
import Derived.Test.YtbopfhbeegkkaabGreatDoorSiM37
set_option linter.unusedVariables false
set_option linter.unusedSimpArgs false
namespace Go.Proofs.YtbopfhbeegkkaabGreatDoor
open Go.RowKit

def notHas (a0 a1 a2 a3 : Int) (m : MTx) : Bool := decide (atV a0 a1 a2 a3 m.t.site < m.t.seq)
set_option maxRecDepth 20000 in
set_option maxHeartbeats 16000000 in
theorem missing_any (B x mb : Nat) (s : SiP) (lv : Value) (sv : Nat → Value) (a0 a1 a2 a3 : Int) (w : World) (h : SiAt w B x s mb lv sv) (hr : ∀ m ∈ s.log, rightTx m.t = true) (hn : s.log.length ≤ 1000) :
    Calls Tryz.prog 35 #[.pointer (some ⟨x, 0, none⟩), .agg #[.int .i64 a0, .int .i64 a1, .int .i64 a2, .int .i64 a3]] w fun e w' => ∃ A' c', e = .returned (.slice A' (s.log.filter (notHas a0 a1 a2 a3)).length c') ∧ Below w.heap.size w w' := by
  have hb0 : Below w.heap.size w (w.alloc (.cells #[.int .i64 a0, .int .i64 a1, .int .i64 a2, .int .i64 a3] 32)) := blw_alloc (Below.refl _ _)
  have HS := hidp (h.below hb0)
  have HB0 := hidp hb0
  have HBX := hidp (show (w.alloc (.cells #[.int .i64 a0, .int .i64 a1, .int .i64 a2, .int .i64 a3] 32)).heap[w.heap.size]? = some (.cells #[.int .i64 a0, .int .i64 a1, .int .i64 a2, .int .i64 a3] 32) from blk_new rfl _)
  have HR := hidp hr
  obtain ⟨Al, cl, hlv⟩ := own_form h.row
  have HLV := hidp hlv
  have HXS : Hid (XsAt (w.alloc (.cells #[.int .i64 a0, .int .i64 a1, .int .i64 a2, .int .i64 a3] 32)) Al s.log) := hidp (by have := HS.out.row; rw [hlv] at this; exact own_xs this)
  have c7 : w.cell? ⟨x, 7, none⟩ = some (.slice Al s.log.length cl) := by rw [← hlv]; exact h.c7
  haveI : SzGe (x + 1) w := ⟨h.sto.lt⟩
  clear h hb0 hr hlv
  obtain ⟨i0, hi0, hz0, hz1, hz2⟩ := info40
  go_enter Tryz.func35, Tryz.ntmps35
  go_wp2_with fail
  generalize w.alloc (.cells #[.int .i64 a0, .int .i64 a1, .int .i64 a2, .int .i64 a3] 32) = wo at *
  go_loopw [5, 13] (fun o i W => ∃ (k : Nat) (outs : List MTx) (Ao : Option Addr) (co : Nat), k ≤ s.log.length ∧ i = .int .i64 k ∧ o = .slice Ao outs.length co ∧ outs.length = ((s.log.take k).filter (notHas a0 a1 a2 a3)).length ∧ outs.length ≤ k ∧
    W.ownsRow wo.heap.size 44 9 (.slice Ao outs.length co) outs.length (outs.flatMap MTx.cells) ∧ Below wo.heap.size wo W) (fun _ i _ => s.log.length - (intOf i).toNat)
  case atStart => exact ⟨0, [], none, 0, Nat.zero_le _, rfl, rfl, by simp, by simp, ⟨rfl, .inl ⟨rfl, rfl⟩⟩, Below.refl _ _⟩
  case round =>
    obtain ⟨k, outs, Ao, co, hk, rfl, rfl, hout, hol, hown, hbl⟩ := hrel
    obtain ⟨W, rfl⟩ : ∃ W : World, W = wr := ⟨_, rfl⟩
    have HOUT := hidp hout
    have HOW := hidp hown
    have HBW := hidp hbl
    clear hown hbl hout
    by_cases hlt : k < s.log.length
    · have HSW := hidp (HS.out.below HBW.out)
      have hm := s.log[k]
      obtain ⟨b, o, rfl, hb, d0, d1, d2, d3, d4, d5, d6, d7, d8⟩ := (HXS.out.below HBW.out) k s.log[k] (List.getElem?_eq_getElem hlt)
      have HRK := hidp (HR.out s.log[k] (List.getElem_mem hlt))
      have HDK := hidp (HSW.out.dat s.log[k] (.inl (List.getElem_mem hlt)))
      have htk : s.log.take (k + 1) = s.log.take k ++ [s.log[k]] := by rw [List.take_add_one, List.getElem?_eq_getElem hlt]; rfl
      have HTK : Hid (((s.log.take (k + 1)).filter (notHas a0 a1 a2 a3)).length = ((s.log.take k).filter (notHas a0 a1 a2 a3)).length + (if notHas a0 a1 a2 a3 s.log[k] = true then 1 else 0)) := hidp (by
        rw [htk, List.filter_append, List.length_append]
        congr 1
        cases hq : notHas a0 a1 a2 a3 s.log[k] <;> simp [hq])
      clear hm htk
      generalize s.log[k] = m at *
      obtain ⟨⟨msite, mseq, mwall, mcount, md0, md1, md2, md3, mws⟩, mA, mc⟩ := m
      simp only at d0 d1 d2 d3 d4 d5 d6 d7 d8
      obtain ⟨hp1, hp2, hp3, hp4⟩ := rightTx_parts HRK.out
      try simp only at hp1 hp2 hp3 hp4
      obtain ⟨st, rfl⟩ := Int.eq_ofNat_of_zero_le hp1.1
      have hst4 : st < 4 := by omega
      have hbx : W.heap[w.heap.size]? = some (.cells #[.int .i64 a0, .int .i64 a1, .int .i64 a2, .int .i64 a3] 32) := (HBW.out.block _ (lt_blk HBX.out)).trans HBX.out
      have hat := at_cell hbx hst4
      obtain ⟨aS, haS⟩ : ∃ aS, atV a0 a1 a2 a3 (st : Int) = aS := ⟨_, rfl⟩
      rw [haS] at hat
      haveI : SzGe (b + 1) W := ⟨hb⟩
      haveI : SzGe (w.heap.size + 1) W := ⟨lt_blk hbx⟩
      haveI : SzGe w.heap.size W := ⟨by have := lt_blk hbx; omega⟩
      have hk0 : (0 : Int) ≤ (st : Int) := by omega
      have hk4 : (st : Int) < 4 := by omega
      have HNH : Hid (notHas a0 a1 a2 a3 ⟨⟨(st : Int), mseq, mwall, mcount, md0, md1, md2, md3, mws⟩, mA, mc⟩ = decide (aS < mseq)) := hidp (by unfold notHas; rw [← haS])
      have HCL := hidp fun W' (hB : Below W.heap.size W W') => clone_any ⟨(st : Int), mseq, mwall, mcount, md0, md1, md2, md3, mws⟩ mA mc W' (HDK.out.1.below hB) (by show 0 < mws.length; omega) (by show mws.length ≤ 1000; omega)
      unfold MTx.val at HCL
      simp only at HCL
      clear haS hbx hp1 hp2 hp3 hp4
      by_cases hq : aS < mseq
      · have hd1 : decide (aS < mseq) = true := decide_eq_true hq
        have HT1 : Hid (((s.log.take (k + 1)).filter (notHas a0 a1 a2 a3)).length = outs.length + 1) := hidp (by rw [HTK.out, HOUT.out, HNH.out, hd1]; rfl)
        clear hq HTK
        go_wp2_with fail
        refine wp_region_plus (by kernel_rfl) (by kernel_rfl) ?_
        repeat (first | go_big_quiet_skip | (go_big_quiet_want; go_big_quiet_op; go_big_quiet_on))
        refine wpQuiet_nil ?_
        rintro _ ⟨x3, rfl⟩
        go_wp2_with fail
        go_at_call 81
        refine (HCL.out _ (by repeat (first | exact Below.refl _ _ | refine blw_alloc ?_ | refine blw_plus ?_ | refine Below.drew ?_))).mono ?_
        rintro e w5 ⟨A', c', rfl, hw5, hb5, bb, rfl, hbb⟩
        have HCUR := hidp (Below.trans (show Below W.heap.size W (wplus (W.alloc (.cells #[.int .i64 (st : Int), .int .i64 mseq, .int .i64 mwall, .int .i64 mcount, .int .i64 md0, .int .i64 md1, .int .i64 md2, .int .i64 md3, .slice mA mws.length mc] 44)) x3) from (by repeat (first | exact Below.refl _ _ | refine blw_alloc ?_ | refine blw_plus ?_ | refine Below.drew ?_))) (hb5.mono (by simp; omega)))
        have HOC := hidp (own_below HOW.out HCUR.out (fun j e => (own_ge HOW.out e).2))
        have HBC := hidp (HBW.out.trans (HCUR.out.mono HBW.out.size))
        clear hw5 hb5 hbb
        have hsC := HBC.out.size
        go_wp2_with (at_builtin; go_must (refine wpList_append_lies _ rfl _ _ 35 rfl wo.heap.size 44 i0 txZero 9 88 Tryz.underlying35 hi0 hz0 hz1 hz2 rfl (by decide) (.slice Ao outs.length co) outs.length (outs.flatMap MTx.cells) rfl (HOC.out.alloc _) ⟨w5.heap.size, 0, none⟩ 1 1 [.int .i64 (st : Int), .int .i64 mseq, .int .i64 mwall, .int .i64 mcount, .int .i64 md0, .int .i64 md1, .int .i64 md2, .int .i64 md3, .slice (some ⟨bb, 0, none⟩) mws.length c'] rfl rfl (World.news_of_block (cs := #[.int .i64 (st : Int), .int .i64 mseq, .int .i64 mwall, .int .i64 mcount, .int .i64 md0, .int .i64 md1, .int .i64 md2, .int .i64 md3, .slice (some ⟨bb, 0, none⟩) mws.length c']) (blk_new rfl _)) ?c1 (by decide) ?c2 ?c3 ?c4 _ rfl ?_))
        case c1 => first | exact ⟨rfl, rfl, rfl, rfl, rfl, rfl, rfl, rfl, rfl⟩ | (intro u hu; simp at hu; rcases hu with rfl | rfl | rfl | rfl | rfl | rfl | rfl | rfl | rfl <;> rfl)
        case c2 => refine Nat.le_trans ?_ maxLen_ge; omega
        case c3 => omega
        case c4 => first | omega | (simp; omega)
        intro gq cap1 w1 hown1 hgrow hgl hlt1
        have HN1 : Hid (w1.ownsRow wo.heap.size 44 9 (.slice (some ⟨gq, 0, none⟩) (outs ++ [(⟨⟨(st : Int), mseq, mwall, mcount, md0, md1, md2, md3, mws⟩, some ⟨bb, 0, none⟩, c'⟩ : MTx)]).length cap1) (outs ++ [(⟨⟨(st : Int), mseq, mwall, mcount, md0, md1, md2, md3, mws⟩, some ⟨bb, 0, none⟩, c'⟩ : MTx)]).length ((outs ++ [(⟨⟨(st : Int), mseq, mwall, mcount, md0, md1, md2, md3, mws⟩, some ⟨bb, 0, none⟩, c'⟩ : MTx)]).flatMap MTx.cells)) := hidp (by
          have e : (outs ++ [(⟨⟨(st : Int), mseq, mwall, mcount, md0, md1, md2, md3, mws⟩, some ⟨bb, 0, none⟩, c'⟩ : MTx)]).length = outs.length + 1 := by simp
          rw [e, List.flatMap_append]; exact hown1)
        have HB1 : Hid (Below wo.heap.size wo w1) := hidp (Below.grown HBC.out (grown_alloc hgrow) HBC.out.size (fun j e => (own_ge HOW.out e).1))
        clear hown1 hgrow hgl hlt1
        go_wp2_with fail
        go_roundw
        case rel => exact ⟨k + 1, outs ++ [(⟨⟨(st : Int), mseq, mwall, mcount, md0, md1, md2, md3, mws⟩, some ⟨bb, 0, none⟩, c'⟩ : MTx)], some ⟨gq, 0, none⟩, cap1, by omega, by go_num, by simp, by rw [HT1.out]; simp, by simp; omega, HN1.out, HB1.out⟩
        case measure => simp [intOf]; omega
      · have hd1 : decide (aS < mseq) = false := decide_eq_false hq
        have HT1 : Hid (((s.log.take (k + 1)).filter (notHas a0 a1 a2 a3)).length = outs.length) := hidp (by rw [HTK.out, HOUT.out, HNH.out, hd1]; rfl)
        clear hq HTK
        go_wp2_with fail
        refine wp_region_plus (by kernel_rfl) (by kernel_rfl) ?_
        repeat (first | go_big_quiet_skip | (go_big_quiet_want; go_big_quiet_op; go_big_quiet_on))
        refine wpQuiet_nil ?_
        rintro _ ⟨x3, rfl⟩
        have HCUR := hidp (show Below W.heap.size W (wplus (W.alloc (.cells #[.int .i64 (st : Int), .int .i64 mseq, .int .i64 mwall, .int .i64 mcount, .int .i64 md0, .int .i64 md1, .int .i64 md2, .int .i64 md3, .slice mA mws.length mc] 44)) x3) from (by repeat (first | exact Below.refl _ _ | refine blw_alloc ?_ | refine blw_plus ?_ | refine Below.drew ?_)))
        have HOC := hidp (own_below HOW.out HCUR.out (fun j e => (own_ge HOW.out e).2))
        have HBC := hidp (HBW.out.trans (HCUR.out.mono HBW.out.size))
        go_wp2_with fail
        go_roundw
        case rel => exact ⟨k + 1, outs, Ao, co, by omega, by go_num, rfl, HT1.out.symm, by omega, HOC.out, HBC.out⟩
        case measure => simp [intOf]; omega
    · obtain rfl : k = s.log.length := by omega
      have HT : Hid (outs.length = (s.log.filter (notHas a0 a1 a2 a3)).length) := hidp (by rw [HOUT.out, List.take_length])
      go_wp2_with fail
      go_ret
      exact ⟨Ao, co, by rw [← HT.out]; rfl, HB0.out.trans (HBW.out.mono HB0.out.size)⟩
end Go.Proofs.YtbopfhbeegkkaabGreatDoor

namespace Go.Proofs.YtbopfhbeegkkaabGreatDoor
open Go.RowKit

def rSiteRead (s : RsP) (key a0 a1 a2 a3 : Int) : VerP × Int := if covD s.p0 s.p1 s.p2 s.p3 a0 a1 a2 a3 = true then rRead a0 a1 a2 a3 s.L key else (verZ, 10)
set_option maxRecDepth 20000 in
set_option maxHeartbeats 8000000 in
theorem rSiteRead_any (B y wc : Nat) (s : RsP) (lv av : Value) (wA : Option Addr) (key a0 a1 a2 a3 : Int) (w : World) (h : RsAt w B y s lv wA wc av) (hok : ∀ p ∈ s.L, 0 ≤ p.v.site ∧ p.v.site < 4) (hlen : s.L.length ≤ 900000) :
    Calls Tryz.prog 24 #[.pointer (some ⟨y, 0, none⟩), .int .i64 key, .agg #[.int .i64 a0, .int .i64 a1, .int .i64 a2, .int .i64 a3]] w fun e w' =>
      e = .returned (.tuple #[verV (rSiteRead s key a0 a1 a2 a3).1, .int .i64 (rSiteRead s key a0 a1 a2 a3).2]) ∧ Below w.heap.size w w' := by
  obtain ⟨c1, c2, c3, c4⟩ := h.vec
  have HRD := hidp fun W (hB : Below w.heap.size w W) => rRead_any y 9 B s.L av key a0 a1 a2 a3 W (h.sto.below hB) hok hlen
  have HE := hidp (show rSiteRead s key a0 a1 a2 a3 = if covD s.p0 s.p1 s.p2 s.p3 a0 a1 a2 a3 = true then rRead a0 a1 a2 a3 s.L key else (verZ, 10) from rfl)
  generalize rSiteRead s key a0 a1 a2 a3 = F at *
  haveI : SzGe (y + 1) w := ⟨h.sto.lt⟩
  clear h hok hlen
  cases hcv : covD s.p0 s.p1 s.p2 s.p3 a0 a1 a2 a3
  · have HCV := hidp fun W => rCovers_is hcv W
    have HE2 : Hid (F = (verZ, 10)) := hidp (by rw [HE.out, hcv]; rfl)
    clear hcv HE
    go_enter Tryz.func24, Tryz.ntmps24
    go_wp2_with fail
    refine wp_region_plus (by kernel_rfl) (by kernel_rfl) ?_
    repeat (first | go_big_quiet_skip | (go_big_quiet_want; go_big_quiet_op; first | go_big_quiet_on | (apply Exists.intro; refine ⟨fun _ => ?_, ?_⟩; (go_at_call 73; exact Calls.plus_of (HCV.out _)); go_big_quiet_on)))
    refine wpQuiet_nil ?_
    rintro _ ⟨x3, rfl⟩
    go_wp2_with fail
    refine bodyPost_ret (v := .tuple #[verV verZ, .int .i64 10]) ?_ rfl ⟨by rw [HE2.out], (by repeat (first | exact Below.refl _ _ | refine blw_alloc ?_ | refine blw_plus ?_ | refine Below.drew ?_))⟩
    simp [results, Tryz.results24, go_sem, verV, verZ]
  · have HCV := hidp fun W => rCovers_is hcv W
    have HE2 : Hid (F = rRead a0 a1 a2 a3 s.L key) := hidp (by rw [HE.out, hcv]; rfl)
    clear hcv HE
    obtain ⟨⟨⟨vw, vc, vs, vq, vd, vg⟩, z⟩, hR⟩ : ∃ R, rRead a0 a1 a2 a3 s.L key = R := ⟨_, rfl⟩
    rw [hR] at HRD HE2
    unfold verV at HRD
    clear hR
    go_enter Tryz.func24, Tryz.ntmps24
    go_wp2_with fail
    refine wp_region_plus (by kernel_rfl) (by kernel_rfl) ?_
    repeat (first | go_big_quiet_skip | (go_big_quiet_want; go_big_quiet_op; first | go_big_quiet_on | (apply Exists.intro; refine ⟨fun _ => ?_, ?_⟩; (go_at_call 73; exact Calls.plus_of (HCV.out _)); go_big_quiet_on)))
    refine wpQuiet_nil ?_
    rintro _ ⟨x3, rfl⟩
    go_wp2_with fail
    refine wp_region_plus_tail 8 (by kernel_rfl) (by kernel_rfl) ?_
    simp only [List.take_succ_cons, List.take_zero, List.drop_succ_cons, List.drop_zero]
    repeat (first | go_big_quiet_skip | (go_big_quiet_want; go_big_quiet_op; first | go_big_quiet_on | (apply Exists.intro; refine ⟨fun _ => ?_, ?_⟩; (go_at_call 91; exact Calls.plus_of (HRD.out _ (by repeat (first | exact Below.refl _ _ | refine blw_alloc ?_ | refine blw_plus ?_ | refine Below.drew ?_)))); go_big_quiet_on)))
    refine wpQuiet_nil ?_
    rintro _ ⟨x4, rfl⟩
    go_wp2_with fail
    refine bodyPost_ret (v := .tuple #[verV ⟨vw, vc, vs, vq, vd, vg⟩, .int .i64 z]) ?_ rfl ⟨by rw [HE2.out], (by repeat (first | exact Below.refl _ _ | refine blw_alloc ?_ | refine blw_plus ?_ | refine Below.drew ?_))⟩
    simp [results, Tryz.results24, go_sem, verV]
set_option maxHeartbeats 2000000 in
theorem siteMany_any (B x mb : Nat) (s : SiP) (lv : Value) (sv : Nat → Value) (w : World) (h : SiAt w B x s mb lv sv) (hf : Fit s.st 900000) :
    Calls Tryz.prog 30 #[.pointer (some ⟨x, 0, none⟩)] w fun e w' => e = .returned (.int .i64 (lenS s.st 8)) ∧ Below w.heap.size w w' := by
  have HM := hidp (many_any x 9 B s.st sv w h.sto (fun k hk => (hf k hk).2))
  clear h hf
  go_enter Tryz.func30, Tryz.ntmps30
  go_wp2_with fail
  go_at_call 93
  refine HM.out.mono ?_
  rintro e w' ⟨rfl, hb⟩
  have HB := hidp hb
  clear hb
  go_wp2_with fail
  go_ret
  exact ⟨rfl, HB.out⟩
set_option maxRecDepth 20000 in
set_option maxHeartbeats 4000000 in
theorem siteSweep_any (B x mb : Nat) (s : SiP) (lv : Value) (sv : Nat → Value) (a0 a1 a2 a3 : Int) (w : World) (h : SiAt w B x s mb lv sv) (hf : Fit s.st 900000) :
    Calls Tryz.prog 21 #[.pointer (some ⟨x, 0, none⟩), .agg #[.int .i64 a0, .int .i64 a1, .int .i64 a2, .int .i64 a3]] w fun e w' => e = .returned (.tuple #[]) ∧ ∃ sv', SiAt w' B x { s with st := fun k => sweepV (min a0 s.p0) (min a1 s.p1) (min a2 s.p2) (min a3 s.p3) (s.st k) } mb lv sv' ∧ SiFr w w' (SiOwn x mb lv sv) (SiOwn x mb lv sv') := by
  obtain ⟨c1, c2, c3, c4⟩ := h.vec
  have HS := hidp h
  have HMN := hidp fun W => vMin_any a0 a1 a2 a3 s.p0 s.p1 s.p2 s.p3 W
  have HSW := hidp fun W (hB : Below w.heap.size w W) => sweep_any x 9 B s.st sv (min a0 s.p0) (min a1 s.p1) (min a2 s.p2) (min a3 s.p3) W (h.sto.below hB) (fun k hk => (hf k hk).1) (fun k hk => (hf k hk).2) (Nat.le_trans (Nat.le_trans h.bx (Nat.le_of_lt h.sto.lt)) hB.size)
  haveI : SzGe (x + 1) w := ⟨h.sto.lt⟩
  clear h hf
  generalize min a0 s.p0 = m0 at *
  generalize min a1 s.p1 = m1 at *
  generalize min a2 s.p2 = m2 at *
  generalize min a3 s.p3 = m3 at *
  go_enter Tryz.func21, Tryz.ntmps21
  go_wp2_with fail
  refine wp_region_plus_tail 9 (by kernel_rfl) (by kernel_rfl) ?_
  simp only [List.take_succ_cons, List.take_zero, List.drop_succ_cons, List.drop_zero]
  repeat (first | go_big_quiet_skip | (go_big_quiet_want; go_big_quiet_op; first | go_big_quiet_on | (apply Exists.intro; refine ⟨fun _ => ?_, ?_⟩; (go_at_call 89; exact Calls.plus_of (HMN.out _)); go_big_quiet_on)))
  refine wpQuiet_nil ?_
  rintro _ ⟨x3, rfl⟩
  go_wp2_with fail
  have HB := hidp (show Below w.heap.size w (wplus (w.alloc (.cells #[.int .i64 a0, .int .i64 a1, .int .i64 a2, .int .i64 a3] 32)) x3) from (by repeat (first | exact Below.refl _ _ | refine blw_alloc ?_ | refine blw_plus ?_ | refine Below.drew ?_)))
  go_at_call 88
  refine (HSW.out _ HB.out).mono ?_
  rintro e w' ⟨rfl, sv', hst, hfr⟩
  have HN := hidp ((HS.out.below HB.out).store hst hfr)
  clear hst hfr HSW
  go_wp2_with fail
  refine bodyPost_end (results_none rfl _ _ _) rfl ⟨rfl, sv', HN.out.1, (SiFr.of_below _ HB.out).trans HN.out.2⟩
end Go.Proofs.YtbopfhbeegkkaabGreatDoor

namespace Go.Proofs.YtbopfhbeegkkaabGreatDoor
open Go.RowKit

theorem SiAt.seto {w : World} {B x mb i : Nat} {s : SiP} {lv : Value} {sv : Nat → Value} (h : SiAt w B x s mb lv sv) (hi : i < 16) (z : Int) : SiAt (w.setCell ⟨x, 17 + i, none⟩ (.int .i64 z)) B x { s with ot := fun j => if i = j then z else s.ot j } mb lv sv := by
  have hgs := grown_set w x (17 + i) (.int .i64 z)
  have hx : ∀ b, b < w.heap.size → b ≠ x → (w.setCell ⟨x, 17 + i, none⟩ (.int .i64 z)).heap[b]? = w.heap[b]? := fun b hb hne => hgs.block b hb (by simp; exact hne)
  have hf : ∀ k, (w.setCell ⟨x, 17 + i, none⟩ (.int .i64 z)).frozen? ⟨x, k, none⟩ = w.frozen? ⟨x, k, none⟩ := fun k => World.frozen?_setCell ..
  have hs : (w.setCell ⟨x, 17 + i, none⟩ (.int .i64 z)).heap.size = w.heap.size := by simp [World.setCell]
  have t : ∀ {j : Nat} {u : Value}, j < 17 → w.cell? ⟨x, j, none⟩ = some u → (w.setCell ⟨x, 17 + i, none⟩ (.int .i64 z)).cell? ⟨x, j, none⟩ = some u := fun {j u} hj hu => by
    have := cell_set (i := 17 + i) (v := .int .i64 z) hu; rw [if_neg (by omega)] at this; exact this
  refine ⟨t (by omega) h.c0, t (by omega) h.c1, t (by omega) h.c2, t (by omega) h.c3, t (by omega) h.c4, t (by omega) h.c5, t (by omega) h.c6, t (by omega) h.c7, t (by omega) h.c8, ?_, fun k => (hf k).trans (h.frz k), ?_, ?_, ?_, h.bx, h.bm, h.dxm, h.dxl, h.dml, h.dms, h.dls, ?_⟩
  · intro k hk
    have := cell_set (i := 17 + i) (v := .int .i64 z) (h.oth k hk)
    rw [this]
    by_cases e : i = k
    · subst e; simp
    · rw [if_neg (by omega)]
      show _ = some (Value.int .i64 (if i = k then z else s.ot k))
      rw [if_neg e]
  · exact ⟨by rw [hs]; exact h.sto.lt, fun k hk => t (by omega) (h.sto.cel k hk), fun k hk => (hf _).trans (h.sto.frz k hk), fun k hk => (h.sto.own k hk).kept hgs (.inr (h.sto.ng k hk)), h.sto.ng, h.sto.dis⟩
  · exact h.row.kept hgs (.inr h.dxl)
  · exact h.map.block (hx mb h.map.lt h.dxm)
  · intro m hm
    obtain ⟨h1, h2⟩ := h.dat m hm
    exact ⟨h1.keep fun b o e => hx b (h2 b o e).1 (fun e2 => (h2 b o e).2 (.inl e2)), fun b o e => ⟨by rw [hs]; exact (h2 b o e).1, (h2 b o e).2⟩⟩
/-- what is noted of the k-th other site -/
def knowF (ot : Nat → Int) (k : Nat) (a0 a1 a2 a3 : Int) : Nat → Int := fun j =>
  if k * 4 + 3 = j then max (ot (k * 4 + 3)) a3 else if k * 4 + 2 = j then max (ot (k * 4 + 2)) a2 else if k * 4 + 1 = j then max (ot (k * 4 + 1)) a1 else if k * 4 = j then max (ot (k * 4)) a0 else ot j
set_option maxRecDepth 20000 in
set_option maxHeartbeats 4000000 in
theorem knows_bad (B x mb : Nat) (s : SiP) (lv : Value) (sv : Nat → Value) (n a0 a1 a2 a3 : Int) (w : World) (h : SiAt w B x s mb lv sv) (hn : n < 0 ∨ 4 ≤ n) :
    Calls Tryz.prog 20 #[.pointer (some ⟨x, 0, none⟩), .int .i64 n, .agg #[.int .i64 a0, .int .i64 a1, .int .i64 a2, .int .i64 a3]] w fun e w' => e = .returned (.iface 29 (.int .i64 2)) ∧ Below w.heap.size w w' := by
  clear h
  by_cases h0 : n < 0
  · have d0 : decide (n < 0) = true := decide_eq_true h0
    clear hn h0
    go_enter Tryz.func20, Tryz.ntmps20
    go_wp2_with fail
    go_ret
    exact ⟨rfl, (by repeat (first | exact Below.refl _ _ | refine blw_alloc ?_ | refine blw_plus ?_ | refine Below.drew ?_))⟩
  · have d0 : decide (n < 0) = false := decide_eq_false h0
    have d1 : decide (4 ≤ n) = true := decide_eq_true (by omega)
    clear hn h0
    go_enter Tryz.func20, Tryz.ntmps20
    go_wp2_with fail
    go_ret
    exact ⟨rfl, (by repeat (first | exact Below.refl _ _ | refine blw_alloc ?_ | refine blw_plus ?_ | refine Below.drew ?_))⟩
set_option maxRecDepth 20000 in
set_option maxHeartbeats 4000000 in
theorem knows_any (B x mb : Nat) (s : SiP) (lv : Value) (sv : Nat → Value) (k : Nat) (a0 a1 a2 a3 : Int) (w : World) (h : SiAt w B x s mb lv sv) (hk : k < 4) :
    Calls Tryz.prog 20 #[.pointer (some ⟨x, 0, none⟩), .int .i64 (k : Nat), .agg #[.int .i64 a0, .int .i64 a1, .int .i64 a2, .int .i64 a3]] w fun e w' => e = .returned .nilIface ∧ SiAt w' B x { s with ot := knowF s.ot k a0 a1 a2 a3 } mb lv sv ∧ SiFr w w' (SiOwn x mb lv sv) (SiOwn x mb lv sv) := by
  have d0 : decide ((k : Int) < 0) = false := decide_eq_false (by omega)
  have d1 : decide (4 ≤ (k : Int)) = false := decide_eq_false (by omega)
  have hk0 : (0 : Int) ≤ (k : Int) := by omega
  have hk4 : (k : Int) < 4 := by omega
  have o0 := h.oth (k * 4) (by omega)
  have o1 := h.oth (k * 4 + 1) (by omega)
  have o2 := h.oth (k * 4 + 2) (by omega)
  have o3 := h.oth (k * 4 + 3) (by omega)
  rw [show 17 + (k * 4 + 1) = 17 + k * 4 + 1 by omega] at o1
  rw [show 17 + (k * 4 + 2) = 17 + k * 4 + 2 by omega] at o2
  rw [show 17 + (k * 4 + 3) = 17 + k * 4 + 3 by omega] at o3
  have f0 := h.frz (17 + k * 4); have f1 := h.frz (17 + k * 4 + 1); have f2 := h.frz (17 + k * 4 + 2); have f3 := h.frz (17 + k * 4 + 3)
  have HS := hidp h
  have HMX := hidp fun W => vMax_any (s.ot (k * 4)) (s.ot (k * 4 + 1)) (s.ot (k * 4 + 2)) (s.ot (k * 4 + 3)) a0 a1 a2 a3 W
  haveI : SzGe (x + 1) w := ⟨h.sto.lt⟩
  clear h
  go_enter Tryz.func20, Tryz.ntmps20
  go_wp2_with fail
  refine wp_region_plus_tail 13 (by kernel_rfl) (by kernel_rfl) ?_
  simp only [List.take_succ_cons, List.take_zero, List.drop_succ_cons, List.drop_zero]
  repeat (first | go_big_quiet_skip | (go_big_quiet_want; go_big_quiet_op; first | go_big_quiet_on | (apply Exists.intro; refine ⟨fun _ => ?_, ?_⟩; (go_at_call 87; exact Calls.plus_of (HMX.out _)); go_big_quiet_on)))
  refine wpQuiet_nil ?_
  rintro _ ⟨x3, rfl⟩
  go_wp2_with fail
  go_ret
  have h4 := (((HS.out.seto (i := k * 4) (by omega) (max (s.ot (k * 4)) a0)).seto (i := k * 4 + 1) (by omega) (max (s.ot (k * 4 + 1)) a1)).seto (i := k * 4 + 2) (by omega) (max (s.ot (k * 4 + 2)) a2)).seto (i := k * 4 + 3) (by omega) (max (s.ot (k * 4 + 3)) a3)
  refine ⟨rfl, h4.below (by repeat (first | exact Below.refl _ _ | refine blw_alloc ?_ | refine blw_plus ?_ | refine Below.drew ?_)), ?_⟩
  have hc : ∀ (W : World) (i : Nat) (v : Value), SiFr W (W.setCell ⟨x, i, none⟩ v) (SiOwn x mb lv sv) (SiOwn x mb lv sv) := fun W i v => SiFr.setc (i := i) v
  exact ((((hc w (17 + k * 4) (.int .i64 (max (s.ot (k * 4)) a0))).trans (hc _ (17 + k * 4 + 1) (.int .i64 (max (s.ot (k * 4 + 1)) a1)))).trans (hc _ (17 + k * 4 + 2) (.int .i64 (max (s.ot (k * 4 + 2)) a2)))).trans (hc _ (17 + k * 4 + 3) (.int .i64 (max (s.ot (k * 4 + 3)) a3)))).trans (SiFr.of_below _ (by repeat (first | exact Below.refl _ _ | refine blw_alloc ?_ | refine blw_plus ?_ | refine Below.drew ?_)))
end Go.Proofs.YtbopfhbeegkkaabGreatDoor
