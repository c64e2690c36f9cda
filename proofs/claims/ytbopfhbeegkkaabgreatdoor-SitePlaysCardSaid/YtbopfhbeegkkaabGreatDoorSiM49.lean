/- Part 49 of a proof: lemmas and contracts that other parts use. -/
import Derived.Test.YtbopfhbeegkkaabGreatDoorSiM47
import Derived.Test.YtbopfhbeegkkaabGreatDoorSiM48
import Derived.Test.YtbopfhbeegkkaabGreatDoorSiM26
import Derived.Test.YtbopfhbeegkkaabGreatDoorSiM32
import Derived.Deep.DeepCutAuto
import Derived.Deep.CutBlock
set_option linter.unusedVariables false
set_option linter.unusedSimpArgs false
namespace Go.Proofs.YtbopfhbeegkkaabGreatDoor
open Go.RowKit

set_option maxRecDepth 20000 in
set_option maxHeartbeats 32000000 in
theorem sitePlays_any (id : Int) (A : Option Addr) (c : Nat) (ls : List DoP) (key : Int) (w : World) (hg : EType w) (hps : DosAt w A ls) (hlen : ls.length ≤ maxLen) :
    Calls Tryz.prog 3 #[.int .i64 id, .slice A ls.length c, .int .i64 key] w fun e w' => e = .returned (.bool true) ∧ Below w.heap.size w w' := by
  have HG := hidp hg
  have HPS := hidp hps
  have HLM := hidp hlen
  clear hg hps hlen
  by_cases h80 : 70 < ls.length
  · clear HLM
    have hd0 : decide ((70 : Int) < (ls.length : Int)) = true := decide_eq_true (by omega)
    go_enter Tryz.func3, Tryz.ntmps3
    go_wp2_with fail
    go_ret
    exact ⟨rfl, (by repeat (first | exact Below.refl _ _ | refine blw_alloc ?_ | refine blw_plus ?_ | refine Below.drew ?_))⟩
  have hd0 : decide ((70 : Int) < (ls.length : Int)) = false := decide_eq_false (by omega)
  have hn : ls.length ≤ 70 := by omega
  clear HLM h80
  by_cases hid : 0 ≤ id ∧ id < 4
  case neg => as_aux_lemma =>
    have HNB := hidp fun W => new_bad id W (by omega)
    have HBR := hidp fun (W : World) (h : EType W) => show Calls Tryz.prog 12 #[.iface 29 (.int .i64 2), .int .i64 2] W fun e w' => e = .returned (.bool true) ∧ Below W.heap.size W w' from bareL_any 2 W h
    by_cases h0 : id < 0
    · have e0 : decide (id < 0) = true := decide_eq_true h0
      clear hid h0
      go_enter Tryz.func3, Tryz.ntmps3
      go_wp2_with fail
      go_at_call 11
      refine (HNB.out _).mono ?_
      rintro e w1 ⟨rfl, hb⟩
      obtain ⟨x1, rfl⟩ := wplus_of_below hb
      clear hb
      go_wp2_with fail
      go_at_call 12
      refine (HBR.out _ (HG.out.plus (by repeat (first | exact Below.refl _ _ | refine blw_alloc ?_ | refine blw_plus ?_ | refine Below.drew ?_)))).mono ?_
      rintro e w2 ⟨rfl, hb⟩
      obtain ⟨x2, rfl⟩ := wplus_of_below hb
      clear hb
      go_wp2_with fail
      go_ret
      exact ⟨rfl, (by repeat (first | exact Below.refl _ _ | refine blw_alloc ?_ | refine blw_plus ?_ | refine Below.drew ?_))⟩
    · have e0 : decide (id < 0) = false := decide_eq_false h0
      have e1 : decide (4 ≤ id) = true := decide_eq_true (by omega)
      clear hid h0
      go_enter Tryz.func3, Tryz.ntmps3
      go_wp2_with fail
      go_at_call 11
      refine (HNB.out _).mono ?_
      rintro e w1 ⟨rfl, hb⟩
      obtain ⟨x1, rfl⟩ := wplus_of_below hb
      clear hb
      go_wp2_with fail
      go_at_call 12
      refine (HBR.out _ (HG.out.plus (by repeat (first | exact Below.refl _ _ | refine blw_alloc ?_ | refine blw_plus ?_ | refine Below.drew ?_)))).mono ?_
      rintro e w2 ⟨rfl, hb⟩
      obtain ⟨x2, rfl⟩ := wplus_of_below hb
      clear hb
      go_wp2_with fail
      go_ret
      exact ⟨rfl, (by repeat (first | exact Below.refl _ _ | refine blw_alloc ?_ | refine blw_plus ?_ | refine Below.drew ?_))⟩
  have HFN := hidp (Full.fresh hid)
  have HNW := hidp (new_any id w hid)
  have e0 : decide (id < 0) = false := decide_eq_false (by omega)
  have e1 : decide (4 ≤ id) = false := decide_eq_false (by omega)
  clear hid
  go_enter Tryz.func3, Tryz.ntmps3
  go_wp2_with fail
  go_at_call 11
  refine HNW.out.mono ?_
  rintro e w1 ⟨rfl, hs, hb⟩
  have HS1 := hidp hs
  have HB1 := hidp hb
  clear hs hb HNW
  go_wp2_with fail
  have H0 : Hid (B2 w (w1.alloc (.cells #[.int .i64 id, .int .i64 0, .int .i64 0, .int .i64 0, .int .i64 0, .int .i64 0, .int .i64 0, .slice none 0 0, .slice none 0 0, .slice none 0 0, .int .i64 0, .int .i64 0, .int .i64 0, .int .i64 0, .int .i64 0, .int .i64 0, .int .i64 0, .int .i64 0, .int .i64 0, .int .i64 0, .int .i64 0, .int .i64 0, .int .i64 0, .int .i64 0, .int .i64 0, .int .i64 0] 41)) (w.heap.size + 1) w1.heap.size (siNew id) (rNew id) []) := hidp (B2.fresh (HB1.out.trans (Below.mono (B := w1.heap.size) (by repeat (first | exact Below.refl _ _ | refine blw_alloc ?_ | refine blw_plus ?_ | refine Below.drew ?_)) HB1.out.size)) (HS1.out.below (by repeat (first | exact Below.refl _ _ | refine blw_alloc ?_ | refine blw_plus ?_ | refine Below.drew ?_))) (blk_new rfl _) HB1.out.size (by have := (HS1.out.lt (.inl rfl)).2; omega) (by have := (HS1.out.lt (.inr (.inl rfl))).2; omega))
  clear HS1 HB1
  generalize w1.heap.size = y at *
  --MARK1
  go_loopw [10] (fun i W => ∃ (j : Nat) (s : SiP) (r : RsP) (K : List (Nat × Obj)), i = .int .i64 j ∧ j ≤ ls.length ∧ Full s r ∧ s.wn ≤ j ∧ B2 w W (w.heap.size + 1) y s r K) (fun i _ => ls.length - (intOf i).toNat)
  case atStart => exact ⟨0, _, _, _, rfl, Nat.zero_le _, HFN.out, by simp [siNew], H0.out⟩
  case round => as_aux_lemma =>
    obtain ⟨j, s, r, K, rfl, hj, hf, hwn, hb2⟩ := hrel
    have HFL := hidp hf
    have HWN := hidp hwn
    have HT0 := hidp hb2
    clear hf hwn hb2 H0 HFN
    by_cases hjl : j < ls.length
    · have hjd : decide ((j : Int) < (ls.length : Int)) = true := decide_eq_true (by omega)
      have hj0 := HPS.out j ls[j] (List.getElem?_eq_getElem hjl)
      have HW0 := hidp hj0.2.1
      clear hj0
      obtain ⟨⟨b, o, rfl, hb, k0, k1, k2, k3, k4, k5, k6, k7, k8, k9, k10, k11, k12, k13, k14⟩, hws, hwl, hf1, hf2, _⟩ := HPS.out.below HT0.out.low j ls[j] (List.getElem?_eq_getElem hjl)
      generalize ls[j] = xx at *
      obtain ⟨wh, nn, a0, a1, a2, a3, ⟨site, seq, wall, count, d0, d1, d2, d3, ws⟩, tA, tc⟩ := xx
      simp only at k0 k1 k2 k3 k4 k5 k6 k7 k8 k9 k10 k11 k12 k13 k14 HW0 hws hwl hf1 hf2
      have HWF := hidp (show wf64 site ∧ wf64 seq from ⟨wf64_of hf1, wf64_of hf2⟩)
      haveI : SzGe (b + 1) wr := ⟨hb⟩
      clear hws hf1 hf2
      go_upto_region 13 with fail
      have HT := hidp ((HT0.out.less (K' := []) (fun p hp => by cases hp)).push (.cells #[.int .i64 wh, .int .i64 nn, .int .i64 a0, .int .i64 a1, .int .i64 a2, .int .i64 a3, .int .i64 site, .int .i64 seq, .int .i64 wall, .int .i64 count, .int .i64 d0, .int .i64 d1, .int .i64 d2, .int .i64 d3, .slice tA ws.length tc] 46))
      clear k0 k1 k2 k3 k4 k5 k6 k7 k8 k9 k10 k11 k12 k13 k14 HT0
      generalize wr.alloc (.cells #[.int .i64 wh, .int .i64 nn, .int .i64 a0, .int .i64 a1, .int .i64 a2, .int .i64 a3, .int .i64 site, .int .i64 seq, .int .i64 wall, .int .i64 count, .int .i64 d0, .int .i64 d1, .int .i64 d2, .int .i64 d3, .slice tA ws.length tc] 46) = W1 at *
      generalize wr.heap.size = bx at *
      have hbx := HT.out.bx0
      have q0 := cell_blk hbx 0; have q1 := cell_blk hbx 1; have q2 := cell_blk hbx 2; have q3 := cell_blk hbx 3; have q4 := cell_blk hbx 4; have q5 := cell_blk hbx 5; have q6 := cell_blk hbx 6; have q7 := cell_blk hbx 7; have q8 := cell_blk hbx 8; have q9 := cell_blk hbx 9; have q10 := cell_blk hbx 10; have q11 := cell_blk hbx 11; have q12 := cell_blk hbx 12; have q13 := cell_blk hbx 13; have q14 := cell_blk hbx 14
      simp only [List.getElem?_toArray, List.getElem?_cons_zero, List.getElem?_cons_succ] at q0 q1 q2 q3 q4 q5 q6 q7 q8 q9 q10 q11 q12 q13 q14
      haveI : SzGe (bx + 1) W1 := ⟨lt_blk hbx⟩
      clear hbx
      go_wp2_with fail
      go_at_call 13
      refine (few_any site seq wall count d0 d1 d2 d3 tA tc ws _ (by simp only [maxLen] at hwl; omega) (HW0.out.below HT.out.low)).mono ?_
      rintro e w2 ⟨bb, rfl, hbb, hb2⟩
      have HB2 := hidp hb2
      have HBB := hidp hbb
      clear hb2 hbb
      clear q0 q1 q2 q3 q4 q5 q6 q7 q8 q9 q10 q11 q12 q13 q14
      cases bb
      · go_wp2_with fail
        go_roundw
        case rel => exact ⟨j + 1, s, r, _, by go_num, by omega, HFL.out, by have := HWN.out; omega, (HT.out.below HB2.out).below (by repeat (first | exact Below.refl _ _ | refine blw_alloc ?_ | refine blw_plus ?_ | refine Below.drew ?_))⟩
        case measure => simp [intOf]; omega
      have hw20 : ws.length ≤ 20 := HBB.out rfl
      have HT1 := hidp (HT.out.below HB2.out)
      clear HT HB2 HBB hwl
      have hbx := HT1.out.bx0
      have q0 := cell_blk hbx 0; have q1 := cell_blk hbx 1; have q2 := cell_blk hbx 2; have q3 := cell_blk hbx 3; have q4 := cell_blk hbx 4; have q5 := cell_blk hbx 5; have q6 := cell_blk hbx 6; have q7 := cell_blk hbx 7; have q8 := cell_blk hbx 8; have q9 := cell_blk hbx 9; have q10 := cell_blk hbx 10; have q11 := cell_blk hbx 11; have q12 := cell_blk hbx 12; have q13 := cell_blk hbx 13; have q14 := cell_blk hbx 14
      simp only [List.getElem?_toArray, List.getElem?_cons_zero, List.getElem?_cons_succ] at q0 q1 q2 q3 q4 q5 q6 q7 q8 q9 q10 q11 q12 q13 q14
      haveI : SzGe (bx + 1) w2 := ⟨lt_blk hbx⟩
      clear hbx
      --MARK2
      go_upto_block 2 with fail
      go_cut [] (fun W' => ∃ (s' : SiP) (r' : RsP), Full s' r' ∧ s'.wn ≤ j + 1 ∧ B2 w W' (w.heap.size + 1) y s' r' [(bx, (.cells #[.int .i64 wh, .int .i64 nn, .int .i64 a0, .int .i64 a1, .int .i64 a2, .int .i64 a3, .int .i64 site, .int .i64 seq, .int .i64 wall, .int .i64 count, .int .i64 d0, .int .i64 d1, .int .i64 d2, .int .i64 d3, .slice tA ws.length tc] 46))])
      case first => as_aux_lemma =>
        by_cases hw0 : wh = 0
        · as_aux_lemma =>
          have hx0 : (wh == 0) = true := by simp [hw0]
          clear hw0
          have HC1 := hidp (HT1.out.rcommit HFL.out nn a0 a1 a2 a3 tA tc ws (HW0.out.below HT1.out.low) (by omega))
          have HC2 := hidp fun (W : World) (r2 : RsP) (K : List (Nat × Obj)) (h : B2 w W (w.heap.size + 1) y s r2 K) (hw : WsAt W tA ws) => h.commit HFL.out.inv nn a0 a1 a2 a3 tA tc ws hw (by omega)
          have HCF := hidp fun (h : commitE s nn a0 a1 a2 a3 ws = 0) (A1 A2 : Option Addr) (c1 c2 : Nat) => HFL.out.commit h A1 A2 c1 c2
          obtain ⟨z, hz⟩ : ∃ z, commitE s nn a0 a1 a2 a3 ws = z := ⟨_, rfl⟩
          obtain ⟨T, hT⟩ : ∃ T, commitT s nn a0 a1 a2 a3 ws = T := ⟨_, rfl⟩
          rw [hz, hT] at HC1 HC2 HCF
          have HTL : Hid (T.ws.length ≤ 20) := hidp (by rw [← hT]; exact hw20)
          clear hz hT
          obtain ⟨tsite, tseq, twall, tcount, td0, td1, td2, td3, tws⟩ := T
          go_wp2_with fail
          go_at_call 14
          refine HC1.out.mono ?_
          rintro e w3 ⟨g1, g2⟩
          by_cases hz0 : z = 0
          · subst hz0
            obtain ⟨A3, c3, rfl, hb3⟩ := g2 (by first | rfl | trivial)
            have HT3 := hidp hb3
            clear g1 g2 hb3 HC1
            clear q0 q1 q2 q3 q4 q5 q6 q7 q8 q9 q10 q11 q12 q13 q14
            unfold MTx.val
            simp only
            go_upto_region 17 with fail
            have HT4 := hidp (HT3.out.push (.cells #[.int .i64 tsite, .int .i64 tseq, .int .i64 twall, .int .i64 tcount, .int .i64 td0, .int .i64 td1, .int .i64 td2, .int .i64 td3, .slice A3 tws.length c3] 44))
            clear HT3
            generalize w3.alloc (.cells #[.int .i64 tsite, .int .i64 tseq, .int .i64 twall, .int .i64 tcount, .int .i64 td0, .int .i64 td1, .int .i64 td2, .int .i64 td3, .slice A3 tws.length c3] 44) = w4 at *
            generalize w3.heap.size = b12 at *
            have hbx := HT4.out.bx1
            have q0 := cell_blk hbx 0; have q1 := cell_blk hbx 1; have q2 := cell_blk hbx 2; have q3 := cell_blk hbx 3; have q4 := cell_blk hbx 4; have q5 := cell_blk hbx 5; have q6 := cell_blk hbx 6; have q7 := cell_blk hbx 7; have q8 := cell_blk hbx 8; have q9 := cell_blk hbx 9; have q10 := cell_blk hbx 10; have q11 := cell_blk hbx 11; have q12 := cell_blk hbx 12; have q13 := cell_blk hbx 13; have q14 := cell_blk hbx 14
            simp only [List.getElem?_toArray, List.getElem?_cons_zero, List.getElem?_cons_succ] at q0 q1 q2 q3 q4 q5 q6 q7 q8 q9 q10 q11 q12 q13 q14
            haveI : SzGe (bx + 1) w4 := ⟨lt_blk hbx⟩
            clear hbx
            go_wp2_with fail
            go_at_call 15
            refine (HC2.out _ _ _ HT4.out (HW0.out.below HT4.out.low)).mono ?_
            rintro e w5 ⟨g1, g2⟩
            obtain ⟨A5, c5, A6, c6, rfl, hb5, hws5⟩ := g2 (by first | rfl | trivial)
            have HWG := hidp hws5
            clear hws5
            have HT5 := hidp hb5
            clear g1 g2 hb5 HC2 HT4
            clear q0 q1 q2 q3 q4 q5 q6 q7 q8 q9 q10 q11 q12 q13 q14
            unfold MTx.val
            simp only
            go_upto_region 18 with fail
            have HT6 := hidp (HT5.out.push (.cells #[.int .i64 tsite, .int .i64 tseq, .int .i64 twall, .int .i64 tcount, .int .i64 td0, .int .i64 td1, .int .i64 td2, .int .i64 td3, .slice A5 tws.length c5] 44))
            have HWG6 := hidp (HWG.out.below (show Below w5.heap.size w5 (w5.alloc (.cells #[.int .i64 tsite, .int .i64 tseq, .int .i64 twall, .int .i64 tcount, .int .i64 td0, .int .i64 td1, .int .i64 td2, .int .i64 td3, .slice A5 tws.length c5] 44)) from (by repeat (first | exact Below.refl _ _ | refine blw_alloc ?_ | refine blw_plus ?_ | refine Below.drew ?_))))
            have HWN6 := hidp (HT6.out.rdat (m := ⟨⟨tsite, tseq, twall, tcount, td0, td1, td2, td3, tws⟩, A3, c3⟩) (.inl (by rw [applyR_log]; simp)))
            clear HWG
            clear HT5
            generalize w5.alloc (.cells #[.int .i64 tsite, .int .i64 tseq, .int .i64 twall, .int .i64 tcount, .int .i64 td0, .int .i64 td1, .int .i64 td2, .int .i64 td3, .slice A5 tws.length c5] 44) = w6 at *
            generalize w5.heap.size = b14 at *
            go_wp2_with fail
            go_at_call 12
            refine ((show Calls Tryz.prog 12 #[.nilIface, .int .i64 0] w6 (fun e w7 => e = .returned (.bool true) ∧ Below w6.heap.size w6 w7) from bareL_any 0 w6 (HG.out.plus HT6.out.low))).mono ?_
            rintro e w7 ⟨rfl, hb⟩
            have HT7 := hidp (HT6.out.below hb)
            have HWG7 := hidp (HWG6.out.below hb)
            have HWN7 := hidp (HWN6.out.below hb)
            clear HWG6 HWN6
            clear hb HT6
            have h14 := HT7.out.bx0
            have h12 := HT7.out.bx1
            have u0 := cell_blk h14 0; have u1 := cell_blk h14 1; have u2 := cell_blk h14 2; have u3 := cell_blk h14 3; have u4 := cell_blk h14 4; have u5 := cell_blk h14 5; have u6 := cell_blk h14 6; have u7 := cell_blk h14 7; have u8 := cell_blk h14 8
            simp only [List.getElem?_toArray, List.getElem?_cons_zero, List.getElem?_cons_succ] at u0 u1 u2 u3 u4 u5 u6 u7 u8
            have v0 := cell_blk h12 0; have v1 := cell_blk h12 1; have v2 := cell_blk h12 2; have v3 := cell_blk h12 3; have v4 := cell_blk h12 4; have v5 := cell_blk h12 5; have v6 := cell_blk h12 6; have v7 := cell_blk h12 7; have v8 := cell_blk h12 8
            simp only [List.getElem?_toArray, List.getElem?_cons_zero, List.getElem?_cons_succ] at v0 v1 v2 v3 v4 v5 v6 v7 v8
            haveI : SzGe (b14 + 1) w7 := ⟨lt_blk h14⟩
            haveI : SzGe (b12 + 1) w7 := ⟨lt_blk h12⟩
            clear h14 h12
            go_wp2_with fail
            go_at_call 16
            refine (same_eq tsite tseq twall tcount td0 td1 td2 td3 tws A5 A3 c5 c3 w7 (by have := HTL.out; (try simp only at this); omega) HWG7.out HWN7.out).mono ?_
            rintro e w8 ⟨rfl, hb⟩
            have HB8 := hidp hb
            clear hb
            go_wp2_with fail
            go_meet
            exact ⟨_, _, HCF.out (by first | rfl | trivial) _ _ _ _, by have := HWN.out; show s.wn ≤ j + 1; omega, ((HT7.out.below HB8.out).below (by repeat (first | exact Below.refl _ _ | refine blw_alloc ?_ | refine blw_plus ?_ | refine Below.drew ?_))).less (fun p hp => by simp at hp; simp [hp])⟩
          · obtain ⟨rfl, hb3⟩ := g1 hz0
            have HT3 := hidp hb3
            clear g1 g2 hb3 HC1
            clear q0 q1 q2 q3 q4 q5 q6 q7 q8 q9 q10 q11 q12 q13 q14
            unfold txZero
            go_upto_region 17 with fail
            have HT4 := hidp (HT3.out.push (.cells #[.int .i64 0, .int .i64 0, .int .i64 0, .int .i64 0, .int .i64 0, .int .i64 0, .int .i64 0, .int .i64 0, .slice none 0 0] 44))
            clear HT3
            generalize w3.alloc (.cells #[.int .i64 0, .int .i64 0, .int .i64 0, .int .i64 0, .int .i64 0, .int .i64 0, .int .i64 0, .int .i64 0, .slice none 0 0] 44) = w4 at *
            generalize w3.heap.size = b12 at *
            have hbx := HT4.out.bx1
            have q0 := cell_blk hbx 0; have q1 := cell_blk hbx 1; have q2 := cell_blk hbx 2; have q3 := cell_blk hbx 3; have q4 := cell_blk hbx 4; have q5 := cell_blk hbx 5; have q6 := cell_blk hbx 6; have q7 := cell_blk hbx 7; have q8 := cell_blk hbx 8; have q9 := cell_blk hbx 9; have q10 := cell_blk hbx 10; have q11 := cell_blk hbx 11; have q12 := cell_blk hbx 12; have q13 := cell_blk hbx 13; have q14 := cell_blk hbx 14
            simp only [List.getElem?_toArray, List.getElem?_cons_zero, List.getElem?_cons_succ] at q0 q1 q2 q3 q4 q5 q6 q7 q8 q9 q10 q11 q12 q13 q14
            haveI : SzGe (bx + 1) w4 := ⟨lt_blk hbx⟩
            clear hbx
            go_wp2_with fail
            go_at_call 15
            refine (HC2.out _ _ _ HT4.out (HW0.out.below HT4.out.low)).mono ?_
            rintro e w5 ⟨g1, g2⟩
            obtain ⟨rfl, hb5⟩ := g1 hz0
            have HT5 := hidp hb5
            clear g1 g2 hb5 HC2 HT4
            clear q0 q1 q2 q3 q4 q5 q6 q7 q8 q9 q10 q11 q12 q13 q14
            unfold txZero
            go_upto_region 18 with fail
            have HT6 := hidp (HT5.out.push (.cells #[.int .i64 0, .int .i64 0, .int .i64 0, .int .i64 0, .int .i64 0, .int .i64 0, .int .i64 0, .int .i64 0, .slice none 0 0] 44))
            clear HT5
            generalize w5.alloc (.cells #[.int .i64 0, .int .i64 0, .int .i64 0, .int .i64 0, .int .i64 0, .int .i64 0, .int .i64 0, .int .i64 0, .slice none 0 0] 44) = w6 at *
            generalize w5.heap.size = b14 at *
            go_wp2_with fail
            go_at_call 12
            refine ((bareL_any z w6 (HG.out.plus HT6.out.low))).mono ?_
            rintro e w7 ⟨rfl, hb⟩
            have HT7 := hidp (HT6.out.below hb)
            clear hb HT6
            have h14 := HT7.out.bx0
            have h12 := HT7.out.bx1
            have u0 := cell_blk h14 0; have u1 := cell_blk h14 1; have u2 := cell_blk h14 2; have u3 := cell_blk h14 3; have u4 := cell_blk h14 4; have u5 := cell_blk h14 5; have u6 := cell_blk h14 6; have u7 := cell_blk h14 7; have u8 := cell_blk h14 8
            simp only [List.getElem?_toArray, List.getElem?_cons_zero, List.getElem?_cons_succ] at u0 u1 u2 u3 u4 u5 u6 u7 u8
            have v0 := cell_blk h12 0; have v1 := cell_blk h12 1; have v2 := cell_blk h12 2; have v3 := cell_blk h12 3; have v4 := cell_blk h12 4; have v5 := cell_blk h12 5; have v6 := cell_blk h12 6; have v7 := cell_blk h12 7; have v8 := cell_blk h12 8
            simp only [List.getElem?_toArray, List.getElem?_cons_zero, List.getElem?_cons_succ] at v0 v1 v2 v3 v4 v5 v6 v7 v8
            haveI : SzGe (b14 + 1) w7 := ⟨lt_blk h14⟩
            haveI : SzGe (b12 + 1) w7 := ⟨lt_blk h12⟩
            clear h14 h12
            go_wp2_with fail
            go_at_call 16
            refine (same_eq 0 0 0 0 0 0 0 0 [] none none 0 0 w7 (by simp) (fun i x hx => by simp at hx) (fun i x hx => by simp at hx)).mono ?_
            rintro e w8 ⟨rfl, hb⟩
            have HB8 := hidp hb
            clear hb
            go_wp2_with fail
            go_meet
            exact ⟨s, r, HFL.out, by have := HWN.out; omega, ((HT7.out.below HB8.out).below (by repeat (first | exact Below.refl _ _ | refine blw_alloc ?_ | refine blw_plus ?_ | refine Below.drew ?_))).less (fun p hp => by simp at hp; simp [hp])⟩
        have hx0 : (wh == 0) = false := by simpa using hw0
        by_cases hw1 : wh = 1
        · as_aux_lemma =>
          have hx1 : (wh == 1) = true := by simp [hw1]
          clear hw1
          have HWF1 := HWF.out.1
          have HWF2 := HWF.out.2
          have HP1 := hidp fun (W : World) (h : B2 w W (w.heap.size + 1) y s r [(bx, (.cells #[.int .i64 wh, .int .i64 nn, .int .i64 a0, .int .i64 a1, .int .i64 a2, .int .i64 a3, .int .i64 site, .int .i64 seq, .int .i64 wall, .int .i64 count, .int .i64 d0, .int .i64 d1, .int .i64 d2, .int .i64 d3, .slice tA ws.length tc] 46))]) => h.take HFL.out (⟨site, seq, wall, count, d0, d1, d2, d3, ws⟩ : TxP) tA tc (by have := HWN.out; omega) (HW0.out.below h.low) (by simp only; omega) HWF1 HWF2
          have HP2 := hidp fun (W : World) (s2 : SiP) (h : B2 w W (w.heap.size + 1) y s2 r [(bx, (.cells #[.int .i64 wh, .int .i64 nn, .int .i64 a0, .int .i64 a1, .int .i64 a2, .int .i64 a3, .int .i64 site, .int .i64 seq, .int .i64 wall, .int .i64 count, .int .i64 d0, .int .i64 d1, .int .i64 d2, .int .i64 d3, .slice tA ws.length tc] 46))]) => h.rtake HFL.out (⟨site, seq, wall, count, d0, d1, d2, d3, ws⟩ : TxP) tA tc (by have := HWN.out; omega) (HW0.out.below h.low) (by simp only; omega)
          clear HWF1 HWF2
          obtain ⟨z, hz⟩ : ∃ z, takeE s (⟨site, seq, wall, count, d0, d1, d2, d3, ws⟩ : TxP) = z := ⟨_, rfl⟩
          rw [hz] at HP1 HP2
          clear hz
          have HSK : Hid (∀ X : World, X.heap[bx]? = some (.cells #[.int .i64 wh, .int .i64 nn, .int .i64 a0, .int .i64 a1, .int .i64 a2, .int .i64 a3, .int .i64 site, .int .i64 seq, .int .i64 wall, .int .i64 count, .int .i64 d0, .int .i64 d1, .int .i64 d2, .int .i64 d3, .slice tA ws.length tc] 46) → (X.cell? ⟨bx, 6, none⟩ = some (.int .i64 site) ∧ X.cell? ⟨bx, 7, none⟩ = some (.int .i64 seq) ∧ X.cell? ⟨bx, 8, none⟩ = some (.int .i64 wall) ∧ X.cell? ⟨bx, 9, none⟩ = some (.int .i64 count) ∧ X.cell? ⟨bx, 10, none⟩ = some (.int .i64 d0) ∧ X.cell? ⟨bx, 11, none⟩ = some (.int .i64 d1) ∧ X.cell? ⟨bx, 12, none⟩ = some (.int .i64 d2) ∧ X.cell? ⟨bx, 13, none⟩ = some (.int .i64 d3) ∧ X.cell? ⟨bx, 14, none⟩ = some (.slice tA ws.length tc))) := hidp (fun X h => ⟨cell_blk h 6, cell_blk h 7, cell_blk h 8, cell_blk h 9, cell_blk h 10, cell_blk h 11, cell_blk h 12, cell_blk h 13, cell_blk h 14⟩)
          clear q0 q1 q2 q3 q4 q5 q6 q7 q8 q9 q10 q11 q12 q13 q14
          unfold MTx.val at HP1 HP2
          go_upto_region 21 with fail
          go_region_held3 (fun X : World => X.cell? ⟨bx, 6, none⟩ = some (.int .i64 site) ∧ X.cell? ⟨bx, 7, none⟩ = some (.int .i64 seq) ∧ X.cell? ⟨bx, 8, none⟩ = some (.int .i64 wall) ∧ X.cell? ⟨bx, 9, none⟩ = some (.int .i64 count) ∧ X.cell? ⟨bx, 10, none⟩ = some (.int .i64 d0) ∧ X.cell? ⟨bx, 11, none⟩ = some (.int .i64 d1) ∧ X.cell? ⟨bx, 12, none⟩ = some (.int .i64 d2) ∧ X.cell? ⟨bx, 13, none⟩ = some (.int .i64 d3) ∧ X.cell? ⟨bx, 14, none⟩ = some (.slice tA ws.length tc)) ((refine HSK.out _ ?_; first | exact HT4.out.bx0 | exact HT3.out.bx0 | exact HT2.out.bx0 | exact (HT1.out.below (by repeat (first | exact Below.refl _ _ | refine blw_alloc ?_ | refine blw_plus ?_ | refine Below.drew ?_))).bx0)) (
            first
            | (go_at_call 17
               refine (HP1.out _ (HT1.out.below (by repeat (first | exact Below.refl _ _ | refine blw_alloc ?_ | refine blw_plus ?_ | refine Below.drew ?_)))).mono ?_
               rintro e w3 ⟨rfl, s3, hk3, hb3⟩
               have HK3 := hidp hk3
               have HT2 := hidp hb3
               clear hk3 hb3)
            | (go_at_call 18
               refine (HP2.out _ _ HT2.out).mono ?_
               rintro e w4 ⟨rfl, r4, hk4, hb4⟩
               have HK4 := hidp hk4
               have HT3 := hidp hb4
               clear hk4 hb4)
            | (go_at_call 12
               refine (bareL_any z _ (HG.out.plus HT3.out.low)).mono ?_
               rintro e w5 ⟨rfl, hb5⟩
               have HT4 := hidp (HT3.out.below hb5)
               clear hb5)
            | fail)
          all_goals
            go_wp2_with fail
            go_meet
            exact ⟨_, _, (HFL.out.took HK3.out HK4.out).1, by have := (HFL.out.took HK3.out HK4.out).2; have := HWN.out; omega, HT4.out.below (by repeat (first | exact Below.refl _ _ | refine blw_alloc ?_ | refine blw_plus ?_ | refine Below.drew ?_))⟩
        have hx1 : (wh == 1) = false := by simpa using hw1
        by_cases hw2 : wh = 2
        · as_aux_lemma =>
          have hx2 : (wh == 2) = true := by simp [hw2]
          clear hw2
          by_cases hk0 : 0 ≤ nn
          case neg => as_aux_lemma =>
            have k0 : decide (0 ≤ nn) = false := decide_eq_false hk0
            have HNB := hidp (HT1.out.knows_bad nn a0 a1 a2 a3 (by omega))
            go_wp2_with fail
            go_at_call 20
            refine HNB.out.mono ?_
            rintro e w3 ⟨rfl, hb⟩
            have HT2 := hidp (HT1.out.below hb)
            clear hb HNB
            go_wp2_with fail
            go_at_call 12
            refine (show Calls Tryz.prog 12 #[.iface 29 (.int .i64 2), .int .i64 2] w3 (fun e w7 => e = .returned (.bool true) ∧ Below w3.heap.size w3 w7) from bareL_any 2 w3 (HG.out.plus HT2.out.low)).mono ?_
            rintro e w4 ⟨rfl, hb⟩
            have HT3 := hidp (HT2.out.below hb)
            clear hb
            go_wp2_with fail
            go_meet
            exact ⟨s, r, HFL.out, by have := HWN.out; omega, HT3.out.below (by repeat (first | exact Below.refl _ _ | refine blw_alloc ?_ | refine blw_plus ?_ | refine Below.drew ?_))⟩
          by_cases hk4 : nn < 4
          case neg => as_aux_lemma =>
            have k0 : decide (0 ≤ nn) = true := decide_eq_true hk0
            have k1 : decide (nn < 4) = false := decide_eq_false hk4
            have HNB := hidp (HT1.out.knows_bad nn a0 a1 a2 a3 (by omega))
            go_wp2_with fail
            go_at_call 20
            refine HNB.out.mono ?_
            rintro e w3 ⟨rfl, hb⟩
            have HT2 := hidp (HT1.out.below hb)
            clear hb HNB
            go_wp2_with fail
            go_at_call 12
            refine (show Calls Tryz.prog 12 #[.iface 29 (.int .i64 2), .int .i64 2] w3 (fun e w7 => e = .returned (.bool true) ∧ Below w3.heap.size w3 w7) from bareL_any 2 w3 (HG.out.plus HT2.out.low)).mono ?_
            rintro e w4 ⟨rfl, hb⟩
            have HT3 := hidp (HT2.out.below hb)
            clear hb
            go_wp2_with fail
            go_meet
            exact ⟨s, r, HFL.out, by have := HWN.out; omega, HT3.out.below (by repeat (first | exact Below.refl _ _ | refine blw_alloc ?_ | refine blw_plus ?_ | refine Below.drew ?_))⟩
          obtain ⟨k, rfl⟩ := Int.eq_ofNat_of_zero_le hk0
          have k0 : decide (0 ≤ (k : Int)) = true := decide_eq_true hk0
          have k1 : decide ((k : Int) < 4) = true := decide_eq_true hk4
          have hk : k < 4 := by omega
          have HMX := hidp fun W => rMax_any (s.ot (k * 4)) (s.ot (k * 4 + 1)) (s.ot (k * 4 + 2)) (s.ot (k * 4 + 3)) a0 a1 a2 a3 W
          obtain ⟨o0, f0⟩ := HT1.out.roth HFL.out (k := k * 4) (by omega)
          obtain ⟨o1, f1⟩ := HT1.out.roth HFL.out (k := k * 4 + 1) (by omega)
          obtain ⟨o2, f2⟩ := HT1.out.roth HFL.out (k := k * 4 + 2) (by omega)
          obtain ⟨o3, f3⟩ := HT1.out.roth HFL.out (k := k * 4 + 3) (by omega)
          rw [show 10 + (k * 4 + 1) = 10 + k * 4 + 1 by omega] at o1 f1
          rw [show 10 + (k * 4 + 2) = 10 + k * 4 + 2 by omega] at o2 f2
          rw [show 10 + (k * 4 + 3) = 10 + k * 4 + 3 by omega] at o3 f3
          haveI : SzGe (y + 1) w2 := ⟨(HT1.out.rcells HFL.out).2.1⟩
          go_upto_region 27 with fail
          refine wp_region_plus_tail 15 (by kernel_rfl) (by kernel_rfl) ?_
          simp only [List.take_succ_cons, List.take_zero, List.drop_succ_cons, List.drop_zero]
          repeat (first | go_big_quiet_skip | (go_big_quiet_want; go_big_quiet_op; first | go_big_quiet_on | (apply Exists.intro; refine ⟨fun _ => ?_, ?_⟩; (go_at_call 19; exact Calls.plus_of (HMX.out _)); go_big_quiet_on)))
          refine wpQuiet_nil ?_
          rintro _ ⟨x3, rfl⟩
          go_upto_region 28 with fail
          have HT2 : Hid (B2 w _ (w.heap.size + 1) y s _ [(bx, (.cells #[.int .i64 wh, .int .i64 k, .int .i64 a0, .int .i64 a1, .int .i64 a2, .int .i64 a3, .int .i64 site, .int .i64 seq, .int .i64 wall, .int .i64 count, .int .i64 d0, .int .i64 d1, .int .i64 d2, .int .i64 d3, .slice tA ws.length tc] 46))]) := hidp (((((HT1.out.rset (i := k * 4) (by omega) (max (s.ot (k * 4)) a0)).rset (i := k * 4 + 1) (by omega) (max (s.ot (k * 4 + 1)) a1)).rset (i := k * 4 + 2) (by omega) (max (s.ot (k * 4 + 2)) a2)).rset (i := k * 4 + 3) (by omega) (max (s.ot (k * 4 + 3)) a3)).below (w' := wplus ((((w2.setCell ⟨y, 10 + k * 4, none⟩ (.int .i64 (max (s.ot (k * 4)) a0))).setCell ⟨y, 10 + k * 4 + 1, none⟩ (.int .i64 (max (s.ot (k * 4 + 1)) a1))).setCell ⟨y, 10 + k * 4 + 2, none⟩ (.int .i64 (max (s.ot (k * 4 + 2)) a2))).setCell ⟨y, 10 + k * 4 + 3, none⟩ (.int .i64 (max (s.ot (k * 4 + 3)) a3))) x3) (by repeat (first | exact Below.refl _ _ | refine blw_alloc ?_ | refine blw_plus ?_ | refine Below.drew ?_)))
          clear o0 o1 o2 o3 f0 f1 f2 f3
          clear q0 q1 q2 q3 q4 q5 q6 q7 q8 q9 q10 q11 q12 q13 q14
          generalize wplus ((((w2.setCell ⟨y, 10 + k * 4, none⟩ (.int .i64 (max (s.ot (k * 4)) a0))).setCell ⟨y, 10 + k * 4 + 1, none⟩ (.int .i64 (max (s.ot (k * 4 + 1)) a1))).setCell ⟨y, 10 + k * 4 + 2, none⟩ (.int .i64 (max (s.ot (k * 4 + 2)) a2))).setCell ⟨y, 10 + k * 4 + 3, none⟩ (.int .i64 (max (s.ot (k * 4 + 3)) a3))) x3 = w3 at *
          have hbx := HT2.out.bx0
          have q0 := cell_blk hbx 0; have q1 := cell_blk hbx 1; have q2 := cell_blk hbx 2; have q3 := cell_blk hbx 3; have q4 := cell_blk hbx 4; have q5 := cell_blk hbx 5; have q6 := cell_blk hbx 6; have q7 := cell_blk hbx 7; have q8 := cell_blk hbx 8; have q9 := cell_blk hbx 9; have q10 := cell_blk hbx 10; have q11 := cell_blk hbx 11; have q12 := cell_blk hbx 12; have q13 := cell_blk hbx 13; have q14 := cell_blk hbx 14
          simp only [List.getElem?_toArray, List.getElem?_cons_zero, List.getElem?_cons_succ] at q0 q1 q2 q3 q4 q5 q6 q7 q8 q9 q10 q11 q12 q13 q14
          haveI : SzGe (bx + 1) w3 := ⟨lt_blk hbx⟩
          clear hbx
          go_wp2_with fail
          go_at_call 20
          refine (HT2.out.knows k a0 a1 a2 a3 hk).mono ?_
          rintro e w4 ⟨rfl, hb4⟩
          have HT3 := hidp hb4
          clear hb4
          clear q0 q1 q2 q3 q4 q5 q6 q7 q8 q9 q10 q11 q12 q13 q14
          go_wp2_with fail
          go_at_call 12
          refine (show Calls Tryz.prog 12 #[.nilIface, .int .i64 0] w4 (fun e w7 => e = .returned (.bool true) ∧ Below w4.heap.size w4 w7) from bareL_any 0 w4 (HG.out.plus HT3.out.low)).mono ?_
          rintro e w7 ⟨rfl, hb⟩
          have HT4 := hidp (HT3.out.below hb)
          clear hb
          go_wp2_with fail
          go_meet
          exact ⟨_, _, HFL.out.others k a0 a1 a2 a3 hk, by have := HWN.out; show s.wn ≤ j + 1; omega, HT4.out.below (by repeat (first | exact Below.refl _ _ | refine blw_alloc ?_ | refine blw_plus ?_ | refine Below.drew ?_))⟩
        have hx2 : (wh == 2) = false := by simpa using hw2
        by_cases hw3 : wh = 3
        · as_aux_lemma =>
          have hx3 : (wh == 3) = true := by simp [hw3]
          clear hw3
          have HSW := hidp (HT1.out.sweep HFL.out a0 a1 a2 a3)
          have HRS := hidp fun (W : World) (s2 : SiP) (h : B2 w W (w.heap.size + 1) y s2 r [(bx, (.cells #[.int .i64 wh, .int .i64 nn, .int .i64 a0, .int .i64 a1, .int .i64 a2, .int .i64 a3, .int .i64 site, .int .i64 seq, .int .i64 wall, .int .i64 count, .int .i64 d0, .int .i64 d1, .int .i64 d2, .int .i64 d3, .slice tA ws.length tc] 46))]) => h.rsweep HFL.out (min a0 s.p0) (min a1 s.p1) (min a2 s.p2) (min a3 s.p3)
          have HFS := hidp (HFL.out.sweep (min a0 s.p0) (min a1 s.p1) (min a2 s.p2) (min a3 s.p3))
          have HMN := hidp fun W => rMin_any a0 a1 a2 a3 s.p0 s.p1 s.p2 s.p3 W
          go_wp2_with fail
          go_at_call 21
          refine HSW.out.mono ?_
          rintro e w3 ⟨rfl, hb⟩
          have HT2 := hidp hb
          clear hb HSW
          clear q0 q1 q2 q3 q4 q5 q6 q7 q8 q9 q10 q11 q12 q13 q14
          have hbx := HT2.out.bx0
          have q0 := cell_blk hbx 0; have q1 := cell_blk hbx 1; have q2 := cell_blk hbx 2; have q3 := cell_blk hbx 3; have q4 := cell_blk hbx 4; have q5 := cell_blk hbx 5; have q6 := cell_blk hbx 6; have q7 := cell_blk hbx 7; have q8 := cell_blk hbx 8; have q9 := cell_blk hbx 9; have q10 := cell_blk hbx 10; have q11 := cell_blk hbx 11; have q12 := cell_blk hbx 12; have q13 := cell_blk hbx 13; have q14 := cell_blk hbx 14
          simp only [List.getElem?_toArray, List.getElem?_cons_zero, List.getElem?_cons_succ] at q0 q1 q2 q3 q4 q5 q6 q7 q8 q9 q10 q11 q12 q13 q14
          obtain ⟨_, hyl, v1, v2, v3, v4, _⟩ := HT2.out.rcells HFL.out
          haveI : SzGe (bx + 1) w3 := ⟨lt_blk hbx⟩
          haveI : SzGe (y + 1) w3 := ⟨hyl⟩
          clear hbx hyl
          go_upto_region 32 with fail
          refine wp_region_plus_tail 10 (by kernel_rfl) (by kernel_rfl) ?_
          simp only [List.take_succ_cons, List.take_zero, List.drop_succ_cons, List.drop_zero]
          repeat (first | go_big_quiet_skip | (go_big_quiet_want; go_big_quiet_op; first | go_big_quiet_on | (apply Exists.intro; refine ⟨fun _ => ?_, ?_⟩; (go_at_call 23; exact Calls.plus_of (HMN.out _)); go_big_quiet_on)))
          refine wpQuiet_nil ?_
          rintro _ ⟨x3, rfl⟩
          clear q0 q1 q2 q3 q4 q5 q6 q7 q8 q9 q10 q11 q12 q13 q14
          clear v1 v2 v3 v4
          go_wp2_with fail
          go_at_call 22
          refine (HRS.out _ _ (HT2.out.below (by repeat (first | exact Below.refl _ _ | refine blw_alloc ?_ | refine blw_plus ?_ | refine Below.drew ?_)))).mono ?_
          rintro e w4 ⟨rfl, hb⟩
          have HT3 := hidp hb
          clear hb HRS
          go_wp2_with fail
          go_meet
          exact ⟨_, _, HFS.out, by have := HWN.out; show s.wn ≤ j + 1; omega, HT3.out.below (by repeat (first | exact Below.refl _ _ | refine blw_alloc ?_ | refine blw_plus ?_ | refine Below.drew ?_))⟩
        have hx3 : (wh == 3) = false := by simpa using hw3
        go_wp2_with fail
        go_meet
        exact ⟨s, r, HFL.out, by have := HWN.out; omega, HT1.out.below (by repeat (first | exact Below.refl _ _ | refine blw_alloc ?_ | refine blw_plus ?_ | refine Below.drew ?_))⟩
      case rest =>
        obtain ⟨s, r, hf', hwn', hb2⟩ := hcut
        clear q0 q1 q2 q3 q4 q5 q6 q7 q8 q9 q10 q11 q12 q13 q14 HT1 HFL HWN
        have HFL := hidp hf'
        have HWN := hidp hwn'
        have HT := hidp hb2
        clear hf' hwn' hb2
        as_aux_lemma =>
        obtain ⟨⟨⟨xw, xc, xs, xq, xd, xg⟩, z⟩, hR⟩ : ∃ R, siteRead s key a0 a1 a2 a3 = R := ⟨_, rfl⟩
        have HR := hidp hR
        clear hR
        have hbx := HT.out.bx0
        have q0 := cell_blk hbx 0; have q1 := cell_blk hbx 1; have q2 := cell_blk hbx 2; have q3 := cell_blk hbx 3; have q4 := cell_blk hbx 4; have q5 := cell_blk hbx 5; have q6 := cell_blk hbx 6; have q7 := cell_blk hbx 7; have q8 := cell_blk hbx 8; have q9 := cell_blk hbx 9; have q10 := cell_blk hbx 10; have q11 := cell_blk hbx 11; have q12 := cell_blk hbx 12; have q13 := cell_blk hbx 13; have q14 := cell_blk hbx 14
        simp only [List.getElem?_toArray, List.getElem?_cons_zero, List.getElem?_cons_succ] at q0 q1 q2 q3 q4 q5 q6 q7 q8 q9 q10 q11 q12 q13 q14
        haveI : SzGe (bx + 1) wc := ⟨lt_blk hbx⟩
        clear hbx
        go_wp2_with fail
        go_at_call 24
        refine (HT.out.rread HFL.out key a0 a1 a2 a3 HR.out).mono ?_
        rintro e w3 ⟨rfl, hb⟩
        have HT2 := hidp (HT.out.below hb)
        clear hb HT
        clear q0 q1 q2 q3 q4 q5 q6 q7 q8 q9 q10 q11 q12 q13 q14
        unfold verV
        simp only
        go_upto_region 34 with fail
        have HT3 := hidp (HT2.out.push (.cells #[.int .i64 xw, .int .i64 xc, .int .i64 xs, .int .i64 xq, .string xd, .bool xg] 59))
        clear HT2
        generalize w3.alloc (.cells #[.int .i64 xw, .int .i64 xc, .int .i64 xs, .int .i64 xq, .string xd, .bool xg] 59) = w4 at *
        generalize w3.heap.size = p7 at *
        have hbx := HT3.out.bx1
        have q0 := cell_blk hbx 0; have q1 := cell_blk hbx 1; have q2 := cell_blk hbx 2; have q3 := cell_blk hbx 3; have q4 := cell_blk hbx 4; have q5 := cell_blk hbx 5; have q6 := cell_blk hbx 6; have q7 := cell_blk hbx 7; have q8 := cell_blk hbx 8; have q9 := cell_blk hbx 9; have q10 := cell_blk hbx 10; have q11 := cell_blk hbx 11; have q12 := cell_blk hbx 12; have q13 := cell_blk hbx 13; have q14 := cell_blk hbx 14
        simp only [List.getElem?_toArray, List.getElem?_cons_zero, List.getElem?_cons_succ] at q0 q1 q2 q3 q4 q5 q6 q7 q8 q9 q10 q11 q12 q13 q14
        haveI : SzGe (bx + 1) w4 := ⟨lt_blk hbx⟩
        clear hbx
        go_wp2_with fail
        go_at_call 25
        refine (HT3.out.read HFL.out key a0 a1 a2 a3 HR.out).mono ?_
        rintro e w5 ⟨rfl, hb⟩
        have HT4 := hidp (HT3.out.below hb)
        clear hb HT3
        clear q0 q1 q2 q3 q4 q5 q6 q7 q8 q9 q10 q11 q12 q13 q14
        unfold verV
        simp only
        go_upto_region 35 with fail
        have HD := hidp (HT4.out.push (.cells #[.int .i64 xw, .int .i64 xc, .int .i64 xs, .int .i64 xq, .string xd, .bool xg] 59))
        clear HT4
        generalize w5.alloc (.cells #[.int .i64 xw, .int .i64 xc, .int .i64 xs, .int .i64 xq, .string xd, .bool xg] 59) = WD at *
        generalize w5.heap.size = p9 at *
        have h9 := HD.out.bx0
        have h7 := HD.out.bx1
        have hbx := HD.out.box (bx, (.cells #[.int .i64 wh, .int .i64 nn, .int .i64 a0, .int .i64 a1, .int .i64 a2, .int .i64 a3, .int .i64 site, .int .i64 seq, .int .i64 wall, .int .i64 count, .int .i64 d0, .int .i64 d1, .int .i64 d2, .int .i64 d3, .slice tA ws.length tc] 46)) (by simp)
        have q0 := cell_blk hbx 0; have q1 := cell_blk hbx 1; have q2 := cell_blk hbx 2; have q3 := cell_blk hbx 3; have q4 := cell_blk hbx 4; have q5 := cell_blk hbx 5; have q6 := cell_blk hbx 6; have q7 := cell_blk hbx 7; have q8 := cell_blk hbx 8; have q9 := cell_blk hbx 9; have q10 := cell_blk hbx 10; have q11 := cell_blk hbx 11; have q12 := cell_blk hbx 12; have q13 := cell_blk hbx 13; have q14 := cell_blk hbx 14
        simp only [List.getElem?_toArray, List.getElem?_cons_zero, List.getElem?_cons_succ] at q0 q1 q2 q3 q4 q5 q6 q7 q8 q9 q10 q11 q12 q13 q14
        have u0 := cell_blk h9 0; have u1 := cell_blk h9 1; have u2 := cell_blk h9 2; have u3 := cell_blk h9 3; have u4 := cell_blk h9 4; have u5 := cell_blk h9 5
        simp only [List.getElem?_toArray, List.getElem?_cons_zero, List.getElem?_cons_succ] at u0 u1 u2 u3 u4 u5
        have v0 := cell_blk h7 0; have v1 := cell_blk h7 1; have v2 := cell_blk h7 2; have v3 := cell_blk h7 3; have v4 := cell_blk h7 4; have v5 := cell_blk h7 5
        simp only [List.getElem?_toArray, List.getElem?_cons_zero, List.getElem?_cons_succ] at v0 v1 v2 v3 v4 v5
        obtain ⟨_, hyl, y1, y2, y3, y4, ⟨A8, c8, y8⟩, A9, c9, y9⟩ := HD.out.rcells HFL.out
        haveI : SzGe (bx + 1) WD := ⟨lt_blk hbx⟩
        haveI : SzGe (p9 + 1) WD := ⟨lt_blk h9⟩
        haveI : SzGe (p7 + 1) WD := ⟨lt_blk h7⟩
        haveI : SzGe (y + 1) WD := ⟨hyl⟩
        clear hbx h9 h7 hyl
        have HGD := hidp (HG.out.plus HD.out.low)
        have HEQ : ∀ (w : World) (d : Nat), (Op.equalIn (d + 3) 59 (.agg #[.int .i64 xw, .int .i64 xc, .int .i64 xs, .int .i64 xq, .string xd, .bool xg]) (.agg #[.int .i64 xw, .int .i64 xc, .int .i64 xs, .int .i64 xq, .string xd, .bool xg])).run Tryz.prog w = .ok true w := fun w d => by rw [eqVerB]; simp
        simp only [List.append]
        go_region_held3 (fun X : World => X.cell? ⟨p7, 0, none⟩ = some (.int .i64 xw) ∧ X.cell? ⟨p7, 1, none⟩ = some (.int .i64 xc) ∧ X.cell? ⟨p7, 2, none⟩ = some (.int .i64 xs) ∧ X.cell? ⟨p7, 3, none⟩ = some (.int .i64 xq) ∧ X.cell? ⟨p7, 4, none⟩ = some (.string xd) ∧ X.cell? ⟨p7, 5, none⟩ = some (.bool xg) ∧ X.cell? ⟨p9, 0, none⟩ = some (.int .i64 xw) ∧ X.cell? ⟨p9, 1, none⟩ = some (.int .i64 xc) ∧ X.cell? ⟨p9, 2, none⟩ = some (.int .i64 xs) ∧ X.cell? ⟨p9, 3, none⟩ = some (.int .i64 xq) ∧ X.cell? ⟨p9, 4, none⟩ = some (.string xd) ∧ X.cell? ⟨p9, 5, none⟩ = some (.bool xg) ∧ X.cell? ⟨bx, 1, none⟩ = some (.int .i64 nn) ∧ X.cell? ⟨bx, 2, none⟩ = some (.int .i64 a0) ∧ X.cell? ⟨bx, 3, none⟩ = some (.int .i64 a1) ∧ X.cell? ⟨bx, 4, none⟩ = some (.int .i64 a2) ∧ X.cell? ⟨bx, 5, none⟩ = some (.int .i64 a3) ∧ X.cell? ⟨y, 1, none⟩ = some (.int .i64 s.p0) ∧ X.cell? ⟨y, 2, none⟩ = some (.int .i64 s.p1) ∧ X.cell? ⟨y, 3, none⟩ = some (.int .i64 s.p2) ∧ X.cell? ⟨y, 4, none⟩ = some (.int .i64 s.p3) ∧ X.cell? ⟨y, 8, none⟩ = some (.slice A8 s.wn c8) ∧ X.cell? ⟨y, 9, none⟩ = some (.slice A9 r.L.length c9)) ((repeat' apply And.intro) <;> simp [go_sem, *]) (first
          | (go_at_call 12; refine (bareL_any z _ (HGD.out.plus (by repeat (first | exact Below.refl _ _ | refine blw_alloc ?_ | refine blw_plus ?_ | refine Below.drew ?_)))).mono ?_; rintro e w' ⟨rfl, hb⟩; obtain ⟨x, rfl⟩ := wplus_of_below hb; clear hb)
          | (go_at_call 26; refine ((HD.out.below (by repeat (first | exact Below.refl _ _ | refine blw_alloc ?_ | refine blw_plus ?_ | refine Below.drew ?_))).applied).mono ?_; rintro e w' ⟨rfl, hb⟩; obtain ⟨x, rfl⟩ := wplus_of_below hb; clear hb)
          | (go_at_call 27; refine ((HD.out.below (by repeat (first | exact Below.refl _ _ | refine blw_alloc ?_ | refine blw_plus ?_ | refine Below.drew ?_))).waits).mono ?_; rintro e w' ⟨rfl, hb⟩; obtain ⟨x, rfl⟩ := wplus_of_below hb; clear hb)
          | (go_at_call 28; refine ((HD.out.below (by repeat (first | exact Below.refl _ _ | refine blw_alloc ?_ | refine blw_plus ?_ | refine Below.drew ?_))).stable nn).mono ?_; rintro e w' ⟨rfl, hb⟩; obtain ⟨x, rfl⟩ := wplus_of_below hb; clear hb)
          | (go_at_call 29; refine ((HD.out.below (by repeat (first | exact Below.refl _ _ | refine blw_alloc ?_ | refine blw_plus ?_ | refine Below.drew ?_))).rstable HFL.out nn).mono ?_; rintro e w' ⟨rfl, hb⟩; obtain ⟨x, rfl⟩ := wplus_of_below hb; clear hb)
          | (go_at_call 30; refine ((HD.out.below (by repeat (first | exact Below.refl _ _ | refine blw_alloc ?_ | refine blw_plus ?_ | refine Below.drew ?_))).many HFL.out).mono ?_; rintro e w' ⟨rfl, hb⟩; obtain ⟨x, rfl⟩ := wplus_of_below hb; clear hb)
          | (go_at_call 32; refine ((HD.out.below (by repeat (first | exact Below.refl _ _ | refine blw_alloc ?_ | refine blw_plus ?_ | refine Below.drew ?_))).all HFL.out).mono ?_; rintro e w' ⟨A1, c1, rfl, hts, hb⟩; have HTS1 := hidp hts; clear hts; obtain ⟨x, rfl⟩ := wplus_of_below hb; clear hb)
          | (go_at_call 33; refine ((HD.out.below (by repeat (first | exact Below.refl _ _ | refine blw_alloc ?_ | refine blw_plus ?_ | refine Below.drew ?_))).told HFL.out).mono ?_; rintro e w' ⟨A2, c2, rfl, hts, hb⟩; have HTS2 := hidp hts; clear hts; have HTS3 := hidp (HTS1.out.below hb); obtain ⟨x, rfl⟩ := wplus_of_below hb; clear hb)
          | (go_at_call 31; refine (sameTexts_any A1 A2 c1 c2 _ _ HTS3.out HTS2.out (toldT_len _ _)).mono ?_; rintro e w' ⟨rfl, hb⟩; obtain ⟨x, rfl⟩ := wplus_of_below hb; clear hb)
          | (go_at_call 35; refine ((HD.out.below (by repeat (first | exact Below.refl _ _ | refine blw_alloc ?_ | refine blw_plus ?_ | refine Below.drew ?_))).missing HFL.out a0 a1 a2 a3).mono ?_; rintro e w' ⟨A3, c3, os3, rfl, ho3, hts, hb⟩; have HM1 := hidp hts; have HM1e := hidp ho3; clear hts ho3; obtain ⟨x, rfl⟩ := wplus_of_below hb; clear hb)
          | (go_at_call 36; refine ((HD.out.below (by repeat (first | exact Below.refl _ _ | refine blw_alloc ?_ | refine blw_plus ?_ | refine Below.drew ?_))).rmissing HFL.out a0 a1 a2 a3).mono ?_; rintro e w' ⟨A4, c4, os4, rfl, ho4, hts, hb⟩; have HM2 := hidp hts; have HM2e := hidp ho4; clear hts ho4; have HM3 := hidp (HM1.out.below hb); obtain ⟨x, rfl⟩ := wplus_of_below hb; clear hb)
          | (go_at_call 34; refine (sameTxs_of HFL.out HM1e.out HM2e.out HM3.out HM2.out).mono ?_; rintro e w' ⟨rfl, hb⟩; obtain ⟨x, rfl⟩ := wplus_of_below hb; clear hb)
          | fail)
        all_goals
          go_wp2_with fail
          go_roundw
          case rel => exact ⟨j + 1, s, r, _, by go_num, by omega, HFL.out, by have := HWN.out; omega, HD.out.below (by repeat (first | exact Below.refl _ _ | refine blw_alloc ?_ | refine blw_plus ?_ | refine Below.drew ?_))⟩
          case measure => simp [intOf]; omega
    · obtain rfl : j = ls.length := by omega
      have hjd : decide ((ls.length : Int) < (ls.length : Int)) = false := decide_eq_false (by omega)
      go_wp2_with fail
      go_ret
      exact ⟨rfl, HT0.out.low.trans (Below.mono (B := wr.heap.size) (by repeat (first | exact Below.refl _ _ | refine blw_alloc ?_ | refine blw_plus ?_ | refine Below.drew ?_)) HT0.out.low.size)⟩
end Go.Proofs.YtbopfhbeegkkaabGreatDoor
