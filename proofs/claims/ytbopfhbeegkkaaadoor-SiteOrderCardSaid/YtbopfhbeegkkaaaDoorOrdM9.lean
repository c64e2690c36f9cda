/- The law SiteOrder returns true at every slice of says, every integer and every slice of integers, and leaves what it was given as it was. No condition of ours; the listed variable errors.errorType is tied to the program's text. -/
import Derived.Test.YtbopfhbeegkkaaaDoorOrdM8
import Derived.RegionTactic
import Derived.Deep.RegionHeld3
import Derived.Deep.DeepCutAuto
import Derived.Test.YtbopfhbeegkkaaaDoorCards
import Derived.Test.YtbopfhbeegkkaaaDoorTie
import Derived.Deep.DeepHandedRow
import Derived.LaidHandle
import Derived.LaidLaws
import Derived.SevenTiedAt
import Derived.Stop.Joined
namespace Go.Proofs.YtbopfhbeegkkaaaDoor
open Go.RowKit

theorem EType.low {w w' : World} (h : EType w) (hb : Below w.heap.size w w') : EType w' := by
  unfold EType at *
  rw [hb.cell (p := ⟨0, 0, none⟩) (World.block_lt_of_cell? w _ h)]
  exact h
/-- what is left: its place -/
def kOf (ord : List Int) (L : Nat) (i : Nat) : Nat := if ord.length = 0 then L - 1 else pickN (ord.getD (i % ord.length) 0) L
def lenOf' : Value → Nat | .slice _ n _ => n | _ => 0
theorem LS.site {n B i : Nat} {W0 W : World} {M : Nat → SiM} {all : List TxP} {T : Nat → List TxP} (h : LS n B W0 W M all T) (hi : i < n) : SiAt W B (M i).x (M i).s (M i).mb (M i).lv (M i).sv := h.sites.here i hi

set_option maxRecDepth 20000 in
set_option maxHeartbeats 32000000 in
theorem siteOrder_any (A : Option Addr) (c : Nat) (ls : List SayP) (n : Int) (Bo : Option Addr) (cb : Nat) (ord : List Int) (w : World) (hg : EType w) (hls : SaysAt w A ls) (hll : ls.length ≤ maxLen) (hor : IntsAt w Bo ord) (hol : ord.length ≤ maxLen) :
    Calls Tryd.prog 8 #[.slice A ls.length c, .int .i64 n, .slice Bo ord.length cb] w fun e w' => e = .returned (.bool true) ∧ Below w.heap.size w w' := by
  have HG := hidp hg
  have HLS := hidp hls
  have HOR := hidp hor
  clear hg hls hor hll hol
  by_cases h30 : 30 < ls.length
  · have hd0 : decide ((30 : Int) < (ls.length : Int)) = true := decide_eq_true (by omega)
    go_enter Tryd.func8, Tryd.ntmps8
    go_wp2_with fail
    go_ret
    exact ⟨rfl, (by repeat (first | exact Below.refl _ _ | refine blw_alloc ?_ | refine blw_plus ?_ | refine Below.drew ?_))⟩
  have hd0 : decide ((30 : Int) < (ls.length : Int)) = false := decide_eq_false (by omega)
  by_cases h100 : 100 < ord.length
  · have hd1 : decide ((100 : Int) < (ord.length : Int)) = true := decide_eq_true (by omega)
    go_enter Tryd.func8, Tryd.ntmps8
    go_wp2_with fail
    go_ret
    exact ⟨rfl, (by repeat (first | exact Below.refl _ _ | refine blw_alloc ?_ | refine blw_plus ?_ | refine Below.drew ?_))⟩
  have hd1 : decide ((100 : Int) < (ord.length : Int)) = false := decide_eq_false (by omega)
  go_enter Tryd.func8, Tryd.ntmps8
  go_wp2_with fail
  go_loopw [7] (fun i W => ∃ j : Nat, i = .int .i64 j ∧ j ≤ ls.length ∧ w = W ∧ Hid (∀ x ∈ ls.take j, x.ws.length ≤ 8)) (fun i _ => ls.length - (intOf i).toNat)
  case atStart => exact ⟨0, rfl, Nat.zero_le _, rfl, hidp (fun x hx => by simp at hx)⟩
  case round =>
    obtain ⟨j, rfl, hj, rfl, HW8⟩ := hrel
    by_cases hjl : j < ls.length
    · have hjd : decide ((j : Int) < (ls.length : Int)) = true := decide_eq_true (by omega)
      obtain ⟨b, o, rfl, hb0, d0, d1, d2, d3, _, _⟩ := HLS.out j ls[j] (List.getElem?_eq_getElem hjl)
      have HTJ := hidp (take_snoc (List.getElem?_eq_getElem hjl))
      generalize ls[j] = xs at *
      haveI : SzGe (b + 1) w := ⟨hb0⟩
      by_cases h8 : 8 < xs.ws.length
      · have hd8 : decide ((8 : Int) < (xs.ws.length : Int)) = true := decide_eq_true (by omega)
        go_wp2_with fail
        go_ret
        exact ⟨rfl, (by repeat (first | exact Below.refl _ _ | refine blw_alloc ?_ | refine blw_plus ?_ | refine Below.drew ?_))⟩
      · have hd8 : decide ((8 : Int) < (xs.ws.length : Int)) = false := decide_eq_false (by omega)
        go_wp2_with fail
        go_roundw
        case rel =>
          refine ⟨j + 1, by go_num, by omega, (by first | exact rfl | exact True.intro), hidp (fun x hx => ?_)⟩
          rw [HTJ.out] at hx
          rcases List.mem_append.1 hx with e | e
          · exact HW8.out x e
          · obtain rfl : x = xs := by simpa using e
            omega
        case measure => simp [intOf]; omega
    · obtain rfl : j = ls.length := by omega
      have hjd : decide ((ls.length : Int) < (ls.length : Int)) = false := decide_eq_false (by omega)
      have HW : Hid (∀ x ∈ ls, x.ws.length ≤ 8) := hidp (by have := HW8.out; rwa [List.take_length] at this)
      clear HW8
      go_wp2_with fail
      go_at_call 45
      refine (placed_any w).mono ?_
      rintro e W1 ⟨rfl, hb1⟩
      have HB1 := hidp hb1
      clear hb1
      go_wp2_with fail
      go_at_call 32
      refine (pick_is n 3 _ (by omega) (by omega)).mono ?_
      rintro e Wp ⟨rfl, rfl⟩
      have hsn := pickN_lt n (n := 3) (by omega)
      generalize pickN n 3 = sn at *
      go_wp2_with fail
      go_at_call 46
      refine (told_any A c ls (1 + sn) W1 (HLS.out.below HB1.out) (by omega) HW.out (by omega) (by omega)).mono ?_
      rintro e W0 ⟨Aa, ca, all, rfl, hlen, hgood, hst, hxs, hws, hb⟩
      have HGD := hidp hgood
      have HST : Hid (∀ m ∈ all, m.t.site ≠ 3) := hidp (fun m hm => by have := hst m hm; omega)
      have HXS := hidp hxs
      have HWS := hidp hws
      have HB0 := hidp (HB1.out.trans (hb.mono HB1.out.size))
      have HE0 := hidp (HG.out.low HB0.out)
      have hsz0 := HB0.out.size
      clear hgood hst hxs hws hb HB1
      go_wp2_with fail
      go_at_call 47
      refine (new_any 3 W0 ⟨by omega, by omega⟩).mono ?_
      rintro e Wa ⟨rfl, hat, hb⟩
      have HL1 : Hid (LS 1 W0.heap.size W0 Wa (mUpd (fun _ => ⟨0, 0, siNew 0, .slice none 0 0, fun _ => .slice none 0 0⟩) 0 ⟨W0.heap.size + 1, W0.heap.size, siNew 3, .slice none 0 0, fun _ => .slice none 0 0⟩) (all.map (·.t)) (two [] [])) :=
        hidp (LS.fresh (⟨Sites.zero _ _ _, fun i hi => by omega, Below.refl _ _⟩ : LS 0 W0.heap.size W0 W0 _ (all.map (·.t)) (two [] [])) HGD.out rfl (Nat.le_refl _) hb hat)
      have hsza := hb.size
      clear hat hb
      go_wp2_with fail
      go_at_call 47
      refine (new_any 3 Wa ⟨by omega, by omega⟩).mono ?_
      rintro e Wb ⟨rfl, hat, hb⟩
      have HL2 := hidp (HL1.out.fresh HGD.out rfl hsza hb hat)
      clear hat hb HL1
      obtain ⟨M, hlm, hx0, hx1⟩ : ∃ M, LS 2 W0.heap.size W0 Wb M (all.map (·.t)) (two [] []) ∧ (M 0).x = W0.heap.size + 1 ∧ (M 1).x = Wa.heap.size + 1 := ⟨_, HL2.out, rfl, rfl⟩
      clear HL2
      generalize W0.heap.size + 1 = xa at *
      generalize Wa.heap.size + 1 = xb at *
      have HLM := hidp hlm
      have HX0 := hidp hx0
      have HX1 := hidp hx1
      clear hlm hx0 hx1 hsza
      go_wp2_with fail
      go_loopw [14] (fun i W => ∃ (j : Nat) (M' : Nat → SiM), i = .int .i64 j ∧ j ≤ all.length ∧ LS 2 W0.heap.size W0 W M' (all.map (·.t)) (two ((all.take j).map (·.t)) []) ∧ Hid ((M' 0).x = xa ∧ (M' 1).x = xb)) (fun i _ => all.length - (intOf i).toNat)
      case atStart => exact ⟨0, M, rfl, Nat.zero_le _, HLM.out, hidp ⟨HX0.out, HX1.out⟩⟩
      case round =>
        clear HLM HX0 HX1
        obtain ⟨j, M1, rfl, hj, hl, HX⟩ := hrel
        obtain ⟨W, rfl⟩ : ∃ W : World, W = wr := ⟨_, rfl⟩
        have HL := hidp hl
        clear hl
        by_cases hjl : j < all.length
        · have hjd : decide ((j : Int) < (all.length : Int)) = true := decide_eq_true (by omega)
          have hm : all[j]? = some all[j] := List.getElem?_eq_getElem hjl
          obtain ⟨gb, go, rfl, hgb, k0, k1, k2, k3, k4, k5, k6, k7, k8⟩ := (HXS.out.below HL.out.low) j _ hm
          have HTK := hidp fun (X : World) (h : LS 2 W0.heap.size W0 X M1 (all.map (·.t)) (two ((all.take j).map (·.t)) [])) => h.take (i := 0) (by omega) HGD.out (by rw [List.length_map]; omega) rfl (m := all[j]) (List.mem_map_of_mem (List.getElem_mem hjl)) (HST.out _ (List.getElem_mem hjl)) (by show all[j].t ∉ _; exact taken_fresh HGD.out hm) (by show ((all.take j).map (·.t)).length < 40; rw [List.length_map, List.length_take]; omega) (HWS.out _ (List.getElem_mem hjl))
          rw [HX.out.1, two_upd0, ← takes_succ hm] at HTK
          clear hm
          generalize all[j] = m at *
          obtain ⟨⟨msite, mseq, mwall, mcount, md0, md1, md2, md3, mws⟩, mA, mc⟩ := m
          simp only [MTx.val] at k0 k1 k2 k3 k4 k5 k6 k7 k8 HTK
          haveI : SzGe (gb + 1) W := ⟨hgb⟩
          go_wp2_with fail
          go_at_call 48
          refine (HTK.out _ HL.out).mono ?_
          rintro e W2 ⟨M2, rfl, hl2, hx2, hk2⟩
          have HL2 := hidp hl2
          have HX2 : Hid ((M2 0).x = xa ∧ (M2 1).x = xb) := hidp ⟨(hx2 0).trans HX.out.1, (hx2 1).trans HX.out.2⟩
          clear hl2 hx2 hk2 k0 k1 k2 k3 k4 k5 k6 k7 k8
          go_wp2_with fail
          go_roundw
          case rel => exact ⟨j + 1, M2, by go_num, by omega, HL2.out, HX2⟩
          case measure => simp [intOf]; omega
        · obtain rfl : j = all.length := by omega
          have hjd : decide ((all.length : Int) < (all.length : Int)) = false := decide_eq_false (by omega)
          rw [List.take_length] at HL
          have HXW := hidp (HXS.out.below HL.out.low)
          --MARK1
          clear HXW
          have hszw := HL.out.low.size
          go_wp2_with (at_builtin; go_must (refine wpList_append_xs _ rfl _ _ rfl W.heap.size _ 0 [] rfl (own_empty W 40 9) Aa ca all rfl (HXS.out.below (HL.out.low.trans (Below.mono (B := W.heap.size) (by repeat (first | exact Below.refl _ _ | refine blw_alloc ?_ | refine blw_plus ?_ | refine Below.drew ?_)) hszw))) (by omega) (by simp) rfl ?_))
          intro Al cl w2 hown hgrow hat
          have HB2 : Hid (Below W.heap.size W w2) := hidp (Below.grown (blw_alloc (Below.refl _ _)) hgrow (by simp) (fun b e => by simp [Value.ownBlock] at e; omega))
          have HL2 := hidp (HL.out.below hszw HB2.out)
          have HLF : Hid (LfAt 2 M1 w2 Al all) := hidp ⟨own_xs hown, fun b o e => by
            obtain ⟨h1, h2⟩ := own_ge hown (show (Value.slice Al all.length cl).ownBlock = some b by rw [e]; rfl)
            exact ⟨h2, HL.out.sites.off (.inl h1)⟩⟩
          have hcl := own_cap hown
          have HLI := hidp (LeftInv.start HGD.out)
          clear hown hgrow hat HL
          go_wp2_with fail
          go_loopw [15, 16] (fun lv i W => ∃ (L : List MTx) (T1 : List TxP) (M' : Nat → SiM) (Al : Option Addr) (cl : Nat), lv = .slice Al L.length cl ∧ i = .int .i64 (T1.length : Nat) ∧ L.length ≤ cl ∧ LS 2 W0.heap.size W0 W M' (all.map (·.t)) (two (all.map (·.t)) T1) ∧ Hid ((M' 0).x = xa ∧ (M' 1).x = xb) ∧ Hid (LeftInv all L T1) ∧ LfAt 2 M' W Al L) (fun lv _ _ => lenOf' lv)
          case atStart => exact ⟨all, [], M1, Al, cl, rfl, rfl, hcl, HL2.out, HX, HLI, HLF.out⟩
          case round =>
            clear HL2 HX HLI HLF hcl HB2 hszw
            obtain ⟨L, T1, M1, Al, cl, rfl, rfl, hcl, hl, HX, HLI, hlf⟩ := hrel
            obtain ⟨W, rfl⟩ : ∃ W : World, W = wr := ⟨_, rfl⟩
            have HL := hidp hl
            have HLF := hidp hlf
            have hlen2 := HLI.out.len
            have hLa : L.length ≤ 30 := by omega
            have hTa : T1.length ≤ 30 := by omega
            clear hl hlf hlen2
            have hszw := HL.out.low.size
            by_cases h0 : 0 < L.length
            · have hd2 : decide ((0 : Int) < (L.length : Int)) = true := decide_eq_true (by omega)
              go_upto_if 107 with fail
              go_cut [17] (fun s17 W' => ∃ k : Nat, s17 = .int .i64 (k : Nat) ∧ k < L.length ∧ W = W')
              case first =>
                by_cases ho : 0 < ord.length
                · have hdo : decide ((0 : Int) < (ord.length : Int)) = true := decide_eq_true (by omega)
                  obtain ⟨q, hq⟩ : ∃ q, T1.length % ord.length = q := ⟨_, rfl⟩
                  have hql : q < ord.length := by rw [← hq]; exact Nat.mod_lt _ (by omega)
                  have hmod : ((T1.length : Int)).tmod (ord.length : Int) = (q : Int) := by rw [← hq]; rfl
                  have hn0 : ((ord.length : Int) == 0) = false := by rw [beq_eq_false_iff_ne]; omega
                  have hn1 : ¬ ((ord.length : Int) = 0) := by omega
                  obtain ⟨ob, oo, rfl, hob, hoc⟩ := (HOR.out.below (HB0.out.trans (HL.out.low.mono hsz0))) q ord[q] (List.getElem?_eq_getElem hql)
                  generalize ord[q] = oq at *
                  haveI : SzGe (ob + 1) W := ⟨hob⟩
                  clear hq
                  go_wp2_with fail
                  go_at_call 32
                  refine (pick_is oq L.length _ (by omega) (by omega)).mono ?_
                  rintro e Wp ⟨rfl, rfl⟩
                  have hpl := pickN_lt oq (n := L.length) (by omega)
                  generalize pickN oq L.length = k at *
                  go_wp2_with fail
                  go_meet
                  exact ⟨k, rfl, hpl, rfl⟩
                · have hdo : decide ((0 : Int) < (ord.length : Int)) = false := decide_eq_false (by omega)
                  go_wp2_with fail
                  go_meet
                  refine ⟨L.length - 1, ?_, by omega, rfl⟩
                  congr 1
                  omega
              case rest =>
                obtain ⟨k, rfl, hk, rfl⟩ := hcut
                --MARK2
                have hm : L[k]? = some L[k] := List.getElem?_eq_getElem hk
                obtain ⟨lb, lo, rfl, hlb, k0, k1, k2, k3, k4, k5, k6, k7, k8⟩ := HLF.out.xs k _ hm
                have HMA := hidp (HLI.out.sub _ (List.getElem_mem hk))
                have HLN := hidp (HLI.out.step hm)
                have HTK := hidp fun (X : World) (h : LS 2 W0.heap.size W0 X M1 (all.map (·.t)) (two (all.map (·.t)) T1)) => h.take (i := 1) (by omega) HGD.out (by rw [List.length_map]; omega) rfl (m := L[k]) (List.mem_map_of_mem HMA.out) (HST.out _ HMA.out) (by show L[k].t ∉ T1; exact HLI.out.dis _ (List.getElem_mem hk)) (by show T1.length < 40; omega) (HWS.out _ HMA.out)
                have HTW := hidp fun (X : World) (M2 : Nat → SiM) (h : LS 2 W0.heap.size W0 X M2 (all.map (·.t)) (two (all.map (·.t)) (T1 ++ [L[k].t]))) (hx : (M2 1).x = xb) => hx ▸ h.twice (i := 1) (by omega) HGD.out (by rw [List.length_map]; omega) rfl (m := L[k]) (List.mem_map_of_mem HMA.out) (HST.out _ HMA.out) (by show L[k].t ∈ T1 ++ [L[k].t]; simp) (HWS.out _ HMA.out)
                rw [HX.out.2, two_upd1] at HTK
                have HLB := hidp (HL.out.below hszw (show Below W.heap.size W (W.alloc (.cells L[k].cells.toArray 40)) from blw_alloc (Below.refl _ _)))
                have HQ : Hid (Off 2 M1 W.heap.size ∧ (W.alloc (.cells L[k].cells.toArray 40)).heap[W.heap.size]? = some (.cells L[k].cells.toArray 40)) := hidp ⟨HL.out.sites.off (.inl (Nat.le_refl _)), blk_new rfl _⟩
                have HKL : Hid (L.take k ++ L.drop (k + 1) = L.take k ++ L.drop (k + 1)) := hidp rfl
                clear hm
                generalize L[k] = m at *
                obtain ⟨⟨msite, mseq, mwall, mcount, md0, md1, md2, md3, mws⟩, mA, mc⟩ := m
                simp only [MTx.val, MTx.cells] at k0 k1 k2 k3 k4 k5 k6 k7 k8 HTK HTW HLB HQ HLN
                haveI : SzGe (lb + 1) W := ⟨hlb⟩
                have hk0 : (0 : Int) ≤ (k : Int) := by omega
                have hkL : (k : Int) < (L.length : Int) := by omega
                clear HKL
                go_wp2_with fail
                go_at_call 48
                refine (HTK.out _ HLB.out).mono ?_
                rintro e W2 ⟨M2, rfl, hl2, hx2, hk2⟩
                have HL2 := hidp hl2
                have HX2 : Hid ((M2 0).x = xa ∧ (M2 1).x = xb) := hidp ⟨(hx2 0).trans HX.out.1, (hx2 1).trans HX.out.2⟩
                have HK2 := hidp ((Keep.below (n := 2) (M := M1) (show Below W.heap.size W (W.alloc (.cells #[.int .i64 msite, .int .i64 mseq, .int .i64 mwall, .int .i64 mcount, .int .i64 md0, .int .i64 md1, .int .i64 md2, .int .i64 md3, .slice mA mws.length mc] 40)) from blw_alloc (Below.refl _ _))).trans hk2)
                have HQ2 : Hid (W2.heap[W.heap.size]? = some (.cells #[.int .i64 msite, .int .i64 mseq, .int .i64 mwall, .int .i64 mcount, .int .i64 md0, .int .i64 md1, .int .i64 md2, .int .i64 md3, .slice mA mws.length mc] 40)) := hidp ((hk2.off _ HQ.out.1 (by simp)).2.trans HQ.out.2)
                clear hl2 hx2 hk2 k0 k1 k2 k3 k4 k5 k6 k7 k8 HTK HLB HQ
                have e0 := cell_blk HQ2.out 0; have e1 := cell_blk HQ2.out 1; have e2 := cell_blk HQ2.out 2; have e3 := cell_blk HQ2.out 3; have e4 := cell_blk HQ2.out 4; have e5 := cell_blk HQ2.out 5; have e6 := cell_blk HQ2.out 6; have e7 := cell_blk HQ2.out 7; have e8 := cell_blk HQ2.out 8
                simp only [List.getElem?_toArray, List.getElem?_cons_zero, List.getElem?_cons_succ] at e0 e1 e2 e3 e4 e5 e6 e7 e8
                haveI : SzGe (W.heap.size + 1) W2 := ⟨lt_blk HQ2.out⟩
                go_wp2_with fail
                go_at_call 48
                refine (HTW.out _ M2 HL2.out HX2.out.2).mono ?_
                rintro e W3 ⟨rfl, hb3⟩
                have HB3 := hidp hb3
                have HE3 := hidp (HE0.out.low (HL2.out.low.trans (hb3.mono HL2.out.low.size)))
                clear hb3 HTW e0 e1 e2 e3 e4 e5 e6 e7 e8
                go_wp2_with fail
                go_at_call 37
                refine (tell_any 9 W3 HE3.out).mono ?_
                rintro e W4 ⟨rfl, hb4⟩
                have HB4 := hidp (HB3.out.trans (hb4.mono HB3.out.size))
                have HL4 := hidp (HL2.out.below HL2.out.low.size HB4.out)
                have HLF4 := hidp ((HLF.out.keep HK2.out).keep (Keep.below (n := 2) (M := M2) HB4.out))
                have hszx := HL4.out.low.size
                have hlb4 := (HLF4.out.off lb lo rfl).1
                clear hb4 HB3 HE3 HL2 HQ2 HK2 HB4 HL HLF
                --MARK3
                go_upto_region 36 with fail
                go_cut [15] (fun s15 W' => ∃ (A5 : Option Addr) (c5 : Nat), s15 = .slice A5 (L.take k ++ L.drop (k + 1)).length c5 ∧ (L.take k ++ L.drop (k + 1)).length ≤ c5 ∧ Below W4.heap.size W4 W' ∧ LfAt 2 M2 W' A5 (L.take k ++ L.drop (k + 1)))
                case first =>
                  have HXT := hidp (HLF4.out.xs.take k)
                  have HXD := hidp (HLF4.out.xs.drop (k + 1))
                  have HLL := hidp HL4.out.sites
                  have htk : (L.take k).length = k := by simp; omega
                  have hdk : (L.drop (k + 1)).length = L.length - (k + 1) := by simp
                  have HTK := hidp htk
                  have HDK := hidp hdk
                  clear htk hdk
                  have hkc : (k : Int) ≤ (cl : Int) := by omega
                  have hk1L : (k : Int) + 1 ≤ (L.length : Int) := by omega
                  have hLc : (L.length : Int) ≤ (cl : Int) := by omega
                  have hwk : IntKind.i64.wrap ((k : Int) + 1) = (k : Int) + 1 := by rw [IntKind.wrap_i64]; omega
                  have htn : ((k : Int) + 1).toNat = k + 1 := by omega
                  have h0k : (0 : Int) ≤ (k : Int) + 1 := by omega
                  by_cases hck : cl = k + 1
                  · have HXD : Hid (XsAt W4 (some ⟨lb, lo, none⟩) (L.drop (k + 1))) := hidp (by
                      rw [show L.drop (k + 1) = [] from List.eq_nil_of_length_eq_zero (by rw [HDK.out]; omega)]
                      intro i m hm
                      simp at hm)
                    obtain rfl : cl = k + 1 := hck
                    have hkc : (k : Int) ≤ (k : Int) + 1 := by omega
                    have hLc : (L.length : Int) ≤ (k : Int) + 1 := by omega
                    go_region_law (
                      first
                        | (refine step_append_xs _ rfl _ _ rfl W4.heap.size (.slice (some ⟨W4.heap.size, 0, none⟩) 0 0) 0 [] (by simp [Act.eval, Act.put]) (by first | exact own_empty W4 40 9 | (simp; exact own_empty W4 40 9)) (some ⟨lb, lo, none⟩) (k + 1) (L.take k) (by rw [HTK.out]; simp [Act.eval, Act.put]) (HXT.out.below (by repeat (first | exact Below.refl _ _ | refine blw_alloc ?_ | refine blw_plus ?_ | refine Below.drew ?_))) (by rw [HTK.out]; omega) (by simp) rfl ?_
                           intro A6 c6 w6 hown6 hgrow6 hat6
                           have HO6 := hidp hown6
                           have HB6 : Hid (Below W4.heap.size W4 w6) := hidp (Below.grown (by repeat (first | exact Below.refl _ _ | refine blw_alloc ?_ | refine blw_plus ?_ | refine Below.drew ?_)) hgrow6 (by simp) (fun b e => by simp [Value.ownBlock] at e; omega))
                           clear hown6 hgrow6 hat6)
                        | (refine step_append_xs _ rfl _ _ rfl W4.heap.size (.slice A6 ([] ++ L.take k).length c6) _ ([] ++ L.take k) (by simp [Act.eval, Act.put]) HO6.out (some ⟨lb, lo, none⟩) ((k + 1) - (k + 1)) (L.drop (k + 1)) (by rw [HDK.out]; simp [Act.eval, Act.put] <;> omega) (HXD.out.below HB6.out) (by rw [HDK.out, List.nil_append, HTK.out]; omega) HB6.out.size rfl ?_
                           intro A7 c7 w7 hown7 hgrow7 hat7
                           have HO7 := hidp hown7
                           have HB7 : Hid (Below W4.heap.size W4 w7) := hidp (Below.grown HB6.out hgrow7 HB6.out.size (fun b e => (own_ge HO6.out e).1))
                           clear hown7 hgrow7 hat7))
                    all_goals
                      go_wp2_with fail
                      go_meet
                      have ho := HO7.out
                      rw [List.nil_append] at ho
                      exact ⟨A7, c7, (by simp <;> omega), own_cap ho, HB7.out, own_xs ho, fun b o e => by
                        obtain ⟨h1, h2⟩ := own_ge ho (show (Value.slice A7 (L.take k ++ L.drop (k + 1)).length c7).ownBlock = some b by rw [e]; rfl)
                        exact ⟨h2, HLL.out.off (.inl h1)⟩⟩
                  ·
                    go_region_law (
                      first
                        | (refine step_append_xs _ rfl _ _ rfl W4.heap.size (.slice (some ⟨W4.heap.size, 0, none⟩) 0 0) 0 [] (by simp [Act.eval, Act.put]) (by first | exact own_empty W4 40 9 | (simp; exact own_empty W4 40 9)) (some ⟨lb, lo, none⟩) cl (L.take k) (by rw [HTK.out]; simp [Act.eval, Act.put]) (HXT.out.below (by repeat (first | exact Below.refl _ _ | refine blw_alloc ?_ | refine blw_plus ?_ | refine Below.drew ?_))) (by rw [HTK.out]; omega) (by simp) rfl ?_
                           intro A6 c6 w6 hown6 hgrow6 hat6
                           have HO6 := hidp hown6
                           have HB6 : Hid (Below W4.heap.size W4 w6) := hidp (Below.grown (by repeat (first | exact Below.refl _ _ | refine blw_alloc ?_ | refine blw_plus ?_ | refine Below.drew ?_)) hgrow6 (by simp) (fun b e => by simp [Value.ownBlock] at e; omega))
                           clear hown6 hgrow6 hat6)
                        | (refine step_append_xs _ rfl _ _ rfl W4.heap.size (.slice A6 ([] ++ L.take k).length c6) _ ([] ++ L.take k) (by simp [Act.eval, Act.put]) HO6.out (some ⟨lb, lo + (k + 1) * 9, none⟩) (cl - (k + 1)) (L.drop (k + 1)) (by rw [HDK.out]; simp [Act.eval, Act.put] <;> omega) (HXD.out.below HB6.out) (by rw [HDK.out, List.nil_append, HTK.out]; omega) HB6.out.size rfl ?_
                           intro A7 c7 w7 hown7 hgrow7 hat7
                           have HO7 := hidp hown7
                           have HB7 : Hid (Below W4.heap.size W4 w7) := hidp (Below.grown HB6.out hgrow7 HB6.out.size (fun b e => (own_ge HO6.out e).1))
                           clear hown7 hgrow7 hat7))
                    all_goals
                      go_wp2_with fail
                      go_meet
                      have ho := HO7.out
                      rw [List.nil_append] at ho
                      exact ⟨A7, c7, (by simp <;> omega), own_cap ho, HB7.out, own_xs ho, fun b o e => by
                        obtain ⟨h1, h2⟩ := own_ge ho (show (Value.slice A7 (L.take k ++ L.drop (k + 1)).length c7).ownBlock = some b by rw [e]; rfl)
                        exact ⟨h2, HLL.out.off (.inl h1)⟩⟩
                case rest =>
                  obtain ⟨A5, c5, rfl, hc5, hb5, hlf5⟩ := hcut
                  obtain ⟨W5, rfl⟩ : ∃ W5 : World, W5 = wc := ⟨_, rfl⟩
                  have HL5 := hidp (HL4.out.below hszx hb5)
                  have HLF5 := hidp hlf5
                  have HC5 := hidp hc5
                  have hsz5 := hb5.size
                  have HLL : Hid ((L.take k ++ L.drop (k + 1)).length + 1 = L.length) := hidp (by simp; omega)
                  have HAP := hidp (applied_any _ _ _ _ _ _ W5 (HL5.out.site (i := 1) (by omega)))
                  rw [HX2.out.2] at HAP
                  have HCLO := hidp fun t ht hq => (HL5.out.seen 1 (by omega)).si.closed (t := t) ht hq
                  obtain ⟨s2, hs2⟩ : ∃ s2, (M2 1).s = s2 := ⟨_, rfl⟩
                  rw [hs2] at HAP HCLO
                  clear hc5 hb5 hlf5 HL4 HLF4 hs2 hcl hkL hk0 hk hLa h0 hd2
                  generalize (L.take k ++ L.drop (k + 1)) = L5 at *
                  --MARK4
                  go_wp2_with fail
                  go_at_call 49
                  refine HAP.out.mono ?_
                  rintro e W6 ⟨rfl, hb6⟩
                  have HL6 := hidp (HL5.out.below HL5.out.low.size hb6)
                  have HLF6 := hidp (HLF5.out.keep (Keep.below (n := 2) (M := M2) hb6))
                  obtain ⟨_, _, _, _, _, _, _, _, _, _, _, _⟩ := s2
                  rename_i z0 z1 z2 z3 z4 z5 z6 z7 z8 z9 z10 z11
                  simp only at HCLO
                  clear HAP hb6 HL5 HLF5
                  go_wp2_with fail
                  have HBX : Hid ((W6.alloc (.cells #[.int .i64 z1, .int .i64 z2, .int .i64 z3, .int .i64 z4] 37)).heap[W6.heap.size]? = some (.cells #[.int .i64 z1, .int .i64 z2, .int .i64 z3, .int .i64 z4] 37)) := hidp (blk_new rfl _)
                  have hb7 : Below W6.heap.size W6 (W6.alloc (.cells #[.int .i64 z1, .int .i64 z2, .int .i64 z3, .int .i64 z4] 37)) := blw_alloc (Below.refl _ _)
                  have HL7 := hidp (HL6.out.below HL6.out.low.size hb7)
                  have HLF7 := hidp (HLF6.out.keep (Keep.below (n := 2) (M := M2) hb7))
                  clear hb7 HL6 HLF6
                  generalize W6.alloc (.cells #[.int .i64 z1, .int .i64 z2, .int .i64 z3, .int .i64 z4] 37) = W7 at *
                  have HZ7 := hidp HL7.out.low.size
                  go_loopw [21] (fun i W' => ∃ j : Nat, i = .int .i64 j ∧ j ≤ all.length ∧ Below W7.heap.size W7 W') (fun i _ => all.length - (intOf i).toNat)
                  case atStart => exact ⟨0, rfl, Nat.zero_le _, Below.refl _ _⟩
                  case round =>
                    obtain ⟨j, rfl, hj, hbj⟩ := hrel
                    obtain ⟨V, rfl⟩ : ∃ V : World, V = wr := ⟨_, rfl⟩
                    have HBJ := hidp hbj
                    clear hbj
                    by_cases hjl : j < all.length
                    · have hjd : decide ((j : Int) < (all.length : Int)) = true := decide_eq_true (by omega)
                      obtain ⟨gb, go, rfl, hgb, k0, k1, k2, k3, k4, k5, k6, k7, k8⟩ := (HXS.out.below (HL7.out.low.trans (HBJ.out.mono HZ7.out))) j all[j] (List.getElem?_eq_getElem hjl)
                      have HMT := hidp (List.mem_map_of_mem (f := fun m : MTx => m.t) (List.getElem_mem hjl))
                      generalize all[j] = m2 at *
                      obtain ⟨⟨nsite, nseq, nwall, ncount, nd0, nd1, nd2, nd3, nws⟩, nA, nc⟩ := m2
                      simp only at k0 k1 k2 k3 k4 k5 k6 k7 k8 HMT
                      obtain ⟨hs1, _⟩ := rightTx_head (HGD.out.right _ HMT.out)
                      simp only at hs1
                      obtain ⟨st, rfl⟩ := Int.eq_ofNat_of_zero_le hs1.1
                      have hst4 : st < 4 := by omega
                      have hbx : V.heap[W6.heap.size]? = some (.cells #[.int .i64 z1, .int .i64 z2, .int .i64 z3, .int .i64 z4] 37) := (HBJ.out.block _ (lt_blk HBX.out)).trans HBX.out
                      have hat := at_cell hbx hst4
                      have e0 := cell_blk hbx 0; have e1 := cell_blk hbx 1; have e2 := cell_blk hbx 2; have e3 := cell_blk hbx 3
                      simp only [List.getElem?_toArray, List.getElem?_cons_zero, List.getElem?_cons_succ] at e0 e1 e2 e3
                      have hclo := HCLO.out _ HMT.out
                      simp only [SiP.at] at hclo
                      obtain ⟨aS, haS⟩ : ∃ aS, atV z1 z2 z3 z4 (st : Int) = aS := ⟨_, rfl⟩
                      rw [haS] at hat hclo
                      haveI : SzGe (gb + 1) V := ⟨hgb⟩
                      haveI : SzGe (W6.heap.size + 1) V := ⟨lt_blk hbx⟩
                      have hk0 : (0 : Int) ≤ (st : Int) := by omega
                      have hk4 : (st : Int) < 4 := by omega
                      clear haS hbx hs1 HMT
                      by_cases hq : nseq ≤ aS
                      · have hdq : decide (nseq ≤ aS) = true := decide_eq_true hq
                        have HCV := hidp fun X => covers_is (hclo hq) X
                        clear hclo hq
                        go_wp2_with fail
                        refine wp_region_plus (by kernel_rfl) (by kernel_rfl) ?_
                        repeat (first | go_big_quiet_skip | (go_big_quiet_want; go_big_quiet_op; first | go_big_quiet_on | (apply Exists.intro; refine ⟨fun _ => ?_, ?_⟩; (go_at_call 50; exact Calls.plus_of (HCV.out _)); go_big_quiet_on)))
                        refine wpQuiet_nil ?_
                        rintro _ ⟨x3, rfl⟩
                        go_wp2_with fail
                        go_roundw
                        case rel => exact ⟨j + 1, by go_num, by omega, HBJ.out.trans ((below_wplus _ _).mono HBJ.out.size)⟩
                        case measure => simp [intOf]; omega
                      · have hdq : decide (nseq ≤ aS) = false := decide_eq_false hq
                        clear hclo hq
                        go_wp2_with fail
                        refine wp_region_plus (by kernel_rfl) (by kernel_rfl) ?_
                        repeat (first | go_big_quiet_skip | (go_big_quiet_want; go_big_quiet_op; go_big_quiet_on))
                        refine wpQuiet_nil ?_
                        rintro _ ⟨x3, rfl⟩
                        go_wp2_with fail
                        go_roundw
                        case rel => exact ⟨j + 1, by go_num, by omega, HBJ.out.trans ((below_wplus _ _).mono HBJ.out.size)⟩
                        case measure => simp [intOf]; omega
                    · obtain rfl : j = all.length := by omega
                      have hjd : decide ((all.length : Int) < (all.length : Int)) = false := decide_eq_false (by omega)
                      have HL8 := hidp (HL7.out.below HZ7.out HBJ.out)
                      have HLF8 := hidp (HLF7.out.keep (Keep.below (n := 2) (M := M2) HBJ.out))
                      clear HL7 HLF7 HBX
                      go_wp2_with fail
                      go_roundw
                      case rel => exact ⟨L5, _, M2, A5, c5, rfl, by rw [List.length_append, List.length_singleton]; go_num, HC5.out, HL8.out, HX2, HLN, HLF8.out⟩
                      case measure =>
                        have := HLL.out
                        simp [lenOf']
                        omega
            · obtain rfl : L = [] := List.eq_nil_of_length_eq_zero (by omega)
              --MARK9
              have HDN := hidp HLI.out.done
              have S0 := HL.out.seen 0 (by omega)
              have S1 := HL.out.seen 1 (by omega)
              have hsame := S0.same HGD.out (fun t ht => ht) S1 HDN.out
              have htold := Seen.told HGD.out S0 (fun t ht => ht) S1 HDN.out
              have hwh := S1.whole HGD.out HDN.out
              have hmi := Seen.missing HGD.out S1
              obtain ⟨q0, q1, q2, q3, _⟩ := hsame
              obtain ⟨_, qw, ql, _⟩ := hwh
              rw [ql, List.length_map] at hmi
              obtain ⟨TT, hTT⟩ : ∃ TT, toldT (fun k => readR (M1 1).s.p0 (M1 1).s.p1 (M1 1).s.p2 (M1 1).s.p3 (M1 1).s.st k) 8 = TT := ⟨_, rfl⟩
              have HAL0 : Hid (∀ X, Below W.heap.size W X → Calls Tryd.prog 51 #[.pointer (some ⟨xa, 0, none⟩)] X fun e w' => ∃ A' c', e = .returned (.slice A' 8 c') ∧ TsAt w' A' TT ∧ Below X.heap.size X w') := hidp (fun X hX => by
                have h1 := siteAll_any _ _ _ _ _ _ X ((HL.out.site (i := 0) (by omega)).below hX) (S0.si.inv.fit.mono (by have := S0.si.inv.log; omega)) S0.si.inv.dat
                rw [HX.out.1, toldT_congr (fun k hk => htold k hk), hTT] at h1
                exact h1)
              have HAL1 : Hid (∀ X, Below W.heap.size W X → Calls Tryd.prog 51 #[.pointer (some ⟨xb, 0, none⟩)] X fun e w' => ∃ A' c', e = .returned (.slice A' 8 c') ∧ TsAt w' A' TT ∧ Below X.heap.size X w') := hidp (fun X hX => by
                have h1 := siteAll_any _ _ _ _ _ _ X ((HL.out.site (i := 1) (by omega)).below hX) (S1.si.inv.fit.mono (by have := S1.si.inv.log; omega)) S1.si.inv.dat
                rw [HX.out.2, hTT] at h1
                exact h1)
              have HTL : Hid (TT.length = 8) := hidp (by rw [← hTT]; exact toldT_len _ _)
              have HAP0 : Hid (∀ X, Below W.heap.size W X → Calls Tryd.prog 49 #[.pointer (some ⟨xa, 0, none⟩)] X fun e w' => e = .returned (.agg #[.int .i64 (M1 1).s.p0, .int .i64 (M1 1).s.p1, .int .i64 (M1 1).s.p2, .int .i64 (M1 1).s.p3]) ∧ Below X.heap.size X w') := hidp (fun X hX => by
                have h1 := applied_any _ _ _ _ _ _ X ((HL.out.site (i := 0) (by omega)).below hX)
                rw [HX.out.1, q0, q1, q2, q3] at h1
                exact h1)
              have HAP1 : Hid (∀ X, Below W.heap.size W X → Calls Tryd.prog 49 #[.pointer (some ⟨xb, 0, none⟩)] X fun e w' => e = .returned (.agg #[.int .i64 (M1 1).s.p0, .int .i64 (M1 1).s.p1, .int .i64 (M1 1).s.p2, .int .i64 (M1 1).s.p3]) ∧ Below X.heap.size X w') := hidp (fun X hX => by
                have h1 := applied_any _ _ _ _ _ _ X ((HL.out.site (i := 1) (by omega)).below hX)
                rw [HX.out.2] at h1
                exact h1)
              have HWT : Hid (∀ X, Below W.heap.size W X → Calls Tryd.prog 52 #[.pointer (some ⟨xb, 0, none⟩)] X fun e w' => e = .returned (.int .i64 0) ∧ Below X.heap.size X w') := hidp (fun X hX => by
                have h1 := waits_any _ _ _ _ _ _ X ((HL.out.site (i := 1) (by omega)).below hX)
                rw [HX.out.2, qw] at h1
                exact h1)
              have HMS : Hid (∀ X, Below W.heap.size W X → Calls Tryd.prog 53 #[.pointer (some ⟨xb, 0, none⟩), .agg #[.int .i64 0, .int .i64 0, .int .i64 0, .int .i64 0]] X fun e w' => ∃ A' c', e = .returned (.slice A' all.length c') ∧ Below X.heap.size X w') := hidp (fun X hX => by
                have h1 := missing_any _ _ _ _ _ _ 0 0 0 0 X ((HL.out.site (i := 1) (by omega)).below hX) (fun m hm => HGD.out.right _ (S1.si.lg m hm)) (by rw [ql, List.length_map]; omega)
                rw [HX.out.2] at h1
                have e2 : ((M1 1).s.log.filter (notHas 0 0 0 0)).length = all.length := hmi
                rw [e2] at h1
                exact h1)
              have HBF : Hid (Below w.heap.size w W) := hidp (HB0.out.trans (HL.out.low.mono hsz0))
              generalize (M1 1).s.p0 = z0 at *
              generalize (M1 1).s.p1 = z1 at *
              generalize (M1 1).s.p2 = z2 at *
              generalize (M1 1).s.p3 = z3 at *
              clear S0 S1 htold q0 q1 q2 q3 qw ql hmi hTT HLI HDN HL HLF hcl
              go_wp2_with fail
              go_at_call 51
              refine (HAL0.out _ (Below.refl _ _)).mono ?_
              rintro e Wc ⟨A6, c6, rfl, ht6, hb6⟩
              have HT6 := hidp ht6
              have HB6 := hidp hb6
              clear ht6 hb6
              go_wp2_with fail
              go_at_call 51
              refine (HAL1.out _ HB6.out).mono ?_
              rintro e Wd ⟨A7, c7, rfl, ht7, hb7⟩
              have HT7 := hidp ht7
              have HT6' := hidp (HT6.out.below hb7)
              have HB7 := hidp (HB6.out.trans (hb7.mono HB6.out.size))
              clear ht7 hb7 HT6 HB6
              go_wp2_with fail
              go_at_call 49
              refine (HAP0.out _ HB7.out).mono ?_
              rintro e We ⟨rfl, hb8⟩
              have HB8 := hidp (HB7.out.trans (hb8.mono HB7.out.size))
              have HT6 := hidp (HT6'.out.below hb8)
              have HT7' := hidp (HT7.out.below hb8)
              clear hb8 HT7 HT6' HB7
              go_wp2_with fail
              go_at_call 49
              refine (HAP1.out _ HB8.out).mono ?_
              rintro e Wf ⟨rfl, hb9⟩
              have HB9 := hidp (HB8.out.trans (hb9.mono HB8.out.size))
              have HT6' := hidp (HT6.out.below hb9)
              have HT7 := hidp (HT7'.out.below hb9)
              clear hb9 HT7' HT6 HB8
              go_wp2_with fail
              go_at_call 52
              refine (HWT.out _ HB9.out).mono ?_
              rintro e Wg ⟨rfl, hb8⟩
              have HB8 := hidp (HB9.out.trans (hb8.mono HB9.out.size))
              have HT6 := hidp (HT6'.out.below hb8)
              have HT7' := hidp (HT7.out.below hb8)
              clear hb8 HT7 HT6' HB9 HAL0 HAL1 HAP0 HAP1 HWT
              go_wp2_with fail
              go_loopw [24] (fun i W' => ∃ j : Nat, i = .int .i64 j ∧ j ≤ 8 ∧ Below Wg.heap.size Wg W') (fun i _ => 8 - (intOf i).toNat)
              case atStart => exact ⟨0, rfl, Nat.zero_le _, Below.refl _ _⟩
              case round =>
                obtain ⟨j, rfl, hj, hbj⟩ := hrel
                obtain ⟨V, rfl⟩ : ∃ V : World, V = wr := ⟨_, rfl⟩
                have HBJ := hidp hbj
                clear hbj
                by_cases hjl : j < 8
                · have hjd : decide ((j : Int) < 8) = true := decide_eq_true (by omega)
                  have htj : j < TT.length := by rw [HTL.out]; exact hjl
                  obtain ⟨b6, o6, rfl, hb6, k6⟩ := (HT6.out.below HBJ.out) j TT[j] (List.getElem?_eq_getElem htj)
                  obtain ⟨b7, o7, rfl, hb7, k7⟩ := (HT7'.out.below HBJ.out) j TT[j] (List.getElem?_eq_getElem htj)
                  generalize TT[j] = txt at *
                  haveI : SzGe (b6 + 1) V := ⟨hb6⟩
                  haveI : SzGe (b7 + 1) V := ⟨hb7⟩
                  have hj0 : (0 : Int) ≤ (j : Int) := by omega
                  have hj8 : (j : Int) < 8 := by omega
                  clear htj
                  go_wp2_with fail
                  refine wp_region_plus (by kernel_rfl) (by kernel_rfl) ?_
                  repeat (first | go_big_quiet_skip | (go_big_quiet_want; go_big_quiet_op; go_big_quiet_on))
                  refine wpQuiet_nil ?_
                  rintro _ ⟨x3, rfl⟩
                  go_wp2_with fail
                  go_roundw
                  case rel => exact ⟨j + 1, by go_num, by omega, HBJ.out.trans ((below_wplus _ _).mono HBJ.out.size)⟩
                  case measure => simp [intOf]; omega
                · obtain rfl : j = 8 := by omega
                  have hjd : decide ((8 : Int) < 8) = false := by decide
                  have HB9 := hidp (HB8.out.trans (HBJ.out.mono HB8.out.size))
                  clear HBJ
                  go_wp2_with fail
                  go_at_call 53
                  refine (HMS.out _ HB9.out).mono ?_
                  rintro e Wh ⟨A8, c8, rfl, hb8⟩
                  have HBE := hidp (HBF.out.trans ((HB9.out.trans (hb8.mono HB9.out.size)).mono HBF.out.size))
                  clear hb8
                  go_wp2_with fail
                  go_ret
                  exact ⟨rfl, HBE.out⟩

end Go.Proofs.YtbopfhbeegkkaaaDoor

namespace Go.Proofs.YtbopfhbeegkkaaaDoor.siteOrder
open Go.ChangeShapes Go.WideShapes Go.ChangeAt Go.RowKit

theorem own : ownKnob Tryd.prog.godebug = none := by kernel_rfl
theorem laidOut : laidOutB Tryd.prog = true := by kernel_rfl
theorem et : Tryd.prog.globalNamed "errors.errorType" = some 0 := by kernel_rfl
theorem rt : (Tryd.prog.cutTypes.find? (·.1 == "internal/reflectlite.rtype")).map (·.2) = some 181 := by kernel_rfl
theorem oneRow : ((List.range 223).filter fun t => Tryd.prog.rowNamed t [101, 114, 114, 111, 114]) = [28] := by kernel_rfl
theorem size : Tryd.prog.types.size = 223 := by kernel_rfl

/-- what the row's list gives: the variable's one cell -/
theorem handle_of_laid {W : World} (h : laidMetH Tryd.prog Rows.siteOrderRow.laid W) : EType W := by
  have h' : laidMet Tryd.prog [] W ∧ handlesMet Tryd.prog Rows.siteOrderRow.laid W := h
  obtain ⟨name, u, ty, e1, e2, e3, e4, e5⟩ := h'.2 _ (List.mem_singleton.2 rfl)
  have en : name = [101, 114, 114, 111, 114] := (Option.some.inj e1).symm
  subst en
  obtain rfl := Option.some.inj (rt.symm.trans e2)
  have hm : ty ∈ (List.range 223).filter fun t => Tryd.prog.rowNamed t [101, 114, 114, 111, 114] := List.mem_filter.2 ⟨List.mem_range.2 (by rw [← size]; exact e3), e4⟩
  rw [oneRow] at hm
  obtain rfl := List.mem_singleton.1 hm
  have hh : typeHandle Tryd.prog 28 = .pointer (some ⟨1, 28, none⟩) := by kernel_rfl
  rw [hh] at e5
  simpa [EType] using World.var?_cell et e5 0

/-- a world that meets the list: the settled one, the variable's cell laid -/
noncomputable def laidWorld (os : Os) : World :=
  { World.holding Tryd.prog os ⟨#[], #[], []⟩ with heap := (World.holding Tryd.prog os ⟨#[], #[], []⟩).heap.modify 0 fun
      | .cells _ t frozen => .cells #[.iface 181 (.agg #[.pointer (some ⟨1, 28, none⟩)])] t frozen
      | o => o }
theorem laid_met (os : Os) (args : Array Value) : laidMetH Tryd.prog Rows.siteOrderRow.laid ((laidWorld os).forCall (fun _ _ => 0) ⟨#[], args, []⟩).memory :=
  laidMetH_of_parts (laidMet_nil _ _) (by kernel_rfl)

set_option maxRecDepth 100000 in
theorem contract (H : Type) (enc : TypeId × Value → H) (W : World) (base : Nat) (args : Array Value) (ds gs : List (DataW H)) (before : List MemPlace)
    (hval : ∀ (j : Nat) t v, Tryd.f8.params[j]? = some t → args[j]? = some v → Value.okWide Tryd.prog W .any base t v)
    (hW : DataW.Whole enc Tryd.prog Tryd.f8.params.toList Rows.siteOrderSpec.vars false W args.toList ds gs before) (hL : laidMetH Tryd.prog Rows.siteOrderRow.laid W) :
    Calls Tryd.prog 8 args W fun e W' => ∃ v, e = .returned v ∧ Rows.siteOrderSpec.post enc Tryd.prog Tryd.f8 false true false false W args v W' := by
  have hg := handle_of_laid hL
  have hW' := hW
  obtain ⟨p, q, hA0, hV, rfl, hfz, hnd⟩ := hW
  have hA : DataW.TrodAll enc Tryd.prog W 0 (fun _ => true) true Tryd.f8.params.toList args.toList ds p := hA0
  rw [Tryd.params8] at hA hval
  obtain ⟨v0, vs0, d0, ds0, p0, q0, hargs, rfl, rfl, h0, r0⟩ := trodAll_cons hA
  obtain ⟨v1, vs1, d1, ds1, p1, q1, rfl, rfl, rfl, h1, r1⟩ := trodAll_cons r0
  obtain ⟨v2, vs2, d2, ds2, p2, q2, rfl, rfl, rfl, h2, r2⟩ := trodAll_cons r1
  obtain ⟨rfl, rfl, rfl⟩ := trodAll_nil r2
  obtain rfl : args = #[v0, v1, v2] := by cases args; simp_all
  obtain ⟨rfl, rfl⟩ := trodVars_none hV
  obtain ⟨A, c, ls, rfl, hls, hll⟩ := open_says (hval 0 94 v0 rfl rfl) h0
  obtain ⟨n, rfl, rfl, rfl, _⟩ := open_int Tryd.underlying3 (hval 1 3 v1 rfl rfl) h1
  obtain ⟨Bo, cb, ord, rfl, hor, hol⟩ := open_ints95 (hval 2 95 v2 rfl rfl) h2
  refine (siteOrder_any A c ls n Bo cb ord W hg hls hll hor hol).mono fun e W' ⟨he, hb⟩ => ?_
  subst he
  exact ⟨_, rfl, law_post laidOut (by kernel_rfl) rfl hW' hb rfl Tryd.underlying4 rfl rfl rfl⟩

theorem reads (os : Os) {H : Type} (enc : TypeId × Value → H) : DataW.whole enc Tryd.prog ((laidWorld os).forCall (fun _ _ => 0) ⟨#[], #[.slice none 0 0, .int .i64 0, .slice none 0 0], []⟩).memory Tryd.f8.params.toList Rows.siteOrderSpec.vars false (#[.slice none 0 0, .int .i64 0, .slice none 0 0] : Array Value).toList 8 = some ([.nil, .lit (.int .i64 0), .nil], [], []) :=
  by kernel_rfl

set_option maxRecDepth 100000 in
theorem lifted (os : Os) (started : os.Started) (H : Type) (enc : TypeId × Value → H) (F : Stop.Interp) :
    ReturnsInHanded {} Tryd.checked os 8 .any ((OpenSpec.ofChange Rows.siteOrderSpec).preRow enc Tryd.prog Tryd.f8 Rows.siteOrderRow.domain false Rows.siteOrderRow.laid) (((OpenSpec.ofChange Rows.siteOrderSpec).at F).post enc Tryd.prog Tryd.f8 false true false false) := by
  have hx := reads os enc
  refine returnsInHanded_of_row (C := Tryd.checked) (s := OpenSpec.ofChange Rows.siteOrderSpec) own started (by kernel_rfl) Tryd.func8
    (witness_row_at (enc := enc) (C := Tryd.checked) false (laidWorld os) #[.slice none 0 0, .int .i64 0, .slice none 0 0] rfl (by kernel_rfl) (by kernel_rfl) (by kernel_rfl)
      (OpenSpec.preRow_of_cond 8 hx rfl (fun k hk => by cases hk) (by kernel_rfl) (laid_met os _))) ?_
  intro W base args ds gs before hval hW _ _ _ hL _ _
  exact contract H enc W base args ds gs before hval hW hL

theorem said : Rows.SiteOrderSaid :=
  OpenClaim.holds_of_cond 8 Tryd.f8 rfl rfl rfl rfl rfl rfl rfl ⟨rfl, rfl, rfl, rfl, rfl⟩ rfl rfl rfl rfl rfl (by kernel_rfl) Tryd.func8 (by kernel_rfl)
    (of_decide_eq_true (by kernel_rfl)) (by unfold Func.isWrapper; first | (rw [if_pos (by decide +kernel)]; kernel_rfl) | (rw [if_neg (by decide +kernel)]; exact ⟨rfl, rfl⟩))
    (fun os started H enc _ F => by rw [OpenClaim.pre_eq_preRow]; exact lifted os started H enc F)

theorem plain (f : FuncId) (fn : Func) (hf : Tryd.pinned.checked.prog.funcNamed "copse/copsekeep.SiteOrder" = some f) (hfn : Tryd.pinned.checked.prog.funcs[f]? = some fn) :
    true = Tryd.pinned.checked.prog.looks [] ∧ ∀ (j : Nat) t, fn.params[j]? = some t → Tryd.pinned.checked.prog.wantsStandIn t = false := by
  obtain rfl : f = 8 := Option.some.inj ((show Tryd.prog.funcNamed "copse/copsekeep.SiteOrder" = some 8 by kernel_rfl).symm.trans hf) |>.symm
  obtain rfl : fn = Tryd.f8 := (Option.some.inj (Tryd.func8.symm.trans hfn)).symm
  refine ⟨by kernel_rfl, fun j t ht => ?_⟩
  rw [Tryd.params8] at ht
  have hall : ∀ t ∈ [94, 3, 95], Tryd.prog.wantsStandIn t = false := by
    intro t ht
    simp only [List.mem_cons, List.not_mem_nil, or_false] at ht
    (rcases ht with rfl | rfl | rfl) <;> kernel_rfl
  exact hall t (by have := Array.mem_of_getElem? ht; simpa using this)

theorem card : Rows.SiteOrderCardSaid :=
  Claim7.holds_tied_plain_at .later [] _ _ _ _ said (fun _ h => by cases h) (by kernel_rfl) (fun _ h => by cases h) siteOrder_row_tie rfl ⟨rfl, rfl⟩ (by kernel_rfl) rfl plain (by kernel_rfl)
end Go.Proofs.YtbopfhbeegkkaaaDoor.siteOrder
