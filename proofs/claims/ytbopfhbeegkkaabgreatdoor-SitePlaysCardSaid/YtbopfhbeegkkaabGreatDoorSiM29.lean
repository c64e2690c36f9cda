/- Part 29 of a proof: lemmas and contracts that other parts use. -/
import Derived.Test.YtbopfhbeegkkaabGreatDoorSiM28
set_option linter.unusedVariables false
set_option linter.unusedSimpArgs false
namespace Go.Proofs.YtbopfhbeegkkaabGreatDoor
open Go.RowKit

theorem eqE_iff (bw bc bs bq : Int) (bd : ByteArray) (bg : Bool) (pw pc ps pq : Int) (pd : ByteArray) (pg : Bool) :
    @decide ((⟨bw, bc, bs, bq, bd, bg⟩ : VerP) = ⟨pw, pc, ps, pq, pd, pg⟩) (Classical.propDecidable _) = (bw == pw && bc == pc && bs == ps && bq == pq && decide (bd = pd) && bg == pg) := by
  rw [Bool.eq_iff_iff]
  simp [and_assoc]

set_option maxHeartbeats 4000000 in
theorem eqVerB (w : World) (d : Nat) (xw xc xs xq : Int) (xd : ByteArray) (xg : Bool) (yw yc ys yq : Int) (yd : ByteArray) (yg : Bool) :
    (Op.equalIn (d + 3) 59 (.agg #[.int .i64 xw, .int .i64 xc, .int .i64 xs, .int .i64 xq, .string xd, .bool xg]) (.agg #[.int .i64 yw, .int .i64 yc, .int .i64 ys, .int .i64 yq, .string yd, .bool yg])).run Tryz.prog w =
      .ok (xw == yw && xc == yc && xs == ys && xq == yq && decide (xd = yd) && xg == yg) w := by
  rw [run_equalIn_agg w (d + 2) _ _ _ (by kernel_rfl) (by kernel_rfl)]
  by_cases h1 : xw = yw
  case neg => simp [go_sem, h1]
  by_cases h2 : xc = yc
  case neg => simp [go_sem, h1, h2]
  by_cases h3 : xs = ys
  case neg => simp [go_sem, h1, h2, h3]
  by_cases h4 : xq = yq
  case neg => simp [go_sem, h1, h2, h3, h4]
  by_cases h5 : xd = yd
  case neg =>
    have h6 : ¬ xd.toList = yd.toList := fun e => h5 (by
      obtain ⟨xd⟩ := xd; obtain ⟨yd⟩ := yd
      rw [ByteArray.toList_eq, ByteArray.toList_eq] at e
      exact congrArg _ (Array.toList_inj.1 e))
    simp [go_sem, h1, h2, h3, h4, h5, h6]
  subst h5
  by_cases h6 : xg = yg <;> simp [go_sem, h1, h2, h3, h4, h6]

set_option maxRecDepth 20000 in
set_option maxHeartbeats 8000000 in
theorem rSweep_any (r o B : Nat) (L : List PtP) (v0 : Value) (a0 a1 a2 a3 : Int) (w : World) (hst : RfAt w r o B L v0) (hok : ∀ p ∈ L, 0 ≤ p.v.site ∧ p.v.site < 4) (hlen : L.length ≤ 900000) (hB : B ≤ w.heap.size) :
    Calls Tryz.prog 22 #[.pointer (some ⟨r, o, none⟩), .agg #[.int .i64 a0, .int .i64 a1, .int .i64 a2, .int .i64 a3]] w fun e w' => e = .returned (.tuple #[]) ∧ ∃ v', RfAt w' r o B (rSweep a0 a1 a2 a3 L) v' ∧ RfFr w w' r o v0 v' := by
  obtain ⟨A, c, rfl⟩ := own_form hst.own
  have hlr := hst.lt
  obtain ⟨RS, hRS⟩ : ∃ RS, rSweep a0 a1 a2 a3 L = RS := ⟨_, rfl⟩
  have HRS := hidp (show L.filter (rKeep a0 a1 a2 a3 L) = RS from hRS)
  rw [hRS]
  clear hRS
  have HLS := hidp fun (key : Int) w' (hb : Below w.heap.size w w') => rLast_any r o B L (.slice A L.length c) key a0 a1 a2 a3 w' (hst.below hb) hok hlen
  have HOK := hidp hok
  have hBo : Below w.heap.size w (w.alloc (.cells #[.int .i64 a0, .int .i64 a1, .int .i64 a2, .int .i64 a3] 32)) := blw_alloc (Below.refl _ _)
  have HSO := hidp (hst.below hBo)
  have HBO := hidp hBo
  have HBX : Hid ((w.alloc (.cells #[.int .i64 a0, .int .i64 a1, .int .i64 a2, .int .i64 a3] 32)).heap[w.heap.size]? = some (.cells #[.int .i64 a0, .int .i64 a1, .int .i64 a2, .int .i64 a3] 32)) := hidp (blk_new rfl _)
  have hso : (w.alloc (.cells #[.int .i64 a0, .int .i64 a1, .int .i64 a2, .int .i64 a3] 32)).heap.size = w.heap.size + 1 := by simp
  clear hst hok hBo
  go_enter Tryz.func22, Tryz.ntmps22
  obtain ⟨hc1, hc2⟩ := HSO.out.cell
  have HPS := hidp (own_puts HSO.out.own)
  have hpO := HPS.out
  haveI : SzGe (r + 1) w := ⟨hlr⟩
  have hc1' : w.cell? ⟨r, o, none⟩ = some (.slice A L.length c) := by rw [← hc1]; exact (HBO.out.cell (p := ⟨r, o, none⟩) hlr).symm
  clear hc1 hc2 hpO
  go_wp2_with fail
  generalize w.alloc (.cells #[.int .i64 a0, .int .i64 a1, .int .i64 a2, .int .i64 a3] 32) = wo at *
  have HSZ := hidp hso
  clear hso
  obtain ⟨i0, hi0, hz0, hz1, hz2⟩ := info141
  go_loopw [4, 14] (fun o i W => ∃ (m : Nat) (outs : List PtP) (Ao : Option Addr) (co : Nat), m ≤ L.length ∧ i = .int .i64 m ∧ o = .slice Ao outs.length co ∧ outs ++ (L.drop m).filter (rKeep a0 a1 a2 a3 L) = RS ∧
    W.ownsRow wo.heap.size 166 7 (.slice Ao outs.length co) outs.length (heldRow outs) ∧ Below wo.heap.size wo W ∧ outs.length ≤ m) (fun _ i _ => L.length - (intOf i).toNat)
  case atStart => exact ⟨0, [], none, 0, Nat.zero_le _, rfl, rfl, by rw [List.drop_zero]; exact HRS.out, ⟨rfl, .inl ⟨rfl, rfl⟩⟩, Below.refl _ _, Nat.le_refl _⟩
  case round =>
    obtain ⟨m, outs, Ao, co, hlm, rfl, rfl, hkp, hown, hbl, hol⟩ := hrel
    obtain ⟨W, rfl⟩ : ∃ W : World, W = wr := ⟨_, rfl⟩
    have HOW := hidp hown
    have HBW := hidp hbl
    have HKP := hidp hkp
    clear hown hbl hkp
    by_cases hm : m < L.length
    · obtain ⟨b, o, rfl, hb, hc⟩ := HPS.out m L[m] (List.getElem?_eq_getElem hm)
      have hys := HOK.out L[m] (List.getElem_mem hm)
      have hdrop : L.drop m = L[m] :: L.drop (m + 1) := List.drop_eq_getElem_cons hm
      have hkp := HKP.out
      rw [hdrop, List.filter_cons] at hkp
      generalize L[m] = p at *
      obtain ⟨pk, ⟨pw, pc, ps, pq, pd, pg⟩⟩ := p
      simp only at hys
      obtain ⟨st, rfl⟩ := Int.eq_ofNat_of_zero_le hys.1
      have hst4 : st < 4 := by omega
      obtain ⟨d0, d1, d2, d3, d4, d5, d6⟩ := hc.below HBW.out hb
      have hbxW : W.heap[w.heap.size]? = some (.cells #[.int .i64 a0, .int .i64 a1, .int .i64 a2, .int .i64 a3] 32) := by rw [HBW.out.block _ (lt_blk HBX.out)]; exact HBX.out
      have hat := at_cell hbxW hst4
      have e0 := cell_blk hbxW 0; have e1 := cell_blk hbxW 1; have e2 := cell_blk hbxW 2; have e3 := cell_blk hbxW 3
      simp only [List.getElem?_toArray, List.getElem?_cons_zero, List.getElem?_cons_succ] at e0 e1 e2 e3
      haveI : SzGe (b + 1) W := ⟨Nat.le_trans hb HBW.out.size⟩
      haveI : SzGe (w.heap.size + 1) W := ⟨lt_blk hbxW⟩
      haveI : SzGe w.heap.size W := ⟨by have := lt_blk hbxW; omega⟩
      obtain ⟨aS, haS⟩ : ∃ aS, atV a0 a1 a2 a3 (st : Int) = aS := ⟨_, rfl⟩
      rw [haS] at hat
      have hsv2 : seenV a0 a1 a2 a3 ⟨pw, pc, (st : Int), pq, pd, pg⟩ = decide (pq ≤ aS) := by unfold seenV; rw [← haS]
      obtain ⟨⟨⟨bw, bc, bs, bq, bd, bg⟩, sm⟩, hR⟩ : ∃ R, rLast a0 a1 a2 a3 pk L = R := ⟨_, rfl⟩
      have hkeep : rKeep a0 a1 a2 a3 L (⟨pk, ⟨pw, pc, (st : Int), pq, pd, pg⟩⟩ : PtP) = (sm == false || (bw == pw && bc == pc && bs == (st : Int) && bq == pq && decide (bd = pd) && bg == pg) || !decide (pq ≤ aS)) := by
        show ((rLast a0 a1 a2 a3 pk L).2 == false || @decide ((rLast a0 a1 a2 a3 pk L).1 = ⟨pw, pc, (st : Int), pq, pd, pg⟩) (Classical.propDecidable _) || !seenV a0 a1 a2 a3 ⟨pw, pc, (st : Int), pq, pd, pg⟩) = _
        rw [hR, hsv2, eqE_iff]
      rw [hkeep] at hkp
      have HKQ := hidp hkp
      have HL := hidp fun w' (hb : Below w.heap.size w w') => HLS.out pk w' hb
      rw [hR] at HL
      unfold verV at HL
      have HBWw := hidp (HBO.out.trans (HBW.out.mono HBO.out.size))
      clear hkp hkeep hsv2 haS hdrop HKP hys hR hc hbxW
      obtain ⟨E, hE⟩ : ∃ E, (bw == pw && bc == pc && bs == (st : Int) && bq == pq && decide (bd = pd) && bg == pg) = E := ⟨_, rfl⟩
      rw [hE] at HKQ
      have HEQ : ∀ (w : World) (d : Nat), (Op.equalIn (d + 3) 59 (.agg #[.int .i64 bw, .int .i64 bc, .int .i64 bs, .int .i64 bq, .string bd, .bool bg]) (.agg #[.int .i64 pw, .int .i64 pc, .int .i64 (st : Int), .int .i64 pq, .string pd, .bool pg])).run Tryz.prog w = .ok E w := fun w d => by rw [eqVerB, hE]
      clear hE
      go_wp2_with fail
      go_at_call 90
      refine (HL.out _ (HBWw.out.trans (Below.mono (B := W.heap.size) (by repeat (first | exact Below.refl _ _ | refine blw_alloc ?_ | refine blw_plus ?_ | refine Below.drew ?_)) HBWw.out.size))).mono ?_
      rintro e w' ⟨rfl, hb⟩
      obtain ⟨x, rfl⟩ := wplus_of_below hb
      clear hb HL
      go_wp2_with fail
      cases sm
      · have HK2 : Hid ((outs ++ [(⟨pk, ⟨pw, pc, (st : Int), pq, pd, pg⟩⟩ : PtP)]) ++ (L.drop (m + 1)).filter (rKeep a0 a1 a2 a3 L) = RS) := hidp (by rw [← HKQ.out]; simp )
        clear HKQ
        refine wp_region_plus (by kernel_rfl) (by kernel_rfl) ?_
        repeat (first | go_big_quiet_skip | (go_big_quiet_want; go_big_quiet_op; go_big_quiet_on))
        refine wpQuiet_nil ?_
        rintro _ ⟨x3, rfl⟩
        have HCUR := hidp (show Below W.heap.size W (wplus ((wplus (W.alloc (.cells #[.int .i64 pk, .int .i64 pw, .int .i64 pc, .int .i64 (st : Int), .int .i64 pq, .string pd, .bool pg] 166)) x).alloc (.cells #[.int .i64 bw, .int .i64 bc, .int .i64 bs, .int .i64 bq, .string bd, .bool bg] 59)) x3) from (by repeat (first | exact Below.refl _ _ | refine blw_alloc ?_ | refine blw_plus ?_ | refine Below.drew ?_)))
        have HOC := hidp (own_below HOW.out HCUR.out (fun k e => (own_ge HOW.out e).2))
        have HBC := hidp (HBW.out.trans (HCUR.out.mono HBW.out.size))
        have HXC := hidp (show (wplus ((wplus (W.alloc (.cells #[.int .i64 pk, .int .i64 pw, .int .i64 pc, .int .i64 (st : Int), .int .i64 pq, .string pd, .bool pg] 166)) x).alloc (.cells #[.int .i64 bw, .int .i64 bc, .int .i64 bs, .int .i64 bq, .string bd, .bool bg] 59)) x3).heap[W.heap.size]? = some (.cells #[.int .i64 pk, .int .i64 pw, .int .i64 pc, .int .i64 (st : Int), .int .i64 pq, .string pd, .bool pg] 166) from (wplus_heap_lt _ x3 _ (by simp; omega)).trans (blk_alloc ((wplus_heap_lt _ x _ (by simp)).trans (blk_new rfl _)) _))
        generalize wplus ((wplus (W.alloc (.cells #[.int .i64 pk, .int .i64 pw, .int .i64 pc, .int .i64 (st : Int), .int .i64 pq, .string pd, .bool pg] 166)) x).alloc (.cells #[.int .i64 bw, .int .i64 bc, .int .i64 bs, .int .i64 bq, .string bd, .bool bg] 59)) x3 = WC at *
        have g0 := cell_blk HXC.out 0; have g1 := cell_blk HXC.out 1; have g2 := cell_blk HXC.out 2; have g3 := cell_blk HXC.out 3; have g4 := cell_blk HXC.out 4; have g5 := cell_blk HXC.out 5; have g6 := cell_blk HXC.out 6
        simp only [List.getElem?_toArray, List.getElem?_cons_zero, List.getElem?_cons_succ] at g0 g1 g2 g3 g4 g5 g6
        have hsC := HBC.out.size
        go_wp2_with (at_builtin; go_must (refine wpList_append_lies _ rfl _ _ 36 rfl wo.heap.size 166 i0 (.agg #[.int .i64 0, .int .i64 0, .int .i64 0, .int .i64 0, .int .i64 0, .string ⟨#[]⟩, .bool false]) 7 64 Tryz.underlying36 hi0 hz0 hz1 hz2 rfl (by decide) (.slice Ao outs.length co) outs.length (heldRow outs) rfl (HOC.out.alloc _) ⟨WC.heap.size, 0, none⟩ 1 1 [.int .i64 pk, .int .i64 pw, .int .i64 pc, .int .i64 (st : Int), .int .i64 pq, .string pd, .bool pg] rfl rfl (cells7_new rfl) ?c1 (by decide) ?c2 ?c3 ?c4 _ rfl ?_))
        case c1 => first | exact ⟨rfl, rfl, rfl, rfl, rfl, rfl, rfl⟩ | (intro u hu; simp at hu; rcases hu with rfl | rfl | rfl | rfl | rfl | rfl | rfl <;> rfl)
        case c2 => refine Nat.le_trans ?_ maxLen_ge; omega
        case c3 => omega
        case c4 => first | omega | (simp; omega)
        intro gq cap1 w1 hown1 hgrow hgl hlt1
        have HN1 : Hid (w1.ownsRow wo.heap.size 166 7 (.slice (some ⟨gq, 0, none⟩) (outs ++ [(⟨pk, ⟨pw, pc, (st : Int), pq, pd, pg⟩⟩ : PtP)]).length cap1) (outs ++ [(⟨pk, ⟨pw, pc, (st : Int), pq, pd, pg⟩⟩ : PtP)]).length (heldRow (outs ++ [(⟨pk, ⟨pw, pc, (st : Int), pq, pd, pg⟩⟩ : PtP)]))) := hidp (by
          have e : (outs ++ [(⟨pk, ⟨pw, pc, (st : Int), pq, pd, pg⟩⟩ : PtP)]).length = outs.length + 1 := by simp
          rw [e, heldRow_append]; exact hown1)
        have HB1 : Hid (Below wo.heap.size wo w1) := hidp (Below.grown HBC.out (grown_alloc hgrow) HBC.out.size (fun j e => (own_ge HOW.out e).1))
        clear hown1 hgrow hgl hlt1
        go_wp2_with fail
        go_roundw
        case rel => exact ⟨m + 1, outs ++ [(⟨pk, ⟨pw, pc, (st : Int), pq, pd, pg⟩⟩ : PtP)], some ⟨gq, 0, none⟩, cap1, by omega, by go_num, by simp, HK2.out, HN1.out, HB1.out, by simp; omega⟩
        case measure => simp [intOf]; omega
      · cases E
        · by_cases hq : pq ≤ aS
          · have hd1 : decide (pq ≤ aS) = true := decide_eq_true hq
            have hd2 : decide (aS < pq) = false := decide_eq_false (by omega)
            have HK2 : Hid (outs ++ (L.drop (m + 1)).filter (rKeep a0 a1 a2 a3 L) = RS) := hidp (by rw [← HKQ.out]; simp [hd1])
            clear HKQ
            refine wp_region_plus (by kernel_rfl) (by kernel_rfl) ?_
            repeat (first | go_big_quiet_skip | (go_big_quiet_want; go_big_quiet_op; go_big_quiet_on))
            refine wpQuiet_nil ?_
            rintro _ ⟨x3, rfl⟩
            have HCUR := hidp (show Below W.heap.size W (wplus ((wplus (W.alloc (.cells #[.int .i64 pk, .int .i64 pw, .int .i64 pc, .int .i64 (st : Int), .int .i64 pq, .string pd, .bool pg] 166)) x).alloc (.cells #[.int .i64 bw, .int .i64 bc, .int .i64 bs, .int .i64 bq, .string bd, .bool bg] 59)) x3) from (by repeat (first | exact Below.refl _ _ | refine blw_alloc ?_ | refine blw_plus ?_ | refine Below.drew ?_)))
            have HOC := hidp (own_below HOW.out HCUR.out (fun k e => (own_ge HOW.out e).2))
            have HBC := hidp (HBW.out.trans (HCUR.out.mono HBW.out.size))
            go_wp2_with fail
            go_roundw
            case rel => exact ⟨m + 1, outs, Ao, co, by omega, by go_num, rfl, HK2.out, HOC.out, HBC.out, by omega⟩
            case measure => simp [intOf]; omega
          · have hd1 : decide (pq ≤ aS) = false := decide_eq_false hq
            have hd2 : decide (aS < pq) = true := decide_eq_true (by omega)
            have HK2 : Hid ((outs ++ [(⟨pk, ⟨pw, pc, (st : Int), pq, pd, pg⟩⟩ : PtP)]) ++ (L.drop (m + 1)).filter (rKeep a0 a1 a2 a3 L) = RS) := hidp (by rw [← HKQ.out]; simp [hd1])
            clear HKQ
            refine wp_region_plus (by kernel_rfl) (by kernel_rfl) ?_
            repeat (first | go_big_quiet_skip | (go_big_quiet_want; go_big_quiet_op; go_big_quiet_on))
            refine wpQuiet_nil ?_
            rintro _ ⟨x3, rfl⟩
            have HCUR := hidp (show Below W.heap.size W (wplus ((wplus (W.alloc (.cells #[.int .i64 pk, .int .i64 pw, .int .i64 pc, .int .i64 (st : Int), .int .i64 pq, .string pd, .bool pg] 166)) x).alloc (.cells #[.int .i64 bw, .int .i64 bc, .int .i64 bs, .int .i64 bq, .string bd, .bool bg] 59)) x3) from (by repeat (first | exact Below.refl _ _ | refine blw_alloc ?_ | refine blw_plus ?_ | refine Below.drew ?_)))
            have HOC := hidp (own_below HOW.out HCUR.out (fun k e => (own_ge HOW.out e).2))
            have HBC := hidp (HBW.out.trans (HCUR.out.mono HBW.out.size))
            have HXC := hidp (show (wplus ((wplus (W.alloc (.cells #[.int .i64 pk, .int .i64 pw, .int .i64 pc, .int .i64 (st : Int), .int .i64 pq, .string pd, .bool pg] 166)) x).alloc (.cells #[.int .i64 bw, .int .i64 bc, .int .i64 bs, .int .i64 bq, .string bd, .bool bg] 59)) x3).heap[W.heap.size]? = some (.cells #[.int .i64 pk, .int .i64 pw, .int .i64 pc, .int .i64 (st : Int), .int .i64 pq, .string pd, .bool pg] 166) from (wplus_heap_lt _ x3 _ (by simp; omega)).trans (blk_alloc ((wplus_heap_lt _ x _ (by simp)).trans (blk_new rfl _)) _))
            generalize wplus ((wplus (W.alloc (.cells #[.int .i64 pk, .int .i64 pw, .int .i64 pc, .int .i64 (st : Int), .int .i64 pq, .string pd, .bool pg] 166)) x).alloc (.cells #[.int .i64 bw, .int .i64 bc, .int .i64 bs, .int .i64 bq, .string bd, .bool bg] 59)) x3 = WC at *
            have g0 := cell_blk HXC.out 0; have g1 := cell_blk HXC.out 1; have g2 := cell_blk HXC.out 2; have g3 := cell_blk HXC.out 3; have g4 := cell_blk HXC.out 4; have g5 := cell_blk HXC.out 5; have g6 := cell_blk HXC.out 6
            simp only [List.getElem?_toArray, List.getElem?_cons_zero, List.getElem?_cons_succ] at g0 g1 g2 g3 g4 g5 g6
            have hsC := HBC.out.size
            go_wp2_with (at_builtin; go_must (refine wpList_append_lies _ rfl _ _ 36 rfl wo.heap.size 166 i0 (.agg #[.int .i64 0, .int .i64 0, .int .i64 0, .int .i64 0, .int .i64 0, .string ⟨#[]⟩, .bool false]) 7 64 Tryz.underlying36 hi0 hz0 hz1 hz2 rfl (by decide) (.slice Ao outs.length co) outs.length (heldRow outs) rfl (HOC.out.alloc _) ⟨WC.heap.size, 0, none⟩ 1 1 [.int .i64 pk, .int .i64 pw, .int .i64 pc, .int .i64 (st : Int), .int .i64 pq, .string pd, .bool pg] rfl rfl (cells7_new rfl) ?c1 (by decide) ?c2 ?c3 ?c4 _ rfl ?_))
            case c1 => first | exact ⟨rfl, rfl, rfl, rfl, rfl, rfl, rfl⟩ | (intro u hu; simp at hu; rcases hu with rfl | rfl | rfl | rfl | rfl | rfl | rfl <;> rfl)
            case c2 => refine Nat.le_trans ?_ maxLen_ge; omega
            case c3 => omega
            case c4 => first | omega | (simp; omega)
            intro gq cap1 w1 hown1 hgrow hgl hlt1
            have HN1 : Hid (w1.ownsRow wo.heap.size 166 7 (.slice (some ⟨gq, 0, none⟩) (outs ++ [(⟨pk, ⟨pw, pc, (st : Int), pq, pd, pg⟩⟩ : PtP)]).length cap1) (outs ++ [(⟨pk, ⟨pw, pc, (st : Int), pq, pd, pg⟩⟩ : PtP)]).length (heldRow (outs ++ [(⟨pk, ⟨pw, pc, (st : Int), pq, pd, pg⟩⟩ : PtP)]))) := hidp (by
              have e : (outs ++ [(⟨pk, ⟨pw, pc, (st : Int), pq, pd, pg⟩⟩ : PtP)]).length = outs.length + 1 := by simp
              rw [e, heldRow_append]; exact hown1)
            have HB1 : Hid (Below wo.heap.size wo w1) := hidp (Below.grown HBC.out (grown_alloc hgrow) HBC.out.size (fun j e => (own_ge HOW.out e).1))
            clear hown1 hgrow hgl hlt1
            go_wp2_with fail
            go_roundw
            case rel => exact ⟨m + 1, outs ++ [(⟨pk, ⟨pw, pc, (st : Int), pq, pd, pg⟩⟩ : PtP)], some ⟨gq, 0, none⟩, cap1, by omega, by go_num, by simp, HK2.out, HN1.out, HB1.out, by simp; omega⟩
            case measure => simp [intOf]; omega
        · have HK2 : Hid ((outs ++ [(⟨pk, ⟨pw, pc, (st : Int), pq, pd, pg⟩⟩ : PtP)]) ++ (L.drop (m + 1)).filter (rKeep a0 a1 a2 a3 L) = RS) := hidp (by rw [← HKQ.out]; simp )
          clear HKQ
          refine wp_region_plus (by kernel_rfl) (by kernel_rfl) ?_
          repeat (first | go_big_quiet_skip | (go_big_quiet_want; go_big_quiet_op; go_big_quiet_on))
          refine wpQuiet_nil ?_
          rintro _ ⟨x3, rfl⟩
          have HCUR := hidp (show Below W.heap.size W (wplus ((wplus (W.alloc (.cells #[.int .i64 pk, .int .i64 pw, .int .i64 pc, .int .i64 (st : Int), .int .i64 pq, .string pd, .bool pg] 166)) x).alloc (.cells #[.int .i64 bw, .int .i64 bc, .int .i64 bs, .int .i64 bq, .string bd, .bool bg] 59)) x3) from (by repeat (first | exact Below.refl _ _ | refine blw_alloc ?_ | refine blw_plus ?_ | refine Below.drew ?_)))
          have HOC := hidp (own_below HOW.out HCUR.out (fun k e => (own_ge HOW.out e).2))
          have HBC := hidp (HBW.out.trans (HCUR.out.mono HBW.out.size))
          have HXC := hidp (show (wplus ((wplus (W.alloc (.cells #[.int .i64 pk, .int .i64 pw, .int .i64 pc, .int .i64 (st : Int), .int .i64 pq, .string pd, .bool pg] 166)) x).alloc (.cells #[.int .i64 bw, .int .i64 bc, .int .i64 bs, .int .i64 bq, .string bd, .bool bg] 59)) x3).heap[W.heap.size]? = some (.cells #[.int .i64 pk, .int .i64 pw, .int .i64 pc, .int .i64 (st : Int), .int .i64 pq, .string pd, .bool pg] 166) from (wplus_heap_lt _ x3 _ (by simp; omega)).trans (blk_alloc ((wplus_heap_lt _ x _ (by simp)).trans (blk_new rfl _)) _))
          generalize wplus ((wplus (W.alloc (.cells #[.int .i64 pk, .int .i64 pw, .int .i64 pc, .int .i64 (st : Int), .int .i64 pq, .string pd, .bool pg] 166)) x).alloc (.cells #[.int .i64 bw, .int .i64 bc, .int .i64 bs, .int .i64 bq, .string bd, .bool bg] 59)) x3 = WC at *
          have g0 := cell_blk HXC.out 0; have g1 := cell_blk HXC.out 1; have g2 := cell_blk HXC.out 2; have g3 := cell_blk HXC.out 3; have g4 := cell_blk HXC.out 4; have g5 := cell_blk HXC.out 5; have g6 := cell_blk HXC.out 6
          simp only [List.getElem?_toArray, List.getElem?_cons_zero, List.getElem?_cons_succ] at g0 g1 g2 g3 g4 g5 g6
          have hsC := HBC.out.size
          go_wp2_with (at_builtin; go_must (refine wpList_append_lies _ rfl _ _ 36 rfl wo.heap.size 166 i0 (.agg #[.int .i64 0, .int .i64 0, .int .i64 0, .int .i64 0, .int .i64 0, .string ⟨#[]⟩, .bool false]) 7 64 Tryz.underlying36 hi0 hz0 hz1 hz2 rfl (by decide) (.slice Ao outs.length co) outs.length (heldRow outs) rfl (HOC.out.alloc _) ⟨WC.heap.size, 0, none⟩ 1 1 [.int .i64 pk, .int .i64 pw, .int .i64 pc, .int .i64 (st : Int), .int .i64 pq, .string pd, .bool pg] rfl rfl (cells7_new rfl) ?c1 (by decide) ?c2 ?c3 ?c4 _ rfl ?_))
          case c1 => first | exact ⟨rfl, rfl, rfl, rfl, rfl, rfl, rfl⟩ | (intro u hu; simp at hu; rcases hu with rfl | rfl | rfl | rfl | rfl | rfl | rfl <;> rfl)
          case c2 => refine Nat.le_trans ?_ maxLen_ge; omega
          case c3 => omega
          case c4 => first | omega | (simp; omega)
          intro gq cap1 w1 hown1 hgrow hgl hlt1
          have HN1 : Hid (w1.ownsRow wo.heap.size 166 7 (.slice (some ⟨gq, 0, none⟩) (outs ++ [(⟨pk, ⟨pw, pc, (st : Int), pq, pd, pg⟩⟩ : PtP)]).length cap1) (outs ++ [(⟨pk, ⟨pw, pc, (st : Int), pq, pd, pg⟩⟩ : PtP)]).length (heldRow (outs ++ [(⟨pk, ⟨pw, pc, (st : Int), pq, pd, pg⟩⟩ : PtP)]))) := hidp (by
            have e : (outs ++ [(⟨pk, ⟨pw, pc, (st : Int), pq, pd, pg⟩⟩ : PtP)]).length = outs.length + 1 := by simp
            rw [e, heldRow_append]; exact hown1)
          have HB1 : Hid (Below wo.heap.size wo w1) := hidp (Below.grown HBC.out (grown_alloc hgrow) HBC.out.size (fun j e => (own_ge HOW.out e).1))
          clear hown1 hgrow hgl hlt1
          go_wp2_with fail
          go_roundw
          case rel => exact ⟨m + 1, outs ++ [(⟨pk, ⟨pw, pc, (st : Int), pq, pd, pg⟩⟩ : PtP)], some ⟨gq, 0, none⟩, cap1, by omega, by go_num, by simp, HK2.out, HN1.out, HB1.out, by simp; omega⟩
          case measure => simp [intOf]; omega
    · obtain rfl : m = L.length := by omega
      have hkp := HKP.out
      rw [List.drop_length] at hkp
      obtain rfl : outs = RS := by simpa using hkp
      have hup := RfAt.upd HSO.out (below_grownBy HBW.out _) (own_base HOW.out (Nat.le_trans hB HBO.out.size)) (.inr fun b e => (own_ge HOW.out e).1)
      have HU : Hid (∃ v', RfAt (W.setCell ⟨r, o, none⟩ (.slice Ao outs.length co)) r o B outs v' ∧ RfFr w (W.setCell ⟨r, o, none⟩ (.slice Ao outs.length co)) r o (.slice A L.length c) v') := hidp ⟨_, hup.1, hup.2.from hlr HBO.out⟩
      have q1 : W.cell? ⟨r, o, none⟩ = some (.slice A L.length c) := by rw [HBW.out.cell (p := ⟨r, o, none⟩) (HSO.out.lt)]; exact HSO.out.cell.1
      have q2 : W.frozen? ⟨r, o, none⟩ = false := by rw [World.frozen?_of_block (HBW.out.block r (HSO.out.lt))]; exact HSO.out.cell.2
      clear hup hkp HKP hlm hm
      go_wp2_with fail
      refine bodyPost_end (results_none rfl _ _ _) rfl ⟨rfl, HU.out⟩
end Go.Proofs.YtbopfhbeegkkaabGreatDoor
