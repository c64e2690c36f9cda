import Derived.Test.YtbopfhbeegkkaaaDoorRDecS
import Derived.RegionTactic
namespace Go.Proofs.YtbopfhbeegkkaaaDoor
open Go.RowKit

def RTxPost (w : World) (D : Option TxP) (e : Ending) (w' : World) : Prop :=
  match D with
  | none => e = .returned (.tuple #[.agg #[.int .i64 0, .int .i64 0, .int .i64 0, .int .i64 0, .int .i64 0, .int .i64 0, .int .i64 0, .int .i64 0, .slice none 0 0], .int .i64 3]) ∧ Below w.heap.size w w'
  | some t => ∃ A c, e = .returned (.tuple #[.agg #[.int .i64 t.site, .int .i64 t.seq, .int .i64 t.wall, .int .i64 t.count, .int .i64 t.d0, .int .i64 t.d1, .int .i64 t.d2, .int .i64 t.d3, .slice A t.ws.length c], .int .i64 0]) ∧
      Below w.heap.size w w' ∧ w'.ownsRow w.heap.size 115 3 (.slice A t.ws.length c) t.ws.length (wrCells t.ws)
theorem rdec_ret {D : Option TxP} {w W : World} {b : Nat} {u0 u1 u2 u3 u4 u5 u6 u7 u8 x0 x1 x2 x3 x4 x5 x6 x7 x8 e : Value} {a : Act} (h : W.heap[b]? = some (.cells #[x0, x1, x2, x3, x4, x5, x6, x7, x8] 40))
    (hd : a.defers = []) (h2 : a.tmps[2]?.getD undef = .pointer (some ⟨b, 0, none⟩)) (h3 : a.tmps[3]?.getD undef = e)
    (hp : RTxPost w D (.returned (.tuple #[.agg #[u0, u1, u2, u3, u4, u5, u6, u7, u8], e])) (put9 W b u0 u1 u2 u3 u4 u5 u6 u7 u8)) :
    bodyPost Tryd.prog Tryd.f26 (RTxPost w D) .ret a (put9 W b u0 u1 u2 u3 u4 u5 u6 u7 u8) := by
  have hb := blk9 (put9_blk (u0 := u0) (u1 := u1) (u2 := u2) (u3 := u3) (u4 := u4) (u5 := u5) (u6 := u6) (u7 := u7) (u8 := u8) h)
  go_split_ands
  refine bodyPost_ret ?_ hd hp
  simp only [results, Tryd.results26]
  simp [go_sem, h2, h3, *]
def refFin (h d : Int × Int × Int × Int) (F : Option (List WrP × List UInt8)) (l : List UInt8) : Option TxP :=
  match F with
  | some x => if rightTx (tTx h d x.1) = true ∧ txB (tTx h d x.1) = l then some (tTx h d x.1) else none
  | none => none
theorem ext_take (s : ByteArray) (k : Nat) : s.extract 0 k = ⟨(s.data.toList.take k).toArray⟩ := by
  apply ba_ext; rw [ByteArray.data_extract]; apply Array.toList_inj.1; simp
theorem TtR.drew {w W : World} {g tb : Nat} {x0 x1 x2 x3 x4 x5 x6 x7 : Int} {A : Option Addr} {c : Nat} {ws : List WrP} {r : List UInt8} {p : Nat} {k : Int} {dt : ByteArray} {gn : Bool} (st : TtR w W g tb x0 x1 x2 x3 x4 x5 x6 x7 A c ws r p k dt gn) :
    TtR w W.drew g tb x0 x1 x2 x3 x4 x5 x6 x7 A c ws r p k dt gn :=
  ⟨⟨st.st.rd, st.st.z, st.st.tx, st.st.own, st.st.bl.drew, st.st.lg, st.st.lt⟩, st.t7, st.hp, st.ho⟩
theorem refFin_yes {h d : Int × Int × Int × Int} {x : List WrP × List UInt8} {l : List UInt8} {t : TxP} (ht : tTx h d x.1 = t) (h1 : rightTx t = true ∧ txB t = l) : refFin h d (some x) l = some t := by
  subst ht; unfold refFin; simp only; rw [if_pos h1]
theorem refFin_no {h d : Int × Int × Int × Int} {x : List WrP × List UInt8} {l : List UInt8} {t : TxP} (ht : tTx h d x.1 = t) (h1 : ¬ (rightTx t = true ∧ txB t = l)) : refFin h d (some x) l = none := by
  subst ht; unfold refFin; simp only; rw [if_neg h1]
theorem decTx_reff (l : List UInt8) : decTx l = refFin (tapV (l.drop 1)).1 (tapV (tapV (l.drop 1)).2).1 (tapWs (tapN (tapV (tapV (l.drop 1)).2).2).1.toNat [] (tapN (tapV (tapV (l.drop 1)).2).2).2) l := by
  rw [decTx_ref]
  unfold rawT
  generalize tapWs (tapN (tapV (tapV (l.drop 1)).2).2).1.toNat [] (tapN (tapV (tapV (l.drop 1)).2).2).2 = F
  cases F <;> rfl

set_option maxRecDepth 20000 in
set_option maxHeartbeats 16000000 in
theorem rDecTx_any (s : ByteArray) (w : World) (hl : s.size ≤ 1000000) :
    Calls Tryd.prog 26 #[.string s] w (RTxPost w (decTx s.data.toList)) := by
  by_cases he : s.toList = []
  · have hs : s.data.toList = [] := by rw [← ByteArray.toList_eq]; exact he
    have HD : Hid (decTx s.data.toList = none) := hidp (by rw [hs]; rfl)
    clear hs
    go_enter Tryd.func26, Tryd.ntmps26
    go_wp2
    rw [HD.out]
    refine bodyPost_ret (v := .tuple #[.agg #[.int .i64 0, .int .i64 0, .int .i64 0, .int .i64 0, .int .i64 0, .int .i64 0, .int .i64 0, .int .i64 0, .slice none 0 0], .int .i64 3]) (by simp only [results, Tryd.results26]; simp [go_sem, *]) rfl ⟨rfl, blw_alloc (Below.refl _ _)⟩
  have hpos : 0 < s.size := by
    rw [ba_size, ← ByteArray.toList_eq]; exact List.length_pos_iff.2 he
  have hE : s.toList.isEmpty = false := by simpa using he
  have hD := decTx_reff s.data.toList
  have hlen0 : (s.data.toList.drop 1).length ≤ 1000000 := by rw [List.length_drop, ← ba_size]; omega
  have hT := fun (W : World) (g : Nat) (h : W.heap[g]? = some (.cells #[.string (s.extract 1 s.size)] 121)) => (⟨_, ext_drop s 1, h⟩ : TpAt W g (s.data.toList.drop 1))
  have hSS : ∀ x : List UInt8, (x = s.data.toList) ↔ (⟨x.toArray⟩ : ByteArray) = s := fun x => by
    constructor
    · intro h; apply ba_ext; rw [h]
    · intro h; rw [← h]
  generalize decTx s.data.toList = D at *
  generalize s.data.toList.drop 1 = l0 at *
  obtain ⟨n1, l1, k1⟩ : ∃ a r, tapN l0 = (a, r) := ⟨_, _, rfl⟩
  obtain ⟨n2, l2, k2⟩ : ∃ a r, tapN l1 = (a, r) := ⟨_, _, rfl⟩
  obtain ⟨n3, l3, k3⟩ : ∃ a r, tapN l2 = (a, r) := ⟨_, _, rfl⟩
  obtain ⟨n4, l4, k4⟩ : ∃ a r, tapN l3 = (a, r) := ⟨_, _, rfl⟩
  obtain ⟨d1, l5, k5⟩ : ∃ a r, tapN l4 = (a, r) := ⟨_, _, rfl⟩
  obtain ⟨d2, l6, k6⟩ : ∃ a r, tapN l5 = (a, r) := ⟨_, _, rfl⟩
  obtain ⟨d3, l7, k7⟩ : ∃ a r, tapN l6 = (a, r) := ⟨_, _, rfl⟩
  obtain ⟨d4, l8, k8⟩ : ∃ a r, tapN l7 = (a, r) := ⟨_, _, rfl⟩
  obtain ⟨m, l9, k9⟩ : ∃ a r, tapN l8 = (a, r) := ⟨_, _, rfl⟩
  have kV : tapV l0 = ((n1, n2, n3, n4), l4) := by unfold tapV; simp only [k1, k2, k3, k4]
  have kW : tapV l4 = ((d1, d2, d3, d4), l8) := by unfold tapV; simp only [k5, k6, k7, k8]
  simp only [kV, kW, k9] at hD
  have hlen0' := hlen0
  have hlen1 := tap_to_len k1 hlen0
  have N1 := hidp fun W g h => tap_to k1 g W h hlen0
  have hlen2 := tap_to_len k2 hlen1
  have N2 := hidp fun W g h => tap_to k2 g W h hlen1
  have hlen3 := tap_to_len k3 hlen2
  have N3 := hidp fun W g h => tap_to k3 g W h hlen2
  have hlen4 := tap_to_len k4 hlen3
  have N4 := hidp fun W g h => tap_to k4 g W h hlen3
  have hlen5 := tap_to_len k5 hlen4
  have N5 := hidp fun W g h => tap_to k5 g W h hlen4
  have hlen6 := tap_to_len k6 hlen5
  have N6 := hidp fun W g h => tap_to k6 g W h hlen5
  have hlen7 := tap_to_len k7 hlen6
  have N7 := hidp fun W g h => tap_to k7 g W h hlen6
  have hlen8 := tap_to_len k8 hlen7
  have N8 := hidp fun W g h => tap_to k8 g W h hlen7
  have hlen9 := tap_to_len k9 hlen8
  have N9 := hidp fun W g h => tap_to k9 g W h hlen8
  have hmb := tap_to_bd k9
  have HLm := hidp hlen9
  obtain ⟨F, hF⟩ : ∃ F, tapWs m.toNat [] l9 = F := ⟨_, rfl⟩
  rw [hF] at hD
  have HD := hidp hD
  have HF := hidp hF
  have HSS := hidp hSS
  have HT := hidp hT
  clear kV kW k1 k2 k3 k4 k5 k6 k7 k8 k9 hlen0 hlen0' hlen1 hlen2 hlen3 hlen4 hlen5 hlen6 hlen7 hlen8 hlen9 hD hSS hT he hF
  obtain ⟨i0, hi, hz0, hz1, hz2⟩ := info43x
  go_enter Tryd.func26, Tryd.ntmps26
  go_wp2_with fail
  go_at_call 62
  refine (N1.out _ _ (HT.out _ _ (by rw [heap_alloc, if_pos (by simp)]))).mono ?_
  rintro e w1 ⟨rfl, ht1, hg1⟩
  clear HT N1
  go_wp2_with fail
  go_at_call 62
  refine (N2.out _ _ ht1).mono ?_
  rintro e w2 ⟨rfl, ht2, hg⟩
  have hg2 := grown_trans hg1 hg
  clear hg hg1 ht1 N2
  go_wp2_with fail
  go_at_call 62
  refine (N3.out _ _ ht2).mono ?_
  rintro e w3 ⟨rfl, ht3, hg⟩
  have hg3 := grown_trans hg2 hg
  clear hg hg2 ht2 N3
  go_wp2_with fail
  go_at_call 62
  refine (N4.out _ _ ht3).mono ?_
  rintro e w4 ⟨rfl, ht4, hg⟩
  have hg4 := grown_trans hg3 hg
  clear hg hg3 ht3 N4
  have st4 := hidp (ttst_start (x0 := n1) (x1 := n2) (x2 := n3) (x3 := n4) rfl ht4 hg4 rfl)
  clear ht4 hg4
  generalize htb : w4.heap.size = tb at *
  go_wp2
  refine wp_loop_rounds 5 ?_
  rw [rounds_succ]
  go_wp2_with fail
  go_at_call 62
  refine (N5.out _ _ st4.out.rd).mono ?_
  rintro e w5 ⟨rfl, ht, hg⟩
  have sta := st4.out.call ht hg
  have c1 := cell_blk sta.tx 4
  have c2 := frozen_blk sta.tx 4
  simp at c1
  have st5 := hidp (sta.set9 (i := 4) (u := .int .i64 d1) rfl)
  clear sta ht hg st4 N5
  go_wp2
  clear c1 c2
  rw [rounds_succ]
  go_wp2_with fail
  go_at_call 62
  refine (N6.out _ _ st5.out.rd).mono ?_
  rintro e w6 ⟨rfl, ht, hg⟩
  have sta := st5.out.call ht hg
  have c1 := cell_blk sta.tx 5
  have c2 := frozen_blk sta.tx 5
  simp at c1
  have st6 := hidp (sta.set9 (i := 5) (u := .int .i64 d2) rfl)
  clear sta ht hg st5 N6
  go_wp2
  clear c1 c2
  rw [rounds_succ]
  go_wp2_with fail
  go_at_call 62
  refine (N7.out _ _ st6.out.rd).mono ?_
  rintro e w7 ⟨rfl, ht, hg⟩
  have sta := st6.out.call ht hg
  have c1 := cell_blk sta.tx 6
  have c2 := frozen_blk sta.tx 6
  simp at c1
  have st7 := hidp (sta.set9 (i := 6) (u := .int .i64 d3) rfl)
  clear sta ht hg st6 N7
  go_wp2
  clear c1 c2
  rw [rounds_succ]
  go_wp2_with fail
  go_at_call 62
  refine (N8.out _ _ st7.out.rd).mono ?_
  rintro e w8 ⟨rfl, ht, hg⟩
  have sta := st7.out.call ht hg
  have c1 := cell_blk sta.tx 7
  have c2 := frozen_blk sta.tx 7
  simp at c1
  have st8 := hidp (sta.set9 (i := 7) (u := .int .i64 d4) rfl)
  clear sta ht hg st7 N8
  go_wp2
  clear c1 c2
  rw [rounds_succ]
  go_wp2_with fail
  go_at_call 62
  refine (N9.out _ _ st8.out.rd).mono ?_
  rintro e w9 ⟨rfl, ht, hg⟩
  have ST := hidp (st8.out.call ht hg)
  clear ht hg st8 N9 htb
  go_wp2
  go_loopw [7] (fun n wr => ∃ (z : Int) (A : Option Addr) (c : Nat) (ws : List WrP) (r : List UInt8), n = .int .i64 z ∧ z < 4398046511104 ∧ -1 ≤ z ∧ tapWs z.toNat ws r = F ∧ r.length ≤ 1000000 ∧ ws.length ≤ 6 ∧
    TtSt w wr (w.heap.size + 1) tb n1 n2 n3 n4 d1 d2 d3 d4 A c ws r) (fun n _ => (intOf n).toNat)
  case atStart => exact ⟨m, none, 0, [], l9, rfl, hmb.2, hmb.1, HF.out, HLm.out, by simp, ST.out⟩
  case round =>
    obtain ⟨z, A, c, ws, r, rfl, hzb, hz1b, hF, hlen, h6, hst⟩ := hrel
    have HST := hidp hst
    clear hst ST HF
    have x80 := cell_blk HST.out.tx 8
    simp at x80
    by_cases hz : z ≤ 0
    · have HFv : Hid (F = some (ws, r)) := hidp (by rw [← hF, Int.toNat_of_nonpos hz]; rfl)
      clear hF
      have hz9 := blk9 HST.out.z
      have ht9 := blk9 HST.out.tx
      go_split_ands
      rcases hrt : rightTx ⟨n1, n2, n3, n4, d1, d2, d3, d4, ws⟩ with _ | _
      · have hDv : Hid (D = none) := hidp (by rw [HD.out, HFv.out]; exact refFin_no (t := ⟨n1, n2, n3, n4, d1, d2, d3, d4, ws⟩) rfl (fun h => by rw [hrt] at h; cases h.1))
        go_wp2_with fail
        go_at_call 18
        refine (rEncTx_bad n1 n2 n3 n4 d1 d2 d3 d4 ws A c _ hrt (by omega) (own_ws HST.out.own)).mono ?_
        rintro e wb ⟨rfl, hb⟩
        have stb := hidp (HST.out.below hb)
        clear hb hrt
        have hz9 := blk9 stb.out.z
        go_split_ands
        go_wp2
        refine rdec_ret stb.out.z rfl rfl rfl ?_
        rw [hDv.out]
        exact ⟨rfl, put9_below stb.out.bl (Nat.le_refl _)⟩
      · obtain ⟨q, hq⟩ : ∃ q : ByteArray, (⟨(txB ⟨n1, n2, n3, n4, d1, d2, d3, d4, ws⟩).toArray⟩ : ByteArray) = q := ⟨_, rfl⟩
        have HEnc := hidp fun w h => rEncTx_good ⟨n1, n2, n3, n4, d1, d2, d3, d4, ws⟩ A c w hrt h
        rw [hq] at HEnc
        by_cases heq : q = s
        · have hDv : Hid (D = some ⟨n1, n2, n3, n4, d1, d2, d3, d4, ws⟩) := hidp (by rw [HD.out, HFv.out]; exact refFin_yes rfl ⟨hrt, (HSS.out _).2 (hq.trans heq)⟩)
          subst heq
          clear hq hrt
          go_wp2_with fail
          go_at_call 18
          refine (HEnc.out _ (own_ws HST.out.own)).mono ?_
          rintro e wb ⟨rfl, hb⟩
          have stb := hidp (HST.out.below hb)
          clear hb
          have hz9 := blk9 stb.out.z
          have ht9 := blk9 stb.out.tx
          go_split_ands
          go_wp2
          refine rdec_ret stb.out.z rfl rfl rfl ?_
          rw [hDv.out]
          refine ⟨A, c, rfl, put9_below stb.out.bl (Nat.le_refl _), ?_⟩
          have hlg := stb.out.lg
          have hlt := stb.out.lt
          exact put9_own (own_base stb.out.own (by omega)) (fun e => by have := (own_ge stb.out.own e).1; omega)
        · have hDv : Hid (D = none) := hidp (by rw [HD.out, HFv.out]; exact refFin_no (t := ⟨n1, n2, n3, n4, d1, d2, d3, d4, ws⟩) rfl (fun h => heq (hq.symm.trans ((HSS.out _).1 h.2))))
          have hbne : (!q.toList == s.toList) = true := by
            simp only [Bool.not_eq_true', beq_eq_false_iff_ne, ne_eq, ByteArray.toList_eq]
            intro h; exact heq (ba_ext (Array.toList_inj.1 h))
          clear hq hrt
          go_wp2_with fail
          go_at_call 18
          refine (HEnc.out _ (own_ws HST.out.own)).mono ?_
          rintro e wb ⟨rfl, hb⟩
          have stb := hidp (HST.out.below hb)
          clear hb
          have hz9 := blk9 stb.out.z
          go_split_ands
          go_wp2
          refine rdec_ret stb.out.z rfl rfl rfl ?_
          rw [hDv.out]
          exact ⟨rfl, put9_below stb.out.bl (Nat.le_refl _)⟩
    have hzp : 0 < z := by omega
    obtain ⟨k, hk1⟩ : ∃ k : Nat, z.toNat = k + 1 := ⟨z.toNat - 1, by omega⟩
    rw [hk1] at hF
    have HK := hidp hk1
    clear hk1
    by_cases h5 : 5 < ws.length
    · have HFv : Hid (F = some (ws, r)) := hidp (by rw [← hF]; unfold tapWs; rw [if_pos h5])
      clear hF
      have hz9 := blk9 HST.out.z
      have ht9 := blk9 HST.out.tx
      go_split_ands
      rcases hrt : rightTx ⟨n1, n2, n3, n4, d1, d2, d3, d4, ws⟩ with _ | _
      · have hDv : Hid (D = none) := hidp (by rw [HD.out, HFv.out]; exact refFin_no (t := ⟨n1, n2, n3, n4, d1, d2, d3, d4, ws⟩) rfl (fun h => by rw [hrt] at h; cases h.1))
        go_wp2_with fail
        go_at_call 18
        refine (rEncTx_bad n1 n2 n3 n4 d1 d2 d3 d4 ws A c _ hrt (by omega) (own_ws HST.out.own)).mono ?_
        rintro e wb ⟨rfl, hb⟩
        have stb := hidp (HST.out.below hb)
        clear hb hrt
        have hz9 := blk9 stb.out.z
        go_split_ands
        go_wp2
        refine rdec_ret stb.out.z rfl rfl rfl ?_
        rw [hDv.out]
        exact ⟨rfl, put9_below stb.out.bl (Nat.le_refl _)⟩
      · obtain ⟨q, hq⟩ : ∃ q : ByteArray, (⟨(txB ⟨n1, n2, n3, n4, d1, d2, d3, d4, ws⟩).toArray⟩ : ByteArray) = q := ⟨_, rfl⟩
        have HEnc := hidp fun w h => rEncTx_good ⟨n1, n2, n3, n4, d1, d2, d3, d4, ws⟩ A c w hrt h
        rw [hq] at HEnc
        by_cases heq : q = s
        · have hDv : Hid (D = some ⟨n1, n2, n3, n4, d1, d2, d3, d4, ws⟩) := hidp (by rw [HD.out, HFv.out]; exact refFin_yes rfl ⟨hrt, (HSS.out _).2 (hq.trans heq)⟩)
          subst heq
          clear hq hrt
          go_wp2_with fail
          go_at_call 18
          refine (HEnc.out _ (own_ws HST.out.own)).mono ?_
          rintro e wb ⟨rfl, hb⟩
          have stb := hidp (HST.out.below hb)
          clear hb
          have hz9 := blk9 stb.out.z
          have ht9 := blk9 stb.out.tx
          go_split_ands
          go_wp2
          refine rdec_ret stb.out.z rfl rfl rfl ?_
          rw [hDv.out]
          refine ⟨A, c, rfl, put9_below stb.out.bl (Nat.le_refl _), ?_⟩
          have hlg := stb.out.lg
          have hlt := stb.out.lt
          exact put9_own (own_base stb.out.own (by omega)) (fun e => by have := (own_ge stb.out.own e).1; omega)
        · have hDv : Hid (D = none) := hidp (by rw [HD.out, HFv.out]; exact refFin_no (t := ⟨n1, n2, n3, n4, d1, d2, d3, d4, ws⟩) rfl (fun h => heq (hq.symm.trans ((HSS.out _).1 h.2))))
          have hbne : (!q.toList == s.toList) = true := by
            simp only [Bool.not_eq_true', beq_eq_false_iff_ne, ne_eq, ByteArray.toList_eq]
            intro h; exact heq (ba_ext (Array.toList_inj.1 h))
          clear hq hrt
          go_wp2_with fail
          go_at_call 18
          refine (HEnc.out _ (own_ws HST.out.own)).mono ?_
          rintro e wb ⟨rfl, hb⟩
          have stb := hidp (HST.out.below hb)
          clear hb
          have hz9 := blk9 stb.out.z
          go_split_ands
          go_wp2
          refine rdec_ret stb.out.z rfl rfl rfl ?_
          rw [hDv.out]
          exact ⟨rfl, put9_below stb.out.bl (Nat.le_refl _)⟩
    obtain ⟨a1, ra, ka⟩ : ∃ a1 ra, tapN r = (a1, ra) := ⟨_, _, rfl⟩
    obtain ⟨a2, rb, kb⟩ : ∃ a2 rb, tapN ra = (a2, rb) := ⟨_, _, rfl⟩
    obtain ⟨a3, rc, kc⟩ : ∃ a3 rc, tapN rb = (a3, rc) := ⟨_, _, rfl⟩
    have hlena := tap_to_len ka hlen
    have hlenb := tap_to_len kb hlena
    have hlenc := tap_to_len kc hlenb
    have ha3 := tap_to_bd kc
    have hF' : (if 0 ≤ a3 ∧ a3 ≤ (rc.length : Int) then tapWs k (ws ++ [⟨a1, ⟨(rc.take a3.toNat).toArray⟩, a2 == 1⟩]) (rc.drop a3.toNat) else none) = F := by
      rw [← hF]
      conv => rhs; unfold tapWs
      simp only [ka, kb, kc, if_neg h5]
    clear hF
    have N1 := hidp fun W g h => tap_to ka g W h hlen
    have N2 := hidp fun W g h => tap_to kb g W h hlena
    have N3 := hidp fun W g h => tap_to kc g W h hlenb
    clear ka kb kc hlen hlena hlenb
    go_wp2_with fail
    go_at_call 62
    refine (N1.out _ _ HST.out.rd).mono ?_
    rintro e v1 ⟨rfl, hr1, hg1⟩
    clear x80
    have s1 := hidp (HST.out.call hr1 hg1)
    clear hr1 hg1 HST N1
    go_wp2_with fail
    go_at_call 62
    refine (N2.out _ _ s1.out.rd).mono ?_
    rintro e v2 ⟨rfl, hr2, hg2⟩
    have s2 := hidp ((s1.out.call hr2 hg2).round (k := a1) (dt := ⟨#[]⟩) (gn := (a2 == 1)) rfl)
    clear hr2 hg2 s1 N2
    generalize hp : v2.heap.size = p at *
    go_wp2_with fail
    go_at_call 62
    refine (N3.out _ _ s2.out.st.rd).mono ?_
    rintro e v3 ⟨rfl, hr3, hg3⟩
    have s3 := hidp (s2.out.call hr3 hg3)
    clear hr3 hg3 s2 N3 hp
    obtain ⟨tp, htp, htb⟩ := s3.out.st.rd
    have htps : tp.size = rc.length := by rw [ba_size, htp]
    have g0 := cell_blk htb 0
    have gf := frozen_blk htb 0
    have q0 := cell_blk s3.out.t7 0
    have q1 := cell_blk s3.out.t7 1
    have q2 := cell_blk s3.out.t7 2
    have qf1 := frozen_blk s3.out.t7 1
    have x8 := cell_blk s3.out.st.tx 8
    have xf := frozen_blk s3.out.st.tx 8
    simp at g0 q0 q1 q2 x8
    have hp1 := s3.out.hp
    have hp2 := s3.out.st.lt
    have hp3 := lt_blk s3.out.t7
    clear htb
    rw [← htps] at hF'
    clear htps
    by_cases hin : 0 ≤ a3 ∧ a3 ≤ (tp.size : Int)
    rotate_left
    · have HFv : Hid (F = none) := hidp (by rw [← hF', if_neg hin])
      have HI := hidp fun w => in_is (n := a3) (lo := 0) (hi := (tp.size : Int)) (b := false) w (decide_eq_false hin)
      have hDv : Hid (D = none) := hidp (by rw [HD.out, HFv.out]; rfl)
      have hz9 := blk9 s3.out.st.z
      go_split_ands
      clear hF'
      go_wp2_with (go_at_call 54; refine (HI.out _).mono ?_; rintro e w' ⟨rfl, rfl⟩)
      refine rdec_ret s3.out.st.z rfl rfl rfl ?_
      rw [hDv.out]
      exact ⟨rfl, put9_below s3.out.st.bl (Nat.le_refl _)⟩
    rw [if_pos hin] at hF'
    have HF' := hidp hF'
    have HI := hidp fun w => in_is (n := a3) (lo := 0) (hi := (tp.size : Int)) (b := true) w (decide_eq_true hin)
    clear hF'
    obtain ⟨a3, rfl⟩ := Int.eq_ofNat_of_zero_le hin.1
    have hin3 : a3 ≤ tp.size := by omega
    go_wp2_with (go_at_call 54; refine (HI.out _).mono ?_; rintro e w' ⟨rfl, rfl⟩)
    clear HI
    have HLC := hidp hlenc
    have HF2 : Hid (tapWs k (ws ++ [⟨a1, tp.extract 0 a3, a2 == 1⟩]) (tp.extract a3 tp.size).data.toList = F) := hidp (by
      rw [← HF'.out, ext_drop, ext_take, htp]
      rfl)
    have HX : Hid ((tp.extract a3 tp.size).data.toList.length ≤ 1000000) := hidp (by rw [ext_drop, htp, List.length_drop]; omega)
    have HB5 := hidp (show ws.length ≤ 5 by omega)
    have HZ := hidp (show 0 < z ∧ z < 4398046511104 from ⟨hzp, hzb⟩)
    clear hin ha3 hzb hz1b h5 h6 hlenc hmb hl hpos hE hz hzp HF'
    go_region_with (fail)
    all_goals
      have hw5 := HB5.out
      have hzz := HZ.out
      have s4 := hidp (((s3.out.set (i := 1) (u := .string (tp.extract 0 a3)) rfl).tape (s' := tp.extract a3 tp.size) rfl).drew)
      go_wp2_with (at_builtin; go_must (refine wpList_append_lies _ rfl _ _ 38 rfl (tb + 1) 115 i0 (.agg #[.int .i64 0, .string ⟨#[]⟩, .bool false]) 3 32 Tryd.underlying38 hi hz0 hz1 hz2 rfl (by decide) (.slice A ws.length c) ws.length (wrCells ws) rfl ?c0 ⟨v3.heap.size, 0, none⟩ 1 1 [.int .i64 a1, .string (tp.extract 0 a3), .bool (a2 == 1)] rfl rfl (cells3_new (by simp [World.setCell])) ?c1 (by decide) ?c2 ?c3 ?c4 _ rfl ?_))
      case c0 => exact s4.out.st.own.alloc _
      case c1 => intro u hu; simp at hu; rcases hu with rfl | rfl | rfl <;> rfl
      case c2 => simp only [maxLen]; omega
      case c3 => omega
      case c4 => first | omega | (simp; omega)
      intro gq cap w9 hown hgrow hgl hlt9
      have happ := s4.out.app hown hgrow
      obtain ⟨y8, yf, hst9⟩ := happ
      have s9 := hidp hst9
      clear hst9 hown hgrow hgl s4 s3
      go_wp2
      go_roundw
      case rel =>
        refine ⟨z - 1, some ⟨gq, 0, none⟩, cap, ws ++ [⟨a1, tp.extract 0 a3, a2 == 1⟩], (tp.extract a3 tp.size).data.toList, congrArg (Value.int IntKind.i64) (by omega), by omega, by omega, ?_, HX.out, by simp; omega, ?_⟩
        · rw [show (z - 1).toNat = k from by have := HK.out; omega]; exact HF2.out
        · have := s9.out
          simpa using this
      case measure => have := HK.out; simp only [intOf]; omega
end Go.Proofs.YtbopfhbeegkkaaaDoor
