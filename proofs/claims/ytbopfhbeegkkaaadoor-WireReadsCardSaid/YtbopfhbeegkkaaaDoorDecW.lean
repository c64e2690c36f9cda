import Derived.Test.YtbopfhbeegkkaaaDoorDecW0
namespace Go.Proofs.YtbopfhbeegkkaaaDoor
open Go.RowKit
set_option maxRecDepth 20000 in
set_option maxHeartbeats 8000000 in
theorem decTx_any (v : Value) (l : List UInt8) (w : World) (hv : BsVal w w.heap.size v l) (hl : l.length ≤ 1000000) :
    Calls Tryd.prog 27 #[v] w (TxPost w (decTx l)) := by
  have hbeg := fun o => begin_any v l 116 116 rfl (w.alloc o) ((hv.above fun k hk => by rw [heap_alloc, if_neg (by omega)]).mono (by simp)) hl
  simp only [show ∀ o, (w.alloc o).heap.size = w.heap.size + 1 from fun o => by simp] at hbeg
  have hlen0 := Nat.le_trans (beginR_len 116 l) hl
  have hD := decTx_fin l
  generalize decTx l = D at *
  generalize beginR 116 l = r0 at *
  obtain ⟨n1, r1, k1⟩ : ∃ a r, numR r0 = (a, r) := ⟨_, _, rfl⟩
  obtain ⟨n2, r2, k2⟩ : ∃ a r, numR r1 = (a, r) := ⟨_, _, rfl⟩
  obtain ⟨n3, r3, k3⟩ : ∃ a r, numR r2 = (a, r) := ⟨_, _, rfl⟩
  obtain ⟨n4, r4, k4⟩ : ∃ a r, numR r3 = (a, r) := ⟨_, _, rfl⟩
  obtain ⟨q, r5, k5⟩ : ∃ a r, numR4 r4 = (a, r) := ⟨_, _, rfl⟩
  obtain ⟨d1, d2, d3, d4⟩ := q
  obtain ⟨m, r6, k6⟩ : ∃ a r, numR r5 = (a, r) := ⟨_, _, rfl⟩
  have k0 : numR4 r0 = ((n1, n2, n3, n4), r4) := by unfold numR4; simp only [k1, k2, k3, k4]
  simp only [k0, k5, k6] at hD
  generalize hF : wrsR m [] r6 = F at *
  have HD := hidp hD
  have HF := hidp hF
  clear hD hF k0
  have hlen1 := num_to_len k1 hlen0
  have hlen2 := num_to_len k2 hlen1
  have hlen3 := num_to_len k3 hlen2
  have hlen4 := num_to_len k4 hlen3
  have hlen5 := vec_to_len k5 hlen4
  have HL := hidp (num_to_len k6 hlen5)
  have hs1 := num_to_le k1
  have hs2 := num_to_le k2
  have hs3 := num_to_le k3
  have hs4 := num_to_le k4
  have hs5 := vec_to_le k5
  have hsm := num_to_le k6
  have HB := hidp hbeg
  have N1 := hidp fun W h => num_to k1 (w.heap.size + 1) W h hlen0
  have N2 := hidp fun W h => num_to k2 (w.heap.size + 1) W h hlen1
  have N3 := hidp fun W h => num_to k3 (w.heap.size + 1) W h hlen2
  have N4 := hidp fun W h => num_to k4 (w.heap.size + 1) W h hlen3
  have N5 := hidp fun W h => vec_to k5 (w.heap.size + 1) W h hlen4
  have N6 := hidp fun W h => num_to k6 (w.heap.size + 1) W h hlen5
  clear hbeg k1 k2 k3 k4 k5 k6 hlen0 hlen1 hlen2 hlen3 hlen4 hlen5 hv hl
  obtain ⟨hs5, hs6, hs7, hs8⟩ := hs5
  obtain ⟨i0, hi, hz0, hz1, hz2⟩ := info43x
  go_enter Tryd.func27, Tryd.ntmps27
  go_wp2_with fail
  go_at_call 63
  refine (HB.out _).mono ?_
  rintro e w1 ⟨rfl, hr, hb⟩
  clear HB
  go_wp2_with fail
  go_at_call 64
  refine (N1.out _ hr).mono ?_
  rintro e w2 ⟨rfl, hr1, hg⟩
  have hb1 := below_grown hb hg (Nat.le_refl _) (by simp)
  clear hr hb hg N1
  go_wp2_with fail
  go_at_call 64
  refine (N2.out _ hr1).mono ?_
  rintro e w3 ⟨rfl, hr2, hg⟩
  have hb2 := below_grown hb1 hg (Nat.le_refl _) (by simp)
  clear hr1 hb1 hg N2
  go_wp2_with fail
  go_at_call 64
  refine (N3.out _ hr2).mono ?_
  rintro e w4 ⟨rfl, hr3, hg⟩
  have hb3 := below_grown hb2 hg (Nat.le_refl _) (by simp)
  clear hr2 hb2 hg N3
  go_wp2_with fail
  go_at_call 64
  refine (N4.out _ hr3).mono ?_
  rintro e w5 ⟨rfl, hr4, hg⟩
  have hb4 := below_grown hb3 hg (Nat.le_refl _) (by simp)
  clear hr3 hb3 hg N4
  go_wp2_with fail
  go_at_call 65
  refine (N5.out _ hr4).mono ?_
  rintro e w6 ⟨rfl, hr5, hg⟩
  have hb5 := below_grown hb4 hg (Nat.le_refl _) (by simp)
  have hlt6 := hr5.lt
  clear hr4 hb4 hg N5
  go_wp2_with fail
  go_at_call 64
  refine (N6.out _ (hr5.above fun k hk => by rw [heap_alloc, if_neg (by omega)])).mono ?_
  rintro e w7 ⟨rfl, hr6, hg⟩
  have ST := hidp ((dtst_start rfl hr5 hb5 hlt6 rfl).call hr6 hg)
  clear hr5 hb5 hr6 hg N6 hlt6
  generalize htb : w6.heap.size = tb at *
  clear htb
  go_wp2
  go_loopw [6] (fun n wr => ∃ (k : Nat) (A : Option Addr) (c : Nat) (ws : List WrP) (r : Rd), n = .int .i64 k ∧ k ≤ 1099511627776 ∧ wrsR k ws r = F ∧ r.l.length ≤ 1000000 ∧ ws.length ≤ 6 ∧ (r.bad = false → ws.length ≤ 5) ∧
    DtSt w wr (w.heap.size + 1) tb (n1 : Int) (n2 : Int) (n3 : Int) (n4 : Int) (d1 : Int) (d2 : Int) (d3 : Int) (d4 : Int) A c ws r) (fun n _ => (intOf n).toNat)
  case atStart => exact ⟨m, none, 0, [], r6, rfl, hsm, HF.out, HL.out, by simp, by simp, ST.out⟩
  case round =>
    obtain ⟨k, A, c, ws, r, rfl, hk, hF, hlen, h6, h5, hst⟩ := hrel
    obtain ⟨l1, bad⟩ := r
    have HST := hidp hst
    obtain ⟨v1, hb, A1, c1, rfl, hc, hcm, hx⟩ := hst.rd
    simp only at *
    have b0 := cell_blk hb 0
    have b1 := cell_blk hb 1
    simp at b0 b1
    clear hx hb hst ST HF
    rcases k with _ | k
    · have HFv : Hid (F = (ws, ⟨l1, bad⟩)) := hidp (by rw [← hF]; rfl)
      clear hF
      rcases Bool.eq_false_or_eq_true bad with rfl | rfl
      ·
        have hDv : Hid (D = none) := hidp (by rw [HD.out, HFv.out]; simp [finTx])
        have hz9 := blk9 HST.out.z
        go_split_ands
        go_wp2
        refine dec_ret HST.out.z rfl rfl rfl ?_
        rw [hDv.out]
        exact ⟨rfl, put9_below HST.out.bl (Nat.le_refl _)⟩
      rcases l1 with _ | ⟨y, l1⟩
      ·
        have hR := rightTx_any n1 n2 n3 n4 d1 d2 d3 d4 A c ws wr (by omega) (own_ws HST.out.own) ⟨by omega, by omega⟩
        have ht9 := blk9 HST.out.tx
        go_split_ands
        generalize hrt : rightTx ⟨n1, n2, n3, n4, d1, d2, d3, d4, ws⟩ = rt at *
        have HR := hidp hR
        have HRT := hidp hrt
        clear hR hrt
        cases rt
        all_goals
          go_wp2_with fail
          go_at_call 22
          refine (HR.out).mono ?_
          rintro e w8 ⟨rfl, hb8⟩
          have st8 := hidp (HST.out.below hb8)
          clear hb8 HR
        ·
          have hDv : Hid (D = none) := hidp (by rw [HD.out, HFv.out]; simp [finTx, txOf, HRT.out])
          have hz9 := blk9 st8.out.z
          go_split_ands
          go_wp2
          refine dec_ret st8.out.z rfl rfl rfl ?_
          rw [hDv.out]
          exact ⟨rfl, put9_below st8.out.bl (Nat.le_refl _)⟩
        ·
          have hDv : Hid (D = some ⟨n1, n2, n3, n4, d1, d2, d3, d4, ws⟩) := hidp (by rw [HD.out, HFv.out]; simp [finTx, txOf, HRT.out])
          have hz9 := blk9 st8.out.z
          have ht9 := blk9 st8.out.tx
          go_split_ands
          go_wp2
          refine dec_ret st8.out.z rfl rfl rfl ?_
          rw [hDv.out]
          refine ⟨A, c, rfl, put9_below st8.out.bl (Nat.le_refl _), ?_⟩
          have hlg := st8.out.lg
          have hlt := st8.out.lt
          exact put9_own (own_base st8.out.own (by omega)) (fun e => by have := (own_ge st8.out.own e).1; omega)
      ·
        have hDv : Hid (D = none) := hidp (by rw [HD.out, HFv.out]; simp [finTx])
        have hz9 := blk9 HST.out.z
        go_split_ands
        go_wp2
        refine dec_ret HST.out.z rfl rfl rfl ?_
        rw [hDv.out]
        exact ⟨rfl, put9_below HST.out.bl (Nat.le_refl _)⟩
    · rcases Bool.eq_false_or_eq_true bad with rfl | rfl
      · have HFv : Hid (F = (ws, ⟨l1, true⟩)) := hidp (by rw [← hF]; rfl)
        clear hF
        have hDv : Hid (D = none) := hidp (by rw [HD.out, HFv.out]; simp [finTx])
        have hz9 := blk9 HST.out.z
        go_split_ands
        go_wp2
        refine dec_ret HST.out.z rfl rfl rfl ?_
        rw [hDv.out]
        exact ⟨rfl, put9_below HST.out.bl (Nat.le_refl _)⟩
      ·
        have hw5 : ws.length ≤ 5 := h5 rfl
        obtain ⟨a1, ra, ka⟩ : ∃ a1 ra, numR ⟨l1, false⟩ = (a1, ra) := ⟨_, _, rfl⟩
        obtain ⟨a2, rb, kb⟩ : ∃ a2 rb, numR ra = (a2, rb) := ⟨_, _, rfl⟩
        obtain ⟨a3, rc, kc⟩ : ∃ a3 rc, textR rb = (a3, rc) := ⟨_, _, rfl⟩
        have hlena := num_to_len ka hlen
        have hlenb := num_to_len kb hlena
        have hlenc := text_to_len kc hlenb
        have hsa := num_to_le kb
        have hF' : Hid (wrsR k (ws ++ [⟨a1, a3, decide (a2 = 1)⟩]) ⟨rc.l, rc.bad || decide (1 < a2) || decide (5 ≤ ws.length)⟩ = F) := hidp (by
          rw [← hF]
          simp only [wrsR, wrR, ka, kb, kc, Bool.false_eq_true, if_false])
        clear hF
        have N1 := hidp fun W h => num_to ka (w.heap.size + 1) W h hlen
        have N2 := hidp fun W h => num_to kb (w.heap.size + 1) W h hlena
        have N3 := hidp fun W h => text_to kc (w.heap.size + 1) W h hlenb
        clear ka kb kc hlen hlena hlenb
        go_wp2_with fail
        go_at_call 64
        refine (N1.out _ HST.out.rd).mono ?_
        rintro e v1 ⟨rfl, hr1, hg1⟩
        have s1 := HST.out.call hr1 hg1
        have s1' := hidp (s1.round (k := a1) (dt := ⟨#[]⟩) (gn := false) rfl)
        clear hr1 hg1 s1 HST N1 b0 b1
        generalize hp : v1.heap.size = p at *
        go_wp2_with fail
        go_at_call 64
        refine (N2.out _ s1'.out.st.rd).mono ?_
        rintro e v2 ⟨rfl, hr2, hg2⟩
        have s2 := hidp (s1'.out.call hr2 hg2)
        clear hr2 hg2 s1' N2 hp
        go_wp2_with fail
        go_at_call 66
        refine (N3.out _ s2.out.st.rd).mono ?_
        rintro e v3 ⟨rfl, hr3, hg3⟩
        have s3 := hidp (s2.out.call hr3 hg3)
        clear hr3 hg3 s2 N3
        obtain ⟨lc, badc⟩ := rc
        obtain ⟨q, hbq, Aq, cq, rfl, hcq, hcmq, hxq⟩ := s3.out.st.rd
        have g0 := cell_blk hbq 0
        have g1 := cell_blk hbq 1
        have gf := frozen_blk hbq 1
        have q0 := cell_blk s3.out.t7 0
        have q1 := cell_blk s3.out.t7 1
        have q2 := cell_blk s3.out.t7 2
        have qf1 := frozen_blk s3.out.t7 1
        have qf2 := frozen_blk s3.out.t7 2
        have x8 := cell_blk s3.out.st.tx 8
        have xf := frozen_blk s3.out.st.tx 8
        simp at g0 g1 q0 q1 q2 x8
        have hp1 := s3.out.hp
        have hp2 := s3.out.st.lt
        have hp3 := lt_blk s3.out.t7
        clear hbq hxq
        simp only at *
        rcases Bool.eq_false_or_eq_true badc with rfl | rfl
        ·

          have e2 : decide (a2 = 1) = ((a2 : Int) == 1) := by rw [Bool.eq_iff_iff]; simp; omega
          have HF2 : Hid (wrsR k (ws ++ [⟨a1, a3, ((a2 : Int) == 1)⟩]) ⟨lc, true⟩ = F) := hidp (by rw [← hF'.out, e2]; simp)
          have HLB : Hid (true = false → ws.length + 1 ≤ 5) := hidp (by simp; try omega)
          clear e2
          have s4 := hidp (((s3.out.set (i := 2) (u := .bool ((a2 : Int) == 1)) rfl).set (i := 1) (u := .string a3) rfl).setBad true)
          go_wp2_with (at_builtin; go_must (refine wpList_append_lies _ rfl _ _ 38 rfl (tb + 1) 115 i0 (.agg #[.int .i64 0, .string ⟨#[]⟩, .bool false]) 3 32 Tryd.underlying38 hi hz0 hz1 hz2 rfl (by decide) (.slice A ws.length c) ws.length (wrCells ws) rfl ?c0 ⟨v3.heap.size, 0, none⟩ 1 1 [.int .i64 a1, .string a3, .bool ((a2 : Int) == 1)] rfl rfl (cells3_new (by simp [World.setCell])) ?c1 (by decide) ?c2 ?c3 ?c4 _ rfl ?_))
          case c0 => exact s4.out.st.own.alloc _
          case c1 => exact ⟨rfl, rfl, rfl⟩
          case c2 => simp only [maxLen]; omega
          case c3 => omega
          case c4 => first | omega | (simp; omega)
          intro gq cap w9 hown hgrow hgl hlt9
          have happ := s4.out.app hown hgrow
          obtain ⟨y8, yf, hst9⟩ := happ
          have s9 := hidp hst9
          clear hst9 hown hgrow hgl s4 s3
          go_wp2
          go_roundw
          case rel =>
            refine ⟨k, some ⟨gq, 0, none⟩, cap, ws ++ [⟨a1, a3, ((a2 : Int) == 1)⟩], ⟨lc, true⟩, congrArg (Value.int IntKind.i64) (by omega), by omega, HF2.out, hlenc, by simp; omega, fun h => by have := HLB.out h; simpa using this, ?_⟩
            have := s9.out
            simpa using this
          case measure => simp only [intOf]; omega
        · by_cases h2 : 1 < a2
          ·
            have e2 : decide (a2 = 1) = ((a2 : Int) == 1) := by rw [Bool.eq_iff_iff]; simp; omega
            have HF2 : Hid (wrsR k (ws ++ [⟨a1, a3, ((a2 : Int) == 1)⟩]) ⟨lc, true⟩ = F) := hidp (by rw [← hF'.out, e2]; simp [h2])
            have HLB : Hid (true = false → ws.length + 1 ≤ 5) := hidp (by simp; try omega)
            clear e2
            have s4 := hidp (((s3.out.set (i := 2) (u := .bool ((a2 : Int) == 1)) rfl).set (i := 1) (u := .string a3) rfl).setBad true)
            go_wp2_with (at_builtin; go_must (refine wpList_append_lies _ rfl _ _ 38 rfl (tb + 1) 115 i0 (.agg #[.int .i64 0, .string ⟨#[]⟩, .bool false]) 3 32 Tryd.underlying38 hi hz0 hz1 hz2 rfl (by decide) (.slice A ws.length c) ws.length (wrCells ws) rfl ?c0 ⟨v3.heap.size, 0, none⟩ 1 1 [.int .i64 a1, .string a3, .bool ((a2 : Int) == 1)] rfl rfl (cells3_new (by simp [World.setCell])) ?c1 (by decide) ?c2 ?c3 ?c4 _ rfl ?_))
            case c0 => exact s4.out.st.own.alloc _
            case c1 => exact ⟨rfl, rfl, rfl⟩
            case c2 => simp only [maxLen]; omega
            case c3 => omega
            case c4 => first | omega | (simp; omega)
            intro gq cap w9 hown hgrow hgl hlt9
            have happ := s4.out.app hown hgrow
            obtain ⟨y8, yf, hst9⟩ := happ
            have s9 := hidp hst9
            clear hst9 hown hgrow hgl s4 s3
            go_wp2
            go_roundw
            case rel =>
              refine ⟨k, some ⟨gq, 0, none⟩, cap, ws ++ [⟨a1, a3, ((a2 : Int) == 1)⟩], ⟨lc, true⟩, congrArg (Value.int IntKind.i64) (by omega), by omega, HF2.out, hlenc, by simp; omega, fun h => by have := HLB.out h; simpa using this, ?_⟩
              have := s9.out
              simpa using this
            case measure => simp only [intOf]; omega
          ·
            have e2 : decide (a2 = 1) = ((a2 : Int) == 1) := by rw [Bool.eq_iff_iff]; simp; omega
            have HF2 : Hid (wrsR k (ws ++ [⟨a1, a3, ((a2 : Int) == 1)⟩]) ⟨lc, (decide ((1 : Int) < (a2 : Int)) || decide ((5 : Int) ≤ (ws.length : Int)))⟩ = F) := hidp (by rw [← hF'.out, e2]; rw [show (false || decide (1 < a2) || decide (5 ≤ ws.length)) = (decide ((1 : Int) < (a2 : Int)) || decide ((5 : Int) ≤ (ws.length : Int))) from by rw [Bool.eq_iff_iff]; simp; omega])
            have HLB : Hid ((decide ((1 : Int) < (a2 : Int)) || decide ((5 : Int) ≤ (ws.length : Int))) = false → ws.length + 1 ≤ 5) := hidp (by simp; try omega)
            clear e2
            have s4 := hidp (((s3.out.set (i := 2) (u := .bool ((a2 : Int) == 1)) rfl).set (i := 1) (u := .string a3) rfl).setBad (decide ((1 : Int) < (a2 : Int)) || decide ((5 : Int) ≤ (ws.length : Int))))
            go_wp2_with (at_builtin; go_must (refine wpList_append_lies _ rfl _ _ 38 rfl (tb + 1) 115 i0 (.agg #[.int .i64 0, .string ⟨#[]⟩, .bool false]) 3 32 Tryd.underlying38 hi hz0 hz1 hz2 rfl (by decide) (.slice A ws.length c) ws.length (wrCells ws) rfl ?c0 ⟨v3.heap.size, 0, none⟩ 1 1 [.int .i64 a1, .string a3, .bool ((a2 : Int) == 1)] rfl rfl (cells3_new (by simp [World.setCell])) ?c1 (by decide) ?c2 ?c3 ?c4 _ rfl ?_))
            case c0 => exact s4.out.st.own.alloc _
            case c1 => exact ⟨rfl, rfl, rfl⟩
            case c2 => simp only [maxLen]; omega
            case c3 => omega
            case c4 => first | omega | (simp; omega)
            intro gq cap w9 hown hgrow hgl hlt9
            have happ := s4.out.app hown hgrow
            obtain ⟨y8, yf, hst9⟩ := happ
            have s9 := hidp hst9
            clear hst9 hown hgrow hgl s4 s3
            go_wp2
            go_roundw
            case rel =>
              refine ⟨k, some ⟨gq, 0, none⟩, cap, ws ++ [⟨a1, a3, ((a2 : Int) == 1)⟩], ⟨lc, (decide ((1 : Int) < (a2 : Int)) || decide ((5 : Int) ≤ (ws.length : Int)))⟩, congrArg (Value.int IntKind.i64) (by omega), by omega, HF2.out, hlenc, by simp; omega, fun h => by have := HLB.out h; simpa using this, ?_⟩
              have := s9.out
              simpa using this
            case measure => simp only [intOf]; omega

end Go.Proofs.YtbopfhbeegkkaaaDoor
