/- The law StorePlays, walked. -/
import Derived.Test.YtbopfhbeegkkaaaDoorSp8
namespace Go.Proofs.YtbopfhbeegkkaaaDoor
open Go.RowKit

structure PlP where
  what : Int
  key : Int
  v : VerP
  b0 : Int
  b1 : Int
  b2 : Int
  b3 : Int
instance : Inhabited PlP := ⟨⟨0, 0, default, 0, 0, 0, 0⟩⟩
def PlC (w : World) (b o : Nat) (x : PlP) : Prop := w.cell? ⟨b, o, none⟩ = some (.int .i64 x.what) ∧ w.cell? ⟨b, o + 1, none⟩ = some (.int .i64 x.key) ∧ w.cell? ⟨b, o + 2, none⟩ = some (.int .i64 x.v.w) ∧ w.cell? ⟨b, o + 3, none⟩ = some (.int .i64 x.v.c) ∧ w.cell? ⟨b, o + 4, none⟩ = some (.int .i64 x.v.site) ∧ w.cell? ⟨b, o + 5, none⟩ = some (.int .i64 x.v.seq) ∧ w.cell? ⟨b, o + 6, none⟩ = some (.string x.v.data) ∧ w.cell? ⟨b, o + 7, none⟩ = some (.bool x.v.gone) ∧ w.cell? ⟨b, o + 8, none⟩ = some (.int .i64 x.b0) ∧ w.cell? ⟨b, o + 9, none⟩ = some (.int .i64 x.b1) ∧ w.cell? ⟨b, o + 10, none⟩ = some (.int .i64 x.b2) ∧ w.cell? ⟨b, o + 11, none⟩ = some (.int .i64 x.b3)
theorem PlC.below {n : Nat} {w w' : World} {b o : Nat} {x : PlP} (h : PlC w b o x) (hb : Below n w w') (hlt : b < n) : PlC w' b o x := by
  obtain ⟨h0, h1, h2, h3, h4, h5, h6, h7, h8, h9, h10, h11⟩ := h
  have e : ∀ k, w'.cell? ⟨b, k, none⟩ = w.cell? ⟨b, k, none⟩ := fun k => hb.cell (p := ⟨b, k, none⟩) hlt
  unfold PlC
  exact ⟨by rw [e]; exact h0, by rw [e]; exact h1, by rw [e]; exact h2, by rw [e]; exact h3, by rw [e]; exact h4, by rw [e]; exact h5, by rw [e]; exact h6, by rw [e]; exact h7, by rw [e]; exact h8, by rw [e]; exact h9, by rw [e]; exact h10, by rw [e]; exact h11⟩
def PlAt (w : World) (A : Option Addr) (ls : List PlP) : Prop := ∀ (i : Nat) (x : PlP), ls[i]? = some x → ∃ b o, A = some ⟨b, o, none⟩ ∧ b < w.heap.size ∧ PlC w b (o + i * 12) x
theorem RfAt.fresh {w : World} {r n : Nat} (h : w.heap[r]? = some (.cells #[.slice none 0 0] 83)) : RfAt w r n [] (.slice none 0 0) := ⟨h, ⟨rfl, .inl ⟨rfl, rfl⟩⟩, by simp [Value.ownBlock]⟩
theorem T2.fresh {n g r : Nat} {o : Obj} {w1 w : World} (hg : w.heap[g]? = some (.cells #[.slice none 0 0, .slice none 0 0, .slice none 0 0, .slice none 0 0, .slice none 0 0, .slice none 0 0, .slice none 0 0, .slice none 0 0] 66)) (hr : w.heap[r]? = some (.cells #[.slice none 0 0] 83)) (hne : g ≠ r) (hB : Below n w1 w) (p1 : n ≤ g) (p2 : n ≤ r) (hn : 0 < n) (h0 : w.heap[0]? = some o) : T2 n w1 w g (fun _ => []) r [] 0 o :=
  ⟨_, _, StAt.fresh hg, RfAt.fresh hr, fun k x y => by
    have := own_fresh x
    rcases y with y | y
    · omega
    · simp [Value.ownBlock] at y, h0, fun x => by have := own_fresh x; omega, fun y => by
    rcases y with y | y
    · omega
    · simp [Value.ownBlock] at y, hB, p1, p2⟩

set_option maxRecDepth 20000 in
set_option maxHeartbeats 16000000 in
theorem storePlays_any (A : Option Addr) (c : Nat) (ls : List PlP) (w : World) (hg : EType w) (hps : PlAt w A ls) (hlen : ls.length ≤ maxLen) :
    Calls Tryd.prog 7 #[.slice A ls.length c] w fun e w' => e = .returned (.bool true) ∧ Below w.heap.size w w' := by
  have HG := hidp hg
  have HPS := hidp hps
  have HLM := hidp hlen
  have h0s : 0 < w.heap.size := World.block_lt_of_cell? w _ hg
  obtain ⟨o0, ho0⟩ : ∃ o0, w.heap[0]? = some o0 := ⟨_, Array.getElem?_eq_getElem h0s⟩
  clear hg hps hlen
  by_cases h80 : 80 < ls.length
  · clear HLM
    have hd0 : decide ((80 : Int) < (ls.length : Int)) = true := decide_eq_true (by omega)
    go_enter Tryd.func7, Tryd.ntmps7
    go_wp2_with fail
    go_ret
    exact ⟨rfl, (by repeat (first | exact Below.refl _ _ | refine blw_alloc ?_ | refine blw_plus ?_ | refine Below.drew ?_))⟩
  have hd0 : decide ((80 : Int) < (ls.length : Int)) = false := decide_eq_false (by omega)
  have hn : ls.length ≤ 80 := by omega
  clear HLM h80
  have HT0 : Hid (T2 w.heap.size w ((w.alloc (.cells #[.slice none 0 0, .slice none 0 0, .slice none 0 0, .slice none 0 0, .slice none 0 0, .slice none 0 0, .slice none 0 0, .slice none 0 0] 66)).alloc (.cells #[.slice none 0 0] 83)) w.heap.size (fun _ => []) (w.heap.size + 1) [] 0 o0) :=
    hidp (T2.fresh (blk_alloc (blk_new rfl _) _) (blk_new (by simp) _) (by omega) (by repeat (first | exact Below.refl _ _ | refine blw_alloc ?_ | refine blw_plus ?_ | refine Below.drew ?_)) (Nat.le_refl _) (by omega) h0s (blk_alloc (blk_alloc ho0 _) _))
  clear ho0
  go_enter Tryd.func7, Tryd.ntmps7
  go_wp2_with fail
  go_loopw [5] (fun i wr => ∃ (j : Nat) (S : Nat → List VerP) (L : List PtP) (bx : Nat) (o : Obj), i = .int .i64 j ∧ j ≤ ls.length ∧ Sam S L j ∧ T2 w.heap.size w wr w.heap.size S (w.heap.size + 1) L bx o) (fun i _ => ls.length - (intOf i).toNat)
  case atStart => exact ⟨0, _, _, 0, o0, rfl, Nat.zero_le _, Sam.nil 0, HT0.out⟩
  case round =>
    obtain ⟨j, S, L, bx, o1, rfl, hj, hsm, ht⟩ := hrel
    have HT := hidp ht
    have HSM := hidp hsm
    clear ht hsm HT0
    by_cases hjl : j < ls.length
    · obtain ⟨b, o, rfl, hb, hc⟩ := HPS.out j ls[j] (List.getElem?_eq_getElem hjl)
      generalize ls[j] = xx at hc
      obtain ⟨wh, key, ⟨vw, vc, vs, vq, vd, vg⟩, b0, b1, b2, b3⟩ := xx
      have hlow := HT.out.low
      obtain ⟨d0, d1, d2, d3, d4, d5, d6, d7, d8, d9, d10, d11⟩ := hc.below hlow hb
      simp only at d0 d1 d2 d3 d4 d5 d6 d7 d8 d9 d10 d11
      haveI : SzGe (b + 1) wr := ⟨Nat.le_trans hb hlow.size⟩
      haveI : SzGe w.heap.size wr := ⟨hlow.size⟩
      have HLW := hidp hlow
      clear hc hlow
      by_cases h100 : 100 < vd.size
      · have hd1 : decide ((100 : Int) < (vd.size : Int)) = true := decide_eq_true (by omega)
        go_wp2_with fail
        go_roundw
        case rel => exact ⟨j + 1, S, L, bx, o1, by go_num, by omega, HSM.out.mono (by omega), HT.out.below (by repeat (first | exact Below.refl _ _ | refine blw_alloc ?_ | refine blw_plus ?_ | refine Below.drew ?_))⟩
        case measure => simp [intOf]; omega
      have hd1 : decide ((100 : Int) < (vd.size : Int)) = false := decide_eq_false (by omega)
      have HTB := hidp (HT.out.rebox (.cells #[.int .i64 wh, .int .i64 key, .int .i64 vw, .int .i64 vc, .int .i64 vs, .int .i64 vq, .string vd, .bool vg, .int .i64 b0, .int .i64 b1, .int .i64 b2, .int .i64 b3] 85))
      have HB0 := hidp HTB.out.box
      by_cases hw0 : wh = 0
      · have hx0 : (wh == 0) = true := by simp [hw0]
        have HW0 := hidp hw0
        clear hw0
        have HSP := HSM.out.put key ⟨vw, vc, vs, vq, vd, vg⟩
        obtain ⟨⟨pn, S2⟩, hP⟩ : ∃ R, putR S key ⟨vw, vc, vs, vq, vd, vg⟩ = R := ⟨_, rfl⟩
        obtain ⟨⟨rn, L2⟩, hQ⟩ : ∃ R, rPut L key ⟨vw, vc, vs, vq, vd, vg⟩ = R := ⟨_, rfl⟩
        rw [hP, hQ] at HSP
        obtain ⟨hrn, hsc⟩ := HSP
        simp only at hrn hsc
        subst hrn
        have HSC := hidp hsc
        have HPC : Hid (∀ W, T2 w.heap.size w W w.heap.size S (w.heap.size + 1) L wr.heap.size (.cells #[.int .i64 wh, .int .i64 key, .int .i64 vw, .int .i64 vc, .int .i64 vs, .int .i64 vq, .string vd, .bool vg, .int .i64 b0, .int .i64 b1, .int .i64 b2, .int .i64 b3] 85) → Calls Tryd.prog 34 #[.pointer (some ⟨w.heap.size, 0, none⟩), .int .i64 key, .agg #[.int .i64 vw, .int .i64 vc, .int .i64 vs, .int .i64 vq, .string vd, .bool vg]] W fun e w' => e = .returned (errV rn) ∧ T2 w.heap.size w w' w.heap.size S2 (w.heap.size + 1) L wr.heap.size (.cells #[.int .i64 wh, .int .i64 key, .int .i64 vw, .int .i64 vc, .int .i64 vs, .int .i64 vq, .string vd, .bool vg, .int .i64 b0, .int .i64 b1, .int .i64 b2, .int .i64 b3] 85)) := hidp (by
          intro W hW
          have := hW.put key ⟨vw, vc, vs, vq, vd, vg⟩ (HSM.out.fit (by omega))
          rw [hP] at this
          exact this.mono fun e w' h => ⟨h.1, h.2.1⟩)
        have HRC : Hid (∀ W, T2 w.heap.size w W w.heap.size S2 (w.heap.size + 1) L wr.heap.size (.cells #[.int .i64 wh, .int .i64 key, .int .i64 vw, .int .i64 vc, .int .i64 vs, .int .i64 vq, .string vd, .bool vg, .int .i64 b0, .int .i64 b1, .int .i64 b2, .int .i64 b3] 85) → Calls Tryd.prog 38 #[.pointer (some ⟨w.heap.size + 1, 0, none⟩), .int .i64 key, .agg #[.int .i64 vw, .int .i64 vc, .int .i64 vs, .int .i64 vq, .string vd, .bool vg]] W fun e w' => e = .returned (.int .i64 rn) ∧ T2 w.heap.size w w' w.heap.size S2 (w.heap.size + 1) L2 wr.heap.size (.cells #[.int .i64 wh, .int .i64 key, .int .i64 vw, .int .i64 vc, .int .i64 vs, .int .i64 vq, .string vd, .bool vg, .int .i64 b0, .int .i64 b1, .int .i64 b2, .int .i64 b3] 85)) := hidp (by
          intro W hW
          have := hW.rput key ⟨vw, vc, vs, vq, vd, vg⟩ (Nat.le_trans HSM.out.len (by omega))
          rw [hQ] at this
          exact this.mono fun e w' h => ⟨h.1, h.2.1⟩)
        clear hP hQ hsc
        have HGW := hidp (HG.out.plus HLW.out)
        go_wp2_with fail
        have HTQ := hidp HTB.out
        generalize wr.alloc (.cells #[.int .i64 wh, .int .i64 key, .int .i64 vw, .int .i64 vc, .int .i64 vs, .int .i64 vq, .string vd, .bool vg, .int .i64 b0, .int .i64 b1, .int .i64 b2, .int .i64 b3] 85) = wq at *
        have hqb := HTQ.out.box
        haveI : SzGe (wr.heap.size + 1) wq := ⟨lt_blk hqb⟩
        have q0 := cell_blk hqb 0; have q1 := cell_blk hqb 1; have q2 := cell_blk hqb 2; have q3 := cell_blk hqb 3; have q4 := cell_blk hqb 4; have q5 := cell_blk hqb 5; have q6 := cell_blk hqb 6; have q7 := cell_blk hqb 7; have q8 := cell_blk hqb 8; have q9 := cell_blk hqb 9; have q10 := cell_blk hqb 10; have q11 := cell_blk hqb 11
        simp only [List.getElem?_toArray, List.getElem?_cons_zero, List.getElem?_cons_succ] at q0 q1 q2 q3 q4 q5 q6 q7 q8 q9 q10 q11
        clear hqb
        clear d0 d1 d2 d3 d4 d5 d6 d7 d8 d9 d10 d11
        go_region_held3 (fun W : World => W.cell? ⟨wr.heap.size, 1, none⟩ = some (.int .i64 key) ∧ W.cell? ⟨wr.heap.size, 2, none⟩ = some (.int .i64 vw) ∧ W.cell? ⟨wr.heap.size, 3, none⟩ = some (.int .i64 vc) ∧ W.cell? ⟨wr.heap.size, 4, none⟩ = some (.int .i64 vs) ∧ W.cell? ⟨wr.heap.size, 5, none⟩ = some (.int .i64 vq) ∧ W.cell? ⟨wr.heap.size, 6, none⟩ = some (.string vd) ∧ W.cell? ⟨wr.heap.size, 7, none⟩ = some (.bool vg)) ((repeat' apply And.intro) <;> simp [go_sem, *]) (first
          | (go_at_call 34; refine (HPC.out _ (HTQ.out.below (by repeat (first | exact Below.refl _ _ | refine blw_alloc ?_ | refine blw_plus ?_ | refine Below.drew ?_)))).mono ?_; rintro e wA ⟨rfl, ht⟩; have HTA := hidp ht; clear ht; have hqa := HTA.out.box; haveI : SzGe (wr.heap.size + 1) wA := ⟨lt_blk hqa⟩; have u0 := cell_blk hqa 0; have u1 := cell_blk hqa 1; have u2 := cell_blk hqa 2; have u3 := cell_blk hqa 3; have u4 := cell_blk hqa 4; have u5 := cell_blk hqa 5; have u6 := cell_blk hqa 6; have u7 := cell_blk hqa 7; have u8 := cell_blk hqa 8; have u9 := cell_blk hqa 9; have u10 := cell_blk hqa 10; have u11 := cell_blk hqa 11; simp only [List.getElem?_toArray, List.getElem?_cons_zero, List.getElem?_cons_succ] at u0 u1 u2 u3 u4 u5 u6 u7 u8 u9 u10 u11; clear hqa)
          | (go_at_call 38; refine (HRC.out _ HTA.out).mono ?_; rintro e wB ⟨rfl, ht⟩; have HTA2 := hidp ht; clear ht; have hqa := HTA2.out.box; haveI : SzGe (wr.heap.size + 1) wB := ⟨lt_blk hqa⟩; have t0 := cell_blk hqa 0; have t1 := cell_blk hqa 1; have t2 := cell_blk hqa 2; have t3 := cell_blk hqa 3; have t4 := cell_blk hqa 4; have t5 := cell_blk hqa 5; have t6 := cell_blk hqa 6; have t7 := cell_blk hqa 7; have t8 := cell_blk hqa 8; have t9 := cell_blk hqa 9; have t10 := cell_blk hqa 10; have t11 := cell_blk hqa 11; simp only [List.getElem?_toArray, List.getElem?_cons_zero, List.getElem?_cons_succ] at t0 t1 t2 t3 t4 t5 t6 t7 t8 t9 t10 t11; clear hqa)
          | (go_at_call 12; refine (bareL_any rn _ (HG.out.plus HTA2.out.low)).mono ?_; rintro e w' ⟨rfl, hb⟩; obtain ⟨x, rfl⟩ := wplus_of_below hb; clear hb))
        all_goals
          have HTC0 := hidp (HTA2.out.below (below_wplus _ x))
          generalize wplus wB x = wc at *
          have HTC := hidp HTC0.out
          clear HTC0 HTA HTA2 q0 t0 u0 q1 t1 u1 q2 t2 u2 q3 t3 u3 q4 t4 u4 q5 t5 u5 q6 t6 u6 q7 t7 u7 q8 t8 u8 q9 t9 u9 q10 t10 u10 q11 t11 u11
          obtain ⟨⟨⟨xw, xc, xs, xq, xd, xg⟩, z⟩, hR⟩ : ∃ R, readR b0 b1 b2 b3 S2 key = R := ⟨_, rfl⟩
          have HR := hidp hR
          clear hR
          have hqb := HTC.out.box
          haveI : SzGe (wr.heap.size + 1) wc := ⟨lt_blk hqb⟩
          have q0 := cell_blk hqb 0; have q1 := cell_blk hqb 1; have q2 := cell_blk hqb 2; have q3 := cell_blk hqb 3; have q4 := cell_blk hqb 4; have q5 := cell_blk hqb 5; have q6 := cell_blk hqb 6; have q7 := cell_blk hqb 7; have q8 := cell_blk hqb 8; have q9 := cell_blk hqb 9; have q10 := cell_blk hqb 10; have q11 := cell_blk hqb 11
          simp only [List.getElem?_toArray, List.getElem?_cons_zero, List.getElem?_cons_succ] at q0 q1 q2 q3 q4 q5 q6 q7 q8 q9 q10 q11
          clear hqb
          go_wp2_with fail
          go_at_call 40
          refine (HTC.out.rread HSC.out (by omega) key b0 b1 b2 b3 HR.out).mono ?_
          rintro e w4 ⟨rfl, hb⟩
          obtain ⟨x4, rfl⟩ := wplus_of_below hb
          clear hb
          go_wp2_with fail
          go_at_call 36
          refine ((HTC.out.below (by repeat (first | exact Below.refl _ _ | refine blw_alloc ?_ | refine blw_plus ?_ | refine Below.drew ?_))).read HSC.out (by omega) key b0 b1 b2 b3 HR.out).mono ?_
          rintro e w5 ⟨rfl, hb⟩
          obtain ⟨x5, rfl⟩ := wplus_of_below hb
          clear hb
          go_wp2_with fail
          have HD0 := hidp (HTC.out.below (show Below wc.heap.size wc ((wplus ((wplus wc x4).alloc (.cells #[.int .i64 xw, .int .i64 xc, .int .i64 xs, .int .i64 xq, .string xd, .bool xg] 71)) x5).alloc (.cells #[.int .i64 xw, .int .i64 xc, .int .i64 xs, .int .i64 xq, .string xd, .bool xg] 71)) from (by repeat (first | exact Below.refl _ _ | refine blw_alloc ?_ | refine blw_plus ?_ | refine Below.drew ?_))))
          have H70 : Hid (((wplus ((wplus wc x4).alloc (.cells #[.int .i64 xw, .int .i64 xc, .int .i64 xs, .int .i64 xq, .string xd, .bool xg] 71)) x5).alloc (.cells #[.int .i64 xw, .int .i64 xc, .int .i64 xs, .int .i64 xq, .string xd, .bool xg] 71)).heap[wc.heap.size + x4.blocks.size]? = some (.cells #[.int .i64 xw, .int .i64 xc, .int .i64 xs, .int .i64 xq, .string xd, .bool xg] 71)) := hidp (blk_alloc ((wplus_heap_lt _ x5 _ (by simp)).trans (blk_new (by simp) _)) _)
          have H90 : Hid (((wplus ((wplus wc x4).alloc (.cells #[.int .i64 xw, .int .i64 xc, .int .i64 xs, .int .i64 xq, .string xd, .bool xg] 71)) x5).alloc (.cells #[.int .i64 xw, .int .i64 xc, .int .i64 xs, .int .i64 xq, .string xd, .bool xg] 71)).heap[wc.heap.size + x4.blocks.size + 1 + x5.blocks.size]? = some (.cells #[.int .i64 xw, .int .i64 xc, .int .i64 xs, .int .i64 xq, .string xd, .bool xg] 71)) := hidp (blk_new (by simp) _)
          clear q0 q1 q2 q3 q4 q5 q6 q7 q8 q9 q10 q11
          generalize (wplus ((wplus wc x4).alloc (.cells #[.int .i64 xw, .int .i64 xc, .int .i64 xs, .int .i64 xq, .string xd, .bool xg] 71)) x5).alloc (.cells #[.int .i64 xw, .int .i64 xc, .int .i64 xs, .int .i64 xq, .string xd, .bool xg] 71) = WD at *
          generalize wc.heap.size + x4.blocks.size + 1 + x5.blocks.size = p9 at *
          generalize wc.heap.size + x4.blocks.size = p7 at *
          have HD := hidp HD0.out
          have HGD := hidp (HG.out.plus HD.out.low)
          have hdb := HD.out.box
          have q0 := cell_blk hdb 0; have q1 := cell_blk hdb 1; have q2 := cell_blk hdb 2; have q3 := cell_blk hdb 3; have q4 := cell_blk hdb 4; have q5 := cell_blk hdb 5; have q6 := cell_blk hdb 6; have q7 := cell_blk hdb 7; have q8 := cell_blk hdb 8; have q9 := cell_blk hdb 9; have q10 := cell_blk hdb 10; have q11 := cell_blk hdb 11
          simp only [List.getElem?_toArray, List.getElem?_cons_zero, List.getElem?_cons_succ] at q0 q1 q2 q3 q4 q5 q6 q7 q8 q9 q10 q11
          have r0 := cell_blk H70.out 0; have r1 := cell_blk H70.out 1; have r2 := cell_blk H70.out 2; have r3 := cell_blk H70.out 3; have r4 := cell_blk H70.out 4; have r5 := cell_blk H70.out 5
          simp only [List.getElem?_toArray, List.getElem?_cons_zero, List.getElem?_cons_succ] at r0 r1 r2 r3 r4 r5
          have s0 := cell_blk H90.out 0; have s1 := cell_blk H90.out 1; have s2 := cell_blk H90.out 2; have s3 := cell_blk H90.out 3; have s4 := cell_blk H90.out 4; have s5 := cell_blk H90.out 5
          simp only [List.getElem?_toArray, List.getElem?_cons_zero, List.getElem?_cons_succ] at s0 s1 s2 s3 s4 s5
          obtain ⟨A9, c9, hrc, hlr⟩ := HD.out.rcell
          haveI : SzGe (p7 + 1) WD := ⟨lt_blk H70.out⟩
          haveI : SzGe (p9 + 1) WD := ⟨lt_blk H90.out⟩
          haveI : SzGe (wr.heap.size + 1) WD := ⟨lt_blk hdb⟩
          haveI : SzGe (w.heap.size + 1 + 1) WD := ⟨hlr⟩
          have HEQ : ∀ (w : World) (d : Nat), (Op.equalIn (d + 3) 71 (.agg #[.int .i64 xw, .int .i64 xc, .int .i64 xs, .int .i64 xq, .string xd, .bool xg]) (.agg #[.int .i64 xw, .int .i64 xc, .int .i64 xs, .int .i64 xq, .string xd, .bool xg])).run Tryd.prog w = .ok true w := fun w d => by rw [eqVerB]; simp
          clear hdb HD0
          go_region_held3 (fun W : World => W.cell? ⟨p7, 0, none⟩ = some (.int .i64 xw) ∧ W.cell? ⟨p7, 1, none⟩ = some (.int .i64 xc) ∧ W.cell? ⟨p7, 2, none⟩ = some (.int .i64 xs) ∧ W.cell? ⟨p7, 3, none⟩ = some (.int .i64 xq) ∧ W.cell? ⟨p7, 4, none⟩ = some (.string xd) ∧ W.cell? ⟨p7, 5, none⟩ = some (.bool xg) ∧ W.cell? ⟨p9, 0, none⟩ = some (.int .i64 xw) ∧ W.cell? ⟨p9, 1, none⟩ = some (.int .i64 xc) ∧ W.cell? ⟨p9, 2, none⟩ = some (.int .i64 xs) ∧ W.cell? ⟨p9, 3, none⟩ = some (.int .i64 xq) ∧ W.cell? ⟨p9, 4, none⟩ = some (.string xd) ∧ W.cell? ⟨p9, 5, none⟩ = some (.bool xg) ∧ W.cell? ⟨wr.heap.size, 8, none⟩ = some (.int .i64 b0) ∧ W.cell? ⟨wr.heap.size, 9, none⟩ = some (.int .i64 b1) ∧ W.cell? ⟨wr.heap.size, 10, none⟩ = some (.int .i64 b2) ∧ W.cell? ⟨wr.heap.size, 11, none⟩ = some (.int .i64 b3) ∧ W.cell? ⟨w.heap.size + 1, 0, none⟩ = some (.slice A9 L2.length c9)) ((repeat' apply And.intro) <;> simp [go_sem, *]) (first
            | (go_at_call 12; refine (bareL_any z _ (HGD.out.plus (by repeat (first | exact Below.refl _ _ | refine blw_alloc ?_ | refine blw_plus ?_ | refine Below.drew ?_)))).mono ?_; rintro e w' ⟨rfl, hb⟩; obtain ⟨x, rfl⟩ := wplus_of_below hb; clear hb)
            | (go_at_call 41; refine ((HD.out.below (by repeat (first | exact Below.refl _ _ | refine blw_alloc ?_ | refine blw_plus ?_ | refine Below.drew ?_))).many HSC.out (by omega)).mono ?_; rintro e w' ⟨rfl, hb⟩; obtain ⟨x, rfl⟩ := wplus_of_below hb; clear hb)
            | (go_at_call 43; refine ((HD.out.below (by repeat (first | exact Below.refl _ _ | refine blw_alloc ?_ | refine blw_plus ?_ | refine Below.drew ?_))).all HSC.out (by omega) b0 b1 b2 b3).mono ?_; rintro e w' ⟨A1, c1, rfl, hts, hb⟩; have HTS1 := hidp hts; clear hts; obtain ⟨x, rfl⟩ := wplus_of_below hb; clear hb)
            | (go_at_call 44; refine ((HD.out.below (by repeat (first | exact Below.refl _ _ | refine blw_alloc ?_ | refine blw_plus ?_ | refine Below.drew ?_))).told HSC.out (by omega) b0 b1 b2 b3).mono ?_; rintro e w' ⟨A2, c2, rfl, hts, hb⟩; have HTS2 := hidp hts; clear hts; have HTS3 := hidp (HTS1.out.below hb); obtain ⟨x, rfl⟩ := wplus_of_below hb; clear hb)
            | (go_at_call 42; refine (sameTexts_any A1 A2 c1 c2 _ _ HTS3.out HTS2.out (toldT_len _ _)).mono ?_; rintro e w' ⟨rfl, hb⟩; obtain ⟨x, rfl⟩ := wplus_of_below hb; clear hb))
          all_goals
            go_wp2_with fail
            go_roundw
            case rel => exact ⟨j + 1, S2, L2, wr.heap.size, (.cells #[.int .i64 wh, .int .i64 key, .int .i64 vw, .int .i64 vc, .int .i64 vs, .int .i64 vq, .string vd, .bool vg, .int .i64 b0, .int .i64 b1, .int .i64 b2, .int .i64 b3] 85), by go_num, by omega, HSC.out, HD.out.below (by repeat (first | exact Below.refl _ _ | refine blw_alloc ?_ | refine blw_plus ?_ | refine Below.drew ?_))⟩
            case measure => simp [intOf]; omega
      by_cases hw1 : wh = 1
      · have hx0 : (wh == 0) = false := by simpa using hw0
        have hx1 : (wh == 1) = true := by simp [hw1]
        have HW1 := hidp hw1
        clear hw0 hw1
        go_wp2_with fail
        go_at_call 33
        refine (HTB.out.sweep b0 b1 b2 b3 (HSM.out.fit (by omega))).mono ?_
        rintro e wA ⟨rfl, ht, hz⟩
        have HTA := hidp ht
        clear ht hz
        have hqb := HTA.out.box
        haveI : SzGe (wr.heap.size + 1) wA := ⟨lt_blk hqb⟩
        have q0 := cell_blk hqb 0; have q1 := cell_blk hqb 1; have q2 := cell_blk hqb 2; have q3 := cell_blk hqb 3; have q4 := cell_blk hqb 4; have q5 := cell_blk hqb 5; have q6 := cell_blk hqb 6; have q7 := cell_blk hqb 7; have q8 := cell_blk hqb 8; have q9 := cell_blk hqb 9; have q10 := cell_blk hqb 10; have q11 := cell_blk hqb 11
        simp only [List.getElem?_toArray, List.getElem?_cons_zero, List.getElem?_cons_succ] at q0 q1 q2 q3 q4 q5 q6 q7 q8 q9 q10 q11
        clear hqb
        clear d0 d1 d2 d3 d4 d5 d6 d7 d8 d9 d10 d11
        go_wp2_with fail
        go_at_call 39
        refine (HTA.out.rsweep b0 b1 b2 b3 HSM.out.rep.site (Nat.le_trans HSM.out.len (by omega))).mono ?_
        rintro e wc ⟨rfl, ht, hz⟩
        have HTC := hidp ht
        have HSC := hidp ((HSM.out.sweep b0 b1 b2 b3).mono (show j ≤ j + 1 by omega))
        clear ht hz HTA q0 q1 q2 q3 q4 q5 q6 q7 q8 q9 q10 q11
        generalize sweepS b0 b1 b2 b3 S = S2 at *
        generalize rSweep b0 b1 b2 b3 L = L2 at *
        obtain ⟨⟨⟨xw, xc, xs, xq, xd, xg⟩, z⟩, hR⟩ : ∃ R, readR b0 b1 b2 b3 S2 key = R := ⟨_, rfl⟩
        have HR := hidp hR
        clear hR
        have hqb := HTC.out.box
        haveI : SzGe (wr.heap.size + 1) wc := ⟨lt_blk hqb⟩
        have q0 := cell_blk hqb 0; have q1 := cell_blk hqb 1; have q2 := cell_blk hqb 2; have q3 := cell_blk hqb 3; have q4 := cell_blk hqb 4; have q5 := cell_blk hqb 5; have q6 := cell_blk hqb 6; have q7 := cell_blk hqb 7; have q8 := cell_blk hqb 8; have q9 := cell_blk hqb 9; have q10 := cell_blk hqb 10; have q11 := cell_blk hqb 11
        simp only [List.getElem?_toArray, List.getElem?_cons_zero, List.getElem?_cons_succ] at q0 q1 q2 q3 q4 q5 q6 q7 q8 q9 q10 q11
        clear hqb
        go_wp2_with fail
        go_at_call 40
        refine (HTC.out.rread HSC.out (by omega) key b0 b1 b2 b3 HR.out).mono ?_
        rintro e w4 ⟨rfl, hb⟩
        obtain ⟨x4, rfl⟩ := wplus_of_below hb
        clear hb
        go_wp2_with fail
        go_at_call 36
        refine ((HTC.out.below (by repeat (first | exact Below.refl _ _ | refine blw_alloc ?_ | refine blw_plus ?_ | refine Below.drew ?_))).read HSC.out (by omega) key b0 b1 b2 b3 HR.out).mono ?_
        rintro e w5 ⟨rfl, hb⟩
        obtain ⟨x5, rfl⟩ := wplus_of_below hb
        clear hb
        go_wp2_with fail
        have HD0 := hidp (HTC.out.below (show Below wc.heap.size wc ((wplus ((wplus wc x4).alloc (.cells #[.int .i64 xw, .int .i64 xc, .int .i64 xs, .int .i64 xq, .string xd, .bool xg] 71)) x5).alloc (.cells #[.int .i64 xw, .int .i64 xc, .int .i64 xs, .int .i64 xq, .string xd, .bool xg] 71)) from (by repeat (first | exact Below.refl _ _ | refine blw_alloc ?_ | refine blw_plus ?_ | refine Below.drew ?_))))
        have H70 : Hid (((wplus ((wplus wc x4).alloc (.cells #[.int .i64 xw, .int .i64 xc, .int .i64 xs, .int .i64 xq, .string xd, .bool xg] 71)) x5).alloc (.cells #[.int .i64 xw, .int .i64 xc, .int .i64 xs, .int .i64 xq, .string xd, .bool xg] 71)).heap[wc.heap.size + x4.blocks.size]? = some (.cells #[.int .i64 xw, .int .i64 xc, .int .i64 xs, .int .i64 xq, .string xd, .bool xg] 71)) := hidp (blk_alloc ((wplus_heap_lt _ x5 _ (by simp)).trans (blk_new (by simp) _)) _)
        have H90 : Hid (((wplus ((wplus wc x4).alloc (.cells #[.int .i64 xw, .int .i64 xc, .int .i64 xs, .int .i64 xq, .string xd, .bool xg] 71)) x5).alloc (.cells #[.int .i64 xw, .int .i64 xc, .int .i64 xs, .int .i64 xq, .string xd, .bool xg] 71)).heap[wc.heap.size + x4.blocks.size + 1 + x5.blocks.size]? = some (.cells #[.int .i64 xw, .int .i64 xc, .int .i64 xs, .int .i64 xq, .string xd, .bool xg] 71)) := hidp (blk_new (by simp) _)
        clear q0 q1 q2 q3 q4 q5 q6 q7 q8 q9 q10 q11
        generalize (wplus ((wplus wc x4).alloc (.cells #[.int .i64 xw, .int .i64 xc, .int .i64 xs, .int .i64 xq, .string xd, .bool xg] 71)) x5).alloc (.cells #[.int .i64 xw, .int .i64 xc, .int .i64 xs, .int .i64 xq, .string xd, .bool xg] 71) = WD at *
        generalize wc.heap.size + x4.blocks.size + 1 + x5.blocks.size = p9 at *
        generalize wc.heap.size + x4.blocks.size = p7 at *
        have HD := hidp HD0.out
        have HGD := hidp (HG.out.plus HD.out.low)
        have hdb := HD.out.box
        have q0 := cell_blk hdb 0; have q1 := cell_blk hdb 1; have q2 := cell_blk hdb 2; have q3 := cell_blk hdb 3; have q4 := cell_blk hdb 4; have q5 := cell_blk hdb 5; have q6 := cell_blk hdb 6; have q7 := cell_blk hdb 7; have q8 := cell_blk hdb 8; have q9 := cell_blk hdb 9; have q10 := cell_blk hdb 10; have q11 := cell_blk hdb 11
        simp only [List.getElem?_toArray, List.getElem?_cons_zero, List.getElem?_cons_succ] at q0 q1 q2 q3 q4 q5 q6 q7 q8 q9 q10 q11
        have r0 := cell_blk H70.out 0; have r1 := cell_blk H70.out 1; have r2 := cell_blk H70.out 2; have r3 := cell_blk H70.out 3; have r4 := cell_blk H70.out 4; have r5 := cell_blk H70.out 5
        simp only [List.getElem?_toArray, List.getElem?_cons_zero, List.getElem?_cons_succ] at r0 r1 r2 r3 r4 r5
        have s0 := cell_blk H90.out 0; have s1 := cell_blk H90.out 1; have s2 := cell_blk H90.out 2; have s3 := cell_blk H90.out 3; have s4 := cell_blk H90.out 4; have s5 := cell_blk H90.out 5
        simp only [List.getElem?_toArray, List.getElem?_cons_zero, List.getElem?_cons_succ] at s0 s1 s2 s3 s4 s5
        obtain ⟨A9, c9, hrc, hlr⟩ := HD.out.rcell
        haveI : SzGe (p7 + 1) WD := ⟨lt_blk H70.out⟩
        haveI : SzGe (p9 + 1) WD := ⟨lt_blk H90.out⟩
        haveI : SzGe (wr.heap.size + 1) WD := ⟨lt_blk hdb⟩
        haveI : SzGe (w.heap.size + 1 + 1) WD := ⟨hlr⟩
        have HEQ : ∀ (w : World) (d : Nat), (Op.equalIn (d + 3) 71 (.agg #[.int .i64 xw, .int .i64 xc, .int .i64 xs, .int .i64 xq, .string xd, .bool xg]) (.agg #[.int .i64 xw, .int .i64 xc, .int .i64 xs, .int .i64 xq, .string xd, .bool xg])).run Tryd.prog w = .ok true w := fun w d => by rw [eqVerB]; simp
        clear hdb HD0
        go_region_held3 (fun W : World => W.cell? ⟨p7, 0, none⟩ = some (.int .i64 xw) ∧ W.cell? ⟨p7, 1, none⟩ = some (.int .i64 xc) ∧ W.cell? ⟨p7, 2, none⟩ = some (.int .i64 xs) ∧ W.cell? ⟨p7, 3, none⟩ = some (.int .i64 xq) ∧ W.cell? ⟨p7, 4, none⟩ = some (.string xd) ∧ W.cell? ⟨p7, 5, none⟩ = some (.bool xg) ∧ W.cell? ⟨p9, 0, none⟩ = some (.int .i64 xw) ∧ W.cell? ⟨p9, 1, none⟩ = some (.int .i64 xc) ∧ W.cell? ⟨p9, 2, none⟩ = some (.int .i64 xs) ∧ W.cell? ⟨p9, 3, none⟩ = some (.int .i64 xq) ∧ W.cell? ⟨p9, 4, none⟩ = some (.string xd) ∧ W.cell? ⟨p9, 5, none⟩ = some (.bool xg) ∧ W.cell? ⟨wr.heap.size, 8, none⟩ = some (.int .i64 b0) ∧ W.cell? ⟨wr.heap.size, 9, none⟩ = some (.int .i64 b1) ∧ W.cell? ⟨wr.heap.size, 10, none⟩ = some (.int .i64 b2) ∧ W.cell? ⟨wr.heap.size, 11, none⟩ = some (.int .i64 b3) ∧ W.cell? ⟨w.heap.size + 1, 0, none⟩ = some (.slice A9 L2.length c9)) ((repeat' apply And.intro) <;> simp [go_sem, *]) (first
          | (go_at_call 12; refine (bareL_any z _ (HGD.out.plus (by repeat (first | exact Below.refl _ _ | refine blw_alloc ?_ | refine blw_plus ?_ | refine Below.drew ?_)))).mono ?_; rintro e w' ⟨rfl, hb⟩; obtain ⟨x, rfl⟩ := wplus_of_below hb; clear hb)
          | (go_at_call 41; refine ((HD.out.below (by repeat (first | exact Below.refl _ _ | refine blw_alloc ?_ | refine blw_plus ?_ | refine Below.drew ?_))).many HSC.out (by omega)).mono ?_; rintro e w' ⟨rfl, hb⟩; obtain ⟨x, rfl⟩ := wplus_of_below hb; clear hb)
          | (go_at_call 43; refine ((HD.out.below (by repeat (first | exact Below.refl _ _ | refine blw_alloc ?_ | refine blw_plus ?_ | refine Below.drew ?_))).all HSC.out (by omega) b0 b1 b2 b3).mono ?_; rintro e w' ⟨A1, c1, rfl, hts, hb⟩; have HTS1 := hidp hts; clear hts; obtain ⟨x, rfl⟩ := wplus_of_below hb; clear hb)
          | (go_at_call 44; refine ((HD.out.below (by repeat (first | exact Below.refl _ _ | refine blw_alloc ?_ | refine blw_plus ?_ | refine Below.drew ?_))).told HSC.out (by omega) b0 b1 b2 b3).mono ?_; rintro e w' ⟨A2, c2, rfl, hts, hb⟩; have HTS2 := hidp hts; clear hts; have HTS3 := hidp (HTS1.out.below hb); obtain ⟨x, rfl⟩ := wplus_of_below hb; clear hb)
          | (go_at_call 42; refine (sameTexts_any A1 A2 c1 c2 _ _ HTS3.out HTS2.out (toldT_len _ _)).mono ?_; rintro e w' ⟨rfl, hb⟩; obtain ⟨x, rfl⟩ := wplus_of_below hb; clear hb))
        all_goals
          go_wp2_with fail
          go_roundw
          case rel => exact ⟨j + 1, S2, L2, wr.heap.size, (.cells #[.int .i64 wh, .int .i64 key, .int .i64 vw, .int .i64 vc, .int .i64 vs, .int .i64 vq, .string vd, .bool vg, .int .i64 b0, .int .i64 b1, .int .i64 b2, .int .i64 b3] 85), by go_num, by omega, HSC.out, HD.out.below (by repeat (first | exact Below.refl _ _ | refine blw_alloc ?_ | refine blw_plus ?_ | refine Below.drew ?_))⟩
          case measure => simp [intOf]; omega
      have hx0 : (wh == 0) = false := by simpa using hw0
      have hx1 : (wh == 1) = false := by simpa using hw1
      go_wp2_with fail
      have HTC := hidp HTB.out
      have HSC := hidp (HSM.out.mono (show j ≤ j + 1 by omega))
      generalize wr.alloc (.cells #[.int .i64 wh, .int .i64 key, .int .i64 vw, .int .i64 vc, .int .i64 vs, .int .i64 vq, .string vd, .bool vg, .int .i64 b0, .int .i64 b1, .int .i64 b2, .int .i64 b3] 85) = wc at *
      obtain ⟨⟨⟨xw, xc, xs, xq, xd, xg⟩, z⟩, hR⟩ : ∃ R, readR b0 b1 b2 b3 S key = R := ⟨_, rfl⟩
      have HR := hidp hR
      clear hR
      have hqb := HTC.out.box
      haveI : SzGe (wr.heap.size + 1) wc := ⟨lt_blk hqb⟩
      have q0 := cell_blk hqb 0; have q1 := cell_blk hqb 1; have q2 := cell_blk hqb 2; have q3 := cell_blk hqb 3; have q4 := cell_blk hqb 4; have q5 := cell_blk hqb 5; have q6 := cell_blk hqb 6; have q7 := cell_blk hqb 7; have q8 := cell_blk hqb 8; have q9 := cell_blk hqb 9; have q10 := cell_blk hqb 10; have q11 := cell_blk hqb 11
      simp only [List.getElem?_toArray, List.getElem?_cons_zero, List.getElem?_cons_succ] at q0 q1 q2 q3 q4 q5 q6 q7 q8 q9 q10 q11
      clear hqb d0 d1 d2 d3 d4 d5 d6 d7 d8 d9 d10 d11
      go_at_call 40
      refine (HTC.out.rread HSC.out (by omega) key b0 b1 b2 b3 HR.out).mono ?_
      rintro e w4 ⟨rfl, hb⟩
      obtain ⟨x4, rfl⟩ := wplus_of_below hb
      clear hb
      go_wp2_with fail
      go_at_call 36
      refine ((HTC.out.below (by repeat (first | exact Below.refl _ _ | refine blw_alloc ?_ | refine blw_plus ?_ | refine Below.drew ?_))).read HSC.out (by omega) key b0 b1 b2 b3 HR.out).mono ?_
      rintro e w5 ⟨rfl, hb⟩
      obtain ⟨x5, rfl⟩ := wplus_of_below hb
      clear hb
      go_wp2_with fail
      have HD0 := hidp (HTC.out.below (show Below wc.heap.size wc ((wplus ((wplus wc x4).alloc (.cells #[.int .i64 xw, .int .i64 xc, .int .i64 xs, .int .i64 xq, .string xd, .bool xg] 71)) x5).alloc (.cells #[.int .i64 xw, .int .i64 xc, .int .i64 xs, .int .i64 xq, .string xd, .bool xg] 71)) from (by repeat (first | exact Below.refl _ _ | refine blw_alloc ?_ | refine blw_plus ?_ | refine Below.drew ?_))))
      have H70 : Hid (((wplus ((wplus wc x4).alloc (.cells #[.int .i64 xw, .int .i64 xc, .int .i64 xs, .int .i64 xq, .string xd, .bool xg] 71)) x5).alloc (.cells #[.int .i64 xw, .int .i64 xc, .int .i64 xs, .int .i64 xq, .string xd, .bool xg] 71)).heap[wc.heap.size + x4.blocks.size]? = some (.cells #[.int .i64 xw, .int .i64 xc, .int .i64 xs, .int .i64 xq, .string xd, .bool xg] 71)) := hidp (blk_alloc ((wplus_heap_lt _ x5 _ (by simp)).trans (blk_new (by simp) _)) _)
      have H90 : Hid (((wplus ((wplus wc x4).alloc (.cells #[.int .i64 xw, .int .i64 xc, .int .i64 xs, .int .i64 xq, .string xd, .bool xg] 71)) x5).alloc (.cells #[.int .i64 xw, .int .i64 xc, .int .i64 xs, .int .i64 xq, .string xd, .bool xg] 71)).heap[wc.heap.size + x4.blocks.size + 1 + x5.blocks.size]? = some (.cells #[.int .i64 xw, .int .i64 xc, .int .i64 xs, .int .i64 xq, .string xd, .bool xg] 71)) := hidp (blk_new (by simp) _)
      clear q0 q1 q2 q3 q4 q5 q6 q7 q8 q9 q10 q11
      generalize (wplus ((wplus wc x4).alloc (.cells #[.int .i64 xw, .int .i64 xc, .int .i64 xs, .int .i64 xq, .string xd, .bool xg] 71)) x5).alloc (.cells #[.int .i64 xw, .int .i64 xc, .int .i64 xs, .int .i64 xq, .string xd, .bool xg] 71) = WD at *
      generalize wc.heap.size + x4.blocks.size + 1 + x5.blocks.size = p9 at *
      generalize wc.heap.size + x4.blocks.size = p7 at *
      have HD := hidp HD0.out
      have HGD := hidp (HG.out.plus HD.out.low)
      have hdb := HD.out.box
      have q0 := cell_blk hdb 0; have q1 := cell_blk hdb 1; have q2 := cell_blk hdb 2; have q3 := cell_blk hdb 3; have q4 := cell_blk hdb 4; have q5 := cell_blk hdb 5; have q6 := cell_blk hdb 6; have q7 := cell_blk hdb 7; have q8 := cell_blk hdb 8; have q9 := cell_blk hdb 9; have q10 := cell_blk hdb 10; have q11 := cell_blk hdb 11
      simp only [List.getElem?_toArray, List.getElem?_cons_zero, List.getElem?_cons_succ] at q0 q1 q2 q3 q4 q5 q6 q7 q8 q9 q10 q11
      have r0 := cell_blk H70.out 0; have r1 := cell_blk H70.out 1; have r2 := cell_blk H70.out 2; have r3 := cell_blk H70.out 3; have r4 := cell_blk H70.out 4; have r5 := cell_blk H70.out 5
      simp only [List.getElem?_toArray, List.getElem?_cons_zero, List.getElem?_cons_succ] at r0 r1 r2 r3 r4 r5
      have s0 := cell_blk H90.out 0; have s1 := cell_blk H90.out 1; have s2 := cell_blk H90.out 2; have s3 := cell_blk H90.out 3; have s4 := cell_blk H90.out 4; have s5 := cell_blk H90.out 5
      simp only [List.getElem?_toArray, List.getElem?_cons_zero, List.getElem?_cons_succ] at s0 s1 s2 s3 s4 s5
      obtain ⟨A9, c9, hrc, hlr⟩ := HD.out.rcell
      haveI : SzGe (p7 + 1) WD := ⟨lt_blk H70.out⟩
      haveI : SzGe (p9 + 1) WD := ⟨lt_blk H90.out⟩
      haveI : SzGe (wr.heap.size + 1) WD := ⟨lt_blk hdb⟩
      haveI : SzGe (w.heap.size + 1 + 1) WD := ⟨hlr⟩
      have HEQ : ∀ (w : World) (d : Nat), (Op.equalIn (d + 3) 71 (.agg #[.int .i64 xw, .int .i64 xc, .int .i64 xs, .int .i64 xq, .string xd, .bool xg]) (.agg #[.int .i64 xw, .int .i64 xc, .int .i64 xs, .int .i64 xq, .string xd, .bool xg])).run Tryd.prog w = .ok true w := fun w d => by rw [eqVerB]; simp
      clear hdb HD0
      go_region_held3 (fun W : World => W.cell? ⟨p7, 0, none⟩ = some (.int .i64 xw) ∧ W.cell? ⟨p7, 1, none⟩ = some (.int .i64 xc) ∧ W.cell? ⟨p7, 2, none⟩ = some (.int .i64 xs) ∧ W.cell? ⟨p7, 3, none⟩ = some (.int .i64 xq) ∧ W.cell? ⟨p7, 4, none⟩ = some (.string xd) ∧ W.cell? ⟨p7, 5, none⟩ = some (.bool xg) ∧ W.cell? ⟨p9, 0, none⟩ = some (.int .i64 xw) ∧ W.cell? ⟨p9, 1, none⟩ = some (.int .i64 xc) ∧ W.cell? ⟨p9, 2, none⟩ = some (.int .i64 xs) ∧ W.cell? ⟨p9, 3, none⟩ = some (.int .i64 xq) ∧ W.cell? ⟨p9, 4, none⟩ = some (.string xd) ∧ W.cell? ⟨p9, 5, none⟩ = some (.bool xg) ∧ W.cell? ⟨wr.heap.size, 8, none⟩ = some (.int .i64 b0) ∧ W.cell? ⟨wr.heap.size, 9, none⟩ = some (.int .i64 b1) ∧ W.cell? ⟨wr.heap.size, 10, none⟩ = some (.int .i64 b2) ∧ W.cell? ⟨wr.heap.size, 11, none⟩ = some (.int .i64 b3) ∧ W.cell? ⟨w.heap.size + 1, 0, none⟩ = some (.slice A9 L.length c9)) ((repeat' apply And.intro) <;> simp [go_sem, *]) (first
        | (go_at_call 12; refine (bareL_any z _ (HGD.out.plus (by repeat (first | exact Below.refl _ _ | refine blw_alloc ?_ | refine blw_plus ?_ | refine Below.drew ?_)))).mono ?_; rintro e w' ⟨rfl, hb⟩; obtain ⟨x, rfl⟩ := wplus_of_below hb; clear hb)
        | (go_at_call 41; refine ((HD.out.below (by repeat (first | exact Below.refl _ _ | refine blw_alloc ?_ | refine blw_plus ?_ | refine Below.drew ?_))).many HSC.out (by omega)).mono ?_; rintro e w' ⟨rfl, hb⟩; obtain ⟨x, rfl⟩ := wplus_of_below hb; clear hb)
        | (go_at_call 43; refine ((HD.out.below (by repeat (first | exact Below.refl _ _ | refine blw_alloc ?_ | refine blw_plus ?_ | refine Below.drew ?_))).all HSC.out (by omega) b0 b1 b2 b3).mono ?_; rintro e w' ⟨A1, c1, rfl, hts, hb⟩; have HTS1 := hidp hts; clear hts; obtain ⟨x, rfl⟩ := wplus_of_below hb; clear hb)
        | (go_at_call 44; refine ((HD.out.below (by repeat (first | exact Below.refl _ _ | refine blw_alloc ?_ | refine blw_plus ?_ | refine Below.drew ?_))).told HSC.out (by omega) b0 b1 b2 b3).mono ?_; rintro e w' ⟨A2, c2, rfl, hts, hb⟩; have HTS2 := hidp hts; clear hts; have HTS3 := hidp (HTS1.out.below hb); obtain ⟨x, rfl⟩ := wplus_of_below hb; clear hb)
        | (go_at_call 42; refine (sameTexts_any A1 A2 c1 c2 _ _ HTS3.out HTS2.out (toldT_len _ _)).mono ?_; rintro e w' ⟨rfl, hb⟩; obtain ⟨x, rfl⟩ := wplus_of_below hb; clear hb))
      all_goals
        go_wp2_with fail
        go_roundw
        case rel => exact ⟨j + 1, S, L, wr.heap.size, (.cells #[.int .i64 wh, .int .i64 key, .int .i64 vw, .int .i64 vc, .int .i64 vs, .int .i64 vq, .string vd, .bool vg, .int .i64 b0, .int .i64 b1, .int .i64 b2, .int .i64 b3] 85), by go_num, by omega, HSC.out, HD.out.below (by repeat (first | exact Below.refl _ _ | refine blw_alloc ?_ | refine blw_plus ?_ | refine Below.drew ?_))⟩
        case measure => simp [intOf]; omega
    · obtain rfl : j = ls.length := by omega
      go_wp2_with fail
      go_ret
      exact ⟨rfl, HT.out.low⟩
end Go.Proofs.YtbopfhbeegkkaaaDoor
