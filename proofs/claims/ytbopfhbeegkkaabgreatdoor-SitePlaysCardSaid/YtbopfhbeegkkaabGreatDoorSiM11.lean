/- Part 11 of a proof: lemmas and contracts that other parts use. -/
import Derived.Test.YtbopfhbeegkkaabGreatDoorSiM10
import Derived.Lib.AppendStr
set_option linter.unusedVariables false
set_option linter.unusedSimpArgs false
namespace Go.Proofs.YtbopfhbeegkkaabGreatDoor
open Go.RowKit

theorem own_wr {w : World} {B : Nat} {v : Value} {L : List UInt8} {key : Nat} {data : ByteArray} {gone : Bool}
    (h : w.ownsRow B 5 1 v (L.length + (numsB [key, goneN gone, data.size]).length + data.size) (u8s (L ++ numsB [key, goneN gone, data.size]) ++ Go.Lib.strCells data)) :
    w.ownsRow B 5 1 v (L ++ wrB ⟨(key : Int), data, gone⟩).length (u8s (L ++ wrB ⟨(key : Int), data, gone⟩)) := by
  have e : L ++ wrB ⟨(key : Int), data, gone⟩ = (L ++ numsB [key, goneN gone, data.size]) ++ data.data.toList := by simp [wrB]
  rw [e, u8s_append, List.length_append, List.length_append, ← ba_size]; exact h
theorem maxLen_ge : 140737488355328 ≤ maxLen := by simp only [maxLen]; omega
theorem info5x : ∃ i, Tryz.prog.info? 5 = some i ∧ i.zero = some (.int .u8 0) ∧ i.size = 1 ∧ i.bytes = 1 := by
  obtain ⟨i, hi, h⟩ := Option.map_eq_some_iff.1 info5
  simp only [Prod.mk.injEq] at h
  exact ⟨i, hi, h.1, h.2.1, h.2.2⟩

theorem rightTx_is {t : TxP} {b : Bool} (h : rightTx t = b) (A : Option Addr) (c : Nat) (w : World) (hn : t.ws.length ≤ 1000000) (hws : WsAt w A t.ws) (hseq : -9223372036854775808 ≤ t.seq ∧ t.seq ≤ 9223372036854775807) :
    Calls Tryz.prog 82 #[.agg #[.int .i64 t.site, .int .i64 t.seq, .int .i64 t.wall, .int .i64 t.count, .int .i64 t.d0, .int .i64 t.d1, .int .i64 t.d2, .int .i64 t.d3, .slice A t.ws.length c]] w
      fun e w' => e = .returned (.bool b) ∧ Below w.heap.size w w' := by
  subst h; exact rightTx_any t.site t.seq t.wall t.count t.d0 t.d1 t.d2 t.d3 A c t.ws w hn hws hseq

theorem WsAt.alloc {w : World} {A : Option Addr} {ws : List WrP} (h : WsAt w A ws) (o : Obj) : WsAt (w.alloc o) A ws := h.below (blw_alloc (Below.refl _ _))

set_option maxHeartbeats 1000000 in
theorem encTx_bad (site seq wall count d0 d1 d2 d3 : Int) (ws : List WrP) (A : Option Addr) (c : Nat) (w : World) (h : rightTx ⟨site, seq, wall, count, d0, d1, d2, d3, ws⟩ = false) (hn : ws.length ≤ 1000000) (hws : WsAt w A ws)
    (hseq : -9223372036854775808 ≤ seq ∧ seq ≤ 9223372036854775807) :
    Calls Tryz.prog 146 #[.agg #[.int .i64 site, .int .i64 seq, .int .i64 wall, .int .i64 count, .int .i64 d0, .int .i64 d1, .int .i64 d2, .int .i64 d3, .slice A ws.length c]] w
      fun e w' => e = .returned (.tuple #[.slice none 0 0, .iface 29 (.int .i64 1)]) ∧ Below w.heap.size w w' := by
  have HR := hidp (fun o => rightTx_is h A c (w.alloc o) hn (hws.alloc o) hseq)
  clear h hws hseq
  go_enter Tryz.func146, Tryz.ntmps146
  go_wp2_with (go_at_call 82; with_reducible refine (HR.out _).mono ?_; rintro e w' ⟨rfl, hb⟩; obtain ⟨x, rfl⟩ := wplus_of_below hb; clear hb)
  go_ret2
  exact ⟨rfl, (by repeat (first | exact Below.refl _ _ | refine blw_alloc ?_ | refine blw_plus ?_ | refine Below.drew ?_))⟩

/-- while a transaction is written -/
structure EncSt (w W : World) (cs : Array Value) (v : Value) (bs : List UInt8) : Prop where
  own : W.ownsRow (w.heap.size + 1) 5 1 v bs.length (u8s bs)
  box : W.heap[w.heap.size]? = some (.cells cs 44)
  bl : Below w.heap.size w W
theorem EncSt.alloc {w W : World} {cs : Array Value} {v : Value} {bs : List UInt8} (h : EncSt w W cs v bs) (o : Obj) : EncSt w (W.alloc o) cs v bs := by
  have h1 := lt_blk h.box
  exact ⟨h.own.alloc o, by rw [heap_alloc, if_neg (by omega)]; exact h.box, h.bl.alloc (by omega) o⟩
theorem EncSt.drew {w W : World} {cs : Array Value} {v : Value} {bs : List UInt8} (h : EncSt w W cs v bs) : EncSt w W.drew cs v bs :=
  ⟨h.own, h.box, h.bl.drew⟩
theorem EncSt.grown {w W W' : World} {cs : Array Value} {v v' : Value} {bs bs' : List UInt8} (h : EncSt w W cs v bs) (hg : W.grownBy W' v.ownBlock) (hown : W'.ownsRow (w.heap.size + 1) 5 1 v' bs'.length (u8s bs')) : EncSt w W' cs v' bs' := by
  have h1 := lt_blk h.box
  have hne : ∀ k, v.ownBlock = some k → w.heap.size + 1 ≤ k := fun k e => (own_ge h.own e).1
  refine ⟨hown, by rw [hg.block _ h1 (fun e => by have := hne _ e.symm; omega)]; exact h.box, Below.grown h.bl hg (by omega) (fun k e => by have := hne k e; omega)⟩
theorem EncSt.put {w W W' : World} {cs : Array Value} {v v' : Value} {bs bs' : List UInt8} (h : EncSt w W cs v bs) (hb : Buf (w.heap.size + 1) W v W' v' bs') : EncSt w W' cs v' bs' :=
  h.grown hb.grown hb.own
theorem EncSt.sz {w W : World} {cs : Array Value} {v : Value} {bs : List UInt8} (h : EncSt w W cs v bs) : w.heap.size < W.heap.size := lt_blk h.box
theorem EncSt.ne {w W : World} {cs : Array Value} {v : Value} {bs : List UInt8} (h : EncSt w W cs v bs) {k : Nat} (hk : W.heap.size ≤ k) : v.ownBlock ≠ some k := fun e => by have := (own_ge h.own e).2; omega
theorem EncSt.ne0 {w W : World} {cs : Array Value} {v : Value} {bs : List UInt8} (h : EncSt w W cs v bs) : v.ownBlock ≠ some w.heap.size := fun e => by have := (own_ge h.own e).1; omega
theorem numsB_le (zs : List Nat) (hz : ∀ z ∈ zs, z ≤ 1099511627776) : (numsB zs).length ≤ 6 * zs.length := by
  induction zs with
  | nil => simp [numsB]
  | cons z zs ih =>
    have h1 := ih (fun x hx => hz x (by simp [hx]))
    have h2 := numB_len z 6 (by have := hz z (by simp); omega) (by omega)
    simp only [numsB, List.flatMap_cons, List.length_append, List.length_cons] at h1 ⊢
    omega
theorem encst_start {w W : World} {cs : Array Value} {o : Obj} {x : Int} (hb : W.heap[w.heap.size]? = some (.cells cs 44)) (hbl : Below w.heap.size w W) (ho : o = .cells #[.int .u8 x] 5) (hx : x = 116) :
    EncSt w (W.alloc o) cs (.slice (some ⟨W.heap.size, 0, none⟩) 1 1) [116] := by
  subst ho hx
  have h1 := lt_blk hb
  exact ⟨own_lit (c := 116) (x := 116) (by omega) (by rw [heap_alloc, if_pos rfl]) rfl, by rw [heap_alloc, if_neg (by omega)]; exact hb, hbl.alloc (by omega) _⟩

theorem wrB_take_le (ws : List WrP) (h : ∀ w ∈ ws, (0 ≤ w.key ∧ w.key < 8) ∧ w.data.size ≤ 12) : ∀ k, k ≤ ws.length → ((ws.take k).flatMap wrB).length ≤ 30 * k := by
  intro k
  induction k with
  | zero => intro _; simp
  | succ k ih =>
    intro hk
    have h1 := ih (by omega)
    rw [List.take_succ_eq_append_getElem (by omega)]
    have hw := h ws[k] (List.getElem_mem (by omega))
    have h2 := numsB_le [ws[k].key.toNat, goneN ws[k].gone, ws[k].data.size] (by intro z hz; have := goneN_le ws[k].gone; simp at hz; omega)
    have h3 := ba_size ws[k].data
    simp only [List.flatMap_append, List.length_append, List.flatMap_cons, List.flatMap_nil, List.append_nil, wrB] at h1 ⊢
    simp only [List.length_cons, List.length_nil] at h2
    omega

set_option maxRecDepth 20000 in
set_option maxHeartbeats 8000000 in
theorem encTx_good (t : TxP) (A : Option Addr) (c : Nat) (w : World) (h : rightTx t = true) (hws : WsAt w A t.ws) :
    Calls Tryz.prog 146 #[.agg #[.int .i64 t.site, .int .i64 t.seq, .int .i64 t.wall, .int .i64 t.count, .int .i64 t.d0, .int .i64 t.d1, .int .i64 t.d2, .int .i64 t.d3, .slice A t.ws.length c]] w
      fun e w' => ∃ v, e = .returned (.tuple #[v, .nilIface]) ∧ Fresh w w' v (txB t) := by
  have h2 := h
  simp only [rightTx, Bool.and_eq_true] at h2
  obtain ⟨hw, hl1, hl5⟩ := rightWs_all h2.2
  obtain ⟨q1, q2, q3, q4, q5, q6, q7, q8, _⟩ := headTx_all h2.1
  have HR := hidp (fun o => rightTx_is h A c (w.alloc o) (by omega) (hws.alloc o) ⟨by omega, by omega⟩)
  clear h h2
  obtain ⟨site, seq, wall, count, d0, d1, d2, d3, ws⟩ := t
  simp only at *
  obtain ⟨s, rfl⟩ := Int.eq_ofNat_of_zero_le q1.1
  obtain ⟨q, rfl⟩ := Int.eq_ofNat_of_zero_le (show 0 ≤ seq by omega)
  obtain ⟨wl, rfl⟩ := Int.eq_ofNat_of_zero_le q3.1
  obtain ⟨ct, rfl⟩ := Int.eq_ofNat_of_zero_le q4.1
  obtain ⟨e0, rfl⟩ := Int.eq_ofNat_of_zero_le q5.1
  obtain ⟨e1, rfl⟩ := Int.eq_ofNat_of_zero_le q6.1
  obtain ⟨e2, rfl⟩ := Int.eq_ofNat_of_zero_le q7.1
  obtain ⟨e3, rfl⟩ := Int.eq_ofNat_of_zero_le q8.1
  obtain ⟨i0, hi, hz0, hz1, hz2⟩ := info5x
  have HW := hidp hw
  have HWS := hidp hws
  clear hw hws
  go_enter Tryz.func146, Tryz.ntmps146
  go_wp2_with fail
  go_at_call 82
  with_reducible refine (HR.out _).mono ?_
  rintro e w1 ⟨rfl, hb⟩
  have hbox := hb.block w.heap.size (by simp)
  rw [heap_alloc, if_pos rfl] at hbox
  have hc := blk9 hbox
  go_split_ands
  haveI : SzGe (w.heap.size + 1) w1 := ⟨lt_blk hbox⟩
  have HS := hidp (fun (o : Obj) (h : o = .cells #[.int .u8 116] 5) => encst_start hbox (Below.trans (blw_alloc (Below.refl _ _)) (hb.mono (by simp))) h rfl)
  clear hb hbox HR
  go_wp2_with fail
  go_at_call 183
  refine (put_len (w.heap.size + 1) _ [116] [s, q, wl, ct] _ 0 4 4 _ rfl ?_ ((HS.out _ rfl).alloc _).own ?_ ?_ ?_ ((HS.out _ rfl).ne (by simp))).mono ?_
  · have := (HS.out _ rfl).sz; simp at this ⊢; omega
  · intro z hz; simp at hz; omega
  · simp
  · intro i z hi
    rcases i with _ | _ | _ | _ | i <;> simp at hi <;> subst hi <;> rw [cell_blk (by rw [heap_alloc, if_pos (by simp)])] <;> rfl
  rintro e w2 ⟨v2, rfl, hb2⟩
  have st2 := hidp (((HS.out _ rfl).alloc _).put hb2)
  clear hb2 HS
  have hc := blk9 st2.out.box
  have hlt2 := st2.out.sz
  haveI : SzGe (w.heap.size + 1) w2 := ⟨hlt2⟩
  go_split_ands
  go_wp2_with fail
  go_at_call 183
  refine (put_len (w.heap.size + 1) _ _ [e0, e1, e2, e3] w.heap.size 4 4 4 _ rfl ?_ st2.out.own ?_ ?_ ?_ st2.out.ne0).mono ?_
  · omega
  · intro z hz; simp at hz; omega
  · have := numsB_le [s, q, wl, ct] (by intro z hz; simp at hz; omega); simp at this ⊢; omega
  · intro i z hi
    rcases i with _ | _ | _ | _ | i <;> simp at hi <;> subst hi <;> assumption
  rintro e w3 ⟨v3, rfl, hb3⟩
  have st3 := hidp (st2.out.put hb3)
  clear hb3 st2
  have hc := blk9 st3.out.box
  have hlt3 := st3.out.sz
  haveI : SzGe (w.heap.size + 1) w3 := ⟨hlt3⟩
  go_split_ands
  go_wp2_with fail
  go_at_call 183
  refine (put_len (w.heap.size + 1) _ _ [ws.length] _ 0 1 1 _ rfl ?_ (st3.out.alloc _).own ?_ ?_ ?_ (st3.out.ne (Nat.le_refl _))).mono ?_
  · simp; omega
  · intro z hz; simp at hz; omega
  · have := numsB_le [s, q, wl, ct] (by intro z hz; simp at hz; omega); have := numsB_le [e0, e1, e2, e3] (by intro z hz; simp at hz; omega); simp at *; omega
  · intro i z hi
    rcases i with _ | i <;> simp at hi <;> subst hi <;> rw [cell_blk (by rw [heap_alloc, if_pos (by simp)])] <;> rfl
  rintro e w4 ⟨v4, rfl, hb4⟩
  have st4 := hidp ((st3.out.alloc _).put hb4)
  clear hb4 st3
  have hc := blk9 st4.out.box
  have hlt4 := st4.out.sz
  haveI : SzGe (w.heap.size + 1) w4 := ⟨hlt4⟩
  go_split_ands
  obtain ⟨L0, hL0⟩ : ∃ L0, 116 :: (numsB [s, q, wl, ct] ++ numsB [e0, e1, e2, e3] ++ numsB [ws.length]) = L0 := ⟨_, rfl⟩
  have HL0 : Hid (L0.length ≤ 100) := hidp (by
    have := numsB_le [s, q, wl, ct] (by intro z hz; simp at hz; omega); have := numsB_le [e0, e1, e2, e3] (by intro z hz; simp at hz; omega); have := numsB_le [ws.length] (by intro z hz; simp at hz; omega)
    rw [← hL0]; simp at *; omega)
  have st5 : Hid (EncSt w w4 _ v4 L0) := hidp (by rw [← hL0]; have := st4.out; simpa using this)
  have HFIN : Hid (txB ⟨s, q, wl, ct, e0, e1, e2, e3, ws⟩ = L0 ++ ws.flatMap wrB) := hidp (by rw [← hL0]; simp [txB])
  clear hL0 st4
  go_wp2
  go_loopw [4, 38] (fun b i wr => ∃ (k : Nat) (L : List UInt8), k ≤ ws.length ∧ i = .int .i64 k ∧ L = L0 ++ (ws.take k).flatMap wrB ∧ EncSt w wr #[.int .i64 s, .int .i64 q, .int .i64 wl, .int .i64 ct, .int .i64 e0, .int .i64 e1, .int .i64 e2, .int .i64 e3, .slice A ws.length c] b L) (fun _ i _ => ws.length - (intOf i).toNat)
  case atStart => exact ⟨0, L0, Nat.zero_le _, rfl, by simp, st5.out⟩
  case round =>
    obtain ⟨k, L, hk, rfl, hL, st⟩ := hrel
    have hlen : L.length ≤ 100 + 30 * k := by
      rw [hL, List.length_append]
      have := HL0.out
      have := wrB_take_le ws HW.out k hk
      omega
    have HLe := hidp hL
    clear hL
    by_cases hlt : k < ws.length
    · obtain ⟨b, o, rfl, hb, h0, h1, h2⟩ := (HWS.out.below st.bl) k ws[k] (List.getElem?_eq_getElem hlt)
      have hwk := HW.out ws[k] (List.getElem_mem hlt)
      obtain ⟨y, hy⟩ : ∃ y, ws[k] = y := ⟨_, rfl⟩
      have HY := hidp hy
      rw [hy] at h0 h1 h2 hwk
      clear hy
      obtain ⟨key, data, gone⟩ := y
      simp only at *
      obtain ⟨key, rfl⟩ := Int.eq_ofNat_of_zero_le hwk.1.1
      have hszr := st.sz
      haveI : SzGe (b + 1) wr := ⟨hb⟩
      cases gone
      · 
        go_wp2_with fail
        go_at_call 183
        refine (put_len (w.heap.size + 1) _ _ [key, goneN false, data.size] _ 0 3 3 _ rfl ?_ ((st.alloc _).alloc _).own ?_ ?_ ?_ ((st.alloc (.cells #[.int .i64 key, .string data, .bool false] 83)).ne (by simp))).mono ?_
        · simp; omega
        · intro z hz; simp [goneN] at hz; omega
        · simp; omega
        · intro i z hi
          rcases i with _ | _ | _ | i <;> simp at hi <;> subst hi <;> rw [cell_blk (by rw [heap_alloc, if_pos (by simp)])] <;> rfl
        rintro e w6 ⟨v6, rfl, hb6⟩
        have st6 := ((st.alloc _).alloc _).put hb6
        have hx1 : w6.cell? ⟨wr.heap.size, 1, none⟩ = some (.string data) := by
          rw [hb6.cell (by simp; omega) (st.ne (Nat.le_refl _)), alloc_cell, cell_blk (by rw [heap_alloc, if_pos rfl])]; rfl
        clear hb6
        go_wp2_with (at_builtin; go_must (refine Go.Lib.wpList_append_own_string _ rfl _ _ 207 9 rfl (w.heap.size + 1) 5 i0 Tryz.underlying207 Tryz.underlying9 hi hz0 hz1 hz2 v6 _ _ rfl st6.own data rfl ?c2 ?c3 ?c4 ?_))
        case c2 => have := numsB_le [key, goneN false, data.size] (by intro z hz; simp [goneN] at hz; omega); refine Nat.le_trans ?_ maxLen_ge; simp only [List.length_append, List.length_cons, List.length_nil] at this ⊢; omega
        case c3 => have := numsB_le [key, goneN false, data.size] (by intro z hz; simp [goneN] at hz; omega); simp only [List.length_append, List.length_cons, List.length_nil] at this ⊢; omega
        case c4 => have := st6.sz; omega
        intro v7 w7 hown7 hgrow7 _
        have st7 := hidp (EncSt.grown (bs' := L ++ wrB ⟨(key : Int), data, false⟩) st6 hgrow7 (own_wr hown7))
        clear hown7 hgrow7 st6
        go_wp2
        go_roundw
        case rel =>
          refine ⟨k + 1, _, by omega, by go_num, ?_, st7.out⟩
          rw [List.take_succ_eq_append_getElem hlt, HLe.out, HY.out]; simp
        case measure => simp [intOf]; omega
      · 
        go_wp2_with fail
        go_at_call 183
        refine (put_len (w.heap.size + 1) _ _ [key, goneN true, data.size] _ 0 3 3 _ rfl ?_ ((st.alloc _).alloc _).own ?_ ?_ ?_ ((st.alloc (.cells #[.int .i64 key, .string data, .bool true] 83)).ne (by simp))).mono ?_
        · simp; omega
        · intro z hz; simp [goneN] at hz; omega
        · simp; omega
        · intro i z hi
          rcases i with _ | _ | _ | i <;> simp at hi <;> subst hi <;> rw [cell_blk (by rw [heap_alloc, if_pos (by simp)])] <;> rfl
        rintro e w6 ⟨v6, rfl, hb6⟩
        have st6 := ((st.alloc _).alloc _).put hb6
        have hx1 : w6.cell? ⟨wr.heap.size, 1, none⟩ = some (.string data) := by
          rw [hb6.cell (by simp; omega) (st.ne (Nat.le_refl _)), alloc_cell, cell_blk (by rw [heap_alloc, if_pos rfl])]; rfl
        clear hb6
        go_wp2_with (at_builtin; go_must (refine Go.Lib.wpList_append_own_string _ rfl _ _ 207 9 rfl (w.heap.size + 1) 5 i0 Tryz.underlying207 Tryz.underlying9 hi hz0 hz1 hz2 v6 _ _ rfl st6.own data rfl ?c2 ?c3 ?c4 ?_))
        case c2 => have := numsB_le [key, goneN true, data.size] (by intro z hz; simp [goneN] at hz; omega); refine Nat.le_trans ?_ maxLen_ge; simp only [List.length_append, List.length_cons, List.length_nil] at this ⊢; omega
        case c3 => have := numsB_le [key, goneN true, data.size] (by intro z hz; simp [goneN] at hz; omega); simp only [List.length_append, List.length_cons, List.length_nil] at this ⊢; omega
        case c4 => have := st6.sz; omega
        intro v7 w7 hown7 hgrow7 _
        have st7 := hidp (EncSt.grown (bs' := L ++ wrB ⟨(key : Int), data, true⟩) st6 hgrow7 (own_wr hown7))
        clear hown7 hgrow7 st6
        go_wp2
        go_roundw
        case rel =>
          refine ⟨k + 1, _, by omega, by go_num, ?_, st7.out⟩
          rw [List.take_succ_eq_append_getElem hlt, HLe.out, HY.out]; simp
        case measure => simp [intOf]; omega
    · have hkk : k = ws.length := by omega
      have hc := blk9 st.box
      go_split_ands
      go_wp2
      go_ret2
      refine ⟨_, rfl, st.bl, ?_⟩
      have h := own_base st.own (Nat.le_succ _)
      have hL := HLe.out
      rw [hkk, List.take_length] at hL
      rw [HFIN.out, ← hL]
      exact h
end Go.Proofs.YtbopfhbeegkkaabGreatDoor
