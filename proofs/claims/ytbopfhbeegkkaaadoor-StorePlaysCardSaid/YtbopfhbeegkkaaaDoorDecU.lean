import Derived.Test.YtbopfhbeegkkaaaDoorDecT
import Derived.Deep.AppendLies
namespace Go.Proofs.YtbopfhbeegkkaaaDoor
open Go.RowKit

theorem num_to {r r' : Rd} {n : Nat} (h : numR r = (n, r')) (g : Nat) (W : World) (hr : RdAt W g r) (hl : r.l.length ≤ 1000000) :
    Calls Tryd.prog 64 #[.pointer (some ⟨g, 0, none⟩)] W fun e w' => e = .returned (.int .i64 n) ∧ RdAt w' g r' ∧ W.grownBy w' (some g) := by
  have := num_any g r W hr hl; rw [h] at this; exact this
theorem text_to {r r' : Rd} {b : ByteArray} (h : textR r = (b, r')) (g : Nat) (W : World) (hr : RdAt W g r) (hl : r.l.length ≤ 1000000) :
    Calls Tryd.prog 66 #[.pointer (some ⟨g, 0, none⟩)] W fun e w' => e = .returned (.string b) ∧ RdAt w' g r' ∧ W.grownBy w' (some g) := by
  have := text_any g r W hr hl; rw [h] at this; exact this
theorem vec_to {r r' : Rd} {a b c d : Nat} (h : numR4 r = ((a, b, c, d), r')) (g : Nat) (W : World) (hr : RdAt W g r) (hl : r.l.length ≤ 1000000) :
    Calls Tryd.prog 65 #[.pointer (some ⟨g, 0, none⟩)] W fun e w' => e = .returned (.agg #[.int .i64 a, .int .i64 b, .int .i64 c, .int .i64 d]) ∧ RdAt w' g r' ∧ W.grownBy w' (some g) := by
  have := vec_any g r W hr hl; rw [h] at this; exact this
theorem num_to_len {r r' : Rd} {n : Nat} (h : numR r = (n, r')) (hl : r.l.length ≤ 1000000) : r'.l.length ≤ 1000000 := by
  have := numR_len r; rw [h] at this; exact Nat.le_trans this hl
theorem text_to_len {r r' : Rd} {b : ByteArray} (h : textR r = (b, r')) (hl : r.l.length ≤ 1000000) : r'.l.length ≤ 1000000 := by
  have h1 := numR_len r
  unfold textR at h
  split at h <;> (cases h; simp only [List.length_drop] ; omega)
theorem vec_to_len {r r' : Rd} {q : Nat × Nat × Nat × Nat} (h : numR4 r = (q, r')) (hl : r.l.length ≤ 1000000) : r'.l.length ≤ 1000000 := by
  have := numR4_len r; rw [h] at this; exact Nat.le_trans this hl
theorem num_to_le {r r' : Rd} {n : Nat} (h : numR r = (n, r')) : n ≤ 1099511627776 := by
  unfold numR at h
  cases e : rdNum r.l with
  | none => rw [e] at h; cases h; omega
  | some x =>
    obtain ⟨k, l⟩ := x
    rw [e] at h
    cases h
    exact (rdNum_back e).2
theorem vec_to_le {r r' : Rd} {a b c d : Nat} (h : numR4 r = ((a, b, c, d), r')) : a ≤ 1099511627776 ∧ b ≤ 1099511627776 ∧ c ≤ 1099511627776 ∧ d ≤ 1099511627776 := by
  unfold numR4 at h
  simp only [Prod.mk.injEq] at h
  obtain ⟨⟨rfl, rfl, rfl, rfl⟩, _⟩ := h
  exact ⟨num_to_le rfl, num_to_le rfl, num_to_le rfl, num_to_le rfl⟩

def finTx (h d : Nat × Nat × Nat × Nat) (F : List WrP × Rd) : Option TxP :=
  if F.2.bad || !F.2.l.isEmpty || !rightTx (txOf h d F.1) then none else some (txOf h d F.1)

theorem blk9 {W : World} {b : Nat} {x0 x1 x2 x3 x4 x5 x6 x7 x8 : Value} {t : TypeId} (h : W.heap[b]? = some (.cells #[x0, x1, x2, x3, x4, x5, x6, x7, x8] t)) :
    W.cell? ⟨b, 0, none⟩ = some x0 ∧ W.cell? ⟨b, 1, none⟩ = some x1 ∧ W.cell? ⟨b, 2, none⟩ = some x2 ∧ W.cell? ⟨b, 3, none⟩ = some x3 ∧ W.cell? ⟨b, 4, none⟩ = some x4 ∧
    W.cell? ⟨b, 5, none⟩ = some x5 ∧ W.cell? ⟨b, 6, none⟩ = some x6 ∧ W.cell? ⟨b, 7, none⟩ = some x7 ∧ W.cell? ⟨b, 8, none⟩ = some x8 ∧
    W.frozen? ⟨b, 0, none⟩ = false ∧ W.frozen? ⟨b, 1, none⟩ = false ∧ W.frozen? ⟨b, 2, none⟩ = false ∧ W.frozen? ⟨b, 3, none⟩ = false ∧ W.frozen? ⟨b, 4, none⟩ = false ∧
    W.frozen? ⟨b, 5, none⟩ = false ∧ W.frozen? ⟨b, 6, none⟩ = false ∧ W.frozen? ⟨b, 7, none⟩ = false ∧ W.frozen? ⟨b, 8, none⟩ = false :=
  ⟨cell_blk h 0, cell_blk h 1, cell_blk h 2, cell_blk h 3, cell_blk h 4, cell_blk h 5, cell_blk h 6, cell_blk h 7, cell_blk h 8,
   frozen_blk h 0, frozen_blk h 1, frozen_blk h 2, frozen_blk h 3, frozen_blk h 4, frozen_blk h 5, frozen_blk h 6, frozen_blk h 7, frozen_blk h 8⟩

/-- nine cells written into one block -/
def put9 (W : World) (b : Nat) (u0 u1 u2 u3 u4 u5 u6 u7 u8 : Value) : World :=
  ((((((((W.setCell ⟨b, 0, none⟩ u0).setCell ⟨b, 1, none⟩ u1).setCell ⟨b, 2, none⟩ u2).setCell ⟨b, 3, none⟩ u3).setCell ⟨b, 4, none⟩ u4).setCell ⟨b, 5, none⟩ u5).setCell ⟨b, 6, none⟩ u6).setCell ⟨b, 7, none⟩ u7).setCell ⟨b, 8, none⟩ u8
theorem put9_blk {W : World} {b : Nat} {x0 x1 x2 x3 x4 x5 x6 x7 x8 u0 u1 u2 u3 u4 u5 u6 u7 u8 : Value} {t : TypeId} (h : W.heap[b]? = some (.cells #[x0, x1, x2, x3, x4, x5, x6, x7, x8] t)) :
    (put9 W b u0 u1 u2 u3 u4 u5 u6 u7 u8).heap[b]? = some (.cells #[u0, u1, u2, u3, u4, u5, u6, u7, u8] t) := by
  have h0 := blk_set h 0 u0
  simp only [List.setIfInBounds_toArray, List.set_cons_zero, List.set_cons_succ] at h0
  have h1 := blk_set h0 1 u1
  simp only [List.setIfInBounds_toArray, List.set_cons_zero, List.set_cons_succ] at h1
  have h2 := blk_set h1 2 u2
  simp only [List.setIfInBounds_toArray, List.set_cons_zero, List.set_cons_succ] at h2
  have h3 := blk_set h2 3 u3
  simp only [List.setIfInBounds_toArray, List.set_cons_zero, List.set_cons_succ] at h3
  have h4 := blk_set h3 4 u4
  simp only [List.setIfInBounds_toArray, List.set_cons_zero, List.set_cons_succ] at h4
  have h5 := blk_set h4 5 u5
  simp only [List.setIfInBounds_toArray, List.set_cons_zero, List.set_cons_succ] at h5
  have h6 := blk_set h5 6 u6
  simp only [List.setIfInBounds_toArray, List.set_cons_zero, List.set_cons_succ] at h6
  have h7 := blk_set h6 7 u7
  simp only [List.setIfInBounds_toArray, List.set_cons_zero, List.set_cons_succ] at h7
  have h8 := blk_set h7 8 u8
  simp only [List.setIfInBounds_toArray, List.set_cons_zero, List.set_cons_succ] at h8
  exact h8
theorem set_below {n b i : Nat} {u : Value} {w W : World} (h : Below n w W) (hn : n ≤ b) : Below n w (W.setCell ⟨b, i, none⟩ u) := Below.setCell h (by simpa using hn) _
theorem put9_below {n b : Nat} {w W : World} {u0 u1 u2 u3 u4 u5 u6 u7 u8 : Value} (h : Below n w W) (hn : n ≤ b) : Below n w (put9 W b u0 u1 u2 u3 u4 u5 u6 u7 u8) :=
  set_below (set_below (set_below (set_below (set_below (set_below (set_below (set_below (set_below h hn) hn) hn) hn) hn) hn) hn) hn) hn
theorem set_own {w : World} {B e s n b i : Nat} {v u : Value} {xs : List Value} (h : w.ownsRow B e s v n xs) (hb : v.ownBlock ≠ some b) : (w.setCell ⟨b, i, none⟩ u).ownsRow B e s v n xs :=
  h.kept (grown_set w b i u) (.inr hb)
theorem put9_own {W : World} {B e s n b : Nat} {v u0 u1 u2 u3 u4 u5 u6 u7 u8 : Value} {xs : List Value} (h : W.ownsRow B e s v n xs) (hb : v.ownBlock ≠ some b) :
    (put9 W b u0 u1 u2 u3 u4 u5 u6 u7 u8).ownsRow B e s v n xs :=
  set_own (set_own (set_own (set_own (set_own (set_own (set_own (set_own (set_own h hb) hb) hb) hb) hb) hb) hb) hb) hb
theorem own_base {w : World} {B B' e s n : Nat} {v : Value} {xs : List Value} (h : w.ownsRow B e s v n xs) (hb : B' ≤ B) : w.ownsRow B' e s v n xs := by
  obtain ⟨hl, hn | ⟨g, cap, cur, hv, hb', hg, rest⟩⟩ := h
  · exact ⟨hl, .inl hn⟩
  · exact ⟨hl, .inr ⟨g, cap, cur, hv, Nat.le_trans hb hb', hg, rest⟩⟩
theorem own_below {w w' : World} {n B e s m : Nat} {v : Value} {xs : List Value} (h : w.ownsRow B e s v m xs) (hb : Below n w w') (hn : ∀ k, v.ownBlock = some k → k < n) : w'.ownsRow B e s v m xs := by
  obtain ⟨hl, hh | ⟨g, cap, cur, hv, hb', hg, rest⟩⟩ := h
  · exact ⟨hl, .inl hh⟩
  · refine ⟨hl, .inr ⟨g, cap, cur, hv, hb', ?_, rest⟩⟩
    rw [hb.block g (hn g (by rw [hv]; rfl))]; exact hg

theorem DtSt.below {w W W' : World} {g tb : Nat} {x0 x1 x2 x3 x4 x5 x6 x7 : Int} {A : Option Addr} {c : Nat} {ws : List WrP} {r : Rd} (st : DtSt w W g tb x0 x1 x2 x3 x4 x5 x6 x7 A c ws r)
    (hb : Below W.heap.size W W') : DtSt w W' g tb x0 x1 x2 x3 x4 x5 x6 x7 A c ws r := by
  have h1 := lt_blk st.z
  have h2 := lt_blk st.tx
  have h3 := st.lt
  refine ⟨st.rd.above fun k hk => hb.block k (by omega), by rw [hb.block _ h1]; exact st.z, by rw [hb.block _ h2]; exact st.tx, own_below st.own hb fun k hk => (own_ge st.own hk).2, st.bl.trans (hb.mono (Nat.le_of_lt h1)), st.lg, st.lt⟩

/-- what DecodeTx hands back -/
def TxPost (w : World) (D : Option TxP) (e : Ending) (w' : World) : Prop :=
  match D with
  | none => e = .returned (.tuple #[.agg #[.int .i64 0, .int .i64 0, .int .i64 0, .int .i64 0, .int .i64 0, .int .i64 0, .int .i64 0, .int .i64 0, .slice none 0 0], .iface 24 (.int .i64 3)]) ∧ Below w.heap.size w w'
  | some t => ∃ A c, e = .returned (.tuple #[.agg #[.int .i64 t.site, .int .i64 t.seq, .int .i64 t.wall, .int .i64 t.count, .int .i64 t.d0, .int .i64 t.d1, .int .i64 t.d2, .int .i64 t.d3, .slice A t.ws.length c], .nilIface]) ∧
      Below w.heap.size w w' ∧ w'.ownsRow w.heap.size 115 3 (.slice A t.ws.length c) t.ws.length (wrCells t.ws)

theorem cells3_new {W : World} {x0 x1 x2 : Value} {n : Nat} (hn : n = W.heap.size) :
    ∀ (j : Nat) (u : Value), [x0, x1, x2][j]? = some u → (W.alloc (.cells #[x0, x1, x2] 115)).cell? ((⟨n, 0, none⟩ : Addr).add j) = some u := by
  subst hn
  intro j u hj
  have e : (⟨W.heap.size, 0, none⟩ : Addr).add j = ⟨W.heap.size, j, none⟩ := by unfold Addr.add; split <;> simp_all
  rw [e, cell_blk (cs := #[x0, x1, x2]) (t := 115) (by rw [heap_alloc, if_pos rfl]) j]
  simpa using hj
end Go.Proofs.YtbopfhbeegkkaaaDoor
