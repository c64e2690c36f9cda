/- Part 10 of a proof: lemmas and contracts that other parts use. -/
import Derived.Test.YtbopfhbeegkkaabGreatDoorSiM9
import Derived.Test.YtbopfhbeegkkaabGreatDoorSiM7
import Derived.Deep.AppendLies
import Derived.Test.YtbopfhbeegkkaabGreatDoorSiM5
set_option linter.unusedVariables false
set_option linter.unusedSimpArgs false
namespace Go.Proofs.YtbopfhbeegkkaabGreatDoor
open Go.RowKit

theorem info43 : (Tryz.prog.info? 83).map (fun i => (i.zero, i.size, i.bytes)) = some (some (.agg #[.int .i64 0, .string ⟨#[]⟩, .bool false]), 3, 32) := by kernel_rfl

def wrCells (l : List WrP) : List Value := l.flatMap fun x => [.int .i64 x.key, .string x.data, .bool x.gone]
theorem wrCells_len (l : List WrP) : (wrCells l).length = l.length * 3 := by
  induction l with
  | nil => rfl
  | cons x l ih => simp only [wrCells, List.flatMap_cons, List.length_append, List.length_cons, List.length_nil] at ih ⊢; omega
theorem wrCells_append (a b : List WrP) : wrCells (a ++ b) = wrCells a ++ wrCells b := by simp [wrCells]
theorem wrCells_at : ∀ (l : List WrP) (i : Nat) (x : WrP), l[i]? = some x → (wrCells l)[i * 3]? = some (.int .i64 x.key) ∧ (wrCells l)[i * 3 + 1]? = some (.string x.data) ∧ (wrCells l)[i * 3 + 2]? = some (.bool x.gone)
  | [], i, x, h => by simp at h
  | y :: l, 0, x, h => by simp at h; subst h; simp [wrCells]
  | y :: l, i + 1, x, h => by
    have := wrCells_at l i x (by simpa using h)
    have e : ∀ j, (wrCells (y :: l))[j + 3]? = (wrCells l)[j]? := fun j => by simp [wrCells, List.getElem?_append_right]
    rw [show (i + 1) * 3 = i * 3 + 3 by omega, show i * 3 + 3 + 1 = (i * 3 + 1) + 3 by omega, show i * 3 + 3 + 2 = (i * 3 + 2) + 3 by omega, e, e, e]
    exact this
theorem own_ws {w : World} {B c : Nat} {A : Option Addr} {ws : List WrP} (h : w.ownsRow B 83 3 (.slice A ws.length c) ws.length (wrCells ws)) : WsAt w A ws := by
  intro i x hx
  obtain ⟨hl, hn | ⟨g, cap, cur, hv, hb, hg, rest⟩⟩ := id h
  · have : ws = [] := List.eq_nil_of_length_eq_zero hn.2
    subst this; simp at hx
  · simp only [Value.slice.injEq] at hv
    obtain ⟨rfl, _, rfl⟩ := hv
    have hc := h.cells (g := g) rfl
    obtain ⟨h0, h1, h2⟩ := wrCells_at ws i x hx
    have e : ∀ j : Nat, (⟨g, 0, none⟩ : Addr).add j = ⟨g, 0 + j, none⟩ := fun j => by unfold Addr.add; split <;> simp_all
    have k0 := hc _ _ h0
    have k1 := hc _ _ h1
    have k2 := hc _ _ h2
    rw [e] at k0 k1 k2
    exact ⟨g, 0, rfl, (Array.getElem?_eq_some_iff.1 hg).1, k0, k1, k2⟩

/-- while a transaction is read -/
structure DtSt (w W : World) (g tb : Nat) (x0 x1 x2 x3 x4 x5 x6 x7 : Int) (A : Option Addr) (c : Nat) (ws : List WrP) (r : Rd) : Prop where
  rd : RdAt W g r
  z : W.heap[w.heap.size]? = some (.cells #[.int .i64 0, .int .i64 0, .int .i64 0, .int .i64 0, .int .i64 0, .int .i64 0, .int .i64 0, .int .i64 0, .slice none 0 0] 44)
  tx : W.heap[tb]? = some (.cells #[.int .i64 x0, .int .i64 x1, .int .i64 x2, .int .i64 x3, .int .i64 x4, .int .i64 x5, .int .i64 x6, .int .i64 x7, .slice A ws.length c] 44)
  own : W.ownsRow (tb + 1) 83 3 (.slice A ws.length c) ws.length (wrCells ws)
  bl : Below w.heap.size w W
  lg : w.heap.size < g
  lt : g < tb

theorem own_ge {w : World} {B e s n : Nat} {v : Value} {xs : List Value} (h : w.ownsRow B e s v n xs) {k : Nat} (hk : v.ownBlock = some k) : B ≤ k ∧ k < w.heap.size := by
  obtain ⟨_, hn | ⟨g, cap, cur, hv, hb, hg, _⟩⟩ := h
  · rw [hn.1] at hk; simp [Value.ownBlock] at hk
  · subst hv
    have : g = k := by simpa [Value.ownBlock] using hk
    subst this
    exact ⟨hb, (Array.getElem?_eq_some_iff.1 hg).1⟩

theorem DtSt.keep {w W W' : World} {g tb p : Nat} {x0 x1 x2 x3 x4 x5 x6 x7 : Int} {A : Option Addr} {c : Nat} {ws : List WrP} {r r' : Rd} (st : DtSt w W g tb x0 x1 x2 x3 x4 x5 x6 x7 A c ws r)
    (hg : W.grownBy W' (some p)) (hp : w.heap.size < p) (hpt : p ≠ tb) (hown : (Value.slice A ws.length c).ownBlock ≠ some p) (hr : RdAt W' g r') : DtSt w W' g tb x0 x1 x2 x3 x4 x5 x6 x7 A c ws r' := by
  have h1 := lt_blk st.z
  have h2 := lt_blk st.tx
  exact ⟨hr, by rw [hg.block _ h1 (by simp; omega)]; exact st.z, by rw [hg.block _ h2 (by simp; omega)]; exact st.tx, st.own.kept hg (.inr hown), below_grown st.bl hg (by omega) (Nat.le_refl _), st.lg, st.lt⟩
theorem DtSt.call {w W W' : World} {g tb : Nat} {x0 x1 x2 x3 x4 x5 x6 x7 : Int} {A : Option Addr} {c : Nat} {ws : List WrP} {r r' : Rd} (st : DtSt w W g tb x0 x1 x2 x3 x4 x5 x6 x7 A c ws r)
    (hr : RdAt W' g r') (hg : W.grownBy W' (some g)) : DtSt w W' g tb x0 x1 x2 x3 x4 x5 x6 x7 A c ws r' :=
  st.keep hg st.lg (Nat.ne_of_lt st.lt) (fun e => by have := (own_ge st.own e).1; have := st.lt; omega) hr
theorem rd_grown {W W' : World} {g p : Nat} {r : Rd} (h : RdAt W g r) (hg : W.grownBy W' (some p)) (hp : g < p) : RdAt W' g r :=
  h.above fun k hk => hg.block k (Nat.lt_of_le_of_lt hk h.lt) (by simp; omega)

/-- in a round: the write that is read lies in block p -/
structure DtR (w W : World) (g tb : Nat) (x0 x1 x2 x3 x4 x5 x6 x7 : Int) (A : Option Addr) (c : Nat) (ws : List WrP) (r : Rd) (p : Nat) (k : Int) (dt : ByteArray) (gn : Bool) : Prop where
  st : DtSt w W g tb x0 x1 x2 x3 x4 x5 x6 x7 A c ws r
  t7 : W.heap[p]? = some (.cells #[.int .i64 k, .string dt, .bool gn] 83)
  hp : tb < p
  ho : (Value.slice A ws.length c).ownBlock ≠ some p

theorem DtSt.round {w W : World} {g tb : Nat} {x0 x1 x2 x3 x4 x5 x6 x7 : Int} {A : Option Addr} {c : Nat} {ws : List WrP} {r : Rd} {k : Int} {dt : ByteArray} {gn : Bool} {o : Obj} (st : DtSt w W g tb x0 x1 x2 x3 x4 x5 x6 x7 A c ws r)
    (ho : o = .cells #[.int .i64 k, .string dt, .bool gn] 83) : DtR w (W.alloc o) g tb x0 x1 x2 x3 x4 x5 x6 x7 A c ws r W.heap.size k dt gn := by
  subst ho
  have h2 := lt_blk st.tx
  have hg := World.grownBy_alloc W (.cells #[.int .i64 k, .string dt, .bool gn] 83) (some W.heap.size)
  have h3 : (Value.slice A ws.length c).ownBlock ≠ some W.heap.size := fun e => by have := (own_ge st.own e).2; omega
  have h4 := st.lt
  have h5 := st.lg
  exact ⟨st.keep hg (by omega) (by omega) h3 (rd_grown st.rd hg (by omega)), by rw [heap_alloc, if_pos rfl], h2, h3⟩
theorem DtR.call {w W W' : World} {g tb : Nat} {x0 x1 x2 x3 x4 x5 x6 x7 : Int} {A : Option Addr} {c : Nat} {ws : List WrP} {r r' : Rd} {p : Nat} {k : Int} {dt : ByteArray} {gn : Bool} (st : DtR w W g tb x0 x1 x2 x3 x4 x5 x6 x7 A c ws r p k dt gn)
    (hr : RdAt W' g r') (hg : W.grownBy W' (some g)) : DtR w W' g tb x0 x1 x2 x3 x4 x5 x6 x7 A c ws r' p k dt gn := by
  have h1 := lt_blk st.t7
  have h2 := st.hp
  have h3 := st.st.lt
  exact ⟨st.st.call hr hg, by rw [hg.block _ h1 (by simp; omega)]; exact st.t7, st.hp, st.ho⟩
theorem DtR.set {w W : World} {g tb : Nat} {x0 x1 x2 x3 x4 x5 x6 x7 : Int} {A : Option Addr} {c : Nat} {ws : List WrP} {r : Rd} {p : Nat} {k k' : Int} {dt dt' : ByteArray} {gn gn' : Bool} {i : Nat} {u : Value} (st : DtR w W g tb x0 x1 x2 x3 x4 x5 x6 x7 A c ws r p k dt gn)
    (hu : (#[.int .i64 k, .string dt, .bool gn] : Array Value).setIfInBounds i u = #[.int .i64 k', .string dt', .bool gn']) : DtR w (W.setCell ⟨p, i, none⟩ u) g tb x0 x1 x2 x3 x4 x5 x6 x7 A c ws r p k' dt' gn' := by
  have h2 := st.hp
  have h3 := st.st.lt
  have h4 := st.st.lg
  have hg := grown_set W p i u
  exact ⟨st.st.keep hg (by omega) (by omega) st.ho (rd_grown st.st.rd hg (by omega)), by rw [blk_set st.t7 i u, hu], h2, st.ho⟩
theorem DtR.setBad {w W : World} {g tb : Nat} {x0 x1 x2 x3 x4 x5 x6 x7 : Int} {A : Option Addr} {c : Nat} {ws : List WrP} {r : Rd} {p : Nat} {k : Int} {dt : ByteArray} {gn : Bool} (b : Bool) (st : DtR w W g tb x0 x1 x2 x3 x4 x5 x6 x7 A c ws r p k dt gn) :
    DtR w (W.setCell ⟨g, 1, none⟩ (.bool b)) g tb x0 x1 x2 x3 x4 x5 x6 x7 A c ws ⟨r.l, b⟩ p k dt gn := by
  refine st.call ?_ (grown_set W g 1 _)
  obtain ⟨v, hb, hv⟩ := st.st.rd
  exact ⟨v, by simpa using blk_set hb 1 (.bool b), hv.set 1 _⟩
theorem DtR.app {w W W1 : World} {g tb : Nat} {x0 x1 x2 x3 x4 x5 x6 x7 : Int} {A : Option Addr} {c : Nat} {ws : List WrP} {r : Rd} {p : Nat} {k : Int} {dt : ByteArray} {gn : Bool} {o : Obj} {g1 cap : Nat} (st : DtR w W g tb x0 x1 x2 x3 x4 x5 x6 x7 A c ws r p k dt gn)
    (hown : W1.ownsRow (tb + 1) 83 3 (.slice (some ⟨g1, 0, none⟩) (ws.length + 1) cap) (ws.length + 1) (wrCells ws ++ [.int .i64 k, .string dt, .bool gn])) (hg : (W.alloc o).grownBy W1 (Value.slice A ws.length c).ownBlock) :
    W1.cell? ⟨tb, 8, none⟩ = some (.slice A ws.length c) ∧ W1.frozen? ⟨tb, 8, none⟩ = false ∧
    DtSt w (W1.setCell ⟨tb, 8, none⟩ (.slice (some ⟨g1, 0, none⟩) (ws.length + 1) cap)) g tb x0 x1 x2 x3 x4 x5 x6 x7 (some ⟨g1, 0, none⟩) cap (ws ++ [⟨k, dt, gn⟩]) r := by
  have h2 := st.hp
  have h3 := st.st.lt
  have h4 := st.st.lg
  have hge : ∀ j, (Value.slice A ws.length c).ownBlock = some j → tb + 1 ≤ j := fun j e => (own_ge st.st.own e).1
  have hgr : W.grownBy W1 (Value.slice A ws.length c).ownBlock := grownBy_trans' (World.grownBy_alloc W o _) hg (.inl rfl)
  have h5 := lt_blk st.st.tx
  have h6 := lt_blk st.st.z
  have htb : W1.heap[tb]? = W.heap[tb]? := hgr.block tb h5 (fun e => by have := hge tb e.symm; omega)
  have hz : W1.heap[w.heap.size]? = W.heap[w.heap.size]? := hgr.block _ h6 (fun e => by have := hge _ e.symm; omega)
  have htx := st.st.tx
  rw [← htb] at htx
  have hgs := grown_set W1 tb 8 (.slice (some ⟨g1, 0, none⟩) (ws.length + 1) cap)
  refine ⟨cell_blk htx 8, frozen_blk htx 8, ?_, ?_, ?_, ?_, ?_, h4, h3⟩
  · refine rd_grown ?_ hgs h3
    exact st.st.rd.above fun j hj => hgr.block j (by omega) (fun e => by have := hge _ e.symm; omega)
  · rw [hgs.block _ (by have := hgr.size; omega) (by simp; omega), hz]; exact st.st.z
  · rw [blk_set htx 8 _]; simp
  · have hn : (ws ++ [(⟨k, dt, gn⟩ : WrP)]).length = ws.length + 1 := by simp
    rw [hn, wrCells_append]
    exact hown.kept hgs (.inr (by have := (own_ge hown (k := g1) rfl).1; simp [Value.ownBlock]; omega))
  · refine below_grown (g := tb) ?_ hgs (by omega) (Nat.le_refl _)
    exact Below.grown st.st.bl hgr (Nat.le_of_lt h6) (fun j e => by have := hge j e; omega)
end Go.Proofs.YtbopfhbeegkkaabGreatDoor

namespace Go.Proofs.YtbopfhbeegkkaabGreatDoor
open Go.RowKit

theorem num_to {r r' : Rd} {n : Nat} (h : numR r = (n, r')) (g : Nat) (W : World) (hr : RdAt W g r) (hl : r.l.length ≤ 1000000) :
    Calls Tryz.prog 186 #[.pointer (some ⟨g, 0, none⟩)] W fun e w' => e = .returned (.int .i64 n) ∧ RdAt w' g r' ∧ W.grownBy w' (some g) := by
  have := num_any g r W hr hl; rw [h] at this; exact this
theorem text_to {r r' : Rd} {b : ByteArray} (h : textR r = (b, r')) (g : Nat) (W : World) (hr : RdAt W g r) (hl : r.l.length ≤ 1000000) :
    Calls Tryz.prog 188 #[.pointer (some ⟨g, 0, none⟩)] W fun e w' => e = .returned (.string b) ∧ RdAt w' g r' ∧ W.grownBy w' (some g) := by
  have := text_any g r W hr hl; rw [h] at this; exact this
theorem vec_to {r r' : Rd} {a b c d : Nat} (h : numR4 r = ((a, b, c, d), r')) (g : Nat) (W : World) (hr : RdAt W g r) (hl : r.l.length ≤ 1000000) :
    Calls Tryz.prog 187 #[.pointer (some ⟨g, 0, none⟩)] W fun e w' => e = .returned (.agg #[.int .i64 a, .int .i64 b, .int .i64 c, .int .i64 d]) ∧ RdAt w' g r' ∧ W.grownBy w' (some g) := by
  have := vec_any g r W hr hl; rw [h] at this; exact this
theorem num_to_len {r r' : Rd} {n : Nat} (h : numR r = (n, r')) (hl : r.l.length ≤ 1000000) : r'.l.length ≤ 1000000 := by
  have := numR_len r; rw [h] at this; exact Nat.le_trans this hl
theorem text_to_len {r r' : Rd} {b : ByteArray} (h : textR r = (b, r')) (hl : r.l.length ≤ 1000000) : r'.l.length ≤ 1000000 := by
  have h1 := numR_len r
  unfold textR at h
  split at h <;> (cases h; simp only [List.length_drop] ; omega)
theorem vec_to_len {r r' : Rd} {q : Nat × Nat × Nat × Nat} (h : numR4 r = (q, r')) (hl : r.l.length ≤ 1000000) : r'.l.length ≤ 1000000 := by
  have := numR4_len r; rw [h] at this; exact Nat.le_trans this hl
theorem num_to_le {r r' : Rd} {n : Nat} (h : numR r = (n, r')) : n ≤ 1099511627776 := by
  unfold numR at h
  cases e : rdNum r.l with
  | none => rw [e] at h; cases h; omega
  | some x =>
    obtain ⟨k, l⟩ := x
    rw [e] at h
    cases h
    exact (rdNum_back e).2
theorem vec_to_le {r r' : Rd} {a b c d : Nat} (h : numR4 r = ((a, b, c, d), r')) : a ≤ 1099511627776 ∧ b ≤ 1099511627776 ∧ c ≤ 1099511627776 ∧ d ≤ 1099511627776 := by
  unfold numR4 at h
  simp only [Prod.mk.injEq] at h
  obtain ⟨⟨rfl, rfl, rfl, rfl⟩, _⟩ := h
  exact ⟨num_to_le rfl, num_to_le rfl, num_to_le rfl, num_to_le rfl⟩

def finTx (h d : Nat × Nat × Nat × Nat) (F : List WrP × Rd) : Option TxP :=
  if F.2.bad || !F.2.l.isEmpty || !rightTx (txOf h d F.1) then none else some (txOf h d F.1)

theorem blk9 {W : World} {b : Nat} {x0 x1 x2 x3 x4 x5 x6 x7 x8 : Value} {t : TypeId} (h : W.heap[b]? = some (.cells #[x0, x1, x2, x3, x4, x5, x6, x7, x8] t)) :
    W.cell? ⟨b, 0, none⟩ = some x0 ∧ W.cell? ⟨b, 1, none⟩ = some x1 ∧ W.cell? ⟨b, 2, none⟩ = some x2 ∧ W.cell? ⟨b, 3, none⟩ = some x3 ∧ W.cell? ⟨b, 4, none⟩ = some x4 ∧
    W.cell? ⟨b, 5, none⟩ = some x5 ∧ W.cell? ⟨b, 6, none⟩ = some x6 ∧ W.cell? ⟨b, 7, none⟩ = some x7 ∧ W.cell? ⟨b, 8, none⟩ = some x8 ∧
    W.frozen? ⟨b, 0, none⟩ = false ∧ W.frozen? ⟨b, 1, none⟩ = false ∧ W.frozen? ⟨b, 2, none⟩ = false ∧ W.frozen? ⟨b, 3, none⟩ = false ∧ W.frozen? ⟨b, 4, none⟩ = false ∧
    W.frozen? ⟨b, 5, none⟩ = false ∧ W.frozen? ⟨b, 6, none⟩ = false ∧ W.frozen? ⟨b, 7, none⟩ = false ∧ W.frozen? ⟨b, 8, none⟩ = false :=
  ⟨cell_blk h 0, cell_blk h 1, cell_blk h 2, cell_blk h 3, cell_blk h 4, cell_blk h 5, cell_blk h 6, cell_blk h 7, cell_blk h 8,
   frozen_blk h 0, frozen_blk h 1, frozen_blk h 2, frozen_blk h 3, frozen_blk h 4, frozen_blk h 5, frozen_blk h 6, frozen_blk h 7, frozen_blk h 8⟩

/-- nine cells written into one block -/
def put9 (W : World) (b : Nat) (u0 u1 u2 u3 u4 u5 u6 u7 u8 : Value) : World :=
  ((((((((W.setCell ⟨b, 0, none⟩ u0).setCell ⟨b, 1, none⟩ u1).setCell ⟨b, 2, none⟩ u2).setCell ⟨b, 3, none⟩ u3).setCell ⟨b, 4, none⟩ u4).setCell ⟨b, 5, none⟩ u5).setCell ⟨b, 6, none⟩ u6).setCell ⟨b, 7, none⟩ u7).setCell ⟨b, 8, none⟩ u8
theorem put9_blk {W : World} {b : Nat} {x0 x1 x2 x3 x4 x5 x6 x7 x8 u0 u1 u2 u3 u4 u5 u6 u7 u8 : Value} {t : TypeId} (h : W.heap[b]? = some (.cells #[x0, x1, x2, x3, x4, x5, x6, x7, x8] t)) :
    (put9 W b u0 u1 u2 u3 u4 u5 u6 u7 u8).heap[b]? = some (.cells #[u0, u1, u2, u3, u4, u5, u6, u7, u8] t) := by
  have h0 := blk_set h 0 u0
  simp only [List.setIfInBounds_toArray, List.set_cons_zero, List.set_cons_succ] at h0
  have h1 := blk_set h0 1 u1
  simp only [List.setIfInBounds_toArray, List.set_cons_zero, List.set_cons_succ] at h1
  have h2 := blk_set h1 2 u2
  simp only [List.setIfInBounds_toArray, List.set_cons_zero, List.set_cons_succ] at h2
  have h3 := blk_set h2 3 u3
  simp only [List.setIfInBounds_toArray, List.set_cons_zero, List.set_cons_succ] at h3
  have h4 := blk_set h3 4 u4
  simp only [List.setIfInBounds_toArray, List.set_cons_zero, List.set_cons_succ] at h4
  have h5 := blk_set h4 5 u5
  simp only [List.setIfInBounds_toArray, List.set_cons_zero, List.set_cons_succ] at h5
  have h6 := blk_set h5 6 u6
  simp only [List.setIfInBounds_toArray, List.set_cons_zero, List.set_cons_succ] at h6
  have h7 := blk_set h6 7 u7
  simp only [List.setIfInBounds_toArray, List.set_cons_zero, List.set_cons_succ] at h7
  have h8 := blk_set h7 8 u8
  simp only [List.setIfInBounds_toArray, List.set_cons_zero, List.set_cons_succ] at h8
  exact h8
theorem set_below {n b i : Nat} {u : Value} {w W : World} (h : Below n w W) (hn : n ≤ b) : Below n w (W.setCell ⟨b, i, none⟩ u) := Below.setCell h (by simpa using hn) _
theorem put9_below {n b : Nat} {w W : World} {u0 u1 u2 u3 u4 u5 u6 u7 u8 : Value} (h : Below n w W) (hn : n ≤ b) : Below n w (put9 W b u0 u1 u2 u3 u4 u5 u6 u7 u8) :=
  set_below (set_below (set_below (set_below (set_below (set_below (set_below (set_below (set_below h hn) hn) hn) hn) hn) hn) hn) hn) hn
theorem set_own {w : World} {B e s n b i : Nat} {v u : Value} {xs : List Value} (h : w.ownsRow B e s v n xs) (hb : v.ownBlock ≠ some b) : (w.setCell ⟨b, i, none⟩ u).ownsRow B e s v n xs :=
  h.kept (grown_set w b i u) (.inr hb)
theorem put9_own {W : World} {B e s n b : Nat} {v u0 u1 u2 u3 u4 u5 u6 u7 u8 : Value} {xs : List Value} (h : W.ownsRow B e s v n xs) (hb : v.ownBlock ≠ some b) :
    (put9 W b u0 u1 u2 u3 u4 u5 u6 u7 u8).ownsRow B e s v n xs :=
  set_own (set_own (set_own (set_own (set_own (set_own (set_own (set_own (set_own h hb) hb) hb) hb) hb) hb) hb) hb) hb
theorem own_base {w : World} {B B' e s n : Nat} {v : Value} {xs : List Value} (h : w.ownsRow B e s v n xs) (hb : B' ≤ B) : w.ownsRow B' e s v n xs := by
  obtain ⟨hl, hn | ⟨g, cap, cur, hv, hb', hg, rest⟩⟩ := h
  · exact ⟨hl, .inl hn⟩
  · exact ⟨hl, .inr ⟨g, cap, cur, hv, Nat.le_trans hb hb', hg, rest⟩⟩
theorem own_below {w w' : World} {n B e s m : Nat} {v : Value} {xs : List Value} (h : w.ownsRow B e s v m xs) (hb : Below n w w') (hn : ∀ k, v.ownBlock = some k → k < n) : w'.ownsRow B e s v m xs := by
  obtain ⟨hl, hh | ⟨g, cap, cur, hv, hb', hg, rest⟩⟩ := h
  · exact ⟨hl, .inl hh⟩
  · refine ⟨hl, .inr ⟨g, cap, cur, hv, hb', ?_, rest⟩⟩
    rw [hb.block g (hn g (by rw [hv]; rfl))]; exact hg

theorem DtSt.below {w W W' : World} {g tb : Nat} {x0 x1 x2 x3 x4 x5 x6 x7 : Int} {A : Option Addr} {c : Nat} {ws : List WrP} {r : Rd} (st : DtSt w W g tb x0 x1 x2 x3 x4 x5 x6 x7 A c ws r)
    (hb : Below W.heap.size W W') : DtSt w W' g tb x0 x1 x2 x3 x4 x5 x6 x7 A c ws r := by
  have h1 := lt_blk st.z
  have h2 := lt_blk st.tx
  have h3 := st.lt
  refine ⟨st.rd.above fun k hk => hb.block k (by omega), by rw [hb.block _ h1]; exact st.z, by rw [hb.block _ h2]; exact st.tx, own_below st.own hb fun k hk => (own_ge st.own hk).2, st.bl.trans (hb.mono (Nat.le_of_lt h1)), st.lg, st.lt⟩

/-- what DecodeTx hands back -/
def TxPost (w : World) (D : Option TxP) (e : Ending) (w' : World) : Prop :=
  match D with
  | none => e = .returned (.tuple #[.agg #[.int .i64 0, .int .i64 0, .int .i64 0, .int .i64 0, .int .i64 0, .int .i64 0, .int .i64 0, .int .i64 0, .slice none 0 0], .iface 29 (.int .i64 3)]) ∧ Below w.heap.size w w'
  | some t => ∃ A c, e = .returned (.tuple #[.agg #[.int .i64 t.site, .int .i64 t.seq, .int .i64 t.wall, .int .i64 t.count, .int .i64 t.d0, .int .i64 t.d1, .int .i64 t.d2, .int .i64 t.d3, .slice A t.ws.length c], .nilIface]) ∧
      Below w.heap.size w w' ∧ w'.ownsRow w.heap.size 83 3 (.slice A t.ws.length c) t.ws.length (wrCells t.ws)

theorem cells3_new {W : World} {x0 x1 x2 : Value} {n : Nat} (hn : n = W.heap.size) :
    ∀ (j : Nat) (u : Value), [x0, x1, x2][j]? = some u → (W.alloc (.cells #[x0, x1, x2] 83)).cell? ((⟨n, 0, none⟩ : Addr).add j) = some u := by
  subst hn
  intro j u hj
  have e : (⟨W.heap.size, 0, none⟩ : Addr).add j = ⟨W.heap.size, j, none⟩ := by unfold Addr.add; split <;> simp_all
  rw [e, cell_blk (cs := #[x0, x1, x2]) (t := 83) (by rw [heap_alloc, if_pos rfl]) j]
  simpa using hj
end Go.Proofs.YtbopfhbeegkkaabGreatDoor

namespace Go.Proofs.YtbopfhbeegkkaabGreatDoor
open Go.RowKit

instance : Inhabited VerP := ⟨⟨0, 0, 0, 0, ⟨#[]⟩, false⟩⟩

/-- a slice of versions -/
def VsAt (w : World) (A : Option Addr) (vs : List VerP) : Prop := ∀ (i : Nat) (x : VerP), vs[i]? = some x → ∃ b o, A = some ⟨b, o, none⟩ ∧ b < w.heap.size ∧
  w.cell? ⟨b, o + i * 6, none⟩ = some (.int .i64 x.w) ∧ w.cell? ⟨b, o + i * 6 + 1, none⟩ = some (.int .i64 x.c) ∧ w.cell? ⟨b, o + i * 6 + 2, none⟩ = some (.int .i64 x.site) ∧
  w.cell? ⟨b, o + i * 6 + 3, none⟩ = some (.int .i64 x.seq) ∧ w.cell? ⟨b, o + i * 6 + 4, none⟩ = some (.string x.data) ∧ w.cell? ⟨b, o + i * 6 + 5, none⟩ = some (.bool x.gone)
theorem VsAt.below {w w' : World} {A : Option Addr} {vs : List VerP} (h : VsAt w A vs) (hb : Below w.heap.size w w') : VsAt w' A vs := fun i x hx => by
  obtain ⟨b, o, hA, hlt, h0, h1, h2, h3, h4, h5⟩ := h i x hx
  have e : ∀ k, w'.cell? ⟨b, k, none⟩ = w.cell? ⟨b, k, none⟩ := fun k => hb.cell (p := ⟨b, k, none⟩) hlt
  exact ⟨b, o, hA, Nat.lt_of_lt_of_le hlt hb.size, by rw [e]; exact h0, by rw [e]; exact h1, by rw [e]; exact h2, by rw [e]; exact h3, by rw [e]; exact h4, by rw [e]; exact h5⟩

def bsGo (vs : List VerP) (v : VerP) : Nat → Nat → Nat → Nat
  | 0, lo, _ => lo
  | f + 1, lo, hi => if lo < hi then (if cmpV (vs.getD ((lo + hi) / 2) default) v < 0 then bsGo vs v f ((lo + hi) / 2 + 1) hi else bsGo vs v f lo ((lo + hi) / 2)) else lo
theorem bsGo_end (vs : List VerP) (v : VerP) : ∀ (f lo hi : Nat), ¬ lo < hi → bsGo vs v f lo hi = lo
  | 0, _, _, _ => rfl
  | f + 1, lo, hi, h => by unfold bsGo; rw [if_neg h]
theorem bsGo_le (vs : List VerP) (v : VerP) : ∀ (f lo hi : Nat), lo ≤ hi → lo ≤ bsGo vs v f lo hi ∧ bsGo vs v f lo hi ≤ hi
  | 0, lo, hi, h => ⟨Nat.le_refl _, h⟩
  | f + 1, lo, hi, h => by
    unfold bsGo
    split
    · split
      · have := bsGo_le vs v f ((lo + hi) / 2 + 1) hi (by omega); omega
      · have := bsGo_le vs v f lo ((lo + hi) / 2) (by omega); omega
    · omega
def bsK (vs : List VerP) (v : VerP) : Nat := bsGo vs v vs.length 0 vs.length
def bsF (vs : List VerP) (v : VerP) : Bool := decide (bsK vs v < vs.length) && decide (cmpV (vs.getD (bsK vs v) default) v = 0)

set_option maxHeartbeats 8000000 in
theorem search_any (vs : List VerP) (v : VerP) (A : Option Addr) (c : Nat) (w : World) (hn : vs.length ≤ 1000000) (hvs : VsAt w A vs) (hs : ∀ x ∈ vs, 0 ≤ x.site ∧ x.site < 4) (hv : 0 ≤ v.site ∧ v.site < 4) :
    Calls Tryz.prog 176 #[.slice A vs.length c, verV v, .func (.func 177) #[] #[]] w fun e w' => e = .returned (.tuple #[.int .i64 (bsK vs v), .bool (bsF vs v)]) ∧ Below w.heap.size w w' := by
  have HV := hidp hvs
  have HS := hidp hs
  have HSV := hidp hv
  clear hvs hs hv
  unfold verV
  go_enter Tryz.func176, Tryz.ntmps176
  go_wp2
  go_loopw [9, 10] (fun i j wr => ∃ (lo hi f : Nat), i = .int .i64 lo ∧ j = .int .i64 hi ∧ lo ≤ hi ∧ hi ≤ vs.length ∧ hi - lo ≤ f ∧ bsGo vs v f lo hi = bsK vs v ∧ Below (w.alloc (.cells #[.int .i64 v.w, .int .i64 v.c, .int .i64 v.site, .int .i64 v.seq, .string v.data, .bool v.gone] 59)).heap.size (w.alloc (.cells #[.int .i64 v.w, .int .i64 v.c, .int .i64 v.site, .int .i64 v.seq, .string v.data, .bool v.gone] 59)) wr) (fun i j _ => ((intOf j).toNat - (intOf i).toNat))
  case atStart => exact ⟨0, vs.length, vs.length, rfl, rfl, Nat.zero_le _, Nat.le_refl _, by omega, rfl, Below.refl _ _⟩
  case round =>
    obtain ⟨lo, hi, f, rfl, rfl, h1, h2, h3, hB, hbl⟩ := hrel
    obtain ⟨x, rfl⟩ := wplus_of_below hbl
    clear hbl
    have HB := hidp hB
    clear hB
    by_cases hlt : lo < hi
    · obtain ⟨f, rfl⟩ : ∃ f', f = f' + 1 := ⟨f - 1, by omega⟩
      obtain ⟨m, hm⟩ : ∃ m, (lo + hi) / 2 = m := ⟨_, rfl⟩
      have hml : m < hi := by omega
      have hmg : lo ≤ m := by omega
      have hmi : ((lo : Int) + (hi : Int)) / 2 = (m : Int) := by omega
      have hmv : m < vs.length := by omega
      obtain ⟨b, o, rfl, hb, c0, c1, c2, c3, c4, c5⟩ := HV.out m vs[m] (List.getElem?_eq_getElem hmv)
      obtain ⟨y, hy⟩ : ∃ y, vs[m] = y := ⟨_, rfl⟩
      have hys := HS.out vs[m] (List.getElem_mem hmv)
      rw [hy] at c0 c1 c2 c3 c4 c5 hys
      have hgd : vs.getD m default = y := by simp [List.getD, List.getElem?_eq_getElem hmv, hy]
      have hB2 : bsK vs v = if cmpV y v < 0 then bsGo vs v f (m + 1) hi else bsGo vs v f lo m := by
        rw [← HB.out]; conv => lhs; unfold bsGo
        rw [if_pos hlt, hm, hgd]
      have HB2 := hidp hB2
      have HC := hidp fun w => cmpV_any y v w hys HSV.out
      unfold verV at HC
      generalize cmpV y v = z at *
      haveI : SzGe (b + 1) w := ⟨hb⟩
      clear hB2 hgd hy hm HB hys
      go_wp2
      by_cases hz : z < 0
      · have hd : decide (z < 0) = true := by simpa using hz
        have HB3 : Hid (bsGo vs v f (m + 1) hi = bsK vs v) := hidp (by rw [HB2.out, if_pos hz])
        clear HB2
        refine wp_region_plus (by kernel_rfl) (by kernel_rfl) ?_
        repeat (first | go_big_quiet_skip | (go_big_quiet_want; go_big_quiet_op; first | go_big_quiet_on | (apply Exists.intro; refine ⟨fun _ => ?_, ?_⟩; (first | (go_at_call 177; exact Calls.plus_of (HC.out _))); go_big_quiet_on)))
        refine wpQuiet_nil ?_
        rintro _ ⟨x3, rfl⟩
        go_wp2
        go_roundw
        case rel => exact ⟨m + 1, hi, f, congrArg (Value.int IntKind.i64) (by omega), rfl, by omega, h2, by omega, HB3.out, (by repeat (first | exact Below.refl _ _ | refine blw_alloc ?_ | refine blw_plus ?_ | refine Below.drew ?_))⟩
        case measure => simp only [intOf]; omega
      · have hd : decide (z < 0) = false := by simpa using hz
        have HB3 : Hid (bsGo vs v f lo m = bsK vs v) := hidp (by rw [HB2.out, if_neg hz])
        clear HB2
        refine wp_region_plus (by kernel_rfl) (by kernel_rfl) ?_
        repeat (first | go_big_quiet_skip | (go_big_quiet_want; go_big_quiet_op; first | go_big_quiet_on | (apply Exists.intro; refine ⟨fun _ => ?_, ?_⟩; (first | (go_at_call 177; exact Calls.plus_of (HC.out _))); go_big_quiet_on)))
        refine wpQuiet_nil ?_
        rintro _ ⟨x3, rfl⟩
        go_wp2
        go_roundw
        case rel => exact ⟨lo, m, f, rfl, rfl, hmg, by omega, by omega, HB3.out, (by repeat (first | exact Below.refl _ _ | refine blw_alloc ?_ | refine blw_plus ?_ | refine Below.drew ?_))⟩
        case measure => simp only [intOf]; omega
    · have hk : bsK vs v = lo := by rw [← HB.out, bsGo_end vs v f lo hi hlt]
      have HK := hidp hk
      clear hk HB
      by_cases hln : lo < vs.length
      · obtain ⟨b, o, rfl, hb, c0, c1, c2, c3, c4, c5⟩ := HV.out lo vs[lo] (List.getElem?_eq_getElem hln)
        obtain ⟨y, hy⟩ : ∃ y, vs[lo] = y := ⟨_, rfl⟩
        have hys := HS.out vs[lo] (List.getElem_mem hln)
        rw [hy] at c0 c1 c2 c3 c4 c5 hys
        have hgd : vs.getD lo default = y := by simp [List.getD, List.getElem?_eq_getElem hln, hy]
        have HC := hidp fun w => cmpV_any y v w hys HSV.out
        have HF : Hid (bsF vs v = decide (cmpV y v = 0)) := hidp (by unfold bsF; rw [HK.out, hgd, decide_eq_true hln, Bool.true_and])
        unfold verV at HC
        generalize cmpV y v = z at *
        haveI : SzGe (b + 1) w := ⟨hb⟩
        have hd : decide ((lo : Int) < (vs.length : Int)) = true := decide_eq_true (by omega)
        clear hgd hy hys
        go_wp2
        refine wp_region_plus (by kernel_rfl) (by kernel_rfl) ?_
        repeat (first | go_big_quiet_skip | (go_big_quiet_want; go_big_quiet_op; first | go_big_quiet_on | (apply Exists.intro; refine ⟨fun _ => ?_, ?_⟩; (first | (go_at_call 177; exact Calls.plus_of (HC.out _))); go_big_quiet_on)))
        refine wpQuiet_nil ?_
        rintro _ ⟨x3, rfl⟩
        go_wp2
        go_ret2
        refine ⟨?_, (by repeat (first | exact Below.refl _ _ | refine blw_alloc ?_ | refine blw_plus ?_ | refine Below.drew ?_))⟩
        rw [HK.out, HF.out, show decide (z = 0) = (z == 0) from by rw [Bool.eq_iff_iff]; simp]
        rfl
      · have HF : Hid (bsF vs v = false) := hidp (by unfold bsF; rw [HK.out, decide_eq_false hln, Bool.false_and])
        have hd : decide ((lo : Int) < (vs.length : Int)) = false := decide_eq_false (by omega)
        go_wp2
        refine wp_region_plus (by kernel_rfl) (by kernel_rfl) ?_
        repeat (first | go_big_quiet_skip | (go_big_quiet_want; go_big_quiet_op; go_big_quiet_on))
        refine wpQuiet_nil ?_
        rintro _ ⟨x3, rfl⟩
        go_wp2
        go_ret2
        refine ⟨?_, (by repeat (first | exact Below.refl _ _ | refine blw_alloc ?_ | refine blw_plus ?_ | refine Below.drew ?_))⟩
        rw [HK.out, HF.out]
        rfl
end Go.Proofs.YtbopfhbeegkkaabGreatDoor
