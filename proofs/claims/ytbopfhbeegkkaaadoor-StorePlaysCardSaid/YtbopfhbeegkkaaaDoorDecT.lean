import Derived.Test.YtbopfhbeegkkaaaDoorDecA
import Derived.Test.YtbopfhbeegkkaaaDoorRT
namespace Go.Proofs.YtbopfhbeegkkaaaDoor
open Go.RowKit

theorem info43 : (Tryd.prog.info? 115).map (fun i => (i.zero, i.size, i.bytes)) = some (some (.agg #[.int .i64 0, .string ⟨#[]⟩, .bool false]), 3, 32) := by kernel_rfl

def wrCells (l : List WrP) : List Value := l.flatMap fun x => [.int .i64 x.key, .string x.data, .bool x.gone]
theorem wrCells_len (l : List WrP) : (wrCells l).length = l.length * 3 := by
  induction l with
  | nil => rfl
  | cons x l ih => simp only [wrCells, List.flatMap_cons, List.length_append, List.length_cons, List.length_nil] at ih ⊢; omega
theorem wrCells_append (a b : List WrP) : wrCells (a ++ b) = wrCells a ++ wrCells b := by simp [wrCells]
theorem wrCells_at : ∀ (l : List WrP) (i : Nat) (x : WrP), l[i]? = some x → (wrCells l)[i * 3]? = some (.int .i64 x.key) ∧ (wrCells l)[i * 3 + 1]? = some (.string x.data) ∧ (wrCells l)[i * 3 + 2]? = some (.bool x.gone)
  | [], i, x, h => by simp at h
  | y :: l, 0, x, h => by simp at h; subst h; simp [wrCells]
  | y :: l, i + 1, x, h => by
    have := wrCells_at l i x (by simpa using h)
    have e : ∀ j, (wrCells (y :: l))[j + 3]? = (wrCells l)[j]? := fun j => by simp [wrCells, List.getElem?_append_right]
    rw [show (i + 1) * 3 = i * 3 + 3 by omega, show i * 3 + 3 + 1 = (i * 3 + 1) + 3 by omega, show i * 3 + 3 + 2 = (i * 3 + 2) + 3 by omega, e, e, e]
    exact this
theorem own_ws {w : World} {B c : Nat} {A : Option Addr} {ws : List WrP} (h : w.ownsRow B 115 3 (.slice A ws.length c) ws.length (wrCells ws)) : WsAt w A ws := by
  intro i x hx
  obtain ⟨hl, hn | ⟨g, cap, cur, hv, hb, hg, rest⟩⟩ := id h
  · have : ws = [] := List.eq_nil_of_length_eq_zero hn.2
    subst this; simp at hx
  · simp only [Value.slice.injEq] at hv
    obtain ⟨rfl, _, rfl⟩ := hv
    have hc := h.cells (g := g) rfl
    obtain ⟨h0, h1, h2⟩ := wrCells_at ws i x hx
    have e : ∀ j : Nat, (⟨g, 0, none⟩ : Addr).add j = ⟨g, 0 + j, none⟩ := fun j => by unfold Addr.add; split <;> simp_all
    have k0 := hc _ _ h0
    have k1 := hc _ _ h1
    have k2 := hc _ _ h2
    rw [e] at k0 k1 k2
    exact ⟨g, 0, rfl, (Array.getElem?_eq_some_iff.1 hg).1, k0, k1, k2⟩

/-- while a transaction is read -/
structure DtSt (w W : World) (g tb : Nat) (x0 x1 x2 x3 x4 x5 x6 x7 : Int) (A : Option Addr) (c : Nat) (ws : List WrP) (r : Rd) : Prop where
  rd : RdAt W g r
  z : W.heap[w.heap.size]? = some (.cells #[.int .i64 0, .int .i64 0, .int .i64 0, .int .i64 0, .int .i64 0, .int .i64 0, .int .i64 0, .int .i64 0, .slice none 0 0] 40)
  tx : W.heap[tb]? = some (.cells #[.int .i64 x0, .int .i64 x1, .int .i64 x2, .int .i64 x3, .int .i64 x4, .int .i64 x5, .int .i64 x6, .int .i64 x7, .slice A ws.length c] 40)
  own : W.ownsRow (tb + 1) 115 3 (.slice A ws.length c) ws.length (wrCells ws)
  bl : Below w.heap.size w W
  lg : w.heap.size < g
  lt : g < tb

theorem own_ge {w : World} {B e s n : Nat} {v : Value} {xs : List Value} (h : w.ownsRow B e s v n xs) {k : Nat} (hk : v.ownBlock = some k) : B ≤ k ∧ k < w.heap.size := by
  obtain ⟨_, hn | ⟨g, cap, cur, hv, hb, hg, _⟩⟩ := h
  · rw [hn.1] at hk; simp [Value.ownBlock] at hk
  · subst hv
    have : g = k := by simpa [Value.ownBlock] using hk
    subst this
    exact ⟨hb, (Array.getElem?_eq_some_iff.1 hg).1⟩

theorem DtSt.keep {w W W' : World} {g tb p : Nat} {x0 x1 x2 x3 x4 x5 x6 x7 : Int} {A : Option Addr} {c : Nat} {ws : List WrP} {r r' : Rd} (st : DtSt w W g tb x0 x1 x2 x3 x4 x5 x6 x7 A c ws r)
    (hg : W.grownBy W' (some p)) (hp : w.heap.size < p) (hpt : p ≠ tb) (hown : (Value.slice A ws.length c).ownBlock ≠ some p) (hr : RdAt W' g r') : DtSt w W' g tb x0 x1 x2 x3 x4 x5 x6 x7 A c ws r' := by
  have h1 := lt_blk st.z
  have h2 := lt_blk st.tx
  exact ⟨hr, by rw [hg.block _ h1 (by simp; omega)]; exact st.z, by rw [hg.block _ h2 (by simp; omega)]; exact st.tx, st.own.kept hg (.inr hown), below_grown st.bl hg (by omega) (Nat.le_refl _), st.lg, st.lt⟩
theorem DtSt.call {w W W' : World} {g tb : Nat} {x0 x1 x2 x3 x4 x5 x6 x7 : Int} {A : Option Addr} {c : Nat} {ws : List WrP} {r r' : Rd} (st : DtSt w W g tb x0 x1 x2 x3 x4 x5 x6 x7 A c ws r)
    (hr : RdAt W' g r') (hg : W.grownBy W' (some g)) : DtSt w W' g tb x0 x1 x2 x3 x4 x5 x6 x7 A c ws r' :=
  st.keep hg st.lg (Nat.ne_of_lt st.lt) (fun e => by have := (own_ge st.own e).1; have := st.lt; omega) hr
theorem rd_grown {W W' : World} {g p : Nat} {r : Rd} (h : RdAt W g r) (hg : W.grownBy W' (some p)) (hp : g < p) : RdAt W' g r :=
  h.above fun k hk => hg.block k (Nat.lt_of_le_of_lt hk h.lt) (by simp; omega)

/-- in a round: the write that is read lies in block p -/
structure DtR (w W : World) (g tb : Nat) (x0 x1 x2 x3 x4 x5 x6 x7 : Int) (A : Option Addr) (c : Nat) (ws : List WrP) (r : Rd) (p : Nat) (k : Int) (dt : ByteArray) (gn : Bool) : Prop where
  st : DtSt w W g tb x0 x1 x2 x3 x4 x5 x6 x7 A c ws r
  t7 : W.heap[p]? = some (.cells #[.int .i64 k, .string dt, .bool gn] 115)
  hp : tb < p
  ho : (Value.slice A ws.length c).ownBlock ≠ some p

theorem DtSt.round {w W : World} {g tb : Nat} {x0 x1 x2 x3 x4 x5 x6 x7 : Int} {A : Option Addr} {c : Nat} {ws : List WrP} {r : Rd} {k : Int} {dt : ByteArray} {gn : Bool} {o : Obj} (st : DtSt w W g tb x0 x1 x2 x3 x4 x5 x6 x7 A c ws r)
    (ho : o = .cells #[.int .i64 k, .string dt, .bool gn] 115) : DtR w (W.alloc o) g tb x0 x1 x2 x3 x4 x5 x6 x7 A c ws r W.heap.size k dt gn := by
  subst ho
  have h2 := lt_blk st.tx
  have hg := World.grownBy_alloc W (.cells #[.int .i64 k, .string dt, .bool gn] 115) (some W.heap.size)
  have h3 : (Value.slice A ws.length c).ownBlock ≠ some W.heap.size := fun e => by have := (own_ge st.own e).2; omega
  have h4 := st.lt
  have h5 := st.lg
  exact ⟨st.keep hg (by omega) (by omega) h3 (rd_grown st.rd hg (by omega)), by rw [heap_alloc, if_pos rfl], h2, h3⟩
theorem DtR.call {w W W' : World} {g tb : Nat} {x0 x1 x2 x3 x4 x5 x6 x7 : Int} {A : Option Addr} {c : Nat} {ws : List WrP} {r r' : Rd} {p : Nat} {k : Int} {dt : ByteArray} {gn : Bool} (st : DtR w W g tb x0 x1 x2 x3 x4 x5 x6 x7 A c ws r p k dt gn)
    (hr : RdAt W' g r') (hg : W.grownBy W' (some g)) : DtR w W' g tb x0 x1 x2 x3 x4 x5 x6 x7 A c ws r' p k dt gn := by
  have h1 := lt_blk st.t7
  have h2 := st.hp
  have h3 := st.st.lt
  exact ⟨st.st.call hr hg, by rw [hg.block _ h1 (by simp; omega)]; exact st.t7, st.hp, st.ho⟩
theorem DtR.set {w W : World} {g tb : Nat} {x0 x1 x2 x3 x4 x5 x6 x7 : Int} {A : Option Addr} {c : Nat} {ws : List WrP} {r : Rd} {p : Nat} {k k' : Int} {dt dt' : ByteArray} {gn gn' : Bool} {i : Nat} {u : Value} (st : DtR w W g tb x0 x1 x2 x3 x4 x5 x6 x7 A c ws r p k dt gn)
    (hu : (#[.int .i64 k, .string dt, .bool gn] : Array Value).setIfInBounds i u = #[.int .i64 k', .string dt', .bool gn']) : DtR w (W.setCell ⟨p, i, none⟩ u) g tb x0 x1 x2 x3 x4 x5 x6 x7 A c ws r p k' dt' gn' := by
  have h2 := st.hp
  have h3 := st.st.lt
  have h4 := st.st.lg
  have hg := grown_set W p i u
  exact ⟨st.st.keep hg (by omega) (by omega) st.ho (rd_grown st.st.rd hg (by omega)), by rw [blk_set st.t7 i u, hu], h2, st.ho⟩
theorem DtR.setBad {w W : World} {g tb : Nat} {x0 x1 x2 x3 x4 x5 x6 x7 : Int} {A : Option Addr} {c : Nat} {ws : List WrP} {r : Rd} {p : Nat} {k : Int} {dt : ByteArray} {gn : Bool} (b : Bool) (st : DtR w W g tb x0 x1 x2 x3 x4 x5 x6 x7 A c ws r p k dt gn) :
    DtR w (W.setCell ⟨g, 1, none⟩ (.bool b)) g tb x0 x1 x2 x3 x4 x5 x6 x7 A c ws ⟨r.l, b⟩ p k dt gn := by
  refine st.call ?_ (grown_set W g 1 _)
  obtain ⟨v, hb, hv⟩ := st.st.rd
  exact ⟨v, by simpa using blk_set hb 1 (.bool b), hv.set 1 _⟩
theorem DtR.app {w W W1 : World} {g tb : Nat} {x0 x1 x2 x3 x4 x5 x6 x7 : Int} {A : Option Addr} {c : Nat} {ws : List WrP} {r : Rd} {p : Nat} {k : Int} {dt : ByteArray} {gn : Bool} {o : Obj} {g1 cap : Nat} (st : DtR w W g tb x0 x1 x2 x3 x4 x5 x6 x7 A c ws r p k dt gn)
    (hown : W1.ownsRow (tb + 1) 115 3 (.slice (some ⟨g1, 0, none⟩) (ws.length + 1) cap) (ws.length + 1) (wrCells ws ++ [.int .i64 k, .string dt, .bool gn])) (hg : (W.alloc o).grownBy W1 (Value.slice A ws.length c).ownBlock) :
    W1.cell? ⟨tb, 8, none⟩ = some (.slice A ws.length c) ∧ W1.frozen? ⟨tb, 8, none⟩ = false ∧
    DtSt w (W1.setCell ⟨tb, 8, none⟩ (.slice (some ⟨g1, 0, none⟩) (ws.length + 1) cap)) g tb x0 x1 x2 x3 x4 x5 x6 x7 (some ⟨g1, 0, none⟩) cap (ws ++ [⟨k, dt, gn⟩]) r := by
  have h2 := st.hp
  have h3 := st.st.lt
  have h4 := st.st.lg
  have hge : ∀ j, (Value.slice A ws.length c).ownBlock = some j → tb + 1 ≤ j := fun j e => (own_ge st.st.own e).1
  have hgr : W.grownBy W1 (Value.slice A ws.length c).ownBlock := grownBy_trans' (World.grownBy_alloc W o _) hg (.inl rfl)
  have h5 := lt_blk st.st.tx
  have h6 := lt_blk st.st.z
  have htb : W1.heap[tb]? = W.heap[tb]? := hgr.block tb h5 (fun e => by have := hge tb e.symm; omega)
  have hz : W1.heap[w.heap.size]? = W.heap[w.heap.size]? := hgr.block _ h6 (fun e => by have := hge _ e.symm; omega)
  have htx := st.st.tx
  rw [← htb] at htx
  have hgs := grown_set W1 tb 8 (.slice (some ⟨g1, 0, none⟩) (ws.length + 1) cap)
  refine ⟨cell_blk htx 8, frozen_blk htx 8, ?_, ?_, ?_, ?_, ?_, h4, h3⟩
  · refine rd_grown ?_ hgs h3
    exact st.st.rd.above fun j hj => hgr.block j (by omega) (fun e => by have := hge _ e.symm; omega)
  · rw [hgs.block _ (by have := hgr.size; omega) (by simp; omega), hz]; exact st.st.z
  · rw [blk_set htx 8 _]; simp
  · have hn : (ws ++ [(⟨k, dt, gn⟩ : WrP)]).length = ws.length + 1 := by simp
    rw [hn, wrCells_append]
    exact hown.kept hgs (.inr (by have := (own_ge hown (k := g1) rfl).1; simp [Value.ownBlock]; omega))
  · refine below_grown (g := tb) ?_ hgs (by omega) (Nat.le_refl _)
    exact Below.grown st.st.bl hgr (Nat.le_of_lt h6) (fun j e => by have := hge j e; omega)
end Go.Proofs.YtbopfhbeegkkaaaDoor
