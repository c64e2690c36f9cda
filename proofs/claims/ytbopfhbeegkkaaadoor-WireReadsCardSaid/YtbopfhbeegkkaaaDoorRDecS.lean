import Derived.Test.YtbopfhbeegkkaaaDoorRDecA
namespace Go.Proofs.YtbopfhbeegkkaaaDoor
open Go.RowKit

theorem TpAt.aboveK {w w' : World} {g : Nat} {l : List UInt8} (h : TpAt w g l) (hk : ∀ k, k ≤ g → w'.heap[k]? = w.heap[k]?) : TpAt w' g l := h.above (hk g (Nat.le_refl _))
/-- while the reference reads a transaction -/
structure TtSt (w W : World) (g tb : Nat) (x0 x1 x2 x3 x4 x5 x6 x7 : Int) (A : Option Addr) (c : Nat) (ws : List WrP) (r : List UInt8) : Prop where
  rd : TpAt W g r
  z : W.heap[w.heap.size]? = some (.cells #[.int .i64 0, .int .i64 0, .int .i64 0, .int .i64 0, .int .i64 0, .int .i64 0, .int .i64 0, .int .i64 0, .slice none 0 0] 40)
  tx : W.heap[tb]? = some (.cells #[.int .i64 x0, .int .i64 x1, .int .i64 x2, .int .i64 x3, .int .i64 x4, .int .i64 x5, .int .i64 x6, .int .i64 x7, .slice A ws.length c] 40)
  own : W.ownsRow (tb + 1) 115 3 (.slice A ws.length c) ws.length (wrCells ws)
  bl : Below w.heap.size w W
  lg : w.heap.size < g
  lt : g < tb

theorem TtSt.keep {w W W' : World} {g tb p : Nat} {x0 x1 x2 x3 x4 x5 x6 x7 : Int} {A : Option Addr} {c : Nat} {ws : List WrP} {r r' : List UInt8} (st : TtSt w W g tb x0 x1 x2 x3 x4 x5 x6 x7 A c ws r)
    (hg : W.grownBy W' (some p)) (hp : w.heap.size < p) (hpt : p ≠ tb) (hown : (Value.slice A ws.length c).ownBlock ≠ some p) (hr : TpAt W' g r') : TtSt w W' g tb x0 x1 x2 x3 x4 x5 x6 x7 A c ws r' := by
  have h1 := lt_blk st.z
  have h2 := lt_blk st.tx
  exact ⟨hr, by rw [hg.block _ h1 (by simp; omega)]; exact st.z, by rw [hg.block _ h2 (by simp; omega)]; exact st.tx, st.own.kept hg (.inr hown), below_grown st.bl hg (by omega) (Nat.le_refl _), st.lg, st.lt⟩
theorem TtSt.call {w W W' : World} {g tb : Nat} {x0 x1 x2 x3 x4 x5 x6 x7 : Int} {A : Option Addr} {c : Nat} {ws : List WrP} {r r' : List UInt8} (st : TtSt w W g tb x0 x1 x2 x3 x4 x5 x6 x7 A c ws r)
    (hr : TpAt W' g r') (hg : W.grownBy W' (some g)) : TtSt w W' g tb x0 x1 x2 x3 x4 x5 x6 x7 A c ws r' :=
  st.keep hg st.lg (Nat.ne_of_lt st.lt) (fun e => by have := (own_ge st.own e).1; have := st.lt; omega) hr
theorem tp_grown {W W' : World} {g p : Nat} {r : List UInt8} (h : TpAt W g r) (hg : W.grownBy W' (some p)) (hp : g < p) : TpAt W' g r :=
  h.aboveK fun k hk => hg.block k (Nat.lt_of_le_of_lt hk h.lt) (by simp; omega)

/-- in a round: the write that is read lies in block p -/
structure TtR (w W : World) (g tb : Nat) (x0 x1 x2 x3 x4 x5 x6 x7 : Int) (A : Option Addr) (c : Nat) (ws : List WrP) (r : List UInt8) (p : Nat) (k : Int) (dt : ByteArray) (gn : Bool) : Prop where
  st : TtSt w W g tb x0 x1 x2 x3 x4 x5 x6 x7 A c ws r
  t7 : W.heap[p]? = some (.cells #[.int .i64 k, .string dt, .bool gn] 115)
  hp : tb < p
  ho : (Value.slice A ws.length c).ownBlock ≠ some p

theorem TtSt.round {w W : World} {g tb : Nat} {x0 x1 x2 x3 x4 x5 x6 x7 : Int} {A : Option Addr} {c : Nat} {ws : List WrP} {r : List UInt8} {k : Int} {dt : ByteArray} {gn : Bool} {o : Obj} (st : TtSt w W g tb x0 x1 x2 x3 x4 x5 x6 x7 A c ws r)
    (ho : o = .cells #[.int .i64 k, .string dt, .bool gn] 115) : TtR w (W.alloc o) g tb x0 x1 x2 x3 x4 x5 x6 x7 A c ws r W.heap.size k dt gn := by
  subst ho
  have h2 := lt_blk st.tx
  have hg := World.grownBy_alloc W (.cells #[.int .i64 k, .string dt, .bool gn] 115) (some W.heap.size)
  have h3 : (Value.slice A ws.length c).ownBlock ≠ some W.heap.size := fun e => by have := (own_ge st.own e).2; omega
  have h4 := st.lt
  have h5 := st.lg
  exact ⟨st.keep hg (by omega) (by omega) h3 (tp_grown st.rd hg (by omega)), by rw [heap_alloc, if_pos rfl], h2, h3⟩
theorem TtR.call {w W W' : World} {g tb : Nat} {x0 x1 x2 x3 x4 x5 x6 x7 : Int} {A : Option Addr} {c : Nat} {ws : List WrP} {r r' : List UInt8} {p : Nat} {k : Int} {dt : ByteArray} {gn : Bool} (st : TtR w W g tb x0 x1 x2 x3 x4 x5 x6 x7 A c ws r p k dt gn)
    (hr : TpAt W' g r') (hg : W.grownBy W' (some g)) : TtR w W' g tb x0 x1 x2 x3 x4 x5 x6 x7 A c ws r' p k dt gn := by
  have h1 := lt_blk st.t7
  have h2 := st.hp
  have h3 := st.st.lt
  exact ⟨st.st.call hr hg, by rw [hg.block _ h1 (by simp; omega)]; exact st.t7, st.hp, st.ho⟩
theorem TtR.set {w W : World} {g tb : Nat} {x0 x1 x2 x3 x4 x5 x6 x7 : Int} {A : Option Addr} {c : Nat} {ws : List WrP} {r : List UInt8} {p : Nat} {k k' : Int} {dt dt' : ByteArray} {gn gn' : Bool} {i : Nat} {u : Value} (st : TtR w W g tb x0 x1 x2 x3 x4 x5 x6 x7 A c ws r p k dt gn)
    (hu : (#[.int .i64 k, .string dt, .bool gn] : Array Value).setIfInBounds i u = #[.int .i64 k', .string dt', .bool gn']) : TtR w (W.setCell ⟨p, i, none⟩ u) g tb x0 x1 x2 x3 x4 x5 x6 x7 A c ws r p k' dt' gn' := by
  have h2 := st.hp
  have h3 := st.st.lt
  have h4 := st.st.lg
  have hg := grown_set W p i u
  exact ⟨st.st.keep hg (by omega) (by omega) st.ho (tp_grown st.st.rd hg (by omega)), by rw [blk_set st.t7 i u, hu], h2, st.ho⟩
theorem TtR.app {w W W1 : World} {g tb : Nat} {x0 x1 x2 x3 x4 x5 x6 x7 : Int} {A : Option Addr} {c : Nat} {ws : List WrP} {r : List UInt8} {p : Nat} {k : Int} {dt : ByteArray} {gn : Bool} {o : Obj} {g1 cap : Nat} (st : TtR w W g tb x0 x1 x2 x3 x4 x5 x6 x7 A c ws r p k dt gn)
    (hown : W1.ownsRow (tb + 1) 115 3 (.slice (some ⟨g1, 0, none⟩) (ws.length + 1) cap) (ws.length + 1) (wrCells ws ++ [.int .i64 k, .string dt, .bool gn])) (hg : (W.alloc o).grownBy W1 (Value.slice A ws.length c).ownBlock) :
    W1.cell? ⟨tb, 8, none⟩ = some (.slice A ws.length c) ∧ W1.frozen? ⟨tb, 8, none⟩ = false ∧
    TtSt w (W1.setCell ⟨tb, 8, none⟩ (.slice (some ⟨g1, 0, none⟩) (ws.length + 1) cap)) g tb x0 x1 x2 x3 x4 x5 x6 x7 (some ⟨g1, 0, none⟩) cap (ws ++ [⟨k, dt, gn⟩]) r := by
  have h2 := st.hp
  have h3 := st.st.lt
  have h4 := st.st.lg
  have hge : ∀ j, (Value.slice A ws.length c).ownBlock = some j → tb + 1 ≤ j := fun j e => (own_ge st.st.own e).1
  have hgr : W.grownBy W1 (Value.slice A ws.length c).ownBlock := grownBy_trans' (World.grownBy_alloc W o _) hg (.inl rfl)
  have h5 := lt_blk st.st.tx
  have h6 := lt_blk st.st.z
  have htb : W1.heap[tb]? = W.heap[tb]? := hgr.block tb h5 (fun e => by have := hge tb e.symm; omega)
  have hz : W1.heap[w.heap.size]? = W.heap[w.heap.size]? := hgr.block _ h6 (fun e => by have := hge _ e.symm; omega)
  have htx := st.st.tx
  rw [← htb] at htx
  have hgs := grown_set W1 tb 8 (.slice (some ⟨g1, 0, none⟩) (ws.length + 1) cap)
  refine ⟨cell_blk htx 8, frozen_blk htx 8, ?_, ?_, ?_, ?_, ?_, h4, h3⟩
  · refine tp_grown ?_ hgs h3
    exact st.st.rd.aboveK fun j hj => hgr.block j (by omega) (fun e => by have := hge _ e.symm; omega)
  · rw [hgs.block _ (by have := hgr.size; omega) (by simp; omega), hz]; exact st.st.z
  · rw [blk_set htx 8 _]; simp
  · have hn : (ws ++ [(⟨k, dt, gn⟩ : WrP)]).length = ws.length + 1 := by simp
    rw [hn, wrCells_append]
    exact hown.kept hgs (.inr (by have := (own_ge hown (k := g1) rfl).1; simp [Value.ownBlock]; omega))
  · refine below_grown (g := tb) ?_ hgs (by omega) (Nat.le_refl _)
    exact Below.grown st.st.bl hgr (Nat.le_of_lt h6) (fun j e => by have := hge j e; omega)

theorem TtSt.set9 {w W : World} {g tb i : Nat} {x0 x1 x2 x3 x4 x5 x6 x7 y0 y1 y2 y3 y4 y5 y6 y7 : Int} {A : Option Addr} {c : Nat} {ws : List WrP} {r : List UInt8} {u : Value} (st : TtSt w W g tb x0 x1 x2 x3 x4 x5 x6 x7 A c ws r)
    (hu : (#[.int .i64 x0, .int .i64 x1, .int .i64 x2, .int .i64 x3, .int .i64 x4, .int .i64 x5, .int .i64 x6, .int .i64 x7, .slice A ws.length c] : Array Value).setIfInBounds i u =
      #[.int .i64 y0, .int .i64 y1, .int .i64 y2, .int .i64 y3, .int .i64 y4, .int .i64 y5, .int .i64 y6, .int .i64 y7, .slice A ws.length c]) : TtSt w (W.setCell ⟨tb, i, none⟩ u) g tb y0 y1 y2 y3 y4 y5 y6 y7 A c ws r := by
  have h1 := st.lg
  have h2 := st.lt
  have hg := grown_set W tb i u
  have h3 := lt_blk st.z
  refine ⟨st.rd.above (hg.block g (by have := st.rd.lt; omega) (by simp; omega)), by rw [hg.block _ h3 (by simp; omega)]; exact st.z, by rw [blk_set st.tx i u, hu], ?_, set_below st.bl (by omega), h1, h2⟩
  exact st.own.kept hg (.inr (fun e => by have := (own_ge st.own e).1; omega))
theorem TtSt.below {w W W' : World} {g tb : Nat} {x0 x1 x2 x3 x4 x5 x6 x7 : Int} {A : Option Addr} {c : Nat} {ws : List WrP} {r : List UInt8} (st : TtSt w W g tb x0 x1 x2 x3 x4 x5 x6 x7 A c ws r)
    (hb : Below W.heap.size W W') : TtSt w W' g tb x0 x1 x2 x3 x4 x5 x6 x7 A c ws r := by
  have h1 := lt_blk st.z
  have h2 := lt_blk st.tx
  have h3 := st.lt
  refine ⟨st.rd.above (hb.block _ st.rd.lt), by rw [hb.block _ h1]; exact st.z, by rw [hb.block _ h2]; exact st.tx, own_below st.own hb fun k hk => (own_ge st.own hk).2, st.bl.trans (hb.mono (Nat.le_of_lt h1)), st.lg, st.lt⟩
/-- the tape is set -/
theorem TtR.tape {w W : World} {g tb : Nat} {x0 x1 x2 x3 x4 x5 x6 x7 : Int} {A : Option Addr} {c : Nat} {ws : List WrP} {r r' : List UInt8} {p : Nat} {k : Int} {dt : ByteArray} {gn : Bool} {s' : ByteArray} (st : TtR w W g tb x0 x1 x2 x3 x4 x5 x6 x7 A c ws r p k dt gn)
    (hs : s'.data.toList = r') : TtR w (W.setCell ⟨g, 0, none⟩ (.string s')) g tb x0 x1 x2 x3 x4 x5 x6 x7 A c ws r' p k dt gn := by
  refine st.call ?_ (grown_set W g 0 _)
  obtain ⟨v, hv, hb⟩ := st.st.rd
  exact ⟨s', hs, by simpa using blk_set hb 0 (.string s')⟩
theorem ttst_start {w w6 : World} {x0 x1 x2 x3 : Int} {o o2 : Obj} {r : List UInt8} {o1 : Obj}
    (ho : o = .cells #[.int .i64 0, .int .i64 0, .int .i64 0, .int .i64 0, .int .i64 0, .int .i64 0, .int .i64 0, .int .i64 0, .slice none 0 0] 40)
    (hr : TpAt w6 (w.heap.size + 1) r) (hg : ((w.alloc o).alloc o1).grownBy w6 (some (w.heap.size + 1)))
    (ho2 : o2 = .cells #[.int .i64 x0, .int .i64 x1, .int .i64 x2, .int .i64 x3, .int .i64 0, .int .i64 0, .int .i64 0, .int .i64 0, .slice none 0 0] 40) :
    TtSt w (w6.alloc o2) (w.heap.size + 1) w6.heap.size x0 x1 x2 x3 0 0 0 0 none 0 [] r := by
  subst ho ho2
  have hlt := hr.lt
  have hz := hg.block w.heap.size (by simp; omega) (by simp)
  rw [heap_alloc, if_neg (by simp), heap_alloc, if_pos rfl] at hz
  have h1 : Below w.heap.size w w6 := below_grown (blw_alloc (blw_alloc (Below.refl _ _))) hg (by omega) (Nat.le_refl _)
  exact ⟨hr.above (by rw [heap_alloc, if_neg (by omega)]), by rw [heap_alloc, if_neg (by omega)]; exact hz, by rw [heap_alloc, if_pos rfl]; rfl, ⟨rfl, .inl ⟨rfl, rfl⟩⟩, h1.alloc (by omega) _, by omega, hlt⟩
end Go.Proofs.YtbopfhbeegkkaaaDoor
