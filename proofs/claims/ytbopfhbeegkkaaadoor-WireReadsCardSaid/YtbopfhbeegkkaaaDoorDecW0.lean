import Derived.Test.YtbopfhbeegkkaaaDoorDecU
namespace Go.Proofs.YtbopfhbeegkkaaaDoor
open Go.RowKit

theorem dec_ret {D : Option TxP} {w W : World} {b : Nat} {u0 u1 u2 u3 u4 u5 u6 u7 u8 x0 x1 x2 x3 x4 x5 x6 x7 x8 e : Value} {a : Act} (h : W.heap[b]? = some (.cells #[x0, x1, x2, x3, x4, x5, x6, x7, x8] 40))
    (hd : a.defers = []) (h2 : a.tmps[2]?.getD undef = .pointer (some ⟨b, 0, none⟩)) (h3 : a.tmps[3]?.getD undef = e)
    (hp : TxPost w D (.returned (.tuple #[.agg #[u0, u1, u2, u3, u4, u5, u6, u7, u8], e])) (put9 W b u0 u1 u2 u3 u4 u5 u6 u7 u8)) :
    bodyPost Tryd.prog Tryd.f27 (TxPost w D) .ret a (put9 W b u0 u1 u2 u3 u4 u5 u6 u7 u8) := by
  have hb := blk9 (put9_blk (u0 := u0) (u1 := u1) (u2 := u2) (u3 := u3) (u4 := u4) (u5 := u5) (u6 := u6) (u7 := u7) (u8 := u8) h)
  go_split_ands
  refine bodyPost_ret ?_ hd hp
  simp only [results, Tryd.results27]
  simp [go_sem, h2, h3, *]

theorem info43x : ∃ i, Tryd.prog.info? 115 = some i ∧ i.zero = some (.agg #[.int .i64 0, .string ⟨#[]⟩, .bool false]) ∧ i.size = 3 ∧ i.bytes = 32 := by
  obtain ⟨i, hi, h⟩ := Option.map_eq_some_iff.1 info43
  simp only [Prod.mk.injEq] at h
  exact ⟨i, hi, h.1, h.2.1, h.2.2⟩

theorem dtst_start {w w6 : World} {x0 x1 x2 x3 x4 x5 x6 x7 : Int} {o o2 : Obj} {r : Rd}
    (ho : o = .cells #[.int .i64 0, .int .i64 0, .int .i64 0, .int .i64 0, .int .i64 0, .int .i64 0, .int .i64 0, .int .i64 0, .slice none 0 0] 40)
    (hr : RdAt w6 (w.heap.size + 1) r) (hb : Below (w.heap.size + 1) (w.alloc o) w6) (hlt : w.heap.size + 1 < w6.heap.size)
    (ho2 : o2 = .cells #[.int .i64 x0, .int .i64 x1, .int .i64 x2, .int .i64 x3, .int .i64 x4, .int .i64 x5, .int .i64 x6, .int .i64 x7, .slice none 0 0] 40) :
    DtSt w (w6.alloc o2) (w.heap.size + 1) w6.heap.size x0 x1 x2 x3 x4 x5 x6 x7 none 0 [] r := by
  subst ho ho2
  have hz := hb.block w.heap.size (by omega)
  rw [heap_alloc, if_pos rfl] at hz
  refine ⟨hr.above fun k hk => by rw [heap_alloc, if_neg (by omega)], by rw [heap_alloc, if_neg (by omega)]; exact hz, by rw [heap_alloc, if_pos rfl]; rfl, ⟨rfl, .inl ⟨rfl, rfl⟩⟩, ?_, by omega, hlt⟩
  have h1 : Below w.heap.size w w6 := Below.trans (blw_alloc (Below.refl _ _)) (hb.mono (by omega))
  exact h1.alloc (by omega) _

def finT (x : TxP × Rd) : Option TxP := if x.2.bad || !x.2.l.isEmpty || !rightTx x.1 then none else some x.1
theorem decTx_finT (l : List UInt8) : decTx l = finT (rawTx (beginR 116 l)) := by unfold decTx finT; rfl
theorem finTx_finT (h d : Nat × Nat × Nat × Nat) (F : List WrP × Rd) : finTx h d F = finT (txOf h d F.1, F.2) := by unfold finTx finT; rfl
theorem rawTx_eq (r : Rd) : rawTx r = (txOf (numR4 r).1 (numR4 (numR4 r).2).1 (wrsR (numR (numR4 (numR4 r).2).2).1 [] (numR (numR4 (numR4 r).2).2).2).1, (wrsR (numR (numR4 (numR4 r).2).2).1 [] (numR (numR4 (numR4 r).2).2).2).2) := by unfold rawTx; rfl
theorem decTx_fin (l : List UInt8) : decTx l = finTx (numR4 (beginR 116 l)).1 (numR4 (numR4 (beginR 116 l)).2).1 (wrsR (numR (numR4 (numR4 (beginR 116 l)).2).2).1 [] (numR (numR4 (numR4 (beginR 116 l)).2).2).2) := by
  rw [decTx_finT, finTx_finT, rawTx_eq]
end Go.Proofs.YtbopfhbeegkkaaaDoor
