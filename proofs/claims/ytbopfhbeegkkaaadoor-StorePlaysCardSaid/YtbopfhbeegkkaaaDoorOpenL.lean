/- Arguments opened: a slice of the law StorePlays' puts. -/
import Derived.Test.YtbopfhbeegkkaaaDoorOpenP
import Derived.Test.YtbopfhbeegkkaaaDoorSp9
namespace Go.Proofs.YtbopfhbeegkkaaaDoor
open Go.RowKit Go.WideShapes Go.ChangeShapes Go.WideElems Go.ChangeAt
section
variable {H : Type} {enc : TypeId × Value → H} {w : World} {base : Nat} {spare : Nat → Bool} {held : Bool}

theorem list12 {α : Type} {cs : List α} (h : cs.length = 12) : ∃ a b c d e f g i j k l m, cs = [a, b, c, d, e, f, g, i, j, k, l, m] := by
  match cs, h with
  | [a, b, c, d, e, f, g, i, j, k, l, m], _ => exact ⟨a, b, c, d, e, f, g, i, j, k, l, m, rfl⟩
theorem cells85 : Tryd.prog.cellsOf 85 = 12 := by kernel_rfl

set_option maxRecDepth 20000 in
theorem open_play {fuel : Nat} {cs : List Value} {x : DataW H × List MemPlace} (h : DataW.trod enc Tryd.prog w base spare held fuel 85 cs = some x) :
    ∃ p : PlP, cs = .int .i64 p.what :: .int .i64 p.key :: (verCells p.v ++ [.int .i64 p.b0, .int .i64 p.b1, .int .i64 p.b2, .int .i64 p.b3]) := by
  obtain ⟨xs, n, _, _, hl, hlen, hf⟩ := DataW.trod_struct Tryd.underlying85 h
  rw [cells85] at hl
  obtain ⟨c0, c1, c2, c3, c4, c5, c6, c7, c8, c9, c10, c11, rfl⟩ := list12 hl
  have get : ∀ i, i < 4 → ∃ x, xs[i]? = some x := fun i hi => ⟨xs[i]'(by rw [hlen]; simpa using hi), List.getElem?_eq_getElem _⟩
  obtain ⟨x0, g0⟩ := get 0 (by omega); obtain ⟨x1, g1⟩ := get 1 (by omega); obtain ⟨x2, g2⟩ := get 2 (by omega); obtain ⟨x3, g3⟩ := get 3 (by omega)
  have h0 := hf 0 _ rfl; have h1 := hf 1 _ rfl; have h2 := hf 2 _ rfl; have h3 := hf 3 _ rfl
  rw [g0] at h0; rw [g1] at h1; rw [g2] at h2; rw [g3] at h3
  simp [cells3, cells71, cells23] at h0 h1 h2 h3
  obtain ⟨wh, e0, _, _⟩ := DataW.trod_int Tryd.underlying3 h0
  obtain ⟨k, e1, _, _⟩ := DataW.trod_int Tryd.underlying3 h1
  obtain ⟨v, e2, hs⟩ := open_ver h2
  obtain ⟨b0, b1, b2, b3, rfl, rfl, rfl, rfl⟩ := open_vec h3
  simp only [List.cons.injEq, and_true] at e0 e1
  subst e0 e1
  refine ⟨⟨wh, k, v, b0, b1, b2, b3⟩, ?_⟩
  show _ = _ :: _ :: (verCells v ++ _)
  rw [← e2]
  rfl

set_option maxRecDepth 20000 in
theorem open_plays {r : Reach} {b0 : Nat} {v : Value} {d : DataW H} {p : List MemPlace} (hv : Value.okWide Tryd.prog w r b0 79 v) (h : DataW.Trod enc Tryd.prog w base spare held 79 v d p) :
    ∃ (A : Option Addr) (c : Nat) (ps : List PlP), v = .slice A ps.length c ∧ PlAt w A ps ∧ ps.length ≤ maxLen := by
  obtain ⟨a0, len0, cap0, rfl⟩ := okWide_slice Tryd.underlying79 hv
  obtain ⟨fuel, hf⟩ := h
  rcases Go.Deep.open_slice Tryd.underlying79 hf with ⟨hcs, _⟩ | ⟨a, len, cap, m, n, D, Pl, hcs, hb, hlc, hcm, hm, _, hi⟩
  · simp [Value.cells] at hcs
    obtain ⟨rfl, rfl, rfl⟩ := hcs
    exact ⟨none, 0, [], rfl, fun i x hx => by simp at hx, Nat.zero_le _⟩
  · simp [Value.cells] at hcs
    obtain ⟨rfl, rfl, rfl⟩ := hcs
    have hlm : len0 ≤ m := by rw [hm]; split <;> omega
    rw [cells85] at hi
    have hy : ∀ i, i < len0 → ∃ y : PlP, w.cell? (a.add (i * 12)) = some (.int .i64 y.what) ∧ w.cell? ((a.add (i * 12)).add 1) = some (.int .i64 y.key) ∧ w.cell? ((a.add (i * 12)).add 2) = some (.int .i64 y.v.w) ∧
        w.cell? ((a.add (i * 12)).add 3) = some (.int .i64 y.v.c) ∧ w.cell? ((a.add (i * 12)).add 4) = some (.int .i64 y.v.site) ∧ w.cell? ((a.add (i * 12)).add 5) = some (.int .i64 y.v.seq) ∧ w.cell? ((a.add (i * 12)).add 6) = some (.string y.v.data) ∧
        w.cell? ((a.add (i * 12)).add 7) = some (.bool y.v.gone) ∧ w.cell? ((a.add (i * 12)).add 8) = some (.int .i64 y.b0) ∧ w.cell? ((a.add (i * 12)).add 9) = some (.int .i64 y.b1) ∧ w.cell? ((a.add (i * 12)).add 10) = some (.int .i64 y.b2) ∧ w.cell? ((a.add (i * 12)).add 11) = some (.int .i64 y.b3) := by
      intro i hil
      obtain ⟨cs', h1, h2⟩ := hi i (by omega)
      obtain ⟨y, rfl⟩ := open_play h2
      obtain ⟨_, _, hc⟩ := World.cells?_some h1
      have k0 := hc 0 (by omega); have k1 := hc 1 (by omega); have k2 := hc 2 (by omega); have k3 := hc 3 (by omega); have k4 := hc 4 (by omega); have k5 := hc 5 (by omega)
      have k6 := hc 6 (by omega); have k7 := hc 7 (by omega); have k8 := hc 8 (by omega); have k9 := hc 9 (by omega); have k10 := hc 10 (by omega); have k11 := hc 11 (by omega)
      refine ⟨y, ?_, k1, k2, k3, k4, k5, k6, k7, k8, k9, k10, k11⟩
      have e : (a.add (i * 12)).add 0 = a.add (i * 12) := by simp [Addr.add]
      rw [e] at k0; exact k0
    obtain ⟨Y, hY⟩ := Go.Deep.choose_lt (α := PlP) hy
    refine ⟨some a, cap0, (List.range len0).map Y, by simp, fun i x hx => ?_, by simp; omega⟩
    have hil : i < len0 := by
      have := (List.getElem?_eq_some_iff.1 hx).1
      simpa using this
    have hx' : Y i = x := by simpa [List.getElem?_map, List.getElem?_range hil] using hx
    subst hx'
    obtain ⟨k0, k1, k2, k3, k4, k5, k6, k7, k8, k9, k10, k11⟩ := hY i hil
    have k00 := (hY 0 (by omega)).1
    have hsp := World.cell?_spot k00
    obtain ⟨b, o, spot⟩ := a
    have hspot : spot = none := by simpa [Addr.add] using hsp
    subst hspot
    have e : ∀ (j o : Nat), (⟨b, o, none⟩ : Addr).add j = ⟨b, o + j, none⟩ := fun j o => by unfold Addr.add; split <;> simp_all
    simp only [e] at k0 k1 k2 k3 k4 k5 k6 k7 k8 k9 k10 k11
    exact ⟨b, o, rfl, World.block_lt_of_cell? w _ k0, by unfold PlC; exact ⟨k0, k1, k2, k3, k4, k5, k6, k7, k8, k9, k10, k11⟩⟩
end
end Go.Proofs.YtbopfhbeegkkaaaDoor
