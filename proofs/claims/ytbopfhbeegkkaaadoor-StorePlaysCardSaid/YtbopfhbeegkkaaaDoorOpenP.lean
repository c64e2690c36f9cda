/- Arguments opened: a slice of puts (a key and a version). -/
import Derived.Test.YtbopfhbeegkkaaaDoorOpenW
import Derived.Test.YtbopfhbeegkkaaaDoorSw5
namespace Go.Proofs.YtbopfhbeegkkaaaDoor
open Go.RowKit Go.WideShapes Go.ChangeShapes Go.WideElems Go.ChangeAt
section
variable {H : Type} {enc : TypeId × Value → H} {w : World} {base : Nat} {spare : Nat → Bool} {held : Bool}

theorem list6 {α : Type} {cs : List α} (h : cs.length = 6) : ∃ a b c d e f, cs = [a, b, c, d, e, f] := by
  match cs, h with
  | [a, b, c, d, e, f], _ => exact ⟨a, b, c, d, e, f, rfl⟩
theorem list7 {α : Type} {cs : List α} (h : cs.length = 7) : ∃ a b c d e f g, cs = [a, b, c, d, e, f, g] := by
  match cs, h with
  | [a, b, c, d, e, f, g], _ => exact ⟨a, b, c, d, e, f, g, rfl⟩
theorem cells71 : Tryd.prog.cellsOf 71 = 6 := by kernel_rfl
theorem cells73 : Tryd.prog.cellsOf 73 = 7 := by kernel_rfl

set_option maxRecDepth 20000 in
theorem open_ver {fuel : Nat} {cs : List Value} {x : DataW H × List MemPlace} (h : DataW.trod enc Tryd.prog w base spare held fuel 71 cs = some x) :
    ∃ v : VerP, cs = verCells v ∧ v.data.size ≤ maxLen := by
  obtain ⟨xs, n, _, _, hl, hlen, hf⟩ := DataW.trod_struct Tryd.underlying71 h
  rw [cells71] at hl
  obtain ⟨c0, c1, c2, c3, c4, c5, rfl⟩ := list6 hl
  have get : ∀ i, i < 5 → ∃ x, xs[i]? = some x := fun i hi => ⟨xs[i]'(by rw [hlen]; simpa using hi), List.getElem?_eq_getElem _⟩
  obtain ⟨x0, g0⟩ := get 0 (by omega); obtain ⟨x1, g1⟩ := get 1 (by omega); obtain ⟨x2, g2⟩ := get 2 (by omega); obtain ⟨x3, g3⟩ := get 3 (by omega); obtain ⟨x4, g4⟩ := get 4 (by omega)
  have h0 := hf 0 _ rfl; have h1 := hf 1 _ rfl; have h2 := hf 2 _ rfl; have h3 := hf 3 _ rfl; have h4 := hf 4 _ rfl
  rw [g0] at h0; rw [g1] at h1; rw [g2] at h2; rw [g3] at h3; rw [g4] at h4
  simp [cells3, cells4, cells9, cells30] at h0 h1 h2 h3 h4
  obtain ⟨wl, co, rfl, rfl⟩ := open_stamp h0
  obtain ⟨si, e1, _, _⟩ := DataW.trod_int Tryd.underlying3 h1
  obtain ⟨se, e2, _, _⟩ := DataW.trod_int Tryd.underlying3 h2
  obtain ⟨da, e3, _, hs⟩ := DataW.trod_string Tryd.underlying9 h3
  obtain ⟨go, e4, _⟩ := DataW.trod_bool Tryd.underlying4 h4
  simp only [List.cons.injEq, and_true] at e1 e2 e3 e4
  subst e1 e2 e3 e4
  exact ⟨⟨wl, co, si, se, da, go⟩, rfl, hs⟩

set_option maxRecDepth 20000 in
theorem open_put {fuel : Nat} {cs : List Value} {x : DataW H × List MemPlace} (h : DataW.trod enc Tryd.prog w base spare held fuel 73 cs = some x) :
    ∃ p : PtP, cs = .int .i64 p.key :: verCells p.v ∧ p.v.data.size ≤ maxLen := by
  obtain ⟨xs, n, _, _, hl, hlen, hf⟩ := DataW.trod_struct Tryd.underlying73 h
  rw [cells73] at hl
  obtain ⟨c0, c1, c2, c3, c4, c5, c6, rfl⟩ := list7 hl
  have get : ∀ i, i < 2 → ∃ x, xs[i]? = some x := fun i hi => ⟨xs[i]'(by rw [hlen]; simpa using hi), List.getElem?_eq_getElem _⟩
  obtain ⟨x0, g0⟩ := get 0 (by omega); obtain ⟨x1, g1⟩ := get 1 (by omega)
  have h0 := hf 0 _ rfl; have h1 := hf 1 _ rfl
  rw [g0] at h0; rw [g1] at h1
  simp [cells3, cells71] at h0 h1
  obtain ⟨k, e0, _, _⟩ := DataW.trod_int Tryd.underlying3 h0
  obtain ⟨v, e1, hs⟩ := open_ver h1
  simp only [List.cons.injEq, and_true] at e0
  subst e0
  exact ⟨⟨k, v⟩, by rw [e1], hs⟩

set_option maxRecDepth 20000 in
theorem open_puts {r : Reach} {b0 : Nat} {v : Value} {d : DataW H} {p : List MemPlace} (hv : Value.okWide Tryd.prog w r b0 61 v) (h : DataW.Trod enc Tryd.prog w base spare held 61 v d p) :
    ∃ (A : Option Addr) (c : Nat) (ps : List PtP), v = .slice A ps.length c ∧ PtsAt w A ps ∧ ps.length ≤ maxLen := by
  obtain ⟨a0, len0, cap0, rfl⟩ := okWide_slice Tryd.underlying61 hv
  obtain ⟨fuel, hf⟩ := h
  rcases Go.Deep.open_slice Tryd.underlying61 hf with ⟨hcs, _⟩ | ⟨a, len, cap, m, n, D, Pl, hcs, hb, hlc, hcm, hm, _, hi⟩
  · simp [Value.cells] at hcs
    obtain ⟨rfl, rfl, rfl⟩ := hcs
    exact ⟨none, 0, [], rfl, fun i x hx => by simp at hx, Nat.zero_le _⟩
  · simp [Value.cells] at hcs
    obtain ⟨rfl, rfl, rfl⟩ := hcs
    have hlm : len0 ≤ m := by rw [hm]; split <;> omega
    rw [cells73] at hi
    have hy : ∀ i, i < len0 → ∃ y : PtP, w.cell? (a.add (i * 7)) = some (.int .i64 y.key) ∧ w.cell? ((a.add (i * 7)).add 1) = some (.int .i64 y.v.w) ∧ w.cell? ((a.add (i * 7)).add 2) = some (.int .i64 y.v.c) ∧
        w.cell? ((a.add (i * 7)).add 3) = some (.int .i64 y.v.site) ∧ w.cell? ((a.add (i * 7)).add 4) = some (.int .i64 y.v.seq) ∧ w.cell? ((a.add (i * 7)).add 5) = some (.string y.v.data) ∧ w.cell? ((a.add (i * 7)).add 6) = some (.bool y.v.gone) := by
      intro i hil
      obtain ⟨cs', h1, h2⟩ := hi i (by omega)
      obtain ⟨y, rfl, _⟩ := open_put h2
      obtain ⟨_, _, hc⟩ := World.cells?_some h1
      have k0 := hc 0 (by omega); have k1 := hc 1 (by omega); have k2 := hc 2 (by omega); have k3 := hc 3 (by omega); have k4 := hc 4 (by omega); have k5 := hc 5 (by omega); have k6 := hc 6 (by omega)
      refine ⟨y, ?_, k1, k2, k3, k4, k5, k6⟩
      have e : (a.add (i * 7)).add 0 = a.add (i * 7) := by simp [Addr.add]
      rw [e] at k0; exact k0
    obtain ⟨Y, hY⟩ := Go.Deep.choose_lt (α := PtP) hy
    refine ⟨some a, cap0, (List.range len0).map Y, by simp, fun i x hx => ?_, by simp; omega⟩
    have hil : i < len0 := by
      have := (List.getElem?_eq_some_iff.1 hx).1
      simpa using this
    have hx' : Y i = x := by simpa [List.getElem?_map, List.getElem?_range hil] using hx
    subst hx'
    obtain ⟨k0, k1, k2, k3, k4, k5, k6⟩ := hY i hil
    have k00 := (hY 0 (by omega)).1
    have hsp := World.cell?_spot k00
    obtain ⟨b, o, spot⟩ := a
    have hspot : spot = none := by simpa [Addr.add] using hsp
    subst hspot
    have e : ∀ (j o : Nat), (⟨b, o, none⟩ : Addr).add j = ⟨b, o + j, none⟩ := fun j o => by unfold Addr.add; split <;> simp_all
    simp only [e] at k0 k1 k2 k3 k4 k5 k6
    exact ⟨b, o, rfl, World.block_lt_of_cell? w _ k0, by unfold PtC; exact ⟨k0, k1, k2, k3, k4, k5, k6⟩⟩
end
end Go.Proofs.YtbopfhbeegkkaaaDoor
