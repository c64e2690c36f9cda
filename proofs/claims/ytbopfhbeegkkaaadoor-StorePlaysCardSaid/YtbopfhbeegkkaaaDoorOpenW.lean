/- Arguments opened: a write, a slice of writes, a transaction. -/
import Derived.Test.YtbopfhbeegkkaaaDoorOpen
import Derived.Test.YtbopfhbeegkkaaaDoorRW
import Derived.Deep.Slices
namespace Go.Proofs.YtbopfhbeegkkaaaDoor
open Go.RowKit Go.WideShapes Go.ChangeShapes Go.WideElems Go.ChangeAt
section
variable {H : Type} {enc : TypeId × Value → H} {w : World} {base : Nat} {spare : Nat → Bool} {held : Bool}

theorem list3 {α : Type} {cs : List α} (h : cs.length = 3) : ∃ a b c, cs = [a, b, c] := by
  match cs, h with
  | [a, b, c], _ => exact ⟨a, b, c, rfl⟩
theorem array9 {α : Type} {cs : Array α} (h : cs.size = 9) : ∃ c0 c1 c2 c3 c4 c5 c6 c7 c8, cs = #[c0, c1, c2, c3, c4, c5, c6, c7, c8] := by
  obtain ⟨l⟩ := cs
  match l, h with
  | [c0, c1, c2, c3, c4, c5, c6, c7, c8], _ => exact ⟨c0, c1, c2, c3, c4, c5, c6, c7, c8, rfl⟩
theorem cells3 : Tryd.prog.cellsOf 3 = 1 := by kernel_rfl
theorem cells4 : Tryd.prog.cellsOf 4 = 1 := by kernel_rfl
theorem cells9 : Tryd.prog.cellsOf 9 = 1 := by kernel_rfl
theorem cells23 : Tryd.prog.cellsOf 37 = 4 := by kernel_rfl
theorem cells30 : Tryd.prog.cellsOf 23 = 2 := by kernel_rfl
theorem cells39 : Tryd.prog.cellsOf 38 = 1 := by kernel_rfl
theorem cells41 : Tryd.prog.cellsOf 40 = 9 := by kernel_rfl
theorem cells43 : Tryd.prog.cellsOf 115 = 3 := by kernel_rfl

theorem open_write {fuel : Nat} {cs : List Value} {x : DataW H × List MemPlace} (h : DataW.trod enc Tryd.prog w base spare held fuel 115 cs = some x) :
    ∃ y : WrP, cs = [.int .i64 y.key, .string y.data, .bool y.gone] ∧ y.data.size ≤ maxLen := by
  obtain ⟨xs, n, _, _, hl, hlen, hf⟩ := DataW.trod_struct Tryd.underlying115 h
  rw [cells43] at hl
  obtain ⟨c0, c1, c2, rfl⟩ := list3 hl
  have get : ∀ i, i < 3 → ∃ x, xs[i]? = some x := fun i hi => ⟨xs[i]'(by rw [hlen]; simpa using hi), List.getElem?_eq_getElem _⟩
  obtain ⟨x0, g0⟩ := get 0 (by omega); obtain ⟨x1, g1⟩ := get 1 (by omega); obtain ⟨x2, g2⟩ := get 2 (by omega)
  have h0 := hf 0 _ rfl; have h1 := hf 1 _ rfl; have h2 := hf 2 _ rfl
  rw [g0] at h0; rw [g1] at h1; rw [g2] at h2
  simp [cells3, cells4, cells9] at h0 h1 h2
  obtain ⟨k, e0, _, _⟩ := DataW.trod_int Tryd.underlying3 h0
  obtain ⟨s, e1, _, hs⟩ := DataW.trod_string Tryd.underlying9 h1
  obtain ⟨b, e2, _⟩ := DataW.trod_bool Tryd.underlying4 h2
  simp only [List.cons.injEq, and_true] at e0 e1 e2
  subst e0 e1 e2
  exact ⟨⟨k, s, b⟩, rfl, hs⟩

theorem open_writes {fuel : Nat} {cs : List Value} {x : DataW H × List MemPlace} (h : DataW.trod enc Tryd.prog w base spare held fuel 38 cs = some x) :
    ∃ (A : Option Addr) (c : Nat) (ws : List WrP), cs = [.slice A ws.length c] ∧ WsAt w A ws ∧ ws.length ≤ maxLen := by
  rcases Go.Deep.open_slice Tryd.underlying38 h with ⟨rfl, _⟩ | ⟨a, len, cap, m, n, D, Pl, rfl, hb, hlc, hcm, hm, _, hi⟩
  · exact ⟨none, 0, [], rfl, fun i x hx => by simp at hx, Nat.zero_le _⟩
  · have hlm : len ≤ m := by rw [hm]; split <;> omega
    rw [cells43] at hi
    have hy : ∀ i, i < len → ∃ y : WrP, w.cell? (a.add (i * 3)) = some (.int .i64 y.key) ∧ w.cell? ((a.add (i * 3)).add 1) = some (.string y.data) ∧ w.cell? ((a.add (i * 3)).add 2) = some (.bool y.gone) := by
      intro i hil
      obtain ⟨cs', h1, h2⟩ := hi i (by omega)
      obtain ⟨y, rfl, _⟩ := open_write h2
      obtain ⟨_, _, hc⟩ := World.cells?_some h1
      have k0 := hc 0 (by omega); have k1 := hc 1 (by omega); have k2 := hc 2 (by omega)
      refine ⟨y, ?_, k1, k2⟩
      have e : (a.add (i * 3)).add 0 = a.add (i * 3) := by simp [Addr.add]
      rw [e] at k0; exact k0
    haveI : Inhabited WrP := ⟨⟨0, ⟨#[]⟩, false⟩⟩
    obtain ⟨Y, hY⟩ := Go.Deep.choose_lt (α := WrP) hy
    refine ⟨some a, cap, (List.range len).map Y, by simp, fun i x hx => ?_, by simp; omega⟩
    have hil : i < len := by
      have := (List.getElem?_eq_some_iff.1 hx).1
      simpa using this
    have hx' : Y i = x := by simpa [List.getElem?_map, List.getElem?_range hil] using hx
    subst hx'
    obtain ⟨k0, k1, k2⟩ := hY i hil
    have k00 := (hY 0 (by omega)).1
    have hsp := World.cell?_spot k00
    obtain ⟨b, o, spot⟩ := a
    have hspot : spot = none := by simpa [Addr.add] using hsp
    subst hspot
    have e : ∀ (j o : Nat), (⟨b, o, none⟩ : Addr).add j = ⟨b, o + j, none⟩ := fun j o => by unfold Addr.add; split <;> simp_all
    simp only [e] at k0 k1 k2
    exact ⟨b, o, rfl, World.block_lt_of_cell? w _ k0, k0, k1, k2⟩

theorem open_vec {fuel : Nat} {c0 c1 c2 c3 : Value} {x : DataW H × List MemPlace} (h : DataW.trod enc Tryd.prog w base spare held fuel 37 [c0, c1, c2, c3] = some x) :
    ∃ a0 a1 a2 a3 : Int, c0 = .int .i64 a0 ∧ c1 = .int .i64 a1 ∧ c2 = .int .i64 a2 ∧ c3 = .int .i64 a3 := by
  obtain ⟨xs, m, _, _, _, hlen, hxs⟩ := DataW.trod_array Tryd.underlying37 h
  rw [cells3] at hxs
  have get : ∀ i, i < 4 → ∃ x, xs[i]? = some x := fun i hi => ⟨xs[i]'(by omega), List.getElem?_eq_getElem (by omega)⟩
  obtain ⟨x0, g0⟩ := get 0 (by omega); obtain ⟨x1, g1⟩ := get 1 (by omega); obtain ⟨x2, g2⟩ := get 2 (by omega); obtain ⟨x3, g3⟩ := get 3 (by omega)
  have h0 := hxs 0 (by omega); have h1 := hxs 1 (by omega); have h2 := hxs 2 (by omega); have h3 := hxs 3 (by omega)
  rw [g0] at h0; rw [g1] at h1; rw [g2] at h2; rw [g3] at h3
  simp at h0 h1 h2 h3
  obtain ⟨a0, e0, _⟩ := DataW.trod_int Tryd.underlying3 h0
  obtain ⟨a1, e1, _⟩ := DataW.trod_int Tryd.underlying3 h1
  obtain ⟨a2, e2, _⟩ := DataW.trod_int Tryd.underlying3 h2
  obtain ⟨a3, e3, _⟩ := DataW.trod_int Tryd.underlying3 h3
  simp at e0 e1 e2 e3
  exact ⟨a0, a1, a2, a3, e0, e1, e2, e3⟩

theorem open_stamp {fuel : Nat} {c0 c1 : Value} {x : DataW H × List MemPlace} (h : DataW.trod enc Tryd.prog w base spare held fuel 23 [c0, c1] = some x) :
    ∃ a0 a1 : Int, c0 = .int .i64 a0 ∧ c1 = .int .i64 a1 := by
  obtain ⟨xs, n, _, _, hl, hlen, hf⟩ := DataW.trod_struct Tryd.underlying23 h
  have get : ∀ i, i < 2 → ∃ x, xs[i]? = some x := fun i hi => ⟨xs[i]'(by rw [hlen]; simpa using hi), List.getElem?_eq_getElem _⟩
  obtain ⟨x0, g0⟩ := get 0 (by omega); obtain ⟨x1, g1⟩ := get 1 (by omega)
  have h0 := hf 0 _ rfl; have h1 := hf 1 _ rfl
  rw [g0] at h0; rw [g1] at h1
  simp [cells3] at h0 h1
  obtain ⟨a0, e0, _⟩ := DataW.trod_int Tryd.underlying3 h0
  obtain ⟨a1, e1, _⟩ := DataW.trod_int Tryd.underlying3 h1
  simp at e0 e1
  exact ⟨a0, a1, e0, e1⟩

set_option maxRecDepth 20000 in
theorem open_tx {r : Reach} {b0 : Nat} {v : Value} {d : DataW H} {p : List MemPlace} (hv : Value.okWide Tryd.prog w r b0 40 v) (h : DataW.Trod enc Tryd.prog w base spare held 40 v d p) :
    ∃ (site seq wall count d0 d1 d2 d3 : Int) (A : Option Addr) (c : Nat) (ws : List WrP), v = .agg #[.int .i64 site, .int .i64 seq, .int .i64 wall, .int .i64 count, .int .i64 d0, .int .i64 d1, .int .i64 d2, .int .i64 d3, .slice A ws.length c] ∧
      (Lit.int .i64 seq).wf = true ∧ WsAt w A ws ∧ ws.length ≤ maxLen := by
  obtain ⟨cs, rfl, hsz⟩ := okWide_struct Tryd.underlying40 hv
  obtain ⟨c0, c1, c2, c3, c4, c5, c6, c7, c8, rfl⟩ := array9 (hsz.trans cells41)
  obtain ⟨fuel, hf⟩ := h
  obtain ⟨xs, n, _, _, hl, hlen, hf⟩ := DataW.trod_struct Tryd.underlying40 hf
  have get : ∀ i, i < 5 → ∃ x, xs[i]? = some x := fun i hi => ⟨xs[i]'(by rw [hlen]; simpa using hi), List.getElem?_eq_getElem _⟩
  obtain ⟨x0, g0⟩ := get 0 (by omega); obtain ⟨x1, g1⟩ := get 1 (by omega); obtain ⟨x2, g2⟩ := get 2 (by omega); obtain ⟨x3, g3⟩ := get 3 (by omega); obtain ⟨x4, g4⟩ := get 4 (by omega)
  have h0 := hf 0 _ rfl; have h1 := hf 1 _ rfl; have h2 := hf 2 _ rfl; have h3 := hf 3 _ rfl; have h4 := hf 4 _ rfl
  rw [g0] at h0; rw [g1] at h1; rw [g2] at h2; rw [g3] at h3; rw [g4] at h4
  simp [cells3, cells23, cells30, cells39, Value.cells] at h0 h1 h2 h3 h4
  obtain ⟨site, e0, _, _⟩ := DataW.trod_int Tryd.underlying3 h0
  obtain ⟨seq, e1, _, hw⟩ := DataW.trod_int Tryd.underlying3 h1
  obtain ⟨wall, count, rfl, rfl⟩ := open_stamp h2
  obtain ⟨d0, d1, d2, d3, rfl, rfl, rfl, rfl⟩ := open_vec h3
  obtain ⟨A, c, ws, e4, hws, hwl⟩ := open_writes h4
  simp at e0 e1 e4
  subst e0 e1 e4
  exact ⟨site, seq, wall, count, d0, d1, d2, d3, A, c, ws, rfl, hw, hws, hwl⟩
end
end Go.Proofs.YtbopfhbeegkkaaaDoor
