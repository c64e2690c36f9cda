/- Part 8 of a proof: lemmas and contracts that the parts behind it use. -/
import Derived.Test.YtbopfhbeegkkaaaDoorOrdM7
import Derived.Deep.Slices
import Derived.RegionTactic
import Derived.Deep.RegionHeld3
import Derived.Deep.DeepCutAuto
import Derived.Lib.AppendZeros
namespace Go.Proofs.YtbopfhbeegkkaaaDoor
open Go.RowKit Go.WideShapes Go.ChangeShapes Go.WideElems Go.ChangeAt
section
variable {H : Type} {enc : TypeId × Value → H} {w : World} {base : Nat} {spare : Nat → Bool} {held : Bool}

theorem list3 {α : Type} {cs : List α} (h : cs.length = 3) : ∃ a b c, cs = [a, b, c] := by
  match cs, h with
  | [a, b, c], _ => exact ⟨a, b, c, rfl⟩
theorem array9 {α : Type} {cs : Array α} (h : cs.size = 9) : ∃ c0 c1 c2 c3 c4 c5 c6 c7 c8, cs = #[c0, c1, c2, c3, c4, c5, c6, c7, c8] := by
  obtain ⟨l⟩ := cs
  match l, h with
  | [c0, c1, c2, c3, c4, c5, c6, c7, c8], _ => exact ⟨c0, c1, c2, c3, c4, c5, c6, c7, c8, rfl⟩
theorem cells3 : Tryd.prog.cellsOf 3 = 1 := by kernel_rfl
theorem cells4 : Tryd.prog.cellsOf 4 = 1 := by kernel_rfl
theorem cells9 : Tryd.prog.cellsOf 9 = 1 := by kernel_rfl
theorem cells23 : Tryd.prog.cellsOf 37 = 4 := by kernel_rfl
theorem cells30 : Tryd.prog.cellsOf 23 = 2 := by kernel_rfl
theorem cells39 : Tryd.prog.cellsOf 38 = 1 := by kernel_rfl
theorem cells41 : Tryd.prog.cellsOf 40 = 9 := by kernel_rfl
theorem cells43 : Tryd.prog.cellsOf 115 = 3 := by kernel_rfl

theorem open_write {fuel : Nat} {cs : List Value} {x : DataW H × List MemPlace} (h : DataW.trod enc Tryd.prog w base spare held fuel 115 cs = some x) :
    ∃ y : WrP, cs = [.int .i64 y.key, .string y.data, .bool y.gone] ∧ y.data.size ≤ maxLen := by
  obtain ⟨xs, n, _, _, hl, hlen, hf⟩ := DataW.trod_struct Tryd.underlying115 h
  rw [cells43] at hl
  obtain ⟨c0, c1, c2, rfl⟩ := list3 hl
  have get : ∀ i, i < 3 → ∃ x, xs[i]? = some x := fun i hi => ⟨xs[i]'(by rw [hlen]; simpa using hi), List.getElem?_eq_getElem _⟩
  obtain ⟨x0, g0⟩ := get 0 (by omega); obtain ⟨x1, g1⟩ := get 1 (by omega); obtain ⟨x2, g2⟩ := get 2 (by omega)
  have h0 := hf 0 _ rfl; have h1 := hf 1 _ rfl; have h2 := hf 2 _ rfl
  rw [g0] at h0; rw [g1] at h1; rw [g2] at h2
  simp [cells3, cells4, cells9] at h0 h1 h2
  obtain ⟨k, e0, _, _⟩ := DataW.trod_int Tryd.underlying3 h0
  obtain ⟨s, e1, _, hs⟩ := DataW.trod_string Tryd.underlying9 h1
  obtain ⟨b, e2, _⟩ := DataW.trod_bool Tryd.underlying4 h2
  simp only [List.cons.injEq, and_true] at e0 e1 e2
  subst e0 e1 e2
  exact ⟨⟨k, s, b⟩, rfl, hs⟩

theorem open_writes {fuel : Nat} {cs : List Value} {x : DataW H × List MemPlace} (h : DataW.trod enc Tryd.prog w base spare held fuel 38 cs = some x) :
    ∃ (A : Option Addr) (c : Nat) (ws : List WrP), cs = [.slice A ws.length c] ∧ WsAt w A ws ∧ ws.length ≤ maxLen := by
  rcases Go.Deep.open_slice Tryd.underlying38 h with ⟨rfl, _⟩ | ⟨a, len, cap, m, n, D, Pl, rfl, hb, hlc, hcm, hm, _, hi⟩
  · exact ⟨none, 0, [], rfl, fun i x hx => by simp at hx, Nat.zero_le _⟩
  · have hlm : len ≤ m := by rw [hm]; split <;> omega
    rw [cells43] at hi
    have hy : ∀ i, i < len → ∃ y : WrP, w.cell? (a.add (i * 3)) = some (.int .i64 y.key) ∧ w.cell? ((a.add (i * 3)).add 1) = some (.string y.data) ∧ w.cell? ((a.add (i * 3)).add 2) = some (.bool y.gone) := by
      intro i hil
      obtain ⟨cs', h1, h2⟩ := hi i (by omega)
      obtain ⟨y, rfl, _⟩ := open_write h2
      obtain ⟨_, _, hc⟩ := World.cells?_some h1
      have k0 := hc 0 (by omega); have k1 := hc 1 (by omega); have k2 := hc 2 (by omega)
      refine ⟨y, ?_, k1, k2⟩
      have e : (a.add (i * 3)).add 0 = a.add (i * 3) := by simp [Addr.add]
      rw [e] at k0; exact k0
    haveI : Inhabited WrP := ⟨⟨0, ⟨#[]⟩, false⟩⟩
    obtain ⟨Y, hY⟩ := Go.Deep.choose_lt (α := WrP) hy
    refine ⟨some a, cap, (List.range len).map Y, by simp, fun i x hx => ?_, by simp; omega⟩
    have hil : i < len := by
      have := (List.getElem?_eq_some_iff.1 hx).1
      simpa using this
    have hx' : Y i = x := by simpa [List.getElem?_map, List.getElem?_range hil] using hx
    subst hx'
    obtain ⟨k0, k1, k2⟩ := hY i hil
    have k00 := (hY 0 (by omega)).1
    have hsp := World.cell?_spot k00
    obtain ⟨b, o, spot⟩ := a
    have hspot : spot = none := by simpa [Addr.add] using hsp
    subst hspot
    have e : ∀ (j o : Nat), (⟨b, o, none⟩ : Addr).add j = ⟨b, o + j, none⟩ := fun j o => by unfold Addr.add; split <;> simp_all
    simp only [e] at k0 k1 k2
    exact ⟨b, o, rfl, World.block_lt_of_cell? w _ k0, k0, k1, k2⟩

theorem open_vec {fuel : Nat} {c0 c1 c2 c3 : Value} {x : DataW H × List MemPlace} (h : DataW.trod enc Tryd.prog w base spare held fuel 37 [c0, c1, c2, c3] = some x) :
    ∃ a0 a1 a2 a3 : Int, c0 = .int .i64 a0 ∧ c1 = .int .i64 a1 ∧ c2 = .int .i64 a2 ∧ c3 = .int .i64 a3 := by
  obtain ⟨xs, m, _, _, _, hlen, hxs⟩ := DataW.trod_array Tryd.underlying37 h
  rw [cells3] at hxs
  have get : ∀ i, i < 4 → ∃ x, xs[i]? = some x := fun i hi => ⟨xs[i]'(by omega), List.getElem?_eq_getElem (by omega)⟩
  obtain ⟨x0, g0⟩ := get 0 (by omega); obtain ⟨x1, g1⟩ := get 1 (by omega); obtain ⟨x2, g2⟩ := get 2 (by omega); obtain ⟨x3, g3⟩ := get 3 (by omega)
  have h0 := hxs 0 (by omega); have h1 := hxs 1 (by omega); have h2 := hxs 2 (by omega); have h3 := hxs 3 (by omega)
  rw [g0] at h0; rw [g1] at h1; rw [g2] at h2; rw [g3] at h3
  simp at h0 h1 h2 h3
  obtain ⟨a0, e0, _⟩ := DataW.trod_int Tryd.underlying3 h0
  obtain ⟨a1, e1, _⟩ := DataW.trod_int Tryd.underlying3 h1
  obtain ⟨a2, e2, _⟩ := DataW.trod_int Tryd.underlying3 h2
  obtain ⟨a3, e3, _⟩ := DataW.trod_int Tryd.underlying3 h3
  simp at e0 e1 e2 e3
  exact ⟨a0, a1, a2, a3, e0, e1, e2, e3⟩

theorem open_stamp {fuel : Nat} {c0 c1 : Value} {x : DataW H × List MemPlace} (h : DataW.trod enc Tryd.prog w base spare held fuel 23 [c0, c1] = some x) :
    ∃ a0 a1 : Int, c0 = .int .i64 a0 ∧ c1 = .int .i64 a1 := by
  obtain ⟨xs, n, _, _, hl, hlen, hf⟩ := DataW.trod_struct Tryd.underlying23 h
  have get : ∀ i, i < 2 → ∃ x, xs[i]? = some x := fun i hi => ⟨xs[i]'(by rw [hlen]; simpa using hi), List.getElem?_eq_getElem _⟩
  obtain ⟨x0, g0⟩ := get 0 (by omega); obtain ⟨x1, g1⟩ := get 1 (by omega)
  have h0 := hf 0 _ rfl; have h1 := hf 1 _ rfl
  rw [g0] at h0; rw [g1] at h1
  simp [cells3] at h0 h1
  obtain ⟨a0, e0, _⟩ := DataW.trod_int Tryd.underlying3 h0
  obtain ⟨a1, e1, _⟩ := DataW.trod_int Tryd.underlying3 h1
  simp at e0 e1
  exact ⟨a0, a1, e0, e1⟩

set_option maxRecDepth 20000 in
theorem open_tx {r : Reach} {b0 : Nat} {v : Value} {d : DataW H} {p : List MemPlace} (hv : Value.okWide Tryd.prog w r b0 40 v) (h : DataW.Trod enc Tryd.prog w base spare held 40 v d p) :
    ∃ (site seq wall count d0 d1 d2 d3 : Int) (A : Option Addr) (c : Nat) (ws : List WrP), v = .agg #[.int .i64 site, .int .i64 seq, .int .i64 wall, .int .i64 count, .int .i64 d0, .int .i64 d1, .int .i64 d2, .int .i64 d3, .slice A ws.length c] ∧
      (Lit.int .i64 seq).wf = true ∧ WsAt w A ws ∧ ws.length ≤ maxLen := by
  obtain ⟨cs, rfl, hsz⟩ := okWide_struct Tryd.underlying40 hv
  obtain ⟨c0, c1, c2, c3, c4, c5, c6, c7, c8, rfl⟩ := array9 (hsz.trans cells41)
  obtain ⟨fuel, hf⟩ := h
  obtain ⟨xs, n, _, _, hl, hlen, hf⟩ := DataW.trod_struct Tryd.underlying40 hf
  have get : ∀ i, i < 5 → ∃ x, xs[i]? = some x := fun i hi => ⟨xs[i]'(by rw [hlen]; simpa using hi), List.getElem?_eq_getElem _⟩
  obtain ⟨x0, g0⟩ := get 0 (by omega); obtain ⟨x1, g1⟩ := get 1 (by omega); obtain ⟨x2, g2⟩ := get 2 (by omega); obtain ⟨x3, g3⟩ := get 3 (by omega); obtain ⟨x4, g4⟩ := get 4 (by omega)
  have h0 := hf 0 _ rfl; have h1 := hf 1 _ rfl; have h2 := hf 2 _ rfl; have h3 := hf 3 _ rfl; have h4 := hf 4 _ rfl
  rw [g0] at h0; rw [g1] at h1; rw [g2] at h2; rw [g3] at h3; rw [g4] at h4
  simp [cells3, cells23, cells30, cells39, Value.cells] at h0 h1 h2 h3 h4
  obtain ⟨site, e0, _, _⟩ := DataW.trod_int Tryd.underlying3 h0
  obtain ⟨seq, e1, _, hw⟩ := DataW.trod_int Tryd.underlying3 h1
  obtain ⟨wall, count, rfl, rfl⟩ := open_stamp h2
  obtain ⟨d0, d1, d2, d3, rfl, rfl, rfl, rfl⟩ := open_vec h3
  obtain ⟨A, c, ws, e4, hws, hwl⟩ := open_writes h4
  simp at e0 e1 e4
  subst e0 e1 e4
  exact ⟨site, seq, wall, count, d0, d1, d2, d3, A, c, ws, rfl, hw, hws, hwl⟩
end
end Go.Proofs.YtbopfhbeegkkaaaDoor

namespace Go.Proofs.YtbopfhbeegkkaaaDoor
open Go.RowKit Go.WideShapes Go.ChangeShapes Go.WideElems Go.ChangeAt

structure SayP where
  at_ : Int
  now : Int
  comes : Int
  ws : List WrP
  A : Option Addr
  c : Nat
instance : Inhabited SayP := ⟨⟨0, 0, 0, [], none, 0⟩⟩
def SaysAt (w : World) (A : Option Addr) (l : List SayP) : Prop := ∀ (i : Nat) (x : SayP), l[i]? = some x → ∃ b o, A = some ⟨b, o, none⟩ ∧ b < w.heap.size ∧
  w.cell? ⟨b, o + i * 4, none⟩ = some (.int .i64 x.at_) ∧ w.cell? ⟨b, o + i * 4 + 1, none⟩ = some (.int .i64 x.now) ∧ w.cell? ⟨b, o + i * 4 + 2, none⟩ = some (.int .i64 x.comes) ∧
  w.cell? ⟨b, o + i * 4 + 3, none⟩ = some (.slice x.A x.ws.length x.c) ∧ WsAt w x.A x.ws ∧ x.ws.length ≤ maxLen
theorem SaysAt.below {w w' : World} {A : Option Addr} {l : List SayP} (h : SaysAt w A l) (hb : Below w.heap.size w w') : SaysAt w' A l := fun i x hx => by
  obtain ⟨b, o, hA, hlt, h0, h1, h2, h3, h4, h5⟩ := h i x hx
  have e : ∀ k, w'.cell? ⟨b, k, none⟩ = w.cell? ⟨b, k, none⟩ := fun k => hb.cell (p := ⟨b, k, none⟩) hlt
  exact ⟨b, o, hA, Nat.lt_of_lt_of_le hlt hb.size, by rw [e]; exact h0, by rw [e]; exact h1, by rw [e]; exact h2, by rw [e]; exact h3, h4.below hb, h5⟩
def IntsAt (w : World) (A : Option Addr) (l : List Int) : Prop := ∀ (i : Nat) (z : Int), l[i]? = some z → ∃ b o, A = some ⟨b, o, none⟩ ∧ b < w.heap.size ∧ w.cell? ⟨b, o + i, none⟩ = some (.int .i64 z)
theorem IntsAt.below {w w' : World} {A : Option Addr} {l : List Int} (h : IntsAt w A l) (hb : Below w.heap.size w w') : IntsAt w' A l := fun i x hx => by
  obtain ⟨b, o, hA, hlt, h0⟩ := h i x hx
  have e : ∀ k, w'.cell? ⟨b, k, none⟩ = w.cell? ⟨b, k, none⟩ := fun k => hb.cell (p := ⟨b, k, none⟩) hlt
  exact ⟨b, o, hA, Nat.lt_of_lt_of_le hlt hb.size, by rw [e]; exact h0⟩
section
variable {H : Type} {enc : TypeId × Value → H} {w : World} {base : Nat} {spare : Nat → Bool} {held : Bool}

theorem list4 {α : Type} {cs : List α} (h : cs.length = 4) : ∃ a b c d, cs = [a, b, c, d] := by
  match cs, h with
  | [a, b, c, d], _ => exact ⟨a, b, c, d, rfl⟩
theorem cells97 : Tryd.prog.cellsOf 97 = 4 := by kernel_rfl

set_option maxRecDepth 20000 in
theorem open_say {fuel : Nat} {cs : List Value} {x : DataW H × List MemPlace} (h : DataW.trod enc Tryd.prog w base spare held fuel 97 cs = some x) :
    ∃ p : SayP, cs = [.int .i64 p.at_, .int .i64 p.now, .int .i64 p.comes, .slice p.A p.ws.length p.c] ∧ WsAt w p.A p.ws ∧ p.ws.length ≤ maxLen := by
  obtain ⟨xs, n, _, _, hl, hlen, hf⟩ := DataW.trod_struct Tryd.underlying97 h
  rw [cells97] at hl
  obtain ⟨c0, c1, c2, c3, rfl⟩ := list4 hl
  have get : ∀ i, i < 4 → ∃ x, xs[i]? = some x := fun i hi => ⟨xs[i]'(by rw [hlen]; simpa using hi), List.getElem?_eq_getElem _⟩
  obtain ⟨x0, g0⟩ := get 0 (by omega); obtain ⟨x1, g1⟩ := get 1 (by omega); obtain ⟨x2, g2⟩ := get 2 (by omega); obtain ⟨x3, g3⟩ := get 3 (by omega)
  have h0 := hf 0 _ rfl; have h1 := hf 1 _ rfl; have h2 := hf 2 _ rfl; have h3 := hf 3 _ rfl
  rw [g0] at h0; rw [g1] at h1; rw [g2] at h2; rw [g3] at h3
  simp [cells3, cells39] at h0 h1 h2 h3
  obtain ⟨a0, e0, _, _⟩ := DataW.trod_int Tryd.underlying3 h0
  obtain ⟨a1, e1, _, _⟩ := DataW.trod_int Tryd.underlying3 h1
  obtain ⟨a2, e2, _, _⟩ := DataW.trod_int Tryd.underlying3 h2
  obtain ⟨A, c, ws, e3, hws, hwl⟩ := open_writes h3
  simp only [List.cons.injEq, and_true] at e0 e1 e2 e3
  subst e0 e1 e2 e3
  exact ⟨⟨a0, a1, a2, ws, A, c⟩, rfl, hws, hwl⟩

set_option maxRecDepth 20000 in
theorem open_says {r : Reach} {b0 : Nat} {v : Value} {d : DataW H} {p : List MemPlace} (hv : Value.okWide Tryd.prog w r b0 94 v) (h : DataW.Trod enc Tryd.prog w base spare held 94 v d p) :
    ∃ (A : Option Addr) (c : Nat) (ps : List SayP), v = .slice A ps.length c ∧ SaysAt w A ps ∧ ps.length ≤ maxLen := by
  obtain ⟨a0, len0, cap0, rfl⟩ := okWide_slice Tryd.underlying94 hv
  obtain ⟨fuel, hf⟩ := h
  rcases Go.Deep.open_slice Tryd.underlying94 hf with ⟨hcs, _⟩ | ⟨a, len, cap, m, n, D, Pl, hcs, hb, hlc, hcm, hm, _, hi⟩
  · simp [Value.cells] at hcs
    obtain ⟨rfl, rfl, rfl⟩ := hcs
    exact ⟨none, 0, [], rfl, fun i x hx => by simp at hx, Nat.zero_le _⟩
  · simp [Value.cells] at hcs
    obtain ⟨rfl, rfl, rfl⟩ := hcs
    have hlm : len0 ≤ m := by rw [hm]; split <;> omega
    rw [cells97] at hi
    have hy : ∀ i, i < len0 → ∃ y : SayP, w.cell? (a.add (i * 4)) = some (.int .i64 y.at_) ∧ w.cell? ((a.add (i * 4)).add 1) = some (.int .i64 y.now) ∧ w.cell? ((a.add (i * 4)).add 2) = some (.int .i64 y.comes) ∧
        w.cell? ((a.add (i * 4)).add 3) = some (.slice y.A y.ws.length y.c) ∧ WsAt w y.A y.ws ∧ y.ws.length ≤ maxLen := by
      intro i hil
      obtain ⟨cs', h1, h2⟩ := hi i (by omega)
      obtain ⟨y, rfl, hws, hwl⟩ := open_say h2
      obtain ⟨_, _, hc⟩ := World.cells?_some h1
      have k0 := hc 0 (by omega); have k1 := hc 1 (by omega); have k2 := hc 2 (by omega); have k3 := hc 3 (by omega)
      refine ⟨y, ?_, k1, k2, k3, hws, hwl⟩
      have e : (a.add (i * 4)).add 0 = a.add (i * 4) := by simp [Addr.add]
      rw [e] at k0; exact k0
    obtain ⟨Y, hY⟩ := Go.Deep.choose_lt (α := SayP) hy
    refine ⟨some a, cap0, (List.range len0).map Y, by simp, fun i x hx => ?_, by simp; omega⟩
    have hil : i < len0 := by
      have := (List.getElem?_eq_some_iff.1 hx).1
      simpa using this
    have hx' : Y i = x := by simpa [List.getElem?_map, List.getElem?_range hil] using hx
    subst hx'
    obtain ⟨k0, k1, k2, k3, k4, k5⟩ := hY i hil
    have k00 := (hY 0 (by omega)).1
    have hsp := World.cell?_spot k00
    obtain ⟨b, o, spot⟩ := a
    have hspot : spot = none := by simpa [Addr.add] using hsp
    subst hspot
    have e : ∀ (j o : Nat), (⟨b, o, none⟩ : Addr).add j = ⟨b, o + j, none⟩ := fun j o => by unfold Addr.add; split <;> simp_all
    simp only [e] at k0 k1 k2 k3
    exact ⟨b, o, rfl, World.block_lt_of_cell? w _ k0, k0, k1, k2, k3, k4, k5⟩

set_option maxRecDepth 20000 in
theorem open_ints95 {r : Reach} {b0 : Nat} {v : Value} {d : DataW H} {p : List MemPlace} (hv : Value.okWide Tryd.prog w r b0 95 v) (h : DataW.Trod enc Tryd.prog w base spare held 95 v d p) :
    ∃ (A : Option Addr) (c : Nat) (ps : List Int), v = .slice A ps.length c ∧ IntsAt w A ps ∧ ps.length ≤ maxLen := by
  obtain ⟨a0, len0, cap0, rfl⟩ := okWide_slice Tryd.underlying95 hv
  obtain ⟨fuel, hf⟩ := h
  rcases Go.Deep.open_slice Tryd.underlying95 hf with ⟨hcs, _⟩ | ⟨a, len, cap, m, n, D, Pl, hcs, hb, hlc, hcm, hm, _, hi⟩
  · simp [Value.cells] at hcs
    obtain ⟨rfl, rfl, rfl⟩ := hcs
    exact ⟨none, 0, [], rfl, fun i x hx => by simp at hx, Nat.zero_le _⟩
  · simp [Value.cells] at hcs
    obtain ⟨rfl, rfl, rfl⟩ := hcs
    have hlm : len0 ≤ m := by rw [hm]; split <;> omega
    rw [cells3] at hi
    have hy : ∀ i, i < len0 → ∃ y : Int, w.cell? (a.add (i * 1)) = some (.int .i64 y) := by
      intro i hil
      obtain ⟨cs', h1, h2⟩ := hi i (by omega)
      obtain ⟨y, rfl, _, _⟩ := DataW.trod_int Tryd.underlying3 h2
      obtain ⟨_, _, hc⟩ := World.cells?_some h1
      have k0 := hc 0 (by omega)
      have e : (a.add (i * 1)).add 0 = a.add (i * 1) := by simp [Addr.add]
      rw [e] at k0
      exact ⟨y, k0⟩
    obtain ⟨Y, hY⟩ := Go.Deep.choose_lt (α := Int) hy
    refine ⟨some a, cap0, (List.range len0).map Y, by simp, fun i x hx => ?_, by simp; omega⟩
    have hil : i < len0 := by
      have := (List.getElem?_eq_some_iff.1 hx).1
      simpa using this
    have hx' : Y i = x := by simpa [List.getElem?_map, List.getElem?_range hil] using hx
    subst hx'
    have k0 := hY i hil
    have k00 := hY 0 (by omega)
    have hsp := World.cell?_spot k00
    obtain ⟨b, o, spot⟩ := a
    have hspot : spot = none := by simpa [Addr.add] using hsp
    subst hspot
    have e : ∀ (j o : Nat), (⟨b, o, none⟩ : Addr).add j = ⟨b, o + j, none⟩ := fun j o => by unfold Addr.add; split <;> simp_all
    simp only [e, Nat.mul_one] at k0
    exact ⟨b, o, rfl, World.block_lt_of_cell? w _ k0, k0⟩
end
end Go.Proofs.YtbopfhbeegkkaaaDoor

namespace Go.Proofs.YtbopfhbeegkkaaaDoor
open Go.RowKit

theorem nodup_sub_len {α : Type} [DecidableEq α] : ∀ (l m : List α), l.Nodup → (∀ x ∈ l, x ∈ m) → l.length ≤ m.length
  | [], _, _, _ => Nat.zero_le _
  | x :: l, m, hn, hs => by
    obtain ⟨h1, h2⟩ := List.nodup_cons.1 hn
    have hx := hs x (by simp)
    have := nodup_sub_len l (m.erase x) h2 (fun y hy => (List.mem_erase_of_ne (fun (e : y = x) => h1 (e ▸ hy))).2 (hs y (List.mem_cons_of_mem _ hy)))
    rw [List.length_erase_of_mem hx] at this
    have := List.length_pos_of_mem hx
    simp only [List.length_cons]
    omega
theorem SInv.wn_le {all : List TxP} {s : SiP} (h : SInv all s) : s.wn ≤ all.length := by
  obtain ⟨wl, h1, h2, h3⟩ := h.wls
  rw [← h2]
  have := nodup_sub_len wl (all.map fun t => (t.site, t.seq)) h1 (fun ⟨a, b⟩ hx => by
    obtain ⟨m, hm⟩ := Option.isSome_iff_exists.1 ((h3 a b).1 hx)
    obtain ⟨i1, i2, _⟩ := h.inv.wt _ _ _ hm
    exact List.mem_map.2 ⟨m.t, (h.wr _ _ _ hm).1, by rw [i1, i2]⟩)
  simpa using this
theorem wf64_of {z : Int} (h : 0 ≤ z ∧ z ≤ 1099511627776) : wf64 z := by unfold wf64; omega
/-- sites, all that they told, and where the rows lie -/
structure TL (n : Nat) (w0 W : World) (M : Nat → SiM) (all : List MTx) (ts : List TxP) (v : Value) (bx : Nat) : Prop where
  sites : Sites W w0.heap.size n M
  told : Told ts n (fun i => (M i).s)
  rows : AllAt W w0.heap.size n M v all
  sub : ∀ m ∈ all, m.t ∈ ts
  ptr : ∀ i, i < n → W.cell? ⟨bx, i, none⟩ = some (.pointer (some ⟨(M i).x, 0, none⟩))
  blt : bx < W.heap.size
  bof : Off n M bx
  bda : ∀ i, i < n → ¬ (M i).data bx
  bne : v.ownBlock ≠ some bx
  low : Below w0.heap.size w0 W
theorem TL.below {n : Nat} {w0 W W' : World} {M : Nat → SiM} {all : List MTx} {ts : List TxP} {v : Value} {bx : Nat} (h : TL n w0 W M all ts v bx) (hb : Below W.heap.size W W') : TL n w0 W' M all ts v bx :=
  ⟨h.sites.below hb, h.told, h.rows.below hb, h.sub, fun i hi => (hb.cell (p := ⟨bx, i, none⟩) h.blt).trans (h.ptr i hi), Nat.lt_of_lt_of_le h.blt hb.size, h.bof, h.bda, h.bne, h.low.trans (hb.mono h.low.size)⟩
theorem TL.step {n i : Nat} {w0 W W' : World} {M : Nat → SiM} {all : List MTx} {ts ts' : List TxP} {v : Value} {bx : Nat} (h : TL n w0 W M all ts v bx) (hi : i < n) {m' : SiM} (hs : Sites W' w0.heap.size n (mUpd M i m')) (fr : SiFr W W' (M i).own m'.own)
    (hd : ∀ b, m'.data b → (M i).data b ∨ W.heap.size ≤ b) (hx : m'.x = (M i).x) (ht : Told ts' n (fun k => (mUpd M i m' k).s)) (hsub : ∀ t ∈ ts, t ∈ ts') : TL n w0 W' (mUpd M i m') all ts' v bx := by
  have hxs : ∀ k, (mUpd M i m' k).x = (M k).x := fun k => by
    unfold mUpd
    split
    · rename_i e; rw [e, hx]
    · rfl
  refine ⟨hs, ht, h.rows.step h.sites hi fr hd, fun m hm => hsub _ (h.sub m hm), fun k hk => ?_, Nat.lt_of_lt_of_le h.blt fr.size, h.bof.step h.sites hi fr h.blt, fun k hk => ?_, h.bne, ?_⟩
  · rw [hxs k, World.cell?_of_block (h.bof.block hi fr h.blt)]; exact h.ptr k hk
  · unfold mUpd
    by_cases e2 : k = i
    · rw [if_pos e2]
      intro h1
      rcases hd bx h1 with h2 | h2
      · exact h.bda i hi h2
      · have := h.blt; omega
    · rw [if_neg e2]; exact h.bda k hk
  · exact h.low.trans (fr.low (fun b hb => (SiM.lt (h.sites.here i hi) hb).1) h.low.size)
/-- a block that neither the sites nor the rows use -/
structure Spare (n : Nat) (M : Nat → SiM) (all : List MTx) (v : Value) (bx q : Nat) : Prop where
  off : Off n M q
  da : ∀ i, i < n → ¬ (M i).data q
  row : v.ownBlock ≠ some q
  ne : q ≠ bx
  dat : ∀ m ∈ all, ∀ o, m.A ≠ some ⟨q, o, none⟩
theorem Spare.step {n i q B : Nat} {W W' : World} {M : Nat → SiM} {all : List MTx} {v : Value} {bx : Nat} (h : Spare n M all v bx q) (hs : Sites W B n M) (hi : i < n) {m' : SiM} (fr : SiFr W W' (M i).own m'.own)
    (hd : ∀ b, m'.data b → (M i).data b ∨ W.heap.size ≤ b) (hq : q < W.heap.size) : Spare n (mUpd M i m') all v bx q := by
  refine ⟨h.off.step hs hi fr hq, fun k hk => ?_, h.row, h.ne, h.dat⟩
  unfold mUpd
  by_cases e2 : k = i
  · rw [if_pos e2]
    intro h1
    rcases hd q h1 with h2 | h2
    · exact h.da i hi h2
    · omega
  · rw [if_neg e2]; exact h.da k hk
theorem TL.spare {n : Nat} {w0 W : World} {M : Nat → SiM} {all : List MTx} {ts : List TxP} {v : Value} {bx q : Nat} (h : TL n w0 W M all ts v bx) (hq : W.heap.size ≤ q) : Spare n M all v bx q :=
  ⟨h.sites.off (.inl hq), fun i hi h1 => by have := (SiM.dlt (h.sites.here i hi) h1).1; omega, fun e => by have := (own_ge h.rows.row e).2; omega, by have := h.blt; omega,
   fun m hm o e => by have := ((h.rows.dat m hm).2 _ _ e).1; omega⟩
theorem TL.set {n : Nat} {w0 W W' : World} {M : Nat → SiM} {all : List MTx} {ts : List TxP} {v : Value} {bx q : Nat} (h : TL n w0 W M all ts v bx) (hs : Spare n M all v bx q) (hg : W.grownBy W' (some q)) (hq : w0.heap.size ≤ q) : TL n w0 W' M all ts v bx := by
  have hb : ∀ b, b < W.heap.size → b ≠ q → W'.heap[b]? = W.heap[b]? := fun b h1 h2 => hg.block b h1 (by simp; exact h2)
  refine ⟨h.sites.set hg hs.off hs.da, h.told, ⟨row_move h.rows.row fun b e => hb b (own_ge h.rows.row e).2 (fun e2 => hs.row (e2 ▸ e)), h.rows.off, fun m hm => ?_⟩, h.sub, fun i hi => ?_, Nat.lt_of_lt_of_le h.blt hg.size, h.bof, h.bda, h.bne, ?_⟩
  · obtain ⟨h1, h2⟩ := h.rows.dat m hm
    exact ⟨h1.keep fun b o e => hb b (h2 b o e).1 (fun e2 => hs.dat m hm o (e2 ▸ e)), fun b o e => ⟨Nat.lt_of_lt_of_le (h2 b o e).1 hg.size, (h2 b o e).2⟩⟩
  · rw [World.cell?_of_block (hb bx h.blt (fun e => hs.ne e.symm))]; exact h.ptr i hi
  · exact Below.grown h.low hg h.low.size (fun j e => by simp at e; omega)
theorem TL.take {n i : Nat} {w0 W : World} {M : Nat → SiM} {all : List MTx} {ts : List TxP} {v : Value} {bx : Nat} (h : TL n w0 W M all ts v bx) (hi : i < n) (hn : n ≤ 4) (hl : ts.length < 100) {m : MTx} (hm : m ∈ all) :
    Calls Tryd.prog 48 #[.pointer (some ⟨(M i).x, 0, none⟩), MTx.val m] W fun e W' => ∃ er M', e = .returned er ∧ TL n w0 W' M' all ts v bx ∧ ∀ k, (M' k).x = (M k).x := by
  obtain ⟨h1, _, _⟩ := h.told.si i hi
  obtain ⟨hws, _⟩ := h.rows.dat m hm
  have hmt := h.sub m hm
  have hr := h.told.good.right _ hmt
  obtain ⟨r1, r2, _⟩ := rightTx_head hr
  obtain ⟨_, _, _, r5⟩ := rightTx_parts hr
  have hwn := h1.wn_le
  obtain ⟨t, A, c⟩ := m
  refine (sites_take (c := c) h.sites hi h1.inv (by show (M i).s.wn ≤ _; omega) hws (by show t.ws.length ≤ _; simp only at r5; omega) (wf64_of (by simp only at r1; omega)) (wf64_of (by simp only at r2; omega))).mono ?_
  rintro e W' ⟨h2, h3, h4⟩
  by_cases he : takeE (M i).s t = 0
  · obtain ⟨A', c', m', e1, e2, e3, e4, e5⟩ := h4 he
    refine ⟨_, mUpd M i m', h2, h.step hi e3 e4 e5 e2 ?_ (fun _ h => h), fun k => ?_⟩
    · rw [mUpd_s, e1]
      exact h.told.take (by omega) hi hn hmt he A' c'
    · unfold mUpd
      split
      · rename_i e; rw [e, e2]
      · rfl
  · exact ⟨_, M, h2, h.below (h3 he), fun _ => rfl⟩
theorem TL.commit {n i : Nat} {w0 W : World} {M : Nat → SiM} {all : List MTx} {ts : List TxP} {v : Value} {bx : Nat} (h : TL n w0 W M all ts v bx) (hi : i < n) (hn : n ≤ 4) (hl : ts.length < 100) (now : Int) {A : Option Addr} {c : Nat} {ws : List WrP} (hws : WsAt W A ws) (hwl : ws.length ≤ 1000000) :
    Calls Tryd.prog 76 #[.pointer (some ⟨(M i).x, 0, none⟩), .int .i64 now, .agg #[.int .i64 (M i).s.p0, .int .i64 (M i).s.p1, .int .i64 (M i).s.p2, .int .i64 (M i).s.p3], .slice A ws.length c] W fun e W' =>
      (commitE (M i).s now (M i).s.p0 (M i).s.p1 (M i).s.p2 (M i).s.p3 ws ≠ 0 → e = .returned (.tuple #[txZero, errV (commitE (M i).s now (M i).s.p0 (M i).s.p1 (M i).s.p2 (M i).s.p3 ws)]) ∧ Below W.heap.size W W') ∧
      (commitE (M i).s now (M i).s.p0 (M i).s.p1 (M i).s.p2 (M i).s.p3 ws = 0 → ∃ b c' M', e = .returned (.tuple #[MTx.val ⟨commitT (M i).s now (M i).s.p0 (M i).s.p1 (M i).s.p2 (M i).s.p3 ws, some ⟨b, 0, none⟩, c'⟩, .nilIface]) ∧
        TL n w0 W' M' all (ts ++ [commitT (M i).s now (M i).s.p0 (M i).s.p1 (M i).s.p2 (M i).s.p3 ws]) v bx ∧ (∀ k, (M' k).x = (M k).x) ∧ WsAt W' (some ⟨b, 0, none⟩) ws ∧ b < W'.heap.size ∧ W.heap.size ≤ b ∧ Off n M' b ∧ v.ownBlock ≠ some b ∧ W.heap.size ≤ W'.heap.size ∧
        ∀ q, q < W.heap.size → Spare n M all v bx q → Spare n M' all v bx q ∧ W'.heap[q]? = W.heap[q]?) := by
  obtain ⟨h1, _, _⟩ := h.told.si i hi
  refine (sites_commit (c := c) h.sites hi h1.inv now _ _ _ _ hws hwl).mono ?_
  rintro e W' ⟨h2, h3⟩
  refine ⟨h2, fun he => ?_⟩
  obtain ⟨A', c', A2, c2, m', e1, e2, e3, e4, e5, e6, e7, b, rfl, e8, e9⟩ := h3 he
  have hr1 : 1 ≤ ws.length := by
    have := (commitE_zero he).1
    unfold rightWs at this
    simp only [Bool.and_eq_true, decide_eq_true_eq] at this
    omega
  have e7' : WsAt W' (some ⟨b, 0, none⟩) ws := e7
  have hblt : b < W'.heap.size := by
    obtain ⟨b2, o2, e10, hlt, _⟩ := e7' 0 ws[0] (List.getElem?_eq_getElem (by omega))
    obtain ⟨rfl, rfl⟩ : b2 = b ∧ o2 = 0 := by simp at e10; exact ⟨e10.1.symm, e10.2.symm⟩
    exact hlt
  refine ⟨b, c', mUpd M i m', e1, h.step hi e4 e5 e6 e3 ?_ (fun _ h => List.mem_append_left _ h), fun k => ?_, e7', hblt, e8, e9, fun e => ?_, e5.size, fun q hq hsp => ⟨hsp.step h.sites hi e5 e6 hq, hsp.off.block hi e5 hq⟩⟩
  · rw [mUpd_s, e2]
    exact h.told.commit (by omega) hi hn he A2 c2
  · unfold mUpd
    split
    · rename_i e; rw [e, e3]
    · rfl
  · have := (own_ge h.rows.row e).2; omega
theorem TL.append {n : Nat} {w0 W W' : World} {M : Nat → SiM} {all : List MTx} {ts : List TxP} {v v' : Value} {bx : Nat} {m : MTx} (h : TL n w0 W M all ts v bx) (hg : W.grownBy W' v.ownBlock) (hown : W'.ownsRow w0.heap.size 40 9 v' (all ++ [m]).length ((all ++ [m]).flatMap MTx.cells))
    (hv : v'.ownBlock = v.ownBlock ∨ ∀ b, v'.ownBlock = some b → W.heap.size ≤ b) (hm : WsAt W m.A m.t.ws ∧ ∀ b o, m.A = some ⟨b, o, none⟩ → b < W.heap.size ∧ Off n M b ∧ v.ownBlock ≠ some b) (hmt : m.t ∈ ts) : TL n w0 W' M (all ++ [m]) ts v' bx := by
  refine ⟨h.rows.sites h.sites hg, h.told, h.rows.append h.sites hg hown hv hm, fun m' hm' => ?_, fun i hi => ?_, Nat.lt_of_lt_of_le h.blt hg.size, h.bof, h.bda, ?_, ?_⟩
  · rcases List.mem_append.1 hm' with e | e
    · exact h.sub m' e
    · obtain rfl : m' = m := by simpa using e
      exact hmt
  · rw [World.cell?_of_block (hg.block bx h.blt (fun e => h.bne e.symm))]; exact h.ptr i hi
  · rcases hv with h1 | h1
    · rw [h1]; exact h.bne
    · intro e
      have := h1 bx e
      have := h.blt
      omega
  · exact Below.grown h.low hg h.low.size (fun j e => (own_ge h.rows.row e).1)
/-- the row of the sites -/
def ptrs (M : Nat → SiM) (n : Nat) : List Value := (List.range n).map fun i => .pointer (some ⟨(M i).x, 0, none⟩)
theorem ptrs_len (M : Nat → SiM) (n : Nat) : (ptrs M n).length = n := by simp [ptrs]
theorem ptrs_upd (M : Nat → SiM) (n : Nat) (m : SiM) : ptrs (mUpd M n m) (n + 1) = ptrs M n ++ [.pointer (some ⟨m.x, 0, none⟩)] := by
  unfold ptrs
  rw [List.range_succ, List.map_append]
  congr 1
  · refine List.map_congr_left fun i hi => ?_
    have := List.mem_range.1 hi
    unfold mUpd
    rw [if_neg (by omega)]
  · simp [mUpd]
theorem own_ptrs {w : World} {B n c : Nat} {A : Option Addr} {M : Nat → SiM} (h : w.ownsRow B 101 1 (.slice A n c) n (ptrs M n)) (hn : 0 < n) :
    ∃ b, A = some ⟨b, 0, none⟩ ∧ B ≤ b ∧ b < w.heap.size ∧ ∀ i, i < n → w.cell? ⟨b, i, none⟩ = some (.pointer (some ⟨(M i).x, 0, none⟩)) := by
  obtain ⟨hl, ⟨_, h0⟩ | ⟨g, cap, cur, hv, hb, hg, rest⟩⟩ := id h
  · omega
  · simp only [Value.slice.injEq] at hv
    obtain ⟨rfl, _, rfl⟩ := hv
    have hc := h.cells (g := g) rfl
    refine ⟨g, rfl, hb, lt_blk hg, fun i hi => ?_⟩
    have h0 : (ptrs M n)[i]? = some (.pointer (some ⟨(M i).x, 0, none⟩)) := by
      unfold ptrs
      rw [List.getElem?_map, List.getElem?_range hi]; rfl
    have e : ∀ j : Nat, (⟨g, 0, none⟩ : Addr).add j = ⟨g, 0 + j, none⟩ := fun j => by unfold Addr.add; split <;> simp_all
    have k0 := hc _ _ h0
    rw [e, Nat.zero_add] at k0
    exact k0
theorem info101o : (Tryd.prog.info? 101).map (fun i => (i.zero, i.size, i.bytes)) = some (some (.pointer none), 1, 8) := by kernel_rfl
theorem info101 : ∃ i, Tryd.prog.info? 101 = some i ∧ i.zero = some (.pointer none) ∧ i.size = 1 ∧ i.bytes = 8 := by
  obtain ⟨i, hi, h⟩ := Option.map_eq_some_iff.1 info101o
  simp only [Prod.mk.injEq] at h
  exact ⟨i, hi, h.1, h.2.1, h.2.2⟩
end Go.Proofs.YtbopfhbeegkkaaaDoor

namespace Go.Proofs.YtbopfhbeegkkaaaDoor
open Go.RowKit

theorem Sites.new {w w' : World} {B n x mb : Nat} {id : Int} {M : Nat → SiM} (h : Sites w B n M) (hB : B ≤ w.heap.size) (hb : Below w.heap.size w w') (hat : SiAt w' w.heap.size x (siNew id) mb (.slice none 0 0) (fun _ => .slice none 0 0)) :
    Sites w' B (n + 1) (mUpd M n ⟨x, mb, siNew id, .slice none 0 0, fun _ => .slice none 0 0⟩) :=
  h.add hb (SiAt.lower hat hB) (fun b hb => (SiAt.lt hat hb).1) (SiM.nodata _ _ _ _ _)
/-- the sites that told makes, and their row -/
structure PL (n : Nat) (w0 W : World) (M : Nat → SiM) (v : Value) : Prop where
  sites : Sites W w0.heap.size n M
  row : W.ownsRow w0.heap.size 101 1 v n (ptrs M n)
  off : ∀ b, v.ownBlock = some b → Off n M b
  new : ∀ i, i < n → (M i).s = siNew (i : Int)
  low : Below w0.heap.size w0 W
theorem siNew_nodata {m : SiM} {id : Int} (h : m.s = siNew id) (b : Nat) : ¬ m.data b := by
  rintro ⟨t, ht, _⟩
  rw [h] at ht
  rcases ht with ht | ⟨a, c, ht⟩
  · simp [siNew] at ht
  · simp [siNew] at ht
theorem PL.zero (w0 : World) (M : Nat → SiM) : PL 0 w0 w0 M (.slice none 0 0) :=
  ⟨Sites.zero _ _ _, ⟨rfl, .inl ⟨rfl, rfl⟩⟩, fun b e => by simp [Value.ownBlock] at e, fun i hi => by omega, Below.refl _ _⟩
theorem PL.more {n x mb gq c2 : Nat} {w0 W W' W2 : World} {M : Nat → SiM} {v : Value} (h : PL n w0 W M v) (hb : Below W.heap.size W W') (hat : SiAt W' W.heap.size x (siNew (n : Int)) mb (.slice none 0 0) (fun _ => .slice none 0 0))
    (hg : W'.grownBy W2 v.ownBlock) (hown : W2.ownsRow w0.heap.size 101 1 (.slice (some ⟨gq, 0, none⟩) (n + 1) c2) (n + 1) (ptrs M n ++ [.pointer (some ⟨x, 0, none⟩)])) (hv : v.ownBlock = some gq ∨ W'.heap.size ≤ gq) :
    PL (n + 1) w0 W2 (mUpd M n ⟨x, mb, siNew (n : Int), .slice none 0 0, fun _ => .slice none 0 0⟩) (.slice (some ⟨gq, 0, none⟩) (n + 1) c2) := by
  have hs := h.sites.new h.low.size hb hat
  have hoff : ∀ b, v.ownBlock = some b → Off (n + 1) (mUpd M n ⟨x, mb, siNew (n : Int), .slice none 0 0, fun _ => .slice none 0 0⟩) b := fun b e i hi => by
    have hlt := (own_ge h.row e).2
    unfold mUpd
    by_cases e2 : i = n
    · rw [if_pos e2]
      intro h1
      have := (SiAt.lt hat h1).1
      omega
    · rw [if_neg e2]
      exact h.off b e i (by omega)
  have hnew : ∀ i, i < n + 1 → (mUpd M n ⟨x, mb, siNew (n : Int), .slice none 0 0, fun _ => .slice none 0 0⟩ i).s = siNew (i : Int) := fun i hi => by
    unfold mUpd
    by_cases e2 : i = n
    · rw [if_pos e2, e2]
    · rw [if_neg e2]; exact h.new i (by omega)
  have hs2 : Sites W2 w0.heap.size (n + 1) (mUpd M n ⟨x, mb, siNew (n : Int), .slice none 0 0, fun _ => .slice none 0 0⟩) :=
    ⟨fun i hi => SiAt.same (hs.here i hi) hg.size (fun b hb => hg.block b (SiM.lt (hs.here i hi) hb).2 (fun e => hoff b e.symm i hi hb)) (fun m hm b o e => absurd ⟨m, hm, o, e⟩ (siNew_nodata (hnew i hi) b)), hs.dis, hs.dat⟩
  refine ⟨hs2, by rw [ptrs_upd]; exact hown, fun b e => ?_, hnew, ?_⟩
  · obtain rfl : gq = b := by simpa [Value.ownBlock] using e
    rcases hv with h1 | h1
    · exact hoff gq h1
    · exact hs.off (.inl (by omega))
  · exact Below.grown (h.low.trans (hb.mono h.low.size)) hg (Nat.le_trans h.low.size hb.size) (fun j e => (own_ge h.row e).1)
theorem PL.told {n bx c : Nat} {w0 W : World} {M : Nat → SiM} (h : PL n w0 W M (.slice (some ⟨bx, 0, none⟩) n c)) (hn : 0 < n) (hn4 : n ≤ 4) : TL n w0 W M [] [] (.slice none 0 0) bx := by
  obtain ⟨b, e, h1, h2, h3⟩ := own_ptrs h.row hn
  obtain rfl : bx = b := by simp at e; exact e
  have hs : ∀ i, i < n → (M i).s = siNew (i : Int) := h.new
  have ht : Told [] n (fun i => (M i).s) := by
    have := Told.fresh n hn4
    exact ⟨this.good, fun i hi => by show SInv [] (M i).s ∧ _; rw [hs i hi]; exact this.si i hi, this.st⟩
  refine ⟨h.sites, ht, ⟨⟨rfl, .inl ⟨rfl, rfl⟩⟩, fun b e => by simp [Value.ownBlock] at e, fun m hm => by simp at hm⟩, fun m hm => by simp at hm, h3, h2, h.off bx rfl, fun i hi => siNew_nodata (h.new i hi) _, by simp [Value.ownBlock], h.low⟩

/-- what else there is stays: blocks that no site writes -/
structure Keep (n : Nat) (M : Nat → SiM) (W : World) (M' : Nat → SiM) (W' : World) : Prop where
  size : W.heap.size ≤ W'.heap.size
  off : ∀ q, Off n M q → q < W.heap.size → Off n M' q ∧ W'.heap[q]? = W.heap[q]?
theorem Keep.trans {n : Nat} {M M' M2 : Nat → SiM} {W W' W2 : World} (h : Keep n M W M' W') (h2 : Keep n M' W' M2 W2) : Keep n M W M2 W2 :=
  ⟨Nat.le_trans h.size h2.size, fun q hq hl => by
    obtain ⟨a, b⟩ := h.off q hq hl
    obtain ⟨c, d⟩ := h2.off q a (Nat.lt_of_lt_of_le hl h.size)
    exact ⟨c, d.trans b⟩⟩
theorem Keep.below {n : Nat} {M : Nat → SiM} {W W' : World} (h : Below W.heap.size W W') : Keep n M W M W' := ⟨h.size, fun q hq hl => ⟨hq, h.block q hl⟩⟩
def tUpd (T : Nat → List TxP) (i : Nat) (t : TxP) : Nat → List TxP := fun k => if k = i then T i ++ [t] else T k
/-- sites that take of all: what each has seen -/
structure LS (n B : Nat) (W0 W : World) (M : Nat → SiM) (all : List TxP) (T : Nat → List TxP) : Prop where
  sites : Sites W B n M
  seen : ∀ i, i < n → Seen all (M i).s (T i)
  low : Below B W0 W
theorem LS.below {n B : Nat} {W0 W W' : World} {M : Nat → SiM} {all : List TxP} {T : Nat → List TxP} (h : LS n B W0 W M all T) (hB : B ≤ W.heap.size) (hb : Below W.heap.size W W') : LS n B W0 W' M all T :=
  ⟨h.sites.below hb, h.seen, h.low.trans (hb.mono hB)⟩
theorem LS.fresh {n B x mb : Nat} {W0 W W' : World} {M : Nat → SiM} {all : List TxP} {T : Nat → List TxP} (h : LS n B W0 W M all T) (hg : Good all) (hT : T n = []) (hB : B ≤ W.heap.size) (hb : Below W.heap.size W W') (hat : SiAt W' W.heap.size x (siNew 3) mb (.slice none 0 0) (fun _ => .slice none 0 0)) :
    LS (n + 1) B W0 W' (mUpd M n ⟨x, mb, siNew 3, .slice none 0 0, fun _ => .slice none 0 0⟩) all T := by
  refine ⟨h.sites.new hB hb hat, fun i hi => ?_, h.low.trans (hb.mono hB)⟩
  unfold mUpd
  by_cases e : i = n
  · rw [if_pos e, e, hT]; exact Seen.fresh hg
  · rw [if_neg e]; exact h.seen i (by omega)
theorem LS.take {n B i : Nat} {W0 W : World} {M : Nat → SiM} {all : List TxP} {T : Nat → List TxP} (h : LS n B W0 W M all T) (hi : i < n) (hg : Good all) (hal : all.length < 200) (hB : W0.heap.size = B) {m : MTx} (ht : m.t ∈ all) (h3 : m.t.site ≠ 3) (hn : m.t ∉ T i) (hl : (T i).length < 40) (hws : WsAt W0 m.A m.t.ws) :
    Calls Tryd.prog 48 #[.pointer (some ⟨(M i).x, 0, none⟩), MTx.val m] W fun e W' => ∃ M', e = .returned .nilIface ∧ LS n B W0 W' M' all (tUpd T i m.t) ∧ (∀ k, (M' k).x = (M k).x) ∧ Keep n M W M' W' := by
  obtain ⟨ts, hts⟩ := h.seen i hi |>.take hg hal ht h3 hn hl
  have hr := hg.right _ ht
  obtain ⟨r1, r2, _⟩ := rightTx_head hr
  obtain ⟨_, _, _, r5⟩ := rightTx_parts hr
  have hwn := (h.seen i hi).si.wn_le
  have hinv := (h.seen i hi).si.inv
  obtain ⟨t, A, c⟩ := m
  subst hB
  refine (sites_take (c := c) h.sites hi hinv (by omega) (hws.below h.low) (by show t.ws.length ≤ _; simp only at r5; omega) (wf64_of (by simp only at r1; omega)) (wf64_of (by simp only at r2; omega))).mono ?_
  rintro e W' ⟨h2, _, h4⟩
  obtain ⟨A', c', m', e1, e2, e3, e4, e5⟩ := h4 ts
  rw [ts] at h2
  refine ⟨mUpd M i m', h2, ⟨e3, fun k hk => ?_, ?_⟩, fun k => ?_, ⟨e4.size, fun q hq hlt => ⟨hq.step h.sites hi e4 hlt, hq.block hi e4 hlt⟩⟩⟩
  · unfold mUpd tUpd
    by_cases e : k = i
    · rw [if_pos e, if_pos e, e1]; exact hts A' c'
    · rw [if_neg e, if_neg e]; exact h.seen k hk
  · exact h.low.trans (e4.low (fun b hb => (SiM.lt (h.sites.here i hi) hb).1) h.low.size)
  · unfold mUpd
    split
    · rename_i e; rw [e, e2]
    · rfl
theorem LS.twice {n B i : Nat} {W0 W : World} {M : Nat → SiM} {all : List TxP} {T : Nat → List TxP} (h : LS n B W0 W M all T) (hi : i < n) (hg : Good all) (hal : all.length < 200) (hB : W0.heap.size = B) {m : MTx} (ht : m.t ∈ all) (h3 : m.t.site ≠ 3) (hn : m.t ∈ T i) (hws : WsAt W0 m.A m.t.ws) :
    Calls Tryd.prog 48 #[.pointer (some ⟨(M i).x, 0, none⟩), MTx.val m] W fun e W' => e = .returned (errV 9) ∧ Below W.heap.size W W' := by
  have ts := (h.seen i hi).twice hg ht h3 hn
  have hr := hg.right _ ht
  obtain ⟨r1, r2, _⟩ := rightTx_head hr
  obtain ⟨_, _, _, r5⟩ := rightTx_parts hr
  have hwn := (h.seen i hi).si.wn_le
  have hinv := (h.seen i hi).si.inv
  obtain ⟨t, A, c⟩ := m
  subst hB
  refine (sites_take (c := c) h.sites hi hinv (by omega) (hws.below h.low) (by show t.ws.length ≤ _; simp only at r5; omega) (wf64_of (by simp only at r1; omega)) (wf64_of (by simp only at r2; omega))).mono ?_
  rintro e W' ⟨h2, h5, _⟩
  rw [ts] at h2
  exact ⟨h2, h5 (by rw [ts]; decide)⟩
/-- a row that is only read, in a block that no site writes -/
structure LfAt (n : Nat) (M : Nat → SiM) (W : World) (A : Option Addr) (L : List MTx) : Prop where
  xs : XsAt W A L
  off : ∀ b o, A = some ⟨b, o, none⟩ → b < W.heap.size ∧ Off n M b
theorem LfAt.keep {n : Nat} {M M' : Nat → SiM} {W W' : World} {A : Option Addr} {L : List MTx} (h : LfAt n M W A L) (hk : Keep n M W M' W') : LfAt n M' W' A L := by
  refine ⟨fun i m hm => ?_, fun b o e => ⟨Nat.lt_of_lt_of_le (h.off b o e).1 hk.size, (hk.off b (h.off b o e).2 (h.off b o e).1).1⟩⟩
  obtain ⟨b, o, hA, hlt, rest⟩ := h.xs i m hm
  have e : ∀ k, W'.cell? ⟨b, k, none⟩ = W.cell? ⟨b, k, none⟩ := fun k => World.cell?_of_block (a := ⟨b, k, none⟩) (hk.off b (h.off b o hA).2 hlt).2
  simp only [← e] at rest
  exact ⟨b, o, hA, Nat.lt_of_lt_of_le hlt hk.size, rest⟩
/-- behind a Commit that is good -/
structure TookC (n : Nat) (w0 X : World) (M : Nat → SiM) (all : List MTx) (ts : List TxP) (T : TxP) (v : Value) (bx : Nat) (W' : World) (M' : Nat → SiM) (b : Nat) : Prop where
  tl : TL n w0 W' M' all (ts ++ [T]) v bx
  ws : WsAt W' (some ⟨b, 0, none⟩) T.ws
  lt : b < W'.heap.size
  new : X.heap.size ≤ b
  off : Off n M' b
  row : v.ownBlock ≠ some b
  size : X.heap.size ≤ W'.heap.size
  keep : ∀ q, q < X.heap.size → Spare n M all v bx q → Spare n M' all v bx q ∧ W'.heap[q]? = X.heap[q]?
/-- the transaction lies in a box -/
structure Boxed (n : Nat) (w0 : World) (all : List MTx) (ts : List TxP) (T : TxP) (v : Value) (bx : Nat) (W' : World) (M' : Nat → SiM) (b c q : Nat) : Prop where
  blk : W'.heap[q]? = some (.cells #[.int .i64 T.site, .int .i64 T.seq, .int .i64 T.wall, .int .i64 T.count, .int .i64 T.d0, .int .i64 T.d1, .int .i64 T.d2, .int .i64 T.d3, .slice (some ⟨b, 0, none⟩) T.ws.length c] 40)
  tl : TL n w0 W' M' all (ts ++ [T]) v bx
  ws : WsAt W' (some ⟨b, 0, none⟩) T.ws
  lt : b < W'.heap.size
  off : Off n M' b
  row : v.ownBlock ≠ some b
theorem TL.boxed {n b c q : Nat} {w0 X : World} {M : Nat → SiM} {all : List MTx} {ts : List TxP} {T : TxP} {v : Value} {bx : Nat} {z0 z1 z2 z3 z4 z5 z6 z7 z8 : Value} (h : TL n w0 X M all (ts ++ [T]) v bx) (hs : Spare n M all v bx q) (hz : X.heap[q]? = some (.cells #[z0, z1, z2, z3, z4, z5, z6, z7, z8] 40))
    (hq : w0.heap.size ≤ q) (hw : WsAt X (some ⟨b, 0, none⟩) T.ws) (hbq : b ≠ q) (hbl : b < X.heap.size) (hoff : Off n M b) (hv : v.ownBlock ≠ some b) :
    Boxed n w0 all ts T v bx (put9 X q (.int .i64 T.site) (.int .i64 T.seq) (.int .i64 T.wall) (.int .i64 T.count) (.int .i64 T.d0) (.int .i64 T.d1) (.int .i64 T.d2) (.int .i64 T.d3) (.slice (some ⟨b, 0, none⟩) T.ws.length c)) M b c q := by
  have hg := put9_grown X q (.int .i64 T.site) (.int .i64 T.seq) (.int .i64 T.wall) (.int .i64 T.count) (.int .i64 T.d0) (.int .i64 T.d1) (.int .i64 T.d2) (.int .i64 T.d3) (.slice (some ⟨b, 0, none⟩) T.ws.length c)
  refine ⟨put9_blk hz, h.set hs hg hq, hw.keep (fun b' o e => ?_), Nat.lt_of_lt_of_le hbl hg.size, hoff, hv⟩
  obtain ⟨rfl, _⟩ : b = b' ∧ 0 = o := by simpa using e
  exact hg.block b hbl (by simp; exact hbq)
theorem TookC.zero {n b : Nat} {w0 X W' : World} {M M' : Nat → SiM} {all : List MTx} {ts : List TxP} {T : TxP} {v : Value} {bx : Nat} (h : TookC n w0 X M all ts T v bx W' M' b) (q : Nat) (hs : Spare n M all v bx q)
    (hz : X.heap[q]? = some (.cells #[.int .i64 0, .int .i64 0, .int .i64 0, .int .i64 0, .int .i64 0, .int .i64 0, .int .i64 0, .int .i64 0, .slice none 0 0] 40)) :
    W'.heap[q]? = some (.cells #[.int .i64 0, .int .i64 0, .int .i64 0, .int .i64 0, .int .i64 0, .int .i64 0, .int .i64 0, .int .i64 0, .slice none 0 0] 40) := (h.keep q (lt_blk hz) hs).2.trans hz
theorem TookC.before {n b c q : Nat} {w0 X W' : World} {M M' : Nat → SiM} {all : List MTx} {ts : List TxP} {T : TxP} {v : Value} {bx : Nat} {z0 z1 z2 z3 z4 z5 z6 z7 z8 : Value} (h : TookC n w0 X M all ts T v bx W' M' b) (hs : Spare n M all v bx q) (hz : X.heap[q]? = some (.cells #[z0, z1, z2, z3, z4, z5, z6, z7, z8] 40))
    (hq : w0.heap.size ≤ q) :
    Boxed n w0 all ts T v bx (put9 W' q (.int .i64 T.site) (.int .i64 T.seq) (.int .i64 T.wall) (.int .i64 T.count) (.int .i64 T.d0) (.int .i64 T.d1) (.int .i64 T.d2) (.int .i64 T.d3) (.slice (some ⟨b, 0, none⟩) T.ws.length c)) M' b c q := by
  obtain ⟨h1, h2⟩ := h.keep q (lt_blk hz) hs
  exact h.tl.boxed h1 (h2.trans hz) hq h.ws (by have := lt_blk hz; have := h.new; omega) h.lt h.off h.row
theorem TookC.after {n b c : Nat} {w0 X W' : World} {M M' : Nat → SiM} {all : List MTx} {ts : List TxP} {T : TxP} {v : Value} {bx : Nat} (h : TookC n w0 X M all ts T v bx W' M' b) :
    Boxed n w0 all ts T v bx (W'.alloc (.cells #[.int .i64 T.site, .int .i64 T.seq, .int .i64 T.wall, .int .i64 T.count, .int .i64 T.d0, .int .i64 T.d1, .int .i64 T.d2, .int .i64 T.d3, .slice (some ⟨b, 0, none⟩) T.ws.length c] 40)) M' b c W'.heap.size := by
  have hb : Below W'.heap.size W' (W'.alloc (.cells #[.int .i64 T.site, .int .i64 T.seq, .int .i64 T.wall, .int .i64 T.count, .int .i64 T.d0, .int .i64 T.d1, .int .i64 T.d2, .int .i64 T.d3, .slice (some ⟨b, 0, none⟩) T.ws.length c] 40)) := blw_alloc (Below.refl _ _)
  exact ⟨blk_new rfl _, h.tl.below hb, h.ws.below hb, Nat.lt_of_lt_of_le h.lt hb.size, h.off, h.row⟩
theorem TL.commit' {n i : Nat} {w0 W : World} {M : Nat → SiM} {all : List MTx} {ts : List TxP} {v : Value} {bx : Nat} (h : TL n w0 W M all ts v bx) (hi : i < n) (hn : n ≤ 4) (hl : ts.length < 100) (now : Int) {A : Option Addr} {c : Nat} {ws : List WrP} (hws : WsAt W A ws) (hwl : ws.length ≤ 1000000)
    {T : TxP} (hT : commitT (M i).s now (M i).s.p0 (M i).s.p1 (M i).s.p2 (M i).s.p3 ws = T) (he : commitE (M i).s now (M i).s.p0 (M i).s.p1 (M i).s.p2 (M i).s.p3 ws = 0) :
    Calls Tryd.prog 76 #[.pointer (some ⟨(M i).x, 0, none⟩), .int .i64 now, .agg #[.int .i64 (M i).s.p0, .int .i64 (M i).s.p1, .int .i64 (M i).s.p2, .int .i64 (M i).s.p3], .slice A ws.length c] W fun e W' =>
      ∃ b c' M', e = .returned (.tuple #[.agg #[.int .i64 T.site, .int .i64 T.seq, .int .i64 T.wall, .int .i64 T.count, .int .i64 T.d0, .int .i64 T.d1, .int .i64 T.d2, .int .i64 T.d3, .slice (some ⟨b, 0, none⟩) T.ws.length c'], .nilIface]) ∧ TookC n w0 W M all ts T v bx W' M' b := by
  subst hT
  refine (h.commit (c := c) hi hn hl now hws hwl).mono ?_
  rintro e W' ⟨_, h2⟩
  obtain ⟨b, c', M', e1, e2, _, e4, e5, e6, e7, e8, e9, e10⟩ := h2 he
  exact ⟨b, c', M', e1, e2, e4, e5, e6, e7, e8, e9, e10⟩
end Go.Proofs.YtbopfhbeegkkaaaDoor

namespace Go.Proofs.YtbopfhbeegkkaaaDoor

def wsP : List WrP := [⟨1, ⟨#[120]⟩, false⟩]
theorem placed_e : commitE (siNew 0) 7 0 0 0 0 wsP = 0 := by decide
theorem placed_t : commitT (siNew 0) 7 0 0 0 0 wsP = ⟨0, 1, 7, 0, 0, 0, 0, 0, wsP⟩ := by rfl
theorem placed_k : takeE (siNew 1) ⟨0, 1, 7, 0, 0, 0, 0, 0, wsP⟩ = 0 := by decide
theorem placed_v (A : Option Addr) (c : Nat) : (runP ((siNew 1).wn + 1) ((siNew 1).wait ⟨⟨0, 1, 7, 0, 0, 0, 0, 0, wsP⟩, A, c⟩)).p0 = 1 ∧ (runP ((siNew 1).wn + 1) ((siNew 1).wait ⟨⟨0, 1, 7, 0, 0, 0, 0, 0, wsP⟩, A, c⟩)).p1 = 0 ∧
    (runP ((siNew 1).wn + 1) ((siNew 1).wait ⟨⟨0, 1, 7, 0, 0, 0, 0, 0, wsP⟩, A, c⟩)).p2 = 0 ∧ (runP ((siNew 1).wn + 1) ((siNew 1).wait ⟨⟨0, 1, 7, 0, 0, 0, 0, 0, wsP⟩, A, c⟩)).p3 = 0 := ⟨rfl, rfl, rfl, rfl⟩
theorem placed_r (A : Option Addr) (c : Nat) : siteRead (runP ((siNew 1).wn + 1) ((siNew 1).wait ⟨⟨0, 1, 7, 0, 0, 0, 0, 0, wsP⟩, A, c⟩)) 1 1 0 0 0 = (⟨7, 0, 0, 1, ⟨#[120]⟩, false⟩, 0) := by rfl

theorem Good.nodup {all : List TxP} (h : Good all) : all.Nodup := by
  rw [List.nodup_iff_pairwise_ne, List.pairwise_iff_getElem]
  intro i j hi hj hij e
  have := h.lt hij (List.getElem?_eq_getElem hi) (List.getElem?_eq_getElem hj) (by rw [e])
  rw [e] at this
  omega
/-- what is left to be taken, and what was taken -/
structure LeftInv (all L : List MTx) (T : List TxP) : Prop where
  sub : ∀ m ∈ L, m ∈ all
  nd : (L.map (·.t)).Nodup
  dis : ∀ m ∈ L, m.t ∉ T
  cov : ∀ m ∈ all, m.t ∈ T ∨ m ∈ L
  len : L.length + T.length = all.length
theorem LeftInv.start {all : List MTx} (h : Good (all.map (·.t))) : LeftInv all all [] :=
  ⟨fun _ h => h, h.nodup, fun _ _ => by simp, fun _ h => .inr h, by simp⟩
theorem LeftInv.step {all L : List MTx} {T : List TxP} (h : LeftInv all L T) {k : Nat} {m : MTx} (hk : L[k]? = some m) : LeftInv all (L.take k ++ L.drop (k + 1)) (T ++ [m.t]) := by
  obtain ⟨hlt, hm⟩ := List.getElem?_eq_some_iff.1 hk
  have hL : L = L.take k ++ m :: L.drop (k + 1) := by
    rw [← hm, List.getElem_cons_drop, List.take_append_drop]
  have hnd := h.nd
  rw [hL, List.map_append, List.map_cons, List.nodup_append] at hnd
  obtain ⟨n1, n2, n3⟩ := hnd
  obtain ⟨n4, n5⟩ := List.nodup_cons.1 n2
  have hin : ∀ x, x ∈ L.take k ++ L.drop (k + 1) → x ∈ L := fun x hx => by
    rw [hL]
    rcases List.mem_append.1 hx with e | e
    · exact List.mem_append_left _ e
    · exact List.mem_append_right _ (List.mem_cons_of_mem _ e)
  have hlen : L.length = (L.take k ++ L.drop (k + 1)).length + 1 := by
    simp only [List.length_append, List.length_take, List.length_drop]; omega
  refine ⟨fun x hx => h.sub x (hin x hx), ?_, fun x hx => ?_, fun x hx => ?_, ?_⟩
  · rw [List.map_append, List.nodup_append]
    exact ⟨n1, n5, fun a ha b hb => n3 a ha b (List.mem_cons_of_mem _ hb)⟩
  · intro hT
    rcases List.mem_append.1 hT with e | e
    · exact h.dis x (hin x hx) e
    · have e2 : x.t = m.t := by simpa using e
      rcases List.mem_append.1 hx with e3 | e3
      · exact n3 x.t (List.mem_map_of_mem e3) m.t (by simp) e2
      · exact n4 (e2 ▸ List.mem_map_of_mem e3)
  · rcases h.cov x hx with e | e
    · exact .inl (List.mem_append_left _ e)
    · rw [hL] at e
      rcases List.mem_append.1 e with e | e
      · exact .inr (List.mem_append_left _ e)
      · rcases List.mem_cons.1 e with rfl | e
        · exact .inl (by simp)
        · exact .inr (List.mem_append_right _ e)
  · have := h.len
    simp only [List.length_append, List.length_cons, List.length_nil] at hlen ⊢
    omega
theorem LeftInv.done {all : List MTx} {T : List TxP} (h : LeftInv all [] T) : ∀ t ∈ all.map (·.t), t ∈ T := by
  intro t ht
  obtain ⟨m, hm, rfl⟩ := List.mem_map.1 ht
  rcases h.cov m hm with e | e
  · exact e
  · cases e
/-- the first site takes them as they are -/
theorem taken_fresh {all : List MTx} (h : Good (all.map (·.t))) {i : Nat} {m : MTx} (hi : all[i]? = some m) : m.t ∉ (all.take i).map (·.t) := by
  intro hT
  obtain ⟨x, hx, e⟩ := List.mem_map.1 hT
  obtain ⟨j, hj, rfl⟩ := List.getElem_of_mem hx
  simp only [List.length_take] at hj
  have h1 : (all.map (·.t))[j]? = some (all.take i)[j].t := by
    rw [List.getElem?_map, List.getElem?_eq_getElem (show j < all.length by omega)]
    simp
  have h2 : (all.map (·.t))[i]? = some m.t := by rw [List.getElem?_map, hi]; rfl
  have := h.lt (show j < i by omega) h1 h2 (by rw [e])
  rw [e] at this
  omega
theorem takes_succ {all : List MTx} {i : Nat} {m : MTx} (hi : all[i]? = some m) : (all.take (i + 1)).map (·.t) = (all.take i).map (·.t) ++ [m.t] := by
  rw [take_snoc hi, List.map_append]; rfl
/-- what an empty vector has not: all -/
theorem Seen.missing {all : List TxP} {s : SiP} {ts : List TxP} (hg : Good all) (h : Seen all s ts) : (s.log.filter fun m => decide (atV 0 0 0 0 m.t.site < m.t.seq)).length = s.log.length := by
  rw [List.filter_eq_self.2]
  intro m hm
  have h1 := rightTx_head (hg.right _ (h.si.lg m hm))
  have : atV 0 0 0 0 m.t.site = 0 := by unfold atV; simp
  rw [this]
  exact decide_eq_true (by omega)
theorem Seen.told {all : List TxP} (hg : Good all) {s s' : SiP} {ts ts' : List TxP} (h : Seen all s ts) (hall : ∀ t ∈ all, t ∈ ts) (h' : Seen all s' ts') (hall' : ∀ t ∈ all, t ∈ ts') (k : Nat) (hk : k < 8) :
    readR s.p0 s.p1 s.p2 s.p3 s.st k = readR s'.p0 s'.p1 s'.p2 s'.p3 s'.st k := by
  obtain ⟨e0, e1, e2, e3, e4⟩ := h.same hg hall h' hall'
  have := e4 k hk
  have e5 : ((k : Int)).toNat = k := by omega
  unfold readR
  rw [e0, e1, e2, e3, e5, this]
end Go.Proofs.YtbopfhbeegkkaaaDoor

namespace Go.Proofs.YtbopfhbeegkkaaaDoor
open Go.RowKit

set_option maxRecDepth 20000 in
set_option maxHeartbeats 16000000 in
theorem told_any (A : Option Addr) (c : Nat) (ls : List SayP) (n : Nat) (w : World) (hls : SaysAt w A ls) (hl : ls.length ≤ 30) (hw : ∀ x ∈ ls, x.ws.length ≤ 8) (hn : 1 ≤ n) (hn3 : n ≤ 3) :
    Calls Tryd.prog 46 #[.slice A ls.length c, .int .i64 (n : Int)] w fun e w' => ∃ (A' : Option Addr) (c' : Nat) (all : List MTx), e = .returned (.tuple #[.slice A' all.length c', .bool true]) ∧ all.length ≤ 30 ∧ Good (all.map (·.t)) ∧
      (∀ m ∈ all, m.t.site < (n : Int)) ∧ XsAt w' A' all ∧ (∀ m ∈ all, WsAt w' m.A m.t.ws) ∧ Below w.heap.size w w' := by
  have HLS := hidp hls
  have HW := hidp hw
  clear hls hw
  obtain ⟨i1, hi1, hy0, hy1, hy2⟩ := info101
  obtain ⟨i0, hi0, hz0, hz1, hz2⟩ := info40
  have HP0 := hidp fun M => PL.zero w M
  go_enter Tryd.func46, Tryd.ntmps46
  go_wp2_with fail
  go_loopw [6, 7] (fun xv i W => ∃ (k : Nat) (M : Nat → SiM) (Ax : Option Addr) (cx : Nat), k ≤ n ∧ i = .int .i64 k ∧ xv = .slice Ax k cx ∧ PL k w W M (.slice Ax k cx)) (fun _ i _ => n - (intOf i).toNat)
  case atStart => exact ⟨0, fun _ => ⟨0, 0, siNew 0, .slice none 0 0, fun _ => .slice none 0 0⟩, none, 0, Nat.zero_le _, rfl, rfl, HP0.out _⟩
  case round =>
    obtain ⟨k, M, Ax, cx, hk, rfl, rfl, hp⟩ := hrel
    obtain ⟨W, rfl⟩ : ∃ W : World, W = wr := ⟨_, rfl⟩
    have HP := hidp hp
    clear hp HP0
    by_cases hlt : k < n
    · have hkd : decide ((k : Int) < (n : Int)) = true := decide_eq_true (by omega)
      go_wp2_with fail
      go_at_call 47
      refine (new_any (k : Int) W ⟨by omega, by omega⟩).mono ?_
      rintro e W1 ⟨rfl, hat, hb⟩
      have HAT := hidp hat
      have HB := hidp hb
      have hsz := HB.out.size
      have hrow := own_below HP.out.row (hb.mono (Nat.le_refl _)) (fun j e => (own_ge HP.out.row e).2)
      have HOW := hidp hrow
      have hlow := HP.out.low.size
      clear hat hb hrow
      go_wp2_with (at_builtin; go_must (refine wpList_append_lies _ rfl _ _ 145 rfl w.heap.size 101 i1 (.pointer none) 1 8 Tryd.underlying145 hi1 hy0 hy1 hy2 rfl (by decide) (.slice Ax k cx) k (ptrs M k) rfl (HOW.out.alloc _) ⟨W1.heap.size, 0, none⟩ 1 1 [.pointer (some ⟨W.heap.size + 1, 0, none⟩)] rfl rfl (World.news_of_block (cs := #[.pointer (some ⟨W.heap.size + 1, 0, none⟩)]) (blk_new rfl _)) ?c1 (by decide) ?c2 ?c3 ?c4 _ rfl ?_))
      case c1 => intro u hu; simp at hu; rcases hu with rfl; rfl
      case c2 => refine Nat.le_trans ?_ maxLen_ge; omega
      case c3 => omega
      case c4 => first | omega | (simp; omega)
      intro gq cap1 w1 hown1 hgrow hgl hlt1
      have HN1 := hidp (HP.out.more HB.out HAT.out (grown_alloc hgrow) hown1 (by
        rcases hgl with e | e
        · exact .inl e
        · exact .inr (by rw [e]; simp)))
      clear hown1 hgrow hgl hlt1
      go_wp2_with fail
      go_roundw
      case rel => exact ⟨k + 1, _, some ⟨gq, 0, none⟩, cap1, by omega, by go_num, rfl, HN1.out⟩
      case measure => simp [intOf]; omega
    · obtain rfl : k = n := by omega
      have hkd : decide ((k : Int) < (k : Int)) = false := decide_eq_false (by omega)
      obtain ⟨bx, rfl, hbx, hbl, hptr⟩ := own_ptrs HP.out.row (by omega)
      have HTL0 := hidp (HP.out.told (by omega) (by omega))
      clear hptr hbl hbx
      go_wp2_with fail
      go_loopw [10, 11] (fun v i W2 => ∃ (j : Nat) (M2 : Nat → SiM) (all : List MTx) (Aa : Option Addr) (ca : Nat), j ≤ ls.length ∧ i = .int .i64 j ∧ v = .slice Aa all.length ca ∧ all.length ≤ j ∧ TL k w W2 M2 all (all.map (·.t)) (.slice Aa all.length ca) bx) (fun _ i _ => ls.length - (intOf i).toNat)
      case atStart => exact ⟨0, M, [], none, 0, Nat.zero_le _, rfl, rfl, Nat.zero_le _, HTL0.out⟩
      case round =>
        obtain ⟨j, M2, all, Aa, ca, hj, rfl, rfl, hal, ht⟩ := hrel
        obtain ⟨W2, rfl⟩ : ∃ W2 : World, W2 = wr := ⟨_, rfl⟩
        have HT := hidp ht
        clear ht HTL0 HP
        by_cases hjl : j < ls.length
        · have hjd : decide ((j : Int) < (ls.length : Int)) = true := decide_eq_true (by omega)
          have HXL := hidp (HW.out ls[j] (List.getElem_mem hjl))
          obtain ⟨b, o, rfl, hb0, _⟩ := HLS.out j ls[j] (List.getElem?_eq_getElem hjl)
          have HXC : Hid (∀ X, Below w.heap.size w X → b < X.heap.size ∧ X.cell? ⟨b, o + j * 4, none⟩ = some (.int .i64 ls[j].at_) ∧ X.cell? ⟨b, o + j * 4 + 1, none⟩ = some (.int .i64 ls[j].now) ∧ X.cell? ⟨b, o + j * 4 + 2, none⟩ = some (.int .i64 ls[j].comes) ∧
              X.cell? ⟨b, o + j * 4 + 3, none⟩ = some (.slice ls[j].A ls[j].ws.length ls[j].c) ∧ WsAt X ls[j].A ls[j].ws) := hidp (fun X hX => by
            obtain ⟨b', o', e, h0, h1, h2, h3, h4, h5, _⟩ := (HLS.out.below hX) j ls[j] (List.getElem?_eq_getElem hjl)
            simp only [Option.some.injEq, Addr.mk.injEq] at e
            obtain ⟨rfl, rfl, _⟩ := e
            exact ⟨h0, h1, h2, h3, h4, h5⟩)
          generalize ls[j] = xs at *
          obtain ⟨xat, xnow, xco, xws, xA, xc⟩ := xs
          simp only at HXC HXL
          obtain ⟨hbl, d0, d1, d2, d3, _⟩ := HXC.out W2 HT.out.low
          haveI : SzGe (b + 1) W2 := ⟨hbl⟩
          haveI : SzGe (bx + 1) W2 := ⟨HT.out.blt⟩
          have hpt := HT.out.ptr (pickN xat k) (pickN_lt xat (by omega))
          have hpl := pickN_lt xat (n := k) (by omega)
          have HPK := hidp fun X => pick_is xat k X (by omega) (by omega)
          generalize pickN xat k = p at *
          go_wp2_with fail
          go_at_call 32
          refine (HPK.out _).mono ?_
          rintro e Wp ⟨rfl, rfl⟩
          have hp0 : (0 : Int) ≤ (p : Int) := by omega
          have hpk : (p : Int) < (k : Int) := by omega
          go_wp2_with fail
          have hcl := pickN_lt xco (n := all.length + 1) (by omega)
          have HPC := hidp fun X => pick_is xco (all.length + 1) X (by omega) (by omega)
          generalize pickN xco (all.length + 1) = cm at *
          clear d0 d1 d2 d3 hpt
          go_loopw [13] (fun i3 W3 => ∃ (q : Nat) (M3 : Nat → SiM), q ≤ cm ∧ i3 = .int .i64 q ∧ TL k w W3 M3 all (all.map (·.t)) (.slice Aa all.length ca) bx ∧ (M3 p).x = (M2 p).x) (fun i3 _ => cm - (intOf i3).toNat)
          case atStart => exact ⟨0, M2, Nat.zero_le _, rfl, HT.out, rfl⟩
          case round =>
            obtain ⟨q, M3, hq, rfl, ht3, hxe⟩ := hrel
            obtain ⟨W3, rfl⟩ : ∃ W3 : World, W3 = wr := ⟨_, rfl⟩
            have HT3 := hidp ht3
            have HXE := hidp hxe
            clear ht3 hxe
            obtain ⟨hbl3, d0, d1, d2, d3, hws3⟩ := HXC.out W3 HT3.out.low
            have HWS3 := hidp hws3
            haveI : SzGe (b + 1) W3 := ⟨hbl3⟩
            clear hws3
            by_cases hqc : q < cm
            · have hqd : decide ((q : Int) < (cm : Int)) = true := decide_eq_true (by omega)
              have hqa : q < all.length := by omega
              obtain ⟨gb, go, rfl, hgb, k0, k1, k2, k3, k4, k5, k6, k7, k8⟩ := (own_xs HT3.out.rows.row) q all[q] (List.getElem?_eq_getElem hqa)
              have HTK := hidp fun W (h : TL k w W M3 all (all.map (·.t)) (.slice (some ⟨gb, go, none⟩) all.length ca) bx) => h.take (i := p) (by omega) (by omega) (by rw [List.length_map]; omega) (List.getElem_mem hqa)
              rw [HXE.out] at HTK
              generalize all[q] = m at *
              obtain ⟨⟨msite, mseq, mwall, mcount, md0, md1, md2, md3, mws⟩, mA, mc⟩ := m
              simp only [MTx.val] at k0 k1 k2 k3 k4 k5 k6 k7 k8 HTK
              haveI : SzGe (gb + 1) W3 := ⟨hgb⟩
              have hq0 : (0 : Int) ≤ (q : Int) := by omega
              have hqq : (q : Int) < (all.length : Int) := by omega
              go_wp2_with fail
              go_at_call 32
              refine (HPC.out _).mono ?_
              rintro e Wp ⟨rfl, rfl⟩
              go_wp2_with fail
              go_at_call 48
              refine (HTK.out _ HT3.out).mono ?_
              rintro e W4 ⟨er, M4, rfl, ht4, hx4⟩
              have HN4 := hidp ht4
              have HX4 := hidp ((hx4 p).trans HXE.out)
              clear ht4 hx4 k0 k1 k2 k3 k4 k5 k6 k7 k8
              go_wp2_with fail
              go_roundw
              case rel => exact ⟨q + 1, M4, by omega, by go_num, HN4.out, HX4.out⟩
              case measure => simp [intOf]; omega
            · obtain rfl : q = cm := by omega
              have hqd : decide ((q : Int) < (q : Int)) = false := decide_eq_false (by omega)
              have HPN := hidp fun X => pick_is xnow 1000 X (by omega) (by omega)
              generalize pickN xnow 1000 = now at *
              have HAP : Hid (∀ X, Below W3.heap.size W3 X → Calls Tryd.prog 49 #[.pointer (some ⟨(M2 p).x, 0, none⟩)] X fun e w' => e = .returned (.agg #[.int .i64 (M3 p).s.p0, .int .i64 (M3 p).s.p1, .int .i64 (M3 p).s.p2, .int .i64 (M3 p).s.p3]) ∧ Below X.heap.size X w') := hidp (fun X hX => by
                rw [← HXE.out]
                exact applied_any _ _ _ _ _ _ X (SiAt.below (HT3.out.sites.here p hpl) hX))
              have HLB := hidp HT3.out.low.size
              by_cases hce : commitE (M3 p).s (now : Int) (M3 p).s.p0 (M3 p).s.p1 (M3 p).s.p2 (M3 p).s.p3 xws = 0
              · obtain ⟨T, hT⟩ : ∃ T, commitT (M3 p).s (now : Int) (M3 p).s.p0 (M3 p).s.p1 (M3 p).s.p2 (M3 p).s.p3 xws = T := ⟨_, rfl⟩
                have HTW : Hid (T.ws = xws) := hidp (by rw [← hT]; rfl)
                have HCM : Hid (∀ X, Below W3.heap.size W3 X → Calls Tryd.prog 76 #[.pointer (some ⟨(M2 p).x, 0, none⟩), .int .i64 (now : Int), .agg #[.int .i64 (M3 p).s.p0, .int .i64 (M3 p).s.p1, .int .i64 (M3 p).s.p2, .int .i64 (M3 p).s.p3], .slice xA xws.length xc] X fun e W' =>
                    ∃ b c' M', e = .returned (.tuple #[.agg #[.int .i64 T.site, .int .i64 T.seq, .int .i64 T.wall, .int .i64 T.count, .int .i64 T.d0, .int .i64 T.d1, .int .i64 T.d2, .int .i64 T.d3, .slice (some ⟨b, 0, none⟩) T.ws.length c'], .nilIface]) ∧ TookC k w X M3 all (all.map (·.t)) T (.slice Aa all.length ca) bx W' M' b) := hidp (fun X hX => by
                  rw [← HXE.out]
                  exact (HT3.out.below hX).commit' hpl (by omega) (by rw [List.length_map]; omega) (now : Int) (HWS3.out.below hX) (by have := HXL.out; omega) hT hce)
                clear hT hce
                go_wp2_with fail
                go_at_call 32
                refine (HPC.out _).mono ?_
                rintro e Wp ⟨rfl, rfl⟩
                go_upto_region 18 with fail
                go_cut [14, 15] (fun s14 s15 W5 => ∃ (q b5 c5 : Nat) (M5 : Nat → SiM), s14 = .pointer (some ⟨q, 0, none⟩) ∧ s15 = .nilIface ∧ Boxed k w all (all.map (·.t)) T (.slice Aa all.length ca) bx W5 M5 b5 c5 q)
                case first =>
                  go_region_held3 (fun X : World => X.cell? ⟨b, o + j * 4 + 1, none⟩ = some (.int .i64 xnow) ∧ X.cell? ⟨b, o + j * 4 + 3, none⟩ = some (.slice xA xws.length xc)) ((repeat' apply And.intro) <;> simp [go_sem, *])
                    (first
                      | (go_at_call 32
                         refine (HPN.out _).mono ?_
                         rintro e Wn ⟨rfl, rfl⟩)
                      | (go_at_call 49
                         refine (HAP.out _ (by repeat (first | exact Below.refl _ _ | refine blw_alloc ?_ | refine blw_plus ?_ | refine Below.drew ?_))).mono ?_
                         rintro e wc ⟨rfl, hbc⟩
                         obtain ⟨x9, rfl⟩ := wplus_of_below hbc
                         clear hbc)
                      | (go_at_call 76
                         refine (HCM.out _ (by repeat (first | exact Below.refl _ _ | refine blw_alloc ?_ | refine blw_plus ?_ | refine Below.drew ?_))).mono ?_
                         rintro e W5 ⟨b5, c5, M5, rfl, h5⟩
                         obtain ⟨_, _, f1, _, f3, _⟩ := HXC.out W5 h5.tl.low
                         have HK5 := hidp h5
                         (first
                           | have hz5 := h5.zero W3.heap.size (HT3.out.spare (by first | exact Nat.le_refl _ | (simp; done) | (simp; omega))) (blk_new rfl _)
                           | have hz5 := h5.zero W3.heap.size (HT3.out.spare (by first | exact Nat.le_refl _ | (simp; done) | (simp; omega))) (by rw [wplus_heap_lt _ _ _ (by simp)]; exact blk_new rfl _)
                           | have hz5 := h5.zero (W3.heap.size + x9.blocks.size) (HT3.out.spare (by first | exact Nat.le_refl _ | (simp; done) | (simp; omega))) (blk_new (by simp) _)
                           | have hz5 := True.intro)
                         (first
                           | (have y0 := cell_blk hz5 0; have y1 := cell_blk hz5 1; have y2 := cell_blk hz5 2; have y3 := cell_blk hz5 3; have y4 := cell_blk hz5 4; have y5 := cell_blk hz5 5; have y6 := cell_blk hz5 6; have y7 := cell_blk hz5 7; have y8 := cell_blk hz5 8
                              have v0 := frozen_blk hz5 0; have v1 := frozen_blk hz5 1; have v2 := frozen_blk hz5 2; have v3 := frozen_blk hz5 3; have v4 := frozen_blk hz5 4; have v5 := frozen_blk hz5 5; have v6 := frozen_blk hz5 6; have v7 := frozen_blk hz5 7; have v8 := frozen_blk hz5 8
                              simp only [List.getElem?_toArray, List.getElem?_cons_zero, List.getElem?_cons_succ] at y0 y1 y2 y3 y4 y5 y6 y7 y8
                              haveI hsz5 : SzGe (W3.heap.size + 1) W5 := ⟨by have := lt_blk hz5; omega⟩)
                           | skip)
                         clear h5 hz5))
                  all_goals
                    go_wp2_with fail
                    go_meet
                    first
                      | (with_reducible exact ⟨_, b5, c5, M5, rfl, rfl, HK5.out.after⟩)
                      | exact ⟨_, b5, c5, M5, rfl, rfl, HK5.out.before (HT3.out.spare (by first | exact Nat.le_refl _ | (simp; done) | (simp; omega))) (by first | exact blk_new rfl _ | exact blk_new (by simp) _ | (rw [wplus_heap_lt _ _ _ (by simp)]; exact blk_new rfl _)) (by have := HLB.out; first | exact this | (simp; omega))⟩
                case rest =>
                  obtain ⟨q5, b5, c5, M5, rfl, rfl, hbx5⟩ := hcut
                  have HBX := hidp hbx5
                  clear hbx5 d0 d1 d2 d3 HCM HAP HPN
                  have e0 := cell_blk HBX.out.blk 0; have e1 := cell_blk HBX.out.blk 1; have e2 := cell_blk HBX.out.blk 2; have e3 := cell_blk HBX.out.blk 3; have e4 := cell_blk HBX.out.blk 4; have e5 := cell_blk HBX.out.blk 5; have e6 := cell_blk HBX.out.blk 6; have e7 := cell_blk HBX.out.blk 7; have e8 := cell_blk HBX.out.blk 8
                  simp only [List.getElem?_toArray, List.getElem?_cons_zero, List.getElem?_cons_succ] at e0 e1 e2 e3 e4 e5 e6 e7 e8
                  obtain ⟨W5, rfl⟩ : ∃ W5 : World, W5 = wc := ⟨_, rfl⟩
                  haveI : SzGe (q5 + 1) W5 := ⟨lt_blk HBX.out.blk⟩
                  have HOC := hidp HBX.out.tl.rows.row
                  have hlow5 := HBX.out.tl.low.size
                  go_wp2_with (at_builtin; go_must (refine wpList_append_lies _ rfl _ _ 98 rfl w.heap.size 40 i0 txZero 9 88 Tryd.underlying98 hi0 hz0 hz1 hz2 rfl (by decide) (.slice Aa all.length ca) all.length (all.flatMap MTx.cells) rfl (HOC.out.alloc _) ⟨W5.heap.size, 0, none⟩ 1 1 [.int .i64 T.site, .int .i64 T.seq, .int .i64 T.wall, .int .i64 T.count, .int .i64 T.d0, .int .i64 T.d1, .int .i64 T.d2, .int .i64 T.d3, .slice (some ⟨b5, 0, none⟩) T.ws.length c5] rfl rfl (World.news_of_block (cs := #[.int .i64 T.site, .int .i64 T.seq, .int .i64 T.wall, .int .i64 T.count, .int .i64 T.d0, .int .i64 T.d1, .int .i64 T.d2, .int .i64 T.d3, .slice (some ⟨b5, 0, none⟩) T.ws.length c5]) (blk_new rfl _)) ?c1 (by decide) ?c2 ?c3 ?c4 _ rfl ?_))
                  case c1 => first | exact ⟨rfl, rfl, rfl, rfl, rfl, rfl, rfl, rfl, rfl⟩ | (intro u hu; simp at hu; rcases hu with rfl | rfl | rfl | rfl | rfl | rfl | rfl | rfl | rfl <;> rfl)
                  case c2 => refine Nat.le_trans ?_ maxLen_ge; omega
                  case c3 => omega
                  case c4 => first | omega | (simp; omega)
                  intro gq cap1 w1 hown1 hgrow hgl hlt1
                  have HN1 : Hid (TL k w w1 M5 (all ++ [(⟨T, some ⟨b5, 0, none⟩, c5⟩ : MTx)]) ((all ++ [(⟨T, some ⟨b5, 0, none⟩, c5⟩ : MTx)]).map (·.t)) (.slice (some ⟨gq, 0, none⟩) (all ++ [(⟨T, some ⟨b5, 0, none⟩, c5⟩ : MTx)]).length cap1) bx) := hidp (by
                    have el : (all ++ [(⟨T, some ⟨b5, 0, none⟩, c5⟩ : MTx)]).length = all.length + 1 := by simp
                    have em : (all ++ [(⟨T, some ⟨b5, 0, none⟩, c5⟩ : MTx)]).map (·.t) = all.map (·.t) ++ [T] := by simp
                    rw [em, el]
                    refine HBX.out.tl.append (m := (⟨T, some ⟨b5, 0, none⟩, c5⟩ : MTx)) (grown_alloc hgrow) ?_ ?_ ⟨HBX.out.ws, ?_⟩ (by simp)
                    · rw [el, List.flatMap_append]; exact hown1
                    · rcases hgl with e | e
                      · exact .inl (by rw [e]; rfl)
                      · exact .inr (by intro b hb; simp [Value.ownBlock] at hb; subst hb; rw [e]; simp)
                    · intro b' o' e
                      obtain ⟨rfl, _⟩ : b5 = b' ∧ 0 = o' := by simpa using e
                      exact ⟨HBX.out.lt, HBX.out.off, HBX.out.row⟩)
                  clear hown1 hgrow hgl hlt1 e0 e1 e2 e3 e4 e5 e6 e7 e8
                  go_wp2_with fail
                  go_roundw
                  case rel => exact ⟨j + 1, M5, all ++ [(⟨T, some ⟨b5, 0, none⟩, c5⟩ : MTx)], some ⟨gq, 0, none⟩, cap1, by omega, by go_num, by simp, by simp; omega, HN1.out⟩
                  case measure => simp [intOf]; omega
              · obtain ⟨ce, hCE⟩ : ∃ ce, commitE (M3 p).s (now : Int) (M3 p).s.p0 (M3 p).s.p1 (M3 p).s.p2 (M3 p).s.p3 xws = ce := ⟨_, rfl⟩
                rw [hCE] at hce
                have HCM : Hid (∀ X, Below W3.heap.size W3 X → Calls Tryd.prog 76 #[.pointer (some ⟨(M2 p).x, 0, none⟩), .int .i64 (now : Int), .agg #[.int .i64 (M3 p).s.p0, .int .i64 (M3 p).s.p1, .int .i64 (M3 p).s.p2, .int .i64 (M3 p).s.p3], .slice xA xws.length xc] X fun e W' =>
                    e = .returned (.tuple #[.agg #[.int .i64 0, .int .i64 0, .int .i64 0, .int .i64 0, .int .i64 0, .int .i64 0, .int .i64 0, .int .i64 0, .slice none 0 0], .iface 24 (.int .i64 ce)]) ∧ Below X.heap.size X W') := hidp (fun X hX => by
                  rw [← HXE.out]
                  refine ((HT3.out.below hX).commit (c := xc) hpl (by omega) (by rw [List.length_map]; omega) (now : Int) (HWS3.out.below hX) (by have := HXL.out; omega)).mono ?_
                  rintro e W' ⟨h1, _⟩
                  have h2 := h1 (by rw [hCE]; exact hce)
                  rw [hCE] at h2
                  unfold errV at h2
                  rw [if_neg hce] at h2
                  exact h2)
                clear hCE hce
                go_wp2_with fail
                go_at_call 32
                refine (HPC.out _).mono ?_
                rintro e Wp ⟨rfl, rfl⟩
                go_upto_region 18 with fail
                go_cut [14, 15] (fun s14 s15 W5 => ∃ (q : Nat), s14 = .pointer (some ⟨q, 0, none⟩) ∧ s15 = .iface 24 (.int .i64 ce) ∧ TL k w W5 M3 all (all.map (·.t)) (.slice Aa all.length ca) bx)
                case first =>
                  go_region_held3 (fun X : World => X.cell? ⟨b, o + j * 4 + 1, none⟩ = some (.int .i64 xnow) ∧ X.cell? ⟨b, o + j * 4 + 3, none⟩ = some (.slice xA xws.length xc)) ((repeat' apply And.intro) <;> simp [go_sem, *])
                    (first
                      | (go_at_call 32
                         refine (HPN.out _).mono ?_
                         rintro e Wn ⟨rfl, rfl⟩)
                      | (go_at_call 49
                         refine (HAP.out _ (by repeat (first | exact Below.refl _ _ | refine blw_alloc ?_ | refine blw_plus ?_ | refine Below.drew ?_))).mono ?_
                         rintro e wc ⟨rfl, hbc⟩
                         obtain ⟨x9, rfl⟩ := wplus_of_below hbc
                         clear hbc)
                      | (go_at_call 76
                         refine (HCM.out _ (by repeat (first | exact Below.refl _ _ | refine blw_alloc ?_ | refine blw_plus ?_ | refine Below.drew ?_))).mono ?_
                         rintro e W5 ⟨rfl, hbc⟩
                         obtain ⟨x8, rfl⟩ := wplus_of_below hbc
                         clear hbc))
                  all_goals
                    go_wp2_with fail
                    go_meet
                    first
                      | (refine ⟨_, rfl, rfl, HT3.out.below ?_⟩
                         with_reducible (repeat (first | exact Below.refl _ _ | refine blw_alloc ?_ | refine blw_plus ?_ | refine Below.drew ?_))
                         done)
                      | exact ⟨_, rfl, rfl, TL.set (HT3.out.below (by repeat (first | exact Below.refl _ _ | refine blw_alloc ?_ | refine blw_plus ?_ | refine Below.drew ?_))) (HT3.out.spare (by first | exact Nat.le_refl _ | (simp; done) | (simp; omega))) (put9_grown _ _ _ _ _ _ _ _ _ _ _) (by have := HLB.out; first | exact this | (simp; omega))⟩
                case rest =>
                  obtain ⟨q5, rfl, rfl, hbx5⟩ := hcut
                  have HBX := hidp hbx5
                  clear hbx5 d0 d1 d2 d3 HCM HAP HPN
                  go_wp2_with fail
                  go_roundw
                  case rel => exact ⟨j + 1, M3, all, Aa, ca, by omega, by go_num, rfl, by omega, HBX.out⟩
                  case measure => simp [intOf]; omega
        · obtain rfl : j = ls.length := by omega
          have hjd : decide ((ls.length : Int) < (ls.length : Int)) = false := decide_eq_false (by omega)
          go_wp2_with fail
          refine bodyPost_ret (v := .tuple #[.slice Aa all.length ca, .bool true]) (by simp [results, Tryd.results46, go_sem]) rfl ⟨Aa, ca, all, rfl, by omega, HT.out.told.good, fun m hm => HT.out.told.st m.t (List.mem_map_of_mem hm), own_xs HT.out.rows.row, fun m hm => (HT.out.rows.dat m hm).1, HT.out.low⟩
end Go.Proofs.YtbopfhbeegkkaaaDoor

namespace Go.Proofs.YtbopfhbeegkkaaaDoor
open Go.RowKit

set_option maxRecDepth 20000 in
set_option maxHeartbeats 16000000 in
theorem placed_any (w : World) : Calls Tryd.prog 45 #[] w fun e w' => e = .returned (.bool true) ∧ Below w.heap.size w w' := by
  go_enter Tryd.func45, Tryd.ntmps45
  go_wp2_with fail
  go_at_call 47
  refine (new_any 0 w ⟨by omega, by omega⟩).mono ?_
  rintro e w1 ⟨rfl, hat, hb⟩
  have HS1 := hidp ((Sites.zero w w.heap.size (fun _ => ⟨0, 0, siNew 0, .slice none 0 0, fun _ => .slice none 0 0⟩)).new (Nat.le_refl _) hb hat)
  have HB1 := hidp hb
  clear hat hb
  go_wp2_with fail
  go_at_call 47
  refine (new_any 1 w1 ⟨by omega, by omega⟩).mono ?_
  rintro e w2 ⟨rfl, hat, hb⟩
  have HS2 := hidp (HS1.out.new HB1.out.size hb hat)
  have HB2 := hidp (HB1.out.trans (hb.mono HB1.out.size))
  have hm : ∃ M : Nat → SiM, Sites w2 w.heap.size 2 M ∧ (M 0).x = w.heap.size + 1 ∧ (M 1).x = w1.heap.size + 1 ∧ ∀ i, i < 2 → (M i).s = siNew (i : Int) := ⟨_, HS2.out, rfl, rfl, fun i hi => by
    have hc : i = 0 ∨ i = 1 := by omega
    rcases hc with rfl | rfl <;> rfl⟩
  clear hat hb HS1 HS2 HB1
  obtain ⟨M, hs, hx0, hx1, hsn⟩ := hm
  generalize w.heap.size + 1 = a0 at *
  generalize w1.heap.size + 1 = a1 at *
  subst hx0 hx1
  have HS := hidp hs
  have HT : Hid (Told [] 2 (fun i => (M i).s)) := hidp (by
    have := Told.fresh 2 (by omega)
    exact ⟨this.good, fun i hi => by show SInv [] (M i).s ∧ _; rw [hsn i hi]; exact this.si i hi, this.st⟩)
  have h0 : (M 0).s = siNew 0 := hsn 0 (by omega)
  have h1 : (M 1).s = siNew 1 := hsn 1 (by omega)
  have HH0 := hidp h0
  have HH1 := hidp h1
  have HI0 : Hid (Inv (siNew 0)) := hidp (by have := (HT.out.si 0 (by omega)).1.inv; rw [← h0]; exact this)
  have HI1 : Hid (Inv (siNew 1)) := hidp (by have := (HT.out.si 1 (by omega)).1.inv; rw [← h1]; exact this)
  have HCM : Hid (∀ W, Sites W w.heap.size 2 M → ∀ A c, WsAt W A wsP → Calls Tryd.prog 76 #[.pointer (some ⟨(M 0).x, 0, none⟩), .int .i64 7, .agg #[.int .i64 0, .int .i64 0, .int .i64 0, .int .i64 0], .slice A 1 c] W fun e W' =>
      ∃ b c' A2 c2 m', e = .returned (.tuple #[.agg #[.int .i64 0, .int .i64 1, .int .i64 7, .int .i64 0, .int .i64 0, .int .i64 0, .int .i64 0, .int .i64 0, .slice (some ⟨b, 0, none⟩) 1 c'], .nilIface]) ∧ m'.s = applyP (siNew 0) ⟨⟨0, 1, 7, 0, 0, 0, 0, 0, wsP⟩, A2, c2⟩ ∧
        Sites W' w.heap.size 2 (mUpd M 0 m') ∧ SiFr W W' (M 0).own m'.own ∧ WsAt W' (some ⟨b, 0, none⟩) wsP) := hidp (fun W hS A c hws => by
    have := sites_commit (c := c) hS (i := 0) (by omega) (by rw [h0]; exact HI0.out) 7 0 0 0 0 hws (by decide)
    refine this.mono ?_
    rintro e W' ⟨_, h⟩
    rw [h0, placed_e, placed_t] at h
    obtain ⟨A', c', A2, c2, m', e1, e2, e3, e4, e5, e6, e7, b, rfl, e8, e9⟩ := h rfl
    exact ⟨b, c', A2, c2, m', e1, e2, e4, e5, e7⟩)
  have HB0 := hidp HB2.out.size
  clear hs hsn h0 h1
  go_wp2_with fail
  go_at_call 76
  refine (HCM.out _ (HS.out.below (by repeat (first | exact Below.refl _ _ | refine blw_alloc ?_ | refine blw_plus ?_ | refine Below.drew ?_))) _ _ ?_).mono ?_
  · intro i x hx
    have hi : i = 0 := by
      have := (List.getElem?_eq_some_iff.1 hx).1
      have e : wsP.length = 1 := rfl
      omega
    subst hi
    obtain rfl : (⟨1, ⟨#[120]⟩, false⟩ : WrP) = x := by simpa [wsP] using hx
    have hb := blk_new (W := w2) rfl (.cells #[.int .i64 1, .string ⟨#[120]⟩, .bool false] 115)
    exact ⟨w2.heap.size, 0, rfl, lt_blk hb, cell_blk hb 0, cell_blk hb 1, cell_blk hb 2⟩
  rintro e w3 ⟨b3, c3, A2, c2, m3, rfl, hm3, hs3, fr3, hw3⟩
  have HS3 := hidp hs3
  have HW3 := hidp hw3
  have HB3 : Hid (Below w.heap.size w w3) := hidp ((HB2.out.trans (Below.mono (B := w2.heap.size) (by repeat (first | exact Below.refl _ _ | refine blw_alloc ?_ | refine blw_plus ?_ | refine Below.drew ?_)) HB0.out)).trans (fr3.low (fun b hb => (SiM.lt ((HS.out.below (by repeat (first | exact Below.refl _ _ | refine blw_alloc ?_ | refine blw_plus ?_ | refine Below.drew ?_))).here 0 (by omega)) hb).1) (by simp; have := HB0.out; omega)))
  have HT3 : Hid (Told [(⟨0, 1, 7, 0, 0, 0, 0, 0, wsP⟩ : TxP)] 2 (fun k => (mUpd M 0 m3 k).s)) := hidp (by
    have := HT.out.commit (by simp) (i := 0) (by omega) (by omega) (now := 7) (ws := wsP) (by show commitE (M 0).s 7 _ _ _ _ wsP = 0; rw [HH0.out]; exact placed_e) A2 c2
    rw [mUpd_s, hm3]
    simp only [HH0.out] at this
    exact this)
  have HM1 : Hid ((mUpd M 0 m3 1).s = siNew 1 ∧ (mUpd M 0 m3 1).x = (M 1).x) := hidp ⟨HH1.out, rfl⟩
  have HTK : Hid (∀ W, Sites W w.heap.size 2 (mUpd M 0 m3) → ∀ A c, WsAt W A wsP → Calls Tryd.prog 48 #[.pointer (some ⟨(M 1).x, 0, none⟩), .agg #[.int .i64 0, .int .i64 1, .int .i64 7, .int .i64 0, .int .i64 0, .int .i64 0, .int .i64 0, .int .i64 0, .slice A 1 c]] W fun e W' =>
      ∃ A' c' m', e = .returned .nilIface ∧ m'.s = runP ((siNew 1).wn + 1) ((siNew 1).wait ⟨⟨0, 1, 7, 0, 0, 0, 0, 0, wsP⟩, A', c'⟩) ∧ m'.x = (M 1).x ∧ Sites W' w.heap.size 2 (mUpd (mUpd M 0 m3) 1 m') ∧ Below w.heap.size W W') := hidp (fun W hS A c hws => by
    have hsW : w.heap.size ≤ W.heap.size := by have := (SiM.lt (hS.here 0 (by omega)) (.inl rfl)); omega
    have := sites_take (t := ⟨0, 1, 7, 0, 0, 0, 0, 0, wsP⟩) (c := c) hS (i := 1) (by omega) (by rw [HM1.out.1]; exact HI1.out) (by rw [HM1.out.1]; decide) hws (by decide) (by unfold wf64; decide) (by unfold wf64; decide)
    rw [HM1.out.2] at this
    refine this.mono ?_
    rintro e W' ⟨h1, _, h3⟩
    rw [HM1.out.1, placed_k] at h1 h3
    obtain ⟨A', c', m', e1, e2, e3, e4, e5⟩ := h3 rfl
    exact ⟨A', c', m', h1, e1, e2.trans HM1.out.2, e3, e4.low (fun b hb => (SiM.lt (hS.here 1 (by omega)) hb).1) hsW⟩)
  clear hs3 hw3 fr3 hm3 HCM HS HB2
  go_wp2_with fail
  go_at_call 48
  refine (HTK.out _ (HS3.out.below (by repeat (first | exact Below.refl _ _ | refine blw_alloc ?_ | refine blw_plus ?_ | refine Below.drew ?_))) _ _ (HW3.out.below (by repeat (first | exact Below.refl _ _ | refine blw_alloc ?_ | refine blw_plus ?_ | refine Below.drew ?_)))).mono ?_
  rintro e w4 ⟨A4, c4, m4, rfl, hm4, hx4, hs4, hb4⟩
  have HS4 := hidp hs4
  have HB4 : Hid (Below w.heap.size w w4) := hidp ((HB3.out.trans (Below.mono (B := w3.heap.size) (by repeat (first | exact Below.refl _ _ | refine blw_alloc ?_ | refine blw_plus ?_ | refine Below.drew ?_)) HB3.out.size)).trans hb4)
  have HI4 : Hid (Inv m4.s) := hidp (by
    have := (HT3.out.take (by simp) (i := 1) (by omega) (by omega) (t := ⟨0, 1, 7, 0, 0, 0, 0, 0, wsP⟩) (by simp) (by show takeE (mUpd M 0 m3 1).s _ = 0; rw [HM1.out.1]; exact placed_k) A4 c4).si 1 (by omega)
    have h2 := this.1.inv
    unfold sUpd at h2
    rw [if_pos rfl] at h2
    simp only [HM1.out.1] at h2
    rw [hm4]; exact h2)
  have HRD : Hid (∀ W, Below w4.heap.size w4 W → Calls Tryd.prog 77 #[.pointer (some ⟨(M 1).x, 0, none⟩), .int .i64 1, .agg #[.int .i64 1, .int .i64 0, .int .i64 0, .int .i64 0]] W fun e w' => e = .returned (.tuple #[.agg #[.int .i64 7, .int .i64 0, .int .i64 0, .int .i64 1, .string ⟨#[120]⟩, .bool false], .nilIface]) ∧ Below W.heap.size W w') := hidp (fun W hW => by
    have h5 := siteRead_any w.heap.size m4.x m4.mb m4.s m4.lv m4.sv 1 1 0 0 0 W (SiAt.below (HS4.out.here 1 (by omega)) hW) (HI4.out.fit.mono (by have := HI4.out.log; omega))
    rw [hx4, hm4, placed_r] at h5
    exact h5)
  have HAP : Hid (∀ W, Below w4.heap.size w4 W → Calls Tryd.prog 49 #[.pointer (some ⟨(M 1).x, 0, none⟩)] W fun e w' => e = .returned (.agg #[.int .i64 1, .int .i64 0, .int .i64 0, .int .i64 0]) ∧ Below W.heap.size W w') := hidp (fun W hW => by
    have h5 := applied_any w.heap.size m4.x m4.mb m4.s m4.lv m4.sv W (SiAt.below (HS4.out.here 1 (by omega)) hW)
    obtain ⟨q0, q1, q2, q3⟩ := placed_v A4 c4
    rw [hx4, hm4, q0, q1, q2, q3] at h5
    exact h5)
  have HZ4 := hidp HB4.out.size
  clear hs4 hb4 hm4 hx4 HTK HS3 HW3 HB3 HT3 HM1
  go_wp2_with fail
  go_at_call 77
  refine (HRD.out _ (by repeat (first | exact Below.refl _ _ | refine blw_alloc ?_ | refine blw_plus ?_ | refine Below.drew ?_))).mono ?_
  rintro e w5 ⟨rfl, hb⟩
  obtain ⟨x5, rfl⟩ := wplus_of_below hb
  clear hb
  go_wp2_with fail
  go_at_call 49
  refine (HAP.out _ (by repeat (first | exact Below.refl _ _ | refine blw_alloc ?_ | refine blw_plus ?_ | refine Below.drew ?_))).mono ?_
  rintro e w6 ⟨rfl, hb⟩
  obtain ⟨x6, rfl⟩ := wplus_of_below hb
  clear hb
  go_wp2_with fail
  go_ret
  exact ⟨rfl, HB4.out.trans (Below.mono (B := w4.heap.size) (by repeat (first | exact Below.refl _ _ | refine blw_alloc ?_ | refine blw_plus ?_ | refine Below.drew ?_)) HZ4.out)⟩
end Go.Proofs.YtbopfhbeegkkaaaDoor

namespace Go.Proofs.YtbopfhbeegkkaaaDoor
open Go.RowKit

theorem mcells_one (L : List MTx) : ∀ u ∈ L.flatMap MTx.cells, u.oneCell' = true := by
  intro u hu
  obtain ⟨m, _, hm⟩ := List.mem_flatMap.1 hu
  simp [MTx.cells] at hm
  rcases hm with rfl | rfl | rfl | rfl | rfl | rfl | rfl | rfl | rfl <;> rfl
theorem XsAt.flat {w : World} {A : Option Addr} {L : List MTx} (h : XsAt w A L) (hL : 0 < L.length) : ∃ b o, A = some ⟨b, o, none⟩ ∧ b < w.heap.size ∧ ∀ (j : Nat) (u : Value), (L.flatMap MTx.cells)[j]? = some u → w.cell? ⟨b, o + j, none⟩ = some u := by
  obtain ⟨b, o, hA, hb, _⟩ := h 0 L[0] (List.getElem?_eq_getElem hL)
  refine ⟨b, o, hA, hb, fun j u hu => ?_⟩
  have hj : j < L.length * 9 := by
    have := (List.getElem?_eq_some_iff.1 hu).1
    rwa [mcells_len] at this
  have hi : j / 9 < L.length := by omega
  obtain ⟨b', o', hA', _, h0, h1, h2, h3, h4, h5, h6, h7, h8⟩ := h (j / 9) L[j / 9] (List.getElem?_eq_getElem hi)
  rw [hA] at hA'
  simp only [Option.some.injEq, Addr.mk.injEq] at hA'
  obtain ⟨rfl, rfl, _⟩ := hA'
  have hm : L[j / 9]? = some L[j / 9] := List.getElem?_eq_getElem hi
  have key : ∀ r v, (L[j / 9]).cells[r]? = some v → j % 9 = r → w.cell? ⟨b, o + j / 9 * 9 + r, none⟩ = some v → w.cell? ⟨b, o + j, none⟩ = some u := by
    intro r v hv hr hc
    have h9 := mcells_at L (j / 9) _ hm r v hv
    have e : j / 9 * 9 + r = j := by omega
    rw [e, hu] at h9
    have e2 : o + j / 9 * 9 + r = o + j := by omega
    rw [e2] at hc
    rw [hc]; exact h9.symm
  have hr : j % 9 = 0 ∨ j % 9 = 1 ∨ j % 9 = 2 ∨ j % 9 = 3 ∨ j % 9 = 4 ∨ j % 9 = 5 ∨ j % 9 = 6 ∨ j % 9 = 7 ∨ j % 9 = 8 := by omega
  rcases hr with hr | hr | hr | hr | hr | hr | hr | hr | hr
  · exact key 0 _ rfl hr h0
  · exact key 1 _ rfl hr h1
  · exact key 2 _ rfl hr h2
  · exact key 3 _ rfl hr h3
  · exact key 4 _ rfl hr h4
  · exact key 5 _ rfl hr h5
  · exact key 6 _ rfl hr h6
  · exact key 7 _ rfl hr h7
  · exact key 8 _ rfl hr h8
theorem run_append_xs (w : World) (ty : TypeId) (base : Nat) (v : Value) (n : Nat) (xs : List Value) (hown : w.ownsRow base 40 9 v n xs) (A : Option Addr) (c : Nat) (L : List MTx) (hx : XsAt w A L) (hn : n + L.length ≤ 1000) (hbase : base ≤ w.heap.size) :
    ∃ v' w', (Builtin.append_ #[98, 98] ty #[v, .slice A L.length c]).run Tryd.prog w = .ok v' w' ∧ w'.ownsRow base 40 9 v' (n + L.length) (xs ++ L.flatMap MTx.cells) ∧ w.grownBy w' v.ownBlock ∧ (v'.ownBlock = v.ownBlock ∨ v'.ownBlock = some w.heap.size) := by
  obtain ⟨i0, hi0, hz0, hz1, hz2⟩ := info40
  have h63 : n + L.length ≤ maxLen := Nat.le_trans hn (Nat.le_trans (by decide) maxLen_ge)
  rcases A with _ | ad
  · have hL : L = [] := by
      rcases Nat.eq_zero_or_pos L.length with h | h
      · exact List.eq_nil_of_length_eq_zero h
      · obtain ⟨b, o, e, _⟩ := hx.flat h; cases e
    subst hL
    refine ⟨v, w, ?_, by simpa using hown, World.grownBy.refl w _, .inl rfl⟩
    rcases hown.2 with ⟨rfl, rfl⟩ | ⟨g, cap, cur, rfl, _, _, hnc, _⟩
    · simp [Builtin.append_, run_underlying Tryd.underlying98, sizeOf, typeInfo, hi0, Builtin.lenOf, Builtin.firstCells]
    · simp [Builtin.append_, run_underlying Tryd.underlying98, sizeOf, typeInfo, hi0, Builtin.lenOf, Builtin.firstCells, hnc, storeCells]
  · have hc : ∀ j u, (L.flatMap MTx.cells)[j]? = some u → w.cell? (ad.add j) = some u := by
      intro j u hu
      rcases Nat.eq_zero_or_pos L.length with h | h
      · rw [List.eq_nil_of_length_eq_zero h] at hu; simp at hu
      · obtain ⟨b, o, e, _, hc⟩ := hx.flat h
        obtain rfl : ad = ⟨b, o, none⟩ := by simpa using e
        have e2 : (⟨b, o, none⟩ : Addr).add j = ⟨b, o + j, none⟩ := by unfold Addr.add; split <;> simp_all
        rw [e2]; exact hc j u hu
    obtain ⟨v', w', hrun, h2, h3, _, h5⟩ := run_append_own_at (P := Tryd.prog) w base 98 ty 40 i0 txZero 9 88 Tryd.underlying98 hi0 hz0 hz1 hz2 rfl (by decide) v n xs hown ad L.length c _ (mcells_len L) hc (mcells_one L) h63 (by omega) hbase
    exact ⟨v', w', hrun, h2, h3, h5⟩
theorem wp_append_xs (w : World) {o : Oper} {a : Act} {K : Act → World → Prop} {Q : Exit → Act → World → Prop} (s x : Operand)
    (ho : o.op = .call { callee := .builtin .append, args := #[s, x], argTypes := #[98, 98] }) (base : Nat) (v : Value) (n : Nat) (L0 : List MTx) (hs : a.eval s = v) (hown : w.ownsRow base 40 9 v n (L0.flatMap MTx.cells)) (A : Option Addr) (c : Nat) (L : List MTx) (hx : a.eval x = .slice A L.length c)
    (hxs : XsAt w A L) (hn : n + L.length ≤ 1000) (hbase : base ≤ w.heap.size) (hn0 : n = L0.length)
    (h : ∀ A' c' w', w'.ownsRow base 40 9 (.slice A' (L0 ++ L).length c') (L0 ++ L).length ((L0 ++ L).flatMap MTx.cells) → w.grownBy w' v.ownBlock → ((Value.slice A' (L0 ++ L).length c').ownBlock = v.ownBlock ∨ (Value.slice A' (L0 ++ L).length c').ownBlock = some w.heap.size) → K (a.put o.dst (.slice A' (L0 ++ L).length c')) w') :
    Oper.wp Tryd.prog o a w K Q := by
  obtain ⟨v', w', hrun, h2, h3, h4⟩ := run_append_xs w o.type base v n (L0.flatMap MTx.cells) hown A c L hxs hn hbase
  have e : n + L.length = (L0 ++ L).length := by rw [hn0, List.length_append]
  rw [e, ← List.flatMap_append] at h2
  obtain ⟨A', c', rfl⟩ := own_form h2
  unfold Oper.wp execOp
  simp only [ho, resolve, invoke, builtin, Sem.run_bind, Sem.run_pure, Result.andThen_ok, List.map_toArray, List.map_cons, List.map_nil, hs, hx, hrun]
  exact h A' c' w' h2 h3 h4
theorem wpList_append_xs (w : World) {ops : Array Oper} {rest : List Oper} {o : Oper} {a : Act} {Q : Exit → Act → World → Prop} (hgd : o.guard = none) (s x : Operand)
    (ho : o.op = .call { callee := .builtin .append, args := #[s, x], argTypes := #[98, 98] }) (base : Nat) (v : Value) (n : Nat) (L0 : List MTx) (hs : a.eval s = v) (hown : w.ownsRow base 40 9 v n (L0.flatMap MTx.cells)) (A : Option Addr) (c : Nat) (L : List MTx) (hx : a.eval x = .slice A L.length c)
    (hxs : XsAt w A L) (hn : n + L.length ≤ 1000) (hbase : base ≤ w.heap.size) (hn0 : n = L0.length)
    (h : ∀ A' c' w', w'.ownsRow base 40 9 (.slice A' (L0 ++ L).length c') (L0 ++ L).length ((L0 ++ L).flatMap MTx.cells) → w.grownBy w' v.ownBlock → ((Value.slice A' (L0 ++ L).length c').ownBlock = v.ownBlock ∨ (Value.slice A' (L0 ++ L).length c').ownBlock = some w.heap.size) → wpList Tryd.prog ops Q rest (a.put o.dst (.slice A' (L0 ++ L).length c')) w') :
    wpList Tryd.prog ops Q (o :: rest) a w :=
  wpList_plain hgd fun _ hK => wp_append_xs w s x ho base v n L0 hs hown A c L hx hxs hn hbase hn0 fun A' c' w' h2 h3 h4 => hK _ _ (h A' c' w' h2 h3 h4)
theorem step_append_xs (w : World) {ops : Array Oper} {o : Oper} {a : Act} {K : Act → World → Prop} {Q : Exit → Act → World → Prop} {E : Prop} (hgd : o.guard = none) (s x : Operand)
    (ho : o.op = .call { callee := .builtin .append, args := #[s, x], argTypes := #[98, 98] }) (base : Nat) (v : Value) (n : Nat) (L0 : List MTx) (hs : a.eval s = v) (hown : w.ownsRow base 40 9 v n (L0.flatMap MTx.cells)) (A : Option Addr) (c : Nat) (L : List MTx) (hx : a.eval x = .slice A L.length c)
    (hxs : XsAt w A L) (hn : n + L.length ≤ 1000) (hbase : base ≤ w.heap.size) (hn0 : n = L0.length)
    (h : ∀ A' c' w', w'.ownsRow base 40 9 (.slice A' (L0 ++ L).length c') (L0 ++ L).length ((L0 ++ L).flatMap MTx.cells) → w.grownBy w' v.ownBlock → ((Value.slice A' (L0 ++ L).length c').ownBlock = v.ownBlock ∨ (Value.slice A' (L0 ++ L).length c').ownBlock = some w.heap.size) → K (a.put o.dst (.slice A' (L0 ++ L).length c')) w') :
    if Region.wanted o (yielded ops a.tmps) = true then Oper.wp Tryd.prog o a w K Q else E := by
  have hw : Region.wanted o (yielded ops a.tmps) = true := by simp [Region.wanted, hgd]
  rw [if_pos hw]
  exact wp_append_xs w s x ho base v n L0 hs hown A c L hx hxs hn hbase hn0 h
theorem own_empty (w : World) (t : TypeId) (z : Nat) : (w.alloc (.cells #[] t)).ownsRow w.heap.size t z (.slice (some ⟨w.heap.size, 0, none⟩) 0 0) 0 [] :=
  ⟨by simp, .inr ⟨w.heap.size, 0, #[], rfl, Nat.le_refl _, blk_new rfl _, Nat.le_refl _, Nat.zero_le _, by simp, by simp⟩⟩
theorem own_cap {w : World} {B e s n c : Nat} {A : Option Addr} {xs : List Value} (h : w.ownsRow B e s (.slice A n c) n xs) : n ≤ c := by
  obtain ⟨_, hh | ⟨g, cap, cur, hv, _, _, hn, _⟩⟩ := h
  · simp at hh; omega
  · simp at hv; omega
/-- part of a row -/
theorem XsAt.take {w : World} {A : Option Addr} {L : List MTx} (h : XsAt w A L) (k : Nat) : XsAt w A (L.take k) := fun i m hm => h i m (by
  rw [List.getElem?_take] at hm
  split at hm
  · exact hm
  · cases hm)
theorem XsAt.drop {w : World} {b o : Nat} {L : List MTx} (h : XsAt w (some ⟨b, o, none⟩) L) (k : Nat) : XsAt w (some ⟨b, o + k * 9, none⟩) (L.drop k) := fun i m hm => by
  rw [List.getElem?_drop] at hm
  obtain ⟨b', o', e, hb, h0, h1, h2, h3, h4, h5, h6, h7, h8⟩ := h _ m hm
  simp only [Option.some.injEq, Addr.mk.injEq] at e
  obtain ⟨rfl, rfl, _⟩ := e
  have q : o + (k + i) * 9 = o + k * 9 + i * 9 := by omega
  rw [q] at h0 h1 h2 h3 h4 h5 h6 h7 h8
  exact ⟨b, o + k * 9, rfl, hb, h0, h1, h2, h3, h4, h5, h6, h7, h8⟩
theorem toldT_congr {R R' : Nat → VerP × Int} (h : ∀ k, k < 8 → R k = R' k) : toldT R 8 = toldT R' 8 := by
  unfold toldT
  refine List.map_congr_left fun i hi => ?_
  rw [h i (List.mem_range.1 hi)]
def two (X Y : List TxP) : Nat → List TxP := fun k => if k = 0 then X else if k = 1 then Y else []
theorem two_upd0 (X Y : List TxP) (t : TxP) : tUpd (two X Y) 0 t = two (X ++ [t]) Y := by
  funext k
  unfold tUpd two
  by_cases h : k = 0
  · simp [h]
  · simp [h]
theorem two_upd1 (X Y : List TxP) (t : TxP) : tUpd (two X Y) 1 t = two X (Y ++ [t]) := by
  funext k
  unfold tUpd two
  by_cases h : k = 0
  · simp [h]
  · by_cases h1 : k = 1
    · simp [h1]
    · simp [h, h1]
end Go.Proofs.YtbopfhbeegkkaaaDoor

namespace Go.Proofs.YtbopfhbeegkkaaaDoor
open Go.RowKit

def notHas (a0 a1 a2 a3 : Int) (m : MTx) : Bool := decide (atV a0 a1 a2 a3 m.t.site < m.t.seq)
set_option maxRecDepth 20000 in
set_option maxHeartbeats 16000000 in
theorem missing_any (B x mb : Nat) (s : SiP) (lv : Value) (sv : Nat → Value) (a0 a1 a2 a3 : Int) (w : World) (h : SiAt w B x s mb lv sv) (hr : ∀ m ∈ s.log, rightTx m.t = true) (hn : s.log.length ≤ 1000) :
    Calls Tryd.prog 53 #[.pointer (some ⟨x, 0, none⟩), .agg #[.int .i64 a0, .int .i64 a1, .int .i64 a2, .int .i64 a3]] w fun e w' => ∃ A' c', e = .returned (.slice A' (s.log.filter (notHas a0 a1 a2 a3)).length c') ∧ Below w.heap.size w w' := by
  have hb0 : Below w.heap.size w (w.alloc (.cells #[.int .i64 a0, .int .i64 a1, .int .i64 a2, .int .i64 a3] 37)) := blw_alloc (Below.refl _ _)
  have HS := hidp (h.below hb0)
  have HB0 := hidp hb0
  have HBX := hidp (show (w.alloc (.cells #[.int .i64 a0, .int .i64 a1, .int .i64 a2, .int .i64 a3] 37)).heap[w.heap.size]? = some (.cells #[.int .i64 a0, .int .i64 a1, .int .i64 a2, .int .i64 a3] 37) from blk_new rfl _)
  have HR := hidp hr
  obtain ⟨Al, cl, hlv⟩ := own_form h.row
  have HLV := hidp hlv
  have HXS : Hid (XsAt (w.alloc (.cells #[.int .i64 a0, .int .i64 a1, .int .i64 a2, .int .i64 a3] 37)) Al s.log) := hidp (by have := HS.out.row; rw [hlv] at this; exact own_xs this)
  have c7 : w.cell? ⟨x, 7, none⟩ = some (.slice Al s.log.length cl) := by rw [← hlv]; exact h.c7
  haveI : SzGe (x + 1) w := ⟨h.sto.lt⟩
  clear h hb0 hr hlv
  obtain ⟨i0, hi0, hz0, hz1, hz2⟩ := info40
  go_enter Tryd.func53, Tryd.ntmps53
  go_wp2_with fail
  generalize w.alloc (.cells #[.int .i64 a0, .int .i64 a1, .int .i64 a2, .int .i64 a3] 37) = wo at *
  go_loopw [5, 13] (fun o i W => ∃ (k : Nat) (outs : List MTx) (Ao : Option Addr) (co : Nat), k ≤ s.log.length ∧ i = .int .i64 k ∧ o = .slice Ao outs.length co ∧ outs.length = ((s.log.take k).filter (notHas a0 a1 a2 a3)).length ∧ outs.length ≤ k ∧
    W.ownsRow wo.heap.size 40 9 (.slice Ao outs.length co) outs.length (outs.flatMap MTx.cells) ∧ Below wo.heap.size wo W) (fun _ i _ => s.log.length - (intOf i).toNat)
  case atStart => exact ⟨0, [], none, 0, Nat.zero_le _, rfl, rfl, by simp, by simp, ⟨rfl, .inl ⟨rfl, rfl⟩⟩, Below.refl _ _⟩
  case round =>
    obtain ⟨k, outs, Ao, co, hk, rfl, rfl, hout, hol, hown, hbl⟩ := hrel
    obtain ⟨W, rfl⟩ : ∃ W : World, W = wr := ⟨_, rfl⟩
    have HOUT := hidp hout
    have HOW := hidp hown
    have HBW := hidp hbl
    clear hown hbl hout
    by_cases hlt : k < s.log.length
    · have HSW := hidp (HS.out.below HBW.out)
      have hm := s.log[k]
      obtain ⟨b, o, rfl, hb, d0, d1, d2, d3, d4, d5, d6, d7, d8⟩ := (HXS.out.below HBW.out) k s.log[k] (List.getElem?_eq_getElem hlt)
      have HRK := hidp (HR.out s.log[k] (List.getElem_mem hlt))
      have HDK := hidp (HSW.out.dat s.log[k] (.inl (List.getElem_mem hlt)))
      have htk : s.log.take (k + 1) = s.log.take k ++ [s.log[k]] := by rw [List.take_add_one, List.getElem?_eq_getElem hlt]; rfl
      have HTK : Hid (((s.log.take (k + 1)).filter (notHas a0 a1 a2 a3)).length = ((s.log.take k).filter (notHas a0 a1 a2 a3)).length + (if notHas a0 a1 a2 a3 s.log[k] = true then 1 else 0)) := hidp (by
        rw [htk, List.filter_append, List.length_append]
        congr 1
        cases hq : notHas a0 a1 a2 a3 s.log[k] <;> simp [hq])
      clear hm htk
      generalize s.log[k] = m at *
      obtain ⟨⟨msite, mseq, mwall, mcount, md0, md1, md2, md3, mws⟩, mA, mc⟩ := m
      simp only at d0 d1 d2 d3 d4 d5 d6 d7 d8
      obtain ⟨hp1, hp2, hp3, hp4⟩ := rightTx_parts HRK.out
      try simp only at hp1 hp2 hp3 hp4
      obtain ⟨st, rfl⟩ := Int.eq_ofNat_of_zero_le hp1.1
      have hst4 : st < 4 := by omega
      have hbx : W.heap[w.heap.size]? = some (.cells #[.int .i64 a0, .int .i64 a1, .int .i64 a2, .int .i64 a3] 37) := (HBW.out.block _ (lt_blk HBX.out)).trans HBX.out
      have hat := at_cell hbx hst4
      obtain ⟨aS, haS⟩ : ∃ aS, atV a0 a1 a2 a3 (st : Int) = aS := ⟨_, rfl⟩
      rw [haS] at hat
      haveI : SzGe (b + 1) W := ⟨hb⟩
      haveI : SzGe (w.heap.size + 1) W := ⟨lt_blk hbx⟩
      haveI : SzGe w.heap.size W := ⟨by have := lt_blk hbx; omega⟩
      have hk0 : (0 : Int) ≤ (st : Int) := by omega
      have hk4 : (st : Int) < 4 := by omega
      have HNH : Hid (notHas a0 a1 a2 a3 ⟨⟨(st : Int), mseq, mwall, mcount, md0, md1, md2, md3, mws⟩, mA, mc⟩ = decide (aS < mseq)) := hidp (by unfold notHas; rw [← haS])
      have HCL := hidp fun W' (hB : Below W.heap.size W W') => clone_any ⟨(st : Int), mseq, mwall, mcount, md0, md1, md2, md3, mws⟩ mA mc W' (HDK.out.1.below hB) (by show 0 < mws.length; omega) (by show mws.length ≤ 1000; omega)
      unfold MTx.val at HCL
      simp only at HCL
      clear haS hbx hp1 hp2 hp3 hp4
      by_cases hq : aS < mseq
      · have hd1 : decide (aS < mseq) = true := decide_eq_true hq
        have HT1 : Hid (((s.log.take (k + 1)).filter (notHas a0 a1 a2 a3)).length = outs.length + 1) := hidp (by rw [HTK.out, HOUT.out, HNH.out, hd1]; rfl)
        clear hq HTK
        go_wp2_with fail
        refine wp_region_plus (by kernel_rfl) (by kernel_rfl) ?_
        repeat (first | go_big_quiet_skip | (go_big_quiet_want; go_big_quiet_op; go_big_quiet_on))
        refine wpQuiet_nil ?_
        rintro _ ⟨x3, rfl⟩
        go_wp2_with fail
        go_at_call 78
        refine (HCL.out _ (by repeat (first | exact Below.refl _ _ | refine blw_alloc ?_ | refine blw_plus ?_ | refine Below.drew ?_))).mono ?_
        rintro e w5 ⟨A', c', rfl, hw5, hb5, bb, rfl, hbb⟩
        have HCUR := hidp (Below.trans (show Below W.heap.size W (wplus (W.alloc (.cells #[.int .i64 (st : Int), .int .i64 mseq, .int .i64 mwall, .int .i64 mcount, .int .i64 md0, .int .i64 md1, .int .i64 md2, .int .i64 md3, .slice mA mws.length mc] 40)) x3) from (by repeat (first | exact Below.refl _ _ | refine blw_alloc ?_ | refine blw_plus ?_ | refine Below.drew ?_))) (hb5.mono (by simp; omega)))
        have HOC := hidp (own_below HOW.out HCUR.out (fun j e => (own_ge HOW.out e).2))
        have HBC := hidp (HBW.out.trans (HCUR.out.mono HBW.out.size))
        clear hw5 hb5 hbb
        have hsC := HBC.out.size
        go_wp2_with (at_builtin; go_must (refine wpList_append_lies _ rfl _ _ 98 rfl wo.heap.size 40 i0 txZero 9 88 Tryd.underlying98 hi0 hz0 hz1 hz2 rfl (by decide) (.slice Ao outs.length co) outs.length (outs.flatMap MTx.cells) rfl (HOC.out.alloc _) ⟨w5.heap.size, 0, none⟩ 1 1 [.int .i64 (st : Int), .int .i64 mseq, .int .i64 mwall, .int .i64 mcount, .int .i64 md0, .int .i64 md1, .int .i64 md2, .int .i64 md3, .slice (some ⟨bb, 0, none⟩) mws.length c'] rfl rfl (World.news_of_block (cs := #[.int .i64 (st : Int), .int .i64 mseq, .int .i64 mwall, .int .i64 mcount, .int .i64 md0, .int .i64 md1, .int .i64 md2, .int .i64 md3, .slice (some ⟨bb, 0, none⟩) mws.length c']) (blk_new rfl _)) ?c1 (by decide) ?c2 ?c3 ?c4 _ rfl ?_))
        case c1 => first | exact ⟨rfl, rfl, rfl, rfl, rfl, rfl, rfl, rfl, rfl⟩ | (intro u hu; simp at hu; rcases hu with rfl | rfl | rfl | rfl | rfl | rfl | rfl | rfl | rfl <;> rfl)
        case c2 => refine Nat.le_trans ?_ maxLen_ge; omega
        case c3 => omega
        case c4 => first | omega | (simp; omega)
        intro gq cap1 w1 hown1 hgrow hgl hlt1
        have HN1 : Hid (w1.ownsRow wo.heap.size 40 9 (.slice (some ⟨gq, 0, none⟩) (outs ++ [(⟨⟨(st : Int), mseq, mwall, mcount, md0, md1, md2, md3, mws⟩, some ⟨bb, 0, none⟩, c'⟩ : MTx)]).length cap1) (outs ++ [(⟨⟨(st : Int), mseq, mwall, mcount, md0, md1, md2, md3, mws⟩, some ⟨bb, 0, none⟩, c'⟩ : MTx)]).length ((outs ++ [(⟨⟨(st : Int), mseq, mwall, mcount, md0, md1, md2, md3, mws⟩, some ⟨bb, 0, none⟩, c'⟩ : MTx)]).flatMap MTx.cells)) := hidp (by
          have e : (outs ++ [(⟨⟨(st : Int), mseq, mwall, mcount, md0, md1, md2, md3, mws⟩, some ⟨bb, 0, none⟩, c'⟩ : MTx)]).length = outs.length + 1 := by simp
          rw [e, List.flatMap_append]; exact hown1)
        have HB1 : Hid (Below wo.heap.size wo w1) := hidp (Below.grown HBC.out (grown_alloc hgrow) HBC.out.size (fun j e => (own_ge HOW.out e).1))
        clear hown1 hgrow hgl hlt1
        go_wp2_with fail
        go_roundw
        case rel => exact ⟨k + 1, outs ++ [(⟨⟨(st : Int), mseq, mwall, mcount, md0, md1, md2, md3, mws⟩, some ⟨bb, 0, none⟩, c'⟩ : MTx)], some ⟨gq, 0, none⟩, cap1, by omega, by go_num, by simp, by rw [HT1.out]; simp, by simp; omega, HN1.out, HB1.out⟩
        case measure => simp [intOf]; omega
      · have hd1 : decide (aS < mseq) = false := decide_eq_false hq
        have HT1 : Hid (((s.log.take (k + 1)).filter (notHas a0 a1 a2 a3)).length = outs.length) := hidp (by rw [HTK.out, HOUT.out, HNH.out, hd1]; rfl)
        clear hq HTK
        go_wp2_with fail
        refine wp_region_plus (by kernel_rfl) (by kernel_rfl) ?_
        repeat (first | go_big_quiet_skip | (go_big_quiet_want; go_big_quiet_op; go_big_quiet_on))
        refine wpQuiet_nil ?_
        rintro _ ⟨x3, rfl⟩
        have HCUR := hidp (show Below W.heap.size W (wplus (W.alloc (.cells #[.int .i64 (st : Int), .int .i64 mseq, .int .i64 mwall, .int .i64 mcount, .int .i64 md0, .int .i64 md1, .int .i64 md2, .int .i64 md3, .slice mA mws.length mc] 40)) x3) from (by repeat (first | exact Below.refl _ _ | refine blw_alloc ?_ | refine blw_plus ?_ | refine Below.drew ?_)))
        have HOC := hidp (own_below HOW.out HCUR.out (fun j e => (own_ge HOW.out e).2))
        have HBC := hidp (HBW.out.trans (HCUR.out.mono HBW.out.size))
        go_wp2_with fail
        go_roundw
        case rel => exact ⟨k + 1, outs, Ao, co, by omega, by go_num, rfl, HT1.out.symm, by omega, HOC.out, HBC.out⟩
        case measure => simp [intOf]; omega
    · obtain rfl : k = s.log.length := by omega
      have HT : Hid (outs.length = (s.log.filter (notHas a0 a1 a2 a3)).length) := hidp (by rw [HOUT.out, List.take_length])
      go_wp2_with fail
      go_ret
      exact ⟨Ao, co, by rw [← HT.out]; rfl, HB0.out.trans (HBW.out.mono HB0.out.size)⟩
end Go.Proofs.YtbopfhbeegkkaaaDoor
