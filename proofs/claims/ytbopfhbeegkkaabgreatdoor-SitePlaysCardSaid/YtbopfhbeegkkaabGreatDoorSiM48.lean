/- Part 48 of a proof: lemmas and contracts that other parts use. -/
import Derived.Below
import Derived.ChangeSame
import Derived.OpenVars
import Derived.ProofKit
import Derived.OpenShut
import Derived.JoinedCond
import Derived.RowKitTokens
import Derived.Lib.SmallJoins
import Derived.Test.YtbopfhbeegkkaabGreatDoorSiM6
import Derived.Deep.Slices
import Derived.Test.YtbopfhbeegkkaabGreatDoorSiM18
set_option linter.unusedVariables false
set_option linter.unusedSimpArgs false
namespace Go.Proofs.YtbopfhbeegkkaabGreatDoor
open Go.RowKit Go.WideShapes Go.ChangeShapes Go.WideElems Go.ChangeAt

section
variable {H : Type} {enc : TypeId × Value → H} {P : Program}

/-- One closed fact: each parameter's type can be read and is a row of the table. -/
def typesRowed (P : Program) (ts : List TypeId) : Bool := ts.all fun t => P.readableRec t && decide (t < P.types.size)

theorem trodAll_kept (hl : laidOutB P = true) {W W' : World} {sp : Nat → Bool} (hb : Below W.heap.size W W') :
    ∀ {ts : List TypeId} {vs : List Value} {ds : List (DataW H)} {ps : List MemPlace}, typesRowed P ts = true → DataW.TrodAll enc P W 0 (fun _ => true) true ts vs ds ps →
      (∀ p ∈ ps, p.block < W.heap.size) → (∀ p ∈ ps, sp p.block = true) → DataW.TrodAll enc P W' 0 sp true ts vs ds ps
  | [], [], [], _, _, h, _, _ => h
  | t :: ts, v :: vs, d :: ds, ps, ht, h, hlt, hs => by
    obtain ⟨p, q, h1, h2, e⟩ := h
    simp only [typesRowed, List.all_cons, Bool.and_eq_true, decide_eq_true_eq] at ht
    subst e
    exact ⟨p, q, Trod_stays hl ht.1.1 ht.1.2 h1 (fun x hx => hb.same (hlt x (by simp [hx]))) (fun x hx => hs x (by simp [hx])),
      trodAll_kept hl hb (by simpa [typesRowed] using ht.2) h2 (fun x hx => hlt x (by simp [hx])) (fun x hx => hs x (by simp [hx])), rfl⟩
  | [], [], _ :: _, _, _, h, _, _ => h.elim
  | [], _ :: _, _, _, _, h, _, _ => h.elim
  | _ :: _, [], _, _, _, h, _, _ => h.elim
  | _ :: _, _ :: _, [], _, _, h, _, _ => h.elim

theorem trodVars_kept (hl : laidOutB P = true) {W W' : World} {sp : Nat → Bool} (hb : Below W.heap.size W W') :
    ∀ {ns : List String} {gs : List (DataW H)} {ps : List MemPlace}, varsRowed P ns = true → DataW.TrodVars enc P W (fun _ => true) ns gs ps →
      (∀ p ∈ ps, sp p.block = true) → DataW.TrodVars enc P W' sp ns gs ps
  | [], [], _, _, h, _ => h
  | [], _ :: _, _, _, h, _ => h.elim
  | _ :: _, [], _, _, h, _ => h.elim
  | n :: ns, d :: ds, ps, hv, h, hsp => by
    have hlt := h.lt
    obtain ⟨g, t, cs, fuel, p, q, h1, h2, h3, h4, hs, e⟩ := h
    simp only [varsRowed, List.all_cons, Bool.and_eq_true] at hv
    have ht : P.readableRec t = true ∧ t < P.types.size := by
      have := hv.1
      rw [h1] at this
      cases hg : P.globals[g]? with
      | none => rw [hg] at h2; cases h2
      | some gl =>
        rw [hg] at h2
        obtain rfl : gl.type = t := Option.some.inj h2
        simpa [hg] using this
    have hp : ∀ x ∈ p, x.block < W.heap.size := fun x hx => hlt x (by rw [e]; simp [hx])
    have h3' : W'.var? P n = some cs := by
      unfold World.var? at h3 ⊢
      rw [h1] at h3 ⊢
      simp only [Option.bind_some] at h3 ⊢
      have hg : g < W.heap.size := by
        cases hh : W.heap[g]? with
        | none => rw [hh] at h3; cases h3
        | some o => exact (Array.getElem?_eq_some_iff.1 hh).1
      rw [hb.block g hg]; exact h3
    exact ⟨g, t, cs, fuel, p, q, h1, h2, h3', DataW.trod_stays (kids_book hl ht.1) (book_sized ht.1) (fun h => by cases h) ⟨ht.2, book_self t⟩ h4 (fun x hx => hb.same (hp x hx)) (fun x hx => hsp x (by rw [e]; simp [hx])),
      trodVars_kept hl hb (by simpa [varsRowed] using hv.2) hs (fun x hx => hsp x (by rw [e]; simp [hx])), e⟩

/-- A LAW: it returned true, and below the old heap's end nothing has turned. -/
theorem law_post {f : Func} {s : ChangeSpec} {W W' : World} {args : Array Value} {ds gs : List (DataW H)} {before : List MemPlace} {tb : TypeId}
    (hl : laidOutB P = true) (hp : typesRowed P f.params.toList = true) (hvr : varsRowed P s.vars = true)
    (hW : DataW.Whole enc P f.params.toList s.vars false W args.toList ds gs before) (hb : Below W.heap.size W W')
    (hr : f.resultTypes = #[tb]) (hub : P.underlying tb = some .bool)
    (hres : (s.fn H (ds ++ gs)).results = [.lit (.bool true)]) (hargs : (s.fn H (ds ++ gs)).args = ds) (hvars : (s.fn H (ds ++ gs)).vars = gs) :
    s.post enc P f false true false false W args (.bool true) W' := by
  have hlt : ∀ p ∈ before, p.block < W.heap.size := fun p hp => hW.lt p hp
  have hold : ∀ p ∈ before, (fun b => decide (b < W.heap.size)) p.block = true := fun p hp => by simpa using hlt p hp
  obtain ⟨pa, pv, hA, hV, hps, hz, hn⟩ := id hW
  have hok : ∀ (j : Nat) (t : TypeId) (r : Value), f.resultTypes[j]? = some t → ((Value.bool true).resultList f.resultTypes.size)[j]? = some r → Value.okWide P W' .any 0 t r :=
    ok_one hr rfl (okWide_bool_mk hub _)
  have hres' : ∀ (b : Nat) (sp : Nat → Bool) (hd : Bool), DataW.TrodAll enc P W' b sp hd f.resultTypes.toList ((Value.bool true).resultList f.resultTypes.size) (s.fn H (ds ++ gs)).results [] := fun b sp hd => by
    rw [hr, hres]
    exact trodAll_mk1 (shut_bool hub true)
  have hargs' : ∀ sp : Nat → Bool, (∀ p ∈ before, sp p.block = true) → DataW.TrodAll enc P W' 0 sp true f.params.toList args.toList (s.fn H (ds ++ gs)).args pa := fun sp hsp => by
    rw [hargs]
    exact trodAll_kept hl hb hp hA (fun x hx => hlt x (by rw [hps]; simp [hx])) (fun x hx => hsp x (by rw [hps]; simp [hx]))
  have hvars' : ∀ sp : Nat → Bool, (∀ p ∈ before, sp p.block = true) → DataW.TrodVars enc P W' sp s.vars (s.fn H (ds ++ gs)).vars pv := fun sp hsp => by
    rw [hvars]
    exact trodVars_kept hl hb hvr hV (fun x hx => hsp x (by rw [hps]; simp [hx]))
  refine ⟨ds, gs, before, [], pa, pv, hW, hres' _ _ _, hargs' _ hold, hvars' _ hold, World.keptBut_mono (fun p hp => ⟨hp, ?_⟩) (hb.frame (· ∈ before)), fun h => by cases h⟩
  rw [hps, List.mem_append] at hp
  exact Or.inr hp
end
end Go.Proofs.YtbopfhbeegkkaabGreatDoor

namespace Go.Proofs.YtbopfhbeegkkaabGreatDoor
open Go.RowKit Go.WideShapes Go.ChangeShapes Go.WideElems Go.ChangeAt
section
variable {H : Type} {enc : TypeId × Value → H} {P : Program} {w : World} {base : Nat} {spare : Nat → Bool} {held : Bool}

theorem array_four {cs : Array Value} (h : cs.size = 4) : ∃ a b c d, cs = #[a, b, c, d] := by
  obtain ⟨l⟩ := cs
  match l, h with
  | [a, b, c, d], _ => exact ⟨a, b, c, d, rfl⟩

theorem open_four {r : Reach} {b0 : Nat} {t e : TypeId} {k : IntKind} {v : Value} {d : DataW H} {p : List MemPlace} (ht : P.underlying t = some (.array 4 e)) (he : P.underlying e = some (.int k)) (hc : P.cellsOf t = 4) (hce : P.cellsOf e = 1)
    (hv : Value.okWide P w r b0 t v) (h : DataW.Trod enc P w base spare held t v d p) :
    ∃ a0 a1 a2 a3 : Int, v = .agg #[.int k a0, .int k a1, .int k a2, .int k a3] ∧ (Lit.int k a0).wf = true ∧ (Lit.int k a1).wf = true ∧ (Lit.int k a2).wf = true ∧ (Lit.int k a3).wf = true := by
  simp only [Value.okWide, ht] at hv
  obtain ⟨cs, rfl, hsz, _⟩ := hv
  obtain ⟨c0, c1, c2, c3, rfl⟩ := array_four (hsz.trans hc)
  obtain ⟨fuel, hf⟩ := h
  obtain ⟨xs, m, _, _, _, hlen, hxs⟩ := DataW.trod_array ht hf
  rw [hce] at hxs
  have get : ∀ i, i < 4 → ∃ x, xs[i]? = some x := fun i hi => ⟨xs[i]'(by omega), List.getElem?_eq_getElem (by omega)⟩
  obtain ⟨x0, g0⟩ := get 0 (by omega); obtain ⟨x1, g1⟩ := get 1 (by omega); obtain ⟨x2, g2⟩ := get 2 (by omega); obtain ⟨x3, g3⟩ := get 3 (by omega)
  have h0 := hxs 0 (by omega); have h1 := hxs 1 (by omega); have h2 := hxs 2 (by omega); have h3 := hxs 3 (by omega)
  rw [g0] at h0; rw [g1] at h1; rw [g2] at h2; rw [g3] at h3
  simp [Value.cells] at h0 h1 h2 h3
  obtain ⟨a0, e0, _, w0⟩ := DataW.trod_int he h0
  obtain ⟨a1, e1, _, w1⟩ := DataW.trod_int he h1
  obtain ⟨a2, e2, _, w2⟩ := DataW.trod_int he h2
  obtain ⟨a3, e3, _, w3⟩ := DataW.trod_int he h3
  simp at e0 e1 e2 e3
  subst e0 e1 e2 e3
  exact ⟨a0, a1, a2, a3, rfl, w0, w1, w2, w3⟩

theorem open_two {r : Reach} {b0 : Nat} {t e : TypeId} {k : IntKind} {f0 f1 : Field} {v : Value} {d : DataW H} {p : List MemPlace} (hs : P.underlying t = some (.struct #[f0, f1])) (hone : Go.Deep.oneCellFields P #[f0, f1] = true) (hc : P.cellsOf t = 2)
    (e0 : f0.type = e) (e1 : f1.type = e) (he : P.underlying e = some (.int k)) (hv : Value.okWide P w r b0 t v) (h : DataW.Trod enc P w base spare held t v d p) :
    ∃ a0 a1 : Int, v = .agg #[.int k a0, .int k a1] ∧ (Lit.int k a0).wf = true ∧ (Lit.int k a1).wf = true := by
  obtain ⟨c0, c1, y0, y1, m, rfl, _, _, hy0, hy1⟩ := Joins.open_agg2 hs hone hc hv h
  obtain ⟨a, g0, _, wa⟩ := DataW.trod_int (e0 ▸ he) hy0
  obtain ⟨b, g1, _, wb⟩ := DataW.trod_int (e1 ▸ he) hy1
  simp at g0 g1
  subst g0 g1
  exact ⟨a, b, rfl, wa, wb⟩
end
end Go.Proofs.YtbopfhbeegkkaabGreatDoor

namespace Go.Proofs.YtbopfhbeegkkaabGreatDoor
open Go.RowKit Go.WideShapes Go.ChangeShapes Go.WideElems Go.ChangeAt
section
variable {H : Type} {enc : TypeId × Value → H} {w : World} {base : Nat} {spare : Nat → Bool} {held : Bool}

theorem list3 {α : Type} {cs : List α} (h : cs.length = 3) : ∃ a b c, cs = [a, b, c] := by
  match cs, h with
  | [a, b, c], _ => exact ⟨a, b, c, rfl⟩
theorem array9 {α : Type} {cs : Array α} (h : cs.size = 9) : ∃ c0 c1 c2 c3 c4 c5 c6 c7 c8, cs = #[c0, c1, c2, c3, c4, c5, c6, c7, c8] := by
  obtain ⟨l⟩ := cs
  match l, h with
  | [c0, c1, c2, c3, c4, c5, c6, c7, c8], _ => exact ⟨c0, c1, c2, c3, c4, c5, c6, c7, c8, rfl⟩
theorem cells3 : Tryz.prog.cellsOf 3 = 1 := by kernel_rfl
theorem cells4 : Tryz.prog.cellsOf 4 = 1 := by kernel_rfl
theorem cells9 : Tryz.prog.cellsOf 9 = 1 := by kernel_rfl
theorem cells23 : Tryz.prog.cellsOf 32 = 4 := by kernel_rfl
theorem cells30 : Tryz.prog.cellsOf 34 = 2 := by kernel_rfl
theorem cells39 : Tryz.prog.cellsOf 42 = 1 := by kernel_rfl
theorem cells41 : Tryz.prog.cellsOf 44 = 9 := by kernel_rfl
theorem cells43 : Tryz.prog.cellsOf 83 = 3 := by kernel_rfl

theorem open_write {fuel : Nat} {cs : List Value} {x : DataW H × List MemPlace} (h : DataW.trod enc Tryz.prog w base spare held fuel 83 cs = some x) :
    ∃ y : WrP, cs = [.int .i64 y.key, .string y.data, .bool y.gone] ∧ y.data.size ≤ maxLen := by
  obtain ⟨xs, n, _, _, hl, hlen, hf⟩ := DataW.trod_struct Tryz.underlying83 h
  rw [cells43] at hl
  obtain ⟨c0, c1, c2, rfl⟩ := list3 hl
  have get : ∀ i, i < 3 → ∃ x, xs[i]? = some x := fun i hi => ⟨xs[i]'(by rw [hlen]; simpa using hi), List.getElem?_eq_getElem _⟩
  obtain ⟨x0, g0⟩ := get 0 (by omega); obtain ⟨x1, g1⟩ := get 1 (by omega); obtain ⟨x2, g2⟩ := get 2 (by omega)
  have h0 := hf 0 _ rfl; have h1 := hf 1 _ rfl; have h2 := hf 2 _ rfl
  rw [g0] at h0; rw [g1] at h1; rw [g2] at h2
  simp [cells3, cells4, cells9] at h0 h1 h2
  obtain ⟨k, e0, _, _⟩ := DataW.trod_int Tryz.underlying3 h0
  obtain ⟨s, e1, _, hs⟩ := DataW.trod_string Tryz.underlying9 h1
  obtain ⟨b, e2, _⟩ := DataW.trod_bool Tryz.underlying4 h2
  simp only [List.cons.injEq, and_true] at e0 e1 e2
  subst e0 e1 e2
  exact ⟨⟨k, s, b⟩, rfl, hs⟩

theorem open_writes {fuel : Nat} {cs : List Value} {x : DataW H × List MemPlace} (h : DataW.trod enc Tryz.prog w base spare held fuel 42 cs = some x) :
    ∃ (A : Option Addr) (c : Nat) (ws : List WrP), cs = [.slice A ws.length c] ∧ WsAt w A ws ∧ ws.length ≤ maxLen := by
  rcases Go.Deep.open_slice Tryz.underlying42 h with ⟨rfl, _⟩ | ⟨a, len, cap, m, n, D, Pl, rfl, hb, hlc, hcm, hm, _, hi⟩
  · exact ⟨none, 0, [], rfl, fun i x hx => by simp at hx, Nat.zero_le _⟩
  · have hlm : len ≤ m := by rw [hm]; split <;> omega
    rw [cells43] at hi
    have hy : ∀ i, i < len → ∃ y : WrP, w.cell? (a.add (i * 3)) = some (.int .i64 y.key) ∧ w.cell? ((a.add (i * 3)).add 1) = some (.string y.data) ∧ w.cell? ((a.add (i * 3)).add 2) = some (.bool y.gone) := by
      intro i hil
      obtain ⟨cs', h1, h2⟩ := hi i (by omega)
      obtain ⟨y, rfl, _⟩ := open_write h2
      obtain ⟨_, _, hc⟩ := World.cells?_some h1
      have k0 := hc 0 (by omega); have k1 := hc 1 (by omega); have k2 := hc 2 (by omega)
      refine ⟨y, ?_, k1, k2⟩
      have e : (a.add (i * 3)).add 0 = a.add (i * 3) := by simp [Addr.add]
      rw [e] at k0; exact k0
    haveI : Inhabited WrP := ⟨⟨0, ⟨#[]⟩, false⟩⟩
    obtain ⟨Y, hY⟩ := Go.Deep.choose_lt (α := WrP) hy
    refine ⟨some a, cap, (List.range len).map Y, by simp, fun i x hx => ?_, by simp; omega⟩
    have hil : i < len := by
      have := (List.getElem?_eq_some_iff.1 hx).1
      simpa using this
    have hx' : Y i = x := by simpa [List.getElem?_map, List.getElem?_range hil] using hx
    subst hx'
    obtain ⟨k0, k1, k2⟩ := hY i hil
    have k00 := (hY 0 (by omega)).1
    have hsp := World.cell?_spot k00
    obtain ⟨b, o, spot⟩ := a
    have hspot : spot = none := by simpa [Addr.add] using hsp
    subst hspot
    have e : ∀ (j o : Nat), (⟨b, o, none⟩ : Addr).add j = ⟨b, o + j, none⟩ := fun j o => by unfold Addr.add; split <;> simp_all
    simp only [e] at k0 k1 k2
    exact ⟨b, o, rfl, World.block_lt_of_cell? w _ k0, k0, k1, k2⟩

theorem open_vec {fuel : Nat} {c0 c1 c2 c3 : Value} {x : DataW H × List MemPlace} (h : DataW.trod enc Tryz.prog w base spare held fuel 32 [c0, c1, c2, c3] = some x) :
    ∃ a0 a1 a2 a3 : Int, c0 = .int .i64 a0 ∧ c1 = .int .i64 a1 ∧ c2 = .int .i64 a2 ∧ c3 = .int .i64 a3 := by
  obtain ⟨xs, m, _, _, _, hlen, hxs⟩ := DataW.trod_array Tryz.underlying32 h
  rw [cells3] at hxs
  have get : ∀ i, i < 4 → ∃ x, xs[i]? = some x := fun i hi => ⟨xs[i]'(by omega), List.getElem?_eq_getElem (by omega)⟩
  obtain ⟨x0, g0⟩ := get 0 (by omega); obtain ⟨x1, g1⟩ := get 1 (by omega); obtain ⟨x2, g2⟩ := get 2 (by omega); obtain ⟨x3, g3⟩ := get 3 (by omega)
  have h0 := hxs 0 (by omega); have h1 := hxs 1 (by omega); have h2 := hxs 2 (by omega); have h3 := hxs 3 (by omega)
  rw [g0] at h0; rw [g1] at h1; rw [g2] at h2; rw [g3] at h3
  simp at h0 h1 h2 h3
  obtain ⟨a0, e0, _⟩ := DataW.trod_int Tryz.underlying3 h0
  obtain ⟨a1, e1, _⟩ := DataW.trod_int Tryz.underlying3 h1
  obtain ⟨a2, e2, _⟩ := DataW.trod_int Tryz.underlying3 h2
  obtain ⟨a3, e3, _⟩ := DataW.trod_int Tryz.underlying3 h3
  simp at e0 e1 e2 e3
  exact ⟨a0, a1, a2, a3, e0, e1, e2, e3⟩

theorem open_stamp {fuel : Nat} {c0 c1 : Value} {x : DataW H × List MemPlace} (h : DataW.trod enc Tryz.prog w base spare held fuel 34 [c0, c1] = some x) :
    ∃ a0 a1 : Int, c0 = .int .i64 a0 ∧ c1 = .int .i64 a1 := by
  obtain ⟨xs, n, _, _, hl, hlen, hf⟩ := DataW.trod_struct Tryz.underlying34 h
  have get : ∀ i, i < 2 → ∃ x, xs[i]? = some x := fun i hi => ⟨xs[i]'(by rw [hlen]; simpa using hi), List.getElem?_eq_getElem _⟩
  obtain ⟨x0, g0⟩ := get 0 (by omega); obtain ⟨x1, g1⟩ := get 1 (by omega)
  have h0 := hf 0 _ rfl; have h1 := hf 1 _ rfl
  rw [g0] at h0; rw [g1] at h1
  simp [cells3] at h0 h1
  obtain ⟨a0, e0, _⟩ := DataW.trod_int Tryz.underlying3 h0
  obtain ⟨a1, e1, _⟩ := DataW.trod_int Tryz.underlying3 h1
  simp at e0 e1
  exact ⟨a0, a1, e0, e1⟩

set_option maxRecDepth 20000 in
theorem open_tx {r : Reach} {b0 : Nat} {v : Value} {d : DataW H} {p : List MemPlace} (hv : Value.okWide Tryz.prog w r b0 44 v) (h : DataW.Trod enc Tryz.prog w base spare held 44 v d p) :
    ∃ (site seq wall count d0 d1 d2 d3 : Int) (A : Option Addr) (c : Nat) (ws : List WrP), v = .agg #[.int .i64 site, .int .i64 seq, .int .i64 wall, .int .i64 count, .int .i64 d0, .int .i64 d1, .int .i64 d2, .int .i64 d3, .slice A ws.length c] ∧
      (Lit.int .i64 seq).wf = true ∧ WsAt w A ws ∧ ws.length ≤ maxLen := by
  obtain ⟨cs, rfl, hsz⟩ := okWide_struct Tryz.underlying44 hv
  obtain ⟨c0, c1, c2, c3, c4, c5, c6, c7, c8, rfl⟩ := array9 (hsz.trans cells41)
  obtain ⟨fuel, hf⟩ := h
  obtain ⟨xs, n, _, _, hl, hlen, hf⟩ := DataW.trod_struct Tryz.underlying44 hf
  have get : ∀ i, i < 5 → ∃ x, xs[i]? = some x := fun i hi => ⟨xs[i]'(by rw [hlen]; simpa using hi), List.getElem?_eq_getElem _⟩
  obtain ⟨x0, g0⟩ := get 0 (by omega); obtain ⟨x1, g1⟩ := get 1 (by omega); obtain ⟨x2, g2⟩ := get 2 (by omega); obtain ⟨x3, g3⟩ := get 3 (by omega); obtain ⟨x4, g4⟩ := get 4 (by omega)
  have h0 := hf 0 _ rfl; have h1 := hf 1 _ rfl; have h2 := hf 2 _ rfl; have h3 := hf 3 _ rfl; have h4 := hf 4 _ rfl
  rw [g0] at h0; rw [g1] at h1; rw [g2] at h2; rw [g3] at h3; rw [g4] at h4
  simp [cells3, cells23, cells30, cells39, Value.cells] at h0 h1 h2 h3 h4
  obtain ⟨site, e0, _, _⟩ := DataW.trod_int Tryz.underlying3 h0
  obtain ⟨seq, e1, _, hw⟩ := DataW.trod_int Tryz.underlying3 h1
  obtain ⟨wall, count, rfl, rfl⟩ := open_stamp h2
  obtain ⟨d0, d1, d2, d3, rfl, rfl, rfl, rfl⟩ := open_vec h3
  obtain ⟨A, c, ws, e4, hws, hwl⟩ := open_writes h4
  simp at e0 e1 e4
  subst e0 e1 e4
  exact ⟨site, seq, wall, count, d0, d1, d2, d3, A, c, ws, rfl, hw, hws, hwl⟩
end
end Go.Proofs.YtbopfhbeegkkaabGreatDoor

namespace Go.Proofs.YtbopfhbeegkkaabGreatDoor
open Go.RowKit Go.WideShapes Go.ChangeShapes Go.WideElems Go.ChangeAt

theorem wf64_of {z : Int} (h : (Lit.int .i64 z).wf = true) : wf64 z := by
  simp [Lit.wf, IntKind.min, IntKind.max, IntKind.signed, IntKind.bits] at h
  unfold wf64; omega
structure DoP where
  what : Int
  n : Int
  a0 : Int
  a1 : Int
  a2 : Int
  a3 : Int
  t : TxP
  A : Option Addr
  c : Nat
instance : Inhabited DoP := ⟨⟨0, 0, 0, 0, 0, 0, ⟨0, 0, 0, 0, 0, 0, 0, 0, []⟩, none, 0⟩⟩
def DosAt (w : World) (A : Option Addr) (l : List DoP) : Prop := ∀ (i : Nat) (x : DoP), l[i]? = some x → (∃ b o, A = some ⟨b, o, none⟩ ∧ b < w.heap.size ∧
  w.cell? ⟨b, o + i * 15, none⟩ = some (.int .i64 x.what) ∧ w.cell? ⟨b, o + i * 15 + 1, none⟩ = some (.int .i64 x.n) ∧ w.cell? ⟨b, o + i * 15 + 2, none⟩ = some (.int .i64 x.a0) ∧ w.cell? ⟨b, o + i * 15 + 3, none⟩ = some (.int .i64 x.a1) ∧ w.cell? ⟨b, o + i * 15 + 4, none⟩ = some (.int .i64 x.a2) ∧ w.cell? ⟨b, o + i * 15 + 5, none⟩ = some (.int .i64 x.a3) ∧ w.cell? ⟨b, o + i * 15 + 6, none⟩ = some (.int .i64 x.t.site) ∧ w.cell? ⟨b, o + i * 15 + 7, none⟩ = some (.int .i64 x.t.seq) ∧ w.cell? ⟨b, o + i * 15 + 8, none⟩ = some (.int .i64 x.t.wall) ∧ w.cell? ⟨b, o + i * 15 + 9, none⟩ = some (.int .i64 x.t.count) ∧ w.cell? ⟨b, o + i * 15 + 10, none⟩ = some (.int .i64 x.t.d0) ∧ w.cell? ⟨b, o + i * 15 + 11, none⟩ = some (.int .i64 x.t.d1) ∧ w.cell? ⟨b, o + i * 15 + 12, none⟩ = some (.int .i64 x.t.d2) ∧ w.cell? ⟨b, o + i * 15 + 13, none⟩ = some (.int .i64 x.t.d3) ∧ w.cell? ⟨b, o + i * 15 + 14, none⟩ = some (.slice x.A x.t.ws.length x.c)) ∧ WsAt w x.A x.t.ws ∧ x.t.ws.length ≤ maxLen ∧ (Lit.int .i64 x.t.site).wf = true ∧ (Lit.int .i64 x.t.seq).wf = true ∧ ∀ b o, x.A = some ⟨b, o, none⟩ → x.t.ws ≠ [] → b < w.heap.size
theorem DosAt.below {w w' : World} {A : Option Addr} {l : List DoP} (h : DosAt w A l) (hb : Below w.heap.size w w') : DosAt w' A l := fun i x hx => by
  obtain ⟨⟨b, o, hA, hlt, h0, h1, h2, h3, h4, h5, h6, h7, h8, h9, h10, h11, h12, h13, h14⟩, i1, i2, i3, i4, i5⟩ := h i x hx
  have e : ∀ k, w'.cell? ⟨b, k, none⟩ = w.cell? ⟨b, k, none⟩ := fun k => hb.cell (p := ⟨b, k, none⟩) hlt
  exact ⟨⟨b, o, hA, Nat.lt_of_lt_of_le hlt hb.size, (e _).trans h0, (e _).trans h1, (e _).trans h2, (e _).trans h3, (e _).trans h4, (e _).trans h5, (e _).trans h6, (e _).trans h7, (e _).trans h8, (e _).trans h9, (e _).trans h10, (e _).trans h11, (e _).trans h12, (e _).trans h13, (e _).trans h14⟩, i1.below hb, i2, i3, i4, fun b o e2 e3 => Nat.lt_of_lt_of_le (i5 b o e2 e3) hb.size⟩
section
variable {H : Type} {enc : TypeId × Value → H} {w : World} {base : Nat} {spare : Nat → Bool} {held : Bool}

theorem list15 {α : Type} {cs : List α} (h : cs.length = 15) : ∃ c0 c1 c2 c3 c4 c5 c6 c7 c8 c9 c10 c11 c12 c13 c14, cs = [c0, c1, c2, c3, c4, c5, c6, c7, c8, c9, c10, c11, c12, c13, c14] := by
  match cs, h with
  | [c0, c1, c2, c3, c4, c5, c6, c7, c8, c9, c10, c11, c12, c13, c14], _ => exact ⟨c0, c1, c2, c3, c4, c5, c6, c7, c8, c9, c10, c11, c12, c13, c14, rfl⟩
theorem cellsD : Tryz.prog.cellsOf 46 = 15 := by kernel_rfl

set_option maxRecDepth 20000 in
theorem open_tx9 {fuel : Nat} {c0 c1 c2 c3 c4 c5 c6 c7 c8 : Value} {x : DataW H × List MemPlace} (h : DataW.trod enc Tryz.prog w base spare held fuel 44 [c0, c1, c2, c3, c4, c5, c6, c7, c8] = some x) :
    ∃ (t : TxP) (A : Option Addr) (c : Nat), c0 = .int .i64 t.site ∧ c1 = .int .i64 t.seq ∧ c2 = .int .i64 t.wall ∧ c3 = .int .i64 t.count ∧ c4 = .int .i64 t.d0 ∧ c5 = .int .i64 t.d1 ∧ c6 = .int .i64 t.d2 ∧ c7 = .int .i64 t.d3 ∧ c8 = .slice A t.ws.length c ∧
      (Lit.int .i64 t.site).wf = true ∧ (Lit.int .i64 t.seq).wf = true ∧ WsAt w A t.ws ∧ t.ws.length ≤ maxLen := by
  obtain ⟨xs, n, _, _, hl, hlen, hf⟩ := DataW.trod_struct Tryz.underlying44 h
  have get : ∀ i, i < 5 → ∃ x, xs[i]? = some x := fun i hi => ⟨xs[i]'(by rw [hlen]; simpa using hi), List.getElem?_eq_getElem _⟩
  obtain ⟨x0, g0⟩ := get 0 (by omega); obtain ⟨x1, g1⟩ := get 1 (by omega); obtain ⟨x2, g2⟩ := get 2 (by omega); obtain ⟨x3, g3⟩ := get 3 (by omega); obtain ⟨x4, g4⟩ := get 4 (by omega)
  have h0 := hf 0 _ rfl; have h1 := hf 1 _ rfl; have h2 := hf 2 _ rfl; have h3 := hf 3 _ rfl; have h4 := hf 4 _ rfl
  rw [g0] at h0; rw [g1] at h1; rw [g2] at h2; rw [g3] at h3; rw [g4] at h4
  simp [cells3, cells23, cells30, cells39] at h0 h1 h2 h3 h4
  obtain ⟨site, e0, _, hw0⟩ := DataW.trod_int Tryz.underlying3 h0
  obtain ⟨seq, e1, _, hw⟩ := DataW.trod_int Tryz.underlying3 h1
  obtain ⟨wall, count, rfl, rfl⟩ := open_stamp h2
  obtain ⟨d0, d1, d2, d3, rfl, rfl, rfl, rfl⟩ := open_vec h3
  obtain ⟨A, c, ws, e4, hws, hwl⟩ := open_writes h4
  simp at e0 e1 e4
  subst e0 e1 e4
  exact ⟨⟨site, seq, wall, count, d0, d1, d2, d3, ws⟩, A, c, rfl, rfl, rfl, rfl, rfl, rfl, rfl, rfl, rfl, hw0, hw, hws, hwl⟩
set_option maxRecDepth 20000 in
theorem open_do {fuel : Nat} {cs : List Value} {x : DataW H × List MemPlace} (h : DataW.trod enc Tryz.prog w base spare held fuel 46 cs = some x) :
    ∃ p : DoP, cs = [.int .i64 p.what, .int .i64 p.n, .int .i64 p.a0, .int .i64 p.a1, .int .i64 p.a2, .int .i64 p.a3, .int .i64 p.t.site, .int .i64 p.t.seq, .int .i64 p.t.wall, .int .i64 p.t.count, .int .i64 p.t.d0, .int .i64 p.t.d1, .int .i64 p.t.d2, .int .i64 p.t.d3, .slice p.A p.t.ws.length p.c] ∧ WsAt w p.A p.t.ws ∧ p.t.ws.length ≤ maxLen ∧ (Lit.int .i64 p.t.site).wf = true ∧ (Lit.int .i64 p.t.seq).wf = true := by
  obtain ⟨xs, n, _, _, hl, hlen, hf⟩ := DataW.trod_struct Tryz.underlying46 h
  rw [cellsD] at hl
  obtain ⟨c0, c1, c2, c3, c4, c5, c6, c7, c8, c9, c10, c11, c12, c13, c14, rfl⟩ := list15 hl
  have get : ∀ i, i < 4 → ∃ x, xs[i]? = some x := fun i hi => ⟨xs[i]'(by rw [hlen]; simpa using hi), List.getElem?_eq_getElem _⟩
  obtain ⟨x0, g0⟩ := get 0 (by omega); obtain ⟨x1, g1⟩ := get 1 (by omega); obtain ⟨x2, g2⟩ := get 2 (by omega); obtain ⟨x3, g3⟩ := get 3 (by omega)
  have h0 := hf 0 _ rfl; have h1 := hf 1 _ rfl; have h2 := hf 2 _ rfl; have h3 := hf 3 _ rfl
  rw [g0] at h0; rw [g1] at h1; rw [g2] at h2; rw [g3] at h3
  simp [cells3, cells23, cells41] at h0 h1 h2 h3
  obtain ⟨what, e0, _, _⟩ := DataW.trod_int Tryz.underlying3 h0
  obtain ⟨n, e1, _, _⟩ := DataW.trod_int Tryz.underlying3 h1
  obtain ⟨a0, a1, a2, a3, rfl, rfl, rfl, rfl⟩ := open_vec h2
  obtain ⟨t, A, c, rfl, rfl, rfl, rfl, rfl, rfl, rfl, rfl, rfl, hw0, hw1, hws, hwl⟩ := open_tx9 h3
  simp at e0 e1
  subst e0 e1
  exact ⟨⟨what, n, a0, a1, a2, a3, t, A, c⟩, rfl, hws, hwl, hw0, hw1⟩

set_option maxRecDepth 20000 in
theorem open_dos {r : Reach} {b0 : Nat} {v : Value} {d : DataW H} {p : List MemPlace} (hv : Value.okWide Tryz.prog w r b0 22 v) (h : DataW.Trod enc Tryz.prog w base spare held 22 v d p) :
    ∃ (A : Option Addr) (c : Nat) (ps : List DoP), v = .slice A ps.length c ∧ DosAt w A ps ∧ ps.length ≤ maxLen := by
  obtain ⟨a0, len0, cap0, rfl⟩ := okWide_slice Tryz.underlying22 hv
  obtain ⟨fuel, hf⟩ := h
  rcases Go.Deep.open_slice Tryz.underlying22 hf with ⟨hcs, _⟩ | ⟨a, len, cap, m, n, D, Pl, hcs, hb, hlc, hcm, hm, _, hi⟩
  · simp [Value.cells] at hcs
    obtain ⟨rfl, rfl, rfl⟩ := hcs
    exact ⟨none, 0, [], rfl, fun i x hx => by simp at hx, Nat.zero_le _⟩
  · simp [Value.cells] at hcs
    obtain ⟨rfl, rfl, rfl⟩ := hcs
    have hlm : len0 ≤ m := by rw [hm]; split <;> omega
    rw [cellsD] at hi
    have hy : ∀ i, i < len0 → ∃ y : DoP, (w.cell? (a.add (i * 15)) = some (.int .i64 y.what) ∧ w.cell? ((a.add (i * 15)).add 1) = some (.int .i64 y.n) ∧ w.cell? ((a.add (i * 15)).add 2) = some (.int .i64 y.a0) ∧ w.cell? ((a.add (i * 15)).add 3) = some (.int .i64 y.a1) ∧ w.cell? ((a.add (i * 15)).add 4) = some (.int .i64 y.a2) ∧ w.cell? ((a.add (i * 15)).add 5) = some (.int .i64 y.a3) ∧ w.cell? ((a.add (i * 15)).add 6) = some (.int .i64 y.t.site) ∧ w.cell? ((a.add (i * 15)).add 7) = some (.int .i64 y.t.seq) ∧ w.cell? ((a.add (i * 15)).add 8) = some (.int .i64 y.t.wall) ∧ w.cell? ((a.add (i * 15)).add 9) = some (.int .i64 y.t.count) ∧ w.cell? ((a.add (i * 15)).add 10) = some (.int .i64 y.t.d0) ∧ w.cell? ((a.add (i * 15)).add 11) = some (.int .i64 y.t.d1) ∧ w.cell? ((a.add (i * 15)).add 12) = some (.int .i64 y.t.d2) ∧ w.cell? ((a.add (i * 15)).add 13) = some (.int .i64 y.t.d3) ∧ w.cell? ((a.add (i * 15)).add 14) = some (.slice y.A y.t.ws.length y.c)) ∧ WsAt w y.A y.t.ws ∧ y.t.ws.length ≤ maxLen ∧ (Lit.int .i64 y.t.site).wf = true ∧ (Lit.int .i64 y.t.seq).wf = true := by
      intro i hil
      obtain ⟨cs', h1, h2⟩ := hi i (by omega)
      obtain ⟨y, rfl, hws, hwl, hw0, hw1⟩ := open_do h2
      obtain ⟨_, _, hc⟩ := World.cells?_some h1
      have k0 := hc 0 (by simp)
      have e : (a.add (i * 15)).add 0 = a.add (i * 15) := by simp [Addr.add]
      rw [e] at k0
      exact ⟨y, ⟨k0, hc 1 (by simp), hc 2 (by simp), hc 3 (by simp), hc 4 (by simp), hc 5 (by simp), hc 6 (by simp), hc 7 (by simp), hc 8 (by simp), hc 9 (by simp), hc 10 (by simp), hc 11 (by simp), hc 12 (by simp), hc 13 (by simp), hc 14 (by simp)⟩, hws, hwl, hw0, hw1⟩
    obtain ⟨Y, hY⟩ := Go.Deep.choose_lt (α := DoP) hy
    refine ⟨some a, cap0, (List.range len0).map Y, by simp, fun i x hx => ?_, by simp; omega⟩
    have hil : i < len0 := by
      have := (List.getElem?_eq_some_iff.1 hx).1
      simpa using this
    have hx' : Y i = x := by simpa [List.getElem?_map, List.getElem?_range hil] using hx
    subst hx'
    obtain ⟨⟨k0, k1, k2, k3, k4, k5, k6, k7, k8, k9, k10, k11, k12, k13, k14⟩, j1, j2, j3, j4⟩ := hY i hil
    have k00 := (hY 0 (by omega)).1.1
    have hsp := World.cell?_spot k00
    obtain ⟨b, o, spot⟩ := a
    have hspot : spot = none := by simpa [Addr.add] using hsp
    subst hspot
    have e : ∀ (j o : Nat), (⟨b, o, none⟩ : Addr).add j = ⟨b, o + j, none⟩ := fun j o => by unfold Addr.add; split <;> simp_all
    simp only [e] at k0 k1 k2 k3 k4 k5 k6 k7 k8 k9 k10 k11 k12 k13 k14
    refine ⟨⟨b, o, rfl, World.block_lt_of_cell? w _ k0, k0, k1, k2, k3, k4, k5, k6, k7, k8, k9, k10, k11, k12, k13, k14⟩, j1, j2, j3, j4, fun b2 o2 e2 e3 => ?_⟩
    rcases List.exists_cons_of_ne_nil e3 with ⟨u, us, e4⟩
    obtain ⟨b3, o3, e5, hlt, _⟩ := j1 0 u (by rw [e4]; rfl)
    rw [e2] at e5
    simp only [Option.some.injEq, Addr.mk.injEq] at e5
    obtain ⟨rfl, _⟩ := e5
    exact hlt
end
end Go.Proofs.YtbopfhbeegkkaabGreatDoor
