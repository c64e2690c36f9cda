/- Part 18 of a proof: lemmas and contracts that other parts use. -/
import Derived.Test.YtbopfhbeegkkaabGreatDoorSiM17
import Derived.Test.YtbopfhbeegkkaabGreatDoorSiM10
import Derived.Test.YtbopfhbeegkkaabGreatDoorSiM13
import Derived.Maps.OwnSet
import Derived.DeepKeys4
import Derived.Test.YtbopfhbeegkkaabGreatDoorSiM6
import Derived.Test.YtbopfhbeegkkaabGreatDoorSiM2
set_option linter.unusedVariables false
set_option linter.unusedSimpArgs false
namespace Go.Proofs.YtbopfhbeegkkaabGreatDoor
open Go.RowKit

theorem ws_cells {w : World} {b : Nat} : ∀ {ws : List WrP} {o : Nat}, WsAt w (some ⟨b, o, none⟩) ws → ∀ (j : Nat) (u : Value), (wrCells ws)[j]? = some u → w.cell? ⟨b, o + j, none⟩ = some u
  | [], o, h, j, u, hu => by simp [wrCells] at hu
  | x :: l, o, h, j, u, hu => by
    have h0 := h 0 x rfl
    obtain ⟨b', o', e, _, c0, c1, c2⟩ := h0
    obtain ⟨rfl, rfl⟩ : b' = b ∧ o' = o := by simp at e; exact ⟨e.1.symm, e.2.symm⟩
    have hl : WsAt w (some ⟨b', o' + 3, none⟩) l := fun i y hy => by
      obtain ⟨b2, o2, e2, hlt, k0, k1, k2⟩ := h (i + 1) y (by simpa using hy)
      obtain ⟨rfl, rfl⟩ : b2 = b' ∧ o2 = o' := by simp at e2; exact ⟨e2.1.symm, e2.2.symm⟩
      rw [show o2 + (i + 1) * 3 = o2 + 3 + i * 3 by omega] at k0 k1 k2
      exact ⟨b2, o2 + 3, rfl, hlt, k0, k1, k2⟩
    match j, hu with
    | 0, hu => simp [wrCells] at hu; subst hu; simpa using c0
    | 1, hu => simp [wrCells] at hu; subst hu; simpa using c1
    | 2, hu => simp [wrCells] at hu; subst hu; simpa using c2
    | j + 3, hu =>
      have := ws_cells hl j u (by simpa [wrCells] using hu)
      rw [show o' + (j + 3) = o' + 3 + j by omega]
      exact this
theorem wrCells_one (ws : List WrP) : ∀ u ∈ wrCells ws, u.oneCell' = true := by
  intro u hu
  simp only [wrCells, List.mem_flatMap] at hu
  obtain ⟨x, _, hx⟩ := hu
  simp at hx
  rcases hx with rfl | rfl | rfl <;> rfl
theorem info115o : (Tryz.prog.info? 83).map (fun i => (i.zero, i.size, i.bytes)) = some (some (.agg #[.int .i64 0, .string ⟨#[]⟩, .bool false]), 3, 32) := by kernel_rfl
theorem info115 : ∃ i, Tryz.prog.info? 83 = some i ∧ i.zero = some (.agg #[.int .i64 0, .string ⟨#[]⟩, .bool false]) ∧ i.size = 3 ∧ i.bytes = 32 := by
  obtain ⟨i, hi, h⟩ := Option.map_eq_some_iff.1 info115o
  simp only [Prod.mk.injEq] at h
  exact ⟨i, hi, h.1, h.2.1, h.2.2⟩

@[go_sem] theorem eqNil38 (w : World) (a : Addr) (n c : Nat) : Sem.run Tryz.prog (binOp BinOp.eql 42 (.slice (some a) n c) (.slice none 0 0)) w = .ok (.bool false) w := by kernel_rfl
set_option maxRecDepth 20000 in
set_option maxHeartbeats 4000000 in
theorem sclone_any (A : Option Addr) (c : Nat) (ws : List WrP) (w : World) (hws : WsAt w A ws) (h0 : 0 < ws.length) (hn : ws.length ≤ 1000) :
    Calls Tryz.prog 79 #[.slice A ws.length c] w fun e w' => ∃ A' c', e = .returned (.slice A' ws.length c') ∧ WsAt w' A' ws ∧ Below w.heap.size w w' ∧ ∃ b, A' = some ⟨b, 0, none⟩ ∧ w.heap.size ≤ b := by
  have HWS := hidp hws
  obtain ⟨b, o, rfl, hb, _⟩ := hws 0 ws[0] (List.getElem?_eq_getElem h0)
  clear hws
  obtain ⟨i0, hi0, hz0, hz1, hz2⟩ := info115
  haveI : SzGe (b + 1) w := ⟨hb⟩
  go_enter Tryz.func79, Tryz.ntmps79
  have hcells := ws_cells HWS.out
  have HNW : Hid (∀ (W : World), Below w.heap.size w W → ∀ (j : Nat) (u : Value), (wrCells ws)[j]? = some u → W.cell? ((⟨b, o, none⟩ : Addr).add j) = some u) := hidp (by
    intro W hB j u hu
    have e : (⟨b, o, none⟩ : Addr).add j = ⟨b, o + j, none⟩ := by unfold Addr.add; split <;> simp_all
    rw [e, hB.cell (p := ⟨b, o + j, none⟩) hb]
    exact hcells j u hu)
  have HLN := hidp (wrCells_len ws)
  have h63 : 0 + ws.length ≤ maxLen := by refine Nat.le_trans ?_ maxLen_ge; omega
  have hby : (0 + ws.length) * 32 ≤ 140737488355328 := by omega
  clear hcells
  go_wp2_with (at_builtin; go_must (refine wpList_append_lies _ rfl _ _ 42 rfl w.heap.size 83 i0 (.agg #[.int .i64 0, .string ⟨#[]⟩, .bool false]) 3 32 Tryz.underlying42 hi0 hz0 hz1 hz2 rfl (by decide) (.slice (some ⟨w.heap.size, 0, none⟩) 0 0) 0 [] rfl ⟨rfl, .inr ⟨w.heap.size, 0, #[], rfl, Nat.le_refl _, by rw [heap_alloc, if_pos rfl], Nat.le_refl _, by simp only [maxLen]; omega, rfl, rfl⟩⟩ ⟨b, o, none⟩ ws.length c (wrCells ws) rfl HLN.out (HNW.out _ (blw_alloc (Below.refl _ _))) (wrCells_one ws) h0 h63 hby (by simp) _ rfl ?_))
  intro g1 cap1 w1 hown1 hgrow hgl hlt1
  try simp only [Nat.zero_add, List.nil_append] at hown1
  have hb1 : Below w.heap.size w w1 := Below.grown (show Below w.heap.size w (w.alloc (Obj.cells #[] 83)) from blw_alloc (Below.refl _ _)) hgrow (by simp) (fun j e => by simp [Value.ownBlock] at e; omega)
  have HR : Hid (WsAt w1 (some ⟨g1, 0, none⟩) ws ∧ Below w.heap.size w w1 ∧ w.heap.size ≤ g1) := hidp ⟨own_ws hown1, hb1, (own_ge hown1 rfl).1⟩
  clear hown1 hgrow hgl hlt1 hb1
  try simp only [Nat.zero_add]
  go_wp2_with fail
  go_ret
  exact ⟨_, _, rfl, HR.out.1, HR.out.2.1, g1, rfl, HR.out.2.2⟩

theorem wplus_heap_ge (w : World) (x : Tail) (k : Nat) (h : w.heap.size ≤ k) : (wplus w x).heap[k]? = x.blocks[k - w.heap.size]? := by
  simp only [wplus]; rw [Array.getElem?_append_right h]
theorem WsAt.move {w w' : World} {A : Option Addr} {ws : List WrP} (h : WsAt w A ws) (hb : ∀ b o, A = some ⟨b, o, none⟩ → w'.heap[b]? = w.heap[b]?) : WsAt w' A ws := fun i x hx => by
  obtain ⟨b, o, hA, hlt, h0, h1, h2⟩ := h i x hx
  have e := hb b o hA
  have e0 : ∀ j, w'.cell? ⟨b, j, none⟩ = w.cell? ⟨b, j, none⟩ := fun j => World.cell?_of_block e
  refine ⟨b, o, hA, ?_, by rw [e0]; exact h0, by rw [e0]; exact h1, by rw [e0]; exact h2⟩
  have := World.block_lt_of_cell? w' _ ((e0 _).trans h0)
  exact this
/-- a transaction in memory: what it says, and where its writes lie -/
structure MTx where
  t : TxP
  A : Option Addr
  c : Nat
def MTx.cells (m : MTx) : List Value := [.int .i64 m.t.site, .int .i64 m.t.seq, .int .i64 m.t.wall, .int .i64 m.t.count, .int .i64 m.t.d0, .int .i64 m.t.d1, .int .i64 m.t.d2, .int .i64 m.t.d3, .slice m.A m.t.ws.length m.c]
def MTx.val (m : MTx) : Value := .agg #[.int .i64 m.t.site, .int .i64 m.t.seq, .int .i64 m.t.wall, .int .i64 m.t.count, .int .i64 m.t.d0, .int .i64 m.t.d1, .int .i64 m.t.d2, .int .i64 m.t.d3, .slice m.A m.t.ws.length m.c]
theorem cell9 {w : World} {b : Nat} {x0 x1 x2 x3 x4 x5 x6 x7 x8 : Value} {t : TypeId} (h : w.heap[b]? = some (.cells #[x0, x1, x2, x3, x4, x5, x6, x7, x8] t)) :
    w.cell? ⟨b, 0, none⟩ = some x0 ∧ w.cell? ⟨b, 1, none⟩ = some x1 ∧ w.cell? ⟨b, 2, none⟩ = some x2 ∧ w.cell? ⟨b, 3, none⟩ = some x3 ∧ w.cell? ⟨b, 4, none⟩ = some x4 ∧ w.cell? ⟨b, 5, none⟩ = some x5 ∧ w.cell? ⟨b, 6, none⟩ = some x6 ∧ w.cell? ⟨b, 7, none⟩ = some x7 ∧ w.cell? ⟨b, 8, none⟩ = some x8 :=
  ⟨cell_blk h 0, cell_blk h 1, cell_blk h 2, cell_blk h 3, cell_blk h 4, cell_blk h 5, cell_blk h 6, cell_blk h 7, cell_blk h 8⟩

set_option maxRecDepth 20000 in
set_option maxHeartbeats 4000000 in
theorem clone_any (t : TxP) (A : Option Addr) (c : Nat) (w : World) (hws : WsAt w A t.ws) (h0 : 0 < t.ws.length) (hn : t.ws.length ≤ 1000) :
    Calls Tryz.prog 81 #[MTx.val ⟨t, A, c⟩] w fun e w' => ∃ A' c', e = .returned (MTx.val ⟨t, A', c'⟩) ∧ WsAt w' A' t.ws ∧ Below w.heap.size w w' ∧ ∃ b, A' = some ⟨b, 0, none⟩ ∧ w.heap.size ≤ b := by
  have HC := hidp fun w' (hb : Below w.heap.size w w') => sclone_any A c t.ws w' (hws.below hb) h0 hn
  unfold MTx.val
  obtain ⟨site, seq, wall, count, d0, d1, d2, d3, ws⟩ := t
  simp only at *
  clear hws
  go_enter Tryz.func81, Tryz.ntmps81
  go_wp2_with fail
  go_at_call 79
  refine (HC.out _ (by repeat (first | exact Below.refl _ _ | refine blw_alloc ?_ | refine blw_plus ?_ | refine Below.drew ?_))).mono ?_
  rintro e w1 ⟨A', c', rfl, hw1, hb1, b, rfl, hbb⟩
  have HW := hidp hw1
  obtain ⟨x, rfl⟩ := wplus_of_below hb1
  clear hw1 hb1
  have HB2 := hidp hbb
  clear hbb
  go_wp2_with fail
  have hbb := HB2.out
  simp at hbb
  refine bodyPost_ret (v := MTx.val ⟨⟨site, seq, wall, count, d0, d1, d2, d3, ws⟩, some ⟨b, 0, none⟩, c'⟩) ?_ rfl ⟨some ⟨b, 0, none⟩, c', rfl, ?_, ?_, b, rfl, by omega⟩
  · simp [results, Tryz.results81, go_sem, MTx.val]
  · refine HW.out.move ?_
    intro b' o' e
    obtain ⟨rfl, rfl⟩ : b' = b ∧ o' = 0 := by simp at e; exact ⟨e.1.symm, e.2.symm⟩
    rw [wplus_heap_ge _ _ _ (by simp; omega), wplus_heap_ge _ _ _ (by simp; omega)]
    simp
  · repeat (first | exact Below.refl _ _ | refine blw_alloc ?_ | refine blw_plus ?_ | refine Below.drew ?_)
end Go.Proofs.YtbopfhbeegkkaabGreatDoor

namespace Go.Proofs.YtbopfhbeegkkaabGreatDoor
open Go.RowKit Go.WideMaps Go.WideShapes Go.ChangeShapes
open Go.Maps (Keyed)

/-- a value of the map is held as it is -/
def heldV (v : Value) : Option (DataW Value × List MemPlace) := some (.held v, [])
theorem laidOutD : laidOutB Tryz.prog = true := by kernel_rfl
theorem row151 : (160 : TypeId) < Tryz.prog.types.size := of_decide_eq_true (by kernel_rfl)
theorem wide151 : (match Tryz.prog.underlying 160 with | some (.array _ _) | some (.struct _) => true | _ => false) = true := by kernel_rfl
set_option maxRecDepth 100000 in
theorem law151 : KeyLaw Tryz.prog 160 := deep_law_laid laidOutD (m := 2) (by omega) row151 (by kernel_rfl) wide151
theorem keyed151 : Keyed Tryz.prog 160 := Keyed.of_law law151
def klOf (s q : Int) : Lit := .string (keyBytes [.int .i64 s, .int .i64 q])
def wf64 (z : Int) : Prop := -9223372036854775808 ≤ z ∧ z ≤ 9223372036854775807
theorem wf64_lit {z : Int} (h : wf64 z) : (Lit.int .i64 z).wf = true := by
  unfold wf64 at h
  simp [Lit.wf, IntKind.min, IntKind.max, IntKind.signed, IntKind.bits]; omega
theorem keyOf151 {s q : Int} (hs : wf64 s) (hq : wf64 q) : keyOf Tryz.prog 160 (.agg #[.int .i64 s, .int .i64 q]) = some (klOf s q) := by
  have h1 := wf64_lit hs
  have h2 := wf64_lit hq
  have hk : Tryz.prog.keyType 160 = true := by kernel_rfl
  have hc : Tryz.prog.cellsOf 160 = 2 := by kernel_rfl
  have h3 : Tryz.prog.cellsOf 3 = 1 := by kernel_rfl
  have hm : Tryz.prog.types.size = 410 + 1 := by kernel_rfl
  have hform : (Value.agg #[.int .i64 s, .int .i64 q]).formed Tryz.prog 160 = true := by simp [Value.formed, Tryz.underlying160, hc]
  unfold keyOf
  simp only [Tryz.underlying160]
  rw [if_pos (by rw [hk, hform]; rfl), hm]
  unfold Program.keyLits
  simp only [Tryz.underlying160, Value.cells]
  rw [if_pos (by rw [hc]; exact ⟨rfl, by simp⟩)]
  simp only [List.mapM_cons, List.mapM_nil]
  simp [h3, Program.keyLits, Tryz.underlying3, h1, h2, klOf]

theorem klOf_ne {s q s' q' : Int} (hs : wf64 s) (hq : wf64 q) (hs' : wf64 s') (hq' : wf64 q') (h : ¬ (s = s' ∧ q = q')) : klOf s q ≠ klOf s' q' := by
  intro e
  have := keyed151.inj (keyOf151 hs hq) (by rw [e]; exact keyOf151 hs' hq')
  simp only [Value.agg.injEq, Array.mk.injEq, List.cons.injEq, Value.int.injEq, true_and, and_true] at this
  exact h this
theorem klOf_key {s q : Int} (hs : wf64 s) (hq : wf64 q) : WideAt.IsKeyLit (klOf s q) := keyed151.key (keyOf151 hs hq)
def txZero : Value := .agg #[.int .i64 0, .int .i64 0, .int .i64 0, .int .i64 0, .int .i64 0, .int .i64 0, .int .i64 0, .int .i64 0, .slice none 0 0]
theorem zero40 (w : World) : (zeroValue 44).run Tryz.prog w = .ok txZero w := by kernel_rfl
theorem map146 : Tryz.prog.underlying 141 = some (.map 160 44) := Tryz.underlying141

/-- the block m is a map that has just what f says -/
def MpAt (w : World) (m : Nat) (f : Int → Int → Option Value) (sz : Nat) : Prop :=
  ∃ D : DataW Value, w.ownsMap Tryz.prog 160 heldV m sz D ∧ Maps.size D = sz ∧ ∀ s q, wf64 s → wf64 q → Maps.has D (klOf s q) = (f s q).isSome ∧ ∀ z, D.atKey (klOf s q) z = match f s q with | some v => .held v | none => z
theorem MpAt.lt {w : World} {m sz : Nat} {f : Int → Int → Option Value} (h : MpAt w m f sz) : m < w.heap.size := by
  obtain ⟨D, h1, _⟩ := h
  exact h1.lt
theorem MpAt.kept {w w' : World} {m sz : Nat} {f : Int → Int → Option Value} {row : Option Nat} (h : MpAt w m f sz) (hg : w.grownBy w' row) (hne : some m ≠ row) : MpAt w' m f sz := by
  obtain ⟨D, h1, h2, h3⟩ := h
  exact ⟨D, h1.kept hg hne, h2, h3⟩
theorem MpAt.block {w w' : World} {m sz : Nat} {f : Int → Int → Option Value} (h : MpAt w m f sz) (hb : w'.heap[m]? = w.heap[m]?) : MpAt w' m f sz := by
  obtain ⟨D, ⟨es, clock, e1, e2⟩, h2, h3⟩ := h
  exact ⟨D, ⟨es, clock, hb.trans e1, e2⟩, h2, h3⟩
theorem MpAt.below {w w' : World} {m sz : Nat} {f : Int → Int → Option Value} (h : MpAt w m f sz) (hb : Below w.heap.size w w') : MpAt w' m f sz := h.block (hb.block m h.lt)
theorem MpAt.made {w : World} {m : Nat} (h : w.heap[m]? = some (.map #[] 0)) : MpAt w m (fun _ _ => none) 0 := by
  have h1 := World.ownsMap_made (H := Value) w Tryz.prog 160 heldV
  obtain ⟨es, clock, e1, e2⟩ := h1
  have e3 : (w.alloc (.map #[] 0)).heap[w.heap.size]? = some (.map #[] 0) := by rw [heap_alloc, if_pos rfl]
  rw [e3] at e1
  refine ⟨.map [], ⟨es, clock, h.trans e1, e2⟩, rfl, fun s q _ _ => ⟨rfl, fun z => rfl⟩⟩
theorem MpAt.look {w : World} {m sz : Nat} {f : Int → Int → Option Value} (h : MpAt w m f sz) {s q : Int} (hs : wf64 s) (hq : wf64 q) :
    (Instr.lookup 141 (.map (some m)) (.agg #[.int .i64 s, .int .i64 q]) true).run Tryz.prog w = .ok (.tuple #[(f s q).getD txZero, .bool (f s q).isSome]) w := by
  obtain ⟨D, h1, h2, h3⟩ := h
  obtain ⟨v, ps, hrun, hv⟩ := h1.look_ok keyed151 map146 (zero40 w) (zd := .held txZero) (zp := []) rfl (keyOf151 hs hq)
  obtain ⟨e1, e2⟩ := h3 s q hs hq
  rw [hrun, e1]
  simp only [heldV, Option.some.injEq, Prod.mk.injEq] at hv
  have := e2 (.held txZero)
  rw [← hv.1] at this
  cases hf : f s q with
  | none => rw [hf] at this; simp only [DataW.held.injEq] at this; rw [this]; rfl
  | some u => rw [hf] at this; simp only [DataW.held.injEq] at this; rw [this]; rfl
theorem MpAt.len {w : World} {m sz : Nat} {f : Int → Int → Option Value} (h : MpAt w m f sz) (ty : TypeId) : (Builtin.len_ #[141] ty #[.map (some m)]).run Tryz.prog w = .ok (.int .i64 sz) w := by
  obtain ⟨D, h1, h2, h3⟩ := h
  rw [h1.len map146 ty, h2]
def mput (f : Int → Int → Option Value) (s q : Int) (v : Option Value) : Int → Int → Option Value := fun s' q' => if s' = s ∧ q' = q then v else f s' q'
theorem tight {w : World} {m n : Nat} {D : DataW Value} (h : w.ownsMap Tryz.prog 160 heldV m n D) : w.ownsMap Tryz.prog 160 heldV m (Maps.size D) D := by
  obtain ⟨es, clock, hb, F, hs, hD⟩ := h
  refine ⟨es, clock, hb, F, ?_, hD⟩
  rw [hD]
  simp [Maps.size, length_sorted]
theorem MpAt.store {w : World} {m sz : Nat} {f : Int → Int → Option Value} (h : MpAt w m f sz) (hn : sz ≤ 1000000) {s q : Int} (hs : wf64 s) (hq : wf64 q) (v : Value) :
    ∃ w', (Instr.mapUpdate 141 (.map (some m)) (.agg #[.int .i64 s, .int .i64 q]) v).run Tryz.prog w = .ok () w' ∧ MpAt w' m (mput f s q (some v)) (if (f s q).isSome then sz else sz + 1) ∧ w.mapTurned w' m := by
  obtain ⟨D, h1, h2, h3⟩ := h
  obtain ⟨w', hrun, r1, r2⟩ := h1.store keyed151 map146 (by simp only [maxLen]; omega) (keyOf151 hs hq) (val := v) (d := .held v) (ps := []) rfl
  have hsz : Maps.size (D.put (klOf s q) (.held v)) = if (f s q).isSome then sz else sz + 1 := by
    rw [Maps.size_put (h1.tidy keyed151), (h3 s q hs hq).1, h2]
  refine ⟨w', hrun, ⟨_, ?_, hsz, ?_⟩, r2⟩
  · rw [← hsz]; exact tight r1
  · intro s' q' hs' hq'
    unfold mput
    by_cases e : s' = s ∧ q' = q
    · obtain ⟨rfl, rfl⟩ := e
      simp only [and_self, if_true]
      exact ⟨Maps.has_put_same h1.isMap (klOf_key hs hq) _, fun z => Maps.atKey_put_same h1.isMap (klOf_key hs hq) _ z⟩
    · have hne := klOf_ne hs' hq' hs hq e
      rw [if_neg e]
      exact ⟨(Maps.has_put_other hne _).trans (h3 s' q' hs' hq').1, fun z => (Maps.atKey_put_other hne _ z).trans ((h3 s' q' hs' hq').2 z)⟩
theorem MpAt.drop {w : World} {m sz : Nat} {f : Int → Int → Option Value} (h : MpAt w m f sz) {s q : Int} (hs : wf64 s) (hq : wf64 q) (ty : TypeId) :
    ∃ w', (Builtin.delete_ #[141, 160] ty #[.map (some m), .agg #[.int .i64 s, .int .i64 q]]).run Tryz.prog w = .ok (.tuple #[]) w' ∧ MpAt w' m (mput f s q none) (if (f s q).isSome then sz - 1 else sz) ∧ w.mapTurned w' m := by
  obtain ⟨D, h1, h2, h3⟩ := h
  obtain ⟨w', hrun, r1, r2⟩ := h1.drop keyed151 map146 (keyOf151 hs hq) ty
  have hsz : Maps.size (D.del (klOf s q)) = if (f s q).isSome then sz - 1 else sz := by
    have := Maps.size_del (k := klOf s q) (h1.tidy keyed151)
    rw [(h3 s q hs hq).1, h2] at this
    split <;> simp_all <;> omega
  refine ⟨w', hrun, ⟨_, ?_, hsz, ?_⟩, r2⟩
  · rw [← hsz]; exact tight r1
  · intro s' q' hs' hq'
    unfold mput
    by_cases e : s' = s ∧ q' = q
    · obtain ⟨rfl, rfl⟩ := e
      simp only [and_self, if_true]
      exact ⟨Maps.has_del_same, fun z => Maps.atKey_del_same z⟩
    · have hne := klOf_ne hs' hq' hs hq e
      rw [if_neg e]
      exact ⟨(Maps.has_del_other hne).trans (h3 s' q' hs' hq').1, fun z => (Maps.atKey_del_other hne z).trans ((h3 s' q' hs' hq').2 z)⟩
end Go.Proofs.YtbopfhbeegkkaabGreatDoor

namespace Go.Proofs.YtbopfhbeegkkaabGreatDoor
open Go.RowKit

/-- what a site has -/
structure SiP where
  id : Int
  p0 : Int
  p1 : Int
  p2 : Int
  p3 : Int
  lw : Int
  lc : Int
  log : List MTx
  wt : Int → Int → Option MTx
  wn : Nat
  st : Nat → List VerP
  ot : Nat → Int
/-- the blocks that a site writes -/
def SiOwn (x mb : Nat) (lv : Value) (sv : Nat → Value) (b : Nat) : Prop := b = x ∨ b = mb ∨ lv.ownBlock = some b ∨ ∃ k, k < 8 ∧ (sv k).ownBlock = some b
/-- the transactions that it has, or that wait -/
def SiP.has (s : SiP) (m : MTx) : Prop := m ∈ s.log ∨ ∃ a b, s.wt a b = some m
structure SiAt (w : World) (B x : Nat) (s : SiP) (mb : Nat) (lv : Value) (sv : Nat → Value) : Prop where
  c0 : w.cell? ⟨x, 0, none⟩ = some (.int .i64 s.id)
  c1 : w.cell? ⟨x, 1, none⟩ = some (.int .i64 s.p0)
  c2 : w.cell? ⟨x, 2, none⟩ = some (.int .i64 s.p1)
  c3 : w.cell? ⟨x, 3, none⟩ = some (.int .i64 s.p2)
  c4 : w.cell? ⟨x, 4, none⟩ = some (.int .i64 s.p3)
  c5 : w.cell? ⟨x, 5, none⟩ = some (.int .i64 s.lw)
  c6 : w.cell? ⟨x, 6, none⟩ = some (.int .i64 s.lc)
  c7 : w.cell? ⟨x, 7, none⟩ = some lv
  c8 : w.cell? ⟨x, 8, none⟩ = some (.map (some mb))
  oth : ∀ k, k < 16 → w.cell? ⟨x, 17 + k, none⟩ = some (.int .i64 (s.ot k))
  frz : ∀ k, w.frozen? ⟨x, k, none⟩ = false
  sto : StAt w x 9 B s.st sv
  row : w.ownsRow B 44 9 lv s.log.length (s.log.flatMap MTx.cells)
  map : MpAt w mb (fun a b => (s.wt a b).map MTx.val) s.wn
  bx : B ≤ x
  bm : B ≤ mb
  dxm : mb ≠ x
  dxl : lv.ownBlock ≠ some x
  dml : lv.ownBlock ≠ some mb
  dms : ∀ k, k < 8 → (sv k).ownBlock ≠ some mb
  dls : ∀ k, k < 8 → ∀ b, lv.ownBlock = some b → (sv k).ownBlock ≠ some b
  dat : ∀ m, s.has m → WsAt w m.A m.t.ws ∧ ∀ b o, m.A = some ⟨b, o, none⟩ → b < w.heap.size ∧ ¬ SiOwn x mb lv sv b
/-- what a site's work leaves alone -/
structure SiFr (w w' : World) (own own' : Nat → Prop) : Prop where
  os : w'.os = w.os
  tape : w'.tape = w.tape
  output : w'.output = w.output
  size : w.heap.size ≤ w'.heap.size
  block : ∀ k, k < w.heap.size → ¬ own k → w'.heap[k]? = w.heap[k]?
  own : ∀ b, own' b → own b ∨ w.heap.size ≤ b
theorem SiAt.lt {w : World} {B x mb : Nat} {s : SiP} {lv : Value} {sv : Nat → Value} (h : SiAt w B x s mb lv sv) {b : Nat} (hb : SiOwn x mb lv sv b) : B ≤ b ∧ b < w.heap.size := by
  rcases hb with rfl | rfl | hb | ⟨k, hk, hb⟩
  · exact ⟨h.bx, h.sto.lt⟩
  · exact ⟨h.bm, h.map.lt⟩
  · exact own_ge h.row hb
  · exact own_ge (h.sto.own k hk) hb
theorem WsAt.keep {w w' : World} {A : Option Addr} {ws : List WrP} (h : WsAt w A ws) (hb : ∀ b o, A = some ⟨b, o, none⟩ → w'.heap[b]? = w.heap[b]?) : WsAt w' A ws := h.move hb
/-- the site is as it was where none of its blocks, nor of its transactions' writes, was written -/
theorem SiAt.same {w w' : World} {B x mb : Nat} {s : SiP} {lv : Value} {sv : Nat → Value} (h : SiAt w B x s mb lv sv) (hsz : w.heap.size ≤ w'.heap.size) (ho : ∀ b, SiOwn x mb lv sv b → w'.heap[b]? = w.heap[b]?)
    (hd : ∀ m, s.has m → ∀ b o, m.A = some ⟨b, o, none⟩ → w'.heap[b]? = w.heap[b]?) : SiAt w' B x s mb lv sv := by
  have hx := ho x (.inl rfl)
  have hc : ∀ k, w'.cell? ⟨x, k, none⟩ = w.cell? ⟨x, k, none⟩ := fun k => World.cell?_of_block hx
  have hf : ∀ k, w'.frozen? ⟨x, k, none⟩ = w.frozen? ⟨x, k, none⟩ := fun k => World.frozen?_of_block hx
  have hrow : ∀ {e n z : Nat} {v : Value} {xs : List Value}, w.ownsRow B e z v n xs → (∀ b, v.ownBlock = some b → w'.heap[b]? = w.heap[b]?) → w'.ownsRow B e z v n xs := by
    intro e n z v xs h1 h2
    obtain ⟨hl, hn | ⟨g, cap, cur, hv, hb, hg, rest⟩⟩ := h1
    · exact ⟨hl, .inl hn⟩
    · exact ⟨hl, .inr ⟨g, cap, cur, hv, hb, by rw [h2 g (by rw [hv]; rfl)]; exact hg, rest⟩⟩
  refine ⟨(hc 0).trans h.c0, (hc 1).trans h.c1, (hc 2).trans h.c2, (hc 3).trans h.c3, (hc 4).trans h.c4, (hc 5).trans h.c5, (hc 6).trans h.c6, (hc 7).trans h.c7, (hc 8).trans h.c8, fun k hk => (hc _).trans (h.oth k hk), fun k => (hf k).trans (h.frz k), ?_, ?_, ?_, h.bx, h.bm, h.dxm, h.dxl, h.dml, h.dms, h.dls, ?_⟩
  · exact ⟨Nat.lt_of_lt_of_le h.sto.lt hsz, fun k hk => (hc _).trans (h.sto.cel k hk), fun k hk => (hf _).trans (h.sto.frz k hk), fun k hk => hrow (h.sto.own k hk) (fun b e => ho b (.inr (.inr (.inr ⟨k, hk, e⟩)))), h.sto.ng, h.sto.dis⟩
  · exact hrow h.row (fun b e => ho b (.inr (.inr (.inl e))))
  · exact h.map.block (ho mb (.inr (.inl rfl)))
  · intro m hm
    obtain ⟨h1, h2⟩ := h.dat m hm
    exact ⟨h1.keep (hd m hm), fun b o e => ⟨Nat.lt_of_lt_of_le (h2 b o e).1 hsz, (h2 b o e).2⟩⟩
theorem SiAt.below {w w' : World} {B x mb : Nat} {s : SiP} {lv : Value} {sv : Nat → Value} (h : SiAt w B x s mb lv sv) (hb : Below w.heap.size w w') : SiAt w' B x s mb lv sv :=
  h.same hb.size (fun b hb' => hb.block b (h.lt hb').2) (fun m hm b o e => hb.block b ((h.dat m hm).2 b o e).1)
/-- another site's work, that shares no block with it, leaves it as it was -/
theorem SiAt.beside {w w' : World} {B x mb : Nat} {s : SiP} {lv : Value} {sv : Nat → Value} {own own' : Nat → Prop} (h : SiAt w B x s mb lv sv) (fr : SiFr w w' own own') (hd : ∀ b, SiOwn x mb lv sv b → ¬ own b)
    (hdd : ∀ m, s.has m → ∀ b o, m.A = some ⟨b, o, none⟩ → ¬ own b) : SiAt w' B x s mb lv sv :=
  h.same fr.size (fun b hb => fr.block b (h.lt hb).2 (hd b hb)) (fun m hm b o e => fr.block b ((h.dat m hm).2 b o e).1 (hdd m hm b o e))
theorem SiFr.of_below {w w' : World} (own : Nat → Prop) (hb : Below w.heap.size w w') : SiFr w w' own own :=
  ⟨hb.os, hb.tape, hb.output, hb.size, fun k hk _ => hb.block k hk, fun _ h => .inl h⟩
theorem SiFr.trans {w W W' : World} {o1 o2 o3 : Nat → Prop} (h : SiFr w W o1 o2) (h2 : SiFr W W' o2 o3) : SiFr w W' o1 o3 :=
  ⟨h2.os.trans h.os, h2.tape.trans h.tape, h2.output.trans h.output, Nat.le_trans h.size h2.size,
   fun k hk hn => (h2.block k (Nat.lt_of_lt_of_le hk h.size) (fun e => (h.own k e).elim hn (fun e2 => absurd hk (by omega)))).trans (h.block k hk hn),
   fun b hb => (h2.own b hb).elim (h.own b) (fun e => .inr (Nat.le_trans h.size e))⟩
theorem SiFr.low {w w' : World} {own own' : Nat → Prop} {n : Nat} (h : SiFr w w' own own') (ho : ∀ b, own b → n ≤ b) (hn : n ≤ w.heap.size) : Below n w w' :=
  ⟨h.os, h.tape, h.output, h.size, fun k hk => h.block k (by omega) (fun e => by have := ho k e; omega)⟩
end Go.Proofs.YtbopfhbeegkkaabGreatDoor

namespace Go.Proofs.YtbopfhbeegkkaabGreatDoor
open Go.RowKit

set_option maxHeartbeats 400000 in
theorem max1_any (a b : Int) (w : World) :
    Calls Tryz.prog 139 #[.int .i64 a, .int .i64 b] w fun e w' => e = .returned (.int .i64 (max a b)) ∧ w = w' := by
  rcases Int.le_total a b with h | h
  · rw [Int.max_eq_right h]
    by_cases h1 : a < b
    all_goals
      go_enter Tryz.func139, Tryz.ntmps139
      go_wp2
      all_goals go_ret
      all_goals exact ⟨by simp; try omega, rfl⟩
  · rw [Int.max_eq_left h]
    by_cases h1 : b < a
    all_goals
      go_enter Tryz.func139, Tryz.ntmps139
      go_wp2
      all_goals go_ret
      all_goals exact ⟨by simp; try omega, rfl⟩

set_option maxHeartbeats 1000000 in
theorem eachMax_any (a0 a1 a2 a3 b0 b1 b2 b3 : Int) (w : World) :
    Calls Tryz.prog 138 #[.agg #[.int .i64 a0, .int .i64 a1, .int .i64 a2, .int .i64 a3], .agg #[.int .i64 b0, .int .i64 b1, .int .i64 b2, .int .i64 b3], .func (.func 139) #[] #[]] w
      fun e w' => e = .returned (.agg #[.int .i64 (max a0 b0), .int .i64 (max a1 b1), .int .i64 (max a2 b2), .int .i64 (max a3 b3)]) ∧ Below w.heap.size w w' := by
  go_enter Tryz.func138, Tryz.ntmps138
  go_wp2
  refine wp_loop_rounds 5 ?_
  rw [rounds_succ]
  go_wp2
  refine wp_region_plus_tail 10 (by kernel_rfl) (by kernel_rfl) ?_
  simp only [List.take_succ_cons, List.take_zero, List.drop_succ_cons, List.drop_zero]
  repeat (first | go_big_quiet_skip | (go_big_quiet_want; go_big_quiet_op; first | go_big_quiet_on | (apply Exists.intro; refine ⟨fun _ => Calls.plus_same (max1_any _ _ _), ?_⟩; go_big_quiet_on)))
  refine wpQuiet_nil ?_
  rintro _ ⟨x0, rfl⟩
  go_wp2
  rw [rounds_succ]
  go_wp2
  refine wp_region_plus_tail 10 (by kernel_rfl) (by kernel_rfl) ?_
  simp only [List.take_succ_cons, List.take_zero, List.drop_succ_cons, List.drop_zero]
  repeat (first | go_big_quiet_skip | (go_big_quiet_want; go_big_quiet_op; first | go_big_quiet_on | (apply Exists.intro; refine ⟨fun _ => Calls.plus_same (max1_any _ _ _), ?_⟩; go_big_quiet_on)))
  refine wpQuiet_nil ?_
  rintro _ ⟨x1, rfl⟩
  go_wp2
  rw [rounds_succ]
  go_wp2
  refine wp_region_plus_tail 10 (by kernel_rfl) (by kernel_rfl) ?_
  simp only [List.take_succ_cons, List.take_zero, List.drop_succ_cons, List.drop_zero]
  repeat (first | go_big_quiet_skip | (go_big_quiet_want; go_big_quiet_op; first | go_big_quiet_on | (apply Exists.intro; refine ⟨fun _ => Calls.plus_same (max1_any _ _ _), ?_⟩; go_big_quiet_on)))
  refine wpQuiet_nil ?_
  rintro _ ⟨x2, rfl⟩
  go_wp2
  rw [rounds_succ]
  go_wp2
  refine wp_region_plus_tail 10 (by kernel_rfl) (by kernel_rfl) ?_
  simp only [List.take_succ_cons, List.take_zero, List.drop_succ_cons, List.drop_zero]
  repeat (first | go_big_quiet_skip | (go_big_quiet_want; go_big_quiet_op; first | go_big_quiet_on | (apply Exists.intro; refine ⟨fun _ => Calls.plus_same (max1_any _ _ _), ?_⟩; go_big_quiet_on)))
  refine wpQuiet_nil ?_
  rintro _ ⟨x3, rfl⟩
  go_wp2
  rw [rounds_succ]
  go_wp2
  exact bodyPost_ret (v := .agg #[.int .i64 (max a0 b0), .int .i64 (max a1 b1), .int .i64 (max a2 b2), .int .i64 (max a3 b3)]) (by simp [results, Tryz.results138, go_sem]) rfl ⟨rfl, (by repeat (first | exact Below.refl _ _ | refine blw_alloc ?_ | refine blw_plus ?_ | refine Below.drew ?_))⟩

set_option maxHeartbeats 400000 in
theorem vMax_any (a0 a1 a2 a3 b0 b1 b2 b3 : Int) (w : World) :
    Calls Tryz.prog 87 #[.agg #[.int .i64 a0, .int .i64 a1, .int .i64 a2, .int .i64 a3], .agg #[.int .i64 b0, .int .i64 b1, .int .i64 b2, .int .i64 b3]] w
      fun e w' => e = .returned (.agg #[.int .i64 (max a0 b0), .int .i64 (max a1 b1), .int .i64 (max a2 b2), .int .i64 (max a3 b3)]) ∧ Below w.heap.size w w' := by
  go_enter Tryz.func87, Tryz.ntmps87
  go_wp2_with (go_at_call 138; refine (eachMax_any _ _ _ _ _ _ _ _ _).mono ?_; rintro e w' ⟨rfl, hb⟩; obtain ⟨x, rfl⟩ := wplus_of_below hb; clear hb)
  exact bodyPost_ret (v := .agg #[.int .i64 (max a0 b0), .int .i64 (max a1 b1), .int .i64 (max a2 b2), .int .i64 (max a3 b3)]) (by simp [results, Tryz.results87, go_sem]) rfl ⟨rfl, (by repeat (first | exact Below.refl _ _ | refine blw_alloc ?_ | refine blw_plus ?_ | refine Below.drew ?_))⟩


def pickN (a : Int) (n : Nat) : Nat := (IntKind.u64.wrap a).toNat % n
theorem pickN_lt (a : Int) {n : Nat} (hn : 0 < n) : pickN a n < n := Nat.mod_lt _ hn
theorem pick_is (a : Int) (n : Nat) (w : World) (hn : 0 < n) (hn2 : n ≤ 1000000) :
    Calls Tryz.prog 105 #[.int .i64 a, .int .i64 n] w fun e w' => e = .returned (.int .i64 (pickN a n)) ∧ w = w' := by
  go_enter Tryz.func105, Tryz.ntmps105
  go_wp2
  go_ret
  have h1 : 0 ≤ IntKind.u64.wrap a := by simp [IntKind.wrap, IntKind.signed, IntKind.bits]; omega
  obtain ⟨x, hx⟩ := Int.eq_ofNat_of_zero_le h1
  have h2 : (IntKind.u64.wrap a).tmod (n : Int) = ((x % n : Nat) : Int) := by rw [hx]; rfl
  have h3 : x % n < n := Nat.mod_lt _ hn
  have h5 : pickN a n = x % n := by unfold pickN; rw [hx]; rfl
  refine ⟨?_, rfl⟩
  have h4 : wrap64 ((x % n : Nat) : Int) = ((x % n : Nat) : Int) := by unfold wrap64; omega
  rw [h2, h4, h5]
  rfl
theorem tell_any (n : Int) (w : World) (hg : EType w) : Calls Tryz.prog 61 #[errV n] w fun e w' => e = .returned (.int .i64 n) ∧ Below w.heap.size w w' := by
  unfold errV
  split
  · rename_i h
    subst h
    exact (tell_nil w).mono fun e w' ⟨h1, h2⟩ => ⟨h1, h2 ▸ Below.refl _ _⟩
  · exact tell_errno n w hg
end Go.Proofs.YtbopfhbeegkkaabGreatDoor
