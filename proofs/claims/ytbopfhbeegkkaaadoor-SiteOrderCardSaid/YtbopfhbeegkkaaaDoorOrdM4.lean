/- Part 4 of a proof: lemmas and contracts that the parts behind it use. -/
import Derived.Test.YtbopfhbeegkkaaaDoorOrdM3
import Derived.RangeFuncNested
import Derived.RangeFuncBound
import Derived.RangeFuncCalls
import Derived.Shelf.RegionOpen
import Derived.Maps.OwnSet
import Derived.DeepKeys4
namespace Go.Proofs.YtbopfhbeegkkaaaDoor
open Go.RowKit Go.Shelf

attribute [local go_sem] Oper.semAt_some

def verZ : VerP := ⟨0, 0, 0, 0, ⟨#[]⟩, false⟩
def findV (a0 a1 a2 a3 : Int) (vs : List VerP) : Option VerP := vs.reverse.find? (seenV a0 a1 a2 a3)
def readR (a0 a1 a2 a3 : Int) (S : Nat → List VerP) (key : Int) : VerP × Int :=
  if key < 0 ∨ 8 ≤ key then (verZ, 2) else match findV a0 a1 a2 a3 (S key.toNat) with
    | some v => if v.gone = true then (verZ, 8) else (v, 0)
    | none => (verZ, 8)

theorem upto_find (p : VerP → Bool) (vs : List VerP) (k : Nat) (hk : k < vs.length) (h : ∀ x ∈ bUpto vs k, p (vs.getD x default) = false) (hx : p (vs.getD (vs.length - 1 - k) default) = true) : vs.reverse.find? p = some (vs.getD (vs.length - 1 - k) default) := by
  rw [List.find?_eq_some_iff_getElem]
  refine ⟨hx, k, by simpa using hk, ?_, ?_⟩
  · rw [List.getElem_reverse, List.getD_eq_getElem?_getD, List.getElem?_eq_getElem (by omega)]; rfl
  · intro j hj
    have hjl : vs.length - 1 - j < vs.length := by omega
    have := h (vs.length - 1 - j) (by simp only [bUpto, List.mem_map, List.mem_range]; exact ⟨j, hj, rfl⟩)
    rw [List.getD_eq_getElem?_getD, List.getElem?_eq_getElem hjl] at this
    rw [List.getElem_reverse]
    simpa using this
theorem upto_none (p : VerP → Bool) (vs : List VerP) (h : ∀ x ∈ bUpto vs vs.length, p (vs.getD x default) = false) : vs.reverse.find? p = none := by
  rw [List.find?_eq_none]
  intro y hy
  obtain ⟨i, hi, rfl⟩ := List.getElem_of_mem (List.mem_reverse.1 hy)
  have := h i (by simp only [bUpto, List.mem_map, List.mem_range]; exact ⟨vs.length - 1 - i, by omega, by omega⟩)
  rw [List.getD_eq_getElem?_getD, List.getElem?_eq_getElem hi] at this
  simpa using this
theorem blk_own {β : Type} (B : Nat) (cs : Array Value) (t : TypeId) : Own (fun (_ : β) (W : World) => W.heap[B]? = some (.cells cs t)) := fun s X Y row hs hg hrow =>
  (hg.block B (lt_blk hs) (fun e' => by obtain ⟨o, ho, hc⟩ := hrow B e'.symm; rw [hs] at ho; cases ho; cases hc)).trans hs
theorem blk_new {W : World} {n : Nat} (hn : n = W.heap.size) (o : Obj) : (W.alloc o).heap[n]? = some o := by subst hn; exact World.alloc_heap_new W o
theorem blk_alloc {W : World} {B : Nat} {o : Obj} (h : W.heap[B]? = some o) (o' : Obj) : (W.alloc o').heap[B]? = some o := (Below.heap_alloc W o' B (lt_blk h)).trans h

/-- a version and an error written into two result cells -/
def resW (W : World) (b : Nat) (v0 v1 v2 v3 v4 v5 u : Value) : World :=
  ((((((W.setCell ⟨b + 1, 0, none⟩ v0).setCell ⟨b + 1, 1, none⟩ v1).setCell ⟨b + 1, 2, none⟩ v2).setCell ⟨b + 1, 3, none⟩ v3).setCell ⟨b + 1, 4, none⟩ v4).setCell ⟨b + 1, 5, none⟩ v5).setCell ⟨b + 1 + 1, 0, none⟩ u
theorem resW_spec {W : World} {b : Nat} {x0 x1 x2 x3 x4 x5 x6 : Value} (v0 v1 v2 v3 v4 v5 u : Value) (c1 : W.heap[b + 1]? = some (.cells #[x0, x1, x2, x3, x4, x5] 71)) (c2 : W.heap[b + 1 + 1]? = some (.cells #[x6] 28)) :
    (resW W b v0 v1 v2 v3 v4 v5 u).heap[b + 1]? = some (.cells #[v0, v1, v2, v3, v4, v5] 71) ∧ (resW W b v0 v1 v2 v3 v4 v5 u).heap[b + 1 + 1]? = some (.cells #[u] 28) ∧ Below b W (resW W b v0 v1 v2 v3 v4 v5 u) ∧ KeepsOthers W (resW W b v0 v1 v2 v3 v4 v5 u) := by
  have h0 := blk_set c1 0 v0
  have h1 := blk_set h0 1 v1
  have h2 := blk_set h1 2 v2
  have h3 := blk_set h2 3 v3
  have h4 := blk_set h3 4 v4
  have h5 := blk_set h4 5 v5
  have hb5 : Below b W ((((((W.setCell ⟨b + 1, 0, none⟩ v0).setCell ⟨b + 1, 1, none⟩ v1).setCell ⟨b + 1, 2, none⟩ v2).setCell ⟨b + 1, 3, none⟩ v3).setCell ⟨b + 1, 4, none⟩ v4).setCell ⟨b + 1, 5, none⟩ v5) :=
    ((((((Below.refl b W).setCell (p := ⟨b + 1, 0, none⟩) (by simp) _).setCell (p := ⟨b + 1, 1, none⟩) (by simp) _).setCell (p := ⟨b + 1, 2, none⟩) (by simp) _).setCell (p := ⟨b + 1, 3, none⟩) (by simp) _).setCell (p := ⟨b + 1, 4, none⟩) (by simp) _).setCell (p := ⟨b + 1, 5, none⟩) (by simp) _
  have g : ∀ (X : World) (k : Nat) (v : Value), b + 1 + 1 < X.heap.size → (X.setCell ⟨b + 1, k, none⟩ v).heap[b + 1 + 1]? = X.heap[b + 1 + 1]? := fun X k v hl => (grown_set X (b + 1) k v).block (b + 1 + 1) hl (by simp)
  have c6 : ((((((W.setCell ⟨b + 1, 0, none⟩ v0).setCell ⟨b + 1, 1, none⟩ v1).setCell ⟨b + 1, 2, none⟩ v2).setCell ⟨b + 1, 3, none⟩ v3).setCell ⟨b + 1, 4, none⟩ v4).setCell ⟨b + 1, 5, none⟩ v5).heap[b + 1 + 1]? = some (.cells #[x6] 28) := by
    have hl := lt_blk c2
    rw [g _ _ _ (by simpa using hl), g _ _ _ (by simpa using hl), g _ _ _ (by simpa using hl), g _ _ _ (by simpa using hl), g _ _ _ (by simpa using hl), g _ _ _ hl]
    exact c2
  refine ⟨?_, ?_, hb5.setCell (p := ⟨b + 1 + 1, 0, none⟩) (by simp; omega) _, ?_⟩
  · unfold resW
    rw [(grown_set _ (b + 1 + 1) 0 u).block (b + 1) (by have := lt_blk c1; simpa using this) (by simp)]
    exact h5
  · exact blk_set c6 0 u
  · exact ((((((KeepsOthers.setCell _ _ _).trans (KeepsOthers.setCell _ _ _)).trans (KeepsOthers.setCell _ _ _)).trans (KeepsOthers.setCell _ _ _)).trans (KeepsOthers.setCell _ _ _)).trans (KeepsOthers.setCell _ _ _)).trans (KeepsOthers.setCell _ _ _)

theorem put_blk {W : World} {D B : Nat} {o : Obj} (o' : Obj) (h : W.heap[B]? = some o) (hne : B ≠ D) : (W.putObj D o').heap[B]? = some o :=
  ((grownBy_putObj' W D o').block B (lt_blk h) (by simp; omega)).trans h
set_option maxRecDepth 100000 in
set_option maxHeartbeats 4000000 in
theorem readS_in (g o B k : Nat) (S : Nat → List VerP) (sv : Nat → Value) (a0 a1 a2 a3 : Int) (w : World) (hst : StAt w g o B S sv) (hk : k < 8) (hok : ∀ x ∈ S k, 0 ≤ x.site ∧ x.site < 4) (hlen : (S k).length ≤ 900000) :
    CallsIn Fence.wide 5 Tryd.prog 36 #[.pointer (some ⟨g, o, none⟩), .int .i64 k, .agg #[.int .i64 a0, .int .i64 a1, .int .i64 a2, .int .i64 a3]] w fun e w' =>
      e = .returned (.tuple #[verV (readR a0 a1 a2 a3 S k).1, errV (readR a0 a1 a2 a3 S k).2]) ∧ Below w.heap.size w w' := by
  have hlg := hst.lt
  obtain ⟨hc1, hc2⟩ := hst.cell hk
  obtain ⟨A, c, hsv⟩ := own_form (hst.own k hk)
  rw [hsv] at hc1
  haveI : SzGe (g + 1) w := ⟨hlg⟩
  refine callsIn_of_wp_marks Tryd.func36 rfl trivial ?_
  simp only [Tryd.ntmps36, List.size_toArray, List.length_cons, List.length_nil, Nat.reduceAdd, Nat.reduceSub, Array.replicate_succ, Array.replicate_zero, List.push_toArray, List.append_toArray, List.nil_append, List.cons_append]
  gi_wp2_with fail
  refine ⟨trivial, (backward_in Fence.wide 4 trivial rfl A (S k).length c _).mono ?_⟩
  rintro e _ ⟨rfl, rfl⟩
  gi_wp2_with fail
  generalize HW4 : World.alloc _ (Obj.cells #[.slice A (S k).length c] 63) = w4
  have b0 : w4.heap[w.heap.size]? = some (.cells #[.int .i64 a0, .int .i64 a1, .int .i64 a2, .int .i64 a3] 37) := by rw [← HW4]; exact blk_alloc (blk_alloc (blk_alloc (blk_new rfl _) _) _) _
  have b1 : w4.heap[w.heap.size + 1]? = some (.cells #[.int .i64 0, .int .i64 0, .int .i64 0, .int .i64 0, .string ⟨#[]⟩, .bool false] 71) := by rw [← HW4]; exact blk_alloc (blk_alloc (blk_new (by simp) _) _) _
  have b2 : w4.heap[w.heap.size + 2]? = some (.cells #[.nilIface] 28) := by rw [← HW4]; exact blk_alloc (blk_new (by simp) _) _
  have b3 : w4.heap[w.heap.size + 3]? = some (.cells #[.slice A (S k).length c] 63) := by rw [← HW4]; exact blk_new (by simp) _
  have hbw : Below w.heap.size w w4 := by rw [← HW4]; exact ((((Below.refl _ w).alloc (Nat.le_refl _) _).alloc (by simp) _).alloc (by simp; omega) _).alloc (by simp; omega) _
  have hl4 : w4.heap.size = w.heap.size + 4 := by simp [← HW4]
  have hin : ∀ x : Nat, 0 ≤ ((S k).getD x default).site ∧ ((S k).getD x default).site < 4 := by
    intro x
    rw [List.getD_eq_getElem?_getD]
    cases hx : (S k)[x]? with
    | none => exact ⟨by decide, by decide⟩
    | some y => exact hok y (List.mem_of_getElem? hx)
  obtain ⟨n₀, hn₀⟩ : ∃ n, n = w4.heap.size := ⟨_, rfl⟩
  clear HW4
  refine wpIn_rangeFunc_ownH (n := 5) rfl (by decide) (gf := 86) (lb := #[.pointer (some ⟨w.heap.size + 3, 0, none⟩)]) rfl trivial (enters_of Tryd.func86 (by kernel_rfl) rfl)
    (back_stops Fence.wide 4 trivial rfl (by decide) (w.heap.size + 3) w4.heap.size A c (S k) (by omega) w4 (by omega) (Nat.le_refl _) (cell_blk b3 0) ?_ ?_) belowK_t (belowK_b (Nat.le_refl _)) (Below.refl _ _) (fun _ => rfl)
    (fun pre W => ((((∀ x ∈ pre, seenV a0 a1 a2 a3 ((S k).getD x default) = false) ∧ W.heap[w.heap.size]? = some (.cells #[.int .i64 a0, .int .i64 a1, .int .i64 a2, .int .i64 a3] 37)) ∧
      W.heap[w.heap.size + 1]? = some (.cells #[.int .i64 0, .int .i64 0, .int .i64 0, .int .i64 0, .string ⟨#[]⟩, .bool false] 71)) ∧ W.heap[w.heap.size + 2]? = some (.cells #[.nilIface] 28) ∧ W.heap[w.heap.size + 3]? = some (.cells #[.slice A (S k).length c] 63)) ∧ Below w.heap.size w W)
    (fun (c' : Code) pre W => (∃ pre0 x, c' = Code.ret ∧ pre = pre0 ++ [x] ∧ (∀ y ∈ pre0, seenV a0 a1 a2 a3 ((S k).getD y default) = false) ∧ seenV a0 a1 a2 a3 ((S k).getD x default) = true ∧
      (W.heap[w.heap.size + 1]? = some (.cells (verCells (if ((S k).getD x default).gone = true then verZ else (S k).getD x default)).toArray 71) ∧
      W.heap[w.heap.size + 2]? = some (.cells #[if ((S k).getD x default).gone = true then errV 8 else errV 0] 28)) ∧ Below w.heap.size w W))
    ?_ ?_ ⟨⟨⟨⟨by simp, b0⟩, b1⟩, b2, b3⟩, hbw⟩ (fun x a' W => ∃ Bx, W.heap[Bx]? = some (.cells (verCells ((S k).getD x default)).toArray 71) ∧ a' = { tmps := #[.pointer (some ⟨g, o, none⟩), .int .i64 k, .agg #[.int .i64 a0, .int .i64 a1, .int .i64 a2, .int .i64 a3], undef, undef, .pointer (some ⟨w.heap.size, 0, none⟩), .pointer (some ⟨w.heap.size + 1, 0, none⟩), .pointer (some ⟨w.heap.size + 1 + 1, 0, none⟩), undef, .pointer (some ⟨Bx, 0, none⟩), .int .i64 k, .bool (decide ((k : Int) < 0)), .bool (decide ((k : Int) < 0)), .int .i64 k, .bool (decide (8 ≤ (k : Int))), .bool (decide ((k : Int) < 0) || decide (8 ≤ (k : Int))), undef, undef, .pointer (some ⟨g, o, none⟩), .int .i64 k, .pointer (some ⟨g, o, none⟩), .pointer (some ⟨g, o, none⟩), .pointer (some ⟨g, o + k, none⟩), .slice A (S k).length c, .func (.func 86) #[] #[.pointer (some ⟨w.heap.size + 1 + 1 + 1, 0, none⟩)], .int .i64 (x : Int), verV ((S k).getD x default), undef, undef, undef, undef, undef, undef, undef, undef, undef, undef, undef, undef, undef, undef], defers := [] }) ?_ ?assign ?body ?done ?stop
  · exact (own_vs (hsv ▸ hst.own k hk)).below hbw
  · have ho := hst.own k hk
    rw [hsv] at ho
    rcases ho with ⟨_, (hh | ⟨gb, cap, cur, hv, _, hg2, _⟩)⟩
    · left
      simp only [Value.slice.injEq] at hh
      exact ⟨hh.1.1, hh.1.2.2, List.eq_nil_of_length_eq_zero hh.2⟩
    · right
      simp only [Value.slice.injEq] at hv
      exact ⟨gb, 0, hv.1, by have := lt_blk hg2; omega⟩
  · exact OwnFrom.and (OwnFrom.and (OwnFrom.and (OwnFrom.and (ownFrom_pure _ _) (Own.from (blk_own _ _ _) _)) (Own.from (blk_own _ _ _) _)) (OwnFrom.and (Own.from (blk_own _ _ _) _) (Own.from (blk_own _ _ _) _))) (ownFrom_below (Nat.le_refl _) (by omega))
  · rintro c' pre X Y row ⟨pre0, x, e1, e2, e3, e4, ⟨e5, e6⟩, e7⟩ hg hr
    exact ⟨pre0, x, e1, e2, e3, e4, ⟨Own.from (blk_own (β := Unit) _ _ _) _ () X Y row e5 hg hr, Own.from (blk_own (β := Unit) _ _ _) _ () X Y row e6 hg hr⟩, ownFrom_below (β := Unit) (Nat.le_refl _) (by omega) () X Y row e7 hg hr⟩
  · rintro x a' _ X Y row ⟨Bx, e1, e2⟩ hg hr
    exact ⟨Bx, Own.from (blk_own (β := Unit) _ _ _) _ () X Y row e1 hg hr, e2⟩
  case assign =>
    rintro l pre x W K ⟨⟨⟨⟨hp, c0⟩, c1⟩, c2, c3⟩, hB⟩ hK
    obtain ⟨y, hy⟩ : ∃ y, (S k).getD x default = y := ⟨_, rfl⟩
    simp only [hy] at hK ⊢
    have HK := hidp hK
    clear hK
    unfold verV
    gi_wp2
    exact HK.out _ _ ((KeepsOthers.alloc _ _).from _) ((Below.refl _ W).alloc (by have := lt_blk c3; omega) _) ⟨⟨⟨⟨hp, blk_alloc c0 _⟩, blk_alloc c1 _⟩, blk_alloc c2 _, blk_alloc c3 _⟩, hB.alloc hB.size _⟩ ⟨W.heap.size, World.alloc_heap_new _ _, rfl⟩
  case body =>
    rintro l pre x a' W hl ⟨r, hr⟩ ⟨⟨⟨⟨hp, c0⟩, c1⟩, c2, c3⟩, hB⟩ ⟨Bx, bX, rfl⟩ hlt
    obtain ⟨y, hy⟩ : ∃ y, (S k).getD x default = y := ⟨_, rfl⟩
    have hi := hin x
    simp only [hy] at bX hi ⊢
    obtain ⟨hi1, hi2⟩ := hi
    obtain ⟨s, hs⟩ : ∃ s : Nat, y.site = s := ⟨y.site.toNat, by omega⟩
    have hs4 : s < 4 := by omega
    have hat := at_cell c0 hs4
    unfold verV
    have bX' : W.heap[Bx]? = some (.cells #[.int .i64 y.w, .int .i64 y.c, .int .i64 y.site, .int .i64 y.seq, .string y.data, .bool y.gone] 71) := bX
    have d2 : W.cell? ⟨Bx, 2, none⟩ = some (.int .i64 y.site) := cell_blk bX' 2
    have d3 : W.cell? ⟨Bx, 3, none⟩ = some (.int .i64 y.seq) := cell_blk bX' 3
    have d5 : W.cell? ⟨Bx, 5, none⟩ = some (.bool y.gone) := cell_blk bX' 5
    rw [hs] at d2
    have hse : seenV a0 a1 a2 a3 y = decide (y.seq ≤ atV a0 a1 a2 a3 (s : Int)) := by unfold seenV; rw [hs]
    have e0 : W.cell? ⟨w.heap.size + 1, 0, none⟩ = some (.int .i64 0) := cell_blk c1 0
    have e1 : W.cell? ⟨w.heap.size + 1, 1, none⟩ = some (.int .i64 0) := cell_blk c1 1
    have e2 : W.cell? ⟨w.heap.size + 1, 2, none⟩ = some (.int .i64 0) := cell_blk c1 2
    have e3 : W.cell? ⟨w.heap.size + 1, 3, none⟩ = some (.int .i64 0) := cell_blk c1 3
    have e4 : W.cell? ⟨w.heap.size + 1, 4, none⟩ = some (.string ⟨#[]⟩) := cell_blk c1 4
    have e5 : W.cell? ⟨w.heap.size + 1, 5, none⟩ = some (.bool false) := cell_blk c1 5
    have e6 : W.cell? ⟨w.heap.size + 1 + 1, 0, none⟩ = some .nilIface := cell_blk c2 0
    have f0 : W.frozen? ⟨w.heap.size + 1, 0, none⟩ = false := frozen_blk c1 0
    have f1 : W.frozen? ⟨w.heap.size + 1, 1, none⟩ = false := frozen_blk c1 1
    have f2 : W.frozen? ⟨w.heap.size + 1, 2, none⟩ = false := frozen_blk c1 2
    have f3 : W.frozen? ⟨w.heap.size + 1, 3, none⟩ = false := frozen_blk c1 3
    have f4 : W.frozen? ⟨w.heap.size + 1, 4, none⟩ = false := frozen_blk c1 4
    have f5 : W.frozen? ⟨w.heap.size + 1, 5, none⟩ = false := frozen_blk c1 5
    have f6 : W.frozen? ⟨w.heap.size + 1 + 1, 0, none⟩ = false := frozen_blk c2 0
    have x0 : W.cell? ⟨Bx, 0, none⟩ = some (.int .i64 y.w) := cell_blk bX' 0
    have x1 : W.cell? ⟨Bx, 1, none⟩ = some (.int .i64 y.c) := cell_blk bX' 1
    have x4 : W.cell? ⟨Bx, 4, none⟩ = some (.string y.data) := cell_blk bX' 4
    gi_wp2_with fail
    have hn2 := hB.size
    refine Code.wpIn_mono (Q := fun e a' W' => e = .normal ∧ a' = { tmps := ([.pointer (some ⟨g, o, none⟩), .int .i64 k, .agg #[.int .i64 a0, .int .i64 a1, .int .i64 a2, .int .i64 a3], undef, undef, .pointer (some ⟨w.heap.size, 0, none⟩), .pointer (some ⟨w.heap.size + 1, 0, none⟩), .pointer (some ⟨w.heap.size + 1 + 1, 0, none⟩), undef, .pointer (some ⟨Bx, 0, none⟩), .int .i64 k, .bool (decide ((k : Int) < 0)), .bool (decide ((k : Int) < 0)), .int .i64 k, .bool (decide (8 ≤ (k : Int))), .bool (decide ((k : Int) < 0) || decide (8 ≤ (k : Int))), undef, undef, .pointer (some ⟨g, o, none⟩), .int .i64 k, .pointer (some ⟨g, o, none⟩), .pointer (some ⟨g, o, none⟩), .pointer (some ⟨g, o + k, none⟩), .slice A (S k).length c, .func (.func 86) #[] #[.pointer (some ⟨w.heap.size + 1 + 1 + 1, 0, none⟩)], .int .i64 (x : Int), .agg #[.int .i64 y.w, .int .i64 y.c, .int .i64 s, .int .i64 y.seq, .string y.data, .bool y.gone], .pointer (some ⟨Bx, 3, none⟩), .int .i64 y.seq, .pointer (some ⟨Bx, 2, none⟩), .int .i64 s, .pointer (some ⟨w.heap.size, s, none⟩), .int .i64 (atV a0 a1 a2 a3 s), .bool (decide (y.seq ≤ atV a0 a1 a2 a3 s)), undef, undef, undef, undef, undef, undef, undef] : List Value).toArray, defers := [] } ∧ W' = W.drew) ?_ ?_
    case refine_2 => gi_region <;> exact ⟨rfl, rfl, rfl⟩
    · rintro _ _ _ ⟨rfl, rfl, rfl⟩
      rcases hd : decide (y.seq ≤ atV a0 a1 a2 a3 (s : Int)) with _ | _
      · gi_wp2_with fail
        refine ⟨(KeepsOthers.drew _).from _, (Below.refl _ _).drew, ⟨⟨⟨?_, c0⟩, c1⟩, c2, c3⟩, hB.drew⟩
        intro z hz
        rcases List.mem_append.1 hz with h | h
        · exact hp z h
        · simp only [List.mem_singleton] at h
          subst h
          rw [hy, hse, hd]
      · rcases hgo : y.gone with _ | _
        · rw [hgo] at d5
          gi_wp2_with fail
          obtain ⟨r1, r2, r3, r4⟩ := resW_spec (.int .i64 y.w) (.int .i64 y.c) (.int .i64 s) (.int .i64 y.seq) (.string y.data) (.bool false) .nilIface c1 c2
          generalize hW1 : World.setCell _ _ Value.nilIface = W1
          replace hW1 : resW W w.heap.size (.int .i64 y.w) (.int .i64 y.c) (.int .i64 s) (.int .i64 y.seq) (.string y.data) (.bool false) .nilIface = W1 := hW1
          rw [hW1] at r1 r2 r3 r4
          clear hW1
          refine ⟨(r4.trans (KeepsOthers.drew _)).from _, pre, x, rfl, rfl, hp, ?_, ⟨?_, ?_⟩, (hB.trans r3).drew⟩
          · rw [hy, hse, hd]
          · rw [hy, hgo, if_neg (by decide)]
            have : (verCells y).toArray = #[.int .i64 y.w, .int .i64 y.c, .int .i64 s, .int .i64 y.seq, .string y.data, .bool false] := by simp [verCells, hs, hgo]
            rw [this]
            exact r1
          · rw [hy, hgo]
            exact r2
        · rw [hgo] at d5
          gi_wp2_with fail
          obtain ⟨r1, r2, r3, r4⟩ := resW_spec (.int .i64 0) (.int .i64 0) (.int .i64 0) (.int .i64 0) (.string ⟨#[]⟩) (.bool false) (.iface 24 (.int .i64 8)) c1 c2
          generalize hW1 : World.setCell _ _ (Value.iface 24 (.int .i64 8)) = W1
          replace hW1 : resW W w.heap.size (.int .i64 0) (.int .i64 0) (.int .i64 0) (.int .i64 0) (.string ⟨#[]⟩) (.bool false) (.iface 24 (.int .i64 8)) = W1 := hW1
          rw [hW1] at r1 r2 r3 r4
          clear hW1
          refine ⟨(r4.trans (KeepsOthers.drew _)).from _, pre, x, rfl, rfl, hp, ?_, ⟨?_, ?_⟩, (hB.trans r3).drew⟩
          · rw [hy, hse, hd]
          · rw [hy, hgo, if_pos rfl]
            exact r1
          · rw [hy, hgo]
            exact r2
  case done =>
    rintro D xs W hD rfl ⟨⟨⟨⟨hp, c0⟩, c1⟩, c2, c3⟩, hB⟩ hK
    have hre : readR a0 a1 a2 a3 S (k : Int) = (verZ, 8) := by
      unfold readR
      rw [if_neg (by omega), Int.toNat_natCast, findV, upto_none _ _ hp]
    have HRE := hidp hre
    have e0 : W.cell? ⟨w.heap.size + 1, 0, none⟩ = some (.int .i64 0) := cell_blk c1 0
    have e1 : W.cell? ⟨w.heap.size + 1, 1, none⟩ = some (.int .i64 0) := cell_blk c1 1
    have e2 : W.cell? ⟨w.heap.size + 1, 2, none⟩ = some (.int .i64 0) := cell_blk c1 2
    have e3 : W.cell? ⟨w.heap.size + 1, 3, none⟩ = some (.int .i64 0) := cell_blk c1 3
    have e4 : W.cell? ⟨w.heap.size + 1, 4, none⟩ = some (.string ⟨#[]⟩) := cell_blk c1 4
    have e5 : W.cell? ⟨w.heap.size + 1, 5, none⟩ = some (.bool false) := cell_blk c1 5
    have e6 : W.cell? ⟨w.heap.size + 1 + 1, 0, none⟩ = some .nilIface := cell_blk c2 0
    have f0 : W.frozen? ⟨w.heap.size + 1, 0, none⟩ = false := frozen_blk c1 0
    have f1 : W.frozen? ⟨w.heap.size + 1, 1, none⟩ = false := frozen_blk c1 1
    have f2 : W.frozen? ⟨w.heap.size + 1, 2, none⟩ = false := frozen_blk c1 2
    have f3 : W.frozen? ⟨w.heap.size + 1, 3, none⟩ = false := frozen_blk c1 3
    have f4 : W.frozen? ⟨w.heap.size + 1, 4, none⟩ = false := frozen_blk c1 4
    have f5 : W.frozen? ⟨w.heap.size + 1, 5, none⟩ = false := frozen_blk c1 5
    have f6 : W.frozen? ⟨w.heap.size + 1 + 1, 0, none⟩ = false := frozen_blk c2 0
    clear hre
    have hwD := hB.size
    gi_wp2_with fail
    obtain ⟨r1, r2, r3, r4⟩ := resW_spec (.int .i64 0) (.int .i64 0) (.int .i64 0) (.int .i64 0) (.string ⟨#[]⟩) (.bool false) (.iface 24 (.int .i64 8)) c1 c2
    generalize hW1 : World.setCell _ _ (Value.iface 24 (.int .i64 8)) = W1
    replace hW1 : resW W w.heap.size (.int .i64 0) (.int .i64 0) (.int .i64 0) (.int .i64 0) (.string ⟨#[]⟩) (.bool false) (.iface 24 (.int .i64 8)) = W1 := hW1
    rw [hW1] at r1 r2 r3 r4
    have hK' := r4.same D _ hK rfl
    refine ⟨by simp, .inl ⟨_, _, rfl, run_takeDeferred hK', ?_⟩⟩
    have p1 := put_blk (D := D) (.deferred none) r1 (by omega)
    have p2 := put_blk (D := D) (.deferred none) r2 (by omega)
    have q0 := cell_blk p1 0
    have q1 := cell_blk p1 1
    have q2 := cell_blk p1 2
    have q3 := cell_blk p1 3
    have q4 := cell_blk p1 4
    have q5 := cell_blk p1 5
    have q6 := cell_blk p2 0
    refine ⟨.tuple #[verV verZ, errV 8], ?_, by rw [HRE.out], (hB.trans r3).trans (belowK_b (w := w) (Nat.le_refl _) W1 D _ _ (by omega) hK' rfl rfl)⟩
    simp [results, Tryd.f36, go_sem, q0, q1, q2, q3, q4, q5, q6]
    exact ⟨rfl, rfl⟩
  case stop =>
    rintro D c' pre W hD ⟨k1, hk1, hpre⟩ ⟨pre0, x, rfl, rfl, hp0, hx, ⟨c1, c2⟩, hB⟩ hK
    gi_wp2_with fail
    refine ⟨by simp, .inl ⟨_, _, rfl, run_takeDeferred hK, ?_⟩⟩
    obtain ⟨z, hz⟩ : ∃ z, (if ((S k).getD x default).gone = true then verZ else (S k).getD x default) = z := ⟨_, rfl⟩
    have hwD := hB.size
    have hre : readR a0 a1 a2 a3 S (k : Int) = (z, if ((S k).getD x default).gone = true then 8 else 0) := by
      have hk1l : bUpto (S k) k1 = pre0 ++ [x] := hpre.symm
      have hl := bUpto_length (S k) k1
      rw [hk1l] at hl
      simp only [List.length_append, List.length_singleton] at hl
      subst hl
      rw [bUpto_succ] at hk1l
      have e1 := List.append_inj hk1l (by rw [bUpto_length])
      have hx1 : (S k).length - 1 - pre0.length = x := by simpa using e1.2
      rw [← e1.1] at hp0
      unfold readR findV
      rw [if_neg (by omega), Int.toNat_natCast, upto_find _ _ _ (by omega) hp0 (by rw [hx1]; exact hx), hx1, ← hz]
      simp only []
      split <;> rfl
    have c2' : W.heap[w.heap.size + 1 + 1]? = some (.cells #[errV (if ((S k).getD x default).gone = true then 8 else 0)] 28) := by
      rw [c2]; split <;> rfl
    rw [hz] at c1
    have HRE := hidp hre
    clear hre hx hz
    generalize (if ((S k).getD x default).gone = true then (8 : Int) else 0) = er at *
    have p1 := put_blk (D := D) (.deferred none) c1 (by omega)
    have p2 := put_blk (D := D) (.deferred none) c2' (by omega)
    have q0 : World.cell? _ ⟨_, 0, none⟩ = some (.int .i64 z.w) := cell_blk p1 0
    have q1 : World.cell? _ ⟨_, 1, none⟩ = some (.int .i64 z.c) := cell_blk p1 1
    have q2 : World.cell? _ ⟨_, 2, none⟩ = some (.int .i64 z.site) := cell_blk p1 2
    have q3 : World.cell? _ ⟨_, 3, none⟩ = some (.int .i64 z.seq) := cell_blk p1 3
    have q4 : World.cell? _ ⟨_, 4, none⟩ = some (.string z.data) := cell_blk p1 4
    have q5 : World.cell? _ ⟨_, 5, none⟩ = some (.bool z.gone) := cell_blk p1 5
    have q6 := cell_blk p2 0
    refine ⟨.tuple #[verV z, errV er], ?_, by rw [HRE.out], hB.trans (belowK_b (w := w) (Nat.le_refl _) W D _ _ (by omega) hK rfl rfl)⟩
    simp [results, Tryd.f36, go_sem, q0, q1, q2, q3, q4, q5, q6]
    rfl
theorem readS_key (g o : Nat) (S : Nat → List VerP) (key a0 a1 a2 a3 : Int) (w : World) (hk : key < 0 ∨ 8 ≤ key) :
    Calls Tryd.prog 36 #[.pointer (some ⟨g, o, none⟩), .int .i64 key, .agg #[.int .i64 a0, .int .i64 a1, .int .i64 a2, .int .i64 a3]] w fun e w' =>
      e = .returned (.tuple #[verV (readR a0 a1 a2 a3 S key).1, errV (readR a0 a1 a2 a3 S key).2]) ∧ Below w.heap.size w w' := by
  have hre : readR a0 a1 a2 a3 S key = (verZ, 2) := by unfold readR; rw [if_pos (by omega)]
  have HRE := hidp hre
  clear hre
  by_cases h0 : key < 0
  · have d0 : decide (key < 0) = true := decide_eq_true h0
    have HK := hidp hk
    clear h0 hk
    go_enter Tryd.func36, Tryd.ntmps36
    go_wp2_with fail

    have p1 : (((w.alloc (.cells #[.int .i64 a0, .int .i64 a1, .int .i64 a2, .int .i64 a3] 37)).alloc (.cells #[.int .i64 0, .int .i64 0, .int .i64 0, .int .i64 0, .string ⟨#[]⟩, .bool false] 71)).alloc (.cells #[.iface 24 (.int .i64 2)] 28)).heap[w.heap.size + 1]? = some (.cells #[.int .i64 0, .int .i64 0, .int .i64 0, .int .i64 0, .string ⟨#[]⟩, .bool false] 71) := blk_alloc (blk_new (by simp) _) _
    have p2 : (((w.alloc (.cells #[.int .i64 a0, .int .i64 a1, .int .i64 a2, .int .i64 a3] 37)).alloc (.cells #[.int .i64 0, .int .i64 0, .int .i64 0, .int .i64 0, .string ⟨#[]⟩, .bool false] 71)).alloc (.cells #[.iface 24 (.int .i64 2)] 28)).heap[w.heap.size + 1 + 1]? = some (.cells #[.iface 24 (.int .i64 2)] 28) := blk_new (by simp) _
    have q0 := cell_blk p1 0
    have q1 := cell_blk p1 1
    have q2 := cell_blk p1 2
    have q3 := cell_blk p1 3
    have q4 := cell_blk p1 4
    have q5 := cell_blk p1 5
    have q6 := cell_blk p2 0
    refine bodyPost_ret (v := .tuple #[verV verZ, errV 2]) (by simp only [results, Tryd.f36]; simp [go_sem, q0, q1, q2, q3, q4, q5, q6]; exact ⟨rfl, rfl⟩) rfl ?_
    exact ⟨by rw [HRE.out], ((((Below.refl _ w).alloc (Nat.le_refl _) _).alloc (by simp) _).alloc (by simp; omega) _)⟩
  · have d0 : decide (key < 0) = false := decide_eq_false h0
    have d1 : decide (8 ≤ key) = true := decide_eq_true (by omega)
    clear h0 hk
    go_enter Tryd.func36, Tryd.ntmps36
    go_wp2_with fail

    have p1 : (((w.alloc (.cells #[.int .i64 a0, .int .i64 a1, .int .i64 a2, .int .i64 a3] 37)).alloc (.cells #[.int .i64 0, .int .i64 0, .int .i64 0, .int .i64 0, .string ⟨#[]⟩, .bool false] 71)).alloc (.cells #[.iface 24 (.int .i64 2)] 28)).heap[w.heap.size + 1]? = some (.cells #[.int .i64 0, .int .i64 0, .int .i64 0, .int .i64 0, .string ⟨#[]⟩, .bool false] 71) := blk_alloc (blk_new (by simp) _) _
    have p2 : (((w.alloc (.cells #[.int .i64 a0, .int .i64 a1, .int .i64 a2, .int .i64 a3] 37)).alloc (.cells #[.int .i64 0, .int .i64 0, .int .i64 0, .int .i64 0, .string ⟨#[]⟩, .bool false] 71)).alloc (.cells #[.iface 24 (.int .i64 2)] 28)).heap[w.heap.size + 1 + 1]? = some (.cells #[.iface 24 (.int .i64 2)] 28) := blk_new (by simp) _
    have q0 := cell_blk p1 0
    have q1 := cell_blk p1 1
    have q2 := cell_blk p1 2
    have q3 := cell_blk p1 3
    have q4 := cell_blk p1 4
    have q5 := cell_blk p1 5
    have q6 := cell_blk p2 0
    refine bodyPost_ret (v := .tuple #[verV verZ, errV 2]) (by simp only [results, Tryd.f36]; simp [go_sem, q0, q1, q2, q3, q4, q5, q6]; exact ⟨rfl, rfl⟩) rfl ?_
    exact ⟨by rw [HRE.out], ((((Below.refl _ w).alloc (Nat.le_refl _) _).alloc (by simp) _).alloc (by simp; omega) _)⟩
theorem readS_any (g o B : Nat) (S : Nat → List VerP) (sv : Nat → Value) (key a0 a1 a2 a3 : Int) (w : World) (hst : StAt w g o B S sv) (hok : ∀ k, k < 8 → ∀ x ∈ S k, 0 ≤ x.site ∧ x.site < 4) (hlen : ∀ k, k < 8 → (S k).length ≤ 900000) :
    Calls Tryd.prog 36 #[.pointer (some ⟨g, o, none⟩), .int .i64 key, .agg #[.int .i64 a0, .int .i64 a1, .int .i64 a2, .int .i64 a3]] w fun e w' =>
      e = .returned (.tuple #[verV (readR a0 a1 a2 a3 S key).1, errV (readR a0 a1 a2 a3 S key).2]) ∧ Below w.heap.size w w' := by
  by_cases hk : key < 0 ∨ 8 ≤ key
  · exact readS_key g o S key a0 a1 a2 a3 w hk
  · obtain ⟨k, rfl⟩ : ∃ k : Nat, key = k := ⟨key.toNat, by omega⟩
    exact callsIn_wide.1 (readS_in g o B k S sv a0 a1 a2 a3 w hst (by omega) (hok k (by omega)) (hlen k (by omega)))
end Go.Proofs.YtbopfhbeegkkaaaDoor

namespace Go.Proofs.YtbopfhbeegkkaaaDoor
open Go.RowKit

theorem grown_alloc {W w1 : World} {o : Obj} {r : Option Nat} (h : (W.alloc o).grownBy w1 r) : W.grownBy w1 r :=
  ⟨h.os, h.tape, h.output, Nat.le_trans (by simp) h.size, fun k hk hr => (h.block k (by simp; omega) hr).trans (Below.heap_alloc W o k hk)⟩
theorem grown_drew {W w1 : World} {r : Option Nat} (h : W.drew.grownBy w1 r) : W.grownBy w1 r := ⟨h.os, h.tape, h.output, h.size, h.block⟩
theorem or_tail {a b d : Bool} (h : a = false) (h2 : (a || b) = d) : b = d := by subst h; simpa using h2
def TsAt (w : World) (A : Option Addr) (ts : List ByteArray) : Prop := ∀ (i : Nat) (x : ByteArray), ts[i]? = some x → ∃ b o, A = some ⟨b, o, none⟩ ∧ b < w.heap.size ∧ w.cell? ⟨b, o + i, none⟩ = some (.string x)
theorem TsAt.below {w w' : World} {A : Option Addr} {ts : List ByteArray} (h : TsAt w A ts) (hb : Below w.heap.size w w') : TsAt w' A ts := fun i x hx => by
  obtain ⟨b, o, hA, hlt, h0⟩ := h i x hx
  exact ⟨b, o, hA, Nat.lt_of_lt_of_le hlt hb.size, by rw [hb.cell (p := ⟨b, o + i, none⟩) hlt]; exact h0⟩
def strRow (ts : List ByteArray) : List Value := ts.map fun s => .string s
theorem own_texts {w : World} {B c : Nat} {A : Option Addr} {ts : List ByteArray} (h : w.ownsRow B 9 1 (.slice A ts.length c) ts.length (strRow ts)) : TsAt w A ts := by
  intro i x hx
  obtain ⟨hl, hn | ⟨g, cap, cur, hv, hb, hg, rest⟩⟩ := id h
  · have : ts = [] := List.eq_nil_of_length_eq_zero hn.2
    subst this; simp at hx
  · simp only [Value.slice.injEq] at hv
    obtain ⟨rfl, _, rfl⟩ := hv
    have hc := h.cells (g := g) rfl
    have h0 : (strRow ts)[i]? = some (.string x) := by simp [strRow, hx]
    have e : ∀ j : Nat, (⟨g, 0, none⟩ : Addr).add j = ⟨g, 0 + j, none⟩ := fun j => by unfold Addr.add; split <;> simp_all
    have k0 := hc _ _ h0
    rw [e] at k0
    exact ⟨g, 0, rfl, (Array.getElem?_eq_some_iff.1 hg).1, k0⟩
def txtOf (r : VerP × Int) : ByteArray := if r.2 = 0 then ⟨#[61]⟩ ++ r.1.data else ⟨#[]⟩
def toldT (R : Nat → VerP × Int) (k : Nat) : List ByteArray := (List.range k).map fun i => txtOf (R i)
theorem toldT_succ (R : Nat → VerP × Int) (k : Nat) : toldT R (k + 1) = toldT R k ++ [txtOf (R k)] := by simp [toldT, List.range_succ]
theorem toldT_len (R : Nat → VerP × Int) (k : Nat) : (toldT R k).length = k := by simp [toldT]
theorem info9o : (Tryd.prog.info? 9).map (fun i => (i.zero, i.size, i.bytes)) = some (some (.string ⟨#[]⟩), 1, 16) := by kernel_rfl
theorem info9 : ∃ i, Tryd.prog.info? 9 = some i ∧ i.zero = some (.string ⟨#[]⟩) ∧ i.size = 1 ∧ i.bytes = 16 := by
  obtain ⟨i, hi, h⟩ := Option.map_eq_some_iff.1 info9o
  simp only [Prod.mk.injEq] at h
  exact ⟨i, hi, h.1, h.2.1, h.2.2⟩
theorem cells1 {w : World} {ab : Nat} {u0 : Value} {t : TypeId} (h : w.heap[ab]? = some (.cells #[u0] t)) :
    ∀ (j : Nat) (u : Value), [u0][j]? = some u → w.cell? ((⟨ab, 0, none⟩ : Addr).add j) = some u := by
  intro j u hj
  have e : (⟨ab, 0, none⟩ : Addr).add j = ⟨ab, j, none⟩ := by unfold Addr.add; split <;> simp_all
  rw [e, cell_blk h j]
  simpa using hj

def lenS (S : Nat → List VerP) : Nat → Nat
  | 0 => 0
  | k + 1 => lenS S k + (S k).length
theorem lenS_le {S : Nat → List VerP} {N : Nat} (h : ∀ k, k < 8 → (S k).length ≤ N) : ∀ k, k ≤ 8 → lenS S k ≤ k * N
  | 0, _ => by simp [lenS]
  | k + 1, hk => by
    have := lenS_le h k (by omega)
    have := h k (by omega)
    unfold lenS
    rw [Nat.succ_mul]
    omega

set_option maxRecDepth 20000 in
set_option maxHeartbeats 8000000 in
theorem many_any (g o B : Nat) (S : Nat → List VerP) (sv : Nat → Value) (w : World) (hst : StAt w g o B S sv) (hlen : ∀ k, k < 8 → (S k).length ≤ 900000) :
    Calls Tryd.prog 41 #[.pointer (some ⟨g, o, none⟩)] w fun e w' => e = .returned (.int .i64 (lenS S 8)) ∧ Below w.heap.size w w' := by
  have HST := hidp hst
  have hlg := hst.lt
  have c0 := (hst.cell (k := 0) (by omega)).1; have c1 := (hst.cell (k := 1) (by omega)).1; have c2 := (hst.cell (k := 2) (by omega)).1; have c3 := (hst.cell (k := 3) (by omega)).1
  have c4 := (hst.cell (k := 4) (by omega)).1; have c5 := (hst.cell (k := 5) (by omega)).1; have c6 := (hst.cell (k := 6) (by omega)).1; have c7 := (hst.cell (k := 7) (by omega)).1
  simp only [Nat.add_zero] at c0
  have HLN := hidp (lenS_le hlen)
  have HL1 := hidp hlen
  haveI : SzGe (g + 1) w := ⟨hlg⟩
  clear hst hlen
  go_enter Tryd.func41, Tryd.ntmps41
  go_wp2_with fail
  go_loopw [3, 10] (fun n i wr => ∃ k : Nat, k ≤ 8 ∧ i = .int .i64 k ∧ n = .int .i64 (lenS S k) ∧ Below w.heap.size w wr) (fun _ i _ => 8 - (intOf i).toNat)
  case atStart => exact ⟨0, by omega, rfl, rfl, Below.refl _ _⟩
  case round =>
    obtain ⟨k, hk, rfl, rfl, hbl⟩ := hrel
    obtain ⟨x, rfl⟩ := wplus_of_below hbl
    clear hbl
    have hn := HLN.out k hk
    by_cases hlt : k < 8
    · have hm := HL1.out k hlt
      have hkd : decide ((k : Int) < 8) = true := decide_eq_true (by omega)
      obtain ⟨A, c, hsv⟩ := own_form (HST.out.own k hlt)
      have HN : Hid (lenS S (k + 1) = lenS S k + (S k).length) := hidp rfl
      go_wp2_with fail
      go_roundw
      case rel => exact ⟨k + 1, by omega, by go_num, congrArg (Value.int IntKind.i64) (by rw [HN.out]; go_num), (by repeat (first | exact Below.refl _ _ | refine blw_alloc ?_ | refine blw_plus ?_ | refine Below.drew ?_))⟩
      case measure => simp [intOf]; omega
    · obtain rfl : k = 8 := by omega
      have hkd : decide ((8 : Int) < 8) = false := by decide
      go_wp2_with fail
      go_ret
      exact ⟨rfl, (by repeat (first | exact Below.refl _ _ | refine blw_alloc ?_ | refine blw_plus ?_ | refine Below.drew ?_))⟩

set_option maxRecDepth 20000 in
set_option maxHeartbeats 8000000 in
theorem all_any (g o B : Nat) (S : Nat → List VerP) (sv : Nat → Value) (a0 a1 a2 a3 : Int) (R : Nat → VerP × Int) (w : World) (hst : StAt w g o B S sv) (hok : ∀ k, k < 8 → ∀ x ∈ S k, 0 ≤ x.site ∧ x.site < 4) (hlen : ∀ k, k < 8 → (S k).length ≤ 900000) (hR : ∀ k : Nat, k < 8 → R k = readR a0 a1 a2 a3 S k) (hd : ∀ k : Nat, k < 8 → (R k).1.data.size ≤ 1000000) :
    Calls Tryd.prog 43 #[.pointer (some ⟨g, o, none⟩), .agg #[.int .i64 a0, .int .i64 a1, .int .i64 a2, .int .i64 a3]] w fun e w' => ∃ A' c', e = .returned (.slice A' 8 c') ∧ TsAt w' A' (toldT R 8) ∧ Below w.heap.size w w' := by
  have HRD : Hid (∀ (k : Nat) (w' : World), k < 8 → Below w.heap.size w w' → Calls Tryd.prog 36 #[.pointer (some ⟨g, o, none⟩), .int .i64 k, .agg #[.int .i64 a0, .int .i64 a1, .int .i64 a2, .int .i64 a3]] w' fun e w'' => e = .returned (.tuple #[verV (R k).1, errV (R k).2]) ∧ Below w'.heap.size w' w'') := hidp (by
    intro k w' hk hb
    rw [hR k hk]
    exact readS_any g o B S sv k a0 a1 a2 a3 w' (hst.below hb) hok hlen)
  have HD := hidp hd
  clear hst hR hd
  go_enter Tryd.func43, Tryd.ntmps43
  obtain ⟨i0, hi0, hz0, hz1, hz2⟩ := info9
  have HBO : Hid (Below w.heap.size w (w.alloc (.cells #[.int .i64 a0, .int .i64 a1, .int .i64 a2, .int .i64 a3] 37))) := hidp (blw_alloc (Below.refl _ _))
  have HBX : Hid ((w.alloc (.cells #[.int .i64 a0, .int .i64 a1, .int .i64 a2, .int .i64 a3] 37)).heap[w.heap.size]? = some (.cells #[.int .i64 a0, .int .i64 a1, .int .i64 a2, .int .i64 a3] 37)) := hidp (blk_new rfl _)
  go_wp2_with fail
  generalize w.alloc (.cells #[.int .i64 a0, .int .i64 a1, .int .i64 a2, .int .i64 a3] 37) = wo at *
  go_loopw [5, 9] (fun oo i W => ∃ (k : Nat) (outs : List ByteArray) (Ao : Option Addr) (co : Nat), k ≤ 8 ∧ i = .int .i64 k ∧ oo = .slice Ao outs.length co ∧ outs = toldT R k ∧ outs.length = k ∧
    W.ownsRow wo.heap.size 9 1 (.slice Ao outs.length co) outs.length (strRow outs) ∧ Below wo.heap.size wo W) (fun _ i _ => 8 - (intOf i).toNat)
  case atStart => exact ⟨0, [], none, 0, by omega, rfl, rfl, rfl, rfl, ⟨rfl, .inl ⟨rfl, rfl⟩⟩, Below.refl _ _⟩
  case round =>
    obtain ⟨k, outs, Ao, co, hk, rfl, rfl, hout, hol, hown, hbl⟩ := hrel
    obtain ⟨W, rfl⟩ : ∃ W : World, W = wr := ⟨_, rfl⟩
    have HOUT := hidp hout
    have HOW := hidp hown
    have HBW := hidp hbl
    have HOL := hidp hol
    clear hown hbl hout hol
    by_cases hlt : k < 8
    · have hbxW : W.heap[w.heap.size]? = some (.cells #[.int .i64 a0, .int .i64 a1, .int .i64 a2, .int .i64 a3] 37) := by rw [HBW.out.block _ (lt_blk HBX.out)]; exact HBX.out
      have e0 := cell_blk hbxW 0; have e1 := cell_blk hbxW 1; have e2 := cell_blk hbxW 2; have e3 := cell_blk hbxW 3
      simp only [List.getElem?_toArray, List.getElem?_cons_zero, List.getElem?_cons_succ] at e0 e1 e2 e3
      haveI : SzGe (w.heap.size + 1) W := ⟨lt_blk hbxW⟩
      have hkd : decide ((k : Int) < 8) = true := decide_eq_true (by omega)
      have HB0 := hidp (HBO.out.trans (HBW.out.mono HBO.out.size))
      have HL := hidp (HRD.out k W hlt HB0.out)
      have HTS := hidp (toldT_succ R k)
      obtain ⟨⟨⟨vw, vc, vs, vq, vd, vg⟩, z⟩, hz⟩ : ∃ z, R k = z := ⟨_, rfl⟩
      have hvd := HD.out k hlt
      rw [hz] at HL HTS hvd
      simp only at hvd
      unfold verV at HL
      clear hbxW hz
      go_wp2_with fail
      go_at_call 36
      refine HL.out.mono ?_
      rintro e w' ⟨rfl, hb⟩
      obtain ⟨x, rfl⟩ := wplus_of_below hb
      clear hb HL
      by_cases hz0e : z = 0
      · subst hz0e
        have HT1 : Hid (toldT R (k + 1) = outs ++ [⟨#[61]⟩ ++ vd]) := hidp (by rw [HTS.out, ← HOUT.out]; rfl)
        clear HTS
        have HCUR := hidp (show Below W.heap.size W ((wplus W x).alloc (.cells #[.int .i64 vw, .int .i64 vc, .int .i64 vs, .int .i64 vq, .string vd, .bool vg] 71)) from (by repeat (first | exact Below.refl _ _ | refine blw_alloc ?_ | refine blw_plus ?_ | refine Below.drew ?_)))
        have HOC := hidp (own_below HOW.out HCUR.out (fun k e => (own_ge HOW.out e).2))
        have HBC := hidp (HBW.out.trans (HCUR.out.mono HBW.out.size))
        have hsC := HBC.out.size
        have hol : outs.length ≤ 8 := by rw [HOL.out]; omega
        have hev : errV 0 = .nilIface := rfl
        go_wp2_with (at_builtin; go_must (refine wpList_append_lies _ rfl _ _ 91 rfl wo.heap.size 9 i0 (.string ⟨#[]⟩) 1 16 Tryd.underlying91 hi0 hz0 hz1 hz2 rfl (by decide) (.slice Ao outs.length co) outs.length (strRow outs) rfl (HOC.out.alloc _) ⟨W.heap.size + x.blocks.size + 1, 0, none⟩ 1 1 [.string (⟨#[61]⟩ ++ vd)] rfl rfl (cells1 (blk_new (by simp) _)) ?c1 (by decide) ?c2 ?c3 ?c4 _ rfl ?_))
        case c1 => first | rfl | (intro u hu; simp at hu; subst hu; rfl)
        case c2 => refine Nat.le_trans ?_ maxLen_ge; omega
        case c3 => omega
        case c4 => first | omega | (simp at hsC ⊢; omega)
        intro gq cap1 w1 hown1 hgrow hgl hlt1
        have HN1 : Hid (w1.ownsRow wo.heap.size 9 1 (.slice (some ⟨gq, 0, none⟩) (outs ++ [(⟨#[61]⟩ ++ vd)]).length cap1) (outs ++ [(⟨#[61]⟩ ++ vd)]).length (strRow (outs ++ [(⟨#[61]⟩ ++ vd)]))) := hidp (by
          have e : (outs ++ [(⟨#[61]⟩ ++ vd)]).length = outs.length + 1 := by simp
          rw [e, show strRow (outs ++ [(⟨#[61]⟩ ++ vd)]) = strRow outs ++ [.string (⟨#[61]⟩ ++ vd)] by simp [strRow]]; exact hown1)
        have HB1 : Hid (Below wo.heap.size wo w1) := hidp (Below.grown HBC.out (grown_alloc hgrow) HBC.out.size (fun j e => (own_ge HOW.out e).1))
        clear hown1 hgrow hgl hlt1
        go_wp2_with fail
        go_roundw
        case rel => exact ⟨k + 1, outs ++ [(⟨#[61]⟩ ++ vd)], some ⟨gq, 0, none⟩, cap1, by omega, by go_num, by simp, HT1.out.symm, by simp [HOL.out], HN1.out, HB1.out⟩
        case measure => simp [intOf]; omega
      · have HT1 : Hid (toldT R (k + 1) = outs ++ [⟨#[]⟩]) := hidp (by rw [HTS.out, ← HOUT.out]; simp [txtOf, hz0e])
        clear HTS
        have HCUR := hidp (show Below W.heap.size W ((wplus W x).alloc (.cells #[.int .i64 vw, .int .i64 vc, .int .i64 vs, .int .i64 vq, .string vd, .bool vg] 71)) from (by repeat (first | exact Below.refl _ _ | refine blw_alloc ?_ | refine blw_plus ?_ | refine Below.drew ?_)))
        have HOC := hidp (own_below HOW.out HCUR.out (fun k e => (own_ge HOW.out e).2))
        have HBC := hidp (HBW.out.trans (HCUR.out.mono HBW.out.size))
        have hsC := HBC.out.size
        have hol : outs.length ≤ 8 := by rw [HOL.out]; omega
        have hev : errV z = .iface 24 (.int .i64 z) := by unfold errV; rw [if_neg hz0e]
        go_wp2_with (at_builtin; go_must (refine wpList_append_lies _ rfl _ _ 91 rfl wo.heap.size 9 i0 (.string ⟨#[]⟩) 1 16 Tryd.underlying91 hi0 hz0 hz1 hz2 rfl (by decide) (.slice Ao outs.length co) outs.length (strRow outs) rfl (HOC.out.alloc _) ⟨W.heap.size + x.blocks.size + 1, 0, none⟩ 1 1 [.string (⟨#[]⟩ : ByteArray)] rfl rfl (cells1 (blk_new (by simp) _)) ?c1 (by decide) ?c2 ?c3 ?c4 _ rfl ?_))
        case c1 => first | rfl | (intro u hu; simp at hu; subst hu; rfl)
        case c2 => refine Nat.le_trans ?_ maxLen_ge; omega
        case c3 => omega
        case c4 => first | omega | (simp at hsC ⊢; omega)
        intro gq cap1 w1 hown1 hgrow hgl hlt1
        have HN1 : Hid (w1.ownsRow wo.heap.size 9 1 (.slice (some ⟨gq, 0, none⟩) (outs ++ [(⟨#[]⟩ : ByteArray)]).length cap1) (outs ++ [(⟨#[]⟩ : ByteArray)]).length (strRow (outs ++ [(⟨#[]⟩ : ByteArray)]))) := hidp (by
          have e : (outs ++ [(⟨#[]⟩ : ByteArray)]).length = outs.length + 1 := by simp
          rw [e, show strRow (outs ++ [(⟨#[]⟩ : ByteArray)]) = strRow outs ++ [.string (⟨#[]⟩ : ByteArray)] by simp [strRow]]; exact hown1)
        have HB1 : Hid (Below wo.heap.size wo w1) := hidp (Below.grown HBC.out (grown_alloc hgrow) HBC.out.size (fun j e => (own_ge HOW.out e).1))
        clear hown1 hgrow hgl hlt1
        go_wp2_with fail
        go_roundw
        case rel => exact ⟨k + 1, outs ++ [(⟨#[]⟩ : ByteArray)], some ⟨gq, 0, none⟩, cap1, by omega, by go_num, by simp, HT1.out.symm, by simp [HOL.out], HN1.out, HB1.out⟩
        case measure => simp [intOf]; omega
    · obtain rfl : k = 8 := by omega
      have hkd : decide ((8 : Int) < 8) = false := by decide
      have HT : Hid (TsAt W Ao (toldT R 8)) := hidp (by rw [← HOUT.out]; exact own_texts HOW.out)
      go_wp2_with fail
      go_ret
      exact ⟨Ao, co, by rw [HOL.out]; rfl, HT.out, HBO.out.trans (HBW.out.mono HBO.out.size)⟩

end Go.Proofs.YtbopfhbeegkkaaaDoor

namespace Go.Proofs.YtbopfhbeegkkaaaDoor
open Go.RowKit

theorem ws_cells {w : World} {b : Nat} : ∀ {ws : List WrP} {o : Nat}, WsAt w (some ⟨b, o, none⟩) ws → ∀ (j : Nat) (u : Value), (wrCells ws)[j]? = some u → w.cell? ⟨b, o + j, none⟩ = some u
  | [], o, h, j, u, hu => by simp [wrCells] at hu
  | x :: l, o, h, j, u, hu => by
    have h0 := h 0 x rfl
    obtain ⟨b', o', e, _, c0, c1, c2⟩ := h0
    obtain ⟨rfl, rfl⟩ : b' = b ∧ o' = o := by simp at e; exact ⟨e.1.symm, e.2.symm⟩
    have hl : WsAt w (some ⟨b', o' + 3, none⟩) l := fun i y hy => by
      obtain ⟨b2, o2, e2, hlt, k0, k1, k2⟩ := h (i + 1) y (by simpa using hy)
      obtain ⟨rfl, rfl⟩ : b2 = b' ∧ o2 = o' := by simp at e2; exact ⟨e2.1.symm, e2.2.symm⟩
      rw [show o2 + (i + 1) * 3 = o2 + 3 + i * 3 by omega] at k0 k1 k2
      exact ⟨b2, o2 + 3, rfl, hlt, k0, k1, k2⟩
    match j, hu with
    | 0, hu => simp [wrCells] at hu; subst hu; simpa using c0
    | 1, hu => simp [wrCells] at hu; subst hu; simpa using c1
    | 2, hu => simp [wrCells] at hu; subst hu; simpa using c2
    | j + 3, hu =>
      have := ws_cells hl j u (by simpa [wrCells] using hu)
      rw [show o' + (j + 3) = o' + 3 + j by omega]
      exact this
theorem wrCells_one (ws : List WrP) : ∀ u ∈ wrCells ws, u.oneCell' = true := by
  intro u hu
  simp only [wrCells, List.mem_flatMap] at hu
  obtain ⟨x, _, hx⟩ := hu
  simp at hx
  rcases hx with rfl | rfl | rfl <;> rfl
theorem info115o : (Tryd.prog.info? 115).map (fun i => (i.zero, i.size, i.bytes)) = some (some (.agg #[.int .i64 0, .string ⟨#[]⟩, .bool false]), 3, 32) := by kernel_rfl
theorem info115 : ∃ i, Tryd.prog.info? 115 = some i ∧ i.zero = some (.agg #[.int .i64 0, .string ⟨#[]⟩, .bool false]) ∧ i.size = 3 ∧ i.bytes = 32 := by
  obtain ⟨i, hi, h⟩ := Option.map_eq_some_iff.1 info115o
  simp only [Prod.mk.injEq] at h
  exact ⟨i, hi, h.1, h.2.1, h.2.2⟩

@[go_sem] theorem eqNil38 (w : World) (a : Addr) (n c : Nat) : Sem.run Tryd.prog (binOp BinOp.eql 38 (.slice (some a) n c) (.slice none 0 0)) w = .ok (.bool false) w := by kernel_rfl
set_option maxRecDepth 20000 in
set_option maxHeartbeats 4000000 in
theorem sclone_any (A : Option Addr) (c : Nat) (ws : List WrP) (w : World) (hws : WsAt w A ws) (h0 : 0 < ws.length) (hn : ws.length ≤ 1000) :
    Calls Tryd.prog 92 #[.slice A ws.length c] w fun e w' => ∃ A' c', e = .returned (.slice A' ws.length c') ∧ WsAt w' A' ws ∧ Below w.heap.size w w' ∧ ∃ b, A' = some ⟨b, 0, none⟩ ∧ w.heap.size ≤ b := by
  have HWS := hidp hws
  obtain ⟨b, o, rfl, hb, _⟩ := hws 0 ws[0] (List.getElem?_eq_getElem h0)
  clear hws
  obtain ⟨i0, hi0, hz0, hz1, hz2⟩ := info115
  haveI : SzGe (b + 1) w := ⟨hb⟩
  go_enter Tryd.func92, Tryd.ntmps92
  have hcells := ws_cells HWS.out
  have HNW : Hid (∀ (W : World), Below w.heap.size w W → ∀ (j : Nat) (u : Value), (wrCells ws)[j]? = some u → W.cell? ((⟨b, o, none⟩ : Addr).add j) = some u) := hidp (by
    intro W hB j u hu
    have e : (⟨b, o, none⟩ : Addr).add j = ⟨b, o + j, none⟩ := by unfold Addr.add; split <;> simp_all
    rw [e, hB.cell (p := ⟨b, o + j, none⟩) hb]
    exact hcells j u hu)
  have HLN := hidp (wrCells_len ws)
  have h63 : 0 + ws.length ≤ maxLen := by refine Nat.le_trans ?_ maxLen_ge; omega
  have hby : (0 + ws.length) * 32 ≤ 140737488355328 := by omega
  clear hcells
  go_wp2_with (at_builtin; go_must (refine wpList_append_lies _ rfl _ _ 38 rfl w.heap.size 115 i0 (.agg #[.int .i64 0, .string ⟨#[]⟩, .bool false]) 3 32 Tryd.underlying38 hi0 hz0 hz1 hz2 rfl (by decide) (.slice (some ⟨w.heap.size, 0, none⟩) 0 0) 0 [] rfl ⟨rfl, .inr ⟨w.heap.size, 0, #[], rfl, Nat.le_refl _, by rw [heap_alloc, if_pos rfl], Nat.le_refl _, by simp only [maxLen]; omega, rfl, rfl⟩⟩ ⟨b, o, none⟩ ws.length c (wrCells ws) rfl HLN.out (HNW.out _ (blw_alloc (Below.refl _ _))) (wrCells_one ws) h0 h63 hby (by simp) _ rfl ?_))
  intro g1 cap1 w1 hown1 hgrow hgl hlt1
  try simp only [Nat.zero_add, List.nil_append] at hown1
  have hb1 : Below w.heap.size w w1 := Below.grown (show Below w.heap.size w (w.alloc (Obj.cells #[] 115)) from blw_alloc (Below.refl _ _)) hgrow (by simp) (fun j e => by simp [Value.ownBlock] at e; omega)
  have HR : Hid (WsAt w1 (some ⟨g1, 0, none⟩) ws ∧ Below w.heap.size w w1 ∧ w.heap.size ≤ g1) := hidp ⟨own_ws hown1, hb1, (own_ge hown1 rfl).1⟩
  clear hown1 hgrow hgl hlt1 hb1
  try simp only [Nat.zero_add]
  go_wp2_with fail
  go_ret
  exact ⟨_, _, rfl, HR.out.1, HR.out.2.1, g1, rfl, HR.out.2.2⟩

theorem wplus_heap_ge (w : World) (x : Tail) (k : Nat) (h : w.heap.size ≤ k) : (wplus w x).heap[k]? = x.blocks[k - w.heap.size]? := by
  simp only [wplus]; rw [Array.getElem?_append_right h]
theorem WsAt.move {w w' : World} {A : Option Addr} {ws : List WrP} (h : WsAt w A ws) (hb : ∀ b o, A = some ⟨b, o, none⟩ → w'.heap[b]? = w.heap[b]?) : WsAt w' A ws := fun i x hx => by
  obtain ⟨b, o, hA, hlt, h0, h1, h2⟩ := h i x hx
  have e := hb b o hA
  have e0 : ∀ j, w'.cell? ⟨b, j, none⟩ = w.cell? ⟨b, j, none⟩ := fun j => World.cell?_of_block e
  refine ⟨b, o, hA, ?_, by rw [e0]; exact h0, by rw [e0]; exact h1, by rw [e0]; exact h2⟩
  have := World.block_lt_of_cell? w' _ ((e0 _).trans h0)
  exact this
/-- a transaction in memory: what it says, and where its writes lie -/
structure MTx where
  t : TxP
  A : Option Addr
  c : Nat
def MTx.cells (m : MTx) : List Value := [.int .i64 m.t.site, .int .i64 m.t.seq, .int .i64 m.t.wall, .int .i64 m.t.count, .int .i64 m.t.d0, .int .i64 m.t.d1, .int .i64 m.t.d2, .int .i64 m.t.d3, .slice m.A m.t.ws.length m.c]
def MTx.val (m : MTx) : Value := .agg #[.int .i64 m.t.site, .int .i64 m.t.seq, .int .i64 m.t.wall, .int .i64 m.t.count, .int .i64 m.t.d0, .int .i64 m.t.d1, .int .i64 m.t.d2, .int .i64 m.t.d3, .slice m.A m.t.ws.length m.c]
theorem cell9 {w : World} {b : Nat} {x0 x1 x2 x3 x4 x5 x6 x7 x8 : Value} {t : TypeId} (h : w.heap[b]? = some (.cells #[x0, x1, x2, x3, x4, x5, x6, x7, x8] t)) :
    w.cell? ⟨b, 0, none⟩ = some x0 ∧ w.cell? ⟨b, 1, none⟩ = some x1 ∧ w.cell? ⟨b, 2, none⟩ = some x2 ∧ w.cell? ⟨b, 3, none⟩ = some x3 ∧ w.cell? ⟨b, 4, none⟩ = some x4 ∧ w.cell? ⟨b, 5, none⟩ = some x5 ∧ w.cell? ⟨b, 6, none⟩ = some x6 ∧ w.cell? ⟨b, 7, none⟩ = some x7 ∧ w.cell? ⟨b, 8, none⟩ = some x8 :=
  ⟨cell_blk h 0, cell_blk h 1, cell_blk h 2, cell_blk h 3, cell_blk h 4, cell_blk h 5, cell_blk h 6, cell_blk h 7, cell_blk h 8⟩

set_option maxRecDepth 20000 in
set_option maxHeartbeats 4000000 in
theorem clone_any (t : TxP) (A : Option Addr) (c : Nat) (w : World) (hws : WsAt w A t.ws) (h0 : 0 < t.ws.length) (hn : t.ws.length ≤ 1000) :
    Calls Tryd.prog 78 #[MTx.val ⟨t, A, c⟩] w fun e w' => ∃ A' c', e = .returned (MTx.val ⟨t, A', c'⟩) ∧ WsAt w' A' t.ws ∧ Below w.heap.size w w' ∧ ∃ b, A' = some ⟨b, 0, none⟩ ∧ w.heap.size ≤ b := by
  have HC := hidp fun w' (hb : Below w.heap.size w w') => sclone_any A c t.ws w' (hws.below hb) h0 hn
  unfold MTx.val
  obtain ⟨site, seq, wall, count, d0, d1, d2, d3, ws⟩ := t
  simp only at *
  clear hws
  go_enter Tryd.func78, Tryd.ntmps78
  go_wp2_with fail
  go_at_call 92
  refine (HC.out _ (by repeat (first | exact Below.refl _ _ | refine blw_alloc ?_ | refine blw_plus ?_ | refine Below.drew ?_))).mono ?_
  rintro e w1 ⟨A', c', rfl, hw1, hb1, b, rfl, hbb⟩
  have HW := hidp hw1
  obtain ⟨x, rfl⟩ := wplus_of_below hb1
  clear hw1 hb1
  have HB2 := hidp hbb
  clear hbb
  go_wp2_with fail
  have hbb := HB2.out
  simp at hbb
  refine bodyPost_ret (v := MTx.val ⟨⟨site, seq, wall, count, d0, d1, d2, d3, ws⟩, some ⟨b, 0, none⟩, c'⟩) ?_ rfl ⟨some ⟨b, 0, none⟩, c', rfl, ?_, ?_, b, rfl, by omega⟩
  · simp [results, Tryd.results78, go_sem, MTx.val]
  · refine HW.out.move ?_
    intro b' o' e
    obtain ⟨rfl, rfl⟩ : b' = b ∧ o' = 0 := by simp at e; exact ⟨e.1.symm, e.2.symm⟩
    rw [wplus_heap_ge _ _ _ (by simp; omega), wplus_heap_ge _ _ _ (by simp; omega)]
    simp
  · repeat (first | exact Below.refl _ _ | refine blw_alloc ?_ | refine blw_plus ?_ | refine Below.drew ?_)
end Go.Proofs.YtbopfhbeegkkaaaDoor

namespace Go.Proofs.YtbopfhbeegkkaaaDoor
open Go.RowKit Go.WideMaps Go.WideShapes Go.ChangeShapes
open Go.Maps (Keyed)

/-- a value of the map is held as it is -/
def heldV (v : Value) : Option (DataW Value × List MemPlace) := some (.held v, [])
theorem laidOutD : laidOutB Tryd.prog = true := by kernel_rfl
theorem row151 : (151 : TypeId) < Tryd.prog.types.size := of_decide_eq_true (by kernel_rfl)
theorem wide151 : (match Tryd.prog.underlying 151 with | some (.array _ _) | some (.struct _) => true | _ => false) = true := by kernel_rfl
set_option maxRecDepth 100000 in
theorem law151 : KeyLaw Tryd.prog 151 := deep_law_laid laidOutD (m := 2) (by omega) row151 (by kernel_rfl) wide151
theorem keyed151 : Keyed Tryd.prog 151 := Keyed.of_law law151
def klOf (s q : Int) : Lit := .string (keyBytes [.int .i64 s, .int .i64 q])
def wf64 (z : Int) : Prop := -9223372036854775808 ≤ z ∧ z ≤ 9223372036854775807
theorem wf64_lit {z : Int} (h : wf64 z) : (Lit.int .i64 z).wf = true := by
  unfold wf64 at h
  simp [Lit.wf, IntKind.min, IntKind.max, IntKind.signed, IntKind.bits]; omega
theorem keyOf151 {s q : Int} (hs : wf64 s) (hq : wf64 q) : keyOf Tryd.prog 151 (.agg #[.int .i64 s, .int .i64 q]) = some (klOf s q) := by
  have h1 := wf64_lit hs
  have h2 := wf64_lit hq
  have hk : Tryd.prog.keyType 151 = true := by kernel_rfl
  have hc : Tryd.prog.cellsOf 151 = 2 := by kernel_rfl
  have h3 : Tryd.prog.cellsOf 3 = 1 := by kernel_rfl
  have hm : Tryd.prog.types.size = 222 + 1 := by kernel_rfl
  have hform : (Value.agg #[.int .i64 s, .int .i64 q]).formed Tryd.prog 151 = true := by simp [Value.formed, Tryd.underlying151, hc]
  unfold keyOf
  simp only [Tryd.underlying151]
  rw [if_pos (by rw [hk, hform]; rfl), hm]
  unfold Program.keyLits
  simp only [Tryd.underlying151, Value.cells]
  rw [if_pos (by rw [hc]; exact ⟨rfl, by simp⟩)]
  simp only [List.mapM_cons, List.mapM_nil]
  simp [h3, Program.keyLits, Tryd.underlying3, h1, h2, klOf]

theorem klOf_ne {s q s' q' : Int} (hs : wf64 s) (hq : wf64 q) (hs' : wf64 s') (hq' : wf64 q') (h : ¬ (s = s' ∧ q = q')) : klOf s q ≠ klOf s' q' := by
  intro e
  have := keyed151.inj (keyOf151 hs hq) (by rw [e]; exact keyOf151 hs' hq')
  simp only [Value.agg.injEq, Array.mk.injEq, List.cons.injEq, Value.int.injEq, true_and, and_true] at this
  exact h this
theorem klOf_key {s q : Int} (hs : wf64 s) (hq : wf64 q) : WideAt.IsKeyLit (klOf s q) := keyed151.key (keyOf151 hs hq)
def txZero : Value := .agg #[.int .i64 0, .int .i64 0, .int .i64 0, .int .i64 0, .int .i64 0, .int .i64 0, .int .i64 0, .int .i64 0, .slice none 0 0]
theorem zero40 (w : World) : (zeroValue 40).run Tryd.prog w = .ok txZero w := by kernel_rfl
theorem map146 : Tryd.prog.underlying 146 = some (.map 151 40) := Tryd.underlying146

/-- the block m is a map that has just what f says -/
def MpAt (w : World) (m : Nat) (f : Int → Int → Option Value) (sz : Nat) : Prop :=
  ∃ D : DataW Value, w.ownsMap Tryd.prog 151 heldV m sz D ∧ Maps.size D = sz ∧ ∀ s q, wf64 s → wf64 q → Maps.has D (klOf s q) = (f s q).isSome ∧ ∀ z, D.atKey (klOf s q) z = match f s q with | some v => .held v | none => z
theorem MpAt.lt {w : World} {m sz : Nat} {f : Int → Int → Option Value} (h : MpAt w m f sz) : m < w.heap.size := by
  obtain ⟨D, h1, _⟩ := h
  exact h1.lt
theorem MpAt.kept {w w' : World} {m sz : Nat} {f : Int → Int → Option Value} {row : Option Nat} (h : MpAt w m f sz) (hg : w.grownBy w' row) (hne : some m ≠ row) : MpAt w' m f sz := by
  obtain ⟨D, h1, h2, h3⟩ := h
  exact ⟨D, h1.kept hg hne, h2, h3⟩
theorem MpAt.block {w w' : World} {m sz : Nat} {f : Int → Int → Option Value} (h : MpAt w m f sz) (hb : w'.heap[m]? = w.heap[m]?) : MpAt w' m f sz := by
  obtain ⟨D, ⟨es, clock, e1, e2⟩, h2, h3⟩ := h
  exact ⟨D, ⟨es, clock, hb.trans e1, e2⟩, h2, h3⟩
theorem MpAt.below {w w' : World} {m sz : Nat} {f : Int → Int → Option Value} (h : MpAt w m f sz) (hb : Below w.heap.size w w') : MpAt w' m f sz := h.block (hb.block m h.lt)
theorem MpAt.made {w : World} {m : Nat} (h : w.heap[m]? = some (.map #[] 0)) : MpAt w m (fun _ _ => none) 0 := by
  have h1 := World.ownsMap_made (H := Value) w Tryd.prog 151 heldV
  obtain ⟨es, clock, e1, e2⟩ := h1
  have e3 : (w.alloc (.map #[] 0)).heap[w.heap.size]? = some (.map #[] 0) := by rw [heap_alloc, if_pos rfl]
  rw [e3] at e1
  refine ⟨.map [], ⟨es, clock, h.trans e1, e2⟩, rfl, fun s q _ _ => ⟨rfl, fun z => rfl⟩⟩
theorem MpAt.look {w : World} {m sz : Nat} {f : Int → Int → Option Value} (h : MpAt w m f sz) {s q : Int} (hs : wf64 s) (hq : wf64 q) :
    (Instr.lookup 146 (.map (some m)) (.agg #[.int .i64 s, .int .i64 q]) true).run Tryd.prog w = .ok (.tuple #[(f s q).getD txZero, .bool (f s q).isSome]) w := by
  obtain ⟨D, h1, h2, h3⟩ := h
  obtain ⟨v, ps, hrun, hv⟩ := h1.look_ok keyed151 map146 (zero40 w) (zd := .held txZero) (zp := []) rfl (keyOf151 hs hq)
  obtain ⟨e1, e2⟩ := h3 s q hs hq
  rw [hrun, e1]
  simp only [heldV, Option.some.injEq, Prod.mk.injEq] at hv
  have := e2 (.held txZero)
  rw [← hv.1] at this
  cases hf : f s q with
  | none => rw [hf] at this; simp only [DataW.held.injEq] at this; rw [this]; rfl
  | some u => rw [hf] at this; simp only [DataW.held.injEq] at this; rw [this]; rfl
theorem MpAt.len {w : World} {m sz : Nat} {f : Int → Int → Option Value} (h : MpAt w m f sz) (ty : TypeId) : (Builtin.len_ #[146] ty #[.map (some m)]).run Tryd.prog w = .ok (.int .i64 sz) w := by
  obtain ⟨D, h1, h2, h3⟩ := h
  rw [h1.len map146 ty, h2]
def mput (f : Int → Int → Option Value) (s q : Int) (v : Option Value) : Int → Int → Option Value := fun s' q' => if s' = s ∧ q' = q then v else f s' q'
theorem tight {w : World} {m n : Nat} {D : DataW Value} (h : w.ownsMap Tryd.prog 151 heldV m n D) : w.ownsMap Tryd.prog 151 heldV m (Maps.size D) D := by
  obtain ⟨es, clock, hb, F, hs, hD⟩ := h
  refine ⟨es, clock, hb, F, ?_, hD⟩
  rw [hD]
  simp [Maps.size, length_sorted]
theorem MpAt.store {w : World} {m sz : Nat} {f : Int → Int → Option Value} (h : MpAt w m f sz) (hn : sz ≤ 1000000) {s q : Int} (hs : wf64 s) (hq : wf64 q) (v : Value) :
    ∃ w', (Instr.mapUpdate 146 (.map (some m)) (.agg #[.int .i64 s, .int .i64 q]) v).run Tryd.prog w = .ok () w' ∧ MpAt w' m (mput f s q (some v)) (if (f s q).isSome then sz else sz + 1) ∧ w.mapTurned w' m := by
  obtain ⟨D, h1, h2, h3⟩ := h
  obtain ⟨w', hrun, r1, r2⟩ := h1.store keyed151 map146 (by simp only [maxLen]; omega) (keyOf151 hs hq) (val := v) (d := .held v) (ps := []) rfl
  have hsz : Maps.size (D.put (klOf s q) (.held v)) = if (f s q).isSome then sz else sz + 1 := by
    rw [Maps.size_put (h1.tidy keyed151), (h3 s q hs hq).1, h2]
  refine ⟨w', hrun, ⟨_, ?_, hsz, ?_⟩, r2⟩
  · rw [← hsz]; exact tight r1
  · intro s' q' hs' hq'
    unfold mput
    by_cases e : s' = s ∧ q' = q
    · obtain ⟨rfl, rfl⟩ := e
      simp only [and_self, if_true]
      exact ⟨Maps.has_put_same h1.isMap (klOf_key hs hq) _, fun z => Maps.atKey_put_same h1.isMap (klOf_key hs hq) _ z⟩
    · have hne := klOf_ne hs' hq' hs hq e
      rw [if_neg e]
      exact ⟨(Maps.has_put_other hne _).trans (h3 s' q' hs' hq').1, fun z => (Maps.atKey_put_other hne _ z).trans ((h3 s' q' hs' hq').2 z)⟩
theorem MpAt.drop {w : World} {m sz : Nat} {f : Int → Int → Option Value} (h : MpAt w m f sz) {s q : Int} (hs : wf64 s) (hq : wf64 q) (ty : TypeId) :
    ∃ w', (Builtin.delete_ #[146, 151] ty #[.map (some m), .agg #[.int .i64 s, .int .i64 q]]).run Tryd.prog w = .ok (.tuple #[]) w' ∧ MpAt w' m (mput f s q none) (if (f s q).isSome then sz - 1 else sz) ∧ w.mapTurned w' m := by
  obtain ⟨D, h1, h2, h3⟩ := h
  obtain ⟨w', hrun, r1, r2⟩ := h1.drop keyed151 map146 (keyOf151 hs hq) ty
  have hsz : Maps.size (D.del (klOf s q)) = if (f s q).isSome then sz - 1 else sz := by
    have := Maps.size_del (k := klOf s q) (h1.tidy keyed151)
    rw [(h3 s q hs hq).1, h2] at this
    split <;> simp_all <;> omega
  refine ⟨w', hrun, ⟨_, ?_, hsz, ?_⟩, r2⟩
  · rw [← hsz]; exact tight r1
  · intro s' q' hs' hq'
    unfold mput
    by_cases e : s' = s ∧ q' = q
    · obtain ⟨rfl, rfl⟩ := e
      simp only [and_self, if_true]
      exact ⟨Maps.has_del_same, fun z => Maps.atKey_del_same z⟩
    · have hne := klOf_ne hs' hq' hs hq e
      rw [if_neg e]
      exact ⟨(Maps.has_del_other hne).trans (h3 s' q' hs' hq').1, fun z => (Maps.atKey_del_other hne z).trans ((h3 s' q' hs' hq').2 z)⟩
end Go.Proofs.YtbopfhbeegkkaaaDoor

namespace Go.Proofs.YtbopfhbeegkkaaaDoor
open Go.RowKit

/-- what a site has -/
structure SiP where
  id : Int
  p0 : Int
  p1 : Int
  p2 : Int
  p3 : Int
  lw : Int
  lc : Int
  log : List MTx
  wt : Int → Int → Option MTx
  wn : Nat
  st : Nat → List VerP
  ot : Nat → Int
/-- the blocks that a site writes -/
def SiOwn (x mb : Nat) (lv : Value) (sv : Nat → Value) (b : Nat) : Prop := b = x ∨ b = mb ∨ lv.ownBlock = some b ∨ ∃ k, k < 8 ∧ (sv k).ownBlock = some b
/-- the transactions that it has, or that wait -/
def SiP.has (s : SiP) (m : MTx) : Prop := m ∈ s.log ∨ ∃ a b, s.wt a b = some m
structure SiAt (w : World) (B x : Nat) (s : SiP) (mb : Nat) (lv : Value) (sv : Nat → Value) : Prop where
  c0 : w.cell? ⟨x, 0, none⟩ = some (.int .i64 s.id)
  c1 : w.cell? ⟨x, 1, none⟩ = some (.int .i64 s.p0)
  c2 : w.cell? ⟨x, 2, none⟩ = some (.int .i64 s.p1)
  c3 : w.cell? ⟨x, 3, none⟩ = some (.int .i64 s.p2)
  c4 : w.cell? ⟨x, 4, none⟩ = some (.int .i64 s.p3)
  c5 : w.cell? ⟨x, 5, none⟩ = some (.int .i64 s.lw)
  c6 : w.cell? ⟨x, 6, none⟩ = some (.int .i64 s.lc)
  c7 : w.cell? ⟨x, 7, none⟩ = some lv
  c8 : w.cell? ⟨x, 8, none⟩ = some (.map (some mb))
  oth : ∀ k, k < 16 → w.cell? ⟨x, 17 + k, none⟩ = some (.int .i64 (s.ot k))
  frz : ∀ k, w.frozen? ⟨x, k, none⟩ = false
  sto : StAt w x 9 B s.st sv
  row : w.ownsRow B 40 9 lv s.log.length (s.log.flatMap MTx.cells)
  map : MpAt w mb (fun a b => (s.wt a b).map MTx.val) s.wn
  bx : B ≤ x
  bm : B ≤ mb
  dxm : mb ≠ x
  dxl : lv.ownBlock ≠ some x
  dml : lv.ownBlock ≠ some mb
  dms : ∀ k, k < 8 → (sv k).ownBlock ≠ some mb
  dls : ∀ k, k < 8 → ∀ b, lv.ownBlock = some b → (sv k).ownBlock ≠ some b
  dat : ∀ m, s.has m → WsAt w m.A m.t.ws ∧ ∀ b o, m.A = some ⟨b, o, none⟩ → b < w.heap.size ∧ ¬ SiOwn x mb lv sv b
/-- what a site's work leaves alone -/
structure SiFr (w w' : World) (own own' : Nat → Prop) : Prop where
  os : w'.os = w.os
  tape : w'.tape = w.tape
  output : w'.output = w.output
  size : w.heap.size ≤ w'.heap.size
  block : ∀ k, k < w.heap.size → ¬ own k → w'.heap[k]? = w.heap[k]?
  own : ∀ b, own' b → own b ∨ w.heap.size ≤ b
theorem SiAt.lt {w : World} {B x mb : Nat} {s : SiP} {lv : Value} {sv : Nat → Value} (h : SiAt w B x s mb lv sv) {b : Nat} (hb : SiOwn x mb lv sv b) : B ≤ b ∧ b < w.heap.size := by
  rcases hb with rfl | rfl | hb | ⟨k, hk, hb⟩
  · exact ⟨h.bx, h.sto.lt⟩
  · exact ⟨h.bm, h.map.lt⟩
  · exact own_ge h.row hb
  · exact own_ge (h.sto.own k hk) hb
theorem WsAt.keep {w w' : World} {A : Option Addr} {ws : List WrP} (h : WsAt w A ws) (hb : ∀ b o, A = some ⟨b, o, none⟩ → w'.heap[b]? = w.heap[b]?) : WsAt w' A ws := h.move hb
/-- the site is as it was where none of its blocks, nor of its transactions' writes, was written -/
theorem SiAt.same {w w' : World} {B x mb : Nat} {s : SiP} {lv : Value} {sv : Nat → Value} (h : SiAt w B x s mb lv sv) (hsz : w.heap.size ≤ w'.heap.size) (ho : ∀ b, SiOwn x mb lv sv b → w'.heap[b]? = w.heap[b]?)
    (hd : ∀ m, s.has m → ∀ b o, m.A = some ⟨b, o, none⟩ → w'.heap[b]? = w.heap[b]?) : SiAt w' B x s mb lv sv := by
  have hx := ho x (.inl rfl)
  have hc : ∀ k, w'.cell? ⟨x, k, none⟩ = w.cell? ⟨x, k, none⟩ := fun k => World.cell?_of_block hx
  have hf : ∀ k, w'.frozen? ⟨x, k, none⟩ = w.frozen? ⟨x, k, none⟩ := fun k => World.frozen?_of_block hx
  have hrow : ∀ {e n z : Nat} {v : Value} {xs : List Value}, w.ownsRow B e z v n xs → (∀ b, v.ownBlock = some b → w'.heap[b]? = w.heap[b]?) → w'.ownsRow B e z v n xs := by
    intro e n z v xs h1 h2
    obtain ⟨hl, hn | ⟨g, cap, cur, hv, hb, hg, rest⟩⟩ := h1
    · exact ⟨hl, .inl hn⟩
    · exact ⟨hl, .inr ⟨g, cap, cur, hv, hb, by rw [h2 g (by rw [hv]; rfl)]; exact hg, rest⟩⟩
  refine ⟨(hc 0).trans h.c0, (hc 1).trans h.c1, (hc 2).trans h.c2, (hc 3).trans h.c3, (hc 4).trans h.c4, (hc 5).trans h.c5, (hc 6).trans h.c6, (hc 7).trans h.c7, (hc 8).trans h.c8, fun k hk => (hc _).trans (h.oth k hk), fun k => (hf k).trans (h.frz k), ?_, ?_, ?_, h.bx, h.bm, h.dxm, h.dxl, h.dml, h.dms, h.dls, ?_⟩
  · exact ⟨Nat.lt_of_lt_of_le h.sto.lt hsz, fun k hk => (hc _).trans (h.sto.cel k hk), fun k hk => (hf _).trans (h.sto.frz k hk), fun k hk => hrow (h.sto.own k hk) (fun b e => ho b (.inr (.inr (.inr ⟨k, hk, e⟩)))), h.sto.ng, h.sto.dis⟩
  · exact hrow h.row (fun b e => ho b (.inr (.inr (.inl e))))
  · exact h.map.block (ho mb (.inr (.inl rfl)))
  · intro m hm
    obtain ⟨h1, h2⟩ := h.dat m hm
    exact ⟨h1.keep (hd m hm), fun b o e => ⟨Nat.lt_of_lt_of_le (h2 b o e).1 hsz, (h2 b o e).2⟩⟩
theorem SiAt.below {w w' : World} {B x mb : Nat} {s : SiP} {lv : Value} {sv : Nat → Value} (h : SiAt w B x s mb lv sv) (hb : Below w.heap.size w w') : SiAt w' B x s mb lv sv :=
  h.same hb.size (fun b hb' => hb.block b (h.lt hb').2) (fun m hm b o e => hb.block b ((h.dat m hm).2 b o e).1)
/-- another site's work, that shares no block with it, leaves it as it was -/
theorem SiAt.beside {w w' : World} {B x mb : Nat} {s : SiP} {lv : Value} {sv : Nat → Value} {own own' : Nat → Prop} (h : SiAt w B x s mb lv sv) (fr : SiFr w w' own own') (hd : ∀ b, SiOwn x mb lv sv b → ¬ own b)
    (hdd : ∀ m, s.has m → ∀ b o, m.A = some ⟨b, o, none⟩ → ¬ own b) : SiAt w' B x s mb lv sv :=
  h.same fr.size (fun b hb => fr.block b (h.lt hb).2 (hd b hb)) (fun m hm b o e => fr.block b ((h.dat m hm).2 b o e).1 (hdd m hm b o e))
theorem SiFr.of_below {w w' : World} (own : Nat → Prop) (hb : Below w.heap.size w w') : SiFr w w' own own :=
  ⟨hb.os, hb.tape, hb.output, hb.size, fun k hk _ => hb.block k hk, fun _ h => .inl h⟩
theorem SiFr.trans {w W W' : World} {o1 o2 o3 : Nat → Prop} (h : SiFr w W o1 o2) (h2 : SiFr W W' o2 o3) : SiFr w W' o1 o3 :=
  ⟨h2.os.trans h.os, h2.tape.trans h.tape, h2.output.trans h.output, Nat.le_trans h.size h2.size,
   fun k hk hn => (h2.block k (Nat.lt_of_lt_of_le hk h.size) (fun e => (h.own k e).elim hn (fun e2 => absurd hk (by omega)))).trans (h.block k hk hn),
   fun b hb => (h2.own b hb).elim (h.own b) (fun e => .inr (Nat.le_trans h.size e))⟩
theorem SiFr.low {w w' : World} {own own' : Nat → Prop} {n : Nat} (h : SiFr w w' own own') (ho : ∀ b, own b → n ≤ b) (hn : n ≤ w.heap.size) : Below n w w' :=
  ⟨h.os, h.tape, h.output, h.size, fun k hk => h.block k (by omega) (fun e => by have := ho k e; omega)⟩
end Go.Proofs.YtbopfhbeegkkaaaDoor

namespace Go.Proofs.YtbopfhbeegkkaaaDoor
open Go.RowKit

set_option maxHeartbeats 400000 in
theorem max1_any (a b : Int) (w : World) :
    Calls Tryd.prog 72 #[.int .i64 a, .int .i64 b] w fun e w' => e = .returned (.int .i64 (max a b)) ∧ w = w' := by
  rcases Int.le_total a b with h | h
  · rw [Int.max_eq_right h]
    by_cases h1 : a < b
    all_goals
      go_enter Tryd.func72, Tryd.ntmps72
      go_wp2
      all_goals go_ret
      all_goals exact ⟨by simp; try omega, rfl⟩
  · rw [Int.max_eq_left h]
    by_cases h1 : b < a
    all_goals
      go_enter Tryd.func72, Tryd.ntmps72
      go_wp2
      all_goals go_ret
      all_goals exact ⟨by simp; try omega, rfl⟩

set_option maxHeartbeats 1000000 in
theorem eachMax_any (a0 a1 a2 a3 b0 b1 b2 b3 : Int) (w : World) :
    Calls Tryd.prog 71 #[.agg #[.int .i64 a0, .int .i64 a1, .int .i64 a2, .int .i64 a3], .agg #[.int .i64 b0, .int .i64 b1, .int .i64 b2, .int .i64 b3], .func (.func 72) #[] #[]] w
      fun e w' => e = .returned (.agg #[.int .i64 (max a0 b0), .int .i64 (max a1 b1), .int .i64 (max a2 b2), .int .i64 (max a3 b3)]) ∧ Below w.heap.size w w' := by
  go_enter Tryd.func71, Tryd.ntmps71
  go_wp2
  refine wp_loop_rounds 5 ?_
  rw [rounds_succ]
  go_wp2
  refine wp_region_plus_tail 10 (by kernel_rfl) (by kernel_rfl) ?_
  simp only [List.take_succ_cons, List.take_zero, List.drop_succ_cons, List.drop_zero]
  repeat (first | go_big_quiet_skip | (go_big_quiet_want; go_big_quiet_op; first | go_big_quiet_on | (apply Exists.intro; refine ⟨fun _ => Calls.plus_same (max1_any _ _ _), ?_⟩; go_big_quiet_on)))
  refine wpQuiet_nil ?_
  rintro _ ⟨x0, rfl⟩
  go_wp2
  rw [rounds_succ]
  go_wp2
  refine wp_region_plus_tail 10 (by kernel_rfl) (by kernel_rfl) ?_
  simp only [List.take_succ_cons, List.take_zero, List.drop_succ_cons, List.drop_zero]
  repeat (first | go_big_quiet_skip | (go_big_quiet_want; go_big_quiet_op; first | go_big_quiet_on | (apply Exists.intro; refine ⟨fun _ => Calls.plus_same (max1_any _ _ _), ?_⟩; go_big_quiet_on)))
  refine wpQuiet_nil ?_
  rintro _ ⟨x1, rfl⟩
  go_wp2
  rw [rounds_succ]
  go_wp2
  refine wp_region_plus_tail 10 (by kernel_rfl) (by kernel_rfl) ?_
  simp only [List.take_succ_cons, List.take_zero, List.drop_succ_cons, List.drop_zero]
  repeat (first | go_big_quiet_skip | (go_big_quiet_want; go_big_quiet_op; first | go_big_quiet_on | (apply Exists.intro; refine ⟨fun _ => Calls.plus_same (max1_any _ _ _), ?_⟩; go_big_quiet_on)))
  refine wpQuiet_nil ?_
  rintro _ ⟨x2, rfl⟩
  go_wp2
  rw [rounds_succ]
  go_wp2
  refine wp_region_plus_tail 10 (by kernel_rfl) (by kernel_rfl) ?_
  simp only [List.take_succ_cons, List.take_zero, List.drop_succ_cons, List.drop_zero]
  repeat (first | go_big_quiet_skip | (go_big_quiet_want; go_big_quiet_op; first | go_big_quiet_on | (apply Exists.intro; refine ⟨fun _ => Calls.plus_same (max1_any _ _ _), ?_⟩; go_big_quiet_on)))
  refine wpQuiet_nil ?_
  rintro _ ⟨x3, rfl⟩
  go_wp2
  rw [rounds_succ]
  go_wp2
  exact bodyPost_ret (v := .agg #[.int .i64 (max a0 b0), .int .i64 (max a1 b1), .int .i64 (max a2 b2), .int .i64 (max a3 b3)]) (by simp [results, Tryd.results71, go_sem]) rfl ⟨rfl, (by repeat (first | exact Below.refl _ _ | refine blw_alloc ?_ | refine blw_plus ?_ | refine Below.drew ?_))⟩

set_option maxHeartbeats 400000 in
theorem vMax_any (a0 a1 a2 a3 b0 b1 b2 b3 : Int) (w : World) :
    Calls Tryd.prog 35 #[.agg #[.int .i64 a0, .int .i64 a1, .int .i64 a2, .int .i64 a3], .agg #[.int .i64 b0, .int .i64 b1, .int .i64 b2, .int .i64 b3]] w
      fun e w' => e = .returned (.agg #[.int .i64 (max a0 b0), .int .i64 (max a1 b1), .int .i64 (max a2 b2), .int .i64 (max a3 b3)]) ∧ Below w.heap.size w w' := by
  go_enter Tryd.func35, Tryd.ntmps35
  go_wp2_with (go_at_call 71; refine (eachMax_any _ _ _ _ _ _ _ _ _).mono ?_; rintro e w' ⟨rfl, hb⟩; obtain ⟨x, rfl⟩ := wplus_of_below hb; clear hb)
  exact bodyPost_ret (v := .agg #[.int .i64 (max a0 b0), .int .i64 (max a1 b1), .int .i64 (max a2 b2), .int .i64 (max a3 b3)]) (by simp [results, Tryd.results35, go_sem]) rfl ⟨rfl, (by repeat (first | exact Below.refl _ _ | refine blw_alloc ?_ | refine blw_plus ?_ | refine Below.drew ?_))⟩


def pickN (a : Int) (n : Nat) : Nat := (IntKind.u64.wrap a).toNat % n
theorem pickN_lt (a : Int) {n : Nat} (hn : 0 < n) : pickN a n < n := Nat.mod_lt _ hn
theorem pick_is (a : Int) (n : Nat) (w : World) (hn : 0 < n) (hn2 : n ≤ 1000000) :
    Calls Tryd.prog 32 #[.int .i64 a, .int .i64 n] w fun e w' => e = .returned (.int .i64 (pickN a n)) ∧ w = w' := by
  go_enter Tryd.func32, Tryd.ntmps32
  go_wp2
  go_ret
  have h1 : 0 ≤ IntKind.u64.wrap a := by simp [IntKind.wrap, IntKind.signed, IntKind.bits]; omega
  obtain ⟨x, hx⟩ := Int.eq_ofNat_of_zero_le h1
  have h2 : (IntKind.u64.wrap a).tmod (n : Int) = ((x % n : Nat) : Int) := by rw [hx]; rfl
  have h3 : x % n < n := Nat.mod_lt _ hn
  have h5 : pickN a n = x % n := by unfold pickN; rw [hx]; rfl
  refine ⟨?_, rfl⟩
  have h4 : wrap64 ((x % n : Nat) : Int) = ((x % n : Nat) : Int) := by unfold wrap64; omega
  rw [h2, h4, h5]
  rfl
theorem tell_any (n : Int) (w : World) (hg : EType w) : Calls Tryd.prog 37 #[errV n] w fun e w' => e = .returned (.int .i64 n) ∧ Below w.heap.size w w' := by
  unfold errV
  split
  · rename_i h
    subst h
    exact (tell_nil w).mono fun e w' ⟨h1, h2⟩ => ⟨h1, h2 ▸ Below.refl _ _⟩
  · exact tell_errno n w hg
end Go.Proofs.YtbopfhbeegkkaaaDoor

namespace Go.Proofs.YtbopfhbeegkkaaaDoor
def Fit (S : Nat → List VerP) (N : Nat) : Prop := ∀ k, k < 8 → (∀ x ∈ S k, 0 ≤ x.site ∧ x.site < 4) ∧ (S k).length ≤ N

def ltV (a b : VerP) : Prop := a.w < b.w ∨ (a.w = b.w ∧ (a.c < b.c ∨ (a.c = b.c ∧ a.site < b.site)))
def sameV (a b : VerP) : Prop := a.w = b.w ∧ a.c = b.c ∧ a.site = b.site
theorem cmpV_neg (a b : VerP) : cmpV a b < 0 ↔ ltV a b := by
  unfold cmpV cmpS orI cmpI ltV
  repeat' split
  all_goals omega
theorem cmpV_zero (a b : VerP) : cmpV a b = 0 ↔ sameV a b := by
  unfold cmpV cmpS orI cmpI sameV
  repeat' split
  all_goals omega
theorem ltV_trans {a b c : VerP} (h : ltV a b) (h2 : ltV b c) : ltV a c := by unfold ltV at *; omega
theorem ltV_irr {a b : VerP} (h : ltV a b) (h2 : ltV b a) : False := by unfold ltV at *; omega
theorem ltV_tri (a b : VerP) : ltV a b ∨ sameV a b ∨ ltV b a := by unfold ltV sameV; omega
theorem ltV_same {a b : VerP} (h : ltV a b) (h2 : sameV a b) : False := by unfold ltV sameV at *; omega
theorem ltV_same' {a b : VerP} (h : ltV a b) (h2 : sameV b a) : False := by unfold ltV sameV at *; omega
def Srt (vs : List VerP) : Prop := vs.Pairwise ltV
theorem srt_lt {vs : List VerP} (h : Srt vs) {i j : Nat} (hij : i < j) (hj : j < vs.length) : ltV (vs.getD i default) (vs.getD j default) := by
  have := List.pairwise_iff_getElem.1 h i j (by omega) hj hij
  simpa [List.getD, List.getElem?_eq_getElem (show i < vs.length by omega), List.getElem?_eq_getElem hj] using this
theorem getD_mem' {vs : List VerP} {i : Nat} (h : i < vs.length) : vs.getD i default ∈ vs := by
  simp [List.getD, List.getElem?_eq_getElem h]
theorem mem_getD {vs : List VerP} {x : VerP} (h : x ∈ vs) : ∃ i, i < vs.length ∧ vs.getD i default = x := by
  obtain ⟨i, hi, rfl⟩ := List.getElem_of_mem h
  exact ⟨i, hi, by simp [List.getD, List.getElem?_eq_getElem hi]⟩

theorem bsGo_spec {vs : List VerP} (hs : Srt vs) (v : VerP) : ∀ (f lo hi : Nat), hi - lo ≤ f → lo ≤ hi → hi ≤ vs.length → (∀ i, i < lo → ltV (vs.getD i default) v) → (∀ i, hi ≤ i → i < vs.length → ¬ ltV (vs.getD i default) v) →
    (∀ i, i < bsGo vs v f lo hi → ltV (vs.getD i default) v) ∧ (∀ i, bsGo vs v f lo hi ≤ i → i < vs.length → ¬ ltV (vs.getD i default) v)
  | 0, lo, hi, hf, hl, hh, h1, h2 => by
    unfold bsGo
    exact ⟨h1, fun i hi' hl' => h2 i (by omega) hl'⟩
  | f + 1, lo, hi, hf, hl, hh, h1, h2 => by
    unfold bsGo
    split
    · split
      · rename_i hlt hc
        refine bsGo_spec hs v f _ hi (by omega) (by omega) hh ?_ h2
        intro i hi'
        rw [cmpV_neg] at hc
        by_cases e : i = (lo + hi) / 2
        · subst e; exact hc
        · exact ltV_trans (srt_lt hs (by omega) (by omega)) hc
      · rename_i hlt hc
        refine bsGo_spec hs v f lo _ (by omega) (by omega) (by omega) h1 ?_
        intro i hi' hl'
        rw [cmpV_neg] at hc
        by_cases e : i = (lo + hi) / 2
        · subst e; exact hc
        · intro h; exact hc (ltV_trans (srt_lt hs (by omega) hl') h)
    · exact ⟨h1, fun i hi' hl' => h2 i (by omega) hl'⟩
theorem bsK_lo {vs : List VerP} (hs : Srt vs) (v : VerP) : ∀ i, i < bsK vs v → ltV (vs.getD i default) v :=
  (bsGo_spec hs v vs.length 0 vs.length (by omega) (by omega) (by omega) (fun i h => by omega) (fun i h h2 => by omega)).1
theorem bsK_hi {vs : List VerP} (hs : Srt vs) (v : VerP) : ∀ i, bsK vs v ≤ i → i < vs.length → ¬ ltV (vs.getD i default) v :=
  (bsGo_spec hs v vs.length 0 vs.length (by omega) (by omega) (by omega) (fun i h => by omega) (fun i h h2 => by omega)).2
theorem bsF_iff {vs : List VerP} (hs : Srt vs) (v : VerP) : bsF vs v = true ↔ ∃ x ∈ vs, sameV x v := by
  unfold bsF
  rw [Bool.and_eq_true, decide_eq_true_eq, decide_eq_true_eq, cmpV_zero]
  constructor
  · rintro ⟨h1, h2⟩
    exact ⟨_, getD_mem' h1, h2⟩
  · rintro ⟨x, hx, hsm⟩
    obtain ⟨i, hi, rfl⟩ := mem_getD hx
    have h1 : ¬ i < bsK vs v := fun h => ltV_same (bsK_lo hs v i h) hsm
    have h2 : bsK vs v < vs.length := by omega
    refine ⟨h2, ?_⟩
    by_cases e : i = bsK vs v
    · subst e; exact hsm
    · have h3 := srt_lt hs (show bsK vs v < i by omega) hi
      exact absurd (show ltV (vs.getD (bsK vs v) default) v by unfold ltV sameV at *; omega) (bsK_hi hs v _ (Nat.le_refl _) h2)
theorem insV_mem (vs : List VerP) (v x : VerP) : x ∈ insV vs v ↔ x = v ∨ x ∈ vs := by
  unfold insV
  have : x ∈ vs ↔ x ∈ vs.take (bsK vs v) ∨ x ∈ vs.drop (bsK vs v) := by
    rw [← List.mem_append, List.take_append_drop]
  rw [this]
  simp only [List.mem_append, List.mem_singleton]
  constructor
  · rintro ((h | h) | h)
    · exact .inr (.inl h)
    · exact .inl h
    · exact .inr (.inr h)
  · rintro (h | h | h)
    · exact .inl (.inr h)
    · exact .inl (.inl h)
    · exact .inr h
theorem take_getD {vs : List VerP} {k : Nat} {x : VerP} (h : x ∈ vs.take k) : ∃ i, i < k ∧ i < vs.length ∧ vs.getD i default = x := by
  obtain ⟨i, hi, rfl⟩ := List.getElem_of_mem h
  rw [List.length_take] at hi
  exact ⟨i, by omega, by omega, by simp [List.getD, List.getElem?_eq_getElem (show i < vs.length by omega)]⟩
theorem drop_getD {vs : List VerP} {k : Nat} {x : VerP} (h : x ∈ vs.drop k) : ∃ i, k ≤ i ∧ i < vs.length ∧ vs.getD i default = x := by
  obtain ⟨i, hi, rfl⟩ := List.getElem_of_mem h
  rw [List.length_drop] at hi
  exact ⟨k + i, by omega, by omega, by simp [List.getD, List.getElem?_eq_getElem (show k + i < vs.length by omega)]⟩
theorem insV_srt {vs : List VerP} (hs : Srt vs) {v : VerP} (hf : bsF vs v = false) : Srt (insV vs v) := by
  unfold insV Srt
  rw [List.append_assoc]
  refine List.pairwise_append.2 ⟨hs.sublist (List.take_sublist _ _), ?_, ?_⟩
  · rw [List.singleton_append]
    refine List.pairwise_cons.2 ⟨?_, hs.sublist (List.drop_sublist _ _)⟩
    intro y hy
    obtain ⟨i, h1, h2, rfl⟩ := drop_getD hy
    have h3 := bsK_hi hs v i h1 h2
    rcases ltV_tri v (vs.getD i default) with h | h | h
    · exact h
    · have : bsF vs v = true := (bsF_iff hs v).2 ⟨_, getD_mem' h2, by unfold sameV at *; omega⟩
      rw [this] at hf; cases hf
    · exact absurd h h3
  · intro x hx y hy
    obtain ⟨i, h1, h2, rfl⟩ := take_getD hx
    have h3 := bsK_lo hs v i h1
    simp only [List.singleton_append, List.mem_cons] at hy
    rcases hy with rfl | hy
    · exact h3
    · obtain ⟨j, h4, h5, rfl⟩ := drop_getD hy
      exact srt_lt hs (by omega) h5
theorem srt_uniq {vs : List VerP} (hs : Srt vs) {x y : VerP} (hx : x ∈ vs) (hy : y ∈ vs) : x = y ∨ ltV x y ∨ ltV y x := by
  obtain ⟨i, hi, rfl⟩ := mem_getD hx
  obtain ⟨j, hj, rfl⟩ := mem_getD hy
  by_cases e : i = j
  · subst e; exact .inl rfl
  · by_cases e2 : i < j
    · exact .inr (.inl (srt_lt hs e2 hj))
    · exact .inr (.inr (srt_lt hs (by omega) hi))
/-- the last of a sorted list at which a test holds -/
theorem rfind_some {p : VerP → Bool} {vs : List VerP} (hs : Srt vs) {x : VerP} : vs.reverse.find? p = some x ↔ x ∈ vs ∧ p x = true ∧ ∀ y ∈ vs, p y = true → y = x ∨ ltV y x := by
  induction vs with
  | nil => simp
  | cons a l ih =>
    have hs' : Srt l := (List.pairwise_cons.1 hs).2
    have ha := (List.pairwise_cons.1 hs).1
    rw [List.reverse_cons, List.find?_append]
    have ih := ih hs'
    cases hf : l.reverse.find? p with
    | some z =>
      rw [hf] at ih
      simp only [Option.some_or, Option.some.injEq] at ih ⊢
      constructor
      · intro e
        obtain ⟨h1, h2, h3⟩ := ih.1 e
        refine ⟨List.mem_cons_of_mem _ h1, h2, ?_⟩
        intro y hy hp
        rcases List.mem_cons.1 hy with rfl | hy
        · exact .inr (ha x h1)
        · exact h3 y hy hp
      · rintro ⟨h1, h2, h3⟩
        refine ih.2 ?_
        rcases List.mem_cons.1 h1 with rfl | h1
        · have hz : z ∈ l ∧ p z = true := ⟨List.mem_reverse.1 (List.mem_of_find?_eq_some hf), List.find?_some hf⟩
          rcases h3 z (List.mem_cons_of_mem _ hz.1) hz.2 with e | e
          · subst e; exact absurd (ha z hz.1) (fun h => ltV_irr h h)
          · exact absurd e (fun h => ltV_irr h (ha z hz.1))
        · exact ⟨h1, h2, fun y hy => h3 y (List.mem_cons_of_mem _ hy)⟩
    | none =>
      have hn : ∀ y ∈ l, p y = false := fun y hy => by
        have := List.find?_eq_none.1 hf y (List.mem_reverse.2 hy)
        simpa using this
      simp only [Option.none_or]
      constructor
      · intro e
        have hpx := List.find?_some e
        have hmx := List.mem_of_find?_eq_some e
        simp only [List.mem_singleton] at hmx
        subst hmx
        refine ⟨by simp, hpx, ?_⟩
        intro y hy hp
        rcases List.mem_cons.1 hy with rfl | hy
        · exact .inl rfl
        · rw [hn y hy] at hp; cases hp
      · rintro ⟨h1, h2, h3⟩
        rcases List.mem_cons.1 h1 with rfl | h1
        · simp [h2]
        · rw [hn x h1] at h2; cases h2
theorem find_some {a0 a1 a2 a3 : Int} {vs : List VerP} (hs : Srt vs) {x : VerP} : findV a0 a1 a2 a3 vs = some x ↔ x ∈ vs ∧ seenV a0 a1 a2 a3 x = true ∧ ∀ y ∈ vs, seenV a0 a1 a2 a3 y = true → y = x ∨ ltV y x := rfind_some hs
theorem find_none {a0 a1 a2 a3 : Int} {vs : List VerP} : findV a0 a1 a2 a3 vs = none ↔ ∀ x ∈ vs, seenV a0 a1 a2 a3 x = false := by
  unfold findV
  rw [List.find?_eq_none]
  constructor
  · intro h x hx; simpa using h x (List.mem_reverse.2 hx)
  · intro h x hx; simpa using h x (List.mem_reverse.1 hx)
/-- a part of a list that holds, of each seen version, it or a later seen one, reads the same -/
theorem find_dom {a0 a1 a2 a3 : Int} {vs us : List VerP} (hv : Srt vs) (hu : Srt us) (hsub : ∀ x ∈ us, x ∈ vs) (hd : ∀ x ∈ vs, seenV a0 a1 a2 a3 x = true → ∃ y ∈ us, seenV a0 a1 a2 a3 y = true ∧ (x = y ∨ ltV x y)) : findV a0 a1 a2 a3 us = findV a0 a1 a2 a3 vs := by
  cases hf : findV a0 a1 a2 a3 vs with
  | none =>
    rw [find_none] at hf ⊢
    exact fun x hx => hf x (hsub x hx)
  | some x =>
    rw [find_some hv] at hf
    rw [find_some hu]
    obtain ⟨h1, h2, h3⟩ := hf
    obtain ⟨y, hy, hys, hxy⟩ := hd x h1 h2
    have e : x = y := by
      rcases h3 y (hsub y hy) hys with e | e
      · exact e.symm
      · rcases hxy with e2 | e2
        · exact e2
        · exact absurd e (fun h => ltV_irr h e2)
    subst e
    exact ⟨hy, h2, fun z hz => h3 z (hsub z hz)⟩

theorem lastGo_spec (a0 a1 a2 a3 : Int) : ∀ (l : List VerP) (i z : Int), z < i → ((lastGo a0 a1 a2 a3 l i z = z ∧ ∀ x ∈ l, seenV a0 a1 a2 a3 x = false) ∨
    (∃ j, j < l.length ∧ lastGo a0 a1 a2 a3 l i z = i + j ∧ seenV a0 a1 a2 a3 (l.getD j default) = true ∧ ∀ k, j < k → k < l.length → seenV a0 a1 a2 a3 (l.getD k default) = false))
  | [], i, z, h => .inl ⟨rfl, fun x hx => by cases hx⟩
  | v :: l, i, z, h => by
    unfold lastGo
    by_cases hv : seenV a0 a1 a2 a3 v = true
    · rw [if_pos hv]
      rcases lastGo_spec a0 a1 a2 a3 l (i + 1) i (by omega) with ⟨h1, h2⟩ | ⟨j, h1, h2, h3, h4⟩
      · refine .inr ⟨0, by simp, by rw [h1]; simp, by simpa using hv, ?_⟩
        intro k hk hl
        obtain ⟨k, rfl⟩ : ∃ k', k = k' + 1 := ⟨k - 1, by omega⟩
        simp only [List.length_cons] at hl
        rw [List.getD_cons_succ]
        exact h2 _ (getD_mem' (by omega))
      · refine .inr ⟨j + 1, by simp; omega, by rw [h2]; simp; omega, by simpa using h3, ?_⟩
        intro k hk hl
        obtain ⟨k, rfl⟩ : ∃ k', k = k' + 1 := ⟨k - 1, by omega⟩
        simp only [List.length_cons] at hl
        rw [List.getD_cons_succ]
        exact h4 k (by omega) (by omega)
    · rw [if_neg hv]
      rcases lastGo_spec a0 a1 a2 a3 l (i + 1) z (by omega) with ⟨h1, h2⟩ | ⟨j, h1, h2, h3, h4⟩
      · refine .inl ⟨h1, ?_⟩
        intro x hx
        rcases List.mem_cons.1 hx with rfl | hx
        · simpa using hv
        · exact h2 x hx
      · refine .inr ⟨j + 1, by simp; omega, by rw [h2]; simp; omega, by simpa using h3, ?_⟩
        intro k hk hl
        obtain ⟨k, rfl⟩ : ∃ k', k = k' + 1 := ⟨k - 1, by omega⟩
        simp only [List.length_cons] at hl
        rw [List.getD_cons_succ]
        exact h4 k (by omega) (by omega)
theorem keepGo_mem (a0 a1 a2 a3 z : Int) (x : VerP) : ∀ (l : List VerP) (i : Int), x ∈ keepGo a0 a1 a2 a3 z l i ↔ ∃ j, j < l.length ∧ l.getD j default = x ∧ (z ≤ i + j ∨ seenV a0 a1 a2 a3 x = false)
  | [], i => by simp [keepGo]
  | v :: l, i => by
    have ih := keepGo_mem a0 a1 a2 a3 z x l (i + 1)
    have step : (∃ j, j < (v :: l).length ∧ (v :: l).getD j default = x ∧ (z ≤ i + j ∨ seenV a0 a1 a2 a3 x = false)) ↔ ((v = x ∧ (z ≤ i ∨ seenV a0 a1 a2 a3 x = false)) ∨ x ∈ keepGo a0 a1 a2 a3 z l (i + 1)) := by
      rw [ih]
      constructor
      · rintro ⟨j, h1, h2, h3⟩
        cases j with
        | zero => exact .inl ⟨by simpa using h2, by simpa using h3⟩
        | succ j => exact .inr ⟨j, by simpa using h1, by simpa using h2, h3.imp (fun h => by simp at h; omega) id⟩
      · rintro (⟨h1, h2⟩ | ⟨j, h1, h2, h3⟩)
        · exact ⟨0, by simp, by simpa using h1, by simpa using h2⟩
        · exact ⟨j + 1, by simpa using h1, by simpa using h2, h3.imp (fun h => by simp; omega) id⟩
    rw [step, show keepGo a0 a1 a2 a3 z (v :: l) i = if z ≤ i ∨ seenV a0 a1 a2 a3 v = false then v :: keepGo a0 a1 a2 a3 z l (i + 1) else keepGo a0 a1 a2 a3 z l (i + 1) from rfl]
    split
    · rename_i h
      rw [List.mem_cons]
      constructor
      · rintro (rfl | h2)
        · exact .inl ⟨rfl, h⟩
        · exact .inr h2
      · rintro (⟨rfl, _⟩ | h2)
        · exact .inl rfl
        · exact .inr h2
    · rename_i h
      constructor
      · exact .inr
      · rintro (⟨rfl, h2⟩ | h2)
        · exact absurd h2 h
        · exact h2
theorem keepGo_sublist (a0 a1 a2 a3 z : Int) : ∀ (l : List VerP) (i : Int), (keepGo a0 a1 a2 a3 z l i).Sublist l
  | [], _ => by simp [keepGo]
  | v :: l, i => by
    unfold keepGo
    split
    · exact (keepGo_sublist a0 a1 a2 a3 z l (i + 1)).cons_cons _
    · exact (keepGo_sublist a0 a1 a2 a3 z l (i + 1)).cons _
theorem sweepV_srt {a0 a1 a2 a3 : Int} {vs : List VerP} (h : Srt vs) : Srt (sweepV a0 a1 a2 a3 vs) := h.sublist (keepGo_sublist _ _ _ _ _ _ _)
theorem sweepV_len (a0 a1 a2 a3 : Int) (vs : List VerP) : (sweepV a0 a1 a2 a3 vs).length ≤ vs.length := keepGo_len _ _ _ _ _ _ _
theorem sweepV_sub {a0 a1 a2 a3 : Int} {vs : List VerP} {x : VerP} (h : x ∈ sweepV a0 a1 a2 a3 vs) : x ∈ vs := keepGo_sub _ _ _ _ _ _ _ _ h
theorem sweepV_iff {a0 a1 a2 a3 : Int} {vs : List VerP} (hs : Srt vs) (x : VerP) : x ∈ sweepV a0 a1 a2 a3 vs ↔ x ∈ vs ∧ (seenV a0 a1 a2 a3 x = false ∨ ∀ y ∈ vs, seenV a0 a1 a2 a3 y = true → y = x ∨ ltV y x) := by
  unfold sweepV
  rw [keepGo_mem]
  rcases lastGo_spec a0 a1 a2 a3 vs 0 (-1) (by omega) with ⟨h1, h2⟩ | ⟨j, h1, h2, h3, h4⟩
  · rw [h1]
    constructor
    · rintro ⟨k, hk, rfl, _⟩
      exact ⟨getD_mem' hk, .inl (h2 _ (getD_mem' hk))⟩
    · rintro ⟨hx, _⟩
      obtain ⟨k, hk, rfl⟩ := mem_getD hx
      exact ⟨k, hk, rfl, .inr (h2 _ hx)⟩
  · rw [h2]
    constructor
    · rintro ⟨k, hk, rfl, h⟩
      refine ⟨getD_mem' hk, ?_⟩
      rcases h with h | h
      · by_cases e : k = j
        · subst e
          refine .inr fun y hy hys => ?_
          obtain ⟨m, hm, rfl⟩ := mem_getD hy
          have : ¬ k < m := fun h' => by rw [h4 m h' hm] at hys; cases hys
          by_cases e : m = k
          · subst e; exact .inl rfl
          · exact .inr (srt_lt hs (by omega) hk)
        · exact .inl (h4 k (by omega) hk)
      · exact .inl h
    · rintro ⟨hx, h⟩
      obtain ⟨k, hk, rfl⟩ := mem_getD hx
      refine ⟨k, hk, rfl, ?_⟩
      rcases h with h | h
      · exact .inr h
      · rcases h _ (getD_mem' h1) h3 with e | e
        · by_cases e2 : j ≤ k
          · exact .inl (by omega)
          · have := srt_lt hs (show k < j by omega) h1
            rw [e] at this
            exact absurd this (fun h => ltV_irr h h)
        · by_cases e2 : j ≤ k
          · exact .inl (by omega)
          · exact absurd e (fun h => ltV_irr h (srt_lt hs (show k < j by omega) h1))
theorem sweepV_dom {a0 a1 a2 a3 : Int} {vs : List VerP} (hs : Srt vs) {x : VerP} (hx : x ∈ vs) : ∃ y ∈ sweepV a0 a1 a2 a3 vs, x = y ∨ (seenV a0 a1 a2 a3 y = true ∧ ltV x y) := by
  by_cases h : seenV a0 a1 a2 a3 x = true
  · cases hf : findV a0 a1 a2 a3 vs with
    | none => rw [find_none] at hf; rw [hf x hx] at h; cases h
    | some y =>
      rw [find_some hs] at hf
      obtain ⟨h1, h2, h3⟩ := hf
      exact ⟨y, (sweepV_iff hs y).2 ⟨h1, .inr h3⟩, (h3 x hx h).imp id (fun e => ⟨h2, e⟩)⟩
  · exact ⟨x, (sweepV_iff hs x).2 ⟨hx, .inl (by simpa using h)⟩, .inl rfl⟩

structure PtP where
  key : Int
  v : VerP
instance : Inhabited PtP := ⟨⟨0, default⟩⟩
def okP (p : PtP) : Bool := decide (0 ≤ p.key) && decide (p.key < 8) && rightV p.v
def sameB (p q : PtP) : Bool := p.key == q.key && (p.v.w == q.v.w && p.v.c == q.v.c) && p.v.site == q.v.site
def putP (S : Nat → List VerP) (p : PtP) : Nat → List VerP := (putR S p.key p.v).2
/-- a store into which the first n of a row of puts are put -/
def sAt (g : Nat → PtP) : Nat → Nat → List VerP
  | 0 => fun _ => []
  | i + 1 => putP (sAt g i) (g i)
def sweepS (a0 a1 a2 a3 : Int) (S : Nat → List VerP) : Nat → List VerP := fun k => sweepV a0 a1 a2 a3 (S k)
/-- the same, swept once at a place -/
def bAt (a0 a1 a2 a3 : Int) (when : Nat) (g : Nat → PtP) : Nat → Nat → List VerP
  | 0 => fun _ => []
  | i + 1 => putP (if i = when then sweepS a0 a1 a2 a3 (bAt a0 a1 a2 a3 when g i) else bAt a0 a1 a2 a3 when g i) (g i)
def twI (g : Nat → PtP) (i : Nat) : Nat → Bool
  | 0 => false
  | j + 1 => twI g i j || sameB (g i) (g j)
def twO (g : Nat → PtP) : Nat → Bool
  | 0 => false
  | i + 1 => twO g i || twI g i i
def NoTw (g : Nat → PtP) (n : Nat) : Prop := ∀ i j, i < n → j < n → i ≠ j → (g i).key = (g j).key → ¬ sameV (g i).v (g j).v
theorem sameB_iff (p q : PtP) : sameB p q = true ↔ (p.key = q.key ∧ sameV p.v q.v) := by
  unfold sameB sameV
  simp only [Bool.and_eq_true, beq_iff_eq]
  constructor
  · rintro ⟨⟨h1, h2, h3⟩, h4⟩; exact ⟨h1, h2, h3, h4⟩
  · rintro ⟨h1, h2, h3, h4⟩; exact ⟨⟨h1, h2, h3⟩, h4⟩
theorem twI_no {g : Nat → PtP} {i : Nat} : ∀ {n : Nat}, twI g i n = false → ∀ j, j < n → sameB (g i) (g j) = false
  | 0, _, j, h => by omega
  | n + 1, hh, j, h => by
    unfold twI at hh
    rw [Bool.or_eq_false_iff] at hh
    by_cases e : j = n
    · subst e; exact hh.2
    · exact twI_no hh.1 j (by omega)
theorem twO_no {g : Nat → PtP} : ∀ {n : Nat}, twO g n = false → ∀ i j, i < n → j < i → sameB (g i) (g j) = false
  | 0, _, i, j, h, _ => by omega
  | n + 1, hh, i, j, h, hj => by
    unfold twO at hh
    rw [Bool.or_eq_false_iff] at hh
    by_cases e : i = n
    · subst e; exact twI_no hh.2 j hj
    · exact twO_no hh.1 i j (by omega) hj
theorem noTw_of {g : Nat → PtP} {n : Nat} (h : twO g n = false) : NoTw g n := by
  intro i j hi hj hne hk hs
  by_cases e : j < i
  · have := twO_no h i j hi e
    rw [(sameB_iff _ _).2 ⟨hk, hs⟩] at this; cases this
  · have := twO_no h j i hj (by omega)
    rw [(sameB_iff _ _).2 ⟨hk.symm, by unfold sameV at *; omega⟩] at this; cases this
theorem okP_iff (p : PtP) : okP p = true ↔ (0 ≤ p.key ∧ p.key < 8 ∧ rightV p.v = true) := by
  unfold okP
  simp only [Bool.and_eq_true, decide_eq_true_eq, and_assoc]
/-- one put: a version that may be, of which there is none of the stamp and site, is there then; any other leaves all as it was -/
theorem putP_no {S : Nat → List VerP} {p : PtP} (h : okP p = false) : putP S p = S := by
  unfold putP putR
  split
  · rfl
  · split
    · rfl
    · rename_i h1 h2
      have : okP p = true := (okP_iff p).2 ⟨by omega, by omega, by simpa using h2⟩
      rw [this] at h; cases h
theorem putP_yes {S : Nat → List VerP} {p : PtP} (h : okP p = true) (hf : bsF (S p.key.toNat) p.v = false) (k : Nat) : putP S p k = if k = p.key.toNat then insV (S k) p.v else S k := by
  obtain ⟨h1, h2, h3⟩ := (okP_iff p).1 h
  unfold putP putR
  rw [if_neg (by omega), if_neg (by rw [h3]; simp), hf]
  rfl
theorem putP_len (S : Nat → List VerP) (p : PtP) (k : Nat) : (putP S p k).length ≤ (S k).length + 1 := by
  unfold putP putR
  split
  · simp
  · split
    · simp
    · split
      · simp
      · simp only
        split
        · simp only [insV, List.length_append, List.length_take, List.length_drop, List.length_cons, List.length_nil]; omega
        · omega
theorem putP_site {S : Nat → List VerP} {p : PtP} {k : Nat} (h : ∀ x ∈ S k, 0 ≤ x.site ∧ x.site < 4) : ∀ x ∈ putP S p k, 0 ≤ x.site ∧ x.site < 4 := by
  unfold putP putR
  split
  · exact h
  · split
    · exact h
    · rename_i hr
      split
      · exact h
      · intro x hx
        simp only at hx
        split at hx
        · rcases (insV_mem _ _ _).1 hx with rfl | hx
          · have hr : rightV p.v = true := by simpa using hr
            unfold rightV at hr
            simp only [Bool.and_eq_true, decide_eq_true_eq] at hr
            omega
          · exact h x hx
        · exact h x hx
theorem Fit.put {S : Nat → List VerP} {N : Nat} (h : Fit S N) (p : PtP) : Fit (putP S p) (N + 1) := fun k hk =>
  ⟨putP_site (h k hk).1, Nat.le_trans (putP_len S p k) (by have := (h k hk).2; omega)⟩
theorem Fit.sweep {S : Nat → List VerP} {N : Nat} (h : Fit S N) (a0 a1 a2 a3 : Int) : Fit (sweepS a0 a1 a2 a3 S) N := fun k hk =>
  ⟨fun x hx => (h k hk).1 x (sweepV_sub hx), Nat.le_trans (sweepV_len _ _ _ _ _) (h k hk).2⟩
theorem Fit.nil (N : Nat) : Fit (fun _ => []) N := fun k hk => ⟨fun x hx => (by cases hx), by simp⟩
theorem Fit.mono {S : Nat → List VerP} {N M : Nat} (h : Fit S N) (hm : N ≤ M) : Fit S M := fun k hk => ⟨(h k hk).1, Nat.le_trans (h k hk).2 hm⟩
theorem sAt_fit (g : Nat → PtP) : ∀ n, Fit (sAt g n) n
  | 0 => Fit.nil 0
  | n + 1 => (sAt_fit g n).put (g n)
theorem bAt_fit (a0 a1 a2 a3 : Int) (when : Nat) (g : Nat → PtP) : ∀ n, Fit (bAt a0 a1 a2 a3 when g n) n
  | 0 => Fit.nil 0
  | n + 1 => by
    unfold bAt
    split
    · exact ((bAt_fit a0 a1 a2 a3 when g n).sweep _ _ _ _).put _
    · exact (bAt_fit a0 a1 a2 a3 when g n).put _

/-- what a store has: sorted rows of just the versions that may be -/
theorem sAt_spec {g : Nat → PtP} : ∀ {n : Nat}, NoTw g n → ∀ k, k < 8 → Srt (sAt g n k) ∧ ∀ x, x ∈ sAt g n k ↔ ∃ i, i < n ∧ okP (g i) = true ∧ (g i).key = k ∧ (g i).v = x
  | 0, _, k, hk => ⟨List.Pairwise.nil, fun x => by simp [sAt]⟩
  | n + 1, h, k, hk => by
    have ih := sAt_spec (g := g) (n := n) (fun i j hi hj => h i j (by omega) (by omega))
    cases ho : okP (g n) with
    | false =>
      have : sAt g (n + 1) = sAt g n := putP_no ho
      rw [this]
      refine ⟨(ih k hk).1, fun x => ((ih k hk).2 x).trans ?_⟩
      constructor
      · rintro ⟨i, h1, h2⟩; exact ⟨i, by omega, h2⟩
      · rintro ⟨i, h1, h2, h3⟩
        by_cases e : i = n
        · subst e; rw [ho] at h2; cases h2
        · exact ⟨i, by omega, h2, h3⟩
    | true =>
      obtain ⟨o1, o2, o3⟩ := (okP_iff _).1 ho
      have hkk : (g n).key.toNat < 8 := by omega
      have hf : bsF (sAt g n (g n).key.toNat) (g n).v = false := by
        rw [Bool.eq_false_iff]
        intro hb
        obtain ⟨y, hy, hs⟩ := (bsF_iff (ih _ hkk).1 _).1 hb
        obtain ⟨i, h1, h2, h3, rfl⟩ := ((ih _ hkk).2 y).1 hy
        exact h i n (by omega) (by omega) (by omega) (by omega) hs
      have he : sAt g (n + 1) k = if k = (g n).key.toNat then insV (sAt g n k) (g n).v else sAt g n k := putP_yes ho hf k
      rw [he]
      by_cases e : k = (g n).key.toNat
      · rw [if_pos e]
        have hf2 : bsF (sAt g n k) (g n).v = false := by rw [e]; exact hf
        refine ⟨insV_srt (ih k hk).1 hf2, fun x => (insV_mem _ _ _).trans ?_⟩
        rw [(ih k hk).2 x]
        constructor
        · rintro (rfl | ⟨i, h1, h2⟩)
          · exact ⟨n, by omega, ho, by omega, rfl⟩
          · exact ⟨i, by omega, h2⟩
        · rintro ⟨i, h1, h2, h3, h4⟩
          by_cases e : i = n
          · subst e; exact .inl h4.symm
          · exact .inr ⟨i, by omega, h2, h3, h4⟩
      · rw [if_neg e]
        refine ⟨(ih k hk).1, fun x => ((ih k hk).2 x).trans ?_⟩
        constructor
        · rintro ⟨i, h1, h2⟩; exact ⟨i, by omega, h2⟩
        · rintro ⟨i, h1, h2, h3, h4⟩
          by_cases e2 : i = n
          · subst e2; omega
          · exact ⟨i, by omega, h2, h3, h4⟩

/-- a swept row over a whole one: of each version it has it, or a later one that the sweeper had seen -/
def Dom (a0 a1 a2 a3 : Int) (us vs : List VerP) : Prop := Srt us ∧ (∀ x ∈ us, x ∈ vs) ∧ ∀ x ∈ vs, ∃ y ∈ us, x = y ∨ (seenV a0 a1 a2 a3 y = true ∧ ltV x y)
theorem Dom.sweep {a0 a1 a2 a3 : Int} {us vs : List VerP} (h : Dom a0 a1 a2 a3 us vs) : Dom a0 a1 a2 a3 (sweepV a0 a1 a2 a3 us) vs := by
  obtain ⟨h1, h2, h3⟩ := h
  refine ⟨sweepV_srt h1, fun x hx => h2 x (sweepV_sub hx), fun x hx => ?_⟩
  obtain ⟨y, hy, hxy⟩ := h3 x hx
  obtain ⟨z, hz, hyz⟩ := sweepV_dom (a0 := a0) (a1 := a1) (a2 := a2) (a3 := a3) h1 hy
  refine ⟨z, hz, ?_⟩
  rcases hyz with rfl | ⟨hyz1, hyz2⟩
  · exact hxy
  · rcases hxy with rfl | ⟨_, hxy2⟩
    · exact .inr ⟨hyz1, hyz2⟩
    · exact .inr ⟨hyz1, ltV_trans hxy2 hyz2⟩
theorem bAt_dom {a0 a1 a2 a3 : Int} {when : Nat} {g : Nat → PtP} : ∀ {n : Nat}, NoTw g n → ∀ k, k < 8 → Dom a0 a1 a2 a3 (bAt a0 a1 a2 a3 when g n k) (sAt g n k)
  | 0, _, k, hk => ⟨List.Pairwise.nil, fun x hx => (by simp [bAt] at hx), fun x hx => (by simp [sAt] at hx)⟩
  | n + 1, h, k, hk => by
    have h' : NoTw g n := fun i j hi hj => h i j (by omega) (by omega)
    have ih : ∀ k, k < 8 → Dom a0 a1 a2 a3 ((if n = when then sweepS a0 a1 a2 a3 (bAt a0 a1 a2 a3 when g n) else bAt a0 a1 a2 a3 when g n) k) (sAt g n k) := by
      intro k hk
      split
      · exact (bAt_dom h' k hk).sweep
      · exact bAt_dom h' k hk
    show Dom a0 a1 a2 a3 (putP (if n = when then sweepS a0 a1 a2 a3 (bAt a0 a1 a2 a3 when g n) else bAt a0 a1 a2 a3 when g n) (g n) k) (putP (sAt g n) (g n) k)
    generalize (if n = when then sweepS a0 a1 a2 a3 (bAt a0 a1 a2 a3 when g n) else bAt a0 a1 a2 a3 when g n) = T at *
    cases ho : okP (g n) with
    | false => rw [putP_no ho, putP_no ho]; exact ih k hk
    | true =>
      obtain ⟨o1, o2, o3⟩ := (okP_iff _).1 ho
      have hkk : (g n).key.toNat < 8 := by omega
      have hs := sAt_spec h' _ hkk
      have hno : ∀ y ∈ sAt g n (g n).key.toNat, ¬ sameV y (g n).v := by
        intro y hy hsm
        obtain ⟨i, h1, h2, h3, rfl⟩ := (hs.2 y).1 hy
        exact h i n (by omega) (by omega) (by omega) (by omega) hsm
      have hf : bsF (sAt g n (g n).key.toNat) (g n).v = false := by
        rw [Bool.eq_false_iff]
        intro hb
        obtain ⟨y, hy, hsm⟩ := (bsF_iff hs.1 _).1 hb
        exact hno y hy hsm
      have hf2 : bsF (T (g n).key.toNat) (g n).v = false := by
        rw [Bool.eq_false_iff]
        intro hb
        obtain ⟨y, hy, hsm⟩ := (bsF_iff (ih _ hkk).1 _).1 hb
        exact hno y ((ih _ hkk).2.1 y hy) hsm
      rw [putP_yes ho hf, putP_yes ho hf2]
      by_cases e : k = (g n).key.toNat
      · rw [if_pos e, if_pos e]
        obtain ⟨d1, d2, d3⟩ := ih k hk
        refine ⟨insV_srt d1 (by rw [e]; exact hf2), ?_, ?_⟩
        · intro x hx
          rw [insV_mem] at hx ⊢
          exact hx.imp id (d2 x)
        · intro x hx
          rcases (insV_mem _ _ _).1 hx with rfl | hx
          · exact ⟨_, (insV_mem _ _ _).2 (.inl rfl), .inl rfl⟩
          · obtain ⟨y, hy, hxy⟩ := d3 x hx
            exact ⟨y, (insV_mem _ _ _).2 (.inr hy), hxy⟩
      · rw [if_neg e, if_neg e]; exact ih k hk

theorem atV_le {a0 a1 a2 a3 m0 m1 m2 m3 : Int} (h0 : a0 ≤ m0) (h1 : a1 ≤ m1) (h2 : a2 ≤ m2) (h3 : a3 ≤ m3) (s : Int) : atV a0 a1 a2 a3 s ≤ atV m0 m1 m2 m3 s := by
  unfold atV
  repeat' split
  all_goals omega
theorem seen_le {a0 a1 a2 a3 m0 m1 m2 m3 : Int} (h0 : a0 ≤ m0) (h1 : a1 ≤ m1) (h2 : a2 ≤ m2) (h3 : a3 ≤ m3) {x : VerP} (h : seenV a0 a1 a2 a3 x = true) : seenV m0 m1 m2 m3 x = true := by
  have := atV_le h0 h1 h2 h3 x.site
  unfold seenV at *
  rw [decide_eq_true_eq] at *
  omega
theorem dom_find {a0 a1 a2 a3 m0 m1 m2 m3 : Int} (h0 : a0 ≤ m0) (h1 : a1 ≤ m1) (h2 : a2 ≤ m2) (h3 : a3 ≤ m3) {us vs : List VerP} (hs : Srt vs) (h : Dom a0 a1 a2 a3 us vs) : findV m0 m1 m2 m3 us = findV m0 m1 m2 m3 vs := by
  refine find_dom hs h.1 h.2.1 fun x hx hsx => ?_
  obtain ⟨y, hy, hxy⟩ := h.2.2 x hx
  rcases hxy with rfl | ⟨hy1, hy2⟩
  · exact ⟨x, hy, hsx, .inl rfl⟩
  · exact ⟨y, hy, seen_le h0 h1 h2 h3 hy1, .inr hy2⟩
theorem readR_congr {m0 m1 m2 m3 : Int} {S T : Nat → List VerP} {key : Nat} (hk : key < 8) (h : findV m0 m1 m2 m3 (S key) = findV m0 m1 m2 m3 (T key)) : readR m0 m1 m2 m3 S key = readR m0 m1 m2 m3 T key := by
  unfold readR
  rw [show (key : Int).toNat = key from by omega, h]
theorem swept_b {a0 a1 a2 a3 m0 m1 m2 m3 : Int} (h0 : a0 ≤ m0) (h1 : a1 ≤ m1) (h2 : a2 ≤ m2) (h3 : a3 ≤ m3) {g : Nat → PtP} {n : Nat} (when : Nat) (hn : twO g n = false) {key : Nat} (hk : key < 8) :
    readR m0 m1 m2 m3 (sweepS a0 a1 a2 a3 (bAt a0 a1 a2 a3 when g n)) key = readR m0 m1 m2 m3 (sAt g n) key :=
  readR_congr hk (dom_find h0 h1 h2 h3 (sAt_spec (noTw_of hn) key hk).1 (bAt_dom (noTw_of hn) key hk).sweep)
theorem mod_ne {n t i j : Nat} (hi : i < n) (hj : j < n) (h : i ≠ j) : (i + t) % n ≠ (j + t) % n := by
  intro e
  have h1 := Nat.div_add_mod (i + t) n
  have h2 := Nat.div_add_mod (j + t) n
  rw [e] at h1
  generalize (j + t) % n = r at *
  generalize (i + t) / n = p at *
  generalize (j + t) / n = q at *
  rcases Nat.lt_trichotomy p q with hp | hp | hp
  · have : n * p + n ≤ n * q := by rw [← Nat.mul_succ]; exact Nat.mul_le_mul_left n hp
    omega
  · subst hp; omega
  · have : n * q + n ≤ n * p := by rw [← Nat.mul_succ]; exact Nat.mul_le_mul_left n hp
    omega
theorem mod_onto {n t i : Nat} (hi : i < n) : ∃ j, j < n ∧ (j + t) % n = i := by
  have ht : t % n < n := Nat.mod_lt _ (by omega)
  refine ⟨(i + (n - t % n)) % n, Nat.mod_lt _ (by omega), ?_⟩
  rw [Nat.mod_add_mod, Nat.add_assoc, Nat.add_comm (n - t % n) t, ← Nat.add_assoc]
  have h1 := Nat.div_add_mod t n
  rw [show i + t + (n - t % n) = i + n * (t / n) + n by omega, Nat.add_mod_right, Nat.add_mul_mod_self_left]
  exact Nat.mod_eq_of_lt hi
theorem swept_c {m0 m1 m2 m3 : Int} {g : Nat → PtP} {n : Nat} (t : Nat) (hn : twO g n = false) {key : Nat} (hk : key < 8) :
    readR m0 m1 m2 m3 (sAt (fun i => g ((i + t) % n)) n) key = readR m0 m1 m2 m3 (sAt g n) key := by
  have hg := noTw_of hn
  have hg2 : NoTw (fun i => g ((i + t) % n)) n := fun i j hi hj hne => hg _ _ (Nat.mod_lt _ (by omega)) (Nat.mod_lt _ (by omega)) (mod_ne hi hj hne)
  have h1 := sAt_spec hg key hk
  have h2 := sAt_spec hg2 key hk
  refine readR_congr hk (find_dom h1.1 h2.1 ?_ ?_)
  · intro x hx
    obtain ⟨i, hi, h⟩ := (h2.2 x).1 hx
    exact (h1.2 x).2 ⟨(i + t) % n, Nat.mod_lt _ (by omega), h⟩
  · intro x hx hs
    obtain ⟨i, hi, h⟩ := (h1.2 x).1 hx
    obtain ⟨j, hj, rfl⟩ := mod_onto (t := t) hi
    exact ⟨x, (h2.2 x).2 ⟨j, hj, h⟩, hs, .inl rfl⟩

theorem srt_ext : ∀ {us vs : List VerP}, Srt us → Srt vs → (∀ x, x ∈ us ↔ x ∈ vs) → us = vs
  | [], [], _, _, _ => rfl
  | [], v :: vs, _, _, h => by have := (h v).2 (by simp); cases this
  | u :: us, [], _, _, h => by have := (h u).1 (by simp); cases this
  | u :: us, v :: vs, hu, hv, h => by
    have hu1 := (List.pairwise_cons.1 hu).1
    have hv1 := (List.pairwise_cons.1 hv).1
    have e : u = v := by
      rcases List.mem_cons.1 ((h u).1 (by simp)) with e | e
      · exact e
      · rcases List.mem_cons.1 ((h v).2 (by simp)) with e2 | e2
        · exact e2.symm
        · exact (ltV_irr (hv1 u e) (hu1 v e2)).elim
    subst e
    congr 1
    refine srt_ext (List.pairwise_cons.1 hu).2 (List.pairwise_cons.1 hv).2 fun x => ?_
    constructor
    · intro hx
      rcases List.mem_cons.1 ((h x).1 (List.mem_cons_of_mem _ hx)) with e | e
      · subst e; exact (ltV_irr (hu1 x hx) (hu1 x hx)).elim
      · exact e
    · intro hx
      rcases List.mem_cons.1 ((h x).2 (List.mem_cons_of_mem _ hx)) with e | e
      · subst e; exact (ltV_irr (hv1 x hx) (hv1 x hx)).elim
      · exact e

end Go.Proofs.YtbopfhbeegkkaaaDoor
