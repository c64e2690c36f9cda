/- Part 1 of a proof: lemmas and contracts that the parts behind it use. -/
import Derived.WalkKit
import Derived.WalkSpells
import Derived.WalkLawsBesides
import Derived.BigQuiet
import Derived.StillTailTactics
import Derived.Deep.RegionWith
import Derived.Test.YtbopfhbeegkkaaaDoorRows
import Derived.LaidEql
import Derived.Stop.Asserts
import Derived.Deep.AppendLies
import Derived.Outline
namespace Go.Proofs.YtbopfhbeegkkaaaDoor
open Go.RowKit

theorem hidp {p : Prop} (h : p) : Hid p := h

/-- what a world has more than another one: blocks behind all others, and how much was drawn -/
structure Tail where
  blocks : Array Obj
  drawn : Nat

instance : Inhabited Tail := ⟨⟨#[], 0⟩⟩

def wplus (w : World) (x : Tail) : World := { w with heap := w.heap ++ x.blocks, drawn := x.drawn }

/-- a world has at least so many blocks (found by instances, so that the walk pays it by itself) -/
class SzGe (n : Nat) (w : World) : Prop where
  out : n ≤ w.heap.size
instance SzGe.self (w : World) : SzGe w.heap.size w := ⟨Nat.le_refl _⟩
instance SzGe.alloc_new (n : Nat) (w : World) (o : Obj) [h : SzGe n w] : SzGe (n + 1) (w.alloc o) := ⟨by simpa using h.out⟩
instance SzGe.alloc (n : Nat) (w : World) (o : Obj) [h : SzGe n w] : SzGe n (w.alloc o) := ⟨by have := h.out; simp; omega⟩
instance SzGe.setCell (n : Nat) (w : World) (a : Addr) (v : Value) [h : SzGe n w] : SzGe n (w.setCell a v) := ⟨by simpa using h.out⟩
instance SzGe.drew (n : Nat) (w : World) [h : SzGe n w] : SzGe n w.drew := ⟨h.out⟩
instance SzGe.drewN (n k : Nat) (w : World) [h : SzGe n w] : SzGe n (w.drewN k) := ⟨h.out⟩
instance SzGe.plus (n : Nat) (w : World) (x : Tail) [h : SzGe n w] : SzGe n (wplus w x) := ⟨by have := h.out; simp [wplus]; omega⟩

instance SzGe.plus_self (n : Nat) (w : World) (x : Tail) [h : SzGe n w] : SzGe (n + x.blocks.size) (wplus w x) := ⟨by have := h.out; simp [wplus]; omega⟩

theorem wplus_heap_lt (w : World) (x : Tail) (k : Nat) (h : k < w.heap.size) : (wplus w x).heap[k]? = w.heap[k]? := by
  simp only [wplus]; rw [Array.getElem?_append_left h]
section
variable (w : World) (x y : Tail) (b o : Nat) (s : Option Nat) [h : SzGe (b + 1) w]
@[simp, go_sem] theorem wplus_size : (wplus w x).heap.size = w.heap.size + x.blocks.size := by simp [wplus]
@[simp, go_sem] theorem wplus_tape : (wplus w x).tape = w.tape := rfl
@[simp, go_sem] theorem wplus_heap : (wplus w x).heap[b]? = w.heap[b]? := wplus_heap_lt w x b h.out
@[simp, go_sem] theorem wplus_cell : (wplus w x).cell? ⟨b, o, s⟩ = w.cell? ⟨b, o, s⟩ :=
  World.cell?_of_block (w := w) (wplus_heap_lt w x b h.out)
@[simp, go_sem] theorem wplus_frozen : (wplus w x).frozen? ⟨b, o, s⟩ = w.frozen? ⟨b, o, s⟩ :=
  World.frozen?_of_block (w := w) (wplus_heap_lt w x b h.out)
@[go_sem] theorem alloc_cell (ob : Obj) : (w.alloc ob).cell? ⟨b, o, s⟩ = w.cell? ⟨b, o, s⟩ := World.cell?_alloc_lt w ob ⟨b, o, s⟩ h.out
@[go_sem] theorem alloc_frozen (ob : Obj) : (w.alloc ob).frozen? ⟨b, o, s⟩ = w.frozen? ⟨b, o, s⟩ :=
  World.frozen?_alloc_old w ob ⟨b, o, s⟩ (Nat.ne_of_lt h.out)
@[go_sem] theorem alloc_setCell (ob : Obj) (v : Value) : (w.alloc ob).setCell ⟨b, o, none⟩ v = (w.setCell ⟨b, o, none⟩ v).alloc ob := World.setCell_alloc_past ob b o v h.out
@[simp, go_sem] theorem wplus_shape : (wplus w x).shape? b = w.shape? b := by
  unfold World.shape?; rw [wplus_heap_lt w x b h.out]
@[simp, go_sem] theorem setCell_wplus (v : Value) : (wplus w x).setCell ⟨b, o, s⟩ v = wplus (w.setCell ⟨b, o, s⟩ v) x := by
  have hb : b < w.heap.size := h.out
  simp only [World.setCell, wplus, World.mk.injEq, and_self, and_true]
  apply Array.ext_getElem?
  intro i
  rw [Array.getElem?_modify, Array.getElem?_append, Array.getElem?_append, Array.size_modify, Array.getElem?_modify]
  by_cases hi : i < w.heap.size
  · simp only [hi, if_true]
  · simp only [hi, if_false]
    rw [if_neg (by omega)]
theorem wplus_drew : (wplus w x).drew = wplus w ⟨x.blocks, x.drawn + 1⟩ := rfl
theorem wplus_wplus : wplus (wplus w x) y = wplus w ⟨x.blocks ++ y.blocks, y.drawn⟩ := by
  simp [wplus, Array.append_assoc]
end

theorem below_wplus (w : World) (x : Tail) : Below w.heap.size w (wplus w x) :=
  ⟨rfl, rfl, rfl, by simp, fun k h => wplus_heap_lt w x k h⟩

theorem blw_alloc {B : Nat} {w W : World} {o : Obj} [hs : SzGe B W] (h : Below B w W) : Below B w (W.alloc o) := h.alloc hs.out o
theorem blw_plus {B : Nat} {w W : World} {x : Tail} [hs : SzGe B W] (h : Below B w W) : Below B w (wplus W x) :=
  h.trans ((below_wplus W x).mono hs.out)

theorem wplus_of_below {w w' : World} (h : Below w.heap.size w w') : ∃ x, w' = wplus w x := by
  refine ⟨⟨w'.heap.extract w.heap.size w'.heap.size, w'.drawn⟩, ?_⟩
  obtain ⟨h1, h2, h3, h4, h5⟩ := h
  cases w with | mk hp tp dr os out =>
  cases w' with | mk hp' tp' dr' os' out' =>
  simp only at h1 h2 h3 h4 h5
  subst h1 h2 h3
  simp only [wplus, World.mk.injEq, and_self, and_true]
  apply Array.ext_getElem?
  intro i
  by_cases hi : i < hp.size
  · rw [h5 i hi, Array.getElem?_append_left hi]
  · rw [Array.getElem?_append_right (by omega), Array.getElem?_extract]
    by_cases hj : i < hp'.size
    · rw [if_pos (by omega)]; congr 1; omega
    · rw [if_neg (by omega), Array.getElem?_eq_none (by omega)]

/-! '==' on arrays -/
@[go_sem] def eqCells (d : Nat) (e : TypeId) (n : Nat) (xs ys : Array Value) : List Nat → Sem Bool
  | [] => pure true
  | i :: is => do
    let a ← part e xs (i * n)
    let b ← part e ys (i * n)
    let r ← Op.equalIn d e a b
    if (!r) = true then pure false else eqCells d e n xs ys is

section
variable {P : Program} (w : World)

theorem run_equalIn_array (d : Nat) (t e : TypeId) (len n : Nat) (xs ys : Array Value) (ht : P.underlying t = some (.array len e)) (hs : ∀ w, (sizeOf e).run P w = .ok n w) :
    (Op.equalIn (d + 1) t (.agg xs) (.agg ys)).run P w = (eqCells d e n xs ys (List.range' 0 len)).run P w := by
  simp only [Op.equalIn, Sem.run_bind, run_underlying ht, Result.andThen_ok, hs]
  rw [Std.Legacy.Range.forIn_eq_forIn_range']
  simp only [Std.Legacy.Range.size, Nat.sub_zero, Nat.add_sub_cancel, Nat.div_one]
  generalize List.range' 0 len = is
  clear ht
  induction is generalizing w with
  | nil => simp [eqCells]
  | cons f fs ih =>
    simp only [List.forIn_cons, eqCells, Sem.run_bind, Sem.run_ite]
    generalize (part e xs (f * n)).run P w = r1
    cases r1 with
    | ok a w1 =>
      simp only [Result.andThen_ok]
      generalize (part e ys (f * n)).run P w1 = r2
      cases r2 with
      | ok b w2 =>
        simp only [Result.andThen_ok]
        generalize (Op.equalIn d e a b).run P w2 = r3
        cases r3 with
        | ok r w3 =>
          cases r
          · simp only [Result.andThen_ok, Bool.not_false, if_true, Sem.run_pure]
          · simp only [Result.andThen_ok, Bool.not_true, Bool.false_eq_true, if_false, Sem.run_pure]
            exact ih w3
        | halt x w3 => simp [Result.andThen]
      | halt x w2 => simp [Result.andThen]
    | halt x w1 => simp [Result.andThen]

/-- an array of four integers, as it is compared -/
theorem run_equalIn_four (d : Nat) (t e : TypeId) (k : IntKind) (a0 a1 a2 a3 b0 b1 b2 b3 : Int) (ht : P.underlying t = some (.array 4 e)) (hs : ∀ w, (sizeOf e).run P w = .ok 1 w) (he : P.underlying e = some (.int k)) :
    (Op.equalIn (d + 2) t (.agg #[.int k a0, .int k a1, .int k a2, .int k a3]) (.agg #[.int k b0, .int k b1, .int k b2, .int k b3])).run P w = .ok (a0 == b0 && a1 == b1 && a2 == b2 && a3 == b3) w := by
  rw [run_equalIn_array w (d + 1) t e 4 1 _ _ ht hs, show List.range' 0 4 = [0, 1, 2, 3] from rfl]
  simp [eqCells, part, isAgg, run_underlying he, run_equalIn_int w d e k k _ _ he]
  by_cases h0 : a0 = b0 <;> by_cases h1 : a1 = b1 <;> by_cases h2 : a2 = b2 <;> by_cases h3 : a3 = b3 <;> simp [h0, h1, h2, h3, eqCells, part, isAgg, run_underlying he, run_equalIn_int _ d e k k _ _ he]
end

section
variable {P : Program}

theorem wp_region_plus {id : Nat} {Q : Exit → Act → World → Prop} {a : Act} {w : World} {l : List Oper} (hm : P.follows .mixedOrders = true) (hB : Region.lexB .any l.toArray = true)
    (h : wpQuiet P l.toArray (fun w' => ∃ x, w' = wplus w x) (fun a' => ∀ w', (∃ x, w' = wplus w x) → Q .normal a' w') l a) : (Code.region id l.toArray true).wp P Q a w :=
  wp_region_quiet (C := fun w' => ∃ x, w' = wplus w x) hm hB ⟨⟨#[], w.drawn + 1⟩, by simp [wplus]⟩ (by simpa using h)

theorem Calls.plus_of {f : FuncId} {args : Array Value} {w : World} {x : Tail} {v : Value}
    (h : Calls P f args (wplus w x) fun e w' => e = .returned v ∧ Below (wplus w x).heap.size (wplus w x) w') : Calls P f args (wplus w x) fun e w'' => e = .returned v ∧ ∃ y, w'' = wplus w y :=
  h.mono fun _ _ ⟨he, hm⟩ => ⟨he, by obtain ⟨y, rfl⟩ := wplus_of_below hm; exact ⟨_, wplus_wplus _ _ _⟩⟩

theorem Calls.plus_same {f : FuncId} {args : Array Value} {w : World} {x : Tail} {v : Value}
    (h : Calls P f args (wplus w x) fun e w' => e = .returned v ∧ wplus w x = w') : Calls P f args (wplus w x) fun e w'' => e = .returned v ∧ ∃ y, w'' = wplus w y :=
  h.mono fun _ _ ⟨he, hm⟩ => ⟨he, ⟨_, hm.symm⟩⟩

/-! A region whose first n operations read and call (the callees may make memory), in any order, and whose other operations come behind them all, one behind the other. -/

def wpHd (P : Program) (md : Region.Mode) (ops : Array Oper) (C : World → Prop) (n : Nat) (L : Array Bool → Act → Prop) : Nat → Array Bool → Act → Prop
  | 0, listed, a => L listed a
  | f + 1, listed, a =>
    Region.ready md ops listed ≠ [] ∧ ∀ i ∈ Region.ready md ops listed, i < n ∧ qOp P ops C i (wpHd P md ops C n L f (listed.setIfInBounds i true)) a

theorem wpAny_of_hd {md : Region.Mode} {ops : Array Oper} {C : World → Prop} {n g : Nat} {L : Array Bool → Act → Prop} {Q' : Exit → Act → World → Prop}
    (hL : ∀ listed a w, C w → L listed a → wpAny P md ops Q' g listed a w) :
    ∀ (f : Nat) (listed : Array Bool) (a : Act) (w : World), C w → wpHd P md ops C n L f listed a → wpAny P md ops Q' (f + g) listed a w
  | 0, listed, a, w, hw, h => by rw [Nat.zero_add]; exact hL _ _ _ hw h
  | f + 1, listed, a, w, hw, h => by
    rw [show f + 1 + g = (f + g) + 1 by omega]
    exact ⟨fun h0 => absurd h0 h.1, fun i hi => wpOp_of_qOp hw (fun a' w' hw' h' => wpAny_of_hd hL f _ a' w' hw' h') (h.2 i hi).2⟩

theorem wpHd_first {md : Region.Mode} {ops : Array Oper} {C : World → Prop} {n i : Nat} {oi : Oper} {v : Value} {L : Array Bool → Act → Prop} (hi : ops[i]? = some oi)
    (hsel : ∀ (j : Nat) (o : Oper) cs b, ops[j]? = some o → o.op ≠ .select cs b)
    (hs : Region.sinkB md ops n = true) (hc : Region.chainB md ops n = true) (hn : n < ops.size) (hin : i < n)
    (hdone : ∀ listed a, L listed a → ∀ j ∈ Region.ready md ops listed, n ≤ j) :
    ∀ (f : Nat) (listed : Array Bool) (a : Act), HeadInv md ops n listed →
      (∀ j oj, ops[j]? = some oj → j ≠ i → listed.getD j true = false → (∀ e ∈ oj.after, Region.binds md e = true → e.on ≠ i) → oi.apart ops oj = true) →
      i ∈ Region.ready md ops listed → YieldsIn P ops C oi v a →
      wpHd P md ops C n L f (listed.setIfInBounds i true) (a.put oi.dst v) → wpHd P md ops C n L (f + 1) listed a := by
  have early : ∀ listed, HeadInv md ops n listed → listed.getD i true = false → ∀ j ∈ Region.ready md ops listed, j < n := fun listed inv hun j hj => by
    rcases Nat.lt_or_ge j n with h | h
    · exact h
    · exact absurd hj (tail_waits hs hc hn inv _ i rfl hin hun j h)
  intro f
  induction f with
  | zero =>
    intro listed a inv _ hr hy H
    refine ⟨fun h => (by rw [h] at hr; cases hr), fun j hj => ?_⟩
    have hjn := early listed inv (mem_ready.1 hr).1 j hj
    refine ⟨hjn, ?_⟩
    by_cases hji : j = i
    · subst hji; exact hy.qOp hi H
    · have := hdone _ _ H j (ready_mono hj hji)
      omega
  | succ f ih =>
    intro listed a inv hfree hr hy H
    refine ⟨fun h => (by rw [h] at hr; cases hr), fun j hj => ?_⟩
    have hjn := early listed inv (mem_ready.1 hr).1 j hj
    refine ⟨hjn, ?_⟩
    by_cases hji : j = i
    · subst hji; exact hy.qOp hi H
    · have h1 := (H.2 j (ready_mono hj hji)).2
      obtain ⟨hjun, oj, hoj, hall⟩ := mem_ready.1 hj
      have hnot : ∀ e ∈ oj.after, Region.binds md e = true → e.on ≠ i := fun e he hb heq => by
        have h2 := hall e he hb
        rw [heq, getD_both (mem_ready.1 hr).1] at h2
        cases h2
      have h2 := qOp_put hoj (hfree j oj hoj hji hjun hnot) (fun cs b => hsel i oi cs b hi) (fun cs b => hsel j oj cs b hoj) hy h1
      refine qOp_mono (fun a' h3 => ih (listed.setIfInBounds j true) a' (inv.set hj hjn) (fun k ok hk hki hun hno => hfree k ok hk hki ?_ hno) (ready_mono hr (Ne.symm hji)) h3.1 ?_) h2
      · by_cases hjk : j = k
        · subst hjk; exact hjun
        · rw [getD_set_ne true hjk] at hun; exact hun
      · rw [Array.setIfInBounds_comm _ _ hji]
        exact h3.2

theorem wpHd_lex {md : Region.Mode} {ops : Array Oper} {C : World → Prop} {n g : Nat} {Lq : Act → Prop} (hsel : Region.noSelect ops = true) (hs : Region.sinkB md ops n = true) (hc : Region.chainB md ops n = true) (hn : n < ops.size) :
    ∀ (l : List Oper) (k : Nat) (listed : Array Bool) (a : Act), (∀ j, j < l.length → l[j]? = ops[k + j]?) → k + l.length = n → HeadInv md ops n listed →
    Region.lexHead md ops g l.length k listed = true → wpQuiet P ops C Lq l a →
    wpHd P md ops C n (fun listed' a' => Region.seqB md ops g n listed' = true ∧ Lq a') l.length listed a
  | [], k, listed, a, _, hk, _, hB, h => by
    have : k = n := by simpa using hk
    subst this
    exact ⟨by simpa [Region.lexHead] using hB, h⟩
  | o :: l, k, listed, a, hl, hk, inv, hB, h => by
    have h0 : ops[k]? = some o := by simpa using (hl 0 (by simp)).symm
    simp only [List.length_cons, Region.lexHead, Bool.and_eq_true] at hB
    obtain ⟨⟨hr, hf⟩, hB'⟩ := hB
    have hkn : k < n := by simp only [List.length_cons] at hk; omega
    have hr' : k ∈ Region.ready md ops listed := by simpa using hr
    have hst : qOp P ops C k (wpQuiet P ops C Lq l) a := by unfold qOp; simp only [h0]; exact h
    obtain ⟨v, hy, hK⟩ := yieldsIn_of_qOp h0 hst
    exact wpHd_first h0 (Region.noSelect_spec hsel) hs hc hn hkn (fun listed' a' hL => seqB_ready hL.1) l.length listed a inv (Region.free_spec h0 hf) hr' hy
      (wpHd_lex hsel hs hc hn l (k + 1) _ _ (fun j hj => by have := hl (j + 1) (by simp; omega); simpa [Nat.add_assoc, Nat.add_comm 1 j] using this) (by simp only [List.length_cons] at hk; omega) (inv.set hr' hkn) hB' hK)

theorem wp_region_plus_tail {id : Nat} {Q : Exit → Act → World → Prop} {a : Act} {w : World} {l : List Oper} (n : Nat) (hm : P.follows .mixedOrders = true) (hB : Region.lexTailB .any l.toArray n = true)
    (h : wpQuiet P l.toArray (fun w' => ∃ x, w' = wplus w x) (fun a' => ∀ w', (∃ x, w' = wplus w x) → wpList P l.toArray Q (l.drop n) a' w') (l.take n) a) : (Code.region id l.toArray true).wp P Q a w := by
  simp only [Region.lexTailB, Bool.and_eq_true, decide_eq_true_eq] at hB
  obtain ⟨⟨⟨⟨hsel, hn⟩, hs⟩, hc⟩, hlex⟩ := hB
  have hn' : n < l.length := by simpa using hn
  have htl : (l.take n).length = n := by simp; omega
  have hdl : (l.drop n).length = l.toArray.size - n := by simp
  have inv0 : HeadInv .any l.toArray n (Array.replicate l.toArray.size false) :=
    ⟨by simp, fun j oj _ hl => (by rw [getD_replicate_false] at hl; cases hl), fun t _ ht => getD_in (by simpa using ht) (getD_replicate_false _ _)⟩
  have H := wpHd_lex (md := .any) (g := l.toArray.size - n) hsel hs hc hn (l.take n) 0 _ a (fun j hj => by
    have hj' : j < n := by rw [htl] at hj; exact hj
    simp [hj']) (by simpa using htl) inv0 (by rw [htl]; exact hlex) h
  refine wp_region_any hm ?_
  have := wpAny_of_hd (Q' := Q) (g := l.toArray.size - n) (fun listed a' w' hw' hL => by
    have := wpAny_of_seq (md := .any) (Q' := Q) (l.drop n) n listed a' w' (fun j => by simp [List.getElem?_drop]) (by rw [hdl]; exact hL.1) (hL.2 w' hw')
    rwa [hdl] at this) _ _ _ { w with drawn := w.drawn + 1 } ⟨⟨#[], w.drawn + 1⟩, by simp [wplus]⟩ H
  rw [htl, show n + (l.toArray.size - n) = l.toArray.size by omega] at this
  exact this
end
end Go.Proofs.YtbopfhbeegkkaaaDoor

namespace Go.Proofs.YtbopfhbeegkkaaaDoor
open Go.RowKit

def cmpI (x y : Int) : Int := if x < y then -1 else if y < x then 1 else 0
def orI (x y : Int) : Int := if x = 0 then y else x
def cmpS (aw ac bw bc : Int) : Int := orI (cmpI aw bw) (cmpI ac bc)
def rightS (w c : Int) : Bool := decide (0 ≤ w) && decide (w ≤ 1099511627776) && decide (0 ≤ c) && decide (c ≤ 1099511627776)
theorem cmpI_lt {x y : Int} (h : x < y) : cmpI x y = -1 := by simp [cmpI, h]
theorem cmpI_gt {x y : Int} (h : y < x) : cmpI x y = 1 := by unfold cmpI; rw [if_neg (by omega), if_pos h]
theorem cmpI_eq {x y : Int} (h : ¬ x < y) (h' : ¬ y < x) : cmpI x y = 0 := by simp [cmpI, h, h']

set_option maxHeartbeats 400000 in
theorem nan_any (x : Int) (w : World) : Calls Tryd.prog 83 #[.int .i64 x] w fun e w' => e = .returned (.bool false) ∧ w = w' := by
  go_enter Tryd.func83, Tryd.ntmps83
  go_wp2
  go_ret
  exact ⟨by simp, rfl⟩

set_option maxHeartbeats 400000 in
theorem cmp_any (x y : Int) (w : World) : Calls Tryd.prog 57 #[.int .i64 x, .int .i64 y] w fun e w' => e = .returned (.int .i64 (cmpI x y)) ∧ w = w' := by
  by_cases h : x < y
  · rw [cmpI_lt h]
    go_enter Tryd.func57, Tryd.ntmps57
    go_wp2_with (go_at_call 83; refine (nan_any _ _).mono ?_; rintro e w' ⟨rfl, rfl⟩)
    go_ret
    exact ⟨rfl, rfl⟩
  by_cases h' : y < x
  · rw [cmpI_gt h']
    go_enter Tryd.func57, Tryd.ntmps57
    go_wp2_with (go_at_call 83; refine (nan_any _ _).mono ?_; rintro e w' ⟨rfl, rfl⟩)
    go_ret
    exact ⟨rfl, rfl⟩
  · rw [cmpI_eq h h']
    go_enter Tryd.func57, Tryd.ntmps57
    go_wp2_with (go_at_call 83; refine (nan_any _ _).mono ?_; rintro e w' ⟨rfl, rfl⟩)
    go_ret
    exact ⟨rfl, rfl⟩

set_option maxHeartbeats 400000 in
theorem or_any (x y : Int) (b c : Nat) (w : World) (h0 : w.cell? ⟨b, 0, none⟩ = some (.int .i64 x)) (h1 : w.cell? ⟨b, 1, none⟩ = some (.int .i64 y)) :
    Calls Tryd.prog 56 #[.slice (some ⟨b, 0, none⟩) 2 c] w fun e w' => e = .returned (.int .i64 (orI x y)) ∧ w = w' := by
  by_cases hx : x = 0
  · have e1 : orI x y = y := by simp [orI, hx]
    rw [e1]
    clear e1
    subst hx
    by_cases hy : y = 0
    · subst hy
      go_enter Tryd.func56, Tryd.ntmps56
      go_wp2
      refine wp_loop_rounds 3 ?_
      rw [rounds_succ]; go_wp2
      rw [rounds_succ]; go_wp2
      rw [rounds_succ]; go_wp2
      go_ret
      exact ⟨rfl, rfl⟩
    · have hyb : (y != 0) = true := by simp [hy]
      go_enter Tryd.func56, Tryd.ntmps56
      go_wp2
      refine wp_loop_rounds 3 ?_
      rw [rounds_succ]; go_wp2
      rw [rounds_succ]; go_wp2
      go_ret
      exact ⟨rfl, rfl⟩
  · have e1 : orI x y = x := by simp [orI, hx]
    rw [e1]
    clear e1
    have hxb : (x != 0) = true := by simp [hx]
    go_enter Tryd.func56, Tryd.ntmps56
    go_wp2
    refine wp_loop_rounds 3 ?_
    rw [rounds_succ]; go_wp2
    go_ret
    exact ⟨rfl, rfl⟩

set_option maxHeartbeats 400000 in
theorem compare_any (aw ac bw bc : Int) (w : World) : Calls Tryd.prog 15 #[.agg #[.int .i64 aw, .int .i64 ac], .agg #[.int .i64 bw, .int .i64 bc]] w fun e w' => e = .returned (.int .i64 (cmpS aw ac bw bc)) ∧ Below w.heap.size w w' := by
  go_enter Tryd.func15, Tryd.ntmps15
  go_wp2
  refine wp_region_plus_tail 10 (by kernel_rfl) (by kernel_rfl) ?_
  simp only [List.take_succ_cons, List.take_zero, List.drop_succ_cons, List.drop_zero]
  repeat (first | go_big_quiet_skip | (go_big_quiet_want; go_big_quiet_op; first | go_big_quiet_on | (apply Exists.intro; refine ⟨fun _ => ?_, ?_⟩; (first | (go_at_call 57; exact Calls.plus_same (cmp_any _ _ _))); go_big_quiet_on)))
  refine wpQuiet_nil ?_
  rintro _ ⟨x, rfl⟩
  go_wp2_with fail
  refine (or_any (cmpI aw bw) (cmpI ac bc) _ _ _ ?_ ?_).mono ?_
  · simp [go_sem]
  · simp [go_sem]
  rintro e w' ⟨rfl, rfl⟩
  go_wp2
  go_ret
  exact ⟨rfl, (by repeat (first | exact Below.refl _ _ | refine blw_alloc ?_ | refine blw_plus ?_ | refine Below.drew ?_))⟩

set_option maxHeartbeats 800000 in
theorem rightS_any (aw ac : Int) (w : World) : Calls Tryd.prog 13 #[.agg #[.int .i64 aw, .int .i64 ac]] w fun e w' => e = .returned (.bool (rightS aw ac)) ∧ Below w.heap.size w w' := by
  by_cases ha : aw < 0
  · have e1 : rightS aw ac = false := by simp [rightS]; omega
    rw [e1]
    clear e1
    go_enter Tryd.func13, Tryd.ntmps13
    go_wp2
    go_ret
    exact ⟨by first | rfl | (simp; omega), (by repeat (first | exact Below.refl _ _ | refine blw_alloc ?_ | refine blw_plus ?_ | refine Below.drew ?_))⟩
  by_cases hb : 1099511627776 < aw
  · have e1 : rightS aw ac = false := by simp [rightS]; omega
    rw [e1]
    clear e1
    go_enter Tryd.func13, Tryd.ntmps13
    go_wp2
    go_ret
    exact ⟨by first | rfl | (simp; omega), (by repeat (first | exact Below.refl _ _ | refine blw_alloc ?_ | refine blw_plus ?_ | refine Below.drew ?_))⟩
  by_cases hc : ac < 0
  · have e1 : rightS aw ac = false := by simp [rightS]; omega
    rw [e1]
    clear e1
    go_enter Tryd.func13, Tryd.ntmps13
    go_wp2
    go_ret
    exact ⟨by first | rfl | (simp; omega), (by repeat (first | exact Below.refl _ _ | refine blw_alloc ?_ | refine blw_plus ?_ | refine Below.drew ?_))⟩
  by_cases hd : 1099511627776 < ac
  · have e1 : rightS aw ac = false := by simp [rightS]; omega
    rw [e1]
    clear e1
    go_enter Tryd.func13, Tryd.ntmps13
    go_wp2
    go_ret
    exact ⟨by first | rfl | (simp; omega), (by repeat (first | exact Below.refl _ _ | refine blw_alloc ?_ | refine blw_plus ?_ | refine Below.drew ?_))⟩
  have e1 : rightS aw ac = true := by simp [rightS]; omega
  rw [e1]
  clear e1
  go_enter Tryd.func13, Tryd.ntmps13
  go_wp2
  go_ret
  exact ⟨by first | rfl | (simp; omega), (by repeat (first | exact Below.refl _ _ | refine blw_alloc ?_ | refine blw_plus ?_ | refine Below.drew ?_))⟩

set_option maxHeartbeats 400000 in
theorem later_any (aw ac bw bc : Int) (w : World) : Calls Tryd.prog 16 #[.agg #[.int .i64 aw, .int .i64 ac], .agg #[.int .i64 bw, .int .i64 bc]] w fun e w' => e = .returned (if cmpS aw ac bw bc < 0 then .agg #[.int .i64 bw, .int .i64 bc] else .agg #[.int .i64 aw, .int .i64 ac]) ∧ Below w.heap.size w w' := by
  generalize hg : cmpS aw ac bw bc = g
  have hc := fun w => compare_any aw ac bw bc w
  rw [hg] at hc
  have HC := hidp hc
  clear hc hg
  by_cases h : g < 0
  · rw [if_pos h]
    go_enter Tryd.func16, Tryd.ntmps16
    go_wp2_with (go_at_call 15; refine (HC.out _).mono ?_; rintro e w' ⟨rfl, hb⟩; obtain ⟨x, rfl⟩ := wplus_of_below hb; clear hb)
    exact bodyPost_ret (v := .agg #[.int .i64 bw, .int .i64 bc]) (by simp [results, Tryd.results16, go_sem]) rfl ⟨rfl, (by repeat (first | exact Below.refl _ _ | refine blw_alloc ?_ | refine blw_plus ?_ | refine Below.drew ?_))⟩
  · rw [if_neg h]
    go_enter Tryd.func16, Tryd.ntmps16
    go_wp2_with (go_at_call 15; refine (HC.out _).mono ?_; rintro e w' ⟨rfl, hb⟩; obtain ⟨x, rfl⟩ := wplus_of_below hb; clear hb)
    exact bodyPost_ret (v := .agg #[.int .i64 aw, .int .i64 ac]) (by simp [results, Tryd.results16, go_sem]) rfl ⟨rfl, (by repeat (first | exact Below.refl _ _ | refine blw_alloc ?_ | refine blw_plus ?_ | refine Below.drew ?_))⟩

set_option maxHeartbeats 800000 in
theorem next_r1 (aw ac now : Int) (w : World) (hr : rightS aw ac = false) :
    Calls Tryd.prog 10 #[.agg #[.int .i64 aw, .int .i64 ac], .int .i64 now] w fun e w' => e = .returned (.tuple #[.agg #[.int .i64 0, .int .i64 0], .iface 24 (.int .i64 2)]) ∧ Below w.heap.size w w' := by
  go_enter Tryd.func10, Tryd.ntmps10
  go_wp2_with (go_at_call 13; refine (rightS_any _ _ _).mono ?_; rintro e w' ⟨rfl, hb⟩; obtain ⟨x, rfl⟩ := wplus_of_below hb; clear hb)
  exact bodyPost_ret (v := .tuple #[.agg #[.int .i64 0, .int .i64 0], .iface 24 (.int .i64 2)]) (by simp [results, Tryd.results10, go_sem]) rfl ⟨rfl, (by repeat (first | exact Below.refl _ _ | refine blw_alloc ?_ | refine blw_plus ?_ | refine Below.drew ?_))⟩

set_option maxHeartbeats 800000 in
theorem next_r2 (aw ac now : Int) (w : World) (hr : rightS aw ac = true) (h : now < 0) :
    Calls Tryd.prog 10 #[.agg #[.int .i64 aw, .int .i64 ac], .int .i64 now] w fun e w' => e = .returned (.tuple #[.agg #[.int .i64 0, .int .i64 0], .iface 24 (.int .i64 2)]) ∧ Below w.heap.size w w' := by
  go_enter Tryd.func10, Tryd.ntmps10
  go_wp2_with (go_at_call 13; refine (rightS_any _ _ _).mono ?_; rintro e w' ⟨rfl, hb⟩; obtain ⟨x, rfl⟩ := wplus_of_below hb; clear hb)
  exact bodyPost_ret (v := .tuple #[.agg #[.int .i64 0, .int .i64 0], .iface 24 (.int .i64 2)]) (by simp [results, Tryd.results10, go_sem]) rfl ⟨rfl, (by repeat (first | exact Below.refl _ _ | refine blw_alloc ?_ | refine blw_plus ?_ | refine Below.drew ?_))⟩

set_option maxHeartbeats 800000 in
theorem next_r3 (aw ac now : Int) (w : World) (hr : rightS aw ac = true) (h0 : 0 ≤ now) (h : 1099511627776 < now) :
    Calls Tryd.prog 10 #[.agg #[.int .i64 aw, .int .i64 ac], .int .i64 now] w fun e w' => e = .returned (.tuple #[.agg #[.int .i64 0, .int .i64 0], .iface 24 (.int .i64 2)]) ∧ Below w.heap.size w w' := by
  go_enter Tryd.func10, Tryd.ntmps10
  go_wp2_with (go_at_call 13; refine (rightS_any _ _ _).mono ?_; rintro e w' ⟨rfl, hb⟩; obtain ⟨x, rfl⟩ := wplus_of_below hb; clear hb)
  exact bodyPost_ret (v := .tuple #[.agg #[.int .i64 0, .int .i64 0], .iface 24 (.int .i64 2)]) (by simp [results, Tryd.results10, go_sem]) rfl ⟨rfl, (by repeat (first | exact Below.refl _ _ | refine blw_alloc ?_ | refine blw_plus ?_ | refine Below.drew ?_))⟩

set_option maxHeartbeats 800000 in
theorem next_new (aw ac now : Int) (w : World) (hr : rightS aw ac = true) (h0 : 0 ≤ now) (h1 : now ≤ 1099511627776) (h : aw < now) :
    Calls Tryd.prog 10 #[.agg #[.int .i64 aw, .int .i64 ac], .int .i64 now] w fun e w' => e = .returned (.tuple #[.agg #[.int .i64 now, .int .i64 0], .nilIface]) ∧ Below w.heap.size w w' := by
  go_enter Tryd.func10, Tryd.ntmps10
  go_wp2_with (go_at_call 13; refine (rightS_any _ _ _).mono ?_; rintro e w' ⟨rfl, hb⟩; obtain ⟨x, rfl⟩ := wplus_of_below hb; clear hb)
  exact bodyPost_ret (v := .tuple #[.agg #[.int .i64 now, .int .i64 0], .nilIface]) (by simp [results, Tryd.results10, go_sem]) rfl ⟨rfl, (by repeat (first | exact Below.refl _ _ | refine blw_alloc ?_ | refine blw_plus ?_ | refine Below.drew ?_))⟩

set_option maxHeartbeats 800000 in
theorem next_full (aw ac now : Int) (w : World) (hr : rightS aw ac = true) (h0 : 0 ≤ now) (h1 : now ≤ 1099511627776) (h : now ≤ aw) (hf : (ac == 1099511627776) = true) :
    Calls Tryd.prog 10 #[.agg #[.int .i64 aw, .int .i64 ac], .int .i64 now] w fun e w' => e = .returned (.tuple #[.agg #[.int .i64 0, .int .i64 0], .iface 24 (.int .i64 12)]) ∧ Below w.heap.size w w' := by
  go_enter Tryd.func10, Tryd.ntmps10
  go_wp2_with (go_at_call 13; refine (rightS_any _ _ _).mono ?_; rintro e w' ⟨rfl, hb⟩; obtain ⟨x, rfl⟩ := wplus_of_below hb; clear hb)
  exact bodyPost_ret (v := .tuple #[.agg #[.int .i64 0, .int .i64 0], .iface 24 (.int .i64 12)]) (by simp [results, Tryd.results10, go_sem]) rfl ⟨rfl, (by repeat (first | exact Below.refl _ _ | refine blw_alloc ?_ | refine blw_plus ?_ | refine Below.drew ?_))⟩

set_option maxHeartbeats 800000 in
theorem next_inc (aw ac now : Int) (w : World) (hr : rightS aw ac = true) (h0 : 0 ≤ now) (h1 : now ≤ 1099511627776) (h : now ≤ aw) (hf : (ac == 1099511627776) = false) (hb : 0 ≤ ac ∧ ac ≤ 1099511627776) :
    Calls Tryd.prog 10 #[.agg #[.int .i64 aw, .int .i64 ac], .int .i64 now] w fun e w' => e = .returned (.tuple #[.agg #[.int .i64 aw, .int .i64 (ac + 1)], .nilIface]) ∧ Below w.heap.size w w' := by
  go_enter Tryd.func10, Tryd.ntmps10
  go_wp2_with (go_at_call 13; refine (rightS_any _ _ _).mono ?_; rintro e w' ⟨rfl, hb⟩; obtain ⟨x, rfl⟩ := wplus_of_below hb; clear hb)
  exact bodyPost_ret (v := .tuple #[.agg #[.int .i64 aw, .int .i64 (ac + 1)], .nilIface]) (by simp [results, Tryd.results10, go_sem]) rfl ⟨rfl, (by repeat (first | exact Below.refl _ _ | refine blw_alloc ?_ | refine blw_plus ?_ | refine Below.drew ?_))⟩
theorem cmpI_bd (x y : Int) : -1 ≤ cmpI x y ∧ cmpI x y ≤ 1 := by unfold cmpI; split <;> (try split) <;> omega
theorem cmpS_bd (aw ac bw bc : Int) : -1 ≤ cmpS aw ac bw bc ∧ cmpS aw ac bw bc ≤ 1 := by
  unfold cmpS orI; split
  · exact cmpI_bd _ _
  · exact cmpI_bd _ _
theorem cmpS_neg_iff (aw ac bw bc : Int) : cmpS aw ac bw bc < 0 ↔ (aw < bw ∨ aw = bw ∧ ac < bc) := by
  unfold cmpS orI cmpI; (repeat' split) <;> omega
theorem cmpS_pos_iff (aw ac bw bc : Int) : 0 < cmpS aw ac bw bc ↔ (bw < aw ∨ aw = bw ∧ bc < ac) := by
  unfold cmpS orI cmpI; (repeat' split) <;> omega
theorem cmpS_zero_iff (aw ac bw bc : Int) : cmpS aw ac bw bc = 0 ↔ (aw = bw ∧ ac = bc) := by
  unfold cmpS orI cmpI; (repeat' split) <;> omega
theorem cmpS_swap (aw ac bw bc : Int) : cmpS bw bc aw ac = - cmpS aw ac bw bc := by
  have h1 := cmpS_bd aw ac bw bc; have h2 := cmpS_bd bw bc aw ac
  have a1 := cmpS_neg_iff aw ac bw bc; have a2 := cmpS_pos_iff aw ac bw bc
  have b1 := cmpS_neg_iff bw bc aw ac; have b2 := cmpS_pos_iff bw bc aw ac
  by_cases p : cmpS aw ac bw bc < 0
  · have := a1.1 p; have := b2.2 (by omega); omega
  · by_cases q : 0 < cmpS aw ac bw bc
    · have := a2.1 q; have := b1.2 (by omega); omega
    · have c1 := (cmpS_zero_iff aw ac bw bc).1 (by omega)
      have := (cmpS_zero_iff bw bc aw ac).2 (by omega)
      omega

@[go_sem 3000] theorem eqStamp (w : World) (d : Nat) (aw ac bw bc : Int) :
    (Op.equalIn (d + 2) 23 (.agg #[.int .i64 aw, .int .i64 ac]) (.agg #[.int .i64 bw, .int .i64 bc])).run Tryd.prog w = .ok (aw == bw && ac == bc) w := by
  rw [run_equalIn_agg w (d + 1) _ _ _ (by kernel_rfl) (by kernel_rfl)]
  by_cases h1 : aw = bw <;> by_cases h2 : ac = bc <;> simp [go_sem, h1, h2]

end Go.Proofs.YtbopfhbeegkkaaaDoor

namespace Go.Proofs.YtbopfhbeegkkaaaDoor
open Go.RowKit Go.Extern.Stop Go.Stop Go.Extern

theorem as_nil (t : Value) (w : World) :
    Calls Tryd.prog 74 #[.nilIface, t] w fun e w' => e = .returned (.bool false) ∧ w = w' := by
  go_enter Tryd.func74, Tryd.ntmps74
  go_wp2
  go_ret
  exact ⟨rfl, rfl⟩

theorem valueOfP (t : Addr) (w : World) : (ReflectliteValue.unpack (.iface 139 (.pointer (some t)))).run Tryd.prog w
    = .ok (.agg #[.pointer (some ⟨1, 139, none⟩), .pointer (some ⟨w.heap.size, 0, none⟩), .int .u64 150]) (w.alloc (.cells #[.pointer (some t)] 139)) := by kernel_rfl
theorem typeP (a : Addr) (w : World) : (ReflectliteValue.methodAny (ReflectliteValue.valueError "reflectlite.Value.Type" 0) (fun t _ _ _ => ReflectliteType.toType t) #[.agg #[.pointer (some ⟨1, 139, none⟩), .pointer (some a), .int .u64 150]]).run Tryd.prog w
    = .ok (.iface 181 (.agg #[.pointer (some ⟨1, 139, none⟩)])) w := by kernel_rfl
theorem kindP (w : World) : ((ReflectliteType.abiMethod fun t => (fun a : Nat => Value.int IntKind.u8 (a : Int)) <$> Rtype.kind t) #[.pointer (some ⟨1, 139, none⟩)]).run Tryd.prog w = .ok (.int .u8 22) w := by kernel_rfl
theorem kindE (w : World) : ((ReflectliteType.abiMethod fun t => (fun a : Nat => Value.int IntKind.u8 (a : Int)) <$> Rtype.kind t) #[.pointer (some ⟨1, 24, none⟩)]).run Tryd.prog w = .ok (.int .u8 2) w := by kernel_rfl
theorem rlm (z : Sem Value) (f : TypeId → Addr → Nat → Nat → Sem Value) (v : Value) :
    ReflectliteValue.method z f #[v] = (do match ← ReflectliteValue.parts v with | none => z | some (t, a, fl) => f t a fl (fl % 32)) := rfl
theorem partsP (a : Addr) (w : World) : (ReflectliteValue.parts (.agg #[.pointer (some ⟨1, 139, none⟩), .pointer (some a), .int .u64 150])).run Tryd.prog w = .ok (some (139, a, 150)) w := by kernel_rfl
theorem isNilP (a p : Addr) (W : World) (ha : W.cell? a = some (.pointer (some p))) :
    (ReflectliteValue.method (ReflectliteValue.valueError "reflectlite.Value.IsNil" 0) ReflectliteValue.isNil #[.agg #[.pointer (some ⟨1, 139, none⟩), .pointer (some a), .int .u64 150]]).run Tryd.prog W = .ok (.bool false) W := by
  rw [rlm]
  simp only [Sem.run_bind, partsP, Result.andThen]
  simp [ReflectliteValue.isNil, loadVar, isAgg, underlying, Tryd.underlying139, ha, Result.andThen]
theorem elemP (w : World) : (ReflectliteType.method ReflectliteType.elem #[.agg #[.pointer (some ⟨1, 139, none⟩)]]).run Tryd.prog w = .ok (.iface 181 (.agg #[.pointer (some ⟨1, 24, none⟩)])) w := by kernel_rfl
theorem implementsE (w : World) : (ReflectliteType.relation "Implements" ReflectliteType.implements_ #[.agg #[.pointer (some ⟨1, 24, none⟩)], .iface 181 (.agg #[.pointer (some ⟨1, 28, none⟩)])]).run Tryd.prog w = .ok (.bool true) w := by kernel_rfl
theorem typeOfE (v : Value) (w : World) : (ReflectliteType.typeOf #[.iface 24 v]).run Tryd.prog w = .ok (.iface 181 (.agg #[.pointer (some ⟨1, 24, none⟩)])) w := by kernel_rfl
theorem assignableE (w : World) : (ReflectliteType.relation "AssignableTo" ReflectliteType.assignableTo #[.agg #[.pointer (some ⟨1, 24, none⟩)], .iface 181 (.agg #[.pointer (some ⟨1, 24, none⟩)])]).run Tryd.prog w = .ok (.bool true) w := by kernel_rfl
theorem methodKind (k : Nat) (h : Value) (w : World) : (Go.method (k + 1) 181 (.agg #[h]) "Kind").run Tryd.prog w = .ok (112, h) w := by kernel_rfl
theorem methodElem (k : Nat) (h : Value) (w : World) : (Go.method (k + 1) 181 (.agg #[h]) "Elem").run Tryd.prog w = .ok (125, .agg #[h]) w := by kernel_rfl
theorem methodImplements (k : Nat) (h : Value) (w : World) : (Go.method (k + 1) 181 (.agg #[h]) "Implements").run Tryd.prog w = .ok (126, .agg #[h]) w := by kernel_rfl
theorem methodAssignableTo (k : Nat) (h : Value) (w : World) : (Go.method (k + 1) 181 (.agg #[h]) "AssignableTo").run Tryd.prog w = .ok (123, .agg #[h]) w := by kernel_rfl
theorem valueOfE (n : Int) (w : World) : (ReflectliteValue.unpack (.iface 24 (.int .i64 n))).run Tryd.prog w
    = .ok (.agg #[.pointer (some ⟨1, 24, none⟩), .pointer (some ⟨w.heap.size, 0, none⟩), .int .u64 130]) (w.alloc (.cells #[.int .i64 n] 24)) := by kernel_rfl
theorem elemOfP (w : World) : (Rtype.elem? 139).run Tryd.prog w = .ok (some 24) w := by kernel_rfl
theorem mkE (p : Addr) (w : World) : (ReflectliteValue.mk 24 p ReflectliteValue.flagAddr).run Tryd.prog w = .ok (.agg #[.pointer (some ⟨1, 24, none⟩), .pointer (some p), .int .u64 386]) w := by kernel_rfl
theorem elemVP (a p : Addr) (W : World) (ha : W.cell? a = some (.pointer (some p))) :
    (ReflectliteValue.method (ReflectliteValue.valueError "reflectlite.Value.Elem" 0) ReflectliteValue.elem #[.agg #[.pointer (some ⟨1, 139, none⟩), .pointer (some a), .int .u64 150]]).run Tryd.prog W
      = .ok (.agg #[.pointer (some ⟨1, 24, none⟩), .pointer (some p), .int .u64 386]) W := by
  rw [rlm]
  simp only [Sem.run_bind, partsP, Result.andThen]
  simp [ReflectliteValue.elem, loadVar, isAgg, underlying, Tryd.underlying139, ha, Result.andThen, elemOfP, mkE]
theorem rls (v x : Value) : ReflectliteValue.set #[v, x] = (do
    let (some (dst, a, fl), some (src, b, _)) := (← ReflectliteValue.parts v, ← ReflectliteValue.parts x)
      | unsupported (.noEntry "extern/(internal/reflectlite.Value).Set.zeroValue")
    if fl / ReflectliteValue.flagAddr % 2 == 0 then unsupported (.noEntry "extern/(internal/reflectlite.Value).Set.unaddressable")
    let val ← loadVar src b
    if ← Rtype.directlyAssignable dst src then storeVar dst a val
    else if ← Rtype.implements dst src then
      if (← Rtype.kind src) == 20 then
        match val with
        | .nilIface => unsupported (.noEntry "extern/reflectlite: a nil value of one interface type handed on as a value of another")
        | _ => storeVar dst a val
      else storeVar dst a (.iface src val)
    else panicString ("reflectlite.Set: value of type " ++ (← Rtype.spelt src) ++ " is not assignable to type " ++ (← Rtype.spelt dst))
    pure (.tuple #[])) := rfl
theorem partsEa (a : Addr) (w : World) : (ReflectliteValue.parts (.agg #[.pointer (some ⟨1, 24, none⟩), .pointer (some a), .int .u64 386])).run Tryd.prog w = .ok (some (24, a, 386)) w := by kernel_rfl
theorem partsE (a : Addr) (w : World) : (ReflectliteValue.parts (.agg #[.pointer (some ⟨1, 24, none⟩), .pointer (some a), .int .u64 130])).run Tryd.prog w = .ok (some (24, a, 130)) w := by kernel_rfl
theorem directE (w : World) : (Rtype.directlyAssignable 24 24).run Tryd.prog w = .ok true w := by kernel_rfl
theorem setE (ta b : Addr) (n : Int) (old : Value) (W : World) (hb : W.cell? b = some (.int .i64 n)) (ht : W.cell? ta = some old) (hf : W.frozen? ta = false) :
    (ReflectliteValue.set #[.agg #[.pointer (some ⟨1, 24, none⟩), .pointer (some ta), .int .u64 386], .agg #[.pointer (some ⟨1, 24, none⟩), .pointer (some b), .int .u64 130]]).run Tryd.prog W
      = .ok (.tuple #[]) (W.setCell ta (.int .i64 n)) := by
  rw [rls]
  simp only [Sem.run_bind, partsEa, partsE, Result.andThen]
  simp [ReflectliteValue.flagAddr, loadVar, isAgg, underlying, Tryd.underlying24, hb, Result.andThen, directE, storeVar, Value.cells, storeCells, Addr.add]
  rw [run_store Tryd.prog W ta _ _ (by rfl)]
  simp [ht, hf]

set_option maxRecDepth 100000 in
set_option maxHeartbeats 4000000 in
theorem as_hit (n : Int) (t : Nat) (old : Value) (w : World) (hg : w.cell? ⟨0, 0, none⟩ = some (.iface 181 (.agg #[.pointer (some ⟨1, 28, none⟩)]))) (ht0 : w.cell? ⟨t, 0, none⟩ = some old) (hf0 : w.frozen? ⟨t, 0, none⟩ = false) :
    Calls Tryd.prog 74 #[.iface 24 (.int .i64 n), .iface 139 (.pointer (some ⟨t, 0, none⟩))] w fun ev w' => ev = .returned (.bool true) ∧ ∃ x, w' = wplus (w.setCell ⟨t, 0, none⟩ (.int .i64 n)) x := by
  have h6 := @run_callFunc_extern Tryd.prog 87 _ (fun args => ReflectliteValue.unpack (args.getD 0 (.tuple #[]))) Tryd.func87 (by kernel_rfl) (by kernel_rfl) (by kernel_rfl) (by kernel_rfl)
  have h7 := @run_callFunc_extern Tryd.prog 88 _ (ReflectliteValue.methodAny (ReflectliteValue.valueError "reflectlite.Value.Type" 0) (fun t _ _ _ => ReflectliteType.toType t)) Tryd.func88 (by kernel_rfl) (by kernel_rfl) (by kernel_rfl) (by kernel_rfl)
  have h8 := @run_callFunc_extern Tryd.prog 89 _ (ReflectliteValue.method (ReflectliteValue.valueError "reflectlite.Value.IsNil" 0) ReflectliteValue.isNil) Tryd.func89 (by kernel_rfl) (by kernel_rfl) (by kernel_rfl) (by kernel_rfl)
  have h27 := @run_callFunc_extern Tryd.prog 112 _ (ReflectliteType.abiMethod fun t => do pure (.int .u8 (← Rtype.kind t))) Tryd.func112 (by kernel_rfl) (by kernel_rfl) (by kernel_rfl) (by kernel_rfl)
  have h37 := @run_callFunc_extern Tryd.prog 125 _ (ReflectliteType.method ReflectliteType.elem) Tryd.func125 (by kernel_rfl) (by kernel_rfl) (by kernel_rfl) (by kernel_rfl)
  have h38 := @run_callFunc_extern Tryd.prog 126 _ (ReflectliteType.relation "Implements" ReflectliteType.implements_) Tryd.func126 (by kernel_rfl) (by kernel_rfl) (by kernel_rfl) (by kernel_rfl)
  have h10 := @run_callFunc_extern Tryd.prog 94 _ ReflectliteType.typeOf Tryd.func94 (by kernel_rfl) (by kernel_rfl) (by kernel_rfl) (by kernel_rfl)
  have h35 := @run_callFunc_extern Tryd.prog 123 _ (ReflectliteType.relation "AssignableTo" ReflectliteType.assignableTo) Tryd.func123 (by kernel_rfl) (by kernel_rfl) (by kernel_rfl) (by kernel_rfl)
  have h11 := @run_callFunc_extern Tryd.prog 95 _ (ReflectliteValue.method (ReflectliteValue.valueError "reflectlite.Value.Elem" 0) ReflectliteValue.elem) Tryd.func95 (by kernel_rfl) (by kernel_rfl) (by kernel_rfl) (by kernel_rfl)
  have h12 := @run_callFunc_extern Tryd.prog 96 _ ReflectliteValue.set Tryd.func96 (by kernel_rfl) (by kernel_rfl) (by kernel_rfl) (by kernel_rfl)
  have tO := typeOfE
  have aE := assignableE
  have vE := valueOfE
  have vP := valueOfP
  have tP := typeP
  have kP := kindP
  have kE := kindE
  have eP := elemP
  have iE := implementsE
  have mK := methodKind
  have mE := methodElem
  have mI := methodImplements
  have mA := methodAssignableTo
  have hlt : 0 < w.heap.size := World.block_lt_of_cell? w _ hg
  have htl : t < w.heap.size := World.block_lt_of_cell? w _ ht0
  haveI : SzGe (0 + 1) w := ⟨hlt⟩
  haveI : SzGe (t + 1) w := ⟨htl⟩
  have n8 := isNilP ⟨w.heap.size, 0, none⟩ ⟨t, 0, none⟩ ((w.alloc (.cells #[.pointer (some ⟨t, 0, none⟩)] 139)).alloc (.cells #[.pointer (some ⟨1, 139, none⟩), .pointer (some ⟨w.heap.size, 0, none⟩), .int .u64 150] 169)) (by simp)
  have el := elemVP ⟨w.heap.size, 0, none⟩ ⟨t, 0, none⟩ (((w.alloc (.cells #[.pointer (some ⟨t, 0, none⟩)] 139)).alloc (.cells #[.pointer (some ⟨1, 139, none⟩), .pointer (some ⟨w.heap.size, 0, none⟩), .int .u64 150] 169)).alloc (.cells #[.pointer (some ⟨1, 139, none⟩), .pointer (some ⟨w.heap.size, 0, none⟩), .int .u64 150] 169)) (by simp [go_sem])
  have st := setE ⟨t, 0, none⟩ ⟨w.heap.size + 1 + 1 + 1, 0, none⟩ n old ((((w.alloc (.cells #[.pointer (some ⟨t, 0, none⟩)] 139)).alloc (.cells #[.pointer (some ⟨1, 139, none⟩), .pointer (some ⟨w.heap.size, 0, none⟩), .int .u64 150] 169)).alloc (.cells #[.pointer (some ⟨1, 139, none⟩), .pointer (some ⟨w.heap.size, 0, none⟩), .int .u64 150] 169)).alloc (.cells #[.int .i64 n] 24)) (by simp [go_sem]) (by simp [go_sem, ht0]) (by simp [go_sem, hf0])
  go_enter Tryd.func74, Tryd.ntmps74
  go_wp2
  refine wp_loop_rounds 1 ?_
  rw [rounds_succ]
  go_wp2
  go_ret
  refine ⟨rfl, ?_⟩
  exact wplus_of_below (by repeat (first | exact Below.refl _ _ | refine blw_alloc ?_))

/-- what errors.errorType holds -/
def EType (w : World) : Prop := w.cell? ⟨0, 0, none⟩ = some (.iface 181 (.agg #[.pointer (some ⟨1, 28, none⟩)]))
theorem EType.plus {w w' : World} (h : EType w) (hb : Below w.heap.size w w') : EType w' := by
  have hlt : 0 < w.heap.size := World.block_lt_of_cell? w _ h
  unfold EType; rw [hb.cell (p := ⟨0, 0, none⟩) hlt]; exact h

theorem tell_nil (w : World) : Calls Tryd.prog 37 #[.nilIface] w fun e w' => e = .returned (.int .i64 0) ∧ w = w' := by
  go_enter Tryd.func37, Tryd.ntmps37
  go_wp2
  go_ret
  exact ⟨rfl, rfl⟩
set_option maxHeartbeats 1000000 in
theorem tell_errno (n : Int) (w : World) (hg : EType w) : Calls Tryd.prog 37 #[.iface 24 (.int .i64 n)] w fun e w' => e = .returned (.int .i64 n) ∧ Below w.heap.size w w' := by
  have hlt : 0 < w.heap.size := World.block_lt_of_cell? w _ hg
  haveI : SzGe (0 + 1) w := ⟨hlt⟩
  go_enter Tryd.func37, Tryd.ntmps37
  go_wp2_with fail
  refine (as_hit n w.heap.size (.int .i64 0) _ ?_ ?_ ?_).mono ?_
  · rw [alloc_cell]; exact hg
  · simp [go_sem]
  · simp [go_sem]
  rintro e w' ⟨rfl, x, rfl⟩
  go_wp2
  go_ret
  exact ⟨rfl, by repeat (first | exact Below.refl _ _ | refine blw_alloc ?_ | refine blw_plus ?_)⟩

set_option maxHeartbeats 1000000 in
theorem noAt (n : Int) (xT : TypeId) (w : World) : (Instr.typeAssert (.iface 24 (.int .i64 n)) xT 157 true).run Tryd.prog w = .ok (.tuple #[.pointer none, .bool false]) w := by kernel_rfl
theorem noUnwrap (v : Value) (xT : TypeId) (w : World) : (Instr.typeAssert (.iface 24 v) xT 159 true).run Tryd.prog w = .ok (.tuple #[.nilIface, .bool false]) w :=
  run_typeAssert_lacksB Tryd.underlying159 (by kernel_rfl) (by kernel_rfl) v xT w
theorem bare_nil (w : World) : Calls Tryd.prog 55 #[.nilIface] w fun e w' => e = .returned (.tuple #[.int .i64 0, .bool true]) ∧ w = w' := by
  go_enter Tryd.func55, Tryd.ntmps55
  go_wp2_with (go_at_call 37; refine (tell_nil _).mono ?_; rintro e w' ⟨rfl, rfl⟩)
  refine wp_loop_rounds 1 ?_
  rw [rounds_succ]
  go_wp2
  go_ret2
  exact ⟨rfl, rfl⟩
set_option maxRecDepth 100000 in
set_option maxHeartbeats 1000000 in
theorem bare_errno (n : Int) (w : World) (hg : EType w) : Calls Tryd.prog 55 #[.iface 24 (.int .i64 n)] w fun e w' => e = .returned (.tuple #[.int .i64 n, .bool true]) ∧ Below w.heap.size w w' := by
  have nA := noAt
  have nU := noUnwrap
  go_enter Tryd.func55, Tryd.ntmps55
  go_wp2_with fail
  refine (tell_errno n _ hg).mono ?_
  rintro e w' ⟨rfl, hb⟩; obtain ⟨x, rfl⟩ := wplus_of_below hb; clear hb
  go_wp2_with fail
  refine wp_loop_rounds 1 ?_
  rw [rounds_succ]
  go_wp2
  go_ret2
  exact ⟨rfl, by repeat (first | exact Below.refl _ _ | refine blw_alloc ?_ | refine blw_plus ?_)⟩
end Go.Proofs.YtbopfhbeegkkaaaDoor

namespace Go.Proofs.YtbopfhbeegkkaaaDoor
open Go.RowKit
theorem in_yes (n lo hi : Int) (w : World) (h1 : lo ≤ n) (h2 : n ≤ hi) :
    Calls Tryd.prog 54 #[.int .i64 n, .int .i64 lo, .int .i64 hi] w fun e w' => e = .returned (.bool true) ∧ w = w' := by
  go_enter Tryd.func54, Tryd.ntmps54
  go_wp2
  go_ret
  exact ⟨by simp, rfl⟩
theorem in_no (n lo hi : Int) (w : World) (h : n < lo ∨ hi < n) :
    Calls Tryd.prog 54 #[.int .i64 n, .int .i64 lo, .int .i64 hi] w fun e w' => e = .returned (.bool false) ∧ w = w' := by
  by_cases h1 : n < lo
  · clear h
    go_enter Tryd.func54, Tryd.ntmps54
    go_wp2
    go_ret
    exact ⟨by simp, rfl⟩
  · have h2 : hi < n := by omega
    clear h
    go_enter Tryd.func54, Tryd.ntmps54
    go_wp2
    go_ret
    exact ⟨by simp; omega, rfl⟩

set_option maxHeartbeats 800000 in
theorem rRightS_any (aw ac : Int) (w : World) : Calls Tryd.prog 14 #[.agg #[.int .i64 aw, .int .i64 ac]] w fun e w' => e = .returned (.bool (rightS aw ac)) ∧ Below w.heap.size w w' := by
  by_cases ha : aw < 0
  · have e1 : rightS aw ac = false := by simp [rightS]; omega
    rw [e1]
    clear e1
    go_enter Tryd.func14, Tryd.ntmps14
    go_wp2_with ((go_at_call 54; first | (with_reducible refine (in_yes _ _ _ _ (by omega) (by omega)).mono ?_) | (with_reducible refine (in_no _ _ _ _ (by omega)).mono ?_)); (rintro e w' ⟨rfl, rfl⟩))
    go_ret
    exact ⟨by first | rfl | (simp; omega), (by repeat (first | exact Below.refl _ _ | refine blw_alloc ?_ | refine blw_plus ?_ | refine Below.drew ?_))⟩
  by_cases hb : 1099511627776 < aw
  · have e1 : rightS aw ac = false := by simp [rightS]; omega
    rw [e1]
    clear e1
    go_enter Tryd.func14, Tryd.ntmps14
    go_wp2_with ((go_at_call 54; first | (with_reducible refine (in_yes _ _ _ _ (by omega) (by omega)).mono ?_) | (with_reducible refine (in_no _ _ _ _ (by omega)).mono ?_)); (rintro e w' ⟨rfl, rfl⟩))
    go_ret
    exact ⟨by first | rfl | (simp; omega), (by repeat (first | exact Below.refl _ _ | refine blw_alloc ?_ | refine blw_plus ?_ | refine Below.drew ?_))⟩
  by_cases hc : ac < 0
  · have e1 : rightS aw ac = false := by simp [rightS]; omega
    rw [e1]
    clear e1
    go_enter Tryd.func14, Tryd.ntmps14
    go_wp2_with ((go_at_call 54; first | (with_reducible refine (in_yes _ _ _ _ (by omega) (by omega)).mono ?_) | (with_reducible refine (in_no _ _ _ _ (by omega)).mono ?_)); (rintro e w' ⟨rfl, rfl⟩))
    go_ret
    exact ⟨by first | rfl | (simp; omega), (by repeat (first | exact Below.refl _ _ | refine blw_alloc ?_ | refine blw_plus ?_ | refine Below.drew ?_))⟩
  by_cases hd : 1099511627776 < ac
  · have e1 : rightS aw ac = false := by simp [rightS]; omega
    rw [e1]
    clear e1
    go_enter Tryd.func14, Tryd.ntmps14
    go_wp2_with ((go_at_call 54; first | (with_reducible refine (in_yes _ _ _ _ (by omega) (by omega)).mono ?_) | (with_reducible refine (in_no _ _ _ _ (by omega)).mono ?_)); (rintro e w' ⟨rfl, rfl⟩))
    go_ret
    exact ⟨by first | rfl | (simp; omega), (by repeat (first | exact Below.refl _ _ | refine blw_alloc ?_ | refine blw_plus ?_ | refine Below.drew ?_))⟩
  have e1 : rightS aw ac = true := by simp [rightS]; omega
  rw [e1]
  clear e1
  go_enter Tryd.func14, Tryd.ntmps14
  go_wp2_with ((go_at_call 54; first | (with_reducible refine (in_yes _ _ _ _ (by omega) (by omega)).mono ?_) | (with_reducible refine (in_no _ _ _ _ (by omega)).mono ?_)); (rintro e w' ⟨rfl, rfl⟩))
  go_ret
  exact ⟨by first | rfl | (simp; omega), (by repeat (first | exact Below.refl _ _ | refine blw_alloc ?_ | refine blw_plus ?_ | refine Below.drew ?_))⟩

set_option maxHeartbeats 800000 in
theorem rCompare_any (aw ac bw bc : Int) (w : World) : Calls Tryd.prog 11 #[.agg #[.int .i64 aw, .int .i64 ac], .agg #[.int .i64 bw, .int .i64 bc]] w fun e w' => e = .returned (.int .i64 (cmpS aw ac bw bc)) ∧ Below w.heap.size w w' := by
  by_cases h0 : cmpS aw ac bw bc = 0
  · rw [h0]
    obtain ⟨rfl, rfl⟩ := (cmpS_zero_iff aw ac bw bc).1 h0
    clear h0
    go_enter Tryd.func11, Tryd.ntmps11
    go_wp2
    go_ret
    exact ⟨rfl, (by repeat (first | exact Below.refl _ _ | refine blw_alloc ?_ | refine blw_plus ?_ | refine Below.drew ?_))⟩
  · have hne : (aw == bw && ac == bc) = false := by
      rw [Bool.eq_false_iff]; intro h; simp at h
      exact h0 ((cmpS_zero_iff aw ac bw bc).2 h)
    have hbd := cmpS_bd aw ac bw bc
    by_cases h1 : cmpS aw ac bw bc < 0
    · have e1 : cmpS aw ac bw bc = -1 := by omega
      rw [e1]
      have hc := (cmpS_neg_iff aw ac bw bc).1 h1
      clear h0 h1 e1 hbd
      by_cases hl : aw < bw
      · go_enter Tryd.func11, Tryd.ntmps11
        go_wp2
        go_ret
        exact ⟨rfl, (by repeat (first | exact Below.refl _ _ | refine blw_alloc ?_ | refine blw_plus ?_ | refine Below.drew ?_))⟩
      · have hb1 : (aw == bw) = true := by simp; omega
        have hb2 : ac < bc := by omega
        have hd : decide (ac < bc) = true := by simp; omega
        clear hc
        go_enter Tryd.func11, Tryd.ntmps11
        go_wp2
        go_ret
        exact ⟨rfl, (by repeat (first | exact Below.refl _ _ | refine blw_alloc ?_ | refine blw_plus ?_ | refine Below.drew ?_))⟩
    · have e1 : cmpS aw ac bw bc = 1 := by omega
      rw [e1]
      have hc := (cmpS_pos_iff aw ac bw bc).1 (by omega)
      clear h0 h1 e1 hbd
      by_cases hl : bw < aw
      · have hb1 : (aw == bw) = false := by simp; omega
        have hb2 : ¬ aw < bw := by omega
        have hd : decide (aw < bw) = false := by simp; omega
        clear hc
        go_enter Tryd.func11, Tryd.ntmps11
        go_wp2
        go_ret
        exact ⟨rfl, (by repeat (first | exact Below.refl _ _ | refine blw_alloc ?_ | refine blw_plus ?_ | refine Below.drew ?_))⟩
      · have hb0 : aw = bw := by omega
        subst hb0
        have hb2 : ¬ ac < bc := by omega
        have hd : decide (ac < bc) = false := by simp; omega
        have hn2 : (ac == bc) = false := by simp; omega
        clear hc hne
        go_enter Tryd.func11, Tryd.ntmps11
        go_wp2
        go_ret
        exact ⟨rfl, (by repeat (first | exact Below.refl _ _ | refine blw_alloc ?_ | refine blw_plus ?_ | refine Below.drew ?_))⟩

set_option maxHeartbeats 800000 in
theorem rnext_r1 (aw ac now : Int) (w : World) (hr : rightS aw ac = false) :
    Calls Tryd.prog 9 #[.agg #[.int .i64 aw, .int .i64 ac], .int .i64 now] w fun e w' => e = .returned (.tuple #[.agg #[.int .i64 0, .int .i64 0], .int .i64 2]) ∧ Below w.heap.size w w' := by
  go_enter Tryd.func9, Tryd.ntmps9
  go_wp2_with (first | (go_at_call 14; with_reducible refine (rRightS_any _ _ _).mono ?_; (rintro e w' ⟨rfl, hb⟩; obtain ⟨x, rfl⟩ := wplus_of_below hb; clear hb)) | ((go_at_call 54; first | (with_reducible refine (in_yes _ _ _ _ (by omega) (by omega)).mono ?_) | (with_reducible refine (in_no _ _ _ _ (by omega)).mono ?_)); (rintro e w' ⟨rfl, rfl⟩)))
  exact bodyPost_ret (v := .tuple #[.agg #[.int .i64 0, .int .i64 0], .int .i64 2]) (by simp [results, Tryd.results9, go_sem]) rfl ⟨rfl, (by repeat (first | exact Below.refl _ _ | refine blw_alloc ?_ | refine blw_plus ?_ | refine Below.drew ?_))⟩

set_option maxHeartbeats 800000 in
theorem rnext_r2 (aw ac now : Int) (w : World) (hr : rightS aw ac = true) (h : now < 0) :
    Calls Tryd.prog 9 #[.agg #[.int .i64 aw, .int .i64 ac], .int .i64 now] w fun e w' => e = .returned (.tuple #[.agg #[.int .i64 0, .int .i64 0], .int .i64 2]) ∧ Below w.heap.size w w' := by
  go_enter Tryd.func9, Tryd.ntmps9
  go_wp2_with (first | (go_at_call 14; with_reducible refine (rRightS_any _ _ _).mono ?_; (rintro e w' ⟨rfl, hb⟩; obtain ⟨x, rfl⟩ := wplus_of_below hb; clear hb)) | ((go_at_call 54; first | (with_reducible refine (in_yes _ _ _ _ (by omega) (by omega)).mono ?_) | (with_reducible refine (in_no _ _ _ _ (by omega)).mono ?_)); (rintro e w' ⟨rfl, rfl⟩)))
  exact bodyPost_ret (v := .tuple #[.agg #[.int .i64 0, .int .i64 0], .int .i64 2]) (by simp [results, Tryd.results9, go_sem]) rfl ⟨rfl, (by repeat (first | exact Below.refl _ _ | refine blw_alloc ?_ | refine blw_plus ?_ | refine Below.drew ?_))⟩

set_option maxHeartbeats 800000 in
theorem rnext_r3 (aw ac now : Int) (w : World) (hr : rightS aw ac = true) (h0 : 0 ≤ now) (h : 1099511627776 < now) :
    Calls Tryd.prog 9 #[.agg #[.int .i64 aw, .int .i64 ac], .int .i64 now] w fun e w' => e = .returned (.tuple #[.agg #[.int .i64 0, .int .i64 0], .int .i64 2]) ∧ Below w.heap.size w w' := by
  go_enter Tryd.func9, Tryd.ntmps9
  go_wp2_with (first | (go_at_call 14; with_reducible refine (rRightS_any _ _ _).mono ?_; (rintro e w' ⟨rfl, hb⟩; obtain ⟨x, rfl⟩ := wplus_of_below hb; clear hb)) | ((go_at_call 54; first | (with_reducible refine (in_yes _ _ _ _ (by omega) (by omega)).mono ?_) | (with_reducible refine (in_no _ _ _ _ (by omega)).mono ?_)); (rintro e w' ⟨rfl, rfl⟩)))
  exact bodyPost_ret (v := .tuple #[.agg #[.int .i64 0, .int .i64 0], .int .i64 2]) (by simp [results, Tryd.results9, go_sem]) rfl ⟨rfl, (by repeat (first | exact Below.refl _ _ | refine blw_alloc ?_ | refine blw_plus ?_ | refine Below.drew ?_))⟩

set_option maxHeartbeats 800000 in
theorem rnext_new (aw ac now : Int) (w : World) (hr : rightS aw ac = true) (h0 : 0 ≤ now) (h1 : now ≤ 1099511627776) (h : aw < now) :
    Calls Tryd.prog 9 #[.agg #[.int .i64 aw, .int .i64 ac], .int .i64 now] w fun e w' => e = .returned (.tuple #[.agg #[.int .i64 now, .int .i64 0], .int .i64 0]) ∧ Below w.heap.size w w' := by
  go_enter Tryd.func9, Tryd.ntmps9
  go_wp2_with (first | (go_at_call 14; with_reducible refine (rRightS_any _ _ _).mono ?_; (rintro e w' ⟨rfl, hb⟩; obtain ⟨x, rfl⟩ := wplus_of_below hb; clear hb)) | ((go_at_call 54; first | (with_reducible refine (in_yes _ _ _ _ (by omega) (by omega)).mono ?_) | (with_reducible refine (in_no _ _ _ _ (by omega)).mono ?_)); (rintro e w' ⟨rfl, rfl⟩)))
  exact bodyPost_ret (v := .tuple #[.agg #[.int .i64 now, .int .i64 0], .int .i64 0]) (by simp [results, Tryd.results9, go_sem]) rfl ⟨rfl, (by repeat (first | exact Below.refl _ _ | refine blw_alloc ?_ | refine blw_plus ?_ | refine Below.drew ?_))⟩

set_option maxHeartbeats 800000 in
theorem rnext_full (aw ac now : Int) (w : World) (hr : rightS aw ac = true) (h0 : 0 ≤ now) (h1 : now ≤ 1099511627776) (h : now ≤ aw) (hf : 1099511627776 < ac + 1) (hb : 0 ≤ ac ∧ ac ≤ 1099511627776) :
    Calls Tryd.prog 9 #[.agg #[.int .i64 aw, .int .i64 ac], .int .i64 now] w fun e w' => e = .returned (.tuple #[.agg #[.int .i64 0, .int .i64 0], .int .i64 12]) ∧ Below w.heap.size w w' := by
  go_enter Tryd.func9, Tryd.ntmps9
  go_wp2_with (first | (go_at_call 14; with_reducible refine (rRightS_any _ _ _).mono ?_; (rintro e w' ⟨rfl, hb⟩; obtain ⟨x, rfl⟩ := wplus_of_below hb; clear hb)) | ((go_at_call 54; first | (with_reducible refine (in_yes _ _ _ _ (by omega) (by omega)).mono ?_) | (with_reducible refine (in_no _ _ _ _ (by omega)).mono ?_)); (rintro e w' ⟨rfl, rfl⟩)))
  exact bodyPost_ret (v := .tuple #[.agg #[.int .i64 0, .int .i64 0], .int .i64 12]) (by simp [results, Tryd.results9, go_sem]) rfl ⟨rfl, (by repeat (first | exact Below.refl _ _ | refine blw_alloc ?_ | refine blw_plus ?_ | refine Below.drew ?_))⟩

set_option maxHeartbeats 800000 in
theorem rnext_inc (aw ac now : Int) (w : World) (hr : rightS aw ac = true) (h0 : 0 ≤ now) (h1 : now ≤ 1099511627776) (h : now ≤ aw) (hf : ac + 1 ≤ 1099511627776) (hb : 0 ≤ ac ∧ ac ≤ 1099511627776) :
    Calls Tryd.prog 9 #[.agg #[.int .i64 aw, .int .i64 ac], .int .i64 now] w fun e w' => e = .returned (.tuple #[.agg #[.int .i64 aw, .int .i64 (ac + 1)], .int .i64 0]) ∧ Below w.heap.size w w' := by
  go_enter Tryd.func9, Tryd.ntmps9
  go_wp2_with (first | (go_at_call 14; with_reducible refine (rRightS_any _ _ _).mono ?_; (rintro e w' ⟨rfl, hb⟩; obtain ⟨x, rfl⟩ := wplus_of_below hb; clear hb)) | ((go_at_call 54; first | (with_reducible refine (in_yes _ _ _ _ (by omega) (by omega)).mono ?_) | (with_reducible refine (in_no _ _ _ _ (by omega)).mono ?_)); (rintro e w' ⟨rfl, rfl⟩)))
  exact bodyPost_ret (v := .tuple #[.agg #[.int .i64 aw, .int .i64 (ac + 1)], .int .i64 0]) (by simp [results, Tryd.results9, go_sem]) rfl ⟨rfl, (by repeat (first | exact Below.refl _ _ | refine blw_alloc ?_ | refine blw_plus ?_ | refine Below.drew ?_))⟩

theorem bareL_nil (w : World) : Calls Tryd.prog 12 #[.nilIface, .int .i64 0] w fun e w' => e = .returned (.bool true) ∧ Below w.heap.size w w' := by
  go_enter Tryd.func12, Tryd.ntmps12
  go_wp2_with (go_at_call 55; refine (bare_nil _).mono ?_; rintro e w' ⟨rfl, rfl⟩)
  go_ret
  exact ⟨rfl, Below.refl _ _⟩
theorem bareL_errno (n : Int) (w : World) (hg : EType w) : Calls Tryd.prog 12 #[.iface 24 (.int .i64 n), .int .i64 n] w fun e w' => e = .returned (.bool true) ∧ Below w.heap.size w w' := by
  go_enter Tryd.func12, Tryd.ntmps12
  go_wp2_with fail
  refine (bare_errno n _ hg).mono ?_
  rintro e w' ⟨rfl, hb⟩; obtain ⟨x, rfl⟩ := wplus_of_below hb; clear hb
  go_wp2
  go_ret
  exact ⟨rfl, (by repeat (first | exact Below.refl _ _ | refine blw_alloc ?_ | refine blw_plus ?_ | refine Below.drew ?_))⟩

/-- the two Nexts answer alike -/
theorem nexts (aw ac now : Int) :
    (∃ sw sc, (∀ w, Calls Tryd.prog 10 #[.agg #[.int .i64 aw, .int .i64 ac], .int .i64 now] w fun e w' => e = .returned (.tuple #[.agg #[.int .i64 sw, .int .i64 sc], .nilIface]) ∧ Below w.heap.size w w') ∧
      (∀ w, Calls Tryd.prog 9 #[.agg #[.int .i64 aw, .int .i64 ac], .int .i64 now] w fun e w' => e = .returned (.tuple #[.agg #[.int .i64 sw, .int .i64 sc], .int .i64 0]) ∧ Below w.heap.size w w')) ∨
    (∃ sw sc n, (∀ w, Calls Tryd.prog 10 #[.agg #[.int .i64 aw, .int .i64 ac], .int .i64 now] w fun e w' => e = .returned (.tuple #[.agg #[.int .i64 sw, .int .i64 sc], .iface 24 (.int .i64 n)]) ∧ Below w.heap.size w w') ∧
      (∀ w, Calls Tryd.prog 9 #[.agg #[.int .i64 aw, .int .i64 ac], .int .i64 now] w fun e w' => e = .returned (.tuple #[.agg #[.int .i64 sw, .int .i64 sc], .int .i64 n]) ∧ Below w.heap.size w w')) := by
  by_cases hr : rightS aw ac = true
  · have hb : 0 ≤ aw ∧ aw ≤ 1099511627776 ∧ 0 ≤ ac ∧ ac ≤ 1099511627776 := by simpa [rightS, and_assoc] using hr
    by_cases h0 : 0 ≤ now
    · by_cases h1 : now ≤ 1099511627776
      · by_cases h : aw < now
        · exact .inl ⟨_, _, fun w => next_new aw ac now w hr h0 h1 h, fun w => rnext_new aw ac now w hr h0 h1 h⟩
        · by_cases hf : ac = 1099511627776
          · exact .inr ⟨_, _, _, fun w => next_full aw ac now w hr h0 h1 (by omega) (by simp [hf]), fun w => rnext_full aw ac now w hr h0 h1 (by omega) (by omega) (by omega)⟩
          · exact .inl ⟨_, _, fun w => next_inc aw ac now w hr h0 h1 (by omega) (by simp [hf]) (by omega), fun w => rnext_inc aw ac now w hr h0 h1 (by omega) (by omega) (by omega)⟩
      · exact .inr ⟨_, _, _, fun w => next_r3 aw ac now w hr h0 (by omega), fun w => rnext_r3 aw ac now w hr h0 (by omega)⟩
    · exact .inr ⟨_, _, _, fun w => next_r2 aw ac now w hr (by omega), fun w => rnext_r2 aw ac now w hr (by omega)⟩
  · exact .inr ⟨_, _, _, fun w => next_r1 aw ac now w (by simpa using hr), fun w => rnext_r1 aw ac now w (by simpa using hr)⟩
end Go.Proofs.YtbopfhbeegkkaaaDoor

namespace Go.Proofs.YtbopfhbeegkkaaaDoor

/-- a number's bytes: seven bits a byte, the least ones first -/
def numB (n : Nat) : List UInt8 := if h : n < 128 then [n.toUInt8] else (n % 128 + 128).toUInt8 :: numB (n / 128)
termination_by n
decreasing_by omega
def numsB (l : List Nat) : List UInt8 := l.flatMap numB
theorem numB_lt {n : Nat} (h : n < 128) : numB n = [n.toUInt8] := by rw [numB]; simp [h]
theorem numB_ge {n : Nat} (h : ¬ n < 128) : numB n = (n % 128 + 128).toUInt8 :: numB (n / 128) := by rw [numB]; simp [h]
theorem numB_len (n : Nat) : ∀ k, n < 128 ^ k → 1 ≤ k → (numB n).length ≤ k := by
  induction n using Nat.strongRecOn with
  | _ n ih =>
    intro k hk h1
    by_cases h : n < 128
    · rw [numB_lt h]; simpa using h1
    · rw [numB_ge h]
      have hk2 : 2 ≤ k := by
        rcases k with _ | _ | k
        · omega
        · simp at hk; omega
        · omega
      obtain ⟨j, rfl⟩ : ∃ j, k = j + 1 := ⟨k - 1, by omega⟩
      have := ih (n / 128) (by omega) j (by rw [Nat.div_lt_iff_lt_mul (by decide)]; rw [Nat.pow_succ] at hk; exact hk) (by omega)
      simp; omega

/-- a number, read from a list of bytes: seven bits a byte -/
def rdGo (i n : Nat) : List UInt8 → Option (Nat × List UInt8)
  | [] => none
  | b :: bs =>
    if 5 < i ∨ 1099511627776 < n + b.toNat % 128 * 128 ^ i ∨ (b.toNat = 0 ∧ 0 < i) then none
    else if b.toNat < 128 then some (n + b.toNat % 128 * 128 ^ i, bs) else rdGo (i + 1) (n + b.toNat % 128 * 128 ^ i) bs
def rdNum (l : List UInt8) : Option (Nat × List UInt8) := rdGo 0 0 l

theorem rdGo_more {s : List UInt8} : ∀ (p : List UInt8) (i n m : Nat) (r : List UInt8), rdGo i n p = some (m, r) → rdGo i n (p ++ s) = some (m, r ++ s)
  | [], _, _, _, _, h => by simp [rdGo] at h
  | b :: p, i, n, m, r, h => by
    simp only [rdGo, List.cons_append] at h ⊢
    by_cases h1 : 5 < i ∨ 1099511627776 < n + b.toNat % 128 * 128 ^ i ∨ (b.toNat = 0 ∧ 0 < i)
    · rw [if_pos h1] at h; cases h
    · rw [if_neg h1] at h ⊢
      by_cases h2 : b.toNat < 128
      · rw [if_pos h2] at h ⊢
        simp only [Option.some.injEq, Prod.mk.injEq] at h ⊢
        exact ⟨h.1, by rw [h.2]⟩
      · rw [if_neg h2] at h ⊢
        exact rdGo_more p _ _ _ _ h
theorem rdNum_more {p s r : List UInt8} {m : Nat} (h : rdNum p = some (m, r)) : rdNum (p ++ s) = some (m, r ++ s) := rdGo_more p _ _ _ _ h

theorem rdGo_len : ∀ (p : List UInt8) (i n m : Nat) (r : List UInt8), rdGo i n p = some (m, r) → m ≤ 1099511627776 ∧ ∃ k, 1 ≤ k ∧ k ≤ p.length ∧ i + k ≤ 6 ∧ r = p.drop k
  | [], _, _, _, _, h => by simp [rdGo] at h
  | b :: p, i, n, m, r, h => by
    simp only [rdGo] at h
    by_cases h1 : 5 < i ∨ 1099511627776 < n + b.toNat % 128 * 128 ^ i ∨ (b.toNat = 0 ∧ 0 < i)
    · rw [if_pos h1] at h; cases h
    · rw [if_neg h1] at h
      by_cases h2 : b.toNat < 128
      · rw [if_pos h2] at h
        simp only [Option.some.injEq, Prod.mk.injEq] at h
        refine ⟨by omega, 1, by omega, by simp, by omega, by rw [← h.2]; rfl⟩
      · rw [if_neg h2] at h
        obtain ⟨hm, k, hk1, hk2, hk3, hk4⟩ := rdGo_len p _ _ _ _ h
        exact ⟨hm, k + 1, by omega, by simpa using hk2, by omega, by simpa using hk4⟩

theorem pow_le_of (i z : Nat) (h : z * 128 ^ i ≤ 1099511627776) (hz : i = 0 ∨ 0 < z) : i ≤ 5 := by
  rcases Nat.lt_or_ge 5 i with h5 | h5
  · exfalso
    have h6 : 128 ^ 6 ≤ 128 ^ i := Nat.pow_le_pow_right (by decide) h5
    have h7 : 1 * 128 ^ i ≤ z * 128 ^ i := Nat.mul_le_mul_right _ (by omega)
    have : (128 : Nat) ^ 6 = 4398046511104 := by decide
    omega
  · exact h5

theorem rdGo_numB (r : List UInt8) : ∀ (z i n : Nat), n + z * 128 ^ i ≤ 1099511627776 → (i = 0 ∨ 0 < z) → rdGo i n (numB z ++ r) = some (n + z * 128 ^ i, r) := by
  intro z
  induction z using Nat.strongRecOn with
  | _ z ih =>
    intro i n hn hz
    have hi := pow_le_of i z (by omega) hz
    by_cases h : z < 128
    · rw [numB_lt h]
      have hb : z.toUInt8.toNat = z := by simp; omega
      simp only [List.cons_append, List.nil_append, rdGo, hb, Nat.mod_eq_of_lt h]
      rw [if_neg (by omega), if_pos h]
    · rw [numB_ge h]
      have hb : (z % 128 + 128).toUInt8.toNat = z % 128 + 128 := by simp; omega
      have hm : (z % 128 + 128) % 128 = z % 128 := by omega
      simp only [List.cons_append, rdGo, hb, hm]
      have e : z * 128 ^ i = z % 128 * 128 ^ i + z / 128 * 128 ^ (i + 1) := by
        have h1 : z / 128 * 128 ^ (i + 1) = z / 128 * 128 * 128 ^ i := by rw [Nat.pow_succ, Nat.mul_comm (128 ^ i), Nat.mul_assoc]
        rw [h1, ← Nat.add_mul]
        congr 1; omega
      rw [if_neg (by omega), if_neg (by omega)]
      rw [ih (z / 128) (by omega) (i + 1) _ (by omega) (.inr (by omega))]
      congr 2; omega
theorem rdNum_numB (z : Nat) (r : List UInt8) (h : z ≤ 1099511627776) : rdNum (numB z ++ r) = some (z, r) := by
  have := rdGo_numB r z 0 0 (by simpa using h) (.inl rfl)
  simpa [rdNum] using this

/-- several numbers, one behind the other -/
def rdNums : Nat → List UInt8 → Option (List Nat × List UInt8)
  | 0, l => some ([], l)
  | k + 1, l => match rdNum l with
    | none => none
    | some (n, r) => match rdNums k r with
      | none => none
      | some (ns, r') => some (n :: ns, r')
theorem rdNums_more {s : List UInt8} : ∀ (k : Nat) (p r : List UInt8) (ns : List Nat), rdNums k p = some (ns, r) → rdNums k (p ++ s) = some (ns, r ++ s)
  | 0, p, r, ns, h => by simp only [rdNums, Option.some.injEq, Prod.mk.injEq] at h ⊢; exact ⟨h.1, by rw [h.2]⟩
  | k + 1, p, r, ns, h => by
    simp only [rdNums] at h ⊢
    cases h1 : rdNum p with
    | none => rw [h1] at h; cases h
    | some x =>
      obtain ⟨n, r1⟩ := x
      rw [h1] at h; simp only at h
      rw [rdNum_more h1]; simp only
      cases h2 : rdNums k r1 with
      | none => rw [h2] at h; cases h
      | some y =>
        obtain ⟨ns', r2⟩ := y
        rw [h2] at h; simp only [Option.some.injEq, Prod.mk.injEq] at h
        rw [rdNums_more k r1 r2 ns' h2]; simp only [Option.some.injEq, Prod.mk.injEq]
        exact ⟨h.1, by rw [h.2]⟩
theorem rdNums_numsB (r : List UInt8) : ∀ (zs : List Nat), (∀ z ∈ zs, z ≤ 1099511627776) → rdNums zs.length (numsB zs ++ r) = some (zs, r)
  | [], _ => rfl
  | z :: zs, h => by
    have e : numsB (z :: zs) ++ r = numB z ++ (numsB zs ++ r) := by simp [numsB]
    rw [e]
    simp only [List.length_cons, rdNums]
    rw [rdNum_numB z _ (h z (by simp))]; simp only
    rw [rdNums_numsB r zs (fun y hy => h y (by simp [hy]))]
end Go.Proofs.YtbopfhbeegkkaaaDoor

namespace Go.Proofs.YtbopfhbeegkkaaaDoor

structure WrP where
  key : Int
  data : ByteArray
  gone : Bool

structure TxP where
  site : Int
  seq : Int
  wall : Int
  count : Int
  d0 : Int
  d1 : Int
  d2 : Int
  d3 : Int
  ws : List WrP

def okN (z : Int) : Bool := decide (0 ≤ z ∧ z ≤ 1099511627776)
def badW (last : Int) (w : WrP) : Bool := decide (w.key ≤ last) || decide (8 ≤ w.key) || decide (12 < w.data.size) || (w.gone && decide (w.data.size ≠ 0))
def rwGo : Int → List WrP → Bool
  | _, [] => true
  | last, w :: ws => if badW last w = true then false else rwGo w.key ws
def rightWs (l : List WrP) : Bool := rwGo (-1) l && decide (1 ≤ l.length) && decide (l.length ≤ 5)
def depAt (t : TxP) : Int := if t.site = 0 then t.d0 else if t.site = 1 then t.d1 else if t.site = 2 then t.d2 else t.d3
def headTx (t : TxP) : Bool := decide (0 ≤ t.site ∧ t.site < 4) && decide (1 ≤ t.seq ∧ t.seq ≤ 1099511627776) && okN t.wall && okN t.count && (okN t.d0 && okN t.d1 && okN t.d2 && okN t.d3) && decide (depAt t = t.seq - 1)
def rightTx (t : TxP) : Bool := headTx t && rightWs t.ws

def goneN (b : Bool) : Nat := if b then 1 else 0
def wrB (w : WrP) : List UInt8 := numsB [w.key.toNat, goneN w.gone, w.data.size] ++ w.data.data.toList
def txB (t : TxP) : List UInt8 :=
  116 :: (numsB [t.site.toNat, t.seq.toNat, t.wall.toNat, t.count.toNat] ++ numsB [t.d0.toNat, t.d1.toNat, t.d2.toNat, t.d3.toNat] ++ numsB [t.ws.length] ++ t.ws.flatMap wrB)
def askB (s a0 a1 a2 a3 : Int) : List UInt8 := 97 :: (numsB [s.toNat] ++ numsB [a0.toNat, a1.toNat, a2.toNat, a3.toNat])

/-! the reader: what is left, and whether something was wrong -/
structure Rd where
  l : List UInt8
  bad : Bool

def numR (r : Rd) : Nat × Rd := match rdNum r.l with
  | some (n, l) => (n, ⟨l, r.bad⟩)
  | none => (0, ⟨r.l, true⟩)
def textR (r : Rd) : ByteArray × Rd :=
  if (numR r).2.l.length < (numR r).1 then (⟨#[]⟩, ⟨(numR r).2.l, true⟩)
  else (⟨((numR r).2.l.take (numR r).1).toArray⟩, ⟨(numR r).2.l.drop (numR r).1, (numR r).2.bad⟩)
def beginR (c : UInt8) (b : List UInt8) : Rd := match b with
  | [] => ⟨[], true⟩
  | x :: l => if x = c then ⟨l, false⟩ else ⟨[], true⟩
/-- one write; the last two: how many were there, and the reader behind it -/
def wrR (r : Rd) : WrP × Nat × Rd :=
  ((⟨(numR r).1, (textR (numR (numR r).2).2).1, decide ((numR (numR r).2).1 = 1)⟩ : WrP), (numR (numR r).2).1, (textR (numR (numR r).2).2).2)
def wrsR : Nat → List WrP → Rd → List WrP × Rd
  | 0, ws, r => (ws, r)
  | n + 1, ws, r => if r.bad then (ws, r) else
    wrsR n (ws ++ [(wrR r).1]) ⟨(wrR r).2.2.l, (wrR r).2.2.bad || decide (1 < (wrR r).2.1) || decide (5 ≤ ws.length)⟩
def numR4 (r : Rd) : (Nat × Nat × Nat × Nat) × Rd :=
  (((numR r).1, (numR (numR r).2).1, (numR (numR (numR r).2).2).1, (numR (numR (numR (numR r).2).2).2).1), (numR (numR (numR (numR r).2).2).2).2)
def txOf (h d : Nat × Nat × Nat × Nat) (ws : List WrP) : TxP := ⟨h.1, h.2.1, h.2.2.1, h.2.2.2, d.1, d.2.1, d.2.2.1, d.2.2.2, ws⟩
def rawTx (r : Rd) : TxP × Rd :=
  (txOf (numR4 r).1 (numR4 (numR4 r).2).1 (wrsR (numR (numR4 (numR4 r).2).2).1 [] (numR (numR4 (numR4 r).2).2).2).1, (wrsR (numR (numR4 (numR4 r).2).2).1 [] (numR (numR4 (numR4 r).2).2).2).2)
def decTx (b : List UInt8) : Option TxP :=
  if (rawTx (beginR 116 b)).2.bad || !(rawTx (beginR 116 b)).2.l.isEmpty || !rightTx (rawTx (beginR 116 b)).1 then none else some (rawTx (beginR 116 b)).1
def rawAsk (r : Rd) : (Nat × (Nat × Nat × Nat × Nat)) × Rd := (((numR r).1, (numR4 (numR r).2).1), (numR4 (numR r).2).2)
def decAsk (b : List UInt8) : Option (Nat × (Nat × Nat × Nat × Nat)) :=
  if (rawAsk (beginR 97 b)).2.bad || !(rawAsk (beginR 97 b)).2.l.isEmpty || decide (4 ≤ (rawAsk (beginR 97 b)).1.1) then none else some (rawAsk (beginR 97 b)).1

/-! forth: what is written is read -/
theorem numR_numB (z : Nat) (s : List UInt8) (b : Bool) (h : z ≤ 1099511627776) : numR ⟨numB z ++ s, b⟩ = (z, ⟨s, b⟩) := by
  unfold numR; rw [rdNum_numB z s h]
theorem numR4_numsB (x y z u : Nat) (s : List UInt8) (b : Bool) (hx : x ≤ 1099511627776) (hy : y ≤ 1099511627776) (hz : z ≤ 1099511627776) (hu : u ≤ 1099511627776) :
    numR4 ⟨numsB [x, y, z, u] ++ s, b⟩ = ((x, y, z, u), ⟨s, b⟩) := by
  have e : numsB [x, y, z, u] ++ s = numB x ++ (numB y ++ (numB z ++ (numB u ++ s))) := by simp [numsB]
  unfold numR4
  simp only [e, numR_numB x _ b hx, numR_numB y _ b hy, numR_numB z _ b hz, numR_numB u _ b hu]
theorem ba_ext {x y : ByteArray} (h : x.data = y.data) : x = y := by cases x; cases y; cases h; rfl
theorem ba_size (x : ByteArray) : x.size = x.data.toList.length := by rw [Array.length_toList]; rfl
theorem textR_B (d : ByteArray) (s : List UInt8) (b : Bool) (h : d.size ≤ 1099511627776) : textR ⟨numB d.size ++ (d.data.toList ++ s), b⟩ = (d, ⟨s, b⟩) := by
  unfold textR
  rw [numR_numB _ _ _ h]
  have hl : (d.data.toList ++ s).length = d.size + s.length := by rw [List.length_append, ba_size]
  simp only [hl]
  rw [if_neg (by omega), ba_size, List.take_left, List.drop_left]
theorem wrR_B (w : WrP) (s : List UInt8) (b : Bool) (hk : 0 ≤ w.key ∧ w.key < 8) (hd : w.data.size ≤ 12) : wrR ⟨wrB w ++ s, b⟩ = (w, goneN w.gone, ⟨s, b⟩) := by
  have e : wrB w ++ s = numB w.key.toNat ++ (numB (goneN w.gone) ++ (numB w.data.size ++ (w.data.data.toList ++ s))) := by simp [wrB, numsB]
  have hg : goneN w.gone ≤ 1099511627776 := by unfold goneN; split <;> omega
  unfold wrR
  rw [e, numR_numB w.key.toNat _ b (by omega)]
  simp only
  rw [numR_numB (goneN w.gone) _ b hg]
  simp only
  rw [textR_B w.data s b (by omega)]
  obtain ⟨k, d, g⟩ := w
  simp only at hk ⊢
  have h1 : decide (goneN g = 1) = g := by cases g <;> simp [goneN]
  rw [h1]
  have h2 : ((k.toNat : Nat) : Int) = k := by omega
  rw [h2]
theorem goneN_le (b : Bool) : goneN b ≤ 1 := by cases b <;> simp [goneN]
theorem wrsR_B (s : List UInt8) : ∀ (ws l : List WrP), (∀ w ∈ ws, (0 ≤ w.key ∧ w.key < 8) ∧ w.data.size ≤ 12) → l.length + ws.length ≤ 5 → wrsR ws.length l ⟨ws.flatMap wrB ++ s, false⟩ = (l ++ ws, ⟨s, false⟩)
  | [], l, _, _ => by simp [wrsR]
  | w :: ws, l, h, hl => by
    have hw := h w (by simp)
    have e : (w :: ws).flatMap wrB ++ s = wrB w ++ (ws.flatMap wrB ++ s) := by simp
    simp only [List.length_cons] at hl ⊢
    have hg := goneN_le w.gone
    simp only [wrsR, e, wrR_B w _ false hw.1 hw.2]
    have h5 : (false || decide (1 < goneN w.gone) || decide (5 ≤ l.length)) = false := by simp; omega
    rw [h5, wrsR_B s ws _ (fun x hx => h x (by simp [hx])) (by simp; omega)]
    simp

theorem badW_no {last : Int} {w : WrP} (h : badW last w ≠ true) : last < w.key ∧ w.key < 8 ∧ w.data.size ≤ 12 := by
  simp [badW] at h; omega
theorem rwGo_all : ∀ (ws : List WrP) (last : Int), -1 ≤ last → rwGo last ws = true → ∀ w ∈ ws, (0 ≤ w.key ∧ w.key < 8) ∧ w.data.size ≤ 12
  | [], _, _, _, w, hw => by cases hw
  | x :: ws, last, hl, h, w, hw => by
    simp only [rwGo] at h
    by_cases hb : badW last x = true
    · rw [if_pos hb] at h; cases h
    · rw [if_neg hb] at h
      have h1 := badW_no hb
      rcases List.mem_cons.1 hw with rfl | hw
      · omega
      · exact rwGo_all ws x.key (by omega) h w hw
theorem rightWs_all {l : List WrP} (h : rightWs l = true) : (∀ w ∈ l, (0 ≤ w.key ∧ w.key < 8) ∧ w.data.size ≤ 12) ∧ 1 ≤ l.length ∧ l.length ≤ 5 := by
  simp only [rightWs, Bool.and_eq_true, decide_eq_true_eq] at h
  exact ⟨rwGo_all l _ (by omega) h.1.1, h.1.2, h.2⟩
theorem headTx_all {t : TxP} (h : headTx t = true) : (0 ≤ t.site ∧ t.site < 4) ∧ (1 ≤ t.seq ∧ t.seq ≤ 1099511627776) ∧ (0 ≤ t.wall ∧ t.wall ≤ 1099511627776) ∧ (0 ≤ t.count ∧ t.count ≤ 1099511627776) ∧
    (0 ≤ t.d0 ∧ t.d0 ≤ 1099511627776) ∧ (0 ≤ t.d1 ∧ t.d1 ≤ 1099511627776) ∧ (0 ≤ t.d2 ∧ t.d2 ≤ 1099511627776) ∧ (0 ≤ t.d3 ∧ t.d3 ≤ 1099511627776) ∧ depAt t = t.seq - 1 := by
  simp only [headTx, okN, Bool.and_eq_true, decide_eq_true_eq] at h
  obtain ⟨⟨⟨⟨⟨h1, h2⟩, h3⟩, h4⟩, ⟨⟨h5, h6⟩, h7⟩, h8⟩, h9⟩ := h
  exact ⟨h1, h2, h3, h4, h5, h6, h7, h8, h9⟩
theorem rawTx_B (t : TxP) (s : List UInt8) (h : rightTx t = true) : rawTx ⟨(txB t).drop 1 ++ s, false⟩ = (t, ⟨s, false⟩) := by
  simp only [rightTx, Bool.and_eq_true] at h
  obtain ⟨hw, hl1, hl5⟩ := rightWs_all h.2
  obtain ⟨h1, h2, h3, h4, h5, h6, h7, h8, _⟩ := headTx_all h.1
  have e : (txB t).drop 1 ++ s = numsB [t.site.toNat, t.seq.toNat, t.wall.toNat, t.count.toNat] ++ (numsB [t.d0.toNat, t.d1.toNat, t.d2.toNat, t.d3.toNat] ++ (numB t.ws.length ++ (t.ws.flatMap wrB ++ s))) := by
    simp [txB, numsB]
  rw [e]
  unfold rawTx
  simp only [numR4_numsB t.site.toNat t.seq.toNat t.wall.toNat t.count.toNat _ false (by omega) (by omega) (by omega) (by omega), numR4_numsB t.d0.toNat t.d1.toNat t.d2.toNat t.d3.toNat _ false (by omega) (by omega) (by omega) (by omega),
    numR_numB t.ws.length _ false (by omega), wrsR_B s t.ws [] hw (by simpa using hl5)]
  obtain ⟨a, b, c, d, e0, e1, e2, e3, ws⟩ := t
  simp only [txOf, List.nil_append] at *
  rw [Int.toNat_of_nonneg (by omega), Int.toNat_of_nonneg (by omega), Int.toNat_of_nonneg (by omega), Int.toNat_of_nonneg (by omega), Int.toNat_of_nonneg (by omega), Int.toNat_of_nonneg (by omega), Int.toNat_of_nonneg (by omega), Int.toNat_of_nonneg (by omega)]
theorem txB_eq (t : TxP) : txB t = 116 :: (txB t).drop 1 := rfl
theorem begin_tx (t : TxP) (s : List UInt8) : beginR 116 (txB t ++ s) = ⟨(txB t).drop 1 ++ s, false⟩ := rfl
theorem decTx_B (t : TxP) (h : rightTx t = true) : decTx (txB t) = some t := by
  have e := begin_tx t []
  rw [List.append_nil] at e
  unfold decTx
  rw [e, rawTx_B t [] h]
  simp [h]

/-! back: what is read is what is written -/
theorem rdGo_back : ∀ (l : List UInt8) (i n m : Nat) (r : List UInt8), rdGo i n l = some (m, r) → ∃ z, m = n + z * 128 ^ i ∧ l = numB z ++ r ∧ (i = 0 ∨ 0 < z)
  | [], _, _, _, _, h => by simp [rdGo] at h
  | b :: l, i, n, m, r, h => by
    simp only [rdGo] at h
    by_cases h1 : 5 < i ∨ 1099511627776 < n + b.toNat % 128 * 128 ^ i ∨ (b.toNat = 0 ∧ 0 < i)
    · rw [if_pos h1] at h; cases h
    · rw [if_neg h1] at h
      by_cases h2 : b.toNat < 128
      · rw [if_pos h2] at h
        simp only [Option.some.injEq, Prod.mk.injEq] at h
        refine ⟨b.toNat, ?_, ?_, ?_⟩
        · rw [← h.1, Nat.mod_eq_of_lt h2]
        · rw [numB_lt h2, h.2]; simp
        · omega
      · rw [if_neg h2] at h
        obtain ⟨z, hm, hl, hz⟩ := rdGo_back l _ _ _ _ h
        have hz : 0 < z := by omega
        have hb := b.toNat_lt
        refine ⟨b.toNat % 128 + 128 * z, ?_, ?_, .inr (by omega)⟩
        · rw [hm, Nat.pow_succ, Nat.add_mul]
          have : 128 * z * 128 ^ i = z * (128 ^ i * 128) := by rw [Nat.mul_comm (128 ^ i) 128, ← Nat.mul_assoc, Nat.mul_comm 128 z]
          omega
        · rw [numB_ge (by omega)]
          have e1 : (b.toNat % 128 + 128 * z) / 128 = z := by omega
          have e2 : ((b.toNat % 128 + 128 * z) % 128 + 128).toUInt8 = b := by
            apply UInt8.toNat_inj.1
            simp; omega
          rw [e1, e2, hl]; rfl
theorem rdNum_back {l r : List UInt8} {m : Nat} (h : rdNum l = some (m, r)) : l = numB m ++ r ∧ m ≤ 1099511627776 := by
  obtain ⟨z, hm, hl, _⟩ := rdGo_back _ _ _ _ _ h
  obtain ⟨h2, _⟩ := rdGo_len _ _ _ _ _ h
  refine ⟨?_, h2⟩
  have : m = z := by simpa using hm
  rw [this]; exact hl
theorem numR_back {r : Rd} (h : (numR r).2.bad = false) : r.bad = false ∧ r.l = numB (numR r).1 ++ (numR r).2.l ∧ (numR r).1 ≤ 1099511627776 := by
  unfold numR at h ⊢
  cases e : rdNum r.l with
  | none => rw [e] at h; cases h
  | some x =>
    obtain ⟨n, l⟩ := x
    rw [e] at h
    have := rdNum_back e
    exact ⟨h, this⟩
theorem numR4_back {r : Rd} (h : (numR4 r).2.bad = false) : r.bad = false ∧ r.l = numsB [(numR4 r).1.1, (numR4 r).1.2.1, (numR4 r).1.2.2.1, (numR4 r).1.2.2.2] ++ (numR4 r).2.l ∧
    (numR4 r).1.1 ≤ 1099511627776 ∧ (numR4 r).1.2.1 ≤ 1099511627776 ∧ (numR4 r).1.2.2.1 ≤ 1099511627776 ∧ (numR4 r).1.2.2.2 ≤ 1099511627776 := by
  unfold numR4 at h ⊢
  simp only at h ⊢
  obtain ⟨h4, l4, m4⟩ := numR_back h
  obtain ⟨h3, l3, m3⟩ := numR_back h4
  obtain ⟨h2, l2, m2⟩ := numR_back h3
  obtain ⟨h1, l1, m1⟩ := numR_back h2
  refine ⟨h1, ?_, m1, m2, m3, m4⟩
  rw [l1, l2, l3, l4]; simp [numsB]
theorem textR_back {r : Rd} (h : (textR r).2.bad = false) : r.bad = false ∧ r.l = numB (textR r).1.size ++ ((textR r).1.data.toList ++ (textR r).2.l) := by
  unfold textR at h ⊢
  by_cases hl : (numR r).2.l.length < (numR r).1
  · rw [if_pos hl] at h; cases h
  · rw [if_neg hl] at h ⊢
    simp only at h ⊢
    obtain ⟨h1, l1, _⟩ := numR_back h
    refine ⟨h1, ?_⟩
    rw [ba_size]
    simp only [List.take_append_drop, List.length_take, Nat.min_eq_left (Nat.not_lt.1 hl)]
    exact l1
theorem wrR_back {r : Rd} (h : (wrR r).2.2.bad = false) (hg : (wrR r).2.1 ≤ 1) : r.bad = false ∧ r.l = wrB (wrR r).1 ++ (wrR r).2.2.l := by
  unfold wrR at h hg ⊢
  simp only at h hg ⊢
  obtain ⟨h3, l3⟩ := textR_back h
  obtain ⟨h2, l2, _⟩ := numR_back h3
  obtain ⟨h1, l1, _⟩ := numR_back h2
  refine ⟨h1, ?_⟩
  rw [l1, l2, l3]
  have e : goneN (decide ((numR (numR r).2).1 = 1)) = (numR (numR r).2).1 := by
    have : (numR (numR r).2).1 = 0 ∨ (numR (numR r).2).1 = 1 := by omega
    rcases this with e | e <;> rw [e] <;> rfl
  simp only [wrB, numsB, List.flatMap_cons, List.flatMap_nil, e, Int.toNat_natCast, List.append_nil, List.append_assoc]
theorem wrsR_back : ∀ (n : Nat) (l : List WrP) (r : Rd), (wrsR n l r).2.bad = false → r.bad = false ∧ ∃ ws, (wrsR n l r).1 = l ++ ws ∧ ws.length = n ∧ r.l = ws.flatMap wrB ++ (wrsR n l r).2.l
  | 0, l, r, h => ⟨h, [], by simp [wrsR], rfl, by simp [wrsR]⟩
  | n + 1, l, r, h => by
    simp only [wrsR] at h ⊢
    cases hb : r.bad with
    | true => rw [hb, if_pos rfl] at h; rw [hb] at h; cases h
    | false =>
      rw [hb, if_neg (by simp)] at h
      rw [if_neg (by simp)]
      obtain ⟨h1, ws, e1, e2, e3⟩ := wrsR_back n _ _ h
      simp only [Bool.or_eq_false_iff, decide_eq_false_iff_not] at h1
      obtain ⟨_, l1⟩ := wrR_back h1.1.1 (by omega)
      refine ⟨rfl, (wrR r).1 :: ws, ?_, by simp [e2], ?_⟩
      · rw [e1]; simp
      · simp only at e3
        rw [l1, List.flatMap_cons, List.append_assoc]
        exact congrArg _ e3
theorem begin_back {c : UInt8} {b : List UInt8} (h : (beginR c b).bad = false) : b = c :: (beginR c b).l := by
  unfold beginR at h ⊢
  cases b with
  | nil => cases h
  | cons x l =>
    simp only at h ⊢
    by_cases e : x = c
    · rw [if_pos e, e]
    · rw [if_neg e] at h; cases h
theorem decTx_back {p : List UInt8} {t : TxP} (h : decTx p = some t) : rightTx t = true ∧ txB t = p := by
  unfold decTx at h
  split at h
  · cases h
  · rename_i hc
    simp only [Bool.or_eq_true, not_or, Bool.not_eq_true, Bool.not_eq_true', Bool.not_eq_false] at hc
    obtain ⟨⟨hb, hl⟩, hr⟩ := hc
    simp only [Option.some.injEq] at h
    rw [h] at hr
    refine ⟨by simpa using hr, ?_⟩
    have hl : (rawTx (beginR 116 p)).2.l = [] := by simpa using hl
    generalize hr0 : beginR 116 p = r at *
    have hb' := hb
    unfold rawTx at hb' h hl
    simp only at hb' h hl
    obtain ⟨h3, ws, e1, e2, e3⟩ := wrsR_back _ _ _ hb'
    obtain ⟨h2, l2, _⟩ := numR_back h3
    obtain ⟨h1, l1, _⟩ := numR4_back h2
    obtain ⟨h0, l0, _⟩ := numR4_back h1
    have hp := begin_back (c := 116) (b := p) (by rw [hr0]; exact h0)
    rw [hr0] at hp
    rw [hp, l0, l1, l2, e3, hl, ← h]
    simp only [e1, List.nil_append, txB, txOf, Int.toNat_natCast, e2, List.append_assoc, List.append_nil]
    simp [numsB]
/-- no beginning of a transaction's bytes is one -/
theorem decTx_short (t : TxP) (h : rightTx t = true) (k : Nat) (hk : k < (txB t).length) : decTx ((txB t).take k) = none := by
  cases e : decTx ((txB t).take k) with
  | none => rfl
  | some t' =>
    exfalso
    obtain ⟨hr, hp⟩ := decTx_back e
    have h1 : txB t = txB t' ++ (txB t).drop k := by rw [hp, List.take_append_drop]
    have h2 := rawTx_B t' ((txB t).drop k) hr
    have h3 := rawTx_B t [] h
    rw [List.append_nil] at h3
    have h4 : (txB t).drop 1 = (txB t').drop 1 ++ (txB t).drop k := by
      have := congrArg (List.drop 1) h1
      rw [this, List.drop_append_of_le_length (by rw [txB_eq]; simp)]
    rw [h4] at h3
    rw [h3] at h2
    have := congrArg (fun x => x.2.l.length) h2
    simp at this
    omega
theorem ask_no_tx (t : TxP) : decAsk (txB t) = none := by
  have e : beginR 97 (txB t) = ⟨[], true⟩ := rfl
  have : (rawAsk (beginR 97 (txB t))).2.bad = true := by
    cases hb : (rawAsk (beginR 97 (txB t))).2.bad with
    | true => rfl
    | false =>
      exfalso
      unfold rawAsk at hb
      obtain ⟨h1, _⟩ := numR4_back hb
      obtain ⟨h0, _⟩ := numR_back h1
      rw [e] at h0; cases h0
  unfold decAsk
  simp [this]
theorem tx_no_ask (s a0 a1 a2 a3 : Int) : decTx (askB s a0 a1 a2 a3) = none := by
  cases e : decTx (askB s a0 a1 a2 a3) with
  | none => rfl
  | some t => have := (decTx_back e).2; simp [txB, askB] at this
def okAsk (s a0 a1 a2 a3 : Int) : Bool := decide (0 ≤ s ∧ s < 4) && (okN a0 && okN a1 && okN a2 && okN a3)
theorem okAsk_all {s a0 a1 a2 a3 : Int} (h : okAsk s a0 a1 a2 a3 = true) : (0 ≤ s ∧ s < 4) ∧ (0 ≤ a0 ∧ a0 ≤ 1099511627776) ∧ (0 ≤ a1 ∧ a1 ≤ 1099511627776) ∧ (0 ≤ a2 ∧ a2 ≤ 1099511627776) ∧ (0 ≤ a3 ∧ a3 ≤ 1099511627776) := by
  simp only [okAsk, okN, Bool.and_eq_true, decide_eq_true_eq] at h
  obtain ⟨h1, ⟨⟨h2, h3⟩, h4⟩, h5⟩ := h
  exact ⟨h1, h2, h3, h4, h5⟩
theorem rawAsk_B (s a0 a1 a2 a3 : Int) (l : List UInt8) (h : okAsk s a0 a1 a2 a3 = true) : rawAsk ⟨(askB s a0 a1 a2 a3).drop 1 ++ l, false⟩ = ((s.toNat, a0.toNat, a1.toNat, a2.toNat, a3.toNat), ⟨l, false⟩) := by
  obtain ⟨h1, h2, h3, h4, h5⟩ := okAsk_all h
  have e : (askB s a0 a1 a2 a3).drop 1 ++ l = numB s.toNat ++ (numsB [a0.toNat, a1.toNat, a2.toNat, a3.toNat] ++ l) := by simp [askB, numsB]
  unfold rawAsk
  simp only [e, numR_numB s.toNat _ false (by omega), numR4_numsB a0.toNat a1.toNat a2.toNat a3.toNat _ false (by omega) (by omega) (by omega) (by omega)]
theorem begin_ask (s a0 a1 a2 a3 : Int) (l : List UInt8) : beginR 97 (askB s a0 a1 a2 a3 ++ l) = ⟨(askB s a0 a1 a2 a3).drop 1 ++ l, false⟩ := rfl
theorem decAsk_B (s a0 a1 a2 a3 : Int) (h : okAsk s a0 a1 a2 a3 = true) : decAsk (askB s a0 a1 a2 a3) = some (s.toNat, a0.toNat, a1.toNat, a2.toNat, a3.toNat) := by
  have e := begin_ask s a0 a1 a2 a3 []
  rw [List.append_nil] at e
  obtain ⟨h1, _⟩ := okAsk_all h
  unfold decAsk
  rw [e, rawAsk_B _ _ _ _ _ _ h]
  simp; omega
theorem decAsk_back {p : List UInt8} {s a0 a1 a2 a3 : Nat} (h : decAsk p = some (s, a0, a1, a2, a3)) : okAsk s a0 a1 a2 a3 = true ∧ askB s a0 a1 a2 a3 = p := by
  unfold decAsk at h
  split at h
  · cases h
  · rename_i hc
    simp only [Bool.or_eq_true, not_or, Bool.not_eq_true, Bool.not_eq_true', Bool.not_eq_false, decide_eq_true_eq] at hc
    obtain ⟨⟨hb, hl⟩, hs⟩ := hc
    simp only [Option.some.injEq] at h
    have hl : (rawAsk (beginR 97 p)).2.l = [] := by simpa using hl
    rw [h] at hs
    generalize hr0 : beginR 97 p = r at *
    have hb' := hb
    unfold rawAsk at hb' h hl
    simp only [Prod.mk.injEq] at hb' h hl
    obtain ⟨h1, l1, m0, m1, m2, m3⟩ := numR4_back hb'
    obtain ⟨h0, l0, m⟩ := numR_back h1
    have hp := begin_back (c := 97) (b := p) (by rw [hr0]; exact h0)
    rw [hr0] at hp
    obtain ⟨e0, e1⟩ := h
    rw [e1] at m0 m1 m2 m3 l1
    rw [e0] at m l0
    simp only at m0 m1 m2 m3 l1 hs
    refine ⟨by simp [okAsk, okN]; omega, ?_⟩
    rw [hp, l0, l1, hl]
    simp only [askB, Int.toNat_natCast]
    simp [numsB]
theorem decAsk_short (s a0 a1 a2 a3 : Int) (h : okAsk s a0 a1 a2 a3 = true) (k : Nat) (hk : k < (askB s a0 a1 a2 a3).length) : decAsk ((askB s a0 a1 a2 a3).take k) = none := by
  cases e : decAsk ((askB s a0 a1 a2 a3).take k) with
  | none => rfl
  | some t' =>
    exfalso
    obtain ⟨s', b0, b1, b2, b3⟩ := t'
    obtain ⟨hr, hp⟩ := decAsk_back e
    have h1 : askB s a0 a1 a2 a3 = askB s' b0 b1 b2 b3 ++ (askB s a0 a1 a2 a3).drop k := by rw [hp, List.take_append_drop]
    have h2 := rawAsk_B _ _ _ _ _ ((askB s a0 a1 a2 a3).drop k) hr
    have h3 := rawAsk_B _ _ _ _ _ [] h
    rw [List.append_nil] at h3
    have h4 : (askB s a0 a1 a2 a3).drop 1 = (askB s' b0 b1 b2 b3).drop 1 ++ (askB s a0 a1 a2 a3).drop k := by
      have := congrArg (List.drop 1) h1
      rw [this, List.drop_append_of_le_length (by simp [askB])]
    rw [h4] at h3
    rw [h3] at h2
    have := congrArg (fun x => x.2.l.length) h2
    simp at this
    omega
end Go.Proofs.YtbopfhbeegkkaaaDoor

namespace Go.Proofs.YtbopfhbeegkkaaaDoor
open Go.RowKit

structure VerP where
  w : Int
  c : Int
  site : Int
  seq : Int
  data : ByteArray
  gone : Bool
def verCells (v : VerP) : List Value := [.int .i64 v.w, .int .i64 v.c, .int .i64 v.site, .int .i64 v.seq, .string v.data, .bool v.gone]
def verV (v : VerP) : Value := .agg #[.int .i64 v.w, .int .i64 v.c, .int .i64 v.site, .int .i64 v.seq, .string v.data, .bool v.gone]
def rightV (v : VerP) : Bool := rightS v.w v.c && decide (0 ≤ v.site) && decide (v.site < 4) && decide (1 ≤ v.seq) && decide (v.seq ≤ 1099511627776) && decide (v.data.size ≤ 12) && (!v.gone || decide (v.data.size = 0))
def cmpV (a b : VerP) : Int := if cmpS a.w a.c b.w b.c ≠ 0 then cmpS a.w a.c b.w b.c else a.site - b.site
theorem rightS_isD {aw ac : Int} {b : Bool} (h : rightS aw ac = b) (w : World) : Calls Tryd.prog 13 #[.agg #[.int .i64 aw, .int .i64 ac]] w fun e w' => e = .returned (.bool b) ∧ Below w.heap.size w w' := by
  subst h; exact rightS_any aw ac w

set_option maxHeartbeats 2000000 in
theorem rightV_any (v : VerP) (w : World) : Calls Tryd.prog 67 #[verV v] w fun e w' => e = .returned (.bool (rightV v)) ∧ Below w.heap.size w w' := by
  unfold verV
  rcases h0 : rightS v.w v.c with _ | _
  · have HS := hidp fun w => rightS_isD h0 w
    have HF : Hid (rightV v = false) := hidp (by simp [rightV, h0])
    clear h0
    go_enter Tryd.func67, Tryd.ntmps67
    go_wp2_with (go_at_call 13; refine (HS.out _).mono ?_; rintro e w' ⟨rfl, hb⟩; obtain ⟨x, rfl⟩ := wplus_of_below hb; clear hb)
    go_ret
    exact ⟨by rw [HF.out]; rfl, (by repeat (first | exact Below.refl _ _ | refine blw_alloc ?_ | refine blw_plus ?_ | refine Below.drew ?_))⟩
  have HS := hidp fun w => rightS_isD h0 w
  by_cases h1 : v.site < 0
  · have HF : Hid (rightV v = false) := hidp (by simp [rightV]; omega)
    clear h0
    go_enter Tryd.func67, Tryd.ntmps67
    go_wp2_with (go_at_call 13; refine (HS.out _).mono ?_; rintro e w' ⟨rfl, hb⟩; obtain ⟨x, rfl⟩ := wplus_of_below hb; clear hb)
    go_ret
    exact ⟨by rw [HF.out]; rfl, (by repeat (first | exact Below.refl _ _ | refine blw_alloc ?_ | refine blw_plus ?_ | refine Below.drew ?_))⟩
  by_cases h2 : 4 ≤ v.site
  · have HF : Hid (rightV v = false) := hidp (by simp [rightV]; omega)
    clear h0
    go_enter Tryd.func67, Tryd.ntmps67
    go_wp2_with (go_at_call 13; refine (HS.out _).mono ?_; rintro e w' ⟨rfl, hb⟩; obtain ⟨x, rfl⟩ := wplus_of_below hb; clear hb)
    go_ret
    exact ⟨by rw [HF.out]; rfl, (by repeat (first | exact Below.refl _ _ | refine blw_alloc ?_ | refine blw_plus ?_ | refine Below.drew ?_))⟩
  by_cases h3 : v.seq < 1
  · have HF : Hid (rightV v = false) := hidp (by simp [rightV]; omega)
    clear h0
    go_enter Tryd.func67, Tryd.ntmps67
    go_wp2_with (go_at_call 13; refine (HS.out _).mono ?_; rintro e w' ⟨rfl, hb⟩; obtain ⟨x, rfl⟩ := wplus_of_below hb; clear hb)
    go_ret
    exact ⟨by rw [HF.out]; rfl, (by repeat (first | exact Below.refl _ _ | refine blw_alloc ?_ | refine blw_plus ?_ | refine Below.drew ?_))⟩
  by_cases h4 : 1099511627776 < v.seq
  · have HF : Hid (rightV v = false) := hidp (by simp [rightV]; omega)
    clear h0
    go_enter Tryd.func67, Tryd.ntmps67
    go_wp2_with (go_at_call 13; refine (HS.out _).mono ?_; rintro e w' ⟨rfl, hb⟩; obtain ⟨x, rfl⟩ := wplus_of_below hb; clear hb)
    go_ret
    exact ⟨by rw [HF.out]; rfl, (by repeat (first | exact Below.refl _ _ | refine blw_alloc ?_ | refine blw_plus ?_ | refine Below.drew ?_))⟩
  by_cases h5 : 12 < v.data.size
  · have HF : Hid (rightV v = false) := hidp (by simp [rightV]; omega)
    clear h0
    go_enter Tryd.func67, Tryd.ntmps67
    go_wp2_with (go_at_call 13; refine (HS.out _).mono ?_; rintro e w' ⟨rfl, hb⟩; obtain ⟨x, rfl⟩ := wplus_of_below hb; clear hb)
    go_ret
    exact ⟨by rw [HF.out]; rfl, (by repeat (first | exact Below.refl _ _ | refine blw_alloc ?_ | refine blw_plus ?_ | refine Below.drew ?_))⟩
  obtain ⟨vw, vc, site, seq, data, gone⟩ := v
  simp only at *
  cases gone
  · have HF : Hid (rightV ⟨vw, vc, site, seq, data, false⟩ = true) := hidp (by simp [rightV, h0]; omega)
    clear h0
    go_enter Tryd.func67, Tryd.ntmps67
    go_wp2_with (go_at_call 13; refine (HS.out _).mono ?_; rintro e w' ⟨rfl, hb⟩; obtain ⟨x, rfl⟩ := wplus_of_below hb; clear hb)
    go_ret
    exact ⟨by rw [HF.out]; rfl, (by repeat (first | exact Below.refl _ _ | refine blw_alloc ?_ | refine blw_plus ?_ | refine Below.drew ?_))⟩
  by_cases c4 : data.toList = []
  · have hs : data.size = 0 := by rw [ba_size, ← ByteArray.toList_eq, c4]; rfl
    have HF : Hid (rightV ⟨vw, vc, site, seq, data, true⟩ = true) := hidp (by simp [rightV, h0, hs]; omega)
    have c5 : data.toList.isEmpty = true := by rw [c4]; rfl
    clear h0 hs
    go_enter Tryd.func67, Tryd.ntmps67
    go_wp2_with (go_at_call 13; refine (HS.out _).mono ?_; rintro e w' ⟨rfl, hb⟩; obtain ⟨x, rfl⟩ := wplus_of_below hb; clear hb)
    go_ret
    exact ⟨by rw [HF.out]; rfl, (by repeat (first | exact Below.refl _ _ | refine blw_alloc ?_ | refine blw_plus ?_ | refine Below.drew ?_))⟩
  · have hs : data.size ≠ 0 := by rw [ba_size, ← ByteArray.toList_eq]; intro h; exact c4 (List.eq_nil_of_length_eq_zero h)
    have HF : Hid (rightV ⟨vw, vc, site, seq, data, true⟩ = false) := hidp (by simp [rightV, hs])
    have c5 : data.toList.isEmpty = false := by simpa using c4
    clear h0 hs
    go_enter Tryd.func67, Tryd.ntmps67
    go_wp2_with (go_at_call 13; refine (HS.out _).mono ?_; rintro e w' ⟨rfl, hb⟩; obtain ⟨x, rfl⟩ := wplus_of_below hb; clear hb)
    go_ret
    exact ⟨by rw [HF.out]; rfl, (by repeat (first | exact Below.refl _ _ | refine blw_alloc ?_ | refine blw_plus ?_ | refine Below.drew ?_))⟩

set_option maxHeartbeats 2000000 in
theorem cmpV_any (a b : VerP) (w : World) (ha : 0 ≤ a.site ∧ a.site < 4) (hb : 0 ≤ b.site ∧ b.site < 4) :
    Calls Tryd.prog 69 #[verV a, verV b] w fun e w' => e = .returned (.int .i64 (cmpV a b)) ∧ Below w.heap.size w w' := by
  unfold verV
  have HC := hidp fun w => compare_any a.w a.c b.w b.c w
  by_cases h : cmpS a.w a.c b.w b.c = 0
  · have HF : Hid (cmpV a b = a.site - b.site) := hidp (by unfold cmpV; rw [if_neg (by simpa using h)])
    rw [h] at HC
    clear h
    obtain ⟨ha1, ha2⟩ := ha
    obtain ⟨hb1, hb2⟩ := hb
    go_enter Tryd.func69, Tryd.ntmps69
    go_wp2_with (go_at_call 15; refine (HC.out _).mono ?_; rintro e w' ⟨rfl, hb⟩; obtain ⟨x, rfl⟩ := wplus_of_below hb; clear hb)
    go_ret
    exact ⟨by rw [HF.out]; rfl, (by repeat (first | exact Below.refl _ _ | refine blw_alloc ?_ | refine blw_plus ?_ | refine Below.drew ?_))⟩
  · have HF : Hid (cmpV a b = cmpS a.w a.c b.w b.c) := hidp (by unfold cmpV; rw [if_pos h])
    have hne : (cmpS a.w a.c b.w b.c != 0) = true := by simpa using h
    generalize cmpS a.w a.c b.w b.c = z at *
    go_enter Tryd.func69, Tryd.ntmps69
    go_wp2_with (go_at_call 15; refine (HC.out _).mono ?_; rintro e w' ⟨rfl, hb⟩; obtain ⟨x, rfl⟩ := wplus_of_below hb; clear hb)
    go_ret
    exact ⟨by rw [HF.out]; rfl, (by repeat (first | exact Below.refl _ _ | refine blw_alloc ?_ | refine blw_plus ?_ | refine Below.drew ?_))⟩
end Go.Proofs.YtbopfhbeegkkaaaDoor

namespace Go.Proofs.YtbopfhbeegkkaaaDoor
open Go.RowKit

theorem info5 : (Tryd.prog.info? 5).map (fun i => (i.zero, i.size, i.bytes)) = some (some (.int .u8 0), 1, 1) := by kernel_rfl

def u8s (l : List UInt8) : List Value := l.map fun c => .int .u8 (c.toNat : Int)
theorem u8s_append (a b : List UInt8) : u8s (a ++ b) = u8s a ++ u8s b := by simp [u8s]
theorem u8s_length (a : List UInt8) : (u8s a).length = a.length := by simp [u8s]

/-- the buffer: owned, and what else was there stays -/
structure Buf (B : Nat) (w0 : World) (v0 : Value) (w : World) (v : Value) (bs : List UInt8) : Prop where
  own : w.ownsRow B 5 1 v bs.length (u8s bs)
  grown : w0.grownBy w v0.ownBlock
  blk : v.ownBlock = v0.ownBlock ∨ ∀ k, v.ownBlock = some k → w0.heap.size ≤ k

theorem grownBy_trans' {a b c : World} {r s : Option Nat} (h : a.grownBy b r) (k : b.grownBy c s) (hs : s = r ∨ ∀ j, s = some j → a.heap.size ≤ j) : a.grownBy c r :=
  ⟨k.os.trans h.os, k.tape.trans h.tape, k.output.trans h.output, Nat.le_trans h.size k.size, fun i hi hne => by
    have h1 := h.block i hi hne
    rw [← h1]
    refine k.block i (Nat.lt_of_lt_of_le hi h.size) (fun e => ?_)
    rcases hs with hs | hs
    · exact hne (e.trans hs)
    · have := hs i e.symm; omega⟩

/-- one byte more -/
theorem Buf.step {B : Nat} {w0 w w1 : World} {v0 v : Value} {bs : List UInt8} {o : Obj} {x : Int} {g cap : Nat} {H : Nat} (c : UInt8) (h : Buf B w0 v0 w v bs) (hx : x = (c.toNat : Int))
    (hown : w1.ownsRow B 5 1 (.slice (some ⟨g, 0, none⟩) (bs.length + 1) cap) (bs.length + 1) (u8s bs ++ [.int .u8 x])) (hg : (w.alloc o).grownBy w1 v.ownBlock) (hH : (w.alloc o).heap.size = H)
    (hl : v.ownBlock = some g ∨ g = H) : Buf B w0 v0 w1 (.slice (some ⟨g, 0, none⟩) (bs.length + 1) cap) (bs ++ [c]) := by
  have hs : w0.heap.size ≤ w.heap.size := h.grown.size
  refine ⟨?_, ?_, ?_⟩
  · subst hx; simpa [u8s] using hown
  · refine grownBy_trans' (h.grown) ?_ h.blk
    exact grownBy_trans' (World.grownBy_alloc w o v.ownBlock) hg (.inl rfl)
  · rcases hl with hl | hl
    · rcases h.blk with hb | hb
      · left; rw [← hb, hl]; rfl
      · right; intro k hk; exact hb k (by rw [hl]; exact hk)
    · right; intro k hk
      have : k = g := by simpa [Value.ownBlock] using hk.symm
      rw [this, hl, ← hH]; simp; omega

theorem or128 : ∀ x : Fin 256, bits BinOp.or IntKind.u8 (x.val : Int) 128 = ((x.val % 128 + 128 : Nat) : Int) := by decide +kernel
theorem or128_nat (m : Nat) : bits BinOp.or IntKind.u8 ((m : Int) % 256) 128 = (((m % 128 + 128).toUInt8.toNat : Nat) : Int) := by
  have h := or128 ⟨m % 256, Nat.mod_lt _ (by decide)⟩
  simp only at h
  have e : ((m : Int) % 256) = ((m % 256 : Nat) : Int) := by omega
  rw [e, h, Nat.mod_mod_of_dvd _ (by decide)]
  simp; omega

set_option maxRecDepth 100000 in
set_option maxHeartbeats 1000000 in
theorem put_any (B : Nat) (v : Value) (bs : List UInt8) (zs : List Nat) (lb lo c : Nat) (w : World) (hB : B ≤ w.heap.size)
    (hown : w.ownsRow B 5 1 v bs.length (u8s bs)) (hz : ∀ z ∈ zs, z < 4398046511104) (hbs : bs.length + 6 * zs.length ≤ 1000000)
    (hl : ∀ (i : Nat) (z : Nat), zs[i]? = some z → w.cell? ⟨lb, lo + i, none⟩ = some (.int .i64 (z : Int))) (hne : v.ownBlock ≠ some lb) :
    Calls Tryd.prog 59 #[v, .slice (some ⟨lb, lo, none⟩) zs.length c] w fun e w' => ∃ v', e = .returned v' ∧ Buf B w v w' v' (bs ++ numsB zs) := by
  obtain ⟨i0, hi, hz0, hz1, hz2⟩ := info_parts info5
  have hbuf0 : Buf B w v w v bs := ⟨hown, World.grownBy.refl _ _, .inl rfl⟩
  have HBUF0 := hidp hbuf0
  have hlen : ∀ k, k ≤ zs.length → (numsB (zs.take k)).length ≤ 6 * k := by
    intro k
    induction k with
    | zero => intro _; simp [numsB]
    | succ k ih =>
      intro hk
      have h1 := ih (by omega)
      rw [List.take_succ_eq_append_getElem (by omega)]
      simp only [numsB, List.flatMap_append, List.length_append, List.flatMap_cons, List.flatMap_nil, List.append_nil] at h1 ⊢
      have := numB_len (zs[k]) 6 (hz _ (List.getElem_mem (by omega))) (by omega)
      omega
  have hcells : ∀ (wr : World) (b : Value) (L : List UInt8), Buf B w v wr b L → ∀ (k : Nat) (h : k < zs.length), wr.cell? ⟨lb, lo + k, none⟩ = some (.int .i64 ((zs[k] : Nat) : Int)) := by
    intro wr b L hb k h
    have h1 := hl k zs[k] (List.getElem?_eq_getElem h)
    have hlt := World.block_lt_of_cell? w _ h1
    rw [World.cell?_of_block (w := w) (hb.grown.block lb hlt (fun e => hne e.symm))]
    exact h1
  have HLEN := hidp hlen
  have HC := hidp hcells
  clear hbuf0 hl hown hne hlen hcells
  have HZ := hidp hz
  clear hz
  go_enter Tryd.func59, Tryd.ntmps59
  go_wp2
  go_loopw [0, 9] (fun b i wr => ∃ (k : Nat) (L : List UInt8), k ≤ zs.length ∧ i = .int .i64 k ∧ L = bs ++ numsB (zs.take k) ∧ Buf B w v wr b L) (fun _ i _ => zs.length - (intOf i).toNat)
  case atStart => exact ⟨0, bs, Nat.zero_le _, rfl, by simp [numsB], HBUF0.out⟩
  case round =>
    obtain ⟨k, L, hk, rfl, hLe, hbuf⟩ := hrel
    have HBUF := hidp hbuf
    have HLE := hidp hLe
    clear hbuf hLe
    by_cases hlt : k < zs.length
    · have hcell := HC.out wr _ _ HBUF.out k hlt
      go_wp2
      obtain ⟨wo, rfl⟩ : ∃ wo : World, wo = wr := ⟨_, rfl⟩
      have HZK := hidp (HZ.out _ (List.getElem_mem hlt))
      generalize hzz : zs[k] = z at *
      have HZZ := hidp hzz
      clear hzz hcell
      go_loopw [0, 6] (fun b n wr => ∃ (m : Nat) (L' : List UInt8), n = .int .i64 m ∧ L' ++ numB m = L ++ numB z ∧ Buf B w v wr b L') (fun _ n _ => (intOf n).toNat)
      case atStart => exact ⟨z, L, rfl, rfl, HBUF.out⟩
      case round =>
        obtain ⟨m, L', rfl, hLm, hb⟩ := hrel
        have hL : L'.length ≤ 1000000 := by
          have h1 := congrArg List.length hLm
          have h2 := numB_len z 6 HZK.out (by omega)
          have h3 := congrArg List.length HLE.out
          have h4 := HLEN.out k hk
          simp only [List.length_append] at h1 h3
          omega
        have HB := hidp hb
        have HM := hidp hLm
        have HL := hidp hL
        clear hb hLm hL
        by_cases hm : 128 ≤ m
        · go_wp2_with (at_builtin; go_must (refine wpList_append_lies _ rfl _ _ 44 rfl B 5 i0 (.int .u8 0) 1 1 Tryd.underlying44 hi hz0 hz1 hz2 rfl (by decide) _ _ _ rfl (HB.out.own.alloc _) ⟨wr.heap.size, 0, none⟩ 1 1 [_] rfl rfl (cell_one_new _ _ _) ?c1 (by decide) ?c2 ?c3 ?c4 _ rfl ?_))
          case c1 => simp [Value.oneCell']
          case c2 => have := HL.out; simp only [maxLen]; omega
          case c3 => have := HL.out; omega
          case c4 => have := HB.out.grown.size; simp; omega
          intro g cap w1 hown1 hgrow hgl hlt1
          have hb1 := Buf.step (m % 128 + 128).toUInt8 HB.out (or128_nat m) hown1 hgrow rfl (by simpa using hgl)
          have HB1 := hidp hb1
          clear hb1 hown1 hgrow hgl hlt1
          go_wp2
          go_roundw
          case rel =>
            refine ⟨m / 128, _, ?_, ?_, HB1.out⟩
            · exact congrArg (Value.int IntKind.i64) (by omega)
            · rw [List.append_assoc, ← HM.out, numB_ge (n := m) (by omega)]; rfl
          case measure => simp only [intOf]; omega
        · go_wp2_with (at_builtin; go_must (refine wpList_append_lies _ rfl _ _ 44 rfl B 5 i0 (.int .u8 0) 1 1 Tryd.underlying44 hi hz0 hz1 hz2 rfl (by decide) _ _ _ rfl (HB.out.own.alloc _) ⟨wr.heap.size, 0, none⟩ 1 1 [_] rfl rfl (cell_one_new _ _ _) ?c1 (by decide) ?c2 ?c3 ?c4 _ rfl ?_))
          case c1 => simp [Value.oneCell']
          case c2 => have := HL.out; simp only [maxLen]; omega
          case c3 => have := HL.out; omega
          case c4 => have := HB.out.grown.size; simp; omega
          intro g cap w1 hown1 hgrow hgl hlt1
          have hb1 := Buf.step m.toUInt8 HB.out (by simp; omega) hown1 hgrow rfl (by simpa using hgl)
          have HB1 := hidp hb1
          clear hb1 hown1 hgrow hgl hlt1
          go_wp2
          go_roundw
          case rel =>
            refine ⟨k + 1, _, by omega, by go_num, ?_, HB1.out⟩
            rw [List.take_succ_eq_append_getElem hlt, HZZ.out]
            have h1 := HM.out
            rw [numB_lt (n := m) (by omega), HLE.out] at h1
            simpa [numsB] using h1
          case measure => simp [intOf]; omega
    · go_wp2
      go_ret
      have hk' : k = zs.length := by omega
      refine ⟨_, rfl, ?_⟩
      have h1 := HBUF.out
      rw [HLE.out, hk', List.take_length] at h1
      exact h1
end Go.Proofs.YtbopfhbeegkkaaaDoor

namespace Go.Proofs.YtbopfhbeegkkaaaDoor
open Go.RowKit

/-- the writes lie in a slice's array: three cells each -/
def WsAt (w : World) (A : Option Addr) (ws : List WrP) : Prop := ∀ (i : Nat) (x : WrP), ws[i]? = some x → ∃ b o, A = some ⟨b, o, none⟩ ∧ b < w.heap.size ∧ w.cell? ⟨b, o + i * 3, none⟩ = some (.int .i64 x.key) ∧ w.cell? ⟨b, o + i * 3 + 1, none⟩ = some (.string x.data) ∧ w.cell? ⟨b, o + i * 3 + 2, none⟩ = some (.bool x.gone)

theorem WsAt.below {w w' : World} {A : Option Addr} {ws : List WrP} (h : WsAt w A ws) (hb : Below w.heap.size w w') : WsAt w' A ws := fun i x hx => by
  obtain ⟨b, o, hA, hlt, h0, h1, h2⟩ := h i x hx
  refine ⟨b, o, hA, Nat.lt_of_lt_of_le hlt hb.size, ?_, ?_, ?_⟩
  · rw [hb.cell (p := ⟨b, o + i * 3, none⟩) hlt]; exact h0
  · rw [hb.cell (p := ⟨b, o + i * 3 + 1, none⟩) hlt]; exact h1
  · rw [hb.cell (p := ⟨b, o + i * 3 + 2, none⟩) hlt]; exact h2

set_option maxHeartbeats 1000000 in
theorem rightWs_any (A : Option Addr) (c : Nat) (ws : List WrP) (w : World) (hn : ws.length ≤ 1000000) (hws : WsAt w A ws) :
    Calls Tryd.prog 24 #[.slice A ws.length c] w fun e w' => e = .returned (.bool (rightWs ws)) ∧ Below w.heap.size w w' := by
  have HWS := hidp hws
  clear hws
  go_enter Tryd.func24, Tryd.ntmps24
  go_wp2
  go_loopw [3, 8] (fun l i wr => ∃ (k : Nat) (z : Int), k ≤ ws.length ∧ i = .int .i64 k ∧ l = .int .i64 z ∧ -1 ≤ z ∧ Below w.heap.size w wr ∧ rwGo (-1) ws = rwGo z (ws.drop k)) (fun _ i _ => ws.length - (intOf i).toNat)
  case atStart => exact ⟨0, -1, Nat.zero_le _, rfl, rfl, by omega, Below.refl _ _, rfl⟩
  case round =>
    obtain ⟨k, z, hk, rfl, rfl, hz, hbl, hrw⟩ := hrel
    obtain ⟨x, rfl⟩ := wplus_of_below hbl
    clear hbl
    have HRW := hidp hrw
    clear hrw
    by_cases hlt : k < ws.length
    · obtain ⟨b, o, rfl, hb, h0, h1, h2⟩ := HWS.out k ws[k] (List.getElem?_eq_getElem hlt)
      haveI : SzGe (b + 1) w := ⟨hb⟩
      generalize hx : ws[k] = y at h0 h1 h2
      have HX := hidp hx
      clear hx
      have hdrop : ws.drop k = y :: ws.drop (k + 1) := by rw [List.drop_eq_getElem_cons hlt, HX.out]
      have hbad : badW z y = true → rightWs ws = false := fun h => by
        rw [rightWs, HRW.out, hdrop]; simp [rwGo, h]
      have hgood : badW z y = false → rwGo (-1) ws = rwGo y.key (ws.drop (k + 1)) := fun h => by
        rw [HRW.out, hdrop]; simp [rwGo, h]
      have HB := hidp hbad
      have HG := hidp hgood
      clear hbad hgood hdrop
      by_cases c1 : y.key ≤ z
      · have HF := hidp (HB.out (by simp [badW, c1]))
        go_wp2
        go_ret
        exact ⟨by rw [HF.out]; rfl, (by repeat (first | exact Below.refl _ _ | refine blw_alloc ?_ | refine blw_plus ?_ | refine Below.drew ?_))⟩
      by_cases c2 : 8 ≤ y.key
      · have HF := hidp (HB.out (by simp [badW, c2]))
        go_wp2
        go_ret
        exact ⟨by rw [HF.out]; rfl, (by repeat (first | exact Below.refl _ _ | refine blw_alloc ?_ | refine blw_plus ?_ | refine Below.drew ?_))⟩
      by_cases c3 : 12 < y.data.size
      · have HF := hidp (HB.out (by simp [badW, c3]))
        go_wp2
        go_ret
        exact ⟨by rw [HF.out]; rfl, (by repeat (first | exact Below.refl _ _ | refine blw_alloc ?_ | refine blw_plus ?_ | refine Below.drew ?_))⟩
      obtain ⟨key, data, gone⟩ := y
      simp only at *
      cases gone
      · have HF := hidp (HG.out (by simp [badW]; omega))
        go_wp2
        go_roundw
        case rel => exact ⟨k + 1, key, by omega, by go_num, rfl, by omega, (by repeat (first | exact Below.refl _ _ | refine blw_alloc ?_ | refine blw_plus ?_ | refine Below.drew ?_)), HF.out⟩
        case measure => simp [intOf]; omega
      · by_cases c4 : data.toList = []
        · have hs : data.size = 0 := by rw [ba_size, ← ByteArray.toList_eq, c4]; rfl
          have HF := hidp (HG.out (by simp [badW, hs]; omega))
          clear hs
          go_wp2
          go_roundw
          case rel => exact ⟨k + 1, key, by omega, by go_num, rfl, by omega, (by repeat (first | exact Below.refl _ _ | refine blw_alloc ?_ | refine blw_plus ?_ | refine Below.drew ?_)), HF.out⟩
          case measure => simp [intOf]; omega
        · have hs : data.size ≠ 0 := by rw [ba_size, ← ByteArray.toList_eq]; intro h; exact c4 (List.eq_nil_of_length_eq_zero h)
          have HF := hidp (HB.out (by simp [badW, hs]))
          clear hs
          have c4' : (!data.toList.isEmpty) = true := by simpa using c4
          go_wp2
          go_ret
          exact ⟨by rw [HF.out]; rfl, (by repeat (first | exact Below.refl _ _ | refine blw_alloc ?_ | refine blw_plus ?_ | refine Below.drew ?_))⟩
    · have hkk : k = ws.length := by omega
      have hfin : rightWs ws = (decide (1 ≤ ws.length) && decide (ws.length ≤ 5)) := by
        have h1 := HRW.out
        rw [hkk, List.drop_length] at h1
        rw [rightWs, h1]; simp [rwGo]
      have HF := hidp hfin
      clear hfin hkk HRW
      by_cases c1 : 1 ≤ ws.length
      · by_cases c2 : ws.length ≤ 5
        · go_wp2
          go_ret
          exact ⟨by rw [HF.out]; simp [c1, c2]; try omega, (by repeat (first | exact Below.refl _ _ | refine blw_alloc ?_ | refine blw_plus ?_ | refine Below.drew ?_))⟩
        · go_wp2
          go_ret
          exact ⟨by rw [HF.out]; simp [c1, c2]; try omega, (by repeat (first | exact Below.refl _ _ | refine blw_alloc ?_ | refine blw_plus ?_ | refine Below.drew ?_))⟩
      · go_wp2
        go_ret
        exact ⟨by rw [HF.out]; simp [c1], (by repeat (first | exact Below.refl _ _ | refine blw_alloc ?_ | refine blw_plus ?_ | refine Below.drew ?_))⟩
end Go.Proofs.YtbopfhbeegkkaaaDoor
