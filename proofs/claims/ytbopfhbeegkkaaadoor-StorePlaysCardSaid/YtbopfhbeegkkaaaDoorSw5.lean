/- One store alone; a slice of puts; the fact held. -/
import Derived.Test.YtbopfhbeegkkaaaDoorSw4
namespace Go.Proofs.YtbopfhbeegkkaaaDoor
open Go.RowKit

/-- a put in memory -/
def PtC (w : World) (b o : Nat) (x : PtP) : Prop := w.cell? ⟨b, o, none⟩ = some (.int .i64 x.key) ∧ w.cell? ⟨b, o + 1, none⟩ = some (.int .i64 x.v.w) ∧ w.cell? ⟨b, o + 2, none⟩ = some (.int .i64 x.v.c) ∧ w.cell? ⟨b, o + 3, none⟩ = some (.int .i64 x.v.site) ∧
  w.cell? ⟨b, o + 4, none⟩ = some (.int .i64 x.v.seq) ∧ w.cell? ⟨b, o + 5, none⟩ = some (.string x.v.data) ∧ w.cell? ⟨b, o + 6, none⟩ = some (.bool x.v.gone)
theorem PtC.below {n : Nat} {w w' : World} {b o : Nat} {x : PtP} (h : PtC w b o x) (hb : Below n w w') (hlt : b < n) : PtC w' b o x := by
  obtain ⟨h0, h1, h2, h3, h4, h5, h6⟩ := h
  have e : ∀ k, w'.cell? ⟨b, k, none⟩ = w.cell? ⟨b, k, none⟩ := fun k => hb.cell (p := ⟨b, k, none⟩) hlt
  unfold PtC
  exact ⟨by rw [e]; exact h0, by rw [e]; exact h1, by rw [e]; exact h2, by rw [e]; exact h3, by rw [e]; exact h4, by rw [e]; exact h5, by rw [e]; exact h6⟩
/-- a slice of puts -/
def PtsAt (w : World) (A : Option Addr) (ps : List PtP) : Prop := ∀ (i : Nat) (x : PtP), ps[i]? = some x → ∃ b o, A = some ⟨b, o, none⟩ ∧ b < w.heap.size ∧ PtC w b (o + i * 7) x
theorem PtsAt.below {w w' : World} {A : Option Addr} {ps : List PtP} (h : PtsAt w A ps) (hb : Below w.heap.size w w') : PtsAt w' A ps := fun i x hx => by
  obtain ⟨b, o, hA, hlt, h0⟩ := h i x hx
  exact ⟨b, o, hA, Nat.lt_of_lt_of_le hlt hb.size, h0.below hb hlt⟩

/-- a store at the block a that owns its slices, all from block n on; what lay below n is as it was -/
def T1 (n : Nat) (w1 w : World) (a : Nat) (SA : Nat → List VerP) : Prop := ∃ sa, StAt w a n SA sa ∧ Below n w1 w ∧ n ≤ a
theorem T1.size {n a : Nat} {w1 w : World} {SA : Nat → List VerP} (h : T1 n w1 w a SA) : a < w.heap.size := by
  obtain ⟨sa, h1, _⟩ := h
  exact lt_blk h1.blk
theorem T1.ge {n a : Nat} {w1 w : World} {SA : Nat → List VerP} (h : T1 n w1 w a SA) : n ≤ a := by
  obtain ⟨sa, _, _, p⟩ := h
  exact p
theorem T1.low {n a : Nat} {w1 w : World} {SA : Nat → List VerP} (h : T1 n w1 w a SA) : Below n w1 w := by
  obtain ⟨sa, _, hb, _⟩ := h
  exact hb
theorem T1.below {n a : Nat} {w1 w w' : World} {SA : Nat → List VerP} (h : T1 n w1 w a SA) (hb : Below w.heap.size w w') : T1 n w1 w' a SA := by
  have hs := h.size
  have hg := h.ge
  obtain ⟨sa, h1, hB, p1⟩ := h
  exact ⟨sa, h1.below hb, hB.trans (hb.mono (by omega)), p1⟩
theorem T1.step {n a : Nat} {w1 w w' : World} {SA SA' : Nat → List VerP} {sa sa' : Nat → Value} (h1 : StAt w a n SA sa) (hB : Below n w1 w) (p1 : n ≤ a) (h' : StAt w' a n SA' sa') (fr : StFr w w' a sa sa') : T1 n w1 w' a SA' := by
  refine ⟨sa', h', hB.trans ?_, p1⟩
  have hlow : ∀ k, k < n → ¬ StOwn a sa k := by
    rintro k hk (e | ⟨j, hj, e⟩)
    · omega
    · have := (own_ge (h1.own j hj) e).1; omega
  have := lt_blk h1.blk
  exact ⟨fr.os, fr.tape, fr.output, fr.size, fun k hk => fr.block k (by omega) (hlow k hk)⟩
theorem T1.put {n a : Nat} {w1 w : World} {SA : Nat → List VerP} (h : T1 n w1 w a SA) (key : Int) (v : VerP) (hf : Fit SA 900000) :
    Calls Tryd.prog 34 #[.pointer (some ⟨a, 0, none⟩), .int .i64 key, verV v] w fun e w' => e = .returned (errV (putR SA key v).1) ∧ T1 n w1 w' a (putR SA key v).2 ∧ w.heap.size ≤ w'.heap.size := by
  have hs := h.size
  obtain ⟨sa, h1, hB, p1⟩ := h
  refine (putS_any a n SA sa key v w h1 (fun k hk => (hf k hk).1) (fun k hk => (hf k hk).2) (by omega)).mono ?_
  rintro e w' ⟨sv', he, hst, hfr⟩
  exact ⟨he, T1.step h1 hB p1 hst hfr, hfr.size⟩
theorem T1.sweep {n a : Nat} {w1 w : World} {SA : Nat → List VerP} (h : T1 n w1 w a SA) (a0 a1 a2 a3 : Int) (hf : Fit SA 900000) :
    Calls Tryd.prog 33 #[.pointer (some ⟨a, 0, none⟩), .agg #[.int .i64 a0, .int .i64 a1, .int .i64 a2, .int .i64 a3]] w fun e w' => e = .returned (.tuple #[]) ∧ T1 n w1 w' a (sweepS a0 a1 a2 a3 SA) ∧ w.heap.size ≤ w'.heap.size := by
  have hs := h.size
  obtain ⟨sa, h1, hB, p1⟩ := h
  refine (sweep_any a n SA sa a0 a1 a2 a3 w h1 (fun k hk => (hf k hk).1) (fun k hk => (hf k hk).2) (by omega)).mono ?_
  rintro e w' ⟨he, sv', hst, hfr⟩
  exact ⟨he, T1.step h1 hB p1 hst hfr, hfr.size⟩
theorem T1.read {n a : Nat} {w1 w : World} {SA : Nat → List VerP} (h : T1 n w1 w a SA) (key a0 a1 a2 a3 : Int) (hf : Fit SA 900000) :
    Calls Tryd.prog 36 #[.pointer (some ⟨a, 0, none⟩), .int .i64 key, .agg #[.int .i64 a0, .int .i64 a1, .int .i64 a2, .int .i64 a3]] w fun e w' =>
      e = .returned (.tuple #[verV (readR a0 a1 a2 a3 SA key).1, errV (readR a0 a1 a2 a3 SA key).2]) ∧ Below w.heap.size w w' := by
  obtain ⟨sa, h1, _⟩ := h
  exact readS_any a n SA sa key a0 a1 a2 a3 w h1 (fun k hk => (hf k hk).1) (fun k hk => (hf k hk).2)
theorem T1.fresh {n a : Nat} {w1 w : World} (ha : w.heap[a]? = some (.cells #[.slice none 0 0, .slice none 0 0, .slice none 0 0, .slice none 0 0, .slice none 0 0, .slice none 0 0, .slice none 0 0, .slice none 0 0] 66)) (hB : Below n w1 w) (p1 : n ≤ a) : T1 n w1 w a (fun _ => []) :=
  ⟨_, StAt.fresh ha, hB, p1⟩

def hv1 : VerP := ⟨5, 0, 0, 1, ⟨#[97]⟩, false⟩
def hv2 : VerP := ⟨3, 0, 1, 1, ⟨#[98]⟩, false⟩
def hS1 : Nat → List VerP := (putR (fun _ => []) 2 hv1).2
def hS2 : Nat → List VerP := (putR hS1 2 hv2).2
set_option maxRecDepth 100000 in
theorem hp1 : (putR (fun _ => []) 2 hv1).1 = 0 := by kernel_rfl
set_option maxRecDepth 100000 in
theorem hp2 : (putR hS1 2 hv2).1 = 0 := by kernel_rfl
set_option maxRecDepth 100000 in
theorem hr1 : readR 1 1 0 0 hS2 2 = (hv1, 0) := by kernel_rfl
set_option maxRecDepth 100000 in
theorem hr2 : readR 0 1 0 0 hS2 2 = (hv2, 0) := by kernel_rfl
set_option maxRecDepth 100000 in
theorem hf1 : Fit hS1 1 := (Fit.nil 0).put ⟨2, hv1⟩
set_option maxRecDepth 100000 in
theorem hf2 : Fit hS2 2 := hf1.put ⟨2, hv2⟩

theorem held_put1 {n a : Nat} {w1 w : World} (h : T1 n w1 w a (fun _ => [])) : Calls Tryd.prog 34 #[.pointer (some ⟨a, 0, none⟩), .int .i64 2, .agg #[.int .i64 5, .int .i64 0, .int .i64 0, .int .i64 1, .string ⟨#[97]⟩, .bool false]] w
    fun e w' => e = .returned .nilIface ∧ T1 n w1 w' a hS1 ∧ w.heap.size ≤ w'.heap.size := by
  refine (h.put 2 hv1 (Fit.nil _)).mono ?_
  rintro e w' ⟨rfl, h1, h2⟩
  exact ⟨by rw [hp1]; rfl, h1, h2⟩
theorem held_put2 {n a : Nat} {w1 w : World} (h : T1 n w1 w a hS1) : Calls Tryd.prog 34 #[.pointer (some ⟨a, 0, none⟩), .int .i64 2, .agg #[.int .i64 3, .int .i64 0, .int .i64 1, .int .i64 1, .string ⟨#[98]⟩, .bool false]] w
    fun e w' => e = .returned .nilIface ∧ T1 n w1 w' a hS2 ∧ w.heap.size ≤ w'.heap.size := by
  refine (h.put 2 hv2 (hf1.mono (by omega))).mono ?_
  rintro e w' ⟨rfl, h1, h2⟩
  exact ⟨by rw [hp2]; rfl, h1, h2⟩
theorem held_read1 {n a : Nat} {w1 w : World} (h : T1 n w1 w a hS2) : Calls Tryd.prog 36 #[.pointer (some ⟨a, 0, none⟩), .int .i64 2, .agg #[.int .i64 1, .int .i64 1, .int .i64 0, .int .i64 0]] w
    fun e w' => e = .returned (.tuple #[.agg #[.int .i64 5, .int .i64 0, .int .i64 0, .int .i64 1, .string ⟨#[97]⟩, .bool false], .nilIface]) ∧ Below w.heap.size w w' := by
  refine (h.read 2 1 1 0 0 (hf2.mono (by omega))).mono ?_
  rintro e w' ⟨rfl, h1⟩
  exact ⟨by rw [hr1]; rfl, h1⟩
theorem held_read2 {n a : Nat} {w1 w : World} (h : T1 n w1 w a hS2) : Calls Tryd.prog 36 #[.pointer (some ⟨a, 0, none⟩), .int .i64 2, .agg #[.int .i64 0, .int .i64 1, .int .i64 0, .int .i64 0]] w
    fun e w' => e = .returned (.tuple #[.agg #[.int .i64 3, .int .i64 0, .int .i64 1, .int .i64 1, .string ⟨#[98]⟩, .bool false], .nilIface]) ∧ Below w.heap.size w w' := by
  refine (h.read 2 0 1 0 0 (hf2.mono (by omega))).mono ?_
  rintro e w' ⟨rfl, h1⟩
  exact ⟨by rw [hr2]; rfl, h1⟩

set_option maxRecDepth 20000 in
set_option maxHeartbeats 4000000 in
theorem held_any (w : World) : Calls Tryd.prog 31 #[] w fun e w' => e = .returned (.bool true) ∧ Below w.heap.size w w' := by
  have HT0 : Hid (T1 w.heap.size w (w.alloc (.cells #[.slice none 0 0, .slice none 0 0, .slice none 0 0, .slice none 0 0, .slice none 0 0, .slice none 0 0, .slice none 0 0, .slice none 0 0] 66)) w.heap.size (fun _ => [])) :=
    hidp (T1.fresh (blk_new rfl _) (blw_alloc (Below.refl _ _)) (Nat.le_refl _))
  go_enter Tryd.func31, Tryd.ntmps31
  go_wp2_with fail
  go_at_call 34
  refine (held_put1 HT0.out).mono ?_
  rintro e wA ⟨rfl, ht, hz⟩
  have HT1 := hidp ht
  clear ht
  go_wp2_with fail
  go_at_call 34
  refine (held_put2 HT1.out).mono ?_
  rintro e wB ⟨rfl, ht, hz2⟩
  have HT2 := hidp ht
  have hlt := ht.size
  have HLW := hidp ht.low
  have hlw := ht.low.size
  haveI : SzGe (w.heap.size + 1) wB := ⟨hlt⟩
  clear ht
  go_wp2_with fail
  go_at_call 36
  refine (held_read1 HT2.out).mono ?_
  rintro e wC ⟨rfl, hb⟩
  obtain ⟨x, rfl⟩ := wplus_of_below hb
  clear hb
  go_wp2_with fail
  go_at_call 36
  refine (held_read2 (HT2.out.below (by repeat (first | exact Below.refl _ _ | refine blw_alloc ?_ | refine blw_plus ?_ | refine Below.drew ?_)))).mono ?_
  rintro e wD ⟨rfl, hb⟩
  obtain ⟨y, rfl⟩ := wplus_of_below hb
  clear hb
  go_wp2_with fail
  go_ret
  refine ⟨rfl, HLW.out.trans (Below.mono (B := wB.heap.size) ?_ hlw)⟩
  repeat (first | exact Below.refl _ _ | refine blw_alloc ?_ | refine blw_plus ?_ | refine Below.drew ?_)
end Go.Proofs.YtbopfhbeegkkaaaDoor
