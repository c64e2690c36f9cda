/- A fresh store; three stores beside each other. -/
import Derived.Test.YtbopfhbeegkkaaaDoorSw1
namespace Go.Proofs.YtbopfhbeegkkaaaDoor
open Go.RowKit

/-- the frame of one store's work, told of another store that shares no block with it -/
theorem StAt.beside {w w' : World} {g B h : Nat} {S : Nat → List VerP} {sv tv tv' : Nat → Value} (st : StAt w g B S sv) (fr : StFr w w' h tv tv') (hd : ∀ b, StOwn g sv b → ¬ StOwn h tv b) : StAt w' g B S sv := by
  have hb : ∀ b, StOwn g sv b → w'.heap[b]? = w.heap[b]? := fun b hb => fr.block b (st.lt hb) (hd b hb)
  refine ⟨by rw [hb g (.inl rfl)]; exact st.blk, fun k hk => ?_, st.ng, st.dis⟩
  have ho := st.own k hk
  have hbk : ∀ b, (sv k).ownBlock = some b → w'.heap[b]? = w.heap[b]? := fun b e => hb b (.inr ⟨k, hk, e⟩)
  obtain ⟨hl, hn | ⟨b, cap, cur, hv, h1, h2, h3⟩⟩ := ho
  · exact ⟨hl, .inl hn⟩
  · refine ⟨hl, .inr ⟨b, cap, cur, hv, h1, ?_, h3⟩⟩
    rw [hbk b (by rw [hv]; rfl)]
    exact h2
theorem StFr.dis {w w' : World} {g h : Nat} {sv sv' tv : Nat → Value} (fr : StFr w w' g sv sv') (hd : ∀ b, StOwn g sv b → ¬ StOwn h tv b) (hl : ∀ b, StOwn h tv b → b < w.heap.size) : ∀ b, StOwn g sv' b → ¬ StOwn h tv b := fun b hb hc => by
  rcases fr.own b hb with h1 | h1
  · exact hd b h1 hc
  · have := hl b hc; omega

/-- three stores at the blocks a, b, c, each owning its slices, all from block n on; what lay below n is as it was -/
def T3 (n : Nat) (w1 w : World) (a : Nat) (SA : Nat → List VerP) (b : Nat) (SB : Nat → List VerP) (c : Nat) (SC : Nat → List VerP) : Prop :=
  ∃ sa sb sc, StAt w a n SA sa ∧ StAt w b n SB sb ∧ StAt w c n SC sc ∧ (∀ k, StOwn a sa k → ¬ StOwn b sb k) ∧ (∀ k, StOwn a sa k → ¬ StOwn c sc k) ∧ (∀ k, StOwn b sb k → ¬ StOwn c sc k) ∧ Below n w1 w ∧ n ≤ a ∧ n ≤ b ∧ n ≤ c
theorem T3.rot {n a b c : Nat} {w1 w : World} {SA SB SC : Nat → List VerP} (h : T3 n w1 w a SA b SB c SC) : T3 n w1 w b SB c SC a SA := by
  obtain ⟨sa, sb, sc, h1, h2, h3, d1, d2, d3, hb, p1, p2, p3⟩ := h
  exact ⟨sb, sc, sa, h2, h3, h1, d3, fun k x y => d1 k y x, fun k x y => d2 k y x, hb, p2, p3, p1⟩
theorem T3.size {n a b c : Nat} {w1 w : World} {SA SB SC : Nat → List VerP} (h : T3 n w1 w a SA b SB c SC) : a < w.heap.size := by
  obtain ⟨sa, sb, sc, h1, _⟩ := h
  exact lt_blk h1.blk
theorem T3.ge {n a b c : Nat} {w1 w : World} {SA SB SC : Nat → List VerP} (h : T3 n w1 w a SA b SB c SC) : n ≤ a := by
  obtain ⟨sa, sb, sc, _, _, _, _, _, _, _, p1, _⟩ := h
  exact p1
theorem T3.low {n a b c : Nat} {w1 w : World} {SA SB SC : Nat → List VerP} (h : T3 n w1 w a SA b SB c SC) : Below n w1 w := by
  obtain ⟨sa, sb, sc, _, _, _, _, _, _, hb, _⟩ := h
  exact hb
theorem T3.below {n a b c : Nat} {w1 w w' : World} {SA SB SC : Nat → List VerP} (h : T3 n w1 w a SA b SB c SC) (hb : Below w.heap.size w w') : T3 n w1 w' a SA b SB c SC := by
  have hs := h.size
  have hg := h.ge
  obtain ⟨sa, sb, sc, h1, h2, h3, d1, d2, d3, hB, p1, p2, p3⟩ := h
  exact ⟨sa, sb, sc, h1.below hb, h2.below hb, h3.below hb, d1, d2, d3, hB.trans (hb.mono (by omega)), p1, p2, p3⟩
theorem T3.step {n a b c : Nat} {w1 w w' : World} {SA SB SC SA' : Nat → List VerP} {sa sb sc sa' : Nat → Value} (h1 : StAt w a n SA sa) (h2 : StAt w b n SB sb) (h3 : StAt w c n SC sc)
    (d1 : ∀ k, StOwn a sa k → ¬ StOwn b sb k) (d2 : ∀ k, StOwn a sa k → ¬ StOwn c sc k) (d3 : ∀ k, StOwn b sb k → ¬ StOwn c sc k) (hB : Below n w1 w) (p1 : n ≤ a) (p2 : n ≤ b) (p3 : n ≤ c)
    (h' : StAt w' a n SA' sa') (fr : StFr w w' a sa sa') : T3 n w1 w' a SA' b SB c SC := by
  refine ⟨sa', sb, sc, h', h2.beside fr (fun k x y => d1 k y x), h3.beside fr (fun k x y => d2 k y x), fr.dis d1 (fun k e => h2.lt e), fr.dis d2 (fun k e => h3.lt e), d3, hB.trans ?_, p1, p2, p3⟩
  have hlow : ∀ k, k < n → ¬ StOwn a sa k := by
    rintro k hk (e | ⟨j, hj, e⟩)
    · omega
    · have := (own_ge (h1.own j hj) e).1; omega
  have := lt_blk h1.blk
  exact ⟨fr.os, fr.tape, fr.output, fr.size, fun k hk => fr.block k (by omega) (hlow k hk)⟩
def Fit (S : Nat → List VerP) (N : Nat) : Prop := ∀ k, k < 8 → (∀ x ∈ S k, 0 ≤ x.site ∧ x.site < 4) ∧ (S k).length ≤ N
theorem T3.put {n a b c : Nat} {w1 w : World} {SA SB SC : Nat → List VerP} (h : T3 n w1 w a SA b SB c SC) (key : Int) (v : VerP) (hf : Fit SA 900000) :
    Calls Tryd.prog 34 #[.pointer (some ⟨a, 0, none⟩), .int .i64 key, verV v] w fun e w' => e = .returned (errV (putR SA key v).1) ∧ T3 n w1 w' a (putR SA key v).2 b SB c SC ∧ w.heap.size ≤ w'.heap.size := by
  have hs := h.size
  obtain ⟨sa, sb, sc, h1, h2, h3, d1, d2, d3, hB, p1, p2, p3⟩ := h
  refine (putS_any a n SA sa key v w h1 (fun k hk => (hf k hk).1) (fun k hk => (hf k hk).2) (by omega)).mono ?_
  rintro e w' ⟨sv', he, hst, hfr⟩
  exact ⟨he, T3.step h1 h2 h3 d1 d2 d3 hB p1 p2 p3 hst hfr, hfr.size⟩
theorem T3.sweep {n a b c : Nat} {w1 w : World} {SA SB SC : Nat → List VerP} (h : T3 n w1 w a SA b SB c SC) (a0 a1 a2 a3 : Int) (hf : Fit SA 900000) :
    Calls Tryd.prog 33 #[.pointer (some ⟨a, 0, none⟩), .agg #[.int .i64 a0, .int .i64 a1, .int .i64 a2, .int .i64 a3]] w fun e w' => e = .returned (.tuple #[]) ∧ T3 n w1 w' a (fun k => sweepV a0 a1 a2 a3 (SA k)) b SB c SC ∧ w.heap.size ≤ w'.heap.size := by
  have hs := h.size
  obtain ⟨sa, sb, sc, h1, h2, h3, d1, d2, d3, hB, p1, p2, p3⟩ := h
  refine (sweep_any a n SA sa a0 a1 a2 a3 w h1 (fun k hk => (hf k hk).1) (fun k hk => (hf k hk).2) (by omega)).mono ?_
  rintro e w' ⟨he, sv', hst, hfr⟩
  exact ⟨he, T3.step h1 h2 h3 d1 d2 d3 hB p1 p2 p3 hst hfr, hfr.size⟩
theorem T3.read {n a b c : Nat} {w1 w : World} {SA SB SC : Nat → List VerP} (h : T3 n w1 w a SA b SB c SC) (key a0 a1 a2 a3 : Int) (hf : Fit SA 900000) :
    Calls Tryd.prog 36 #[.pointer (some ⟨a, 0, none⟩), .int .i64 key, .agg #[.int .i64 a0, .int .i64 a1, .int .i64 a2, .int .i64 a3]] w fun e w' =>
      e = .returned (.tuple #[verV (readR a0 a1 a2 a3 SA key).1, errV (readR a0 a1 a2 a3 SA key).2]) ∧ Below w.heap.size w w' := by
  obtain ⟨sa, sb, sc, h1, _⟩ := h
  exact readS_any a n SA sa key a0 a1 a2 a3 w h1 (fun k hk => (hf k hk).1) (fun k hk => (hf k hk).2)

theorem own_nil (w : World) (n : Nat) : w.ownsRow n 71 6 (.slice none 0 0) 0 [] := ⟨rfl, .inl ⟨rfl, rfl⟩⟩
theorem StAt.fresh {w : World} {g n : Nat} (h : w.heap[g]? = some (.cells #[.slice none 0 0, .slice none 0 0, .slice none 0 0, .slice none 0 0, .slice none 0 0, .slice none 0 0, .slice none 0 0, .slice none 0 0] 66)) : StAt w g n (fun _ => []) (fun _ => .slice none 0 0) :=
  ⟨h, fun _ _ => own_nil w n, fun _ _ => by simp [Value.ownBlock], fun _ _ _ _ _ _ hb => by simp [Value.ownBlock] at hb⟩
theorem own_fresh {g b : Nat} (h : StOwn g (fun _ => .slice none 0 0) b) : b = g := by
  rcases h with e | ⟨k, _, e⟩
  · exact e
  · simp [Value.ownBlock] at e
theorem T3.fresh {n a b c : Nat} {w1 w : World} (ha : w.heap[a]? = some (.cells #[.slice none 0 0, .slice none 0 0, .slice none 0 0, .slice none 0 0, .slice none 0 0, .slice none 0 0, .slice none 0 0, .slice none 0 0] 66))
    (hb : w.heap[b]? = some (.cells #[.slice none 0 0, .slice none 0 0, .slice none 0 0, .slice none 0 0, .slice none 0 0, .slice none 0 0, .slice none 0 0, .slice none 0 0] 66))
    (hc : w.heap[c]? = some (.cells #[.slice none 0 0, .slice none 0 0, .slice none 0 0, .slice none 0 0, .slice none 0 0, .slice none 0 0, .slice none 0 0, .slice none 0 0] 66))
    (hab : a ≠ b) (hac : a ≠ c) (hbc : b ≠ c) (hB : Below n w1 w) (p1 : n ≤ a) (p2 : n ≤ b) (p3 : n ≤ c) : T3 n w1 w a (fun _ => []) b (fun _ => []) c (fun _ => []) :=
  ⟨_, _, _, StAt.fresh ha, StAt.fresh hb, StAt.fresh hc, fun _ x y => hab ((own_fresh x).symm.trans (own_fresh y)), fun _ x y => hac ((own_fresh x).symm.trans (own_fresh y)), fun _ x y => hbc ((own_fresh x).symm.trans (own_fresh y)), hB, p1, p2, p3⟩
end Go.Proofs.YtbopfhbeegkkaaaDoor
