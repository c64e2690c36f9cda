/- The program's store and the document's beside each other. -/
import Derived.Test.YtbopfhbeegkkaaaDoorSp7
namespace Go.Proofs.YtbopfhbeegkkaaaDoor
open Go.RowKit

/-- the program's store at g, the document's at r, each owning its slices from block n on; they stand for the same; a box bx beside them; what lay below n is as it was -/
def T2 (n : Nat) (w1 w : World) (g : Nat) (S : Nat → List VerP) (r : Nat) (L : List PtP) (bx : Nat) (o : Obj) : Prop :=
  ∃ sv v, StAt w g n S sv ∧ RfAt w r n L v ∧ (∀ k, StOwn g sv k → ¬ RfOwn r v k) ∧ w.heap[bx]? = some o ∧ ¬ StOwn g sv bx ∧ ¬ RfOwn r v bx ∧ Below n w1 w ∧ n ≤ g ∧ n ≤ r
theorem T2.size {n g r bx : Nat} {o : Obj} {w1 w : World} {S : Nat → List VerP} {L : List PtP} (h : T2 n w1 w g S r L bx o) : n ≤ w.heap.size := by
  obtain ⟨sv, v, h1, h2, d, hb, n1, n2, hB, p1, p2⟩ := h
  have := lt_blk h1.blk
  omega
theorem T2.low {n g r bx : Nat} {o : Obj} {w1 w : World} {S : Nat → List VerP} {L : List PtP} (h : T2 n w1 w g S r L bx o) : Below n w1 w := by
  obtain ⟨sv, v, h1, h2, d, hb, n1, n2, hB, p1, p2⟩ := h
  exact hB
theorem T2.box {n g r bx : Nat} {o : Obj} {w1 w : World} {S : Nat → List VerP} {L : List PtP} (h : T2 n w1 w g S r L bx o) : w.heap[bx]? = some o := by
  obtain ⟨sv, v, h1, h2, d, hb, n1, n2, hB, p1, p2⟩ := h
  exact hb
theorem T2.below {n g r bx : Nat} {o : Obj} {w1 w w' : World} {S : Nat → List VerP} {L : List PtP} (h : T2 n w1 w g S r L bx o) (hb' : Below w.heap.size w w') : T2 n w1 w' g S r L bx o := by
  have hs := h.size
  obtain ⟨sv, v, h1, h2, d, hb, n1, n2, hB, p1, p2⟩ := h
  exact ⟨sv, v, h1.below hb', h2.below hb', d, (hb'.block bx (lt_blk hb)).trans hb, n1, n2, hB.trans (hb'.mono hs), p1, p2⟩
theorem T2.rebox {n g r bx : Nat} {o : Obj} {w1 w : World} {S : Nat → List VerP} {L : List PtP} (h : T2 n w1 w g S r L bx o) (o' : Obj) : T2 n w1 (w.alloc o') g S r L w.heap.size o' := by
  have hs := h.size
  obtain ⟨sv, v, h1, h2, d, hb, n1, n2, hB, p1, p2⟩ := h
  have hb' : Below w.heap.size w (w.alloc o') := blw_alloc (Below.refl _ _)
  exact ⟨sv, v, h1.below hb', h2.below hb', d, blk_new rfl _, fun e => absurd (h1.lt e) (by omega), fun e => absurd (h2.lt e) (by omega), hB.trans (hb'.mono hs), p1, p2⟩
theorem RfAt.beside {w w' : World} {r B g : Nat} {L : List PtP} {v : Value} {sv sv' : Nat → Value} (st : RfAt w r B L v) (fr : StFr w w' g sv sv') (hd : ∀ b, RfOwn r v b → ¬ StOwn g sv b) : RfAt w' r B L v := by
  have hb : ∀ b, RfOwn r v b → w'.heap[b]? = w.heap[b]? := fun b hb => fr.block b (st.lt hb) (hd b hb)
  refine ⟨by rw [hb r (.inl rfl)]; exact st.blk, ?_, st.ng⟩
  have ho := st.own
  obtain ⟨hl, hn | ⟨b, cap, cur, hv, h1, h2, h3⟩⟩ := ho
  · exact ⟨hl, .inl hn⟩
  · refine ⟨hl, .inr ⟨b, cap, cur, hv, h1, ?_, h3⟩⟩
    rw [hb b (.inr (by rw [hv]; rfl))]
    exact h2
theorem StAt.besideR {w w' : World} {g B r : Nat} {S : Nat → List VerP} {sv : Nat → Value} {v v' : Value} (st : StAt w g B S sv) (fr : RfFr w w' r v v') (hd : ∀ b, StOwn g sv b → ¬ RfOwn r v b) : StAt w' g B S sv := by
  have hb : ∀ b, StOwn g sv b → w'.heap[b]? = w.heap[b]? := fun b hb => fr.block b (st.lt hb) (hd b hb)
  refine ⟨by rw [hb g (.inl rfl)]; exact st.blk, fun k hk => ?_, st.ng, st.dis⟩
  have ho := st.own k hk
  have hbk : ∀ b, (sv k).ownBlock = some b → w'.heap[b]? = w.heap[b]? := fun b e => hb b (.inr ⟨k, hk, e⟩)
  obtain ⟨hl, hn | ⟨b, cap, cur, hv, h1, h2, h3⟩⟩ := ho
  · exact ⟨hl, .inl hn⟩
  · refine ⟨hl, .inr ⟨b, cap, cur, hv, h1, ?_, h3⟩⟩
    rw [hbk b (by rw [hv]; rfl)]
    exact h2
theorem T2.stepS {n g r bx : Nat} {o : Obj} {w1 w w' : World} {S S' : Nat → List VerP} {L : List PtP} {sv sv' : Nat → Value} {v : Value} (h1 : StAt w g n S sv) (h2 : RfAt w r n L v) (d : ∀ k, StOwn g sv k → ¬ RfOwn r v k) (hb : w.heap[bx]? = some o) (n1 : ¬ StOwn g sv bx) (n2 : ¬ RfOwn r v bx)
    (hB : Below n w1 w) (p1 : n ≤ g) (p2 : n ≤ r) (h' : StAt w' g n S' sv') (fr : StFr w w' g sv sv') : T2 n w1 w' g S' r L bx o := by
  have hlow : ∀ k, k < n → ¬ StOwn g sv k := by
    rintro k hk (e | ⟨j, hj, e⟩)
    · omega
    · have := (own_ge (h1.own j hj) e).1; omega
  have hg := lt_blk h1.blk
  refine ⟨sv', v, h', h2.beside fr (fun k x y => d k y x), ?_, (fr.block bx (lt_blk hb) n1).trans hb, ?_, n2, hB.trans ⟨fr.os, fr.tape, fr.output, fr.size, fun k hk => fr.block k (by omega) (hlow k hk)⟩, p1, p2⟩
  · intro k hk hr
    rcases fr.own k hk with e | e
    · exact d k e hr
    · have := h2.lt hr; omega
  · intro e
    rcases fr.own bx e with e | e
    · exact n1 e
    · have := lt_blk hb; omega
theorem T2.stepR {n g r bx : Nat} {o : Obj} {w1 w w' : World} {S : Nat → List VerP} {L L' : List PtP} {sv : Nat → Value} {v v' : Value} (h1 : StAt w g n S sv) (h2 : RfAt w r n L v) (d : ∀ k, StOwn g sv k → ¬ RfOwn r v k) (hb : w.heap[bx]? = some o) (n1 : ¬ StOwn g sv bx) (n2 : ¬ RfOwn r v bx)
    (hB : Below n w1 w) (p1 : n ≤ g) (p2 : n ≤ r) (h' : RfAt w' r n L' v') (fr : RfFr w w' r v v') : T2 n w1 w' g S r L' bx o := by
  have hlow : ∀ k, k < n → ¬ RfOwn r v k := by
    rintro k hk (e | e)
    · omega
    · have := (own_ge h2.own e).1; omega
  have hg := lt_blk h1.blk
  refine ⟨sv, v', h1.besideR fr d, h', ?_, (fr.block bx (lt_blk hb) n2).trans hb, n1, ?_, hB.trans ⟨fr.os, fr.tape, fr.output, fr.size, fun k hk => fr.block k (by omega) (hlow k hk)⟩, p1, p2⟩
  · intro k hk hr
    rcases fr.own k hr with e | e
    · exact d k hk e
    · have := h1.lt hk; omega
  · intro e
    rcases fr.own bx e with e | e
    · exact n2 e
    · have := lt_blk hb; omega

/-- both stand for the same, and hold no more than so many -/
structure Sam (S : Nat → List VerP) (L : List PtP) (N : Nat) : Prop where
  rep : Rep S L
  len : L.length ≤ N
  dat : ∀ p ∈ L, p.v.data.size ≤ 12
theorem Sam.fit {S : Nat → List VerP} {L : List PtP} {N : Nat} (h : Sam S L N) (hN : N ≤ 900000) : Fit S 900000 := by
  intro k hk
  refine ⟨fun x hx => ?_, ?_⟩
  · obtain ⟨p, hp, _, rfl⟩ := (h.rep.mem hk x).1 hx
    exact h.rep.site p hp
  · rw [(h.rep.perm k hk).length_eq, List.length_map]
    have := List.length_filter_le (fun p : PtP => decide (p.key = (k : Int))) L
    have := h.len
    omega
theorem Sam.mono {S : Nat → List VerP} {L : List PtP} {N M : Nat} (h : Sam S L N) (hm : N ≤ M) : Sam S L M := ⟨h.rep, Nat.le_trans h.len hm, h.dat⟩
theorem Sam.nil (N : Nat) : Sam (fun _ => []) [] N := ⟨Rep.nil, by simp, fun p hp => (by cases hp)⟩
theorem rPut_cases (L : List PtP) (key : Int) (v : VerP) : (rPut L key v).2 = L ∨ (rightV v = true ∧ (rPut L key v).2 = L ++ [⟨key, v⟩]) := by
  unfold rPut
  split
  · exact .inl rfl
  · split
    · exact .inl rfl
    · rename_i h
      split
      · exact .inl rfl
      · exact .inr ⟨by simpa using h, rfl⟩
theorem Sam.put {S : Nat → List VerP} {L : List PtP} {N : Nat} (h : Sam S L N) (key : Int) (v : VerP) : (rPut L key v).1 = (putR S key v).1 ∧ Sam (putR S key v).2 (rPut L key v).2 (N + 1) := by
  obtain ⟨h1, h2⟩ := h.rep.put key v
  have hl := h.len
  refine ⟨h1, ⟨h2, ?_, ?_⟩⟩
  · rcases rPut_cases L key v with e | ⟨_, e⟩ <;> rw [e]
    · omega
    · simp; omega
  · intro p hp
    rcases rPut_cases L key v with e | ⟨hr, e⟩ <;> rw [e] at hp
    · exact h.dat p hp
    · rcases List.mem_append.1 hp with hp | hp
      · exact h.dat p hp
      · simp only [List.mem_singleton] at hp
        subst hp
        unfold rightV at hr
        simp only [Bool.and_eq_true, decide_eq_true_eq] at hr
        exact hr.1.2
theorem Sam.sweep {S : Nat → List VerP} {L : List PtP} {N : Nat} (h : Sam S L N) (a0 a1 a2 a3 : Int) : Sam (sweepS a0 a1 a2 a3 S) (rSweep a0 a1 a2 a3 L) N :=
  ⟨h.rep.sweep a0 a1 a2 a3, Nat.le_trans (List.length_filter_le _ _) h.len, fun p hp => h.dat p (List.mem_filter.1 hp).1⟩
theorem Sam.many {S : Nat → List VerP} {L : List PtP} {N : Nat} (h : Sam S L N) : lenS S 8 = L.length := by
  rw [h.rep.many]
  simp only [lenS]
  omega
theorem Sam.data {S : Nat → List VerP} {L : List PtP} {N : Nat} (h : Sam S L N) (a0 a1 a2 a3 key : Int) : (readR a0 a1 a2 a3 S key).1.data.size ≤ 12 := by
  have hz : verZ.data.size ≤ 12 := by decide
  unfold readR
  split
  · exact hz
  · rename_i hk
    split
    · rename_i v hf
      split
      · exact hz
      · have hkk : key.toNat < 8 := by omega
        obtain ⟨hm, _⟩ := (find_some (h.rep.srt _ hkk)).1 hf
        obtain ⟨p, hp, _, rfl⟩ := (h.rep.mem hkk v).1 hm
        exact h.dat p hp
    · exact hz

theorem T2.put {n g r bx : Nat} {o : Obj} {w1 w : World} {S : Nat → List VerP} {L : List PtP} (h : T2 n w1 w g S r L bx o) (key : Int) (v : VerP) (hf : Fit S 900000) :
    Calls Tryd.prog 34 #[.pointer (some ⟨g, 0, none⟩), .int .i64 key, verV v] w fun e w' => e = .returned (errV (putR S key v).1) ∧ T2 n w1 w' g (putR S key v).2 r L bx o ∧ w.heap.size ≤ w'.heap.size := by
  have hs := h.size
  obtain ⟨sv, u, h1, h2, d, hb, n1, n2, hB, p1, p2⟩ := h
  refine (putS_any g n S sv key v w h1 (fun k hk => (hf k hk).1) (fun k hk => (hf k hk).2) hs).mono ?_
  rintro e w' ⟨sv', he, hst, hfr⟩
  exact ⟨he, T2.stepS h1 h2 d hb n1 n2 hB p1 p2 hst hfr, hfr.size⟩
theorem T2.sweep {n g r bx : Nat} {o : Obj} {w1 w : World} {S : Nat → List VerP} {L : List PtP} (h : T2 n w1 w g S r L bx o) (a0 a1 a2 a3 : Int) (hf : Fit S 900000) :
    Calls Tryd.prog 33 #[.pointer (some ⟨g, 0, none⟩), .agg #[.int .i64 a0, .int .i64 a1, .int .i64 a2, .int .i64 a3]] w fun e w' => e = .returned (.tuple #[]) ∧ T2 n w1 w' g (sweepS a0 a1 a2 a3 S) r L bx o ∧ w.heap.size ≤ w'.heap.size := by
  have hs := h.size
  obtain ⟨sv, u, h1, h2, d, hb, n1, n2, hB, p1, p2⟩ := h
  refine (sweep_any g n S sv a0 a1 a2 a3 w h1 (fun k hk => (hf k hk).1) (fun k hk => (hf k hk).2) hs).mono ?_
  rintro e w' ⟨he, sv', hst, hfr⟩
  exact ⟨he, T2.stepS h1 h2 d hb n1 n2 hB p1 p2 hst hfr, hfr.size⟩
theorem T2.rput {n g r bx : Nat} {o : Obj} {w1 w : World} {S : Nat → List VerP} {L : List PtP} (h : T2 n w1 w g S r L bx o) (key : Int) (v : VerP) (hl : L.length ≤ 900000) :
    Calls Tryd.prog 38 #[.pointer (some ⟨r, 0, none⟩), .int .i64 key, verV v] w fun e w' => e = .returned (.int .i64 (rPut L key v).1) ∧ T2 n w1 w' g S r (rPut L key v).2 bx o ∧ w.heap.size ≤ w'.heap.size := by
  have hs := h.size
  obtain ⟨sv, u, h1, h2, d, hb, n1, n2, hB, p1, p2⟩ := h
  refine (rPut_any r n L u key v w h2 hl hs).mono ?_
  rintro e w' ⟨v', he, hst, hfr⟩
  exact ⟨he, T2.stepR h1 h2 d hb n1 n2 hB p1 p2 hst hfr, hfr.size⟩
theorem T2.rsweep {n g r bx : Nat} {o : Obj} {w1 w : World} {S : Nat → List VerP} {L : List PtP} (h : T2 n w1 w g S r L bx o) (a0 a1 a2 a3 : Int) (hok : ∀ p ∈ L, 0 ≤ p.v.site ∧ p.v.site < 4) (hl : L.length ≤ 900000) :
    Calls Tryd.prog 39 #[.pointer (some ⟨r, 0, none⟩), .agg #[.int .i64 a0, .int .i64 a1, .int .i64 a2, .int .i64 a3]] w fun e w' => e = .returned (.tuple #[]) ∧ T2 n w1 w' g S r (rSweep a0 a1 a2 a3 L) bx o ∧ w.heap.size ≤ w'.heap.size := by
  have hs := h.size
  obtain ⟨sv, u, h1, h2, d, hb, n1, n2, hB, p1, p2⟩ := h
  refine (rSweep_any r n L u a0 a1 a2 a3 w h2 hok hl hs).mono ?_
  rintro e w' ⟨he, v', hst, hfr⟩
  exact ⟨he, T2.stepR h1 h2 d hb n1 n2 hB p1 p2 hst hfr, hfr.size⟩
/-- what both read, in the program's terms -/
theorem T2.read {n g r bx N : Nat} {o : Obj} {w1 w : World} {S : Nat → List VerP} {L : List PtP} (h : T2 n w1 w g S r L bx o) (hm : Sam S L N) (hN : N ≤ 900000) (key a0 a1 a2 a3 : Int) {xw xc xs xq : Int} {xd : ByteArray} {xg : Bool} {z : Int} (hR : readR a0 a1 a2 a3 S key = (⟨xw, xc, xs, xq, xd, xg⟩, z)) :
    Calls Tryd.prog 36 #[.pointer (some ⟨g, 0, none⟩), .int .i64 key, .agg #[.int .i64 a0, .int .i64 a1, .int .i64 a2, .int .i64 a3]] w fun e w' =>
      e = .returned (.tuple #[.agg #[.int .i64 xw, .int .i64 xc, .int .i64 xs, .int .i64 xq, .string xd, .bool xg], errV z]) ∧ Below w.heap.size w w' := by
  have hf := hm.fit hN
  obtain ⟨sv, u, h1, _⟩ := h
  have := readS_any g n S sv key a0 a1 a2 a3 w h1 (fun k hk => (hf k hk).1) (fun k hk => (hf k hk).2)
  rw [hR] at this
  exact this
theorem T2.rread {n g r bx N : Nat} {o : Obj} {w1 w : World} {S : Nat → List VerP} {L : List PtP} (h : T2 n w1 w g S r L bx o) (hm : Sam S L N) (hN : N ≤ 900000) (key a0 a1 a2 a3 : Int) {xw xc xs xq : Int} {xd : ByteArray} {xg : Bool} {z : Int} (hR : readR a0 a1 a2 a3 S key = (⟨xw, xc, xs, xq, xd, xg⟩, z)) :
    Calls Tryd.prog 40 #[.pointer (some ⟨r, 0, none⟩), .int .i64 key, .agg #[.int .i64 a0, .int .i64 a1, .int .i64 a2, .int .i64 a3]] w fun e w' =>
      e = .returned (.tuple #[.agg #[.int .i64 xw, .int .i64 xc, .int .i64 xs, .int .i64 xq, .string xd, .bool xg], .int .i64 z]) ∧ Below w.heap.size w w' := by
  obtain ⟨sv, u, h1, h2, _⟩ := h
  have := rRead_any r n L u key a0 a1 a2 a3 w h2 hm.rep.site (Nat.le_trans hm.len hN)
  rw [hm.rep.read, hR] at this
  exact this
theorem T2.many {n g r bx N : Nat} {o : Obj} {w1 w : World} {S : Nat → List VerP} {L : List PtP} (h : T2 n w1 w g S r L bx o) (hm : Sam S L N) (hN : N ≤ 900000) :
    Calls Tryd.prog 41 #[.pointer (some ⟨g, 0, none⟩)] w fun e w' => e = .returned (.int .i64 L.length) ∧ Below w.heap.size w w' := by
  have hf := hm.fit hN
  obtain ⟨sv, u, h1, _⟩ := h
  have := many_any g n S sv w h1 (fun k hk => (hf k hk).2)
  rw [hm.many] at this
  exact this
theorem T2.all {n g r bx N : Nat} {o : Obj} {w1 w : World} {S : Nat → List VerP} {L : List PtP} (h : T2 n w1 w g S r L bx o) (hm : Sam S L N) (hN : N ≤ 900000) (a0 a1 a2 a3 : Int) :
    Calls Tryd.prog 43 #[.pointer (some ⟨g, 0, none⟩), .agg #[.int .i64 a0, .int .i64 a1, .int .i64 a2, .int .i64 a3]] w fun e w' => ∃ A' c', e = .returned (.slice A' 8 c') ∧ TsAt w' A' (toldT (fun k => readR a0 a1 a2 a3 S k) 8) ∧ Below w.heap.size w w' := by
  have hf := hm.fit hN
  obtain ⟨sv, u, h1, _⟩ := h
  exact all_any g n S sv a0 a1 a2 a3 _ w h1 (fun k hk => (hf k hk).1) (fun k hk => (hf k hk).2) (fun k hk => rfl) (fun k hk => Nat.le_trans (hm.data a0 a1 a2 a3 k) (by omega))
theorem T2.told {n g r bx N : Nat} {o : Obj} {w1 w : World} {S : Nat → List VerP} {L : List PtP} (h : T2 n w1 w g S r L bx o) (hm : Sam S L N) (hN : N ≤ 900000) (a0 a1 a2 a3 : Int) :
    Calls Tryd.prog 44 #[.pointer (some ⟨r, 0, none⟩), .agg #[.int .i64 a0, .int .i64 a1, .int .i64 a2, .int .i64 a3]] w fun e w' => ∃ A' c', e = .returned (.slice A' 8 c') ∧ TsAt w' A' (toldT (fun k => readR a0 a1 a2 a3 S k) 8) ∧ Below w.heap.size w w' := by
  obtain ⟨sv, u, h1, h2, _⟩ := h
  exact told_any r n L u a0 a1 a2 a3 _ w h2 hm.rep.site (Nat.le_trans hm.len hN) (fun k hk => (hm.rep.read a0 a1 a2 a3 k).symm) (fun k hk => Nat.le_trans (hm.data a0 a1 a2 a3 k) (by omega))
theorem T2.rcell {n g r bx : Nat} {o : Obj} {w1 w : World} {S : Nat → List VerP} {L : List PtP} (h : T2 n w1 w g S r L bx o) : ∃ A c, w.cell? ⟨r, 0, none⟩ = some (.slice A L.length c) ∧ r < w.heap.size := by
  obtain ⟨sv, u, h1, h2, _⟩ := h
  obtain ⟨A, c, rfl⟩ := own_form h2.own
  exact ⟨A, c, h2.cell.1, lt_blk h2.blk⟩
end Go.Proofs.YtbopfhbeegkkaaaDoor
