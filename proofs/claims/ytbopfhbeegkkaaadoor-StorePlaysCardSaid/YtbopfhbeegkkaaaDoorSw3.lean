/- The plain law of a sorted list of versions: where a version is found, put in, and left by a sweep. -/
import Derived.Test.YtbopfhbeegkkaaaDoorSw2
namespace Go.Proofs.YtbopfhbeegkkaaaDoor

def ltV (a b : VerP) : Prop := a.w < b.w ∨ (a.w = b.w ∧ (a.c < b.c ∨ (a.c = b.c ∧ a.site < b.site)))
def sameV (a b : VerP) : Prop := a.w = b.w ∧ a.c = b.c ∧ a.site = b.site
theorem cmpV_neg (a b : VerP) : cmpV a b < 0 ↔ ltV a b := by
  unfold cmpV cmpS orI cmpI ltV
  repeat' split
  all_goals omega
theorem cmpV_zero (a b : VerP) : cmpV a b = 0 ↔ sameV a b := by
  unfold cmpV cmpS orI cmpI sameV
  repeat' split
  all_goals omega
theorem ltV_trans {a b c : VerP} (h : ltV a b) (h2 : ltV b c) : ltV a c := by unfold ltV at *; omega
theorem ltV_irr {a b : VerP} (h : ltV a b) (h2 : ltV b a) : False := by unfold ltV at *; omega
theorem ltV_tri (a b : VerP) : ltV a b ∨ sameV a b ∨ ltV b a := by unfold ltV sameV; omega
theorem ltV_same {a b : VerP} (h : ltV a b) (h2 : sameV a b) : False := by unfold ltV sameV at *; omega
theorem ltV_same' {a b : VerP} (h : ltV a b) (h2 : sameV b a) : False := by unfold ltV sameV at *; omega
def Srt (vs : List VerP) : Prop := vs.Pairwise ltV
theorem srt_lt {vs : List VerP} (h : Srt vs) {i j : Nat} (hij : i < j) (hj : j < vs.length) : ltV (vs.getD i default) (vs.getD j default) := by
  have := List.pairwise_iff_getElem.1 h i j (by omega) hj hij
  simpa [List.getD, List.getElem?_eq_getElem (show i < vs.length by omega), List.getElem?_eq_getElem hj] using this
theorem getD_mem' {vs : List VerP} {i : Nat} (h : i < vs.length) : vs.getD i default ∈ vs := by
  simp [List.getD, List.getElem?_eq_getElem h]
theorem mem_getD {vs : List VerP} {x : VerP} (h : x ∈ vs) : ∃ i, i < vs.length ∧ vs.getD i default = x := by
  obtain ⟨i, hi, rfl⟩ := List.getElem_of_mem h
  exact ⟨i, hi, by simp [List.getD, List.getElem?_eq_getElem hi]⟩

theorem bsGo_spec {vs : List VerP} (hs : Srt vs) (v : VerP) : ∀ (f lo hi : Nat), hi - lo ≤ f → lo ≤ hi → hi ≤ vs.length → (∀ i, i < lo → ltV (vs.getD i default) v) → (∀ i, hi ≤ i → i < vs.length → ¬ ltV (vs.getD i default) v) →
    (∀ i, i < bsGo vs v f lo hi → ltV (vs.getD i default) v) ∧ (∀ i, bsGo vs v f lo hi ≤ i → i < vs.length → ¬ ltV (vs.getD i default) v)
  | 0, lo, hi, hf, hl, hh, h1, h2 => by
    unfold bsGo
    exact ⟨h1, fun i hi' hl' => h2 i (by omega) hl'⟩
  | f + 1, lo, hi, hf, hl, hh, h1, h2 => by
    unfold bsGo
    split
    · split
      · rename_i hlt hc
        refine bsGo_spec hs v f _ hi (by omega) (by omega) hh ?_ h2
        intro i hi'
        rw [cmpV_neg] at hc
        by_cases e : i = (lo + hi) / 2
        · subst e; exact hc
        · exact ltV_trans (srt_lt hs (by omega) (by omega)) hc
      · rename_i hlt hc
        refine bsGo_spec hs v f lo _ (by omega) (by omega) (by omega) h1 ?_
        intro i hi' hl'
        rw [cmpV_neg] at hc
        by_cases e : i = (lo + hi) / 2
        · subst e; exact hc
        · intro h; exact hc (ltV_trans (srt_lt hs (by omega) hl') h)
    · exact ⟨h1, fun i hi' hl' => h2 i (by omega) hl'⟩
theorem bsK_lo {vs : List VerP} (hs : Srt vs) (v : VerP) : ∀ i, i < bsK vs v → ltV (vs.getD i default) v :=
  (bsGo_spec hs v vs.length 0 vs.length (by omega) (by omega) (by omega) (fun i h => by omega) (fun i h h2 => by omega)).1
theorem bsK_hi {vs : List VerP} (hs : Srt vs) (v : VerP) : ∀ i, bsK vs v ≤ i → i < vs.length → ¬ ltV (vs.getD i default) v :=
  (bsGo_spec hs v vs.length 0 vs.length (by omega) (by omega) (by omega) (fun i h => by omega) (fun i h h2 => by omega)).2
theorem bsF_iff {vs : List VerP} (hs : Srt vs) (v : VerP) : bsF vs v = true ↔ ∃ x ∈ vs, sameV x v := by
  unfold bsF
  rw [Bool.and_eq_true, decide_eq_true_eq, decide_eq_true_eq, cmpV_zero]
  constructor
  · rintro ⟨h1, h2⟩
    exact ⟨_, getD_mem' h1, h2⟩
  · rintro ⟨x, hx, hsm⟩
    obtain ⟨i, hi, rfl⟩ := mem_getD hx
    have h1 : ¬ i < bsK vs v := fun h => ltV_same (bsK_lo hs v i h) hsm
    have h2 : bsK vs v < vs.length := by omega
    refine ⟨h2, ?_⟩
    by_cases e : i = bsK vs v
    · subst e; exact hsm
    · have h3 := srt_lt hs (show bsK vs v < i by omega) hi
      exact absurd (show ltV (vs.getD (bsK vs v) default) v by unfold ltV sameV at *; omega) (bsK_hi hs v _ (Nat.le_refl _) h2)
theorem insV_mem (vs : List VerP) (v x : VerP) : x ∈ insV vs v ↔ x = v ∨ x ∈ vs := by
  unfold insV
  have : x ∈ vs ↔ x ∈ vs.take (bsK vs v) ∨ x ∈ vs.drop (bsK vs v) := by
    rw [← List.mem_append, List.take_append_drop]
  rw [this]
  simp only [List.mem_append, List.mem_singleton]
  constructor
  · rintro ((h | h) | h)
    · exact .inr (.inl h)
    · exact .inl h
    · exact .inr (.inr h)
  · rintro (h | h | h)
    · exact .inl (.inr h)
    · exact .inl (.inl h)
    · exact .inr h
theorem take_getD {vs : List VerP} {k : Nat} {x : VerP} (h : x ∈ vs.take k) : ∃ i, i < k ∧ i < vs.length ∧ vs.getD i default = x := by
  obtain ⟨i, hi, rfl⟩ := List.getElem_of_mem h
  rw [List.length_take] at hi
  exact ⟨i, by omega, by omega, by simp [List.getD, List.getElem?_eq_getElem (show i < vs.length by omega)]⟩
theorem drop_getD {vs : List VerP} {k : Nat} {x : VerP} (h : x ∈ vs.drop k) : ∃ i, k ≤ i ∧ i < vs.length ∧ vs.getD i default = x := by
  obtain ⟨i, hi, rfl⟩ := List.getElem_of_mem h
  rw [List.length_drop] at hi
  exact ⟨k + i, by omega, by omega, by simp [List.getD, List.getElem?_eq_getElem (show k + i < vs.length by omega)]⟩
theorem insV_srt {vs : List VerP} (hs : Srt vs) {v : VerP} (hf : bsF vs v = false) : Srt (insV vs v) := by
  unfold insV Srt
  rw [List.append_assoc]
  refine List.pairwise_append.2 ⟨hs.sublist (List.take_sublist _ _), ?_, ?_⟩
  · rw [List.singleton_append]
    refine List.pairwise_cons.2 ⟨?_, hs.sublist (List.drop_sublist _ _)⟩
    intro y hy
    obtain ⟨i, h1, h2, rfl⟩ := drop_getD hy
    have h3 := bsK_hi hs v i h1 h2
    rcases ltV_tri v (vs.getD i default) with h | h | h
    · exact h
    · have : bsF vs v = true := (bsF_iff hs v).2 ⟨_, getD_mem' h2, by unfold sameV at *; omega⟩
      rw [this] at hf; cases hf
    · exact absurd h h3
  · intro x hx y hy
    obtain ⟨i, h1, h2, rfl⟩ := take_getD hx
    have h3 := bsK_lo hs v i h1
    simp only [List.singleton_append, List.mem_cons] at hy
    rcases hy with rfl | hy
    · exact h3
    · obtain ⟨j, h4, h5, rfl⟩ := drop_getD hy
      exact srt_lt hs (by omega) h5
theorem srt_uniq {vs : List VerP} (hs : Srt vs) {x y : VerP} (hx : x ∈ vs) (hy : y ∈ vs) : x = y ∨ ltV x y ∨ ltV y x := by
  obtain ⟨i, hi, rfl⟩ := mem_getD hx
  obtain ⟨j, hj, rfl⟩ := mem_getD hy
  by_cases e : i = j
  · subst e; exact .inl rfl
  · by_cases e2 : i < j
    · exact .inr (.inl (srt_lt hs e2 hj))
    · exact .inr (.inr (srt_lt hs (by omega) hi))
/-- the last of a sorted list at which a test holds -/
theorem rfind_some {p : VerP → Bool} {vs : List VerP} (hs : Srt vs) {x : VerP} : vs.reverse.find? p = some x ↔ x ∈ vs ∧ p x = true ∧ ∀ y ∈ vs, p y = true → y = x ∨ ltV y x := by
  induction vs with
  | nil => simp
  | cons a l ih =>
    have hs' : Srt l := (List.pairwise_cons.1 hs).2
    have ha := (List.pairwise_cons.1 hs).1
    rw [List.reverse_cons, List.find?_append]
    have ih := ih hs'
    cases hf : l.reverse.find? p with
    | some z =>
      rw [hf] at ih
      simp only [Option.some_or, Option.some.injEq] at ih ⊢
      constructor
      · intro e
        obtain ⟨h1, h2, h3⟩ := ih.1 e
        refine ⟨List.mem_cons_of_mem _ h1, h2, ?_⟩
        intro y hy hp
        rcases List.mem_cons.1 hy with rfl | hy
        · exact .inr (ha x h1)
        · exact h3 y hy hp
      · rintro ⟨h1, h2, h3⟩
        refine ih.2 ?_
        rcases List.mem_cons.1 h1 with rfl | h1
        · have hz : z ∈ l ∧ p z = true := ⟨List.mem_reverse.1 (List.mem_of_find?_eq_some hf), List.find?_some hf⟩
          rcases h3 z (List.mem_cons_of_mem _ hz.1) hz.2 with e | e
          · subst e; exact absurd (ha z hz.1) (fun h => ltV_irr h h)
          · exact absurd e (fun h => ltV_irr h (ha z hz.1))
        · exact ⟨h1, h2, fun y hy => h3 y (List.mem_cons_of_mem _ hy)⟩
    | none =>
      have hn : ∀ y ∈ l, p y = false := fun y hy => by
        have := List.find?_eq_none.1 hf y (List.mem_reverse.2 hy)
        simpa using this
      simp only [Option.none_or]
      constructor
      · intro e
        have hpx := List.find?_some e
        have hmx := List.mem_of_find?_eq_some e
        simp only [List.mem_singleton] at hmx
        subst hmx
        refine ⟨by simp, hpx, ?_⟩
        intro y hy hp
        rcases List.mem_cons.1 hy with rfl | hy
        · exact .inl rfl
        · rw [hn y hy] at hp; cases hp
      · rintro ⟨h1, h2, h3⟩
        rcases List.mem_cons.1 h1 with rfl | h1
        · simp [h2]
        · rw [hn x h1] at h2; cases h2
theorem find_some {a0 a1 a2 a3 : Int} {vs : List VerP} (hs : Srt vs) {x : VerP} : findV a0 a1 a2 a3 vs = some x ↔ x ∈ vs ∧ seenV a0 a1 a2 a3 x = true ∧ ∀ y ∈ vs, seenV a0 a1 a2 a3 y = true → y = x ∨ ltV y x := rfind_some hs
theorem find_none {a0 a1 a2 a3 : Int} {vs : List VerP} : findV a0 a1 a2 a3 vs = none ↔ ∀ x ∈ vs, seenV a0 a1 a2 a3 x = false := by
  unfold findV
  rw [List.find?_eq_none]
  constructor
  · intro h x hx; simpa using h x (List.mem_reverse.2 hx)
  · intro h x hx; simpa using h x (List.mem_reverse.1 hx)
/-- a part of a list that holds, of each seen version, it or a later seen one, reads the same -/
theorem find_dom {a0 a1 a2 a3 : Int} {vs us : List VerP} (hv : Srt vs) (hu : Srt us) (hsub : ∀ x ∈ us, x ∈ vs) (hd : ∀ x ∈ vs, seenV a0 a1 a2 a3 x = true → ∃ y ∈ us, seenV a0 a1 a2 a3 y = true ∧ (x = y ∨ ltV x y)) : findV a0 a1 a2 a3 us = findV a0 a1 a2 a3 vs := by
  cases hf : findV a0 a1 a2 a3 vs with
  | none =>
    rw [find_none] at hf ⊢
    exact fun x hx => hf x (hsub x hx)
  | some x =>
    rw [find_some hv] at hf
    rw [find_some hu]
    obtain ⟨h1, h2, h3⟩ := hf
    obtain ⟨y, hy, hys, hxy⟩ := hd x h1 h2
    have e : x = y := by
      rcases h3 y (hsub y hy) hys with e | e
      · exact e.symm
      · rcases hxy with e2 | e2
        · exact e2
        · exact absurd e (fun h => ltV_irr h e2)
    subst e
    exact ⟨hy, h2, fun z hz => h3 z (hsub z hz)⟩

theorem lastGo_spec (a0 a1 a2 a3 : Int) : ∀ (l : List VerP) (i z : Int), z < i → ((lastGo a0 a1 a2 a3 l i z = z ∧ ∀ x ∈ l, seenV a0 a1 a2 a3 x = false) ∨
    (∃ j, j < l.length ∧ lastGo a0 a1 a2 a3 l i z = i + j ∧ seenV a0 a1 a2 a3 (l.getD j default) = true ∧ ∀ k, j < k → k < l.length → seenV a0 a1 a2 a3 (l.getD k default) = false))
  | [], i, z, h => .inl ⟨rfl, fun x hx => by cases hx⟩
  | v :: l, i, z, h => by
    unfold lastGo
    by_cases hv : seenV a0 a1 a2 a3 v = true
    · rw [if_pos hv]
      rcases lastGo_spec a0 a1 a2 a3 l (i + 1) i (by omega) with ⟨h1, h2⟩ | ⟨j, h1, h2, h3, h4⟩
      · refine .inr ⟨0, by simp, by rw [h1]; simp, by simpa using hv, ?_⟩
        intro k hk hl
        obtain ⟨k, rfl⟩ : ∃ k', k = k' + 1 := ⟨k - 1, by omega⟩
        simp only [List.length_cons] at hl
        rw [List.getD_cons_succ]
        exact h2 _ (getD_mem' (by omega))
      · refine .inr ⟨j + 1, by simp; omega, by rw [h2]; simp; omega, by simpa using h3, ?_⟩
        intro k hk hl
        obtain ⟨k, rfl⟩ : ∃ k', k = k' + 1 := ⟨k - 1, by omega⟩
        simp only [List.length_cons] at hl
        rw [List.getD_cons_succ]
        exact h4 k (by omega) (by omega)
    · rw [if_neg hv]
      rcases lastGo_spec a0 a1 a2 a3 l (i + 1) z (by omega) with ⟨h1, h2⟩ | ⟨j, h1, h2, h3, h4⟩
      · refine .inl ⟨h1, ?_⟩
        intro x hx
        rcases List.mem_cons.1 hx with rfl | hx
        · simpa using hv
        · exact h2 x hx
      · refine .inr ⟨j + 1, by simp; omega, by rw [h2]; simp; omega, by simpa using h3, ?_⟩
        intro k hk hl
        obtain ⟨k, rfl⟩ : ∃ k', k = k' + 1 := ⟨k - 1, by omega⟩
        simp only [List.length_cons] at hl
        rw [List.getD_cons_succ]
        exact h4 k (by omega) (by omega)
theorem keepGo_mem (a0 a1 a2 a3 z : Int) (x : VerP) : ∀ (l : List VerP) (i : Int), x ∈ keepGo a0 a1 a2 a3 z l i ↔ ∃ j, j < l.length ∧ l.getD j default = x ∧ (z ≤ i + j ∨ seenV a0 a1 a2 a3 x = false)
  | [], i => by simp [keepGo]
  | v :: l, i => by
    have ih := keepGo_mem a0 a1 a2 a3 z x l (i + 1)
    have step : (∃ j, j < (v :: l).length ∧ (v :: l).getD j default = x ∧ (z ≤ i + j ∨ seenV a0 a1 a2 a3 x = false)) ↔ ((v = x ∧ (z ≤ i ∨ seenV a0 a1 a2 a3 x = false)) ∨ x ∈ keepGo a0 a1 a2 a3 z l (i + 1)) := by
      rw [ih]
      constructor
      · rintro ⟨j, h1, h2, h3⟩
        cases j with
        | zero => exact .inl ⟨by simpa using h2, by simpa using h3⟩
        | succ j => exact .inr ⟨j, by simpa using h1, by simpa using h2, h3.imp (fun h => by simp at h; omega) id⟩
      · rintro (⟨h1, h2⟩ | ⟨j, h1, h2, h3⟩)
        · exact ⟨0, by simp, by simpa using h1, by simpa using h2⟩
        · exact ⟨j + 1, by simpa using h1, by simpa using h2, h3.imp (fun h => by simp; omega) id⟩
    rw [step, show keepGo a0 a1 a2 a3 z (v :: l) i = if z ≤ i ∨ seenV a0 a1 a2 a3 v = false then v :: keepGo a0 a1 a2 a3 z l (i + 1) else keepGo a0 a1 a2 a3 z l (i + 1) from rfl]
    split
    · rename_i h
      rw [List.mem_cons]
      constructor
      · rintro (rfl | h2)
        · exact .inl ⟨rfl, h⟩
        · exact .inr h2
      · rintro (⟨rfl, _⟩ | h2)
        · exact .inl rfl
        · exact .inr h2
    · rename_i h
      constructor
      · exact .inr
      · rintro (⟨rfl, h2⟩ | h2)
        · exact absurd h2 h
        · exact h2
theorem keepGo_sublist (a0 a1 a2 a3 z : Int) : ∀ (l : List VerP) (i : Int), (keepGo a0 a1 a2 a3 z l i).Sublist l
  | [], _ => by simp [keepGo]
  | v :: l, i => by
    unfold keepGo
    split
    · exact (keepGo_sublist a0 a1 a2 a3 z l (i + 1)).cons_cons _
    · exact (keepGo_sublist a0 a1 a2 a3 z l (i + 1)).cons _
theorem sweepV_srt {a0 a1 a2 a3 : Int} {vs : List VerP} (h : Srt vs) : Srt (sweepV a0 a1 a2 a3 vs) := h.sublist (keepGo_sublist _ _ _ _ _ _ _)
theorem sweepV_len (a0 a1 a2 a3 : Int) (vs : List VerP) : (sweepV a0 a1 a2 a3 vs).length ≤ vs.length := keepGo_len _ _ _ _ _ _ _
theorem sweepV_sub {a0 a1 a2 a3 : Int} {vs : List VerP} {x : VerP} (h : x ∈ sweepV a0 a1 a2 a3 vs) : x ∈ vs := keepGo_sub _ _ _ _ _ _ _ _ h
theorem sweepV_iff {a0 a1 a2 a3 : Int} {vs : List VerP} (hs : Srt vs) (x : VerP) : x ∈ sweepV a0 a1 a2 a3 vs ↔ x ∈ vs ∧ (seenV a0 a1 a2 a3 x = false ∨ ∀ y ∈ vs, seenV a0 a1 a2 a3 y = true → y = x ∨ ltV y x) := by
  unfold sweepV
  rw [keepGo_mem]
  rcases lastGo_spec a0 a1 a2 a3 vs 0 (-1) (by omega) with ⟨h1, h2⟩ | ⟨j, h1, h2, h3, h4⟩
  · rw [h1]
    constructor
    · rintro ⟨k, hk, rfl, _⟩
      exact ⟨getD_mem' hk, .inl (h2 _ (getD_mem' hk))⟩
    · rintro ⟨hx, _⟩
      obtain ⟨k, hk, rfl⟩ := mem_getD hx
      exact ⟨k, hk, rfl, .inr (h2 _ hx)⟩
  · rw [h2]
    constructor
    · rintro ⟨k, hk, rfl, h⟩
      refine ⟨getD_mem' hk, ?_⟩
      rcases h with h | h
      · by_cases e : k = j
        · subst e
          refine .inr fun y hy hys => ?_
          obtain ⟨m, hm, rfl⟩ := mem_getD hy
          have : ¬ k < m := fun h' => by rw [h4 m h' hm] at hys; cases hys
          by_cases e : m = k
          · subst e; exact .inl rfl
          · exact .inr (srt_lt hs (by omega) hk)
        · exact .inl (h4 k (by omega) hk)
      · exact .inl h
    · rintro ⟨hx, h⟩
      obtain ⟨k, hk, rfl⟩ := mem_getD hx
      refine ⟨k, hk, rfl, ?_⟩
      rcases h with h | h
      · exact .inr h
      · rcases h _ (getD_mem' h1) h3 with e | e
        · by_cases e2 : j ≤ k
          · exact .inl (by omega)
          · have := srt_lt hs (show k < j by omega) h1
            rw [e] at this
            exact absurd this (fun h => ltV_irr h h)
        · by_cases e2 : j ≤ k
          · exact .inl (by omega)
          · exact absurd e (fun h => ltV_irr h (srt_lt hs (show k < j by omega) h1))
theorem sweepV_dom {a0 a1 a2 a3 : Int} {vs : List VerP} (hs : Srt vs) {x : VerP} (hx : x ∈ vs) : ∃ y ∈ sweepV a0 a1 a2 a3 vs, x = y ∨ (seenV a0 a1 a2 a3 y = true ∧ ltV x y) := by
  by_cases h : seenV a0 a1 a2 a3 x = true
  · cases hf : findV a0 a1 a2 a3 vs with
    | none => rw [find_none] at hf; rw [hf x hx] at h; cases h
    | some y =>
      rw [find_some hs] at hf
      obtain ⟨h1, h2, h3⟩ := hf
      exact ⟨y, (sweepV_iff hs y).2 ⟨h1, .inr h3⟩, (h3 x hx h).imp id (fun e => ⟨h2, e⟩)⟩
  · exact ⟨x, (sweepV_iff hs x).2 ⟨hx, .inl (by simpa using h)⟩, .inl rfl⟩
end Go.Proofs.YtbopfhbeegkkaaaDoor
