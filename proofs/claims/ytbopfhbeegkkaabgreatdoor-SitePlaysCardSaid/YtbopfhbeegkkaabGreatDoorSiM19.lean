/- Part 19 of a proof: lemmas and contracts that other parts use. -/
import Derived.Test.YtbopfhbeegkkaabGreatDoorSiM16
set_option linter.unusedVariables false
set_option linter.unusedSimpArgs false
namespace Go.Proofs.YtbopfhbeegkkaabGreatDoor
def Fit (S : Nat → List VerP) (N : Nat) : Prop := ∀ k, k < 8 → (∀ x ∈ S k, 0 ≤ x.site ∧ x.site < 4) ∧ (S k).length ≤ N

def ltV (a b : VerP) : Prop := a.w < b.w ∨ (a.w = b.w ∧ (a.c < b.c ∨ (a.c = b.c ∧ a.site < b.site)))
def sameV (a b : VerP) : Prop := a.w = b.w ∧ a.c = b.c ∧ a.site = b.site
theorem cmpV_neg (a b : VerP) : cmpV a b < 0 ↔ ltV a b := by
  unfold cmpV cmpS orI cmpI ltV
  repeat' split
  all_goals omega
theorem cmpV_zero (a b : VerP) : cmpV a b = 0 ↔ sameV a b := by
  unfold cmpV cmpS orI cmpI sameV
  repeat' split
  all_goals omega
theorem ltV_trans {a b c : VerP} (h : ltV a b) (h2 : ltV b c) : ltV a c := by unfold ltV at *; omega
theorem ltV_irr {a b : VerP} (h : ltV a b) (h2 : ltV b a) : False := by unfold ltV at *; omega
theorem ltV_tri (a b : VerP) : ltV a b ∨ sameV a b ∨ ltV b a := by unfold ltV sameV; omega
theorem ltV_same {a b : VerP} (h : ltV a b) (h2 : sameV a b) : False := by unfold ltV sameV at *; omega
theorem ltV_same' {a b : VerP} (h : ltV a b) (h2 : sameV b a) : False := by unfold ltV sameV at *; omega
def Srt (vs : List VerP) : Prop := vs.Pairwise ltV
theorem srt_lt {vs : List VerP} (h : Srt vs) {i j : Nat} (hij : i < j) (hj : j < vs.length) : ltV (vs.getD i default) (vs.getD j default) := by
  have := List.pairwise_iff_getElem.1 h i j (by omega) hj hij
  simpa [List.getD, List.getElem?_eq_getElem (show i < vs.length by omega), List.getElem?_eq_getElem hj] using this
theorem getD_mem' {vs : List VerP} {i : Nat} (h : i < vs.length) : vs.getD i default ∈ vs := by
  simp [List.getD, List.getElem?_eq_getElem h]
theorem mem_getD {vs : List VerP} {x : VerP} (h : x ∈ vs) : ∃ i, i < vs.length ∧ vs.getD i default = x := by
  obtain ⟨i, hi, rfl⟩ := List.getElem_of_mem h
  exact ⟨i, hi, by simp [List.getD, List.getElem?_eq_getElem hi]⟩

theorem bsGo_spec {vs : List VerP} (hs : Srt vs) (v : VerP) : ∀ (f lo hi : Nat), hi - lo ≤ f → lo ≤ hi → hi ≤ vs.length → (∀ i, i < lo → ltV (vs.getD i default) v) → (∀ i, hi ≤ i → i < vs.length → ¬ ltV (vs.getD i default) v) →
    (∀ i, i < bsGo vs v f lo hi → ltV (vs.getD i default) v) ∧ (∀ i, bsGo vs v f lo hi ≤ i → i < vs.length → ¬ ltV (vs.getD i default) v)
  | 0, lo, hi, hf, hl, hh, h1, h2 => by
    unfold bsGo
    exact ⟨h1, fun i hi' hl' => h2 i (by omega) hl'⟩
  | f + 1, lo, hi, hf, hl, hh, h1, h2 => by
    unfold bsGo
    split
    · split
      · rename_i hlt hc
        refine bsGo_spec hs v f _ hi (by omega) (by omega) hh ?_ h2
        intro i hi'
        rw [cmpV_neg] at hc
        by_cases e : i = (lo + hi) / 2
        · subst e; exact hc
        · exact ltV_trans (srt_lt hs (by omega) (by omega)) hc
      · rename_i hlt hc
        refine bsGo_spec hs v f lo _ (by omega) (by omega) (by omega) h1 ?_
        intro i hi' hl'
        rw [cmpV_neg] at hc
        by_cases e : i = (lo + hi) / 2
        · subst e; exact hc
        · intro h; exact hc (ltV_trans (srt_lt hs (by omega) hl') h)
    · exact ⟨h1, fun i hi' hl' => h2 i (by omega) hl'⟩
theorem bsK_lo {vs : List VerP} (hs : Srt vs) (v : VerP) : ∀ i, i < bsK vs v → ltV (vs.getD i default) v :=
  (bsGo_spec hs v vs.length 0 vs.length (by omega) (by omega) (by omega) (fun i h => by omega) (fun i h h2 => by omega)).1
theorem bsK_hi {vs : List VerP} (hs : Srt vs) (v : VerP) : ∀ i, bsK vs v ≤ i → i < vs.length → ¬ ltV (vs.getD i default) v :=
  (bsGo_spec hs v vs.length 0 vs.length (by omega) (by omega) (by omega) (fun i h => by omega) (fun i h h2 => by omega)).2
theorem bsF_iff {vs : List VerP} (hs : Srt vs) (v : VerP) : bsF vs v = true ↔ ∃ x ∈ vs, sameV x v := by
  unfold bsF
  rw [Bool.and_eq_true, decide_eq_true_eq, decide_eq_true_eq, cmpV_zero]
  constructor
  · rintro ⟨h1, h2⟩
    exact ⟨_, getD_mem' h1, h2⟩
  · rintro ⟨x, hx, hsm⟩
    obtain ⟨i, hi, rfl⟩ := mem_getD hx
    have h1 : ¬ i < bsK vs v := fun h => ltV_same (bsK_lo hs v i h) hsm
    have h2 : bsK vs v < vs.length := by omega
    refine ⟨h2, ?_⟩
    by_cases e : i = bsK vs v
    · subst e; exact hsm
    · have h3 := srt_lt hs (show bsK vs v < i by omega) hi
      exact absurd (show ltV (vs.getD (bsK vs v) default) v by unfold ltV sameV at *; omega) (bsK_hi hs v _ (Nat.le_refl _) h2)
theorem insV_mem (vs : List VerP) (v x : VerP) : x ∈ insV vs v ↔ x = v ∨ x ∈ vs := by
  unfold insV
  have : x ∈ vs ↔ x ∈ vs.take (bsK vs v) ∨ x ∈ vs.drop (bsK vs v) := by
    rw [← List.mem_append, List.take_append_drop]
  rw [this]
  simp only [List.mem_append, List.mem_singleton]
  constructor
  · rintro ((h | h) | h)
    · exact .inr (.inl h)
    · exact .inl h
    · exact .inr (.inr h)
  · rintro (h | h | h)
    · exact .inl (.inr h)
    · exact .inl (.inl h)
    · exact .inr h
theorem take_getD {vs : List VerP} {k : Nat} {x : VerP} (h : x ∈ vs.take k) : ∃ i, i < k ∧ i < vs.length ∧ vs.getD i default = x := by
  obtain ⟨i, hi, rfl⟩ := List.getElem_of_mem h
  rw [List.length_take] at hi
  exact ⟨i, by omega, by omega, by simp [List.getD, List.getElem?_eq_getElem (show i < vs.length by omega)]⟩
theorem drop_getD {vs : List VerP} {k : Nat} {x : VerP} (h : x ∈ vs.drop k) : ∃ i, k ≤ i ∧ i < vs.length ∧ vs.getD i default = x := by
  obtain ⟨i, hi, rfl⟩ := List.getElem_of_mem h
  rw [List.length_drop] at hi
  exact ⟨k + i, by omega, by omega, by simp [List.getD, List.getElem?_eq_getElem (show k + i < vs.length by omega)]⟩
theorem insV_srt {vs : List VerP} (hs : Srt vs) {v : VerP} (hf : bsF vs v = false) : Srt (insV vs v) := by
  unfold insV Srt
  rw [List.append_assoc]
  refine List.pairwise_append.2 ⟨hs.sublist (List.take_sublist _ _), ?_, ?_⟩
  · rw [List.singleton_append]
    refine List.pairwise_cons.2 ⟨?_, hs.sublist (List.drop_sublist _ _)⟩
    intro y hy
    obtain ⟨i, h1, h2, rfl⟩ := drop_getD hy
    have h3 := bsK_hi hs v i h1 h2
    rcases ltV_tri v (vs.getD i default) with h | h | h
    · exact h
    · have : bsF vs v = true := (bsF_iff hs v).2 ⟨_, getD_mem' h2, by unfold sameV at *; omega⟩
      rw [this] at hf; cases hf
    · exact absurd h h3
  · intro x hx y hy
    obtain ⟨i, h1, h2, rfl⟩ := take_getD hx
    have h3 := bsK_lo hs v i h1
    simp only [List.singleton_append, List.mem_cons] at hy
    rcases hy with rfl | hy
    · exact h3
    · obtain ⟨j, h4, h5, rfl⟩ := drop_getD hy
      exact srt_lt hs (by omega) h5
theorem srt_uniq {vs : List VerP} (hs : Srt vs) {x y : VerP} (hx : x ∈ vs) (hy : y ∈ vs) : x = y ∨ ltV x y ∨ ltV y x := by
  obtain ⟨i, hi, rfl⟩ := mem_getD hx
  obtain ⟨j, hj, rfl⟩ := mem_getD hy
  by_cases e : i = j
  · subst e; exact .inl rfl
  · by_cases e2 : i < j
    · exact .inr (.inl (srt_lt hs e2 hj))
    · exact .inr (.inr (srt_lt hs (by omega) hi))
/-- the last of a sorted list at which a test holds -/
theorem rfind_some {p : VerP → Bool} {vs : List VerP} (hs : Srt vs) {x : VerP} : vs.reverse.find? p = some x ↔ x ∈ vs ∧ p x = true ∧ ∀ y ∈ vs, p y = true → y = x ∨ ltV y x := by
  induction vs with
  | nil => simp
  | cons a l ih =>
    have hs' : Srt l := (List.pairwise_cons.1 hs).2
    have ha := (List.pairwise_cons.1 hs).1
    rw [List.reverse_cons, List.find?_append]
    have ih := ih hs'
    cases hf : l.reverse.find? p with
    | some z =>
      rw [hf] at ih
      simp only [Option.some_or, Option.some.injEq] at ih ⊢
      constructor
      · intro e
        obtain ⟨h1, h2, h3⟩ := ih.1 e
        refine ⟨List.mem_cons_of_mem _ h1, h2, ?_⟩
        intro y hy hp
        rcases List.mem_cons.1 hy with rfl | hy
        · exact .inr (ha x h1)
        · exact h3 y hy hp
      · rintro ⟨h1, h2, h3⟩
        refine ih.2 ?_
        rcases List.mem_cons.1 h1 with rfl | h1
        · have hz : z ∈ l ∧ p z = true := ⟨List.mem_reverse.1 (List.mem_of_find?_eq_some hf), List.find?_some hf⟩
          rcases h3 z (List.mem_cons_of_mem _ hz.1) hz.2 with e | e
          · subst e; exact absurd (ha z hz.1) (fun h => ltV_irr h h)
          · exact absurd e (fun h => ltV_irr h (ha z hz.1))
        · exact ⟨h1, h2, fun y hy => h3 y (List.mem_cons_of_mem _ hy)⟩
    | none =>
      have hn : ∀ y ∈ l, p y = false := fun y hy => by
        have := List.find?_eq_none.1 hf y (List.mem_reverse.2 hy)
        simpa using this
      simp only [Option.none_or]
      constructor
      · intro e
        have hpx := List.find?_some e
        have hmx := List.mem_of_find?_eq_some e
        simp only [List.mem_singleton] at hmx
        subst hmx
        refine ⟨by simp, hpx, ?_⟩
        intro y hy hp
        rcases List.mem_cons.1 hy with rfl | hy
        · exact .inl rfl
        · rw [hn y hy] at hp; cases hp
      · rintro ⟨h1, h2, h3⟩
        rcases List.mem_cons.1 h1 with rfl | h1
        · simp [h2]
        · rw [hn x h1] at h2; cases h2
theorem find_some {a0 a1 a2 a3 : Int} {vs : List VerP} (hs : Srt vs) {x : VerP} : findV a0 a1 a2 a3 vs = some x ↔ x ∈ vs ∧ seenV a0 a1 a2 a3 x = true ∧ ∀ y ∈ vs, seenV a0 a1 a2 a3 y = true → y = x ∨ ltV y x := rfind_some hs
theorem find_none {a0 a1 a2 a3 : Int} {vs : List VerP} : findV a0 a1 a2 a3 vs = none ↔ ∀ x ∈ vs, seenV a0 a1 a2 a3 x = false := by
  unfold findV
  rw [List.find?_eq_none]
  constructor
  · intro h x hx; simpa using h x (List.mem_reverse.2 hx)
  · intro h x hx; simpa using h x (List.mem_reverse.1 hx)
/-- a part of a list that holds, of each seen version, it or a later seen one, reads the same -/
theorem find_dom {a0 a1 a2 a3 : Int} {vs us : List VerP} (hv : Srt vs) (hu : Srt us) (hsub : ∀ x ∈ us, x ∈ vs) (hd : ∀ x ∈ vs, seenV a0 a1 a2 a3 x = true → ∃ y ∈ us, seenV a0 a1 a2 a3 y = true ∧ (x = y ∨ ltV x y)) : findV a0 a1 a2 a3 us = findV a0 a1 a2 a3 vs := by
  cases hf : findV a0 a1 a2 a3 vs with
  | none =>
    rw [find_none] at hf ⊢
    exact fun x hx => hf x (hsub x hx)
  | some x =>
    rw [find_some hv] at hf
    rw [find_some hu]
    obtain ⟨h1, h2, h3⟩ := hf
    obtain ⟨y, hy, hys, hxy⟩ := hd x h1 h2
    have e : x = y := by
      rcases h3 y (hsub y hy) hys with e | e
      · exact e.symm
      · rcases hxy with e2 | e2
        · exact e2
        · exact absurd e (fun h => ltV_irr h e2)
    subst e
    exact ⟨hy, h2, fun z hz => h3 z (hsub z hz)⟩

theorem lastGo_spec (a0 a1 a2 a3 : Int) : ∀ (l : List VerP) (i z : Int), z < i → ((lastGo a0 a1 a2 a3 l i z = z ∧ ∀ x ∈ l, seenV a0 a1 a2 a3 x = false) ∨
    (∃ j, j < l.length ∧ lastGo a0 a1 a2 a3 l i z = i + j ∧ seenV a0 a1 a2 a3 (l.getD j default) = true ∧ ∀ k, j < k → k < l.length → seenV a0 a1 a2 a3 (l.getD k default) = false))
  | [], i, z, h => .inl ⟨rfl, fun x hx => by cases hx⟩
  | v :: l, i, z, h => by
    unfold lastGo
    by_cases hv : seenV a0 a1 a2 a3 v = true
    · rw [if_pos hv]
      rcases lastGo_spec a0 a1 a2 a3 l (i + 1) i (by omega) with ⟨h1, h2⟩ | ⟨j, h1, h2, h3, h4⟩
      · refine .inr ⟨0, by simp, by rw [h1]; simp, by simpa using hv, ?_⟩
        intro k hk hl
        obtain ⟨k, rfl⟩ : ∃ k', k = k' + 1 := ⟨k - 1, by omega⟩
        simp only [List.length_cons] at hl
        rw [List.getD_cons_succ]
        exact h2 _ (getD_mem' (by omega))
      · refine .inr ⟨j + 1, by simp; omega, by rw [h2]; simp; omega, by simpa using h3, ?_⟩
        intro k hk hl
        obtain ⟨k, rfl⟩ : ∃ k', k = k' + 1 := ⟨k - 1, by omega⟩
        simp only [List.length_cons] at hl
        rw [List.getD_cons_succ]
        exact h4 k (by omega) (by omega)
    · rw [if_neg hv]
      rcases lastGo_spec a0 a1 a2 a3 l (i + 1) z (by omega) with ⟨h1, h2⟩ | ⟨j, h1, h2, h3, h4⟩
      · refine .inl ⟨h1, ?_⟩
        intro x hx
        rcases List.mem_cons.1 hx with rfl | hx
        · simpa using hv
        · exact h2 x hx
      · refine .inr ⟨j + 1, by simp; omega, by rw [h2]; simp; omega, by simpa using h3, ?_⟩
        intro k hk hl
        obtain ⟨k, rfl⟩ : ∃ k', k = k' + 1 := ⟨k - 1, by omega⟩
        simp only [List.length_cons] at hl
        rw [List.getD_cons_succ]
        exact h4 k (by omega) (by omega)
theorem keepGo_mem (a0 a1 a2 a3 z : Int) (x : VerP) : ∀ (l : List VerP) (i : Int), x ∈ keepGo a0 a1 a2 a3 z l i ↔ ∃ j, j < l.length ∧ l.getD j default = x ∧ (z ≤ i + j ∨ seenV a0 a1 a2 a3 x = false)
  | [], i => by simp [keepGo]
  | v :: l, i => by
    have ih := keepGo_mem a0 a1 a2 a3 z x l (i + 1)
    have step : (∃ j, j < (v :: l).length ∧ (v :: l).getD j default = x ∧ (z ≤ i + j ∨ seenV a0 a1 a2 a3 x = false)) ↔ ((v = x ∧ (z ≤ i ∨ seenV a0 a1 a2 a3 x = false)) ∨ x ∈ keepGo a0 a1 a2 a3 z l (i + 1)) := by
      rw [ih]
      constructor
      · rintro ⟨j, h1, h2, h3⟩
        cases j with
        | zero => exact .inl ⟨by simpa using h2, by simpa using h3⟩
        | succ j => exact .inr ⟨j, by simpa using h1, by simpa using h2, h3.imp (fun h => by simp at h; omega) id⟩
      · rintro (⟨h1, h2⟩ | ⟨j, h1, h2, h3⟩)
        · exact ⟨0, by simp, by simpa using h1, by simpa using h2⟩
        · exact ⟨j + 1, by simpa using h1, by simpa using h2, h3.imp (fun h => by simp; omega) id⟩
    rw [step, show keepGo a0 a1 a2 a3 z (v :: l) i = if z ≤ i ∨ seenV a0 a1 a2 a3 v = false then v :: keepGo a0 a1 a2 a3 z l (i + 1) else keepGo a0 a1 a2 a3 z l (i + 1) from rfl]
    split
    · rename_i h
      rw [List.mem_cons]
      constructor
      · rintro (rfl | h2)
        · exact .inl ⟨rfl, h⟩
        · exact .inr h2
      · rintro (⟨rfl, _⟩ | h2)
        · exact .inl rfl
        · exact .inr h2
    · rename_i h
      constructor
      · exact .inr
      · rintro (⟨rfl, h2⟩ | h2)
        · exact absurd h2 h
        · exact h2
theorem keepGo_sublist (a0 a1 a2 a3 z : Int) : ∀ (l : List VerP) (i : Int), (keepGo a0 a1 a2 a3 z l i).Sublist l
  | [], _ => by simp [keepGo]
  | v :: l, i => by
    unfold keepGo
    split
    · exact (keepGo_sublist a0 a1 a2 a3 z l (i + 1)).cons_cons _
    · exact (keepGo_sublist a0 a1 a2 a3 z l (i + 1)).cons _
theorem sweepV_srt {a0 a1 a2 a3 : Int} {vs : List VerP} (h : Srt vs) : Srt (sweepV a0 a1 a2 a3 vs) := h.sublist (keepGo_sublist _ _ _ _ _ _ _)
theorem sweepV_len (a0 a1 a2 a3 : Int) (vs : List VerP) : (sweepV a0 a1 a2 a3 vs).length ≤ vs.length := keepGo_len _ _ _ _ _ _ _
theorem sweepV_sub {a0 a1 a2 a3 : Int} {vs : List VerP} {x : VerP} (h : x ∈ sweepV a0 a1 a2 a3 vs) : x ∈ vs := keepGo_sub _ _ _ _ _ _ _ _ h
theorem sweepV_iff {a0 a1 a2 a3 : Int} {vs : List VerP} (hs : Srt vs) (x : VerP) : x ∈ sweepV a0 a1 a2 a3 vs ↔ x ∈ vs ∧ (seenV a0 a1 a2 a3 x = false ∨ ∀ y ∈ vs, seenV a0 a1 a2 a3 y = true → y = x ∨ ltV y x) := by
  unfold sweepV
  rw [keepGo_mem]
  rcases lastGo_spec a0 a1 a2 a3 vs 0 (-1) (by omega) with ⟨h1, h2⟩ | ⟨j, h1, h2, h3, h4⟩
  · rw [h1]
    constructor
    · rintro ⟨k, hk, rfl, _⟩
      exact ⟨getD_mem' hk, .inl (h2 _ (getD_mem' hk))⟩
    · rintro ⟨hx, _⟩
      obtain ⟨k, hk, rfl⟩ := mem_getD hx
      exact ⟨k, hk, rfl, .inr (h2 _ hx)⟩
  · rw [h2]
    constructor
    · rintro ⟨k, hk, rfl, h⟩
      refine ⟨getD_mem' hk, ?_⟩
      rcases h with h | h
      · by_cases e : k = j
        · subst e
          refine .inr fun y hy hys => ?_
          obtain ⟨m, hm, rfl⟩ := mem_getD hy
          have : ¬ k < m := fun h' => by rw [h4 m h' hm] at hys; cases hys
          by_cases e : m = k
          · subst e; exact .inl rfl
          · exact .inr (srt_lt hs (by omega) hk)
        · exact .inl (h4 k (by omega) hk)
      · exact .inl h
    · rintro ⟨hx, h⟩
      obtain ⟨k, hk, rfl⟩ := mem_getD hx
      refine ⟨k, hk, rfl, ?_⟩
      rcases h with h | h
      · exact .inr h
      · rcases h _ (getD_mem' h1) h3 with e | e
        · by_cases e2 : j ≤ k
          · exact .inl (by omega)
          · have := srt_lt hs (show k < j by omega) h1
            rw [e] at this
            exact absurd this (fun h => ltV_irr h h)
        · by_cases e2 : j ≤ k
          · exact .inl (by omega)
          · exact absurd e (fun h => ltV_irr h (srt_lt hs (show k < j by omega) h1))
theorem sweepV_dom {a0 a1 a2 a3 : Int} {vs : List VerP} (hs : Srt vs) {x : VerP} (hx : x ∈ vs) : ∃ y ∈ sweepV a0 a1 a2 a3 vs, x = y ∨ (seenV a0 a1 a2 a3 y = true ∧ ltV x y) := by
  by_cases h : seenV a0 a1 a2 a3 x = true
  · cases hf : findV a0 a1 a2 a3 vs with
    | none => rw [find_none] at hf; rw [hf x hx] at h; cases h
    | some y =>
      rw [find_some hs] at hf
      obtain ⟨h1, h2, h3⟩ := hf
      exact ⟨y, (sweepV_iff hs y).2 ⟨h1, .inr h3⟩, (h3 x hx h).imp id (fun e => ⟨h2, e⟩)⟩
  · exact ⟨x, (sweepV_iff hs x).2 ⟨hx, .inl (by simpa using h)⟩, .inl rfl⟩

structure PtP where
  key : Int
  v : VerP
instance : Inhabited PtP := ⟨⟨0, default⟩⟩
def okP (p : PtP) : Bool := decide (0 ≤ p.key) && decide (p.key < 8) && rightV p.v
def sameB (p q : PtP) : Bool := p.key == q.key && (p.v.w == q.v.w && p.v.c == q.v.c) && p.v.site == q.v.site
def putP (S : Nat → List VerP) (p : PtP) : Nat → List VerP := (putR S p.key p.v).2
/-- a store into which the first n of a row of puts are put -/
def sAt (g : Nat → PtP) : Nat → Nat → List VerP
  | 0 => fun _ => []
  | i + 1 => putP (sAt g i) (g i)
def sweepS (a0 a1 a2 a3 : Int) (S : Nat → List VerP) : Nat → List VerP := fun k => sweepV a0 a1 a2 a3 (S k)
/-- the same, swept once at a place -/
def bAt (a0 a1 a2 a3 : Int) (when : Nat) (g : Nat → PtP) : Nat → Nat → List VerP
  | 0 => fun _ => []
  | i + 1 => putP (if i = when then sweepS a0 a1 a2 a3 (bAt a0 a1 a2 a3 when g i) else bAt a0 a1 a2 a3 when g i) (g i)
def twI (g : Nat → PtP) (i : Nat) : Nat → Bool
  | 0 => false
  | j + 1 => twI g i j || sameB (g i) (g j)
def twO (g : Nat → PtP) : Nat → Bool
  | 0 => false
  | i + 1 => twO g i || twI g i i
def NoTw (g : Nat → PtP) (n : Nat) : Prop := ∀ i j, i < n → j < n → i ≠ j → (g i).key = (g j).key → ¬ sameV (g i).v (g j).v
theorem sameB_iff (p q : PtP) : sameB p q = true ↔ (p.key = q.key ∧ sameV p.v q.v) := by
  unfold sameB sameV
  simp only [Bool.and_eq_true, beq_iff_eq]
  constructor
  · rintro ⟨⟨h1, h2, h3⟩, h4⟩; exact ⟨h1, h2, h3, h4⟩
  · rintro ⟨h1, h2, h3, h4⟩; exact ⟨⟨h1, h2, h3⟩, h4⟩
theorem twI_no {g : Nat → PtP} {i : Nat} : ∀ {n : Nat}, twI g i n = false → ∀ j, j < n → sameB (g i) (g j) = false
  | 0, _, j, h => by omega
  | n + 1, hh, j, h => by
    unfold twI at hh
    rw [Bool.or_eq_false_iff] at hh
    by_cases e : j = n
    · subst e; exact hh.2
    · exact twI_no hh.1 j (by omega)
theorem twO_no {g : Nat → PtP} : ∀ {n : Nat}, twO g n = false → ∀ i j, i < n → j < i → sameB (g i) (g j) = false
  | 0, _, i, j, h, _ => by omega
  | n + 1, hh, i, j, h, hj => by
    unfold twO at hh
    rw [Bool.or_eq_false_iff] at hh
    by_cases e : i = n
    · subst e; exact twI_no hh.2 j hj
    · exact twO_no hh.1 i j (by omega) hj
theorem noTw_of {g : Nat → PtP} {n : Nat} (h : twO g n = false) : NoTw g n := by
  intro i j hi hj hne hk hs
  by_cases e : j < i
  · have := twO_no h i j hi e
    rw [(sameB_iff _ _).2 ⟨hk, hs⟩] at this; cases this
  · have := twO_no h j i hj (by omega)
    rw [(sameB_iff _ _).2 ⟨hk.symm, by unfold sameV at *; omega⟩] at this; cases this
theorem okP_iff (p : PtP) : okP p = true ↔ (0 ≤ p.key ∧ p.key < 8 ∧ rightV p.v = true) := by
  unfold okP
  simp only [Bool.and_eq_true, decide_eq_true_eq, and_assoc]
/-- one put: a version that may be, of which there is none of the stamp and site, is there then; any other leaves all as it was -/
theorem putP_no {S : Nat → List VerP} {p : PtP} (h : okP p = false) : putP S p = S := by
  unfold putP putR
  split
  · rfl
  · split
    · rfl
    · rename_i h1 h2
      have : okP p = true := (okP_iff p).2 ⟨by omega, by omega, by simpa using h2⟩
      rw [this] at h; cases h
theorem putP_yes {S : Nat → List VerP} {p : PtP} (h : okP p = true) (hf : bsF (S p.key.toNat) p.v = false) (k : Nat) : putP S p k = if k = p.key.toNat then insV (S k) p.v else S k := by
  obtain ⟨h1, h2, h3⟩ := (okP_iff p).1 h
  unfold putP putR
  rw [if_neg (by omega), if_neg (by rw [h3]; simp), hf]
  rfl
theorem putP_len (S : Nat → List VerP) (p : PtP) (k : Nat) : (putP S p k).length ≤ (S k).length + 1 := by
  unfold putP putR
  split
  · simp
  · split
    · simp
    · split
      · simp
      · simp only
        split
        · simp only [insV, List.length_append, List.length_take, List.length_drop, List.length_cons, List.length_nil]; omega
        · omega
theorem putP_site {S : Nat → List VerP} {p : PtP} {k : Nat} (h : ∀ x ∈ S k, 0 ≤ x.site ∧ x.site < 4) : ∀ x ∈ putP S p k, 0 ≤ x.site ∧ x.site < 4 := by
  unfold putP putR
  split
  · exact h
  · split
    · exact h
    · rename_i hr
      split
      · exact h
      · intro x hx
        simp only at hx
        split at hx
        · rcases (insV_mem _ _ _).1 hx with rfl | hx
          · have hr : rightV p.v = true := by simpa using hr
            unfold rightV at hr
            simp only [Bool.and_eq_true, decide_eq_true_eq] at hr
            omega
          · exact h x hx
        · exact h x hx
theorem Fit.put {S : Nat → List VerP} {N : Nat} (h : Fit S N) (p : PtP) : Fit (putP S p) (N + 1) := fun k hk =>
  ⟨putP_site (h k hk).1, Nat.le_trans (putP_len S p k) (by have := (h k hk).2; omega)⟩
theorem Fit.sweep {S : Nat → List VerP} {N : Nat} (h : Fit S N) (a0 a1 a2 a3 : Int) : Fit (sweepS a0 a1 a2 a3 S) N := fun k hk =>
  ⟨fun x hx => (h k hk).1 x (sweepV_sub hx), Nat.le_trans (sweepV_len _ _ _ _ _) (h k hk).2⟩
theorem Fit.nil (N : Nat) : Fit (fun _ => []) N := fun k hk => ⟨fun x hx => (by cases hx), by simp⟩
theorem Fit.mono {S : Nat → List VerP} {N M : Nat} (h : Fit S N) (hm : N ≤ M) : Fit S M := fun k hk => ⟨(h k hk).1, Nat.le_trans (h k hk).2 hm⟩
theorem sAt_fit (g : Nat → PtP) : ∀ n, Fit (sAt g n) n
  | 0 => Fit.nil 0
  | n + 1 => (sAt_fit g n).put (g n)
theorem bAt_fit (a0 a1 a2 a3 : Int) (when : Nat) (g : Nat → PtP) : ∀ n, Fit (bAt a0 a1 a2 a3 when g n) n
  | 0 => Fit.nil 0
  | n + 1 => by
    unfold bAt
    split
    · exact ((bAt_fit a0 a1 a2 a3 when g n).sweep _ _ _ _).put _
    · exact (bAt_fit a0 a1 a2 a3 when g n).put _

/-- what a store has: sorted rows of just the versions that may be -/
theorem sAt_spec {g : Nat → PtP} : ∀ {n : Nat}, NoTw g n → ∀ k, k < 8 → Srt (sAt g n k) ∧ ∀ x, x ∈ sAt g n k ↔ ∃ i, i < n ∧ okP (g i) = true ∧ (g i).key = k ∧ (g i).v = x
  | 0, _, k, hk => ⟨List.Pairwise.nil, fun x => by simp [sAt]⟩
  | n + 1, h, k, hk => by
    have ih := sAt_spec (g := g) (n := n) (fun i j hi hj => h i j (by omega) (by omega))
    cases ho : okP (g n) with
    | false =>
      have : sAt g (n + 1) = sAt g n := putP_no ho
      rw [this]
      refine ⟨(ih k hk).1, fun x => ((ih k hk).2 x).trans ?_⟩
      constructor
      · rintro ⟨i, h1, h2⟩; exact ⟨i, by omega, h2⟩
      · rintro ⟨i, h1, h2, h3⟩
        by_cases e : i = n
        · subst e; rw [ho] at h2; cases h2
        · exact ⟨i, by omega, h2, h3⟩
    | true =>
      obtain ⟨o1, o2, o3⟩ := (okP_iff _).1 ho
      have hkk : (g n).key.toNat < 8 := by omega
      have hf : bsF (sAt g n (g n).key.toNat) (g n).v = false := by
        rw [Bool.eq_false_iff]
        intro hb
        obtain ⟨y, hy, hs⟩ := (bsF_iff (ih _ hkk).1 _).1 hb
        obtain ⟨i, h1, h2, h3, rfl⟩ := ((ih _ hkk).2 y).1 hy
        exact h i n (by omega) (by omega) (by omega) (by omega) hs
      have he : sAt g (n + 1) k = if k = (g n).key.toNat then insV (sAt g n k) (g n).v else sAt g n k := putP_yes ho hf k
      rw [he]
      by_cases e : k = (g n).key.toNat
      · rw [if_pos e]
        have hf2 : bsF (sAt g n k) (g n).v = false := by rw [e]; exact hf
        refine ⟨insV_srt (ih k hk).1 hf2, fun x => (insV_mem _ _ _).trans ?_⟩
        rw [(ih k hk).2 x]
        constructor
        · rintro (rfl | ⟨i, h1, h2⟩)
          · exact ⟨n, by omega, ho, by omega, rfl⟩
          · exact ⟨i, by omega, h2⟩
        · rintro ⟨i, h1, h2, h3, h4⟩
          by_cases e : i = n
          · subst e; exact .inl h4.symm
          · exact .inr ⟨i, by omega, h2, h3, h4⟩
      · rw [if_neg e]
        refine ⟨(ih k hk).1, fun x => ((ih k hk).2 x).trans ?_⟩
        constructor
        · rintro ⟨i, h1, h2⟩; exact ⟨i, by omega, h2⟩
        · rintro ⟨i, h1, h2, h3, h4⟩
          by_cases e2 : i = n
          · subst e2; omega
          · exact ⟨i, by omega, h2, h3, h4⟩

/-- a swept row over a whole one: of each version it has it, or a later one that the sweeper had seen -/
def Dom (a0 a1 a2 a3 : Int) (us vs : List VerP) : Prop := Srt us ∧ (∀ x ∈ us, x ∈ vs) ∧ ∀ x ∈ vs, ∃ y ∈ us, x = y ∨ (seenV a0 a1 a2 a3 y = true ∧ ltV x y)
theorem Dom.sweep {a0 a1 a2 a3 : Int} {us vs : List VerP} (h : Dom a0 a1 a2 a3 us vs) : Dom a0 a1 a2 a3 (sweepV a0 a1 a2 a3 us) vs := by
  obtain ⟨h1, h2, h3⟩ := h
  refine ⟨sweepV_srt h1, fun x hx => h2 x (sweepV_sub hx), fun x hx => ?_⟩
  obtain ⟨y, hy, hxy⟩ := h3 x hx
  obtain ⟨z, hz, hyz⟩ := sweepV_dom (a0 := a0) (a1 := a1) (a2 := a2) (a3 := a3) h1 hy
  refine ⟨z, hz, ?_⟩
  rcases hyz with rfl | ⟨hyz1, hyz2⟩
  · exact hxy
  · rcases hxy with rfl | ⟨_, hxy2⟩
    · exact .inr ⟨hyz1, hyz2⟩
    · exact .inr ⟨hyz1, ltV_trans hxy2 hyz2⟩
theorem bAt_dom {a0 a1 a2 a3 : Int} {when : Nat} {g : Nat → PtP} : ∀ {n : Nat}, NoTw g n → ∀ k, k < 8 → Dom a0 a1 a2 a3 (bAt a0 a1 a2 a3 when g n k) (sAt g n k)
  | 0, _, k, hk => ⟨List.Pairwise.nil, fun x hx => (by simp [bAt] at hx), fun x hx => (by simp [sAt] at hx)⟩
  | n + 1, h, k, hk => by
    have h' : NoTw g n := fun i j hi hj => h i j (by omega) (by omega)
    have ih : ∀ k, k < 8 → Dom a0 a1 a2 a3 ((if n = when then sweepS a0 a1 a2 a3 (bAt a0 a1 a2 a3 when g n) else bAt a0 a1 a2 a3 when g n) k) (sAt g n k) := by
      intro k hk
      split
      · exact (bAt_dom h' k hk).sweep
      · exact bAt_dom h' k hk
    show Dom a0 a1 a2 a3 (putP (if n = when then sweepS a0 a1 a2 a3 (bAt a0 a1 a2 a3 when g n) else bAt a0 a1 a2 a3 when g n) (g n) k) (putP (sAt g n) (g n) k)
    generalize (if n = when then sweepS a0 a1 a2 a3 (bAt a0 a1 a2 a3 when g n) else bAt a0 a1 a2 a3 when g n) = T at *
    cases ho : okP (g n) with
    | false => rw [putP_no ho, putP_no ho]; exact ih k hk
    | true =>
      obtain ⟨o1, o2, o3⟩ := (okP_iff _).1 ho
      have hkk : (g n).key.toNat < 8 := by omega
      have hs := sAt_spec h' _ hkk
      have hno : ∀ y ∈ sAt g n (g n).key.toNat, ¬ sameV y (g n).v := by
        intro y hy hsm
        obtain ⟨i, h1, h2, h3, rfl⟩ := (hs.2 y).1 hy
        exact h i n (by omega) (by omega) (by omega) (by omega) hsm
      have hf : bsF (sAt g n (g n).key.toNat) (g n).v = false := by
        rw [Bool.eq_false_iff]
        intro hb
        obtain ⟨y, hy, hsm⟩ := (bsF_iff hs.1 _).1 hb
        exact hno y hy hsm
      have hf2 : bsF (T (g n).key.toNat) (g n).v = false := by
        rw [Bool.eq_false_iff]
        intro hb
        obtain ⟨y, hy, hsm⟩ := (bsF_iff (ih _ hkk).1 _).1 hb
        exact hno y ((ih _ hkk).2.1 y hy) hsm
      rw [putP_yes ho hf, putP_yes ho hf2]
      by_cases e : k = (g n).key.toNat
      · rw [if_pos e, if_pos e]
        obtain ⟨d1, d2, d3⟩ := ih k hk
        refine ⟨insV_srt d1 (by rw [e]; exact hf2), ?_, ?_⟩
        · intro x hx
          rw [insV_mem] at hx ⊢
          exact hx.imp id (d2 x)
        · intro x hx
          rcases (insV_mem _ _ _).1 hx with rfl | hx
          · exact ⟨_, (insV_mem _ _ _).2 (.inl rfl), .inl rfl⟩
          · obtain ⟨y, hy, hxy⟩ := d3 x hx
            exact ⟨y, (insV_mem _ _ _).2 (.inr hy), hxy⟩
      · rw [if_neg e, if_neg e]; exact ih k hk

theorem atV_le {a0 a1 a2 a3 m0 m1 m2 m3 : Int} (h0 : a0 ≤ m0) (h1 : a1 ≤ m1) (h2 : a2 ≤ m2) (h3 : a3 ≤ m3) (s : Int) : atV a0 a1 a2 a3 s ≤ atV m0 m1 m2 m3 s := by
  unfold atV
  repeat' split
  all_goals omega
theorem seen_le {a0 a1 a2 a3 m0 m1 m2 m3 : Int} (h0 : a0 ≤ m0) (h1 : a1 ≤ m1) (h2 : a2 ≤ m2) (h3 : a3 ≤ m3) {x : VerP} (h : seenV a0 a1 a2 a3 x = true) : seenV m0 m1 m2 m3 x = true := by
  have := atV_le h0 h1 h2 h3 x.site
  unfold seenV at *
  rw [decide_eq_true_eq] at *
  omega
theorem dom_find {a0 a1 a2 a3 m0 m1 m2 m3 : Int} (h0 : a0 ≤ m0) (h1 : a1 ≤ m1) (h2 : a2 ≤ m2) (h3 : a3 ≤ m3) {us vs : List VerP} (hs : Srt vs) (h : Dom a0 a1 a2 a3 us vs) : findV m0 m1 m2 m3 us = findV m0 m1 m2 m3 vs := by
  refine find_dom hs h.1 h.2.1 fun x hx hsx => ?_
  obtain ⟨y, hy, hxy⟩ := h.2.2 x hx
  rcases hxy with rfl | ⟨hy1, hy2⟩
  · exact ⟨x, hy, hsx, .inl rfl⟩
  · exact ⟨y, hy, seen_le h0 h1 h2 h3 hy1, .inr hy2⟩
theorem readR_congr {m0 m1 m2 m3 : Int} {S T : Nat → List VerP} {key : Nat} (hk : key < 8) (h : findV m0 m1 m2 m3 (S key) = findV m0 m1 m2 m3 (T key)) : readR m0 m1 m2 m3 S key = readR m0 m1 m2 m3 T key := by
  unfold readR
  rw [show (key : Int).toNat = key from by omega, h]
theorem swept_b {a0 a1 a2 a3 m0 m1 m2 m3 : Int} (h0 : a0 ≤ m0) (h1 : a1 ≤ m1) (h2 : a2 ≤ m2) (h3 : a3 ≤ m3) {g : Nat → PtP} {n : Nat} (when : Nat) (hn : twO g n = false) {key : Nat} (hk : key < 8) :
    readR m0 m1 m2 m3 (sweepS a0 a1 a2 a3 (bAt a0 a1 a2 a3 when g n)) key = readR m0 m1 m2 m3 (sAt g n) key :=
  readR_congr hk (dom_find h0 h1 h2 h3 (sAt_spec (noTw_of hn) key hk).1 (bAt_dom (noTw_of hn) key hk).sweep)
theorem mod_ne {n t i j : Nat} (hi : i < n) (hj : j < n) (h : i ≠ j) : (i + t) % n ≠ (j + t) % n := by
  intro e
  have h1 := Nat.div_add_mod (i + t) n
  have h2 := Nat.div_add_mod (j + t) n
  rw [e] at h1
  generalize (j + t) % n = r at *
  generalize (i + t) / n = p at *
  generalize (j + t) / n = q at *
  rcases Nat.lt_trichotomy p q with hp | hp | hp
  · have : n * p + n ≤ n * q := by rw [← Nat.mul_succ]; exact Nat.mul_le_mul_left n hp
    omega
  · subst hp; omega
  · have : n * q + n ≤ n * p := by rw [← Nat.mul_succ]; exact Nat.mul_le_mul_left n hp
    omega
theorem mod_onto {n t i : Nat} (hi : i < n) : ∃ j, j < n ∧ (j + t) % n = i := by
  have ht : t % n < n := Nat.mod_lt _ (by omega)
  refine ⟨(i + (n - t % n)) % n, Nat.mod_lt _ (by omega), ?_⟩
  rw [Nat.mod_add_mod, Nat.add_assoc, Nat.add_comm (n - t % n) t, ← Nat.add_assoc]
  have h1 := Nat.div_add_mod t n
  rw [show i + t + (n - t % n) = i + n * (t / n) + n by omega, Nat.add_mod_right, Nat.add_mul_mod_self_left]
  exact Nat.mod_eq_of_lt hi
theorem swept_c {m0 m1 m2 m3 : Int} {g : Nat → PtP} {n : Nat} (t : Nat) (hn : twO g n = false) {key : Nat} (hk : key < 8) :
    readR m0 m1 m2 m3 (sAt (fun i => g ((i + t) % n)) n) key = readR m0 m1 m2 m3 (sAt g n) key := by
  have hg := noTw_of hn
  have hg2 : NoTw (fun i => g ((i + t) % n)) n := fun i j hi hj hne => hg _ _ (Nat.mod_lt _ (by omega)) (Nat.mod_lt _ (by omega)) (mod_ne hi hj hne)
  have h1 := sAt_spec hg key hk
  have h2 := sAt_spec hg2 key hk
  refine readR_congr hk (find_dom h1.1 h2.1 ?_ ?_)
  · intro x hx
    obtain ⟨i, hi, h⟩ := (h2.2 x).1 hx
    exact (h1.2 x).2 ⟨(i + t) % n, Nat.mod_lt _ (by omega), h⟩
  · intro x hx hs
    obtain ⟨i, hi, h⟩ := (h1.2 x).1 hx
    obtain ⟨j, hj, rfl⟩ := mod_onto (t := t) hi
    exact ⟨x, (h2.2 x).2 ⟨j, hj, h⟩, hs, .inl rfl⟩

theorem srt_ext : ∀ {us vs : List VerP}, Srt us → Srt vs → (∀ x, x ∈ us ↔ x ∈ vs) → us = vs
  | [], [], _, _, _ => rfl
  | [], v :: vs, _, _, h => by have := (h v).2 (by simp); cases this
  | u :: us, [], _, _, h => by have := (h u).1 (by simp); cases this
  | u :: us, v :: vs, hu, hv, h => by
    have hu1 := (List.pairwise_cons.1 hu).1
    have hv1 := (List.pairwise_cons.1 hv).1
    have e : u = v := by
      rcases List.mem_cons.1 ((h u).1 (by simp)) with e | e
      · exact e
      · rcases List.mem_cons.1 ((h v).2 (by simp)) with e2 | e2
        · exact e2.symm
        · exact (ltV_irr (hv1 u e) (hu1 v e2)).elim
    subst e
    congr 1
    refine srt_ext (List.pairwise_cons.1 hu).2 (List.pairwise_cons.1 hv).2 fun x => ?_
    constructor
    · intro hx
      rcases List.mem_cons.1 ((h x).1 (List.mem_cons_of_mem _ hx)) with e | e
      · subst e; exact (ltV_irr (hu1 x hx) (hu1 x hx)).elim
      · exact e
    · intro hx
      rcases List.mem_cons.1 ((h x).2 (List.mem_cons_of_mem _ hx)) with e | e
      · subst e; exact (ltV_irr (hv1 x hx) (hv1 x hx)).elim
      · exact e

end Go.Proofs.YtbopfhbeegkkaabGreatDoor
