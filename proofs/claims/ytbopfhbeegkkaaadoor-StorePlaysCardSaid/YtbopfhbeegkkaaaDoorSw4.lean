/- The plain law of StoreSwept: puts in whichever order, sweeps by what the reader has. -/
import Derived.Test.YtbopfhbeegkkaaaDoorSw3
namespace Go.Proofs.YtbopfhbeegkkaaaDoor

structure PtP where
  key : Int
  v : VerP
instance : Inhabited PtP := ⟨⟨0, default⟩⟩
def okP (p : PtP) : Bool := decide (0 ≤ p.key) && decide (p.key < 8) && rightV p.v
def sameB (p q : PtP) : Bool := p.key == q.key && (p.v.w == q.v.w && p.v.c == q.v.c) && p.v.site == q.v.site
def putP (S : Nat → List VerP) (p : PtP) : Nat → List VerP := (putR S p.key p.v).2
/-- a store into which the first n of a row of puts are put -/
def sAt (g : Nat → PtP) : Nat → Nat → List VerP
  | 0 => fun _ => []
  | i + 1 => putP (sAt g i) (g i)
def sweepS (a0 a1 a2 a3 : Int) (S : Nat → List VerP) : Nat → List VerP := fun k => sweepV a0 a1 a2 a3 (S k)
/-- the same, swept once at a place -/
def bAt (a0 a1 a2 a3 : Int) (when : Nat) (g : Nat → PtP) : Nat → Nat → List VerP
  | 0 => fun _ => []
  | i + 1 => putP (if i = when then sweepS a0 a1 a2 a3 (bAt a0 a1 a2 a3 when g i) else bAt a0 a1 a2 a3 when g i) (g i)
def twI (g : Nat → PtP) (i : Nat) : Nat → Bool
  | 0 => false
  | j + 1 => twI g i j || sameB (g i) (g j)
def twO (g : Nat → PtP) : Nat → Bool
  | 0 => false
  | i + 1 => twO g i || twI g i i
def NoTw (g : Nat → PtP) (n : Nat) : Prop := ∀ i j, i < n → j < n → i ≠ j → (g i).key = (g j).key → ¬ sameV (g i).v (g j).v
theorem sameB_iff (p q : PtP) : sameB p q = true ↔ (p.key = q.key ∧ sameV p.v q.v) := by
  unfold sameB sameV
  simp only [Bool.and_eq_true, beq_iff_eq]
  constructor
  · rintro ⟨⟨h1, h2, h3⟩, h4⟩; exact ⟨h1, h2, h3, h4⟩
  · rintro ⟨h1, h2, h3, h4⟩; exact ⟨⟨h1, h2, h3⟩, h4⟩
theorem twI_no {g : Nat → PtP} {i : Nat} : ∀ {n : Nat}, twI g i n = false → ∀ j, j < n → sameB (g i) (g j) = false
  | 0, _, j, h => by omega
  | n + 1, hh, j, h => by
    unfold twI at hh
    rw [Bool.or_eq_false_iff] at hh
    by_cases e : j = n
    · subst e; exact hh.2
    · exact twI_no hh.1 j (by omega)
theorem twO_no {g : Nat → PtP} : ∀ {n : Nat}, twO g n = false → ∀ i j, i < n → j < i → sameB (g i) (g j) = false
  | 0, _, i, j, h, _ => by omega
  | n + 1, hh, i, j, h, hj => by
    unfold twO at hh
    rw [Bool.or_eq_false_iff] at hh
    by_cases e : i = n
    · subst e; exact twI_no hh.2 j hj
    · exact twO_no hh.1 i j (by omega) hj
theorem noTw_of {g : Nat → PtP} {n : Nat} (h : twO g n = false) : NoTw g n := by
  intro i j hi hj hne hk hs
  by_cases e : j < i
  · have := twO_no h i j hi e
    rw [(sameB_iff _ _).2 ⟨hk, hs⟩] at this; cases this
  · have := twO_no h j i hj (by omega)
    rw [(sameB_iff _ _).2 ⟨hk.symm, by unfold sameV at *; omega⟩] at this; cases this
theorem okP_iff (p : PtP) : okP p = true ↔ (0 ≤ p.key ∧ p.key < 8 ∧ rightV p.v = true) := by
  unfold okP
  simp only [Bool.and_eq_true, decide_eq_true_eq, and_assoc]
/-- one put: a version that may be, of which there is none of the stamp and site, is there then; any other leaves all as it was -/
theorem putP_no {S : Nat → List VerP} {p : PtP} (h : okP p = false) : putP S p = S := by
  unfold putP putR
  split
  · rfl
  · split
    · rfl
    · rename_i h1 h2
      have : okP p = true := (okP_iff p).2 ⟨by omega, by omega, by simpa using h2⟩
      rw [this] at h; cases h
theorem putP_yes {S : Nat → List VerP} {p : PtP} (h : okP p = true) (hf : bsF (S p.key.toNat) p.v = false) (k : Nat) : putP S p k = if k = p.key.toNat then insV (S k) p.v else S k := by
  obtain ⟨h1, h2, h3⟩ := (okP_iff p).1 h
  unfold putP putR
  rw [if_neg (by omega), if_neg (by rw [h3]; simp), hf]
  rfl
theorem putP_len (S : Nat → List VerP) (p : PtP) (k : Nat) : (putP S p k).length ≤ (S k).length + 1 := by
  unfold putP putR
  split
  · simp
  · split
    · simp
    · split
      · simp
      · simp only
        split
        · simp only [insV, List.length_append, List.length_take, List.length_drop, List.length_cons, List.length_nil]; omega
        · omega
theorem putP_site {S : Nat → List VerP} {p : PtP} {k : Nat} (h : ∀ x ∈ S k, 0 ≤ x.site ∧ x.site < 4) : ∀ x ∈ putP S p k, 0 ≤ x.site ∧ x.site < 4 := by
  unfold putP putR
  split
  · exact h
  · split
    · exact h
    · rename_i hr
      split
      · exact h
      · intro x hx
        simp only at hx
        split at hx
        · rcases (insV_mem _ _ _).1 hx with rfl | hx
          · have hr : rightV p.v = true := by simpa using hr
            unfold rightV at hr
            simp only [Bool.and_eq_true, decide_eq_true_eq] at hr
            omega
          · exact h x hx
        · exact h x hx
theorem Fit.put {S : Nat → List VerP} {N : Nat} (h : Fit S N) (p : PtP) : Fit (putP S p) (N + 1) := fun k hk =>
  ⟨putP_site (h k hk).1, Nat.le_trans (putP_len S p k) (by have := (h k hk).2; omega)⟩
theorem Fit.sweep {S : Nat → List VerP} {N : Nat} (h : Fit S N) (a0 a1 a2 a3 : Int) : Fit (sweepS a0 a1 a2 a3 S) N := fun k hk =>
  ⟨fun x hx => (h k hk).1 x (sweepV_sub hx), Nat.le_trans (sweepV_len _ _ _ _ _) (h k hk).2⟩
theorem Fit.nil (N : Nat) : Fit (fun _ => []) N := fun k hk => ⟨fun x hx => (by cases hx), by simp⟩
theorem Fit.mono {S : Nat → List VerP} {N M : Nat} (h : Fit S N) (hm : N ≤ M) : Fit S M := fun k hk => ⟨(h k hk).1, Nat.le_trans (h k hk).2 hm⟩
theorem sAt_fit (g : Nat → PtP) : ∀ n, Fit (sAt g n) n
  | 0 => Fit.nil 0
  | n + 1 => (sAt_fit g n).put (g n)
theorem bAt_fit (a0 a1 a2 a3 : Int) (when : Nat) (g : Nat → PtP) : ∀ n, Fit (bAt a0 a1 a2 a3 when g n) n
  | 0 => Fit.nil 0
  | n + 1 => by
    unfold bAt
    split
    · exact ((bAt_fit a0 a1 a2 a3 when g n).sweep _ _ _ _).put _
    · exact (bAt_fit a0 a1 a2 a3 when g n).put _

/-- what a store has: sorted rows of just the versions that may be -/
theorem sAt_spec {g : Nat → PtP} : ∀ {n : Nat}, NoTw g n → ∀ k, k < 8 → Srt (sAt g n k) ∧ ∀ x, x ∈ sAt g n k ↔ ∃ i, i < n ∧ okP (g i) = true ∧ (g i).key = k ∧ (g i).v = x
  | 0, _, k, hk => ⟨List.Pairwise.nil, fun x => by simp [sAt]⟩
  | n + 1, h, k, hk => by
    have ih := sAt_spec (g := g) (n := n) (fun i j hi hj => h i j (by omega) (by omega))
    cases ho : okP (g n) with
    | false =>
      have : sAt g (n + 1) = sAt g n := putP_no ho
      rw [this]
      refine ⟨(ih k hk).1, fun x => ((ih k hk).2 x).trans ?_⟩
      constructor
      · rintro ⟨i, h1, h2⟩; exact ⟨i, by omega, h2⟩
      · rintro ⟨i, h1, h2, h3⟩
        by_cases e : i = n
        · subst e; rw [ho] at h2; cases h2
        · exact ⟨i, by omega, h2, h3⟩
    | true =>
      obtain ⟨o1, o2, o3⟩ := (okP_iff _).1 ho
      have hkk : (g n).key.toNat < 8 := by omega
      have hf : bsF (sAt g n (g n).key.toNat) (g n).v = false := by
        rw [Bool.eq_false_iff]
        intro hb
        obtain ⟨y, hy, hs⟩ := (bsF_iff (ih _ hkk).1 _).1 hb
        obtain ⟨i, h1, h2, h3, rfl⟩ := ((ih _ hkk).2 y).1 hy
        exact h i n (by omega) (by omega) (by omega) (by omega) hs
      have he : sAt g (n + 1) k = if k = (g n).key.toNat then insV (sAt g n k) (g n).v else sAt g n k := putP_yes ho hf k
      rw [he]
      by_cases e : k = (g n).key.toNat
      · rw [if_pos e]
        have hf2 : bsF (sAt g n k) (g n).v = false := by rw [e]; exact hf
        refine ⟨insV_srt (ih k hk).1 hf2, fun x => (insV_mem _ _ _).trans ?_⟩
        rw [(ih k hk).2 x]
        constructor
        · rintro (rfl | ⟨i, h1, h2⟩)
          · exact ⟨n, by omega, ho, by omega, rfl⟩
          · exact ⟨i, by omega, h2⟩
        · rintro ⟨i, h1, h2, h3, h4⟩
          by_cases e : i = n
          · subst e; exact .inl h4.symm
          · exact .inr ⟨i, by omega, h2, h3, h4⟩
      · rw [if_neg e]
        refine ⟨(ih k hk).1, fun x => ((ih k hk).2 x).trans ?_⟩
        constructor
        · rintro ⟨i, h1, h2⟩; exact ⟨i, by omega, h2⟩
        · rintro ⟨i, h1, h2, h3, h4⟩
          by_cases e2 : i = n
          · subst e2; omega
          · exact ⟨i, by omega, h2, h3, h4⟩

/-- a swept row over a whole one: of each version it has it, or a later one that the sweeper had seen -/
def Dom (a0 a1 a2 a3 : Int) (us vs : List VerP) : Prop := Srt us ∧ (∀ x ∈ us, x ∈ vs) ∧ ∀ x ∈ vs, ∃ y ∈ us, x = y ∨ (seenV a0 a1 a2 a3 y = true ∧ ltV x y)
theorem Dom.sweep {a0 a1 a2 a3 : Int} {us vs : List VerP} (h : Dom a0 a1 a2 a3 us vs) : Dom a0 a1 a2 a3 (sweepV a0 a1 a2 a3 us) vs := by
  obtain ⟨h1, h2, h3⟩ := h
  refine ⟨sweepV_srt h1, fun x hx => h2 x (sweepV_sub hx), fun x hx => ?_⟩
  obtain ⟨y, hy, hxy⟩ := h3 x hx
  obtain ⟨z, hz, hyz⟩ := sweepV_dom (a0 := a0) (a1 := a1) (a2 := a2) (a3 := a3) h1 hy
  refine ⟨z, hz, ?_⟩
  rcases hyz with rfl | ⟨hyz1, hyz2⟩
  · exact hxy
  · rcases hxy with rfl | ⟨_, hxy2⟩
    · exact .inr ⟨hyz1, hyz2⟩
    · exact .inr ⟨hyz1, ltV_trans hxy2 hyz2⟩
theorem bAt_dom {a0 a1 a2 a3 : Int} {when : Nat} {g : Nat → PtP} : ∀ {n : Nat}, NoTw g n → ∀ k, k < 8 → Dom a0 a1 a2 a3 (bAt a0 a1 a2 a3 when g n k) (sAt g n k)
  | 0, _, k, hk => ⟨List.Pairwise.nil, fun x hx => (by simp [bAt] at hx), fun x hx => (by simp [sAt] at hx)⟩
  | n + 1, h, k, hk => by
    have h' : NoTw g n := fun i j hi hj => h i j (by omega) (by omega)
    have ih : ∀ k, k < 8 → Dom a0 a1 a2 a3 ((if n = when then sweepS a0 a1 a2 a3 (bAt a0 a1 a2 a3 when g n) else bAt a0 a1 a2 a3 when g n) k) (sAt g n k) := by
      intro k hk
      split
      · exact (bAt_dom h' k hk).sweep
      · exact bAt_dom h' k hk
    show Dom a0 a1 a2 a3 (putP (if n = when then sweepS a0 a1 a2 a3 (bAt a0 a1 a2 a3 when g n) else bAt a0 a1 a2 a3 when g n) (g n) k) (putP (sAt g n) (g n) k)
    generalize (if n = when then sweepS a0 a1 a2 a3 (bAt a0 a1 a2 a3 when g n) else bAt a0 a1 a2 a3 when g n) = T at *
    cases ho : okP (g n) with
    | false => rw [putP_no ho, putP_no ho]; exact ih k hk
    | true =>
      obtain ⟨o1, o2, o3⟩ := (okP_iff _).1 ho
      have hkk : (g n).key.toNat < 8 := by omega
      have hs := sAt_spec h' _ hkk
      have hno : ∀ y ∈ sAt g n (g n).key.toNat, ¬ sameV y (g n).v := by
        intro y hy hsm
        obtain ⟨i, h1, h2, h3, rfl⟩ := (hs.2 y).1 hy
        exact h i n (by omega) (by omega) (by omega) (by omega) hsm
      have hf : bsF (sAt g n (g n).key.toNat) (g n).v = false := by
        rw [Bool.eq_false_iff]
        intro hb
        obtain ⟨y, hy, hsm⟩ := (bsF_iff hs.1 _).1 hb
        exact hno y hy hsm
      have hf2 : bsF (T (g n).key.toNat) (g n).v = false := by
        rw [Bool.eq_false_iff]
        intro hb
        obtain ⟨y, hy, hsm⟩ := (bsF_iff (ih _ hkk).1 _).1 hb
        exact hno y ((ih _ hkk).2.1 y hy) hsm
      rw [putP_yes ho hf, putP_yes ho hf2]
      by_cases e : k = (g n).key.toNat
      · rw [if_pos e, if_pos e]
        obtain ⟨d1, d2, d3⟩ := ih k hk
        refine ⟨insV_srt d1 (by rw [e]; exact hf2), ?_, ?_⟩
        · intro x hx
          rw [insV_mem] at hx ⊢
          exact hx.imp id (d2 x)
        · intro x hx
          rcases (insV_mem _ _ _).1 hx with rfl | hx
          · exact ⟨_, (insV_mem _ _ _).2 (.inl rfl), .inl rfl⟩
          · obtain ⟨y, hy, hxy⟩ := d3 x hx
            exact ⟨y, (insV_mem _ _ _).2 (.inr hy), hxy⟩
      · rw [if_neg e, if_neg e]; exact ih k hk

theorem atV_le {a0 a1 a2 a3 m0 m1 m2 m3 : Int} (h0 : a0 ≤ m0) (h1 : a1 ≤ m1) (h2 : a2 ≤ m2) (h3 : a3 ≤ m3) (s : Int) : atV a0 a1 a2 a3 s ≤ atV m0 m1 m2 m3 s := by
  unfold atV
  repeat' split
  all_goals omega
theorem seen_le {a0 a1 a2 a3 m0 m1 m2 m3 : Int} (h0 : a0 ≤ m0) (h1 : a1 ≤ m1) (h2 : a2 ≤ m2) (h3 : a3 ≤ m3) {x : VerP} (h : seenV a0 a1 a2 a3 x = true) : seenV m0 m1 m2 m3 x = true := by
  have := atV_le h0 h1 h2 h3 x.site
  unfold seenV at *
  rw [decide_eq_true_eq] at *
  omega
theorem dom_find {a0 a1 a2 a3 m0 m1 m2 m3 : Int} (h0 : a0 ≤ m0) (h1 : a1 ≤ m1) (h2 : a2 ≤ m2) (h3 : a3 ≤ m3) {us vs : List VerP} (hs : Srt vs) (h : Dom a0 a1 a2 a3 us vs) : findV m0 m1 m2 m3 us = findV m0 m1 m2 m3 vs := by
  refine find_dom hs h.1 h.2.1 fun x hx hsx => ?_
  obtain ⟨y, hy, hxy⟩ := h.2.2 x hx
  rcases hxy with rfl | ⟨hy1, hy2⟩
  · exact ⟨x, hy, hsx, .inl rfl⟩
  · exact ⟨y, hy, seen_le h0 h1 h2 h3 hy1, .inr hy2⟩
theorem readR_congr {m0 m1 m2 m3 : Int} {S T : Nat → List VerP} {key : Nat} (hk : key < 8) (h : findV m0 m1 m2 m3 (S key) = findV m0 m1 m2 m3 (T key)) : readR m0 m1 m2 m3 S key = readR m0 m1 m2 m3 T key := by
  unfold readR
  rw [show (key : Int).toNat = key from by omega, h]
theorem swept_b {a0 a1 a2 a3 m0 m1 m2 m3 : Int} (h0 : a0 ≤ m0) (h1 : a1 ≤ m1) (h2 : a2 ≤ m2) (h3 : a3 ≤ m3) {g : Nat → PtP} {n : Nat} (when : Nat) (hn : twO g n = false) {key : Nat} (hk : key < 8) :
    readR m0 m1 m2 m3 (sweepS a0 a1 a2 a3 (bAt a0 a1 a2 a3 when g n)) key = readR m0 m1 m2 m3 (sAt g n) key :=
  readR_congr hk (dom_find h0 h1 h2 h3 (sAt_spec (noTw_of hn) key hk).1 (bAt_dom (noTw_of hn) key hk).sweep)
theorem mod_ne {n t i j : Nat} (hi : i < n) (hj : j < n) (h : i ≠ j) : (i + t) % n ≠ (j + t) % n := by
  intro e
  have h1 := Nat.div_add_mod (i + t) n
  have h2 := Nat.div_add_mod (j + t) n
  rw [e] at h1
  generalize (j + t) % n = r at *
  generalize (i + t) / n = p at *
  generalize (j + t) / n = q at *
  rcases Nat.lt_trichotomy p q with hp | hp | hp
  · have : n * p + n ≤ n * q := by rw [← Nat.mul_succ]; exact Nat.mul_le_mul_left n hp
    omega
  · subst hp; omega
  · have : n * q + n ≤ n * p := by rw [← Nat.mul_succ]; exact Nat.mul_le_mul_left n hp
    omega
theorem mod_onto {n t i : Nat} (hi : i < n) : ∃ j, j < n ∧ (j + t) % n = i := by
  have ht : t % n < n := Nat.mod_lt _ (by omega)
  refine ⟨(i + (n - t % n)) % n, Nat.mod_lt _ (by omega), ?_⟩
  rw [Nat.mod_add_mod, Nat.add_assoc, Nat.add_comm (n - t % n) t, ← Nat.add_assoc]
  have h1 := Nat.div_add_mod t n
  rw [show i + t + (n - t % n) = i + n * (t / n) + n by omega, Nat.add_mod_right, Nat.add_mul_mod_self_left]
  exact Nat.mod_eq_of_lt hi
theorem swept_c {m0 m1 m2 m3 : Int} {g : Nat → PtP} {n : Nat} (t : Nat) (hn : twO g n = false) {key : Nat} (hk : key < 8) :
    readR m0 m1 m2 m3 (sAt (fun i => g ((i + t) % n)) n) key = readR m0 m1 m2 m3 (sAt g n) key := by
  have hg := noTw_of hn
  have hg2 : NoTw (fun i => g ((i + t) % n)) n := fun i j hi hj hne => hg _ _ (Nat.mod_lt _ (by omega)) (Nat.mod_lt _ (by omega)) (mod_ne hi hj hne)
  have h1 := sAt_spec hg key hk
  have h2 := sAt_spec hg2 key hk
  refine readR_congr hk (find_dom h1.1 h2.1 ?_ ?_)
  · intro x hx
    obtain ⟨i, hi, h⟩ := (h2.2 x).1 hx
    exact (h1.2 x).2 ⟨(i + t) % n, Nat.mod_lt _ (by omega), h⟩
  · intro x hx hs
    obtain ⟨i, hi, h⟩ := (h1.2 x).1 hx
    obtain ⟨j, hj, rfl⟩ := mod_onto (t := t) hi
    exact ⟨x, (h2.2 x).2 ⟨j, hj, h⟩, hs, .inl rfl⟩
end Go.Proofs.YtbopfhbeegkkaaaDoor
