/- Part 4 of a proof: lemmas and contracts that other parts use. -/
import Derived.Test.YtbopfhbeegkkaabGreatDoorSiM3
set_option linter.unusedVariables false
set_option linter.unusedSimpArgs false
namespace Go.Proofs.YtbopfhbeegkkaabGreatDoor

structure WrP where
  key : Int
  data : ByteArray
  gone : Bool

structure TxP where
  site : Int
  seq : Int
  wall : Int
  count : Int
  d0 : Int
  d1 : Int
  d2 : Int
  d3 : Int
  ws : List WrP

def okN (z : Int) : Bool := decide (0 ≤ z ∧ z ≤ 1099511627776)
def badW (last : Int) (w : WrP) : Bool := decide (w.key ≤ last) || decide (8 ≤ w.key) || decide (12 < w.data.size) || (w.gone && decide (w.data.size ≠ 0))
def rwGo : Int → List WrP → Bool
  | _, [] => true
  | last, w :: ws => if badW last w = true then false else rwGo w.key ws
def rightWs (l : List WrP) : Bool := rwGo (-1) l && decide (1 ≤ l.length) && decide (l.length ≤ 5)
def depAt (t : TxP) : Int := if t.site = 0 then t.d0 else if t.site = 1 then t.d1 else if t.site = 2 then t.d2 else t.d3
def headTx (t : TxP) : Bool := decide (0 ≤ t.site ∧ t.site < 4) && decide (1 ≤ t.seq ∧ t.seq ≤ 1099511627776) && okN t.wall && okN t.count && (okN t.d0 && okN t.d1 && okN t.d2 && okN t.d3) && decide (depAt t = t.seq - 1)
def rightTx (t : TxP) : Bool := headTx t && rightWs t.ws

def goneN (b : Bool) : Nat := if b then 1 else 0
def wrB (w : WrP) : List UInt8 := numsB [w.key.toNat, goneN w.gone, w.data.size] ++ w.data.data.toList
def txB (t : TxP) : List UInt8 :=
  116 :: (numsB [t.site.toNat, t.seq.toNat, t.wall.toNat, t.count.toNat] ++ numsB [t.d0.toNat, t.d1.toNat, t.d2.toNat, t.d3.toNat] ++ numsB [t.ws.length] ++ t.ws.flatMap wrB)
def askB (s a0 a1 a2 a3 : Int) : List UInt8 := 97 :: (numsB [s.toNat] ++ numsB [a0.toNat, a1.toNat, a2.toNat, a3.toNat])

/-! the reader: what is left, and whether something was wrong -/
structure Rd where
  l : List UInt8
  bad : Bool

def numR (r : Rd) : Nat × Rd := match rdNum r.l with
  | some (n, l) => (n, ⟨l, r.bad⟩)
  | none => (0, ⟨r.l, true⟩)
def textR (r : Rd) : ByteArray × Rd :=
  if (numR r).2.l.length < (numR r).1 then (⟨#[]⟩, ⟨(numR r).2.l, true⟩)
  else (⟨((numR r).2.l.take (numR r).1).toArray⟩, ⟨(numR r).2.l.drop (numR r).1, (numR r).2.bad⟩)
def beginR (c : UInt8) (b : List UInt8) : Rd := match b with
  | [] => ⟨[], true⟩
  | x :: l => if x = c then ⟨l, false⟩ else ⟨[], true⟩
/-- one write; the last two: how many were there, and the reader behind it -/
def wrR (r : Rd) : WrP × Nat × Rd :=
  ((⟨(numR r).1, (textR (numR (numR r).2).2).1, decide ((numR (numR r).2).1 = 1)⟩ : WrP), (numR (numR r).2).1, (textR (numR (numR r).2).2).2)
def wrsR : Nat → List WrP → Rd → List WrP × Rd
  | 0, ws, r => (ws, r)
  | n + 1, ws, r => if r.bad then (ws, r) else
    wrsR n (ws ++ [(wrR r).1]) ⟨(wrR r).2.2.l, (wrR r).2.2.bad || decide (1 < (wrR r).2.1) || decide (5 ≤ ws.length)⟩
def numR4 (r : Rd) : (Nat × Nat × Nat × Nat) × Rd :=
  (((numR r).1, (numR (numR r).2).1, (numR (numR (numR r).2).2).1, (numR (numR (numR (numR r).2).2).2).1), (numR (numR (numR (numR r).2).2).2).2)
def txOf (h d : Nat × Nat × Nat × Nat) (ws : List WrP) : TxP := ⟨h.1, h.2.1, h.2.2.1, h.2.2.2, d.1, d.2.1, d.2.2.1, d.2.2.2, ws⟩
def rawTx (r : Rd) : TxP × Rd :=
  (txOf (numR4 r).1 (numR4 (numR4 r).2).1 (wrsR (numR (numR4 (numR4 r).2).2).1 [] (numR (numR4 (numR4 r).2).2).2).1, (wrsR (numR (numR4 (numR4 r).2).2).1 [] (numR (numR4 (numR4 r).2).2).2).2)
def decTx (b : List UInt8) : Option TxP :=
  if (rawTx (beginR 116 b)).2.bad || !(rawTx (beginR 116 b)).2.l.isEmpty || !rightTx (rawTx (beginR 116 b)).1 then none else some (rawTx (beginR 116 b)).1
def rawAsk (r : Rd) : (Nat × (Nat × Nat × Nat × Nat)) × Rd := (((numR r).1, (numR4 (numR r).2).1), (numR4 (numR r).2).2)
def decAsk (b : List UInt8) : Option (Nat × (Nat × Nat × Nat × Nat)) :=
  if (rawAsk (beginR 97 b)).2.bad || !(rawAsk (beginR 97 b)).2.l.isEmpty || decide (4 ≤ (rawAsk (beginR 97 b)).1.1) then none else some (rawAsk (beginR 97 b)).1

/-! forth: what is written is read -/
theorem numR_numB (z : Nat) (s : List UInt8) (b : Bool) (h : z ≤ 1099511627776) : numR ⟨numB z ++ s, b⟩ = (z, ⟨s, b⟩) := by
  unfold numR; rw [rdNum_numB z s h]
theorem numR4_numsB (x y z u : Nat) (s : List UInt8) (b : Bool) (hx : x ≤ 1099511627776) (hy : y ≤ 1099511627776) (hz : z ≤ 1099511627776) (hu : u ≤ 1099511627776) :
    numR4 ⟨numsB [x, y, z, u] ++ s, b⟩ = ((x, y, z, u), ⟨s, b⟩) := by
  have e : numsB [x, y, z, u] ++ s = numB x ++ (numB y ++ (numB z ++ (numB u ++ s))) := by simp [numsB]
  unfold numR4
  simp only [e, numR_numB x _ b hx, numR_numB y _ b hy, numR_numB z _ b hz, numR_numB u _ b hu]
theorem ba_ext {x y : ByteArray} (h : x.data = y.data) : x = y := by cases x; cases y; cases h; rfl
theorem ba_size (x : ByteArray) : x.size = x.data.toList.length := by rw [Array.length_toList]; rfl
theorem textR_B (d : ByteArray) (s : List UInt8) (b : Bool) (h : d.size ≤ 1099511627776) : textR ⟨numB d.size ++ (d.data.toList ++ s), b⟩ = (d, ⟨s, b⟩) := by
  unfold textR
  rw [numR_numB _ _ _ h]
  have hl : (d.data.toList ++ s).length = d.size + s.length := by rw [List.length_append, ba_size]
  simp only [hl]
  rw [if_neg (by omega), ba_size, List.take_left, List.drop_left]
theorem wrR_B (w : WrP) (s : List UInt8) (b : Bool) (hk : 0 ≤ w.key ∧ w.key < 8) (hd : w.data.size ≤ 12) : wrR ⟨wrB w ++ s, b⟩ = (w, goneN w.gone, ⟨s, b⟩) := by
  have e : wrB w ++ s = numB w.key.toNat ++ (numB (goneN w.gone) ++ (numB w.data.size ++ (w.data.data.toList ++ s))) := by simp [wrB, numsB]
  have hg : goneN w.gone ≤ 1099511627776 := by unfold goneN; split <;> omega
  unfold wrR
  rw [e, numR_numB w.key.toNat _ b (by omega)]
  simp only
  rw [numR_numB (goneN w.gone) _ b hg]
  simp only
  rw [textR_B w.data s b (by omega)]
  obtain ⟨k, d, g⟩ := w
  simp only at hk ⊢
  have h1 : decide (goneN g = 1) = g := by cases g <;> simp [goneN]
  rw [h1]
  have h2 : ((k.toNat : Nat) : Int) = k := by omega
  rw [h2]
theorem goneN_le (b : Bool) : goneN b ≤ 1 := by cases b <;> simp [goneN]
theorem wrsR_B (s : List UInt8) : ∀ (ws l : List WrP), (∀ w ∈ ws, (0 ≤ w.key ∧ w.key < 8) ∧ w.data.size ≤ 12) → l.length + ws.length ≤ 5 → wrsR ws.length l ⟨ws.flatMap wrB ++ s, false⟩ = (l ++ ws, ⟨s, false⟩)
  | [], l, _, _ => by simp [wrsR]
  | w :: ws, l, h, hl => by
    have hw := h w (by simp)
    have e : (w :: ws).flatMap wrB ++ s = wrB w ++ (ws.flatMap wrB ++ s) := by simp
    simp only [List.length_cons] at hl ⊢
    have hg := goneN_le w.gone
    simp only [wrsR, e, wrR_B w _ false hw.1 hw.2]
    have h5 : (false || decide (1 < goneN w.gone) || decide (5 ≤ l.length)) = false := by simp; omega
    rw [h5, wrsR_B s ws _ (fun x hx => h x (by simp [hx])) (by simp; omega)]
    simp

theorem badW_no {last : Int} {w : WrP} (h : badW last w ≠ true) : last < w.key ∧ w.key < 8 ∧ w.data.size ≤ 12 := by
  simp [badW] at h; omega
theorem rwGo_all : ∀ (ws : List WrP) (last : Int), -1 ≤ last → rwGo last ws = true → ∀ w ∈ ws, (0 ≤ w.key ∧ w.key < 8) ∧ w.data.size ≤ 12
  | [], _, _, _, w, hw => by cases hw
  | x :: ws, last, hl, h, w, hw => by
    simp only [rwGo] at h
    by_cases hb : badW last x = true
    · rw [if_pos hb] at h; cases h
    · rw [if_neg hb] at h
      have h1 := badW_no hb
      rcases List.mem_cons.1 hw with rfl | hw
      · omega
      · exact rwGo_all ws x.key (by omega) h w hw
theorem rightWs_all {l : List WrP} (h : rightWs l = true) : (∀ w ∈ l, (0 ≤ w.key ∧ w.key < 8) ∧ w.data.size ≤ 12) ∧ 1 ≤ l.length ∧ l.length ≤ 5 := by
  simp only [rightWs, Bool.and_eq_true, decide_eq_true_eq] at h
  exact ⟨rwGo_all l _ (by omega) h.1.1, h.1.2, h.2⟩
theorem headTx_all {t : TxP} (h : headTx t = true) : (0 ≤ t.site ∧ t.site < 4) ∧ (1 ≤ t.seq ∧ t.seq ≤ 1099511627776) ∧ (0 ≤ t.wall ∧ t.wall ≤ 1099511627776) ∧ (0 ≤ t.count ∧ t.count ≤ 1099511627776) ∧
    (0 ≤ t.d0 ∧ t.d0 ≤ 1099511627776) ∧ (0 ≤ t.d1 ∧ t.d1 ≤ 1099511627776) ∧ (0 ≤ t.d2 ∧ t.d2 ≤ 1099511627776) ∧ (0 ≤ t.d3 ∧ t.d3 ≤ 1099511627776) ∧ depAt t = t.seq - 1 := by
  simp only [headTx, okN, Bool.and_eq_true, decide_eq_true_eq] at h
  obtain ⟨⟨⟨⟨⟨h1, h2⟩, h3⟩, h4⟩, ⟨⟨h5, h6⟩, h7⟩, h8⟩, h9⟩ := h
  exact ⟨h1, h2, h3, h4, h5, h6, h7, h8, h9⟩
theorem rawTx_B (t : TxP) (s : List UInt8) (h : rightTx t = true) : rawTx ⟨(txB t).drop 1 ++ s, false⟩ = (t, ⟨s, false⟩) := by
  simp only [rightTx, Bool.and_eq_true] at h
  obtain ⟨hw, hl1, hl5⟩ := rightWs_all h.2
  obtain ⟨h1, h2, h3, h4, h5, h6, h7, h8, _⟩ := headTx_all h.1
  have e : (txB t).drop 1 ++ s = numsB [t.site.toNat, t.seq.toNat, t.wall.toNat, t.count.toNat] ++ (numsB [t.d0.toNat, t.d1.toNat, t.d2.toNat, t.d3.toNat] ++ (numB t.ws.length ++ (t.ws.flatMap wrB ++ s))) := by
    simp [txB, numsB]
  rw [e]
  unfold rawTx
  simp only [numR4_numsB t.site.toNat t.seq.toNat t.wall.toNat t.count.toNat _ false (by omega) (by omega) (by omega) (by omega), numR4_numsB t.d0.toNat t.d1.toNat t.d2.toNat t.d3.toNat _ false (by omega) (by omega) (by omega) (by omega),
    numR_numB t.ws.length _ false (by omega), wrsR_B s t.ws [] hw (by simpa using hl5)]
  obtain ⟨a, b, c, d, e0, e1, e2, e3, ws⟩ := t
  simp only [txOf, List.nil_append] at *
  rw [Int.toNat_of_nonneg (by omega), Int.toNat_of_nonneg (by omega), Int.toNat_of_nonneg (by omega), Int.toNat_of_nonneg (by omega), Int.toNat_of_nonneg (by omega), Int.toNat_of_nonneg (by omega), Int.toNat_of_nonneg (by omega), Int.toNat_of_nonneg (by omega)]
theorem txB_eq (t : TxP) : txB t = 116 :: (txB t).drop 1 := rfl
theorem begin_tx (t : TxP) (s : List UInt8) : beginR 116 (txB t ++ s) = ⟨(txB t).drop 1 ++ s, false⟩ := rfl
theorem decTx_B (t : TxP) (h : rightTx t = true) : decTx (txB t) = some t := by
  have e := begin_tx t []
  rw [List.append_nil] at e
  unfold decTx
  rw [e, rawTx_B t [] h]
  simp [h]

/-! back: what is read is what is written -/
theorem rdGo_back : ∀ (l : List UInt8) (i n m : Nat) (r : List UInt8), rdGo i n l = some (m, r) → ∃ z, m = n + z * 128 ^ i ∧ l = numB z ++ r ∧ (i = 0 ∨ 0 < z)
  | [], _, _, _, _, h => by simp [rdGo] at h
  | b :: l, i, n, m, r, h => by
    simp only [rdGo] at h
    by_cases h1 : 5 < i ∨ 1099511627776 < n + b.toNat % 128 * 128 ^ i ∨ (b.toNat = 0 ∧ 0 < i)
    · rw [if_pos h1] at h; cases h
    · rw [if_neg h1] at h
      by_cases h2 : b.toNat < 128
      · rw [if_pos h2] at h
        simp only [Option.some.injEq, Prod.mk.injEq] at h
        refine ⟨b.toNat, ?_, ?_, ?_⟩
        · rw [← h.1, Nat.mod_eq_of_lt h2]
        · rw [numB_lt h2, h.2]; simp
        · omega
      · rw [if_neg h2] at h
        obtain ⟨z, hm, hl, hz⟩ := rdGo_back l _ _ _ _ h
        have hz : 0 < z := by omega
        have hb := b.toNat_lt
        refine ⟨b.toNat % 128 + 128 * z, ?_, ?_, .inr (by omega)⟩
        · rw [hm, Nat.pow_succ, Nat.add_mul]
          have : 128 * z * 128 ^ i = z * (128 ^ i * 128) := by rw [Nat.mul_comm (128 ^ i) 128, ← Nat.mul_assoc, Nat.mul_comm 128 z]
          omega
        · rw [numB_ge (by omega)]
          have e1 : (b.toNat % 128 + 128 * z) / 128 = z := by omega
          have e2 : ((b.toNat % 128 + 128 * z) % 128 + 128).toUInt8 = b := by
            apply UInt8.toNat_inj.1
            simp; omega
          rw [e1, e2, hl]; rfl
theorem rdNum_back {l r : List UInt8} {m : Nat} (h : rdNum l = some (m, r)) : l = numB m ++ r ∧ m ≤ 1099511627776 := by
  obtain ⟨z, hm, hl, _⟩ := rdGo_back _ _ _ _ _ h
  obtain ⟨h2, _⟩ := rdGo_len _ _ _ _ _ h
  refine ⟨?_, h2⟩
  have : m = z := by simpa using hm
  rw [this]; exact hl
theorem numR_back {r : Rd} (h : (numR r).2.bad = false) : r.bad = false ∧ r.l = numB (numR r).1 ++ (numR r).2.l ∧ (numR r).1 ≤ 1099511627776 := by
  unfold numR at h ⊢
  cases e : rdNum r.l with
  | none => rw [e] at h; cases h
  | some x =>
    obtain ⟨n, l⟩ := x
    rw [e] at h
    have := rdNum_back e
    exact ⟨h, this⟩
theorem numR4_back {r : Rd} (h : (numR4 r).2.bad = false) : r.bad = false ∧ r.l = numsB [(numR4 r).1.1, (numR4 r).1.2.1, (numR4 r).1.2.2.1, (numR4 r).1.2.2.2] ++ (numR4 r).2.l ∧
    (numR4 r).1.1 ≤ 1099511627776 ∧ (numR4 r).1.2.1 ≤ 1099511627776 ∧ (numR4 r).1.2.2.1 ≤ 1099511627776 ∧ (numR4 r).1.2.2.2 ≤ 1099511627776 := by
  unfold numR4 at h ⊢
  simp only at h ⊢
  obtain ⟨h4, l4, m4⟩ := numR_back h
  obtain ⟨h3, l3, m3⟩ := numR_back h4
  obtain ⟨h2, l2, m2⟩ := numR_back h3
  obtain ⟨h1, l1, m1⟩ := numR_back h2
  refine ⟨h1, ?_, m1, m2, m3, m4⟩
  rw [l1, l2, l3, l4]; simp [numsB]
theorem textR_back {r : Rd} (h : (textR r).2.bad = false) : r.bad = false ∧ r.l = numB (textR r).1.size ++ ((textR r).1.data.toList ++ (textR r).2.l) := by
  unfold textR at h ⊢
  by_cases hl : (numR r).2.l.length < (numR r).1
  · rw [if_pos hl] at h; cases h
  · rw [if_neg hl] at h ⊢
    simp only at h ⊢
    obtain ⟨h1, l1, _⟩ := numR_back h
    refine ⟨h1, ?_⟩
    rw [ba_size]
    simp only [List.take_append_drop, List.length_take, Nat.min_eq_left (Nat.not_lt.1 hl)]
    exact l1
theorem wrR_back {r : Rd} (h : (wrR r).2.2.bad = false) (hg : (wrR r).2.1 ≤ 1) : r.bad = false ∧ r.l = wrB (wrR r).1 ++ (wrR r).2.2.l := by
  unfold wrR at h hg ⊢
  simp only at h hg ⊢
  obtain ⟨h3, l3⟩ := textR_back h
  obtain ⟨h2, l2, _⟩ := numR_back h3
  obtain ⟨h1, l1, _⟩ := numR_back h2
  refine ⟨h1, ?_⟩
  rw [l1, l2, l3]
  have e : goneN (decide ((numR (numR r).2).1 = 1)) = (numR (numR r).2).1 := by
    have : (numR (numR r).2).1 = 0 ∨ (numR (numR r).2).1 = 1 := by omega
    rcases this with e | e <;> rw [e] <;> rfl
  simp only [wrB, numsB, List.flatMap_cons, List.flatMap_nil, e, Int.toNat_natCast, List.append_nil, List.append_assoc]
theorem wrsR_back : ∀ (n : Nat) (l : List WrP) (r : Rd), (wrsR n l r).2.bad = false → r.bad = false ∧ ∃ ws, (wrsR n l r).1 = l ++ ws ∧ ws.length = n ∧ r.l = ws.flatMap wrB ++ (wrsR n l r).2.l
  | 0, l, r, h => ⟨h, [], by simp [wrsR], rfl, by simp [wrsR]⟩
  | n + 1, l, r, h => by
    simp only [wrsR] at h ⊢
    cases hb : r.bad with
    | true => rw [hb, if_pos rfl] at h; rw [hb] at h; cases h
    | false =>
      rw [hb, if_neg (by simp)] at h
      rw [if_neg (by simp)]
      obtain ⟨h1, ws, e1, e2, e3⟩ := wrsR_back n _ _ h
      simp only [Bool.or_eq_false_iff, decide_eq_false_iff_not] at h1
      obtain ⟨_, l1⟩ := wrR_back h1.1.1 (by omega)
      refine ⟨rfl, (wrR r).1 :: ws, ?_, by simp [e2], ?_⟩
      · rw [e1]; simp
      · simp only at e3
        rw [l1, List.flatMap_cons, List.append_assoc]
        exact congrArg _ e3
theorem begin_back {c : UInt8} {b : List UInt8} (h : (beginR c b).bad = false) : b = c :: (beginR c b).l := by
  unfold beginR at h ⊢
  cases b with
  | nil => cases h
  | cons x l =>
    simp only at h ⊢
    by_cases e : x = c
    · rw [if_pos e, e]
    · rw [if_neg e] at h; cases h
theorem decTx_back {p : List UInt8} {t : TxP} (h : decTx p = some t) : rightTx t = true ∧ txB t = p := by
  unfold decTx at h
  split at h
  · cases h
  · rename_i hc
    simp only [Bool.or_eq_true, not_or, Bool.not_eq_true, Bool.not_eq_true', Bool.not_eq_false] at hc
    obtain ⟨⟨hb, hl⟩, hr⟩ := hc
    simp only [Option.some.injEq] at h
    rw [h] at hr
    refine ⟨by simpa using hr, ?_⟩
    have hl : (rawTx (beginR 116 p)).2.l = [] := by simpa using hl
    generalize hr0 : beginR 116 p = r at *
    have hb' := hb
    unfold rawTx at hb' h hl
    simp only at hb' h hl
    obtain ⟨h3, ws, e1, e2, e3⟩ := wrsR_back _ _ _ hb'
    obtain ⟨h2, l2, _⟩ := numR_back h3
    obtain ⟨h1, l1, _⟩ := numR4_back h2
    obtain ⟨h0, l0, _⟩ := numR4_back h1
    have hp := begin_back (c := 116) (b := p) (by rw [hr0]; exact h0)
    rw [hr0] at hp
    rw [hp, l0, l1, l2, e3, hl, ← h]
    simp only [e1, List.nil_append, txB, txOf, Int.toNat_natCast, e2, List.append_assoc, List.append_nil]
    simp [numsB]
/-- no beginning of a transaction's bytes is one -/
theorem decTx_short (t : TxP) (h : rightTx t = true) (k : Nat) (hk : k < (txB t).length) : decTx ((txB t).take k) = none := by
  cases e : decTx ((txB t).take k) with
  | none => rfl
  | some t' =>
    exfalso
    obtain ⟨hr, hp⟩ := decTx_back e
    have h1 : txB t = txB t' ++ (txB t).drop k := by rw [hp, List.take_append_drop]
    have h2 := rawTx_B t' ((txB t).drop k) hr
    have h3 := rawTx_B t [] h
    rw [List.append_nil] at h3
    have h4 : (txB t).drop 1 = (txB t').drop 1 ++ (txB t).drop k := by
      have := congrArg (List.drop 1) h1
      rw [this, List.drop_append_of_le_length (by rw [txB_eq]; simp)]
    rw [h4] at h3
    rw [h3] at h2
    have := congrArg (fun x => x.2.l.length) h2
    simp at this
    omega
theorem ask_no_tx (t : TxP) : decAsk (txB t) = none := by
  have e : beginR 97 (txB t) = ⟨[], true⟩ := rfl
  have : (rawAsk (beginR 97 (txB t))).2.bad = true := by
    cases hb : (rawAsk (beginR 97 (txB t))).2.bad with
    | true => rfl
    | false =>
      exfalso
      unfold rawAsk at hb
      obtain ⟨h1, _⟩ := numR4_back hb
      obtain ⟨h0, _⟩ := numR_back h1
      rw [e] at h0; cases h0
  unfold decAsk
  simp [this]
theorem tx_no_ask (s a0 a1 a2 a3 : Int) : decTx (askB s a0 a1 a2 a3) = none := by
  cases e : decTx (askB s a0 a1 a2 a3) with
  | none => rfl
  | some t => have := (decTx_back e).2; simp [txB, askB] at this
def okAsk (s a0 a1 a2 a3 : Int) : Bool := decide (0 ≤ s ∧ s < 4) && (okN a0 && okN a1 && okN a2 && okN a3)
theorem okAsk_all {s a0 a1 a2 a3 : Int} (h : okAsk s a0 a1 a2 a3 = true) : (0 ≤ s ∧ s < 4) ∧ (0 ≤ a0 ∧ a0 ≤ 1099511627776) ∧ (0 ≤ a1 ∧ a1 ≤ 1099511627776) ∧ (0 ≤ a2 ∧ a2 ≤ 1099511627776) ∧ (0 ≤ a3 ∧ a3 ≤ 1099511627776) := by
  simp only [okAsk, okN, Bool.and_eq_true, decide_eq_true_eq] at h
  obtain ⟨h1, ⟨⟨h2, h3⟩, h4⟩, h5⟩ := h
  exact ⟨h1, h2, h3, h4, h5⟩
theorem rawAsk_B (s a0 a1 a2 a3 : Int) (l : List UInt8) (h : okAsk s a0 a1 a2 a3 = true) : rawAsk ⟨(askB s a0 a1 a2 a3).drop 1 ++ l, false⟩ = ((s.toNat, a0.toNat, a1.toNat, a2.toNat, a3.toNat), ⟨l, false⟩) := by
  obtain ⟨h1, h2, h3, h4, h5⟩ := okAsk_all h
  have e : (askB s a0 a1 a2 a3).drop 1 ++ l = numB s.toNat ++ (numsB [a0.toNat, a1.toNat, a2.toNat, a3.toNat] ++ l) := by simp [askB, numsB]
  unfold rawAsk
  simp only [e, numR_numB s.toNat _ false (by omega), numR4_numsB a0.toNat a1.toNat a2.toNat a3.toNat _ false (by omega) (by omega) (by omega) (by omega)]
theorem begin_ask (s a0 a1 a2 a3 : Int) (l : List UInt8) : beginR 97 (askB s a0 a1 a2 a3 ++ l) = ⟨(askB s a0 a1 a2 a3).drop 1 ++ l, false⟩ := rfl
theorem decAsk_B (s a0 a1 a2 a3 : Int) (h : okAsk s a0 a1 a2 a3 = true) : decAsk (askB s a0 a1 a2 a3) = some (s.toNat, a0.toNat, a1.toNat, a2.toNat, a3.toNat) := by
  have e := begin_ask s a0 a1 a2 a3 []
  rw [List.append_nil] at e
  obtain ⟨h1, _⟩ := okAsk_all h
  unfold decAsk
  rw [e, rawAsk_B _ _ _ _ _ _ h]
  simp; omega
theorem decAsk_back {p : List UInt8} {s a0 a1 a2 a3 : Nat} (h : decAsk p = some (s, a0, a1, a2, a3)) : okAsk s a0 a1 a2 a3 = true ∧ askB s a0 a1 a2 a3 = p := by
  unfold decAsk at h
  split at h
  · cases h
  · rename_i hc
    simp only [Bool.or_eq_true, not_or, Bool.not_eq_true, Bool.not_eq_true', Bool.not_eq_false, decide_eq_true_eq] at hc
    obtain ⟨⟨hb, hl⟩, hs⟩ := hc
    simp only [Option.some.injEq] at h
    have hl : (rawAsk (beginR 97 p)).2.l = [] := by simpa using hl
    rw [h] at hs
    generalize hr0 : beginR 97 p = r at *
    have hb' := hb
    unfold rawAsk at hb' h hl
    simp only [Prod.mk.injEq] at hb' h hl
    obtain ⟨h1, l1, m0, m1, m2, m3⟩ := numR4_back hb'
    obtain ⟨h0, l0, m⟩ := numR_back h1
    have hp := begin_back (c := 97) (b := p) (by rw [hr0]; exact h0)
    rw [hr0] at hp
    obtain ⟨e0, e1⟩ := h
    rw [e1] at m0 m1 m2 m3 l1
    rw [e0] at m l0
    simp only at m0 m1 m2 m3 l1 hs
    refine ⟨by simp [okAsk, okN]; omega, ?_⟩
    rw [hp, l0, l1, hl]
    simp only [askB, Int.toNat_natCast]
    simp [numsB]
theorem decAsk_short (s a0 a1 a2 a3 : Int) (h : okAsk s a0 a1 a2 a3 = true) (k : Nat) (hk : k < (askB s a0 a1 a2 a3).length) : decAsk ((askB s a0 a1 a2 a3).take k) = none := by
  cases e : decAsk ((askB s a0 a1 a2 a3).take k) with
  | none => rfl
  | some t' =>
    exfalso
    obtain ⟨s', b0, b1, b2, b3⟩ := t'
    obtain ⟨hr, hp⟩ := decAsk_back e
    have h1 : askB s a0 a1 a2 a3 = askB s' b0 b1 b2 b3 ++ (askB s a0 a1 a2 a3).drop k := by rw [hp, List.take_append_drop]
    have h2 := rawAsk_B _ _ _ _ _ ((askB s a0 a1 a2 a3).drop k) hr
    have h3 := rawAsk_B _ _ _ _ _ [] h
    rw [List.append_nil] at h3
    have h4 : (askB s a0 a1 a2 a3).drop 1 = (askB s' b0 b1 b2 b3).drop 1 ++ (askB s a0 a1 a2 a3).drop k := by
      have := congrArg (List.drop 1) h1
      rw [this, List.drop_append_of_le_length (by simp [askB])]
    rw [h4] at h3
    rw [h3] at h2
    have := congrArg (fun x => x.2.l.length) h2
    simp at this
    omega
end Go.Proofs.YtbopfhbeegkkaabGreatDoor
