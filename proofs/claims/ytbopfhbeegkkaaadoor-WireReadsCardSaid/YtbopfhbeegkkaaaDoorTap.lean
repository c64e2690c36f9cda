/- The reference's reader, as plain lists. -/
import Derived.Test.YtbopfhbeegkkaaaDoorTx
namespace Go.Proofs.YtbopfhbeegkkaaaDoor

def tapGo : Nat → Nat → Nat → List UInt8 → Option (Nat × List UInt8)
  | 0, _, _, _ => none
  | _ + 1, _, _, [] => none
  | f + 1, n, t, c :: l => if c.toNat < 128 then some (n + c.toNat % 128 * t, l) else tapGo f (n + c.toNat % 128 * t) (t * 128) l
def tapN (l : List UInt8) : Int × List UInt8 := match tapGo 6 0 1 l with
  | some (n, r) => ((n : Int), r)
  | none => (-1, [])

theorem tapGo_numB (s : List UInt8) : ∀ (f n t z : Nat), 0 < f → z < 128 ^ f → tapGo f n t (numB z ++ s) = some (n + z * t, s)
  | 0, _, _, _, h, _ => by omega
  | f + 1, n, t, z, _, hz => by
    by_cases h1 : z < 128
    · rw [numB_lt h1]
      have e : z.toUInt8.toNat = z := by simp; omega
      simp only [List.cons_append, List.nil_append, tapGo, e]
      rw [if_pos h1, Nat.mod_eq_of_lt h1]
    · rw [numB_ge (n := z) (by omega)]
      have e : (z % 128 + 128).toUInt8.toNat = z % 128 + 128 := by simp; omega
      simp only [List.cons_append, tapGo, e]
      rw [if_neg (by omega), tapGo_numB s f _ _ (z / 128) (by rcases f with _ | f; (· simp at hz; omega); (· omega)) (by rw [Nat.pow_succ] at hz; omega)]
      have e2 : (z % 128 + 128) % 128 = z % 128 := by omega
      rw [e2]
      have e3 : n + z % 128 * t + z / 128 * (t * 128) = n + z * t := by
        have : z * t = (z % 128 + 128 * (z / 128)) * t := by rw [Nat.mod_add_div]
        rw [this, Nat.add_mul, Nat.mul_comm t 128, ← Nat.mul_assoc, Nat.mul_comm (z / 128) 128]; omega
      rw [e3]
theorem tapN_numB (z : Nat) (s : List UInt8) (h : z ≤ 1099511627776) : tapN (numB z ++ s) = ((z : Int), s) := by
  unfold tapN
  rw [tapGo_numB s 6 0 1 z (by omega) (by omega)]
  simp

def tapWs : Nat → List WrP → List UInt8 → Option (List WrP × List UInt8)
  | 0, ws, l => some (ws, l)
  | n + 1, ws, l => if 5 < ws.length then some (ws, l) else
    if 0 ≤ (tapN (tapN (tapN l).2).2).1 ∧ (tapN (tapN (tapN l).2).2).1 ≤ ((tapN (tapN (tapN l).2).2).2.length : Int) then
      tapWs n (ws ++ [⟨(tapN l).1, ⟨((tapN (tapN (tapN l).2).2).2.take (tapN (tapN (tapN l).2).2).1.toNat).toArray⟩, (tapN (tapN l).2).1 == 1⟩]) ((tapN (tapN (tapN l).2).2).2.drop (tapN (tapN (tapN l).2).2).1.toNat)
    else none
theorem tapWs_B (s : List UInt8) : ∀ (ws l : List WrP), (∀ w ∈ ws, (0 ≤ w.key ∧ w.key < 8) ∧ w.data.size ≤ 12) → l.length + ws.length ≤ 5 → tapWs ws.length l (ws.flatMap wrB ++ s) = some (l ++ ws, s)
  | [], l, _, _ => by simp [tapWs]
  | w :: ws, l, h, hl => by
    have hw := h w (by simp)
    have e : (w :: ws).flatMap wrB ++ s = numB w.key.toNat ++ (numB (goneN w.gone) ++ (numB w.data.size ++ (w.data.data.toList ++ (ws.flatMap wrB ++ s)))) := by simp [wrB, numsB]
    simp only [List.length_cons] at hl ⊢
    have hg := goneN_le w.gone
    unfold tapWs
    rw [if_neg (by omega), e, tapN_numB w.key.toNat _ (by omega)]
    simp only
    rw [tapN_numB (goneN w.gone) _ (by omega)]
    simp only
    rw [tapN_numB w.data.size _ (by omega)]
    have hsz : (w.data.data.toList ++ (ws.flatMap wrB ++ s)).length = w.data.size + (ws.flatMap wrB ++ s).length := by rw [List.length_append, ba_size]
    simp only [hsz]
    rw [if_pos (by omega)]
    have e1 : ((w.data.size : Nat) : Int).toNat = w.data.size := by omega
    rw [e1, ba_size, List.take_left, List.drop_left]
    have e2 : ((w.key.toNat : Nat) : Int) = w.key := by omega
    have e3 : (((goneN w.gone : Nat) : Int) == 1) = w.gone := by cases w.gone <;> rfl
    rw [e2, e3, tapWs_B s ws _ (fun x hx => h x (by simp [hx])) (by simp; omega)]
    simp

def tapV (l : List UInt8) : (Int × Int × Int × Int) × List UInt8 :=
  (((tapN l).1, (tapN (tapN l).2).1, (tapN (tapN (tapN l).2).2).1, (tapN (tapN (tapN (tapN l).2).2).2).1), (tapN (tapN (tapN (tapN l).2).2).2).2)
theorem tapV_numsB (x y z u : Nat) (s : List UInt8) (hx : x ≤ 1099511627776) (hy : y ≤ 1099511627776) (hz : z ≤ 1099511627776) (hu : u ≤ 1099511627776) :
    tapV (numsB [x, y, z, u] ++ s) = (((x : Int), (y : Int), (z : Int), (u : Int)), s) := by
  have e : numsB [x, y, z, u] ++ s = numB x ++ (numB y ++ (numB z ++ (numB u ++ s))) := by simp [numsB]
  unfold tapV
  simp only [e, tapN_numB x _ hx, tapN_numB y _ hy, tapN_numB z _ hz, tapN_numB u _ hu]
def tTx (h d : Int × Int × Int × Int) (ws : List WrP) : TxP := ⟨h.1, h.2.1, h.2.2.1, h.2.2.2, d.1, d.2.1, d.2.2.1, d.2.2.2, ws⟩
/-- what is read behind the first byte -/
def rawT (l : List UInt8) : Option TxP :=
  (tapWs (tapN (tapV (tapV l).2).2).1.toNat [] (tapN (tapV (tapV l).2).2).2).map fun x => tTx (tapV l).1 (tapV (tapV l).2).1 x.1
theorem rawT_B (t : TxP) (s : List UInt8) (h : rightTx t = true) : rawT ((txB t).drop 1 ++ s) = some t := by
  simp only [rightTx, Bool.and_eq_true] at h
  obtain ⟨hw, hl1, hl5⟩ := rightWs_all h.2
  obtain ⟨h1, h2, h3, h4, h5, h6, h7, h8, _⟩ := headTx_all h.1
  have e : (txB t).drop 1 ++ s = numsB [t.site.toNat, t.seq.toNat, t.wall.toNat, t.count.toNat] ++ (numsB [t.d0.toNat, t.d1.toNat, t.d2.toNat, t.d3.toNat] ++ (numB t.ws.length ++ (t.ws.flatMap wrB ++ s))) := by
    simp [txB, numsB]
  rw [e]
  unfold rawT
  simp only [tapV_numsB t.site.toNat t.seq.toNat t.wall.toNat t.count.toNat _ (by omega) (by omega) (by omega) (by omega), tapV_numsB t.d0.toNat t.d1.toNat t.d2.toNat t.d3.toNat _ (by omega) (by omega) (by omega) (by omega),
    tapN_numB t.ws.length _ (by omega), Int.toNat_natCast, tapWs_B s t.ws [] hw (by simpa using hl5)]
  obtain ⟨a, b, c, d, e0, e1, e2, e3, ws⟩ := t
  simp only [tTx, List.nil_append, Option.map_some] at *
  rw [Int.toNat_of_nonneg (by omega), Int.toNat_of_nonneg (by omega), Int.toNat_of_nonneg (by omega), Int.toNat_of_nonneg (by omega), Int.toNat_of_nonneg (by omega), Int.toNat_of_nonneg (by omega), Int.toNat_of_nonneg (by omega), Int.toNat_of_nonneg (by omega)]

/-- the reference's answer, by what it read: none where it is not written so -/
theorem decTx_ref {l : List UInt8} : decTx l = (match rawT (l.drop 1) with
    | some t => if rightTx t = true ∧ txB t = l then some t else none
    | none => none) := by
  cases h : decTx l with
  | some t =>
    obtain ⟨h1, h2⟩ := decTx_back h
    have := rawT_B t [] h1
    rw [List.append_nil, h2] at this
    rw [this]; simp [h1, h2]
  | none =>
    cases h2 : rawT (l.drop 1) with
    | none => rfl
    | some t =>
      simp only
      by_cases h3 : rightTx t = true ∧ txB t = l
      · have := decTx_B t h3.1
        rw [h3.2, h] at this; cases this
      · rw [if_neg h3]

def rawA (l : List UInt8) : Int × (Int × Int × Int × Int) := ((tapN l).1, (tapV (tapN l).2).1)
theorem decAsk_ref {l : List UInt8} : decAsk l = (if okAsk (rawA (l.drop 1)).1 (rawA (l.drop 1)).2.1 (rawA (l.drop 1)).2.2.1 (rawA (l.drop 1)).2.2.2.1 (rawA (l.drop 1)).2.2.2.2 = true ∧
      askB (rawA (l.drop 1)).1 (rawA (l.drop 1)).2.1 (rawA (l.drop 1)).2.2.1 (rawA (l.drop 1)).2.2.2.1 (rawA (l.drop 1)).2.2.2.2 = l
    then some ((rawA (l.drop 1)).1.toNat, (rawA (l.drop 1)).2.1.toNat, (rawA (l.drop 1)).2.2.1.toNat, (rawA (l.drop 1)).2.2.2.1.toNat, (rawA (l.drop 1)).2.2.2.2.toNat) else none) := by
  cases h : decAsk l with
  | some x =>
    obtain ⟨s, a0, a1, a2, a3⟩ := x
    have h1 := decAsk_back h
    obtain ⟨h1, h2⟩ := h1
    have g := okAsk_all h1
    have e : l.drop 1 = numB s ++ (numsB [a0, a1, a2, a3] ++ []) := by
      rw [← h2]; simp [askB, numsB]
    have e2 : rawA (l.drop 1) = ((s : Int), ((a0 : Int), (a1 : Int), (a2 : Int), (a3 : Int))) := by
      rw [e]; unfold rawA
      simp only [tapN_numB s _ (by omega), tapV_numsB a0 a1 a2 a3 [] (by omega) (by omega) (by omega) (by omega)]
    rw [e2]
    simp only [Int.toNat_natCast]
    rw [if_pos ⟨h1, h2⟩]
  | none =>
    rw [if_neg]
    rintro ⟨h1, h2⟩
    have := decAsk_B _ _ _ _ _ h1
    rw [h2, h] at this; cases this
end Go.Proofs.YtbopfhbeegkkaaaDoor
