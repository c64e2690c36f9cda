/- Numbers written as bytes, and read again. Plain lists; no program. -/
namespace Go.Proofs.YtbopfhbeegkkaaaDoor

/-- a number's bytes: seven bits a byte, the least ones first -/
def numB (n : Nat) : List UInt8 := if h : n < 128 then [n.toUInt8] else (n % 128 + 128).toUInt8 :: numB (n / 128)
termination_by n
decreasing_by omega
def numsB (l : List Nat) : List UInt8 := l.flatMap numB
theorem numB_lt {n : Nat} (h : n < 128) : numB n = [n.toUInt8] := by rw [numB]; simp [h]
theorem numB_ge {n : Nat} (h : ¬ n < 128) : numB n = (n % 128 + 128).toUInt8 :: numB (n / 128) := by rw [numB]; simp [h]
theorem numB_len (n : Nat) : ∀ k, n < 128 ^ k → 1 ≤ k → (numB n).length ≤ k := by
  induction n using Nat.strongRecOn with
  | _ n ih =>
    intro k hk h1
    by_cases h : n < 128
    · rw [numB_lt h]; simpa using h1
    · rw [numB_ge h]
      have hk2 : 2 ≤ k := by
        rcases k with _ | _ | k
        · omega
        · simp at hk; omega
        · omega
      obtain ⟨j, rfl⟩ : ∃ j, k = j + 1 := ⟨k - 1, by omega⟩
      have := ih (n / 128) (by omega) j (by rw [Nat.div_lt_iff_lt_mul (by decide)]; rw [Nat.pow_succ] at hk; exact hk) (by omega)
      simp; omega

/-- a number, read from a list of bytes: seven bits a byte -/
def rdGo (i n : Nat) : List UInt8 → Option (Nat × List UInt8)
  | [] => none
  | b :: bs =>
    if 5 < i ∨ 1099511627776 < n + b.toNat % 128 * 128 ^ i ∨ (b.toNat = 0 ∧ 0 < i) then none
    else if b.toNat < 128 then some (n + b.toNat % 128 * 128 ^ i, bs) else rdGo (i + 1) (n + b.toNat % 128 * 128 ^ i) bs
def rdNum (l : List UInt8) : Option (Nat × List UInt8) := rdGo 0 0 l

theorem rdGo_more {s : List UInt8} : ∀ (p : List UInt8) (i n m : Nat) (r : List UInt8), rdGo i n p = some (m, r) → rdGo i n (p ++ s) = some (m, r ++ s)
  | [], _, _, _, _, h => by simp [rdGo] at h
  | b :: p, i, n, m, r, h => by
    simp only [rdGo, List.cons_append] at h ⊢
    by_cases h1 : 5 < i ∨ 1099511627776 < n + b.toNat % 128 * 128 ^ i ∨ (b.toNat = 0 ∧ 0 < i)
    · rw [if_pos h1] at h; cases h
    · rw [if_neg h1] at h ⊢
      by_cases h2 : b.toNat < 128
      · rw [if_pos h2] at h ⊢
        simp only [Option.some.injEq, Prod.mk.injEq] at h ⊢
        exact ⟨h.1, by rw [h.2]⟩
      · rw [if_neg h2] at h ⊢
        exact rdGo_more p _ _ _ _ h
theorem rdNum_more {p s r : List UInt8} {m : Nat} (h : rdNum p = some (m, r)) : rdNum (p ++ s) = some (m, r ++ s) := rdGo_more p _ _ _ _ h

theorem rdGo_len : ∀ (p : List UInt8) (i n m : Nat) (r : List UInt8), rdGo i n p = some (m, r) → m ≤ 1099511627776 ∧ ∃ k, 1 ≤ k ∧ k ≤ p.length ∧ i + k ≤ 6 ∧ r = p.drop k
  | [], _, _, _, _, h => by simp [rdGo] at h
  | b :: p, i, n, m, r, h => by
    simp only [rdGo] at h
    by_cases h1 : 5 < i ∨ 1099511627776 < n + b.toNat % 128 * 128 ^ i ∨ (b.toNat = 0 ∧ 0 < i)
    · rw [if_pos h1] at h; cases h
    · rw [if_neg h1] at h
      by_cases h2 : b.toNat < 128
      · rw [if_pos h2] at h
        simp only [Option.some.injEq, Prod.mk.injEq] at h
        refine ⟨by omega, 1, by omega, by simp, by omega, by rw [← h.2]; rfl⟩
      · rw [if_neg h2] at h
        obtain ⟨hm, k, hk1, hk2, hk3, hk4⟩ := rdGo_len p _ _ _ _ h
        exact ⟨hm, k + 1, by omega, by simpa using hk2, by omega, by simpa using hk4⟩

theorem pow_le_of (i z : Nat) (h : z * 128 ^ i ≤ 1099511627776) (hz : i = 0 ∨ 0 < z) : i ≤ 5 := by
  rcases Nat.lt_or_ge 5 i with h5 | h5
  · exfalso
    have h6 : 128 ^ 6 ≤ 128 ^ i := Nat.pow_le_pow_right (by decide) h5
    have h7 : 1 * 128 ^ i ≤ z * 128 ^ i := Nat.mul_le_mul_right _ (by omega)
    have : (128 : Nat) ^ 6 = 4398046511104 := by decide
    omega
  · exact h5

theorem rdGo_numB (r : List UInt8) : ∀ (z i n : Nat), n + z * 128 ^ i ≤ 1099511627776 → (i = 0 ∨ 0 < z) → rdGo i n (numB z ++ r) = some (n + z * 128 ^ i, r) := by
  intro z
  induction z using Nat.strongRecOn with
  | _ z ih =>
    intro i n hn hz
    have hi := pow_le_of i z (by omega) hz
    by_cases h : z < 128
    · rw [numB_lt h]
      have hb : z.toUInt8.toNat = z := by simp; omega
      simp only [List.cons_append, List.nil_append, rdGo, hb, Nat.mod_eq_of_lt h]
      rw [if_neg (by omega), if_pos h]
    · rw [numB_ge h]
      have hb : (z % 128 + 128).toUInt8.toNat = z % 128 + 128 := by simp; omega
      have hm : (z % 128 + 128) % 128 = z % 128 := by omega
      simp only [List.cons_append, rdGo, hb, hm]
      have e : z * 128 ^ i = z % 128 * 128 ^ i + z / 128 * 128 ^ (i + 1) := by
        have h1 : z / 128 * 128 ^ (i + 1) = z / 128 * 128 * 128 ^ i := by rw [Nat.pow_succ, Nat.mul_comm (128 ^ i), Nat.mul_assoc]
        rw [h1, ← Nat.add_mul]
        congr 1; omega
      rw [if_neg (by omega), if_neg (by omega)]
      rw [ih (z / 128) (by omega) (i + 1) _ (by omega) (.inr (by omega))]
      congr 2; omega
theorem rdNum_numB (z : Nat) (r : List UInt8) (h : z ≤ 1099511627776) : rdNum (numB z ++ r) = some (z, r) := by
  have := rdGo_numB r z 0 0 (by simpa using h) (.inl rfl)
  simpa [rdNum] using this

/-- several numbers, one behind the other -/
def rdNums : Nat → List UInt8 → Option (List Nat × List UInt8)
  | 0, l => some ([], l)
  | k + 1, l => match rdNum l with
    | none => none
    | some (n, r) => match rdNums k r with
      | none => none
      | some (ns, r') => some (n :: ns, r')
theorem rdNums_more {s : List UInt8} : ∀ (k : Nat) (p r : List UInt8) (ns : List Nat), rdNums k p = some (ns, r) → rdNums k (p ++ s) = some (ns, r ++ s)
  | 0, p, r, ns, h => by simp only [rdNums, Option.some.injEq, Prod.mk.injEq] at h ⊢; exact ⟨h.1, by rw [h.2]⟩
  | k + 1, p, r, ns, h => by
    simp only [rdNums] at h ⊢
    cases h1 : rdNum p with
    | none => rw [h1] at h; cases h
    | some x =>
      obtain ⟨n, r1⟩ := x
      rw [h1] at h; simp only at h
      rw [rdNum_more h1]; simp only
      cases h2 : rdNums k r1 with
      | none => rw [h2] at h; cases h
      | some y =>
        obtain ⟨ns', r2⟩ := y
        rw [h2] at h; simp only [Option.some.injEq, Prod.mk.injEq] at h
        rw [rdNums_more k r1 r2 ns' h2]; simp only [Option.some.injEq, Prod.mk.injEq]
        exact ⟨h.1, by rw [h.2]⟩
theorem rdNums_numsB (r : List UInt8) : ∀ (zs : List Nat), (∀ z ∈ zs, z ≤ 1099511627776) → rdNums zs.length (numsB zs ++ r) = some (zs, r)
  | [], _ => rfl
  | z :: zs, h => by
    have e : numsB (z :: zs) ++ r = numB z ++ (numsB zs ++ r) := by simp [numsB]
    rw [e]
    simp only [List.length_cons, rdNums]
    rw [rdNum_numB z _ (h z (by simp))]; simp only
    rw [rdNums_numsB r zs (fun y hy => h y (by simp [hy]))]
end Go.Proofs.YtbopfhbeegkkaaaDoor
