import Derived.Test.YtbopfhbeegkkaaaDoorSt2
import Derived.Test.YtbopfhbeegkkaaaDoorEncT
import Derived.Laws.CopyRow
import Derived.Laws.IdiomCopy
import Derived.Lib.AppendZerosOnto
import Derived.Lib.Overlaps
namespace Go.Proofs.YtbopfhbeegkkaaaDoor
open Go.RowKit

/-- copy of elements of whatever size, into a plain block -/
theorem run_copy_rowK {P : Program} (w : World) (dT sT ty elem : TypeId) (g o dLen dCap : Nat) (a : Addr) (sLen sCap sz n : Nat) (cur : Array Value) (t : TypeId) (cs : List Value)
    (hu : P.underlying dT = some (.slice elem)) (hs : (P.info? elem).map (·.size) = some sz)
    (hg : w.heap[g]? = some (.cells cur t (0, 0))) (hn : Nat.min sLen dLen = n) (hcs : cs.length = n * sz)
    (hsrc : ∀ j v, cs[j]? = some v → w.cell? (a.add j) = some v) (hfit : o + cs.length ≤ cur.size) (h1 : ∀ v ∈ cs, v.oneCell' = true) :
    (Builtin.copy_ #[dT, sT] ty #[.slice (some ⟨g, o, none⟩) dLen dCap, .slice (some a) sLen sCap]).run P w =
      .ok (goInt n) (w.setRow g (cur.toList.take o ++ cs ++ cur.toList.drop (o + cs.length)).toArray) := by
  have hl := run_loadCells_list (P := P) w a cs hsrc
  have hst := run_storeCells_at P g o t cs 0 cur w hg (by simpa using hfit) h1
  cases hq : P.info? elem with
  | none => simp [hq] at hs
  | some i =>
    have hi : i.size = sz := by simpa [hq] using hs
    simp [Builtin.copy_, run_underlying hu, Builtin.lenOf, Builtin.firstCells, sizeOf, typeInfo, hq, hi, hn, ← hcs, hl, hst]

theorem info71 : (Tryd.prog.info? 71).map (fun i => (i.zero, i.size, i.bytes)) = some (some (.agg #[.int .i64 0, .int .i64 0, .int .i64 0, .int .i64 0, .string ⟨#[]⟩, .bool false]), 6, 56) := by kernel_rfl
theorem info71x : ∃ i, Tryd.prog.info? 71 = some i ∧ i.zero = some (.agg #[.int .i64 0, .int .i64 0, .int .i64 0, .int .i64 0, .string ⟨#[]⟩, .bool false]) ∧ i.size = 6 ∧ i.bytes = 56 := by
  obtain ⟨i, hi, h⟩ := Option.map_eq_some_iff.1 info71
  simp only [Prod.mk.injEq] at h
  exact ⟨i, hi, h.1, h.2.1, h.2.2⟩
def InsPost (B : Nat) (v0 : Value) (n : Nat) (ys : List Value) (w : World) (e : Ending) (w' : World) : Prop :=
  ∃ v', e = .returned v' ∧ w'.ownsRow B 71 6 v' (n + 1) ys ∧ w.grownBy w' v0.ownBlock ∧ (v'.ownBlock = v0.ownBlock ∨ ∀ k, v'.ownBlock = some k → w.heap.size ≤ k)
theorem cells6 {w : World} {ab : Nat} {u0 u1 u2 u3 u4 u5 : Value} (h : w.heap[ab]? = some (.cells #[u0, u1, u2, u3, u4, u5] 71)) :
    ∀ (j : Nat) (u : Value), [u0, u1, u2, u3, u4, u5][j]? = some u → w.cell? ((⟨ab, 0, none⟩ : Addr).add j) = some u := by
  intro j u hj
  have e : (⟨ab, 0, none⟩ : Addr).add j = ⟨ab, j, none⟩ := by unfold Addr.add; split <;> simp_all
  rw [e, cell_blk h j]
  simpa using hj

set_option maxHeartbeats 2000000 in
theorem insert_end (B : Nat) (v0 : Value) (n : Nat) (xs : List Value) (u0 u1 u2 u3 u4 u5 : Value) (ab : Nat) (w : World) (hB : B ≤ w.heap.size) (hown : w.ownsRow B 71 6 v0 n xs) (hn : n ≤ 1000000)
    (hab : w.heap[ab]? = some (.cells #[u0, u1, u2, u3, u4, u5] 71)) (h1 : ∀ u ∈ [u0, u1, u2, u3, u4, u5], u.oneCell' = true) :
    Calls Tryd.prog 70 #[v0, .int .i64 n, .slice (some ⟨ab, 0, none⟩) 1 1] w (InsPost B v0 n (xs ++ [u0, u1, u2, u3, u4, u5]) w) := by
  obtain ⟨i0, hi, hz0, hz1, hz2⟩ := info71x
  have HO := hidp hown
  have HA := hidp hab
  have H1 := hidp h1
  obtain ⟨A, c, rfl, hc⟩ : ∃ A c, v0 = .slice A n c ∧ n ≤ c := by
    obtain ⟨_, hh | ⟨g, cap, cur, hv, _, _, hc, _⟩⟩ := hown
    · exact ⟨none, 0, by rw [hh.1, hh.2], by omega⟩
    · exact ⟨_, cap, hv, hc⟩
  clear hown hab h1
  by_cases hcn : c = n
  all_goals
    first | subst hcn | skip
    go_enter Tryd.func70, Tryd.ntmps70
    go_wp2_with (at_builtin; go_must (refine wpList_append_lies _ rfl _ _ 63 rfl B 71 i0 (.agg #[.int .i64 0, .int .i64 0, .int .i64 0, .int .i64 0, .string ⟨#[]⟩, .bool false]) 6 56 Tryd.underlying63 hi hz0 hz1 hz2 rfl (by decide) _ _ xs rfl HO.out ⟨ab, 0, none⟩ 1 1 [u0, u1, u2, u3, u4, u5] rfl rfl (cells6 HA.out) H1.out (by decide) ?c2 ?c3 hB _ rfl ?_))
    case c2 => refine Nat.le_trans ?_ maxLen_ge; omega
    case c3 => omega
    intro g1 cap1 w1 hown1 hgrow hgl hlt1
    have HP : Hid (InsPost B (.slice A _ _) _ (xs ++ [u0, u1, u2, u3, u4, u5]) w (.returned (.slice (some ⟨g1, 0, none⟩) _ cap1)) w1) := hidp ⟨_, rfl, hown1, hgrow, by
      rcases hgl with h | h
      · left; rw [h]; rfl
      · right; intro k hk; simp [Value.ownBlock] at hk; omega⟩
    clear hown1 hgrow hgl hlt1
    go_wp2
    go_ret
    exact HP.out
end Go.Proofs.YtbopfhbeegkkaaaDoor
