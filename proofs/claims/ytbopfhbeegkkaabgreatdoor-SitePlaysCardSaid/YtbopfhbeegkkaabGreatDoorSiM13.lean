/- Part 13 of a proof: lemmas and contracts that other parts use. -/
import Derived.Test.YtbopfhbeegkkaabGreatDoorSiM12
set_option linter.unusedVariables false
set_option linter.unusedSimpArgs false
namespace Go.Proofs.YtbopfhbeegkkaabGreatDoor
open Go.RowKit

theorem ins_list2 {α : Type} (cl news q : List α) (a k : Nat) (hl : a + k + q.length ≤ cl.length) (hk : news.length = k) :
    let l1 := cl.take a ++ news ++ cl.drop (a + k)
    ((l1.take (a + k) ++ q ++ l1.drop (a + k + q.length)).take (a + k + q.length) = cl.take a ++ news ++ q) ∧ (l1.take (a + k) ++ q ++ l1.drop (a + k + q.length)).length = cl.length ∧ l1.length = cl.length := by
  intro l1
  have hl1 : l1.length = cl.length := by simp only [l1, List.length_append, List.length_take, List.length_drop, hk]; omega
  have h1 : l1.take (a + k) = cl.take a ++ news := List.take_left' (by simp only [List.length_append, List.length_take, hk]; omega)
  refine ⟨?_, ?_, hl1⟩
  · rw [h1]
    exact List.take_left' (by simp only [List.length_append, List.length_take, hk]; omega)
  · rw [h1]; simp only [List.length_append, List.length_take, List.length_drop, hk, hl1]; omega

set_option maxRecDepth 20000 in
set_option maxHeartbeats 8000000 in
theorem insert_grow (B : Nat) (g n i : Nat) (cur : Array Value) (xs : List Value) (u0 u1 u2 u3 u4 u5 : Value) (ab : Nat) (w : World) (hg : w.heap[g]? = some (.cells cur 59)) (hB : B ≤ w.heap.size) (hcur : cur.size = n * 6) (htake : cur.toList.take (n * 6) = xs)
    (hi : i < n) (hn : n ≤ 1000000) (hab : w.heap[ab]? = some (.cells #[u0, u1, u2, u3, u4, u5] 59)) (h1 : ∀ u ∈ [u0, u1, u2, u3, u4, u5], u.oneCell' = true) (hx1 : ∀ u ∈ xs, u.oneCell' = true) :
    Calls Tryz.prog 178 #[.slice (some ⟨g, 0, none⟩) n n, .int .i64 i, .slice (some ⟨ab, 0, none⟩) 1 1] w (InsPost B (.slice (some ⟨g, 0, none⟩) n n) n (xs.take (i * 6) ++ [u0, u1, u2, u3, u4, u5] ++ xs.drop (i * 6)) w) := by
  obtain ⟨i0, hi0, hz0, hz1, hz2⟩ := info71x
  have hltg := lt_blk hg
  have hlta := lt_blk hab
  have hxs : cur.toList = xs := by rw [← htake, List.take_of_length_le (by rw [Array.length_toList, hcur]; exact Nat.le_refl _)]
  have hxl : xs.length = n * 6 := by rw [← hxs, Array.length_toList, hcur]
  obtain ⟨G, hG⟩ : ∃ G, grownCap w (n + 1) n 59 = G := ⟨_, rfl⟩
  have hge : n + 1 ≤ G := by rw [← hG]; exact grownCap_ge w (n + 1) n 59
  have hGm : G ≤ maxLen := by rw [← hG]; exact grownCap_le_maxLen w (n + 1) n 59 (Nat.le_trans (by omega) maxLen_ge)
  obtain ⟨zs, hzs, hzl⟩ : ∃ zs : List Value, (Builtin.zeroCells (Value.agg #[.int .i64 0, .int .i64 0, .int .i64 0, .int .i64 0, .string ⟨#[]⟩, .bool false]).cells (n + 1 - i) ++ Builtin.zeroCells (Value.agg #[.int .i64 0, .int .i64 0, .int .i64 0, .int .i64 0, .string ⟨#[]⟩, .bool false]).cells (G - (n + 1))).toList = zs ∧ zs.length = (G - i) * 6 := ⟨_, rfl, by
    have h6 : (Value.agg #[.int .i64 0, .int .i64 0, .int .i64 0, .int .i64 0, .string ⟨#[]⟩, .bool false]).cells.size = 6 := rfl
    simp only [Array.length_toList, Array.size_append, size_zeroCells, h6]; omega⟩
  obtain ⟨c0, hc0⟩ : ∃ c0 : Array Value, (xs.take (i * 6) ++ zs).toArray = c0 := ⟨_, rfl⟩
  have hsrc : ∀ (o : Nat) (W : World), W.heap[g]? = some (.cells cur 59) → ∀ (j : Nat) (v : Value), (xs.drop o)[j]? = some v → W.cell? ((⟨g, o, none⟩ : Addr).add j) = some v := fun o W hW j v hj => by
    have e : (⟨g, o, none⟩ : Addr).add j = ⟨g, o + j, none⟩ := by unfold Addr.add; split <;> simp_all
    rw [e, cell_blk hW, ← Array.getElem?_toList, hxs]
    rwa [List.getElem?_drop] at hj
  have hap : ∀ ty, (Builtin.append_ #[142, 3] ty #[.slice (some ⟨g, 0, none⟩) i n, .int .i64 ((n : Int) + 1 - (i : Int))]).run Tryz.prog w = .ok (.slice (some ⟨w.heap.size, 0, none⟩) (n + 1) G) (w.drew.alloc (.cells c0 59)) := by
    intro ty
    have e : ((n : Int) + 1 - (i : Int)) = ((n + 1 - i : Nat) : Int) := by omega
    have hold : (Builtin.firstCells i0.size i (.slice (some ⟨g, 0, none⟩) i n)).run Tryz.prog w.drew = .ok (xs.take (i * 6)).toArray w.drew := by
      have hl : (xs.take (i * 6)).length = i * 6 := by rw [List.length_take, hxl]; omega
      have := run_loadCells_list (P := Tryz.prog) w.drew ⟨g, 0, none⟩ (xs.take (i * 6)) (fun j v hj => by
        rw [List.getElem?_take] at hj
        split at hj
        · have := hsrc 0 w.drew hg j v (by rwa [List.drop_zero]); exact this
        · cases hj)
      rw [hl] at this
      simp only [Builtin.firstCells, hz1]
      exact this
    have hr := Go.Lib.run_append_grow_zeros (P := Tryz.prog) w 142 3 ty 59 i0 (.agg #[.int .i64 0, .int .i64 0, .int .i64 0, .int .i64 0, .string ⟨#[]⟩, .bool false]) .i64 .i64 Tryz.underlying142 Tryz.underlying3 hi0 hz0 (some ⟨g, 0, none⟩) i n (xs.take (i * 6)) hold (n + 1 - i) (by omega) (by omega) (by omega) (by omega) (by rw [hz2]; omega)
      (growslice_fits (by omega) (by rw [hz2]; omega))
    rw [e, hr]
    have e2 : i + (n + 1 - i) = n + 1 := by omega
    rw [e2, hG]
    congr 3
    rw [← hc0, ← hzs]
    apply Array.toList_inj.1
    simp
  have hc0l : c0.toList = xs.take (i * 6) ++ zs := by rw [← hc0]
  have hc0s : c0.toList.length = G * 6 := by rw [hc0l, List.length_append, List.length_take, hxl, hzl]; omega
  have hgW : (w.drew.alloc (.cells c0 59)).heap[g]? = some (.cells cur 59) := by rw [heap_alloc, if_neg (by show ¬ g = w.heap.size; omega)]; exact hg
  have haW : (w.drew.alloc (.cells c0 59)).heap[ab]? = some (.cells #[u0, u1, u2, u3, u4, u5] 59) := by rw [heap_alloc, if_neg (by show ¬ ab = w.heap.size; omega)]; exact hab
  have hhW : (w.drew.alloc (.cells c0 59)).heap[w.heap.size]? = some (.cells c0 59) := by rw [heap_alloc, if_pos (show w.heap.size = w.drew.heap.size from rfl)]
  obtain ⟨c1, hc1⟩ : ∃ c1 : Array Value, (c0.toList.take (i * 6) ++ [u0, u1, u2, u3, u4, u5] ++ c0.toList.drop (i * 6 + [u0, u1, u2, u3, u4, u5].length)).toArray = c1 := ⟨_, rfl⟩
  have hcpA : ∀ ty dL dC sL sC, Nat.min sL dL = 1 → (Builtin.copy_ #[142, 142] ty #[.slice (some ⟨w.heap.size, i * 6, none⟩) dL dC, .slice (some ⟨ab, 0, none⟩) sL sC]).run Tryz.prog (w.drew.alloc (.cells c0 59)) = .ok (goInt ((1 : Nat) : Int)) ((w.drew.alloc (.cells c0 59)).setRow w.heap.size c1) := by
    intro ty dL dC sL sC hm
    rw [← hc1]
    exact run_copy_rowK _ 142 142 ty 59 w.heap.size (i * 6) dL dC ⟨ab, 0, none⟩ sL sC 6 1 c0 59 [u0, u1, u2, u3, u4, u5] Tryz.underlying142 sz71 hhW hm rfl (cells6 haW) (by rw [← Array.length_toList, hc0s]; simp; omega) h1
  have hc1l : c1.toList = c0.toList.take (i * 6) ++ [u0, u1, u2, u3, u4, u5] ++ c0.toList.drop (i * 6 + 6) := by rw [← hc1]; rfl
  have hql : (xs.drop (i * 6)).length = (n - i) * 6 := by rw [List.length_drop, hxl]; omega
  have hil := ins_list2 c0.toList [u0, u1, u2, u3, u4, u5] (xs.drop (i * 6)) (i * 6) 6 (by rw [hql, hc0s]; omega) rfl
  simp only at hil
  rw [← hc1l] at hil
  obtain ⟨hi1, hi2, hi3⟩ := hil
  have hgW2 : ((w.drew.alloc (.cells c0 59)).setRow w.heap.size c1).drew.heap[g]? = some (.cells cur 59) := (setRow_other _ _ _ _ (by omega)).trans hgW
  have hhW2 : ((w.drew.alloc (.cells c0 59)).setRow w.heap.size c1).drew.heap[w.heap.size]? = some (.cells c1 59) := setRow_heap _ _ _ _ _ _ hhW
  obtain ⟨c2, hc2⟩ : ∃ c2 : Array Value, (c1.toList.take ((i + 1) * 6) ++ xs.drop (i * 6) ++ c1.toList.drop ((i + 1) * 6 + (xs.drop (i * 6)).length)).toArray = c2 := ⟨_, rfl⟩
  have hcpB : ∀ ty o dL dC s sL sC, o = (i + 1) * 6 → s = i * 6 → Nat.min sL dL = n - i → (Builtin.copy_ #[142, 142] ty #[.slice (some ⟨w.heap.size, o, none⟩) dL dC, .slice (some ⟨g, s, none⟩) sL sC]).run Tryz.prog ((w.drew.alloc (.cells c0 59)).setRow w.heap.size c1).drew = .ok (goInt ((n - i : Nat) : Int)) (((w.drew.alloc (.cells c0 59)).setRow w.heap.size c1).drew.setRow w.heap.size c2) := by
    rintro ty o dL dC s sL sC rfl rfl hm
    rw [← hc2]
    exact run_copy_rowK _ 142 142 ty 59 w.heap.size ((i + 1) * 6) dL dC ⟨g, i * 6, none⟩ sL sC 6 (n - i) c1 59 (xs.drop (i * 6)) Tryz.underlying142 sz71 hhW2 hm hql (hsrc (i * 6) _ hgW2) (by rw [hql, ← Array.length_toList, hi3, hc0s]; omega) (fun u hu => hx1 u (List.mem_of_mem_drop hu))
  have HP : Hid (InsPost B (.slice (some ⟨g, 0, none⟩) n n) n (xs.take (i * 6) ++ [u0, u1, u2, u3, u4, u5] ++ xs.drop (i * 6)) w (.returned (.slice (some ⟨w.heap.size, 0, none⟩) (n + 1) G)) (((w.drew.alloc (.cells c0 59)).setRow w.heap.size c1).drew.setRow w.heap.size c2)) := hidp (by
    refine ⟨_, rfl, ⟨?_, .inr ⟨w.heap.size, G, c2, rfl, hB, setRow_heap _ _ _ _ _ _ hhW2, hge, hGm, ?_, ?_⟩⟩, ?_, .inr (fun k hk => by simp [Value.ownBlock] at hk; omega)⟩
    · simp only [List.length_append, List.length_take, List.length_drop, List.length_cons, List.length_nil, hxl]; omega
    · rw [← Array.length_toList, ← hc2, ← hc0s, show (i + 1) * 6 = i * 6 + 6 by omega]
      exact hi2
    · rw [← hc2, show (i + 1) * 6 = i * 6 + 6 by omega, show (n + 1) * 6 = i * 6 + 6 + (xs.drop (i * 6)).length by rw [hql]; omega]
      simp only [List.toList_toArray]
      rw [hi1, hc0l, List.take_left' (by rw [List.length_take, hxl]; omega)]
    · refine ⟨rfl, rfl, rfl, by simp, fun k hk _ => ?_⟩
      have hk' : k ≠ w.heap.size := by omega
      rw [setRow_other _ _ _ _ hk']
      show ((w.drew.alloc (.cells c0 59)).setRow w.heap.size c1).heap[k]? = _
      rw [setRow_other _ _ _ _ hk', heap_alloc, if_neg (by show ¬ k = w.heap.size; omega)]
      rfl)
  have HAP := hidp hap
  have HCA : Hid (∀ ty dL dC sL sC, Nat.min sL dL = 1 → (Builtin.copy_ #[142, 142] ty #[.slice (some ⟨w.heap.size, i * 6, none⟩) dL dC, .slice (some ⟨ab, 0, none⟩) sL sC]).run Tryz.prog ((w.alloc (.cells c0 59)).drew) = .ok (goInt ((1 : Nat) : Int)) (((w.alloc (.cells c0 59)).drew).setRow w.heap.size c1)) := hidp hcpA
  have HCB : Hid (∀ ty o dL dC s sL sC, o = (i + 1) * 6 → s = i * 6 → Nat.min sL dL = n - i → (Builtin.copy_ #[142, 142] ty #[.slice (some ⟨w.heap.size, o, none⟩) dL dC, .slice (some ⟨g, s, none⟩) sL sC]).run Tryz.prog (((w.alloc (.cells c0 59)).drew).setRow w.heap.size c1).drew = .ok (goInt ((n - i : Nat) : Int)) ((((w.alloc (.cells c0 59)).drew).setRow w.heap.size c1).drew.setRow w.heap.size c2)) := hidp hcpB
  have hGi : ¬ (G = i) := by omega
  have hGi1 : ¬ (G = i + 1) := by omega
  have hni : ¬ (n = i) := by omega
  have hGb : G ≤ 9223372036854775807 := by simpa [maxLen] using hGm
  have hgb : w.heap.size ≠ g := by omega
  clear hap hcpA hcpB hc0 hc0l hc0s hgW haW hhW hc1 hc1l hql hi1 hi2 hi3 hgW2 hhW2 hc2 hsrc hzs hzl hG hxs hxl hcur htake hg hab h1 hx1 hi0 hz0 hz1 hz2 hGm
  go_enter Tryz.func178, Tryz.ntmps178
  go_wp2_with (at_builtin; refine Go.Lib.wpList_append_run _ rfl _ _ 142 3 rfl _ _ rfl rfl _ _ (HAP.out _) ?_)
  rw [HCA.out 3 (n + 1 - i) (G - i) 1 1 (by simp only [Nat.min_def]; split <;> omega)]
  have hw1 : IntKind.i64.wrap ((i : Int) + 1) = (i : Int) + 1 := by rw [IntKind.wrap_i64]; omega
  have hb1 : (0 : Int) ≤ (i : Int) + 1 := by omega
  have htn : ((i : Int) + 1).toNat = i + 1 := by omega
  have hb3 : (i : Int) + 1 ≤ (n : Int) + 1 := by omega
  have hb5 : (i : Int) ≤ (n : Int) := by omega
  go_wp2
  go_region_law (refine step_copyK rfl (.tmp 50) (.tmp 53) 142 142 rfl (.slice (some ⟨w.heap.size, (i + 1) * 6, none⟩) (n + 1 - (i + 1)) (G - (i + 1))) (.slice (some ⟨g, i * 6, none⟩) (n - i) (n - i)) (by simp [Act.eval, Act.put]) (by simp [Act.eval, Act.put]) (HCB.out 3 _ _ _ _ _ _ rfl rfl (by simp only [Nat.min_def]; split <;> omega)) ?_)
  all_goals
    go_wp2
    go_ret
    exact HP.out

/-- slices.Insert of one version at a place, on a slice that is owned -/
theorem insert_any (B : Nat) (v0 : Value) (n i : Nat) (xs : List Value) (u0 u1 u2 u3 u4 u5 : Value) (ab : Nat) (w : World) (hB : B ≤ w.heap.size) (hown : w.ownsRow B 59 6 v0 n xs) (hi : i ≤ n) (hn : n ≤ 1000000)
    (hab : w.heap[ab]? = some (.cells #[u0, u1, u2, u3, u4, u5] 59)) (hne : v0.ownBlock ≠ some ab) (h1 : ∀ u ∈ [u0, u1, u2, u3, u4, u5], u.oneCell' = true) (hx1 : ∀ u ∈ xs, u.oneCell' = true) :
    Calls Tryz.prog 178 #[v0, .int .i64 i, .slice (some ⟨ab, 0, none⟩) 1 1] w (InsPost B v0 n (xs.take (i * 6) ++ [u0, u1, u2, u3, u4, u5] ++ xs.drop (i * 6)) w) := by
  by_cases hin : i = n
  · subst hin
    have hl := hown.1
    rw [List.take_of_length_le (by omega), List.drop_eq_nil_of_le (by omega), List.append_nil]
    exact insert_end B v0 i xs u0 u1 u2 u3 u4 u5 ab w hB hown hn hab h1
  · have hlt : i < n := by omega
    obtain ⟨hl, hh | ⟨g, cap, cur, rfl, hBg, hg, hc, hm, hsz, ht⟩⟩ := hown
    · omega
    · have hne' : ab ≠ g := fun e => hne (by rw [e]; rfl)
      by_cases hr : n + 1 ≤ cap
      · exact insert_room B g n i cap cur xs u0 u1 u2 u3 u4 u5 ab w hg hBg hsz ht hlt hr (by simpa [maxLen] using hm) hab hne' h1 hx1
      · obtain rfl : cap = n := by omega
        exact insert_grow B g cap i cur xs u0 u1 u2 u3 u4 u5 ab w hg hB hsz ht hlt hn hab h1 hx1
end Go.Proofs.YtbopfhbeegkkaabGreatDoor

namespace Go.Proofs.YtbopfhbeegkkaabGreatDoor
open Go.RowKit

def rowOf (vs : List VerP) : List Value := vs.flatMap verCells
theorem rowOf_len (vs : List VerP) : (rowOf vs).length = vs.length * 6 := by
  induction vs with
  | nil => rfl
  | cons x l ih => simp only [rowOf, List.flatMap_cons, List.length_append, verCells, List.length_cons, List.length_nil] at ih ⊢; omega
theorem rowOf_append (a b : List VerP) : rowOf (a ++ b) = rowOf a ++ rowOf b := by simp [rowOf]
theorem rowOf_take (vs : List VerP) (i : Nat) (hi : i ≤ vs.length) : (rowOf vs).take (i * 6) = rowOf (vs.take i) := by
  have h : rowOf vs = rowOf (vs.take i) ++ rowOf (vs.drop i) := by rw [← rowOf_append, List.take_append_drop]
  rw [h]
  exact List.take_left' (by rw [rowOf_len, List.length_take]; omega)
theorem rowOf_drop (vs : List VerP) (i : Nat) (hi : i ≤ vs.length) : (rowOf vs).drop (i * 6) = rowOf (vs.drop i) := by
  have h : rowOf vs = rowOf (vs.take i) ++ rowOf (vs.drop i) := by rw [← rowOf_append, List.take_append_drop]
  rw [h]
  exact List.drop_left' (by rw [rowOf_len, List.length_take]; omega)
theorem rowOf_one (vs : List VerP) : ∀ u ∈ rowOf vs, u.oneCell' = true := by
  intro u hu
  simp only [rowOf, List.mem_flatMap, verCells] at hu
  obtain ⟨x, _, hx⟩ := hu
  simp at hx
  rcases hx with rfl | rfl | rfl | rfl | rfl | rfl <;> rfl
theorem rowOf_at : ∀ (l : List VerP) (i : Nat) (x : VerP), l[i]? = some x → (rowOf l)[i * 6]? = some (.int .i64 x.w) ∧ (rowOf l)[i * 6 + 1]? = some (.int .i64 x.c) ∧ (rowOf l)[i * 6 + 2]? = some (.int .i64 x.site) ∧
    (rowOf l)[i * 6 + 3]? = some (.int .i64 x.seq) ∧ (rowOf l)[i * 6 + 4]? = some (.string x.data) ∧ (rowOf l)[i * 6 + 5]? = some (.bool x.gone)
  | [], i, x, h => by simp at h
  | y :: l, 0, x, h => by simp at h; subst h; simp [rowOf, verCells]
  | y :: l, i + 1, x, h => by
    have := rowOf_at l i x (by simpa using h)
    have e : ∀ j, (rowOf (y :: l))[j + 6]? = (rowOf l)[j]? := fun j => by simp [rowOf, verCells, List.getElem?_append_right]
    rw [show (i + 1) * 6 = i * 6 + 6 by omega, show i * 6 + 6 + 1 = (i * 6 + 1) + 6 by omega, show i * 6 + 6 + 2 = (i * 6 + 2) + 6 by omega, show i * 6 + 6 + 3 = (i * 6 + 3) + 6 by omega, show i * 6 + 6 + 4 = (i * 6 + 4) + 6 by omega, show i * 6 + 6 + 5 = (i * 6 + 5) + 6 by omega, e, e, e, e, e, e]
    exact this
theorem own_vs {w : World} {B c : Nat} {A : Option Addr} {vs : List VerP} (h : w.ownsRow B 59 6 (.slice A vs.length c) vs.length (rowOf vs)) : VsAt w A vs := by
  intro i x hx
  obtain ⟨hl, hn | ⟨g, cap, cur, hv, hb, hg, rest⟩⟩ := id h
  · have : vs = [] := List.eq_nil_of_length_eq_zero hn.2
    subst this; simp at hx
  · simp only [Value.slice.injEq] at hv
    obtain ⟨rfl, _, rfl⟩ := hv
    have hc := h.cells (g := g) rfl
    obtain ⟨h0, h1, h2, h3, h4, h5⟩ := rowOf_at vs i x hx
    have e : ∀ j : Nat, (⟨g, 0, none⟩ : Addr).add j = ⟨g, 0 + j, none⟩ := fun j => by unfold Addr.add; split <;> simp_all
    have k0 := hc _ _ h0; have k1 := hc _ _ h1; have k2 := hc _ _ h2; have k3 := hc _ _ h3; have k4 := hc _ _ h4; have k5 := hc _ _ h5
    rw [e] at k0 k1 k2 k3 k4 k5
    exact ⟨g, 0, rfl, (Array.getElem?_eq_some_iff.1 hg).1, k0, k1, k2, k3, k4, k5⟩
theorem own_form {w : World} {B e s n : Nat} {v : Value} {xs : List Value} (h : w.ownsRow B e s v n xs) : ∃ A c, v = .slice A n c := by
  obtain ⟨_, hh | ⟨g, cap, cur, hv, _⟩⟩ := h
  · exact ⟨none, 0, by rw [hh.1, hh.2]⟩
  · exact ⟨_, cap, hv⟩

structure StAt (w : World) (g o B : Nat) (S : Nat → List VerP) (sv : Nat → Value) : Prop where
  lt : g < w.heap.size
  cel : ∀ k, k < 8 → w.cell? ⟨g, o + k, none⟩ = some (sv k)
  frz : ∀ k, k < 8 → w.frozen? ⟨g, o + k, none⟩ = false
  own : ∀ k, k < 8 → w.ownsRow B 59 6 (sv k) (S k).length (rowOf (S k))
  ng : ∀ k, k < 8 → (sv k).ownBlock ≠ some g
  dis : ∀ j k, j < 8 → k < 8 → j ≠ k → ∀ b, (sv j).ownBlock = some b → (sv k).ownBlock ≠ some b
/-- the blocks of a store -/
def StOwn (g : Nat) (sv : Nat → Value) (b : Nat) : Prop := b = g ∨ ∃ k, k < 8 ∧ (sv k).ownBlock = some b
structure StFr (w w' : World) (g o : Nat) (sv sv' : Nat → Value) : Prop where
  os : w'.os = w.os
  tape : w'.tape = w.tape
  output : w'.output = w.output
  size : w.heap.size ≤ w'.heap.size
  block : ∀ k, k < w.heap.size → ¬ StOwn g sv k → w'.heap[k]? = w.heap[k]?
  own : ∀ b, StOwn g sv' b → StOwn g sv b ∨ w.heap.size ≤ b
  rest : ∀ k, k < o ∨ o + 8 ≤ k → w'.cell? ⟨g, k, none⟩ = w.cell? ⟨g, k, none⟩
  frzd : ∀ k, w'.frozen? ⟨g, k, none⟩ = w.frozen? ⟨g, k, none⟩

theorem StAt.blt {w : World} {g o B : Nat} {S : Nat → List VerP} {sv : Nat → Value} (h : StAt w g o B S sv) {b : Nat} (hb : StOwn g sv b) : b < w.heap.size := by
  rcases hb with rfl | ⟨k, hk, hb⟩
  · exact h.lt
  · exact (own_ge (h.own k hk) hb).2
theorem StAt.below {w w' : World} {g o B : Nat} {S : Nat → List VerP} {sv : Nat → Value} (h : StAt w g o B S sv) (hb : Below w.heap.size w w') : StAt w' g o B S sv :=
  ⟨Nat.lt_of_lt_of_le h.lt hb.size, fun k hk => (hb.cell (p := ⟨g, o + k, none⟩) h.lt).trans (h.cel k hk), fun k hk => (World.frozen?_of_block (hb.block g h.lt)).trans (h.frz k hk), fun k hk => own_below (h.own k hk) hb fun b e => (own_ge (h.own k hk) e).2, h.ng, h.dis⟩
theorem StFr.of_below {w w' : World} {g : Nat} (hlg : g < w.heap.size) (o : Nat) (sv : Nat → Value) (hb : Below w.heap.size w w') : StFr w w' g o sv sv :=
  ⟨hb.os, hb.tape, hb.output, hb.size, fun k hk _ => hb.block k hk, fun _ h => .inl h, fun k _ => hb.cell (p := ⟨g, k, none⟩) hlg, fun k => World.frozen?_of_block (hb.block g hlg)⟩
theorem StAt.cell {w : World} {g o B : Nat} {S : Nat → List VerP} {sv : Nat → Value} (h : StAt w g o B S sv) {k : Nat} (hk : k < 8) : w.cell? ⟨g, o + k, none⟩ = some (sv k) ∧ w.frozen? ⟨g, o + k, none⟩ = false :=
  ⟨h.cel k hk, h.frz k hk⟩

def insV (vs : List VerP) (v : VerP) : List VerP := vs.take (bsK vs v) ++ [v] ++ vs.drop (bsK vs v)
def putR (S : Nat → List VerP) (key : Int) (v : VerP) : Int × (Nat → List VerP) :=
  if key < 0 ∨ 8 ≤ key then (2, S) else if rightV v = false then (1, S) else if bsF (S key.toNat) v = true then (9, S)
  else (0, fun k => if k = key.toNat then insV (S k) v else S k)
def errV (n : Int) : Value := if n = 0 then .nilIface else .iface 29 (.int .i64 n)
theorem bsK_le (vs : List VerP) (v : VerP) : bsK vs v ≤ vs.length := (bsGo_le vs v _ _ _ (Nat.zero_le _)).2

/-- one slice of a store is taken anew -/
theorem StAt.upd {w w1 : World} {g o B k : Nat} {S : Nat → List VerP} {sv : Nat → Value} {v' : Value} {vs' : List VerP} (h : StAt w g o B S sv) (hk : k < 8) (hg : w.grownBy w1 (sv k).ownBlock)
    (hown : w1.ownsRow B 59 6 v' vs'.length (rowOf vs')) (hv : v'.ownBlock = (sv k).ownBlock ∨ ∀ b, v'.ownBlock = some b → w.heap.size ≤ b) :
    StAt (w1.setCell ⟨g, o + k, none⟩ v') g o B (fun j => if j = k then vs' else S j) (fun j => if j = k then v' else sv j) ∧
    StFr w (w1.setCell ⟨g, o + k, none⟩ v') g o sv (fun j => if j = k then v' else sv j) := by
  have hlg := h.lt
  have hgb : w1.heap[g]? = w.heap[g]? := hg.block g hlg (fun e => h.ng k hk e.symm)
  have hc1 : ∀ j, w1.cell? ⟨g, j, none⟩ = w.cell? ⟨g, j, none⟩ := fun j => World.cell?_of_block hgb
  have hf1 : ∀ j, w1.frozen? ⟨g, j, none⟩ = w.frozen? ⟨g, j, none⟩ := fun j => World.frozen?_of_block hgb
  have hgs := grown_set w1 g (o + k) v'
  have hvg : v'.ownBlock ≠ some g := by
    rcases hv with e | e
    · rw [e]; exact h.ng k hk
    · intro e2; have := e g e2; omega
  have hvd : ∀ j, j < 8 → j ≠ k → ∀ b, v'.ownBlock = some b → (sv j).ownBlock ≠ some b := by
    intro j hj hjk b hb e2
    rcases hv with e | e
    · rw [e] at hb; exact h.dis k j hk hj (Ne.symm hjk) b hb e2
    · have := e b hb; have := (own_ge (h.own j hj) e2).2; omega
  refine ⟨⟨by have := hg.size; simp [World.setCell]; omega, ?_, ?_, ?_, ?_, ?_⟩, ⟨hg.os, hg.tape, hg.output, by simpa [World.setCell] using hg.size, ?_, ?_, ?_, ?_⟩⟩
  · intro j hj
    by_cases e : j = k
    · subst e
      simp only [if_true]
      exact World.cell?_setCell_same _ _ _ (by rw [hc1]; exact h.cel j hj)
    · simp only [if_neg e]
      rw [World.cell?_setCell_other _ _ _ _ (by simp only [ne_eq, Addr.mk.injEq, not_and]; omega), hc1]
      exact h.cel j hj
  · intro j hj
    rw [World.frozen?_setCell, hf1]
    exact h.frz j hj
  · intro j hj
    by_cases e : j = k
    · subst e
      simp only [if_true]
      exact hown.kept hgs (.inr hvg)
    · simp only [if_neg e]
      have h1 : w1.ownsRow B 59 6 (sv j) (S j).length (rowOf (S j)) := by
        refine (h.own j hj).kept hg ?_
        cases hb : (sv j).ownBlock with
        | none => exact .inl rfl
        | some b => exact .inr fun e2 => h.dis j k hj hk e b hb e2.symm
      exact h1.kept hgs (.inr (h.ng j hj))
  · intro j hj
    by_cases e : j = k
    · simp only [if_pos e]; exact hvg
    · simp only [if_neg e]; exact h.ng j hj
  · intro j i hj hi hji b hb
    by_cases e : j = k
    · simp only [if_pos e] at hb
      have : i ≠ k := fun e2 => hji (e.trans e2.symm)
      simp only [if_neg this]
      exact hvd i hi this b hb
    · simp only [if_neg e] at hb
      by_cases e2 : i = k
      · simp only [if_pos e2]
        intro e3; exact hvd j hj e b e3 hb
      · simp only [if_neg e2]; exact h.dis j i hj hi hji b hb
  · intro b hb hno
    have h1 : b ≠ g := fun e => hno (.inl e)
    have h2 : (sv k).ownBlock ≠ some b := fun e => hno (.inr ⟨k, hk, e⟩)
    rw [hgs.block b (by have := hg.size; omega) (by simp; exact h1)]
    exact hg.block b hb (fun e => h2 e.symm)
  · rintro b (rfl | ⟨j, hj, hb⟩)
    · exact .inl (.inl rfl)
    · by_cases e : j = k
      · simp only [if_pos e] at hb
        rcases hv with e2 | e2
        · rw [e2] at hb; exact .inl (.inr ⟨k, hk, hb⟩)
        · exact .inr (e2 b hb)
      · simp only [if_neg e] at hb
        exact .inl (.inr ⟨j, hj, hb⟩)
  · intro j hj
    rw [World.cell?_setCell_other _ _ _ _ (by simp only [ne_eq, Addr.mk.injEq, not_and]; omega), hc1]
  · intro j
    rw [World.frozen?_setCell, hf1]
end Go.Proofs.YtbopfhbeegkkaabGreatDoor
