import Derived.Test.YtbopfhbeegkkaaaDoorIns2
namespace Go.Proofs.YtbopfhbeegkkaaaDoor
open Go.RowKit

theorem ins_list2 {α : Type} (cl news q : List α) (a k : Nat) (hl : a + k + q.length ≤ cl.length) (hk : news.length = k) :
    let l1 := cl.take a ++ news ++ cl.drop (a + k)
    ((l1.take (a + k) ++ q ++ l1.drop (a + k + q.length)).take (a + k + q.length) = cl.take a ++ news ++ q) ∧ (l1.take (a + k) ++ q ++ l1.drop (a + k + q.length)).length = cl.length ∧ l1.length = cl.length := by
  intro l1
  have hl1 : l1.length = cl.length := by simp only [l1, List.length_append, List.length_take, List.length_drop, hk]; omega
  have h1 : l1.take (a + k) = cl.take a ++ news := List.take_left' (by simp only [List.length_append, List.length_take, hk]; omega)
  refine ⟨?_, ?_, hl1⟩
  · rw [h1]
    exact List.take_left' (by simp only [List.length_append, List.length_take, hk]; omega)
  · rw [h1]; simp only [List.length_append, List.length_take, List.length_drop, hk, hl1]; omega

set_option maxRecDepth 20000 in
set_option maxHeartbeats 8000000 in
theorem insert_grow (B : Nat) (g n i : Nat) (cur : Array Value) (xs : List Value) (u0 u1 u2 u3 u4 u5 : Value) (ab : Nat) (w : World) (hg : w.heap[g]? = some (.cells cur 71)) (hB : B ≤ w.heap.size) (hcur : cur.size = n * 6) (htake : cur.toList.take (n * 6) = xs)
    (hi : i < n) (hn : n ≤ 1000000) (hab : w.heap[ab]? = some (.cells #[u0, u1, u2, u3, u4, u5] 71)) (h1 : ∀ u ∈ [u0, u1, u2, u3, u4, u5], u.oneCell' = true) (hx1 : ∀ u ∈ xs, u.oneCell' = true) :
    Calls Tryd.prog 70 #[.slice (some ⟨g, 0, none⟩) n n, .int .i64 i, .slice (some ⟨ab, 0, none⟩) 1 1] w (InsPost B (.slice (some ⟨g, 0, none⟩) n n) n (xs.take (i * 6) ++ [u0, u1, u2, u3, u4, u5] ++ xs.drop (i * 6)) w) := by
  obtain ⟨i0, hi0, hz0, hz1, hz2⟩ := info71x
  have hltg := lt_blk hg
  have hlta := lt_blk hab
  have hxs : cur.toList = xs := by rw [← htake, List.take_of_length_le (by rw [Array.length_toList, hcur]; exact Nat.le_refl _)]
  have hxl : xs.length = n * 6 := by rw [← hxs, Array.length_toList, hcur]
  obtain ⟨G, hG⟩ : ∃ G, grownCap w (n + 1) n 71 = G := ⟨_, rfl⟩
  have hge : n + 1 ≤ G := by rw [← hG]; exact grownCap_ge w (n + 1) n 71
  have hGm : G ≤ maxLen := by rw [← hG]; exact grownCap_le_maxLen w (n + 1) n 71 (Nat.le_trans (by omega) maxLen_ge)
  obtain ⟨zs, hzs, hzl⟩ : ∃ zs : List Value, (Builtin.zeroCells (Value.agg #[.int .i64 0, .int .i64 0, .int .i64 0, .int .i64 0, .string ⟨#[]⟩, .bool false]).cells (n + 1 - i) ++ Builtin.zeroCells (Value.agg #[.int .i64 0, .int .i64 0, .int .i64 0, .int .i64 0, .string ⟨#[]⟩, .bool false]).cells (G - (n + 1))).toList = zs ∧ zs.length = (G - i) * 6 := ⟨_, rfl, by
    have h6 : (Value.agg #[.int .i64 0, .int .i64 0, .int .i64 0, .int .i64 0, .string ⟨#[]⟩, .bool false]).cells.size = 6 := rfl
    simp only [Array.length_toList, Array.size_append, size_zeroCells, h6]; omega⟩
  obtain ⟨c0, hc0⟩ : ∃ c0 : Array Value, (xs.take (i * 6) ++ zs).toArray = c0 := ⟨_, rfl⟩
  have hsrc : ∀ (o : Nat) (W : World), W.heap[g]? = some (.cells cur 71) → ∀ (j : Nat) (v : Value), (xs.drop o)[j]? = some v → W.cell? ((⟨g, o, none⟩ : Addr).add j) = some v := fun o W hW j v hj => by
    have e : (⟨g, o, none⟩ : Addr).add j = ⟨g, o + j, none⟩ := by unfold Addr.add; split <;> simp_all
    rw [e, cell_blk hW, ← Array.getElem?_toList, hxs]
    rwa [List.getElem?_drop] at hj
  have hap : ∀ ty, (Builtin.append_ #[63, 3] ty #[.slice (some ⟨g, 0, none⟩) i n, .int .i64 ((n : Int) + 1 - (i : Int))]).run Tryd.prog w = .ok (.slice (some ⟨w.heap.size, 0, none⟩) (n + 1) G) (w.drew.alloc (.cells c0 71)) := by
    intro ty
    have e : ((n : Int) + 1 - (i : Int)) = ((n + 1 - i : Nat) : Int) := by omega
    have hold : (Builtin.firstCells i0.size i (.slice (some ⟨g, 0, none⟩) i n)).run Tryd.prog w.drew = .ok (xs.take (i * 6)).toArray w.drew := by
      have hl : (xs.take (i * 6)).length = i * 6 := by rw [List.length_take, hxl]; omega
      have := run_loadCells_list (P := Tryd.prog) w.drew ⟨g, 0, none⟩ (xs.take (i * 6)) (fun j v hj => by
        rw [List.getElem?_take] at hj
        split at hj
        · have := hsrc 0 w.drew hg j v (by rwa [List.drop_zero]); exact this
        · cases hj)
      rw [hl] at this
      simp only [Builtin.firstCells, hz1]
      exact this
    have hr := Go.Lib.run_append_grow_zeros (P := Tryd.prog) w 63 3 ty 71 i0 (.agg #[.int .i64 0, .int .i64 0, .int .i64 0, .int .i64 0, .string ⟨#[]⟩, .bool false]) .i64 .i64 Tryd.underlying63 Tryd.underlying3 hi0 hz0 (some ⟨g, 0, none⟩) i n (xs.take (i * 6)) hold (n + 1 - i) (by omega) (by omega) (by omega) (by omega) (by rw [hz2]; omega)
      (growslice_fits (by omega) (by rw [hz2]; omega))
    rw [e, hr]
    have e2 : i + (n + 1 - i) = n + 1 := by omega
    rw [e2, hG]
    congr 3
    rw [← hc0, ← hzs]
    apply Array.toList_inj.1
    simp
  have hc0l : c0.toList = xs.take (i * 6) ++ zs := by rw [← hc0]
  have hc0s : c0.toList.length = G * 6 := by rw [hc0l, List.length_append, List.length_take, hxl, hzl]; omega
  have hgW : (w.drew.alloc (.cells c0 71)).heap[g]? = some (.cells cur 71) := by rw [heap_alloc, if_neg (by show ¬ g = w.heap.size; omega)]; exact hg
  have haW : (w.drew.alloc (.cells c0 71)).heap[ab]? = some (.cells #[u0, u1, u2, u3, u4, u5] 71) := by rw [heap_alloc, if_neg (by show ¬ ab = w.heap.size; omega)]; exact hab
  have hhW : (w.drew.alloc (.cells c0 71)).heap[w.heap.size]? = some (.cells c0 71) := by rw [heap_alloc, if_pos (show w.heap.size = w.drew.heap.size from rfl)]
  obtain ⟨c1, hc1⟩ : ∃ c1 : Array Value, (c0.toList.take (i * 6) ++ [u0, u1, u2, u3, u4, u5] ++ c0.toList.drop (i * 6 + [u0, u1, u2, u3, u4, u5].length)).toArray = c1 := ⟨_, rfl⟩
  have hcpA : ∀ ty dL dC sL sC, Nat.min sL dL = 1 → (Builtin.copy_ #[63, 63] ty #[.slice (some ⟨w.heap.size, i * 6, none⟩) dL dC, .slice (some ⟨ab, 0, none⟩) sL sC]).run Tryd.prog (w.drew.alloc (.cells c0 71)) = .ok (goInt ((1 : Nat) : Int)) ((w.drew.alloc (.cells c0 71)).setRow w.heap.size c1) := by
    intro ty dL dC sL sC hm
    rw [← hc1]
    exact run_copy_rowK _ 63 63 ty 71 w.heap.size (i * 6) dL dC ⟨ab, 0, none⟩ sL sC 6 1 c0 71 [u0, u1, u2, u3, u4, u5] Tryd.underlying63 sz71 hhW hm rfl (cells6 haW) (by rw [← Array.length_toList, hc0s]; simp; omega) h1
  have hc1l : c1.toList = c0.toList.take (i * 6) ++ [u0, u1, u2, u3, u4, u5] ++ c0.toList.drop (i * 6 + 6) := by rw [← hc1]; rfl
  have hql : (xs.drop (i * 6)).length = (n - i) * 6 := by rw [List.length_drop, hxl]; omega
  have hil := ins_list2 c0.toList [u0, u1, u2, u3, u4, u5] (xs.drop (i * 6)) (i * 6) 6 (by rw [hql, hc0s]; omega) rfl
  simp only at hil
  rw [← hc1l] at hil
  obtain ⟨hi1, hi2, hi3⟩ := hil
  have hgW2 : ((w.drew.alloc (.cells c0 71)).setRow w.heap.size c1).drew.heap[g]? = some (.cells cur 71) := (setRow_other _ _ _ _ (by omega)).trans hgW
  have hhW2 : ((w.drew.alloc (.cells c0 71)).setRow w.heap.size c1).drew.heap[w.heap.size]? = some (.cells c1 71) := setRow_heap _ _ _ _ _ _ hhW
  obtain ⟨c2, hc2⟩ : ∃ c2 : Array Value, (c1.toList.take ((i + 1) * 6) ++ xs.drop (i * 6) ++ c1.toList.drop ((i + 1) * 6 + (xs.drop (i * 6)).length)).toArray = c2 := ⟨_, rfl⟩
  have hcpB : ∀ ty o dL dC s sL sC, o = (i + 1) * 6 → s = i * 6 → Nat.min sL dL = n - i → (Builtin.copy_ #[63, 63] ty #[.slice (some ⟨w.heap.size, o, none⟩) dL dC, .slice (some ⟨g, s, none⟩) sL sC]).run Tryd.prog ((w.drew.alloc (.cells c0 71)).setRow w.heap.size c1).drew = .ok (goInt ((n - i : Nat) : Int)) (((w.drew.alloc (.cells c0 71)).setRow w.heap.size c1).drew.setRow w.heap.size c2) := by
    rintro ty o dL dC s sL sC rfl rfl hm
    rw [← hc2]
    exact run_copy_rowK _ 63 63 ty 71 w.heap.size ((i + 1) * 6) dL dC ⟨g, i * 6, none⟩ sL sC 6 (n - i) c1 71 (xs.drop (i * 6)) Tryd.underlying63 sz71 hhW2 hm hql (hsrc (i * 6) _ hgW2) (by rw [hql, ← Array.length_toList, hi3, hc0s]; omega) (fun u hu => hx1 u (List.mem_of_mem_drop hu))
  have HP : Hid (InsPost B (.slice (some ⟨g, 0, none⟩) n n) n (xs.take (i * 6) ++ [u0, u1, u2, u3, u4, u5] ++ xs.drop (i * 6)) w (.returned (.slice (some ⟨w.heap.size, 0, none⟩) (n + 1) G)) (((w.drew.alloc (.cells c0 71)).setRow w.heap.size c1).drew.setRow w.heap.size c2)) := hidp (by
    refine ⟨_, rfl, ⟨?_, .inr ⟨w.heap.size, G, c2, rfl, hB, setRow_heap _ _ _ _ _ _ hhW2, hge, hGm, ?_, ?_⟩⟩, ?_, .inr (fun k hk => by simp [Value.ownBlock] at hk; omega)⟩
    · simp only [List.length_append, List.length_take, List.length_drop, List.length_cons, List.length_nil, hxl]; omega
    · rw [← Array.length_toList, ← hc2, ← hc0s, show (i + 1) * 6 = i * 6 + 6 by omega]
      exact hi2
    · rw [← hc2, show (i + 1) * 6 = i * 6 + 6 by omega, show (n + 1) * 6 = i * 6 + 6 + (xs.drop (i * 6)).length by rw [hql]; omega]
      simp only [List.toList_toArray]
      rw [hi1, hc0l, List.take_left' (by rw [List.length_take, hxl]; omega)]
    · refine ⟨rfl, rfl, rfl, by simp, fun k hk _ => ?_⟩
      have hk' : k ≠ w.heap.size := by omega
      rw [setRow_other _ _ _ _ hk']
      show ((w.drew.alloc (.cells c0 71)).setRow w.heap.size c1).heap[k]? = _
      rw [setRow_other _ _ _ _ hk', heap_alloc, if_neg (by show ¬ k = w.heap.size; omega)]
      rfl)
  have HAP := hidp hap
  have HCA : Hid (∀ ty dL dC sL sC, Nat.min sL dL = 1 → (Builtin.copy_ #[63, 63] ty #[.slice (some ⟨w.heap.size, i * 6, none⟩) dL dC, .slice (some ⟨ab, 0, none⟩) sL sC]).run Tryd.prog ((w.alloc (.cells c0 71)).drew) = .ok (goInt ((1 : Nat) : Int)) (((w.alloc (.cells c0 71)).drew).setRow w.heap.size c1)) := hidp hcpA
  have HCB : Hid (∀ ty o dL dC s sL sC, o = (i + 1) * 6 → s = i * 6 → Nat.min sL dL = n - i → (Builtin.copy_ #[63, 63] ty #[.slice (some ⟨w.heap.size, o, none⟩) dL dC, .slice (some ⟨g, s, none⟩) sL sC]).run Tryd.prog (((w.alloc (.cells c0 71)).drew).setRow w.heap.size c1).drew = .ok (goInt ((n - i : Nat) : Int)) ((((w.alloc (.cells c0 71)).drew).setRow w.heap.size c1).drew.setRow w.heap.size c2)) := hidp hcpB
  have hGi : ¬ (G = i) := by omega
  have hGi1 : ¬ (G = i + 1) := by omega
  have hni : ¬ (n = i) := by omega
  have hGb : G ≤ 9223372036854775807 := by simpa [maxLen] using hGm
  have hgb : w.heap.size ≠ g := by omega
  clear hap hcpA hcpB hc0 hc0l hc0s hgW haW hhW hc1 hc1l hql hi1 hi2 hi3 hgW2 hhW2 hc2 hsrc hzs hzl hG hxs hxl hcur htake hg hab h1 hx1 hi0 hz0 hz1 hz2 hGm
  go_enter Tryd.func70, Tryd.ntmps70
  go_wp2_with (at_builtin; refine Go.Lib.wpList_append_run _ rfl _ _ 63 3 rfl _ _ rfl rfl _ _ (HAP.out _) ?_)
  rw [HCA.out 3 (n + 1 - i) (G - i) 1 1 (by simp only [Nat.min_def]; split <;> omega)]
  have hw1 : IntKind.i64.wrap ((i : Int) + 1) = (i : Int) + 1 := by rw [IntKind.wrap_i64]; omega
  have hb1 : (0 : Int) ≤ (i : Int) + 1 := by omega
  have htn : ((i : Int) + 1).toNat = i + 1 := by omega
  have hb3 : (i : Int) + 1 ≤ (n : Int) + 1 := by omega
  have hb5 : (i : Int) ≤ (n : Int) := by omega
  go_wp2
  go_region_law (refine step_copyK rfl (.tmp 50) (.tmp 53) 63 63 rfl (.slice (some ⟨w.heap.size, (i + 1) * 6, none⟩) (n + 1 - (i + 1)) (G - (i + 1))) (.slice (some ⟨g, i * 6, none⟩) (n - i) (n - i)) (by simp [Act.eval, Act.put]) (by simp [Act.eval, Act.put]) (HCB.out 3 _ _ _ _ _ _ rfl rfl (by simp only [Nat.min_def]; split <;> omega)) ?_)
  all_goals
    go_wp2
    go_ret
    exact HP.out

/-- slices.Insert of one version at a place, on a slice that is owned -/
theorem insert_any (B : Nat) (v0 : Value) (n i : Nat) (xs : List Value) (u0 u1 u2 u3 u4 u5 : Value) (ab : Nat) (w : World) (hB : B ≤ w.heap.size) (hown : w.ownsRow B 71 6 v0 n xs) (hi : i ≤ n) (hn : n ≤ 1000000)
    (hab : w.heap[ab]? = some (.cells #[u0, u1, u2, u3, u4, u5] 71)) (hne : v0.ownBlock ≠ some ab) (h1 : ∀ u ∈ [u0, u1, u2, u3, u4, u5], u.oneCell' = true) (hx1 : ∀ u ∈ xs, u.oneCell' = true) :
    Calls Tryd.prog 70 #[v0, .int .i64 i, .slice (some ⟨ab, 0, none⟩) 1 1] w (InsPost B v0 n (xs.take (i * 6) ++ [u0, u1, u2, u3, u4, u5] ++ xs.drop (i * 6)) w) := by
  by_cases hin : i = n
  · subst hin
    have hl := hown.1
    rw [List.take_of_length_le (by omega), List.drop_eq_nil_of_le (by omega), List.append_nil]
    exact insert_end B v0 i xs u0 u1 u2 u3 u4 u5 ab w hB hown hn hab h1
  · have hlt : i < n := by omega
    obtain ⟨hl, hh | ⟨g, cap, cur, rfl, hBg, hg, hc, hm, hsz, ht⟩⟩ := hown
    · omega
    · have hne' : ab ≠ g := fun e => hne (by rw [e]; rfl)
      by_cases hr : n + 1 ≤ cap
      · exact insert_room B g n i cap cur xs u0 u1 u2 u3 u4 u5 ab w hg hBg hsz ht hlt hr (by simpa [maxLen] using hm) hab hne' h1 hx1
      · obtain rfl : cap = n := by omega
        exact insert_grow B g cap i cur xs u0 u1 u2 u3 u4 u5 ab w hg hB hsz ht hlt hn hab h1 hx1
end Go.Proofs.YtbopfhbeegkkaaaDoor
