import Derived.Test.YtbopfhbeegkkaaaDoorTap
import Derived.Test.YtbopfhbeegkkaaaDoorDecU
namespace Go.Proofs.YtbopfhbeegkkaaaDoor
open Go.RowKit

def TpAt (w : World) (g : Nat) (l : List UInt8) : Prop := ∃ s : ByteArray, s.data.toList = l ∧ w.heap[g]? = some (.cells #[.string s] 121)
theorem tap_step {s : ByteArray} {i y : Nat} (f n t : Nat) (hi : i < s.size) (hy : (s[i]'hi).toNat = y) :
    tapGo (f + 1) n t (s.data.toList.drop i) = if y < 128 then some (n + y % 128 * t, s.data.toList.drop (i + 1)) else tapGo f (n + y % 128 * t) (t * 128) (s.data.toList.drop (i + 1)) := by
  have h : i < s.data.toList.length := by rw [← ba_size]; exact hi
  rw [List.drop_eq_getElem_cons h]
  have e : s.data.toList[i] = s[i]'hi := by simp [ByteArray.getElem_eq_getElem_data]
  simp only [tapGo, e, hy]
theorem tap_end {s : ByteArray} {i : Nat} (f n t : Nat) (hi : ¬ i < s.size) : tapGo f n t (s.data.toList.drop i) = none := by
  rw [List.drop_eq_nil_of_le (by rw [← ba_size]; omega)]
  cases f <;> rfl
theorem ext_drop (s : ByteArray) (k : Nat) : (s.extract k s.size).data.toList = s.data.toList.drop k := by
  rw [ByteArray.data_extract]; simp
  exact List.take_of_length_le (by rw [List.length_drop, ← ba_size]; exact Nat.le_refl _)
theorem tap_some {w : World} {g k M : Nat} {s : ByteArray} (hb : w.heap[g]? = some (.cells #[.string s] 121)) (h : tapGo 6 0 1 s.data.toList = some (M, s.data.toList.drop k)) :
    (tapN s.data.toList).1 = (M : Int) ∧ TpAt (w.setCell ⟨g, 0, none⟩ (.string (s.extract k s.size))) g (tapN s.data.toList).2 ∧ w.grownBy (w.setCell ⟨g, 0, none⟩ (.string (s.extract k s.size))) (some g) := by
  unfold tapN; rw [h]
  refine ⟨rfl, ⟨_, ext_drop s k, ?_⟩, grown_set w g 0 _⟩
  have := blk_set hb 0 (.string (s.extract k s.size))
  simpa using this
theorem tap_none {w : World} {g : Nat} {s : ByteArray} (hb : w.heap[g]? = some (.cells #[.string s] 121)) (h : tapGo 6 0 1 s.data.toList = none) :
    (tapN s.data.toList).1 = -1 ∧ TpAt (w.setCell ⟨g, 0, none⟩ (.string ⟨#[]⟩)) g (tapN s.data.toList).2 ∧ w.grownBy (w.setCell ⟨g, 0, none⟩ (.string ⟨#[]⟩)) (some g) := by
  unfold tapN; rw [h]
  refine ⟨rfl, ⟨⟨#[]⟩, rfl, ?_⟩, grown_set w g 0 _⟩
  have := blk_set hb 0 (.string ⟨#[]⟩)
  simpa using this
theorem tap_fin {w w' : World} {g : Nat} {l : List UInt8} {z : Int} (h : (tapN l).1 = z ∧ TpAt w' g (tapN l).2 ∧ w.grownBy w' (some g)) {x : Int} (hx : x = z) :
    Ending.returned (.int .i64 x) = .returned (.int .i64 (tapN l).1) ∧ TpAt w' g (tapN l).2 ∧ w.grownBy w' (some g) := by
  subst hx; exact ⟨by rw [h.1], h.2⟩

set_option maxRecDepth 20000 in
set_option maxHeartbeats 4000000 in
theorem tapNum_any (g : Nat) (l : List UInt8) (w : World) (h : TpAt w g l) (hl : l.length ≤ 1000000) :
    Calls Tryd.prog 62 #[.pointer (some ⟨g, 0, none⟩)] w fun e w' => e = .returned (.int .i64 (tapN l).1) ∧ TpAt w' g (tapN l).2 ∧ w.grownBy w' (some g) := by
  obtain ⟨s, rfl, hb⟩ := h
  rw [← ba_size] at hl
  have g0 := cell_blk hb 0
  have f0 := frozen_blk hb 0
  simp at g0
  have HB := hidp hb
  have HT0 : Hid (tapGo 6 0 1 s.data.toList = tapGo 6 0 1 (s.data.toList.drop 0)) := hidp rfl
  clear hb
  go_enter Tryd.func62, Tryd.ntmps62
  go_wp2
  refine wp_loop_rounds 7 ?_
  rw [rounds_succ]
  by_cases c0 : 0 < s.size
  rotate_left
  · have HN := hidp (tap_none HB.out (by rw [HT0.out, tap_end _ _ _ c0]))
    go_wp2
    go_ret
    exact tap_fin HN.out rfl
  obtain ⟨y0, hy0⟩ : ∃ y, (s[0]'c0).toNat = y := ⟨_, rfl⟩
  have hyb0 : y0 < 256 := by rw [← hy0]; exact UInt8.toNat_lt _
  have hst0 := tap_step 5 (0 : Nat) 1 c0 hy0
  obtain ⟨X0, hX0⟩ : ∃ X, y0 % 128 = X := ⟨_, rfl⟩
  have hXb0 : X0 < 128 := by omega
  have hXi0 : (y0 : Int) % 128 = (X0 : Int) := by omega
  rw [hX0] at hst0
  obtain ⟨M1, hM1⟩ : ∃ M, (0 : Nat) + X0 * 1 = M := ⟨_, rfl⟩
  have hMb1 : M1 < 128 := by omega
  rw [hM1] at hst0
  have HSt := hidp hst0
  clear hst0
  by_cases d0 : y0 < 128
  · have HN := hidp (tap_some (k := 1) (M := M1) HB.out (by rw [HT0.out, HSt.out, if_pos d0]))
    go_wp2
    go_ret
    exact tap_fin HN.out (by try omega)
  have HT1 : Hid (tapGo 6 0 1 s.data.toList = tapGo 5 M1 (1 * 128) (s.data.toList.drop 1)) := hidp (by rw [HT0.out, HSt.out, if_neg d0])
  clear HSt
  go_wp2
  rw [rounds_succ]
  by_cases c1 : 1 < s.size
  rotate_left
  · have HN := hidp (tap_none HB.out (by rw [HT1.out, tap_end _ _ _ c1]))
    go_wp2
    go_ret
    exact tap_fin HN.out rfl
  obtain ⟨y1, hy1⟩ : ∃ y, (s[1]'c1).toNat = y := ⟨_, rfl⟩
  have hyb1 : y1 < 256 := by rw [← hy1]; exact UInt8.toNat_lt _
  have hst1 := tap_step 4 M1 128 c1 hy1
  obtain ⟨X1, hX1⟩ : ∃ X, y1 % 128 = X := ⟨_, rfl⟩
  have hXb1 : X1 < 128 := by omega
  have hXi1 : (y1 : Int) % 128 = (X1 : Int) := by omega
  rw [hX1] at hst1
  obtain ⟨M2, hM2⟩ : ∃ M, M1 + X1 * 128 = M := ⟨_, rfl⟩
  have hMb2 : M2 < 16384 := by omega
  rw [hM2] at hst1
  have HSt := hidp hst1
  clear hst1
  by_cases d1 : y1 < 128
  · have HN := hidp (tap_some (k := 2) (M := M2) HB.out (by rw [HT1.out, HSt.out, if_pos d1]))
    go_wp2
    go_ret
    exact tap_fin HN.out (by try omega)
  have HT2 : Hid (tapGo 6 0 1 s.data.toList = tapGo 4 M2 (128 * 128) (s.data.toList.drop 2)) := hidp (by rw [HT1.out, HSt.out, if_neg d1])
  clear HSt
  go_wp2
  rw [rounds_succ]
  by_cases c2 : 2 < s.size
  rotate_left
  · have HN := hidp (tap_none HB.out (by rw [HT2.out, tap_end _ _ _ c2]))
    go_wp2
    go_ret
    exact tap_fin HN.out rfl
  obtain ⟨y2, hy2⟩ : ∃ y, (s[2]'c2).toNat = y := ⟨_, rfl⟩
  have hyb2 : y2 < 256 := by rw [← hy2]; exact UInt8.toNat_lt _
  have hst2 := tap_step 3 M2 16384 c2 hy2
  obtain ⟨X2, hX2⟩ : ∃ X, y2 % 128 = X := ⟨_, rfl⟩
  have hXb2 : X2 < 128 := by omega
  have hXi2 : (y2 : Int) % 128 = (X2 : Int) := by omega
  rw [hX2] at hst2
  obtain ⟨M3, hM3⟩ : ∃ M, M2 + X2 * 16384 = M := ⟨_, rfl⟩
  have hMb3 : M3 < 2097152 := by omega
  rw [hM3] at hst2
  have HSt := hidp hst2
  clear hst2
  by_cases d2 : y2 < 128
  · have HN := hidp (tap_some (k := 3) (M := M3) HB.out (by rw [HT2.out, HSt.out, if_pos d2]))
    go_wp2
    go_ret
    exact tap_fin HN.out (by try omega)
  have HT3 : Hid (tapGo 6 0 1 s.data.toList = tapGo 3 M3 (16384 * 128) (s.data.toList.drop 3)) := hidp (by rw [HT2.out, HSt.out, if_neg d2])
  clear HSt
  go_wp2
  rw [rounds_succ]
  by_cases c3 : 3 < s.size
  rotate_left
  · have HN := hidp (tap_none HB.out (by rw [HT3.out, tap_end _ _ _ c3]))
    go_wp2
    go_ret
    exact tap_fin HN.out rfl
  obtain ⟨y3, hy3⟩ : ∃ y, (s[3]'c3).toNat = y := ⟨_, rfl⟩
  have hyb3 : y3 < 256 := by rw [← hy3]; exact UInt8.toNat_lt _
  have hst3 := tap_step 2 M3 2097152 c3 hy3
  obtain ⟨X3, hX3⟩ : ∃ X, y3 % 128 = X := ⟨_, rfl⟩
  have hXb3 : X3 < 128 := by omega
  have hXi3 : (y3 : Int) % 128 = (X3 : Int) := by omega
  rw [hX3] at hst3
  obtain ⟨M4, hM4⟩ : ∃ M, M3 + X3 * 2097152 = M := ⟨_, rfl⟩
  have hMb4 : M4 < 268435456 := by omega
  rw [hM4] at hst3
  have HSt := hidp hst3
  clear hst3
  by_cases d3 : y3 < 128
  · have HN := hidp (tap_some (k := 4) (M := M4) HB.out (by rw [HT3.out, HSt.out, if_pos d3]))
    go_wp2
    go_ret
    exact tap_fin HN.out (by try omega)
  have HT4 : Hid (tapGo 6 0 1 s.data.toList = tapGo 2 M4 (2097152 * 128) (s.data.toList.drop 4)) := hidp (by rw [HT3.out, HSt.out, if_neg d3])
  clear HSt
  go_wp2
  rw [rounds_succ]
  by_cases c4 : 4 < s.size
  rotate_left
  · have HN := hidp (tap_none HB.out (by rw [HT4.out, tap_end _ _ _ c4]))
    go_wp2
    go_ret
    exact tap_fin HN.out rfl
  obtain ⟨y4, hy4⟩ : ∃ y, (s[4]'c4).toNat = y := ⟨_, rfl⟩
  have hyb4 : y4 < 256 := by rw [← hy4]; exact UInt8.toNat_lt _
  have hst4 := tap_step 1 M4 268435456 c4 hy4
  obtain ⟨X4, hX4⟩ : ∃ X, y4 % 128 = X := ⟨_, rfl⟩
  have hXb4 : X4 < 128 := by omega
  have hXi4 : (y4 : Int) % 128 = (X4 : Int) := by omega
  rw [hX4] at hst4
  obtain ⟨M5, hM5⟩ : ∃ M, M4 + X4 * 268435456 = M := ⟨_, rfl⟩
  have hMb5 : M5 < 34359738368 := by omega
  rw [hM5] at hst4
  have HSt := hidp hst4
  clear hst4
  by_cases d4 : y4 < 128
  · have HN := hidp (tap_some (k := 5) (M := M5) HB.out (by rw [HT4.out, HSt.out, if_pos d4]))
    go_wp2
    go_ret
    exact tap_fin HN.out (by try omega)
  have HT5 : Hid (tapGo 6 0 1 s.data.toList = tapGo 1 M5 (268435456 * 128) (s.data.toList.drop 5)) := hidp (by rw [HT4.out, HSt.out, if_neg d4])
  clear HSt
  go_wp2
  rw [rounds_succ]
  by_cases c5 : 5 < s.size
  rotate_left
  · have HN := hidp (tap_none HB.out (by rw [HT5.out, tap_end _ _ _ c5]))
    go_wp2
    go_ret
    exact tap_fin HN.out rfl
  obtain ⟨y5, hy5⟩ : ∃ y, (s[5]'c5).toNat = y := ⟨_, rfl⟩
  have hyb5 : y5 < 256 := by rw [← hy5]; exact UInt8.toNat_lt _
  have hst5 := tap_step 0 M5 34359738368 c5 hy5
  obtain ⟨X5, hX5⟩ : ∃ X, y5 % 128 = X := ⟨_, rfl⟩
  have hXb5 : X5 < 128 := by omega
  have hXi5 : (y5 : Int) % 128 = (X5 : Int) := by omega
  rw [hX5] at hst5
  obtain ⟨M6, hM6⟩ : ∃ M, M5 + X5 * 34359738368 = M := ⟨_, rfl⟩
  have hMb6 : M6 < 4398046511104 := by omega
  rw [hM6] at hst5
  have HSt := hidp hst5
  clear hst5
  by_cases d5 : y5 < 128
  · have HN := hidp (tap_some (k := 6) (M := M6) HB.out (by rw [HT5.out, HSt.out, if_pos d5]))
    go_wp2
    go_ret
    exact tap_fin HN.out (by try omega)
  have HT6 : Hid (tapGo 6 0 1 s.data.toList = tapGo 0 M6 (34359738368 * 128) (s.data.toList.drop 6)) := hidp (by rw [HT5.out, HSt.out, if_neg d5])
  clear HSt
  go_wp2
  rw [rounds_succ]
  have HN := hidp (tap_none HB.out (by rw [HT6.out]; rfl))
  go_wp2
  go_ret
  exact tap_fin HN.out rfl
end Go.Proofs.YtbopfhbeegkkaaaDoor
