import Derived.Test.YtbopfhbeegkkaaaDoorTapN
import Derived.Test.YtbopfhbeegkkaaaDoorREnc
import Derived.Test.YtbopfhbeegkkaaaDoorWBh
import Derived.Deep.RegionHeld3
namespace Go.Proofs.YtbopfhbeegkkaaaDoor
open Go.RowKit

def rAskV : Option (Nat × (Nat × Nat × Nat × Nat)) → Value
  | none => .tuple #[.int .i64 0, .agg #[.int .i64 0, .int .i64 0, .int .i64 0, .int .i64 0], .int .i64 3]
  | some (s, a, b, c, d) => .tuple #[.int .i64 s, .agg #[.int .i64 a, .int .i64 b, .int .i64 c, .int .i64 d], .int .i64 0]

theorem TpAt.above {w w' : World} {g : Nat} {l : List UInt8} (h : TpAt w g l) (hk : w'.heap[g]? = w.heap[g]?) : TpAt w' g l := by
  obtain ⟨s, hs, hb⟩ := h; exact ⟨s, hs, by rw [hk]; exact hb⟩
theorem TpAt.lt {w : World} {g : Nat} {l : List UInt8} (h : TpAt w g l) : g < w.heap.size := by
  obtain ⟨s, hs, hb⟩ := h; exact lt_blk hb
theorem tapGo_len : ∀ (f n t : Nat) (l : List UInt8) (m : Nat) (r : List UInt8), tapGo f n t l = some (m, r) → r.length ≤ l.length
  | 0, _, _, _, _, _, h => by simp [tapGo] at h
  | f + 1, n, t, [], _, _, h => by simp [tapGo] at h
  | f + 1, n, t, c :: l, m, r, h => by
    simp only [tapGo] at h
    split at h
    · simp only [Option.some.injEq, Prod.mk.injEq] at h; rw [← h.2]; simp
    · have := tapGo_len f _ _ l m r h; simp; omega
theorem tapN_len (l : List UInt8) : (tapN l).2.length ≤ l.length := by
  unfold tapN
  cases h : tapGo 6 0 1 l with
  | none => simp
  | some x => obtain ⟨m, r⟩ := x; exact tapGo_len _ _ _ _ _ _ h
theorem tapGo_bd : ∀ (f n t : Nat) (l : List UInt8) (m : Nat) (r : List UInt8), tapGo f n t l = some (m, r) → m + t ≤ n + t * 128 ^ f
  | 0, _, _, _, _, _, h => by simp [tapGo] at h
  | f + 1, n, t, [], _, _, h => by simp [tapGo] at h
  | f + 1, n, t, c :: l, m, r, h => by
    simp only [tapGo] at h
    have h1 : c.toNat % 128 < 128 := Nat.mod_lt _ (by omega)
    generalize c.toNat % 128 = y at *
    have h2 : y * t ≤ 127 * t := Nat.mul_le_mul_right t (by omega)
    have h4 : t * 128 * 128 ^ f = t * 128 ^ (f + 1) := by rw [Nat.pow_succ, Nat.mul_comm (128 ^ f), Nat.mul_assoc]
    have h3 : 128 * t ≤ t * 128 ^ (f + 1) := by
      rw [← h4, Nat.mul_comm 128 t]; exact Nat.le_mul_of_pos_right _ (Nat.pow_pos (by omega))
    split at h
    · simp only [Option.some.injEq, Prod.mk.injEq] at h
      omega
    · have := tapGo_bd f _ _ l m r h
      omega
theorem tapN_bd (l : List UInt8) : -1 ≤ (tapN l).1 ∧ (tapN l).1 < 4398046511104 := by
  unfold tapN
  cases h : tapGo 6 0 1 l with
  | none => simp
  | some x => obtain ⟨m, r⟩ := x; have := tapGo_bd _ _ _ _ _ _ h; simp only; omega
theorem tap_to_bd {l l' : List UInt8} {z : Int} (h : tapN l = (z, l')) : -1 ≤ z ∧ z < 4398046511104 := by
  have := tapN_bd l; rw [h] at this; exact this
theorem tap_to {l l' : List UInt8} {z : Int} (h : tapN l = (z, l')) (g : Nat) (w : World) (ht : TpAt w g l) (hl : l.length ≤ 1000000) :
    Calls Tryd.prog 62 #[.pointer (some ⟨g, 0, none⟩)] w fun e w' => e = .returned (.int .i64 z) ∧ TpAt w' g l' ∧ w.grownBy w' (some g) := by
  have := tapNum_any g l w ht hl; rw [h] at this; exact this
theorem tap_to_len {l l' : List UInt8} {z : Int} (h : tapN l = (z, l')) (hl : l.length ≤ 1000000) : l'.length ≤ 1000000 := by
  have := tapN_len l; rw [h] at this; exact Nat.le_trans this hl

/-- while an ask is read -/
structure AkSt (w W : World) (g tb : Nat) (l : List UInt8) (v0 v1 v2 v3 : Int) : Prop where
  tp : TpAt W g l
  z : W.heap[w.heap.size]? = some (.cells #[.int .i64 0, .int .i64 0, .int .i64 0, .int .i64 0] 37)
  v : W.heap[tb]? = some (.cells #[.int .i64 v0, .int .i64 v1, .int .i64 v2, .int .i64 v3] 37)
  bl : Below w.heap.size w W
  lg : w.heap.size < g
  lt : g < tb
theorem AkSt.call {w W W' : World} {g tb : Nat} {l l' : List UInt8} {v0 v1 v2 v3 : Int} (h : AkSt w W g tb l v0 v1 v2 v3) (ht : TpAt W' g l') (hg : W.grownBy W' (some g)) : AkSt w W' g tb l' v0 v1 v2 v3 := by
  have h1 := h.lg
  have h2 := h.lt
  have h3 := lt_blk h.z
  have h4 := lt_blk h.v
  exact ⟨ht, by rw [hg.block _ h3 (by simp; omega)]; exact h.z, by rw [hg.block _ h4 (by simp; omega)]; exact h.v, below_grown h.bl hg (by omega) (Nat.le_refl _), h1, h2⟩
theorem AkSt.set {w W : World} {g tb i : Nat} {l : List UInt8} {v0 v1 v2 v3 u0 u1 u2 u3 : Int} {u : Value} (h : AkSt w W g tb l v0 v1 v2 v3)
    (hu : (#[.int .i64 v0, .int .i64 v1, .int .i64 v2, .int .i64 v3] : Array Value).setIfInBounds i u = #[.int .i64 u0, .int .i64 u1, .int .i64 u2, .int .i64 u3]) :
    AkSt w (W.setCell ⟨tb, i, none⟩ u) g tb l u0 u1 u2 u3 := by
  have h1 := h.lg
  have h2 := h.lt
  refine ⟨h.tp.above (Below.heap_setCell W _ u _ (by simp only; omega)), by rw [Below.heap_setCell W _ u _ (by simp only; omega)]; exact h.z, by rw [blk_set h.v i u, hu], set_below h.bl (by omega), h1, h2⟩
theorem AkSt.below {w W W' : World} {g tb : Nat} {l : List UInt8} {v0 v1 v2 v3 : Int} (h : AkSt w W g tb l v0 v1 v2 v3) (hb : Below W.heap.size W W') : AkSt w W' g tb l v0 v1 v2 v3 :=
  ⟨h.tp.above (hb.block _ h.tp.lt), by rw [hb.block _ (lt_blk h.z)]; exact h.z, by rw [hb.block _ (lt_blk h.v)]; exact h.v, h.bl.trans (hb.mono (Nat.le_of_lt (lt_blk h.z))), h.lg, h.lt⟩

set_option maxRecDepth 20000 in
set_option maxHeartbeats 8000000 in
theorem rDecAsk_any (s : ByteArray) (w : World) (hl : s.size ≤ 1000000) :
    Calls Tryd.prog 28 #[.string s] w fun e w' => e = .returned (rAskV (decAsk s.data.toList)) ∧ Below w.heap.size w w' := by
  by_cases he : s.toList = []
  · have hs : s.data.toList = [] := by rw [← ByteArray.toList_eq]; exact he
    have HD : Hid (decAsk s.data.toList = none) := hidp (by rw [hs]; rfl)
    clear hs
    go_enter Tryd.func28, Tryd.ntmps28
    go_wp2
    haveI : SzGe (w.heap.size + 1) (w.alloc (.cells #[.int .i64 0, .int .i64 0, .int .i64 0, .int .i64 0] 37)) := inferInstance
    refine bodyPost_ret (v := rAskV none) (by simp only [results, Tryd.results28]; simp [go_sem, rAskV, *]) rfl ⟨by rw [HD.out], blw_alloc (Below.refl _ _)⟩
  have hpos : 0 < s.size := by
    rw [ba_size, ← ByteArray.toList_eq]; exact List.length_pos_iff.2 he
  have hE : s.toList.isEmpty = false := by simpa using he
  have hD := decAsk_ref (l := s.data.toList)
  have hlen0 : (s.data.toList.drop 1).length ≤ 1000000 := by rw [List.length_drop, ← ba_size]; omega
  have hT := fun (W : World) (g : Nat) (h : W.heap[g]? = some (.cells #[.string (s.extract 1 s.size)] 121)) => (⟨_, ext_drop s 1, h⟩ : TpAt W g (s.data.toList.drop 1))
  have hSS : ∀ x : List UInt8, (x = s.data.toList) ↔ (⟨x.toArray⟩ : ByteArray) = s := fun x => by
    constructor
    · intro h; apply ba_ext; rw [h]
    · intro h; rw [← h]
  generalize s.data.toList.drop 1 = l at *
  obtain ⟨z0, l0, k0⟩ : ∃ a r, tapN l = (a, r) := ⟨_, _, rfl⟩
  obtain ⟨z1, l1, k1⟩ : ∃ a r, tapN l0 = (a, r) := ⟨_, _, rfl⟩
  obtain ⟨z2, l2, k2⟩ : ∃ a r, tapN l1 = (a, r) := ⟨_, _, rfl⟩
  obtain ⟨z3, l3, k3⟩ : ∃ a r, tapN l2 = (a, r) := ⟨_, _, rfl⟩
  obtain ⟨z4, l4, k4⟩ : ∃ a r, tapN l3 = (a, r) := ⟨_, _, rfl⟩
  have kA : rawA l = (z0, (z1, (z2, (z3, z4)))) := by unfold rawA tapV; simp only [k0, k1, k2, k3, k4]
  rw [kA] at hD
  simp only at hD
  have hlen1 := tap_to_len k0 hlen0
  have hlen2 := tap_to_len k1 hlen1
  have hlen3 := tap_to_len k2 hlen2
  have hlen4 := tap_to_len k3 hlen3
  have N0 := hidp fun W g h => tap_to k0 g W h hlen0
  have N1 := hidp fun W g h => tap_to k1 g W h hlen1
  have N2 := hidp fun W g h => tap_to k2 g W h hlen2
  have N3 := hidp fun W g h => tap_to k3 g W h hlen3
  have N4 := hidp fun W g h => tap_to k4 g W h hlen4
  have HD := hidp hD
  have HSS := hidp hSS
  have HT := hidp hT
  clear k0 k1 k2 k3 k4 kA hlen0 hlen1 hlen2 hlen3 hlen4 hD hSS hT he
  go_enter Tryd.func28, Tryd.ntmps28
  go_wp2_with fail
  go_at_call 62
  refine (N0.out _ _ (HT.out _ _ (by rw [heap_alloc, if_pos (by simp)]))).mono ?_
  rintro e w1 ⟨rfl, ht1, hg1⟩
  have hst : ∀ o, o = .cells #[.int .i64 0, .int .i64 0, .int .i64 0, .int .i64 0] 37 → AkSt w (w1.alloc o) (w.heap.size + 1) w1.heap.size l0 0 0 0 0 := by
    rintro o rfl
    have hlt := ht1.lt
    have hz := hg1.block w.heap.size (by simp; omega) (by simp)
    rw [heap_alloc, if_neg (by simp), heap_alloc, if_pos rfl] at hz
    have hb : Below w.heap.size w w1 := below_grown (blw_alloc (blw_alloc (Below.refl _ _))) hg1 (by omega) (Nat.le_refl _)
    exact ⟨ht1.above (by rw [heap_alloc, if_neg (by omega)]), by rw [heap_alloc, if_neg (by omega)]; exact hz, by rw [heap_alloc, if_pos rfl], hb.alloc (by omega) _, by omega, by omega⟩
  have st1 := hidp (hst _ rfl)
  clear ht1 hg1 hst N0 HT
  generalize htb : w1.heap.size = tb at *
  go_wp2
  refine wp_loop_rounds 5 ?_
  rw [rounds_succ]
  go_wp2_with fail
  go_at_call 62
  refine (N1.out _ _ st1.out.tp).mono ?_
  rintro e w2 ⟨rfl, ht, hg⟩
  have sta := st1.out.call ht hg
  have c1 := cell_blk sta.v 0
  have c2 := frozen_blk sta.v 0
  simp at c1
  have st2 := hidp (sta.set (i := 0) (u := .int .i64 z1) rfl)
  clear sta ht hg st1 N1
  go_wp2
  clear c1 c2
  rw [rounds_succ]
  go_wp2_with fail
  go_at_call 62
  refine (N2.out _ _ st2.out.tp).mono ?_
  rintro e w3 ⟨rfl, ht, hg⟩
  have sta := st2.out.call ht hg
  have c1 := cell_blk sta.v 1
  have c2 := frozen_blk sta.v 1
  simp at c1
  have st3 := hidp (sta.set (i := 1) (u := .int .i64 z2) rfl)
  clear sta ht hg st2 N2
  go_wp2
  clear c1 c2
  rw [rounds_succ]
  go_wp2_with fail
  go_at_call 62
  refine (N3.out _ _ st3.out.tp).mono ?_
  rintro e w4 ⟨rfl, ht, hg⟩
  have sta := st3.out.call ht hg
  have c1 := cell_blk sta.v 2
  have c2 := frozen_blk sta.v 2
  simp at c1
  have st4 := hidp (sta.set (i := 2) (u := .int .i64 z3) rfl)
  clear sta ht hg st3 N3
  go_wp2
  clear c1 c2
  rw [rounds_succ]
  go_wp2_with fail
  go_at_call 62
  refine (N4.out _ _ st4.out.tp).mono ?_
  rintro e w5 ⟨rfl, ht, hg⟩
  have sta := st4.out.call ht hg
  have c1 := cell_blk sta.v 3
  have c2 := frozen_blk sta.v 3
  simp at c1
  have st5 := hidp (sta.set (i := 3) (u := .int .i64 z4) rfl)
  clear sta ht hg st4 N4
  go_wp2
  clear c1 c2
  rw [rounds_succ]
  have hc := blk4 st5.out.v
  have hd := blk4 st5.out.z
  go_split_ands
  rcases hk : okAsk z0 z1 z2 z3 z4 with _ | _
  · have HDv : Hid (decAsk s.data.toList = none) := hidp (by rw [HD.out, hk]; simp)
    go_wp2_with fail
    go_at_call 20
    refine (rEncAsk_bad z0 z1 z2 z3 z4 _ hk).mono ?_
    rintro e w6 ⟨rfl, hb⟩
    have st6 := hidp (st5.out.below hb)
    have hd := blk4 st6.out.z
    go_split_ands
    clear hb hk
    go_wp2
    haveI : SzGe (w.heap.size + 1) w6 := ⟨lt_blk st6.out.z⟩
    refine bodyPost_ret (v := rAskV none) (by simp only [results, Tryd.results28]; simp [go_sem, rAskV, *]) rfl ⟨by rw [HDv.out], ?_⟩
    (repeat (first | exact st6.out.bl | refine blw_alloc ?_ | refine Below.drew ?_ | refine set_below ?_ (Nat.le_refl _)))
  · obtain ⟨q, hq⟩ : ∃ q : ByteArray, (⟨(askB z0 z1 z2 z3 z4).toArray⟩ : ByteArray) = q := ⟨_, rfl⟩
    have hok := okAsk_all hk
    have HEnc := hidp fun w => rEncAsk_good z0 z1 z2 z3 z4 w hk
    rw [hq] at HEnc
    by_cases heq : q = s
    · have HDv : Hid (decAsk s.data.toList = some (z0.toNat, z1.toNat, z2.toNat, z3.toNat, z4.toNat)) := hidp (by rw [HD.out, if_pos ⟨hk, (HSS.out _).2 (hq.trans heq)⟩])
      subst heq
      have e0 : ((z0.toNat : Nat) : Int) = z0 := by omega
      have e1 : ((z1.toNat : Nat) : Int) = z1 := by omega
      have e2 : ((z2.toNat : Nat) : Int) = z2 := by omega
      have e3 : ((z3.toNat : Nat) : Int) = z3 := by omega
      have e4 : ((z4.toNat : Nat) : Int) = z4 := by omega
      have HV : Hid (rAskV (some (z0.toNat, z1.toNat, z2.toNat, z3.toNat, z4.toNat)) = .tuple #[.int .i64 z0, .agg #[.int .i64 z1, .int .i64 z2, .int .i64 z3, .int .i64 z4], .int .i64 0]) := hidp (by simp only [rAskV, e0, e1, e2, e3, e4])
      clear e0 e1 e2 e3 e4 hok hq hk
      go_wp2_with fail
      go_at_call 20
      refine (HEnc.out _).mono ?_
      rintro e w6 ⟨rfl, hb⟩
      have st6 := hidp (st5.out.below hb)
      have hd := blk4 st6.out.z
      have hc := blk4 st6.out.v
      go_split_ands
      clear hb
      have hlg := st6.out.lg
      have hlt := st6.out.lt
      haveI : SzGe (w.heap.size + 1) w6 := ⟨lt_blk st6.out.z⟩
      haveI : SzGe (tb + 1) w6 := ⟨lt_blk st6.out.v⟩
      go_wp2
      go_region_held3 (fun W : World => W.cell? ⟨tb, 0, none⟩ = some (.int .i64 z1) ∧ W.cell? ⟨tb, 1, none⟩ = some (.int .i64 z2) ∧ W.cell? ⟨tb, 2, none⟩ = some (.int .i64 z3) ∧ W.cell? ⟨tb, 3, none⟩ = some (.int .i64 z4)) ((repeat' apply And.intro) <;> simp [go_sem, *]) (fail)
      all_goals go_wp2
      all_goals
        refine bodyPost_ret (v := rAskV (some (z0.toNat, z1.toNat, z2.toNat, z3.toNat, z4.toNat))) (by rw [HV.out]; simp only [results, Tryd.results28]; simp [go_sem, *]) rfl ⟨by rw [HDv.out], ?_⟩
        (repeat (first | exact st6.out.bl | refine blw_alloc ?_ | refine Below.drew ?_ | refine set_below ?_ (Nat.le_refl _)))
    · have HDv : Hid (decAsk s.data.toList = none) := hidp (by rw [HD.out, if_neg]; rintro ⟨_, h⟩; exact heq (hq.symm.trans ((HSS.out _).1 h)))
      have hbne : (!q.toList == s.toList) = true := by
        simp only [Bool.not_eq_true', beq_eq_false_iff_ne, ne_eq, ByteArray.toList_eq]
        intro h; exact heq (ba_ext (Array.toList_inj.1 h))
      clear hok hq hk
      go_wp2_with fail
      go_at_call 20
      refine (HEnc.out _).mono ?_
      rintro e w6 ⟨rfl, hb⟩
      have st6 := hidp (st5.out.below hb)
      have hd := blk4 st6.out.z
      go_split_ands
      clear hb
      go_wp2
      haveI : SzGe (w.heap.size + 1) w6 := ⟨lt_blk st6.out.z⟩
      refine bodyPost_ret (v := rAskV none) (by simp only [results, Tryd.results28]; simp [go_sem, rAskV, *]) rfl ⟨by rw [HDv.out], ?_⟩
      (repeat (first | exact st6.out.bl | refine blw_alloc ?_ | refine Below.drew ?_ | refine set_below ?_ (Nat.le_refl _)))
end Go.Proofs.YtbopfhbeegkkaaaDoor
