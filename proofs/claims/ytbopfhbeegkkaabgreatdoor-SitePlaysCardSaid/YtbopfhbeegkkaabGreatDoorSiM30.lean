/- Part 30 of a proof: lemmas and contracts that other parts use. -/
import Derived.Test.YtbopfhbeegkkaabGreatDoorSiM29
import Derived.Test.YtbopfhbeegkkaabGreatDoorSiM17
set_option linter.unusedVariables false
set_option linter.unusedSimpArgs false
namespace Go.Proofs.YtbopfhbeegkkaabGreatDoor
open Go.RowKit

set_option maxRecDepth 20000 in
set_option maxHeartbeats 8000000 in
theorem rTold_any (r o B : Nat) (L : List PtP) (v : Value) (a0 a1 a2 a3 : Int) (R : Nat → VerP × Int) (w : World) (hst : RfAt w r o B L v) (hok : ∀ p ∈ L, 0 ≤ p.v.site ∧ p.v.site < 4) (hlen : L.length ≤ 900000) (hR : ∀ k : Nat, k < 8 → R k = rRead a0 a1 a2 a3 L k) (hd : ∀ k : Nat, k < 8 → (R k).1.data.size ≤ 1000000) :
    Calls Tryz.prog 33 #[.pointer (some ⟨r, o, none⟩), .agg #[.int .i64 a0, .int .i64 a1, .int .i64 a2, .int .i64 a3]] w fun e w' => ∃ A' c', e = .returned (.slice A' 8 c') ∧ TsAt w' A' (toldT R 8) ∧ Below w.heap.size w w' := by
  have HRD : Hid (∀ (k : Nat) (w' : World), k < 8 → Below w.heap.size w w' → Calls Tryz.prog 91 #[.pointer (some ⟨r, o, none⟩), .int .i64 k, .agg #[.int .i64 a0, .int .i64 a1, .int .i64 a2, .int .i64 a3]] w' fun e w'' => e = .returned (.tuple #[verV (R k).1, .int .i64 (R k).2]) ∧ Below w'.heap.size w' w'') := hidp (by
    intro k w' hk hb
    rw [hR k hk]
    exact rRead_any r o B L v k a0 a1 a2 a3 w' (hst.below hb) hok hlen)
  have HD := hidp hd
  clear hst hR hd
  go_enter Tryz.func33, Tryz.ntmps33
  obtain ⟨i0, hi0, hz0, hz1, hz2⟩ := info9
  have HBO : Hid (Below w.heap.size w (w.alloc (.cells #[.int .i64 a0, .int .i64 a1, .int .i64 a2, .int .i64 a3] 32))) := hidp (blw_alloc (Below.refl _ _))
  have HBX : Hid ((w.alloc (.cells #[.int .i64 a0, .int .i64 a1, .int .i64 a2, .int .i64 a3] 32)).heap[w.heap.size]? = some (.cells #[.int .i64 a0, .int .i64 a1, .int .i64 a2, .int .i64 a3] 32)) := hidp (blk_new rfl _)
  go_wp2_with fail
  generalize w.alloc (.cells #[.int .i64 a0, .int .i64 a1, .int .i64 a2, .int .i64 a3] 32) = wo at *
  go_loopw [5, 9] (fun o i W => ∃ (k : Nat) (outs : List ByteArray) (Ao : Option Addr) (co : Nat), k ≤ 8 ∧ i = .int .i64 k ∧ o = .slice Ao outs.length co ∧ outs = toldT R k ∧ outs.length = k ∧
    W.ownsRow wo.heap.size 9 1 (.slice Ao outs.length co) outs.length (strRow outs) ∧ Below wo.heap.size wo W) (fun _ i _ => 8 - (intOf i).toNat)
  case atStart => exact ⟨0, [], none, 0, by omega, rfl, rfl, rfl, rfl, ⟨rfl, .inl ⟨rfl, rfl⟩⟩, Below.refl _ _⟩
  case round =>
    obtain ⟨k, outs, Ao, co, hk, rfl, rfl, hout, hol, hown, hbl⟩ := hrel
    obtain ⟨W, rfl⟩ : ∃ W : World, W = wr := ⟨_, rfl⟩
    have HOUT := hidp hout
    have HOW := hidp hown
    have HBW := hidp hbl
    have HOL := hidp hol
    clear hown hbl hout hol
    by_cases hlt : k < 8
    · have hbxW : W.heap[w.heap.size]? = some (.cells #[.int .i64 a0, .int .i64 a1, .int .i64 a2, .int .i64 a3] 32) := by rw [HBW.out.block _ (lt_blk HBX.out)]; exact HBX.out
      have e0 := cell_blk hbxW 0; have e1 := cell_blk hbxW 1; have e2 := cell_blk hbxW 2; have e3 := cell_blk hbxW 3
      simp only [List.getElem?_toArray, List.getElem?_cons_zero, List.getElem?_cons_succ] at e0 e1 e2 e3
      haveI : SzGe (w.heap.size + 1) W := ⟨lt_blk hbxW⟩
      have hkd : decide ((k : Int) < 8) = true := decide_eq_true (by omega)
      have HB0 := hidp (HBO.out.trans (HBW.out.mono HBO.out.size))
      have HL := hidp (HRD.out k W hlt HB0.out)
      have HTS := hidp (toldT_succ R k)
      obtain ⟨⟨⟨vw, vc, vs, vq, vd, vg⟩, z⟩, hz⟩ : ∃ z, R k = z := ⟨_, rfl⟩
      have hvd := HD.out k hlt
      rw [hz] at HL HTS hvd
      simp only at hvd
      unfold verV at HL
      clear hbxW hz
      go_wp2_with fail
      go_at_call 91
      refine HL.out.mono ?_
      rintro e w' ⟨rfl, hb⟩
      obtain ⟨x, rfl⟩ := wplus_of_below hb
      clear hb HL
      by_cases hz0e : z = 0
      · subst hz0e
        have HT1 : Hid (toldT R (k + 1) = outs ++ [⟨#[61]⟩ ++ vd]) := hidp (by rw [HTS.out, ← HOUT.out]; rfl)
        clear HTS
        have HCUR := hidp (show Below W.heap.size W ((wplus W x).alloc (.cells #[.int .i64 vw, .int .i64 vc, .int .i64 vs, .int .i64 vq, .string vd, .bool vg] 59)) from (by repeat (first | exact Below.refl _ _ | refine blw_alloc ?_ | refine blw_plus ?_ | refine Below.drew ?_)))
        have HOC := hidp (own_below HOW.out HCUR.out (fun k e => (own_ge HOW.out e).2))
        have HBC := hidp (HBW.out.trans (HCUR.out.mono HBW.out.size))
        have hsC := HBC.out.size
        have hol : outs.length ≤ 8 := by rw [HOL.out]; omega
        go_wp2_with (at_builtin; go_must (refine wpList_append_lies _ rfl _ _ 68 rfl wo.heap.size 9 i0 (.string ⟨#[]⟩) 1 16 Tryz.underlying68 hi0 hz0 hz1 hz2 rfl (by decide) (.slice Ao outs.length co) outs.length (strRow outs) rfl (HOC.out.alloc _) ⟨W.heap.size + x.blocks.size + 1, 0, none⟩ 1 1 [.string (⟨#[61]⟩ ++ vd)] rfl rfl (cells1 (blk_new (by simp) _)) ?c1 (by decide) ?c2 ?c3 ?c4 _ rfl ?_))
        case c1 => first | rfl | (intro u hu; simp at hu; subst hu; rfl)
        case c2 => refine Nat.le_trans ?_ maxLen_ge; omega
        case c3 => omega
        case c4 => first | omega | (simp at hsC ⊢; omega)
        intro gq cap1 w1 hown1 hgrow hgl hlt1
        have HN1 : Hid (w1.ownsRow wo.heap.size 9 1 (.slice (some ⟨gq, 0, none⟩) (outs ++ [(⟨#[61]⟩ ++ vd)]).length cap1) (outs ++ [(⟨#[61]⟩ ++ vd)]).length (strRow (outs ++ [(⟨#[61]⟩ ++ vd)]))) := hidp (by
          have e : (outs ++ [(⟨#[61]⟩ ++ vd)]).length = outs.length + 1 := by simp
          rw [e, show strRow (outs ++ [(⟨#[61]⟩ ++ vd)]) = strRow outs ++ [.string (⟨#[61]⟩ ++ vd)] by simp [strRow]]; exact hown1)
        have HB1 : Hid (Below wo.heap.size wo w1) := hidp (Below.grown HBC.out (grown_alloc hgrow) HBC.out.size (fun j e => (own_ge HOW.out e).1))
        clear hown1 hgrow hgl hlt1
        go_wp2_with fail
        go_roundw
        case rel => exact ⟨k + 1, outs ++ [(⟨#[61]⟩ ++ vd)], some ⟨gq, 0, none⟩, cap1, by omega, by go_num, by simp, HT1.out.symm, by simp [HOL.out], HN1.out, HB1.out⟩
        case measure => simp [intOf]; omega
      · have HT1 : Hid (toldT R (k + 1) = outs ++ [⟨#[]⟩]) := hidp (by rw [HTS.out, ← HOUT.out]; simp [txtOf, hz0e])
        clear HTS
        have HCUR := hidp (show Below W.heap.size W ((wplus W x).alloc (.cells #[.int .i64 vw, .int .i64 vc, .int .i64 vs, .int .i64 vq, .string vd, .bool vg] 59)) from (by repeat (first | exact Below.refl _ _ | refine blw_alloc ?_ | refine blw_plus ?_ | refine Below.drew ?_)))
        have HOC := hidp (own_below HOW.out HCUR.out (fun k e => (own_ge HOW.out e).2))
        have HBC := hidp (HBW.out.trans (HCUR.out.mono HBW.out.size))
        have hsC := HBC.out.size
        have hol : outs.length ≤ 8 := by rw [HOL.out]; omega
        have hzb : (z == 0) = false := by simpa using hz0e
        go_wp2_with (at_builtin; go_must (refine wpList_append_lies _ rfl _ _ 68 rfl wo.heap.size 9 i0 (.string ⟨#[]⟩) 1 16 Tryz.underlying68 hi0 hz0 hz1 hz2 rfl (by decide) (.slice Ao outs.length co) outs.length (strRow outs) rfl (HOC.out.alloc _) ⟨W.heap.size + x.blocks.size + 1, 0, none⟩ 1 1 [.string (⟨#[]⟩ : ByteArray)] rfl rfl (cells1 (blk_new (by simp) _)) ?c1 (by decide) ?c2 ?c3 ?c4 _ rfl ?_))
        case c1 => first | rfl | (intro u hu; simp at hu; subst hu; rfl)
        case c2 => refine Nat.le_trans ?_ maxLen_ge; omega
        case c3 => omega
        case c4 => first | omega | (simp at hsC ⊢; omega)
        intro gq cap1 w1 hown1 hgrow hgl hlt1
        have HN1 : Hid (w1.ownsRow wo.heap.size 9 1 (.slice (some ⟨gq, 0, none⟩) (outs ++ [(⟨#[]⟩ : ByteArray)]).length cap1) (outs ++ [(⟨#[]⟩ : ByteArray)]).length (strRow (outs ++ [(⟨#[]⟩ : ByteArray)]))) := hidp (by
          have e : (outs ++ [(⟨#[]⟩ : ByteArray)]).length = outs.length + 1 := by simp
          rw [e, show strRow (outs ++ [(⟨#[]⟩ : ByteArray)]) = strRow outs ++ [.string (⟨#[]⟩ : ByteArray)] by simp [strRow]]; exact hown1)
        have HB1 : Hid (Below wo.heap.size wo w1) := hidp (Below.grown HBC.out (grown_alloc hgrow) HBC.out.size (fun j e => (own_ge HOW.out e).1))
        clear hown1 hgrow hgl hlt1
        go_wp2_with fail
        go_roundw
        case rel => exact ⟨k + 1, outs ++ [(⟨#[]⟩ : ByteArray)], some ⟨gq, 0, none⟩, cap1, by omega, by go_num, by simp, HT1.out.symm, by simp [HOL.out], HN1.out, HB1.out⟩
        case measure => simp [intOf]; omega
    · obtain rfl : k = 8 := by omega
      have hkd : decide ((8 : Int) < 8) = false := by decide
      have HT : Hid (TsAt W Ao (toldT R 8)) := hidp (by rw [← HOUT.out]; exact own_texts HOW.out)
      go_wp2_with fail
      go_ret
      exact ⟨Ao, co, by rw [HOL.out]; rfl, HT.out, HBO.out.trans (HBW.out.mono HBO.out.size)⟩

set_option maxRecDepth 20000 in
set_option maxHeartbeats 8000000 in
theorem sameTexts_any (A A' : Option Addr) (c c' : Nat) (ts : List ByteArray) (w : World) (h1 : TsAt w A ts) (h2 : TsAt w A' ts) (hn : ts.length = 8) :
    Calls Tryz.prog 31 #[.slice A 8 c, .slice A' 8 c'] w fun e w' => e = .returned (.bool true) ∧ Below w.heap.size w w' := by
  have H1 := hidp h1
  have H2 := hidp h2
  have HN := hidp hn
  clear h1 h2 hn
  go_enter Tryz.func31, Tryz.ntmps31
  go_wp2_with fail
  go_loopw [5] (fun i wr => ∃ k : Nat, k ≤ 8 ∧ i = .int .i64 k ∧ Below w.heap.size w wr) (fun i _ => 8 - (intOf i).toNat)
  case atStart => exact ⟨0, by omega, rfl, Below.refl _ _⟩
  case round =>
    obtain ⟨k, hk, rfl, hbl⟩ := hrel
    obtain ⟨x, rfl⟩ := wplus_of_below hbl
    clear hbl
    by_cases hlt : k < 8
    · have hkd : decide ((k : Int) < 8) = true := decide_eq_true (by omega)
      have hkl : k < ts.length := by rw [HN.out]; exact hlt
      obtain ⟨b, o, rfl, hb, d0⟩ := H1.out k ts[k] (List.getElem?_eq_getElem hkl)
      obtain ⟨b', o', rfl, hb', d1⟩ := H2.out k ts[k] (List.getElem?_eq_getElem hkl)
      generalize ts[k] = s at *
      haveI : SzGe (b + 1) w := ⟨hb⟩
      haveI : SzGe (b' + 1) w := ⟨hb'⟩
      clear hkl
      go_wp2_with fail
      refine wp_region_plus (by kernel_rfl) (by kernel_rfl) ?_
      repeat (first | go_big_quiet_skip | (go_big_quiet_want; go_big_quiet_op; go_big_quiet_on))
      refine wpQuiet_nil ?_
      rintro _ ⟨x3, rfl⟩
      go_wp2_with fail
      go_roundw
      case rel => exact ⟨k + 1, by omega, by go_num, (by repeat (first | exact Below.refl _ _ | refine blw_alloc ?_ | refine blw_plus ?_ | refine Below.drew ?_))⟩
      case measure => simp [intOf]; omega
    · obtain rfl : k = 8 := by omega
      have hkd : decide ((8 : Int) < 8) = false := by decide
      go_wp2_with fail
      go_ret
      exact ⟨rfl, (by repeat (first | exact Below.refl _ _ | refine blw_alloc ?_ | refine blw_plus ?_ | refine Below.drew ?_))⟩
end Go.Proofs.YtbopfhbeegkkaabGreatDoor
