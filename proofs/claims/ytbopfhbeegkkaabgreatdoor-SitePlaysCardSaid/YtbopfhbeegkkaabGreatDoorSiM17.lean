/- Part 17 of a proof: lemmas and contracts that other parts use. -/
import Derived.Test.YtbopfhbeegkkaabGreatDoorSiM16
set_option linter.unusedVariables false
set_option linter.unusedSimpArgs false
namespace Go.Proofs.YtbopfhbeegkkaabGreatDoor
open Go.RowKit

theorem grown_alloc {W w1 : World} {o : Obj} {r : Option Nat} (h : (W.alloc o).grownBy w1 r) : W.grownBy w1 r :=
  ⟨h.os, h.tape, h.output, Nat.le_trans (by simp) h.size, fun k hk hr => (h.block k (by simp; omega) hr).trans (Below.heap_alloc W o k hk)⟩
theorem grown_drew {W w1 : World} {r : Option Nat} (h : W.drew.grownBy w1 r) : W.grownBy w1 r := ⟨h.os, h.tape, h.output, h.size, h.block⟩
theorem or_tail {a b d : Bool} (h : a = false) (h2 : (a || b) = d) : b = d := by subst h; simpa using h2
def TsAt (w : World) (A : Option Addr) (ts : List ByteArray) : Prop := ∀ (i : Nat) (x : ByteArray), ts[i]? = some x → ∃ b o, A = some ⟨b, o, none⟩ ∧ b < w.heap.size ∧ w.cell? ⟨b, o + i, none⟩ = some (.string x)
theorem TsAt.below {w w' : World} {A : Option Addr} {ts : List ByteArray} (h : TsAt w A ts) (hb : Below w.heap.size w w') : TsAt w' A ts := fun i x hx => by
  obtain ⟨b, o, hA, hlt, h0⟩ := h i x hx
  exact ⟨b, o, hA, Nat.lt_of_lt_of_le hlt hb.size, by rw [hb.cell (p := ⟨b, o + i, none⟩) hlt]; exact h0⟩
def strRow (ts : List ByteArray) : List Value := ts.map fun s => .string s
theorem own_texts {w : World} {B c : Nat} {A : Option Addr} {ts : List ByteArray} (h : w.ownsRow B 9 1 (.slice A ts.length c) ts.length (strRow ts)) : TsAt w A ts := by
  intro i x hx
  obtain ⟨hl, hn | ⟨g, cap, cur, hv, hb, hg, rest⟩⟩ := id h
  · have : ts = [] := List.eq_nil_of_length_eq_zero hn.2
    subst this; simp at hx
  · simp only [Value.slice.injEq] at hv
    obtain ⟨rfl, _, rfl⟩ := hv
    have hc := h.cells (g := g) rfl
    have h0 : (strRow ts)[i]? = some (.string x) := by simp [strRow, hx]
    have e : ∀ j : Nat, (⟨g, 0, none⟩ : Addr).add j = ⟨g, 0 + j, none⟩ := fun j => by unfold Addr.add; split <;> simp_all
    have k0 := hc _ _ h0
    rw [e] at k0
    exact ⟨g, 0, rfl, (Array.getElem?_eq_some_iff.1 hg).1, k0⟩
def txtOf (r : VerP × Int) : ByteArray := if r.2 = 0 then ⟨#[61]⟩ ++ r.1.data else ⟨#[]⟩
def toldT (R : Nat → VerP × Int) (k : Nat) : List ByteArray := (List.range k).map fun i => txtOf (R i)
theorem toldT_succ (R : Nat → VerP × Int) (k : Nat) : toldT R (k + 1) = toldT R k ++ [txtOf (R k)] := by simp [toldT, List.range_succ]
theorem toldT_len (R : Nat → VerP × Int) (k : Nat) : (toldT R k).length = k := by simp [toldT]
theorem info9o : (Tryz.prog.info? 9).map (fun i => (i.zero, i.size, i.bytes)) = some (some (.string ⟨#[]⟩), 1, 16) := by kernel_rfl
theorem info9 : ∃ i, Tryz.prog.info? 9 = some i ∧ i.zero = some (.string ⟨#[]⟩) ∧ i.size = 1 ∧ i.bytes = 16 := by
  obtain ⟨i, hi, h⟩ := Option.map_eq_some_iff.1 info9o
  simp only [Prod.mk.injEq] at h
  exact ⟨i, hi, h.1, h.2.1, h.2.2⟩
theorem cells1 {w : World} {ab : Nat} {u0 : Value} {t : TypeId} (h : w.heap[ab]? = some (.cells #[u0] t)) :
    ∀ (j : Nat) (u : Value), [u0][j]? = some u → w.cell? ((⟨ab, 0, none⟩ : Addr).add j) = some u := by
  intro j u hj
  have e : (⟨ab, 0, none⟩ : Addr).add j = ⟨ab, j, none⟩ := by unfold Addr.add; split <;> simp_all
  rw [e, cell_blk h j]
  simpa using hj

def lenS (S : Nat → List VerP) : Nat → Nat
  | 0 => 0
  | k + 1 => lenS S k + (S k).length
theorem lenS_le {S : Nat → List VerP} {N : Nat} (h : ∀ k, k < 8 → (S k).length ≤ N) : ∀ k, k ≤ 8 → lenS S k ≤ k * N
  | 0, _ => by simp [lenS]
  | k + 1, hk => by
    have := lenS_le h k (by omega)
    have := h k (by omega)
    unfold lenS
    rw [Nat.succ_mul]
    omega

set_option maxRecDepth 20000 in
set_option maxHeartbeats 8000000 in
theorem many_any (g o B : Nat) (S : Nat → List VerP) (sv : Nat → Value) (w : World) (hst : StAt w g o B S sv) (hlen : ∀ k, k < 8 → (S k).length ≤ 900000) :
    Calls Tryz.prog 93 #[.pointer (some ⟨g, o, none⟩)] w fun e w' => e = .returned (.int .i64 (lenS S 8)) ∧ Below w.heap.size w w' := by
  have HST := hidp hst
  have hlg := hst.lt
  have c0 := (hst.cell (k := 0) (by omega)).1; have c1 := (hst.cell (k := 1) (by omega)).1; have c2 := (hst.cell (k := 2) (by omega)).1; have c3 := (hst.cell (k := 3) (by omega)).1
  have c4 := (hst.cell (k := 4) (by omega)).1; have c5 := (hst.cell (k := 5) (by omega)).1; have c6 := (hst.cell (k := 6) (by omega)).1; have c7 := (hst.cell (k := 7) (by omega)).1
  simp only [Nat.add_zero] at c0
  have HLN := hidp (lenS_le hlen)
  have HL1 := hidp hlen
  haveI : SzGe (g + 1) w := ⟨hlg⟩
  clear hst hlen
  go_enter Tryz.func93, Tryz.ntmps93
  go_wp2_with fail
  go_loopw [3, 10] (fun n i wr => ∃ k : Nat, k ≤ 8 ∧ i = .int .i64 k ∧ n = .int .i64 (lenS S k) ∧ Below w.heap.size w wr) (fun _ i _ => 8 - (intOf i).toNat)
  case atStart => exact ⟨0, by omega, rfl, rfl, Below.refl _ _⟩
  case round =>
    obtain ⟨k, hk, rfl, rfl, hbl⟩ := hrel
    obtain ⟨x, rfl⟩ := wplus_of_below hbl
    clear hbl
    have hn := HLN.out k hk
    by_cases hlt : k < 8
    · have hm := HL1.out k hlt
      have hkd : decide ((k : Int) < 8) = true := decide_eq_true (by omega)
      obtain ⟨A, c, hsv⟩ := own_form (HST.out.own k hlt)
      have HN : Hid (lenS S (k + 1) = lenS S k + (S k).length) := hidp rfl
      go_wp2_with fail
      go_roundw
      case rel => exact ⟨k + 1, by omega, by go_num, congrArg (Value.int IntKind.i64) (by rw [HN.out]; go_num), (by repeat (first | exact Below.refl _ _ | refine blw_alloc ?_ | refine blw_plus ?_ | refine Below.drew ?_))⟩
      case measure => simp [intOf]; omega
    · obtain rfl : k = 8 := by omega
      have hkd : decide ((8 : Int) < 8) = false := by decide
      go_wp2_with fail
      go_ret
      exact ⟨rfl, (by repeat (first | exact Below.refl _ _ | refine blw_alloc ?_ | refine blw_plus ?_ | refine Below.drew ?_))⟩

set_option maxRecDepth 20000 in
set_option maxHeartbeats 8000000 in
theorem all_any (g o B : Nat) (S : Nat → List VerP) (sv : Nat → Value) (a0 a1 a2 a3 : Int) (R : Nat → VerP × Int) (w : World) (hst : StAt w g o B S sv) (hok : ∀ k, k < 8 → ∀ x ∈ S k, 0 ≤ x.site ∧ x.site < 4) (hlen : ∀ k, k < 8 → (S k).length ≤ 900000) (hR : ∀ k : Nat, k < 8 → R k = readR a0 a1 a2 a3 S k) (hd : ∀ k : Nat, k < 8 → (R k).1.data.size ≤ 1000000) :
    Calls Tryz.prog 94 #[.pointer (some ⟨g, o, none⟩), .agg #[.int .i64 a0, .int .i64 a1, .int .i64 a2, .int .i64 a3]] w fun e w' => ∃ A' c', e = .returned (.slice A' 8 c') ∧ TsAt w' A' (toldT R 8) ∧ Below w.heap.size w w' := by
  have HRD : Hid (∀ (k : Nat) (w' : World), k < 8 → Below w.heap.size w w' → Calls Tryz.prog 92 #[.pointer (some ⟨g, o, none⟩), .int .i64 k, .agg #[.int .i64 a0, .int .i64 a1, .int .i64 a2, .int .i64 a3]] w' fun e w'' => e = .returned (.tuple #[verV (R k).1, errV (R k).2]) ∧ Below w'.heap.size w' w'') := hidp (by
    intro k w' hk hb
    rw [hR k hk]
    exact readS_any g o B S sv k a0 a1 a2 a3 w' (hst.below hb) hok hlen)
  have HD := hidp hd
  clear hst hR hd
  go_enter Tryz.func94, Tryz.ntmps94
  obtain ⟨i0, hi0, hz0, hz1, hz2⟩ := info9
  have HBO : Hid (Below w.heap.size w (w.alloc (.cells #[.int .i64 a0, .int .i64 a1, .int .i64 a2, .int .i64 a3] 32))) := hidp (blw_alloc (Below.refl _ _))
  have HBX : Hid ((w.alloc (.cells #[.int .i64 a0, .int .i64 a1, .int .i64 a2, .int .i64 a3] 32)).heap[w.heap.size]? = some (.cells #[.int .i64 a0, .int .i64 a1, .int .i64 a2, .int .i64 a3] 32)) := hidp (blk_new rfl _)
  go_wp2_with fail
  generalize w.alloc (.cells #[.int .i64 a0, .int .i64 a1, .int .i64 a2, .int .i64 a3] 32) = wo at *
  go_loopw [5, 9] (fun oo i W => ∃ (k : Nat) (outs : List ByteArray) (Ao : Option Addr) (co : Nat), k ≤ 8 ∧ i = .int .i64 k ∧ oo = .slice Ao outs.length co ∧ outs = toldT R k ∧ outs.length = k ∧
    W.ownsRow wo.heap.size 9 1 (.slice Ao outs.length co) outs.length (strRow outs) ∧ Below wo.heap.size wo W) (fun _ i _ => 8 - (intOf i).toNat)
  case atStart => exact ⟨0, [], none, 0, by omega, rfl, rfl, rfl, rfl, ⟨rfl, .inl ⟨rfl, rfl⟩⟩, Below.refl _ _⟩
  case round =>
    obtain ⟨k, outs, Ao, co, hk, rfl, rfl, hout, hol, hown, hbl⟩ := hrel
    obtain ⟨W, rfl⟩ : ∃ W : World, W = wr := ⟨_, rfl⟩
    have HOUT := hidp hout
    have HOW := hidp hown
    have HBW := hidp hbl
    have HOL := hidp hol
    clear hown hbl hout hol
    by_cases hlt : k < 8
    · have hbxW : W.heap[w.heap.size]? = some (.cells #[.int .i64 a0, .int .i64 a1, .int .i64 a2, .int .i64 a3] 32) := by rw [HBW.out.block _ (lt_blk HBX.out)]; exact HBX.out
      have e0 := cell_blk hbxW 0; have e1 := cell_blk hbxW 1; have e2 := cell_blk hbxW 2; have e3 := cell_blk hbxW 3
      simp only [List.getElem?_toArray, List.getElem?_cons_zero, List.getElem?_cons_succ] at e0 e1 e2 e3
      haveI : SzGe (w.heap.size + 1) W := ⟨lt_blk hbxW⟩
      have hkd : decide ((k : Int) < 8) = true := decide_eq_true (by omega)
      have HB0 := hidp (HBO.out.trans (HBW.out.mono HBO.out.size))
      have HL := hidp (HRD.out k W hlt HB0.out)
      have HTS := hidp (toldT_succ R k)
      obtain ⟨⟨⟨vw, vc, vs, vq, vd, vg⟩, z⟩, hz⟩ : ∃ z, R k = z := ⟨_, rfl⟩
      have hvd := HD.out k hlt
      rw [hz] at HL HTS hvd
      simp only at hvd
      unfold verV at HL
      clear hbxW hz
      go_wp2_with fail
      go_at_call 92
      refine HL.out.mono ?_
      rintro e w' ⟨rfl, hb⟩
      obtain ⟨x, rfl⟩ := wplus_of_below hb
      clear hb HL
      by_cases hz0e : z = 0
      · subst hz0e
        have HT1 : Hid (toldT R (k + 1) = outs ++ [⟨#[61]⟩ ++ vd]) := hidp (by rw [HTS.out, ← HOUT.out]; rfl)
        clear HTS
        have HCUR := hidp (show Below W.heap.size W ((wplus W x).alloc (.cells #[.int .i64 vw, .int .i64 vc, .int .i64 vs, .int .i64 vq, .string vd, .bool vg] 59)) from (by repeat (first | exact Below.refl _ _ | refine blw_alloc ?_ | refine blw_plus ?_ | refine Below.drew ?_)))
        have HOC := hidp (own_below HOW.out HCUR.out (fun k e => (own_ge HOW.out e).2))
        have HBC := hidp (HBW.out.trans (HCUR.out.mono HBW.out.size))
        have hsC := HBC.out.size
        have hol : outs.length ≤ 8 := by rw [HOL.out]; omega
        have hev : errV 0 = .nilIface := rfl
        go_wp2_with (at_builtin; go_must (refine wpList_append_lies _ rfl _ _ 68 rfl wo.heap.size 9 i0 (.string ⟨#[]⟩) 1 16 Tryz.underlying68 hi0 hz0 hz1 hz2 rfl (by decide) (.slice Ao outs.length co) outs.length (strRow outs) rfl (HOC.out.alloc _) ⟨W.heap.size + x.blocks.size + 1, 0, none⟩ 1 1 [.string (⟨#[61]⟩ ++ vd)] rfl rfl (cells1 (blk_new (by simp) _)) ?c1 (by decide) ?c2 ?c3 ?c4 _ rfl ?_))
        case c1 => first | rfl | (intro u hu; simp at hu; subst hu; rfl)
        case c2 => refine Nat.le_trans ?_ maxLen_ge; omega
        case c3 => omega
        case c4 => first | omega | (simp at hsC ⊢; omega)
        intro gq cap1 w1 hown1 hgrow hgl hlt1
        have HN1 : Hid (w1.ownsRow wo.heap.size 9 1 (.slice (some ⟨gq, 0, none⟩) (outs ++ [(⟨#[61]⟩ ++ vd)]).length cap1) (outs ++ [(⟨#[61]⟩ ++ vd)]).length (strRow (outs ++ [(⟨#[61]⟩ ++ vd)]))) := hidp (by
          have e : (outs ++ [(⟨#[61]⟩ ++ vd)]).length = outs.length + 1 := by simp
          rw [e, show strRow (outs ++ [(⟨#[61]⟩ ++ vd)]) = strRow outs ++ [.string (⟨#[61]⟩ ++ vd)] by simp [strRow]]; exact hown1)
        have HB1 : Hid (Below wo.heap.size wo w1) := hidp (Below.grown HBC.out (grown_alloc hgrow) HBC.out.size (fun j e => (own_ge HOW.out e).1))
        clear hown1 hgrow hgl hlt1
        go_wp2_with fail
        go_roundw
        case rel => exact ⟨k + 1, outs ++ [(⟨#[61]⟩ ++ vd)], some ⟨gq, 0, none⟩, cap1, by omega, by go_num, by simp, HT1.out.symm, by simp [HOL.out], HN1.out, HB1.out⟩
        case measure => simp [intOf]; omega
      · have HT1 : Hid (toldT R (k + 1) = outs ++ [⟨#[]⟩]) := hidp (by rw [HTS.out, ← HOUT.out]; simp [txtOf, hz0e])
        clear HTS
        have HCUR := hidp (show Below W.heap.size W ((wplus W x).alloc (.cells #[.int .i64 vw, .int .i64 vc, .int .i64 vs, .int .i64 vq, .string vd, .bool vg] 59)) from (by repeat (first | exact Below.refl _ _ | refine blw_alloc ?_ | refine blw_plus ?_ | refine Below.drew ?_)))
        have HOC := hidp (own_below HOW.out HCUR.out (fun k e => (own_ge HOW.out e).2))
        have HBC := hidp (HBW.out.trans (HCUR.out.mono HBW.out.size))
        have hsC := HBC.out.size
        have hol : outs.length ≤ 8 := by rw [HOL.out]; omega
        have hev : errV z = .iface 29 (.int .i64 z) := by unfold errV; rw [if_neg hz0e]
        go_wp2_with (at_builtin; go_must (refine wpList_append_lies _ rfl _ _ 68 rfl wo.heap.size 9 i0 (.string ⟨#[]⟩) 1 16 Tryz.underlying68 hi0 hz0 hz1 hz2 rfl (by decide) (.slice Ao outs.length co) outs.length (strRow outs) rfl (HOC.out.alloc _) ⟨W.heap.size + x.blocks.size + 1, 0, none⟩ 1 1 [.string (⟨#[]⟩ : ByteArray)] rfl rfl (cells1 (blk_new (by simp) _)) ?c1 (by decide) ?c2 ?c3 ?c4 _ rfl ?_))
        case c1 => first | rfl | (intro u hu; simp at hu; subst hu; rfl)
        case c2 => refine Nat.le_trans ?_ maxLen_ge; omega
        case c3 => omega
        case c4 => first | omega | (simp at hsC ⊢; omega)
        intro gq cap1 w1 hown1 hgrow hgl hlt1
        have HN1 : Hid (w1.ownsRow wo.heap.size 9 1 (.slice (some ⟨gq, 0, none⟩) (outs ++ [(⟨#[]⟩ : ByteArray)]).length cap1) (outs ++ [(⟨#[]⟩ : ByteArray)]).length (strRow (outs ++ [(⟨#[]⟩ : ByteArray)]))) := hidp (by
          have e : (outs ++ [(⟨#[]⟩ : ByteArray)]).length = outs.length + 1 := by simp
          rw [e, show strRow (outs ++ [(⟨#[]⟩ : ByteArray)]) = strRow outs ++ [.string (⟨#[]⟩ : ByteArray)] by simp [strRow]]; exact hown1)
        have HB1 : Hid (Below wo.heap.size wo w1) := hidp (Below.grown HBC.out (grown_alloc hgrow) HBC.out.size (fun j e => (own_ge HOW.out e).1))
        clear hown1 hgrow hgl hlt1
        go_wp2_with fail
        go_roundw
        case rel => exact ⟨k + 1, outs ++ [(⟨#[]⟩ : ByteArray)], some ⟨gq, 0, none⟩, cap1, by omega, by go_num, by simp, HT1.out.symm, by simp [HOL.out], HN1.out, HB1.out⟩
        case measure => simp [intOf]; omega
    · obtain rfl : k = 8 := by omega
      have hkd : decide ((8 : Int) < 8) = false := by decide
      have HT : Hid (TsAt W Ao (toldT R 8)) := hidp (by rw [← HOUT.out]; exact own_texts HOW.out)
      go_wp2_with fail
      go_ret
      exact ⟨Ao, co, by rw [HOL.out]; rfl, HT.out, HBO.out.trans (HBW.out.mono HBO.out.size)⟩

end Go.Proofs.YtbopfhbeegkkaabGreatDoor
