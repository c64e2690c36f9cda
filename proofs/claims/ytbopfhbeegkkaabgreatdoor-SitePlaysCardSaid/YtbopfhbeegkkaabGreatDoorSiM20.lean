/- Part 20 of a proof: lemmas and contracts that other parts use. -/
import Derived.Test.YtbopfhbeegkkaabGreatDoorSiM18
import Derived.Test.YtbopfhbeegkkaabGreatDoorSiM19
set_option linter.unusedVariables false
set_option linter.unusedSimpArgs false
namespace Go.Proofs.YtbopfhbeegkkaabGreatDoor
open Go.RowKit

def covD (a0 a1 a2 a3 b0 b1 b2 b3 : Int) : Bool := decide (b0 ≤ a0) && decide (b1 ≤ a1) && decide (b2 ≤ a2) && decide (b3 ≤ a3)
theorem max_beq (a b : Int) : (max a b == a) = decide (b ≤ a) := by
  rw [Bool.eq_iff_iff]
  simp
  omega
set_option maxHeartbeats 2000000 in
theorem covers_any (a0 a1 a2 a3 b0 b1 b2 b3 : Int) (w : World) :
    Calls Tryz.prog 55 #[.agg #[.int .i64 a0, .int .i64 a1, .int .i64 a2, .int .i64 a3], .agg #[.int .i64 b0, .int .i64 b1, .int .i64 b2, .int .i64 b3]] w
      fun e w' => e = .returned (.bool (covD a0 a1 a2 a3 b0 b1 b2 b3)) ∧ Below w.heap.size w w' := by
  have HM := hidp fun w => vMax_any a0 a1 a2 a3 b0 b1 b2 b3 w
  have HE : Hid ((max a0 b0 == a0 && max a1 b1 == a1 && max a2 b2 == a2 && max a3 b3 == a3) = covD a0 a1 a2 a3 b0 b1 b2 b3) := hidp (by unfold covD; rw [max_beq, max_beq, max_beq, max_beq])
  generalize max a0 b0 = m0 at *
  generalize max a1 b1 = m1 at *
  generalize max a2 b2 = m2 at *
  generalize max a3 b3 = m3 at *
  go_enter Tryz.func55, Tryz.ntmps55
  go_wp2_with fail
  refine wp_region_plus (by kernel_rfl) (by kernel_rfl) ?_
  repeat (first | go_big_quiet_skip | (go_big_quiet_want; go_big_quiet_op; first | go_big_quiet_on | (apply Exists.intro; refine ⟨fun _ => ?_, ?_⟩; (go_at_call 87; exact Calls.plus_of (HM.out _)); go_big_quiet_on)))
  refine wpQuiet_nil ?_
  rintro _ ⟨x3, rfl⟩
  go_wp2_with fail
  go_ret
  exact ⟨by rw [← HE.out]; rfl, (by repeat (first | exact Below.refl _ _ | refine blw_alloc ?_ | refine blw_plus ?_ | refine Below.drew ?_))⟩

theorem SiAt.vec {w : World} {B x mb : Nat} {s : SiP} {lv : Value} {sv : Nat → Value} (h : SiAt w B x s mb lv sv) : w.cell? ⟨x, 1, none⟩ = some (.int .i64 s.p0) ∧ w.cell? ⟨x, 1 + 1, none⟩ = some (.int .i64 s.p1) ∧ w.cell? ⟨x, 1 + 2, none⟩ = some (.int .i64 s.p2) ∧ w.cell? ⟨x, 1 + 3, none⟩ = some (.int .i64 s.p3) := ⟨h.c1, h.c2, h.c3, h.c4⟩
set_option maxHeartbeats 2000000 in
theorem applied_any (B x mb : Nat) (s : SiP) (lv : Value) (sv : Nat → Value) (w : World) (h : SiAt w B x s mb lv sv) :
    Calls Tryz.prog 26 #[.pointer (some ⟨x, 0, none⟩)] w fun e w' => e = .returned (.agg #[.int .i64 s.p0, .int .i64 s.p1, .int .i64 s.p2, .int .i64 s.p3]) ∧ Below w.heap.size w w' := by
  have c1 := h.c1; have c2 := h.c2; have c3 := h.c3; have c4 := h.c4
  haveI : SzGe (x + 1) w := ⟨h.sto.lt⟩
  clear h
  go_enter Tryz.func26, Tryz.ntmps26
  go_wp2_with fail
  refine bodyPost_ret (v := .agg #[.int .i64 s.p0, .int .i64 s.p1, .int .i64 s.p2, .int .i64 s.p3]) (by simp [results, Tryz.results26, go_sem]) rfl ⟨rfl, (by repeat (first | exact Below.refl _ _ | refine blw_alloc ?_ | refine blw_plus ?_ | refine Below.drew ?_))⟩
set_option maxHeartbeats 2000000 in
theorem waits_any (B x mb : Nat) (s : SiP) (lv : Value) (sv : Nat → Value) (w : World) (h : SiAt w B x s mb lv sv) :
    Calls Tryz.prog 27 #[.pointer (some ⟨x, 0, none⟩)] w fun e w' => e = .returned (.int .i64 s.wn) ∧ Below w.heap.size w w' := by
  have c8 := h.c8
  have hl : ∀ ty, (Builtin.len_ #[141] ty #[.map (some mb)]).run Tryz.prog w = .ok (.int .i64 s.wn) w := fun ty => h.map.len ty
  haveI : SzGe (x + 1) w := ⟨h.sto.lt⟩
  clear h
  go_enter Tryz.func27, Tryz.ntmps27
  go_wp2_with fail
  go_ret
  exact ⟨rfl, (by repeat (first | exact Below.refl _ _ | refine blw_alloc ?_ | refine blw_plus ?_ | refine Below.drew ?_))⟩

theorem own_nil' (w : World) (n : Nat) : w.ownsRow n 59 6 (.slice none 0 0) 0 [] := ⟨rfl, .inl ⟨rfl, rfl⟩⟩
/-- versions that are not too great -/
def DatOk (S : Nat → List VerP) : Prop := ∀ k, k < 8 → ∀ v ∈ S k, v.data.size ≤ 12
theorem read_data {S : Nat → List VerP} (h : DatOk S) (a0 a1 a2 a3 key : Int) : (readR a0 a1 a2 a3 S key).1.data.size ≤ 12 := by
  have hz : verZ.data.size ≤ 12 := by decide
  unfold readR
  split
  · exact hz
  · rename_i hk
    split
    · rename_i v hf
      split
      · exact hz
      · exact h key.toNat (by omega) v (List.mem_reverse.1 (List.mem_of_find?_eq_some hf))
    · exact hz
set_option maxHeartbeats 2000000 in
theorem siteAll_any (B x mb : Nat) (s : SiP) (lv : Value) (sv : Nat → Value) (w : World) (h : SiAt w B x s mb lv sv) (hf : Fit s.st 900000) (hd : DatOk s.st) :
    Calls Tryz.prog 32 #[.pointer (some ⟨x, 0, none⟩)] w fun e w' => ∃ A' c', e = .returned (.slice A' 8 c') ∧ TsAt w' A' (toldT (fun k => readR s.p0 s.p1 s.p2 s.p3 s.st k) 8) ∧ Below w.heap.size w w' := by
  obtain ⟨c1, c2, c3, c4⟩ := h.vec
  have HA := hidp fun W (hb : Below w.heap.size w W) => all_any x 9 B s.st sv s.p0 s.p1 s.p2 s.p3 (fun k => readR s.p0 s.p1 s.p2 s.p3 s.st k) W (h.sto.below hb) (fun k hk => (hf k hk).1) (fun k hk => (hf k hk).2) (fun k hk => rfl) (fun k hk => Nat.le_trans (read_data hd _ _ _ _ _) (by omega))
  haveI : SzGe (x + 1) w := ⟨h.sto.lt⟩
  clear h hf hd
  go_enter Tryz.func32, Tryz.ntmps32
  go_wp2_with fail
  refine wp_region_plus_tail 7 (by kernel_rfl) (by kernel_rfl) ?_
  simp only [List.take_succ_cons, List.take_zero, List.drop_succ_cons, List.drop_zero]
  repeat (first | go_big_quiet_skip | (go_big_quiet_want; go_big_quiet_op; go_big_quiet_on))
  refine wpQuiet_nil ?_
  rintro _ ⟨x3, rfl⟩
  go_wp2_with fail
  go_at_call 94
  refine (HA.out _ (below_wplus _ _)).mono ?_
  rintro e w' ⟨A1, c1', rfl, hts, hb⟩
  have HB := hidp ((below_wplus w x3).trans (hb.mono (by simp)))
  have HT := hidp hts
  clear hts hb
  go_wp2_with fail
  go_ret
  exact ⟨A1, c1', rfl, HT.out, HB.out⟩

def siNew (id : Int) : SiP := ⟨id, 0, 0, 0, 0, 0, 0, [], fun _ _ => none, 0, fun _ => [], fun _ => 0⟩
theorem SiAt.fresh {w : World} {B x mb : Nat} {id : Int} (hx : w.heap[x]? = some (.cells #[.int .i64 id, .int .i64 0, .int .i64 0, .int .i64 0, .int .i64 0, .int .i64 0, .int .i64 0, .slice none 0 0, .map (some mb), .slice none 0 0, .slice none 0 0, .slice none 0 0, .slice none 0 0, .slice none 0 0, .slice none 0 0, .slice none 0 0, .slice none 0 0, .int .i64 0, .int .i64 0, .int .i64 0, .int .i64 0, .int .i64 0, .int .i64 0, .int .i64 0, .int .i64 0, .int .i64 0, .int .i64 0, .int .i64 0, .int .i64 0, .int .i64 0, .int .i64 0, .int .i64 0, .int .i64 0] 147))
    (hm : w.heap[mb]? = some (.map #[] 0)) (hB : B ≤ x) (hB2 : B ≤ mb) (hne : mb ≠ x) : SiAt w B x (siNew id) mb (.slice none 0 0) (fun _ => .slice none 0 0) := by
  refine ⟨cell_blk hx 0, cell_blk hx 1, cell_blk hx 2, cell_blk hx 3, cell_blk hx 4, cell_blk hx 5, cell_blk hx 6, cell_blk hx 7, cell_blk hx 8, ?_, frozen_blk hx, ⟨lt_blk hx, ?_, fun k _ => frozen_blk hx _, fun k _ => own_nil' w B, fun _ _ => by simp [Value.ownBlock], fun _ _ _ _ _ _ hb => by simp [Value.ownBlock] at hb⟩,
    ⟨rfl, .inl ⟨rfl, rfl⟩⟩, MpAt.made hm, hB, hB2, hne, by simp [Value.ownBlock], by simp [Value.ownBlock], fun _ _ => by simp [Value.ownBlock], fun _ _ b hb => by simp [Value.ownBlock] at hb, ?_⟩
  · intro k hk
    have hc : k = 0 ∨ k = 1 ∨ k = 2 ∨ k = 3 ∨ k = 4 ∨ k = 5 ∨ k = 6 ∨ k = 7 ∨ k = 8 ∨ k = 9 ∨ k = 10 ∨ k = 11 ∨ k = 12 ∨ k = 13 ∨ k = 14 ∨ k = 15 := by omega
    rw [cell_blk hx]
    rcases hc with rfl | rfl | rfl | rfl | rfl | rfl | rfl | rfl | rfl | rfl | rfl | rfl | rfl | rfl | rfl | rfl <;> rfl
  · intro k hk
    have hc : k = 0 ∨ k = 1 ∨ k = 2 ∨ k = 3 ∨ k = 4 ∨ k = 5 ∨ k = 6 ∨ k = 7 := by omega
    rw [cell_blk hx]
    rcases hc with rfl | rfl | rfl | rfl | rfl | rfl | rfl | rfl <;> rfl
  · intro m hm
    rcases hm with hm | ⟨a, b, hm⟩
    · cases hm
    · cases hm
theorem mkMap (w : World) : Sem.run Tryz.prog (Instr.makeMap 141 none) w = .ok (.map (some w.heap.size)) (w.alloc (.map #[] 0)) := by kernel_rfl
set_option maxHeartbeats 2000000 in
theorem new_any (id : Int) (w : World) (hid : 0 ≤ id ∧ id < 4) :
    Calls Tryz.prog 11 #[.int .i64 id] w fun e w' => e = .returned (.tuple #[.pointer (some ⟨w.heap.size + 1, 0, none⟩), .nilIface]) ∧ SiAt w' w.heap.size (w.heap.size + 1) (siNew id) w.heap.size (.slice none 0 0) (fun _ => .slice none 0 0) ∧ Below w.heap.size w w' := by
  have d0 : decide (id < 0) = false := decide_eq_false (by omega)
  have d1 : decide (4 ≤ id) = false := decide_eq_false (by omega)
  have hmk := mkMap w
  go_enter Tryz.func11, Tryz.ntmps11
  go_wp2_with fail
  go_ret2
  refine ⟨rfl, SiAt.fresh ?_ ?_ (by omega) (Nat.le_refl _) (by omega), (by repeat (first | exact Below.refl _ _ | refine blw_alloc ?_ | refine blw_plus ?_ | refine Below.drew ?_))⟩
  · exact blk_new (by simp) _
  · exact blk_alloc (blk_new rfl _) _
end Go.Proofs.YtbopfhbeegkkaabGreatDoor

namespace Go.Proofs.YtbopfhbeegkkaabGreatDoor
open Go.RowKit

def SiP.setc (s : SiP) (i : Nat) (z : Int) : SiP :=
  { s with p0 := if i = 1 then z else s.p0, p1 := if i = 2 then z else s.p1, p2 := if i = 3 then z else s.p2, p3 := if i = 4 then z else s.p3, lw := if i = 5 then z else s.lw, lc := if i = 6 then z else s.lc }
theorem cell_set {w : World} {x i j : Nat} {v u : Value} (h : w.cell? ⟨x, j, none⟩ = some u) : (w.setCell ⟨x, i, none⟩ v).cell? ⟨x, j, none⟩ = some (if i = j then v else u) := by
  by_cases e : i = j
  · subst e; rw [if_pos rfl]; exact World.cell?_setCell_same _ _ _ h
  · rw [if_neg e, World.cell?_setCell_other _ _ _ _ (by simp only [ne_eq, Addr.mk.injEq, not_and]; omega)]; exact h
theorem SiFr.setc {w : World} {x mb i : Nat} {lv : Value} {sv : Nat → Value} (v : Value) : SiFr w (w.setCell ⟨x, i, none⟩ v) (SiOwn x mb lv sv) (SiOwn x mb lv sv) :=
  ⟨rfl, rfl, rfl, by simp [World.setCell], fun k hk hn => (grown_set w x i v).block k hk (by simp; exact fun e => hn (.inl e)), fun _ h => .inl h⟩
theorem SiAt.setc {w : World} {B x mb i : Nat} {s : SiP} {lv : Value} {sv : Nat → Value} (h : SiAt w B x s mb lv sv) (hi : 1 ≤ i ∧ i ≤ 6) (z : Int) : SiAt (w.setCell ⟨x, i, none⟩ (.int .i64 z)) B x (s.setc i z) mb lv sv := by
  have hgs := grown_set w x i (.int .i64 z)
  have hx : ∀ b, b < w.heap.size → b ≠ x → (w.setCell ⟨x, i, none⟩ (.int .i64 z)).heap[b]? = w.heap[b]? := fun b hb hne => hgs.block b hb (by simp; exact hne)
  have hf : ∀ k, (w.setCell ⟨x, i, none⟩ (.int .i64 z)).frozen? ⟨x, k, none⟩ = w.frozen? ⟨x, k, none⟩ := fun k => World.frozen?_setCell ..
  have hs : (w.setCell ⟨x, i, none⟩ (.int .i64 z)).heap.size = w.heap.size := by simp [World.setCell]
  have t : ∀ {j : Nat} {a : Int}, w.cell? ⟨x, j, none⟩ = some (.int .i64 a) → (w.setCell ⟨x, i, none⟩ (.int .i64 z)).cell? ⟨x, j, none⟩ = some (.int .i64 (if i = j then z else a)) := fun {j a} hj => by
    rw [cell_set hj]
    split <;> rfl
  refine ⟨?_, t h.c1, t h.c2, t h.c3, t h.c4, t h.c5, t h.c6, ?_, ?_, ?_, fun k => (hf k).trans (h.frz k), ?_, ?_, ?_, h.bx, h.bm, h.dxm, h.dxl, h.dml, h.dms, h.dls, ?_⟩
  · have := cell_set (i := i) (v := .int .i64 z) h.c0; rw [if_neg (by omega)] at this; exact this
  · have := cell_set (i := i) (v := .int .i64 z) h.c7; rw [if_neg (by omega)] at this; exact this
  · have := cell_set (i := i) (v := .int .i64 z) h.c8; rw [if_neg (by omega)] at this; exact this
  · intro k hk
    have := cell_set (i := i) (v := .int .i64 z) (h.oth k hk); rw [if_neg (by omega)] at this; exact this
  · refine ⟨by rw [hs]; exact h.sto.lt, fun k hk => ?_, fun k hk => (hf _).trans (h.sto.frz k hk), fun k hk => (h.sto.own k hk).kept hgs (.inr (h.sto.ng k hk)), h.sto.ng, h.sto.dis⟩
    have := cell_set (i := i) (v := .int .i64 z) (h.sto.cel k hk); rw [if_neg (by omega)] at this; exact this
  · exact h.row.kept hgs (.inr h.dxl)
  · exact h.map.block (hx mb h.map.lt h.dxm)
  · intro m hm
    obtain ⟨h1, h2⟩ := h.dat m hm
    exact ⟨h1.keep fun b o e => hx b (h2 b o e).1 (fun e2 => (h2 b o e).2 (.inl e2)), fun b o e => ⟨by rw [hs]; exact (h2 b o e).1, (h2 b o e).2⟩⟩
/-- the store's work, told of the site -/
theorem SiAt.store {w w' : World} {B x mb : Nat} {s : SiP} {lv : Value} {sv sv' : Nat → Value} {st' : Nat → List VerP} (h : SiAt w B x s mb lv sv) (hst : StAt w' x 9 B st' sv') (fr : StFr w w' x 9 sv sv') :
    SiAt w' B x { s with st := st' } mb lv sv' ∧ SiFr w w' (SiOwn x mb lv sv) (SiOwn x mb lv sv') := by
  have hso : ∀ b, SiOwn x mb lv sv b → b < w.heap.size := fun b hb => (h.lt hb).2
  have hnew : ∀ b, StOwn x sv' b → StOwn x sv b ∨ w.heap.size ≤ b := fr.own
  have hnm : ∀ k, k < 8 → (sv' k).ownBlock ≠ some mb := by
    intro k hk e
    rcases fr.own mb (.inr ⟨k, hk, e⟩) with (e2 | ⟨j, hj, e2⟩) | e2
    · exact h.dxm e2
    · exact h.dms j hj e2
    · have := h.map.lt; omega
  have hnl : ∀ k, k < 8 → ∀ b, lv.ownBlock = some b → (sv' k).ownBlock ≠ some b := by
    intro k hk b hb e
    have hbl := (own_ge h.row hb).2
    rcases fr.own b (.inr ⟨k, hk, e⟩) with (e2 | ⟨j, hj, e2⟩) | e2
    · subst e2; exact h.dxl hb
    · exact h.dls j hj b hb e2
    · omega
  have hrest : ∀ b, b < w.heap.size → ¬ StOwn x sv b → w'.heap[b]? = w.heap[b]? := fr.block
  have hcell : ∀ k, k < 9 ∨ 17 ≤ k → w'.cell? ⟨x, k, none⟩ = w.cell? ⟨x, k, none⟩ := fun k hk => fr.rest k (by omega)
  have hmbs : ¬ StOwn x sv mb := by
    rintro (e | ⟨k, hk, e⟩)
    · exact h.dxm e
    · exact h.dms k hk e
  have hlvs : ∀ b, lv.ownBlock = some b → ¬ StOwn x sv b := by
    rintro b hb (e | ⟨k, hk, e⟩)
    · subst e; exact h.dxl hb
    · exact h.dls k hk b hb e
  have hsub : ∀ b, StOwn x sv b → SiOwn x mb lv sv b := by
    rintro b (e | e)
    · exact .inl e
    · exact .inr (.inr (.inr e))
  refine ⟨⟨(hcell 0 (by omega)).trans h.c0, (hcell 1 (by omega)).trans h.c1, (hcell 2 (by omega)).trans h.c2, (hcell 3 (by omega)).trans h.c3, (hcell 4 (by omega)).trans h.c4, (hcell 5 (by omega)).trans h.c5, (hcell 6 (by omega)).trans h.c6, (hcell 7 (by omega)).trans h.c7, (hcell 8 (by omega)).trans h.c8,
    fun k hk => (hcell _ (by omega)).trans (h.oth k hk), fun k => (fr.frzd k).trans (h.frz k), hst, ?_, h.map.block (hrest mb h.map.lt hmbs), h.bx, h.bm, h.dxm, h.dxl, h.dml, hnm, hnl, ?_⟩, ⟨fr.os, fr.tape, fr.output, fr.size, fun k hk hn => hrest k hk (fun e => hn (hsub k e)), ?_⟩⟩
  · obtain ⟨hl, hn | ⟨g, cap, cur, hv, hb, hg, rest⟩⟩ := h.row
    · exact ⟨hl, .inl hn⟩
    · exact ⟨hl, .inr ⟨g, cap, cur, hv, hb, by rw [hrest g (lt_blk hg) (hlvs g (by rw [hv]; rfl))]; exact hg, rest⟩⟩
  · intro m hm
    obtain ⟨h1, h2⟩ := h.dat m hm
    refine ⟨h1.keep fun b o e => hrest b (h2 b o e).1 (fun e2 => (h2 b o e).2 (hsub b e2)), fun b o e => ⟨Nat.lt_of_lt_of_le (h2 b o e).1 fr.size, ?_⟩⟩
    have hb := h2 b o e
    rintro (e2 | e2 | e2 | ⟨k, hk, e2⟩)
    · exact hb.2 (.inl e2)
    · exact hb.2 (.inr (.inl e2))
    · exact hb.2 (.inr (.inr (.inl e2)))
    · rcases hnew b (.inr ⟨k, hk, e2⟩) with e3 | e3
      · exact hb.2 (hsub b e3)
      · omega
  · rintro b (e2 | e2 | e2 | ⟨k, hk, e2⟩)
    · exact .inl (.inl e2)
    · exact .inl (.inr (.inl e2))
    · exact .inl (.inr (.inr (.inl e2)))
    · rcases hnew b (.inr ⟨k, hk, e2⟩) with e3 | e3
      · exact .inl (hsub b e3)
      · exact .inr e3
/-- the log is taken anew, one transaction longer -/
theorem SiAt.logged {w w1 : World} {B x mb : Nat} {s : SiP} {lv lv' : Value} {sv : Nat → Value} {m : MTx} (h : SiAt w B x s mb lv sv) (hg : w.grownBy w1 lv.ownBlock)
    (hown : w1.ownsRow B 44 9 lv' (s.log ++ [m]).length ((s.log ++ [m]).flatMap MTx.cells)) (hv : lv'.ownBlock = lv.ownBlock ∨ ∀ b, lv'.ownBlock = some b → w.heap.size ≤ b)
    (hm : WsAt w m.A m.t.ws ∧ ∀ b o, m.A = some ⟨b, o, none⟩ → b < w.heap.size ∧ ¬ SiOwn x mb lv sv b) :
    SiAt (w1.setCell ⟨x, 7, none⟩ lv') B x { s with log := s.log ++ [m] } mb lv' sv ∧ SiFr w (w1.setCell ⟨x, 7, none⟩ lv') (SiOwn x mb lv sv) (SiOwn x mb lv' sv) := by
  have hgs := grown_set w1 x 7 lv'
  have hxb : w1.heap[x]? = w.heap[x]? := hg.block x h.sto.lt (fun e => h.dxl e.symm)
  have hc1 : ∀ j, w1.cell? ⟨x, j, none⟩ = w.cell? ⟨x, j, none⟩ := fun j => World.cell?_of_block hxb
  have hf : ∀ k, (w1.setCell ⟨x, 7, none⟩ lv').frozen? ⟨x, k, none⟩ = w.frozen? ⟨x, k, none⟩ := fun k => (World.frozen?_setCell ..).trans (World.frozen?_of_block hxb)
  have hs : (w1.setCell ⟨x, 7, none⟩ lv').heap.size = w1.heap.size := by simp [World.setCell]
  have hbl : ∀ b, b < w.heap.size → b ≠ x → lv.ownBlock ≠ some b → (w1.setCell ⟨x, 7, none⟩ lv').heap[b]? = w.heap[b]? := fun b hb h1 h2 => by
    rw [hgs.block b (by have := hg.size; omega) (by simp; exact h1)]
    exact hg.block b hb (fun e => h2 e.symm)
  have t : ∀ {j : Nat} {u : Value}, j ≠ 7 → w.cell? ⟨x, j, none⟩ = some u → (w1.setCell ⟨x, 7, none⟩ lv').cell? ⟨x, j, none⟩ = some u := fun {j u} hj hu => by
    have := cell_set (i := 7) (v := lv') ((hc1 j).trans hu)
    rw [if_neg (by omega)] at this; exact this
  have hlx : lv'.ownBlock ≠ some x := by
    rcases hv with e | e
    · rw [e]; exact h.dxl
    · intro e2; have := e x e2; have := h.sto.lt; omega
  have hlm : lv'.ownBlock ≠ some mb := by
    rcases hv with e | e
    · rw [e]; exact h.dml
    · intro e2; have := e mb e2; have := h.map.lt; omega
  have hls : ∀ k, k < 8 → ∀ b, lv'.ownBlock = some b → (sv k).ownBlock ≠ some b := by
    intro k hk b hb e2
    rcases hv with e | e
    · rw [e] at hb; exact h.dls k hk b hb e2
    · have := e b hb; have := (own_ge (h.sto.own k hk) e2).2; omega
  have hkr : ∀ k, k < 8 → w1.ownsRow B 59 6 (sv k) (s.st k).length (rowOf (s.st k)) := fun k hk => (h.sto.own k hk).kept hg (by
    cases hb : lv.ownBlock with
    | none =>
      cases hk2 : (sv k).ownBlock with
      | none => exact .inl rfl
      | some b => exact .inr (by simp)
    | some b =>
      cases hk2 : (sv k).ownBlock with
      | none => exact .inl rfl
      | some b' => exact .inr (fun e => by simp at e; subst e; exact h.dls k hk b' hb hk2))
  have hdata : ∀ m' : MTx, (WsAt w m'.A m'.t.ws ∧ ∀ b o, m'.A = some ⟨b, o, none⟩ → b < w.heap.size ∧ ¬ SiOwn x mb lv sv b) → WsAt (w1.setCell ⟨x, 7, none⟩ lv') m'.A m'.t.ws ∧ ∀ b o, m'.A = some ⟨b, o, none⟩ → b < (w1.setCell ⟨x, 7, none⟩ lv').heap.size ∧ ¬ SiOwn x mb lv' sv b := by
    rintro m' ⟨h1, h2⟩
    refine ⟨h1.keep fun b o e => hbl b (h2 b o e).1 (fun e2 => (h2 b o e).2 (.inl e2)) (fun e2 => (h2 b o e).2 (.inr (.inr (.inl e2)))), fun b o e => ⟨by rw [hs]; have := hg.size; have := (h2 b o e).1; omega, ?_⟩⟩
    have hb := h2 b o e
    rintro (e2 | e2 | e2 | e2)
    · exact hb.2 (.inl e2)
    · exact hb.2 (.inr (.inl e2))
    · rcases hv with e3 | e3
      · exact hb.2 (.inr (.inr (.inl (e3 ▸ e2))))
      · have := e3 b e2; omega
    · exact hb.2 (.inr (.inr (.inr e2)))
  refine ⟨⟨t (by omega) h.c0, t (by omega) h.c1, t (by omega) h.c2, t (by omega) h.c3, t (by omega) h.c4, t (by omega) h.c5, t (by omega) h.c6, World.cell?_setCell_same _ _ _ ((hc1 7).trans h.c7), t (by omega) h.c8, fun k hk => t (by omega) (h.oth k hk), fun k => (hf k).trans (h.frz k), ?_, hown.kept hgs (.inr hlx), ?_, h.bx, h.bm, h.dxm, hlx, hlm, h.dms, hls, ?_⟩,
    ⟨hg.os, hg.tape, hg.output, by rw [hs]; exact hg.size, fun k hk hn => hbl k hk (fun e => hn (.inl e)) (fun e => hn (.inr (.inr (.inl e)))), ?_⟩⟩
  · exact ⟨by rw [hs]; have := hg.size; have := h.sto.lt; omega, fun k hk => t (by omega) (h.sto.cel k hk), fun k hk => (hf _).trans (h.sto.frz k hk), fun k hk => (hkr k hk).kept hgs (.inr (h.sto.ng k hk)), h.sto.ng, h.sto.dis⟩
  · exact h.map.block (hbl mb h.map.lt h.dxm h.dml)
  · intro m' hm'
    rcases hm' with hm' | hm'
    · rcases List.mem_append.1 hm' with hm' | hm'
      · exact hdata m' (h.dat m' (.inl hm'))
      · simp only [List.mem_singleton] at hm'; subst hm'; exact hdata m' hm
    · exact hdata m' (h.dat m' (.inr hm'))
  · rintro b (e2 | e2 | e2 | e2)
    · exact .inl (.inl e2)
    · exact .inl (.inr (.inl e2))
    · rcases hv with e3 | e3
      · exact .inl (.inr (.inr (.inl (e3 ▸ e2))))
      · exact .inr (e3 b e2)
    · exact .inl (.inr (.inr (.inr e2)))
end Go.Proofs.YtbopfhbeegkkaabGreatDoor
