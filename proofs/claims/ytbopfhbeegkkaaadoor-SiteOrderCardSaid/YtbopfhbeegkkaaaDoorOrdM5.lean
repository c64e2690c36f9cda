/- Part 5 of a proof: lemmas and contracts that the parts behind it use. -/
import Derived.Test.YtbopfhbeegkkaaaDoorOrdM4
import Derived.RegionTactic
import Derived.Deep.RegionHeld3
namespace Go.Proofs.YtbopfhbeegkkaaaDoor
open Go.RowKit

def covD (a0 a1 a2 a3 b0 b1 b2 b3 : Int) : Bool := decide (b0 ≤ a0) && decide (b1 ≤ a1) && decide (b2 ≤ a2) && decide (b3 ≤ a3)
theorem max_beq (a b : Int) : (max a b == a) = decide (b ≤ a) := by
  rw [Bool.eq_iff_iff]
  simp
  omega
set_option maxHeartbeats 2000000 in
theorem covers_any (a0 a1 a2 a3 b0 b1 b2 b3 : Int) (w : World) :
    Calls Tryd.prog 50 #[.agg #[.int .i64 a0, .int .i64 a1, .int .i64 a2, .int .i64 a3], .agg #[.int .i64 b0, .int .i64 b1, .int .i64 b2, .int .i64 b3]] w
      fun e w' => e = .returned (.bool (covD a0 a1 a2 a3 b0 b1 b2 b3)) ∧ Below w.heap.size w w' := by
  have HM := hidp fun w => vMax_any a0 a1 a2 a3 b0 b1 b2 b3 w
  have HE : Hid ((max a0 b0 == a0 && max a1 b1 == a1 && max a2 b2 == a2 && max a3 b3 == a3) = covD a0 a1 a2 a3 b0 b1 b2 b3) := hidp (by unfold covD; rw [max_beq, max_beq, max_beq, max_beq])
  generalize max a0 b0 = m0 at *
  generalize max a1 b1 = m1 at *
  generalize max a2 b2 = m2 at *
  generalize max a3 b3 = m3 at *
  go_enter Tryd.func50, Tryd.ntmps50
  go_wp2_with fail
  refine wp_region_plus (by kernel_rfl) (by kernel_rfl) ?_
  repeat (first | go_big_quiet_skip | (go_big_quiet_want; go_big_quiet_op; first | go_big_quiet_on | (apply Exists.intro; refine ⟨fun _ => ?_, ?_⟩; (go_at_call 35; exact Calls.plus_of (HM.out _)); go_big_quiet_on)))
  refine wpQuiet_nil ?_
  rintro _ ⟨x3, rfl⟩
  go_wp2_with fail
  go_ret
  exact ⟨by rw [← HE.out]; rfl, (by repeat (first | exact Below.refl _ _ | refine blw_alloc ?_ | refine blw_plus ?_ | refine Below.drew ?_))⟩

theorem SiAt.vec {w : World} {B x mb : Nat} {s : SiP} {lv : Value} {sv : Nat → Value} (h : SiAt w B x s mb lv sv) : w.cell? ⟨x, 1, none⟩ = some (.int .i64 s.p0) ∧ w.cell? ⟨x, 1 + 1, none⟩ = some (.int .i64 s.p1) ∧ w.cell? ⟨x, 1 + 2, none⟩ = some (.int .i64 s.p2) ∧ w.cell? ⟨x, 1 + 3, none⟩ = some (.int .i64 s.p3) := ⟨h.c1, h.c2, h.c3, h.c4⟩
set_option maxHeartbeats 2000000 in
theorem applied_any (B x mb : Nat) (s : SiP) (lv : Value) (sv : Nat → Value) (w : World) (h : SiAt w B x s mb lv sv) :
    Calls Tryd.prog 49 #[.pointer (some ⟨x, 0, none⟩)] w fun e w' => e = .returned (.agg #[.int .i64 s.p0, .int .i64 s.p1, .int .i64 s.p2, .int .i64 s.p3]) ∧ Below w.heap.size w w' := by
  have c1 := h.c1; have c2 := h.c2; have c3 := h.c3; have c4 := h.c4
  haveI : SzGe (x + 1) w := ⟨h.sto.lt⟩
  clear h
  go_enter Tryd.func49, Tryd.ntmps49
  go_wp2_with fail
  refine bodyPost_ret (v := .agg #[.int .i64 s.p0, .int .i64 s.p1, .int .i64 s.p2, .int .i64 s.p3]) (by simp [results, Tryd.results49, go_sem]) rfl ⟨rfl, (by repeat (first | exact Below.refl _ _ | refine blw_alloc ?_ | refine blw_plus ?_ | refine Below.drew ?_))⟩
set_option maxHeartbeats 2000000 in
theorem waits_any (B x mb : Nat) (s : SiP) (lv : Value) (sv : Nat → Value) (w : World) (h : SiAt w B x s mb lv sv) :
    Calls Tryd.prog 52 #[.pointer (some ⟨x, 0, none⟩)] w fun e w' => e = .returned (.int .i64 s.wn) ∧ Below w.heap.size w w' := by
  have c8 := h.c8
  have hl : ∀ ty, (Builtin.len_ #[146] ty #[.map (some mb)]).run Tryd.prog w = .ok (.int .i64 s.wn) w := fun ty => h.map.len ty
  haveI : SzGe (x + 1) w := ⟨h.sto.lt⟩
  clear h
  go_enter Tryd.func52, Tryd.ntmps52
  go_wp2_with fail
  go_ret
  exact ⟨rfl, (by repeat (first | exact Below.refl _ _ | refine blw_alloc ?_ | refine blw_plus ?_ | refine Below.drew ?_))⟩

theorem own_nil' (w : World) (n : Nat) : w.ownsRow n 71 6 (.slice none 0 0) 0 [] := ⟨rfl, .inl ⟨rfl, rfl⟩⟩
/-- versions that are not too great -/
def DatOk (S : Nat → List VerP) : Prop := ∀ k, k < 8 → ∀ v ∈ S k, v.data.size ≤ 12
theorem read_data {S : Nat → List VerP} (h : DatOk S) (a0 a1 a2 a3 key : Int) : (readR a0 a1 a2 a3 S key).1.data.size ≤ 12 := by
  have hz : verZ.data.size ≤ 12 := by decide
  unfold readR
  split
  · exact hz
  · rename_i hk
    split
    · rename_i v hf
      split
      · exact hz
      · exact h key.toNat (by omega) v (List.mem_reverse.1 (List.mem_of_find?_eq_some hf))
    · exact hz
set_option maxHeartbeats 2000000 in
theorem siteAll_any (B x mb : Nat) (s : SiP) (lv : Value) (sv : Nat → Value) (w : World) (h : SiAt w B x s mb lv sv) (hf : Fit s.st 900000) (hd : DatOk s.st) :
    Calls Tryd.prog 51 #[.pointer (some ⟨x, 0, none⟩)] w fun e w' => ∃ A' c', e = .returned (.slice A' 8 c') ∧ TsAt w' A' (toldT (fun k => readR s.p0 s.p1 s.p2 s.p3 s.st k) 8) ∧ Below w.heap.size w w' := by
  obtain ⟨c1, c2, c3, c4⟩ := h.vec
  have HA := hidp fun W (hb : Below w.heap.size w W) => all_any x 9 B s.st sv s.p0 s.p1 s.p2 s.p3 (fun k => readR s.p0 s.p1 s.p2 s.p3 s.st k) W (h.sto.below hb) (fun k hk => (hf k hk).1) (fun k hk => (hf k hk).2) (fun k hk => rfl) (fun k hk => Nat.le_trans (read_data hd _ _ _ _ _) (by omega))
  haveI : SzGe (x + 1) w := ⟨h.sto.lt⟩
  clear h hf hd
  go_enter Tryd.func51, Tryd.ntmps51
  go_wp2_with fail
  refine wp_region_plus_tail 7 (by kernel_rfl) (by kernel_rfl) ?_
  simp only [List.take_succ_cons, List.take_zero, List.drop_succ_cons, List.drop_zero]
  repeat (first | go_big_quiet_skip | (go_big_quiet_want; go_big_quiet_op; go_big_quiet_on))
  refine wpQuiet_nil ?_
  rintro _ ⟨x3, rfl⟩
  go_wp2_with fail
  go_at_call 43
  refine (HA.out _ (below_wplus _ _)).mono ?_
  rintro e w' ⟨A1, c1', rfl, hts, hb⟩
  have HB := hidp ((below_wplus w x3).trans (hb.mono (by simp)))
  have HT := hidp hts
  clear hts hb
  go_wp2_with fail
  go_ret
  exact ⟨A1, c1', rfl, HT.out, HB.out⟩

def siNew (id : Int) : SiP := ⟨id, 0, 0, 0, 0, 0, 0, [], fun _ _ => none, 0, fun _ => [], fun _ => 0⟩
theorem SiAt.fresh {w : World} {B x mb : Nat} {id : Int} (hx : w.heap[x]? = some (.cells #[.int .i64 id, .int .i64 0, .int .i64 0, .int .i64 0, .int .i64 0, .int .i64 0, .int .i64 0, .slice none 0 0, .map (some mb), .slice none 0 0, .slice none 0 0, .slice none 0 0, .slice none 0 0, .slice none 0 0, .slice none 0 0, .slice none 0 0, .slice none 0 0, .int .i64 0, .int .i64 0, .int .i64 0, .int .i64 0, .int .i64 0, .int .i64 0, .int .i64 0, .int .i64 0, .int .i64 0, .int .i64 0, .int .i64 0, .int .i64 0, .int .i64 0, .int .i64 0, .int .i64 0, .int .i64 0] 149))
    (hm : w.heap[mb]? = some (.map #[] 0)) (hB : B ≤ x) (hB2 : B ≤ mb) (hne : mb ≠ x) : SiAt w B x (siNew id) mb (.slice none 0 0) (fun _ => .slice none 0 0) := by
  refine ⟨cell_blk hx 0, cell_blk hx 1, cell_blk hx 2, cell_blk hx 3, cell_blk hx 4, cell_blk hx 5, cell_blk hx 6, cell_blk hx 7, cell_blk hx 8, ?_, frozen_blk hx, ⟨lt_blk hx, ?_, fun k _ => frozen_blk hx _, fun k _ => own_nil' w B, fun _ _ => by simp [Value.ownBlock], fun _ _ _ _ _ _ hb => by simp [Value.ownBlock] at hb⟩,
    ⟨rfl, .inl ⟨rfl, rfl⟩⟩, MpAt.made hm, hB, hB2, hne, by simp [Value.ownBlock], by simp [Value.ownBlock], fun _ _ => by simp [Value.ownBlock], fun _ _ b hb => by simp [Value.ownBlock] at hb, ?_⟩
  · intro k hk
    have hc : k = 0 ∨ k = 1 ∨ k = 2 ∨ k = 3 ∨ k = 4 ∨ k = 5 ∨ k = 6 ∨ k = 7 ∨ k = 8 ∨ k = 9 ∨ k = 10 ∨ k = 11 ∨ k = 12 ∨ k = 13 ∨ k = 14 ∨ k = 15 := by omega
    rw [cell_blk hx]
    rcases hc with rfl | rfl | rfl | rfl | rfl | rfl | rfl | rfl | rfl | rfl | rfl | rfl | rfl | rfl | rfl | rfl <;> rfl
  · intro k hk
    have hc : k = 0 ∨ k = 1 ∨ k = 2 ∨ k = 3 ∨ k = 4 ∨ k = 5 ∨ k = 6 ∨ k = 7 := by omega
    rw [cell_blk hx]
    rcases hc with rfl | rfl | rfl | rfl | rfl | rfl | rfl | rfl <;> rfl
  · intro m hm
    rcases hm with hm | ⟨a, b, hm⟩
    · cases hm
    · cases hm
theorem mkMap (w : World) : Sem.run Tryd.prog (Instr.makeMap 146 none) w = .ok (.map (some w.heap.size)) (w.alloc (.map #[] 0)) := by kernel_rfl
set_option maxHeartbeats 2000000 in
theorem new_any (id : Int) (w : World) (hid : 0 ≤ id ∧ id < 4) :
    Calls Tryd.prog 47 #[.int .i64 id] w fun e w' => e = .returned (.tuple #[.pointer (some ⟨w.heap.size + 1, 0, none⟩), .nilIface]) ∧ SiAt w' w.heap.size (w.heap.size + 1) (siNew id) w.heap.size (.slice none 0 0) (fun _ => .slice none 0 0) ∧ Below w.heap.size w w' := by
  have d0 : decide (id < 0) = false := decide_eq_false (by omega)
  have d1 : decide (4 ≤ id) = false := decide_eq_false (by omega)
  have hmk := mkMap w
  go_enter Tryd.func47, Tryd.ntmps47
  go_wp2_with fail
  go_ret2
  refine ⟨rfl, SiAt.fresh ?_ ?_ (by omega) (Nat.le_refl _) (by omega), (by repeat (first | exact Below.refl _ _ | refine blw_alloc ?_ | refine blw_plus ?_ | refine Below.drew ?_))⟩
  · exact blk_new (by simp) _
  · exact blk_alloc (blk_new rfl _) _
end Go.Proofs.YtbopfhbeegkkaaaDoor

namespace Go.Proofs.YtbopfhbeegkkaaaDoor
open Go.RowKit

def SiP.setc (s : SiP) (i : Nat) (z : Int) : SiP :=
  { s with p0 := if i = 1 then z else s.p0, p1 := if i = 2 then z else s.p1, p2 := if i = 3 then z else s.p2, p3 := if i = 4 then z else s.p3, lw := if i = 5 then z else s.lw, lc := if i = 6 then z else s.lc }
theorem cell_set {w : World} {x i j : Nat} {v u : Value} (h : w.cell? ⟨x, j, none⟩ = some u) : (w.setCell ⟨x, i, none⟩ v).cell? ⟨x, j, none⟩ = some (if i = j then v else u) := by
  by_cases e : i = j
  · subst e; rw [if_pos rfl]; exact World.cell?_setCell_same _ _ _ h
  · rw [if_neg e, World.cell?_setCell_other _ _ _ _ (by simp only [ne_eq, Addr.mk.injEq, not_and]; omega)]; exact h
theorem SiFr.setc {w : World} {x mb i : Nat} {lv : Value} {sv : Nat → Value} (v : Value) : SiFr w (w.setCell ⟨x, i, none⟩ v) (SiOwn x mb lv sv) (SiOwn x mb lv sv) :=
  ⟨rfl, rfl, rfl, by simp [World.setCell], fun k hk hn => (grown_set w x i v).block k hk (by simp; exact fun e => hn (.inl e)), fun _ h => .inl h⟩
theorem SiAt.setc {w : World} {B x mb i : Nat} {s : SiP} {lv : Value} {sv : Nat → Value} (h : SiAt w B x s mb lv sv) (hi : 1 ≤ i ∧ i ≤ 6) (z : Int) : SiAt (w.setCell ⟨x, i, none⟩ (.int .i64 z)) B x (s.setc i z) mb lv sv := by
  have hgs := grown_set w x i (.int .i64 z)
  have hx : ∀ b, b < w.heap.size → b ≠ x → (w.setCell ⟨x, i, none⟩ (.int .i64 z)).heap[b]? = w.heap[b]? := fun b hb hne => hgs.block b hb (by simp; exact hne)
  have hf : ∀ k, (w.setCell ⟨x, i, none⟩ (.int .i64 z)).frozen? ⟨x, k, none⟩ = w.frozen? ⟨x, k, none⟩ := fun k => World.frozen?_setCell ..
  have hs : (w.setCell ⟨x, i, none⟩ (.int .i64 z)).heap.size = w.heap.size := by simp [World.setCell]
  have t : ∀ {j : Nat} {a : Int}, w.cell? ⟨x, j, none⟩ = some (.int .i64 a) → (w.setCell ⟨x, i, none⟩ (.int .i64 z)).cell? ⟨x, j, none⟩ = some (.int .i64 (if i = j then z else a)) := fun {j a} hj => by
    rw [cell_set hj]
    split <;> rfl
  refine ⟨?_, t h.c1, t h.c2, t h.c3, t h.c4, t h.c5, t h.c6, ?_, ?_, ?_, fun k => (hf k).trans (h.frz k), ?_, ?_, ?_, h.bx, h.bm, h.dxm, h.dxl, h.dml, h.dms, h.dls, ?_⟩
  · have := cell_set (i := i) (v := .int .i64 z) h.c0; rw [if_neg (by omega)] at this; exact this
  · have := cell_set (i := i) (v := .int .i64 z) h.c7; rw [if_neg (by omega)] at this; exact this
  · have := cell_set (i := i) (v := .int .i64 z) h.c8; rw [if_neg (by omega)] at this; exact this
  · intro k hk
    have := cell_set (i := i) (v := .int .i64 z) (h.oth k hk); rw [if_neg (by omega)] at this; exact this
  · refine ⟨by rw [hs]; exact h.sto.lt, fun k hk => ?_, fun k hk => (hf _).trans (h.sto.frz k hk), fun k hk => (h.sto.own k hk).kept hgs (.inr (h.sto.ng k hk)), h.sto.ng, h.sto.dis⟩
    have := cell_set (i := i) (v := .int .i64 z) (h.sto.cel k hk); rw [if_neg (by omega)] at this; exact this
  · exact h.row.kept hgs (.inr h.dxl)
  · exact h.map.block (hx mb h.map.lt h.dxm)
  · intro m hm
    obtain ⟨h1, h2⟩ := h.dat m hm
    exact ⟨h1.keep fun b o e => hx b (h2 b o e).1 (fun e2 => (h2 b o e).2 (.inl e2)), fun b o e => ⟨by rw [hs]; exact (h2 b o e).1, (h2 b o e).2⟩⟩
/-- the store's work, told of the site -/
theorem SiAt.store {w w' : World} {B x mb : Nat} {s : SiP} {lv : Value} {sv sv' : Nat → Value} {st' : Nat → List VerP} (h : SiAt w B x s mb lv sv) (hst : StAt w' x 9 B st' sv') (fr : StFr w w' x 9 sv sv') :
    SiAt w' B x { s with st := st' } mb lv sv' ∧ SiFr w w' (SiOwn x mb lv sv) (SiOwn x mb lv sv') := by
  have hso : ∀ b, SiOwn x mb lv sv b → b < w.heap.size := fun b hb => (h.lt hb).2
  have hnew : ∀ b, StOwn x sv' b → StOwn x sv b ∨ w.heap.size ≤ b := fr.own
  have hnm : ∀ k, k < 8 → (sv' k).ownBlock ≠ some mb := by
    intro k hk e
    rcases fr.own mb (.inr ⟨k, hk, e⟩) with (e2 | ⟨j, hj, e2⟩) | e2
    · exact h.dxm e2
    · exact h.dms j hj e2
    · have := h.map.lt; omega
  have hnl : ∀ k, k < 8 → ∀ b, lv.ownBlock = some b → (sv' k).ownBlock ≠ some b := by
    intro k hk b hb e
    have hbl := (own_ge h.row hb).2
    rcases fr.own b (.inr ⟨k, hk, e⟩) with (e2 | ⟨j, hj, e2⟩) | e2
    · subst e2; exact h.dxl hb
    · exact h.dls j hj b hb e2
    · omega
  have hrest : ∀ b, b < w.heap.size → ¬ StOwn x sv b → w'.heap[b]? = w.heap[b]? := fr.block
  have hcell : ∀ k, k < 9 ∨ 17 ≤ k → w'.cell? ⟨x, k, none⟩ = w.cell? ⟨x, k, none⟩ := fun k hk => fr.rest k (by omega)
  have hmbs : ¬ StOwn x sv mb := by
    rintro (e | ⟨k, hk, e⟩)
    · exact h.dxm e
    · exact h.dms k hk e
  have hlvs : ∀ b, lv.ownBlock = some b → ¬ StOwn x sv b := by
    rintro b hb (e | ⟨k, hk, e⟩)
    · subst e; exact h.dxl hb
    · exact h.dls k hk b hb e
  have hsub : ∀ b, StOwn x sv b → SiOwn x mb lv sv b := by
    rintro b (e | e)
    · exact .inl e
    · exact .inr (.inr (.inr e))
  refine ⟨⟨(hcell 0 (by omega)).trans h.c0, (hcell 1 (by omega)).trans h.c1, (hcell 2 (by omega)).trans h.c2, (hcell 3 (by omega)).trans h.c3, (hcell 4 (by omega)).trans h.c4, (hcell 5 (by omega)).trans h.c5, (hcell 6 (by omega)).trans h.c6, (hcell 7 (by omega)).trans h.c7, (hcell 8 (by omega)).trans h.c8,
    fun k hk => (hcell _ (by omega)).trans (h.oth k hk), fun k => (fr.frzd k).trans (h.frz k), hst, ?_, h.map.block (hrest mb h.map.lt hmbs), h.bx, h.bm, h.dxm, h.dxl, h.dml, hnm, hnl, ?_⟩, ⟨fr.os, fr.tape, fr.output, fr.size, fun k hk hn => hrest k hk (fun e => hn (hsub k e)), ?_⟩⟩
  · obtain ⟨hl, hn | ⟨g, cap, cur, hv, hb, hg, rest⟩⟩ := h.row
    · exact ⟨hl, .inl hn⟩
    · exact ⟨hl, .inr ⟨g, cap, cur, hv, hb, by rw [hrest g (lt_blk hg) (hlvs g (by rw [hv]; rfl))]; exact hg, rest⟩⟩
  · intro m hm
    obtain ⟨h1, h2⟩ := h.dat m hm
    refine ⟨h1.keep fun b o e => hrest b (h2 b o e).1 (fun e2 => (h2 b o e).2 (hsub b e2)), fun b o e => ⟨Nat.lt_of_lt_of_le (h2 b o e).1 fr.size, ?_⟩⟩
    have hb := h2 b o e
    rintro (e2 | e2 | e2 | ⟨k, hk, e2⟩)
    · exact hb.2 (.inl e2)
    · exact hb.2 (.inr (.inl e2))
    · exact hb.2 (.inr (.inr (.inl e2)))
    · rcases hnew b (.inr ⟨k, hk, e2⟩) with e3 | e3
      · exact hb.2 (hsub b e3)
      · omega
  · rintro b (e2 | e2 | e2 | ⟨k, hk, e2⟩)
    · exact .inl (.inl e2)
    · exact .inl (.inr (.inl e2))
    · exact .inl (.inr (.inr (.inl e2)))
    · rcases hnew b (.inr ⟨k, hk, e2⟩) with e3 | e3
      · exact .inl (hsub b e3)
      · exact .inr e3
/-- the log is taken anew, one transaction longer -/
theorem SiAt.logged {w w1 : World} {B x mb : Nat} {s : SiP} {lv lv' : Value} {sv : Nat → Value} {m : MTx} (h : SiAt w B x s mb lv sv) (hg : w.grownBy w1 lv.ownBlock)
    (hown : w1.ownsRow B 40 9 lv' (s.log ++ [m]).length ((s.log ++ [m]).flatMap MTx.cells)) (hv : lv'.ownBlock = lv.ownBlock ∨ ∀ b, lv'.ownBlock = some b → w.heap.size ≤ b)
    (hm : WsAt w m.A m.t.ws ∧ ∀ b o, m.A = some ⟨b, o, none⟩ → b < w.heap.size ∧ ¬ SiOwn x mb lv sv b) :
    SiAt (w1.setCell ⟨x, 7, none⟩ lv') B x { s with log := s.log ++ [m] } mb lv' sv ∧ SiFr w (w1.setCell ⟨x, 7, none⟩ lv') (SiOwn x mb lv sv) (SiOwn x mb lv' sv) := by
  have hgs := grown_set w1 x 7 lv'
  have hxb : w1.heap[x]? = w.heap[x]? := hg.block x h.sto.lt (fun e => h.dxl e.symm)
  have hc1 : ∀ j, w1.cell? ⟨x, j, none⟩ = w.cell? ⟨x, j, none⟩ := fun j => World.cell?_of_block hxb
  have hf : ∀ k, (w1.setCell ⟨x, 7, none⟩ lv').frozen? ⟨x, k, none⟩ = w.frozen? ⟨x, k, none⟩ := fun k => (World.frozen?_setCell ..).trans (World.frozen?_of_block hxb)
  have hs : (w1.setCell ⟨x, 7, none⟩ lv').heap.size = w1.heap.size := by simp [World.setCell]
  have hbl : ∀ b, b < w.heap.size → b ≠ x → lv.ownBlock ≠ some b → (w1.setCell ⟨x, 7, none⟩ lv').heap[b]? = w.heap[b]? := fun b hb h1 h2 => by
    rw [hgs.block b (by have := hg.size; omega) (by simp; exact h1)]
    exact hg.block b hb (fun e => h2 e.symm)
  have t : ∀ {j : Nat} {u : Value}, j ≠ 7 → w.cell? ⟨x, j, none⟩ = some u → (w1.setCell ⟨x, 7, none⟩ lv').cell? ⟨x, j, none⟩ = some u := fun {j u} hj hu => by
    have := cell_set (i := 7) (v := lv') ((hc1 j).trans hu)
    rw [if_neg (by omega)] at this; exact this
  have hlx : lv'.ownBlock ≠ some x := by
    rcases hv with e | e
    · rw [e]; exact h.dxl
    · intro e2; have := e x e2; have := h.sto.lt; omega
  have hlm : lv'.ownBlock ≠ some mb := by
    rcases hv with e | e
    · rw [e]; exact h.dml
    · intro e2; have := e mb e2; have := h.map.lt; omega
  have hls : ∀ k, k < 8 → ∀ b, lv'.ownBlock = some b → (sv k).ownBlock ≠ some b := by
    intro k hk b hb e2
    rcases hv with e | e
    · rw [e] at hb; exact h.dls k hk b hb e2
    · have := e b hb; have := (own_ge (h.sto.own k hk) e2).2; omega
  have hkr : ∀ k, k < 8 → w1.ownsRow B 71 6 (sv k) (s.st k).length (rowOf (s.st k)) := fun k hk => (h.sto.own k hk).kept hg (by
    cases hb : lv.ownBlock with
    | none =>
      cases hk2 : (sv k).ownBlock with
      | none => exact .inl rfl
      | some b => exact .inr (by simp)
    | some b =>
      cases hk2 : (sv k).ownBlock with
      | none => exact .inl rfl
      | some b' => exact .inr (fun e => by simp at e; subst e; exact h.dls k hk b' hb hk2))
  have hdata : ∀ m' : MTx, (WsAt w m'.A m'.t.ws ∧ ∀ b o, m'.A = some ⟨b, o, none⟩ → b < w.heap.size ∧ ¬ SiOwn x mb lv sv b) → WsAt (w1.setCell ⟨x, 7, none⟩ lv') m'.A m'.t.ws ∧ ∀ b o, m'.A = some ⟨b, o, none⟩ → b < (w1.setCell ⟨x, 7, none⟩ lv').heap.size ∧ ¬ SiOwn x mb lv' sv b := by
    rintro m' ⟨h1, h2⟩
    refine ⟨h1.keep fun b o e => hbl b (h2 b o e).1 (fun e2 => (h2 b o e).2 (.inl e2)) (fun e2 => (h2 b o e).2 (.inr (.inr (.inl e2)))), fun b o e => ⟨by rw [hs]; have := hg.size; have := (h2 b o e).1; omega, ?_⟩⟩
    have hb := h2 b o e
    rintro (e2 | e2 | e2 | e2)
    · exact hb.2 (.inl e2)
    · exact hb.2 (.inr (.inl e2))
    · rcases hv with e3 | e3
      · exact hb.2 (.inr (.inr (.inl (e3 ▸ e2))))
      · have := e3 b e2; omega
    · exact hb.2 (.inr (.inr (.inr e2)))
  refine ⟨⟨t (by omega) h.c0, t (by omega) h.c1, t (by omega) h.c2, t (by omega) h.c3, t (by omega) h.c4, t (by omega) h.c5, t (by omega) h.c6, World.cell?_setCell_same _ _ _ ((hc1 7).trans h.c7), t (by omega) h.c8, fun k hk => t (by omega) (h.oth k hk), fun k => (hf k).trans (h.frz k), ?_, hown.kept hgs (.inr hlx), ?_, h.bx, h.bm, h.dxm, hlx, hlm, h.dms, hls, ?_⟩,
    ⟨hg.os, hg.tape, hg.output, by rw [hs]; exact hg.size, fun k hk hn => hbl k hk (fun e => hn (.inl e)) (fun e => hn (.inr (.inr (.inl e)))), ?_⟩⟩
  · exact ⟨by rw [hs]; have := hg.size; have := h.sto.lt; omega, fun k hk => t (by omega) (h.sto.cel k hk), fun k hk => (hf _).trans (h.sto.frz k hk), fun k hk => (hkr k hk).kept hgs (.inr (h.sto.ng k hk)), h.sto.ng, h.sto.dis⟩
  · exact h.map.block (hbl mb h.map.lt h.dxm h.dml)
  · intro m' hm'
    rcases hm' with hm' | hm'
    · rcases List.mem_append.1 hm' with hm' | hm'
      · exact hdata m' (h.dat m' (.inl hm'))
      · simp only [List.mem_singleton] at hm'; subst hm'; exact hdata m' hm
    · exact hdata m' (h.dat m' (.inr hm'))
  · rintro b (e2 | e2 | e2 | e2)
    · exact .inl (.inl e2)
    · exact .inl (.inr (.inl e2))
    · rcases hv with e3 | e3
      · exact .inl (.inr (.inr (.inl (e3 ▸ e2))))
      · exact .inr (e3 b e2)
    · exact .inl (.inr (.inr (.inr e2)))
end Go.Proofs.YtbopfhbeegkkaaaDoor

namespace Go.Proofs.YtbopfhbeegkkaaaDoor
open Go.RowKit

instance : Inhabited WrP := ⟨⟨0, ⟨#[]⟩, false⟩⟩
def verOf (t : TxP) (w : WrP) : VerP := ⟨t.wall, t.count, t.site, t.seq, w.data, w.gone⟩
def stPut (st : Nat → List VerP) (t : TxP) : Nat → Nat → List VerP
  | 0 => st
  | j + 1 => putP (stPut st t j) ⟨(t.ws.getD j default).key, verOf t (t.ws.getD j default)⟩
theorem stPut_fit {st : Nat → List VerP} {N : Nat} (h : Fit st N) (t : TxP) : ∀ j, Fit (stPut st t j) (N + j)
  | 0 => h
  | j + 1 => (stPut_fit h t j).put _
def laterW (aw ac bw bc : Int) : Int := if cmpS aw ac bw bc < 0 then bw else aw
def laterC (aw ac bw bc : Int) : Int := if cmpS aw ac bw bc < 0 then bc else ac
theorem later_is (aw ac bw bc : Int) (w : World) : Calls Tryd.prog 16 #[.agg #[.int .i64 aw, .int .i64 ac], .agg #[.int .i64 bw, .int .i64 bc]] w fun e w' => e = .returned (.agg #[.int .i64 (laterW aw ac bw bc), .int .i64 (laterC aw ac bw bc)]) ∧ Below w.heap.size w w' := by
  have := later_any aw ac bw bc w
  unfold laterW laterC
  split at this <;> rename_i h
  · rw [if_pos h, if_pos h]; exact this
  · rw [if_neg h, if_neg h]; exact this
/-- what a site has behind a transaction that it applies -/
def applyP (s : SiP) (m : MTx) : SiP :=
  { ((({ s with st := stPut s.st m.t m.t.ws.length } : SiP).setc (1 + m.t.site.toNat) m.t.seq).setc 5 (laterW s.lw s.lc m.t.wall m.t.count)).setc 6 (laterC s.lw s.lc m.t.wall m.t.count) with log := s.log ++ [m] }
theorem info40o : (Tryd.prog.info? 40).map (fun i => (i.zero, i.size, i.bytes)) = some (some txZero, 9, 88) := by kernel_rfl
theorem info40 : ∃ i, Tryd.prog.info? 40 = some i ∧ i.zero = some txZero ∧ i.size = 9 ∧ i.bytes = 88 := by
  obtain ⟨i, hi, h⟩ := Option.map_eq_some_iff.1 info40o
  simp only [Prod.mk.injEq] at h
  exact ⟨i, hi, h.1, h.2.1, h.2.2⟩
theorem mcells_len (l : List MTx) : (l.flatMap MTx.cells).length = l.length * 9 := by
  induction l with
  | nil => rfl
  | cons x l ih => simp only [List.flatMap_cons, List.length_append, MTx.cells, List.length_cons, List.length_nil] at ih ⊢; omega

set_option maxRecDepth 20000 in
set_option maxHeartbeats 16000000 in
theorem applies_any (B x mb : Nat) (s : SiP) (lv : Value) (sv : Nat → Value) (m : MTx) (N : Nat) (w : World) (h : SiAt w B x s mb lv sv)
    (hm : WsAt w m.A m.t.ws ∧ ∀ b o, m.A = some ⟨b, o, none⟩ → b < w.heap.size ∧ ¬ SiOwn x mb lv sv b) (hsite : 0 ≤ m.t.site ∧ m.t.site < 4) (hf : Fit s.st N) (hN : N ≤ 800000) (hl : s.log.length ≤ 100000) (hw : m.t.ws.length ≤ 1000) :
    Calls Tryd.prog 82 #[.pointer (some ⟨x, 0, none⟩), MTx.val m] w fun e w' => e = .returned (.tuple #[]) ∧ ∃ lv' sv', SiAt w' B x (applyP s m) mb lv' sv' ∧ SiFr w w' (SiOwn x mb lv sv) (SiOwn x mb lv' sv') := by
  obtain ⟨⟨site, seq, wall, count, d0, d1, d2, d3, ws⟩, A, c⟩ := m
  obtain ⟨Al, cl, rfl⟩ := own_form h.row
  simp only at hm hsite hw
  obtain ⟨st, rfl⟩ := Int.eq_ofNat_of_zero_le hsite.1
  have hst4 : st < 4 := by omega
  have hBw : Below w.heap.size w (w.alloc (.cells #[.int .i64 (st : Int), .int .i64 seq, .int .i64 wall, .int .i64 count, .int .i64 d0, .int .i64 d1, .int .i64 d2, .int .i64 d3, .slice A ws.length c] 40)) := blw_alloc (Below.refl _ _)
  have HS0 := hidp (h.below hBw)
  have HFR0 := hidp (SiFr.of_below (SiOwn x mb (.slice Al s.log.length cl) sv) hBw)
  have HM0 := hidp (show WsAt (w.alloc (.cells #[.int .i64 (st : Int), .int .i64 seq, .int .i64 wall, .int .i64 count, .int .i64 d0, .int .i64 d1, .int .i64 d2, .int .i64 d3, .slice A ws.length c] 40)) A ws ∧ ∀ b o, A = some ⟨b, o, none⟩ → b < (w.alloc (.cells #[.int .i64 (st : Int), .int .i64 seq, .int .i64 wall, .int .i64 count, .int .i64 d0, .int .i64 d1, .int .i64 d2, .int .i64 d3, .slice A ws.length c] 40)).heap.size ∧ ¬ SiOwn x mb (.slice Al s.log.length cl) sv b from ⟨hm.1.below hBw, fun b o e => ⟨Nat.lt_of_lt_of_le (hm.2 b o e).1 hBw.size, (hm.2 b o e).2⟩⟩)
  have HBX := hidp (show (w.alloc (.cells #[.int .i64 (st : Int), .int .i64 seq, .int .i64 wall, .int .i64 count, .int .i64 d0, .int .i64 d1, .int .i64 d2, .int .i64 d3, .slice A ws.length c] 40)).heap[w.heap.size]? = some (.cells #[.int .i64 (st : Int), .int .i64 seq, .int .i64 wall, .int .i64 count, .int .i64 d0, .int .i64 d1, .int .i64 d2, .int .i64 d3, .slice A ws.length c] 40) from blk_new rfl _)
  have HNO := hidp (show ¬ SiOwn x mb (.slice Al s.log.length cl) sv w.heap.size from fun e => by have := (h.lt e).2; omega)
  have HB := hidp (Nat.le_trans h.bx (Nat.le_of_lt h.sto.lt))
  have HF := hidp hf
  have hbs : (w.alloc (.cells #[.int .i64 (st : Int), .int .i64 seq, .int .i64 wall, .int .i64 count, .int .i64 d0, .int .i64 d1, .int .i64 d2, .int .i64 d3, .slice A ws.length c] 40)).heap.size = w.heap.size + 1 := by simp
  have HSZ := hidp hbs
  clear h hm hBw hf hbs
  unfold MTx.val
  go_enter Tryd.func82, Tryd.ntmps82
  go_wp2_with fail
  generalize w.alloc (.cells #[.int .i64 (st : Int), .int .i64 seq, .int .i64 wall, .int .i64 count, .int .i64 d0, .int .i64 d1, .int .i64 d2, .int .i64 d3, .slice A ws.length c] 40) = wo at *
  go_loopw [9] (fun i wr => ∃ (j : Nat) (sv' : Nat → Value), i = .int .i64 j ∧ j ≤ ws.length ∧ SiAt wr B x { s with st := stPut s.st (⟨(st : Int), seq, wall, count, d0, d1, d2, d3, ws⟩ : TxP) j } mb (.slice Al s.log.length cl) sv' ∧ SiFr wo wr (SiOwn x mb (.slice Al s.log.length cl) sv) (SiOwn x mb (.slice Al s.log.length cl) sv')) (fun i _ => ws.length - (intOf i).toNat)
  case atStart => exact ⟨0, sv, rfl, Nat.zero_le _, HS0.out, SiFr.of_below _ (Below.refl _ _)⟩
  case round =>
    obtain ⟨j, sv1, rfl, hj, hs, hfr⟩ := hrel
    have HS := hidp hs
    have HFR := hidp hfr
    have hbx : wr.heap[w.heap.size]? = some (.cells #[.int .i64 (st : Int), .int .i64 seq, .int .i64 wall, .int .i64 count, .int .i64 d0, .int .i64 d1, .int .i64 d2, .int .i64 d3, .slice A ws.length c] 40) := (hfr.block _ (lt_blk HBX.out) HNO.out).trans HBX.out
    have e0 := cell_blk hbx 0; have e1 := cell_blk hbx 1; have e2 := cell_blk hbx 2; have e3 := cell_blk hbx 3; have e4 := cell_blk hbx 4; have e5 := cell_blk hbx 5; have e6 := cell_blk hbx 6; have e7 := cell_blk hbx 7; have e8 := cell_blk hbx 8
    simp only [List.getElem?_toArray, List.getElem?_cons_zero, List.getElem?_cons_succ] at e0 e1 e2 e3 e4 e5 e6 e7 e8
    haveI : SzGe (w.heap.size + 1) wr := ⟨lt_blk hbx⟩
    have hszr := hfr.size
    clear hs hfr hbx
    by_cases hjl : j < ws.length
    · obtain ⟨hws, hwo⟩ := HM0.out
      obtain ⟨b, o, rfl, hb, k0, k1, k2⟩ := hws j ws[j] (List.getElem?_eq_getElem hjl)
      have hgd : ws.getD j default = ws[j] := by simp [List.getD, List.getElem?_eq_getElem hjl]
      have HX : Hid (stPut s.st (⟨(st : Int), seq, wall, count, d0, d1, d2, d3, ws⟩ : TxP) (j + 1) = (putR (stPut s.st (⟨(st : Int), seq, wall, count, d0, d1, d2, d3, ws⟩ : TxP) j) (ws[j]).key ⟨wall, count, (st : Int), seq, (ws[j]).data, (ws[j]).gone⟩).2) := hidp (by
        show putP _ ⟨(ws.getD j default).key, _⟩ = _
        rw [hgd]; rfl)
      have hbw := HFR.out.block b (hwo b o rfl).1 (hwo b o rfl).2
      rw [← World.cell?_of_block hbw] at k0 k1 k2
      haveI : SzGe (b + 1) wr := ⟨Nat.lt_of_lt_of_le (hwo b o rfl).1 hszr⟩
      generalize ws[j] = y at *
      obtain ⟨yk, yd, yg⟩ := y
      simp only at k0 k1 k2
      simp only at HX
      have HFJ := hidp ((stPut_fit HF.out (⟨(st : Int), seq, wall, count, d0, d1, d2, d3, ws⟩ : TxP) j).mono (M := 900000) (by omega))
      have HPT := hidp fun W (hW : SiAt W B x { s with st := stPut s.st (⟨(st : Int), seq, wall, count, d0, d1, d2, d3, ws⟩ : TxP) j } mb (.slice Al s.log.length cl) sv1) => putS_any x 9 B _ sv1 yk ⟨wall, count, (st : Int), seq, yd, yg⟩ W hW.sto (fun k hk => (HFJ.out k hk).1) (fun k hk => (HFJ.out k hk).2) (Nat.le_trans hW.bx (Nat.le_of_lt hW.sto.lt))
      clear hws hwo hgd hbw hb
      go_wp2_with fail
      refine wp_region_plus_tail 16 (by kernel_rfl) (by kernel_rfl) ?_
      simp only [List.take_succ_cons, List.take_zero, List.drop_succ_cons, List.drop_zero]
      repeat (first | go_big_quiet_skip | (go_big_quiet_want; go_big_quiet_op; go_big_quiet_on))
      refine wpQuiet_nil ?_
      rintro _ ⟨x3, rfl⟩
      go_wp2_with fail
      have HCU := hidp (HS.out.below (show Below wr.heap.size wr (wplus (wr.alloc (.cells #[.int .i64 yk, .string yd, .bool yg] 115)) x3) from (by repeat (first | exact Below.refl _ _ | refine blw_alloc ?_ | refine blw_plus ?_ | refine Below.drew ?_))))
      have HFU := hidp (HFR.out.trans (SiFr.of_below (SiOwn x mb (.slice Al s.log.length cl) sv1) (show Below wr.heap.size wr (wplus (wr.alloc (.cells #[.int .i64 yk, .string yd, .bool yg] 115)) x3) from (by repeat (first | exact Below.refl _ _ | refine blw_alloc ?_ | refine blw_plus ?_ | refine Below.drew ?_)))))
      go_at_call 34
      refine (HPT.out _ HCU.out).mono ?_
      rintro e w2 ⟨sv2, rfl, hst2, hfr2⟩
      have HN2 := hidp (HCU.out.store hst2 hfr2)
      clear hst2 hfr2 HPT
      go_wp2_with fail
      go_roundw
      case rel =>
        refine ⟨j + 1, sv2, by go_num, by omega, ?_, HFU.out.trans HN2.out.2⟩
        rw [HX.out]
        exact HN2.out.1
      case measure => simp [intOf]; omega
    · obtain rfl : j = ws.length := by omega
      have hxr := HS.out.sto.lt
      haveI : SzGe (x + 1) wr := ⟨hxr⟩
      obtain ⟨zu, hzu⟩ : ∃ zu, wr.cell? ⟨x, 1 + st, none⟩ = some (.int .i64 zu) := by
        obtain ⟨v1, v2, v3, v4⟩ := HS.out.vec
        have hc : st = 0 ∨ st = 1 ∨ st = 2 ∨ st = 3 := by omega
        rcases hc with rfl | rfl | rfl | rfl
        · exact ⟨_, v1⟩
        · exact ⟨_, v2⟩
        · exact ⟨_, v3⟩
        · exact ⟨_, v4⟩
      have hzf := HS.out.frz (1 + st)
      go_wp2_with fail
      refine wp_region_plus_tail 7 (by kernel_rfl) (by kernel_rfl) ?_
      simp only [List.take_succ_cons, List.take_zero, List.drop_succ_cons, List.drop_zero]
      repeat (first | go_big_quiet_skip | (go_big_quiet_want; go_big_quiet_op; go_big_quiet_on))
      refine wpQuiet_nil ?_
      rintro _ ⟨x3, rfl⟩
      go_wp2_with fail
      have HS6 := hidp ((HS.out.setc (i := 1 + st) (by omega) seq).below (below_wplus _ x3))
      have HF6 := hidp ((HFR.out.trans (SiFr.setc (i := 1 + st) (.int .i64 seq))).trans (SiFr.of_below (SiOwn x mb (.slice Al s.log.length cl) sv1) (below_wplus _ x3)))
      clear e0 e1 e2 e3 e4 e5 e6 e7 e8 hzu hzf
      generalize wplus (wr.setCell ⟨x, 1 + st, none⟩ (.int .i64 seq)) x3 = w6 at *
      obtain ⟨s6, hs6⟩ : ∃ s6, SiP.setc ({ s with st := stPut s.st (⟨(st : Int), seq, wall, count, d0, d1, d2, d3, ws⟩ : TxP) ws.length } : SiP) (1 + st) seq = s6 := ⟨_, rfl⟩
      have hlw : s6.lw = s.lw := by rw [← hs6]; simp [SiP.setc]; omega
      have hlc : s6.lc = s.lc := by rw [← hs6]; simp [SiP.setc]; omega
      have hlg : s6.log = s.log := by rw [← hs6]; rfl
      have hst6 : s6.st = stPut s.st (⟨(st : Int), seq, wall, count, d0, d1, d2, d3, ws⟩ : TxP) ws.length := by rw [← hs6]; rfl
      rw [hs6] at HS6
      have HS6E := hidp hs6
      have HLG := hidp hlg
      have a5 := HS6.out.c5
      have a6 := HS6.out.c6
      rw [hlw] at a5
      rw [hlc] at a6
      have g5 := HS6.out.frz 5; have g6 := HS6.out.frz 6
      have hx6 := HS6.out.sto.lt
      haveI : SzGe (x + 1) w6 := ⟨hx6⟩
      clear hs6 hlw hlc hlg hst6
      have HLT := hidp fun w => later_is s.lw s.lc wall count w
      generalize hLW : laterW s.lw s.lc wall count = LW at *
      generalize hLC : laterC s.lw s.lc wall count = LC at *
      have HLW := hidp hLW
      have HLC := hidp hLC
      clear hLW hLC
      have hbx6 : w6.heap[w.heap.size]? = some (.cells #[.int .i64 (st : Int), .int .i64 seq, .int .i64 wall, .int .i64 count, .int .i64 d0, .int .i64 d1, .int .i64 d2, .int .i64 d3, .slice A ws.length c] 40) := (HF6.out.block _ (lt_blk HBX.out) HNO.out).trans HBX.out
      have e0 := cell_blk hbx6 0; have e1 := cell_blk hbx6 1; have e2 := cell_blk hbx6 2; have e3 := cell_blk hbx6 3; have e4 := cell_blk hbx6 4; have e5 := cell_blk hbx6 5; have e6 := cell_blk hbx6 6; have e7 := cell_blk hbx6 7; have e8 := cell_blk hbx6 8
      simp only [List.getElem?_toArray, List.getElem?_cons_zero, List.getElem?_cons_succ] at e0 e1 e2 e3 e4 e5 e6 e7 e8
      haveI : SzGe (w.heap.size + 1) w6 := ⟨lt_blk hbx6⟩
      clear hbx6
      go_wp2_with fail
      refine wp_region_plus_tail 8 (by kernel_rfl) (by kernel_rfl) ?_
      simp only [List.take_succ_cons, List.take_zero, List.drop_succ_cons, List.drop_zero]
      repeat (first | go_big_quiet_skip | (go_big_quiet_want; go_big_quiet_op; first | go_big_quiet_on | (apply Exists.intro; refine ⟨fun _ => ?_, ?_⟩; (go_at_call 16; exact Calls.plus_of (HLT.out _)); go_big_quiet_on)))
      refine wpQuiet_nil ?_
      rintro _ ⟨x4, rfl⟩
      go_wp2_with fail
      have HS7 := hidp (((HS6.out.setc (i := 5) (by omega) LW).setc (i := 6) (by omega) LC).below (below_wplus _ x4))
      have HF7 := hidp (((HF6.out.trans (SiFr.setc (i := 5) (.int .i64 LW))).trans (SiFr.setc (i := 6) (.int .i64 LC))).trans (SiFr.of_below (SiOwn x mb (.slice Al s.log.length cl) sv1) (below_wplus _ x4)))
      clear e0 e1 e2 e3 e4 e5 e6 e7 e8 a5 a6 g5 g6
      generalize wplus ((w6.setCell ⟨x, 5, none⟩ (.int .i64 LW)).setCell ⟨x, 6, none⟩ (.int .i64 LC)) x4 = w7 at *
      have hM7 : WsAt w7 A ws ∧ ∀ b o, A = some ⟨b, o, none⟩ → b < w7.heap.size ∧ ¬ SiOwn x mb (.slice Al s.log.length cl) sv1 b := by
        obtain ⟨h1, h2⟩ := HM0.out
        have h3 := HF7.out.size
        refine ⟨h1.keep fun b o e => HF7.out.block b (h2 b o e).1 (h2 b o e).2, fun b o e => ⟨Nat.lt_of_lt_of_le (h2 b o e).1 h3, fun e2 => ?_⟩⟩
        rcases HF7.out.own b e2 with e3 | e3
        · exact (h2 b o e).2 e3
        · have := (h2 b o e).1; omega
      have HM7 := hidp hM7
      clear hM7
      have HRW := HS7.out.row
      rw [show ((s6.setc 5 LW).setc 6 LC).log = s6.log from rfl, HLG.out] at HRW
      have HOW := hidp HRW
      clear HRW
      have k7 := HS7.out.c7
      have z7 := HS7.out.frz 7
      have hx7 := HS7.out.sto.lt
      haveI : SzGe (x + 1) w7 := ⟨hx7⟩
      have hB7 : B ≤ w7.heap.size := Nat.le_trans HS7.out.bx (Nat.le_of_lt hx7)
      have hbx7 : w7.heap[w.heap.size]? = some (.cells #[.int .i64 (st : Int), .int .i64 seq, .int .i64 wall, .int .i64 count, .int .i64 d0, .int .i64 d1, .int .i64 d2, .int .i64 d3, .slice A ws.length c] 40) := (HF7.out.block _ (lt_blk HBX.out) HNO.out).trans HBX.out
      have e0 := cell_blk hbx7 0; have e1 := cell_blk hbx7 1; have e2 := cell_blk hbx7 2; have e3 := cell_blk hbx7 3; have e4 := cell_blk hbx7 4; have e5 := cell_blk hbx7 5; have e6 := cell_blk hbx7 6; have e7 := cell_blk hbx7 7; have e8 := cell_blk hbx7 8
      simp only [List.getElem?_toArray, List.getElem?_cons_zero, List.getElem?_cons_succ] at e0 e1 e2 e3 e4 e5 e6 e7 e8
      haveI : SzGe (w.heap.size + 1) w7 := ⟨lt_blk hbx7⟩
      clear hbx7
      obtain ⟨i0, hi0, hz0, hz1, hz2⟩ := info40
      have HN1 : ∀ u ∈ ([.int .i64 (st : Int), .int .i64 seq, .int .i64 wall, .int .i64 count, .int .i64 d0, .int .i64 d1, .int .i64 d2, .int .i64 d3, .slice A ws.length c] : List Value), u.oneCell' = true := by
        intro u hu; simp at hu; rcases hu with rfl | rfl | rfl | rfl | rfl | rfl | rfl | rfl | rfl <;> rfl
      have h63 : s.log.length + 1 ≤ maxLen := by refine Nat.le_trans ?_ maxLen_ge; omega
      have hby : (s.log.length + 1) * 88 ≤ 140737488355328 := by omega
      have HROW : Hid (∀ (W : World) (v : Value) (n : Nat), W.ownsRow B 40 9 v n (s.log.flatMap MTx.cells ++ [.int .i64 (st : Int), .int .i64 seq, .int .i64 wall, .int .i64 count, .int .i64 d0, .int .i64 d1, .int .i64 d2, .int .i64 d3, .slice A ws.length c]) → n = s.log.length + 1 → W.ownsRow B 40 9 v (s.log ++ [(⟨⟨(st : Int), seq, wall, count, d0, d1, d2, d3, ws⟩, A, c⟩ : MTx)]).length ((s.log ++ [(⟨⟨(st : Int), seq, wall, count, d0, d1, d2, d3, ws⟩, A, c⟩ : MTx)]).flatMap MTx.cells)) := hidp (by
        intro W v n h hn
        have hrow : s.log.flatMap MTx.cells ++ [.int .i64 (st : Int), .int .i64 seq, .int .i64 wall, .int .i64 count, .int .i64 d0, .int .i64 d1, .int .i64 d2, .int .i64 d3, .slice A ws.length c] = (s.log ++ [(⟨⟨(st : Int), seq, wall, count, d0, d1, d2, d3, ws⟩, A, c⟩ : MTx)]).flatMap MTx.cells := by rw [List.flatMap_append]; rfl
        have hle : (s.log ++ [(⟨⟨(st : Int), seq, wall, count, d0, d1, d2, d3, ws⟩, A, c⟩ : MTx)]).length = s.log.length + 1 := by simp
        rw [hle, ← hn, ← hrow]; exact h)
      go_wp2_with fail
      go_region_law (
        refine step_append_lies _ rfl (.tmp 53) (.tmp 55) 98 rfl B 40 i0 txZero 9 88 Tryd.underlying98 hi0 hz0 hz1 hz2 rfl (by decide) (.slice Al s.log.length cl) s.log.length (s.log.flatMap MTx.cells) (by simp [Act.eval, Act.put]) (own_below HOW.out (by repeat (first | exact Below.refl _ _ | refine blw_alloc ?_ | refine blw_plus ?_ | refine Below.drew ?_)) (fun k e => (own_ge HOW.out e).2)) ⟨w7.heap.size, 0, none⟩ 1 1 [.int .i64 (st : Int), .int .i64 seq, .int .i64 wall, .int .i64 count, .int .i64 d0, .int .i64 d1, .int .i64 d2, .int .i64 d3, .slice A ws.length c] (by simp [Act.eval, Act.put]) rfl (World.news_of_block (cs := #[.int .i64 (st : Int), .int .i64 seq, .int .i64 wall, .int .i64 count, .int .i64 d0, .int .i64 d1, .int .i64 d2, .int .i64 d3, .slice A ws.length c]) (by (try rw [heap_drew]); rw [heap_alloc, if_pos (by simp [heap_drew])])) HN1 (by decide) h63 hby (by simp; omega) _ rfl ?_
        intro g1 cap1 w8 hown1 hgrow hgl hlt1
        have hg := grown_alloc (grown_drew hgrow)
        have hlog := SiAt.logged (m := (⟨⟨(st : Int), seq, wall, count, d0, d1, d2, d3, ws⟩, A, c⟩ : MTx)) HS7.out hg (by rw [show ((s6.setc 5 LW).setc 6 LC).log = s6.log from rfl, HLG.out]; exact HROW.out _ _ _ hown1 rfl) (by
          rcases hgl with e | e
          · exact .inl (by rw [e]; rfl)
          · exact .inr (by intro b hb; simp [Value.ownBlock] at hb; subst hb; rw [e]; simp [heap_drew])) HM7.out
        have HP := hidp hlog
        have q1 : w8.cell? ⟨x, 7, none⟩ = some (.slice Al s.log.length cl) := by rw [World.cell?_of_block (hg.block x hx7 (fun e => HS7.out.dxl e.symm))]; exact k7
        have q2 : w8.frozen? ⟨x, 7, none⟩ = false := by rw [World.frozen?_of_block (hg.block x hx7 (fun e => HS7.out.dxl e.symm))]; exact z7
        clear hown1 hgrow hgl hlt1 hg hlog)
      all_goals
        go_wp2_with fail
        have happ : applyP s (⟨⟨(st : Int), seq, wall, count, d0, d1, d2, d3, ws⟩, A, c⟩ : MTx) = { (s6.setc 5 LW).setc 6 LC with log := s.log ++ [(⟨⟨(st : Int), seq, wall, count, d0, d1, d2, d3, ws⟩, A, c⟩ : MTx)] } := by
          unfold applyP
          simp only [Int.toNat_natCast]
          rw [HS6E.out, HLW.out, HLC.out]
        obtain ⟨hp1, hp2⟩ := HP.out
        rw [show ((s6.setc 5 LW).setc 6 LC).log = s.log from HLG.out] at hp1
        refine bodyPost_end (results_none rfl _ _ _) rfl ⟨rfl, _, sv1, ?_, (HFR0.out.trans HF7.out).trans hp2⟩
        rw [happ]
        exact hp1
end Go.Proofs.YtbopfhbeegkkaaaDoor

namespace Go.Proofs.YtbopfhbeegkkaaaDoor
open Go.RowKit

def SiP.at (s : SiP) (i : Int) : Int := atV s.p0 s.p1 s.p2 s.p3 i
def nextsL (s : SiP) (k : Nat) : List MTx := (List.range k).filterMap fun (i : Nat) => s.wt (i : Int) (s.at (i : Int) + 1)
theorem nextsL_succ (s : SiP) (k : Nat) : nextsL s (k + 1) = nextsL s k ++ (match s.wt (k : Int) (s.at (k : Int) + 1) with | some m => [m] | none => []) := by
  unfold nextsL
  rw [List.range_succ, List.filterMap_append]
  cases h : s.wt (k : Int) (s.at (k : Int) + 1) <;> simp [h]
/-- a row of transactions in memory -/
def XsAt (w : World) (A : Option Addr) (l : List MTx) : Prop := ∀ (i : Nat) (m : MTx), l[i]? = some m → ∃ b o, A = some ⟨b, o, none⟩ ∧ b < w.heap.size ∧ w.cell? ⟨b, o + i * 9, none⟩ = some (.int .i64 m.t.site) ∧ w.cell? ⟨b, o + i * 9 + 1, none⟩ = some (.int .i64 m.t.seq) ∧
  w.cell? ⟨b, o + i * 9 + 2, none⟩ = some (.int .i64 m.t.wall) ∧ w.cell? ⟨b, o + i * 9 + 3, none⟩ = some (.int .i64 m.t.count) ∧ w.cell? ⟨b, o + i * 9 + 4, none⟩ = some (.int .i64 m.t.d0) ∧ w.cell? ⟨b, o + i * 9 + 5, none⟩ = some (.int .i64 m.t.d1) ∧
  w.cell? ⟨b, o + i * 9 + 6, none⟩ = some (.int .i64 m.t.d2) ∧ w.cell? ⟨b, o + i * 9 + 7, none⟩ = some (.int .i64 m.t.d3) ∧ w.cell? ⟨b, o + i * 9 + 8, none⟩ = some (.slice m.A m.t.ws.length m.c)
theorem XsAt.below {w w' : World} {A : Option Addr} {l : List MTx} (h : XsAt w A l) (hb : Below w.heap.size w w') : XsAt w' A l := fun i m hm => by
  obtain ⟨b, o, hA, hlt, h0, h1, h2, h3, h4, h5, h6, h7, h8⟩ := h i m hm
  have e : ∀ k, w'.cell? ⟨b, k, none⟩ = w.cell? ⟨b, k, none⟩ := fun k => hb.cell (p := ⟨b, k, none⟩) hlt
  exact ⟨b, o, hA, Nat.lt_of_lt_of_le hlt hb.size, by rw [e]; exact h0, by rw [e]; exact h1, by rw [e]; exact h2, by rw [e]; exact h3, by rw [e]; exact h4, by rw [e]; exact h5, by rw [e]; exact h6, by rw [e]; exact h7, by rw [e]; exact h8⟩
theorem mcells_at : ∀ (l : List MTx) (i : Nat) (m : MTx), l[i]? = some m → ∀ r u, m.cells[r]? = some u → (l.flatMap MTx.cells)[i * 9 + r]? = some u
  | [], i, m, h, _, _, _ => by simp at h
  | y :: l, 0, m, h, r, u, hu => by
    simp at h; subst h
    have hr : r < 9 := by have := (List.getElem?_eq_some_iff.1 hu).1; simpa [MTx.cells] using this
    rw [List.flatMap_cons, List.getElem?_append_left (by simp [MTx.cells]; omega)]
    simpa using hu
  | y :: l, i + 1, m, h, r, u, hu => by
    have := mcells_at l i m (by simpa using h) r u hu
    rw [List.flatMap_cons, List.getElem?_append_right (by simp [MTx.cells]; omega), ← this]
    congr 1
    simp [MTx.cells]; omega
theorem own_xs {w : World} {B c : Nat} {A : Option Addr} {l : List MTx} (h : w.ownsRow B 40 9 (.slice A l.length c) l.length (l.flatMap MTx.cells)) : XsAt w A l := by
  intro i m hm
  obtain ⟨hl, hn | ⟨g, cap, cur, hv, hb, hg, rest⟩⟩ := id h
  · have : l = [] := List.eq_nil_of_length_eq_zero hn.2
    subst this; simp at hm
  · simp only [Value.slice.injEq] at hv
    obtain ⟨rfl, _, rfl⟩ := hv
    have hc := h.cells (g := g) rfl
    have e : ∀ j : Nat, (⟨g, 0, none⟩ : Addr).add j = ⟨g, 0 + j, none⟩ := fun j => by unfold Addr.add; split <;> simp_all
    have k : ∀ r u, m.cells[r]? = some u → w.cell? ⟨g, 0 + (i * 9 + r), none⟩ = some u := fun r u hu => by
      have := hc _ _ (mcells_at l i m hm r u hu)
      rw [e] at this; exact this
    have q : ∀ r, 0 + (i * 9 + r) = 0 + i * 9 + r := fun r => by omega
    exact ⟨g, 0, rfl, (Array.getElem?_eq_some_iff.1 hg).1, by have := k 0 _ rfl; rw [q] at this; exact this, by have := k 1 _ rfl; rw [q] at this; exact this, by have := k 2 _ rfl; rw [q] at this; exact this, by have := k 3 _ rfl; rw [q] at this; exact this, by have := k 4 _ rfl; rw [q] at this; exact this,
      by have := k 5 _ rfl; rw [q] at this; exact this, by have := k 6 _ rfl; rw [q] at this; exact this, by have := k 7 _ rfl; rw [q] at this; exact this, by have := k 8 _ rfl; rw [q] at this; exact this⟩
/-- a vector that may be -/
def okAp (s : SiP) : Prop := (0 ≤ s.p0 ∧ s.p0 ≤ 1099511627776) ∧ (0 ≤ s.p1 ∧ s.p1 ≤ 1099511627776) ∧ (0 ≤ s.p2 ∧ s.p2 ≤ 1099511627776) ∧ (0 ≤ s.p3 ∧ s.p3 ≤ 1099511627776)
theorem okAp.at {s : SiP} (h : okAp s) (i : Int) : 0 ≤ s.at i ∧ s.at i ≤ 1099511627776 := by
  unfold okAp at h
  unfold SiP.at atV
  repeat' split
  all_goals omega
theorem SiAt.apc {w : World} {B x mb : Nat} {s : SiP} {lv : Value} {sv : Nat → Value} (h : SiAt w B x s mb lv sv) {k : Nat} (hk : k < 4) : w.cell? ⟨x, 1 + k, none⟩ = some (.int .i64 (s.at (k : Int))) := by
  obtain ⟨v1, v2, v3, v4⟩ := h.vec
  have hc : k = 0 ∨ k = 1 ∨ k = 2 ∨ k = 3 := by omega
  rcases hc with rfl | rfl | rfl | rfl
  · exact v1
  · exact v2
  · exact v3
  · exact v4

set_option maxRecDepth 20000 in
set_option maxHeartbeats 16000000 in
theorem nexts_any (B x mb : Nat) (s : SiP) (lv : Value) (sv : Nat → Value) (w : World) (h : SiAt w B x s mb lv sv) (hp : okAp s) :
    Calls Tryd.prog 80 #[.pointer (some ⟨x, 0, none⟩)] w fun e w' => ∃ A' c', e = .returned (.slice A' (nextsL s 4).length c') ∧ XsAt w' A' (nextsL s 4) ∧ Below w.heap.size w w' := by
  have HS := hidp h
  have HP := hidp hp
  clear h hp
  obtain ⟨i0, hi0, hz0, hz1, hz2⟩ := info40
  go_enter Tryd.func80, Tryd.ntmps80
  go_wp2_with fail
  go_loopw [3, 7] (fun o i W => ∃ (k : Nat) (outs : List MTx) (Ao : Option Addr) (co : Nat), k ≤ 4 ∧ i = .int .i64 k ∧ o = .slice Ao outs.length co ∧ outs = nextsL s k ∧ outs.length ≤ k ∧
    W.ownsRow w.heap.size 40 9 (.slice Ao outs.length co) outs.length (outs.flatMap MTx.cells) ∧ Below w.heap.size w W) (fun _ i _ => 4 - (intOf i).toNat)
  case atStart => exact ⟨0, [], none, 0, by omega, rfl, rfl, rfl, by simp, ⟨rfl, .inl ⟨rfl, rfl⟩⟩, Below.refl _ _⟩
  case round =>
    obtain ⟨k, outs, Ao, co, hk, rfl, rfl, hout, hol, hown, hbl⟩ := hrel
    obtain ⟨W, rfl⟩ : ∃ W : World, W = wr := ⟨_, rfl⟩
    have HOUT := hidp hout
    have HOW := hidp hown
    have HBW := hidp hbl
    clear hown hbl hout
    by_cases hlt : k < 4
    · have hkd : decide ((k : Int) < 4) = true := decide_eq_true (by omega)
      have HSW := hidp (HS.out.below HBW.out)
      have c8 := HSW.out.c8
      have ca := HSW.out.apc hlt
      have hap := HP.out.at (k : Int)
      haveI : SzGe (x + 1) W := ⟨HSW.out.sto.lt⟩
      haveI : SzGe (mb + 1) W := ⟨HSW.out.map.lt⟩
      have HTS := hidp (nextsL_succ s k)
      obtain ⟨ap, hape⟩ : ∃ ap, s.at (k : Int) = ap := ⟨_, rfl⟩
      rw [hape] at ca hap HTS
      obtain ⟨hap0, hap1⟩ := hap
      have hk0 : (0 : Int) ≤ (k : Int) := by omega
      have hk4 : (k : Int) < 4 := by omega
      have hwr : IntKind.i64.wrap (ap + 1) = ap + 1 := by rw [IntKind.wrap_i64]; omega
      have hwk : wf64 (k : Int) := by unfold wf64; omega
      have hwa : wf64 (ap + 1) := by unfold wf64; omega
      have hL : ∀ X : World, X.heap[mb]? = W.heap[mb]? → (Instr.lookup 146 (.map (some mb)) (.agg #[.int .i64 (k : Int), .int .i64 (ap + 1)]) true).run Tryd.prog X = .ok (.tuple #[((s.wt (k : Int) (ap + 1)).map MTx.val).getD txZero, .bool ((s.wt (k : Int) (ap + 1)).map MTx.val).isSome]) X := fun X hX => (HSW.out.map.block hX).look hwk hwa
      have hl1 := hL W.drew rfl
      have hl2 := hL (W.alloc (.cells #[.int .i64 0, .int .i64 0, .int .i64 0, .int .i64 0, .int .i64 0, .int .i64 0, .int .i64 0, .int .i64 0, .slice none 0 0] 40)).drew (Below.heap_alloc W _ mb HSW.out.map.lt)
      have hl3 := hL (W.drew.alloc (.cells #[.int .i64 0, .int .i64 0, .int .i64 0, .int .i64 0, .int .i64 0, .int .i64 0, .int .i64 0, .int .i64 0, .slice none 0 0] 40)) (Below.heap_alloc W.drew _ mb HSW.out.map.lt)
      clear hL hape
      cases hwt : s.wt (k : Int) (ap + 1) with
      | none =>
        rw [hwt] at hl1 hl2 hl3 HTS
        simp only [Option.map_none, Option.getD_none, Option.isSome_none, txZero] at hl1 hl2 hl3
        have HT1 : Hid (nextsL s (k + 1) = outs) := hidp (by rw [HTS.out, ← HOUT.out]; simp)
        clear HTS hwt
        go_wp2_with fail
        go_region_held3 (fun X : World => X.cell? ⟨x, 8, none⟩ = some (.map (some mb)) ∧ X.cell? ⟨x, 1 + k, none⟩ = some (.int .i64 ap)) ((repeat' apply And.intro) <;> simp [go_sem, *]) (fail)
        all_goals
          have HCUR : Below W.heap.size W ((W.alloc (.cells #[.int .i64 0, .int .i64 0, .int .i64 0, .int .i64 0, .int .i64 0, .int .i64 0, .int .i64 0, .int .i64 0, .slice none 0 0] 40)).drew) := (by repeat (first | exact Below.refl _ _ | refine blw_alloc ?_ | refine blw_plus ?_ | refine Below.drew ?_))
          go_wp2_with fail
          exact ⟨⟨k + 1, outs, Ao, co, by omega, by go_num, rfl, HT1.out.symm, by omega, own_below HOW.out HCUR (fun j e => (own_ge HOW.out e).2), HBW.out.trans (HCUR.mono HBW.out.size)⟩, by simp [intOf]; omega⟩
      | some m =>
        rw [hwt] at hl1 hl2 hl3 HTS
        obtain ⟨⟨msite, mseq, mwall, mcount, md0, md1, md2, md3, mws⟩, mA, mc⟩ := m
        simp only [Option.map_some, Option.getD_some, Option.isSome_some, MTx.val] at hl1 hl2 hl3
        have HT1 : Hid (nextsL s (k + 1) = outs ++ [(⟨⟨msite, mseq, mwall, mcount, md0, md1, md2, md3, mws⟩, mA, mc⟩ : MTx)]) := hidp (by rw [HTS.out, ← HOUT.out])
        clear HTS hwt
        go_wp2_with fail
        go_region_held3 (fun X : World => X.cell? ⟨x, 8, none⟩ = some (.map (some mb)) ∧ X.cell? ⟨x, 1 + k, none⟩ = some (.int .i64 ap)) ((repeat' apply And.intro) <;> simp [go_sem, *]) (fail)
        all_goals
          have HCUR : Hid (Below W.heap.size W ((W.alloc (.cells #[.int .i64 msite, .int .i64 mseq, .int .i64 mwall, .int .i64 mcount, .int .i64 md0, .int .i64 md1, .int .i64 md2, .int .i64 md3, .slice mA mws.length mc] 40)).drew)) := hidp (by repeat (first | exact Below.refl _ _ | refine blw_alloc ?_ | refine blw_plus ?_ | refine Below.drew ?_))
          have HOC := hidp (own_below HOW.out HCUR.out (fun j e => (own_ge HOW.out e).2))
          have HBC := hidp (HBW.out.trans (HCUR.out.mono HBW.out.size))
          have HXC := hidp (show ((W.alloc (.cells #[.int .i64 msite, .int .i64 mseq, .int .i64 mwall, .int .i64 mcount, .int .i64 md0, .int .i64 md1, .int .i64 md2, .int .i64 md3, .slice mA mws.length mc] 40)).drew).heap[W.heap.size]? = some (.cells #[.int .i64 msite, .int .i64 mseq, .int .i64 mwall, .int .i64 mcount, .int .i64 md0, .int .i64 md1, .int .i64 md2, .int .i64 md3, .slice mA mws.length mc] 40) from blk_new rfl _)
          clear hl1 hl2 hl3 ca c8
          generalize (W.alloc (.cells #[.int .i64 msite, .int .i64 mseq, .int .i64 mwall, .int .i64 mcount, .int .i64 md0, .int .i64 md1, .int .i64 md2, .int .i64 md3, .slice mA mws.length mc] 40)).drew = WC at *
          have g0 := cell_blk HXC.out 0; have g1 := cell_blk HXC.out 1; have g2 := cell_blk HXC.out 2; have g3 := cell_blk HXC.out 3; have g4 := cell_blk HXC.out 4; have g5 := cell_blk HXC.out 5; have g6 := cell_blk HXC.out 6; have g7 := cell_blk HXC.out 7; have g8 := cell_blk HXC.out 8
          simp only [List.getElem?_toArray, List.getElem?_cons_zero, List.getElem?_cons_succ] at g0 g1 g2 g3 g4 g5 g6 g7 g8
          have hsC := HBC.out.size
          go_wp2_with (at_builtin; go_must (refine wpList_append_lies _ rfl _ _ 98 rfl w.heap.size 40 i0 txZero 9 88 Tryd.underlying98 hi0 hz0 hz1 hz2 rfl (by decide) (.slice Ao outs.length co) outs.length (outs.flatMap MTx.cells) rfl (HOC.out.alloc _) ⟨WC.heap.size, 0, none⟩ 1 1 [.int .i64 msite, .int .i64 mseq, .int .i64 mwall, .int .i64 mcount, .int .i64 md0, .int .i64 md1, .int .i64 md2, .int .i64 md3, .slice mA mws.length mc] rfl rfl (World.news_of_block (cs := #[.int .i64 msite, .int .i64 mseq, .int .i64 mwall, .int .i64 mcount, .int .i64 md0, .int .i64 md1, .int .i64 md2, .int .i64 md3, .slice mA mws.length mc]) (blk_new rfl _)) ?c1 (by decide) ?c2 ?c3 ?c4 _ rfl ?_))
          case c1 => first | exact ⟨rfl, rfl, rfl, rfl, rfl, rfl, rfl, rfl, rfl⟩ | (intro u hu; simp at hu; rcases hu with rfl | rfl | rfl | rfl | rfl | rfl | rfl | rfl | rfl <;> rfl)
          case c2 => refine Nat.le_trans ?_ maxLen_ge; omega
          case c3 => omega
          case c4 => first | omega | (simp; omega)
          intro gq cap1 w1 hown1 hgrow hgl hlt1
          have HN1 : Hid (w1.ownsRow w.heap.size 40 9 (.slice (some ⟨gq, 0, none⟩) (outs ++ [(⟨⟨msite, mseq, mwall, mcount, md0, md1, md2, md3, mws⟩, mA, mc⟩ : MTx)]).length cap1) (outs ++ [(⟨⟨msite, mseq, mwall, mcount, md0, md1, md2, md3, mws⟩, mA, mc⟩ : MTx)]).length ((outs ++ [(⟨⟨msite, mseq, mwall, mcount, md0, md1, md2, md3, mws⟩, mA, mc⟩ : MTx)]).flatMap MTx.cells)) := hidp (by
            have e : (outs ++ [(⟨⟨msite, mseq, mwall, mcount, md0, md1, md2, md3, mws⟩, mA, mc⟩ : MTx)]).length = outs.length + 1 := by simp
            rw [e, List.flatMap_append]; exact hown1)
          have HB1 : Hid (Below w.heap.size w w1) := hidp (Below.grown HBC.out (grown_alloc hgrow) HBC.out.size (fun j e => (own_ge HOW.out e).1))
          clear hown1 hgrow hgl hlt1
          go_wp2_with fail
          go_roundw
          case rel => exact ⟨k + 1, outs ++ [(⟨⟨msite, mseq, mwall, mcount, md0, md1, md2, md3, mws⟩, mA, mc⟩ : MTx)], some ⟨gq, 0, none⟩, cap1, by omega, by go_num, by simp, HT1.out.symm, by simp; omega, HN1.out, HB1.out⟩
          case measure => simp [intOf]; omega
    · obtain rfl : k = 4 := by omega
      have hkd : decide ((4 : Int) < 4) = false := by decide
      have HR : Hid (XsAt W Ao (nextsL s 4)) := hidp (by rw [← HOUT.out]; exact own_xs HOW.out)
      go_wp2_with fail
      go_ret
      exact ⟨Ao, co, by rw [← HOUT.out]; rfl, HR.out, HBW.out⟩
end Go.Proofs.YtbopfhbeegkkaaaDoor

namespace Go.Proofs.YtbopfhbeegkkaaaDoor
open Go.RowKit

def covM (s : SiP) (m : MTx) : Bool := covD s.p0 s.p1 s.p2 s.p3 m.t.d0 m.t.d1 m.t.d2 m.t.d3
def idxGo (p : MTx → Bool) : List MTx → Nat → Int
  | [], _ => -1
  | m :: l, i => if p m = true then (i : Int) else idxGo p l (i + 1)

set_option maxRecDepth 20000 in
set_option maxHeartbeats 4000000 in
theorem covers1_any (B x mb pb : Nat) (s : SiP) (lv : Value) (sv : Nat → Value) (m : MTx) (w : World) (h : SiAt w B x s mb lv sv) (hp : w.cell? ⟨pb, 0, none⟩ = some (.pointer (some ⟨x, 0, none⟩))) (hpl : pb < w.heap.size) :
    Calls Tryd.prog 81 #[MTx.val m, .pointer (some ⟨pb, 0, none⟩)] w fun e w' => e = .returned (.bool (covM s m)) ∧ Below w.heap.size w w' := by
  obtain ⟨c1, c2, c3, c4⟩ := h.vec
  haveI : SzGe (x + 1) w := ⟨h.sto.lt⟩
  haveI : SzGe (pb + 1) w := ⟨hpl⟩
  have HC := hidp fun W => covers_any s.p0 s.p1 s.p2 s.p3 m.t.d0 m.t.d1 m.t.d2 m.t.d3 W
  have HE := hidp (show covM s m = covD s.p0 s.p1 s.p2 s.p3 m.t.d0 m.t.d1 m.t.d2 m.t.d3 from rfl)
  generalize covD s.p0 s.p1 s.p2 s.p3 m.t.d0 m.t.d1 m.t.d2 m.t.d3 = R at *
  unfold MTx.val
  clear h
  go_enter Tryd.func81, Tryd.ntmps81
  go_wp2_with fail
  refine wp_region_plus_tail 6 (by kernel_rfl) (by kernel_rfl) ?_
  simp only [List.take_succ_cons, List.take_zero, List.drop_succ_cons, List.drop_zero]
  repeat (first | go_big_quiet_skip | (go_big_quiet_want; go_big_quiet_op; go_big_quiet_on))
  refine wpQuiet_nil ?_
  rintro _ ⟨x3, rfl⟩
  go_wp2_with fail
  go_at_call 50
  refine (HC.out _).mono ?_
  rintro e w' ⟨rfl, hb⟩
  obtain ⟨x4, rfl⟩ := wplus_of_below hb
  clear hb
  go_wp2_with fail
  go_ret
  exact ⟨by rw [HE.out]; rfl, (by repeat (first | exact Below.refl _ _ | refine blw_alloc ?_ | refine blw_plus ?_ | refine Below.drew ?_))⟩

set_option maxRecDepth 20000 in
set_option maxHeartbeats 4000000 in
theorem index_any (B x mb pb : Nat) (s : SiP) (lv : Value) (sv : Nat → Value) (A : Option Addr) (c : Nat) (l : List MTx) (w : World) (h : SiAt w B x s mb lv sv) (hp : w.cell? ⟨pb, 0, none⟩ = some (.pointer (some ⟨x, 0, none⟩))) (hpl : pb < w.heap.size) (hl : XsAt w A l) (hn : l.length ≤ 1000) :
    Calls Tryd.prog 79 #[.slice A l.length c, .func (.func 81) #[] #[.pointer (some ⟨pb, 0, none⟩)]] w fun e w' => e = .returned (.int .i64 (idxGo (covM s) l 0)) ∧ Below w.heap.size w w' := by
  have HX := hidp hl
  have HC := hidp fun (m : MTx) W (hb : Below w.heap.size w W) => covers1_any B x mb pb s lv sv m W (h.below hb) ((hb.cell (p := ⟨pb, 0, none⟩) hpl).trans hp) (Nat.lt_of_lt_of_le hpl hb.size)
  clear h hp hl
  go_enter Tryd.func79, Tryd.ntmps79
  go_wp2_with fail
  go_loopw [8] (fun i wr => ∃ j : Nat, j ≤ l.length ∧ i = .int .i64 j ∧ idxGo (covM s) (l.drop j) j = idxGo (covM s) l 0 ∧ Below w.heap.size w wr) (fun i _ => l.length - (intOf i).toNat)
  case atStart => exact ⟨0, Nat.zero_le _, rfl, by rw [List.drop_zero], Below.refl _ _⟩
  case round =>
    obtain ⟨j, hj, rfl, hgo, hbl⟩ := hrel
    obtain ⟨x0, rfl⟩ := wplus_of_below hbl
    clear hbl
    by_cases hjl : j < l.length
    · obtain ⟨b, o, rfl, hb, d0, d1, d2, d3, d4, d5, d6, d7, d8⟩ := HX.out j l[j] (List.getElem?_eq_getElem hjl)
      have hdrop : l.drop j = l[j] :: l.drop (j + 1) := List.drop_eq_getElem_cons hjl
      rw [hdrop] at hgo
      have hgo2 : (if covM s l[j] = true then (j : Int) else idxGo (covM s) (l.drop (j + 1)) (j + 1)) = idxGo (covM s) l 0 := by rw [← hgo]; rfl
      have HG := hidp hgo2
      have HCJ := hidp fun W hb => HC.out l[j] W hb
      clear hgo hgo2 hdrop
      generalize hcv : covM s l[j] = R at *
      generalize l[j] = m at *
      obtain ⟨⟨msite, mseq, mwall, mcount, md0, md1, md2, md3, mws⟩, mA, mc⟩ := m
      simp only at d0 d1 d2 d3 d4 d5 d6 d7 d8
      unfold MTx.val at HCJ
      haveI : SzGe (b + 1) w := ⟨hb⟩
      clear hcv
      go_wp2_with fail
      go_at_call 81
      refine (HCJ.out _ (below_wplus _ _)).mono ?_
      rintro e w' ⟨rfl, hb2⟩
      obtain ⟨x4, rfl⟩ := wplus_of_below hb2
      clear hb2
      cases R
      · go_wp2_with fail
        go_roundw
        case rel => exact ⟨j + 1, by omega, by go_num, by rw [← HG.out]; rfl, (by repeat (first | exact Below.refl _ _ | refine blw_alloc ?_ | refine blw_plus ?_ | refine Below.drew ?_))⟩
        case measure => simp [intOf]; omega
      · go_wp2_with fail
        go_ret
        exact ⟨by rw [← HG.out]; rfl, (by repeat (first | exact Below.refl _ _ | refine blw_alloc ?_ | refine blw_plus ?_ | refine Below.drew ?_))⟩
    · obtain rfl : j = l.length := by omega
      rw [List.drop_length] at hgo
      have HG := hidp hgo
      clear hgo hj hjl
      go_wp2_with fail
      go_ret
      exact ⟨by rw [← HG.out]; rfl, (by repeat (first | exact Below.refl _ _ | refine blw_alloc ?_ | refine blw_plus ?_ | refine Below.drew ?_))⟩
end Go.Proofs.YtbopfhbeegkkaaaDoor

namespace Go.Proofs.YtbopfhbeegkkaaaDoor
open Go.RowKit

def wset (f : Int → Int → Option MTx) (a b : Int) (v : Option MTx) : Int → Int → Option MTx := fun a' b' => if a' = a ∧ b' = b then v else f a' b'
theorem wset_val (f : Int → Int → Option MTx) (a b : Int) (v : Option MTx) : (fun a' b' => (wset f a b v a' b').map MTx.val) = mput (fun a' b' => (f a' b').map MTx.val) a b (v.map MTx.val) := by
  funext a' b'
  unfold wset mput
  split <;> rfl
def SiP.wait (s : SiP) (m : MTx) : SiP := { s with wt := wset s.wt m.t.site m.t.seq (some m), wn := if (s.wt m.t.site m.t.seq).isSome then s.wn else s.wn + 1 }
def SiP.unwait (s : SiP) (m : MTx) : SiP := { s with wt := wset s.wt m.t.site m.t.seq none, wn := if (s.wt m.t.site m.t.seq).isSome then s.wn - 1 else s.wn }
def nextOf (s : SiP) : Option MTx := (nextsL s 4).find? (covM s)
def runP : Nat → SiP → SiP
  | 0, s => s
  | f + 1, s => match nextOf s with
    | none => s
    | some m => if 200 ≤ s.log.length then s else runP f (applyP (s.unwait m) m)
/-- what Take tells: the errors' numbers; 0: it is taken -/
def takeE (s : SiP) (t : TxP) : Int :=
  if rightTx t = false ∨ t.site = s.id then 1 else if t.seq ≤ s.at t.site ∨ (s.wt t.site t.seq).isSome = true then 9
  else if 200 ≤ s.log.length ∨ (40 ≤ s.wn ∧ (t.seq ≠ s.at t.site + 1 ∨ covD s.p0 s.p1 s.p2 s.p3 t.d0 t.d1 t.d2 t.d3 = false)) then 12 else 0
/-- what holds of a site at any time -/
structure Inv (s : SiP) : Prop where
  ap : okAp s
  id : 0 ≤ s.id ∧ s.id < 4
  wt : ∀ a b m, s.wt a b = some m → m.t.site = a ∧ m.t.seq = b ∧ rightTx m.t = true
  fit : Fit s.st (5 * s.log.length)
  dat : DatOk s.st
  log : s.log.length ≤ 200
theorem rightTx_parts {t : TxP} (h : rightTx t = true) : (0 ≤ t.site ∧ t.site < 4) ∧ (1 ≤ t.seq ∧ t.seq ≤ 1099511627776) ∧ 1 ≤ t.ws.length ∧ t.ws.length ≤ 5 := by
  unfold rightTx headTx rightWs at h
  simp only [Bool.and_eq_true, decide_eq_true_eq] at h
  exact ⟨h.1.1.1.1.1.1, h.1.1.1.1.1.2, h.2.1.2, h.2.2⟩
theorem idx_find (p : MTx → Bool) : ∀ (l : List MTx) (i : Nat), (l.find? p = none ∧ idxGo p l i = -1) ∨ ∃ j m, l.find? p = some m ∧ l[j]? = some m ∧ idxGo p l i = ((i + j : Nat) : Int)
  | [], i => .inl ⟨rfl, rfl⟩
  | m :: l, i => by
    unfold idxGo
    by_cases h : p m = true
    · rw [if_pos h]
      exact .inr ⟨0, m, by simp [h], rfl, by simp⟩
    · rw [if_neg h]
      have h' : p m = false := by simpa using h
      rcases idx_find p l (i + 1) with ⟨h1, h2⟩ | ⟨j, m', h1, h2, h3⟩
      · exact .inl ⟨by simp [h', h1], h2⟩
      · exact .inr ⟨j + 1, m', by simp [h', h1], by simpa using h2, by rw [h3]; congr 1; omega⟩
theorem nextsL_mem {s : SiP} {k : Nat} {m : MTx} (h : m ∈ nextsL s k) : ∃ i : Nat, i < k ∧ s.wt (i : Int) (s.at (i : Int) + 1) = some m := by
  unfold nextsL at h
  obtain ⟨i, hi, he⟩ := List.mem_filterMap.1 h
  exact ⟨i, List.mem_range.1 hi, he⟩
theorem nextsL_len (s : SiP) (k : Nat) : (nextsL s k).length ≤ k := by
  unfold nextsL
  exact Nat.le_trans (List.length_filterMap_le _ _) (by simp)
theorem nextOf_some {s : SiP} {m : MTx} (h : nextOf s = some m) : ∃ i : Nat, i < 4 ∧ s.wt (i : Int) (s.at (i : Int) + 1) = some m ∧ covM s m = true := by
  unfold nextOf at h
  obtain ⟨i, hi, he⟩ := nextsL_mem (List.mem_of_find?_eq_some h)
  exact ⟨i, hi, he, List.find?_some h⟩
theorem Inv.has {s : SiP} (h : Inv s) {m : MTx} (hn : nextOf s = some m) : rightTx m.t = true ∧ s.wt m.t.site m.t.seq = some m ∧ m.t.seq = s.at m.t.site + 1 := by
  obtain ⟨i, hi, he, _⟩ := nextOf_some hn
  obtain ⟨h1, h2, h3⟩ := h.wt _ _ _ he
  exact ⟨h3, by rw [h1, h2]; exact he, by rw [h2, h1]⟩
theorem putP_dat {S : Nat → List VerP} {p : PtP} (h : DatOk S) : DatOk (putP S p) := by
  intro k hk v hv
  unfold putP putR at hv
  split at hv
  · exact h k hk v hv
  · split at hv
    · exact h k hk v hv
    · rename_i hr
      split at hv
      · exact h k hk v hv
      · simp only at hv
        split at hv
        · rcases (insV_mem _ _ _).1 hv with rfl | hv
          · have hr : rightV p.v = true := by simpa using hr
            unfold rightV at hr
            simp only [Bool.and_eq_true, decide_eq_true_eq] at hr
            exact hr.1.2
          · exact h k hk v hv
        · exact h k hk v hv
theorem stPut_dat {st : Nat → List VerP} (h : DatOk st) (t : TxP) : ∀ j, DatOk (stPut st t j)
  | 0 => h
  | j + 1 => putP_dat (stPut_dat h t j)
theorem setc_at {s : SiP} {i : Nat} (hi : i < 4) (z : Int) (k : Int) : (s.setc (1 + i) z).at k = if k = (i : Int) ∨ (i = 3 ∧ ¬ (k = 0 ∨ k = 1 ∨ k = 2)) then z else s.at k := by
  have hc : i = 0 ∨ i = 1 ∨ i = 2 ∨ i = 3 := by omega
  rcases hc with rfl | rfl | rfl | rfl <;> simp only [SiP.at, SiP.setc, atV] <;> (repeat' split) <;> first | rfl | omega | (simp_all; done) | (simp_all; omega)
end Go.Proofs.YtbopfhbeegkkaaaDoor

namespace Go.Proofs.YtbopfhbeegkkaaaDoor
open Go.RowKit

theorem SiAt.waitsTo {w w' : World} {B x mb n : Nat} {s : SiP} {lv : Value} {sv : Nat → Value} {f : Int → Int → Option MTx} (h : SiAt w B x s mb lv sv) (hg : w.grownBy w' (some mb)) (hm : MpAt w' mb (fun a b => (f a b).map MTx.val) n)
    (hd : ∀ m, (∃ a b, f a b = some m) → WsAt w m.A m.t.ws ∧ ∀ b o, m.A = some ⟨b, o, none⟩ → b < w.heap.size ∧ ¬ SiOwn x mb lv sv b) :
    SiAt w' B x { s with wt := f, wn := n } mb lv sv ∧ SiFr w w' (SiOwn x mb lv sv) (SiOwn x mb lv sv) := by
  have hb : ∀ b, b < w.heap.size → b ≠ mb → w'.heap[b]? = w.heap[b]? := fun b hb hne => hg.block b hb (by simp; exact hne)
  have hx := hb x h.sto.lt (fun e => h.dxm e.symm)
  have hc : ∀ k, w'.cell? ⟨x, k, none⟩ = w.cell? ⟨x, k, none⟩ := fun k => World.cell?_of_block hx
  have hf : ∀ k, w'.frozen? ⟨x, k, none⟩ = w.frozen? ⟨x, k, none⟩ := fun k => World.frozen?_of_block hx
  have hrow : ∀ {e n z : Nat} {v : Value} {xs : List Value}, w.ownsRow B e z v n xs → v.ownBlock ≠ some mb → w'.ownsRow B e z v n xs := fun h1 h2 => h1.kept hg (by
    rename_i v xs
    cases hv : v.ownBlock with
    | none => exact .inl rfl
    | some b => exact .inr (fun e => h2 (hv.trans e)))
  have hdata : ∀ m : MTx, (WsAt w m.A m.t.ws ∧ ∀ b o, m.A = some ⟨b, o, none⟩ → b < w.heap.size ∧ ¬ SiOwn x mb lv sv b) → WsAt w' m.A m.t.ws ∧ ∀ b o, m.A = some ⟨b, o, none⟩ → b < w'.heap.size ∧ ¬ SiOwn x mb lv sv b := fun m hm' =>
    ⟨hm'.1.keep fun b o e => hb b (hm'.2 b o e).1 (fun e2 => (hm'.2 b o e).2 (.inr (.inl e2))), fun b o e => ⟨Nat.lt_of_lt_of_le (hm'.2 b o e).1 hg.size, (hm'.2 b o e).2⟩⟩
  refine ⟨⟨(hc 0).trans h.c0, (hc 1).trans h.c1, (hc 2).trans h.c2, (hc 3).trans h.c3, (hc 4).trans h.c4, (hc 5).trans h.c5, (hc 6).trans h.c6, (hc 7).trans h.c7, (hc 8).trans h.c8, fun k hk => (hc _).trans (h.oth k hk), fun k => (hf k).trans (h.frz k), ?_, hrow h.row h.dml, hm, h.bx, h.bm, h.dxm, h.dxl, h.dml, h.dms, h.dls, ?_⟩,
    ⟨hg.os, hg.tape, hg.output, hg.size, fun k hk hn => hb k hk (fun e => hn (.inr (.inl e))), fun _ h => .inl h⟩⟩
  · exact ⟨Nat.lt_of_lt_of_le h.sto.lt hg.size, fun k hk => (hc _).trans (h.sto.cel k hk), fun k hk => (hf _).trans (h.sto.frz k hk), fun k hk => hrow (h.sto.own k hk) (h.dms k hk), h.sto.ng, h.sto.dis⟩
  · intro m hm'
    rcases hm' with hm' | hm'
    · exact hdata m (h.dat m (.inl hm'))
    · exact hdata m (hd m hm')
theorem SiAt.wait {w w' : World} {B x mb n : Nat} {s : SiP} {lv : Value} {sv : Nat → Value} {m : MTx} (h : SiAt w B x s mb lv sv) (hg : w.grownBy w' (some mb)) (hm : MpAt w' mb (mput (fun a b => (s.wt a b).map MTx.val) m.t.site m.t.seq (some m.val)) n)
    (hn : n = (s.wait m).wn) (hd : WsAt w m.A m.t.ws ∧ ∀ b o, m.A = some ⟨b, o, none⟩ → b < w.heap.size ∧ ¬ SiOwn x mb lv sv b) : SiAt w' B x (s.wait m) mb lv sv ∧ SiFr w w' (SiOwn x mb lv sv) (SiOwn x mb lv sv) := by
  subst hn
  refine h.waitsTo hg (by have := wset_val s.wt m.t.site m.t.seq (some m); rw [this]; exact hm) ?_
  rintro m' ⟨a, b, e⟩
  unfold wset at e
  split at e
  · cases e; exact hd
  · exact h.dat m' (.inr ⟨a, b, e⟩)
theorem SiAt.unwait {w w' : World} {B x mb n : Nat} {s : SiP} {lv : Value} {sv : Nat → Value} {m : MTx} (h : SiAt w B x s mb lv sv) (hg : w.grownBy w' (some mb)) (hm : MpAt w' mb (mput (fun a b => (s.wt a b).map MTx.val) m.t.site m.t.seq none) n)
    (hn : n = (s.unwait m).wn) : SiAt w' B x (s.unwait m) mb lv sv ∧ SiFr w w' (SiOwn x mb lv sv) (SiOwn x mb lv sv) := by
  subst hn
  refine h.waitsTo hg (by have := wset_val s.wt m.t.site m.t.seq none; rw [this]; exact hm) ?_
  rintro m' ⟨a, b, e⟩
  unfold wset at e
  split at e
  · cases e
  · exact h.dat m' (.inr ⟨a, b, e⟩)
def mSize (w : World) (mb : Nat) : Nat := match w.heap[mb]? with | some (.map es _) => es.size | _ => 0
theorem MpAt.msize {w : World} {m sz : Nat} {f : Int → Int → Option Value} (h : MpAt w m f sz) : mSize w m = sz := by
  obtain ⟨D, ⟨es, clock, hb, F, hs, hD⟩, h2, h3⟩ := h
  unfold mSize
  rw [hb, ← h2, hD]
  simp [Maps.size, length_sorted]
theorem applyP_wt (s : SiP) (m : MTx) : (applyP s m).wt = s.wt := rfl
theorem applyP_wn (s : SiP) (m : MTx) : (applyP s m).wn = s.wn := rfl
theorem applyP_id (s : SiP) (m : MTx) : (applyP s m).id = s.id := rfl
theorem applyP_log (s : SiP) (m : MTx) : (applyP s m).log = s.log ++ [m] := rfl
theorem applyP_st (s : SiP) (m : MTx) : (applyP s m).st = stPut s.st m.t m.t.ws.length := rfl
theorem Inv.wait {s : SiP} (h : Inv s) {m : MTx} (hr : rightTx m.t = true) : Inv (s.wait m) :=
  ⟨h.ap, h.id, fun a b m' e => by
    unfold SiP.wait wset at e
    simp only at e
    split at e
    · rename_i hab
      cases e
      exact ⟨hab.1.symm, hab.2.symm, hr⟩
    · exact h.wt a b m' e, h.fit, h.dat, h.log⟩
theorem okAp_apply {s : SiP} {m : MTx} (h : okAp s) (hq : 0 ≤ m.t.seq ∧ m.t.seq ≤ 1099511627776) : okAp (applyP s m) := by
  unfold okAp at *
  unfold applyP SiP.setc
  simp only
  repeat' split
  all_goals omega
theorem Inv.apply {s : SiP} (h : Inv s) {m : MTx} (hr : rightTx m.t = true) (hl : ¬ 200 ≤ s.log.length) : Inv (applyP (s.unwait m) m) := by
  obtain ⟨r1, r2, r3, r4⟩ := rightTx_parts hr
  refine ⟨okAp_apply (s := s.unwait m) h.ap ⟨by omega, by omega⟩, h.id, ?_, ?_, stPut_dat h.dat _ _, ?_⟩
  · intro a b m' e
    rw [applyP_wt] at e
    unfold SiP.unwait wset at e
    simp only at e
    split at e
    · cases e
    · exact h.wt a b m' e
  · rw [applyP_st, applyP_log]
    refine (stPut_fit h.fit m.t m.t.ws.length).mono ?_
    simp only [List.length_append, List.length_cons, List.length_nil]
    show 5 * s.log.length + _ ≤ 5 * (s.log.length + 1)
    omega
  · rw [applyP_log]
    simp only [List.length_append, List.length_cons, List.length_nil]
    show s.log.length + 1 ≤ 200
    omega
theorem runP_step {s : SiP} {m : MTx} {f : Nat} (hn : nextOf s = some m) (hl : ¬ 200 ≤ s.log.length) : runP (f + 1) s = runP f (applyP (s.unwait m) m) := by
  conv => lhs; unfold runP
  rw [hn]
  simp only [if_neg hl]
theorem runP_stop {s : SiP} (h : nextOf s = none ∨ 200 ≤ s.log.length) : ∀ f, runP f s = s
  | 0 => rfl
  | f + 1 => by
    unfold runP
    rcases h with h | h
    · rw [h]
    · cases nextOf s with
      | none => rfl
      | some m => simp [h]
end Go.Proofs.YtbopfhbeegkkaaaDoor

namespace Go.Proofs.YtbopfhbeegkkaaaDoor
open Go.RowKit

/-- what a site reads -/
def siteRead (s : SiP) (key a0 a1 a2 a3 : Int) : VerP × Int := if covD s.p0 s.p1 s.p2 s.p3 a0 a1 a2 a3 = true then readR a0 a1 a2 a3 s.st key else (verZ, 10)
set_option maxRecDepth 20000 in
set_option maxHeartbeats 8000000 in
theorem siteRead_any (B x mb : Nat) (s : SiP) (lv : Value) (sv : Nat → Value) (key a0 a1 a2 a3 : Int) (w : World) (h : SiAt w B x s mb lv sv) (hf : Fit s.st 900000) :
    Calls Tryd.prog 77 #[.pointer (some ⟨x, 0, none⟩), .int .i64 key, .agg #[.int .i64 a0, .int .i64 a1, .int .i64 a2, .int .i64 a3]] w fun e w' =>
      e = .returned (.tuple #[verV (siteRead s key a0 a1 a2 a3).1, errV (siteRead s key a0 a1 a2 a3).2]) ∧ Below w.heap.size w w' := by
  obtain ⟨c1, c2, c3, c4⟩ := h.vec
  have HCV := hidp fun W => covers_any s.p0 s.p1 s.p2 s.p3 a0 a1 a2 a3 W
  have HRD := hidp fun W (hB : Below w.heap.size w W) => readS_any x 9 B s.st sv key a0 a1 a2 a3 W (h.sto.below hB) (fun k hk => (hf k hk).1) (fun k hk => (hf k hk).2)
  have HE := hidp (show siteRead s key a0 a1 a2 a3 = if covD s.p0 s.p1 s.p2 s.p3 a0 a1 a2 a3 = true then readR a0 a1 a2 a3 s.st key else (verZ, 10) from rfl)
  generalize siteRead s key a0 a1 a2 a3 = F at *
  haveI : SzGe (x + 1) w := ⟨h.sto.lt⟩
  clear h hf
  cases hcv : covD s.p0 s.p1 s.p2 s.p3 a0 a1 a2 a3
  · rw [hcv] at HCV HE
    have HE2 : Hid (F = (verZ, 10)) := hidp (by rw [HE.out]; rfl)
    clear hcv HE
    go_enter Tryd.func77, Tryd.ntmps77
    go_wp2_with fail
    refine wp_region_plus (by kernel_rfl) (by kernel_rfl) ?_
    repeat (first | go_big_quiet_skip | (go_big_quiet_want; go_big_quiet_op; first | go_big_quiet_on | (apply Exists.intro; refine ⟨fun _ => ?_, ?_⟩; (go_at_call 50; exact Calls.plus_of (HCV.out _)); go_big_quiet_on)))
    refine wpQuiet_nil ?_
    rintro _ ⟨x3, rfl⟩
    go_wp2_with fail
    refine bodyPost_ret (v := .tuple #[verV verZ, errV 10]) ?_ rfl ⟨by rw [HE2.out], (by repeat (first | exact Below.refl _ _ | refine blw_alloc ?_ | refine blw_plus ?_ | refine Below.drew ?_))⟩
    simp [results, Tryd.results77, go_sem, verV, verZ]
    rfl
  · rw [hcv] at HCV HE
    have HE2 : Hid (F = readR a0 a1 a2 a3 s.st key) := hidp (by rw [HE.out]; rfl)
    clear hcv HE
    obtain ⟨⟨⟨vw, vc, vs, vq, vd, vg⟩, z⟩, hR⟩ : ∃ R, readR a0 a1 a2 a3 s.st key = R := ⟨_, rfl⟩
    rw [hR] at HRD HE2
    unfold verV at HRD
    clear hR
    go_enter Tryd.func77, Tryd.ntmps77
    go_wp2_with fail
    refine wp_region_plus (by kernel_rfl) (by kernel_rfl) ?_
    repeat (first | go_big_quiet_skip | (go_big_quiet_want; go_big_quiet_op; first | go_big_quiet_on | (apply Exists.intro; refine ⟨fun _ => ?_, ?_⟩; (go_at_call 50; exact Calls.plus_of (HCV.out _)); go_big_quiet_on)))
    refine wpQuiet_nil ?_
    rintro _ ⟨x3, rfl⟩
    go_wp2_with fail
    refine wp_region_plus_tail 8 (by kernel_rfl) (by kernel_rfl) ?_
    simp only [List.take_succ_cons, List.take_zero, List.drop_succ_cons, List.drop_zero]
    repeat (first | go_big_quiet_skip | (go_big_quiet_want; go_big_quiet_op; first | go_big_quiet_on | (apply Exists.intro; refine ⟨fun _ => ?_, ?_⟩; (go_at_call 36; exact Calls.plus_of (HRD.out _ (by repeat (first | exact Below.refl _ _ | refine blw_alloc ?_ | refine blw_plus ?_ | refine Below.drew ?_)))); go_big_quiet_on)))
    refine wpQuiet_nil ?_
    rintro _ ⟨x4, rfl⟩
    go_wp2_with fail
    refine bodyPost_ret (v := .tuple #[verV ⟨vw, vc, vs, vq, vd, vg⟩, errV z]) ?_ rfl ⟨by rw [HE2.out], (by repeat (first | exact Below.refl _ _ | refine blw_alloc ?_ | refine blw_plus ?_ | refine Below.drew ?_))⟩
    simp [results, Tryd.results77, go_sem, verV]

def nextE (aw ac now : Int) : Int := if rightS aw ac = false ∨ now < 0 ∨ 1099511627776 < now then 2 else if aw < now then 0 else if ac = 1099511627776 then 12 else 0
def nextW (aw now : Int) : Int := if aw < now then now else aw
def nextC (aw ac now : Int) : Int := if aw < now then 0 else ac + 1
theorem rightS_bd {aw ac : Int} (h : rightS aw ac = true) : (0 ≤ aw ∧ aw ≤ 1099511627776) ∧ 0 ≤ ac ∧ ac ≤ 1099511627776 := by
  simpa [rightS, and_assoc] using h
theorem next_is (aw ac now : Int) (w : World) : Calls Tryd.prog 10 #[.agg #[.int .i64 aw, .int .i64 ac], .int .i64 now] w fun e w' =>
    e = .returned (.tuple #[if nextE aw ac now = 0 then .agg #[.int .i64 (nextW aw now), .int .i64 (nextC aw ac now)] else .agg #[.int .i64 0, .int .i64 0], errV (nextE aw ac now)]) ∧ Below w.heap.size w w' := by
  by_cases hr : rightS aw ac = true
  · have hb := rightS_bd hr
    by_cases h0 : now < 0
    · have e : nextE aw ac now = 2 := by unfold nextE; rw [if_pos (.inr (.inl h0))]
      rw [e, if_neg (by decide)]; exact next_r2 aw ac now w hr h0
    · by_cases h1 : 1099511627776 < now
      · have e : nextE aw ac now = 2 := by unfold nextE; rw [if_pos (.inr (.inr h1))]
        rw [e, if_neg (by decide)]; exact next_r3 aw ac now w hr (by omega) h1
      · have hno : ¬ (rightS aw ac = false ∨ now < 0 ∨ 1099511627776 < now) := by rw [hr]; simp; omega
        by_cases h : aw < now
        · have e : nextE aw ac now = 0 := by unfold nextE; rw [if_neg hno, if_pos h]
          rw [e, if_pos rfl]
          unfold nextW nextC
          rw [if_pos h, if_pos h]
          exact next_new aw ac now w hr (by omega) (by omega) h
        · by_cases hf : ac = 1099511627776
          · have e : nextE aw ac now = 12 := by unfold nextE; rw [if_neg hno, if_neg h, if_pos hf]
            rw [e, if_neg (by decide)]
            exact next_full aw ac now w hr (by omega) (by omega) (by omega) (by simp [hf])
          · have e : nextE aw ac now = 0 := by unfold nextE; rw [if_neg hno, if_neg h, if_neg hf]
            rw [e, if_pos rfl]
            unfold nextW nextC
            rw [if_neg h, if_neg h]
            exact next_inc aw ac now w hr (by omega) (by omega) (by omega) (by simp [hf]) hb.2
  · have hr : rightS aw ac = false := by simpa using hr
    have e : nextE aw ac now = 2 := by unfold nextE; rw [if_pos (.inl hr)]
    rw [e, if_neg (by decide)]
    exact next_r1 aw ac now w hr
end Go.Proofs.YtbopfhbeegkkaaaDoor

namespace Go.Proofs.YtbopfhbeegkkaaaDoor
open Go.RowKit

/-- the errors of Commit; 0: it is committed -/
def commitE (s : SiP) (now d0 d1 d2 d3 : Int) (ws : List WrP) : Int :=
  if rightWs ws = false then 1 else if rgtB d0 d1 d2 d3 = false ∨ covD s.p0 s.p1 s.p2 s.p3 d0 d1 d2 d3 = false then 10 else if 200 ≤ s.log.length then 12 else nextE s.lw s.lc now
/-- the transaction that is committed -/
def commitT (s : SiP) (now d0 d1 d2 d3 : Int) (ws : List WrP) : TxP :=
  ⟨s.id, s.at s.id + 1, nextW s.lw now, nextC s.lw s.lc now, if s.id = 0 then s.p0 else d0, if s.id = 1 then s.p1 else d1, if s.id = 2 then s.p2 else d2, if s.id = 3 then s.p3 else d3, ws⟩
def CommitPost (B x mb : Nat) (s : SiP) (lv : Value) (sv : Nat → Value) (n : Int) (T : TxP) (w : World) (e : Ending) (w' : World) : Prop :=
  (n ≠ 0 → e = .returned (.tuple #[txZero, errV n]) ∧ Below w.heap.size w w') ∧
  (n = 0 → ∃ A' c' A2 c2 lv' sv', e = .returned (.tuple #[MTx.val ⟨T, A', c'⟩, .nilIface]) ∧ SiAt w' B x (applyP s ⟨T, A2, c2⟩) mb lv' sv' ∧ SiFr w w' (SiOwn x mb lv sv) (SiOwn x mb lv' sv') ∧ (∀ b o, A2 = some ⟨b, o, none⟩ → w.heap.size ≤ b) ∧ WsAt w' A' T.ws ∧ ∃ b, A' = some ⟨b, 0, none⟩ ∧ w.heap.size ≤ b ∧ ¬ SiOwn x mb lv' sv' b)
theorem rightWs_is {ws : List WrP} {b : Bool} (h : rightWs ws = b) (A : Option Addr) (c : Nat) (w : World) (hn : ws.length ≤ 1000000) (hws : WsAt w A ws) : Calls Tryd.prog 24 #[.slice A ws.length c] w fun e w' => e = .returned (.bool b) ∧ Below w.heap.size w w' := by
  subst h; exact rightWs_any A c ws w hn hws
theorem covers_is {a0 a1 a2 a3 b0 b1 b2 b3 : Int} {b : Bool} (h : covD a0 a1 a2 a3 b0 b1 b2 b3 = b) (w : World) :
    Calls Tryd.prog 50 #[.agg #[.int .i64 a0, .int .i64 a1, .int .i64 a2, .int .i64 a3], .agg #[.int .i64 b0, .int .i64 b1, .int .i64 b2, .int .i64 b3]] w fun e w' => e = .returned (.bool b) ∧ Below w.heap.size w w' := by
  subst h; exact covers_any a0 a1 a2 a3 b0 b1 b2 b3 w

theorem put9_grown (w : World) (b : Nat) (u0 u1 u2 u3 u4 u5 u6 u7 u8 : Value) : w.grownBy (put9 w b u0 u1 u2 u3 u4 u5 u6 u7 u8) (some b) :=
  ((((((((grown_set _ b 0 u0).trans (grown_set _ b 1 u1)).trans (grown_set _ b 2 u2)).trans (grown_set _ b 3 u3)).trans (grown_set _ b 4 u4)).trans (grown_set _ b 5 u5)).trans (grown_set _ b 6 u6)).trans (grown_set _ b 7 u7)).trans (grown_set _ b 8 u8)
theorem put9_size (w : World) (b : Nat) (u0 u1 u2 u3 u4 u5 u6 u7 u8 : Value) : (put9 w b u0 u1 u2 u3 u4 u5 u6 u7 u8).heap.size = w.heap.size := by
  unfold put9; simp [World.setCell]
theorem SiFr.box {w W W' : World} {own own' : Nat → Prop} {q : Nat} (h : SiFr w W own own') (hg : W.grownBy W' (some q)) (hq : w.heap.size ≤ q) : SiFr w W' own own' :=
  ⟨hg.os.trans h.os, hg.tape.trans h.tape, hg.output.trans h.output, Nat.le_trans h.size hg.size, fun k hk hn => (hg.block k (Nat.lt_of_lt_of_le hk h.size) (by simp; omega)).trans (h.block k hk hn), h.own⟩
theorem SiFr.andBelow {w W W' : World} {own own' : Nat → Prop} (h : SiFr w W own own') (hb : Below W.heap.size W W') : SiFr w W' own own' := h.trans (SiFr.of_below own' hb)

set_option maxRecDepth 20000 in
set_option maxHeartbeats 16000000 in
theorem commit_good (B x mb : Nat) (s : SiP) (lv : Value) (sv : Nat → Value) (now d0 d1 d2 d3 : Int) (A : Option Addr) (c : Nat) (ws : List WrP) (w : World) (h : SiAt w B x s mb lv sv) (hi : Inv s) (hws : WsAt w A ws) (hn : ws.length ≤ 1000000)
    (hrw : rightWs ws = true) (hrv : rgtB d0 d1 d2 d3 = true) (hcv : covD s.p0 s.p1 s.p2 s.p3 d0 d1 d2 d3 = true) (h200 : ¬ 200 ≤ s.log.length) (hnx : nextE s.lw s.lc now = 0) :
    Calls Tryd.prog 76 #[.pointer (some ⟨x, 0, none⟩), .int .i64 now, .agg #[.int .i64 d0, .int .i64 d1, .int .i64 d2, .int .i64 d3], .slice A ws.length c] w
      (fun e w' => ∃ A' c' A2 c2 lv' sv', e = .returned (.tuple #[MTx.val ⟨commitT s now d0 d1 d2 d3 ws, A', c'⟩, .nilIface]) ∧ SiAt w' B x (applyP s ⟨commitT s now d0 d1 d2 d3 ws, A2, c2⟩) mb lv' sv' ∧ SiFr w w' (SiOwn x mb lv sv) (SiOwn x mb lv' sv') ∧ (∀ b o, A2 = some ⟨b, o, none⟩ → w.heap.size ≤ b) ∧ WsAt w' A' (commitT s now d0 d1 d2 d3 ws).ws ∧ ∃ b, A' = some ⟨b, 0, none⟩ ∧ w.heap.size ≤ b ∧ ¬ SiOwn x mb lv' sv' b) := by
  have HS := hidp h
  have HI := hidp hi
  have HWS := hidp hws
  obtain ⟨Al, cl, hlv⟩ := own_form h.row
  have c7 := h.c7
  rw [hlv] at c7
  have HLV := hidp hlv
  obtain ⟨c1, c2, c3, c4⟩ := h.vec
  have c5 := h.c5
  have c6 := h.c6
  have c0 := h.c0
  haveI : SzGe (x + 1) w := ⟨h.sto.lt⟩
  have HRW := hidp fun W (hB : Below w.heap.size w W) => rightWs_is hrw A c W hn (HWS.out.below hB)
  have HRV := hidp fun W => right_is hrv W
  have HCV := hidp fun W => covers_is hcv W
  have hd3 : decide ((200 : Int) ≤ (s.log.length : Int)) = false := decide_eq_false (by omega)
  have HNX := hidp fun W => next_is s.lw s.lc now W
  have H200 := hidp h200
  have HRW2 := hidp hrw
  rw [hnx] at HNX
  have hev : errV 0 = .nilIface := rfl
  simp only [if_pos, hev] at HNX
  have hid0 := hi.id
  obtain ⟨k, hk⟩ := Int.eq_ofNat_of_zero_le hid0.1
  have hk4 : (k : Int) < 4 := by omega
  have hk0 : (0 : Int) ≤ (k : Int) := by omega
  rw [hk] at c0
  have ca := h.apc (k := k) (by omega)
  obtain ⟨ap, hape⟩ : ∃ ap, s.at (k : Int) = ap := ⟨_, rfl⟩
  have hap := hi.ap.at (k : Int)
  rw [hape] at ca hap
  obtain ⟨hap0, hap1⟩ := hap
  have hwr : IntKind.i64.wrap (ap + 1) = ap + 1 := by rw [IntKind.wrap_i64]; omega
  have HK := hidp hk
  have HAP := hidp hape
  generalize hNW : nextW s.lw now = NW at HNX
  generalize hNC : nextC s.lw s.lc now = NC at HNX
  have HNW := hidp hNW
  have HNC := hidp hNC
  clear h hi hlv hrw hrv hcv hws h200 hnx hev hid0 hk hape hNW hNC
  generalize hT : commitT s now d0 d1 d2 d3 ws = T
  have HT0 := hidp hT
  clear hT
  go_enter Tryd.func76, Tryd.ntmps76
  go_wp2_with fail
  go_at_call 24
  refine (HRW.out _ (by repeat (first | exact Below.refl _ _ | refine blw_alloc ?_ | refine blw_plus ?_ | refine Below.drew ?_))).mono ?_
  rintro e w' ⟨rfl, hb⟩
  obtain ⟨x1, rfl⟩ := wplus_of_below hb
  clear hb
  go_wp2_with fail
  refine wp_region_plus (by kernel_rfl) (by kernel_rfl) ?_
  repeat (first | go_big_quiet_skip | (go_big_quiet_want; go_big_quiet_op; first | go_big_quiet_on | (apply Exists.intro; refine ⟨fun _ => ?_, ?_⟩; (first | (go_at_call 61; exact Calls.plus_of (HRV.out _)) | (go_at_call 50; exact Calls.plus_of (HCV.out _))); go_big_quiet_on)))
  refine wpQuiet_nil ?_
  rintro _ ⟨x2, rfl⟩
  go_wp2_with fail
  go_at_call 10
  refine (HNX.out _).mono ?_
  rintro e w' ⟨rfl, hb⟩
  obtain ⟨x3, rfl⟩ := wplus_of_below hb
  clear hb
  go_wp2_with fail
  have HSZ : Hid ((((wplus (wplus (wplus ((w.alloc (Obj.cells #[.int .i64 d0, .int .i64 d1, .int .i64 d2, .int .i64 d3] 37)).alloc (Obj.cells #[.int .i64 0, .int .i64 0, .int .i64 0, .int .i64 0, .int .i64 0, .int .i64 0, .int .i64 0, .int .i64 0, .slice none 0 0] 40)) x1) x2) x3)).heap.size) = w.heap.size + 1 + 1 + x1.blocks.size + x2.blocks.size + x3.blocks.size) := hidp (by simp)
  have HBC : Hid (Below w.heap.size w ((wplus (wplus (wplus ((w.alloc (Obj.cells #[.int .i64 d0, .int .i64 d1, .int .i64 d2, .int .i64 d3] 37)).alloc (Obj.cells #[.int .i64 0, .int .i64 0, .int .i64 0, .int .i64 0, .int .i64 0, .int .i64 0, .int .i64 0, .int .i64 0, .slice none 0 0] 40)) x1) x2) x3).alloc (.cells #[.int .i64 NW, .int .i64 NC] 23))) := hidp (by repeat (first | exact Below.refl _ _ | refine blw_alloc ?_ | refine blw_plus ?_ | refine Below.drew ?_))
  have HQ2 : Hid (((wplus (wplus (wplus ((w.alloc (Obj.cells #[.int .i64 d0, .int .i64 d1, .int .i64 d2, .int .i64 d3] 37)).alloc (Obj.cells #[.int .i64 0, .int .i64 0, .int .i64 0, .int .i64 0, .int .i64 0, .int .i64 0, .int .i64 0, .int .i64 0, .slice none 0 0] 40)) x1) x2) x3).alloc (.cells #[.int .i64 NW, .int .i64 NC] 23)).heap[w.heap.size]? = some (Obj.cells #[.int .i64 d0, .int .i64 d1, .int .i64 d2, .int .i64 d3] 37)) := hidp (by
    refine ((show Below (w.alloc (Obj.cells #[.int .i64 d0, .int .i64 d1, .int .i64 d2, .int .i64 d3] 37)).heap.size (w.alloc (Obj.cells #[.int .i64 d0, .int .i64 d1, .int .i64 d2, .int .i64 d3] 37)) _ from (by repeat (first | exact Below.refl _ _ | refine blw_alloc ?_ | refine blw_plus ?_ | refine Below.drew ?_))).block _ (by simp)).trans (blk_new rfl _))
  have HQ3 : Hid (((wplus (wplus (wplus ((w.alloc (Obj.cells #[.int .i64 d0, .int .i64 d1, .int .i64 d2, .int .i64 d3] 37)).alloc (Obj.cells #[.int .i64 0, .int .i64 0, .int .i64 0, .int .i64 0, .int .i64 0, .int .i64 0, .int .i64 0, .int .i64 0, .slice none 0 0] 40)) x1) x2) x3).alloc (.cells #[.int .i64 NW, .int .i64 NC] 23)).heap[w.heap.size + 1]? = some (Obj.cells #[.int .i64 0, .int .i64 0, .int .i64 0, .int .i64 0, .int .i64 0, .int .i64 0, .int .i64 0, .int .i64 0, .slice none 0 0] 40)) := hidp (by
    refine ((show Below ((w.alloc (Obj.cells #[.int .i64 d0, .int .i64 d1, .int .i64 d2, .int .i64 d3] 37)).alloc (Obj.cells #[.int .i64 0, .int .i64 0, .int .i64 0, .int .i64 0, .int .i64 0, .int .i64 0, .int .i64 0, .int .i64 0, .slice none 0 0] 40)).heap.size ((w.alloc (Obj.cells #[.int .i64 d0, .int .i64 d1, .int .i64 d2, .int .i64 d3] 37)).alloc (Obj.cells #[.int .i64 0, .int .i64 0, .int .i64 0, .int .i64 0, .int .i64 0, .int .i64 0, .int .i64 0, .int .i64 0, .slice none 0 0] 40)) _ from (by repeat (first | exact Below.refl _ _ | refine blw_alloc ?_ | refine blw_plus ?_ | refine Below.drew ?_))).block _ (by simp)).trans (blk_new (by simp) _))
  have HQ4 : Hid (((wplus (wplus (wplus ((w.alloc (Obj.cells #[.int .i64 d0, .int .i64 d1, .int .i64 d2, .int .i64 d3] 37)).alloc (Obj.cells #[.int .i64 0, .int .i64 0, .int .i64 0, .int .i64 0, .int .i64 0, .int .i64 0, .int .i64 0, .int .i64 0, .slice none 0 0] 40)) x1) x2) x3).alloc (.cells #[.int .i64 NW, .int .i64 NC] 23)).heap[w.heap.size + 1 + 1 + x1.blocks.size + x2.blocks.size + x3.blocks.size]? = some (.cells #[.int .i64 NW, .int .i64 NC] 23)) := hidp (blk_new HSZ.out.symm _)
  clear c0 c1 c2 c3 c5 c6 c7 ca HRV HCV HNX hd3 HRW
  have HTB : Hid (w.heap.size + 1 + 1 ≤ w.heap.size + 1 + 1 + x1.blocks.size + x2.blocks.size + x3.blocks.size) := hidp (by omega)
  generalize w.heap.size + 1 + 1 + x1.blocks.size + x2.blocks.size + x3.blocks.size = tb at *
  generalize (wplus (wplus (wplus ((w.alloc (Obj.cells #[.int .i64 d0, .int .i64 d1, .int .i64 d2, .int .i64 d3] 37)).alloc (Obj.cells #[.int .i64 0, .int .i64 0, .int .i64 0, .int .i64 0, .int .i64 0, .int .i64 0, .int .i64 0, .int .i64 0, .slice none 0 0] 40)) x1) x2) x3).alloc (.cells #[.int .i64 NW, .int .i64 NC] 23) = W at *
  clear HSZ
  have HSW := hidp (HS.out.below HBC.out)
  have c0 := HSW.out.c0
  rw [HK.out] at c0
  have ca := HSW.out.apc (k := k) (by omega)
  rw [HAP.out] at ca
  haveI : SzGe (x + 1) W := ⟨HSW.out.sto.lt⟩
  haveI : SzGe (w.heap.size + 1) W := ⟨lt_blk HQ2.out⟩
  haveI : SzGe (w.heap.size + 1 + 1) W := ⟨lt_blk HQ3.out⟩
  haveI : SzGe (tb + 1) W := ⟨lt_blk HQ4.out⟩
  obtain ⟨zu, hzu⟩ : ∃ zu, W.cell? ⟨w.heap.size, k, none⟩ = some (.int .i64 zu) := by
    have hc : k = 0 ∨ k = 1 ∨ k = 2 ∨ k = 3 := by omega
    rcases hc with rfl | rfl | rfl | rfl <;> exact ⟨_, cell_blk HQ2.out _⟩
  have hzf := frozen_blk HQ2.out k
  have q1 := cell_blk HQ4.out 0; have q2 := cell_blk HQ4.out 1
  simp only [List.getElem?_toArray, List.getElem?_cons_zero, List.getElem?_cons_succ] at q1 q2
  go_wp2_with fail
  refine wp_region_plus_tail 13 (by kernel_rfl) (by kernel_rfl) ?_
  simp only [List.take_succ_cons, List.take_zero, List.drop_succ_cons, List.drop_zero]
  repeat (first | go_big_quiet_skip | (go_big_quiet_want; go_big_quiet_op; go_big_quiet_on))
  refine wpQuiet_nil ?_
  rintro _ ⟨x4, rfl⟩
  go_wp2_with fail
  have HBC2 : Hid (Below w.heap.size w (wplus (W.setCell ⟨w.heap.size, k, none⟩ (.int .i64 ap)) x4)) := hidp (by
    have h1 : Below w.heap.size w (W.setCell ⟨w.heap.size, k, none⟩ (.int .i64 ap)) := Below.grown HBC.out (grown_set W w.heap.size k _) HBC.out.size (fun j e => by simp at e; omega)
    exact h1.trans ((below_wplus _ _).mono h1.size))
  have hgs := grown_set W w.heap.size k (.int .i64 ap)
  have HP2 : Hid ((wplus (W.setCell ⟨w.heap.size, k, none⟩ (.int .i64 ap)) x4).heap[w.heap.size]? = some (.cells #[.int .i64 (if k = 0 then ap else d0), .int .i64 (if k = 1 then ap else d1), .int .i64 (if k = 2 then ap else d2), .int .i64 (if k = 3 then ap else d3)] 37)) := hidp (by
    rw [wplus_heap_lt _ _ _ (by have := lt_blk (blk_set HQ2.out k (.int .i64 ap)); exact this), blk_set HQ2.out k (.int .i64 ap)]
    have hc : k = 0 ∨ k = 1 ∨ k = 2 ∨ k = 3 := by omega
    rcases hc with rfl | rfl | rfl | rfl <;> rfl)
  have HP3 : Hid ((wplus (W.setCell ⟨w.heap.size, k, none⟩ (.int .i64 ap)) x4).heap[w.heap.size + 1]? = some (Obj.cells #[.int .i64 0, .int .i64 0, .int .i64 0, .int .i64 0, .int .i64 0, .int .i64 0, .int .i64 0, .int .i64 0, .slice none 0 0] 40)) := hidp (by
    have e := (hgs.block (w.heap.size + 1) (lt_blk HQ3.out) (by simp)).trans HQ3.out
    rw [wplus_heap_lt _ _ _ (lt_blk e)]; exact e)
  have HP4 : Hid ((wplus (W.setCell ⟨w.heap.size, k, none⟩ (.int .i64 ap)) x4).heap[tb]? = some (.cells #[.int .i64 NW, .int .i64 NC] 23)) := hidp (by
    have ht := HTB.out
    have e := (hgs.block tb (lt_blk HQ4.out) (by simp; omega)).trans HQ4.out
    rw [wplus_heap_lt _ _ _ (lt_blk e)]; exact e)
  clear hgs hzu hzf q1 q2 c0 ca
  generalize wplus (W.setCell ⟨w.heap.size, k, none⟩ (.int .i64 ap)) x4 = W2 at *
  clear HQ2 HQ3 HQ4 HSW HBC
  have HDD : Hid (commitT s now d0 d1 d2 d3 ws = ⟨(k : Int), ap + 1, NW, NC, if k = 0 then ap else d0, if k = 1 then ap else d1, if k = 2 then ap else d2, if k = 3 then ap else d3, ws⟩) := hidp (by
    have hk := HK.out; have ha := HAP.out
    unfold commitT
    rw [HNW.out, HNC.out, hk, ha]
    have hc : k = 0 ∨ k = 1 ∨ k = 2 ∨ k = 3 := by omega
    rcases hc with rfl | rfl | rfl | rfl <;> simp [SiP.at, atV] at ha ⊢ <;> first | exact ha | skip)
  generalize (if k = 0 then ap else d0) = f0 at *
  generalize (if k = 1 then ap else d1) = f1 at *
  generalize (if k = 2 then ap else d2) = f2 at *
  generalize (if k = 3 then ap else d3) = f3 at *
  have HSW := hidp (HS.out.below HBC2.out)
  have c0 := HSW.out.c0
  rw [HK.out] at c0
  have ca := HSW.out.apc (k := k) (by omega)
  rw [HAP.out] at ca
  haveI : SzGe (x + 1) W2 := ⟨HSW.out.sto.lt⟩
  haveI : SzGe (w.heap.size + 1) W2 := ⟨lt_blk HP2.out⟩
  haveI : SzGe (w.heap.size + 1 + 1) W2 := ⟨lt_blk HP3.out⟩
  haveI : SzGe (tb + 1) W2 := ⟨lt_blk HP4.out⟩
  have q1 := cell_blk HP4.out 0; have q2 := cell_blk HP4.out 1
  have g0 := cell_blk HP2.out 0; have g1 := cell_blk HP2.out 1; have g2 := cell_blk HP2.out 2; have g3 := cell_blk HP2.out 3
  simp only [List.getElem?_toArray, List.getElem?_cons_zero, List.getElem?_cons_succ] at q1 q2 g0 g1 g2 g3
  obtain ⟨hw1, hw5⟩ : 1 ≤ ws.length ∧ ws.length ≤ 5 := by
    have := HRW2.out
    unfold rightWs at this
    simp only [Bool.and_eq_true, decide_eq_true_eq] at this
    exact ⟨this.1.2, this.2⟩
  have HCL := hidp fun X (hB : Below w.heap.size w X) => sclone_any A c ws X (HWS.out.below hB) hw1 (by omega)
  go_region_held3 (fun X : World => X.cell? ⟨x, 0, none⟩ = some (.int .i64 (k : Int)) ∧ X.cell? ⟨x, 1 + k, none⟩ = some (.int .i64 ap) ∧ X.cell? ⟨tb, 0, none⟩ = some (.int .i64 NW) ∧ X.cell? ⟨tb, 1, none⟩ = some (.int .i64 NC) ∧ X.cell? ⟨w.heap.size, 0, none⟩ = some (.int .i64 f0) ∧ X.cell? ⟨w.heap.size, 1, none⟩ = some (.int .i64 f1) ∧ X.cell? ⟨w.heap.size, 2, none⟩ = some (.int .i64 f2) ∧ X.cell? ⟨w.heap.size, 3, none⟩ = some (.int .i64 f3)) ((repeat' apply And.intro) <;> simp [go_sem, *]) (
    (go_at_call 92
     refine (HCL.out _ (HBC2.out.trans (Below.mono (B := W2.heap.size) (by repeat (first | exact Below.refl _ _ | refine blw_alloc ?_ | refine blw_plus ?_ | refine Below.drew ?_)) HBC2.out.size))).mono ?_
     rintro e wc ⟨A', c', rfl, hwc, hbc, bb, rfl, hbb⟩
     obtain ⟨x9, rfl⟩ := wplus_of_below hbc))
  clear q1 q2 g0 g1 g2 g3 c0 ca hwr HCL
  all_goals
    first
      | (have HBC3 : Hid (Below w.heap.size w ((wplus W2.drew x9).alloc (Obj.cells #[.int .i64 (k : Int), .int .i64 (ap + 1), .int .i64 NW, .int .i64 NC, .int .i64 f0, .int .i64 f1, .int .i64 f2, .int .i64 f3, .slice (some ⟨bb, 0, none⟩) ws.length c'] 40))) := hidp (HBC2.out.trans (Below.mono (B := W2.heap.size) (by repeat (first | exact Below.refl _ _ | refine blw_alloc ?_ | refine blw_plus ?_ | refine Below.drew ?_)) HBC2.out.size))
         have HT3 : Hid (((wplus W2.drew x9).alloc (Obj.cells #[.int .i64 (k : Int), .int .i64 (ap + 1), .int .i64 NW, .int .i64 NC, .int .i64 f0, .int .i64 f1, .int .i64 f2, .int .i64 f3, .slice (some ⟨bb, 0, none⟩) ws.length c'] 40)).heap[W2.heap.size + x9.blocks.size]? = some (Obj.cells #[.int .i64 (k : Int), .int .i64 (ap + 1), .int .i64 NW, .int .i64 NC, .int .i64 f0, .int .i64 f1, .int .i64 f2, .int .i64 f3, .slice (some ⟨bb, 0, none⟩) ws.length c'] 40)) := hidp (blk_new (by simp) _)
         have HW3 : Hid (WsAt ((wplus W2.drew x9).alloc (Obj.cells #[.int .i64 (k : Int), .int .i64 (ap + 1), .int .i64 NW, .int .i64 NC, .int .i64 f0, .int .i64 f1, .int .i64 f2, .int .i64 f3, .slice (some ⟨bb, 0, none⟩) ws.length c'] 40)) (some ⟨bb, 0, none⟩) ws) := hidp (hwc.below (blw_alloc (Below.refl _ _)))
         have HR3 : Hid (((wplus W2.drew x9).alloc (Obj.cells #[.int .i64 (k : Int), .int .i64 (ap + 1), .int .i64 NW, .int .i64 NC, .int .i64 f0, .int .i64 f1, .int .i64 f2, .int .i64 f3, .slice (some ⟨bb, 0, none⟩) ws.length c'] 40)).heap[w.heap.size + 1]? = some (Obj.cells #[.int .i64 0, .int .i64 0, .int .i64 0, .int .i64 0, .int .i64 0, .int .i64 0, .int .i64 0, .int .i64 0, .slice none 0 0] 40)) := hidp (((show Below W2.heap.size W2 ((wplus W2.drew x9).alloc (Obj.cells #[.int .i64 (k : Int), .int .i64 (ap + 1), .int .i64 NW, .int .i64 NC, .int .i64 f0, .int .i64 f1, .int .i64 f2, .int .i64 f3, .slice (some ⟨bb, 0, none⟩) ws.length c'] 40)) from (by repeat (first | exact Below.refl _ _ | refine blw_alloc ?_ | refine blw_plus ?_ | refine Below.drew ?_))).block _ (lt_blk HP3.out)).trans HP3.out)
         have HL3 : Hid (w.heap.size + 1 < W2.heap.size + x9.blocks.size ∧ w.heap.size + 1 < bb) := hidp (by have h1 := lt_blk HP3.out; have h2 : W2.heap.size ≤ bb := hbb; omega)
         clear hbc hwc hbb
         generalize (wplus W2.drew x9).alloc (Obj.cells #[.int .i64 (k : Int), .int .i64 (ap + 1), .int .i64 NW, .int .i64 NC, .int .i64 f0, .int .i64 f1, .int .i64 f2, .int .i64 f3, .slice (some ⟨bb, 0, none⟩) ws.length c'] 40) = W3 at *
         generalize W2.heap.size + x9.blocks.size = tq at *)
      | (have HBC3 : Hid (Below w.heap.size w (wplus (W2.alloc (Obj.cells #[.int .i64 (k : Int), .int .i64 (ap + 1), .int .i64 NW, .int .i64 NC, .int .i64 f0, .int .i64 f1, .int .i64 f2, .int .i64 f3, .slice (some ⟨bb, 0, none⟩) ws.length c'] 40)).drew x9)) := hidp (HBC2.out.trans (Below.mono (B := W2.heap.size) (by repeat (first | exact Below.refl _ _ | refine blw_alloc ?_ | refine blw_plus ?_ | refine Below.drew ?_)) HBC2.out.size))
         have HT3 : Hid ((wplus (W2.alloc (Obj.cells #[.int .i64 (k : Int), .int .i64 (ap + 1), .int .i64 NW, .int .i64 NC, .int .i64 f0, .int .i64 f1, .int .i64 f2, .int .i64 f3, .slice (some ⟨bb, 0, none⟩) ws.length c'] 40)).drew x9).heap[W2.heap.size]? = some (Obj.cells #[.int .i64 (k : Int), .int .i64 (ap + 1), .int .i64 NW, .int .i64 NC, .int .i64 f0, .int .i64 f1, .int .i64 f2, .int .i64 f3, .slice (some ⟨bb, 0, none⟩) ws.length c'] 40)) := hidp (((show Below (W2.alloc (Obj.cells #[.int .i64 (k : Int), .int .i64 (ap + 1), .int .i64 NW, .int .i64 NC, .int .i64 f0, .int .i64 f1, .int .i64 f2, .int .i64 f3, .slice (some ⟨bb, 0, none⟩) ws.length c'] 40)).heap.size (W2.alloc (Obj.cells #[.int .i64 (k : Int), .int .i64 (ap + 1), .int .i64 NW, .int .i64 NC, .int .i64 f0, .int .i64 f1, .int .i64 f2, .int .i64 f3, .slice (some ⟨bb, 0, none⟩) ws.length c'] 40)) (wplus (W2.alloc (Obj.cells #[.int .i64 (k : Int), .int .i64 (ap + 1), .int .i64 NW, .int .i64 NC, .int .i64 f0, .int .i64 f1, .int .i64 f2, .int .i64 f3, .slice (some ⟨bb, 0, none⟩) ws.length c'] 40)).drew x9) from (by repeat (first | exact Below.refl _ _ | refine blw_alloc ?_ | refine blw_plus ?_ | refine Below.drew ?_))).block _ (by simp)).trans (blk_new rfl _))
         have HW3 : Hid (WsAt (wplus (W2.alloc (Obj.cells #[.int .i64 (k : Int), .int .i64 (ap + 1), .int .i64 NW, .int .i64 NC, .int .i64 f0, .int .i64 f1, .int .i64 f2, .int .i64 f3, .slice (some ⟨bb, 0, none⟩) ws.length c'] 40)).drew x9) (some ⟨bb, 0, none⟩) ws) := hidp (hwc.move (by
           intro b' o' e
           obtain ⟨rfl, rfl⟩ : b' = bb ∧ o' = 0 := by simp at e; exact ⟨e.1.symm, e.2.symm⟩
           simp at hbb
           rw [wplus_heap_ge _ _ _ (by simp; omega), wplus_heap_ge _ _ _ (by simp; omega)]
           simp))
         have HR3 : Hid ((wplus (W2.alloc (Obj.cells #[.int .i64 (k : Int), .int .i64 (ap + 1), .int .i64 NW, .int .i64 NC, .int .i64 f0, .int .i64 f1, .int .i64 f2, .int .i64 f3, .slice (some ⟨bb, 0, none⟩) ws.length c'] 40)).drew x9).heap[w.heap.size + 1]? = some (Obj.cells #[.int .i64 0, .int .i64 0, .int .i64 0, .int .i64 0, .int .i64 0, .int .i64 0, .int .i64 0, .int .i64 0, .slice none 0 0] 40)) := hidp (((show Below W2.heap.size W2 (wplus (W2.alloc (Obj.cells #[.int .i64 (k : Int), .int .i64 (ap + 1), .int .i64 NW, .int .i64 NC, .int .i64 f0, .int .i64 f1, .int .i64 f2, .int .i64 f3, .slice (some ⟨bb, 0, none⟩) ws.length c'] 40)).drew x9) from (by repeat (first | exact Below.refl _ _ | refine blw_alloc ?_ | refine blw_plus ?_ | refine Below.drew ?_))).block _ (lt_blk HP3.out)).trans HP3.out)
         have HL3 : Hid (w.heap.size + 1 < W2.heap.size ∧ w.heap.size + 1 < bb) := hidp (by have h1 := lt_blk HP3.out; simp at hbb; omega)
         clear hbc hwc hbb
         generalize wplus (W2.alloc (Obj.cells #[.int .i64 (k : Int), .int .i64 (ap + 1), .int .i64 NW, .int .i64 NC, .int .i64 f0, .int .i64 f1, .int .i64 f2, .int .i64 f3, .slice (some ⟨bb, 0, none⟩) ws.length c'] 40)).drew x9 = W3 at *
         generalize W2.heap.size = tq at *)
    have HS3 := hidp (HS.out.below HBC3.out)
    have e0 := cell_blk HT3.out 0; have e1 := cell_blk HT3.out 1; have e2 := cell_blk HT3.out 2; have e3 := cell_blk HT3.out 3; have e4 := cell_blk HT3.out 4; have e5 := cell_blk HT3.out 5; have e6 := cell_blk HT3.out 6; have e7 := cell_blk HT3.out 7; have e8 := cell_blk HT3.out 8
    simp only [List.getElem?_toArray, List.getElem?_cons_zero, List.getElem?_cons_succ] at e0 e1 e2 e3 e4 e5 e6 e7 e8
    haveI : SzGe (tq + 1) W3 := ⟨lt_blk HT3.out⟩
    have HM3 : Hid (WsAt W3 (some ⟨bb, 0, none⟩) ws ∧ ∀ b o, (some (⟨bb, 0, none⟩ : Addr)) = some ⟨b, o, none⟩ → b < W3.heap.size ∧ ¬ SiOwn x mb lv sv b) := hidp ⟨HW3.out, fun b o e => by
      obtain ⟨rfl, rfl⟩ : b = bb ∧ o = 0 := by simp at e; exact ⟨e.1.symm, e.2.symm⟩
      refine ⟨?_, fun e2 => ?_⟩
      · obtain ⟨b2, o2, e3, hlt, _⟩ := HW3.out 0 ws[0] (List.getElem?_eq_getElem (by omega))
        obtain ⟨rfl, rfl⟩ : b2 = b ∧ o2 = 0 := by simp at e3; exact ⟨e3.1.symm, e3.2.symm⟩
        exact hlt
      · have h1 := (HS.out.lt e2).2; have h2 := HL3.out; omega⟩
    have HAPL := hidp (applies_any B x mb s lv sv (⟨⟨(k : Int), ap + 1, NW, NC, f0, f1, f2, f3, ws⟩, some ⟨bb, 0, none⟩, c'⟩ : MTx) 1000 W3 HS3.out HM3.out ⟨hk0, hk4⟩ (HI.out.fit.mono (by have := HI.out.log; omega)) (by omega) (by have := HI.out.log; omega) (by simp only; omega))
    unfold MTx.val at HAPL
    simp only at HAPL
    go_wp2_with fail
    go_at_call 82
    refine HAPL.out.mono ?_
    rintro e w4 ⟨rfl, lv', sv', hs4, fr4⟩
    have HS4 := hidp hs4
    have HF4 := hidp fr4
    clear hs4 fr4 HAPL e0 e1 e2 e3 e4 e5 e6 e7 e8
    have HNQ : Hid (∀ b, w.heap.size ≤ b → b < W3.heap.size → ¬ SiOwn x mb lv sv b ∧ ¬ SiOwn x mb lv' sv' b) := hidp (fun b h1 h2 => ⟨fun e => by have := (HS.out.lt e).2; omega, fun e => (HF4.out.own b e).elim (fun e2 => by have := (HS.out.lt e2).2; omega) (fun e2 => by omega)⟩)
    have HB4 : Hid (∀ b, w.heap.size ≤ b → b < W3.heap.size → w4.heap[b]? = W3.heap[b]?) := hidp (fun b h1 h2 => HF4.out.block b h2 (HNQ.out b h1 h2).1)
    have HT4 := hidp ((HB4.out tq (by have := HL3.out; omega) (lt_blk HT3.out)).trans HT3.out)
    have HR4 := hidp ((HB4.out (w.heap.size + 1) (by omega) (lt_blk HR3.out)).trans HR3.out)
    have HW4 := hidp (HM3.out.1.keep (fun b o e => HF4.out.block b (HM3.out.2 b o e).1 (HM3.out.2 b o e).2))
    have e0 := cell_blk HT4.out 0; have e1 := cell_blk HT4.out 1; have e2 := cell_blk HT4.out 2; have e3 := cell_blk HT4.out 3; have e4 := cell_blk HT4.out 4; have e5 := cell_blk HT4.out 5; have e6 := cell_blk HT4.out 6; have e7 := cell_blk HT4.out 7; have e8 := cell_blk HT4.out 8
    simp only [List.getElem?_toArray, List.getElem?_cons_zero, List.getElem?_cons_succ] at e0 e1 e2 e3 e4 e5 e6 e7 e8
    have r0 := cell_blk HR4.out 0; have r1 := cell_blk HR4.out 1; have r2 := cell_blk HR4.out 2; have r3 := cell_blk HR4.out 3; have r4 := cell_blk HR4.out 4; have r5 := cell_blk HR4.out 5; have r6 := cell_blk HR4.out 6; have r7 := cell_blk HR4.out 7; have r8 := cell_blk HR4.out 8
    simp only [List.getElem?_toArray, List.getElem?_cons_zero, List.getElem?_cons_succ] at r0 r1 r2 r3 r4 r5 r6 r7 r8
    have s0 := frozen_blk HR4.out 0; have s1 := frozen_blk HR4.out 1; have s2 := frozen_blk HR4.out 2; have s3 := frozen_blk HR4.out 3; have s4 := frozen_blk HR4.out 4; have s5 := frozen_blk HR4.out 5; have s6 := frozen_blk HR4.out 6; have s7 := frozen_blk HR4.out 7; have s8 := frozen_blk HR4.out 8
    haveI : SzGe (tq + 1) w4 := ⟨lt_blk HT4.out⟩
    haveI : SzGe (w.heap.size + 1 + 1) w4 := ⟨lt_blk HR4.out⟩
    have HCL := hidp (clone_any (⟨(k : Int), ap + 1, NW, NC, f0, f1, f2, f3, ws⟩ : TxP) (some ⟨bb, 0, none⟩) c' w4 HW4.out (by simp only; omega) (by simp only; omega))
    unfold MTx.val at HCL
    simp only at HCL
    go_wp2_with fail
    go_at_call 78
    refine HCL.out.mono ?_
    rintro e w5 ⟨A5, c5, rfl, hw5, hb5, b5, rfl, hbb5⟩
    obtain ⟨x5, rfl⟩ := wplus_of_below hb5
    have HW5 := hidp hw5
    have HBB5 := hidp hbb5
    clear hw5 hb5 hbb5 HCL
    go_wp2_with fail
    have HG9 := hidp (put9_grown w4 (w.heap.size + 1) (.int .i64 (k : Int)) (.int .i64 (ap + 1)) (.int .i64 NW) (.int .i64 NC) (.int .i64 f0) (.int .i64 f1) (.int .i64 f2) (.int .i64 f3) (.slice (some ⟨b5, 0, none⟩) ws.length c5))
    have HSZ9 := hidp (put9_size w4 (w.heap.size + 1) (.int .i64 (k : Int)) (.int .i64 (ap + 1)) (.int .i64 NW) (.int .i64 NC) (.int .i64 f0) (.int .i64 f1) (.int .i64 f2) (.int .i64 f3) (.slice (some ⟨b5, 0, none⟩) ws.length c5))
    have HK9 := hidp (@put9_blk _ _ _ _ _ _ _ _ _ _ _ (.int .i64 (k : Int)) (.int .i64 (ap + 1)) (.int .i64 NW) (.int .i64 NC) (.int .i64 f0) (.int .i64 f1) (.int .i64 f2) (.int .i64 f3) (.slice (some ⟨b5, 0, none⟩) ws.length c5) _ HR4.out)
    obtain ⟨V9, hV9⟩ : ∃ V9, put9 w4 (w.heap.size + 1) (.int .i64 (k : Int)) (.int .i64 (ap + 1)) (.int .i64 NW) (.int .i64 NC) (.int .i64 f0) (.int .i64 f1) (.int .i64 f2) (.int .i64 f3) (.slice (some ⟨b5, 0, none⟩) ws.length c5) = V9 := ⟨_, rfl⟩
    rw [hV9] at HG9 HSZ9 HK9
    unfold put9 at hV9
    rw [hV9]
    clear hV9 r0 r1 r2 r3 r4 r5 r6 r7 r8 s0 s1 s2 s3 s4 s5 s6 s7 s8 e0 e1 e2 e3 e4 e5 e6 e7 e8
    haveI : SzGe (w.heap.size + 1 + 1) V9 := ⟨lt_blk HK9.out⟩
    have y0 := cell_blk HK9.out 0; have y1 := cell_blk HK9.out 1; have y2 := cell_blk HK9.out 2; have y3 := cell_blk HK9.out 3; have y4 := cell_blk HK9.out 4; have y5 := cell_blk HK9.out 5; have y6 := cell_blk HK9.out 6; have y7 := cell_blk HK9.out 7; have y8 := cell_blk HK9.out 8
    simp only [List.getElem?_toArray, List.getElem?_cons_zero, List.getElem?_cons_succ] at y0 y1 y2 y3 y4 y5 y6 y7 y8
    obtain rfl := HT0.out.symm.trans HDD.out
    have hbx := HL3.out
    have hbq := lt_blk HR3.out
    have HS5 := hidp (HS4.out.same HG9.out.size (fun b hb => HG9.out.block b (HS4.out.lt hb).2 (by simp; rintro rfl; exact (HNQ.out _ (by omega) hbq).2 hb)) (fun m hm b o e => HG9.out.block b ((HS4.out.dat m hm).2 b o e).1 (by
      simp
      rintro rfl
      have hm2 : s.has m ∨ m = ⟨⟨(k : Int), ap + 1, NW, NC, f0, f1, f2, f3, ws⟩, some ⟨bb, 0, none⟩, c'⟩ := by
        rcases hm with hm | hm
        · rw [applyP_log] at hm
          rcases List.mem_append.1 hm with h1 | h1
          · exact .inl (.inl h1)
          · exact .inr (by simpa using h1)
        · exact .inl (.inr hm)
      rcases hm2 with h1 | rfl
      · have := ((HS.out.dat m h1).2 _ _ e).1; omega
      · simp at e; try omega)))
    have hb6 := HBB5.out
    refine bodyPost_ret (v := .tuple #[MTx.val ⟨⟨(k : Int), ap + 1, NW, NC, f0, f1, f2, f3, ws⟩, some ⟨b5, 0, none⟩, c5⟩, .nilIface]) ?_ rfl ⟨some ⟨b5, 0, none⟩, c5, some ⟨bb, 0, none⟩, c', lv', sv', rfl, HS5.out.below (below_wplus _ x5), (((SiFr.of_below (SiOwn x mb lv sv) HBC3.out).trans HF4.out).box HG9.out (by omega)).andBelow (below_wplus _ x5), (fun b o e => by have := HL3.out; simp at e; omega), ?_, b5, rfl, ?_, ?_⟩
    · simp [results, Tryd.results76, go_sem, MTx.val, *]
    · refine HW5.out.move ?_
      intro b' o' e
      obtain ⟨rfl, rfl⟩ : b' = b5 ∧ o' = 0 := by simp at e; exact ⟨e.1.symm, e.2.symm⟩
      rw [wplus_heap_ge _ _ _ hb6, wplus_heap_ge _ _ _ (by rw [HSZ9.out]; exact hb6), HSZ9.out]
    · have := HF4.out.size; have := HBC3.out.size; omega
    · exact fun e => by have := (HS4.out.lt e).2; omega
end Go.Proofs.YtbopfhbeegkkaaaDoor
