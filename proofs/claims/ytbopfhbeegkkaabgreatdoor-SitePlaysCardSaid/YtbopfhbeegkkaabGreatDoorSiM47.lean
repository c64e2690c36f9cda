/- Part 47 of a proof: lemmas and contracts that other parts use. -/
import Derived.Test.YtbopfhbeegkkaabGreatDoorSiM39
import Derived.Test.YtbopfhbeegkkaabGreatDoorSiM40
import Derived.Test.YtbopfhbeegkkaabGreatDoorSiM42
import Derived.Test.YtbopfhbeegkkaabGreatDoorSiM43
import Derived.Test.YtbopfhbeegkkaabGreatDoorSiM44
import Derived.Test.YtbopfhbeegkkaabGreatDoorSiM46
import Derived.Test.YtbopfhbeegkkaabGreatDoorSiM23
set_option linter.unusedVariables false
set_option linter.unusedSimpArgs false
namespace Go.Proofs.YtbopfhbeegkkaabGreatDoor
open Go.RowKit

/-- both sites, and a block that neither writes -/
structure B2 (w0 w : World) (x y : Nat) (s : SiP) (r : RsP) (K : List (Nat × Obj)) : Prop where
  low : Below w0.heap.size w0 w
  pr : ∃ mb lv sv lr wA wc av, Pair w w0.heap.size x mb s lv sv y r lr wA wc av ∧ (∀ p ∈ K, ¬ SiOwn x mb lv sv p.1) ∧ ∀ p ∈ K, ¬ RsOwn y lr av p.1
  box : ∀ p ∈ K, w.heap[p.1]? = some p.2
section
variable {w0 w w' : World} {x y : Nat} {s s' : SiP} {r r' : RsP} {K : List (Nat × Obj)}
theorem B2.below (h : B2 w0 w x y s r K) (hb : Below w.heap.size w w') : B2 w0 w' x y s r K := by
  obtain ⟨h1, ⟨mb, lv, sv, lr, wA, wc, av, hp, n1, n2⟩, h3⟩ := h
  exact ⟨h1.trans (hb.mono h1.size), ⟨mb, lv, sv, lr, wA, wc, av, hp.below hb, n1, n2⟩, fun p hp => (hb.block p.1 (lt_blk (h3 p hp))).trans (h3 p hp)⟩
theorem B2.push (h : B2 w0 w x y s r K) (o : Obj) : B2 w0 (w.alloc o) x y s r ((w.heap.size, o) :: K) := by
  have h2 := h.below (show Below w.heap.size w (w.alloc o) from blw_alloc (Below.refl _ _))
  obtain ⟨h1, ⟨mb, lv, sv, lr, wA, wc, av, hp, n1, n2⟩, h3⟩ := h
  obtain ⟨g1, _, g3⟩ := h2
  refine ⟨g1, ⟨mb, lv, sv, lr, wA, wc, av, hp.below (show Below w.heap.size w (w.alloc o) from blw_alloc (Below.refl _ _)), fun p hm => ?_, fun p hm => ?_⟩, fun p hm => ?_⟩
  · rcases List.mem_cons.1 hm with rfl | hm
    · exact fun e => by have := (hp.si.lt e).2; omega
    · exact n1 p hm
  · rcases List.mem_cons.1 hm with rfl | hm
    · exact fun e => by have := (hp.rs.lt e).2; omega
    · exact n2 p hm
  · rcases List.mem_cons.1 hm with rfl | hm
    · exact blk_new rfl _
    · exact g3 p hm
theorem B2.less (h : B2 w0 w x y s r K) {K' : List (Nat × Obj)} (hk : ∀ p ∈ K', p ∈ K) : B2 w0 w x y s r K' := by
  obtain ⟨h1, ⟨mb, lv, sv, lr, wA, wc, av, hp, n1, n2⟩, h3⟩ := h
  exact ⟨h1, ⟨mb, lv, sv, lr, wA, wc, av, hp, fun p hm => n1 p (hk p hm), fun p hm => n2 p (hk p hm)⟩, fun p hm => h3 p (hk p hm)⟩
theorem B2.bx0 {b : Nat} {o : Obj} {K' : List (Nat × Obj)} (h : B2 w0 w x y s r ((b, o) :: K')) : w.heap[b]? = some o := h.box (b, o) (List.mem_cons_self ..)
theorem B2.bx1 {p : Nat × Obj} {b : Nat} {o : Obj} {K' : List (Nat × Obj)} (h : B2 w0 w x y s r (p :: (b, o) :: K')) : w.heap[b]? = some o := h.box (b, o) (List.mem_cons_of_mem _ (List.mem_cons_self ..))
theorem RsAt.fresh {w : World} {B y : Nat} {id : Int} (h : w.heap[y]? = some (.cells #[.int .i64 id, .int .i64 0, .int .i64 0, .int .i64 0, .int .i64 0, .int .i64 0, .int .i64 0, .slice none 0 0, .slice none 0 0, .slice none 0 0, .int .i64 0, .int .i64 0, .int .i64 0, .int .i64 0, .int .i64 0, .int .i64 0, .int .i64 0, .int .i64 0, .int .i64 0, .int .i64 0, .int .i64 0, .int .i64 0, .int .i64 0, .int .i64 0, .int .i64 0, .int .i64 0] 41)) (hB : B ≤ y) : RsAt w B y (rNew id) (.slice none 0 0) none 0 (.slice none 0 0) := by
  have fz : ∀ k, w.frozen? ⟨y, k, none⟩ = false := fun k => frozen_blk h k
  refine ⟨cell_blk h 0, cell_blk h 1, cell_blk h 2, cell_blk h 3, cell_blk h 4, cell_blk h 5, cell_blk h 6, cell_blk h 7, cell_blk h 8, fun k hk => ?_, fz, ⟨lt_blk h, cell_blk h 9, fz _, ⟨rfl, .inl ⟨rfl, rfl⟩⟩, by simp [Value.ownBlock]⟩, ⟨rfl, .inl ⟨rfl, rfl⟩⟩, ⟨fun i m hm => by simp [rNew] at hm, by simp [rNew], fun b o e => by cases e⟩, hB, by simp [Value.ownBlock], fun b e => by simp [Value.ownBlock] at e, fun m hm => ?_⟩
  · have hc : k = 0 ∨ k = 1 ∨ k = 2 ∨ k = 3 ∨ k = 4 ∨ k = 5 ∨ k = 6 ∨ k = 7 ∨ k = 8 ∨ k = 9 ∨ k = 10 ∨ k = 11 ∨ k = 12 ∨ k = 13 ∨ k = 14 ∨ k = 15 := by omega
    rcases hc with rfl | rfl | rfl | rfl | rfl | rfl | rfl | rfl | rfl | rfl | rfl | rfl | rfl | rfl | rfl | rfl <;> exact cell_blk h _
  · rcases hm with hm | hm <;> simp [rNew] at hm
theorem B2.fresh {x mb : Nat} {id : Int} (hl : Below w0.heap.size w0 w) (hs : SiAt w w0.heap.size x (siNew id) mb (.slice none 0 0) (fun _ => .slice none 0 0)) (hy : w.heap[y]? = some (.cells #[.int .i64 id, .int .i64 0, .int .i64 0, .int .i64 0, .int .i64 0, .int .i64 0, .int .i64 0, .slice none 0 0, .slice none 0 0, .slice none 0 0, .int .i64 0, .int .i64 0, .int .i64 0, .int .i64 0, .int .i64 0, .int .i64 0, .int .i64 0, .int .i64 0, .int .i64 0, .int .i64 0, .int .i64 0, .int .i64 0, .int .i64 0, .int .i64 0, .int .i64 0, .int .i64 0] 41)) (hB : w0.heap.size ≤ y) (h1 : y ≠ x) (h2 : y ≠ mb) :
    B2 w0 w x y (siNew id) (rNew id) [] := by
  have so : ∀ b, SiOwn x mb (.slice none 0 0) (fun _ => .slice none 0 0) b → b = x ∨ b = mb := fun b e => by
    rcases e with e | e | e | ⟨k, _, e⟩
    · exact .inl e
    · exact .inr e
    · simp [Value.ownBlock] at e
    · simp [Value.ownBlock] at e
  have ro : ∀ b, RsOwn y (.slice none 0 0) (.slice none 0 0) b → b = y := fun b e => by
    rcases e with e | e | e
    · exact e
    · simp [Value.ownBlock] at e
    · simp [Value.ownBlock] at e
  refine ⟨hl, ⟨mb, _, _, _, none, 0, _, ⟨hs, RsAt.fresh hy hB, fun b e e2 => ?_, fun b o e => (by cases e), fun m hm => ?_, fun m hm => ?_⟩, fun p hp => (by cases hp), fun p hp => (by cases hp)⟩, fun p hp => (by cases hp)⟩
  · have := ro b e2
    rcases so b e with e3 | e3 <;> omega
  · rcases hm with hm | ⟨a, b, hm⟩ <;> simp [siNew] at hm
  · rcases hm with hm | hm <;> simp [rNew] at hm
theorem low_of_fr {own own' : Nat → Prop} (h1 : Below w0.heap.size w0 w) (fr : SiFr w w' own own') (ho : ∀ b, own b → w0.heap.size ≤ b) : Below w0.heap.size w0 w' :=
  h1.trans ⟨fr.os, fr.tape, fr.output, fr.size, fun k hk => fr.block k (Nat.lt_of_lt_of_le hk h1.size) fun e => by have := ho k e; omega⟩
/-- a site that may not be -/
theorem new_bad (id : Int) (w : World) (hn : id < 0 ∨ 4 ≤ id) :
    Calls Tryz.prog 11 #[.int .i64 id] w fun e w' => e = .returned (.tuple #[.pointer none, .iface 29 (.int .i64 2)]) ∧ Below w.heap.size w w' := by
  by_cases h0 : id < 0
  · have d0 : decide (id < 0) = true := decide_eq_true h0
    clear hn h0
    go_enter Tryz.func11, Tryz.ntmps11
    go_wp2_with fail
    go_ret2
    exact ⟨rfl, (by repeat (first | exact Below.refl _ _ | refine blw_alloc ?_ | refine blw_plus ?_ | refine Below.drew ?_))⟩
  · have d0 : decide (id < 0) = false := decide_eq_false h0
    have d1 : decide (4 ≤ id) = true := decide_eq_true (by omega)
    clear hn h0
    go_enter Tryz.func11, Tryz.ntmps11
    go_wp2_with fail
    go_ret2
    exact ⟨rfl, (by repeat (first | exact Below.refl _ _ | refine blw_alloc ?_ | refine blw_plus ?_ | refine Below.drew ?_))⟩
theorem B2.sstep {mb : Nat} {lv lr av lv' : Value} {sv sv' : Nat → Value} {wA : Option Addr} {wc : Nat} (hl : Below w0.heap.size w0 w) (hp : Pair w w0.heap.size x mb s lv sv y r lr wA wc av) (n1 : ∀ p ∈ K, ¬ SiOwn x mb lv sv p.1) (n2 : ∀ p ∈ K, ¬ RsOwn y lr av p.1) (hb : ∀ p ∈ K, w.heap[p.1]? = some p.2)
    (hs : SiAt w' w0.heap.size x s' mb lv' sv') (fr : SiFr w w' (SiOwn x mb lv sv) (SiOwn x mb lv' sv')) (hh : ∀ m, s'.has m → s.has m ∨ ∀ b o, m.A = some ⟨b, o, none⟩ → w.heap.size ≤ b) : B2 w0 w' x y s' r K :=
  ⟨low_of_fr hl fr fun b e => (hp.si.lt e).1, ⟨mb, lv', sv', lr, wA, wc, av, hp.sstep hs fr hh, fun p hm e => by
    rcases fr.own p.1 e with e2 | e2
    · exact n1 p hm e2
    · have := lt_blk (hb p hm); omega, n2⟩, fun p hm => (fr.block p.1 (lt_blk (hb p hm)) (n1 p hm)).trans (hb p hm)⟩
theorem B2.rstep {mb : Nat} {lv lr av lr' av' : Value} {sv : Nat → Value} {wA wA' : Option Addr} {wc wc' : Nat} (hl : Below w0.heap.size w0 w) (hp : Pair w w0.heap.size x mb s lv sv y r lr wA wc av) (n1 : ∀ p ∈ K, ¬ SiOwn x mb lv sv p.1) (n2 : ∀ p ∈ K, ¬ RsOwn y lr av p.1) (hb : ∀ p ∈ K, w.heap[p.1]? = some p.2)
    (hr : RsAt w' w0.heap.size y r' lr' wA' wc' av') (fr : SiFr w w' (RsOwn y lr av) (RsOwn y lr' av')) (hh : ∀ m, r'.has m → r.has m ∨ ∀ b o, m.A = some ⟨b, o, none⟩ → w.heap.size ≤ b)
    (hw : wA' = wA ∨ ∀ b o, wA' = some ⟨b, o, none⟩ → w.heap.size ≤ b) : B2 w0 w' x y s r' K :=
  ⟨low_of_fr hl fr fun b e => (hp.rs.lt e).1, ⟨mb, lv, sv, lr', wA', wc', av', hp.rstep hr fr hh hw, n1, fun p hm e => by
    rcases fr.own p.1 e with e2 | e2
    · exact n2 p hm e2
    · have := lt_blk (hb p hm); omega⟩, fun p hm => (fr.block p.1 (lt_blk (hb p hm)) (n2 p hm)).trans (hb p hm)⟩
theorem B2.rdat (h : B2 w0 w x y s r K) {m : MTx} (hm : r.has m) : WsAt w m.A m.t.ws := by
  obtain ⟨_, ⟨mb, lv, sv, lr, wA, wc, av, hp, _, _⟩, _⟩ := h
  exact (hp.rs.dat m hm).1
theorem Full.fit9 (h : Full s r) : Fit s.st 900000 := h.inv.fit.mono (by have := h.inv.log; omega)
theorem Full.len9 (h : Full s r) : r.L.length ≤ 800000 ∧ r.log.length ≤ 200 := by
  have h1 := h.rin.len
  have h2 := h.inv.log
  have h3 : s.log.length = r.log.length := by rw [h.rep.len]; simp [RsP.r]
  omega
/-- the program's Commit -/
theorem B2.commit (h : B2 w0 w x y s r K) (hi : Inv s) (now d0 d1 d2 d3 : Int) (A : Option Addr) (c : Nat) (ws : List WrP) (hws : WsAt w A ws) (hn : ws.length ≤ 1000000) :
    Calls Tryz.prog 15 #[.pointer (some ⟨x, 0, none⟩), .int .i64 now, .agg #[.int .i64 d0, .int .i64 d1, .int .i64 d2, .int .i64 d3], .slice A ws.length c] w fun e w' =>
      (commitE s now d0 d1 d2 d3 ws ≠ 0 → e = .returned (.tuple #[txZero, errV (commitE s now d0 d1 d2 d3 ws)]) ∧ B2 w0 w' x y s r K) ∧
      (commitE s now d0 d1 d2 d3 ws = 0 → ∃ A' c' A2 c2, e = .returned (.tuple #[MTx.val ⟨commitT s now d0 d1 d2 d3 ws, A', c'⟩, .nilIface]) ∧ B2 w0 w' x y (applyP s ⟨commitT s now d0 d1 d2 d3 ws, A2, c2⟩) r K ∧ WsAt w' A' (commitT s now d0 d1 d2 d3 ws).ws) := by
  have h2 := h
  obtain ⟨hl, ⟨mb, lv, sv, lr, wA, wc, av, hp, n1, n2⟩, hb⟩ := h
  refine (commit_any w0.heap.size x mb s lv sv now d0 d1 d2 d3 A c ws w hp.si hi hws hn).mono ?_
  rintro e w' ⟨g1, g2⟩
  refine ⟨fun hne => ⟨(g1 hne).1, h2.below (g1 hne).2⟩, fun he => ?_⟩
  obtain ⟨A', c', A2, c2, lv', sv', rfl, hs, fr, hA2, hw', _⟩ := g2 he
  refine ⟨A', c', A2, c2, rfl, B2.sstep hl hp n1 n2 hb hs fr fun m hm => ?_, hw'⟩
  rcases apply_has hm with h3 | h3
  · exact .inl h3
  · exact .inr fun b o e => hA2 b o (by rw [h3] at e; exact e)
/-- the document's Commit -/
theorem B2.rcommit (h : B2 w0 w x y s r K) (hf : Full s r) (now d0 d1 d2 d3 : Int) (A : Option Addr) (c : Nat) (ws : List WrP) (hws : WsAt w A ws) (hn : ws.length ≤ 1000000) :
    Calls Tryz.prog 14 #[.pointer (some ⟨y, 0, none⟩), .int .i64 now, .agg #[.int .i64 d0, .int .i64 d1, .int .i64 d2, .int .i64 d3], .slice A ws.length c] w fun e w' =>
      (commitE s now d0 d1 d2 d3 ws ≠ 0 → e = .returned (.tuple #[txZero, .int .i64 (commitE s now d0 d1 d2 d3 ws)]) ∧ B2 w0 w' x y s r K) ∧
      (commitE s now d0 d1 d2 d3 ws = 0 → ∃ A' c', e = .returned (.tuple #[MTx.val ⟨commitT s now d0 d1 d2 d3 ws, A', c'⟩, .int .i64 0]) ∧ B2 w0 w' x y s (applyR r ⟨commitT s now d0 d1 d2 d3 ws, A', c'⟩) K) := by
  have h2 := h
  obtain ⟨hl, ⟨mb, lv, sv, lr, wA, wc, av, hp, n1, n2⟩, hb⟩ := h
  obtain ⟨e1, e2⟩ := hf.rep.commitE now d0 d1 d2 d3 ws
  rw [e1, e2]
  refine (rCommit_any w0.heap.size y wc r lr av wA now d0 d1 d2 d3 A c ws w hp.rs hf.rin.id hf.rin.ap hf.len9.1 hws hn).mono ?_
  rintro e w' ⟨g1, g2⟩
  refine ⟨fun hne => ⟨(g1 hne).1, h2.below (g1 hne).2⟩, fun he => ?_⟩
  obtain ⟨b, c', lr', av', rfl, hs, fr, hb1, _, _⟩ := g2 he
  refine ⟨some ⟨b, 0, none⟩, c', rfl, B2.rstep hl hp n1 n2 hb hs fr (fun m hm => ?_) (.inl rfl)⟩
  rcases applyR_has hm with h3 | h3
  · exact .inl h3
  · refine .inr fun b2 o2 e => ?_
    rw [h3] at e
    simp only [Option.some.injEq, Addr.mk.injEq] at e
    obtain ⟨rfl, _⟩ := e
    exact hb1
def STk (s : SiP) (t : TxP) (s' : SiP) : Prop := (takeE s t ≠ 0 → s' = s) ∧ (takeE s t = 0 → ∃ A c, s' = runP (s.wn + 1) (s.wait ⟨t, A, c⟩))
def RTk (r : RsP) (t : TxP) (r' : RsP) : Prop := (rTakeE r.r t ≠ 0 → r' = r) ∧ (rTakeE r.r t = 0 → RInv r' ∧ r'.r = rRun (r.r.ws.length + 1) { r.r with ws := r.r.ws ++ [t] })
/-- the program's Take -/
theorem B2.take (h : B2 w0 w x y s r K) (hf : Full s r) (t : TxP) (A : Option Addr) (c : Nat) (hwn : s.wn ≤ 900) (hws : WsAt w A t.ws) (hwl : t.ws.length ≤ 1000000) (hfa : wf64 t.site) (hfb : wf64 t.seq) :
    Calls Tryz.prog 17 #[.pointer (some ⟨x, 0, none⟩), MTx.val ⟨t, A, c⟩] w fun e w' => e = .returned (errV (takeE s t)) ∧ ∃ s', STk s t s' ∧ B2 w0 w' x y s' r K := by
  have h2 := h
  obtain ⟨hl, ⟨mb, lv, sv, lr, wA, wc, av, hp, n1, n2⟩, hb⟩ := h
  refine (take_any w0.heap.size x mb s lv sv t A c w hp.si hf.inv (by omega) hws hwl hfa hfb).mono ?_
  rintro e w' ⟨rfl, g1, g2⟩
  refine ⟨rfl, ?_⟩
  by_cases he : takeE s t = 0
  · obtain ⟨A', c', lv', sv', hA, hs, fr⟩ := g2 he
    refine ⟨_, ⟨fun h => absurd he h, fun _ => ⟨A', c', rfl⟩⟩, B2.sstep hl hp n1 n2 hb hs fr fun m hm => ?_⟩
    have hi := hf.inv.wait (m := ⟨t, A', c'⟩) (takeE_parts he)
    rcases wait_has (runP_has _ _ _ hi hm) with h3 | h3
    · exact .inl h3
    · exact .inr fun b o e => hA b o (by rw [h3] at e; exact e)
  · exact ⟨s, ⟨fun _ => rfl, fun h => absurd h he⟩, h2.below (g1 he)⟩
/-- the document's Take -/
theorem B2.rtake {s0 : SiP} (h : B2 w0 w x y s r K) (hf : Full s0 r) (t : TxP) (A : Option Addr) (c : Nat) (hwn : s0.wn ≤ 900) (hws : WsAt w A t.ws) (hwl : t.ws.length ≤ 1000000) :
    Calls Tryz.prog 18 #[.pointer (some ⟨y, 0, none⟩), MTx.val ⟨t, A, c⟩] w fun e w' => e = .returned (.int .i64 (takeE s0 t)) ∧ ∃ r', RTk r t r' ∧ B2 w0 w' x y s r' K := by
  have h2 := h
  obtain ⟨hl, ⟨mb, lv, sv, lr, wA, wc, av, hp, n1, n2⟩, hb⟩ := h
  have hlen : r.ws.length ≤ 900 := by
    have := hf.rep.wn
    have e : r.r.ws.length = r.ws.length := by simp [RsP.r]
    omega
  rw [hf.rep.takeE hf.inv t]
  refine (rTake_any w0.heap.size y wc r lr av wA t A c w hp.rs hf.rin hlen hws hwl).mono ?_
  rintro e w' ⟨rfl, g1, g2⟩
  refine ⟨rfl, ?_⟩
  by_cases he : rTakeE r.r t = 0
  · obtain ⟨b, c', r', lr', wA', wc', av', hb1, hs, hri, hre, hhas, fr, hwa⟩ := g2 he
    refine ⟨r', ⟨fun h => absurd he h, fun _ => ⟨hri, hre⟩⟩, B2.rstep hl hp n1 n2 hb hs fr (fun m hm => ?_) (.inr hwa)⟩
    rcases hhas m hm with h3 | h3
    · exact .inl h3
    · refine .inr fun b2 o2 e => ?_
      rw [h3] at e
      simp only [Option.some.injEq, Addr.mk.injEq] at e
      obtain ⟨rfl, _⟩ := e
      exact hb1
  · exact ⟨r, ⟨fun _ => rfl, fun h => absurd h he⟩, h2.below (g1 he)⟩
theorem Full.took (hf : Full s r) {t : TxP} (h1 : STk s t s') (h2 : RTk r t r') : Full s' r' ∧ s'.wn ≤ s.wn + 1 := by
  have e := hf.rep.takeE hf.inv t
  by_cases he : takeE s t = 0
  · obtain ⟨A, c, rfl⟩ := h1.2 he
    obtain ⟨g1, g2⟩ := h2.2 (e ▸ he)
    exact hf.take he A c g1 g2
  · obtain rfl := h1.1 he
    obtain rfl := h2.1 (fun h => he (e ▸ h))
    exact ⟨hf, Nat.le_succ _⟩
/-- the program's Knows -/
theorem B2.knows (h : B2 w0 w x y s r K) (k : Nat) (a0 a1 a2 a3 : Int) (hk : k < 4) :
    Calls Tryz.prog 20 #[.pointer (some ⟨x, 0, none⟩), .int .i64 (k : Nat), .agg #[.int .i64 a0, .int .i64 a1, .int .i64 a2, .int .i64 a3]] w fun e w' => e = .returned .nilIface ∧ B2 w0 w' x y { s with ot := knowF s.ot k a0 a1 a2 a3 } r K := by
  obtain ⟨hl, ⟨mb, lv, sv, lr, wA, wc, av, hp, n1, n2⟩, hb⟩ := h
  refine (knows_any w0.heap.size x mb s lv sv k a0 a1 a2 a3 w hp.si hk).mono ?_
  rintro e w' ⟨rfl, hs, fr⟩
  exact ⟨rfl, B2.sstep hl hp n1 n2 hb hs fr fun m hm => .inl hm⟩
theorem B2.knows_bad (h : B2 w0 w x y s r K) (n a0 a1 a2 a3 : Int) (hn : n < 0 ∨ 4 ≤ n) :
    Calls Tryz.prog 20 #[.pointer (some ⟨x, 0, none⟩), .int .i64 n, .agg #[.int .i64 a0, .int .i64 a1, .int .i64 a2, .int .i64 a3]] w fun e w' => e = .returned (.iface 29 (.int .i64 2)) ∧ Below w.heap.size w w' := by
  obtain ⟨hl, ⟨mb, lv, sv, lr, wA, wc, av, hp, n1, n2⟩, hb⟩ := h
  exact Go.Proofs.YtbopfhbeegkkaabGreatDoor.knows_bad w0.heap.size x mb s lv sv n a0 a1 a2 a3 w hp.si hn
theorem B2.rset (h : B2 w0 w x y s r K) {i : Nat} (hi : i < 16) (z : Int) : B2 w0 (w.setCell ⟨y, 10 + i, none⟩ (.int .i64 z)) x y s (r.setc (10 + i) z) K := by
  obtain ⟨hl, ⟨mb, lv, sv, lr, wA, wc, av, hp, n1, n2⟩, hb⟩ := h
  exact B2.rstep hl hp n1 n2 hb (hp.rs.setc (.inr ⟨by omega, by omega⟩) z) (SiFr.setR _) (fun m hm => .inl hm) (.inl rfl)
theorem Full.others (h : Full s r) (k : Nat) (a0 a1 a2 a3 : Int) (hk : k < 4) :
    Full { s with ot := knowF s.ot k a0 a1 a2 a3 } ((((r.setc (10 + k * 4) (max (s.ot (k * 4)) a0)).setc (10 + (k * 4 + 1)) (max (s.ot (k * 4 + 1)) a1)).setc (10 + (k * 4 + 2)) (max (s.ot (k * 4 + 2)) a2)).setc (10 + (k * 4 + 3)) (max (s.ot (k * 4 + 3)) a3)) := by
  have e : s.ot = r.ot := h.rep.ot
  refine h.knows _ _ ?_ rfl rfl ⟨h.rin.id, ?_, h.rin.rt, h.rin.len⟩
  · unfold RsP.r RsP.setc knowF
    simp only [e]
    have h1 : ∀ i, i < 16 → (10 + i = 1) = False := fun i _ => by simp; omega
    congr 1
    all_goals first
      | (funext j
         simp only [Nat.add_left_cancel_iff]
         done)
      | (repeat rw [if_neg (by omega)])
  · intro a
    have h0 := h.rin.ap a
    have e2 : ((((r.setc (10 + k * 4) (max (s.ot (k * 4)) a0)).setc (10 + (k * 4 + 1)) (max (s.ot (k * 4 + 1)) a1)).setc (10 + (k * 4 + 2)) (max (s.ot (k * 4 + 2)) a2)).setc (10 + (k * 4 + 3)) (max (s.ot (k * 4 + 3)) a3)).at a = r.at a := by
      unfold RsP.at RsP.setc
      simp only
      congr 1
      all_goals (repeat rw [if_neg (by omega)])
    rw [e2]; exact h0
/-- the program's Sweep -/
theorem B2.sweep (h : B2 w0 w x y s r K) (hf : Full s r) (a0 a1 a2 a3 : Int) :
    Calls Tryz.prog 21 #[.pointer (some ⟨x, 0, none⟩), .agg #[.int .i64 a0, .int .i64 a1, .int .i64 a2, .int .i64 a3]] w fun e w' => e = .returned (.tuple #[]) ∧ B2 w0 w' x y { s with st := fun k => sweepV (min a0 s.p0) (min a1 s.p1) (min a2 s.p2) (min a3 s.p3) (s.st k) } r K := by
  obtain ⟨hl, ⟨mb, lv, sv, lr, wA, wc, av, hp, n1, n2⟩, hb⟩ := h
  refine (siteSweep_any w0.heap.size x mb s lv sv a0 a1 a2 a3 w hp.si hf.fit9).mono ?_
  rintro e w' ⟨rfl, sv', hs, fr⟩
  exact ⟨rfl, B2.sstep hl hp n1 n2 hb hs fr fun m hm => .inl hm⟩
/-- the document's store swept -/
theorem B2.rsweep {s0 : SiP} (h : B2 w0 w x y s r K) (hf : Full s0 r) (a0 a1 a2 a3 : Int) :
    Calls Tryz.prog 22 #[.pointer (some ⟨y, 9, none⟩), .agg #[.int .i64 a0, .int .i64 a1, .int .i64 a2, .int .i64 a3]] w fun e w' => e = .returned (.tuple #[]) ∧ B2 w0 w' x y s { r with L := rSweep a0 a1 a2 a3 r.L } K := by
  obtain ⟨hl, ⟨mb, lv, sv, lr, wA, wc, av, hp, n1, n2⟩, hb⟩ := h
  refine (rSweep_any y 9 w0.heap.size r.L av a0 a1 a2 a3 w hp.rs.sto hf.site_ok (by have := hf.len9; omega) hl.size).mono ?_
  rintro e w' ⟨rfl, av', hs, fr⟩
  obtain ⟨h1, h2⟩ := hp.rs.store hs fr
  exact ⟨rfl, B2.rstep hl hp n1 n2 hb h1 h2 (fun m hm => .inl hm) (.inl rfl)⟩
/-- what is read at both -/
theorem B2.read (h : B2 w0 w x y s r K) (hf : Full s r) (key a0 a1 a2 a3 : Int) {v : VerP} {z : Int} (hR : siteRead s key a0 a1 a2 a3 = (v, z)) :
    Calls Tryz.prog 25 #[.pointer (some ⟨x, 0, none⟩), .int .i64 key, .agg #[.int .i64 a0, .int .i64 a1, .int .i64 a2, .int .i64 a3]] w fun e w' => e = .returned (.tuple #[verV v, errV z]) ∧ Below w.heap.size w w' := by
  obtain ⟨hl, ⟨mb, lv, sv, lr, wA, wc, av, hp, n1, n2⟩, hb⟩ := h
  have := siteRead_any w0.heap.size x mb s lv sv key a0 a1 a2 a3 w hp.si hf.fit9
  rw [hR] at this
  exact this
theorem Full.read (hf : Full s r) (key a0 a1 a2 a3 : Int) : rSiteRead r key a0 a1 a2 a3 = siteRead s key a0 a1 a2 a3 := by
  have h := hf.rep
  have e0 : s.p0 = r.p0 := h.p0
  have e1 : s.p1 = r.p1 := h.p1
  have e2 : s.p2 = r.p2 := h.p2
  have e3 : s.p3 = r.p3 := h.p3
  unfold rSiteRead siteRead
  rw [e0, e1, e2, e3, show rRead a0 a1 a2 a3 r.L key = _ from h.rep.read a0 a1 a2 a3 key]
theorem B2.rread (h : B2 w0 w x y s r K) (hf : Full s r) (key a0 a1 a2 a3 : Int) {v : VerP} {z : Int} (hR : siteRead s key a0 a1 a2 a3 = (v, z)) :
    Calls Tryz.prog 24 #[.pointer (some ⟨y, 0, none⟩), .int .i64 key, .agg #[.int .i64 a0, .int .i64 a1, .int .i64 a2, .int .i64 a3]] w fun e w' => e = .returned (.tuple #[verV v, .int .i64 z]) ∧ Below w.heap.size w w' := by
  obtain ⟨hl, ⟨mb, lv, sv, lr, wA, wc, av, hp, n1, n2⟩, hb⟩ := h
  have := rSiteRead_any w0.heap.size y wc r lr av wA key a0 a1 a2 a3 w hp.rs hf.site_ok (by have := hf.len9; omega)
  rw [hf.read, hR] at this
  exact this
theorem B2.applied (h : B2 w0 w x y s r K) : Calls Tryz.prog 26 #[.pointer (some ⟨x, 0, none⟩)] w fun e w' => e = .returned (.agg #[.int .i64 s.p0, .int .i64 s.p1, .int .i64 s.p2, .int .i64 s.p3]) ∧ Below w.heap.size w w' := by
  obtain ⟨hl, ⟨mb, lv, sv, lr, wA, wc, av, hp, n1, n2⟩, hb⟩ := h
  exact applied_any w0.heap.size x mb s lv sv w hp.si
theorem B2.waits (h : B2 w0 w x y s r K) : Calls Tryz.prog 27 #[.pointer (some ⟨x, 0, none⟩)] w fun e w' => e = .returned (.int .i64 s.wn) ∧ Below w.heap.size w w' := by
  obtain ⟨hl, ⟨mb, lv, sv, lr, wA, wc, av, hp, n1, n2⟩, hb⟩ := h
  exact waits_any w0.heap.size x mb s lv sv w hp.si
def stabOf (s : SiP) (n : Int) (c : Nat) (p : Int) : Int := stabF s.id s.ot p c (stabN n)
theorem B2.stable (h : B2 w0 w x y s r K) (n : Int) : Calls Tryz.prog 28 #[.pointer (some ⟨x, 0, none⟩), .int .i64 n] w fun e w' =>
    e = .returned (.agg #[.int .i64 (stabOf s n 0 s.p0), .int .i64 (stabOf s n 1 s.p1), .int .i64 (stabOf s n 2 s.p2), .int .i64 (stabOf s n 3 s.p3)]) ∧ Below w.heap.size w w' := by
  obtain ⟨hl, ⟨mb, lv, sv, lr, wA, wc, av, hp, n1, n2⟩, hb⟩ := h
  exact stable_any w0.heap.size x mb s lv sv n w hp.si
theorem B2.rstable (h : B2 w0 w x y s r K) (hf : Full s r) (n : Int) : Calls Tryz.prog 29 #[.pointer (some ⟨y, 0, none⟩), .int .i64 n] w fun e w' =>
    e = .returned (.agg #[.int .i64 (stabOf s n 0 s.p0), .int .i64 (stabOf s n 1 s.p1), .int .i64 (stabOf s n 2 s.p2), .int .i64 (stabOf s n 3 s.p3)]) ∧ Below w.heap.size w w' := by
  obtain ⟨hl, ⟨mb, lv, sv, lr, wA, wc, av, hp, n1, n2⟩, hb⟩ := h
  have := rStable_any w0.heap.size y wc r lr wA av n w hp.rs
  unfold stabOf
  rw [show s.id = r.id from hf.rep.id, show s.ot = r.ot from hf.rep.ot, show s.p0 = r.p0 from hf.rep.p0, show s.p1 = r.p1 from hf.rep.p1, show s.p2 = r.p2 from hf.rep.p2, show s.p3 = r.p3 from hf.rep.p3]
  exact this
theorem B2.many (h : B2 w0 w x y s r K) (hf : Full s r) : Calls Tryz.prog 30 #[.pointer (some ⟨x, 0, none⟩)] w fun e w' => e = .returned (.int .i64 (r.L.length : Nat)) ∧ Below w.heap.size w w' := by
  obtain ⟨hl, ⟨mb, lv, sv, lr, wA, wc, av, hp, n1, n2⟩, hb⟩ := h
  have := siteMany_any w0.heap.size x mb s lv sv w hp.si hf.fit9
  have e : lenS s.st 8 = r.L.length := by
    rw [show r.L.length = _ from hf.rep.rep.many]
    simp [lenS]
  rw [← e]
  exact this
theorem B2.all (h : B2 w0 w x y s r K) (hf : Full s r) : Calls Tryz.prog 32 #[.pointer (some ⟨x, 0, none⟩)] w fun e w' => ∃ A' c', e = .returned (.slice A' 8 c') ∧ TsAt w' A' (toldT (fun k => readR s.p0 s.p1 s.p2 s.p3 s.st k) 8) ∧ Below w.heap.size w w' := by
  obtain ⟨hl, ⟨mb, lv, sv, lr, wA, wc, av, hp, n1, n2⟩, hb⟩ := h
  exact siteAll_any w0.heap.size x mb s lv sv w hp.si hf.fit9 hf.inv.dat
theorem B2.told (h : B2 w0 w x y s r K) (hf : Full s r) : Calls Tryz.prog 33 #[.pointer (some ⟨y, 9, none⟩), .agg #[.int .i64 s.p0, .int .i64 s.p1, .int .i64 s.p2, .int .i64 s.p3]] w fun e w' => ∃ A' c', e = .returned (.slice A' 8 c') ∧ TsAt w' A' (toldT (fun k => readR s.p0 s.p1 s.p2 s.p3 s.st k) 8) ∧ Below w.heap.size w w' := by
  obtain ⟨hl, ⟨mb, lv, sv, lr, wA, wc, av, hp, n1, n2⟩, hb⟩ := h
  exact rTold_any y 9 w0.heap.size r.L av s.p0 s.p1 s.p2 s.p3 (fun k => readR s.p0 s.p1 s.p2 s.p3 s.st k) w hp.rs.sto hf.site_ok (by have := hf.len9; omega) (fun k _ => (hf.rep.rep.read s.p0 s.p1 s.p2 s.p3 k).symm) (fun k _ => Nat.le_trans (read_data hf.inv.dat _ _ _ _ _) (by omega))
/-- a slice of transactions, and their writes -/
def TxsAt (w : World) (A : Option Addr) (l : List MTx) : Prop := XsAt w A l ∧ (∀ b o, A = some ⟨b, o, none⟩ → b < w.heap.size) ∧ ∀ m ∈ l, WsAt w m.A m.t.ws
theorem TxsAt.below {A : Option Addr} {l : List MTx} (h : TxsAt w A l) (hb : Below w.heap.size w w') : TxsAt w' A l :=
  ⟨h.1.keep hb.size (fun b o e => hb.block b (h.2.1 b o e)), fun b o e => Nat.lt_of_lt_of_le (h.2.1 b o e) hb.size, fun m hm => (h.2.2 m hm).below hb⟩
theorem B2.missing (h : B2 w0 w x y s r K) (hf : Full s r) (a0 a1 a2 a3 : Int) :
    Calls Tryz.prog 35 #[.pointer (some ⟨x, 0, none⟩), .agg #[.int .i64 a0, .int .i64 a1, .int .i64 a2, .int .i64 a3]] w fun e w' => ∃ (A' : Option Addr) (c' : Nat) (outs : List MTx), e = .returned (.slice A' outs.length c') ∧ outs.map (·.t) = (s.log.map (·.t)).filter (notHasT a0 a1 a2 a3) ∧ TxsAt w' A' outs ∧ Below w.heap.size w w' := by
  obtain ⟨hl, ⟨mb, lv, sv, lr, wA, wc, av, hp, n1, n2⟩, hb⟩ := h
  refine (missing_all w0.heap.size x mb s lv sv a0 a1 a2 a3 w hp.si (hf.rep.log_right.2 hf.rlg) (by have := hf.inv.log; omega)).mono ?_
  rintro e w' ⟨A', c', outs, rfl, h1, h2, h3, h4, h5⟩
  exact ⟨A', c', outs, rfl, h1, ⟨h2, fun b o e => (h3 b o e).2, fun m hm => (h4 m hm).1⟩, h5⟩
theorem B2.rmissing (h : B2 w0 w x y s r K) (hf : Full s r) (a0 a1 a2 a3 : Int) :
    Calls Tryz.prog 36 #[.pointer (some ⟨y, 0, none⟩), .agg #[.int .i64 a0, .int .i64 a1, .int .i64 a2, .int .i64 a3]] w fun e w' => ∃ (A' : Option Addr) (c' : Nat) (outs : List MTx), e = .returned (.slice A' outs.length c') ∧ outs.map (·.t) = (s.log.map (·.t)).filter (notHasT a0 a1 a2 a3) ∧ TxsAt w' A' outs ∧ Below w.heap.size w w' := by
  obtain ⟨hl, ⟨mb, lv, sv, lr, wA, wc, av, hp, n1, n2⟩, hb⟩ := h
  refine (rMissing_any w0.heap.size y wc r lr wA av a0 a1 a2 a3 w hp.rs hf.rlg (by have := hf.len9; omega)).mono ?_
  rintro e w' ⟨A', c', rfl, h2, h3, h5⟩
  refine ⟨A', c', _, rfl, ?_, ⟨h2, fun b o e => (h3 b o e).2, fun m hm => ?_⟩, h5⟩
  · rw [show s.log.map (·.t) = r.log.map (·.t) from hf.rep.log, List.filter_map]; rfl
  · exact (hp.rs.dat m (.inl (List.mem_filter.1 hm).1)).1.below h5
theorem sameTxs_of (hf : Full s r) {a0 a1 a2 a3 : Int} {l1 l2 : List MTx} (e1 : l1.map (·.t) = (s.log.map (·.t)).filter (notHasT a0 a1 a2 a3)) (e2 : l2.map (·.t) = (s.log.map (·.t)).filter (notHasT a0 a1 a2 a3)) {A1 A2 : Option Addr} {c1 c2 : Nat} (h1 : TxsAt w A1 l1) (h2 : TxsAt w A2 l2) :
    Calls Tryz.prog 34 #[.slice A1 l1.length c1, .slice A2 l2.length c2] w fun e w' => e = .returned (.bool true) ∧ Below w.heap.size w w' := by
  refine sameTxs_any A1 A2 c1 c2 l1 l2 w ?_ (e1.trans e2.symm) h1.1 h2.1 (fun m hm => ⟨h1.2.2 m hm, ?_⟩) h2.2.2
  · have h3 := congrArg List.length e1
    rw [List.length_map] at h3
    have h4 := List.length_filter_le (notHasT a0 a1 a2 a3) (s.log.map (·.t))
    rw [List.length_map] at h4
    have := hf.inv.log
    omega
  · have h3 : m.t ∈ l1.map (·.t) := List.mem_map.2 ⟨m, hm, rfl⟩
    rw [e1] at h3
    obtain ⟨m2, h4, h5⟩ := List.mem_map.1 (List.mem_filter.1 h3).1
    have := (rightTx_parts (hf.rep.log_right.2 hf.rlg m2 h4)).2.2.2
    rw [← h5]; omega
/-- the cells that are read of the document's -/
theorem B2.rcells (h : B2 w0 w x y s' r K) (hf : Full s r) : y + 26 ≤ y + 26 ∧ y < w.heap.size ∧ w.cell? ⟨y, 1, none⟩ = some (.int .i64 s.p0) ∧ w.cell? ⟨y, 2, none⟩ = some (.int .i64 s.p1) ∧ w.cell? ⟨y, 3, none⟩ = some (.int .i64 s.p2) ∧ w.cell? ⟨y, 4, none⟩ = some (.int .i64 s.p3) ∧
    (∃ A c, w.cell? ⟨y, 8, none⟩ = some (.slice A s.wn c)) ∧ ∃ A c, w.cell? ⟨y, 9, none⟩ = some (.slice A r.L.length c) := by
  obtain ⟨hl, ⟨mb, lv, sv, lr, wA, wc, av, hp, n1, n2⟩, hb⟩ := h
  have e : s.wn = r.ws.length := by rw [hf.rep.wn]; simp [RsP.r]
  refine ⟨Nat.le_refl _, hp.rs.sto.lt, ?_, ?_, ?_, ?_, ⟨wA, wc, by rw [e]; exact hp.rs.c8⟩, ?_⟩
  · rw [show s.p0 = r.p0 from hf.rep.p0]; exact hp.rs.c1
  · rw [show s.p1 = r.p1 from hf.rep.p1]; exact hp.rs.c2
  · rw [show s.p2 = r.p2 from hf.rep.p2]; exact hp.rs.c3
  · rw [show s.p3 = r.p3 from hf.rep.p3]; exact hp.rs.c4
  · obtain ⟨A, c, rfl⟩ := own_form hp.rs.sto.own
    exact ⟨A, c, hp.rs.sto.cel⟩
theorem B2.roth (h : B2 w0 w x y s' r K) (hf : Full s r) {k : Nat} (hk : k < 16) : w.cell? ⟨y, 10 + k, none⟩ = some (.int .i64 (s.ot k)) ∧ w.frozen? ⟨y, 10 + k, none⟩ = false := by
  obtain ⟨hl, ⟨mb, lv, sv, lr, wA, wc, av, hp, n1, n2⟩, hb⟩ := h
  exact ⟨by rw [show s.ot = r.ot from hf.rep.ot]; exact hp.rs.oth k hk, hp.rs.frz _⟩
end
end Go.Proofs.YtbopfhbeegkkaabGreatDoor
