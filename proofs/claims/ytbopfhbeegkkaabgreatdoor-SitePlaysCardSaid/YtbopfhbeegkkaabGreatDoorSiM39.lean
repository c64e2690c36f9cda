/- Part 39 of a proof: lemmas and contracts that other parts use. -/
import Derived.Test.YtbopfhbeegkkaabGreatDoorSiM25
import Derived.Test.YtbopfhbeegkkaabGreatDoorSiM38
set_option linter.unusedVariables false
set_option linter.unusedSimpArgs false
namespace Go.Proofs.YtbopfhbeegkkaabGreatDoor
open Go.RowKit

theorem runP_has : ∀ (f : Nat) (s : SiP) (m : MTx), Inv s → (runP f s).has m → s.has m
  | 0, s, m, _, h => h
  | f + 1, s, m, hi, h => by
    cases hn : nextOf s with
    | none => rw [runP_stop (.inl hn)] at h; exact h
    | some m1 =>
      by_cases hl : 200 ≤ s.log.length
      · rw [runP_stop (.inr hl)] at h; exact h
      · rw [runP_step hn hl] at h
        obtain ⟨hr, hw, _⟩ := hi.has hn
        have h2 := runP_has f _ m (hi.apply hr hl) h
        unfold SiP.has at *
        rw [applyP_log, applyP_wt] at h2
        rcases h2 with h2 | ⟨a, b, h2⟩
        · rcases List.mem_append.1 h2 with h3 | h3
          · exact .inl h3
          · obtain rfl : m = m1 := by simpa using h3
            exact .inr ⟨_, _, hw⟩
        · have : (s.unwait m1).wt = wset s.wt m1.t.site m1.t.seq none := rfl
          rw [this] at h2
          unfold wset at h2
          split at h2
          · cases h2
          · exact .inr ⟨a, b, h2⟩
theorem wait_has {s : SiP} {m m' : MTx} (h : (s.wait m).has m') : s.has m' ∨ m' = m := by
  unfold SiP.has SiP.wait wset at h
  simp only at h
  rcases h with h | ⟨a, b, h⟩
  · exact .inl (.inl h)
  · split at h
    · cases h; exact .inr rfl
    · exact .inl (.inr ⟨a, b, h⟩)
theorem apply_has {s : SiP} {m m' : MTx} (h : (applyP s m).has m') : s.has m' ∨ m' = m := by
  unfold SiP.has at h
  rw [applyP_log, applyP_wt] at h
  rcases h with h | h
  · rcases List.mem_append.1 h with h | h
    · exact .inl (.inl h)
    · exact .inr (by simpa using h)
  · exact .inl (.inr h)

/-- both in memory -/
structure Pair (w : World) (B x mb : Nat) (s : SiP) (lv : Value) (sv : Nat → Value) (y : Nat) (r : RsP) (lr : Value) (wA : Option Addr) (wc : Nat) (av : Value) : Prop where
  si : SiAt w B x s mb lv sv
  rs : RsAt w B y r lr wA wc av
  ap : ∀ b, SiOwn x mb lv sv b → ¬ RsOwn y lr av b
  wx : ∀ b o, wA = some ⟨b, o, none⟩ → ¬ SiOwn x mb lv sv b
  ds : ∀ m, s.has m → ∀ b o, m.A = some ⟨b, o, none⟩ → ¬ RsOwn y lr av b
  dr : ∀ m, r.has m → ∀ b o, m.A = some ⟨b, o, none⟩ → ¬ SiOwn x mb lv sv b
section
variable {w w' : World} {B x mb y wc : Nat} {s s' : SiP} {lv lr av lv' lr' av' : Value} {sv sv' : Nat → Value} {r r' : RsP} {wA wA' : Option Addr} {wc' : Nat}
theorem Pair.below (h : Pair w B x mb s lv sv y r lr wA wc av) (hb : Below w.heap.size w w') : Pair w' B x mb s lv sv y r lr wA wc av :=
  ⟨h.si.below hb, h.rs.below hb, h.ap, h.wx, h.ds, h.dr⟩
/-- the document's one works -/
theorem Pair.rstep (h : Pair w B x mb s lv sv y r lr wA wc av) (hr : RsAt w' B y r' lr' wA' wc' av') (fr : SiFr w w' (RsOwn y lr av) (RsOwn y lr' av')) (hh : ∀ m, r'.has m → r.has m ∨ ∀ b o, m.A = some ⟨b, o, none⟩ → w.heap.size ≤ b)
    (hw : wA' = wA ∨ ∀ b o, wA' = some ⟨b, o, none⟩ → w.heap.size ≤ b) : Pair w' B x mb s lv sv y r' lr' wA' wc' av' := by
  have hsi : SiAt w' B x s mb lv sv := h.si.beside fr h.ap h.ds
  have hown : ∀ b, b < w.heap.size → RsOwn y lr' av' b → RsOwn y lr av b := fun b hb e => by
    rcases fr.own b e with e2 | e2
    · exact e2
    · omega
  refine ⟨hsi, hr, fun b hb e => h.ap b hb (hown b (h.si.lt hb).2 e), fun b o e hb => ?_, fun m hm b o e hb => h.ds m hm b o e (hown b ((h.si.dat m hm).2 b o e).1 hb), fun m hm b o e hb => ?_⟩
  · rcases hw with rfl | hw
    · exact h.wx b o e hb
    · have := hw b o e; have := (h.si.lt hb).2; omega
  · rcases hh m hm with h2 | h2
    · exact h.dr m h2 b o e hb
    · have := h2 b o e; have := (h.si.lt hb).2; omega
/-- the program's one works -/
theorem Pair.sstep (h : Pair w B x mb s lv sv y r lr wA wc av) (hs : SiAt w' B x s' mb lv' sv') (fr : SiFr w w' (SiOwn x mb lv sv) (SiOwn x mb lv' sv')) (hh : ∀ m, s'.has m → s.has m ∨ ∀ b o, m.A = some ⟨b, o, none⟩ → w.heap.size ≤ b) :
    Pair w' B x mb s' lv' sv' y r lr wA wc av := by
  have hrs : RsAt w' B y r lr wA wc av := h.rs.beside fr (fun b hb e => h.ap b e hb) h.wx h.dr
  have hown : ∀ b, b < w.heap.size → SiOwn x mb lv' sv' b → SiOwn x mb lv sv b := fun b hb e => by
    rcases fr.own b e with e2 | e2
    · exact e2
    · omega
  refine ⟨hs, hrs, fun b hb e => h.ap b (hown b (h.rs.lt e).2 hb) e, fun b o e hb => h.wx b o e (hown b (h.rs.wat.2.2 b o e).1 hb), fun m hm b o e hb => ?_, fun m hm b o e hb => h.dr m hm b o e (hown b ((h.rs.dat m hm).2 b o e).1 hb)⟩
  rcases hh m hm with h2 | h2
  · exact h.ds m h2 b o e hb
  · have := h2 b o e; have := (h.rs.lt hb).2; omega
end
/-- both are the same -/
def Top (s : SiP) : Prop := s.p0 ≤ s.log.length ∧ s.p1 ≤ s.log.length ∧ s.p2 ≤ s.log.length ∧ s.p3 ≤ s.log.length
structure Full (s : SiP) (r : RsP) : Prop where
  rep : SRep s r.r
  inv : Inv s
  rin : RInv r
  top : Top s
  rlg : ∀ m ∈ r.log, rightTx m.t = true
theorem rDrop_len (r : RSi) (j : Nat) : (rDrop r j).ws.length ≤ r.ws.length := by
  unfold rDrop; simp; omega
theorem rRun_len : ∀ (f : Nat) (r : RSi), (rRun f r).ws.length ≤ r.ws.length
  | 0, r => Nat.le_refl _
  | f + 1, r => by
    unfold rRun
    split
    · exact Nat.le_refl _
    · refine Nat.le_trans (rRun_len f _) ?_
      exact rDrop_len r _
theorem Top.at {s : SiP} (h : Top s) (a : Int) : s.at a ≤ s.log.length := by
  obtain ⟨h0, h1, h2, h3⟩ := h
  unfold SiP.at atV
  repeat' split
  all_goals assumption
theorem Top.apply {s : SiP} (h : Top s) {m : MTx} (hs : 0 ≤ m.t.site ∧ m.t.site < 4) (hq : m.t.seq = s.at m.t.site + 1) : Top (applyP s m) := by
  obtain ⟨_, e0, e1, e2, e3, _⟩ := applyP_fields s m hs
  have ht := h.at m.t.site
  obtain ⟨h0, h1, h2, h3⟩ := h
  unfold Top
  rw [e0, e1, e2, e3, applyP_log]
  simp only [List.length_append, List.length_cons, List.length_nil]
  refine ⟨?_, ?_, ?_, ?_⟩ <;> split <;> omega
theorem Top.unwait {s : SiP} (h : Top s) (m : MTx) : Top (s.unwait m) := h
theorem Inv.run : ∀ (f : Nat) {s : SiP}, Inv s → Top s → Inv (runP f s) ∧ Top (runP f s)
  | 0, s, h, ht => ⟨h, ht⟩
  | f + 1, s, h, ht => by
    cases hn : nextOf s with
    | none => rw [runP_stop (.inl hn)]; exact ⟨h, ht⟩
    | some m1 =>
      by_cases hl : 200 ≤ s.log.length
      · rw [runP_stop (.inr hl)]; exact ⟨h, ht⟩
      · rw [runP_step hn hl]
        obtain ⟨hr, hw, hq⟩ := h.has hn
        exact Inv.run f (h.apply hr hl) ((ht.unwait m1).apply (rightTx_parts hr).1 hq)
theorem runP_right : ∀ (f : Nat) {s : SiP}, Inv s → (∀ m ∈ s.log, rightTx m.t = true) → ∀ m ∈ (runP f s).log, rightTx m.t = true
  | 0, s, _, h => h
  | f + 1, s, hi, h => by
    cases hn : nextOf s with
    | none => rw [runP_stop (.inl hn)]; exact h
    | some m1 =>
      by_cases hl : 200 ≤ s.log.length
      · rw [runP_stop (.inr hl)]; exact h
      · rw [runP_step hn hl]
        obtain ⟨hr, hw, hq⟩ := hi.has hn
        refine runP_right f (hi.apply hr hl) fun m hm => ?_
        rw [applyP_log] at hm
        rcases List.mem_append.1 hm with e | e
        · exact h m e
        · obtain rfl : m = m1 := by simpa using e
          exact hr
theorem SRep.log_right {s : SiP} {r : RsP} (h : SRep s r.r) : (∀ m ∈ s.log, rightTx m.t = true) ↔ ∀ m ∈ r.log, rightTx m.t = true := by
  have e : s.log.map (·.t) = r.log.map (·.t) := h.log
  constructor
  · intro h1 m hm
    have : m.t ∈ s.log.map (·.t) := by rw [e]; exact List.mem_map.2 ⟨m, hm, rfl⟩
    obtain ⟨m2, h2, h3⟩ := List.mem_map.1 this
    rw [← h3]; exact h1 m2 h2
  · intro h1 m hm
    have : m.t ∈ r.log.map (·.t) := by rw [← e]; exact List.mem_map.2 ⟨m, hm, rfl⟩
    obtain ⟨m2, h2, h3⟩ := List.mem_map.1 this
    rw [← h3]; exact h1 m2 h2
theorem takeE_parts {s : SiP} {t : TxP} (he : takeE s t = 0) : rightTx t = true := by
  unfold takeE at he
  split at he
  · cases he
  · rename_i k1
    cases hr : rightTx t with
    | true => rfl
    | false => exact absurd (.inl hr) k1
theorem Full.take {s : SiP} {r r' : RsP} (h : Full s r) {t : TxP} (he : takeE s t = 0) (A : Option Addr) (c : Nat) (hr : RInv r') (e : r'.r = rRun (r.r.ws.length + 1) { r.r with ws := r.r.ws ++ [t] }) :
    Full (runP (s.wn + 1) (s.wait ⟨t, A, c⟩)) r' ∧ (runP (s.wn + 1) (s.wait ⟨t, A, c⟩)).wn ≤ s.wn + 1 := by
  have h1 := takeE_parts he
  have hrep := h.rep.take h.inv he A c
  rw [← e] at hrep
  obtain ⟨i1, i2⟩ := (h.inv.wait (m := ⟨t, A, c⟩) h1).run (s.wn + 1) h.top
  refine ⟨⟨hrep, i1, hr, i2, hrep.log_right.1 (runP_right _ (h.inv.wait (m := ⟨t, A, c⟩) h1) (h.rep.log_right.2 h.rlg))⟩, ?_⟩
  rw [hrep.wn, e, h.rep.wn]
  refine Nat.le_trans (rRun_len _ _) ?_
  simp
theorem commit_right {s : SiP} (hi : Inv s) (ht : Top s) {now d0 d1 d2 d3 : Int} {ws : List WrP} (he : commitE s now d0 d1 d2 d3 ws = 0) : rightTx (commitT s now d0 d1 d2 d3 ws) = true ∧ ¬ 200 ≤ s.log.length := by
  unfold commitE at he
  split at he
  · cases he
  rename_i k1
  split at he
  · cases he
  rename_i k2
  split at he
  · cases he
  rename_i k3
  have hws : rightWs ws = true := by cases hr : rightWs ws with | true => rfl | false => exact absurd hr k1
  have hd : rgtB d0 d1 d2 d3 = true := by cases hr : rgtB d0 d1 d2 d3 with | true => rfl | false => exact absurd (.inl hr) k2
  refine ⟨?_, k3⟩
  have hn : (0 ≤ nextW s.lw now ∧ nextW s.lw now ≤ 1099511627776) ∧ (0 ≤ nextC s.lw s.lc now ∧ nextC s.lw s.lc now ≤ 1099511627776) := by
    unfold nextE at he
    split at he
    · cases he
    rename_i j1
    have hrs : rightS s.lw s.lc = true := by cases hr : rightS s.lw s.lc with | true => rfl | false => exact absurd (.inl hr) j1
    obtain ⟨b1, b2⟩ := rightS_bd hrs
    unfold nextW nextC
    split at he
    · rename_i j2
      rw [if_pos j2, if_pos j2]
      omega
    · rename_i j2
      rw [if_neg j2, if_neg j2]
      split at he
      · cases he
      · omega
  simp only [rgtB, Bool.and_eq_true, decide_eq_true_eq] at hd
  obtain ⟨⟨⟨g0, g1⟩, g2⟩, g3⟩ := hd
  obtain ⟨q0, q1, q2, q3⟩ := hi.ap
  have hat := ht.at s.id
  have hge := (okAp.at hi.ap s.id).1
  have hl := hi.log
  have hid := hi.id
  have hp : ∀ (i p d : Int), (0 ≤ p ∧ p ≤ 1099511627776) → (0 ≤ d ∧ d ≤ 1099511627776) → okN (if s.id = i then p else d) = true := fun i p d h1 h2 => by
    unfold okN
    split <;> (simp; omega)
  unfold rightTx headTx commitT
  simp only [Bool.and_eq_true, decide_eq_true_eq]
  refine ⟨⟨⟨⟨⟨⟨hid, by omega, by omega⟩, ?_⟩, ?_⟩, ⟨⟨hp 0 _ _ q0 g0, hp 1 _ _ q1 g1⟩, hp 2 _ _ q2 g2⟩, hp 3 _ _ q3 g3⟩, ?_⟩, hws⟩
  · unfold okN; simp; omega
  · unfold okN; simp; omega
  · unfold depAt SiP.at atV
    have hc : s.id = 0 ∨ s.id = 1 ∨ s.id = 2 ∨ s.id = 3 := by omega
    rcases hc with hc | hc | hc | hc <;> simp [hc]
theorem Inv.applyC {s : SiP} (h : Inv s) {m : MTx} (hr : rightTx m.t = true) (hl : ¬ 200 ≤ s.log.length) : Inv (applyP s m) := by
  obtain ⟨r1, r2, r3, r4⟩ := rightTx_parts hr
  refine ⟨okAp_apply h.ap ⟨by omega, by omega⟩, h.id, ?_, ?_, stPut_dat h.dat _ _, ?_⟩
  · intro a b m' e
    rw [applyP_wt] at e
    exact h.wt a b m' e
  · rw [applyP_st, applyP_log]
    refine (stPut_fit h.fit m.t m.t.ws.length).mono ?_
    simp only [List.length_append, List.length_cons, List.length_nil]
    omega
  · rw [applyP_log]
    simp only [List.length_append, List.length_cons, List.length_nil]
    omega
theorem Full.commit {s : SiP} {r : RsP} (h : Full s r) {now d0 d1 d2 d3 : Int} {ws : List WrP} (he : commitE s now d0 d1 d2 d3 ws = 0) (A A2 : Option Addr) (c c2 : Nat) :
    Full (applyP s ⟨commitT s now d0 d1 d2 d3 ws, A, c⟩) (applyR r ⟨commitT s now d0 d1 d2 d3 ws, A2, c2⟩) := by
  obtain ⟨hr, hl⟩ := commit_right h.inv h.top he
  have hp := (rightTx_parts hr).1
  refine ⟨?_, h.inv.applyC hr hl, h.rin.apply hr, h.top.apply hp ?_, fun m hm => ?_⟩
  · rw [applyR_r _ _ hp]; exact h.rep.apply hp
  · unfold commitT; rfl
  · rw [applyR_log] at hm
    rcases List.mem_append.1 hm with e | e
    · exact h.rlg m e
    · obtain rfl : m = _ := by simpa using e
      exact hr
theorem Full.knows {s : SiP} {r : RsP} (h : Full s r) (f : Nat → Int) (r' : RsP) (e : r'.r = { r.r with ot := f }) (hl : r'.log = r.log) (hw : r'.ws = r.ws) (hi : RInv r') : Full { s with ot := f } r' := by
  obtain ⟨a1, a2, a3, a4, a5, a6, a7, a8, a9, a10, a11, a12, a13, a14⟩ := h.rep
  refine ⟨?_, ⟨h.inv.ap, h.inv.id, h.inv.wt, h.inv.fit, h.inv.dat, h.inv.log⟩, hi, h.top, fun m hm => h.rlg m (hl ▸ hm)⟩
  rw [e]
  exact ⟨a1, a2, a3, a4, a5, a6, a7, a8, a9, a10, a11, a12, a13, rfl⟩
def rNew (id : Int) : RsP := ⟨id, 0, 0, 0, 0, 0, 0, [], [], [], fun _ => 0⟩
theorem Full.fresh {id : Int} (h : 0 ≤ id ∧ id < 4) : Full (siNew id) (rNew id) :=
  ⟨SRep.fresh id, ⟨⟨⟨by simp [siNew], by simp [siNew]⟩, ⟨by simp [siNew], by simp [siNew]⟩, ⟨by simp [siNew], by simp [siNew]⟩, ⟨by simp [siNew], by simp [siNew]⟩⟩, h, fun a b m e => by simp [siNew] at e, fun k _ => ⟨fun x hx => by simp [siNew] at hx, Nat.zero_le _⟩, fun k _ v hv => by simp [siNew] at hv, by simp [siNew]⟩,
    ⟨h, fun a => by unfold RsP.at atV rNew; simp, fun m hm => by simp [rNew] at hm, by simp [rNew]⟩, ⟨by simp [siNew], by simp [siNew], by simp [siNew], by simp [siNew]⟩, fun m hm => by simp [rNew] at hm⟩
theorem Full.site_ok {s : SiP} {r : RsP} (h : Full s r) : ∀ p ∈ r.L, 0 ≤ p.v.site ∧ p.v.site < 4 := h.rep.rep.site
theorem Full.sweep {s : SiP} {r : RsP} (h : Full s r) (a0 a1 a2 a3 : Int) : Full { s with st := fun k => sweepV a0 a1 a2 a3 (s.st k) } { r with L := rSweep a0 a1 a2 a3 r.L } := by
  obtain ⟨b1, b2, b3, b4, b5, b6, b7, b8, b9, b10, b11, b12, b13, b14⟩ := h.rep
  refine ⟨⟨b1, b2, b3, b4, b5, b6, b7, b8, b9, b10, b11, b12, b13.sweep a0 a1 a2 a3, b14⟩, ⟨h.inv.ap, h.inv.id, h.inv.wt, fun k hk => ⟨fun x hx => (h.inv.fit k hk).1 x (sweepV_sub hx), ?_⟩, fun k hk v hv => h.inv.dat k hk v (sweepV_sub hv), h.inv.log⟩, ⟨h.rin.id, h.rin.ap, h.rin.rt, ?_⟩, h.top, h.rlg⟩
  · exact Nat.le_trans (sweepV_len _ _ _ _ _) (h.inv.fit k hk).2
  · refine Nat.le_trans ?_ h.rin.len
    show (rSweep a0 a1 a2 a3 r.L).length ≤ _
    unfold rSweep; exact List.length_filter_le _ _
end Go.Proofs.YtbopfhbeegkkaabGreatDoor
