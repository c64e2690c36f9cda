/- Part 25 of a proof: lemmas and contracts that other parts use. -/
import Derived.Test.YtbopfhbeegkkaabGreatDoorSiM24
import Derived.Test.YtbopfhbeegkkaabGreatDoorSiM19
set_option linter.unusedVariables false
set_option linter.unusedSimpArgs false
namespace Go.Proofs.YtbopfhbeegkkaabGreatDoor
open Go.RowKit

set_option maxRecDepth 20000 in
set_option maxHeartbeats 16000000 in
theorem commit_any (B x mb : Nat) (s : SiP) (lv : Value) (sv : Nat → Value) (now d0 d1 d2 d3 : Int) (A : Option Addr) (c : Nat) (ws : List WrP) (w : World) (h : SiAt w B x s mb lv sv) (hi : Inv s) (hws : WsAt w A ws) (hn : ws.length ≤ 1000000) :
    Calls Tryz.prog 15 #[.pointer (some ⟨x, 0, none⟩), .int .i64 now, .agg #[.int .i64 d0, .int .i64 d1, .int .i64 d2, .int .i64 d3], .slice A ws.length c] w
      (CommitPost B x mb s lv sv (commitE s now d0 d1 d2 d3 ws) (commitT s now d0 d1 d2 d3 ws) w) := by
  have HDN : Hid (∀ (n : Int) (w' : World), n ≠ 0 → commitE s now d0 d1 d2 d3 ws = n → Below w.heap.size w w' → CommitPost B x mb s lv sv (commitE s now d0 d1 d2 d3 ws) (commitT s now d0 d1 d2 d3 ws) w (.returned (.tuple #[txZero, errV n])) w') := hidp (fun n w' h1 h2 h3 => ⟨fun _ => ⟨by rw [h2], h3⟩, fun e => absurd (h2 ▸ e) h1⟩)
  have HCE : Hid (commitE s now d0 d1 d2 d3 ws = if rightWs ws = false then 1 else if rgtB d0 d1 d2 d3 = false ∨ covD s.p0 s.p1 s.p2 s.p3 d0 d1 d2 d3 = false then 10 else if 200 ≤ s.log.length then 12 else nextE s.lw s.lc now) := hidp rfl
  have HS := hidp h
  have HI := hidp hi
  have HWS := hidp hws
  have HN := hidp hn
  obtain ⟨Al, cl, hlv⟩ := own_form h.row
  have c7 := h.c7
  rw [hlv] at c7
  have HLV := hidp hlv
  obtain ⟨c1, c2, c3, c4⟩ := h.vec
  have c5 := h.c5
  have c6 := h.c6
  have c0 := h.c0
  haveI : SzGe (x + 1) w := ⟨h.sto.lt⟩
  clear h hi hlv
  cases hrw : rightWs ws
  · have HRW := hidp fun W (hB : Below w.heap.size w W) => rightWs_is hrw A c W hn (HWS.out.below hB)
    have HE : Hid (commitE s now d0 d1 d2 d3 ws = 1) := hidp (by rw [HCE.out, if_pos hrw])
    clear hrw hws
    go_enter Tryz.func15, Tryz.ntmps15
    go_wp2_with fail
    go_at_call 76
    refine (HRW.out _ (by repeat (first | exact Below.refl _ _ | refine blw_alloc ?_ | refine blw_plus ?_ | refine Below.drew ?_))).mono ?_
    rintro e w' ⟨rfl, hb⟩
    obtain ⟨x1, rfl⟩ := wplus_of_below hb
    clear hb
    go_wp2_with fail
    refine bodyPost_ret (v := .tuple #[txZero, errV 1]) ?_ rfl (HDN.out 1 _ (by decide) HE.out (by repeat (first | exact Below.refl _ _ | refine blw_alloc ?_ | refine blw_plus ?_ | refine Below.drew ?_)))
    simp [results, Tryz.results15, go_sem, txZero]
    rfl
  have HRW := hidp fun W (hB : Below w.heap.size w W) => rightWs_is hrw A c W hn (HWS.out.below hB)
  have HRW2 := hidp hrw
  clear hrw hws
  cases hrv : rgtB d0 d1 d2 d3
  · have HRV := hidp fun W => right_is hrv W
    have HCV := hidp True.intro
    have HE : Hid (commitE s now d0 d1 d2 d3 ws = 10) := hidp (by rw [HCE.out, if_neg (by rw [HRW2.out]; simp), if_pos (.inl hrv)])
    clear hrv
    go_enter Tryz.func15, Tryz.ntmps15
    go_wp2_with fail
    go_at_call 76
    refine (HRW.out _ (by repeat (first | exact Below.refl _ _ | refine blw_alloc ?_ | refine blw_plus ?_ | refine Below.drew ?_))).mono ?_
    rintro e w' ⟨rfl, hb⟩
    obtain ⟨x1, rfl⟩ := wplus_of_below hb
    clear hb
    go_wp2_with fail
    refine wp_region_plus (by kernel_rfl) (by kernel_rfl) ?_
    repeat (first | go_big_quiet_skip | (go_big_quiet_want; go_big_quiet_op; first | go_big_quiet_on | (apply Exists.intro; refine ⟨fun _ => ?_, ?_⟩; (go_at_call 77; exact Calls.plus_of (HRV.out _)); go_big_quiet_on)))
    refine wpQuiet_nil ?_
    rintro _ ⟨x2, rfl⟩
    go_wp2_with fail
    refine bodyPost_ret (v := .tuple #[txZero, errV 10]) ?_ rfl (HDN.out 10 _ (by decide) HE.out (by repeat (first | exact Below.refl _ _ | refine blw_alloc ?_ | refine blw_plus ?_ | refine Below.drew ?_)))
    simp [results, Tryz.results15, go_sem, txZero]
    rfl
  cases hcv : covD s.p0 s.p1 s.p2 s.p3 d0 d1 d2 d3
  · have HRV := hidp fun W => right_is hrv W
    have HCV := hidp fun W => covers_is hcv W
    have HE : Hid (commitE s now d0 d1 d2 d3 ws = 10) := hidp (by rw [HCE.out, if_neg (by rw [HRW2.out]; simp), if_pos (.inr hcv)])
    clear hrv hcv
    go_enter Tryz.func15, Tryz.ntmps15
    go_wp2_with fail
    go_at_call 76
    refine (HRW.out _ (by repeat (first | exact Below.refl _ _ | refine blw_alloc ?_ | refine blw_plus ?_ | refine Below.drew ?_))).mono ?_
    rintro e w' ⟨rfl, hb⟩
    obtain ⟨x1, rfl⟩ := wplus_of_below hb
    clear hb
    go_wp2_with fail
    refine wp_region_plus (by kernel_rfl) (by kernel_rfl) ?_
    repeat (first | go_big_quiet_skip | (go_big_quiet_want; go_big_quiet_op; first | go_big_quiet_on | (apply Exists.intro; refine ⟨fun _ => ?_, ?_⟩; (first | (go_at_call 77; exact Calls.plus_of (HRV.out _)) | (go_at_call 55; exact Calls.plus_of (HCV.out _))); go_big_quiet_on)))
    refine wpQuiet_nil ?_
    rintro _ ⟨x2, rfl⟩
    go_wp2_with fail
    refine bodyPost_ret (v := .tuple #[txZero, errV 10]) ?_ rfl (HDN.out 10 _ (by decide) HE.out (by repeat (first | exact Below.refl _ _ | refine blw_alloc ?_ | refine blw_plus ?_ | refine Below.drew ?_)))
    simp [results, Tryz.results15, go_sem, txZero]
    rfl
  have HRV := hidp fun W => right_is hrv W
  have HCV := hidp fun W => covers_is hcv W
  have HRV2 := hidp hrv
  have HCV2 := hidp hcv
  have HNO : Hid (¬ (rgtB d0 d1 d2 d3 = false ∨ covD s.p0 s.p1 s.p2 s.p3 d0 d1 d2 d3 = false)) := hidp (by rw [hrv, hcv]; simp)
  clear hrv hcv
  by_cases h200 : 200 ≤ s.log.length
  · have hd3 : decide ((200 : Int) ≤ (s.log.length : Int)) = true := decide_eq_true (by omega)
    have HE : Hid (commitE s now d0 d1 d2 d3 ws = 12) := hidp (by rw [HCE.out, if_neg (by rw [HRW2.out]; simp), if_neg HNO.out, if_pos h200])
    clear h200
    go_enter Tryz.func15, Tryz.ntmps15
    go_wp2_with fail
    go_at_call 76
    refine (HRW.out _ (by repeat (first | exact Below.refl _ _ | refine blw_alloc ?_ | refine blw_plus ?_ | refine Below.drew ?_))).mono ?_
    rintro e w' ⟨rfl, hb⟩
    obtain ⟨x1, rfl⟩ := wplus_of_below hb
    clear hb
    go_wp2_with fail
    refine wp_region_plus (by kernel_rfl) (by kernel_rfl) ?_
    repeat (first | go_big_quiet_skip | (go_big_quiet_want; go_big_quiet_op; first | go_big_quiet_on | (apply Exists.intro; refine ⟨fun _ => ?_, ?_⟩; (first | (go_at_call 77; exact Calls.plus_of (HRV.out _)) | (go_at_call 55; exact Calls.plus_of (HCV.out _))); go_big_quiet_on)))
    refine wpQuiet_nil ?_
    rintro _ ⟨x2, rfl⟩
    go_wp2_with fail
    refine bodyPost_ret (v := .tuple #[txZero, errV 12]) ?_ rfl (HDN.out 12 _ (by decide) HE.out (by repeat (first | exact Below.refl _ _ | refine blw_alloc ?_ | refine blw_plus ?_ | refine Below.drew ?_)))
    simp [results, Tryz.results15, go_sem, txZero]
    rfl
  have hd3 : decide ((200 : Int) ≤ (s.log.length : Int)) = false := decide_eq_false (by omega)
  have HE0 : Hid (commitE s now d0 d1 d2 d3 ws = nextE s.lw s.lc now) := hidp (by rw [HCE.out, if_neg (by rw [HRW2.out]; simp), if_neg HNO.out, if_neg h200])
  have H200 := hidp h200
  clear h200
  have HNX := hidp fun W => next_is s.lw s.lc now W
  obtain ⟨en, hen⟩ : ∃ en, nextE s.lw s.lc now = en := ⟨_, rfl⟩
  rw [hen] at HNX HE0
  have HEN := hidp hen
  clear hen
  by_cases hn0 : en = 0
  · refine (commit_good B x mb s lv sv now d0 d1 d2 d3 A c ws w HS.out HI.out HWS.out HN.out HRW2.out HRV2.out HCV2.out H200.out (HEN.out.trans hn0)).mono ?_
    intro e w' hp
    refine ⟨fun hne => absurd (HE0.out.trans hn0) hne, fun _ => hp⟩
  · have HE := HE0
    have hev : errV en = .iface 29 (.int .i64 en) := by unfold errV; rw [if_neg hn0]
    simp only [if_neg hn0, hev] at HNX
    have HN0 := hidp hn0
    clear hn0
    go_enter Tryz.func15, Tryz.ntmps15
    go_wp2_with fail
    go_at_call 76
    refine (HRW.out _ (by repeat (first | exact Below.refl _ _ | refine blw_alloc ?_ | refine blw_plus ?_ | refine Below.drew ?_))).mono ?_
    rintro e w' ⟨rfl, hb⟩
    obtain ⟨x1, rfl⟩ := wplus_of_below hb
    clear hb
    go_wp2_with fail
    refine wp_region_plus (by kernel_rfl) (by kernel_rfl) ?_
    repeat (first | go_big_quiet_skip | (go_big_quiet_want; go_big_quiet_op; first | go_big_quiet_on | (apply Exists.intro; refine ⟨fun _ => ?_, ?_⟩; (first | (go_at_call 77; exact Calls.plus_of (HRV.out _)) | (go_at_call 55; exact Calls.plus_of (HCV.out _))); go_big_quiet_on)))
    refine wpQuiet_nil ?_
    rintro _ ⟨x2, rfl⟩
    go_wp2_with fail
    go_at_call 78
    refine (HNX.out _).mono ?_
    rintro e w' ⟨rfl, hb⟩
    obtain ⟨x3, rfl⟩ := wplus_of_below hb
    clear hb
    go_wp2_with fail
    refine bodyPost_ret (v := .tuple #[txZero, errV en]) ?_ rfl (HDN.out en _ HN0.out HE.out (by repeat (first | exact Below.refl _ _ | refine blw_alloc ?_ | refine blw_plus ?_ | refine Below.drew ?_)))
    rw [hev]
    simp [results, Tryz.results15, go_sem, txZero]
end Go.Proofs.YtbopfhbeegkkaabGreatDoor

namespace Go.Proofs.YtbopfhbeegkkaabGreatDoor

/-- the last one of a key among those that a vector has, as the document's program looks for it -/
def rlGo (a0 a1 a2 a3 : Int) (key : Int) : List PtP → VerP → Bool → VerP × Bool
  | [], b, s => (b, s)
  | h :: l, b, s => if h.key = key ∧ seenV a0 a1 a2 a3 h.v = true ∧ (s = false ∨ cmpV b h.v < 0) then rlGo a0 a1 a2 a3 key l h.v true else rlGo a0 a1 a2 a3 key l b s
def rLast (a0 a1 a2 a3 : Int) (key : Int) (L : List PtP) : VerP × Bool := rlGo a0 a1 a2 a3 key L verZ false
def rRead (a0 a1 a2 a3 : Int) (L : List PtP) (key : Int) : VerP × Int :=
  if key < 0 ∨ 8 ≤ key then (verZ, 2) else if (rLast a0 a1 a2 a3 key L).2 = false ∨ (rLast a0 a1 a2 a3 key L).1.gone = true then (verZ, 8) else ((rLast a0 a1 a2 a3 key L).1, 0)
def rTwice (L : List PtP) (key : Int) (v : VerP) : Bool := L.any fun h => sameB h ⟨key, v⟩
def rPut (L : List PtP) (key : Int) (v : VerP) : Int × List PtP :=
  if key < 0 ∨ 8 ≤ key then (2, L) else if rightV v = false then (1, L) else if rTwice L key v = true then (9, L) else (0, L ++ [⟨key, v⟩])
open Classical in
noncomputable def rKeep (a0 a1 a2 a3 : Int) (L : List PtP) (h : PtP) : Bool :=
  (rLast a0 a1 a2 a3 h.key L).2 == false || decide ((rLast a0 a1 a2 a3 h.key L).1 = h.v) || !seenV a0 a1 a2 a3 h.v
noncomputable def rSweep (a0 a1 a2 a3 : Int) (L : List PtP) : List PtP := L.filter (rKeep a0 a1 a2 a3 L)

/-- the eight rows are the row's, each key's sorted -/
structure Rep (S : Nat → List VerP) (L : List PtP) : Prop where
  key : ∀ p ∈ L, 0 ≤ p.key ∧ p.key < 8
  site : ∀ p ∈ L, 0 ≤ p.v.site ∧ p.v.site < 4
  srt : ∀ k, k < 8 → Srt (S k)
  perm : ∀ k, k < 8 → (S k).Perm ((L.filter fun p => decide (p.key = (k : Int))).map (·.v))
theorem Rep.nil : Rep (fun _ => []) [] := ⟨fun p h => (by cases h), fun p h => (by cases h), fun _ _ => List.Pairwise.nil, fun _ _ => List.Perm.refl _⟩
theorem Rep.mem {S : Nat → List VerP} {L : List PtP} (h : Rep S L) {k : Nat} (hk : k < 8) (x : VerP) : x ∈ S k ↔ ∃ p ∈ L, p.key = k ∧ p.v = x := by
  rw [(h.perm k hk).mem_iff]
  simp only [List.mem_map, List.mem_filter, decide_eq_true_eq]
  constructor
  · rintro ⟨p, ⟨h1, h2⟩, h3⟩; exact ⟨p, h1, h2, h3⟩
  · rintro ⟨p, h1, h2, h3⟩; exact ⟨p, ⟨h1, h2⟩, h3⟩
theorem len_split : ∀ (L : List PtP), (∀ p ∈ L, 0 ≤ p.key ∧ p.key < 8) → L.length = (L.filter fun p => decide (p.key = ((0 : Nat) : Int))).length + (L.filter fun p => decide (p.key = ((1 : Nat) : Int))).length + (L.filter fun p => decide (p.key = ((2 : Nat) : Int))).length + (L.filter fun p => decide (p.key = ((3 : Nat) : Int))).length + (L.filter fun p => decide (p.key = ((4 : Nat) : Int))).length + (L.filter fun p => decide (p.key = ((5 : Nat) : Int))).length + (L.filter fun p => decide (p.key = ((6 : Nat) : Int))).length + (L.filter fun p => decide (p.key = ((7 : Nat) : Int))).length
  | [], _ => rfl
  | p :: L, h => by
    have ih := len_split L (fun q hq => h q (List.mem_cons_of_mem _ hq))
    obtain ⟨h1, h2⟩ := h p (by simp)
    have hc : p.key = 0 ∨ p.key = 1 ∨ p.key = 2 ∨ p.key = 3 ∨ p.key = 4 ∨ p.key = 5 ∨ p.key = 6 ∨ p.key = 7 := by omega
    rcases hc with e | e | e | e | e | e | e | e <;> simp [List.filter_cons, e] at ih ⊢ <;> omega
theorem Rep.many {S : Nat → List VerP} {L : List PtP} (h : Rep S L) : L.length = (S 0).length + (S 1).length + (S 2).length + (S 3).length + (S 4).length + (S 5).length + (S 6).length + (S 7).length := by
  have e : ∀ k, k < 8 → (S k).length = (L.filter fun p => decide (p.key = (k : Int))).length := fun k hk => by
    rw [(h.perm k hk).length_eq, List.length_map]
  rw [e 0 (by omega), e 1 (by omega), e 2 (by omega), e 3 (by omega), e 4 (by omega), e 5 (by omega), e 6 (by omega), e 7 (by omega)]
  exact len_split L h.key
theorem rlGo_spec (a0 a1 a2 a3 : Int) (key : Int) : ∀ (l : List PtP) (b : VerP) (s : Bool),
    ((rlGo a0 a1 a2 a3 key l b s).2 = false → s = false ∧ ∀ p ∈ l, p.key = key → seenV a0 a1 a2 a3 p.v = false) ∧
    ((rlGo a0 a1 a2 a3 key l b s).2 = true → ((s = true ∧ (rlGo a0 a1 a2 a3 key l b s).1 = b) ∨ ∃ p ∈ l, p.key = key ∧ seenV a0 a1 a2 a3 p.v = true ∧ p.v = (rlGo a0 a1 a2 a3 key l b s).1) ∧
      (s = true → ¬ ltV (rlGo a0 a1 a2 a3 key l b s).1 b) ∧ ∀ p ∈ l, p.key = key → seenV a0 a1 a2 a3 p.v = true → ¬ ltV (rlGo a0 a1 a2 a3 key l b s).1 p.v) ∧
    ((rlGo a0 a1 a2 a3 key l b s).2 = false → (rlGo a0 a1 a2 a3 key l b s).1 = b)
  | [], b, s => by
    simp only [rlGo]
    exact ⟨fun h => ⟨h, fun p hp => (by cases hp)⟩, fun h => ⟨.inl ⟨h, trivial⟩, fun _ h2 => ltV_irr h2 h2, fun p hp => (by cases hp)⟩, fun _ => trivial⟩
  | p :: l, b, s => by
    unfold rlGo
    split
    · rename_i hc
      obtain ⟨c1, c2, c3⟩ := hc
      obtain ⟨i1, i2, _⟩ := rlGo_spec a0 a1 a2 a3 key l p.v true
      refine ⟨fun h => ?_, fun h => ?_, fun h => ?_⟩
      · cases (i1 h).1
      · obtain ⟨j1, j2, j3⟩ := i2 h
        refine ⟨.inr ?_, ?_, ?_⟩
        · rcases j1 with ⟨_, j1⟩ | ⟨q, h1, h2⟩
          · exact ⟨p, by simp, c1, c2, j1.symm⟩
          · exact ⟨q, List.mem_cons_of_mem _ h1, h2⟩
        · intro hs hl
          rcases c3 with c3 | c3
          · rw [hs] at c3; cases c3
          · exact j2 rfl (ltV_trans hl ((cmpV_neg _ _).1 c3))
        · intro q hq hk hs
          rcases List.mem_cons.1 hq with rfl | hq
          · exact j2 rfl
          · exact j3 q hq hk hs
      · cases (i1 h).1
    · rename_i hc
      obtain ⟨i1, i2, i3⟩ := rlGo_spec a0 a1 a2 a3 key l b s
      refine ⟨fun h => ?_, fun h => ?_, i3⟩
      · obtain ⟨j1, j2⟩ := i1 h
        refine ⟨j1, fun q hq hk => ?_⟩
        rcases List.mem_cons.1 hq with rfl | hq
        · rw [Bool.eq_false_iff]
          intro hs
          exact hc ⟨hk, hs, .inl j1⟩
        · exact j2 q hq hk
      · obtain ⟨j1, j2, j3⟩ := i2 h
        refine ⟨?_, j2, ?_⟩
        · rcases j1 with j1 | ⟨q, h1, h2⟩
          · exact .inl j1
          · exact .inr ⟨q, List.mem_cons_of_mem _ h1, h2⟩
        · intro q hq hk hs
          rcases List.mem_cons.1 hq with rfl | hq
          · intro hl
            have hst : s = true := by
              cases hsb : s with
              | true => rfl
              | false => exact (hc ⟨hk, hs, .inl hsb⟩).elim
            have h2 : ¬ ltV b q.v := fun e => hc ⟨hk, hs, .inr ((cmpV_neg _ _).2 e)⟩
            have h3 := j2 hst
            revert hl h2 h3
            unfold ltV
            omega
          · exact j3 q hq hk hs
theorem Rep.last {S : Nat → List VerP} {L : List PtP} (h : Rep S L) (a0 a1 a2 a3 : Int) {k : Nat} (hk : k < 8) :
    rLast a0 a1 a2 a3 k L = match findV a0 a1 a2 a3 (S k) with | some v => (v, true) | none => (verZ, false) := by
  obtain ⟨h1, h2, h3⟩ := rlGo_spec a0 a1 a2 a3 k L verZ false
  cases hr : (rlGo a0 a1 a2 a3 k L verZ false).2 with
  | false =>
    have hn : findV a0 a1 a2 a3 (S k) = none := by
      rw [find_none]
      intro x hx
      obtain ⟨p, hp, e1, rfl⟩ := (h.mem hk x).1 hx
      exact (h1 hr).2 p hp e1
    rw [hn]
    exact Prod.ext (h3 hr) hr
  | true =>
    obtain ⟨j1, _, j3⟩ := h2 hr
    rcases j1 with ⟨e, _⟩ | ⟨p, hp, e1, e2, e3⟩
    · cases e
    · have hf : findV a0 a1 a2 a3 (S k) = some p.v := by
        rw [find_some (h.srt k hk)]
        have hm : p.v ∈ S k := (h.mem hk _).2 ⟨p, hp, e1, rfl⟩
        refine ⟨hm, e2, fun y hy hsy => ?_⟩
        obtain ⟨q, hq, f1, rfl⟩ := (h.mem hk y).1 hy
        have := j3 q hq f1 hsy
        rw [← e3] at this
        rcases srt_uniq (h.srt k hk) hy hm with e | e | e
        · exact .inl e
        · exact .inr e
        · exact absurd e this
      rw [hf]
      exact Prod.ext e3.symm hr
theorem Rep.read {S : Nat → List VerP} {L : List PtP} (h : Rep S L) (a0 a1 a2 a3 : Int) (key : Int) : rRead a0 a1 a2 a3 L key = readR a0 a1 a2 a3 S key := by
  unfold rRead readR
  split
  · rfl
  · rename_i hk
    have hl := h.last a0 a1 a2 a3 (k := key.toNat) (by omega)
    rw [show ((key.toNat : Nat) : Int) = key by omega] at hl
    rw [hl]
    cases findV a0 a1 a2 a3 (S key.toNat) with
    | none => simp
    | some v => simp
theorem Rep.put {S : Nat → List VerP} {L : List PtP} (h : Rep S L) (key : Int) (v : VerP) : (rPut L key v).1 = (putR S key v).1 ∧ Rep (putR S key v).2 (rPut L key v).2 := by
  unfold rPut putR
  split
  · exact ⟨rfl, h⟩
  · rename_i hk
    split
    · exact ⟨rfl, h⟩
    · rename_i hr
      have hkk : key.toNat < 8 := by omega
      have htw : rTwice L key v = bsF (S key.toNat) v := by
        rw [Bool.eq_iff_iff, bsF_iff (h.srt _ hkk)]
        unfold rTwice
        rw [List.any_eq_true]
        constructor
        · rintro ⟨p, hp, hs⟩
          obtain ⟨e1, e2⟩ := (sameB_iff _ _).1 hs
          exact ⟨p.v, (h.mem hkk _).2 ⟨p, hp, by simp only at e1; omega, rfl⟩, e2⟩
        · rintro ⟨x, hx, hs⟩
          obtain ⟨p, hp, e1, rfl⟩ := (h.mem hkk _).1 hx
          exact ⟨p, hp, (sameB_iff _ _).2 ⟨by simp only; omega, hs⟩⟩
      rw [htw]
      split
      · exact ⟨rfl, h⟩
      · rename_i hf
        have hr : rightV v = true := by simpa using hr
        have hsite : 0 ≤ v.site ∧ v.site < 4 := by
          unfold rightV at hr
          simp only [Bool.and_eq_true, decide_eq_true_eq] at hr
          omega
        refine ⟨rfl, ⟨?_, ?_, ?_, ?_⟩⟩
        · intro p hp
          rcases List.mem_append.1 hp with hp | hp
          · exact h.key p hp
          · simp only [List.mem_singleton] at hp; subst hp; simp only; omega
        · intro p hp
          rcases List.mem_append.1 hp with hp | hp
          · exact h.site p hp
          · simp only [List.mem_singleton] at hp; subst hp; exact hsite
        · intro k hk8
          simp only
          split
          · rename_i e; subst e; exact insV_srt (h.srt _ hk8) (by simpa using hf)
          · exact h.srt k hk8
        · intro k hk8
          simp only
          rw [List.filter_append, List.map_append]
          split
          · rename_i e
            subst e
            have e2 : ((key.toNat : Nat) : Int) = key := by omega
            have : ([⟨key, v⟩] : List PtP).filter (fun p => decide (p.key = ((key.toNat : Nat) : Int))) = [⟨key, v⟩] := by simp [e2]
            rw [this]
            have hp := h.perm key.toNat hk8
            refine List.Perm.trans ?_ (hp.append_right _)
            unfold insV
            rw [List.append_assoc]
            refine List.Perm.trans (List.perm_append_comm_assoc _ _ _) ?_
            rw [List.take_append_drop]
            exact List.perm_append_comm
          · rename_i e
            have : ([⟨key, v⟩] : List PtP).filter (fun p => decide (p.key = (k : Int))) = [] := by
              simp; omega
            rw [this]
            simpa using h.perm k hk8
theorem Rep.sweep {S : Nat → List VerP} {L : List PtP} (h : Rep S L) (a0 a1 a2 a3 : Int) : Rep (sweepS a0 a1 a2 a3 S) (rSweep a0 a1 a2 a3 L) := by
  refine ⟨fun p hp => h.key p ((List.mem_filter.1 hp).1), fun p hp => h.site p ((List.mem_filter.1 hp).1), fun k hk => sweepV_srt (h.srt k hk), fun k hk => ?_⟩
  have hl := h.last a0 a1 a2 a3 hk
  have hP : ∃ P : VerP → Bool, ∀ p : PtP, p.key = k → rKeep a0 a1 a2 a3 L p = P p.v := by
    refine ⟨fun x => rKeep a0 a1 a2 a3 L ⟨k, x⟩, fun p hp => ?_⟩
    obtain ⟨pk, pv⟩ := p
    simp only at hp
    subst hp
    rfl
  obtain ⟨P, hP⟩ := hP
  have e1 : ((rSweep a0 a1 a2 a3 L).filter fun p => decide (p.key = (k : Int))).map (·.v) = (((L.filter fun p => decide (p.key = (k : Int))).map (·.v)).filter P) := by
    unfold rSweep
    rw [List.filter_map, List.filter_filter, List.filter_filter]
    congr 1
    refine List.filter_congr fun p _ => ?_
    by_cases e : p.key = k
    · simp only [e, decide_true, Bool.true_and, Bool.and_true, Function.comp]
      exact hP p e
    · simp [e]
  have e2 : sweepS a0 a1 a2 a3 S k = (S k).filter P := by
    refine srt_ext (sweepV_srt (h.srt k hk)) ((h.srt k hk).sublist List.filter_sublist) fun x => ?_
    rw [show sweepS a0 a1 a2 a3 S k = sweepV a0 a1 a2 a3 (S k) from rfl, sweepV_iff (h.srt k hk), List.mem_filter]
    refine and_congr_right fun hx => ?_
    rw [← hP ⟨k, x⟩ rfl]
    have hkp : rKeep a0 a1 a2 a3 L ⟨k, x⟩ = ((rLast a0 a1 a2 a3 k L).2 == false || @decide ((rLast a0 a1 a2 a3 k L).1 = x) (Classical.propDecidable _) || !seenV a0 a1 a2 a3 x) := rfl
    rw [hkp, hl]
    by_cases hs : seenV a0 a1 a2 a3 x = true
    · cases hf : findV a0 a1 a2 a3 (S k) with
      | none =>
        rw [find_none] at hf
        rw [hf x hx] at hs; cases hs
      | some y =>
        rw [find_some (h.srt k hk)] at hf
        obtain ⟨f1, f2, f3⟩ := hf
        simp only [hs, Bool.or_eq_true, beq_iff_eq, decide_eq_true_eq, Bool.true_eq_false, Bool.not_true, Bool.false_eq_true, false_or, or_false]
        constructor
        · intro hh
          rcases hh y f1 f2 with e | e
          · exact e
          · rcases f3 x hx hs with e3 | e3
            · exact e3.symm
            · exact (ltV_irr e e3).elim
        · rintro rfl
          exact f3
    · have hs : seenV a0 a1 a2 a3 x = false := by simpa using hs
      simp [hs]
  rw [e1, e2]
  exact (h.perm k hk).filter P
end Go.Proofs.YtbopfhbeegkkaabGreatDoor
