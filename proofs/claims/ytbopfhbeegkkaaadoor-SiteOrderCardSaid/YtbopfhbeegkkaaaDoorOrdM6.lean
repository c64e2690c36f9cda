/- Part 6 of a proof: lemmas and contracts that the parts behind it use. -/
import Derived.Test.YtbopfhbeegkkaaaDoorOrdM5
namespace Go.Proofs.YtbopfhbeegkkaaaDoor
open Go.RowKit

set_option maxRecDepth 20000 in
set_option maxHeartbeats 16000000 in
theorem commit_any (B x mb : Nat) (s : SiP) (lv : Value) (sv : Nat → Value) (now d0 d1 d2 d3 : Int) (A : Option Addr) (c : Nat) (ws : List WrP) (w : World) (h : SiAt w B x s mb lv sv) (hi : Inv s) (hws : WsAt w A ws) (hn : ws.length ≤ 1000000) :
    Calls Tryd.prog 76 #[.pointer (some ⟨x, 0, none⟩), .int .i64 now, .agg #[.int .i64 d0, .int .i64 d1, .int .i64 d2, .int .i64 d3], .slice A ws.length c] w
      (CommitPost B x mb s lv sv (commitE s now d0 d1 d2 d3 ws) (commitT s now d0 d1 d2 d3 ws) w) := by
  have HDN : Hid (∀ (n : Int) (w' : World), n ≠ 0 → commitE s now d0 d1 d2 d3 ws = n → Below w.heap.size w w' → CommitPost B x mb s lv sv (commitE s now d0 d1 d2 d3 ws) (commitT s now d0 d1 d2 d3 ws) w (.returned (.tuple #[txZero, errV n])) w') := hidp (fun n w' h1 h2 h3 => ⟨fun _ => ⟨by rw [h2], h3⟩, fun e => absurd (h2 ▸ e) h1⟩)
  have HCE : Hid (commitE s now d0 d1 d2 d3 ws = if rightWs ws = false then 1 else if rgtB d0 d1 d2 d3 = false ∨ covD s.p0 s.p1 s.p2 s.p3 d0 d1 d2 d3 = false then 10 else if 200 ≤ s.log.length then 12 else nextE s.lw s.lc now) := hidp rfl
  have HS := hidp h
  have HI := hidp hi
  have HWS := hidp hws
  have HN := hidp hn
  obtain ⟨Al, cl, hlv⟩ := own_form h.row
  have c7 := h.c7
  rw [hlv] at c7
  have HLV := hidp hlv
  obtain ⟨c1, c2, c3, c4⟩ := h.vec
  have c5 := h.c5
  have c6 := h.c6
  have c0 := h.c0
  haveI : SzGe (x + 1) w := ⟨h.sto.lt⟩
  clear h hi hlv
  cases hrw : rightWs ws
  · have HRW := hidp fun W (hB : Below w.heap.size w W) => rightWs_is hrw A c W hn (HWS.out.below hB)
    have HE : Hid (commitE s now d0 d1 d2 d3 ws = 1) := hidp (by rw [HCE.out, if_pos hrw])
    clear hrw hws
    go_enter Tryd.func76, Tryd.ntmps76
    go_wp2_with fail
    go_at_call 24
    refine (HRW.out _ (by repeat (first | exact Below.refl _ _ | refine blw_alloc ?_ | refine blw_plus ?_ | refine Below.drew ?_))).mono ?_
    rintro e w' ⟨rfl, hb⟩
    obtain ⟨x1, rfl⟩ := wplus_of_below hb
    clear hb
    go_wp2_with fail
    refine bodyPost_ret (v := .tuple #[txZero, errV 1]) ?_ rfl (HDN.out 1 _ (by decide) HE.out (by repeat (first | exact Below.refl _ _ | refine blw_alloc ?_ | refine blw_plus ?_ | refine Below.drew ?_)))
    simp [results, Tryd.results76, go_sem, txZero]
    rfl
  have HRW := hidp fun W (hB : Below w.heap.size w W) => rightWs_is hrw A c W hn (HWS.out.below hB)
  have HRW2 := hidp hrw
  clear hrw hws
  cases hrv : rgtB d0 d1 d2 d3
  · have HRV := hidp fun W => right_is hrv W
    have HCV := hidp True.intro
    have HE : Hid (commitE s now d0 d1 d2 d3 ws = 10) := hidp (by rw [HCE.out, if_neg (by rw [HRW2.out]; simp), if_pos (.inl hrv)])
    clear hrv
    go_enter Tryd.func76, Tryd.ntmps76
    go_wp2_with fail
    go_at_call 24
    refine (HRW.out _ (by repeat (first | exact Below.refl _ _ | refine blw_alloc ?_ | refine blw_plus ?_ | refine Below.drew ?_))).mono ?_
    rintro e w' ⟨rfl, hb⟩
    obtain ⟨x1, rfl⟩ := wplus_of_below hb
    clear hb
    go_wp2_with fail
    refine wp_region_plus (by kernel_rfl) (by kernel_rfl) ?_
    repeat (first | go_big_quiet_skip | (go_big_quiet_want; go_big_quiet_op; first | go_big_quiet_on | (apply Exists.intro; refine ⟨fun _ => ?_, ?_⟩; (go_at_call 61; exact Calls.plus_of (HRV.out _)); go_big_quiet_on)))
    refine wpQuiet_nil ?_
    rintro _ ⟨x2, rfl⟩
    go_wp2_with fail
    refine bodyPost_ret (v := .tuple #[txZero, errV 10]) ?_ rfl (HDN.out 10 _ (by decide) HE.out (by repeat (first | exact Below.refl _ _ | refine blw_alloc ?_ | refine blw_plus ?_ | refine Below.drew ?_)))
    simp [results, Tryd.results76, go_sem, txZero]
    rfl
  cases hcv : covD s.p0 s.p1 s.p2 s.p3 d0 d1 d2 d3
  · have HRV := hidp fun W => right_is hrv W
    have HCV := hidp fun W => covers_is hcv W
    have HE : Hid (commitE s now d0 d1 d2 d3 ws = 10) := hidp (by rw [HCE.out, if_neg (by rw [HRW2.out]; simp), if_pos (.inr hcv)])
    clear hrv hcv
    go_enter Tryd.func76, Tryd.ntmps76
    go_wp2_with fail
    go_at_call 24
    refine (HRW.out _ (by repeat (first | exact Below.refl _ _ | refine blw_alloc ?_ | refine blw_plus ?_ | refine Below.drew ?_))).mono ?_
    rintro e w' ⟨rfl, hb⟩
    obtain ⟨x1, rfl⟩ := wplus_of_below hb
    clear hb
    go_wp2_with fail
    refine wp_region_plus (by kernel_rfl) (by kernel_rfl) ?_
    repeat (first | go_big_quiet_skip | (go_big_quiet_want; go_big_quiet_op; first | go_big_quiet_on | (apply Exists.intro; refine ⟨fun _ => ?_, ?_⟩; (first | (go_at_call 61; exact Calls.plus_of (HRV.out _)) | (go_at_call 50; exact Calls.plus_of (HCV.out _))); go_big_quiet_on)))
    refine wpQuiet_nil ?_
    rintro _ ⟨x2, rfl⟩
    go_wp2_with fail
    refine bodyPost_ret (v := .tuple #[txZero, errV 10]) ?_ rfl (HDN.out 10 _ (by decide) HE.out (by repeat (first | exact Below.refl _ _ | refine blw_alloc ?_ | refine blw_plus ?_ | refine Below.drew ?_)))
    simp [results, Tryd.results76, go_sem, txZero]
    rfl
  have HRV := hidp fun W => right_is hrv W
  have HCV := hidp fun W => covers_is hcv W
  have HRV2 := hidp hrv
  have HCV2 := hidp hcv
  have HNO : Hid (¬ (rgtB d0 d1 d2 d3 = false ∨ covD s.p0 s.p1 s.p2 s.p3 d0 d1 d2 d3 = false)) := hidp (by rw [hrv, hcv]; simp)
  clear hrv hcv
  by_cases h200 : 200 ≤ s.log.length
  · have hd3 : decide ((200 : Int) ≤ (s.log.length : Int)) = true := decide_eq_true (by omega)
    have HE : Hid (commitE s now d0 d1 d2 d3 ws = 12) := hidp (by rw [HCE.out, if_neg (by rw [HRW2.out]; simp), if_neg HNO.out, if_pos h200])
    clear h200
    go_enter Tryd.func76, Tryd.ntmps76
    go_wp2_with fail
    go_at_call 24
    refine (HRW.out _ (by repeat (first | exact Below.refl _ _ | refine blw_alloc ?_ | refine blw_plus ?_ | refine Below.drew ?_))).mono ?_
    rintro e w' ⟨rfl, hb⟩
    obtain ⟨x1, rfl⟩ := wplus_of_below hb
    clear hb
    go_wp2_with fail
    refine wp_region_plus (by kernel_rfl) (by kernel_rfl) ?_
    repeat (first | go_big_quiet_skip | (go_big_quiet_want; go_big_quiet_op; first | go_big_quiet_on | (apply Exists.intro; refine ⟨fun _ => ?_, ?_⟩; (first | (go_at_call 61; exact Calls.plus_of (HRV.out _)) | (go_at_call 50; exact Calls.plus_of (HCV.out _))); go_big_quiet_on)))
    refine wpQuiet_nil ?_
    rintro _ ⟨x2, rfl⟩
    go_wp2_with fail
    refine bodyPost_ret (v := .tuple #[txZero, errV 12]) ?_ rfl (HDN.out 12 _ (by decide) HE.out (by repeat (first | exact Below.refl _ _ | refine blw_alloc ?_ | refine blw_plus ?_ | refine Below.drew ?_)))
    simp [results, Tryd.results76, go_sem, txZero]
    rfl
  have hd3 : decide ((200 : Int) ≤ (s.log.length : Int)) = false := decide_eq_false (by omega)
  have HE0 : Hid (commitE s now d0 d1 d2 d3 ws = nextE s.lw s.lc now) := hidp (by rw [HCE.out, if_neg (by rw [HRW2.out]; simp), if_neg HNO.out, if_neg h200])
  have H200 := hidp h200
  clear h200
  have HNX := hidp fun W => next_is s.lw s.lc now W
  obtain ⟨en, hen⟩ : ∃ en, nextE s.lw s.lc now = en := ⟨_, rfl⟩
  rw [hen] at HNX HE0
  have HEN := hidp hen
  clear hen
  by_cases hn0 : en = 0
  · refine (commit_good B x mb s lv sv now d0 d1 d2 d3 A c ws w HS.out HI.out HWS.out HN.out HRW2.out HRV2.out HCV2.out H200.out (HEN.out.trans hn0)).mono ?_
    intro e w' hp
    refine ⟨fun hne => absurd (HE0.out.trans hn0) hne, fun _ => hp⟩
  · have HE := HE0
    have hev : errV en = .iface 24 (.int .i64 en) := by unfold errV; rw [if_neg hn0]
    simp only [if_neg hn0, hev] at HNX
    have HN0 := hidp hn0
    clear hn0
    go_enter Tryd.func76, Tryd.ntmps76
    go_wp2_with fail
    go_at_call 24
    refine (HRW.out _ (by repeat (first | exact Below.refl _ _ | refine blw_alloc ?_ | refine blw_plus ?_ | refine Below.drew ?_))).mono ?_
    rintro e w' ⟨rfl, hb⟩
    obtain ⟨x1, rfl⟩ := wplus_of_below hb
    clear hb
    go_wp2_with fail
    refine wp_region_plus (by kernel_rfl) (by kernel_rfl) ?_
    repeat (first | go_big_quiet_skip | (go_big_quiet_want; go_big_quiet_op; first | go_big_quiet_on | (apply Exists.intro; refine ⟨fun _ => ?_, ?_⟩; (first | (go_at_call 61; exact Calls.plus_of (HRV.out _)) | (go_at_call 50; exact Calls.plus_of (HCV.out _))); go_big_quiet_on)))
    refine wpQuiet_nil ?_
    rintro _ ⟨x2, rfl⟩
    go_wp2_with fail
    go_at_call 10
    refine (HNX.out _).mono ?_
    rintro e w' ⟨rfl, hb⟩
    obtain ⟨x3, rfl⟩ := wplus_of_below hb
    clear hb
    go_wp2_with fail
    refine bodyPost_ret (v := .tuple #[txZero, errV en]) ?_ rfl (HDN.out en _ HN0.out HE.out (by repeat (first | exact Below.refl _ _ | refine blw_alloc ?_ | refine blw_plus ?_ | refine Below.drew ?_)))
    rw [hev]
    simp [results, Tryd.results76, go_sem, txZero]
end Go.Proofs.YtbopfhbeegkkaaaDoor

namespace Go.Proofs.YtbopfhbeegkkaaaDoor

/-- how many of a list are of a site -/
def cntS (l : List TxP) (a : Int) : Int := ((l.filter fun t => decide (t.site = a)).length : Int)
theorem cntS_nil (a : Int) : cntS [] a = 0 := rfl
theorem cntS_snoc (l : List TxP) (t : TxP) (a : Int) : cntS (l ++ [t]) a = cntS l a + (if t.site = a then 1 else 0) := by
  unfold cntS
  rw [List.filter_append, List.length_append]
  by_cases h : t.site = a <;> simp [h]
theorem cntS_nonneg (l : List TxP) (a : Int) : 0 ≤ cntS l a := by unfold cntS; omega
theorem take_snoc {α : Type} {l : List α} {j : Nat} {t : α} (h : l[j]? = some t) : l.take (j + 1) = l.take j ++ [t] := by
  rw [List.take_add_one, h]; rfl
theorem cntS_mono (l : List TxP) (a : Int) {i j : Nat} (h : i ≤ j) : cntS (l.take i) a ≤ cntS (l.take j) a := by
  induction h with
  | refl => exact Int.le_refl _
  | @step j _ ih =>
    cases hj : l[j]? with
    | none =>
      have : l.length ≤ j := List.getElem?_eq_none_iff.1 hj
      have e1 : l.take (j + 1) = l.take j := by rw [List.take_of_length_le (show l.length ≤ j + 1 by omega), List.take_of_length_le this]
      rw [e1]; exact ih
    | some t =>
      rw [take_snoc hj, cntS_snoc]
      split <;> omega
theorem cntS_take_le (l : List TxP) (a : Int) (i : Nat) : cntS (l.take i) a ≤ cntS l a := by
  have h := cntS_mono l a (Nat.le_max_left i l.length)
  rwa [List.take_of_length_le (Nat.le_max_right i l.length)] at h
def depOf (t : TxP) (a : Int) : Int := atV t.d0 t.d1 t.d2 t.d3 a
def stLt (t u : TxP) : Prop := t.wall < u.wall ∨ (t.wall = u.wall ∧ t.count < u.count)
/-- transactions as they may be told: each behind all that it is over -/
structure Good (all : List TxP) : Prop where
  right : ∀ t ∈ all, rightTx t = true
  order : ∀ (j : Nat) (t : TxP), all[j]? = some t → t.seq = cntS (all.take j) t.site + 1 ∧ ∀ a : Int, 0 ≤ a → a < 4 → depOf t a ≤ cntS (all.take j) a
  stamp : ∀ (i j : Nat) (t u : TxP), i < j → all[i]? = some t → all[j]? = some u → t.site = u.site → stLt t u
theorem Good.lt {all : List TxP} (h : Good all) {i j : Nat} {t u : TxP} (hij : i < j) (hi : all[i]? = some t) (hj : all[j]? = some u) (hs : t.site = u.site) : t.seq < u.seq := by
  have h1 := (h.order i t hi).1
  have h2 := (h.order j u hj).1
  have h3 := cntS_mono all t.site (show i + 1 ≤ j by omega)
  rw [take_snoc hi, cntS_snoc, if_pos rfl] at h3
  rw [← hs] at h2
  omega
theorem mem_at {α : Type} {l : List α} {t : α} (h : t ∈ l) : ∃ i : Nat, l[i]? = some t := by
  obtain ⟨i, hi, rfl⟩ := List.getElem_of_mem h
  exact ⟨i, List.getElem?_eq_getElem hi⟩
theorem at_mem {α : Type} {l : List α} {t : α} {i : Nat} (h : l[i]? = some t) : t ∈ l := List.mem_of_getElem? h
theorem Good.uniq {all : List TxP} (h : Good all) {t u : TxP} (ht : t ∈ all) (hu : u ∈ all) (hs : t.site = u.site) (hq : t.seq = u.seq) : t = u := by
  obtain ⟨i, hi⟩ := mem_at ht
  obtain ⟨j, hj⟩ := mem_at hu
  rcases Nat.lt_trichotomy i j with e | e | e
  · have := h.lt e hi hj hs; omega
  · subst e; rw [hi] at hj; exact Option.some.inj hj
  · have := h.lt e hj hi hs.symm; omega
theorem Good.seq_le {all : List TxP} (h : Good all) {t : TxP} (ht : t ∈ all) : t.seq ≤ cntS all t.site := by
  obtain ⟨i, hi⟩ := mem_at ht
  have h1 := (h.order i t hi).1
  have h3 := cntS_take_le all t.site (i + 1)
  rw [take_snoc hi, cntS_snoc, if_pos rfl] at h3
  omega
theorem Good.nost {all : List TxP} (h : Good all) {t u : TxP} (ht : t ∈ all) (hu : u ∈ all) (hne : t.seq ≠ u.seq) : ¬ (t.site = u.site ∧ t.wall = u.wall ∧ t.count = u.count) := by
  rintro ⟨h1, h2, h3⟩
  obtain ⟨i, hi⟩ := mem_at ht
  obtain ⟨j, hj⟩ := mem_at hu
  rcases Nat.lt_trichotomy i j with e | e | e
  · have := h.stamp i j t u e hi hj h1; unfold stLt at this; omega
  · subst e; rw [hi] at hj; exact hne (by rw [Option.some.inj hj])
  · have := h.stamp j i u t e hj hi h1.symm; unfold stLt at this; omega
theorem cntS_sum : ∀ (l : List TxP), (∀ t ∈ l, 0 ≤ t.site ∧ t.site < 4) → cntS l 0 + cntS l 1 + cntS l 2 + cntS l 3 = (l.length : Int)
  | [], _ => rfl
  | t :: l, h => by
    have ih := cntS_sum l (fun u hu => h u (List.mem_cons_of_mem _ hu))
    have ht := h t (by simp)
    have e : ∀ a : Int, cntS (t :: l) a = cntS l a + (if t.site = a then 1 else 0) := fun a => by
      unfold cntS
      by_cases h : t.site = a <;> simp [h]
    rw [e, e, e, e]
    have h4 : t.site = 0 ∨ t.site = 1 ∨ t.site = 2 ∨ t.site = 3 := by omega
    simp only [List.length_cons]
    rcases h4 with h4 | h4 | h4 | h4 <;> simp [h4] <;> omega

/-- writes that may be have their keys one behind the other -/
theorem badW_not {last : Int} {w : WrP} (h : ¬ badW last w = true) : last < w.key ∧ w.key < 8 ∧ w.data.size ≤ 12 ∧ (w.gone = true → w.data.size = 0) := by
  unfold badW at h
  simp only [Bool.or_eq_true, Bool.and_eq_true, decide_eq_true_eq, not_or, not_and] at h
  refine ⟨by omega, by omega, by omega, fun hg => ?_⟩
  have := h.2 hg
  omega
theorem rwGo_ups : ∀ (ws : List WrP) (last : Int), rwGo last ws = true → ∀ w ∈ ws, last < w.key ∧ w.key < 8 ∧ w.data.size ≤ 12 ∧ (w.gone = true → w.data.size = 0)
  | [], _, _, w, hw => by cases hw
  | x :: ws, last, h, w, hw => by
    unfold rwGo at h
    split at h
    · cases h
    · rename_i hb
      have hb' := badW_not hb
      rcases List.mem_cons.1 hw with rfl | hw
      · exact hb'
      · have := rwGo_ups ws x.key h w hw
        exact ⟨by omega, this.2⟩
theorem rwGo_pw : ∀ (ws : List WrP) (last : Int), rwGo last ws = true → ws.Pairwise (fun x y => x.key < y.key)
  | [], _, _ => List.Pairwise.nil
  | x :: ws, last, h => by
    unfold rwGo at h
    split at h
    · cases h
    · exact List.Pairwise.cons (fun y hy => (rwGo_ups ws x.key h y hy).1) (rwGo_pw ws x.key h)
theorem rightWs_rw {ws : List WrP} (h : rightWs ws = true) : rwGo (-1) ws = true := by
  unfold rightWs at h
  simp only [Bool.and_eq_true] at h
  exact h.1.1
theorem rightTx_ws {t : TxP} (h : rightTx t = true) : rightWs t.ws = true := by
  unfold rightTx at h
  simp only [Bool.and_eq_true] at h
  exact h.2
theorem rightTx_head {t : TxP} (h : rightTx t = true) : (0 ≤ t.site ∧ t.site < 4) ∧ (1 ≤ t.seq ∧ t.seq ≤ 1099511627776) ∧ (0 ≤ t.wall ∧ t.wall ≤ 1099511627776) ∧ (0 ≤ t.count ∧ t.count ≤ 1099511627776) := by
  unfold rightTx headTx okN at h
  simp only [Bool.and_eq_true, decide_eq_true_eq] at h
  exact ⟨h.1.1.1.1.1.1, h.1.1.1.1.1.2, h.1.1.1.1.2, h.1.1.1.2⟩
theorem verOf_right {t : TxP} (h : rightTx t = true) {w : WrP} (hw : w ∈ t.ws) : okP ⟨w.key, verOf t w⟩ = true := by
  obtain ⟨h1, h2, h3, h4⟩ := rightTx_head h
  obtain ⟨k1, k2, k3, k4⟩ := rwGo_ups _ _ (rightWs_rw (rightTx_ws h)) w hw
  rw [okP_iff]
  refine ⟨by show 0 ≤ w.key; omega, k2, ?_⟩
  show rightV (verOf t w) = true
  unfold rightV verOf rightS
  simp only [Bool.and_eq_true, decide_eq_true_eq, Bool.or_eq_true, Bool.not_eq_true']
  refine ⟨⟨⟨⟨⟨⟨⟨⟨⟨h3.1, h3.2⟩, h4.1⟩, h4.2⟩, h1.1⟩, h1.2⟩, h2.1⟩, h2.2⟩, k3⟩, ?_⟩
  cases hg : w.gone with
  | false => exact .inl rfl
  | true => exact .inr (k4 hg)

/-- a site's store: the versions of just what it has -/
def StSpec (st : Nat → List VerP) (log : List MTx) : Prop := ∀ k : Nat, k < 8 → Srt (st k) ∧ ∀ x, x ∈ st k ↔ ∃ m ∈ log, ∃ w ∈ m.t.ws, w.key = (k : Int) ∧ verOf m.t w = x
theorem getD_mem_ws {l : List WrP} {i : Nat} (h : i < l.length) : l.getD i default ∈ l := by
  simp [List.getD, List.getElem?_eq_getElem h]
theorem stPut_spec {st : Nat → List VerP} {log : List MTx} (h : StSpec st log) {t : TxP} (ht : rightTx t = true) (hno : ∀ m ∈ log, ¬ (m.t.site = t.site ∧ m.t.wall = t.wall ∧ m.t.count = t.count)) :
    ∀ j, j ≤ t.ws.length → ∀ k : Nat, k < 8 → Srt (stPut st t j k) ∧ ∀ x, x ∈ stPut st t j k ↔ x ∈ st k ∨ ∃ i, i < j ∧ (t.ws.getD i default).key = (k : Int) ∧ verOf t (t.ws.getD i default) = x
  | 0, _, k, hk => ⟨(h k hk).1, fun x => by simp [stPut]⟩
  | j + 1, hj, k, hk => by
    have ih := stPut_spec h ht hno j (by omega)
    have hmem := getD_mem_ws (l := t.ws) (i := j) (by omega)
    have hpw := rwGo_pw _ _ (rightWs_rw (rightTx_ws ht))
    have hlt : ∀ i, i < j → (t.ws.getD i default).key < (t.ws.getD j default).key := fun i hi => by
      have := List.pairwise_iff_getElem.1 hpw i j (by omega) (by omega) hi
      simpa [List.getD, List.getElem?_eq_getElem (show i < t.ws.length by omega), List.getElem?_eq_getElem (show j < t.ws.length by omega)] using this
    have hok := verOf_right ht hmem
    obtain ⟨o1, o2, o3⟩ := (okP_iff _).1 hok
    simp only at o1 o2
    have hkk : (t.ws.getD j default).key.toNat < 8 := by omega
    have hf : bsF (stPut st t j (t.ws.getD j default).key.toNat) (verOf t (t.ws.getD j default)) = false := by
      rw [Bool.eq_false_iff]
      intro hb
      obtain ⟨y, hy, hs⟩ := (bsF_iff (ih _ hkk).1 _).1 hb
      rcases ((ih _ hkk).2 y).1 hy with hy | ⟨i, hi, hki, rfl⟩
      · obtain ⟨m, hm, w', _, _, rfl⟩ := ((h _ hkk).2 y).1 hy
        unfold sameV verOf at hs
        exact hno m hm ⟨hs.2.2, hs.1, hs.2.1⟩
      · have := hlt i hi; omega
    have he : stPut st t (j + 1) k = if k = (t.ws.getD j default).key.toNat then insV (stPut st t j k) (verOf t (t.ws.getD j default)) else stPut st t j k := putP_yes hok hf k
    rw [he]
    by_cases e : k = (t.ws.getD j default).key.toNat
    · rw [if_pos e]
      have hf2 : bsF (stPut st t j k) (verOf t (t.ws.getD j default)) = false := by rw [e]; exact hf
      refine ⟨insV_srt (ih k hk).1 hf2, fun x => (insV_mem _ _ _).trans ?_⟩
      rw [(ih k hk).2 x]
      constructor
      · rintro (rfl | h1 | ⟨i, h1, h2⟩)
        · exact .inr ⟨j, by omega, by omega, rfl⟩
        · exact .inl h1
        · exact .inr ⟨i, by omega, h2⟩
      · rintro (h1 | ⟨i, h1, h2, h3⟩)
        · exact .inr (.inl h1)
        · by_cases e2 : i = j
          · subst e2; exact .inl h3.symm
          · exact .inr (.inr ⟨i, by omega, h2, h3⟩)
    · rw [if_neg e]
      refine ⟨(ih k hk).1, fun x => ((ih k hk).2 x).trans ?_⟩
      constructor
      · rintro (h1 | ⟨i, h1, h2⟩)
        · exact .inl h1
        · exact .inr ⟨i, by omega, h2⟩
      · rintro (h1 | ⟨i, h1, h2, h3⟩)
        · exact .inl h1
        · by_cases e2 : i = j
          · subst e2; omega
          · exact .inr ⟨i, by omega, h2, h3⟩
theorem StSpec.apply {st : Nat → List VerP} {log : List MTx} (h : StSpec st log) {m : MTx} (ht : rightTx m.t = true) (hno : ∀ m' ∈ log, ¬ (m'.t.site = m.t.site ∧ m'.t.wall = m.t.wall ∧ m'.t.count = m.t.count)) : StSpec (stPut st m.t m.t.ws.length) (log ++ [m]) := by
  intro k hk
  obtain ⟨h1, h2⟩ := stPut_spec h ht hno m.t.ws.length (Nat.le_refl _) k hk
  refine ⟨h1, fun x => (h2 x).trans ?_⟩
  rw [(h k hk).2 x]
  constructor
  · rintro (⟨m', hm', w, hw, h3⟩ | ⟨i, hi, h3⟩)
    · exact ⟨m', by simp [hm'], w, hw, h3⟩
    · exact ⟨m, by simp, _, getD_mem_ws hi, h3⟩
  · rintro ⟨m', hm', w, hw, h3⟩
    rcases List.mem_append.1 hm' with hm' | hm'
    · exact .inl ⟨m', hm', w, hw, h3⟩
    · obtain rfl : m' = m := by simpa using hm'
      obtain ⟨i, hi, rfl⟩ := List.getElem_of_mem hw
      exact .inr ⟨i, hi, by simpa [List.getD, List.getElem?_eq_getElem hi] using h3⟩
theorem StSpec.ext {st st' : Nat → List VerP} {log log' : List MTx} (h : StSpec st log) (h' : StSpec st' log') (hl : ∀ t, (∃ m ∈ log, m.t = t) ↔ ∃ m ∈ log', m.t = t) {k : Nat} (hk : k < 8) : st k = st' k := by
  refine srt_ext (h k hk).1 (h' k hk).1 fun x => ?_
  rw [(h k hk).2 x, (h' k hk).2 x]
  constructor
  · rintro ⟨m, hm, w, hw, h3⟩
    obtain ⟨m', hm', e⟩ := (hl m.t).1 ⟨m, hm, rfl⟩
    exact ⟨m', hm', w, by rw [e]; exact hw, by rw [e]; exact h3⟩
  · rintro ⟨m, hm, w, hw, h3⟩
    obtain ⟨m', hm', e⟩ := (hl m.t).2 ⟨m, hm, rfl⟩
    exact ⟨m', hm', w, by rw [e]; exact hw, by rw [e]; exact h3⟩

structure SInv (all : List TxP) (s : SiP) : Prop where
  inv : Inv s
  lg : ∀ m ∈ s.log, m.t ∈ all
  wr : ∀ a b m, s.wt a b = some m → m.t ∈ all ∧ s.at a < b
  iff : ∀ t ∈ all, (t.seq ≤ s.at t.site ↔ ∃ m ∈ s.log, m.t = t)
  cnt : (s.log.length : Int) = s.at 0 + s.at 1 + s.at 2 + s.at 3
  le : ∀ a, 0 ≤ a → a < 4 → s.at a ≤ cntS all a
  clo : ∀ m ∈ s.log, covM s m = true
  sto : StSpec s.st s.log
  las : ∀ m ∈ s.log, m.t.wall < s.lw ∨ (m.t.wall = s.lw ∧ m.t.count ≤ s.lc)
  wls : ∃ wl : List (Int × Int), wl.Nodup ∧ wl.length = s.wn ∧ ∀ a b, (a, b) ∈ wl ↔ (s.wt a b).isSome = true
/-- it is applied there, or waits -/
def HasT (s : SiP) (t : TxP) : Prop := (∃ m ∈ s.log, m.t = t) ∨ ∃ m, s.wt t.site t.seq = some m ∧ m.t = t

theorem at0 (s : SiP) : s.at 0 = s.p0 := rfl
theorem at1 (s : SiP) : s.at 1 = s.p1 := rfl
theorem at2 (s : SiP) : s.at 2 = s.p2 := rfl
theorem at3 (s : SiP) : s.at 3 = s.p3 := rfl
theorem covD_iff (a0 a1 a2 a3 b0 b1 b2 b3 : Int) : covD a0 a1 a2 a3 b0 b1 b2 b3 = true ↔ ∀ a : Int, 0 ≤ a → a < 4 → atV b0 b1 b2 b3 a ≤ atV a0 a1 a2 a3 a := by
  unfold covD
  simp only [Bool.and_eq_true, decide_eq_true_eq]
  constructor
  · rintro ⟨⟨⟨h0, h1⟩, h2⟩, h3⟩ a _ _
    exact atV_le h0 h1 h2 h3 a
  · intro h
    exact ⟨⟨⟨h 0 (by omega) (by omega), h 1 (by omega) (by omega)⟩, h 2 (by omega) (by omega)⟩, h 3 (by omega) (by omega)⟩
theorem covM_iff (s : SiP) (m : MTx) : covM s m = true ↔ ∀ a : Int, 0 ≤ a → a < 4 → depOf m.t a ≤ s.at a := covD_iff _ _ _ _ _ _ _ _
theorem apply_at (s : SiP) (m : MTx) (hs : 0 ≤ m.t.site ∧ m.t.site < 4) {a : Int} (ha : 0 ≤ a) (ha4 : a < 4) : (applyP s m).at a = if a = m.t.site then m.t.seq else s.at a := by
  have h1 : m.t.site = 0 ∨ m.t.site = 1 ∨ m.t.site = 2 ∨ m.t.site = 3 := by omega
  have h2 : a = 0 ∨ a = 1 ∨ a = 2 ∨ a = 3 := by omega
  unfold applyP SiP.at SiP.setc atV
  rcases h1 with h1 | h1 | h1 | h1 <;> rcases h2 with rfl | rfl | rfl | rfl <;> simp [h1]
theorem apply_lw (s : SiP) (m : MTx) : (applyP s m).lw = laterW s.lw s.lc m.t.wall m.t.count := by
  unfold applyP SiP.setc
  simp
theorem apply_lc (s : SiP) (m : MTx) : (applyP s m).lc = laterC s.lw s.lc m.t.wall m.t.count := by
  unfold applyP SiP.setc
  simp
theorem later_le (aw ac bw bc w c : Int) (h : (w < aw ∨ (w = aw ∧ c ≤ ac)) ∨ (w < bw ∨ (w = bw ∧ c ≤ bc))) : w < laterW aw ac bw bc ∨ (w = laterW aw ac bw bc ∧ c ≤ laterC aw ac bw bc) := by
  unfold laterW laterC cmpS orI cmpI
  repeat' split
  all_goals omega
theorem unwait_none {s : SiP} {m : MTx} (h : s.wt m.t.site m.t.seq = none) : s.unwait m = s := by
  have e : wset s.wt m.t.site m.t.seq none = s.wt := by
    funext a b
    unfold wset
    split
    · rename_i hab; rw [hab.1, hab.2, h]
    · rfl
  obtain ⟨id, p0, p1, p2, p3, lw, lc, log, wt, wn, st, ot⟩ := s
  unfold SiP.unwait
  simp only at h e
  simp [h, e]
theorem SInv.loglen {all : List TxP} {s : SiP} (hg : Good all) (h : SInv all s) : s.log.length ≤ all.length := by
  have h1 := cntS_sum all (fun t ht => (rightTx_head (hg.right t ht)).1)
  have h2 := h.cnt
  have h3 := h.le 0 (by omega) (by omega); have h4 := h.le 1 (by omega) (by omega); have h5 := h.le 2 (by omega) (by omega); have h6 := h.le 3 (by omega) (by omega)
  omega
theorem SInv.waitS {all : List TxP} {s : SiP} (hg : Good all) (h : SInv all s) {m : MTx} (hm : m.t ∈ all) (hq : s.at m.t.site < m.t.seq) (hw : s.wt m.t.site m.t.seq = none) : SInv all (s.wait m) ∧ (s.wait m).wn = s.wn + 1 := by
  have hn : (s.wait m).wn = s.wn + 1 := by unfold SiP.wait; rw [hw]; rfl
  refine ⟨⟨h.inv.wait (hg.right _ hm), h.lg, ?_, h.iff, h.cnt, h.le, h.clo, h.sto, h.las, ?_⟩, hn⟩
  · intro a b m' e
    unfold SiP.wait wset at e
    simp only at e
    split at e
    · rename_i hab
      cases e
      exact ⟨hm, by rw [hab.1, hab.2]; exact hq⟩
    · exact h.wr a b m' e
  · obtain ⟨wl, h1, h2, h3⟩ := h.wls
    refine ⟨(m.t.site, m.t.seq) :: wl, List.nodup_cons.2 ⟨fun e => ?_, h1⟩, by rw [hn, List.length_cons, h2], fun a b => ?_⟩
    · have := (h3 _ _).1 e; rw [hw] at this; cases this
    · show _ ↔ (wset s.wt m.t.site m.t.seq (some m) a b).isSome = true
      unfold wset
      rw [List.mem_cons, h3, Prod.mk.injEq]
      split
      · rename_i hab; simp [hab]
      · rename_i hab; simp [hab]
theorem SInv.unwaitS {all : List TxP} {s : SiP} (h : SInv all s) {m : MTx} (hw : s.wt m.t.site m.t.seq = some m) : SInv all (s.unwait m) ∧ (s.unwait m).wn + 1 = s.wn ∧ (s.unwait m).wt m.t.site m.t.seq = none := by
  obtain ⟨wl, h1, h2, h3⟩ := h.wls
  have hmem : (m.t.site, m.t.seq) ∈ wl := (h3 _ _).2 (by rw [hw]; rfl)
  have hpos : 0 < wl.length := List.length_pos_of_mem hmem
  have hn : (s.unwait m).wn = s.wn - 1 := by unfold SiP.unwait; rw [hw]; rfl
  have hwt : (s.unwait m).wt = wset s.wt m.t.site m.t.seq none := rfl
  have hsub : ∀ a b m', (s.unwait m).wt a b = some m' → s.wt a b = some m' := by
    intro a b m' e
    rw [hwt] at e
    unfold wset at e
    split at e
    · cases e
    · exact e
  refine ⟨⟨⟨h.inv.ap, h.inv.id, fun a b m' e => h.inv.wt a b m' (hsub a b m' e), h.inv.fit, h.inv.dat, h.inv.log⟩, h.lg, fun a b m' e => h.wr a b m' (hsub a b m' e), h.iff, h.cnt, h.le, h.clo, h.sto, h.las, ?_⟩, by rw [hn]; omega, by rw [hwt]; unfold wset; simp⟩
  refine ⟨wl.erase (m.t.site, m.t.seq), h1.erase _, by rw [List.length_erase_of_mem hmem, hn, h2], fun a b => ?_⟩
  rw [h1.mem_erase_iff, h3, hwt]
  unfold wset
  rw [ne_eq, Prod.mk.injEq]
  split
  · rename_i hab; simp [hab]
  · rename_i hab; simp [hab]
theorem SInv.applyS {all : List TxP} {s : SiP} (hg : Good all) (h : SInv all s) {m : MTx} (hm : m.t ∈ all) (hq : m.t.seq = s.at m.t.site + 1) (hc : covM s m = true) (hw : s.wt m.t.site m.t.seq = none) (hl : ¬ 200 ≤ s.log.length) : SInv all (applyP s m) := by
  obtain ⟨hs, hsq, _, _⟩ := rightTx_head (hg.right _ hm)
  have hat : ∀ {a : Int}, 0 ≤ a → a < 4 → (applyP s m).at a = if a = m.t.site then m.t.seq else s.at a := fun h1 h2 => apply_at s m hs h1 h2
  have hge : ∀ {a : Int}, 0 ≤ a → a < 4 → s.at a ≤ (applyP s m).at a := fun {a} h1 h2 => by
    rw [hat h1 h2]
    split
    · rename_i e; rw [e, hq]; omega
    · exact Int.le_refl _
  refine ⟨?_, ?_, ?_, ?_, ?_, ?_, ?_, ?_, ?_, ?_⟩
  · have := h.inv.apply (m := m) (hg.right _ hm) hl
    rwa [unwait_none hw] at this
  · intro m' hm'
    rw [applyP_log] at hm'
    rcases List.mem_append.1 hm' with e | e
    · exact h.lg m' e
    · obtain rfl : m' = m := by simpa using e
      exact hm
  · intro a b m' e
    rw [applyP_wt] at e
    obtain ⟨h1, h2⟩ := h.wr a b m' e
    obtain ⟨i1, i2, i3⟩ := h.inv.wt a b m' e
    have hs' := (rightTx_head i3).1
    rw [i1] at hs'
    refine ⟨h1, ?_⟩
    rw [hat hs'.1 hs'.2]
    split
    · rename_i ea
      by_cases eb : b = m.t.seq
      · rw [ea, eb, hw] at e; cases e
      · rw [ea] at h2; omega
    · exact h2
  · intro t ht
    have hts := (rightTx_head (hg.right t ht)).1
    rw [hat hts.1 hts.2, applyP_log]
    have hi := h.iff t ht
    constructor
    · intro e
      by_cases es : t.site = m.t.site
      · rw [if_pos es] at e
        by_cases eq : t.seq = m.t.seq
        · exact ⟨m, by simp, hg.uniq hm ht es.symm eq.symm⟩
        · obtain ⟨m', h1, h2⟩ := hi.1 (by rw [es]; omega)
          exact ⟨m', by simp [h1], h2⟩
      · rw [if_neg es] at e
        obtain ⟨m', h1, h2⟩ := hi.1 e
        exact ⟨m', by simp [h1], h2⟩
    · rintro ⟨m', h1, h2⟩
      rcases List.mem_append.1 h1 with e | e
      · have := hi.2 ⟨m', e, h2⟩
        split
        · rename_i es; rw [es] at this; omega
        · exact this
      · obtain rfl : m' = m := by simpa using e
        rw [← h2, if_pos rfl]; exact Int.le_refl _
  · rw [applyP_log, List.length_append, List.length_cons, List.length_nil]
    have hcn := h.cnt
    rw [hat (by omega) (by omega), hat (by omega) (by omega), hat (by omega) (by omega), hat (by omega) (by omega)]
    have h4 : m.t.site = 0 ∨ m.t.site = 1 ∨ m.t.site = 2 ∨ m.t.site = 3 := by omega
    rcases h4 with h4 | h4 | h4 | h4 <;> (rw [h4] at hq ⊢; simp; omega)
  · intro a h1 h2
    rw [hat h1 h2]
    split
    · rename_i e; rw [e]; exact hg.seq_le hm
    · exact h.le a h1 h2
  · intro m' hm'
    rw [covM_iff]
    intro a h1 h2
    rw [applyP_log] at hm'
    rcases List.mem_append.1 hm' with e | e
    · have := (covM_iff s m').1 (h.clo m' e) a h1 h2
      exact Int.le_trans this (hge h1 h2)
    · obtain rfl : m' = m := by simpa using e
      have := (covM_iff s m').1 hc a h1 h2
      exact Int.le_trans this (hge h1 h2)
  · rw [applyP_st, applyP_log]
    refine h.sto.apply (hg.right _ hm) fun m' hm' hb => hg.nost (h.lg m' hm') hm ?_ hb
    intro e
    have h1 := (h.iff m'.t (h.lg m' hm')).2 ⟨m', hm', rfl⟩
    rw [hb.1] at h1
    omega
  · intro m' hm'
    rw [apply_lw, apply_lc]
    refine later_le _ _ _ _ _ _ ?_
    rw [applyP_log] at hm'
    rcases List.mem_append.1 hm' with e | e
    · exact .inl (h.las m' e)
    · obtain rfl : m' = m := by simpa using e
      exact .inr (.inr ⟨rfl, Int.le_refl _⟩)
  · rw [applyP_wt, applyP_wn]; exact h.wls

theorem nextOf_none {s : SiP} (h : nextOf s = none) {i : Int} (h0 : 0 ≤ i) (h4 : i < 4) {m : MTx} (hm : s.wt i (s.at i + 1) = some m) : covM s m = false := by
  unfold nextOf at h
  have := List.find?_eq_none.1 h m (by
    unfold nextsL
    refine List.mem_filterMap.2 ⟨i.toNat, List.mem_range.2 (by omega), ?_⟩
    rw [show ((i.toNat : Nat) : Int) = i from by omega]
    exact hm)
  simpa using this
theorem nextOf_empty {all : List TxP} {s : SiP} (h : SInv all s) (hn : s.wn = 0) : nextOf s = none := by
  cases e : nextOf s with
  | none => rfl
  | some m =>
    obtain ⟨i, _, hi, _⟩ := nextOf_some e
    obtain ⟨wl, h1, h2, h3⟩ := h.wls
    rw [hn] at h2
    have := (h3 _ _).2 (show (s.wt (i : Int) (s.at (i : Int) + 1)).isSome = true by rw [hi]; rfl)
    rw [List.length_eq_zero_iff.1 h2] at this
    cases this
/-- one step: the next one is applied -/
theorem SInv.step {all : List TxP} {s : SiP} (hg : Good all) (hal : all.length < 200) (h : SInv all s) {m : MTx} (hn : nextOf s = some m) :
    SInv all (applyP (s.unwait m) m) ∧ (applyP (s.unwait m) m).wn + 1 = s.wn ∧ (applyP (s.unwait m) m).log.length = s.log.length + 1 ∧ (∀ a, 0 ≤ a → a < 4 → s.at a ≤ (applyP (s.unwait m) m).at a) ∧ (∀ t, HasT (applyP (s.unwait m) m) t ↔ HasT s t) ∧ m.t ∈ all ∧ ¬ 200 ≤ s.log.length := by
  obtain ⟨hr, hwt, hq⟩ := h.inv.has hn
  obtain ⟨_, _, _, hcov⟩ := nextOf_some hn
  have hll := h.loglen hg
  obtain ⟨hm, _⟩ := h.wr _ _ _ hwt
  obtain ⟨h1, h2, h3⟩ := h.unwaitS hwt
  have hs := (rightTx_head hr).1
  have hl : ¬ 200 ≤ s.log.length := by omega
  refine ⟨h1.applyS hg hm hq hcov h3 hl, h2, ?_, ?_, ?_, hm, hl⟩
  · rw [applyP_log]; simp; rfl
  · intro a ha ha4
    rw [apply_at _ _ hs ha ha4]
    split
    · rename_i e; rw [e, hq]; omega
    · exact Int.le_refl _
  · intro t
    unfold HasT
    rw [applyP_log, applyP_wt]
    constructor
    · rintro (⟨m', hm', e⟩ | ⟨m', hm', e⟩)
      · rcases List.mem_append.1 hm' with h5 | h5
        · exact .inl ⟨m', h5, e⟩
        · obtain rfl : m' = m := by simpa using h5
          exact .inr ⟨m', by rw [← e]; exact hwt, e⟩
      · refine .inr ⟨m', ?_, e⟩
        have : (s.unwait m).wt = wset s.wt m.t.site m.t.seq none := rfl
        rw [this] at hm'
        unfold wset at hm'
        split at hm'
        · cases hm'
        · exact hm'
    · rintro (⟨m', hm', e⟩ | ⟨m', hm', e⟩)
      · exact .inl ⟨m', List.mem_append_left _ hm', e⟩
      · by_cases hb : t.site = m.t.site ∧ t.seq = m.t.seq
        · rw [hb.1, hb.2, hwt] at hm'
          cases hm'
          exact .inl ⟨m, by simp, e⟩
        · refine .inr ⟨m', ?_, e⟩
          show wset s.wt m.t.site m.t.seq none t.site t.seq = some m'
          unfold wset
          rw [if_neg hb]; exact hm'
theorem SInv.run {all : List TxP} (hg : Good all) (hal : all.length < 200) : ∀ (f : Nat) {s : SiP}, SInv all s → s.wn ≤ f →
    SInv all (runP f s) ∧ nextOf (runP f s) = none ∧ (runP f s).wn + (runP f s).log.length = s.wn + s.log.length ∧ (runP f s).id = s.id ∧ (∀ a, 0 ≤ a → a < 4 → s.at a ≤ (runP f s).at a) ∧ ∀ t, HasT (runP f s) t ↔ HasT s t
  | 0, s, h, hf => ⟨h, (show nextOf s = none from nextOf_empty h (by omega)), rfl, rfl, fun _ _ _ => Int.le_refl _, fun _ => Iff.rfl⟩
  | f + 1, s, h, hf => by
    cases hn : nextOf s with
    | none => rw [runP_stop (.inl hn)]; exact ⟨h, hn, rfl, rfl, fun _ _ _ => Int.le_refl _, fun _ => Iff.rfl⟩
    | some m =>
      obtain ⟨h1, h2, h3, h4, h5, _, hl⟩ := h.step hg hal hn
      rw [runP_step hn hl]
      obtain ⟨k1, k2, k3, k4, k5, k6⟩ := SInv.run hg hal f h1 (by omega)
      exact ⟨k1, k2, by omega, k4, fun a ha ha4 => Int.le_trans (h4 a ha ha4) (k5 a ha ha4), fun t => (k6 t).trans (h5 t)⟩
/-- a site takes one of all -/
theorem takeE_zero {s : SiP} {t : TxP} (h : takeE s t = 0) : rightTx t = true ∧ t.site ≠ s.id ∧ s.at t.site < t.seq ∧ s.wt t.site t.seq = none := by
  unfold takeE at h
  split at h
  · cases h
  · rename_i h1
    split at h
    · cases h
    · rename_i h2
      simp only [not_or] at h1 h2
      refine ⟨by simpa using h1.1, h1.2, by omega, by simpa using h2.2⟩
theorem SInv.take {all : List TxP} (hg : Good all) (hal : all.length < 200) {s : SiP} (h : SInv all s) {t : TxP} (ht : t ∈ all) (he : takeE s t = 0) (A : Option Addr) (c : Nat) :
    SInv all (runP (s.wn + 1) (s.wait ⟨t, A, c⟩)) ∧ nextOf (runP (s.wn + 1) (s.wait ⟨t, A, c⟩)) = none ∧ (runP (s.wn + 1) (s.wait ⟨t, A, c⟩)).wn + (runP (s.wn + 1) (s.wait ⟨t, A, c⟩)).log.length = s.wn + s.log.length + 1 ∧ (runP (s.wn + 1) (s.wait ⟨t, A, c⟩)).id = s.id ∧
    (∀ a, 0 ≤ a → a < 4 → s.at a ≤ (runP (s.wn + 1) (s.wait ⟨t, A, c⟩)).at a) ∧ ∀ u ∈ all, HasT (runP (s.wn + 1) (s.wait ⟨t, A, c⟩)) u ↔ (HasT s u ∨ u = t) := by
  obtain ⟨hr, hid, hq, hw⟩ := takeE_zero he
  obtain ⟨h1, h2⟩ := h.waitS (m := ⟨t, A, c⟩) hg ht hq hw
  obtain ⟨k1, k2, k3, k4, k5, k6⟩ := SInv.run hg hal (s.wn + 1) h1 (by omega)
  refine ⟨k1, k2, by rw [k3, h2]; show s.wn + 1 + s.log.length = _; omega, k4, k5, fun u hu => (k6 u).trans ?_⟩
  unfold HasT
  show ((∃ m ∈ s.log, m.t = u) ∨ ∃ m, wset s.wt t.site t.seq (some ⟨t, A, c⟩) u.site u.seq = some m ∧ m.t = u) ↔ _
  unfold wset
  by_cases e : u.site = t.site ∧ u.seq = t.seq
  · have : u = t := hg.uniq hu ht e.1 e.2
    subst this
    rw [if_pos ⟨rfl, rfl⟩]
    exact ⟨fun _ => .inr rfl, fun _ => .inr ⟨_, rfl, rfl⟩⟩
  · rw [if_neg e]
    constructor
    · exact .inl
    · rintro (h | rfl)
      · exact h
      · exact absurd ⟨rfl, rfl⟩ e
/-- what the last site has seen -/
structure Seen (all : List TxP) (s : SiP) (ts : List TxP) : Prop where
  si : SInv all s
  nx : nextOf s = none
  hs : ∀ t ∈ all, HasT s t ↔ t ∈ ts
  nn : s.wn + s.log.length = ts.length
  id : s.id = 3
theorem SInv.fresh (all : List TxP) (id : Int) (hid : 0 ≤ id ∧ id < 4) (hg : ∀ t ∈ all, rightTx t = true) : SInv all (siNew id) where
  inv := ⟨by unfold okAp siNew; simp, hid, fun a b m e => by simp [siNew] at e, fun k hk => ⟨fun x hx => by simp [siNew] at hx, by simp [siNew]⟩, fun k hk v hv => by simp [siNew] at hv, by simp [siNew]⟩
  lg := fun m hm => by simp [siNew] at hm
  wr := fun a b m e => by simp [siNew] at e
  iff := fun t ht => by
    have h1 := rightTx_head (hg t ht)
    constructor
    · intro h
      have : (siNew id).at t.site = 0 := by unfold SiP.at siNew atV; simp
      rw [this] at h; omega
    · rintro ⟨m, hm, _⟩; simp [siNew] at hm
  cnt := rfl
  le := fun a _ _ => by
    have : (siNew id).at a = 0 := by unfold SiP.at siNew atV; simp
    rw [this]; exact cntS_nonneg _ _
  clo := fun m hm => by simp [siNew] at hm
  sto := fun k hk => ⟨List.Pairwise.nil, fun x => by simp [siNew]⟩
  las := fun m hm => by simp [siNew] at hm
  wls := ⟨[], List.nodup_nil, rfl, fun a b => by simp [siNew]⟩
theorem Seen.fresh {all : List TxP} (hg : Good all) : Seen all (siNew 3) [] where
  si := SInv.fresh all 3 (by omega) hg.right
  nx := by rfl
  hs := fun t _ => by unfold HasT; simp [siNew]
  nn := rfl
  id := rfl
theorem Seen.take {all : List TxP} (hg : Good all) (hal : all.length < 200) {s : SiP} {ts : List TxP} (h : Seen all s ts) {t : TxP} (ht : t ∈ all) (h3 : t.site ≠ 3) (hn : t ∉ ts) (hl : ts.length < 40) :
    takeE s t = 0 ∧ ∀ A c, Seen all (runP (s.wn + 1) (s.wait ⟨t, A, c⟩)) (ts ++ [t]) := by
  have hno : ¬ HasT s t := fun e => hn ((h.hs t ht).1 e)
  have hr := hg.right t ht
  have he : takeE s t = 0 := by
    unfold takeE
    rw [if_neg, if_neg, if_neg]
    · have := h.nn; omega
    · rintro (e | e)
      · exact hno (.inl ((h.si.iff t ht).1 e))
      · obtain ⟨m, hm⟩ := Option.isSome_iff_exists.1 e
        obtain ⟨i1, i2, i3⟩ := h.si.inv.wt _ _ _ hm
        exact hno (.inr ⟨m, hm, hg.uniq (h.si.wr _ _ _ hm).1 ht i1 i2⟩)
    · rw [h.id]; rintro (e | e)
      · rw [hr] at e; cases e
      · exact h3 e
  refine ⟨he, fun A c => ?_⟩
  obtain ⟨k1, k2, k3, k4, _, k6⟩ := h.si.take hg hal ht he A c
  refine ⟨k1, k2, fun u hu => (k6 u hu).trans ?_, ?_, k4.trans h.id⟩
  · rw [h.hs u hu]; simp
  · rw [k3, h.nn]; simp
theorem Seen.twice {all : List TxP} (hg : Good all) {s : SiP} {ts : List TxP} (h : Seen all s ts) {t : TxP} (ht : t ∈ all) (h3 : t.site ≠ 3) (hn : t ∈ ts) : takeE s t = 9 := by
  have hr := hg.right t ht
  unfold takeE
  rw [if_neg, if_pos]
  · rcases (h.hs t ht).2 hn with e | ⟨m, hm, _⟩
    · exact .inl ((h.si.iff t ht).2 e)
    · exact .inr (by rw [hm]; rfl)
  · rw [h.id]; rintro (e | e)
    · rw [hr] at e; cases e
    · exact h3 e
/-- what is applied is closed -/
theorem SInv.closed {all : List TxP} {s : SiP} (h : SInv all s) {t : TxP} (ht : t ∈ all) (hq : t.seq ≤ s.at t.site) : covD s.p0 s.p1 s.p2 s.p3 t.d0 t.d1 t.d2 t.d3 = true := by
  obtain ⟨m, hm, rfl⟩ := (h.iff t ht).1 hq
  exact h.clo m hm
theorem Seen.counts {all : List TxP} (hg : Good all) {s : SiP} {ts : List TxP} (h : Seen all s ts) (hall : ∀ t ∈ all, t ∈ ts) : ∀ j, j ≤ all.length → ∀ a : Int, 0 ≤ a → a < 4 → cntS (all.take j) a ≤ s.at a
  | 0, _, a, _, _ => by
    rw [List.take_zero, cntS_nil]
    exact (h.si.inv.ap.at a).1
  | j + 1, hj, a, h0, h4 => by
    have ih := Seen.counts hg h hall j (by omega)
    obtain ⟨t, ht⟩ : ∃ t, all[j]? = some t := ⟨_, List.getElem?_eq_getElem (by omega)⟩
    rw [take_snoc ht, cntS_snoc]
    obtain ⟨o1, o2⟩ := hg.order j t ht
    have hmem := at_mem ht
    split
    · rename_i e
      subst e
      have : t.seq ≤ s.at t.site := by
        rcases (h.hs t hmem).2 (hall t hmem) with e | ⟨m, hm, e⟩
        · exact (h.si.iff t hmem).2 e
        · have h1 := (h.si.wr _ _ _ hm).2
          have h2 := ih t.site h0 h4
          have h3 : s.at t.site + 1 = t.seq := by omega
          rw [← h3] at hm
          have hf := nextOf_none h.nx h0 h4 hm
          have ht2 : covM s m = true := (covM_iff s m).2 fun a ha ha4 => by
            rw [e]
            exact Int.le_trans (o2 a ha ha4) (ih a ha ha4)
          rw [ht2] at hf; cases hf
      omega
    · have := ih a h0 h4; omega
/-- all that came is applied -/
theorem Seen.whole {all : List TxP} (hg : Good all) {s : SiP} {ts : List TxP} (h : Seen all s ts) (hall : ∀ t ∈ all, t ∈ ts) :
    (∀ a : Int, 0 ≤ a → a < 4 → s.at a = cntS all a) ∧ s.wn = 0 ∧ s.log.length = all.length ∧ ∀ t, (∃ m ∈ s.log, m.t = t) ↔ t ∈ all := by
  have hc : ∀ a : Int, 0 ≤ a → a < 4 → s.at a = cntS all a := fun a h0 h4 => by
    have h1 := Seen.counts hg h hall all.length (Nat.le_refl _) a h0 h4
    rw [List.take_length] at h1
    have := h.si.le a h0 h4
    omega
  have hlog : ∀ t ∈ all, ∃ m ∈ s.log, m.t = t := fun t ht => by
    have hs := (rightTx_head (hg.right t ht)).1
    refine (h.si.iff t ht).1 ?_
    rw [hc _ hs.1 hs.2]
    exact hg.seq_le ht
  refine ⟨hc, ?_, ?_, fun t => ⟨fun ⟨m, hm, e⟩ => e ▸ h.si.lg m hm, hlog t⟩⟩
  · obtain ⟨wl, h1, h2, h3⟩ := h.si.wls
    cases wl with
    | nil => exact h2.symm
    | cons p wl =>
      obtain ⟨a, b⟩ := p
      have := (h3 a b).1 (by simp)
      obtain ⟨m, hm⟩ := Option.isSome_iff_exists.1 this
      obtain ⟨k1, k2⟩ := h.si.wr _ _ _ hm
      obtain ⟨i1, i2, _⟩ := h.si.inv.wt _ _ _ hm
      have := (h.si.iff m.t k1).2 (hlog _ k1)
      rw [i1, i2] at this
      omega
  · have h1 := cntS_sum all (fun t ht => (rightTx_head (hg.right t ht)).1)
    have h2 := h.si.cnt
    rw [hc 0 (by omega) (by omega), hc 1 (by omega) (by omega), hc 2 (by omega) (by omega), hc 3 (by omega) (by omega)] at h2
    omega
/-- two sites that took all are alike -/
theorem Seen.same {all : List TxP} (hg : Good all) {s s' : SiP} {ts ts' : List TxP} (h : Seen all s ts) (hall : ∀ t ∈ all, t ∈ ts) (h' : Seen all s' ts') (hall' : ∀ t ∈ all, t ∈ ts') :
    s.p0 = s'.p0 ∧ s.p1 = s'.p1 ∧ s.p2 = s'.p2 ∧ s.p3 = s'.p3 ∧ ∀ k : Nat, k < 8 → s.st k = s'.st k := by
  obtain ⟨c1, _, _, l1⟩ := h.whole hg hall
  obtain ⟨c2, _, _, l2⟩ := h'.whole hg hall'
  have e : ∀ a : Int, 0 ≤ a → a < 4 → s.at a = s'.at a := fun a h0 h4 => (c1 a h0 h4).trans (c2 a h0 h4).symm
  exact ⟨e 0 (by omega) (by omega), e 1 (by omega) (by omega), e 2 (by omega) (by omega), e 3 (by omega) (by omega), fun k hk => h.si.sto.ext h'.si.sto (fun t => (l1 t).trans (l2 t).symm) hk⟩

structure Told (all : List TxP) (n : Nat) (S : Nat → SiP) : Prop where
  good : Good all
  si : ∀ i, i < n → SInv all (S i) ∧ (S i).id = (i : Int) ∧ (S i).at (i : Int) = cntS all (i : Int)
  st : ∀ t ∈ all, t.site < (n : Int)
def sUpd (S : Nat → SiP) (i : Nat) (s : SiP) : Nat → SiP := fun k => if k = i then s else S k
theorem Good.nil : Good [] := ⟨fun t h => by simp at h, fun j t h => by simp at h, fun i j t u _ h => by simp at h⟩
theorem Told.fresh (n : Nat) (hn : n ≤ 4) : Told [] n (fun i => siNew (i : Int)) where
  good := Good.nil
  si := fun i hi => ⟨SInv.fresh [] (i : Int) ⟨by omega, by omega⟩ (fun t h => by simp at h), rfl, by unfold SiP.at siNew atV cntS; simp⟩
  st := fun t h => by simp at h
theorem Told.take {all : List TxP} {n : Nat} {S : Nat → SiP} (h : Told all n S) (hal : all.length < 200) {i : Nat} (hi : i < n) (hn : n ≤ 4) {t : TxP} (ht : t ∈ all) (he : takeE (S i) t = 0) (A : Option Addr) (c : Nat) :
    Told all n (sUpd S i (runP ((S i).wn + 1) ((S i).wait ⟨t, A, c⟩))) := by
  obtain ⟨h1, h2, h3⟩ := h.si i hi
  obtain ⟨k1, _, _, k4, k5, _⟩ := h1.take h.good hal ht he A c
  refine ⟨h.good, fun j hj => ?_, h.st⟩
  unfold sUpd
  by_cases e : j = i
  · subst e
    rw [if_pos rfl]
    refine ⟨k1, k4.trans h2, ?_⟩
    have := k5 (j : Int) (by omega) (by omega)
    have := k1.le (j : Int) (by omega) (by omega)
    omega
  · rw [if_neg e]; exact h.si j hj
/-- one more is told -/
theorem SInv.more {all : List TxP} {s : SiP} (hg : Good all) (h : SInv all s) {T : TxP} (hs : 0 ≤ T.site ∧ T.site < 4) (hq : T.seq = cntS all T.site + 1) : SInv (all ++ [T]) s where
  inv := h.inv
  lg := fun m hm => List.mem_append_left _ (h.lg m hm)
  wr := fun a b m e => ⟨List.mem_append_left _ (h.wr a b m e).1, (h.wr a b m e).2⟩
  iff := fun t ht => by
    rcases List.mem_append.1 ht with h1 | h1
    · exact h.iff t h1
    · obtain rfl : t = T := by simpa using h1
      have hle := h.le t.site hs.1 hs.2
      constructor
      · intro e; omega
      · rintro ⟨m, hm, e⟩
        have := hg.seq_le (h.lg m hm)
        rw [e] at this; omega
  cnt := h.cnt
  le := fun a h0 h4 => by
    have := h.le a h0 h4
    rw [cntS_snoc]
    split <;> omega
  clo := h.clo
  sto := h.sto
  las := h.las
  wls := h.wls
theorem next_later {aw ac now : Int} (h : nextE aw ac now = 0) : (0 ≤ nextW aw now ∧ nextW aw now ≤ 1099511627776) ∧ (0 ≤ nextC aw ac now ∧ nextC aw ac now ≤ 1099511627776) ∧ (aw < nextW aw now ∨ (aw = nextW aw now ∧ ac < nextC aw ac now)) := by
  unfold nextE at h
  split at h
  · cases h
  · rename_i h1
    simp only [not_or] at h1
    have hr := rightS_bd (by simpa using h1.1 : rightS aw ac = true)
    unfold nextW nextC
    split at h
    · rename_i h2
      rw [if_pos h2, if_pos h2]; omega
    · rename_i h2
      rw [if_neg h2, if_neg h2]
      split at h
      · cases h
      · omega
theorem commitE_zero {s : SiP} {now d0 d1 d2 d3 : Int} {ws : List WrP} (h : commitE s now d0 d1 d2 d3 ws = 0) : rightWs ws = true ∧ nextE s.lw s.lc now = 0 := by
  unfold commitE at h
  split at h
  · cases h
  · rename_i h1
    split at h
    · cases h
    · split at h
      · cases h
      · exact ⟨by simpa using h1, h⟩
theorem Told.commit {all : List TxP} {n : Nat} {S : Nat → SiP} (h : Told all n S) (hal : all.length < 100) {i : Nat} (hi : i < n) (hn : n ≤ 4) {now : Int} {ws : List WrP} (he : commitE (S i) now (S i).p0 (S i).p1 (S i).p2 (S i).p3 ws = 0) (A : Option Addr) (c : Nat) :
    Told (all ++ [commitT (S i) now (S i).p0 (S i).p1 (S i).p2 (S i).p3 ws]) n (sUpd S i (applyP (S i) ⟨commitT (S i) now (S i).p0 (S i).p1 (S i).p2 (S i).p3 ws, A, c⟩)) := by
  obtain ⟨h1, h2, h3⟩ := h.si i hi
  obtain ⟨hws, hnx⟩ := commitE_zero he
  obtain ⟨hw, hc, hlt⟩ := next_later hnx
  have hT : commitT (S i) now (S i).p0 (S i).p1 (S i).p2 (S i).p3 ws = ⟨(i : Int), cntS all (i : Int) + 1, nextW (S i).lw now, nextC (S i).lw (S i).lc now, (S i).p0, (S i).p1, (S i).p2, (S i).p3, ws⟩ := by
    unfold commitT
    rw [h2, h3]
    simp
  rw [hT]
  generalize hTT : (⟨(i : Int), cntS all (i : Int) + 1, nextW (S i).lw now, nextC (S i).lw (S i).lc now, (S i).p0, (S i).p1, (S i).p2, (S i).p3, ws⟩ : TxP) = T
  have e1 : T.site = (i : Int) := by rw [← hTT]
  have e2 : T.seq = cntS all (i : Int) + 1 := by rw [← hTT]
  have e3 : T.wall = nextW (S i).lw now := by rw [← hTT]
  have e4 : T.count = nextC (S i).lw (S i).lc now := by rw [← hTT]
  have e5 : ∀ a, depOf T a = (S i).at a := fun a => by rw [← hTT]; rfl
  have hcl : cntS all (i : Int) ≤ all.length := by unfold cntS; have := List.length_filter_le (fun t : TxP => decide (t.site = (i : Int))) all; omega
  have hap := h1.inv.ap
  have hright : rightTx T = true := by
    unfold rightTx headTx okN depAt
    have hdep : (if T.site = 0 then T.d0 else if T.site = 1 then T.d1 else if T.site = 2 then T.d2 else T.d3) = (S i).at (i : Int) := by
      rw [← e1]; exact e5 T.site
    have hd : T.d0 = (S i).p0 ∧ T.d1 = (S i).p1 ∧ T.d2 = (S i).p2 ∧ T.d3 = (S i).p3 ∧ T.ws = ws := by rw [← hTT]; exact ⟨rfl, rfl, rfl, rfl, rfl⟩
    rw [hdep, h3]
    obtain ⟨d0, d1, d2, d3, dw⟩ := hd
    rw [d0, d1, d2, d3, dw, hws, e1, e2, e3, e4]
    unfold okAp at hap
    have := cntS_nonneg all (i : Int)
    simp only [Bool.and_eq_true, decide_eq_true_eq, and_true]
    omega
  have hgood : Good (all ++ [T]) := by
    refine ⟨?_, ?_, ?_⟩
    · intro t ht
      rcases List.mem_append.1 ht with e | e
      · exact h.good.right t e
      · obtain rfl : t = T := by simpa using e
        exact hright
    · intro j t hj
      by_cases hjl : j < all.length
      · rw [List.getElem?_append_left hjl] at hj
        rw [List.take_append_of_le_length (by omega)]
        exact h.good.order j t hj
      · have hjl2 : j < (all ++ [T]).length := by
          rcases List.getElem?_eq_some_iff.1 hj with ⟨hh, _⟩; exact hh
        have : j = all.length := by simp at hjl2; omega
        subst this
        rw [List.getElem?_concat_length] at hj
        cases hj
        rw [List.take_left]
        refine ⟨by rw [e1]; exact e2, fun a h0 h4 => ?_⟩
        rw [e5]; exact h1.le a h0 h4
    · intro k j t u hkj hk hj hs
      have hjl2 : j < (all ++ [T]).length := by
        rcases List.getElem?_eq_some_iff.1 hj with ⟨hh, _⟩; exact hh
      have hkl : k < all.length := by simp at hjl2; omega
      rw [List.getElem?_append_left hkl] at hk
      by_cases hjl : j < all.length
      · rw [List.getElem?_append_left hjl] at hj
        exact h.good.stamp k j t u hkj hk hj hs
      · have : j = all.length := by simp at hjl2; omega
        subst this
        rw [List.getElem?_concat_length] at hj
        cases hj
        have htm := at_mem hk
        obtain ⟨m, hm, hmt⟩ := (h1.iff t htm).1 (by rw [hs, e1, h3, ← e1, ← hs]; exact h.good.seq_le htm)
        have := h1.las m hm
        rw [hmt] at this
        unfold stLt
        rw [e3, e4]
        omega
  refine ⟨hgood, fun j hj => ?_, ?_⟩
  · have hmore : ∀ j, j < n → SInv (all ++ [T]) (S j) := fun j hj => (h.si j hj).1.more h.good (by rw [e1]; omega) (by rw [e1]; exact e2)
    unfold sUpd
    by_cases e : j = i
    · subst e
      rw [if_pos rfl]
      have hwt : (S j).wt T.site T.seq = none := by
        cases hh : (S j).wt T.site T.seq with
        | none => rfl
        | some m =>
          have k1 := (h1.wr _ _ _ hh).1
          obtain ⟨i1, i2, _⟩ := h1.inv.wt _ _ _ hh
          have := h.good.seq_le k1
          rw [i1, i2, e1] at this; omega
      have hlog := h1.loglen h.good
      have hs : 0 ≤ T.site ∧ T.site < 4 := by rw [e1]; omega
      refine ⟨(hmore j hj).applyS (m := ⟨T, A, c⟩) hgood (by simp) (by show T.seq = (S j).at T.site + 1; rw [e1, h3, e2]) ((covM_iff _ _).2 fun a _ _ => by show depOf T a ≤ _; rw [e5]; exact Int.le_refl _) hwt (by omega), h2, ?_⟩
      rw [apply_at _ _ hs (by omega) (by omega), cntS_snoc]
      show (if (j : Int) = T.site then T.seq else _) = _
      rw [if_pos e1.symm, if_pos e1, e2]
    · rw [if_neg e]
      refine ⟨hmore j hj, (h.si j hj).2.1, ?_⟩
      rw [cntS_snoc, if_neg (by rw [e1]; omega), (h.si j hj).2.2]; omega
  · intro t ht
    rcases List.mem_append.1 ht with e | e
    · exact h.st t e
    · obtain rfl : t = T := by simpa using e
      rw [e1]; omega
end Go.Proofs.YtbopfhbeegkkaaaDoor
