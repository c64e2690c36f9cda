import Derived.Test.YtbopfhbeegkkaaaDoorSt3
import Derived.RegionTactic
namespace Go.Proofs.YtbopfhbeegkkaaaDoor
open Go.RowKit

theorem rightV_is {v : VerP} {b : Bool} (h : rightV v = b) (w : World) : Calls Tryd.prog 67 #[verV v] w fun e w' => e = .returned (.bool b) ∧ Below w.heap.size w w' := by
  subst h; exact rightV_any v w
theorem search_is {vs : List VerP} {v : VerP} {b : Bool} (h : bsF vs v = b) (A : Option Addr) (c : Nat) (w : World) (hn : vs.length ≤ 1000000) (hvs : VsAt w A vs) (hs : ∀ x ∈ vs, 0 ≤ x.site ∧ x.site < 4) (hv : 0 ≤ v.site ∧ v.site < 4) :
    Calls Tryd.prog 68 #[.slice A vs.length c, verV v, .func (.func 69) #[] #[]] w fun e w' => e = .returned (.tuple #[.int .i64 (bsK vs v), .bool b]) ∧ Below w.heap.size w w' := by
  subst h; exact search_any vs v A c w hn hvs hs hv

theorem StFr.from {w W W' : World} {g : Nat} {sv sv' : Nat → Value} (hb : Below w.heap.size w W) (h : StFr W W' g sv sv') : StFr w W' g sv sv' :=
  ⟨h.os.trans hb.os, h.tape.trans hb.tape, h.output.trans hb.output, Nat.le_trans hb.size h.size, fun k hk hn => (h.block k (Nat.lt_of_lt_of_le hk hb.size) hn).trans (hb.block k hk), fun b h' => (h.own b h').imp id (fun e => Nat.le_trans hb.size e)⟩
theorem StAt.drew {w : World} {g B : Nat} {S : Nat → List VerP} {sv : Nat → Value} (h : StAt w g B S sv) : StAt w.drew g B S sv := ⟨h.blk, h.own, h.ng, h.dis⟩
theorem StFr.drew {w W : World} {g : Nat} {sv sv' : Nat → Value} (h : StFr w W g sv sv') : StFr w W.drew g sv sv' := ⟨h.os, h.tape, h.output, h.size, h.block, h.own⟩
theorem ins_at {g B k : Nat} {S : Nat → List VerP} {sv : Nat → Value} {v : VerP} {A : Option Addr} {c : Nat} {w : World} (hst : StAt w g B S sv) (hk : k < 8) (hsv : sv k = .slice A (S k).length c) (hn : (S k).length ≤ 900000) (hB : B ≤ w.heap.size)
    (W : World) (b : Nat) (hb : Below w.heap.size w W) (hob : W.heap[b]? = some (.cells #[.int .i64 v.w, .int .i64 v.c, .int .i64 v.site, .int .i64 v.seq, .string v.data, .bool v.gone] 71)) (hbl : w.heap.size ≤ b) :
    Calls Tryd.prog 70 #[.slice A (S k).length c, .int .i64 (bsK (S k) v), .slice (some ⟨b, 0, none⟩) 1 1] W fun e w' => ∃ v', (∃ A' c', v' = .slice A' ((S k).length + 1) c') ∧ e = .returned v' ∧
      (StAt (w'.setCell ⟨g, k, none⟩ v') g B (fun j => if j = k then insV (S j) v else S j) (fun j => if j = k then v' else sv j) ∧ StFr w (w'.setCell ⟨g, k, none⟩ v') g sv (fun j => if j = k then v' else sv j)) ∧
      w'.cell? ⟨g, k, none⟩ = some (sv k) ∧ w'.frozen? ⟨g, k, none⟩ = false := by
  have hstW := hst.below hb
  have hown := hstW.own k hk
  have hkk := bsK_le (S k) v
  have h := insert_any B (sv k) (S k).length (bsK (S k) v) (rowOf (S k)) (.int .i64 v.w) (.int .i64 v.c) (.int .i64 v.site) (.int .i64 v.seq) (.string v.data) (.bool v.gone) b W (Nat.le_trans hB hb.size) hown hkk (by omega) hob
    (fun e => by have := (own_ge (hst.own k hk) e).2; omega) (by intro u hu; simp at hu; rcases hu with rfl | rfl | rfl | rfl | rfl | rfl <;> rfl) (rowOf_one _)
  rw [hsv] at h
  refine h.mono ?_
  rintro e w' ⟨v', rfl, hown', hg, hv⟩
  rw [← hsv] at hg hv
  have hrow : (rowOf (S k)).take (bsK (S k) v * 6) ++ [.int .i64 v.w, .int .i64 v.c, .int .i64 v.site, .int .i64 v.seq, .string v.data, .bool v.gone] ++ (rowOf (S k)).drop (bsK (S k) v * 6) = rowOf (insV (S k) v) := by
    rw [rowOf_take _ _ hkk, rowOf_drop _ _ hkk]; simp [insV, rowOf, verCells]
  have hlen : (insV (S k) v).length = (S k).length + 1 := by simp [insV]; omega
  rw [hrow, ← hlen] at hown'
  obtain ⟨A', c', hform⟩ := own_form hown'
  rw [hlen] at hform
  have hu := hstW.upd hk hg hown' hv
  have hgb : w'.heap[g]? = W.heap[g]? := hg.block g (lt_blk hstW.blk) (fun e => hstW.ng k hk e.symm)
  have hcell : w'.cell? ⟨g, k, none⟩ = some (sv k) := by rw [World.cell?_of_block hgb]; exact (hstW.cell hk).1
  have hfz : w'.frozen? ⟨g, k, none⟩ = false := by rw [World.frozen?_of_block hgb]; exact (hstW.cell hk).2
  have hfun : (fun j => if j = k then insV (S j) v else S j) = (fun j => if j = k then insV (S k) v else S j) := by
    funext j; by_cases e : j = k <;> simp [e]
  rw [hfun]
  exact ⟨v', ⟨A', c', hform⟩, rfl, ⟨hu.1, hu.2.from hb⟩, hcell, hfz⟩
def PutPost (g B : Nat) (S : Nat → List VerP) (sv : Nat → Value) (r : Int × (Nat → List VerP)) (w : World) (e : Ending) (w' : World) : Prop :=
  ∃ sv', e = .returned (errV r.1) ∧ StAt w' g B r.2 sv' ∧ StFr w w' g sv sv'
set_option maxRecDepth 20000 in
set_option maxHeartbeats 8000000 in
theorem putS_any (g B : Nat) (S : Nat → List VerP) (sv : Nat → Value) (key : Int) (v : VerP) (w : World) (hst : StAt w g B S sv) (hok : ∀ k, k < 8 → ∀ x ∈ S k, 0 ≤ x.site ∧ x.site < 4) (hlen : ∀ k, k < 8 → (S k).length ≤ 900000) (hB : B ≤ w.heap.size) :
    Calls Tryd.prog 34 #[.pointer (some ⟨g, 0, none⟩), .int .i64 key, verV v] w (PutPost g B S sv (putR S key v) w) := by
  have HST := hidp hst
  have hlg := lt_blk hst.blk
  have hdone : ∀ (n : Int) (w' : World), putR S key v = (n, S) → Below w.heap.size w w' → PutPost g B S sv (putR S key v) w (.returned (errV n)) w' := by
    intro n w' h hb
    rw [h]
    exact ⟨sv, rfl, hst.below hb, StFr.of_below g sv hb⟩
  have HDN := hidp hdone
  clear hdone hst
  by_cases h0 : key < 0
  · have HR : Hid (putR S key v = (2, S)) := hidp (by unfold putR; rw [if_pos (.inl h0)])
    unfold verV
    go_enter Tryd.func34, Tryd.ntmps34
    go_wp2
    go_ret
    exact HDN.out 2 _ HR.out (blw_alloc (Below.refl _ _))
  by_cases h8 : 8 ≤ key
  · have HR : Hid (putR S key v = (2, S)) := hidp (by unfold putR; rw [if_pos (.inr h8)])
    unfold verV
    go_enter Tryd.func34, Tryd.ntmps34
    go_wp2
    go_ret
    exact HDN.out 2 _ HR.out (blw_alloc (Below.refl _ _))
  have hrange : ¬ (key < 0 ∨ 8 ≤ key) := by omega
  rcases hr : rightV v with _ | _
  · have HR : Hid (putR S key v = (1, S)) := hidp (by unfold putR; rw [if_neg hrange, if_pos hr])
    have HV := hidp fun w => rightV_is hr w
    clear hr
    unfold verV at HV ⊢
    go_enter Tryd.func34, Tryd.ntmps34
    go_wp2_with (go_at_call 67; refine (HV.out _).mono ?_; rintro e w' ⟨rfl, hb⟩; obtain ⟨x, rfl⟩ := wplus_of_below hb; clear hb)
    go_ret
    exact HDN.out 1 _ HR.out (by repeat (first | exact Below.refl _ _ | refine blw_alloc ?_ | refine blw_plus ?_ | refine Below.drew ?_))
  have HV := hidp fun w => rightV_is hr w
  have hvs : 0 ≤ v.site ∧ v.site < 4 := by
    have h := hr
    simp only [rightV, Bool.and_eq_true, decide_eq_true_eq] at h
    omega
  obtain ⟨k, rfl⟩ := Int.eq_ofNat_of_zero_le (show 0 ≤ key by omega)
  have hk : k < 8 := by omega
  have hcell := HST.out.cell hk
  obtain ⟨A, c, hsv⟩ := own_form (HST.out.own k hk)
  have hown := HST.out.own k hk
  rw [hsv] at hown
  have HVS := hidp (own_vs hown)
  have hn := hlen k hk
  have hx := hok k hk
  have HOW := hidp (HST.out.own k hk)
  haveI : SzGe (g + 1) w := ⟨hlg⟩
  rw [hsv] at hcell
  obtain ⟨hc1, hc2⟩ := hcell
  rcases hf : bsF (S k) v with _ | _
  rotate_left
  · have HR : Hid (putR S (k : Int) v = (9, S)) := hidp (by unfold putR; rw [if_neg hrange, if_neg (by rw [hr]; simp), Int.toNat_natCast, if_pos hf])
    have HSe := hidp fun w h => search_is hf A c w (by omega) h hx hvs
    clear hr hf hown hrange hlen hok hx
    unfold verV at HV HSe ⊢
    go_enter Tryd.func34, Tryd.ntmps34
    go_wp2_with (go_at_call 67; refine (HV.out _).mono ?_; rintro e w' ⟨rfl, hb⟩; obtain ⟨x, rfl⟩ := wplus_of_below hb; clear hb)
    refine wp_region_plus (by kernel_rfl) (by kernel_rfl) ?_
    repeat (first | go_big_quiet_skip | (go_big_quiet_want; go_big_quiet_op; first | go_big_quiet_on | (apply Exists.intro; refine ⟨fun _ => ?_, ?_⟩; (first | (go_at_call 68; exact Calls.plus_of (HSe.out _ (HVS.out.below (by repeat (first | exact Below.refl _ _ | refine blw_alloc ?_ | refine blw_plus ?_ | refine Below.drew ?_)))))); go_big_quiet_on)))
    refine wpQuiet_nil ?_
    rintro _ ⟨x3, rfl⟩
    go_wp2
    go_ret
    exact HDN.out 9 _ HR.out (by repeat (first | exact Below.refl _ _ | refine blw_alloc ?_ | refine blw_plus ?_ | refine Below.drew ?_))
  · have HR : Hid (putR S (k : Int) v = (0, fun j => if j = k then insV (S j) v else S j)) := hidp (by unfold putR; rw [if_neg hrange, if_neg (by rw [hr]; simp), Int.toNat_natCast, if_neg (by rw [hf]; simp)])
    have HSe := hidp fun w h => search_is hf A c w (by omega) h hx hvs
    clear hr hf hown hrange hlen hok hx
    unfold verV at HV HSe ⊢
    go_enter Tryd.func34, Tryd.ntmps34
    go_wp2_with (go_at_call 67; refine (HV.out _).mono ?_; rintro e w' ⟨rfl, hb⟩; obtain ⟨x, rfl⟩ := wplus_of_below hb; clear hb)
    refine wp_region_plus (by kernel_rfl) (by kernel_rfl) ?_
    repeat (first | go_big_quiet_skip | (go_big_quiet_want; go_big_quiet_op; first | go_big_quiet_on | (apply Exists.intro; refine ⟨fun _ => ?_, ?_⟩; (first | (go_at_call 68; exact Calls.plus_of (HSe.out _ (HVS.out.below (by repeat (first | exact Below.refl _ _ | refine blw_alloc ?_ | refine blw_plus ?_ | refine Below.drew ?_)))))); go_big_quiet_on)))
    refine wpQuiet_nil ?_
    rintro _ ⟨x3, rfl⟩
    go_wp2
    have HI := hidp (ins_at (v := v) HST.out hk hsv hn hB)
    clear hsv
    go_region_with (first
      | (go_at_call 70
         refine (HI.out _ _ ?_ ?_ ?_).mono ?_
         · (repeat (first | exact Below.refl _ _ | refine blw_alloc ?_ | refine blw_plus ?_ | refine Below.drew ?_))
         · (try rw [heap_drew]); rw [heap_alloc, if_pos (by simp [heap_drew])]
         · omega
         rintro e w' ⟨v', ⟨A', c', rfl⟩, rfl, hSF, hc3, hc4⟩))
    all_goals
      have HP : Hid (PutPost g B S sv (putR S (k : Int) v) w (.returned .nilIface) (w'.setCell ⟨g, k, none⟩ (.slice A' ((S k).length + 1) c'))) := hidp (by
        rw [HR.out]; exact ⟨_, rfl, hSF.1, hSF.2⟩)
      clear hSF hc3 hc4
      go_wp2
      go_ret
      exact HP.out
end Go.Proofs.YtbopfhbeegkkaaaDoor
