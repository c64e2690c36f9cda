import Derived.Test.YtbopfhbeegkkaaaDoorRDecT
import Derived.Test.YtbopfhbeegkkaaaDoorWWr
namespace Go.Proofs.YtbopfhbeegkkaaaDoor
open Go.RowKit

theorem rDecTx_to {D : Option TxP} (s : ByteArray) (w : World) (hd : decTx s.data.toList = D) (hl : s.size ≤ 1000000) : Calls Tryd.prog 26 #[.string s] w (RTxPost w D) := by subst hd; exact rDecTx_any s w hl
theorem rDecAsk_to {D : Option (Nat × (Nat × Nat × Nat × Nat))} (s : ByteArray) (w : World) (hd : decAsk s.data.toList = D) (hl : s.size ≤ 1000000) :
    Calls Tryd.prog 28 #[.string s] w fun e w' => e = .returned (rAskV D) ∧ Below w.heap.size w w' := by subst hd; exact rDecAsk_any s w hl

set_option maxRecDepth 20000 in
set_option maxHeartbeats 16000000 in
theorem wireReads_any (v : Value) (l : List UInt8) (w : World) (hg : EType w) (hb : BsVal w w.heap.size v l) :
    Calls Tryd.prog 5 #[v] w fun e w' => e = .returned (.bool true) ∧ Below w.heap.size w w' := by
  have BS := hidp hb
  have ET := hidp hg
  obtain ⟨A, c, rfl, hlc, hcm, _⟩ := hb
  clear hg
  unfold maxLen at hcm
  by_cases h3 : 300 < l.length
  · go_enter Tryd.func5, Tryd.ntmps5
    go_wp2
    go_ret
    exact ⟨rfl, (by repeat (first | exact Below.refl _ _ | refine blw_alloc ?_ | refine blw_plus ?_ | refine Below.drew ?_))⟩
  have BL := hidp (Below.refl w.heap.size w)
  have hs : (⟨l.toArray⟩ : ByteArray).size ≤ 1000000 := by simp [ByteArray.size]; omega
  have hl : l.length ≤ 1000000 := by omega
  obtain ⟨D, hD⟩ : ∃ D, decTx l = D := ⟨_, rfl⟩
  obtain ⟨E, hE⟩ : ∃ E, decAsk l = E := ⟨_, rfl⟩
  have H26 := hidp fun w => rDecTx_to ⟨l.toArray⟩ w (show decTx (⟨l.toArray⟩ : ByteArray).data.toList = D from hD) hs
  have H27 := hidp fun w h => decTx_to (.slice A l.length c) l w hD h hl
  have H28 := hidp fun w => rDecAsk_to ⟨l.toArray⟩ w (show decAsk (⟨l.toArray⟩ : ByteArray).data.toList = E from hE) hs
  have H29 := hidp fun w h => decAsk_to (.slice A l.length c) l w hE h hl
  have HNN : ∀ t, D = some t → t.ws.length ≤ 1000000 := fun t ht => by
    have h := (decTx_back (hD.trans ht)).1
    simp only [rightTx, Bool.and_eq_true] at h
    have := (rightWs_all h.2).2.2; omega
  clear hD hE hs hl
  go_enter Tryd.func5, Tryd.ntmps5
  rcases D with _ | t
  · clear HNN
    rcases E with _ | ⟨es, ea, eb, ec, ed⟩
    · 
      have hcv := conv_all BS.out
      go_wp2_with fail
      go_at_call 26
      refine (H26.out _).mono ?_
      rintro e w1 ⟨rfl, hbb⟩
      have BS := hidp (BS.out.below (Nat.le_refl _) hbb)
      have ET := hidp (ET.out.plus hbb)
      have BL := hidp (BL.out.trans (hbb.mono BL.out.size))
      clear hcv hbb
      go_wp2_with fail
      go_at_call 27
      refine (H27.out _ (BS.out.below (Nat.le_refl _) (blw_alloc (Below.refl _ _)))).mono ?_
      rintro e w2 ⟨rfl, hb⟩
      have hbb := Below.trans (blw_alloc (Below.refl w1.heap.size w1)) (hb.mono (by simp))
      have BS := hidp (BS.out.below (Nat.le_refl _) hbb)
      have ET := hidp (ET.out.plus hbb)
      have BL := hidp (BL.out.trans (hbb.mono BL.out.size))
      have X1 := hidp (hb.block w1.heap.size (by simp))
      rw [heap_alloc, if_pos rfl] at X1
      clear hb hbb
      have hcv : ∀ o, (convert 44 9 (.slice A l.length c)).run Tryd.prog (w2.alloc o) = .ok (.string ⟨l.toArray⟩) (w2.alloc o) := fun o => conv_all (BS.out.below (Nat.le_refl _) (blw_alloc (Below.refl _ _)))
      go_wp2_with fail
      go_at_call 28
      refine (H28.out _).mono ?_
      rintro e w3 ⟨rfl, hb⟩
      have hbb := Below.trans (blw_alloc (Below.refl w2.heap.size w2)) (hb.mono (by simp))
      have BS := hidp (BS.out.below (Nat.le_refl _) hbb)
      have ET := hidp (ET.out.plus hbb)
      have BL := hidp (BL.out.trans (hbb.mono BL.out.size))
      have X1 := hidp ((hbb.block _ (lt_blk X1.out)).trans X1.out)
      have X2 := hidp (hb.block w2.heap.size (by simp))
      rw [heap_alloc, if_pos rfl] at X2
      clear hb hbb hcv
      simp only [rAskV]
      go_wp2_with fail
      go_at_call 29
      refine (H29.out _ (BS.out.below (Nat.le_refl _) (blw_alloc (Below.refl _ _)))).mono ?_
      rintro e w4 ⟨rfl, hb⟩
      have hbb := Below.trans (blw_alloc (Below.refl w3.heap.size w3)) (hb.mono (by simp))
      have BS := hidp (BS.out.below (Nat.le_refl _) hbb)
      have ET := hidp (ET.out.plus hbb)
      have BL := hidp (BL.out.trans (hbb.mono BL.out.size))
      have X1 := hidp ((hbb.block _ (lt_blk X1.out)).trans X1.out)
      have X2 := hidp ((hbb.block _ (lt_blk X2.out)).trans X2.out)
      have X3 := hidp (hb.block w3.heap.size (by simp))
      rw [heap_alloc, if_pos rfl] at X3
      clear hb hbb
      simp only [askV]
      have f1 := blk9 X1.out
      have f2 := blk9 X2.out
      have f3 := blk4 X3.out
      haveI : SzGe (w1.heap.size + 1) w4 := ⟨lt_blk X1.out⟩
      haveI : SzGe (w2.heap.size + 1) w4 := ⟨lt_blk X2.out⟩
      haveI : SzGe (w3.heap.size + 1) w4 := ⟨lt_blk X3.out⟩
      go_split_ands
      go_wp2_with fail
      go_at_call 12
      refine (bareL_errno _ _ (ET.out.plus (by repeat (first | exact Below.refl _ _ | refine blw_alloc ?_ | refine blw_plus ?_ | refine Below.drew ?_)))).mono ?_
      rintro e w' ⟨rfl, hb⟩; obtain ⟨_, rfl⟩ := wplus_of_below hb; clear hb
      go_wp2_with fail
      go_at_call 30
      refine (same_eq 0 0 0 0 0 0 0 0 [] none none 0 0 _ (by simp) (fun i x hx => by simp at hx) (fun i x hx => by simp at hx)).mono ?_
      rintro e w' ⟨rfl, hb⟩; obtain ⟨_, rfl⟩ := wplus_of_below hb; clear hb
      go_wp2_with fail
      go_at_call 12
      refine (bareL_errno _ _ (ET.out.plus (by repeat (first | exact Below.refl _ _ | refine blw_alloc ?_ | refine blw_plus ?_ | refine Below.drew ?_)))).mono ?_
      rintro e w' ⟨rfl, hb⟩; obtain ⟨_, rfl⟩ := wplus_of_below hb; clear hb
      go_wp2
      go_ret
      refine ⟨rfl, Below.trans BL.out (Below.mono (B := w4.heap.size) ?_ BL.out.size)⟩
      (repeat (first | exact Below.refl _ _ | refine blw_alloc ?_ | refine blw_plus ?_ | refine Below.drew ?_))
    · 
      have hcv := conv_all BS.out
      go_wp2_with fail
      go_at_call 26
      refine (H26.out _).mono ?_
      rintro e w1 ⟨rfl, hbb⟩
      have BS := hidp (BS.out.below (Nat.le_refl _) hbb)
      have ET := hidp (ET.out.plus hbb)
      have BL := hidp (BL.out.trans (hbb.mono BL.out.size))
      clear hcv hbb
      go_wp2_with fail
      go_at_call 27
      refine (H27.out _ (BS.out.below (Nat.le_refl _) (blw_alloc (Below.refl _ _)))).mono ?_
      rintro e w2 ⟨rfl, hb⟩
      have hbb := Below.trans (blw_alloc (Below.refl w1.heap.size w1)) (hb.mono (by simp))
      have BS := hidp (BS.out.below (Nat.le_refl _) hbb)
      have ET := hidp (ET.out.plus hbb)
      have BL := hidp (BL.out.trans (hbb.mono BL.out.size))
      have X1 := hidp (hb.block w1.heap.size (by simp))
      rw [heap_alloc, if_pos rfl] at X1
      clear hb hbb
      have hcv : ∀ o, (convert 44 9 (.slice A l.length c)).run Tryd.prog (w2.alloc o) = .ok (.string ⟨l.toArray⟩) (w2.alloc o) := fun o => conv_all (BS.out.below (Nat.le_refl _) (blw_alloc (Below.refl _ _)))
      go_wp2_with fail
      go_at_call 28
      refine (H28.out _).mono ?_
      rintro e w3 ⟨rfl, hb⟩
      have hbb := Below.trans (blw_alloc (Below.refl w2.heap.size w2)) (hb.mono (by simp))
      have BS := hidp (BS.out.below (Nat.le_refl _) hbb)
      have ET := hidp (ET.out.plus hbb)
      have BL := hidp (BL.out.trans (hbb.mono BL.out.size))
      have X1 := hidp ((hbb.block _ (lt_blk X1.out)).trans X1.out)
      have X2 := hidp (hb.block w2.heap.size (by simp))
      rw [heap_alloc, if_pos rfl] at X2
      clear hb hbb hcv
      simp only [rAskV]
      go_wp2_with fail
      go_at_call 29
      refine (H29.out _ (BS.out.below (Nat.le_refl _) (blw_alloc (Below.refl _ _)))).mono ?_
      rintro e w4 ⟨rfl, hb⟩
      have hbb := Below.trans (blw_alloc (Below.refl w3.heap.size w3)) (hb.mono (by simp))
      have BS := hidp (BS.out.below (Nat.le_refl _) hbb)
      have ET := hidp (ET.out.plus hbb)
      have BL := hidp (BL.out.trans (hbb.mono BL.out.size))
      have X1 := hidp ((hbb.block _ (lt_blk X1.out)).trans X1.out)
      have X2 := hidp ((hbb.block _ (lt_blk X2.out)).trans X2.out)
      have X3 := hidp (hb.block w3.heap.size (by simp))
      rw [heap_alloc, if_pos rfl] at X3
      clear hb hbb
      simp only [askV]
      have f1 := blk9 X1.out
      have f2 := blk9 X2.out
      have f3 := blk4 X3.out
      haveI : SzGe (w1.heap.size + 1) w4 := ⟨lt_blk X1.out⟩
      haveI : SzGe (w2.heap.size + 1) w4 := ⟨lt_blk X2.out⟩
      haveI : SzGe (w3.heap.size + 1) w4 := ⟨lt_blk X3.out⟩
      go_split_ands
      go_wp2_with fail
      go_at_call 12
      refine (bareL_errno _ _ (ET.out.plus (by repeat (first | exact Below.refl _ _ | refine blw_alloc ?_ | refine blw_plus ?_ | refine Below.drew ?_)))).mono ?_
      rintro e w' ⟨rfl, hb⟩; obtain ⟨_, rfl⟩ := wplus_of_below hb; clear hb
      go_wp2_with fail
      go_at_call 30
      refine (same_eq 0 0 0 0 0 0 0 0 [] none none 0 0 _ (by simp) (fun i x hx => by simp at hx) (fun i x hx => by simp at hx)).mono ?_
      rintro e w' ⟨rfl, hb⟩; obtain ⟨_, rfl⟩ := wplus_of_below hb; clear hb
      go_wp2_with fail
      go_at_call 12
      refine (bareL_nil _).mono ?_
      rintro e w' ⟨rfl, hb⟩; obtain ⟨_, rfl⟩ := wplus_of_below hb; clear hb
      go_wp2
      go_ret
      refine ⟨rfl, Below.trans BL.out (Below.mono (B := w4.heap.size) ?_ BL.out.size)⟩
      (repeat (first | exact Below.refl _ _ | refine blw_alloc ?_ | refine blw_plus ?_ | refine Below.drew ?_))
  · have HN := hidp (HNN t rfl)
    clear HNN
    rcases E with _ | ⟨es, ea, eb, ec, ed⟩
    · 
      have hcv := conv_all BS.out
      go_wp2_with fail
      go_at_call 26
      refine (H26.out _).mono ?_
      rintro e w1 ⟨A1, c1, rfl, hbb, hown⟩
      have WS1 := hidp (own_ws hown)
      have BS := hidp (BS.out.below (Nat.le_refl _) hbb)
      have ET := hidp (ET.out.plus hbb)
      have BL := hidp (BL.out.trans (hbb.mono BL.out.size))
      clear hcv hbb hown
      go_wp2_with fail
      go_at_call 27
      refine (H27.out _ (BS.out.below (Nat.le_refl _) (blw_alloc (Below.refl _ _)))).mono ?_
      rintro e w2 ⟨A2, c2, rfl, hb, hown⟩
      have WS2 := hidp (own_ws hown)
      have hbb := Below.trans (blw_alloc (Below.refl w1.heap.size w1)) (hb.mono (by simp))
      have BS := hidp (BS.out.below (Nat.le_refl _) hbb)
      have ET := hidp (ET.out.plus hbb)
      have BL := hidp (BL.out.trans (hbb.mono BL.out.size))
      have WS1 := hidp (WS1.out.below hbb)
      have X1 := hidp (hb.block w1.heap.size (by simp))
      rw [heap_alloc, if_pos rfl] at X1
      clear hb hbb hown
      have hcv : ∀ o, (convert 44 9 (.slice A l.length c)).run Tryd.prog (w2.alloc o) = .ok (.string ⟨l.toArray⟩) (w2.alloc o) := fun o => conv_all (BS.out.below (Nat.le_refl _) (blw_alloc (Below.refl _ _)))
      go_wp2_with fail
      go_at_call 28
      refine (H28.out _).mono ?_
      rintro e w3 ⟨rfl, hb⟩
      have hbb := Below.trans (blw_alloc (Below.refl w2.heap.size w2)) (hb.mono (by simp))
      have BS := hidp (BS.out.below (Nat.le_refl _) hbb)
      have ET := hidp (ET.out.plus hbb)
      have BL := hidp (BL.out.trans (hbb.mono BL.out.size))
      have WS1 := hidp (WS1.out.below hbb)
      have WS2 := hidp (WS2.out.below hbb)
      have X1 := hidp ((hbb.block _ (lt_blk X1.out)).trans X1.out)
      have X2 := hidp (hb.block w2.heap.size (by simp))
      rw [heap_alloc, if_pos rfl] at X2
      clear hb hbb hcv
      simp only [rAskV]
      go_wp2_with fail
      go_at_call 29
      refine (H29.out _ (BS.out.below (Nat.le_refl _) (blw_alloc (Below.refl _ _)))).mono ?_
      rintro e w4 ⟨rfl, hb⟩
      have hbb := Below.trans (blw_alloc (Below.refl w3.heap.size w3)) (hb.mono (by simp))
      have BS := hidp (BS.out.below (Nat.le_refl _) hbb)
      have ET := hidp (ET.out.plus hbb)
      have BL := hidp (BL.out.trans (hbb.mono BL.out.size))
      have WS1 := hidp (WS1.out.below hbb)
      have WS2 := hidp (WS2.out.below hbb)
      have X1 := hidp ((hbb.block _ (lt_blk X1.out)).trans X1.out)
      have X2 := hidp ((hbb.block _ (lt_blk X2.out)).trans X2.out)
      have X3 := hidp (hb.block w3.heap.size (by simp))
      rw [heap_alloc, if_pos rfl] at X3
      clear hb hbb
      simp only [askV]
      have f1 := blk9 X1.out
      have f2 := blk9 X2.out
      have f3 := blk4 X3.out
      haveI : SzGe (w1.heap.size + 1) w4 := ⟨lt_blk X1.out⟩
      haveI : SzGe (w2.heap.size + 1) w4 := ⟨lt_blk X2.out⟩
      haveI : SzGe (w3.heap.size + 1) w4 := ⟨lt_blk X3.out⟩
      go_split_ands
      go_wp2_with fail
      go_at_call 12
      refine (bareL_nil _).mono ?_
      rintro e w' ⟨rfl, hb⟩; obtain ⟨_, rfl⟩ := wplus_of_below hb; clear hb
      go_wp2_with fail
      go_at_call 30
      refine (same_eq t.site t.seq t.wall t.count t.d0 t.d1 t.d2 t.d3 t.ws A2 A1 c2 c1 _ HN.out (WS2.out.below (by repeat (first | exact Below.refl _ _ | refine blw_alloc ?_ | refine blw_plus ?_ | refine Below.drew ?_))) (WS1.out.below (by repeat (first | exact Below.refl _ _ | refine blw_alloc ?_ | refine blw_plus ?_ | refine Below.drew ?_)))).mono ?_
      rintro e w' ⟨rfl, hb⟩; obtain ⟨_, rfl⟩ := wplus_of_below hb; clear hb
      go_wp2_with fail
      go_at_call 12
      refine (bareL_errno _ _ (ET.out.plus (by repeat (first | exact Below.refl _ _ | refine blw_alloc ?_ | refine blw_plus ?_ | refine Below.drew ?_)))).mono ?_
      rintro e w' ⟨rfl, hb⟩; obtain ⟨_, rfl⟩ := wplus_of_below hb; clear hb
      go_wp2
      go_ret
      refine ⟨rfl, Below.trans BL.out (Below.mono (B := w4.heap.size) ?_ BL.out.size)⟩
      (repeat (first | exact Below.refl _ _ | refine blw_alloc ?_ | refine blw_plus ?_ | refine Below.drew ?_))
    · 
      have hcv := conv_all BS.out
      go_wp2_with fail
      go_at_call 26
      refine (H26.out _).mono ?_
      rintro e w1 ⟨A1, c1, rfl, hbb, hown⟩
      have WS1 := hidp (own_ws hown)
      have BS := hidp (BS.out.below (Nat.le_refl _) hbb)
      have ET := hidp (ET.out.plus hbb)
      have BL := hidp (BL.out.trans (hbb.mono BL.out.size))
      clear hcv hbb hown
      go_wp2_with fail
      go_at_call 27
      refine (H27.out _ (BS.out.below (Nat.le_refl _) (blw_alloc (Below.refl _ _)))).mono ?_
      rintro e w2 ⟨A2, c2, rfl, hb, hown⟩
      have WS2 := hidp (own_ws hown)
      have hbb := Below.trans (blw_alloc (Below.refl w1.heap.size w1)) (hb.mono (by simp))
      have BS := hidp (BS.out.below (Nat.le_refl _) hbb)
      have ET := hidp (ET.out.plus hbb)
      have BL := hidp (BL.out.trans (hbb.mono BL.out.size))
      have WS1 := hidp (WS1.out.below hbb)
      have X1 := hidp (hb.block w1.heap.size (by simp))
      rw [heap_alloc, if_pos rfl] at X1
      clear hb hbb hown
      have hcv : ∀ o, (convert 44 9 (.slice A l.length c)).run Tryd.prog (w2.alloc o) = .ok (.string ⟨l.toArray⟩) (w2.alloc o) := fun o => conv_all (BS.out.below (Nat.le_refl _) (blw_alloc (Below.refl _ _)))
      go_wp2_with fail
      go_at_call 28
      refine (H28.out _).mono ?_
      rintro e w3 ⟨rfl, hb⟩
      have hbb := Below.trans (blw_alloc (Below.refl w2.heap.size w2)) (hb.mono (by simp))
      have BS := hidp (BS.out.below (Nat.le_refl _) hbb)
      have ET := hidp (ET.out.plus hbb)
      have BL := hidp (BL.out.trans (hbb.mono BL.out.size))
      have WS1 := hidp (WS1.out.below hbb)
      have WS2 := hidp (WS2.out.below hbb)
      have X1 := hidp ((hbb.block _ (lt_blk X1.out)).trans X1.out)
      have X2 := hidp (hb.block w2.heap.size (by simp))
      rw [heap_alloc, if_pos rfl] at X2
      clear hb hbb hcv
      simp only [rAskV]
      go_wp2_with fail
      go_at_call 29
      refine (H29.out _ (BS.out.below (Nat.le_refl _) (blw_alloc (Below.refl _ _)))).mono ?_
      rintro e w4 ⟨rfl, hb⟩
      have hbb := Below.trans (blw_alloc (Below.refl w3.heap.size w3)) (hb.mono (by simp))
      have BS := hidp (BS.out.below (Nat.le_refl _) hbb)
      have ET := hidp (ET.out.plus hbb)
      have BL := hidp (BL.out.trans (hbb.mono BL.out.size))
      have WS1 := hidp (WS1.out.below hbb)
      have WS2 := hidp (WS2.out.below hbb)
      have X1 := hidp ((hbb.block _ (lt_blk X1.out)).trans X1.out)
      have X2 := hidp ((hbb.block _ (lt_blk X2.out)).trans X2.out)
      have X3 := hidp (hb.block w3.heap.size (by simp))
      rw [heap_alloc, if_pos rfl] at X3
      clear hb hbb
      simp only [askV]
      have f1 := blk9 X1.out
      have f2 := blk9 X2.out
      have f3 := blk4 X3.out
      haveI : SzGe (w1.heap.size + 1) w4 := ⟨lt_blk X1.out⟩
      haveI : SzGe (w2.heap.size + 1) w4 := ⟨lt_blk X2.out⟩
      haveI : SzGe (w3.heap.size + 1) w4 := ⟨lt_blk X3.out⟩
      go_split_ands
      go_wp2_with fail
      go_at_call 12
      refine (bareL_nil _).mono ?_
      rintro e w' ⟨rfl, hb⟩; obtain ⟨_, rfl⟩ := wplus_of_below hb; clear hb
      go_wp2_with fail
      go_at_call 30
      refine (same_eq t.site t.seq t.wall t.count t.d0 t.d1 t.d2 t.d3 t.ws A2 A1 c2 c1 _ HN.out (WS2.out.below (by repeat (first | exact Below.refl _ _ | refine blw_alloc ?_ | refine blw_plus ?_ | refine Below.drew ?_))) (WS1.out.below (by repeat (first | exact Below.refl _ _ | refine blw_alloc ?_ | refine blw_plus ?_ | refine Below.drew ?_)))).mono ?_
      rintro e w' ⟨rfl, hb⟩; obtain ⟨_, rfl⟩ := wplus_of_below hb; clear hb
      go_wp2_with fail
      go_at_call 12
      refine (bareL_nil _).mono ?_
      rintro e w' ⟨rfl, hb⟩; obtain ⟨_, rfl⟩ := wplus_of_below hb; clear hb
      go_wp2
      go_ret
      refine ⟨rfl, Below.trans BL.out (Below.mono (B := w4.heap.size) ?_ BL.out.size)⟩
      (repeat (first | exact Below.refl _ _ | refine blw_alloc ?_ | refine blw_plus ?_ | refine Below.drew ?_))
end Go.Proofs.YtbopfhbeegkkaaaDoor
