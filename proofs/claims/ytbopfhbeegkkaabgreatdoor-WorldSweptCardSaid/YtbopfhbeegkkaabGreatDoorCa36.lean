/- Part 36 of a proof: lemmas and contracts that other parts use. -/
import Derived.Test.YtbopfhbeegkkaabGreatDoorCa35
import Derived.Test.YtbopfhbeegkkaabGreatDoorCa20
import Derived.Deep.DeepCutAuto
import Derived.Deep.CutBlock
import Derived.Test.YtbopfhbeegkkaabGreatDoorCa29
import Derived.Test.YtbopfhbeegkkaabGreatDoorCa26
import Derived.Test.YtbopfhbeegkkaabGreatDoorCa31
import Derived.Test.YtbopfhbeegkkaabGreatDoorCa33
import Derived.Test.YtbopfhbeegkkaabGreatDoorCa34
set_option linter.unusedVariables false
set_option linter.unusedSimpArgs false
set_option linter.constructorNameAsVariable false
namespace Go.Proofs.YtbopfhbeegkkaabGreatDoor
open Go.RowKit
theorem infoP23:(Tryz.prog.info? 23).map (fun i=>(i.zero,i.size,i.bytes))=some (some (.pointer none),1,8):=by kernel_rfl
theorem infoP75:(Tryz.prog.info? 75).map (fun i=>(i.zero,i.size,i.bytes))=some (some (.pointer none),1,8):=by kernel_rfl
set_option maxRecDepth 200000 in
set_option maxHeartbeats 16000000 in
theorem wNew_ok {w0 w:World} {n:Nat} {O:Nat→Ob} (h:Mem w0 w n O) (S C:Nat) (hS:1≤S∧S≤4) (hC:C≤6):
  Calls Tryz.prog 62 #[.int .i64 (S:Int),.int .i64 (C:Int)] w fun e w'=>∃ g,e=.returned (.tuple #[.pointer (some ⟨g,0,none⟩),.nilIface])∧∃ O' v,Mem w0 w' (n+16) O'∧PWx w0.heap.size O' n g (awNew S C) v∧∀ k,k<n→O' k=O k:=by
 have HM:=hidp h
 have HS:=hidp hS
 have HC:=hidp hC
 have hmk1:=fun W=>run_mkI S (by omega) W
 have hmk2:=fun W=>run_mkI C (by omega) W
 have d0:decide ((S:Int)<1)=false:=decide_eq_false (by omega)
 have d1:decide ((4:Int)<(S:Int))=false:=decide_eq_false (by omega)
 have d2:decide ((C:Int)<0)=false:=decide_eq_false (by omega)
 have d3:decide ((6:Int)<(C:Int))=false:=decide_eq_false (by omega)
 have hS1:(1:Int)≤(S:Int):=by omega
 have hS4:(S:Int)≤4:=by omega
 have hC6:(C:Int)≤6:=by omega
 obtain ⟨i0,hi0,hz0,hz1,hz2⟩:=info_parts infoP23
 obtain ⟨i1,hi1,hz4,hz5,hz6⟩:=info_parts infoP75
 clear h hS hC
 go_enter Tryz.func62,Tryz.ntmps62
 go_upto_region 3 with fail
 go_cut [6] (fun tg W'=>∃ g vW vP,tg=.pointer (some ⟨g,0,none⟩)∧PNu w0 W' n O g S C [] [] (.slice none 0 0) vW (.slice none 0 0) vP)
 case first=>
  refine wp_region_held_drew (S:=(fun _:World=>True)) (by kernel_rfl) ?_ (fun hHeld=>?_)
  ·trivial
  refine takeL 0 rfl (by kernel_rfl) (by kernel_rfl) (by kernel_rfl) (fun _ _ _ h=>h) hHeld (by rfl) (v:=?_) ?_ ?_
  rotate_left
  ·intro w hSw
   (try dsimp only at hSw)
   go_simp
   all_goals (with_reducible rfl)
  try simp only [Act.put,zF,zG,zH]
  refine takeL 2 rfl (by kernel_rfl) (by kernel_rfl) (by kernel_rfl) (fun _ _ _ h=>h) hHeld (by rfl) (v:=?_) ?_ ?_
  rotate_left
  ·intro w hSw
   (try dsimp only at hSw)
   go_simp
   all_goals (with_reducible rfl)
  try simp only [Act.put,zF,zG,zH]
  refine wpAnyH_ready (rs:=[1,3]) (by kernel_rfl) (by simp) ?_
  refine consL rfl (fun K hK=>?_) ?_
  ·go_simp
   refine hK.out _ _ ?_ (fun hNew=>?_)
   ·trivial
   clear hHeld
   have hHeld:=hNew
   clear hNew hK K
   try simp only [Act.put,zF,zG,zH]
   refine wpAnyH_ready (rs:=[3]) (by kernel_rfl) (by simp) ?_
   refine consL rfl (fun K hK=>?_) ?_
   ·go_simp
    refine hK.out _ _ ?_ (fun hNew=>?_)
    ·trivial
    clear hHeld
    have hHeld:=hNew
    clear hNew hK K
    try simp only [Act.put,zF,zG,zH]
    refine takeL 4 rfl (by kernel_rfl) (by kernel_rfl) (by kernel_rfl) (fun _ _ _ h=>h) hHeld (by rfl) (v:=?_) ?_ ?_
    rotate_left
    ·intro w hSw
     (try dsimp only at hSw)
     go_simp
     all_goals (with_reducible rfl)
    try simp only [Act.put,zF,zG,zH]
    refine wpAnyH_ready (rs:=[5]) (by kernel_rfl) (by simp) ?_
    refine consL rfl (fun K hK=>?_) ?_
    ·go_simp
     refine hK.out _ _ ?_ (fun hNew=>?_)
     ·trivial
     clear hHeld
     have hHeld:=hNew
     clear hNew hK K
     try simp only [Act.put,zF,zG,zH]
     refine takeL 6 rfl (by kernel_rfl) (by kernel_rfl) (by kernel_rfl) (fun _ _ _ h=>h) hHeld (by rfl) (v:=?_) ?_ ?_
     rotate_left
     ·intro w hSw
      (try dsimp only at hSw)
      go_simp
      all_goals (with_reducible rfl)
     try simp only [Act.put,zF,zG,zH]
     refine wpAnyH_done (by kernel_rfl) ?_ _
     go_wp2_with fail
     go_meet
     exact ⟨_,_,_,rfl,PNu.start HM.out HS.out HC.out (.inl ⟨rfl,rfl,rfl,rfl⟩) rfl (by first | rfl | simp [heap_drew])⟩
    exact AllReadyH.nil
   exact AllReadyH.nil
  refine consL rfl (fun K hK=>?_) ?_
  ·go_simp
   refine hK.out _ _ ?_ (fun hNew=>?_)
   ·trivial
   clear hHeld
   have hHeld:=hNew
   clear hNew hK K
   try simp only [Act.put,zF,zG,zH]
   refine wpAnyH_ready (rs:=[1]) (by kernel_rfl) (by simp) ?_
   refine consL rfl (fun K hK=>?_) ?_
   ·go_simp
    refine hK.out _ _ ?_ (fun hNew=>?_)
    ·trivial
    clear hHeld
    have hHeld:=hNew
    clear hNew hK K
    try simp only [Act.put,zF,zG,zH]
    refine takeL 4 rfl (by kernel_rfl) (by kernel_rfl) (by kernel_rfl) (fun _ _ _ h=>h) hHeld (by rfl) (v:=?_) ?_ ?_
    rotate_left
    ·intro w hSw
     (try dsimp only at hSw)
     go_simp
     all_goals (with_reducible rfl)
    try simp only [Act.put,zF,zG,zH]
    refine wpAnyH_ready (rs:=[5]) (by kernel_rfl) (by simp) ?_
    refine consL rfl (fun K hK=>?_) ?_
    ·go_simp
     refine hK.out _ _ ?_ (fun hNew=>?_)
     ·trivial
     clear hHeld
     have hHeld:=hNew
     clear hNew hK K
     try simp only [Act.put,zF,zG,zH]
     refine takeL 6 rfl (by kernel_rfl) (by kernel_rfl) (by kernel_rfl) (fun _ _ _ h=>h) hHeld (by rfl) (v:=?_) ?_ ?_
     rotate_left
     ·intro w hSw
      (try dsimp only at hSw)
      go_simp
      all_goals (with_reducible rfl)
     try simp only [Act.put,zF,zG,zH]
     refine wpAnyH_done (by kernel_rfl) ?_ _
     go_wp2_with fail
     go_meet
     exact ⟨_,_,_,rfl,PNu.start HM.out HS.out HC.out (.inr ⟨rfl,rfl,rfl,rfl⟩) rfl (by first | rfl | simp [heap_drew])⟩
    exact AllReadyH.nil
   exact AllReadyH.nil
  exact AllReadyH.nil
 case rest=>
  obtain ⟨g,vW,vP,rfl,hP⟩:=hcut
  have HP:=hidp hP
  clear hP hmk1 hmk2 HM
  go_wp2_with fail
  go_loopw [32] (fun i W=>∃ (xs:List Nat) (vS:Value),i=.int .i64 (xs.length:Nat)∧PNu w0 W n O g S C xs [] vS vW (.slice none 0 0) vP) (fun i _=>S-(Go.RowKit.intOf i).toNat)
  case atStart=>exact ⟨[],_,rfl,HP.out⟩
  case round=>
   obtain ⟨xs,vS,rfl,hP⟩:=hrel
   clear HP
   have HP:=hidp hP
   have hxl:xs.length≤S:=by obtain ⟨_,_,h2,_⟩:=hP;exact h2.xl
   have hb:=hP.blk
   have c0:=cell_blk hb 0
   simp only [zC,zD,zE] at c0
   have f0:=frozen_blk hb 0
   have HRS:=hidp hP.rowS
   have hgl:g<wr.heap.size:=lt_blk hb
   haveI:SzGe (g+1) wr:=⟨hgl⟩
   have hw0:w0.heap.size≤wr.heap.size:=by obtain ⟨_,h1,_⟩:=hP;exact h1.size
   clear hb hP
   by_cases hx:xs.length<S
   ·have hx4:(xs.length:Int)<4:=by omega
    have hxd:decide ((xs.length:Int)<(S:Int))=true:=decide_eq_true (by omega)
    have HX:=hidp hx
    have HNA:=hidp (fun W=>new_any (xs.length:Int) W (by omega))
    have HO1:Hid (∀ b,∀ u∈([.pointer (some ⟨b,0,none⟩)]:List Value),u.oneCell'=true):=hidp (by
     intro b u hu;simp at hu;subst hu;rfl)
    have h63:xs.length+1≤maxLen:=by refine Nat.le_trans ?_ maxLen_ge;omega
    have hby:(xs.length+1)*8≤140737488355328:=by omega
    clear hx hxl
    go_wp2_with fail
    go_at_call 11
    refine (HNA.out _).mono ?_
    rintro e w1 ⟨rfl,hs,hb1⟩
    have HB1:=hidp hb1
    have HSI:=hidp hs
    have C0:=(hb1.cell (p:=⟨g,0,none⟩) hgl).trans c0
    have F0:=(hb1.frozen (p:=⟨g,0,none⟩) hgl).trans f0
    have hgw1:g<w1.heap.size:=Nat.lt_of_lt_of_le hgl hb1.size
    haveI:SzGe (g+1) w1:=⟨hgw1⟩
    clear hb1 hs HNA c0 f0
    go_wp2_with (at_builtin;go_must (refine wpList_append_lies _ rfl _ _ 187 rfl w0.heap.size 23 i0 (.pointer none) 1 8 Tryz.underlying187 hi0 hz0 hz1 hz2 rfl (by decide) vS xs.length (ptrs xs) rfl (own_below HRS.out.1 (HB1.out.alloc HB1.out.size _) (fun k e=>(own_ge HRS.out.1 e).2)) ⟨w1.heap.size,0,none⟩ 1 1 [.pointer (some ⟨wr.heap.size+1,0,none⟩)] rfl rfl (World.news_of_block (cs:=#[.pointer (some ⟨wr.heap.size+1,0,none⟩)]) (blk_new rfl _)) (HO1.out _) (by decide) h63 hby (by have:=HB1.out.size;simp;omega) _ rfl ?_))
    intro g1 cap1 w5 hown1 hgrow hgl1 hlt1
    have HE:=hidp (HP.out.site HX.out HSI.out HB1.out (blw_alloc (Below.refl _ _)) hown1 hgrow (by
     rcases hgl1 with e | e
     ·exact .inl (by rw [e];rfl)
     ·exact .inr (fun b hb=>by simp [Value.ownBlock] at hb;subst hb;rw [e];simp)))
    have hblk:=hgrow.block g (by simp;omega) (fun e=>HRS.out.2 e.symm)
    rw [heap_alloc,if_neg (by omega)] at hblk
    have q1:w5.cell? ⟨g,0,none⟩=some vS:=by rw [World.cell?_of_block hblk];exact C0
    have q2:w5.frozen? ⟨g,0,none⟩=false:=by rw [World.frozen?_of_block hblk];exact F0
    have hgw5:g<w5.heap.size:=by have:=hgrow.size;simp at this;omega
    haveI:SzGe (g+1) w5:=⟨hgw5⟩
    clear hown1 hgrow hgl1 hblk
    go_wp2_with fail
    go_roundw
    case rel=>exact ⟨xs++[wr.heap.size+1],_,by simp,HE.out⟩
    case measure=>simp [Go.RowKit.intOf];omega
   ·have hxe:xs.length=S:=by omega
    have HXS:=hidp hxe
    have hxd:decide ((xs.length:Int)<(S:Int))=false:=decide_eq_false (by omega)
    have hxd2:decide (xs.length<S)=false:=decide_eq_false (by omega)
    have hxn:¬xs.length<S:=hx
    clear hx hxl hxe c0 f0 HRS
    go_wp2_with fail
    go_loopw [52] (fun i W=>∃ (us:List Nat) (vC:Value),i=.int .i64 (us.length:Nat)∧PNu w0 W n O g S C xs us vS vW vC vP) (fun i _=>C-(Go.RowKit.intOf i).toNat)
    case atStart=>exact ⟨[],_,rfl,HP.out⟩
    case round=>
     obtain ⟨us,vC,rfl,hP⟩:=hrel
     clear HP hgl hw0
     have HP:=hidp hP
     have hul:us.length≤C:=by obtain ⟨_,_,h2,_⟩:=hP;exact h2.ul
     have hb:=hP.blk
     have c2:=cell_blk hb 2
     simp only [zC,zD,zE] at c2
     have f2:=frozen_blk hb 2
     have HRC:=hidp hP.rowC
     have hgl:g<wr.heap.size:=lt_blk hb
     haveI:SzGe (g+1) wr:=⟨hgl⟩
     have hw0:w0.heap.size≤wr.heap.size:=by obtain ⟨_,h1,_⟩:=hP;exact h1.size
     clear hb hP
     by_cases hx:us.length<C
     ·have hx6:(us.length:Int)<6:=by omega
      have hxd:decide ((us.length:Int)<(C:Int))=true:=decide_eq_true (by omega)
      have hiC:=hx
      have HO1:Hid (∀ b,∀ u∈([.pointer (some ⟨b,0,none⟩)]:List Value),u.oneCell'=true):=hidp (by
       intro b u hu;simp at hu;subst hu;rfl)
      have h63:us.length+1≤maxLen:=by refine Nat.le_trans ?_ maxLen_ge;omega
      have hby:(us.length+1)*8≤140737488355328:=by omega
      clear hx hul
      go_upto_region 12 with fail
      refine wp_region_split 8 (S:=(fun X:World=>X.cell? ⟨g,2,none⟩=some vC)) (by kernel_rfl) (by kernel_rfl) ?_ (fun hHeld=>?_)
      ·first | exact q1 | exact hk3 | (show World.cell? (World.alloc _ _) _=_;rw [World.cell?_alloc_lt];exact hk3;exact Nat.lt_of_lt_of_le hgl HB3.out.size) | exact c2
      simp only [List.take_succ_cons,List.take_zero,List.drop_succ_cons,List.drop_zero]
      refine takeL 0 rfl (by kernel_rfl) (by kernel_rfl) (by kernel_rfl) (fun _ _ _ h=>h) hHeld (by rfl) (v:=?_) ?_ ?_
      rotate_left
      ·intro w hSw
       (try dsimp only at hSw)
       go_simp
       all_goals (with_reducible rfl)
      try simp only [Act.put,zF,zG,zH]
      refine takeL 1 rfl (by kernel_rfl) (by kernel_rfl) (by kernel_rfl) (fun _ _ _ h=>h) hHeld (by rfl) (v:=?_) ?_ ?_
      rotate_left
      ·intro w hSw
       (try dsimp only at hSw)
       go_simp
       all_goals (with_reducible rfl)
      try simp only [Act.put,zF,zG,zH]
      refine takeL 2 rfl (by kernel_rfl) (by kernel_rfl) (by kernel_rfl) (fun _ _ _ h=>h) hHeld (by rfl) (v:=?_) ?_ ?_
      rotate_left
      ·intro w hSw
       (try dsimp only at hSw)
       go_simp
       all_goals (with_reducible rfl)
      try simp only [Act.put,zF,zG,zH]
      refine takeL 3 rfl (by kernel_rfl) (by kernel_rfl) (by kernel_rfl) (fun _ _ _ h=>h) hHeld (by rfl) (v:=?_) ?_ ?_
      rotate_left
      ·intro w hSw
       (try dsimp only at hSw)
       go_simp
       all_goals (with_reducible rfl)
      try simp only [Act.put,zF,zG,zH]
      refine takeL 4 rfl (by kernel_rfl) (by kernel_rfl) (by kernel_rfl) (fun _ _ _ h=>h) hHeld (by rfl) (v:=?_) ?_ ?_
      rotate_left
      ·intro w hSw
       (try dsimp only at hSw)
       go_simp
       all_goals (with_reducible rfl)
      try simp only [Act.put,zF,zG,zH]
      refine wpAnyH_ready (rs:=[5]) (by kernel_rfl) (by simp) ?_
      refine consL rfl (fun K hK=>?_) ?_
      ·go_simp
       go_at_call 37
       refine (sNew_any _).mono ?_
       rintro e w3 ⟨rfl,hs,hb3⟩
       have HB3:=hidp (Below.trans (show Below wr.heap.size wr wr.drew from zB) hb3)
       have HSN:=hidp hs
       have hk3:w3.cell? ⟨g,2,none⟩=some vC:=(HB3.out.cell (p:=⟨g,2,none⟩) hgl).trans c2
       clear hs hb3
       go_wp2_with fail
       refine hK.out _ _ ?_ (fun hNew=>?_)
       ·first | exact q1 | exact hk3 | (show World.cell? (World.alloc _ _) _=_;rw [World.cell?_alloc_lt];exact hk3;exact Nat.lt_of_lt_of_le hgl HB3.out.size) | exact c2
       clear hHeld
       have hHeld:=hNew
       clear hNew hK K
       try simp only [Act.put,zF,zG,zH]
       refine wpAnyH_ready (rs:=[6]) (by kernel_rfl) (by simp) ?_
       refine consL rfl (fun K hK=>?_) ?_
       ·go_simp
        refine hK.out _ _ ?_ (fun hNew=>?_)
        ·first | exact q1 | exact hk3 | (show World.cell? (World.alloc _ _) _=_;rw [World.cell?_alloc_lt];exact hk3;exact Nat.lt_of_lt_of_le hgl HB3.out.size) | exact c2
        clear hHeld
        have hHeld:=hNew
        clear hNew hK K
        try simp only [Act.put,zF,zG,zH]
        refine wpAnyH_ready (rs:=[7]) (by kernel_rfl) (by simp) ?_
        refine consL rfl (fun K hK=>?_) ?_
        ·refine step_append_lies _ rfl (.tmp 58) (.tmp 60) 188 rfl w0.heap.size 75 i1 (.pointer none) 1 8 Tryz.underlying188 hi1 hz4 hz5 hz6 rfl (by decide) vC us.length (ptrs us) (by simp [Act.eval,Act.put]) (own_below HRC.out.1 (HB3.out.alloc HB3.out.size _) (fun k e=>(own_ge HRC.out.1 e).2)) ⟨w3.heap.size,0,none⟩ 1 1 [.pointer (some ⟨wr.heap.size,0,none⟩)] (by simp [Act.eval,Act.put]) rfl (World.news_of_block (cs:=#[.pointer (some ⟨wr.heap.size,0,none⟩)]) (blk_new rfl _)) (HO1.out _) (by decide) h63 hby (by have:=HB3.out.size;simp;omega) _ rfl ?_
         intro g1 cap1 w5 hown1 hgrow hgl1 hlt1
         have HE:=hidp (HP.out.sess hiC HSN.out HB3.out (blw_alloc (Below.refl _ _)) hown1 hgrow (by
          rcases hgl1 with e | e
          ·exact .inl (by rw [e];rfl)
          ·exact .inr (fun b hb=>by simp [Value.ownBlock] at hb;subst hb;rw [e];simp)))
         have hblk:=hgrow.block g (by have:=HB3.out.size;simp;omega) (fun e=>HRC.out.2 e.symm)
         rw [heap_alloc,if_neg (by have:=HB3.out.size;omega)] at hblk
         have q1:w5.cell? ⟨g,2,none⟩=some vC:=by rw [World.cell?_of_block hblk];exact hk3
         have q2:w5.frozen? ⟨g,2,none⟩=false:=by rw [World.frozen?_of_block hblk,HB3.out.frozen (p:=⟨g,2,none⟩) hgl];exact f2
         have hgw5:g<w5.heap.size:=by have:=hgrow.size;have:=HB3.out.size;simp at *;omega
         haveI:SzGe (g+1) w5:=⟨hgw5⟩
         clear hown1 hgrow hgl1 hblk
         refine hK.out _ _ ?_ (fun hNew=>?_)
         ·first | exact q1 | exact hk3 | (show World.cell? (World.alloc _ _) _=_;rw [World.cell?_alloc_lt];exact hk3;exact Nat.lt_of_lt_of_le hgl HB3.out.size) | exact c2
         clear hHeld
         have hHeld:=hNew
         clear hNew hK K
         try simp only [Act.put,zF,zG,zH]
         refine wpAnyH_done (by kernel_rfl) ?_ _
         refine headQ.normal ?_
         go_wp2_with fail
         go_roundw
         case rel=>exact ⟨us++[wr.heap.size],_,by simp,HE.out⟩
         case measure=>simp [Go.RowKit.intOf];omega
        exact AllReadyH.nil
       exact AllReadyH.nil
      exact AllReadyH.nil
     ·have hue:us.length=C:=by omega
      have HUS:=hidp hue
      have hxd:decide ((us.length:Int)<(C:Int))=false:=decide_eq_false (by omega)
      have hxd2:decide (us.length<C)=false:=decide_eq_false (by omega)
      have hxn:¬us.length<C:=hx
      clear hx hul hue c2 f2 HRC
      go_wp2_with fail
      go_ret2
      exact ⟨g,rfl,HP.out.done HXS.out HUS.out⟩
section
variable {w0 w:World} {n:Nat} {O:Nat→Ob} {p g:Nat} {A:AWd} {v:WV} {k u x:Nat}
set_option maxRecDepth 20000 in
set_option maxHeartbeats 4000000 in
theorem wMany_any (hp:PWx w0.heap.size O p g A v) (h:Mem w0 w n O) (hn:p+16≤n):
  Calls Tryz.prog 66 #[.pointer (some ⟨g,0,none⟩)] w fun e w'=>e=.returned (.int .i64 (A.way.length:Nat))∧Below w.heap.size w w':=by
 have hb:=hp.blk h hn
 obtain ⟨aG,cG,eG⟩:=way_form h (i:=p+5) (by omega) hp.b5
 rw [hp.wr.len] at eG
 rw [eG] at hb
 have c4:=cell_blk hb 4
 simp only [zC,zD,zE] at c4
 haveI:SzGe (g+1) w:=⟨lt_blk hb⟩
 clear hb eG hp h hn
 generalize A.way.length=l at *
 go_enter Tryz.func66,Tryz.ntmps66
 go_wp2_with fail
 go_ret
 exact ⟨rfl,zB⟩
set_option maxRecDepth 20000 in
set_option maxHeartbeats 4000000 in
theorem wGoes_ok (hp:PWx w0.heap.size O p g A v) (h:Mem w0 w n O) (hn:p+16≤n) (hk:k<A.S) (z:Int) (hz:0≤z∧z≤1099511627776):
  Calls Tryz.prog 107 #[.pointer (some ⟨g,0,none⟩),.int .i64 (k:Nat),.int .i64 z] w fun e w'=>e=.returned .nilIface∧WUpd w0 w' n O p g v.xs v.us (awGoes A k z):=by
 have hb:=hp.blk h hn
 obtain ⟨aS,cS,eS⟩:=row_form h (i:=p+1) (by omega) hp.b1
 obtain ⟨bW,cW,eW,_,lW,kW,fW⟩:=row_at h (i:=p+2) (by omega) hp.b2 (by omega)
 have x2:=kW k _ hk (intsN_get hk)
 have y2:=fW k
 have hwl:=hp.ok.wl k
 have HB2:=hidp (show O (p+2)=_ from hp.b2)
 rw [eW] at HB2
 have HR:=hidp (obRow_set h (i:=p+2) (by omega) HB2.out k (min (A.wl k+z) 1099511627776))
 have HE:Hid (∀ w',Below (w.setCell ⟨bW,k,none⟩ (.int .i64 (min (A.wl k+z) 1099511627776))).heap.size (w.setCell ⟨bW,k,none⟩ (.int .i64 (min (A.wl k+z) 1099511627776))) w'→WUpd w0 w' n O p g v.xs v.us (awGoes A k z)):=hidp (by
  intro w' hb'
  obtain ⟨O',h1,h2,h3⟩:=HR.out
  exact WUpd.then ⟨O',h1,(hp.setWl (by omega) (by rw [eW];exact h2) (fun j hj hne=>h3 _ (by omega))).a,fun i _ hi=>h3 i (by omega)⟩ hb')
 rw [eS,eW] at hb
 have c0:=cell_blk hb 0;have c1:=cell_blk hb 1
 simp only [zC,zD,zE] at c0 c1
 haveI:SzGe (g+1) w:=⟨lt_blk hb⟩
 haveI:SzGe (bW+1) w:=⟨lW⟩
 clear hb kW fW eS eW HB2 HR lW
 have d0:decide ((k:Int)<0)=false:=decide_eq_false (by omega)
 have d1:decide ((A.S:Int)≤(k:Int))=false:=decide_eq_false (by omega)
 have d2:decide (A.S≤k)=false:=decide_eq_false (by omega)
 have d3:decide (z<0)=false:=decide_eq_false (by omega)
 have d4:decide (1099511627776<z)=false:=decide_eq_false (by omega)
 have hk0:(0:Int)≤(k:Int):=by omega
 have hk1:(k:Int)<(A.S:Int):=by omega
 obtain ⟨hz0,hz1⟩:=hz
 obtain ⟨hw0,hw1⟩:=hwl
 generalize A.S=S at *
 generalize A.wl k=wk at *
 clear hp h hn hk
 go_enter Tryz.func107,Tryz.ntmps107
 go_wp2_with fail
 refine wp_region_plus_tail 15 (by kernel_rfl) (by kernel_rfl) ?_
 simp only [List.take_succ_cons,List.take_zero,List.drop_succ_cons,List.drop_zero]
 repeat (first | go_big_quiet_skip | (go_big_quiet_want;go_big_quiet_op;first | go_big_quiet_on))
 refine wpQuiet_nil ?_
 rintro _ ⟨x9,rfl⟩
 have HEa:Hid (wk+z≤1099511627776→min (wk+z) 1099511627776=wk+z):=hidp (fun e=>Int.min_eq_left e)
 have HEb:Hid (¬wk+z≤1099511627776→min (wk+z) 1099511627776=1099511627776):=hidp (fun e=>Int.min_eq_right (by omega))
 go_wp2_with fail
 all_goals
  go_ret
  refine ⟨rfl,?_⟩
  first
   | exact HE.out _ (by repeat (first | exact Below.refl _ _ | refine blw_alloc ?_ | refine blw_plus ?_ | refine Below.drew ?_))
   | (have e1:=HEa.out (by omega);rw [e1] at HE;exact HE.out _ (by repeat (first | exact Below.refl _ _ | refine blw_alloc ?_ | refine blw_plus ?_ | refine Below.drew ?_)))
   | (have e1:=HEb.out (by omega);rw [e1] at HE;exact HE.out _ (by repeat (first | exact Below.refl _ _ | refine blw_alloc ?_ | refine blw_plus ?_ | refine Below.drew ?_)))
end
def obTxs (B:Nat) (v:Value) (l:List MTx):Ob:=
 ⟨fun w=>w.ownsRow B 44 9 v l.length (l.flatMap MTx.cells)∧∀ m∈l,WsAt w m.A m.t.ws∧∀ b o,m.A=some ⟨b,o,none⟩→b<w.heap.size∧v.ownBlock≠some b,fun b=>v.ownBlock=some b,fun b=>∃ m∈l,∃ o,m.A=some ⟨b,o,none⟩⟩
theorem obTxs_ok (B:Nat) (v:Value) (l:List MTx):(obTxs B v l).Ok B:=
 ⟨fun w w' h hs hb=>⟨own_same h.1 fun b e=>hb b (.inl e),fun m hm=>⟨(h.2 m hm).1.keep fun b o e=>hb b (.inr ⟨m,hm,o,e⟩),fun b o e=>⟨Nat.lt_of_lt_of_le ((h.2 m hm).2 b o e).1 hs,((h.2 m hm).2 b o e).2⟩⟩⟩,
  fun w b h e=>own_ge h.1 e,fun w b h ⟨m,hm,o,e⟩=>((h.2 m hm).2 b o e).1⟩
def obMp (B mb:Nat) (f:Int→Option WrP) (sz:Nat):Ob:=⟨fun w=>B≤mb∧WpAt w mb f sz,fun k=>k=mb,fun _=>False⟩
theorem obMp_ok (B mb:Nat) (f:Int→Option WrP) (sz:Nat):(obMp B mb f sz).Ok B:=
 ⟨fun w w' h hs hb=>⟨h.1,h.2.block (hb mb (.inl rfl))⟩,fun w b h e=>by have e2:b=mb:=e;subst e2;exact ⟨h.1,h.2.lt⟩,fun w b h e=>e.elim⟩
def maps_ (l:List Nat):List Value:=l.map fun m=>.map (some m)
theorem maps_get {l:List Nat} {k m:Nat} (h:l[k]?=some m):(maps_ l)[k]?=some (.map (some m)):=by simp [maps_,h]
structure TV where
 g:Nat
 v:WV
 vT:Value
 vO:Value
 ts:List MTx
 ms:List Nat
structure TAx (B:Nat) (O:Nat→Ob) (p tb:Nat) (s:TlP) (t:TV):Prop where
 w:PWx B O p t.g s.A t.v
 b:O (p+16)=obB tb (.cells #[.pointer (some ⟨t.g,0,none⟩),.int .i64 (s.A.S:Int),.int .i64 (s.A.C:Int),t.vT,t.vO] 110) B
 T:O (p+17)=obTxs B t.vT t.ts
 eT:t.ts.map (·.t)=s.T
 o:O (p+18)=obRow B 169 1 t.vO s.A.C (maps_ t.ms)
 ml:t.ms.length=s.A.C
 m:∀ k m,t.ms[k]?=some m→O (p+(19+k))=obMp B m (s.F k) (s.z k)
section
variable {w0 w w':World} {n:Nat} {O O':Nat→Ob} {p tb:Nat} {s:TlP} {t:TV}
theorem TAx.keep {B:Nat} (h:TAx B O p tb s t) (he:∀ j,j<25→O' (p+j)=O (p+j)):TAx B O' p tb s t:=by
 have:=h.w.ok.C
 exact ⟨h.w.keep fun j hj=>he j (by omega),(he 16 (by omega)).trans h.b,(he 17 (by omega)).trans h.T,h.eT,(he 18 (by omega)).trans h.o,h.ml,fun k m hm=>by have:=lt_get hm;have:=h.ml;rw [he _ (by omega)];exact h.m k m hm⟩
def TUpd (w0 w':World) (n:Nat) (O:Nat→Ob) (p tb g:Nat) (s:TlP):Prop:=∃ O' t,Mem w0 w' n O'∧(TAx w0.heap.size O' p tb s t∧t.g=g)∧∀ k,k<n→(k<p∨p+25≤k)→O' k=O k
theorem TUpd.below (h:Mem w0 w n O) (ht:TAx w0.heap.size O p tb s t) (hb:Below w.heap.size w w'):TUpd w0 w' n O p tb t.g s:=⟨O,t,h.below hb,⟨ht,rfl⟩,fun _ _ _=>rfl⟩
theorem TUpd.then {g:Nat} {w1 w2:World} (h:TUpd w0 w1 n O p tb g s) (hb:Below w1.heap.size w1 w2):TUpd w0 w2 n O p tb g s:=by
 obtain ⟨O',t,h1,h2⟩:=h
 exact ⟨O',t,h1.below hb,h2⟩
theorem TUpd.less {g:Nat} {w1:World} {m:Nat} {Ox:Nat→Ob} (h:TUpd w0 w1 m Ox p tb g s) (hm:n≤m) (he:∀ k,k<n→(k<p∨p+25≤k)→Ox k=O k):TUpd w0 w1 n O p tb g s:=by
 obtain ⟨O1,t,h1,h3,h4⟩:=h
 exact ⟨O1,t,h1.less hm,h3,fun k hn hk=>(h4 k (by omega) hk).trans (he k hn hk)⟩
theorem TUpd.box {g i b:Nat} {o:Obj} (h:TUpd w0 w' n O p tb g s) (hi:i<n) (hp:p+25≤i) (he:O i=obB b o w0.heap.size):w'.heap[b]?=some o:=by
 obtain ⟨O1,t,h1,_,h4⟩:=h
 exact h1.box hi ((h4 i hi (.inr hp)).trans he)
theorem TAx.world (h:TAx w0.heap.size O p tb s t) (hn:p+25≤n) {A:AWd} (hS:A.S=s.A.S) (hC:A.C=s.A.C) (hU:WUpd w0 w' n O p t.g t.v.xs t.v.us A):TUpd w0 w' n O p tb t.g (tlTo s A):=by
 obtain ⟨O',h1,⟨v',h2,hx,hu⟩,h3⟩:=hU
 have hc6:=h.w.ok.C
 refine ⟨O',⟨t.g,v',t.vT,t.vO,t.ts,t.ms⟩,h1,⟨⟨h2,?_,?_,h.eT,?_,h.ml.trans hC.symm,fun k m hm=>?_⟩,rfl⟩,fun k hk hne=>h3 k hk (by omega)⟩
 ·rw [h3 _ (by omega) (by omega),h.b]
  show _=obB tb (.cells #[_,.int .i64 (A.S:Int),.int .i64 (A.C:Int),_,_] 110) _
  rw [hS,hC]
 ·rw [h3 _ (by omega) (by omega)];exact h.T
 ·rw [h3 _ (by omega) (by omega)]
  show _=obRow _ 169 1 _ A.C _
  rw [hC];exact h.o
 ·have:k<t.ms.length:=lt_get hm
  have:=h.ml
  rw [h3 _ (by omega) (by omega)];exact h.m k m hm
theorem TAx.same (h:TAx w0.heap.size O p tb s t) (hm:Mem w0 w n O) (hb:Below w.heap.size w w'):TUpd w0 w' n O p tb t.g s:=TUpd.below hm h hb
theorem TAx.blk (h:TAx w0.heap.size O p tb s t) (hm:Mem w0 w n O) (hn:p+25≤n):w.heap[tb]?=some (.cells #[.pointer (some ⟨t.g,0,none⟩),.int .i64 (s.A.S:Int),.int .i64 (s.A.C:Int),t.vT,t.vO] 110):=hm.box (i:=p+16) (by omega) h.b
theorem TAx.rowT (h:TAx w0.heap.size O p tb s t) (hm:Mem w0 w n O) (hn:p+25≤n):(obTxs w0.heap.size t.vT t.ts).at_ w∧t.vT.ownBlock≠some tb:=by
 have:=hm.at_ (p+17) (by omega)
 rw [h.T] at this
 refine ⟨this,fun e=>?_⟩
 have h3:=(hm.dis (p+17) (p+16) (by omega) (by omega) (by omega) tb (by rw [h.T];exact e)).1
 exact h3 (by rw [h.b];rfl)
theorem TAx.map (h:TAx w0.heap.size O p tb s t) (hm:Mem w0 w n O) (hn:p+25≤n) {k:Nat} (hk:k<s.A.C):∃ b c mb,t.vO=.slice (some ⟨b,0,none⟩) s.A.C c∧b<w.heap.size∧w.cell? ⟨b,k,none⟩=some (.map (some mb))∧w.frozen? ⟨b,k,none⟩=false∧WpAt w mb (s.F k) (s.z k)∧t.ms[k]?=some mb∧b≠mb∧b≠tb:=by
 have hml:=h.ml
 have hc6:=h.w.ok.C
 have hg:t.ms[k]?=some (t.ms[k]'(by omega)):=List.getElem?_eq_getElem _
 obtain ⟨b,c,e,_,hlt,hr,hf⟩:=row_at hm (i:=p+18) (by omega) h.o (by omega)
 have hat:=hm.at_ (p+(19+k)) (by omega)
 rw [h.m k _ hg] at hat
 refine ⟨b,c,_,e,hlt,hr k _ hk (maps_get hg),hf k,hat.2,hg,fun e2=>?_,fun e2=>?_⟩
 ·have h3:=(hm.dis (p+18) (p+(19+k)) (by omega) (by omega) (by omega) b (by rw [h.o,e];rfl)).1
  exact h3 (by rw [h.m k _ hg];exact e2)
 ·have h3:=(hm.dis (p+18) (p+16) (by omega) (by omega) (by omega) b (by rw [h.o,e];rfl)).1
  exact h3 (by rw [h.b,e2];rfl)
end
theorem rlGo_app (a0 a1 a2 a3 key:Int):∀ (l m:List PtP) (b:VerP) (s:Bool),rlGo a0 a1 a2 a3 key (l++m) b s=rlGo a0 a1 a2 a3 key m (rlGo a0 a1 a2 a3 key l b s).1 (rlGo a0 a1 a2 a3 key l b s).2
 | [],m,b,s=>rfl
 | h::l,m,b,s=>by
   rw [List.cons_append]
   by_cases hc:h.key=key∧seenV a0 a1 a2 a3 h.v=true∧(s=false∨cmpV b h.v<0)
   ·have e1:∀ r,rlGo a0 a1 a2 a3 key (h::r) b s=rlGo a0 a1 a2 a3 key r h.v true:=fun r=>if_pos hc
    rw [e1,e1];exact rlGo_app a0 a1 a2 a3 key l m _ _
   ·have e1:∀ r,rlGo a0 a1 a2 a3 key (h::r) b s=rlGo a0 a1 a2 a3 key r b s:=fun r=>if_neg hc
    rw [e1,e1];exact rlGo_app a0 a1 a2 a3 key l m _ _
structure LsR (T:List TxP) (r:VerP×Bool) (best:Int) (data:ByteArray) (gone:Bool):Prop where
 no:r.2=false→best=-1∧data=⟨#[]⟩∧gone=true
 yes:r.2=true→∃ (j:Nat) (t:TxP),best=(j:Int)∧T[j]?=some t∧t.wall=r.1.w∧t.count=r.1.c∧t.site=r.1.site∧data=r.1.data∧gone=r.1.gone
def lsAt (T:List TxP) (v0 v1 v2 v3 key:Int) (i:Nat):VerP×Bool:=rlGo v0 v1 v2 v3 key (allV (T.take i)) verZ false
def lsIn (T:List TxP) (v0 v1 v2 v3 key:Int) (i:Nat) (t:TxP) (j:Nat):VerP×Bool:=rlGo v0 v1 v2 v3 key ((txV t).take j) (lsAt T v0 v1 v2 v3 key i).1 (lsAt T v0 v1 v2 v3 key i).2
theorem lsR_start (T:List TxP) (v0 v1 v2 v3 key:Int):LsR T (lsAt T v0 v1 v2 v3 key 0) (-1) ⟨#[]⟩ true:=⟨fun _=>⟨rfl,rfl,rfl⟩,fun h=>(by cases h)⟩
theorem lsIn_zero (T:List TxP) (v0 v1 v2 v3 key:Int) (i:Nat) (t:TxP):lsIn T v0 v1 v2 v3 key i t 0=lsAt T v0 v1 v2 v3 key i:=rfl
theorem txV_len (t:TxP):(txV t).length=t.ws.length:=by simp [txV]
theorem txV_get {t:TxP} {j:Nat} {w:WrP} (h:t.ws[j]?=some w):(txV t)[j]?=some ⟨w.key,verOf t w⟩:=by simp [txV,h]
theorem lsAt_next {T:List TxP} {v0 v1 v2 v3 key:Int} {i:Nat} {t:TxP} (h:T[i]?=some t):lsAt T v0 v1 v2 v3 key (i+1)=lsIn T v0 v1 v2 v3 key i t t.ws.length:=by
 unfold lsAt lsIn
 rw [take_next h,allV_app,allV_one,rlGo_app,List.take_of_length_le (l:=txV t) (by rw [txV_len];exact Nat.le_refl _)]
 rfl
theorem rlGo_skip (v0 v1 v2 v3 key:Int):∀ (l:List PtP) (b:VerP) (s:Bool),(∀ p∈l,seenV v0 v1 v2 v3 p.v=false)→rlGo v0 v1 v2 v3 key l b s=(b,s)
 | [],b,s,_=>rfl
 | p::l,b,s,h=>by
   unfold rlGo
   rw [if_neg (fun e=>by have:=h p (List.mem_cons_self ..);rw [this] at e;exact absurd e.2.1 (by simp))]
   exact rlGo_skip v0 v1 v2 v3 key l b s fun q hq=>h q (List.mem_cons_of_mem _ hq)
theorem lsAt_skip {T:List TxP} {v0 v1 v2 v3 key:Int} {i:Nat} {t:TxP} (h:T[i]?=some t) (hs:¬t.seq≤atV v0 v1 v2 v3 t.site):lsAt T v0 v1 v2 v3 key (i+1)=lsAt T v0 v1 v2 v3 key i:=by
 rw [lsAt_next h]
 unfold lsIn
 rw [rlGo_skip]
 intro p hp
 obtain ⟨a,b,c,d⟩:=txV_v (List.mem_of_mem_take hp)
 unfold seenV
 rw [c,d]
 exact decide_eq_false hs
theorem lsIn_next {T:List TxP} {v0 v1 v2 v3 key:Int} {i j:Nat} {t:TxP} {w:WrP} (hw:t.ws[j]?=some w) (hs:t.seq≤atV v0 v1 v2 v3 t.site):
  lsIn T v0 v1 v2 v3 key i t (j+1)=if w.key=key∧((lsIn T v0 v1 v2 v3 key i t j).2=false∨cmpV (lsIn T v0 v1 v2 v3 key i t j).1 (verOf t w)<0) then (verOf t w,true) else lsIn T v0 v1 v2 v3 key i t j:=by
 unfold lsIn
 rw [take_next (txV_get hw),rlGo_app]
 generalize rlGo v0 v1 v2 v3 key ((txV t).take j) (lsAt T v0 v1 v2 v3 key i).1 (lsAt T v0 v1 v2 v3 key i).2=r
 have hseen:seenV v0 v1 v2 v3 (verOf t w)=true:=decide_eq_true hs
 unfold rlGo
 by_cases hc:w.key=key∧(r.2=false∨cmpV r.1 (verOf t w)<0)
 ·rw [if_pos hc,if_pos ⟨hc.1,hseen,hc.2⟩];rfl
 ·rw [if_neg hc,if_neg (fun e=>hc ⟨e.1,e.2.2⟩)];rfl
end Go.Proofs.YtbopfhbeegkkaabGreatDoor
