/- Part 34 of a proof: lemmas and contracts that other parts use. -/
import Derived.Test.YtbopfhbeegkkaabGreatDoorCa29
import Derived.Test.YtbopfhbeegkkaabGreatDoorCa17
import Derived.Deep.DeepCutAuto
import Derived.Deep.CutBlock
set_option linter.unusedVariables false
set_option linter.unusedSimpArgs false
set_option linter.constructorNameAsVariable false
namespace Go.Proofs.YtbopfhbeegkkaabGreatDoor
open Go.RowKit
section
variable {w0 w:World} {n:Nat} {O:Nat→Ob} {p g:Nat} {A:AWd} {v:WV} {k u x:Nat}
def But (q:Nat) (w1 w2:World):Prop:=w1.heap.size=w2.heap.size∧∀ b,b≠q→w1.heap[b]?=w2.heap[b]?
theorem But.plus {q:Nat} {w1 w2:World} (h:But q w1 w2) (x:Tail):But q (wplus w1 x) (wplus w2 x):=by
 obtain ⟨h1,h2⟩:=h
 refine ⟨by simp [h1],fun b hb=>?_⟩
 by_cases hl:b<w1.heap.size
 ·rw [wplus_heap_lt w1 x b hl,wplus_heap_lt w2 x b (by omega)];exact h2 b hb
 ·rw [wplus_heap_ge w1 x b (by omega),wplus_heap_ge w2 x b (by omega),h1]
theorem But.alloc (w:World) (o1 o2:Obj):But w.heap.size (w.alloc o1) (w.alloc o2):=⟨by simp,fun b hb=>by rw [heap_alloc,heap_alloc,if_neg hb,if_neg hb]⟩
theorem TsAt.but {q:Nat} {w1 w2:World} {At:Option Addr} {l:List ByteArray} (h:TsAt w1 At l) (hb:But q w1 w2) {cs:Array Value} {t:TypeId} (hq:w1.heap[q]?=some (.cells cs t)) (hn:∀ (j:Nat) (s:ByteArray),cs[j]?≠some (.string s)):TsAt w2 At l:=by
 intro j x hx
 obtain ⟨b',o,hA,hlt,hc⟩:=h j x hx
 refine ⟨b',o,hA,by rw [←hb.1];exact hlt,?_⟩
 have hne:b'≠q:=fun e=>by
  subst e
  rw [cell_blk hq] at hc
  exact hn _ _ hc
 exact (World.cell?_of_block (a:=⟨b',o+j,none⟩) (hb.2 b' hne).symm).trans hc
theorem no_str4 {a b c d:Int}:∀ (j:Nat) (s:ByteArray),(#[Value.int .i64 a,.int .i64 b,.int .i64 c,.int .i64 d])[j]?≠some (.string s):=by
 intro j s e
 match j,e with
 | 0,e=>simp at e
 | 1,e=>simp at e
 | 2,e=>simp at e
 | 3,e=>simp at e
 | j+4,e=>simp at e
set_option maxRecDepth 20000 in
set_option maxHeartbeats 8000000 in
theorem wSite_ok (hp:PWx w0.heap.size O p g A v) (h:Mem w0 w n O) (hn:p+16≤n) (hk:k<A.S):
  Calls Tryz.prog 58 #[.pointer (some ⟨g,0,none⟩),.int .i64 (k:Nat)] w fun e w'=>∃ At ct,e=.returned (.tuple #[.agg #[.int .i64 (A.si k).p0,.int .i64 (A.si k).p1,.int .i64 (A.si k).p2,.int .i64 (A.si k).p3],.int .i64 ((A.si k).ws.length:Nat),.slice At 8 ct,.int .i64 ((A.si k).held.length:Nat),.nilIface])∧TsAt w' At (aTold (A.si k))∧Below w.heap.size w w':=by
 have hb:=hp.blk h hn
 obtain ⟨x,hx⟩:=hp.xk hk
 obtain ⟨bS,cS,eS,_,lS,kS,_⟩:=row_at h (i:=p+1) (by omega) hp.b1 (by omega)
 have y1:=kS k _ hk (ptrs_get hx)
 have HAP:=hidp (fun W (hW:Below w.heap.size w W)=>hp.sApplied (h.below hW) hn hx)
 have HWA:=hidp (fun W (hW:Below w.heap.size w W)=>hp.sWaits (h.below hW) hn hx)
 have HAL:=hidp (fun W (hW:Below w.heap.size w W)=>hp.sAll (h.below hW) hn hx)
 have HMA:=hidp (fun W (hW:Below w.heap.size w W)=>hp.sMany (h.below hW) hn hx)
 rw [eS] at hb
 have c0:=cell_blk hb 0
 simp only [zC,zD,zE] at c0
 haveI:SzGe (g+1) w:=⟨lt_blk hb⟩
 haveI:SzGe (bS+1) w:=⟨lS⟩
 have d0:decide ((k:Int)<0)=false:=decide_eq_false (by omega)
 have d1:decide ((A.S:Int)≤(k:Int))=false:=decide_eq_false (by omega)
 have d2:decide (A.S≤k)=false:=decide_eq_false (by omega)
 have hk0:(0:Int)≤(k:Int):=by omega
 have hk1:(k:Int)<(A.S:Int):=by omega
 clear hb eS kS lS hx hk hp h hn
 generalize A.S=S at *
 generalize (A.si k).p0=e0 at *
 generalize (A.si k).p1=e1 at *
 generalize (A.si k).p2=e2 at *
 generalize (A.si k).p3=e3 at *
 generalize (A.si k).ws.length=e4 at *
 generalize (A.si k).held.length=e5 at *
 generalize aTold (A.si k)=tl at *
 go_enter Tryz.func58,Tryz.ntmps58
 go_wp2_with fail
 go_at_call 26
 refine (HAP.out _ zB).mono ?_
 rintro e w1 ⟨rfl,hb1⟩
 obtain ⟨x1,rfl⟩:=wplus_of_below hb1
 clear hb1 HAP
 go_wp2_with fail
 go_at_call 27
 refine (HWA.out _ zB).mono ?_
 rintro e w1 ⟨rfl,hb1⟩
 obtain ⟨x2,rfl⟩:=wplus_of_below hb1
 clear hb1 HWA
 go_wp2_with fail
 go_at_call 32
 refine (HAL.out _ zB).mono ?_
 rintro e w1 ⟨At,ct,rfl,hts,hb1⟩
 have HTS:=hidp hts
 obtain ⟨x3,rfl⟩:=wplus_of_below hb1
 clear hb1 hts HAL
 go_wp2_with fail
 go_at_call 30
 refine (HMA.out _ zB).mono ?_
 rintro e w1 ⟨rfl,hb1⟩
 have HTS2:=hidp (HTS.out.below hb1)
 obtain ⟨x4,rfl⟩:=wplus_of_below hb1
 clear hb1 HMA HTS
 go_wp2_with fail
 refine bodyPost_ret (v:=.tuple #[.agg #[.int .i64 e0,.int .i64 e1,.int .i64 e2,.int .i64 e3],.int .i64 (e4:Nat),.slice At 8 ct,.int .i64 (e5:Nat),.nilIface]) ?_ rfl ⟨At,ct,rfl,?_,zB⟩
 ·simp [results,Tryz.results58,go_sem]
 ·refine HTS2.out.but (q:=w.heap.size) (((((But.alloc w _ _).plus x1).plus x2).plus x3).plus x4) (cs:=#[.int .i64 0,.int .i64 0,.int .i64 0,.int .i64 0]) (t:=32) ?_ no_str4
  rw [wplus_heap,wplus_heap,wplus_heap,wplus_heap]
  exact blk_new rfl _
end
section
variable {w0 w:World} {n:Nat} {O:Nat→Ob} {p g:Nat} {A:AWd} {v:WV} {k u x:Nat}
set_option maxRecDepth 20000 in
set_option maxHeartbeats 16000000 in
theorem wSweep_ok (hp:PWx w0.heap.size O p g A v) (h:Mem w0 w n O) (hn:p+16≤n) (hk:k<A.S):
  Calls Tryz.prog 111 #[.pointer (some ⟨g,0,none⟩),.int .i64 (k:Nat)] w fun e w'=>e=.returned .nilIface∧WUpd w0 w' n O p g v.xs v.us (awSweep A k):=by
 have hb:=hp.blk h hn
 obtain ⟨x,hx⟩:=hp.xk hk
 obtain ⟨bS,cS,eS,_,lS,kS,_⟩:=row_at h (i:=p+1) (by omega) hp.b1 (by omega)
 have y1:=kS k _ hk (ptrs_get hx)
 obtain ⟨aC,cC,eC⟩:=row_form h (i:=p+3) (by omega) hp.b3
 obtain ⟨aP,cP,eP⟩:=row_form h (i:=p+4) (by omega) hp.b4
 have hC:A.C≤6:=hp.ok.C
 have HST:=hidp (fun W (hW:Below w.heap.size w W)=>hp.sStable (h.below hW) hn hx (A.S:Int))
 have HSW:=hidp (fun W (hW:Below w.heap.size w W) (v0 v1 v2 v3:Int)=>hp.sSweep (h.below hW) hn hx v0 v1 v2 v3)
 have HRC:Hid (∀ j,j<A.C→∃ (u bC bP:Nat),aC=some ⟨bC,0,none⟩∧aP=some ⟨bP,0,none⟩∧bC<w.heap.size∧bP<w.heap.size∧w.cell? ⟨bC,j,none⟩=some (.pointer (some ⟨u,0,none⟩))∧w.cell? ⟨bP,j,none⟩=some (.int .i64 (A.pl j:Int))∧
   (∀ W,Below w.heap.size w W→Calls Tryz.prog 50 #[.pointer (some ⟨u,0,none⟩)] W fun e w'=>e=.returned (.bool (A.cl j).op)∧Below W.heap.size W w')∧
   (∀ W,Below w.heap.size w W→Calls Tryz.prog 49 #[.pointer (some ⟨u,0,none⟩)] W fun e w'=>e=.returned (.agg #[.int .i64 (A.cl j).n0,.int .i64 (A.cl j).n1,.int .i64 (A.cl j).n2,.int .i64 (A.cl j).n3])∧Below W.heap.size W w')):=hidp (fun j hj=>by
  obtain ⟨u,hu⟩:=hp.uk hj
  obtain ⟨bC,cC',eC',_,lC,kC,_⟩:=row_at h (i:=p+3) (by omega) hp.b3 (by omega)
  obtain ⟨bP,cP',eP',_,lP,kP,_⟩:=row_at h (i:=p+4) (by omega) hp.b4 (by omega)
  rw [eC] at eC';rw [eP] at eP'
  simp only [Value.slice.injEq] at eC' eP'
  exact ⟨u,bC,bP,eC'.1,eP'.1,lC,lP,kC j _ hj (ptrs_get hu),kP j _ hj (intsN_get hj),fun W hW=>hp.sOpen (h.below hW) hn hu,fun W hW=>hp.sSnap (h.below hW) hn hu⟩)
 have HF0:Hid (awMin A k 0 (awStab A k)=awStab A k):=hidp rfl
 have HFS:Hid (∀ j,awMin A k (j+1) (awStab A k)=if A.pl j=k∧(A.cl j).op=true then
   (min (awMin A k j (awStab A k)).1 (A.cl j).n0,min (awMin A k j (awStab A k)).2.1 (A.cl j).n1,min (awMin A k j (awStab A k)).2.2.1 (A.cl j).n2,min (awMin A k j (awStab A k)).2.2.2 (A.cl j).n3) else awMin A k j (awStab A k)):=hidp fun j=>rfl
 have HEND:Hid (∀ W,WUpd w0 W n O p g v.xs v.us { A with si:=fset A.si k (rSwept (A.si k) (awMin A k A.C (awStab A k)).1 (awMin A k A.C (awStab A k)).2.1 (awMin A k A.C (awStab A k)).2.2.1 (awMin A k A.C (awStab A k)).2.2.2) }→WUpd w0 W n O p g v.xs v.us (awSweep A k)):=hidp fun W hW=>hW
 have HSV:Hid (awStab A k=(aStab (A.si k) A.S 0 (A.si k).p0,aStab (A.si k) A.S 1 (A.si k).p1,aStab (A.si k) A.S 2 (A.si k).p2,aStab (A.si k) A.S 3 (A.si k).p3)):=hidp rfl
 rw [eS,eC,eP] at hb
 have c0:=cell_blk hb 0;have c2:=cell_blk hb 2;have c3:=cell_blk hb 3
 simp only [zC,zD,zE] at c0 c2 c3
 haveI:SzGe (g+1) w:=⟨lt_blk hb⟩
 haveI:SzGe (bS+1) w:=⟨lS⟩
 clear hb eS eC eP kS lS hx
 generalize aStab (A.si k) A.S 0 (A.si k).p0=s0 at *
 generalize aStab (A.si k) A.S 1 (A.si k).p1=s1 at *
 generalize aStab (A.si k) A.S 2 (A.si k).p2=s2 at *
 generalize aStab (A.si k) A.S 3 (A.si k).p3=s3 at *
 have HG0:Hid ((awMin A k 0 (awStab A k))=(s0,s1,s2,s3)):=hidp (HF0.out.trans HSV.out)
 clear HF0 HSV hp h hn
 generalize (fun j=>awMin A k j (awStab A k))=F0 at *
 obtain ⟨F,hF⟩:∃ F:Nat→Int×Int×Int×Int,(fun j=>awMin A k j (awStab A k))=F:=⟨_,rfl⟩
 have hFj:∀ j,awMin A k j (awStab A k)=F j:=fun j=>congrFun hF j
 simp only [hFj] at HFS HG0 HEND
 clear hF hFj F0
 have HK:=hidp hk
 have hC6:=hC
 have d0:decide ((k:Int)<0)=false:=decide_eq_false (by omega)
 have d1:decide ((A.S:Int)≤(k:Int))=false:=decide_eq_false (by omega)
 have d2:decide (A.S≤k)=false:=decide_eq_false (by omega)
 have hk0:(0:Int)≤(k:Int):=by omega
 have hk1:(k:Int)<(A.S:Int):=by omega
 have hS4:Hid True:=hidp trivial
 generalize hSS:A.S=S at *
 clear hSS hk hS4
 go_enter Tryz.func111,Tryz.ntmps111
 go_upto_region 3 with fail
 go_cut [5] (fun tb W'=>∃ bx:Nat,tb=.pointer (some ⟨bx,0,none⟩)∧w.heap.size≤bx∧W'.heap[bx]?=some (.cells #[.int .i64 s0,.int .i64 s1,.int .i64 s2,.int .i64 s3] 32)∧Below w.heap.size w W')
 case first=>
  refine wp_region_held_drew (S:=(fun X:World=>X.cell? ⟨g,0,none⟩=some (.slice (some ⟨bS,0,none⟩) S cS)∧X.cell? ⟨bS,k,none⟩=some (.pointer (some ⟨x,0,none⟩)))) (by kernel_rfl) ?_ (fun hHeld=>?_)
  ·exact ⟨by simp [go_sem, *],by simp [go_sem, *]⟩
  refine takeL 0 rfl (by kernel_rfl) (by kernel_rfl) (by kernel_rfl) (fun _ _ _ h=>h) hHeld (by rfl) (v:=?_) ?_ ?_
  rotate_left
  ·intro w hSw
   (try dsimp only at hSw)
   go_simp
   all_goals (with_reducible rfl)
  try simp only [Act.put,zF,zG,zH]
  refine takeL 1 rfl (by kernel_rfl) (by kernel_rfl) (by kernel_rfl) (fun _ _ _ h=>h) hHeld (by rfl) (v:=?_) ?_ ?_
  rotate_left
  ·intro w hSw
   (try dsimp only at hSw)
   go_simp
   all_goals (with_reducible rfl)
  try simp only [Act.put,zF,zG,zH]
  refine takeL 2 rfl (by kernel_rfl) (by kernel_rfl) (by kernel_rfl) (fun _ _ _ h=>h) hHeld (by rfl) (v:=?_) ?_ ?_
  rotate_left
  ·intro w hSw
   (try dsimp only at hSw)
   go_simp
   all_goals (with_reducible rfl)
  try simp only [Act.put,zF,zG,zH]
  refine takeL 3 rfl (by kernel_rfl) (by kernel_rfl) (by kernel_rfl) (fun _ _ _ h=>h) hHeld (by rfl) (v:=?_) ?_ ?_
  rotate_left
  ·intro w hSw
   (try dsimp only at hSw)
   go_simp
   all_goals (with_reducible rfl)
  try simp only [Act.put,zF,zG,zH]
  refine takeL 4 rfl (by kernel_rfl) (by kernel_rfl) (by kernel_rfl) (fun _ _ _ h=>h) hHeld (by rfl) (v:=?_) ?_ ?_
  rotate_left
  ·intro w hSw
   (try dsimp only at hSw)
   go_simp
   all_goals (with_reducible rfl)
  try simp only [Act.put,zF,zG,zH]
  refine takeL 5 rfl (by kernel_rfl) (by kernel_rfl) (by kernel_rfl) (fun _ _ _ h=>h) hHeld (by rfl) (v:=?_) ?_ ?_
  rotate_left
  ·intro w hSw
   (try dsimp only at hSw)
   go_simp
   all_goals (with_reducible rfl)
  try simp only [Act.put,zF,zG,zH]
  refine takeL 6 rfl (by kernel_rfl) (by kernel_rfl) (by kernel_rfl) (fun _ _ _ h=>h) hHeld (by rfl) (v:=?_) ?_ ?_
  rotate_left
  ·intro w hSw
   (try dsimp only at hSw)
   go_simp
   all_goals (with_reducible rfl)
  try simp only [Act.put,zF,zG,zH]
  refine takeL 7 rfl (by kernel_rfl) (by kernel_rfl) (by kernel_rfl) (fun _ _ _ h=>h) hHeld (by rfl) (v:=?_) ?_ ?_
  rotate_left
  ·intro w hSw
   (try dsimp only at hSw)
   go_simp
   all_goals (with_reducible rfl)
  try simp only [Act.put,zF,zG,zH]
  refine takeL 8 rfl (by kernel_rfl) (by kernel_rfl) (by kernel_rfl) (fun _ _ _ h=>h) hHeld (by rfl) (v:=?_) ?_ ?_
  rotate_left
  ·intro w hSw
   (try dsimp only at hSw)
   go_simp
   all_goals (with_reducible rfl)
  try simp only [Act.put,zF,zG,zH]
  refine takeL 9 rfl (by kernel_rfl) (by kernel_rfl) (by kernel_rfl) (fun _ _ _ h=>h) hHeld (by rfl) (v:=?_) ?_ ?_
  rotate_left
  ·intro w hSw
   (try dsimp only at hSw)
   go_simp
   all_goals (with_reducible rfl)
  try simp only [Act.put,zF,zG,zH]
  refine takeL 10 rfl (by kernel_rfl) (by kernel_rfl) (by kernel_rfl) (fun _ _ _ h=>h) hHeld (by rfl) (v:=?_) ?_ ?_
  rotate_left
  ·intro w hSw
   (try dsimp only at hSw)
   go_simp
   all_goals (with_reducible rfl)
  try simp only [Act.put,zF,zG,zH]
  refine takeL 11 rfl (by kernel_rfl) (by kernel_rfl) (by kernel_rfl) (fun _ _ _ h=>h) hHeld (by rfl) (v:=?_) ?_ ?_
  rotate_left
  ·intro w hSw
   (try dsimp only at hSw)
   go_simp
   all_goals (with_reducible rfl)
  try simp only [Act.put,zF,zG,zH]
  refine wpAnyH_ready (rs:=[12,13]) (by kernel_rfl) (by simp) ?_
  refine consL rfl (fun K hK=>?_) ?_
  ·go_simp
   go_at_call 28
   refine (HST.out _ zB).mono ?_
   rintro e w3 ⟨rfl,hb3⟩
   obtain ⟨x3,rfl⟩:=wplus_of_below hb3
   clear hb3
   go_wp2_with fail
   refine hK.out _ _ ?_ (fun hNew=>?_)
   ·exact ⟨by simp [go_sem, *],by simp [go_sem, *]⟩
   clear hHeld
   have hHeld:=hNew
   clear hNew hK K
   try simp only [Act.put,zF,zG,zH]
   refine wpAnyH_ready (rs:=[13]) (by kernel_rfl) (by simp) ?_
   refine consL rfl (fun K hK=>?_) ?_
   ·go_simp
    refine hK.out _ _ ?_ (fun hNew=>?_)
    ·exact ⟨by simp [go_sem, *],by simp [go_sem, *]⟩
    clear hHeld
    have hHeld:=hNew
    clear hNew hK K
    try simp only [Act.put,zF,zG,zH]
    refine wpAnyH_ready (rs:=[14]) (by kernel_rfl) (by simp) ?_
    refine consL rfl (fun K hK=>?_) ?_
    ·go_simp
     refine hK.out _ _ ?_ (fun hNew=>?_)
     ·exact ⟨by simp [go_sem, *],by simp [go_sem, *]⟩
     clear hHeld
     have hHeld:=hNew
     clear hNew hK K
     try simp only [Act.put,zF,zG,zH]
     refine wpAnyH_done (by kernel_rfl) ?_ _
     go_wp2_with fail
     go_meet
     exact ⟨_,rfl,by first | exact Nat.le_refl _ | simp,by first | exact blk_new rfl _ | exact blk_new (by simp) _ | exact (wplus_heap_lt _ _ _ (by simp)).trans (blk_new rfl _) | exact (wplus_heap_lt _ _ _ (by simp)).trans (blk_new (by simp) _),zB⟩
    exact AllReadyH.nil
   exact AllReadyH.nil
  refine consL rfl (fun K hK=>?_) ?_
  ·go_simp
   refine hK.out _ _ ?_ (fun hNew=>?_)
   ·exact ⟨by simp [go_sem, *],by simp [go_sem, *]⟩
   clear hHeld
   have hHeld:=hNew
   clear hNew hK K
   try simp only [Act.put,zF,zG,zH]
   refine wpAnyH_ready (rs:=[12]) (by kernel_rfl) (by simp) ?_
   refine consL rfl (fun K hK=>?_) ?_
   ·go_simp
    go_at_call 28
    refine (HST.out _ zB).mono ?_
    rintro e w3 ⟨rfl,hb3⟩
    obtain ⟨x3,rfl⟩:=wplus_of_below hb3
    clear hb3
    go_wp2_with fail
    refine hK.out _ _ ?_ (fun hNew=>?_)
    ·exact ⟨by simp [go_sem, *],by simp [go_sem, *]⟩
    clear hHeld
    have hHeld:=hNew
    clear hNew hK K
    try simp only [Act.put,zF,zG,zH]
    refine wpAnyH_ready (rs:=[14]) (by kernel_rfl) (by simp) ?_
    refine consL rfl (fun K hK=>?_) ?_
    ·go_simp
     refine hK.out _ _ ?_ (fun hNew=>?_)
     ·exact ⟨by simp [go_sem, *],by simp [go_sem, *]⟩
     clear hHeld
     have hHeld:=hNew
     clear hNew hK K
     try simp only [Act.put,zF,zG,zH]
     refine wpAnyH_done (by kernel_rfl) ?_ _
     go_wp2_with fail
     go_meet
     exact ⟨_,rfl,by first | exact Nat.le_refl _ | simp,by first | exact blk_new rfl _ | exact blk_new (by simp) _ | exact (wplus_heap_lt _ _ _ (by simp)).trans (blk_new rfl _) | exact (wplus_heap_lt _ _ _ (by simp)).trans (blk_new (by simp) _),zB⟩
    exact AllReadyH.nil
   exact AllReadyH.nil
  exact AllReadyH.nil
 case rest=>
  obtain ⟨bx,rfl,hbx,hbl,hbw⟩:=hcut
  have HBX:=hidp hbx
  have HBL:=hidp hbl
  have HBW:=hidp hbw
  clear hbx hbl hbw HST
  have C0:=(HBW.out.cell (p:=⟨g,0,none⟩) (SzGe.out (n:=g+1))).trans c0
  have C2:=(HBW.out.cell (p:=⟨g,2,none⟩) (SzGe.out (n:=g+1))).trans c2
  go_wp2_with fail
  go_loopw [38] (fun i W=>∃ j:Nat,i=.int .i64 j∧j≤A.C∧Below w.heap.size w W∧W.heap[bx]?=some (.cells #[.int .i64 (F j).1,.int .i64 (F j).2.1,.int .i64 (F j).2.2.1,.int .i64 (F j).2.2.2] 32)) (fun i _=>A.C-(Go.RowKit.intOf i).toNat)
  case atStart=>exact ⟨0,rfl,Nat.zero_le _,HBW.out,by rw [HG0.out];exact HBL.out⟩
  case round=>
   obtain ⟨j,rfl,hj,hbw,hbl⟩:=hrel
   clear HBW HBL C0 C2
   haveI:SzGe (bx+1) wr:=⟨lt_blk hbl⟩
   haveI:SzGe w.heap.size wr:=⟨hbw.size⟩
   haveI:SzGe (g+1) wr:=⟨Nat.le_trans (SzGe.out (n:=g+1) (w:=w)) hbw.size⟩
   haveI:SzGe (bS+1) wr:=⟨Nat.le_trans (SzGe.out (n:=bS+1) (w:=w)) hbw.size⟩
   have C0:=(hbw.cell (p:=⟨g,0,none⟩) (SzGe.out (n:=g+1))).trans c0
   have C3:=(hbw.cell (p:=⟨g,3,none⟩) (SzGe.out (n:=g+1))).trans c3
   have Y1:=(hbw.cell (p:=⟨bS,k,none⟩) (SzGe.out (n:=bS+1))).trans y1
   have v0:=cell_blk hbl 0;have v1:=cell_blk hbl 1;have v2:=cell_blk hbl 2;have v3:=cell_blk hbl 3
   simp only [zC,zD,zE] at v0 v1 v2 v3
   have fv:∀ i,wr.frozen? ⟨bx,i,none⟩=false:=fun i=>frozen_blk hbl i
   have fv0:=fv 0;have fv1:=fv 1;have fv2:=fv 2;have fv3:=fv 3
   have HBL:=hidp hbl
   have HBW:=hidp hbw
   have hFS:=HFS.out j
   obtain ⟨⟨f0,f1,f2,f3⟩,hFj⟩:∃ f,F j=f:=⟨_,rfl⟩
   rw [hFj] at v0 v1 v2 v3 hFS HBL
   simp only at v0 v1 v2 v3 hFS HBL
   have HFJ:=hidp hFj
   have HFS2:=hidp hFS
   clear hbl hbw fv hFS hFj
   by_cases hjl:j<A.C
   ·obtain ⟨u,bC,bP,rfl,rfl,lC,lP,z1,z2,hop,hsn⟩:=HRC.out j hjl
    have HOP:=hidp hop
    have HSN:=hidp hsn
    have Z1:=(HBW.out.cell (p:=⟨bC,j,none⟩) lC).trans z1
    have Z2:=(HBW.out.cell (p:=⟨bP,j,none⟩) lP).trans z2
    haveI:SzGe (bC+1) wr:=⟨Nat.le_trans lC HBW.out.size⟩
    haveI:SzGe (bP+1) wr:=⟨Nat.le_trans lP HBW.out.size⟩
    clear z1 z2 hop hsn HRC lC lP
    have hj0:(0:Int)≤(j:Int):=by omega
    have hj1:(j:Int)<(A.C:Int):=by omega
    have hj6:(j:Int)<6:=by omega
    by_cases hpl:A.pl j=k
    ·have e1:((A.pl j:Int)==(k:Int))=true:=by rw [hpl];simp
     have e1b:(A.pl j==k)=true:=by rw [hpl];simp
     cases hop:(A.cl j).op with
     | true=>
       rw [hop] at HOP
       have HFN:Hid (F (j+1)=(min f0 (A.cl j).n0,min f1 (A.cl j).n1,min f2 (A.cl j).n2,min f3 (A.cl j).n3)):=hidp (by rw [HFS2.out,if_pos ⟨hpl,hop⟩])
       have HMN:=hidp (fun W=>vMin_any f0 f1 f2 f3 (A.cl j).n0 (A.cl j).n1 (A.cl j).n2 (A.cl j).n3 W)
       clear hpl hop HFS2
       generalize (A.cl j).n0=m0 at *
       generalize (A.cl j).n1=m1 at *
       generalize (A.cl j).n2=m2 at *
       generalize (A.cl j).n3=m3 at *
       generalize A.pl j=q at *
       go_wp2_with fail
       go_at_call 50
       refine (HOP.out _ (by first | exact HBW.out | exact HBW.out.trans (Below.mono (B:=wr.heap.size) zB HBW.out.size))).mono ?_
       rintro e w4 ⟨rfl,hb4⟩
       obtain ⟨x4,rfl⟩:=wplus_of_below hb4
       clear hb4 HOP
       go_wp2_with fail
       refine wp_region_plus_tail 4 (by kernel_rfl) (by kernel_rfl) ?_
       simp only [List.take_succ_cons,List.take_zero,List.drop_succ_cons,List.drop_zero]
       repeat (first | go_big_quiet_skip | (go_big_quiet_want;go_big_quiet_op;first | go_big_quiet_on | (apply Exists.intro;refine ⟨fun _=>?_,?_⟩;(first | (go_at_call 49;exact Calls.plus_of (HSN.out _ (by first | exact HBW.out | exact HBW.out.trans (Below.mono (B:=wr.heap.size) zB HBW.out.size)))) | (go_at_call 89;exact Calls.plus_of (HMN.out _)));go_big_quiet_on)))
       refine wpQuiet_nil ?_
       rintro _ ⟨x9,rfl⟩
       go_wp2_with fail
       go_roundw
       case rel=>
        have hh:=blk_set (blk_set (blk_set (blk_set HBL.out 0 (.int .i64 (min f0 m0))) 1 (.int .i64 (min f1 m1))) 2 (.int .i64 (min f2 m2))) 3 (.int .i64 (min f3 m3))
        simp only [List.setIfInBounds_toArray,List.set_cons_zero,List.set_cons_succ] at hh
        refine ⟨j+1,by go_num,by omega,blw_plus (blw_plus (set_below (set_below (set_below (set_below HBW.out HBX.out) HBX.out) HBX.out) HBX.out)),?_⟩
        rw [HFN.out,wplus_heap,wplus_heap]
        exact hh
       case measure=>simp [Go.RowKit.intOf];omega
     | false=>
       rw [hop] at HOP
       have HFN:Hid (F (j+1)=(f0,f1,f2,f3)):=hidp (by rw [HFS2.out,if_neg (by rw [hop];simp)])
       clear hpl hop HFS2
       generalize A.pl j=q at *
       go_wp2_with fail
       go_at_call 50
       refine (HOP.out _ (by first | exact HBW.out | exact HBW.out.trans (Below.mono (B:=wr.heap.size) zB HBW.out.size))).mono ?_
       rintro e w4 ⟨rfl,hb4⟩
       obtain ⟨x4,rfl⟩:=wplus_of_below hb4
       clear hb4 HOP
       go_wp2_with fail
       go_roundw
       case rel=>exact ⟨j+1,by go_num,by omega,blw_plus HBW.out,by rw [HFN.out,wplus_heap];exact HBL.out⟩
       case measure=>simp [Go.RowKit.intOf];omega
    ·have e1:((A.pl j:Int)==(k:Int))=false:=by simp;omega
     have e1b:(A.pl j==k)=false:=by simp;exact hpl
     have HFN:Hid (F (j+1)=(f0,f1,f2,f3)):=hidp (by rw [HFS2.out,if_neg (fun e=>hpl e.1)])
     clear hpl HFS2
     generalize A.pl j=q at *
     go_wp2_with fail
     go_roundw
     case rel=>exact ⟨j+1,by go_num,by omega,HBW.out,by rw [HFN.out];exact HBL.out⟩
     case measure=>simp [Go.RowKit.intOf];omega
   ·obtain rfl:j=A.C:=by omega
    have hjd:decide (A.C<A.C)=false:=decide_eq_false (by omega)
    have hjd2:decide ((A.C:Int)<(A.C:Int))=false:=decide_eq_false (by omega)
    clear hjl hj HRC HFS HFS2 hC hC6
    go_wp2_with fail
    refine wp_region_plus_tail 8 (by kernel_rfl) (by kernel_rfl) ?_
    simp only [List.take_succ_cons,List.take_zero,List.drop_succ_cons,List.drop_zero]
    repeat (first | go_big_quiet_skip | (go_big_quiet_want;go_big_quiet_op;first | go_big_quiet_on))
    refine wpQuiet_nil ?_
    rintro _ ⟨x9,rfl⟩
    go_wp2_with fail
    go_at_call 21
    refine (HSW.out _ (Below.trans HBW.out (Below.mono (B:=wr.heap.size) zB HBW.out.size)) f0 f1 f2 f3).mono ?_
    rintro e w7 ⟨rfl,hU⟩
    have HU:=hidp hU
    clear hU HSW
    go_wp2_with fail
    go_ret
    exact ⟨rfl,HEND.out _ (by rw [HFJ.out];exact HU.out)⟩
end
end Go.Proofs.YtbopfhbeegkkaabGreatDoor
