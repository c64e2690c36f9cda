/- Part 9 of a proof: lemmas and contracts that other parts use. -/
import Derived.Test.YtbopfhbeegkkaabGreatDoorSe8
import Derived.RangeFuncNested
import Derived.RangeFuncBound
import Derived.RangeFuncCalls
import Derived.Shelf.RegionOpen
set_option linter.unusedVariables false
set_option linter.unusedSimpArgs false
set_option linter.constructorNameAsVariable false
namespace Go.Proofs.YtbopfhbeegkkaabGreatDoor
open Go.RowKit Go.Shelf
attribute [local go_sem] Oper.semAt_some
def verZ:VerP:=⟨0,0,0,0,⟨#[]⟩,false⟩
def findV (a0 a1 a2 a3:Int) (vs:List VerP):Option VerP:=vs.reverse.find? (seenV a0 a1 a2 a3)
def readR (a0 a1 a2 a3:Int) (S:Nat→List VerP) (key:Int):VerP×Int:=
 if key<0∨8≤key then (verZ,2) else match findV a0 a1 a2 a3 (S key.toNat) with
  | some v=>if v.gone=true then (verZ,8) else (v,0)
  | none=>(verZ,8)
theorem upto_find (p:VerP→Bool) (vs:List VerP) (k:Nat) (hk:k<vs.length) (h:∀ x∈bUpto vs k,p (vs.getD x default)=false) (hx:p (vs.getD (vs.length-1-k) default)=true):vs.reverse.find? p=some (vs.getD (vs.length-1-k) default):=by
 rw [List.find?_eq_some_iff_getElem]
 refine ⟨hx,k,by simpa using hk,?_,?_⟩
 ·rw [List.getElem_reverse,List.getD_eq_getElem?_getD,List.getElem?_eq_getElem (by omega)];rfl
 ·intro j hj
  have hjl:vs.length-1-j<vs.length:=by omega
  have:=h (vs.length-1-j) (by simp only [bUpto,List.mem_map,List.mem_range];exact ⟨j,hj,rfl⟩)
  rw [List.getD_eq_getElem?_getD,List.getElem?_eq_getElem hjl] at this
  rw [List.getElem_reverse]
  simpa using this
theorem upto_none (p:VerP→Bool) (vs:List VerP) (h:∀ x∈bUpto vs vs.length,p (vs.getD x default)=false):vs.reverse.find? p=none:=by
 rw [List.find?_eq_none]
 intro y hy
 obtain ⟨i,hi,rfl⟩:=List.getElem_of_mem (List.mem_reverse.1 hy)
 have:=h i (by simp only [bUpto,List.mem_map,List.mem_range];exact ⟨vs.length-1-i,by omega,by omega⟩)
 rw [List.getD_eq_getElem?_getD,List.getElem?_eq_getElem hi] at this
 simpa using this
theorem blk_own {β:Type} (B:Nat) (cs:Array Value) (t:TypeId):Own (fun (_:β) (W:World)=>W.heap[B]?=some (.cells cs t)):=fun s X Y row hs hg hrow=>
 (hg.block B (lt_blk hs) (fun e'=>by obtain ⟨o,ho,hc⟩:=hrow B e'.symm;rw [hs] at ho;cases ho;cases hc)).trans hs
theorem blk_new {W:World} {n:Nat} (hn:n=W.heap.size) (o:Obj):(W.alloc o).heap[n]?=some o:=by subst hn;exact World.alloc_heap_new W o
theorem blk_alloc {W:World} {B:Nat} {o:Obj} (h:W.heap[B]?=some o) (o':Obj):(W.alloc o').heap[B]?=some o:=(Below.heap_alloc W o' B (lt_blk h)).trans h
def resW (W:World) (b:Nat) (v0 v1 v2 v3 v4 v5 u:Value):World:=
 ((((((W.setCell ⟨b+1,0,none⟩ v0).setCell ⟨b+1,1,none⟩ v1).setCell ⟨b+1,2,none⟩ v2).setCell ⟨b+1,3,none⟩ v3).setCell ⟨b+1,4,none⟩ v4).setCell ⟨b+1,5,none⟩ v5).setCell ⟨b+1+1,0,none⟩ u
theorem resW_spec {W:World} {b:Nat} {x0 x1 x2 x3 x4 x5 x6:Value} (v0 v1 v2 v3 v4 v5 u:Value) (c1:W.heap[b+1]?=some (.cells #[x0,x1,x2,x3,x4,x5] 59)) (c2:W.heap[b+1+1]?=some (.cells #[x6] 25)):
  (resW W b v0 v1 v2 v3 v4 v5 u).heap[b+1]?=some (.cells #[v0,v1,v2,v3,v4,v5] 59)∧(resW W b v0 v1 v2 v3 v4 v5 u).heap[b+1+1]?=some (.cells #[u] 25)∧Below b W (resW W b v0 v1 v2 v3 v4 v5 u)∧KeepsOthers W (resW W b v0 v1 v2 v3 v4 v5 u):=by
 have h0:=blk_set c1 0 v0
 have h1:=blk_set h0 1 v1
 have h2:=blk_set h1 2 v2
 have h3:=blk_set h2 3 v3
 have h4:=blk_set h3 4 v4
 have h5:=blk_set h4 5 v5
 have hb5:Below b W ((((((W.setCell ⟨b+1,0,none⟩ v0).setCell ⟨b+1,1,none⟩ v1).setCell ⟨b+1,2,none⟩ v2).setCell ⟨b+1,3,none⟩ v3).setCell ⟨b+1,4,none⟩ v4).setCell ⟨b+1,5,none⟩ v5):=
  ((((((Below.refl b W).setCell (p:=⟨b+1,0,none⟩) (by simp) _).setCell (p:=⟨b+1,1,none⟩) (by simp) _).setCell (p:=⟨b+1,2,none⟩) (by simp) _).setCell (p:=⟨b+1,3,none⟩) (by simp) _).setCell (p:=⟨b+1,4,none⟩) (by simp) _).setCell (p:=⟨b+1,5,none⟩) (by simp) _
 have g:∀ (X:World) (k:Nat) (v:Value),b+1+1<X.heap.size→(X.setCell ⟨b+1,k,none⟩ v).heap[b+1+1]?=X.heap[b+1+1]?:=fun X k v hl=>(grown_set X (b+1) k v).block (b+1+1) hl (by simp)
 have c6:((((((W.setCell ⟨b+1,0,none⟩ v0).setCell ⟨b+1,1,none⟩ v1).setCell ⟨b+1,2,none⟩ v2).setCell ⟨b+1,3,none⟩ v3).setCell ⟨b+1,4,none⟩ v4).setCell ⟨b+1,5,none⟩ v5).heap[b+1+1]?=some (.cells #[x6] 25):=by
  have hl:=lt_blk c2
  rw [g _ _ _ (by simpa using hl),g _ _ _ (by simpa using hl),g _ _ _ (by simpa using hl),g _ _ _ (by simpa using hl),g _ _ _ (by simpa using hl),g _ _ _ hl]
  exact c2
 refine ⟨?_,?_,hb5.setCell (p:=⟨b+1+1,0,none⟩) (by simp;omega) _,?_⟩
 ·unfold resW
  rw [(grown_set _ (b+1+1) 0 u).block (b+1) (by have:=lt_blk c1;simpa using this) (by simp)]
  exact h5
 ·exact blk_set c6 0 u
 ·exact ((((((KeepsOthers.setCell _ _ _).trans (KeepsOthers.setCell _ _ _)).trans (KeepsOthers.setCell _ _ _)).trans (KeepsOthers.setCell _ _ _)).trans (KeepsOthers.setCell _ _ _)).trans (KeepsOthers.setCell _ _ _)).trans (KeepsOthers.setCell _ _ _)
theorem put_blk {W:World} {D B:Nat} {o:Obj} (o':Obj) (h:W.heap[B]?=some o) (hne:B≠D):(W.putObj D o').heap[B]?=some o:=
 ((grownBy_putObj' W D o').block B (lt_blk h) (by simp;omega)).trans h
set_option maxRecDepth 100000 in
set_option maxHeartbeats 4000000 in
theorem readS_in (g o B k:Nat) (S:Nat→List VerP) (sv:Nat→Value) (a0 a1 a2 a3:Int) (w:World) (hst:StAt w g o B S sv) (hk:k<8) (hok:∀ x∈S k,0≤x.site∧x.site<4) (hlen:(S k).length≤900000):
  CallsIn Fence.wide 5 Tryz.prog 92 #[.pointer (some ⟨g,o,none⟩),.int .i64 k,.agg #[.int .i64 a0,.int .i64 a1,.int .i64 a2,.int .i64 a3]] w fun e w'=>
   e=.returned (.tuple #[verV (readR a0 a1 a2 a3 S k).1,errV (readR a0 a1 a2 a3 S k).2])∧Below w.heap.size w w':=by
 have hlg:=hst.lt
 obtain ⟨hc1,hc2⟩:=hst.cell hk
 obtain ⟨A,c,hsv⟩:=own_form (hst.own k hk)
 rw [hsv] at hc1
 haveI:SzGe (g+1) w:=⟨hlg⟩
 refine callsIn_of_wp_marks Tryz.func92 rfl trivial ?_
 simp only [Tryz.ntmps92,List.size_toArray,List.length_cons,List.length_nil,Nat.reduceAdd,Nat.reduceSub,Array.replicate_succ,Array.replicate_zero,List.push_toArray,List.append_toArray,List.nil_append,List.cons_append]
 gi_wp2_with fail
 refine ⟨trivial,(backward_in Fence.wide 4 trivial rfl A (S k).length c _).mono ?_⟩
 rintro e _ ⟨rfl,rfl⟩
 gi_wp2_with fail
 generalize HW4:World.alloc _ (Obj.cells #[.slice A (S k).length c] 142)=w4
 have b0:w4.heap[w.heap.size]?=some (.cells #[.int .i64 a0,.int .i64 a1,.int .i64 a2,.int .i64 a3] 32):=by rw [←HW4];exact blk_alloc (blk_alloc (blk_alloc (blk_new rfl _) _) _) _
 have b1:w4.heap[w.heap.size+1]?=some (.cells #[.int .i64 0,.int .i64 0,.int .i64 0,.int .i64 0,.string ⟨#[]⟩,.bool false] 59):=by rw [←HW4];exact blk_alloc (blk_alloc (blk_new (by simp) _) _) _
 have b2:w4.heap[w.heap.size+2]?=some (.cells #[.nilIface] 25):=by rw [←HW4];exact blk_alloc (blk_new (by simp) _) _
 have b3:w4.heap[w.heap.size+3]?=some (.cells #[.slice A (S k).length c] 142):=by rw [←HW4];exact blk_new (by simp) _
 have hbw:Below w.heap.size w w4:=by rw [←HW4];exact ((((Below.refl _ w).alloc (Nat.le_refl _) _).alloc (by simp) _).alloc (by simp;omega) _).alloc (by simp;omega) _
 have hl4:w4.heap.size=w.heap.size+4:=by simp [←HW4]
 have hin:∀ x:Nat,0≤((S k).getD x default).site∧((S k).getD x default).site<4:=by
  intro x
  rw [List.getD_eq_getElem?_getD]
  cases hx:(S k)[x]? with
  | none=>exact ⟨by decide,by decide⟩
  | some y=>exact hok y (List.mem_of_getElem? hx)
 obtain ⟨n₀,hn₀⟩:∃ n,n=w4.heap.size:=⟨_,rfl⟩
 clear HW4
 refine wpIn_rangeFunc_ownH (n:=5) rfl (by decide) (gf:=179) (lb:=#[.pointer (some ⟨w.heap.size+3,0,none⟩)]) rfl trivial (enters_of Tryz.func179 (by kernel_rfl) rfl)
  (back_stops Fence.wide 4 trivial rfl (by decide) (w.heap.size+3) w4.heap.size A c (S k) (by omega) w4 (by omega) (Nat.le_refl _) (cell_blk b3 0) ?_ ?_) belowK_t (belowK_b (Nat.le_refl _)) (Below.refl _ _) (fun _=>rfl)
  (fun pre W=>((((∀ x∈pre,seenV a0 a1 a2 a3 ((S k).getD x default)=false)∧W.heap[w.heap.size]?=some (.cells #[.int .i64 a0,.int .i64 a1,.int .i64 a2,.int .i64 a3] 32))∧
    W.heap[w.heap.size+1]?=some (.cells #[.int .i64 0,.int .i64 0,.int .i64 0,.int .i64 0,.string ⟨#[]⟩,.bool false] 59))∧W.heap[w.heap.size+2]?=some (.cells #[.nilIface] 25)∧W.heap[w.heap.size+3]?=some (.cells #[.slice A (S k).length c] 142))∧Below w.heap.size w W)
  (fun (c':Code) pre W=>(∃ pre0 x,c'=Code.ret∧pre=pre0++[x]∧(∀ y∈pre0,seenV a0 a1 a2 a3 ((S k).getD y default)=false)∧seenV a0 a1 a2 a3 ((S k).getD x default)=true∧
    (W.heap[w.heap.size+1]?=some (.cells (verCells (if ((S k).getD x default).gone=true then verZ else (S k).getD x default)).toArray 59)∧
    W.heap[w.heap.size+2]?=some (.cells #[if ((S k).getD x default).gone=true then errV 8 else errV 0] 25))∧Below w.heap.size w W))
  ?_ ?_ ⟨⟨⟨⟨by simp,b0⟩,b1⟩,b2,b3⟩,hbw⟩ (fun x a' W=>∃ Bx,W.heap[Bx]?=some (.cells (verCells ((S k).getD x default)).toArray 59)∧a'={ tmps:=#[.pointer (some ⟨g,o,none⟩),.int .i64 k,.agg #[.int .i64 a0,.int .i64 a1,.int .i64 a2,.int .i64 a3],undef,undef,.pointer (some ⟨w.heap.size,0,none⟩),.pointer (some ⟨w.heap.size+1,0,none⟩),.pointer (some ⟨w.heap.size+1+1,0,none⟩),undef,.pointer (some ⟨Bx,0,none⟩),.int .i64 k,.bool (decide ((k:Int)<0)),.bool (decide ((k:Int)<0)),.int .i64 k,.bool (decide (8≤(k:Int))),.bool (decide ((k:Int)<0)||decide (8≤(k:Int))),undef,undef,.pointer (some ⟨g,o,none⟩),.int .i64 k,.pointer (some ⟨g,o,none⟩),.pointer (some ⟨g,o,none⟩),.pointer (some ⟨g,o+k,none⟩),.slice A (S k).length c,.func (.func 179) #[] #[.pointer (some ⟨w.heap.size+1+1+1,0,none⟩)],.int .i64 (x:Int),verV ((S k).getD x default),undef,undef,undef,undef,undef,undef,undef,undef,undef,undef,undef,undef,undef,undef],defers:=[] }) ?_ ?assign ?body ?done ?stop
 ·exact (own_vs (hsv ▸ hst.own k hk)).below hbw
 ·have ho:=hst.own k hk
  rw [hsv] at ho
  rcases ho with ⟨_,(hh | ⟨gb,cap,cur,hv,_,hg2,_⟩)⟩
  ·left
   simp only [Value.slice.injEq] at hh
   exact ⟨hh.1.1,hh.1.2.2,List.eq_nil_of_length_eq_zero hh.2⟩
  ·right
   simp only [Value.slice.injEq] at hv
   exact ⟨gb,0,hv.1,by have:=lt_blk hg2;omega⟩
 ·exact OwnFrom.and (OwnFrom.and (OwnFrom.and (OwnFrom.and (ownFrom_pure _ _) (Own.from (blk_own _ _ _) _)) (Own.from (blk_own _ _ _) _)) (OwnFrom.and (Own.from (blk_own _ _ _) _) (Own.from (blk_own _ _ _) _))) (ownFrom_below (Nat.le_refl _) (by omega))
 ·rintro c' pre X Y row ⟨pre0,x,e1,e2,e3,e4,⟨e5,e6⟩,e7⟩ hg hr
  exact ⟨pre0,x,e1,e2,e3,e4,⟨Own.from (blk_own (β:=Unit) _ _ _) _ () X Y row e5 hg hr,Own.from (blk_own (β:=Unit) _ _ _) _ () X Y row e6 hg hr⟩,ownFrom_below (β:=Unit) (Nat.le_refl _) (by omega) () X Y row e7 hg hr⟩
 ·rintro x a' _ X Y row ⟨Bx,e1,e2⟩ hg hr
  exact ⟨Bx,Own.from (blk_own (β:=Unit) _ _ _) _ () X Y row e1 hg hr,e2⟩
 case assign=>
  rintro l pre x W K ⟨⟨⟨⟨hp,c0⟩,c1⟩,c2,c3⟩,hB⟩ hK
  obtain ⟨y,hy⟩:∃ y,(S k).getD x default=y:=⟨_,rfl⟩
  simp only [hy] at hK ⊢
  have HK:=hidp hK
  clear hK
  unfold verV
  gi_wp2
  exact HK.out _ _ ((KeepsOthers.alloc _ _).from _) ((Below.refl _ W).alloc (by have:=lt_blk c3;omega) _) ⟨⟨⟨⟨hp,blk_alloc c0 _⟩,blk_alloc c1 _⟩,blk_alloc c2 _,blk_alloc c3 _⟩,hB.alloc hB.size _⟩ ⟨W.heap.size,World.alloc_heap_new _ _,rfl⟩
 case body=>
  rintro l pre x a' W hl ⟨r,hr⟩ ⟨⟨⟨⟨hp,c0⟩,c1⟩,c2,c3⟩,hB⟩ ⟨Bx,bX,rfl⟩ hlt
  obtain ⟨y,hy⟩:∃ y,(S k).getD x default=y:=⟨_,rfl⟩
  have hi:=hin x
  simp only [hy] at bX hi ⊢
  obtain ⟨hi1,hi2⟩:=hi
  obtain ⟨s,hs⟩:∃ s:Nat,y.site=s:=⟨y.site.toNat,by omega⟩
  have hs4:s<4:=by omega
  have hat:=at_cell c0 hs4
  unfold verV
  have bX':W.heap[Bx]?=some (.cells #[.int .i64 y.w,.int .i64 y.c,.int .i64 y.site,.int .i64 y.seq,.string y.data,.bool y.gone] 59):=bX
  have d2:W.cell? ⟨Bx,2,none⟩=some (.int .i64 y.site):=cell_blk bX' 2
  have d3:W.cell? ⟨Bx,3,none⟩=some (.int .i64 y.seq):=cell_blk bX' 3
  have d5:W.cell? ⟨Bx,5,none⟩=some (.bool y.gone):=cell_blk bX' 5
  rw [hs] at d2
  have hse:seenV a0 a1 a2 a3 y=decide (y.seq≤atV a0 a1 a2 a3 (s:Int)):=by unfold seenV;rw [hs]
  have e0:W.cell? ⟨w.heap.size+1,0,none⟩=some (.int .i64 0):=cell_blk c1 0
  have e1:W.cell? ⟨w.heap.size+1,1,none⟩=some (.int .i64 0):=cell_blk c1 1
  have e2:W.cell? ⟨w.heap.size+1,2,none⟩=some (.int .i64 0):=cell_blk c1 2
  have e3:W.cell? ⟨w.heap.size+1,3,none⟩=some (.int .i64 0):=cell_blk c1 3
  have e4:W.cell? ⟨w.heap.size+1,4,none⟩=some (.string ⟨#[]⟩):=cell_blk c1 4
  have e5:W.cell? ⟨w.heap.size+1,5,none⟩=some (.bool false):=cell_blk c1 5
  have e6:W.cell? ⟨w.heap.size+1+1,0,none⟩=some .nilIface:=cell_blk c2 0
  have f0:W.frozen? ⟨w.heap.size+1,0,none⟩=false:=frozen_blk c1 0
  have f1:W.frozen? ⟨w.heap.size+1,1,none⟩=false:=frozen_blk c1 1
  have f2:W.frozen? ⟨w.heap.size+1,2,none⟩=false:=frozen_blk c1 2
  have f3:W.frozen? ⟨w.heap.size+1,3,none⟩=false:=frozen_blk c1 3
  have f4:W.frozen? ⟨w.heap.size+1,4,none⟩=false:=frozen_blk c1 4
  have f5:W.frozen? ⟨w.heap.size+1,5,none⟩=false:=frozen_blk c1 5
  have f6:W.frozen? ⟨w.heap.size+1+1,0,none⟩=false:=frozen_blk c2 0
  have x0:W.cell? ⟨Bx,0,none⟩=some (.int .i64 y.w):=cell_blk bX' 0
  have x1:W.cell? ⟨Bx,1,none⟩=some (.int .i64 y.c):=cell_blk bX' 1
  have x4:W.cell? ⟨Bx,4,none⟩=some (.string y.data):=cell_blk bX' 4
  gi_wp2_with fail
  have hn2:=hB.size
  refine Code.wpIn_mono (Q:=fun e a' W'=>e=.normal∧a'={ tmps:=([.pointer (some ⟨g,o,none⟩),.int .i64 k,.agg #[.int .i64 a0,.int .i64 a1,.int .i64 a2,.int .i64 a3],undef,undef,.pointer (some ⟨w.heap.size,0,none⟩),.pointer (some ⟨w.heap.size+1,0,none⟩),.pointer (some ⟨w.heap.size+1+1,0,none⟩),undef,.pointer (some ⟨Bx,0,none⟩),.int .i64 k,.bool (decide ((k:Int)<0)),.bool (decide ((k:Int)<0)),.int .i64 k,.bool (decide (8≤(k:Int))),.bool (decide ((k:Int)<0)||decide (8≤(k:Int))),undef,undef,.pointer (some ⟨g,o,none⟩),.int .i64 k,.pointer (some ⟨g,o,none⟩),.pointer (some ⟨g,o,none⟩),.pointer (some ⟨g,o+k,none⟩),.slice A (S k).length c,.func (.func 179) #[] #[.pointer (some ⟨w.heap.size+1+1+1,0,none⟩)],.int .i64 (x:Int),.agg #[.int .i64 y.w,.int .i64 y.c,.int .i64 s,.int .i64 y.seq,.string y.data,.bool y.gone],.pointer (some ⟨Bx,3,none⟩),.int .i64 y.seq,.pointer (some ⟨Bx,2,none⟩),.int .i64 s,.pointer (some ⟨w.heap.size,s,none⟩),.int .i64 (atV a0 a1 a2 a3 s),.bool (decide (y.seq≤atV a0 a1 a2 a3 s)),undef,undef,undef,undef,undef,undef,undef]:List Value).toArray,defers:=[] }∧W'=W.drew) ?_ ?_
  case refine_2=>gi_region <;> exact ⟨rfl,rfl,rfl⟩
  ·rintro _ _ _ ⟨rfl,rfl,rfl⟩
   rcases hd:decide (y.seq≤atV a0 a1 a2 a3 (s:Int)) with _ | _
   ·gi_wp2_with fail
    refine ⟨(KeepsOthers.drew _).from _,(Below.refl _ _).drew,⟨⟨⟨?_,c0⟩,c1⟩,c2,c3⟩,hB.drew⟩
    intro z hz
    rcases List.mem_append.1 hz with h | h
    ·exact hp z h
    ·simp only [List.mem_singleton] at h
     subst h
     rw [hy,hse,hd]
   ·rcases hgo:y.gone with _ | _
    ·rw [hgo] at d5
     gi_wp2_with fail
     obtain ⟨r1,r2,r3,r4⟩:=resW_spec (.int .i64 y.w) (.int .i64 y.c) (.int .i64 s) (.int .i64 y.seq) (.string y.data) (.bool false) .nilIface c1 c2
     generalize hW1:World.setCell _ _ Value.nilIface=W1
     replace hW1:resW W w.heap.size (.int .i64 y.w) (.int .i64 y.c) (.int .i64 s) (.int .i64 y.seq) (.string y.data) (.bool false) .nilIface=W1:=hW1
     rw [hW1] at r1 r2 r3 r4
     clear hW1
     refine ⟨(r4.trans (KeepsOthers.drew _)).from _,pre,x,rfl,rfl,hp,?_,⟨?_,?_⟩,(hB.trans r3).drew⟩
     ·rw [hy,hse,hd]
     ·rw [hy,hgo,if_neg (by decide)]
      have:(verCells y).toArray=#[.int .i64 y.w,.int .i64 y.c,.int .i64 s,.int .i64 y.seq,.string y.data,.bool false]:=by simp [verCells,hs,hgo]
      rw [this]
      exact r1
     ·rw [hy,hgo]
      exact r2
    ·rw [hgo] at d5
     gi_wp2_with fail
     obtain ⟨r1,r2,r3,r4⟩:=resW_spec (.int .i64 0) (.int .i64 0) (.int .i64 0) (.int .i64 0) (.string ⟨#[]⟩) (.bool false) (.iface 29 (.int .i64 8)) c1 c2
     generalize hW1:World.setCell _ _ (Value.iface 29 (.int .i64 8))=W1
     replace hW1:resW W w.heap.size (.int .i64 0) (.int .i64 0) (.int .i64 0) (.int .i64 0) (.string ⟨#[]⟩) (.bool false) (.iface 29 (.int .i64 8))=W1:=hW1
     rw [hW1] at r1 r2 r3 r4
     clear hW1
     refine ⟨(r4.trans (KeepsOthers.drew _)).from _,pre,x,rfl,rfl,hp,?_,⟨?_,?_⟩,(hB.trans r3).drew⟩
     ·rw [hy,hse,hd]
     ·rw [hy,hgo,if_pos rfl]
      exact r1
     ·rw [hy,hgo]
      exact r2
 case done=>
  rintro D xs W hD rfl ⟨⟨⟨⟨hp,c0⟩,c1⟩,c2,c3⟩,hB⟩ hK
  have hre:readR a0 a1 a2 a3 S (k:Int)=(verZ,8):=by
   unfold readR
   rw [if_neg (by omega),Int.toNat_natCast,findV,upto_none _ _ hp]
  have HRE:=hidp hre
  have e0:W.cell? ⟨w.heap.size+1,0,none⟩=some (.int .i64 0):=cell_blk c1 0
  have e1:W.cell? ⟨w.heap.size+1,1,none⟩=some (.int .i64 0):=cell_blk c1 1
  have e2:W.cell? ⟨w.heap.size+1,2,none⟩=some (.int .i64 0):=cell_blk c1 2
  have e3:W.cell? ⟨w.heap.size+1,3,none⟩=some (.int .i64 0):=cell_blk c1 3
  have e4:W.cell? ⟨w.heap.size+1,4,none⟩=some (.string ⟨#[]⟩):=cell_blk c1 4
  have e5:W.cell? ⟨w.heap.size+1,5,none⟩=some (.bool false):=cell_blk c1 5
  have e6:W.cell? ⟨w.heap.size+1+1,0,none⟩=some .nilIface:=cell_blk c2 0
  have f0:W.frozen? ⟨w.heap.size+1,0,none⟩=false:=frozen_blk c1 0
  have f1:W.frozen? ⟨w.heap.size+1,1,none⟩=false:=frozen_blk c1 1
  have f2:W.frozen? ⟨w.heap.size+1,2,none⟩=false:=frozen_blk c1 2
  have f3:W.frozen? ⟨w.heap.size+1,3,none⟩=false:=frozen_blk c1 3
  have f4:W.frozen? ⟨w.heap.size+1,4,none⟩=false:=frozen_blk c1 4
  have f5:W.frozen? ⟨w.heap.size+1,5,none⟩=false:=frozen_blk c1 5
  have f6:W.frozen? ⟨w.heap.size+1+1,0,none⟩=false:=frozen_blk c2 0
  clear hre
  have hwD:=hB.size
  gi_wp2_with fail
  obtain ⟨r1,r2,r3,r4⟩:=resW_spec (.int .i64 0) (.int .i64 0) (.int .i64 0) (.int .i64 0) (.string ⟨#[]⟩) (.bool false) (.iface 29 (.int .i64 8)) c1 c2
  generalize hW1:World.setCell _ _ (Value.iface 29 (.int .i64 8))=W1
  replace hW1:resW W w.heap.size (.int .i64 0) (.int .i64 0) (.int .i64 0) (.int .i64 0) (.string ⟨#[]⟩) (.bool false) (.iface 29 (.int .i64 8))=W1:=hW1
  rw [hW1] at r1 r2 r3 r4
  have hK':=r4.same D _ hK rfl
  refine ⟨by simp,.inl ⟨_,_,rfl,run_takeDeferred hK',?_⟩⟩
  have p1:=put_blk (D:=D) (.deferred none) r1 (by omega)
  have p2:=put_blk (D:=D) (.deferred none) r2 (by omega)
  have q0:=cell_blk p1 0
  have q1:=cell_blk p1 1
  have q2:=cell_blk p1 2
  have q3:=cell_blk p1 3
  have q4:=cell_blk p1 4
  have q5:=cell_blk p1 5
  have q6:=cell_blk p2 0
  refine ⟨.tuple #[verV verZ,errV 8],?_,by rw [HRE.out],(hB.trans r3).trans (belowK_b (w:=w) (Nat.le_refl _) W1 D _ _ (by omega) hK' rfl rfl)⟩
  simp [results,Tryz.f92,go_sem,q0,q1,q2,q3,q4,q5,q6]
  exact ⟨rfl,rfl⟩
 case stop=>
  rintro D c' pre W hD ⟨k1,hk1,hpre⟩ ⟨pre0,x,rfl,rfl,hp0,hx,⟨c1,c2⟩,hB⟩ hK
  gi_wp2_with fail
  refine ⟨by simp,.inl ⟨_,_,rfl,run_takeDeferred hK,?_⟩⟩
  obtain ⟨z,hz⟩:∃ z,(if ((S k).getD x default).gone=true then verZ else (S k).getD x default)=z:=⟨_,rfl⟩
  have hwD:=hB.size
  have hre:readR a0 a1 a2 a3 S (k:Int)=(z,if ((S k).getD x default).gone=true then 8 else 0):=by
   have hk1l:bUpto (S k) k1=pre0++[x]:=hpre.symm
   have hl:=bUpto_length (S k) k1
   rw [hk1l] at hl
   simp only [List.length_append,List.length_singleton] at hl
   subst hl
   rw [bUpto_succ] at hk1l
   have e1:=List.append_inj hk1l (by rw [bUpto_length])
   have hx1:(S k).length-1-pre0.length=x:=by simpa using e1.2
   rw [←e1.1] at hp0
   unfold readR findV
   rw [if_neg (by omega),Int.toNat_natCast,upto_find _ _ _ (by omega) hp0 (by rw [hx1];exact hx),hx1,←hz]
   simp only []
   split <;> rfl
  have c2':W.heap[w.heap.size+1+1]?=some (.cells #[errV (if ((S k).getD x default).gone=true then 8 else 0)] 25):=by
   rw [c2];split <;> rfl
  rw [hz] at c1
  have HRE:=hidp hre
  clear hre hx hz
  generalize (if ((S k).getD x default).gone=true then (8:Int) else 0)=er at *
  have p1:=put_blk (D:=D) (.deferred none) c1 (by omega)
  have p2:=put_blk (D:=D) (.deferred none) c2' (by omega)
  have q0:World.cell? _ ⟨_,0,none⟩=some (.int .i64 z.w):=cell_blk p1 0
  have q1:World.cell? _ ⟨_,1,none⟩=some (.int .i64 z.c):=cell_blk p1 1
  have q2:World.cell? _ ⟨_,2,none⟩=some (.int .i64 z.site):=cell_blk p1 2
  have q3:World.cell? _ ⟨_,3,none⟩=some (.int .i64 z.seq):=cell_blk p1 3
  have q4:World.cell? _ ⟨_,4,none⟩=some (.string z.data):=cell_blk p1 4
  have q5:World.cell? _ ⟨_,5,none⟩=some (.bool z.gone):=cell_blk p1 5
  have q6:=cell_blk p2 0
  refine ⟨.tuple #[verV z,errV er],?_,by rw [HRE.out],hB.trans (belowK_b (w:=w) (Nat.le_refl _) W D _ _ (by omega) hK rfl rfl)⟩
  simp [results,Tryz.f92,go_sem,q0,q1,q2,q3,q4,q5,q6]
  rfl
theorem readS_key (g o:Nat) (S:Nat→List VerP) (key a0 a1 a2 a3:Int) (w:World) (hk:key<0∨8≤key):
  Calls Tryz.prog 92 #[.pointer (some ⟨g,o,none⟩),.int .i64 key,.agg #[.int .i64 a0,.int .i64 a1,.int .i64 a2,.int .i64 a3]] w fun e w'=>
   e=.returned (.tuple #[verV (readR a0 a1 a2 a3 S key).1,errV (readR a0 a1 a2 a3 S key).2])∧Below w.heap.size w w':=by
 have hre:readR a0 a1 a2 a3 S key=(verZ,2):=by unfold readR;rw [if_pos (by omega)]
 have HRE:=hidp hre
 clear hre
 by_cases h0:key<0
 ·have d0:decide (key<0)=true:=decide_eq_true h0
  have HK:=hidp hk
  clear h0 hk
  go_enter Tryz.func92,Tryz.ntmps92
  go_wp2_with fail
  have p1:(((w.alloc (.cells #[.int .i64 a0,.int .i64 a1,.int .i64 a2,.int .i64 a3] 32)).alloc (.cells #[.int .i64 0,.int .i64 0,.int .i64 0,.int .i64 0,.string ⟨#[]⟩,.bool false] 59)).alloc (.cells #[.iface 29 (.int .i64 2)] 25)).heap[w.heap.size+1]?=some (.cells #[.int .i64 0,.int .i64 0,.int .i64 0,.int .i64 0,.string ⟨#[]⟩,.bool false] 59):=blk_alloc (blk_new (by simp) _) _
  have p2:(((w.alloc (.cells #[.int .i64 a0,.int .i64 a1,.int .i64 a2,.int .i64 a3] 32)).alloc (.cells #[.int .i64 0,.int .i64 0,.int .i64 0,.int .i64 0,.string ⟨#[]⟩,.bool false] 59)).alloc (.cells #[.iface 29 (.int .i64 2)] 25)).heap[w.heap.size+1+1]?=some (.cells #[.iface 29 (.int .i64 2)] 25):=blk_new (by simp) _
  have q0:=cell_blk p1 0
  have q1:=cell_blk p1 1
  have q2:=cell_blk p1 2
  have q3:=cell_blk p1 3
  have q4:=cell_blk p1 4
  have q5:=cell_blk p1 5
  have q6:=cell_blk p2 0
  refine bodyPost_ret (v:=.tuple #[verV verZ,errV 2]) (by simp only [results,Tryz.f92];simp [go_sem,q0,q1,q2,q3,q4,q5,q6];exact ⟨rfl,rfl⟩) rfl ?_
  exact ⟨by rw [HRE.out],((((Below.refl _ w).alloc (Nat.le_refl _) _).alloc (by simp) _).alloc (by simp;omega) _)⟩
 ·have d0:decide (key<0)=false:=decide_eq_false h0
  have d1:decide (8≤key)=true:=decide_eq_true (by omega)
  clear h0 hk
  go_enter Tryz.func92,Tryz.ntmps92
  go_wp2_with fail
  have p1:(((w.alloc (.cells #[.int .i64 a0,.int .i64 a1,.int .i64 a2,.int .i64 a3] 32)).alloc (.cells #[.int .i64 0,.int .i64 0,.int .i64 0,.int .i64 0,.string ⟨#[]⟩,.bool false] 59)).alloc (.cells #[.iface 29 (.int .i64 2)] 25)).heap[w.heap.size+1]?=some (.cells #[.int .i64 0,.int .i64 0,.int .i64 0,.int .i64 0,.string ⟨#[]⟩,.bool false] 59):=blk_alloc (blk_new (by simp) _) _
  have p2:(((w.alloc (.cells #[.int .i64 a0,.int .i64 a1,.int .i64 a2,.int .i64 a3] 32)).alloc (.cells #[.int .i64 0,.int .i64 0,.int .i64 0,.int .i64 0,.string ⟨#[]⟩,.bool false] 59)).alloc (.cells #[.iface 29 (.int .i64 2)] 25)).heap[w.heap.size+1+1]?=some (.cells #[.iface 29 (.int .i64 2)] 25):=blk_new (by simp) _
  have q0:=cell_blk p1 0
  have q1:=cell_blk p1 1
  have q2:=cell_blk p1 2
  have q3:=cell_blk p1 3
  have q4:=cell_blk p1 4
  have q5:=cell_blk p1 5
  have q6:=cell_blk p2 0
  refine bodyPost_ret (v:=.tuple #[verV verZ,errV 2]) (by simp only [results,Tryz.f92];simp [go_sem,q0,q1,q2,q3,q4,q5,q6];exact ⟨rfl,rfl⟩) rfl ?_
  exact ⟨by rw [HRE.out],((((Below.refl _ w).alloc (Nat.le_refl _) _).alloc (by simp) _).alloc (by simp;omega) _)⟩
theorem readS_any (g o B:Nat) (S:Nat→List VerP) (sv:Nat→Value) (key a0 a1 a2 a3:Int) (w:World) (hst:StAt w g o B S sv) (hok:∀ k,k<8→∀ x∈S k,0≤x.site∧x.site<4) (hlen:∀ k,k<8→(S k).length≤900000):
  Calls Tryz.prog 92 #[.pointer (some ⟨g,o,none⟩),.int .i64 key,.agg #[.int .i64 a0,.int .i64 a1,.int .i64 a2,.int .i64 a3]] w fun e w'=>
   e=.returned (.tuple #[verV (readR a0 a1 a2 a3 S key).1,errV (readR a0 a1 a2 a3 S key).2])∧Below w.heap.size w w':=by
 by_cases hk:key<0∨8≤key
 ·exact readS_key g o S key a0 a1 a2 a3 w hk
 ·obtain ⟨k,rfl⟩:∃ k:Nat,key=k:=⟨key.toNat,by omega⟩
  exact callsIn_wide.1 (readS_in g o B k S sv a0 a1 a2 a3 w hst (by omega) (hok k (by omega)) (hlen k (by omega)))
end Go.Proofs.YtbopfhbeegkkaabGreatDoor
