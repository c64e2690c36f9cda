/- Part 1 of a proof: lemmas and contracts that other parts use. -/
import Derived.WalkKit
import Derived.WalkSpells
import Derived.WalkLawsBesides
import Derived.BigQuiet
import Derived.StillTailTactics
import Derived.Deep.RegionWith
import Derived.Test.YtbopfhbeegkkaabGreatDoorRows
set_option linter.unusedVariables false
set_option linter.unusedSimpArgs false
set_option linter.constructorNameAsVariable false
namespace Go.Proofs.YtbopfhbeegkkaabGreatDoor
open Go.RowKit
theorem hidp {p:Prop} (h:p):Hid p:=h
structure Tail where
 blocks:Array Obj
 drawn:Nat
instance : Inhabited Tail := ⟨⟨#[], 0⟩⟩
def wplus (w:World) (x:Tail):World:={ w with heap:=w.heap++x.blocks,drawn:=x.drawn }
class SzGe (n:Nat) (w:World):Prop where
 out:n≤w.heap.size
instance SzGe.self (w : World) : SzGe w.heap.size w := ⟨Nat.le_refl _⟩
instance SzGe.alloc_new (n : Nat) (w : World) (o : Obj) [h : SzGe n w] : SzGe (n + 1) (w.alloc o) := ⟨by simpa using h.out⟩
instance SzGe.alloc (n : Nat) (w : World) (o : Obj) [h : SzGe n w] : SzGe n (w.alloc o) := ⟨by have := h.out; simp; omega⟩
instance SzGe.setCell (n : Nat) (w : World) (a : Addr) (v : Value) [h : SzGe n w] : SzGe n (w.setCell a v) := ⟨by simpa using h.out⟩
instance SzGe.drew (n : Nat) (w : World) [h : SzGe n w] : SzGe n w.drew := ⟨h.out⟩
instance SzGe.drewN (n k : Nat) (w : World) [h : SzGe n w] : SzGe n (w.drewN k) := ⟨h.out⟩
instance SzGe.plus (n : Nat) (w : World) (x : Tail) [h : SzGe n w] : SzGe n (wplus w x) := ⟨by have := h.out; simp [wplus]; omega⟩
instance SzGe.plus_self (n : Nat) (w : World) (x : Tail) [h : SzGe n w] : SzGe (n + x.blocks.size) (wplus w x) := ⟨by have := h.out; simp [wplus]; omega⟩
theorem wplus_heap_lt (w:World) (x:Tail) (k:Nat) (h:k<w.heap.size):(wplus w x).heap[k]?=w.heap[k]?:=by
 simp only [wplus];rw [Array.getElem?_append_left h]
section
variable (w:World) (x y:Tail) (b o:Nat) (s:Option Nat) [h:SzGe (b+1) w]
@[simp, go_sem] theorem wplus_size : (wplus w x).heap.size = w.heap.size + x.blocks.size := by simp [wplus]
@[simp, go_sem] theorem wplus_tape : (wplus w x).tape = w.tape := rfl
@[simp, go_sem] theorem wplus_heap : (wplus w x).heap[b]? = w.heap[b]? := wplus_heap_lt w x b h.out
@[simp, go_sem] theorem wplus_cell : (wplus w x).cell? ⟨b, o, s⟩ = w.cell? ⟨b, o, s⟩ :=
  World.cell?_of_block (w:=w) (wplus_heap_lt w x b h.out)
@[simp, go_sem] theorem wplus_frozen : (wplus w x).frozen? ⟨b, o, s⟩ = w.frozen? ⟨b, o, s⟩ :=
  World.frozen?_of_block (w:=w) (wplus_heap_lt w x b h.out)
@[go_sem] theorem alloc_cell (ob : Obj) : (w.alloc ob).cell? ⟨b, o, s⟩ = w.cell? ⟨b, o, s⟩ := World.cell?_alloc_lt w ob ⟨b, o, s⟩ h.out
@[go_sem] theorem alloc_frozen (ob : Obj) : (w.alloc ob).frozen? ⟨b, o, s⟩ = w.frozen? ⟨b, o, s⟩ :=
  World.frozen?_alloc_old w ob ⟨b,o,s⟩ (Nat.ne_of_lt h.out)
@[go_sem] theorem alloc_setCell (ob : Obj) (v : Value) : (w.alloc ob).setCell ⟨b, o, none⟩ v = (w.setCell ⟨b, o, none⟩ v).alloc ob := World.setCell_alloc_past ob b o v h.out
@[simp, go_sem] theorem wplus_shape : (wplus w x).shape? b = w.shape? b := by
  unfold World.shape?;rw [wplus_heap_lt w x b h.out]
@[simp, go_sem] theorem setCell_wplus (v : Value) : (wplus w x).setCell ⟨b, o, s⟩ v = wplus (w.setCell ⟨b, o, s⟩ v) x := by
  have hb:b<w.heap.size:=h.out
  simp only [World.setCell,wplus,World.mk.injEq,and_self,and_true]
  apply Array.ext_getElem?
  intro i
  rw [Array.getElem?_modify,Array.getElem?_append,Array.getElem?_append,Array.size_modify,Array.getElem?_modify]
  by_cases hi:i<w.heap.size
  ·simp only [hi,if_true]
  ·simp only [hi,if_false]
   rw [if_neg (by omega)]
theorem wplus_wplus:wplus (wplus w x) y=wplus w ⟨x.blocks++y.blocks,y.drawn⟩:=by
 simp [wplus,Array.append_assoc]
end
theorem below_wplus (w:World) (x:Tail):Below w.heap.size w (wplus w x):=
 ⟨rfl,rfl,rfl,by simp,fun k h=>wplus_heap_lt w x k h⟩
theorem blw_alloc {B:Nat} {w W:World} {o:Obj} [hs:SzGe B W] (h:Below B w W):Below B w (W.alloc o):=h.alloc hs.out o
theorem blw_plus {B:Nat} {w W:World} {x:Tail} [hs:SzGe B W] (h:Below B w W):Below B w (wplus W x):=
 h.trans ((below_wplus W x).mono hs.out)
theorem wplus_of_below {w w':World} (h:Below w.heap.size w w'):∃ x,w'=wplus w x:=by
 refine ⟨⟨w'.heap.extract w.heap.size w'.heap.size,w'.drawn⟩,?_⟩
 obtain ⟨h1,h2,h3,h4,h5⟩:=h
 cases w with | mk hp tp dr os out=>
 cases w' with | mk hp' tp' dr' os' out'=>
 simp only at h1 h2 h3 h4 h5
 subst h1 h2 h3
 simp only [wplus,World.mk.injEq,and_self,and_true]
 apply Array.ext_getElem?
 intro i
 by_cases hi:i<hp.size
 ·rw [h5 i hi,Array.getElem?_append_left hi]
 ·rw [Array.getElem?_append_right (by omega),Array.getElem?_extract]
  by_cases hj:i<hp'.size
  ·rw [if_pos (by omega)];congr 1;omega
  ·rw [if_neg (by omega),Array.getElem?_eq_none (by omega)]
@[go_sem] def eqCells (d : Nat) (e : TypeId) (n : Nat) (xs ys : Array Value) : List Nat → Sem Bool
  | []=>pure true
  | i::is=>do
    let a ←part e xs (i*n)
    let b ←part e ys (i*n)
    let r ←Op.equalIn d e a b
    if (!r)=true then pure false else eqCells d e n xs ys is
section
variable {P:Program} (w:World)
theorem run_equalIn_array (d:Nat) (t e:TypeId) (len n:Nat) (xs ys:Array Value) (ht:P.underlying t=some (.array len e)) (hs:∀ w,(sizeOf e).run P w=.ok n w):
  (Op.equalIn (d+1) t (.agg xs) (.agg ys)).run P w=(eqCells d e n xs ys (List.range' 0 len)).run P w:=by
 simp only [Op.equalIn,Sem.run_bind,run_underlying ht,Result.andThen_ok,hs]
 rw [Std.Legacy.Range.forIn_eq_forIn_range']
 simp only [Std.Legacy.Range.size,Nat.sub_zero,Nat.add_sub_cancel,Nat.div_one]
 generalize List.range' 0 len=is
 clear ht
 induction is generalizing w with
 | nil=>simp [eqCells]
 | cons f fs ih=>
   simp only [List.forIn_cons,eqCells,Sem.run_bind,Sem.run_ite]
   generalize (part e xs (f*n)).run P w=r1
   cases r1 with
   | ok a w1=>
     simp only [Result.andThen_ok]
     generalize (part e ys (f*n)).run P w1=r2
     cases r2 with
     | ok b w2=>
       simp only [Result.andThen_ok]
       generalize (Op.equalIn d e a b).run P w2=r3
       cases r3 with
       | ok r w3=>
         cases r
         ·simp only [Result.andThen_ok,Bool.not_false,if_true,Sem.run_pure]
         ·simp only [Result.andThen_ok,Bool.not_true,Bool.false_eq_true,if_false,Sem.run_pure]
          exact ih w3
       | halt x w3=>simp [Result.andThen]
     | halt x w2=>simp [Result.andThen]
   | halt x w1=>simp [Result.andThen]
theorem run_equalIn_four (d:Nat) (t e:TypeId) (k:IntKind) (a0 a1 a2 a3 b0 b1 b2 b3:Int) (ht:P.underlying t=some (.array 4 e)) (hs:∀ w,(sizeOf e).run P w=.ok 1 w) (he:P.underlying e=some (.int k)):
  (Op.equalIn (d+2) t (.agg #[.int k a0,.int k a1,.int k a2,.int k a3]) (.agg #[.int k b0,.int k b1,.int k b2,.int k b3])).run P w=.ok (a0==b0&&a1==b1&&a2==b2&&a3==b3) w:=by
 rw [run_equalIn_array w (d+1) t e 4 1 _ _ ht hs,show List.range' 0 4=[0,1,2,3] from rfl]
 simp [eqCells,part,isAgg,run_underlying he,run_equalIn_int w d e k k _ _ he]
 by_cases h0:a0=b0 <;> by_cases h1:a1=b1 <;> by_cases h2:a2=b2 <;> by_cases h3:a3=b3 <;> simp [h0,h1,h2,h3,eqCells,part,isAgg,run_underlying he,run_equalIn_int _ d e k k _ _ he]
end
section
variable {P:Program}
theorem wp_region_plus {id:Nat} {Q:Exit→Act→World→Prop} {a:Act} {w:World} {l:List Oper} (hm:P.follows .mixedOrders=true) (hB:Region.lexB .any l.toArray=true)
  (h:wpQuiet P l.toArray (fun w'=>∃ x,w'=wplus w x) (fun a'=>∀ w',(∃ x,w'=wplus w x)→Q .normal a' w') l a):(Code.region id l.toArray true).wp P Q a w:=
 wp_region_quiet (C:=fun w'=>∃ x,w'=wplus w x) hm hB ⟨⟨#[],w.drawn+1⟩,by simp [wplus]⟩ (by simpa using h)
theorem Calls.plus_of {f:FuncId} {args:Array Value} {w:World} {x:Tail} {v:Value}
  (h:Calls P f args (wplus w x) fun e w'=>e=.returned v∧Below (wplus w x).heap.size (wplus w x) w'):Calls P f args (wplus w x) fun e w''=>e=.returned v∧∃ y,w''=wplus w y:=
 h.mono fun _ _ ⟨he,hm⟩=>⟨he,by obtain ⟨y,rfl⟩:=wplus_of_below hm;exact ⟨_,wplus_wplus _ _ _⟩⟩
theorem Calls.plus_same {f:FuncId} {args:Array Value} {w:World} {x:Tail} {v:Value}
  (h:Calls P f args (wplus w x) fun e w'=>e=.returned v∧wplus w x=w'):Calls P f args (wplus w x) fun e w''=>e=.returned v∧∃ y,w''=wplus w y:=
 h.mono fun _ _ ⟨he,hm⟩=>⟨he,⟨_,hm.symm⟩⟩
def wpHd (P:Program) (md:Region.Mode) (ops:Array Oper) (C:World→Prop) (n:Nat) (L:Array Bool→Act→Prop):Nat→Array Bool→Act→Prop
 | 0,listed,a=>L listed a
 | f+1,listed,a=>
   Region.ready md ops listed≠[]∧∀ i∈Region.ready md ops listed,i<n∧qOp P ops C i (wpHd P md ops C n L f (listed.setIfInBounds i true)) a
theorem wpAny_of_hd {md:Region.Mode} {ops:Array Oper} {C:World→Prop} {n g:Nat} {L:Array Bool→Act→Prop} {Q':Exit→Act→World→Prop}
  (hL:∀ listed a w,C w→L listed a→wpAny P md ops Q' g listed a w):
  ∀ (f:Nat) (listed:Array Bool) (a:Act) (w:World),C w→wpHd P md ops C n L f listed a→wpAny P md ops Q' (f+g) listed a w
 | 0,listed,a,w,hw,h=>by rw [Nat.zero_add];exact hL _ _ _ hw h
 | f+1,listed,a,w,hw,h=>by
   rw [show f+1+g=(f+g)+1 by omega]
   exact ⟨fun h0=>absurd h0 h.1,fun i hi=>wpOp_of_qOp hw (fun a' w' hw' h'=>wpAny_of_hd hL f _ a' w' hw' h') (h.2 i hi).2⟩
theorem wpHd_first {md:Region.Mode} {ops:Array Oper} {C:World→Prop} {n i:Nat} {oi:Oper} {v:Value} {L:Array Bool→Act→Prop} (hi:ops[i]?=some oi)
  (hsel:∀ (j:Nat) (o:Oper) cs b,ops[j]?=some o→o.op≠.select cs b)
  (hs:Region.sinkB md ops n=true) (hc:Region.chainB md ops n=true) (hn:n<ops.size) (hin:i<n)
  (hdone:∀ listed a,L listed a→∀ j∈Region.ready md ops listed,n≤j):
  ∀ (f:Nat) (listed:Array Bool) (a:Act),HeadInv md ops n listed→
    (∀ j oj,ops[j]?=some oj→j≠i→listed.getD j true=false→(∀ e∈oj.after,Region.binds md e=true→e.on≠i)→oi.apart ops oj=true)→
    i∈Region.ready md ops listed→YieldsIn P ops C oi v a→
    wpHd P md ops C n L f (listed.setIfInBounds i true) (a.put oi.dst v)→wpHd P md ops C n L (f+1) listed a:=by
 have early:∀ listed,HeadInv md ops n listed→listed.getD i true=false→∀ j∈Region.ready md ops listed,j<n:=fun listed inv hun j hj=>by
  rcases Nat.lt_or_ge j n with h | h
  ·exact h
  ·exact absurd hj (tail_waits hs hc hn inv _ i rfl hin hun j h)
 intro f
 induction f with
 | zero=>
   intro listed a inv _ hr hy H
   refine ⟨fun h=>(by rw [h] at hr;cases hr),fun j hj=>?_⟩
   have hjn:=early listed inv (mem_ready.1 hr).1 j hj
   refine ⟨hjn,?_⟩
   by_cases hji:j=i
   ·subst hji;exact hy.qOp hi H
   ·have:=hdone _ _ H j (ready_mono hj hji)
    omega
 | succ f ih=>
   intro listed a inv hfree hr hy H
   refine ⟨fun h=>(by rw [h] at hr;cases hr),fun j hj=>?_⟩
   have hjn:=early listed inv (mem_ready.1 hr).1 j hj
   refine ⟨hjn,?_⟩
   by_cases hji:j=i
   ·subst hji;exact hy.qOp hi H
   ·have h1:=(H.2 j (ready_mono hj hji)).2
    obtain ⟨hjun,oj,hoj,hall⟩:=mem_ready.1 hj
    have hnot:∀ e∈oj.after,Region.binds md e=true→e.on≠i:=fun e he hb heq=>by
     have h2:=hall e he hb
     rw [heq,getD_both (mem_ready.1 hr).1] at h2
     cases h2
    have h2:=qOp_put hoj (hfree j oj hoj hji hjun hnot) (fun cs b=>hsel i oi cs b hi) (fun cs b=>hsel j oj cs b hoj) hy h1
    refine qOp_mono (fun a' h3=>ih (listed.setIfInBounds j true) a' (inv.set hj hjn) (fun k ok hk hki hun hno=>hfree k ok hk hki ?_ hno) (ready_mono hr (Ne.symm hji)) h3.1 ?_) h2
    ·by_cases hjk:j=k
     ·subst hjk;exact hjun
     ·rw [getD_set_ne true hjk] at hun;exact hun
    ·rw [Array.setIfInBounds_comm _ _ hji]
     exact h3.2
theorem wpHd_lex {md:Region.Mode} {ops:Array Oper} {C:World→Prop} {n g:Nat} {Lq:Act→Prop} (hsel:Region.noSelect ops=true) (hs:Region.sinkB md ops n=true) (hc:Region.chainB md ops n=true) (hn:n<ops.size):
  ∀ (l:List Oper) (k:Nat) (listed:Array Bool) (a:Act),(∀ j,j<l.length→l[j]?=ops[k+j]?)→k+l.length=n→HeadInv md ops n listed→
  Region.lexHead md ops g l.length k listed=true→wpQuiet P ops C Lq l a→
  wpHd P md ops C n (fun listed' a'=>Region.seqB md ops g n listed'=true∧Lq a') l.length listed a
 | [],k,listed,a,_,hk,_,hB,h=>by
   have:k=n:=by simpa using hk
   subst this
   exact ⟨by simpa [Region.lexHead] using hB,h⟩
 | o::l,k,listed,a,hl,hk,inv,hB,h=>by
   have h0:ops[k]?=some o:=by simpa using (hl 0 (by simp)).symm
   simp only [List.length_cons,Region.lexHead,Bool.and_eq_true] at hB
   obtain ⟨⟨hr,hf⟩,hB'⟩:=hB
   have hkn:k<n:=by simp only [List.length_cons] at hk;omega
   have hr':k∈Region.ready md ops listed:=by simpa using hr
   have hst:qOp P ops C k (wpQuiet P ops C Lq l) a:=by unfold qOp;simp only [h0];exact h
   obtain ⟨v,hy,hK⟩:=yieldsIn_of_qOp h0 hst
   exact wpHd_first h0 (Region.noSelect_spec hsel) hs hc hn hkn (fun listed' a' hL=>seqB_ready hL.1) l.length listed a inv (Region.free_spec h0 hf) hr' hy
    (wpHd_lex hsel hs hc hn l (k+1) _ _ (fun j hj=>by have:=hl (j+1) (by simp;omega);simpa [Nat.add_assoc,Nat.add_comm 1 j] using this) (by simp only [List.length_cons] at hk;omega) (inv.set hr' hkn) hB' hK)
theorem wp_region_plus_tail {id:Nat} {Q:Exit→Act→World→Prop} {a:Act} {w:World} {l:List Oper} (n:Nat) (hm:P.follows .mixedOrders=true) (hB:Region.lexTailB .any l.toArray n=true)
  (h:wpQuiet P l.toArray (fun w'=>∃ x,w'=wplus w x) (fun a'=>∀ w',(∃ x,w'=wplus w x)→wpList P l.toArray Q (l.drop n) a' w') (l.take n) a):(Code.region id l.toArray true).wp P Q a w:=by
 simp only [Region.lexTailB,Bool.and_eq_true,decide_eq_true_eq] at hB
 obtain ⟨⟨⟨⟨hsel,hn⟩,hs⟩,hc⟩,hlex⟩:=hB
 have hn':n<l.length:=by simpa using hn
 have htl:(l.take n).length=n:=by simp;omega
 have hdl:(l.drop n).length=l.toArray.size-n:=by simp
 have inv0:HeadInv .any l.toArray n (Array.replicate l.toArray.size false):=
  ⟨by simp,fun j oj _ hl=>(by rw [getD_replicate_false] at hl;cases hl),fun t _ ht=>getD_in (by simpa using ht) (getD_replicate_false _ _)⟩
 have H:=wpHd_lex (md:=.any) (g:=l.toArray.size-n) hsel hs hc hn (l.take n) 0 _ a (fun j hj=>by
  have hj':j<n:=by rw [htl] at hj;exact hj
  simp [hj']) (by simpa using htl) inv0 (by rw [htl];exact hlex) h
 refine wp_region_any hm ?_
 have:=wpAny_of_hd (Q':=Q) (g:=l.toArray.size-n) (fun listed a' w' hw' hL=>by
  have:=wpAny_of_seq (md:=.any) (Q':=Q) (l.drop n) n listed a' w' (fun j=>by simp [List.getElem?_drop]) (by rw [hdl];exact hL.1) (hL.2 w' hw')
  rwa [hdl] at this) _ _ _ { w with drawn:=w.drawn+1 } ⟨⟨#[],w.drawn+1⟩,by simp [wplus]⟩ H
 rw [htl,show n+(l.toArray.size-n)=l.toArray.size by omega] at this
 exact this
end
theorem zB {B:Nat} {w W:World} (h:Below B w W:=by repeat (first | exact Below.refl _ _ | refine blw_alloc ?_ | refine blw_plus ?_ | refine Below.drew ?_)):Below B w W:=h
theorem zC {α:Type _} {l:List α} {i:Nat}:l.toArray[i]?=l[i]?:=List.getElem?_toArray
theorem zD {α:Type _} {a:α} {l:List α}:(a::l)[0]?=some a:=List.getElem?_cons_zero
theorem zE {α:Type _} {a:α} {l:List α} {i:Nat}:(a::l)[i+1]?=l[i]?:=List.getElem?_cons_succ
theorem zF {α:Type _} {l:List α} {i:Nat} {a:α}:l.toArray.setIfInBounds i a=(l.set i a).toArray:=List.setIfInBounds_toArray ..
theorem zG {α:Type _} {x a:α} {l:List α}:(x::l).set 0 a=a::l:=List.set_cons_zero
theorem zH {α:Type _} {x a:α} {l:List α} {i:Nat}:(x::l).set (i+1) a=x::l.set i a:=List.set_cons_succ
def cmpI (x y:Int):Int:=if x<y then -1 else if y<x then 1 else 0
def orI (x y:Int):Int:=if x=0 then y else x
def cmpS (aw ac bw bc:Int):Int:=orI (cmpI aw bw) (cmpI ac bc)
def rightS (w c:Int):Bool:=decide (0≤w)&&decide (w≤1099511627776)&&decide (0≤c)&&decide (c≤1099511627776)
theorem cmpI_lt {x y:Int} (h:x<y):cmpI x y=-1:=by simp [cmpI,h]
theorem cmpI_gt {x y:Int} (h:y<x):cmpI x y=1:=by unfold cmpI;rw [if_neg (by omega),if_pos h]
theorem cmpI_eq {x y:Int} (h:¬x<y) (h':¬y<x):cmpI x y=0:=by simp [cmpI,h,h']
set_option maxHeartbeats 400000 in
theorem nan_any (x:Int) (w:World):Calls Tryz.prog 189 #[.int .i64 x] w fun e w'=>e=.returned (.bool false)∧w=w':=by
 go_enter Tryz.func189,Tryz.ntmps189
 go_wp2
 go_ret
 exact ⟨by simp,rfl⟩
set_option maxHeartbeats 400000 in
theorem cmp_any (x y:Int) (w:World):Calls Tryz.prog 153 #[.int .i64 x,.int .i64 y] w fun e w'=>e=.returned (.int .i64 (cmpI x y))∧w=w':=by
 by_cases h:x<y
 ·rw [cmpI_lt h]
  go_enter Tryz.func153,Tryz.ntmps153
  go_wp2_with (go_at_call 189;refine (nan_any _ _).mono ?_;rintro e w' ⟨rfl,rfl⟩)
  go_ret
  exact ⟨rfl,rfl⟩
 by_cases h':y<x
 ·rw [cmpI_gt h']
  go_enter Tryz.func153,Tryz.ntmps153
  go_wp2_with (go_at_call 189;refine (nan_any _ _).mono ?_;rintro e w' ⟨rfl,rfl⟩)
  go_ret
  exact ⟨rfl,rfl⟩
 ·rw [cmpI_eq h h']
  go_enter Tryz.func153,Tryz.ntmps153
  go_wp2_with (go_at_call 189;refine (nan_any _ _).mono ?_;rintro e w' ⟨rfl,rfl⟩)
  go_ret
  exact ⟨rfl,rfl⟩
set_option maxHeartbeats 400000 in
theorem or_any (x y:Int) (b c:Nat) (w:World) (h0:w.cell? ⟨b,0,none⟩=some (.int .i64 x)) (h1:w.cell? ⟨b,1,none⟩=some (.int .i64 y)):
  Calls Tryz.prog 152 #[.slice (some ⟨b,0,none⟩) 2 c] w fun e w'=>e=.returned (.int .i64 (orI x y))∧w=w':=by
 by_cases hx:x=0
 ·have e1:orI x y=y:=by simp [orI,hx]
  rw [e1]
  clear e1
  subst hx
  by_cases hy:y=0
  ·subst hy
   go_enter Tryz.func152,Tryz.ntmps152
   go_wp2
   refine wp_loop_rounds 3 ?_
   rw [rounds_succ];go_wp2
   rw [rounds_succ];go_wp2
   rw [rounds_succ];go_wp2
   go_ret
   exact ⟨rfl,rfl⟩
  ·have hyb:(y != 0)=true:=by simp [hy]
   go_enter Tryz.func152,Tryz.ntmps152
   go_wp2
   refine wp_loop_rounds 3 ?_
   rw [rounds_succ];go_wp2
   rw [rounds_succ];go_wp2
   go_ret
   exact ⟨rfl,rfl⟩
 ·have e1:orI x y=x:=by simp [orI,hx]
  rw [e1]
  clear e1
  have hxb:(x != 0)=true:=by simp [hx]
  go_enter Tryz.func152,Tryz.ntmps152
  go_wp2
  refine wp_loop_rounds 3 ?_
  rw [rounds_succ];go_wp2
  go_ret
  exact ⟨rfl,rfl⟩
set_option maxHeartbeats 400000 in
theorem compare_any (aw ac bw bc:Int) (w:World):Calls Tryz.prog 114 #[.agg #[.int .i64 aw,.int .i64 ac],.agg #[.int .i64 bw,.int .i64 bc]] w fun e w'=>e=.returned (.int .i64 (cmpS aw ac bw bc))∧Below w.heap.size w w':=by
 go_enter Tryz.func114,Tryz.ntmps114
 go_wp2
 refine wp_region_plus_tail 10 (by kernel_rfl) (by kernel_rfl) ?_
 simp only [List.take_succ_cons,List.take_zero,List.drop_succ_cons,List.drop_zero]
 repeat (first | go_big_quiet_skip | (go_big_quiet_want;go_big_quiet_op;first | go_big_quiet_on | (apply Exists.intro;refine ⟨fun _=>?_,?_⟩;(first | (go_at_call 153;exact Calls.plus_same (cmp_any _ _ _)));go_big_quiet_on)))
 refine wpQuiet_nil ?_
 rintro _ ⟨x,rfl⟩
 go_wp2_with fail
 refine (or_any (cmpI aw bw) (cmpI ac bc) _ _ _ ?_ ?_).mono ?_
 ·simp [go_sem]
 ·simp [go_sem]
 rintro e w' ⟨rfl,rfl⟩
 go_wp2
 go_ret
 exact ⟨rfl,zB⟩
set_option maxHeartbeats 800000 in
theorem rightS_any (aw ac:Int) (w:World):Calls Tryz.prog 135 #[.agg #[.int .i64 aw,.int .i64 ac]] w fun e w'=>e=.returned (.bool (rightS aw ac))∧Below w.heap.size w w':=by
 by_cases ha:aw<0
 ·have e1:rightS aw ac=false:=by simp [rightS];omega
  rw [e1]
  clear e1
  go_enter Tryz.func135,Tryz.ntmps135
  go_wp2
  go_ret
  exact ⟨by first | rfl | (simp;omega),zB⟩
 by_cases hb:1099511627776<aw
 ·have e1:rightS aw ac=false:=by simp [rightS];omega
  rw [e1]
  clear e1
  go_enter Tryz.func135,Tryz.ntmps135
  go_wp2
  go_ret
  exact ⟨by first | rfl | (simp;omega),zB⟩
 by_cases hc:ac<0
 ·have e1:rightS aw ac=false:=by simp [rightS];omega
  rw [e1]
  clear e1
  go_enter Tryz.func135,Tryz.ntmps135
  go_wp2
  go_ret
  exact ⟨by first | rfl | (simp;omega),zB⟩
 by_cases hd:1099511627776<ac
 ·have e1:rightS aw ac=false:=by simp [rightS];omega
  rw [e1]
  clear e1
  go_enter Tryz.func135,Tryz.ntmps135
  go_wp2
  go_ret
  exact ⟨by first | rfl | (simp;omega),zB⟩
 have e1:rightS aw ac=true:=by simp [rightS];omega
 rw [e1]
 clear e1
 go_enter Tryz.func135,Tryz.ntmps135
 go_wp2
 go_ret
 exact ⟨by first | rfl | (simp;omega),zB⟩
set_option maxHeartbeats 400000 in
theorem later_any (aw ac bw bc:Int) (w:World):Calls Tryz.prog 137 #[.agg #[.int .i64 aw,.int .i64 ac],.agg #[.int .i64 bw,.int .i64 bc]] w fun e w'=>e=.returned (if cmpS aw ac bw bc<0 then .agg #[.int .i64 bw,.int .i64 bc] else .agg #[.int .i64 aw,.int .i64 ac])∧Below w.heap.size w w':=by
 generalize hg:cmpS aw ac bw bc=g
 have hc:=fun w=>compare_any aw ac bw bc w
 rw [hg] at hc
 have HC:=hidp hc
 clear hc hg
 by_cases h:g<0
 ·rw [if_pos h]
  go_enter Tryz.func137,Tryz.ntmps137
  go_wp2_with (go_at_call 114;refine (HC.out _).mono ?_;rintro e w' ⟨rfl,hb⟩;obtain ⟨x,rfl⟩:=wplus_of_below hb;clear hb)
  exact bodyPost_ret (v:=.agg #[.int .i64 bw,.int .i64 bc]) (by simp [results,Tryz.results137,go_sem]) rfl ⟨rfl,zB⟩
 ·rw [if_neg h]
  go_enter Tryz.func137,Tryz.ntmps137
  go_wp2_with (go_at_call 114;refine (HC.out _).mono ?_;rintro e w' ⟨rfl,hb⟩;obtain ⟨x,rfl⟩:=wplus_of_below hb;clear hb)
  exact bodyPost_ret (v:=.agg #[.int .i64 aw,.int .i64 ac]) (by simp [results,Tryz.results137,go_sem]) rfl ⟨rfl,zB⟩
set_option maxHeartbeats 800000 in
theorem next_r1 (aw ac now:Int) (w:World) (hr:rightS aw ac=false):
  Calls Tryz.prog 78 #[.agg #[.int .i64 aw,.int .i64 ac],.int .i64 now] w fun e w'=>e=.returned (.tuple #[.agg #[.int .i64 0,.int .i64 0],.iface 29 (.int .i64 2)])∧Below w.heap.size w w':=by
 go_enter Tryz.func78,Tryz.ntmps78
 go_wp2_with (go_at_call 135;refine (rightS_any _ _ _).mono ?_;rintro e w' ⟨rfl,hb⟩;obtain ⟨x,rfl⟩:=wplus_of_below hb;clear hb)
 exact bodyPost_ret (v:=.tuple #[.agg #[.int .i64 0,.int .i64 0],.iface 29 (.int .i64 2)]) (by simp [results,Tryz.results78,go_sem]) rfl ⟨rfl,zB⟩
set_option maxHeartbeats 800000 in
theorem next_r2 (aw ac now:Int) (w:World) (hr:rightS aw ac=true) (h:now<0):
  Calls Tryz.prog 78 #[.agg #[.int .i64 aw,.int .i64 ac],.int .i64 now] w fun e w'=>e=.returned (.tuple #[.agg #[.int .i64 0,.int .i64 0],.iface 29 (.int .i64 2)])∧Below w.heap.size w w':=by
 go_enter Tryz.func78,Tryz.ntmps78
 go_wp2_with (go_at_call 135;refine (rightS_any _ _ _).mono ?_;rintro e w' ⟨rfl,hb⟩;obtain ⟨x,rfl⟩:=wplus_of_below hb;clear hb)
 exact bodyPost_ret (v:=.tuple #[.agg #[.int .i64 0,.int .i64 0],.iface 29 (.int .i64 2)]) (by simp [results,Tryz.results78,go_sem]) rfl ⟨rfl,zB⟩
set_option maxHeartbeats 800000 in
theorem next_r3 (aw ac now:Int) (w:World) (hr:rightS aw ac=true) (h0:0≤now) (h:1099511627776<now):
  Calls Tryz.prog 78 #[.agg #[.int .i64 aw,.int .i64 ac],.int .i64 now] w fun e w'=>e=.returned (.tuple #[.agg #[.int .i64 0,.int .i64 0],.iface 29 (.int .i64 2)])∧Below w.heap.size w w':=by
 go_enter Tryz.func78,Tryz.ntmps78
 go_wp2_with (go_at_call 135;refine (rightS_any _ _ _).mono ?_;rintro e w' ⟨rfl,hb⟩;obtain ⟨x,rfl⟩:=wplus_of_below hb;clear hb)
 exact bodyPost_ret (v:=.tuple #[.agg #[.int .i64 0,.int .i64 0],.iface 29 (.int .i64 2)]) (by simp [results,Tryz.results78,go_sem]) rfl ⟨rfl,zB⟩
set_option maxHeartbeats 800000 in
theorem next_new (aw ac now:Int) (w:World) (hr:rightS aw ac=true) (h0:0≤now) (h1:now≤1099511627776) (h:aw<now):
  Calls Tryz.prog 78 #[.agg #[.int .i64 aw,.int .i64 ac],.int .i64 now] w fun e w'=>e=.returned (.tuple #[.agg #[.int .i64 now,.int .i64 0],.nilIface])∧Below w.heap.size w w':=by
 go_enter Tryz.func78,Tryz.ntmps78
 go_wp2_with (go_at_call 135;refine (rightS_any _ _ _).mono ?_;rintro e w' ⟨rfl,hb⟩;obtain ⟨x,rfl⟩:=wplus_of_below hb;clear hb)
 exact bodyPost_ret (v:=.tuple #[.agg #[.int .i64 now,.int .i64 0],.nilIface]) (by simp [results,Tryz.results78,go_sem]) rfl ⟨rfl,zB⟩
set_option maxHeartbeats 800000 in
theorem next_full (aw ac now:Int) (w:World) (hr:rightS aw ac=true) (h0:0≤now) (h1:now≤1099511627776) (h:now≤aw) (hf:(ac==1099511627776)=true):
  Calls Tryz.prog 78 #[.agg #[.int .i64 aw,.int .i64 ac],.int .i64 now] w fun e w'=>e=.returned (.tuple #[.agg #[.int .i64 0,.int .i64 0],.iface 29 (.int .i64 12)])∧Below w.heap.size w w':=by
 go_enter Tryz.func78,Tryz.ntmps78
 go_wp2_with (go_at_call 135;refine (rightS_any _ _ _).mono ?_;rintro e w' ⟨rfl,hb⟩;obtain ⟨x,rfl⟩:=wplus_of_below hb;clear hb)
 exact bodyPost_ret (v:=.tuple #[.agg #[.int .i64 0,.int .i64 0],.iface 29 (.int .i64 12)]) (by simp [results,Tryz.results78,go_sem]) rfl ⟨rfl,zB⟩
set_option maxHeartbeats 800000 in
theorem next_inc (aw ac now:Int) (w:World) (hr:rightS aw ac=true) (h0:0≤now) (h1:now≤1099511627776) (h:now≤aw) (hf:(ac==1099511627776)=false) (hb:0≤ac∧ac≤1099511627776):
  Calls Tryz.prog 78 #[.agg #[.int .i64 aw,.int .i64 ac],.int .i64 now] w fun e w'=>e=.returned (.tuple #[.agg #[.int .i64 aw,.int .i64 (ac+1)],.nilIface])∧Below w.heap.size w w':=by
 go_enter Tryz.func78,Tryz.ntmps78
 go_wp2_with (go_at_call 135;refine (rightS_any _ _ _).mono ?_;rintro e w' ⟨rfl,hb⟩;obtain ⟨x,rfl⟩:=wplus_of_below hb;clear hb)
 exact bodyPost_ret (v:=.tuple #[.agg #[.int .i64 aw,.int .i64 (ac+1)],.nilIface]) (by simp [results,Tryz.results78,go_sem]) rfl ⟨rfl,zB⟩
theorem cmpI_bd (x y:Int):-1≤cmpI x y∧cmpI x y≤1:=by unfold cmpI;split <;> (try split) <;> omega
theorem cmpS_bd (aw ac bw bc:Int):-1≤cmpS aw ac bw bc∧cmpS aw ac bw bc≤1:=by
 unfold cmpS orI;split
 ·exact cmpI_bd _ _
 ·exact cmpI_bd _ _
theorem cmpS_neg_iff (aw ac bw bc:Int):cmpS aw ac bw bc<0↔(aw<bw∨aw=bw∧ac<bc):=by
 unfold cmpS orI cmpI;(repeat' split) <;> omega
theorem cmpS_pos_iff (aw ac bw bc:Int):0<cmpS aw ac bw bc↔(bw<aw∨aw=bw∧bc<ac):=by
 unfold cmpS orI cmpI;(repeat' split) <;> omega
theorem cmpS_zero_iff (aw ac bw bc:Int):cmpS aw ac bw bc=0↔(aw=bw∧ac=bc):=by
 unfold cmpS orI cmpI;(repeat' split) <;> omega
@[go_sem 3000] theorem eqStamp (w : World) (d : Nat) (aw ac bw bc : Int) :
   (Op.equalIn (d+2) 34 (.agg #[.int .i64 aw,.int .i64 ac]) (.agg #[.int .i64 bw,.int .i64 bc])).run Tryz.prog w=.ok (aw==bw&&ac==bc) w:=by
  rw [run_equalIn_agg w (d+1) _ _ _ (by kernel_rfl) (by kernel_rfl)]
  by_cases h1:aw=bw <;> by_cases h2:ac=bc <;> simp [go_sem,h1,h2]
end Go.Proofs.YtbopfhbeegkkaabGreatDoor
