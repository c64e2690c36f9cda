/- Part 20 of a proof: lemmas and contracts that other parts use. -/
import Derived.Test.YtbopfhbeegkkaabGreatDoorCa1
import Derived.Deep.RegionHeld3
import Derived.Test.YtbopfhbeegkkaabGreatDoorCa17
import Derived.Test.YtbopfhbeegkkaabGreatDoorCa16
import Derived.Test.YtbopfhbeegkkaabGreatDoorCa3
import Derived.Test.YtbopfhbeegkkaabGreatDoorCa4
import Derived.Test.YtbopfhbeegkkaabGreatDoorCa6
import Derived.Test.YtbopfhbeegkkaabGreatDoorCa14
import Derived.Deep.DeepCutAuto
import Derived.RegionTactic
import Derived.Lib.AppendZeros
set_option linter.unusedVariables false
set_option linter.unusedSimpArgs false
namespace Go.Proofs.YtbopfhbeegkkaabGreatDoor
open Go.RowKit
section
variable {P:Program}
def headQ (P:Program) (ops:Array Oper) (Q:Exit→Act→World→Prop) (tl:List Oper):Exit→Act→World→Prop
 | .normal,a,w=>wpList P ops Q tl a w
 | .panic c,a,w=>Q (.panic c) a w
 | .outgrown,a,w=>Q .outgrown a w
 | _,_,_=>False
theorem headQ.normal {ops:Array Oper} {Q:Exit→Act→World→Prop} {tl:List Oper} {a:Act} {w:World} (h:wpList P ops Q tl a w):headQ P ops Q tl .normal a w:=h
def splitB (md:Region.Mode) (ops:Array Oper) (n:Nat):Bool:=
 decide (n<ops.size)&&Region.sinkB md ops n&&Region.chainB md ops n&&
 ((List.range n).all fun i=>match ops[i]? with
   | some o=>o.guard.isNone&&(o.after.all fun e=>decide (e.on<i))
   | none=>false)&&
 Region.seqB md ops (ops.size-n) n (Array.replicate n true++Array.replicate (ops.size-n) false)
theorem wpAny_more {md:Region.Mode} {ops:Array Oper} {Q:Exit→Act→World→Prop}:∀ (f:Nat) (listed:Array Bool) (a:Act) (w:World),wpAny P md ops Q f listed a w→wpAny P md ops Q (f+1) listed a w
 | 0,_,_,_,h=>⟨fun _=>h.2,by rw [h.1];simp⟩
 | f+1,_,_,_,h=>⟨h.1,fun i hi=>wpOp_mono (fun a' w' h'=>wpAny_more f _ a' w' h') (h.2 i hi)⟩
theorem wpAny_more' {md:Region.Mode} {ops:Array Oper} {Q:Exit→Act→World→Prop} (listed:Array Bool) (a:Act) (w:World) (f:Nat) (h:wpAny P md ops Q f listed a w):∀ g,wpAny P md ops Q (g+f) listed a w
 | 0=>by rw [Nat.zero_add];exact h
 | g+1=>by rw [show g+1+f=(g+f)+1 by omega];exact wpAny_more _ _ _ _ (wpAny_more' listed a w f h g)
theorem wpOp_split {ops:Array Oper} {Q:Exit→Act→World→Prop} {tl:List Oper} {i:Nat} {o:Oper} {oph:Array Oper} (h0:ops[i]?=some o) (h1:oph[i]?=some o) (hg:o.guard=none)
  {K K':Act→World→Prop} {a:Act} {w:World} (hK:∀ a w,K a w→K' a w) (h:wpOp P oph (headQ P ops Q tl) i K a w):wpOp P ops Q i K' a w:=by
 have hw:∀ f,Region.wanted o f=true:=fun f=>by simp [Region.wanted,hg]
 unfold wpOp at *
 simp only [h0,h1,hw,if_true] at *
 rcases h with h | ⟨h2,a',w',h3⟩
 ·left
  unfold Oper.wp at *
  generalize (execOp a.eval o).run P w=r at *
  cases r with
  | ok x w'=>
    cases x <;> simp only [Oper.upon] at h ⊢ <;>
     first
      | exact hK _ _ h
      | exact Calls.mono h (fun e w'' he=>by
         cases e
         ·exact hK _ _ he
         ·exact he
         ·obtain ⟨a2,w2,h2⟩:=he;exact ⟨a2,w2,h2⟩)
      | exact Rows.mono h (fun _ _ he=>hK _ _ he)
  | halt x w'=>cases x <;> simp only [Oper.upon] at h ⊢ <;> exact h
 ·exact .inr ⟨h2,a',w',h3⟩
theorem getD_app_lt {n m i:Nat} {lh:Array Bool} (hs:lh.size=n) (hi:i<n) (d:Bool):(lh++Array.replicate m false).getD i d=lh.getD i d:=by
 subst hs
 simp [hi,Array.getElem?_append_left hi]
theorem getD_same {lh:Array Bool} {i:Nat} (hi:i<lh.size) (d e:Bool):lh.getD i d=lh.getD i e:=by simp [hi]
theorem wpAny_split {md:Region.Mode} {ops:Array Oper} {Q:Exit→Act→World→Prop} {l:List Oper} (hops:ops=l.toArray) (n:Nat) (hn:n<ops.size) (hs:Region.sinkB md ops n=true) (hc:Region.chainB md ops n=true)
  (hg:∀ (i:Nat) (o:Oper),i<n→ops[i]?=some o→o.guard=none∧∀ e∈o.after,e.on<i)
  (hq:Region.seqB md ops (ops.size-n) n (Array.replicate n true++Array.replicate (ops.size-n) false)=true):
  ∀ (f:Nat) (lh:Array Bool) (a:Act) (w:World),lh.size=n→HeadInv md ops n (lh++Array.replicate (ops.size-n) false)→
    wpAny P md (l.take n).toArray (headQ P ops Q (l.drop n)) f lh a w→wpAny P md ops Q (f+(ops.size-n)) (lh++Array.replicate (ops.size-n) false) a w:=by
 have hsz:(l.take n).toArray.size=n:=by rw [hops] at hn;simp at hn ⊢;omega
 have hop:∀ i,i<n→(l.take n).toArray[i]?=ops[i]?:=fun i hi=>by rw [hops];simp [hi]
 have hdl:(l.drop n).length=ops.size-n:=by rw [hops];simp
 have hex:∀ (lh:Array Bool),lh.size=n→∀ (i:Nat),i<n→lh.getD i false=false→∃ j,j∈Region.ready md (l.take n).toArray lh:=by
  intro lh hl i
  induction i using Nat.strongRecOn with
  | _ i ih=>
    intro hi hf
    by_cases hall:∀ k,k<i→lh.getD k false=true
    ·obtain ⟨o,ho⟩:∃ o,ops[i]?=some o:=⟨ops[i],by simp⟩
     refine ⟨i,mem_ready.2 ⟨by rw [getD_same (by omega) true false];exact hf,o,by rw [hop i hi];exact ho,fun e he _=>hall e.on ((hg i o hi ho).2 e he)⟩⟩
    ·simp only [Classical.not_forall,Bool.not_eq_true] at hall
     obtain ⟨k,hk,hkf⟩:=hall
     exact ih k hk (by omega) hkf
 have htail:∀ (lh:Array Bool) (a:Act) (w:World),lh.size=n→Region.ready md (l.take n).toArray lh=[]→wpList P ops Q (l.drop n) a w→wpAny P md ops Q (ops.size-n) (lh++Array.replicate (ops.size-n) false) a w:=by
  intro lh a w hl hr h
  have hall:lh=Array.replicate n true:=by
   apply Array.ext
   ·simp [hl]
   ·intro i h1 h2
    cases hi:lh[i] with
    | true=>simp
    | false=>
      obtain ⟨j,hj⟩:=hex lh hl i (by omega) (by simp [h1,hi])
      rw [hr] at hj;cases hj
  rw [hall]
  have:=wpAny_of_seq (P:=P) (md:=md) (ops:=ops) (Q':=Q) (l.drop n) n (Array.replicate n true++Array.replicate (ops.size-n) false) a w (fun j=>by rw [hops];simp [List.getElem?_drop]) (by rw [hdl];exact hq) h
  rwa [hdl] at this
 intro f
 induction f with
 | zero=>
   intro lh a w hl inv h
   rw [Nat.zero_add]
   exact htail lh a w hl h.1 h.2
 | succ f ih=>
   intro lh a w hl inv h
   by_cases hr:Region.ready md (l.take n).toArray lh=[]
   ·exact wpAny_more' _ _ _ _ (htail lh a w hl hr (h.1 hr)) (f+1)
   ·obtain ⟨j0,hj0⟩:∃ j,j∈Region.ready md (l.take n).toArray lh:=by
     cases hrr:Region.ready md (l.take n).toArray lh with
     | nil=>exact absurd hrr hr
     | cons x xs=>exact ⟨x,by simp⟩
    have hj0n:j0<n:=by
     obtain ⟨_,o,ho,_⟩:=mem_ready.1 hj0
     have:=(Array.getElem?_eq_some_iff.1 ho).1
     omega
    have hun0:(lh++Array.replicate (ops.size-n) false).getD j0 true=false:=by rw [getD_app_lt hl hj0n];exact (mem_ready.1 hj0).1
    have hto:∀ i,i<n→(i∈Region.ready md ops (lh++Array.replicate (ops.size-n) false)↔i∈Region.ready md (l.take n).toArray lh):=fun i hi=>by
     rw [mem_ready,mem_ready,getD_app_lt hl hi,hop i hi]
     constructor
     ·rintro ⟨h1,o,ho,h2⟩
      exact ⟨h1,o,ho,fun e he hb=>by have:=h2 e he hb;rwa [getD_app_lt hl (by have:=(hg i o hi ho).2 e he;omega)] at this⟩
     ·rintro ⟨h1,o,ho,h2⟩
      exact ⟨h1,o,ho,fun e he hb=>by rw [getD_app_lt hl (by have:=(hg i o hi ho).2 e he;omega)];exact h2 e he hb⟩
    rw [show f+1+(ops.size-n)=(f+(ops.size-n))+1 by omega]
    refine ⟨fun h0=>?_,fun i hi=>?_⟩
    ·have:=(hto j0 hj0n).2 hj0
     rw [h0] at this;cases this
    ·have hin:i<n:=by
      rcases Nat.lt_or_ge i n with h1 | h1
      ·exact h1
      ·exact absurd hi (tail_waits hs hc hn inv _ j0 rfl hj0n hun0 i h1)
     have hih:=(hto i hin).1 hi
     obtain ⟨_,o,ho,_⟩:=mem_ready.1 hi
     have hset:(lh++Array.replicate (ops.size-n) false).setIfInBounds i true=lh.setIfInBounds i true++Array.replicate (ops.size-n) false:=by
      rw [Array.setIfInBounds_append_left (by omega)]
     have inv2:=inv.set hi hin
     rw [hset] at inv2 ⊢
     exact wpOp_split ho (by rw [hop i hin];exact ho) (hg i o hin ho).1 (fun a' w' h'=>ih _ a' w' (by simp [hl]) inv2 h') (h.2 i hih)
theorem wp_region_split {id:Nat} {Q:Exit→Act→World→Prop} {a:Act} {w:World} {l:List Oper} (n:Nat) {S:World→Prop} (hm:P.follows .mixedOrders=true) (hB:splitB .any l.toArray n=true) (hS:S w.drew)
  (h:S w.drew→wpAnyH P .any (l.take n).toArray (headQ P l.toArray Q (l.drop n)) S n (Array.replicate n false) a w.drew):(Code.region id l.toArray true).wp P Q a w:=by
 simp only [splitB,Bool.and_eq_true,decide_eq_true_eq] at hB
 obtain ⟨⟨⟨⟨hn,hs⟩,hc⟩,hg⟩,hq⟩:=hB
 refine wp_region_any hm ?_
 have hrep:Array.replicate l.toArray.size false=Array.replicate n false++Array.replicate (l.toArray.size-n) false:=by
  rw [Array.replicate_append_replicate];congr 1;omega
 have inv0:HeadInv .any l.toArray n (Array.replicate n false++Array.replicate (l.toArray.size-n) false):=by
  rw [←hrep]
  exact ⟨by simp,fun j oj _ hl=>(by rw [getD_replicate_false] at hl;cases hl),fun t _ ht=>getD_in (by simpa using ht) (getD_replicate_false _ _)⟩
 have H:=wpAny_split (P:=P) (md:=.any) (Q:=Q) rfl n hn hs hc (fun i o hi ho=>by
  have:=List.all_eq_true.1 hg i (List.mem_range.2 hi)
  rw [ho] at this
  simp only [Bool.and_eq_true,Option.isNone_iff_eq_none] at this
  refine ⟨this.1,fun e he=>?_⟩
  have h2:=Array.all_eq_true'.1 this.2 e he
  simpa using h2) hq n (Array.replicate n false) a w.drew (by simp) inv0 (wpAny_of_held _ _ _ _ (h hS))
 rw [show n+(l.toArray.size-n)=l.toArray.size by omega,←hrep] at H
 exact H
end
section
variable {P:Program} {md:Region.Mode} {Q:Exit→Act→World→Prop} {S:World→Prop}
def nthOp:List Oper→Nat→Option Oper
 | [],_=>none
 | x::_,0=>some x
 | _::xs,n+1=>nthOp xs n
theorem nthOp_is:∀ (l:List Oper) (i:Nat) {o:Oper},nthOp l i=some o→l.toArray[i]?=some o
 | [],_,_,h=>by cases h
 | x::_,0,_,h=>by simpa [nthOp] using h
 | _::xs,n+1,_,h=>by have:=nthOp_is xs n h;simpa using this
theorem takeL {l:List Oper} {oi:Oper} {v:Value} {fuel:Nat} {listed:Array Bool} {a:Act} {w:World} (i:Nat) (hi:nthOp l i=some oi)
  (hs:Region.noSelect l.toArray=true) (hf:Region.free md l.toArray listed i=true) (hr:(Region.ready md l.toArray listed).contains i=true)
  (hQ:∀ c a w,Q (.panic c) (a.put oi.dst v) w→Q (.panic c) a w) (hS:S w) (hw:Region.wanted oi (yielded l.toArray a.tmps)=true) (hy:∀ w,S w→(execOp a.eval oi).run P w=.ok (.value v) w)
  (h:wpAnyH P md l.toArray Q S fuel (listed.setIfInBounds i true) (a.put oi.dst v) w):wpAnyH P md l.toArray Q S (fuel+1) listed a w:=
 wpAnyH_take (nthOp_is l i hi) hs hf hr hQ (.inl ⟨hw,hy⟩) hS h
theorem consL {l:List Oper} {fuel:Nat} {listed:Array Bool} {a:Act} {w:World} {i:Nat} {o:Oper} {rs:List Nat} (ho:nthOp l i=some o)
  (h:∀ K:Act→World→Prop,Shut (∀ a w,S w→(S w→wpAnyH P md l.toArray Q S fuel (listed.setIfInBounds i true) a w)→K a w)→
    if Region.wanted o (yielded l.toArray a.tmps)=true then Oper.wp P o a w K Q else K (a.put o.dst undef) w)
  (hs:AllReadyH P md l.toArray Q S fuel listed a w rs):AllReadyH P md l.toArray Q S fuel listed a w (i::rs):=
 AllReadyH.cons (nthOp_is l i ho) h hs
end
set_option maxHeartbeats 2000000 in
theorem siteMany_any (B x mb:Nat) (s:SiP) (lv:Value) (sv:Nat→Value) (w:World) (h:SiAt w B x s mb lv sv) (hf:Fit s.st 900000):
  Calls Tryz.prog 30 #[.pointer (some ⟨x,0,none⟩)] w fun e w'=>e=.returned (.int .i64 (lenS s.st 8))∧Below w.heap.size w w':=by
 have HM:=hidp (many_any x 9 B s.st sv w h.sto (fun k hk=>(hf k hk).2))
 clear h hf
 go_enter Tryz.func30,Tryz.ntmps30
 go_wp2_with fail
 go_at_call 93
 refine HM.out.mono ?_
 rintro e w' ⟨rfl,hb⟩
 have HB:=hidp hb
 clear hb
 go_wp2_with fail
 go_ret
 exact ⟨rfl,HB.out⟩
set_option maxRecDepth 20000 in
set_option maxHeartbeats 4000000 in
theorem siteSweep_any (B x mb:Nat) (s:SiP) (lv:Value) (sv:Nat→Value) (a0 a1 a2 a3:Int) (w:World) (h:SiAt w B x s mb lv sv) (hf:Fit s.st 900000):
  Calls Tryz.prog 21 #[.pointer (some ⟨x,0,none⟩),.agg #[.int .i64 a0,.int .i64 a1,.int .i64 a2,.int .i64 a3]] w fun e w'=>e=.returned (.tuple #[])∧∃ sv',SiAt w' B x { s with st:=fun k=>sweepV (min a0 s.p0) (min a1 s.p1) (min a2 s.p2) (min a3 s.p3) (s.st k) } mb lv sv'∧SiFr w w' (SiOwn x mb lv sv) (SiOwn x mb lv sv'):=by
 obtain ⟨c1,c2,c3,c4⟩:=h.vec
 have HS:=hidp h
 have HMN:=hidp fun W=>vMin_any a0 a1 a2 a3 s.p0 s.p1 s.p2 s.p3 W
 have HSW:=hidp fun W (hB:Below w.heap.size w W)=>sweep_any x 9 B s.st sv (min a0 s.p0) (min a1 s.p1) (min a2 s.p2) (min a3 s.p3) W (h.sto.below hB) (fun k hk=>(hf k hk).1) (fun k hk=>(hf k hk).2) (Nat.le_trans (Nat.le_trans h.bx (Nat.le_of_lt h.sto.lt)) hB.size)
 haveI:SzGe (x+1) w:=⟨h.sto.lt⟩
 clear h hf
 generalize min a0 s.p0=m0 at *
 generalize min a1 s.p1=m1 at *
 generalize min a2 s.p2=m2 at *
 generalize min a3 s.p3=m3 at *
 go_enter Tryz.func21,Tryz.ntmps21
 go_wp2_with fail
 refine wp_region_plus_tail 9 (by kernel_rfl) (by kernel_rfl) ?_
 simp only [List.take_succ_cons,List.take_zero,List.drop_succ_cons,List.drop_zero]
 repeat (first | go_big_quiet_skip | (go_big_quiet_want;go_big_quiet_op;first | go_big_quiet_on | (apply Exists.intro;refine ⟨fun _=>?_,?_⟩;(go_at_call 89;exact Calls.plus_of (HMN.out _));go_big_quiet_on)))
 refine wpQuiet_nil ?_
 rintro _ ⟨x3,rfl⟩
 go_wp2_with fail
 have HB:=hidp (show Below w.heap.size w (wplus (w.alloc (.cells #[.int .i64 a0,.int .i64 a1,.int .i64 a2,.int .i64 a3] 32)) x3) from zB)
 go_at_call 88
 refine (HSW.out _ HB.out).mono ?_
 rintro e w' ⟨rfl,sv',hst,hfr⟩
 have HN:=hidp ((HS.out.below HB.out).store hst hfr)
 clear hst hfr HSW
 go_wp2_with fail
 refine bodyPost_end (results_none rfl _ _ _) rfl ⟨rfl,sv',HN.out.1,(SiFr.of_below _ HB.out).trans HN.out.2⟩
theorem SiAt.seto {w:World} {B x mb i:Nat} {s:SiP} {lv:Value} {sv:Nat→Value} (h:SiAt w B x s mb lv sv) (hi:i<16) (z:Int):SiAt (w.setCell ⟨x,17+i,none⟩ (.int .i64 z)) B x { s with ot:=fun j=>if i=j then z else s.ot j } mb lv sv:=by
 have hgs:=grown_set w x (17+i) (.int .i64 z)
 have hx:∀ b,b<w.heap.size→b≠x→(w.setCell ⟨x,17+i,none⟩ (.int .i64 z)).heap[b]?=w.heap[b]?:=fun b hb hne=>hgs.block b hb (by simp;exact hne)
 have hf:∀ k,(w.setCell ⟨x,17+i,none⟩ (.int .i64 z)).frozen? ⟨x,k,none⟩=w.frozen? ⟨x,k,none⟩:=fun k=>World.frozen?_setCell ..
 have hs:(w.setCell ⟨x,17+i,none⟩ (.int .i64 z)).heap.size=w.heap.size:=by simp [World.setCell]
 have t:∀ {j:Nat} {u:Value},j<17→w.cell? ⟨x,j,none⟩=some u→(w.setCell ⟨x,17+i,none⟩ (.int .i64 z)).cell? ⟨x,j,none⟩=some u:=fun {j u} hj hu=>by
  have:=cell_set (i:=17+i) (v:=.int .i64 z) hu;rw [if_neg (by omega)] at this;exact this
 refine ⟨t (by omega) h.c0,t (by omega) h.c1,t (by omega) h.c2,t (by omega) h.c3,t (by omega) h.c4,t (by omega) h.c5,t (by omega) h.c6,t (by omega) h.c7,t (by omega) h.c8,?_,fun k=>(hf k).trans (h.frz k),?_,?_,?_,h.bx,h.bm,h.dxm,h.dxl,h.dml,h.dms,h.dls,?_⟩
 ·intro k hk
  have:=cell_set (i:=17+i) (v:=.int .i64 z) (h.oth k hk)
  rw [this]
  by_cases e:i=k
  ·subst e;simp
  ·rw [if_neg (by omega)]
   show _=some (Value.int .i64 (if i=k then z else s.ot k))
   rw [if_neg e]
 ·exact ⟨by rw [hs];exact h.sto.lt,fun k hk=>t (by omega) (h.sto.cel k hk),fun k hk=>(hf _).trans (h.sto.frz k hk),fun k hk=>(h.sto.own k hk).kept hgs (.inr (h.sto.ng k hk)),h.sto.ng,h.sto.dis⟩
 ·exact h.row.kept hgs (.inr h.dxl)
 ·exact h.map.block (hx mb h.map.lt h.dxm)
 ·intro m hm
  obtain ⟨h1,h2⟩:=h.dat m hm
  exact ⟨h1.keep fun b o e=>hx b (h2 b o e).1 (fun e2=>(h2 b o e).2 (.inl e2)),fun b o e=>⟨by rw [hs];exact (h2 b o e).1,(h2 b o e).2⟩⟩
def knowF (ot:Nat→Int) (k:Nat) (a0 a1 a2 a3:Int):Nat→Int:=fun j=>
 if k*4+3=j then max (ot (k*4+3)) a3 else if k*4+2=j then max (ot (k*4+2)) a2 else if k*4+1=j then max (ot (k*4+1)) a1 else if k*4=j then max (ot (k*4)) a0 else ot j
set_option maxRecDepth 20000 in
set_option maxHeartbeats 4000000 in
theorem knows_any (B x mb:Nat) (s:SiP) (lv:Value) (sv:Nat→Value) (k:Nat) (a0 a1 a2 a3:Int) (w:World) (h:SiAt w B x s mb lv sv) (hk:k<4):
  Calls Tryz.prog 20 #[.pointer (some ⟨x,0,none⟩),.int .i64 (k:Nat),.agg #[.int .i64 a0,.int .i64 a1,.int .i64 a2,.int .i64 a3]] w fun e w'=>e=.returned .nilIface∧SiAt w' B x { s with ot:=knowF s.ot k a0 a1 a2 a3 } mb lv sv∧SiFr w w' (SiOwn x mb lv sv) (SiOwn x mb lv sv):=by
 have d0:decide ((k:Int)<0)=false:=decide_eq_false (by omega)
 have d1:decide (4≤(k:Int))=false:=decide_eq_false (by omega)
 have hk0:(0:Int)≤(k:Int):=by omega
 have hk4:(k:Int)<4:=by omega
 have o0:=h.oth (k*4) (by omega)
 have o1:=h.oth (k*4+1) (by omega)
 have o2:=h.oth (k*4+2) (by omega)
 have o3:=h.oth (k*4+3) (by omega)
 rw [show 17+(k*4+1)=17+k*4+1 by omega] at o1
 rw [show 17+(k*4+2)=17+k*4+2 by omega] at o2
 rw [show 17+(k*4+3)=17+k*4+3 by omega] at o3
 have f0:=h.frz (17+k*4);have f1:=h.frz (17+k*4+1);have f2:=h.frz (17+k*4+2);have f3:=h.frz (17+k*4+3)
 have HS:=hidp h
 have HMX:=hidp fun W=>vMax_any (s.ot (k*4)) (s.ot (k*4+1)) (s.ot (k*4+2)) (s.ot (k*4+3)) a0 a1 a2 a3 W
 haveI:SzGe (x+1) w:=⟨h.sto.lt⟩
 clear h
 go_enter Tryz.func20,Tryz.ntmps20
 go_wp2_with fail
 refine wp_region_plus_tail 13 (by kernel_rfl) (by kernel_rfl) ?_
 simp only [List.take_succ_cons,List.take_zero,List.drop_succ_cons,List.drop_zero]
 repeat (first | go_big_quiet_skip | (go_big_quiet_want;go_big_quiet_op;first | go_big_quiet_on | (apply Exists.intro;refine ⟨fun _=>?_,?_⟩;(go_at_call 87;exact Calls.plus_of (HMX.out _));go_big_quiet_on)))
 refine wpQuiet_nil ?_
 rintro _ ⟨x3,rfl⟩
 go_wp2_with fail
 go_ret
 have h4:=(((HS.out.seto (i:=k*4) (by omega) (max (s.ot (k*4)) a0)).seto (i:=k*4+1) (by omega) (max (s.ot (k*4+1)) a1)).seto (i:=k*4+2) (by omega) (max (s.ot (k*4+2)) a2)).seto (i:=k*4+3) (by omega) (max (s.ot (k*4+3)) a3)
 refine ⟨rfl,h4.below zB,?_⟩
 have hc:∀ (W:World) (i:Nat) (v:Value),SiFr W (W.setCell ⟨x,i,none⟩ v) (SiOwn x mb lv sv) (SiOwn x mb lv sv):=fun W i v=>SiFr.setc (i:=i) v
 exact ((((hc w (17+k*4) (.int .i64 (max (s.ot (k*4)) a0))).trans (hc _ (17+k*4+1) (.int .i64 (max (s.ot (k*4+1)) a1)))).trans (hc _ (17+k*4+2) (.int .i64 (max (s.ot (k*4+2)) a2)))).trans (hc _ (17+k*4+3) (.int .i64 (max (s.ot (k*4+3)) a3)))).trans (SiFr.of_below _ zB)
def stabF (id:Int) (ot:Nat→Int) (p:Int) (c:Nat):Nat→Int
 | 0=>p
 | k+1=>if (k:Int)=id then stabF id ot p c k else min (stabF id ot p c k) (ot (k*4+c))
def stabN (n:Int):Nat:=(min (max n 0) 4).toNat
theorem stabN_le (n:Int):stabN n≤4:=by unfold stabN;omega
theorem set4_spec {w:World} {g t:Nat} {a0 a1 a2 a3:Value} (b0 b1 b2 b3:Value) (h:w.heap[g]?=some (.cells #[a0,a1,a2,a3] t)):
  ((((w.setCell ⟨g,0,none⟩ b0).setCell ⟨g,1,none⟩ b1).setCell ⟨g,2,none⟩ b2).setCell ⟨g,3,none⟩ b3).heap[g]?=some (.cells #[b0,b1,b2,b3] t)∧
  Below g w ((((w.setCell ⟨g,0,none⟩ b0).setCell ⟨g,1,none⟩ b1).setCell ⟨g,2,none⟩ b2).setCell ⟨g,3,none⟩ b3):=
 ⟨blk_set (blk_set (blk_set (blk_set h 0 b0) 1 b1) 2 b2) 3 b3,
  ((((Below.refl g w).setCell (p:=⟨g,0,none⟩) (Nat.le_refl _) b0).setCell (p:=⟨g,1,none⟩) (Nat.le_refl _) b1).setCell (p:=⟨g,2,none⟩) (Nat.le_refl _) b2).setCell (p:=⟨g,3,none⟩) (Nat.le_refl _) b3⟩
set_option maxRecDepth 20000 in
set_option maxHeartbeats 8000000 in
theorem stable_any (B x mb:Nat) (s:SiP) (lv:Value) (sv:Nat→Value) (n:Int) (w:World) (h:SiAt w B x s mb lv sv):
  Calls Tryz.prog 28 #[.pointer (some ⟨x,0,none⟩),.int .i64 n] w fun e w'=>
   e=.returned (.agg #[.int .i64 (stabF s.id s.ot s.p0 0 (stabN n)),.int .i64 (stabF s.id s.ot s.p1 1 (stabN n)),.int .i64 (stabF s.id s.ot s.p2 2 (stabN n)),.int .i64 (stabF s.id s.ot s.p3 3 (stabN n))])∧Below w.heap.size w w':=by
 have HS:=hidp h
 obtain ⟨c1,c2,c3,c4⟩:=h.vec
 haveI:SzGe (x+1) w:=⟨h.sto.lt⟩
 have hm4:=stabN_le n
 have HM:Hid ((stabN n:Int)=min (max n 0) 4):=hidp (by unfold stabN;omega)
 clear h
 generalize stabN n=m at *
 go_enter Tryz.func28,Tryz.ntmps28
 go_upto_region 2 with fail
 go_cut [13,14] (fun s13 s14 W'=>s13=.int .i64 (m:Nat)∧s14=.int .i64 0∧(w.alloc (.cells #[.int .i64 0,.int .i64 0,.int .i64 0,.int .i64 0] 32)).alloc (.cells #[.int .i64 s.p0,.int .i64 s.p1,.int .i64 s.p2,.int .i64 s.p3] 32)=W')
 case first=>
  have hm:=HM.out
  clear HM
  by_cases h0:n<0
  ·obtain rfl:m=0:=by omega
   clear hm
   go_wp2_with fail
   all_goals (go_meet;first | exact ⟨rfl,rfl,rfl⟩ | (refine ⟨?_,rfl,rfl⟩;congr 1;omega))
  ·by_cases h4:4<n
   ·obtain rfl:m=4:=by omega
    clear hm
    go_wp2_with fail
    all_goals (go_meet;first | exact ⟨rfl,rfl,rfl⟩ | (refine ⟨?_,rfl,rfl⟩;congr 1;omega))
   ·obtain rfl:n=(m:Int):=by omega
    clear hm
    go_wp2_with fail
    all_goals (go_meet;first | exact ⟨rfl,rfl,rfl⟩ | (refine ⟨?_,rfl,rfl⟩;congr 1;omega))
 case rest=>
  obtain ⟨rfl,rfl,rfl⟩:=hcut
  have HB0:=hidp (show Below w.heap.size w ((w.alloc (.cells #[.int .i64 0,.int .i64 0,.int .i64 0,.int .i64 0] 32)).alloc (.cells #[.int .i64 s.p0,.int .i64 s.p1,.int .i64 s.p2,.int .i64 s.p3] 32)) from zB)
  have HR0:=hidp (show ((w.alloc (.cells #[.int .i64 0,.int .i64 0,.int .i64 0,.int .i64 0] 32)).alloc (.cells #[.int .i64 s.p0,.int .i64 s.p1,.int .i64 s.p2,.int .i64 s.p3] 32)).heap[w.heap.size]?=some (.cells #[.int .i64 0,.int .i64 0,.int .i64 0,.int .i64 0] 32) from blk_alloc (blk_new rfl _) _)
  have HV0:=hidp (show ((w.alloc (.cells #[.int .i64 0,.int .i64 0,.int .i64 0,.int .i64 0] 32)).alloc (.cells #[.int .i64 s.p0,.int .i64 s.p1,.int .i64 s.p2,.int .i64 s.p3] 32)).heap[w.heap.size+1]?=some (.cells #[.int .i64 s.p0,.int .i64 s.p1,.int .i64 s.p2,.int .i64 s.p3] 32) from blk_new (by simp) _)
  clear HM c1 c2 c3 c4
  generalize (w.alloc (.cells #[.int .i64 0,.int .i64 0,.int .i64 0,.int .i64 0] 32)).alloc (.cells #[.int .i64 s.p0,.int .i64 s.p1,.int .i64 s.p2,.int .i64 s.p3] 32)=wo at *
  go_wp2_with fail
  go_loopw [14] (fun i W=>∃ k:Nat,i=.int .i64 k∧k≤m∧Below w.heap.size w W∧Hid (W.heap[w.heap.size]?=some (.cells #[.int .i64 0,.int .i64 0,.int .i64 0,.int .i64 0] 32))∧
   Hid (W.heap[w.heap.size+1]?=some (.cells #[.int .i64 (stabF s.id s.ot s.p0 0 k),.int .i64 (stabF s.id s.ot s.p1 1 k),.int .i64 (stabF s.id s.ot s.p2 2 k),.int .i64 (stabF s.id s.ot s.p3 3 k)] 32))) (fun i _=>m-(intOf i).toNat)
  case atStart=>exact ⟨0,rfl,Nat.zero_le _,HB0.out,HR0,HV0⟩
  case round=>
   obtain ⟨k,rfl,hk,hb,HR,HV⟩:=hrel
   obtain ⟨W,rfl⟩:∃ W:World,W=wr:=⟨_,rfl⟩
   have HB:=hidp hb
   clear hb HB0 HR0 HV0
   have HSW:=hidp (HS.out.below HB.out)
   haveI:SzGe (w.heap.size+1+1) W:=⟨lt_blk HV.out⟩
   haveI:SzGe (x+1) W:=⟨HSW.out.sto.lt⟩
   by_cases hkm:k<m
   ·have hkd:decide ((k:Int)<(m:Int))=true:=decide_eq_true (by omega)
    have c0:=HSW.out.c0
    have HST:Hid (∀ (p:Int) (c:Nat),stabF s.id s.ot p c (k+1)=if (k:Int)=s.id then stabF s.id s.ot p c k else min (stabF s.id s.ot p c k) (s.ot (k*4+c))):=hidp (fun p c=>rfl)
    by_cases hid:(k:Int)=s.id
    ·have hd:((k:Int) != s.id)=false:=by simp [hid]
     have HID:=hidp hid
     clear hid
     go_wp2_with fail
     go_roundw
     case rel=>exact ⟨k+1,by go_num,by omega,HB.out,HR,hidp (by rw [HST.out,HST.out,HST.out,HST.out,if_pos HID.out,if_pos HID.out,if_pos HID.out,if_pos HID.out];exact HV.out)⟩
     case measure=>simp [intOf];omega
    ·have hd:((k:Int) != s.id)=true:=by simpa using hid
     have HID:=hidp hid
     clear hid
     have hk0:(0:Int)≤(k:Int):=by omega
     have hk4:(k:Int)<4:=by omega
     have o0:=HSW.out.oth (k*4) (by omega)
     have o1:=HSW.out.oth (k*4+1) (by omega)
     have o2:=HSW.out.oth (k*4+2) (by omega)
     have o3:=HSW.out.oth (k*4+3) (by omega)
     rw [show 17+(k*4+1)=17+k*4+1 by omega] at o1
     rw [show 17+(k*4+2)=17+k*4+2 by omega] at o2
     rw [show 17+(k*4+3)=17+k*4+3 by omega] at o3
     have HMN:=hidp fun X=>vMin_any (stabF s.id s.ot s.p0 0 k) (stabF s.id s.ot s.p1 1 k) (stabF s.id s.ot s.p2 2 k) (stabF s.id s.ot s.p3 3 k) (s.ot (k*4)) (s.ot (k*4+1)) (s.ot (k*4+2)) (s.ot (k*4+3)) X
     have e0:=cell_blk HV.out 0;have e1:=cell_blk HV.out 1;have e2:=cell_blk HV.out 2;have e3:=cell_blk HV.out 3
     simp only [zC,zD,zE] at e0 e1 e2 e3
     have z0:=frozen_blk HV.out 0;have z1:=frozen_blk HV.out 1;have z2:=frozen_blk HV.out 2;have z3:=frozen_blk HV.out 3
     have HS0:=hidp (show stabF s.id s.ot s.p0 0 (k+1)=min (stabF s.id s.ot s.p0 0 k) (s.ot (k*4))  from by rw [HST.out,if_neg HID.out];try rfl)
     have HS1:=hidp (show stabF s.id s.ot s.p1 1 (k+1)=min (stabF s.id s.ot s.p1 1 k) (s.ot (k*4+1))  from by rw [HST.out,if_neg HID.out];try rfl)
     have HS2:=hidp (show stabF s.id s.ot s.p2 2 (k+1)=min (stabF s.id s.ot s.p2 2 k) (s.ot (k*4+2))  from by rw [HST.out,if_neg HID.out];try rfl)
     have HS3:=hidp (show stabF s.id s.ot s.p3 3 (k+1)=min (stabF s.id s.ot s.p3 3 k) (s.ot (k*4+3))  from by rw [HST.out,if_neg HID.out];try rfl)
     generalize stabF s.id s.ot s.p0 0 k=q0 at *
     generalize stabF s.id s.ot s.p1 1 k=q1 at *
     generalize stabF s.id s.ot s.p2 2 k=q2 at *
     generalize stabF s.id s.ot s.p3 3 k=q3 at *
     go_wp2_with fail
     refine wp_region_plus_tail 8 (by kernel_rfl) (by kernel_rfl) ?_
     simp only [List.take_succ_cons,List.take_zero,List.drop_succ_cons,List.drop_zero]
     repeat (first | go_big_quiet_skip | (go_big_quiet_want;go_big_quiet_op;first | go_big_quiet_on | (apply Exists.intro;refine ⟨fun _=>?_,?_⟩;(go_at_call 89;exact Calls.plus_of (HMN.out _));go_big_quiet_on)))
     refine wpQuiet_nil ?_
     rintro _ ⟨x3,rfl⟩
     go_wp2_with fail
     obtain ⟨p1,p2⟩:=set4_spec (.int .i64 (min q0 (s.ot (k*4)))) (.int .i64 (min q1 (s.ot (k*4+1)))) (.int .i64 (min q2 (s.ot (k*4+2)))) (.int .i64 (min q3 (s.ot (k*4+3)))) HV.out
     go_roundw
     case rel=>exact ⟨k+1,by go_num,by omega,(HB.out.trans (p2.mono (by omega))).trans ((below_wplus _ x3).mono (Nat.le_trans (by have:=lt_blk HV.out;omega) p2.size)),hidp (by rw [←HR.out];exact (below_wplus _ x3).block _ (Nat.lt_of_lt_of_le (lt_blk HR.out) p2.size) |>.trans (p2.block _ (by omega))),hidp (by rw [HS0.out,HS1.out,HS2.out,HS3.out];exact ((below_wplus _ x3).block _ (lt_blk p1)).trans p1)⟩
     case measure=>simp [intOf];omega
   ·obtain rfl:k=m:=by omega
    have hkd:decide ((k:Int)<(k:Int))=false:=decide_eq_false (by omega)
    generalize hq0:stabF s.id s.ot s.p0 0 k=q0 at *
    replace hq0:=hidp hq0
    generalize hq1:stabF s.id s.ot s.p1 1 k=q1 at *
    replace hq1:=hidp hq1
    generalize hq2:stabF s.id s.ot s.p2 2 k=q2 at *
    replace hq2:=hidp hq2
    generalize hq3:stabF s.id s.ot s.p3 3 k=q3 at *
    replace hq3:=hidp hq3
    have e0:=cell_blk HV.out 0;have e1:=cell_blk HV.out 1;have e2:=cell_blk HV.out 2;have e3:=cell_blk HV.out 3
    simp only [zC,zD,zE] at e0 e1 e2 e3
    have z0:=frozen_blk HR.out 0;have z1:=frozen_blk HR.out 1;have z2:=frozen_blk HR.out 2;have z3:=frozen_blk HR.out 3
    have r0:=cell_blk HR.out 0;have r1:=cell_blk HR.out 1;have r2:=cell_blk HR.out 2;have r3:=cell_blk HR.out 3
    simp only [zC,zD,zE] at r0 r1 r2 r3
    go_wp2_with fail
    obtain ⟨p1,p2⟩:=set4_spec (.int .i64 q0) (.int .i64 q1) (.int .i64 q2) (.int .i64 q3) HR.out
    generalize hW1:World.setCell _ _ (Value.int .i64 q3)=W1
    rw [hW1] at p1 p2
    have y0:=cell_blk p1 0;have y1:=cell_blk p1 1;have y2:=cell_blk p1 2;have y3:=cell_blk p1 3
    simp only [zC,zD,zE] at y0 y1 y2 y3
    refine bodyPost_ret (v:=.agg #[.int .i64 q0,.int .i64 q1,.int .i64 q2,.int .i64 q3]) ?_ rfl ⟨by rw [hq0.out,hq1.out,hq2.out,hq3.out],HB.out.trans p2⟩
    simp [results,Tryz.results28,go_sem,y0,y1,y2,y3]
end Go.Proofs.YtbopfhbeegkkaabGreatDoor
