/- Part 31 of a proof: lemmas and contracts that other parts use. -/
import Derived.Test.YtbopfhbeegkkaabGreatDoorSe27
import Derived.Great.BuildSlice
import Derived.Test.YtbopfhbeegkkaabGreatDoorSe1
import Derived.Deep.RegionHeld3
set_option linter.unusedVariables false
set_option linter.unusedSimpArgs false
set_option linter.constructorNameAsVariable false
namespace Go.Proofs.YtbopfhbeegkkaabGreatDoor
open Go.RowKit
theorem step_build_tx {ops:Array Oper} {o:Oper} {a:Act} {w:World} {K:Act→World→Prop} {Q:Exit→Act→World→Prop} {E:Prop} (hgd:o.guard=none) (x:Operand) (ho:o.op=.buildSlice 35 1 #[(0,x)]) (v0 v1 v2 v3 v4 v5 v6 v7 v8:Value) (hx:a.eval x=.agg #[v0,v1,v2,v3,v4,v5,v6,v7,v8])
  (h:K (a.put o.dst (.slice (some ⟨w.heap.size,0,none⟩) 1 1)) (w.alloc (.cells #[v0,v1,v2,v3,v4,v5,v6,v7,v8] 44))):if Region.wanted o (yielded ops a.tmps)=true then Oper.wp Tryz.prog o a w K Q else E:=by
 have hw:Region.wanted o (yielded ops a.tmps)=true:=by simp [Region.wanted,hgd]
 rw [if_pos hw]
 obtain ⟨i0,hi0,hz0,hz1,hz2⟩:=info40
 refine wp_buildSlice 35 44 1 #[(0,x)] ho #[v0,v1,v2,v3,v4,v5,v6,v7,v8] i0 txZero Tryz.underlying35 hi0 hz0 (by rw [hz1];decide) (by rw [hz1];decide) ?_ h
 rw [hz1]
 simp only [List.map_toArray,List.map_cons,List.map_nil,hx]
 kernel_rfl
structure RLp (w wr:World) (B y:Nat) (s:RsP) (M:MTx) (own:Nat→Prop) (F:RSi) (s1:RsP) (lv1:Value) (wA1:Option Addr) (wc1:Nat) (av1:Value):Prop where
 at_:RsAt wr B y s1 lv1 wA1 wc1 av1
 fr:SiFr w wr own (RsOwn y lv1 av1)
 inv:RInv s1
 run:rRun s1.ws.length s1.r=F
 len:s1.ws.length≤901
 has:∀ m,s1.has m→s.has m∨m=M
 new:∀ b o,wA1=some ⟨b,o,none⟩→w.heap.size≤b
section
variable {w wr wr':World} {B y:Nat} {s:RsP} {M:MTx} {own:Nat→Prop} {F:RSi} {s1:RsP} {lv1:Value} {wA1:Option Addr} {wc1:Nat} {av1:Value}
theorem RLp.below (h:RLp w wr B y s M own F s1 lv1 wA1 wc1 av1) (hb:Below wr.heap.size wr wr'):RLp w wr' B y s M own F s1 lv1 wA1 wc1 av1:=
 ⟨h.at_.below hb,h.fr.trans (SiFr.of_below _ hb),h.inv,h.run,h.len,h.has,h.new⟩
theorem RLp.stop (h:RLp w wr B y s M own F s1 lv1 wA1 wc1 av1) (hs:200≤s1.log.length∨rBest s1.r<0):s1.r=F:=by
 rw [←h.run]
 exact (rRun_stop (hs.imp (fun e=>by simpa [RsP.r] using e) id) _).symm
theorem RLp.next (h:RLp w wr B y s M own F s1 lv1 wA1 wc1 av1) {k:Nat} {m:MTx} (hl:s1.log.length<200) (hb:rBest s1.r=(k:Int)) (hk:s1.ws[k]?=some m):
  rRun (applyR (dropR s1 k) m).ws.length (applyR (dropR s1 k) m).r=F∧(applyR (dropR s1 k) m).ws.length+1=s1.ws.length:=by
 obtain ⟨hlt,hm⟩:=List.getElem?_eq_some_iff.1 hk
 have hr:=h.inv.rt m (by rw [←hm];exact List.getElem_mem hlt)
 have e1:(applyR (dropR s1 k) m).ws.length+1=s1.ws.length:=by rw [applyR_ws];exact dropR_len hlt
 refine ⟨?_,e1⟩
 rw [applyR_r _ _ (rightTx_parts hr).1,dropR_r,←h.run,←e1]
 exact (rRun_step (by simpa [RsP.r] using hl) hb (by unfold RsP.r;rw [List.getElem?_map,hk];rfl) _).symm
theorem RLp.drop (h:RLp w wr B y s M own F s1 lv1 wA1 wc1 av1) {k:Nat} {A:Option Addr} {c:Nat} (hb:Below wr.heap.size wr wr') (ho:wr'.ownsRow wr.heap.size 44 9 (.slice A (s1.ws.take k++s1.ws.drop (k+1)).length c) (s1.ws.take k++s1.ws.drop (k+1)).length ((s1.ws.take k++s1.ws.drop (k+1)).flatMap MTx.cells)):
  RsAt (wr'.setCell ⟨y,8,none⟩ (.slice A (s1.ws.take k++s1.ws.drop (k+1)).length c)) B y (dropR s1 k) lv1 A c av1∧SiFr w (wr'.setCell ⟨y,8,none⟩ (.slice A (s1.ws.take k++s1.ws.drop (k+1)).length c)) own (RsOwn y lv1 av1)∧(∀ b o,A=some ⟨b,o,none⟩→w.heap.size≤b)∧∀ m,s1.has m→WsAt (wr'.setCell ⟨y,8,none⟩ (.slice A (s1.ws.take k++s1.ws.drop (k+1)).length c)) m.A m.t.ws∧∀ b o,m.A=some ⟨b,o,none⟩→b<(wr'.setCell ⟨y,8,none⟩ (.slice A (s1.ws.take k++s1.ws.drop (k+1)).length c)).heap.size∧¬RsOwn y lv1 av1 b:=by
 have h2:=h.at_.below hb
 have hA:∀ b o,A=some ⟨b,o,none⟩→wr.heap.size≤b∧b<wr'.heap.size:=fun b o e=>own_ge ho (show (Value.slice A (s1.ws.take k++s1.ws.drop (k+1)).length c).ownBlock=some b by rw [e];rfl)
 refine ⟨h2.waits (own_xs ho) (own_cap ho) (fun b o e=>⟨(hA b o e).2,fun e2=>by have:=(h.at_.lt e2).2;have:=(hA b o e).1;omega⟩) (fun m hm=>h2.dat m (.inr (dropR_mem hm))),(h.fr.trans (SiFr.of_below _ hb)).trans (SiFr.setR _),fun b o e=>?_,fun m hm=>?_⟩
 ·have:=(hA b o e).1
  have:=h.fr.size
  omega
 ·obtain ⟨h3,h4⟩:=h2.dat m hm
  have hs:(wr'.setCell ⟨y,8,none⟩ (.slice A (s1.ws.take k++s1.ws.drop (k+1)).length c)).heap.size=wr'.heap.size:=by simp [World.setCell]
  exact ⟨h3.keep fun b o e=>(grown_set wr' y 8 _).block b (h4 b o e).1 (by simp;exact fun e2=>(h4 b o e).2 (.inl e2)),fun b o e=>⟨by rw [hs];exact (h4 b o e).1,(h4 b o e).2⟩⟩
end
def wLen (w:World) (y:Nat):Nat:=match w.cell? ⟨y,8,none⟩ with | some (.slice _ n _)=>n | _=>0
theorem RsAt.wLen {w:World} {B y wc:Nat} {s:RsP} {lv av:Value} {wA:Option Addr} (h:RsAt w B y s lv wA wc av):wLen w y=s.ws.length:=by
 unfold Go.Proofs.YtbopfhbeegkkaabGreatDoor.wLen
 rw [h.c8]
section
variable {P:Program}
def headQ (P:Program) (ops:Array Oper) (Q:Exit→Act→World→Prop) (tl:List Oper):Exit→Act→World→Prop
 | .normal,a,w=>wpList P ops Q tl a w
 | .panic c,a,w=>Q (.panic c) a w
 | .outgrown,a,w=>Q .outgrown a w
 | _,_,_=>False
theorem headQ.normal {ops:Array Oper} {Q:Exit→Act→World→Prop} {tl:List Oper} {a:Act} {w:World} (h:wpList P ops Q tl a w):headQ P ops Q tl .normal a w:=h
def splitB (md:Region.Mode) (ops:Array Oper) (n:Nat):Bool:=
 decide (n<ops.size)&&Region.sinkB md ops n&&Region.chainB md ops n&&
 ((List.range n).all fun i=>match ops[i]? with
   | some o=>o.guard.isNone&&(o.after.all fun e=>decide (e.on<i))
   | none=>false)&&
 Region.seqB md ops (ops.size-n) n (Array.replicate n true++Array.replicate (ops.size-n) false)
theorem wpAny_more {md:Region.Mode} {ops:Array Oper} {Q:Exit→Act→World→Prop}:∀ (f:Nat) (listed:Array Bool) (a:Act) (w:World),wpAny P md ops Q f listed a w→wpAny P md ops Q (f+1) listed a w
 | 0,_,_,_,h=>⟨fun _=>h.2,by rw [h.1];simp⟩
 | f+1,_,_,_,h=>⟨h.1,fun i hi=>wpOp_mono (fun a' w' h'=>wpAny_more f _ a' w' h') (h.2 i hi)⟩
theorem wpAny_more' {md:Region.Mode} {ops:Array Oper} {Q:Exit→Act→World→Prop} (listed:Array Bool) (a:Act) (w:World) (f:Nat) (h:wpAny P md ops Q f listed a w):∀ g,wpAny P md ops Q (g+f) listed a w
 | 0=>by rw [Nat.zero_add];exact h
 | g+1=>by rw [show g+1+f=(g+f)+1 by omega];exact wpAny_more _ _ _ _ (wpAny_more' listed a w f h g)
theorem wpOp_split {ops:Array Oper} {Q:Exit→Act→World→Prop} {tl:List Oper} {i:Nat} {o:Oper} {oph:Array Oper} (h0:ops[i]?=some o) (h1:oph[i]?=some o) (hg:o.guard=none)
  {K K':Act→World→Prop} {a:Act} {w:World} (hK:∀ a w,K a w→K' a w) (h:wpOp P oph (headQ P ops Q tl) i K a w):wpOp P ops Q i K' a w:=by
 have hw:∀ f,Region.wanted o f=true:=fun f=>by simp [Region.wanted,hg]
 unfold wpOp at *
 simp only [h0,h1,hw,if_true] at *
 rcases h with h | ⟨h2,a',w',h3⟩
 ·left
  unfold Oper.wp at *
  generalize (execOp a.eval o).run P w=r at *
  cases r with
  | ok x w'=>
    cases x <;> simp only [Oper.upon] at h ⊢ <;>
     first
      | exact hK _ _ h
      | exact Calls.mono h (fun e w'' he=>by
         cases e
         ·exact hK _ _ he
         ·exact he
         ·obtain ⟨a2,w2,h2⟩:=he;exact ⟨a2,w2,h2⟩)
      | exact Rows.mono h (fun _ _ he=>hK _ _ he)
  | halt x w'=>cases x <;> simp only [Oper.upon] at h ⊢ <;> exact h
 ·exact .inr ⟨h2,a',w',h3⟩
theorem getD_app_lt {n m i:Nat} {lh:Array Bool} (hs:lh.size=n) (hi:i<n) (d:Bool):(lh++Array.replicate m false).getD i d=lh.getD i d:=by
 subst hs
 simp [hi,Array.getElem?_append_left hi]
theorem getD_same {lh:Array Bool} {i:Nat} (hi:i<lh.size) (d e:Bool):lh.getD i d=lh.getD i e:=by simp [hi]
theorem wpAny_split {md:Region.Mode} {ops:Array Oper} {Q:Exit→Act→World→Prop} {l:List Oper} (hops:ops=l.toArray) (n:Nat) (hn:n<ops.size) (hs:Region.sinkB md ops n=true) (hc:Region.chainB md ops n=true)
  (hg:∀ (i:Nat) (o:Oper),i<n→ops[i]?=some o→o.guard=none∧∀ e∈o.after,e.on<i)
  (hq:Region.seqB md ops (ops.size-n) n (Array.replicate n true++Array.replicate (ops.size-n) false)=true):
  ∀ (f:Nat) (lh:Array Bool) (a:Act) (w:World),lh.size=n→HeadInv md ops n (lh++Array.replicate (ops.size-n) false)→
    wpAny P md (l.take n).toArray (headQ P ops Q (l.drop n)) f lh a w→wpAny P md ops Q (f+(ops.size-n)) (lh++Array.replicate (ops.size-n) false) a w:=by
 have hsz:(l.take n).toArray.size=n:=by rw [hops] at hn;simp at hn ⊢;omega
 have hop:∀ i,i<n→(l.take n).toArray[i]?=ops[i]?:=fun i hi=>by rw [hops];simp [hi]
 have hdl:(l.drop n).length=ops.size-n:=by rw [hops];simp
 have hex:∀ (lh:Array Bool),lh.size=n→∀ (i:Nat),i<n→lh.getD i false=false→∃ j,j∈Region.ready md (l.take n).toArray lh:=by
  intro lh hl i
  induction i using Nat.strongRecOn with
  | _ i ih=>
    intro hi hf
    by_cases hall:∀ k,k<i→lh.getD k false=true
    ·obtain ⟨o,ho⟩:∃ o,ops[i]?=some o:=⟨ops[i],by simp⟩
     refine ⟨i,mem_ready.2 ⟨by rw [getD_same (by omega) true false];exact hf,o,by rw [hop i hi];exact ho,fun e he _=>hall e.on ((hg i o hi ho).2 e he)⟩⟩
    ·simp only [Classical.not_forall,Bool.not_eq_true] at hall
     obtain ⟨k,hk,hkf⟩:=hall
     exact ih k hk (by omega) hkf
 have htail:∀ (lh:Array Bool) (a:Act) (w:World),lh.size=n→Region.ready md (l.take n).toArray lh=[]→wpList P ops Q (l.drop n) a w→wpAny P md ops Q (ops.size-n) (lh++Array.replicate (ops.size-n) false) a w:=by
  intro lh a w hl hr h
  have hall:lh=Array.replicate n true:=by
   apply Array.ext
   ·simp [hl]
   ·intro i h1 h2
    cases hi:lh[i] with
    | true=>simp
    | false=>
      obtain ⟨j,hj⟩:=hex lh hl i (by omega) (by simp [h1,hi])
      rw [hr] at hj;cases hj
  rw [hall]
  have:=wpAny_of_seq (P:=P) (md:=md) (ops:=ops) (Q':=Q) (l.drop n) n (Array.replicate n true++Array.replicate (ops.size-n) false) a w (fun j=>by rw [hops];simp [List.getElem?_drop]) (by rw [hdl];exact hq) h
  rwa [hdl] at this
 intro f
 induction f with
 | zero=>
   intro lh a w hl inv h
   rw [Nat.zero_add]
   exact htail lh a w hl h.1 h.2
 | succ f ih=>
   intro lh a w hl inv h
   by_cases hr:Region.ready md (l.take n).toArray lh=[]
   ·exact wpAny_more' _ _ _ _ (htail lh a w hl hr (h.1 hr)) (f+1)
   ·obtain ⟨j0,hj0⟩:∃ j,j∈Region.ready md (l.take n).toArray lh:=by
     cases hrr:Region.ready md (l.take n).toArray lh with
     | nil=>exact absurd hrr hr
     | cons x xs=>exact ⟨x,by simp⟩
    have hj0n:j0<n:=by
     obtain ⟨_,o,ho,_⟩:=mem_ready.1 hj0
     have:=(Array.getElem?_eq_some_iff.1 ho).1
     omega
    have hun0:(lh++Array.replicate (ops.size-n) false).getD j0 true=false:=by rw [getD_app_lt hl hj0n];exact (mem_ready.1 hj0).1
    have hto:∀ i,i<n→(i∈Region.ready md ops (lh++Array.replicate (ops.size-n) false)↔i∈Region.ready md (l.take n).toArray lh):=fun i hi=>by
     rw [mem_ready,mem_ready,getD_app_lt hl hi,hop i hi]
     constructor
     ·rintro ⟨h1,o,ho,h2⟩
      exact ⟨h1,o,ho,fun e he hb=>by have:=h2 e he hb;rwa [getD_app_lt hl (by have:=(hg i o hi ho).2 e he;omega)] at this⟩
     ·rintro ⟨h1,o,ho,h2⟩
      exact ⟨h1,o,ho,fun e he hb=>by rw [getD_app_lt hl (by have:=(hg i o hi ho).2 e he;omega)];exact h2 e he hb⟩
    rw [show f+1+(ops.size-n)=(f+(ops.size-n))+1 by omega]
    refine ⟨fun h0=>?_,fun i hi=>?_⟩
    ·have:=(hto j0 hj0n).2 hj0
     rw [h0] at this;cases this
    ·have hin:i<n:=by
      rcases Nat.lt_or_ge i n with h1 | h1
      ·exact h1
      ·exact absurd hi (tail_waits hs hc hn inv _ j0 rfl hj0n hun0 i h1)
     have hih:=(hto i hin).1 hi
     obtain ⟨_,o,ho,_⟩:=mem_ready.1 hi
     have hset:(lh++Array.replicate (ops.size-n) false).setIfInBounds i true=lh.setIfInBounds i true++Array.replicate (ops.size-n) false:=by
      rw [Array.setIfInBounds_append_left (by omega)]
     have inv2:=inv.set hi hin
     rw [hset] at inv2 ⊢
     exact wpOp_split ho (by rw [hop i hin];exact ho) (hg i o hin ho).1 (fun a' w' h'=>ih _ a' w' (by simp [hl]) inv2 h') (h.2 i hih)
theorem wp_region_split {id:Nat} {Q:Exit→Act→World→Prop} {a:Act} {w:World} {l:List Oper} (n:Nat) {S:World→Prop} (hm:P.follows .mixedOrders=true) (hB:splitB .any l.toArray n=true) (hS:S w.drew)
  (h:S w.drew→wpAnyH P .any (l.take n).toArray (headQ P l.toArray Q (l.drop n)) S n (Array.replicate n false) a w.drew):(Code.region id l.toArray true).wp P Q a w:=by
 simp only [splitB,Bool.and_eq_true,decide_eq_true_eq] at hB
 obtain ⟨⟨⟨⟨hn,hs⟩,hc⟩,hg⟩,hq⟩:=hB
 refine wp_region_any hm ?_
 have hrep:Array.replicate l.toArray.size false=Array.replicate n false++Array.replicate (l.toArray.size-n) false:=by
  rw [Array.replicate_append_replicate];congr 1;omega
 have inv0:HeadInv .any l.toArray n (Array.replicate n false++Array.replicate (l.toArray.size-n) false):=by
  rw [←hrep]
  exact ⟨by simp,fun j oj _ hl=>(by rw [getD_replicate_false] at hl;cases hl),fun t _ ht=>getD_in (by simpa using ht) (getD_replicate_false _ _)⟩
 have H:=wpAny_split (P:=P) (md:=.any) (Q:=Q) rfl n hn hs hc (fun i o hi ho=>by
  have:=List.all_eq_true.1 hg i (List.mem_range.2 hi)
  rw [ho] at this
  simp only [Bool.and_eq_true,Option.isNone_iff_eq_none] at this
  refine ⟨this.1,fun e he=>?_⟩
  have h2:=Array.all_eq_true'.1 this.2 e he
  simpa using h2) hq n (Array.replicate n false) a w.drew (by simp) inv0 (wpAny_of_held _ _ _ _ (h hS))
 rw [show n+(l.toArray.size-n)=l.toArray.size by omega,←hrep] at H
 exact H
end
section
variable {P:Program} {md:Region.Mode} {Q:Exit→Act→World→Prop} {S:World→Prop}
def nthOp:List Oper→Nat→Option Oper
 | [],_=>none
 | x::_,0=>some x
 | _::xs,n+1=>nthOp xs n
theorem nthOp_is:∀ (l:List Oper) (i:Nat) {o:Oper},nthOp l i=some o→l.toArray[i]?=some o
 | [],_,_,h=>by cases h
 | x::_,0,_,h=>by simpa [nthOp] using h
 | _::xs,n+1,_,h=>by have:=nthOp_is xs n h;simpa using this
theorem takeL {l:List Oper} {oi:Oper} {v:Value} {fuel:Nat} {listed:Array Bool} {a:Act} {w:World} (i:Nat) (hi:nthOp l i=some oi)
  (hs:Region.noSelect l.toArray=true) (hf:Region.free md l.toArray listed i=true) (hr:(Region.ready md l.toArray listed).contains i=true)
  (hQ:∀ c a w,Q (.panic c) (a.put oi.dst v) w→Q (.panic c) a w) (hS:S w) (hw:Region.wanted oi (yielded l.toArray a.tmps)=true) (hy:∀ w,S w→(execOp a.eval oi).run P w=.ok (.value v) w)
  (h:wpAnyH P md l.toArray Q S fuel (listed.setIfInBounds i true) (a.put oi.dst v) w):wpAnyH P md l.toArray Q S (fuel+1) listed a w:=
 wpAnyH_take (nthOp_is l i hi) hs hf hr hQ (.inl ⟨hw,hy⟩) hS h
theorem consL {l:List Oper} {fuel:Nat} {listed:Array Bool} {a:Act} {w:World} {i:Nat} {o:Oper} {rs:List Nat} (ho:nthOp l i=some o)
  (h:∀ K:Act→World→Prop,Shut (∀ a w,S w→(S w→wpAnyH P md l.toArray Q S fuel (listed.setIfInBounds i true) a w)→K a w)→
    if Region.wanted o (yielded l.toArray a.tmps)=true then Oper.wp P o a w K Q else K (a.put o.dst undef) w)
  (hs:AllReadyH P md l.toArray Q S fuel listed a w rs):AllReadyH P md l.toArray Q S fuel listed a w (i::rs):=
 AllReadyH.cons (nthOp_is l i ho) h hs
end
end Go.Proofs.YtbopfhbeegkkaabGreatDoor
