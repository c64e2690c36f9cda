/- Part 1 of a proof: lemmas and contracts that other parts use. -/
import Derived.WalkKit
import Derived.WalkSpells
import Derived.WalkLawsBesides
import Derived.BigQuiet
import Derived.StillTailTactics
import Derived.Deep.RegionWith
import Derived.Test.YtbopfhbeegkkaabGreatDoorRows
import Derived.LaidEql
import Derived.Stop.Asserts
set_option linter.defProp false
set_option linter.unusedVariables false
set_option linter.unusedSimpArgs false
set_option maxHeartbeats 4000000
set_option maxRecDepth 100000
namespace Go.Proofs.YtbopfhbeegkkaabGreatDoor
open Go.RowKit Go.Proofs.Tryz
theorem zac {p:Prop}(h:p):Hid p:=h
structure zks where
 blocks:Array Obj
 drawn:Nat
instance : Inhabited zks := ⟨⟨#[], 0⟩⟩
def zai (w:World) (x:zks):World:={ w with heap:=w.heap++x.blocks,drawn:=x.drawn }
class zaj (n:Nat) (w:World):Prop where
 out:n≤w.heap.size
instance zaj.self (w : World) : zaj w.heap.size w := ⟨Nat.le_refl _⟩
instance zaj.alloc_new (n : Nat) (w : World) (o : Obj) [h : zaj n w] : zaj (n + 1) (w.alloc o) := ⟨by simpa using h.out⟩
instance zaj.alloc (n : Nat) (w : World) (o : Obj) [h : zaj n w] : zaj n (w.alloc o) := ⟨by have := h.out; simp; omega⟩
instance zaj.setCell (n : Nat) (w : World) (a : Addr) (v : Value) [h : zaj n w] : zaj n (w.setCell a v) := ⟨by simpa using h.out⟩
instance zaj.drew (n : Nat) (w : World) [h : zaj n w] : zaj n w.drew := ⟨h.out⟩
instance zaj.drewN (n k : Nat) (w : World) [h : zaj n w] : zaj n (w.drewN k) := ⟨h.out⟩
instance zaj.plus (n : Nat) (w : World) (x : zks) [h : zaj n w] : zaj n (zai w x) := ⟨by have := h.out; simp[zai]; omega⟩
instance zaj.plus_self (n : Nat) (w : World) (x : zks) [h : zaj n w] : zaj (n + x.blocks.size) (zai w x) := ⟨by have := h.out; simp[zai]; omega⟩
theorem zak (w:World) (x:zks) (k:Nat) (h:k<w.heap.size):(zai w x).heap[k]?=w.heap[k]?:=by
 simp only[zai];rw[Array.getElem?_append_left h]
section
variable (w:World) (x y:zks) (b o:Nat) (s:Option Nat) [h:zaj (b+1) w]
@[simp, go_sem] theorem wplus_size : (zai w x).heap.size = w.heap.size + x.blocks.size := by simp[zai]
@[simp, go_sem] theorem wplus_tape : (zai w x).tape = w.tape := rfl
@[simp, go_sem] theorem wplus_heap : (zai w x).heap[b]? = w.heap[b]? := zak w x b h.out
@[simp, go_sem] theorem wplus_cell : (zai w x).cell? ⟨b, o, s⟩ = w.cell? ⟨b, o, s⟩ :=
  World.cell?_of_block (w:=w) (zak w x b h.out)
@[simp, go_sem] theorem wplus_frozen : (zai w x).frozen? ⟨b, o, s⟩ = w.frozen? ⟨b, o, s⟩ :=
  World.frozen?_of_block (w:=w) (zak w x b h.out)
@[go_sem] theorem zfk(ob : Obj) : (w.alloc ob).cell? ⟨b, o, s⟩ = w.cell? ⟨b, o, s⟩ := World.cell?_alloc_lt w ob ⟨b, o, s⟩ h.out
@[go_sem] theorem alloc_frozen(ob : Obj) : (w.alloc ob).frozen? ⟨b, o, s⟩ = w.frozen? ⟨b, o, s⟩ :=
  World.frozen?_alloc_old w ob ⟨b,o,s⟩ (Nat.ne_of_lt h.out)
@[go_sem] theorem alloc_setCell(ob : Obj) (v : Value) : (w.alloc ob).setCell ⟨b, o, none⟩ v = (w.setCell ⟨b, o, none⟩ v).alloc ob := World.setCell_alloc_past ob b o v h.out
@[simp, go_sem] theorem wplus_shape : (zai w x).shape? b = w.shape? b := by
  unfold World.shape?;rw[zak w x b h.out]
@[simp, go_sem] theorem setCell_wplus (v : Value) : (zai w x).setCell ⟨b, o, s⟩ v = zai (w.setCell ⟨b, o, s⟩ v) x := by
  have hb:b<w.heap.size:=h.out;simp only[World.setCell,zai,World.mk.injEq,and_self,and_true];apply Array.ext_getElem?;intro i;rw[Array.getElem?_modify,Array.getElem?_append,Array.getElem?_append,Array.size_modify,Array.getElem?_modify];by_cases hi:i<w.heap.size
  ·simp only[hi,if_true]
  ·simp only[hi,if_false]
   rw[if_neg (by omega)]
theorem wplus_wplus:zai (zai w x) y=zai w ⟨x.blocks++y.blocks,y.drawn⟩:=by
 simp[zai,Array.append_assoc]
end
theorem zax (w:World) (x:zks):Below w.heap.size w (zai w x):=
 ⟨rfl,rfl,rfl,by simp,fun k h=>zak w x k h⟩
theorem zal {B:Nat}{w W:World}{o:Obj} [hs:zaj B W] (h:Below B w W):Below B w (W.alloc o):=h.alloc hs.out o
theorem zaD {B:Nat}{w W:World}{x:zks} [hs:zaj B W] (h:Below B w W):Below B w (zai W x):=
 h.trans ((zax W x).mono hs.out)
theorem zad {w w':World}(h:Below w.heap.size w w'):∃ x,w'=zai w x:=by
 refine⟨⟨w'.heap.extract w.heap.size w'.heap.size,w'.drawn⟩,?_⟩;obtain⟨h1,h2,h3,h4,h5⟩:=h;cases w with|mk hp tp dr os out=>
 cases w' with|mk hp' tp' dr' os' out'=>
 simp only at h1 h2 h3 h4 h5;subst h1 h2 h3;simp only[zai,World.mk.injEq,and_self,and_true];apply Array.ext_getElem?;intro i;by_cases hi:i<hp.size
 ·rw[h5 i hi,Array.getElem?_append_left hi]
 ·rw[Array.getElem?_append_right (by omega),Array.getElem?_extract]
  by_cases hj:i<hp'.size
  ·rw[if_pos (by omega)];congr 1;omega
  ·rw[if_neg (by omega),Array.getElem?_eq_none (by omega)]
@[go_sem] def zfe(d : Nat) (e : TypeId) (n : Nat) (xs ys : Array Value) : List Nat → Sem Bool
  | []=>pure true
  | i::is=>do
    let a ←part e xs (i*n)
    let b ←part e ys (i*n)
    let r ←Op.equalIn d e a b
    if(!r)=true then pure false else zfe d e n xs ys is
section
variable {P:Program}(w:World)
theorem ze4 (d:Nat) (t e:TypeId) (len n:Nat) (xs ys:Array Value) (ht:P.underlying t=some (.array len e)) (hs:∀ w,(sizeOf e).run P w=.ok n w):
  (Op.equalIn (d+1) t (.agg xs) (.agg ys)).run P w=(zfe d e n xs ys (List.range' 0 len)).run P w:=by
 simp only[Op.equalIn,Sem.run_bind,run_underlying ht,Result.andThen_ok,hs];rw[Std.Legacy.Range.forIn_eq_forIn_range'];simp only[Std.Legacy.Range.size,Nat.sub_zero,Nat.add_sub_cancel,Nat.div_one];generalize List.range' 0 len=is;clear ht
 induction is generalizing w with
 | nil=>simp[zfe]
 | cons f fs ih=>
   simp only[List.forIn_cons,zfe,Sem.run_bind,Sem.run_ite];generalize (part e xs (f*n)).run P w=r1;cases r1 with
   | ok a w1=>
     simp only[Result.andThen_ok];generalize (part e ys (f*n)).run P w1=r2;cases r2 with
     | ok b w2=>
       simp only[Result.andThen_ok];generalize (Op.equalIn d e a b).run P w2=r3;cases r3 with
       | ok r w3=>
         cases r
         ·simp only[Result.andThen_ok,Bool.not_false,if_true,Sem.run_pure]
         ·simp only[Result.andThen_ok,Bool.not_true,Bool.false_eq_true,if_false,Sem.run_pure]
          exact ih w3
       | halt x w3=>simp[Result.andThen]
     | halt x w2=>simp[Result.andThen]
   | halt x w1=>simp[Result.andThen]
theorem zfz (d:Nat) (t e:TypeId) (k:IntKind) (a0 a1 a2 a3 b0 b1 b2 b3:Int) (ht:P.underlying t=some (.array 4 e)) (hs:∀ w,(sizeOf e).run P w=.ok 1 w) (he:P.underlying e=some (.int k)):
  (Op.equalIn (d+2) t (.agg #[.int k a0,.int k a1,.int k a2,.int k a3]) (.agg #[.int k b0,.int k b1,.int k b2,.int k b3])).run P w=.ok (a0==b0&&a1==b1&&a2==b2&&a3==b3) w:=by
 rw[ze4 w (d+1) t e 4 1 _ _ ht hs,show List.range' 0 4=[0,1,2,3]from rfl];simp[zfe,part,isAgg,run_underlying he,run_equalIn_int w d e k k _ _ he];by_cases h0:a0=b0 <;> by_cases h1:a1=b1 <;> by_cases h2:a2=b2 <;> by_cases h3:a3=b3 <;> simp[h0,h1,h2,h3,zfe,part,isAgg,run_underlying he,run_equalIn_int _ d e k k _ _ he]
end
section
variable {P:Program}
theorem zaA {id:Nat}{Q:Exit→Act→World→Prop}{a:Act}{w:World}{l:List Oper}(hm:P.follows .mixedOrders=true) (hB:Region.lexB .any l.toArray=true)
  (h:wpQuiet P l.toArray (fun w'=>∃ x,w'=zai w x) (fun a'=>∀ w',(∃ x,w'=zai w x)→Q .normal a' w') l a):(Code.region id l.toArray true).wp P Q a w:=
 wp_region_quiet (C:=fun w'=>∃ x,w'=zai w x) hm hB ⟨⟨#[],w.drawn+1⟩,by simp[zai]⟩ (by simpa using h)
theorem Calls.plus_of {f:FuncId}{args:Array Value}{w:World}{x:zks}{v:Value}
  (h:Calls P f args (zai w x) fun e w'=>e=.returned v∧Below (zai w x).heap.size (zai w x) w'):Calls P f args (zai w x) fun e w''=>e=.returned v∧∃ y,w''=zai w y:=
 h.mono fun _ _ ⟨he,hm⟩=>⟨he,by obtain⟨y,rfl⟩:=zad hm;exact⟨_,wplus_wplus _ _ _⟩⟩
theorem Calls.plus_same {f:FuncId}{args:Array Value}{w:World}{x:zks}{v:Value}
  (h:Calls P f args (zai w x) fun e w'=>e=.returned v∧zai w x=w'):Calls P f args (zai w x) fun e w''=>e=.returned v∧∃ y,w''=zai w y:=
 h.mono fun _ _ ⟨he,hm⟩=>⟨he,⟨_,hm.symm⟩⟩
def wpHd (P:Program) (md:Region.Mode) (ops:Array Oper) (C:World→Prop) (n:Nat) (L:Array Bool→Act→Prop):Nat→Array Bool→Act→Prop
 | 0,listed,a=>L listed a
 | f+1,listed,a=>
   Region.ready md ops listed≠[]∧∀ i∈Region.ready md ops listed,i<n∧qOp P ops C i (wpHd P md ops C n L f (listed.setIfInBounds i true)) a
theorem zfW {md:Region.Mode}{ops:Array Oper}{C:World→Prop}{n g:Nat}{L:Array Bool→Act→Prop}{Q':Exit→Act→World→Prop}
  (hL:∀ listed a w,C w→L listed a→wpAny P md ops Q' g listed a w):
  ∀ (f:Nat) (listed:Array Bool) (a:Act) (w:World),C w→wpHd P md ops C n L f listed a→wpAny P md ops Q' (f+g) listed a w
 | 0,listed,a,w,hw,h=>by rw[Nat.zero_add];exact hL _ _ _ hw h
 | f+1,listed,a,w,hw,h=>by
   rw[show f+1+g=(f+g)+1 by omega];exact⟨fun h0=>absurd h0 h.1,fun i hi=>wpOp_of_qOp hw (fun a' w' hw' h'=>zfW hL f _ a' w' hw' h') (h.2 i hi).2⟩
theorem zkw {md:Region.Mode}{ops:Array Oper}{C:World→Prop}{n i:Nat}{oi:Oper}{v:Value}{L:Array Bool→Act→Prop}(hi:ops[i]?=some oi)
  (hsel:∀ (j:Nat) (o:Oper) cs b,ops[j]?=some o→o.op≠.select cs b)
  (hs:Region.sinkB md ops n=true) (hc:Region.chainB md ops n=true) (hn:n<ops.size) (hin:i<n)
  (hdone:∀ listed a,L listed a→∀ j∈Region.ready md ops listed,n≤j):
  ∀ (f:Nat) (listed:Array Bool) (a:Act),HeadInv md ops n listed→
    (∀ j oj,ops[j]?=some oj→j≠i→listed.getD j true=false→(∀ e∈oj.after,Region.binds md e=true→e.on≠i)→oi.apart ops oj=true)→
    i∈Region.ready md ops listed→YieldsIn P ops C oi v a→
    wpHd P md ops C n L f (listed.setIfInBounds i true) (a.put oi.dst v)→wpHd P md ops C n L (f+1) listed a:=by
 have early:∀ listed,HeadInv md ops n listed→listed.getD i true=false→∀ j∈Region.ready md ops listed,j<n:=fun listed inv hun j hj=>by
  rcases Nat.lt_or_ge j n with h|h
  ·exact h
  ·exact absurd hj (tail_waits hs hc hn inv _ i rfl hin hun j h)
 intro f
 induction f with
 | zero=>
   intro listed a inv _ hr hy H;refine⟨fun h=>(by rw[h]at hr;cases hr),fun j hj=>?_⟩;have hjn:=early listed inv (mem_ready.1 hr).1 j hj;refine⟨hjn,?_⟩;by_cases hji:j=i
   ·subst hji;exact hy.qOp hi H
   ·have:=hdone _ _ H j (ready_mono hj hji)
    omega
 | succ f ih=>
   intro listed a inv hfree hr hy H;refine⟨fun h=>(by rw[h]at hr;cases hr),fun j hj=>?_⟩;have hjn:=early listed inv (mem_ready.1 hr).1 j hj;refine⟨hjn,?_⟩;by_cases hji:j=i
   ·subst hji;exact hy.qOp hi H
   ·have h1:=(H.2 j (ready_mono hj hji)).2
    obtain⟨hjun,oj,hoj,hall⟩:=mem_ready.1 hj;have hnot:∀ e∈oj.after,Region.binds md e=true→e.on≠i:=fun e he hb heq=>by
     have h2:=hall e he hb;rw[heq,getD_both (mem_ready.1 hr).1]at h2;cases h2
    have h2:=qOp_put hoj (hfree j oj hoj hji hjun hnot) (fun cs b=>hsel i oi cs b hi) (fun cs b=>hsel j oj cs b hoj) hy h1;refine qOp_mono (fun a' h3=>ih (listed.setIfInBounds j true) a' (inv.set hj hjn) (fun k ok hk hki hun hno=>hfree k ok hk hki ?_ hno) (ready_mono hr (Ne.symm hji)) h3.1 ?_) h2
    ·by_cases hjk:j=k
     ·subst hjk;exact hjun
     ·rw[getD_set_ne true hjk]at hun;exact hun
    ·rw[Array.setIfInBounds_comm _ _ hji]
     exact h3.2
theorem zj7 {md:Region.Mode}{ops:Array Oper}{C:World→Prop}{n g:Nat}{Lq:Act→Prop}(hsel:Region.noSelect ops=true) (hs:Region.sinkB md ops n=true) (hc:Region.chainB md ops n=true) (hn:n<ops.size):
  ∀ (l:List Oper) (k:Nat) (listed:Array Bool) (a:Act),(∀ j,j<l.length→l[j]?=ops[k+j]?)→k+l.length=n→HeadInv md ops n listed→
  Region.lexHead md ops g l.length k listed=true→wpQuiet P ops C Lq l a→
  wpHd P md ops C n (fun listed' a'=>Region.seqB md ops g n listed'=true∧Lq a') l.length listed a
 | [],k,listed,a,_,hk,_,hB,h=>by
   have:k=n:=by simpa using hk
   subst this;exact⟨by simpa[Region.lexHead]using hB,h⟩
 | o::l,k,listed,a,hl,hk,inv,hB,h=>by
   have h0:ops[k]?=some o:=by simpa using (hl 0 (by simp)).symm
   simp only[List.length_cons,Region.lexHead,Bool.and_eq_true]at hB;obtain⟨⟨hr,hf⟩,hB'⟩:=hB;have hkn:k<n:=by simp only[List.length_cons]at hk;omega
   have hr':k∈Region.ready md ops listed:=by simpa using hr
   have hst:qOp P ops C k (wpQuiet P ops C Lq l) a:=by unfold qOp;simp only[h0];exact h
   obtain⟨v,hy,hK⟩:=yieldsIn_of_qOp h0 hst;exact zkw h0 (Region.noSelect_spec hsel) hs hc hn hkn (fun listed' a' hL=>seqB_ready hL.1) l.length listed a inv (Region.free_spec h0 hf) hr' hy
    (zj7 hsel hs hc hn l (k+1) _ _ (fun j hj=>by have:=hl (j+1) (by simp;omega);simpa[Nat.add_assoc,Nat.add_comm 1 j]using this) (by simp only[List.length_cons]at hk;omega) (inv.set hr' hkn) hB' hK)
theorem zas {id:Nat}{Q:Exit→Act→World→Prop}{a:Act}{w:World}{l:List Oper}(n:Nat) (hm:P.follows .mixedOrders=true) (hB:Region.lexTailB .any l.toArray n=true)
  (h:wpQuiet P l.toArray (fun w'=>∃ x,w'=zai w x) (fun a'=>∀ w',(∃ x,w'=zai w x)→wpList P l.toArray Q (l.drop n) a' w') (l.take n) a):(Code.region id l.toArray true).wp P Q a w:=by
 simp only[Region.lexTailB,Bool.and_eq_true,decide_eq_true_eq]at hB;obtain⟨⟨⟨⟨hsel,hn⟩,hs⟩,hc⟩,hlex⟩:=hB;have hn':n<l.length:=by simpa using hn
 have htl:(l.take n).length=n:=by simp;omega
 have hdl:(l.drop n).length=l.toArray.size-n:=by simp
 have inv0:HeadInv .any l.toArray n (Array.replicate l.toArray.size false):=
  ⟨by simp,fun j oj _ hl=>(by rw[getD_replicate_false]at hl;cases hl),fun t _ ht=>getD_in (by simpa using ht) (getD_replicate_false _ _)⟩
 have H:=zj7 (md:=.any) (g:=l.toArray.size-n) hsel hs hc hn (l.take n) 0 _ a (fun j hj=>by
  have hj':j<n:=by rw[htl]at hj;exact hj
  simp[hj']) (by simpa using htl) inv0 (by rw[htl];exact hlex) h
 refine wp_region_any hm ?_;have:=zfW (Q':=Q) (g:=l.toArray.size-n) (fun listed a' w' hw' hL=>by
  have:=wpAny_of_seq (md:=.any) (Q':=Q) (l.drop n) n listed a' w' (fun j=>by simp[List.getElem?_drop]) (by rw[hdl];exact hL.1) (hL.2 w' hw');rwa[hdl]at this) _ _ _ { w with drawn:=w.drawn+1 } ⟨⟨#[],w.drawn+1⟩,by simp[zai]⟩ H
 rw[htl,show n+(l.toArray.size-n)=l.toArray.size by omega]at this;exact this
end
theorem zO {p:Prop}(h:p:=by omega):p:=h
theorem zK {p:Prop}(h:p:=by kernel_rfl):p:=h
theorem zJ {p:Prop}(h:p:=by as_aux_lemma=>kernel_rfl):p:=h
theorem zS {p:Prop}(h:p:=by simp):p:=h
theorem zP {p:Prop}(h:p:=by simp;omega):p:=h
theorem zN {p:Prop}(h:p:=by simp <;> omega):p:=h
theorem zI {p:Prop}(h:p:=by decide):p:=h
theorem zB {p:Prop}(h:p:=by repeat(first|exact Below.refl _ _|refine zal ?_|refine zaD ?_|refine Below.drew ?_)):p:=h
theorem zT {p:Prop} [Decidable p] (h:p:=by omega):decide p=true:=decide_eq_true h
theorem zU {p:Prop} [Decidable p] (h:¬p:=by omega):decide p=false:=decide_eq_false h
theorem zV {p:Prop}(h:p:=by repeat(first|exact HB7.out|exact HB6.out|exact Below.refl _ _|refine Below.drew ?_|refine zal ?_)):p:=h
theorem zM {p:Prop}(h:p:=by simp[Act.eval,Act.put]):p:=h
instance : CoeHead World Nat := ⟨fun w => w.heap.size⟩
instance : Coe Int Value := ⟨fun n => .int .i64 n⟩
instance : Coe Nat Value := ⟨fun n => .int .i64 (n : Int)⟩
abbrev ii (n:Int):Value:=.int .i64 n
theorem zdd {P:Program}{ops:Array Oper}{C:World→Prop}{Q K:Act→Prop}(h:∀ a,Q a→K a):∀ (l:List Oper) (a:Act),wpQuiet P ops C Q l a→wpQuiet P ops C K l a
 | [],a,hh=>h a hh
 | o::rest,a,hh=>by
   unfold wpQuiet at *;split
   ·rename_i hw;simp only[hw,if_true]at hh;exact Oper.quiet_mono (fun a=>zdd h rest a) hh
   ·rename_i hw;simp only[hw]at hh;exact zdd h rest _ hh
theorem zaw {P:Program}{id:Nat}{Q:Exit→Act→World→Prop}{a a':Act}{w:World}{l:List Oper}(h:∀ x,Q .normal a' (zai w x)) (hm:P.follows .mixedOrders=true:=by kernel_rfl) (hB:Region.lexB .any l.toArray=true:=by kernel_rfl)
  (hq:wpQuiet P l.toArray (fun w'=>∃ x,w'=zai w x) (fun b=>b=a') l a:=by(repeat(first|go_big_quiet_skip|(go_big_quiet_want;go_big_quiet_op;first|go_big_quiet_on)));exact wpQuiet_nil rfl):(Code.region id l.toArray true).wp P Q a w:=
 zaA hm hB (zdd (fun b e w' e2=>by obtain⟨x,rfl⟩:=e2;subst e;exact h x) l a hq)
theorem zaz {P:Program}{id:Nat}{Q:Exit→Act→World→Prop}{a a':Act}{w:World}{l:List Oper}(h:∀ x,Q .normal a' (zai w x)) (hm:P.follows .mixedOrders=true:=by kernel_rfl) (hB:Region.lexB .any l.toArray=true:=by kernel_rfl)
  (hq:wpQuiet P l.toArray (fun w'=>∃ x,w'=zai w x) (fun b=>b=a') l a:=by(repeat(first|go_big_quiet_skip|(go_big_quiet_want;go_big_quiet_op;first|go_big_quiet_on|(apply Exists.intro;refine⟨fun _=>?_,?_⟩;(first|(go_at_call 135;exact Calls.plus_of (HS.out _))|(go_at_call 77;first|with_reducible exact Calls.plus_of (HR.out _)|with_reducible exact Calls.plus_of (HRV.out _))|(go_at_call 105;first|with_reducible exact Calls.plus_same (HPK.out _)|with_reducible exact Calls.plus_same (HP1.out _)|with_reducible exact Calls.plus_same (HP2.out _)|with_reducible exact Calls.plus_same (HP3.out _)|with_reducible exact Calls.plus_same (HP4.out _)|with_reducible exact Calls.plus_same (HP5.out _)|with_reducible exact Calls.plus_same (HP6.out _)|with_reducible exact Calls.plus_same (HP7.out _)|with_reducible exact Calls.plus_same (HP8.out _)|with_reducible exact Calls.plus_same (HP9.out _))|(go_at_call 96;first|with_reducible exact Calls.plus_same (HI.out _)|with_reducible exact Calls.plus_same (HI1.out _)|with_reducible exact Calls.plus_same (HI2.out _)|with_reducible exact Calls.plus_same (HI3.out _))|(go_at_call 73;exact Calls.plus_of (HCV.out _))|(go_at_call 82;exact Calls.plus_of (HR4.out _ (zax _ _)))|(go_at_call 141;exact Calls.plus_of (HBF.out _))|(go_at_call 114;exact Calls.plus_of (HC.out _))|(go_at_call 72;exact Calls.plus_of (HRV.out _))|(go_at_call 55;exact Calls.plus_of (HCV.out _))|(go_at_call 86;exact Calls.plus_of (HRT.out _ (by repeat(first|exact Below.refl _ _|refine zal ?_|refine zaD ?_|refine Below.drew ?_))))|(go_at_call 19;exact Calls.plus_of (HMX.out _))|(go_at_call 23;exact Calls.plus_of (HMN.out _))|(go_at_call 177;exact Calls.plus_of (HC.out _))|(go_at_call 89;exact Calls.plus_of (HMN.out _)));go_big_quiet_on))));exact wpQuiet_nil rfl):(Code.region id l.toArray true).wp P Q a w:=
 zaA hm hB (zdd (fun b e w' e2=>by obtain⟨x,rfl⟩:=e2;subst e;exact h x) l a hq)
theorem tailQ {P:Program}{id:Nat}{Q:Exit→Act→World→Prop}{a a':Act}{w:World}{l hd tl:List Oper}(n:Nat) (h:∀ x,wpList P l.toArray Q tl a' (zai w x)) (hm:P.follows .mixedOrders=true) (hB:Region.lexTailB .any l.toArray n=true) (e1:l.take n=hd) (e2:l.drop n=tl)
  (hq:wpQuiet P l.toArray (fun w'=>∃ x,w'=zai w x) (fun b=>b=a') hd a):(Code.region id l.toArray true).wp P Q a w:=
 zas n hm hB (by rw[e1,e2];exact zdd (fun b e w' e2=>by obtain⟨x,rfl⟩:=e2;subst e;exact h x) hd a hq)
theorem zb9 {P:Program}{id:Nat}{Q:Exit→Act→World→Prop}{a a':Act}{w:World}{l hd tl:List Oper}(n:Nat) (h:∀ x,wpList P l.toArray Q tl a' (zai w x)) (hm:P.follows .mixedOrders=true:=by kernel_rfl) (hB:Region.lexTailB .any l.toArray n=true:=by kernel_rfl) (e1:l.take n=hd:=by(try simp only[List.take_succ_cons,List.take_zero]) <;> exact rfl) (e2:l.drop n=tl:=by(try simp only[List.drop_succ_cons,List.drop_zero]) <;> exact rfl)
  (hq:wpQuiet P l.toArray (fun w'=>∃ x,w'=zai w x) (fun b=>b=a') hd a:=by(repeat(first|go_big_quiet_skip|(go_big_quiet_want;go_big_quiet_op;first|go_big_quiet_on|(apply Exists.intro;refine⟨fun _=>?_,?_⟩;(first|(go_at_call 135;exact Calls.plus_of (HS.out _))|(go_at_call 77;first|with_reducible exact Calls.plus_of (HR.out _)|with_reducible exact Calls.plus_of (HRV.out _))|(go_at_call 105;first|with_reducible exact Calls.plus_same (HPK.out _)|with_reducible exact Calls.plus_same (HP1.out _)|with_reducible exact Calls.plus_same (HP2.out _)|with_reducible exact Calls.plus_same (HP3.out _)|with_reducible exact Calls.plus_same (HP4.out _)|with_reducible exact Calls.plus_same (HP5.out _)|with_reducible exact Calls.plus_same (HP6.out _)|with_reducible exact Calls.plus_same (HP7.out _)|with_reducible exact Calls.plus_same (HP8.out _)|with_reducible exact Calls.plus_same (HP9.out _))|(go_at_call 96;first|with_reducible exact Calls.plus_same (HI.out _)|with_reducible exact Calls.plus_same (HI1.out _)|with_reducible exact Calls.plus_same (HI2.out _)|with_reducible exact Calls.plus_same (HI3.out _))|(go_at_call 73;exact Calls.plus_of (HCV.out _))|(go_at_call 82;exact Calls.plus_of (HR4.out _ (zax _ _)))|(go_at_call 141;exact Calls.plus_of (HBF.out _))|(go_at_call 114;exact Calls.plus_of (HC.out _))|(go_at_call 72;exact Calls.plus_of (HRV.out _))|(go_at_call 55;exact Calls.plus_of (HCV.out _))|(go_at_call 86;exact Calls.plus_of (HRT.out _ (by repeat(first|exact Below.refl _ _|refine zal ?_|refine zaD ?_|refine Below.drew ?_))))|(go_at_call 19;exact Calls.plus_of (HMX.out _))|(go_at_call 23;exact Calls.plus_of (HMN.out _))|(go_at_call 177;exact Calls.plus_of (HC.out _))|(go_at_call 89;exact Calls.plus_of (HMN.out _)));go_big_quiet_on))));exact wpQuiet_nil rfl):(Code.region id l.toArray true).wp P Q a w:=
 tailQ n h hm hB e1 e2 hq
theorem zC {α:Type _}{l:List α}{i:Nat}:l.toArray[i]?=l[i]?:=List.getElem?_toArray
theorem zD {α:Type _}{a:α}{l:List α}:(a::l)[0]?=some a:=List.getElem?_cons_zero
theorem zE {α:Type _}{a:α}{l:List α}{i:Nat}:(a::l)[i+1]?=l[i]?:=List.getElem?_cons_succ
theorem zF {α:Type _}{l:List α}{i:Nat}{a:α}:l.toArray.setIfInBounds i a=(l.set i a).toArray:=List.setIfInBounds_toArray ..
theorem zG {α:Type _}{x a:α}{l:List α}:(x::l).set 0 a=a::l:=List.set_cons_zero
theorem zH {α:Type _}{x a:α}{l:List α}{i:Nat}:(x::l).set (i+1) a=x::l.set i a:=List.set_cons_succ
def zho (x y:Int):Int:=if x<y then -1 else if y<x then 1 else 0
def orI (x y:Int):Int:=if x=0 then y else x
def zc1 (aw ac bw bc:Int):Int:=orI (zho aw bw) (zho ac bc)
def zav (w c:Int):Bool:=decide (0≤w)&&decide (w≤1099511627776)&&decide (0≤c)&&decide (c≤1099511627776)
theorem cmpI_lt {x y:Int}(h:x<y):zho x y=-1:=by simp[zho,h]
theorem cmpI_gt {x y:Int}(h:y<x):zho x y=1:=by unfold zho;rw[if_neg zO,if_pos h]
theorem cmpI_eq {x y:Int}(h:¬x<y) (h':¬y<x):zho x y=0:=by simp[zho,h,h']
theorem zjG (x:Int) (w:World):Calls prog 189 #[x] w fun e w'=>e=.returned (.bool false)∧w=w':=by
 go_enter func189,ntmps189;go_wp2;go_ret;exact⟨zS,rfl⟩
theorem cmp_any (x y:Int) (w:World):Calls prog 153 #[x,y] w fun e w'=>e=.returned (ii (zho x y))∧w=w':=by
 by_cases h:x<y
 ·rw[cmpI_lt h]
  go_enter func153,ntmps153;go_wp2_with (go_at_call 189;refine(zjG _ _).mono ?_;rintro e w' ⟨rfl,rfl⟩);go_ret;exact⟨rfl,rfl⟩
 by_cases h':y<x
 ·rw[cmpI_gt h']
  go_enter func153,ntmps153;go_wp2_with (go_at_call 189;refine(zjG _ _).mono ?_;rintro e w' ⟨rfl,rfl⟩);go_ret;exact⟨rfl,rfl⟩
 ·rw[cmpI_eq h h']
  go_enter func153,ntmps153;go_wp2_with (go_at_call 189;refine(zjG _ _).mono ?_;rintro e w' ⟨rfl,rfl⟩);go_ret;exact⟨rfl,rfl⟩
theorem or_any (x y:Int) (b c:Nat) (w:World) (h0:w.cell? ⟨b,0,none⟩=some (ii x)) (h1:w.cell? ⟨b,1,none⟩=some (ii y)):
  Calls prog 152 #[.slice (some ⟨b,0,none⟩) 2 c] w fun e w'=>e=.returned (ii (orI x y))∧w=w':=by
 by_cases hx:x=0
 ·have e1:orI x y=y:=by simp[orI,hx]
  rw[e1];clear e1;subst hx;by_cases hy:y=0
  ·subst hy
   go_enter func152,ntmps152;go_wp2;refine wp_loop_rounds 3 ?_;rw[rounds_succ];go_wp2;rw[rounds_succ];go_wp2;rw[rounds_succ];go_wp2;go_ret;exact⟨rfl,rfl⟩
  ·have hyb:(y != 0)=true:=by simp[hy]
   go_enter func152,ntmps152;go_wp2;refine wp_loop_rounds 3 ?_;rw[rounds_succ];go_wp2;rw[rounds_succ];go_wp2;go_ret;exact⟨rfl,rfl⟩
 ·have e1:orI x y=x:=by simp[orI,hx]
  rw[e1];clear e1;have hxb:(x != 0)=true:=by simp[hx]
  go_enter func152,ntmps152;go_wp2;refine wp_loop_rounds 3 ?_;rw[rounds_succ];go_wp2;go_ret;exact⟨rfl,rfl⟩
theorem zgu (aw ac bw bc:Int) (w:World):Calls prog 114 #[.agg #[ii aw,ii ac],.agg #[ii bw,ii bc]] w fun e w'=>e=.returned (ii (zc1 aw ac bw bc))∧Below w w w':=by
 go_enter func114,ntmps114;go_wp2;refine zas 10 zK zK ?_;simp only[List.take_succ_cons,List.take_zero,List.drop_succ_cons,List.drop_zero]
 repeat(first|go_big_quiet_skip|(go_big_quiet_want;go_big_quiet_op;first|go_big_quiet_on|(apply Exists.intro;refine⟨fun _=>?_,?_⟩;(first|(go_at_call 153;exact Calls.plus_same (cmp_any _ _ _)));go_big_quiet_on)))
 refine wpQuiet_nil ?_;rintro _ ⟨x,rfl⟩;go_wp2_with fail;refine(or_any (zho aw bw) (zho ac bc) _ _ _ ?_ ?_).mono ?_
 ·simp[go_sem]
 ·simp[go_sem]
 rintro e w' ⟨rfl,rfl⟩;go_wp2;go_ret;exact⟨rfl,zB⟩
theorem zcm (aw ac:Int) (w:World):Calls prog 135 #[.agg #[ii aw,ii ac]] w fun e w'=>e=.returned (.bool (zav aw ac))∧Below w w w':=by
 by_cases ha:aw<0
 ·have e1:zav aw ac=false:=by simp[zav];omega
  rw[e1];clear e1;go_enter func135,ntmps135;go_wp2;go_ret;exact⟨by first|rfl|(simp;omega),zB⟩
 by_cases hb:1099511627776<aw
 ·have e1:zav aw ac=false:=by simp[zav];omega
  rw[e1];clear e1;go_enter func135,ntmps135;go_wp2;go_ret;exact⟨by first|rfl|(simp;omega),zB⟩
 by_cases hc:ac<0
 ·have e1:zav aw ac=false:=by simp[zav];omega
  rw[e1];clear e1;go_enter func135,ntmps135;go_wp2;go_ret;exact⟨by first|rfl|(simp;omega),zB⟩
 by_cases hd:1099511627776<ac
 ·have e1:zav aw ac=false:=by simp[zav];omega
  rw[e1];clear e1;go_enter func135,ntmps135;go_wp2;go_ret;exact⟨by first|rfl|(simp;omega),zB⟩
 have e1:zav aw ac=true:=by simp[zav];omega
 rw[e1];clear e1;go_enter func135,ntmps135;go_wp2;go_ret;exact⟨by first|rfl|(simp;omega),zB⟩
theorem zmR (aw ac bw bc:Int) (w:World):Calls prog 137 #[.agg #[ii aw,ii ac],.agg #[ii bw,ii bc]] w fun e w'=>e=.returned (if zc1 aw ac bw bc<0 then .agg #[bw,bc]else .agg #[aw,ac])∧Below w w w':=by
 generalize hg:zc1 aw ac bw bc=g;have hc:=fun w=>zgu aw ac bw bc w
 rw[hg]at hc;have HC:=zac hc;clear hc hg;by_cases h:g<0
 ·rw[if_pos h]
  go_enter func137,ntmps137;go_wp2_with (go_at_call 114;refine(HC.out _).mono ?_;rintro e w' ⟨rfl,hb⟩;obtain⟨x,rfl⟩:=zad hb;clear hb);exact bodyPost_ret (v:=.agg #[bw,bc]) (by simp[results,results137,go_sem]) rfl ⟨rfl,zB⟩
 ·rw[if_neg h]
  go_enter func137,ntmps137;go_wp2_with (go_at_call 114;refine(HC.out _).mono ?_;rintro e w' ⟨rfl,hb⟩;obtain⟨x,rfl⟩:=zad hb;clear hb);exact bodyPost_ret (v:=.agg #[aw,ac]) (by simp[results,results137,go_sem]) rfl ⟨rfl,zB⟩
theorem next_r1 (aw ac now:Int) (w:World) (hr:zav aw ac=false):
  Calls prog 78 #[.agg #[ii aw,ii ac],now] w fun e w'=>e=.returned (.tuple #[.agg #[ii 0,ii 0],.iface 29 (ii 2)])∧Below w w w':=by
 go_enter func78,ntmps78;go_wp2_with (go_at_call 135;refine(zcm _ _ _).mono ?_;rintro e w' ⟨rfl,hb⟩;obtain⟨x,rfl⟩:=zad hb;clear hb);exact bodyPost_ret (v:=.tuple #[.agg #[ii 0,ii 0],.iface 29 (ii 2)]) (by simp[results,results78,go_sem]) rfl ⟨rfl,zB⟩
theorem next_r2 (aw ac now:Int) (w:World) (hr:zav aw ac=true) (h:now<0):
  Calls prog 78 #[.agg #[ii aw,ii ac],now] w fun e w'=>e=.returned (.tuple #[.agg #[ii 0,ii 0],.iface 29 (ii 2)])∧Below w w w':=by
 go_enter func78,ntmps78;go_wp2_with (go_at_call 135;refine(zcm _ _ _).mono ?_;rintro e w' ⟨rfl,hb⟩;obtain⟨x,rfl⟩:=zad hb;clear hb);exact bodyPost_ret (v:=.tuple #[.agg #[ii 0,ii 0],.iface 29 (ii 2)]) (by simp[results,results78,go_sem]) rfl ⟨rfl,zB⟩
theorem next_r3 (aw ac now:Int) (w:World) (hr:zav aw ac=true) (h0:0≤now) (h:1099511627776<now):
  Calls prog 78 #[.agg #[ii aw,ii ac],now] w fun e w'=>e=.returned (.tuple #[.agg #[ii 0,ii 0],.iface 29 (ii 2)])∧Below w w w':=by
 go_enter func78,ntmps78;go_wp2_with (go_at_call 135;refine(zcm _ _ _).mono ?_;rintro e w' ⟨rfl,hb⟩;obtain⟨x,rfl⟩:=zad hb;clear hb);exact bodyPost_ret (v:=.tuple #[.agg #[ii 0,ii 0],.iface 29 (ii 2)]) (by simp[results,results78,go_sem]) rfl ⟨rfl,zB⟩
theorem next_new (aw ac now:Int) (w:World) (hr:zav aw ac=true) (h0:0≤now) (h1:now≤1099511627776) (h:aw<now):
  Calls prog 78 #[.agg #[ii aw,ii ac],now] w fun e w'=>e=.returned (.tuple #[.agg #[ii now,ii 0],.nilIface])∧Below w w w':=by
 go_enter func78,ntmps78;go_wp2_with (go_at_call 135;refine(zcm _ _ _).mono ?_;rintro e w' ⟨rfl,hb⟩;obtain⟨x,rfl⟩:=zad hb;clear hb);exact bodyPost_ret (v:=.tuple #[.agg #[ii now,ii 0],.nilIface]) (by simp[results,results78,go_sem]) rfl ⟨rfl,zB⟩
theorem zmM (aw ac now:Int) (w:World) (hr:zav aw ac=true) (h0:0≤now) (h1:now≤1099511627776) (h:now≤aw) (hf:(ac==1099511627776)=true):
  Calls prog 78 #[.agg #[ii aw,ii ac],now] w fun e w'=>e=.returned (.tuple #[.agg #[ii 0,ii 0],.iface 29 (ii 12)])∧Below w w w':=by
 go_enter func78,ntmps78;go_wp2_with (go_at_call 135;refine(zcm _ _ _).mono ?_;rintro e w' ⟨rfl,hb⟩;obtain⟨x,rfl⟩:=zad hb;clear hb);exact bodyPost_ret (v:=.tuple #[.agg #[ii 0,ii 0],.iface 29 (ii 12)]) (by simp[results,results78,go_sem]) rfl ⟨rfl,zB⟩
theorem next_inc (aw ac now:Int) (w:World) (hr:zav aw ac=true) (h0:0≤now) (h1:now≤1099511627776) (h:now≤aw) (hf:(ac==1099511627776)=false) (hb:0≤ac∧ac≤1099511627776):
  Calls prog 78 #[.agg #[ii aw,ii ac],now] w fun e w'=>e=.returned (.tuple #[.agg #[ii aw,ii (ac+1)],.nilIface])∧Below w w w':=by
 go_enter func78,ntmps78;go_wp2_with (go_at_call 135;refine(zcm _ _ _).mono ?_;rintro e w' ⟨rfl,hb⟩;obtain⟨x,rfl⟩:=zad hb;clear hb);exact bodyPost_ret (v:=.tuple #[.agg #[ii aw,ii (ac+1)],.nilIface]) (by simp[results,results78,go_sem]) rfl ⟨rfl,zB⟩
theorem zm4 (x y:Int):-1≤zho x y∧zho x y≤1:=by unfold zho;split <;> (try split) <;> omega
theorem cmpS_bd (aw ac bw bc:Int):-1≤zc1 aw ac bw bc∧zc1 aw ac bw bc≤1:=by
 unfold zc1 orI;split
 ·exact zm4 _ _
 ·exact zm4 _ _
theorem zi8 (aw ac bw bc:Int):zc1 aw ac bw bc<0↔(aw<bw∨aw=bw∧ac<bc):=by
 unfold zc1 orI zho;(repeat' split) <;> omega
theorem zi7 (aw ac bw bc:Int):0<zc1 aw ac bw bc↔(bw<aw∨aw=bw∧bc<ac):=by
 unfold zc1 orI zho;(repeat' split) <;> omega
theorem zeS (aw ac bw bc:Int):zc1 aw ac bw bc=0↔(aw=bw∧ac=bc):=by
 unfold zc1 orI zho;(repeat' split) <;> omega
@[go_sem 3000] theorem eqStamp (w : World) (d : Nat) (aw ac bw bc : Int) :
   (Op.equalIn (d+2) 34 (.agg #[aw,ac]) (.agg #[bw,bc])).run prog w=.ok (aw==bw&&ac==bc) w:=by
  rw[run_equalIn_agg w (d+1) _ _ _ zK zK];by_cases h1:aw=bw <;> by_cases h2:ac=bc <;> simp[go_sem,h1,h2]
end Go.Proofs.YtbopfhbeegkkaabGreatDoor
namespace Go.Proofs.YtbopfhbeegkkaabGreatDoor
open Go.RowKit Go.Extern.Stop Go.Stop Go.Extern Go.Proofs.Tryz
theorem valueOfP (t:Addr) (w:World):(ReflectliteValue.unpack (.iface 194 (.pointer (some t)))).run prog w
  = .ok (.agg #[.pointer (some ⟨10,194,none⟩),.pointer (some ⟨w,0,none⟩),.int .u64 150]) (w.alloc (.cells #[.pointer (some t)] 194)):=by kernel_rfl
theorem typeP (a:Addr) (w:World):(ReflectliteValue.methodAny (ReflectliteValue.valueError "reflectlite.Value.Type" 0) (fun t _ _ _=>ReflectliteType.toType t) #[.agg #[.pointer (some ⟨10,194,none⟩),.pointer (some a),.int .u64 150]]).run prog w
  = .ok (.iface 295 (.agg #[.pointer (some ⟨10,194,none⟩)])) w:=by kernel_rfl
theorem kindP (w:World):((ReflectliteType.abiMethod fun t=>(fun a:Nat=>Value.int IntKind.u8 (a:Int)) <$> Rtype.kind t) #[.pointer (some ⟨10,194,none⟩)]).run prog w=.ok (.int .u8 22) w:=by kernel_rfl
theorem kindE (w:World):((ReflectliteType.abiMethod fun t=>(fun a:Nat=>Value.int IntKind.u8 (a:Int)) <$> Rtype.kind t) #[.pointer (some ⟨10,29,none⟩)]).run prog w=.ok (.int .u8 2) w:=by kernel_rfl
theorem rlm (z:Sem Value) (f:TypeId→Addr→Nat→Nat→Sem Value) (v:Value):
  ReflectliteValue.method z f #[v]=(do match ←ReflectliteValue.parts v with|none=>z|some (t,a,fl)=>f t a fl (fl % 32)):=rfl
theorem partsP (a:Addr) (w:World):(ReflectliteValue.parts (.agg #[.pointer (some ⟨10,194,none⟩),.pointer (some a),.int .u64 150])).run prog w=.ok (some (194,a,150)) w:=by kernel_rfl
theorem isNilP (a p:Addr) (W:World) (ha:W.cell? a=some (.pointer (some p))):
  (ReflectliteValue.method (ReflectliteValue.valueError "reflectlite.Value.IsNil" 0) ReflectliteValue.isNil #[.agg #[.pointer (some ⟨10,194,none⟩),.pointer (some a),.int .u64 150]]).run prog W=.ok (.bool false) W:=by
 rw[rlm];simp only[Sem.run_bind,partsP,Result.andThen];simp[ReflectliteValue.isNil,loadVar,isAgg,underlying,underlying194,ha,Result.andThen]
theorem elemP (w:World):(ReflectliteType.method ReflectliteType.elem #[.agg #[.pointer (some ⟨10,194,none⟩)]]).run prog w=.ok (.iface 295 (.agg #[.pointer (some ⟨10,29,none⟩)])) w:=by kernel_rfl
theorem zjL (w:World):(ReflectliteType.relation "Implements" ReflectliteType.implements_ #[.agg #[.pointer (some ⟨10,29,none⟩)],.iface 295 (.agg #[.pointer (some ⟨10,25,none⟩)])]).run prog w=.ok (.bool true) w:=by kernel_rfl
theorem typeOfE (v:Value) (w:World):(ReflectliteType.typeOf #[.iface 29 v]).run prog w=.ok (.iface 295 (.agg #[.pointer (some ⟨10,29,none⟩)])) w:=by kernel_rfl
theorem zjZ (w:World):(ReflectliteType.relation "AssignableTo" ReflectliteType.assignableTo #[.agg #[.pointer (some ⟨10,29,none⟩)],.iface 295 (.agg #[.pointer (some ⟨10,29,none⟩)])]).run prog w=.ok (.bool true) w:=by kernel_rfl
theorem zlf (k:Nat) (h:Value) (w:World):(Go.method (k+1) 295 (.agg #[h]) "Kind").run prog w=.ok (310,h) w:=by kernel_rfl
theorem zlg (k:Nat) (h:Value) (w:World):(Go.method (k+1) 295 (.agg #[h]) "Elem").run prog w=.ok (323,.agg #[h]) w:=by kernel_rfl
theorem zfC (k:Nat) (h:Value) (w:World):(Go.method (k+1) 295 (.agg #[h]) "Implements").run prog w=.ok (324,.agg #[h]) w:=by kernel_rfl
theorem zeP (k:Nat) (h:Value) (w:World):(Go.method (k+1) 295 (.agg #[h]) "AssignableTo").run prog w=.ok (321,.agg #[h]) w:=by kernel_rfl
theorem valueOfE (n:Int) (w:World):(ReflectliteValue.unpack (.iface 29 (ii n))).run prog w
  = .ok (.agg #[.pointer (some ⟨10,29,none⟩),.pointer (some ⟨w,0,none⟩),.int .u64 130]) (w.alloc (.cells #[n] 29)):=by kernel_rfl
theorem elemOfP (w:World):(Rtype.elem? 194).run prog w=.ok (some 29) w:=by kernel_rfl
theorem mkE (p:Addr) (w:World):(ReflectliteValue.mk 29 p ReflectliteValue.flagAddr).run prog w=.ok (.agg #[.pointer (some ⟨10,29,none⟩),.pointer (some p),.int .u64 386]) w:=by kernel_rfl
theorem elemVP (a p:Addr) (W:World) (ha:W.cell? a=some (.pointer (some p))):
  (ReflectliteValue.method (ReflectliteValue.valueError "reflectlite.Value.Elem" 0) ReflectliteValue.elem #[.agg #[.pointer (some ⟨10,194,none⟩),.pointer (some a),.int .u64 150]]).run prog W
    = .ok (.agg #[.pointer (some ⟨10,29,none⟩),.pointer (some p),.int .u64 386]) W:=by
 rw[rlm];simp only[Sem.run_bind,partsP,Result.andThen];simp[ReflectliteValue.elem,loadVar,isAgg,underlying,underlying194,ha,Result.andThen,elemOfP,mkE]
theorem rls (v x:Value):ReflectliteValue.set #[v,x]=(do
  let (some (dst,a,fl),some (src,b,_)):=(←ReflectliteValue.parts v,←ReflectliteValue.parts x)
   | unsupported (.noEntry "extern/(internal/reflectlite.Value).Set.zeroValue")
  if fl / ReflectliteValue.flagAddr % 2==0 then unsupported (.noEntry "extern/(internal/reflectlite.Value).Set.unaddressable")
  let val ←loadVar src b
  if ←Rtype.directlyAssignable dst src then storeVar dst a val
  else if ←Rtype.implements dst src then
   if(←Rtype.kind src)==20 then
    match val with
    | .nilIface=>unsupported (.noEntry "extern/reflectlite: a nil value of one interface type handed on as a value of another")
    | _=>storeVar dst a val
   else storeVar dst a (.iface src val)
  else panicString ("reflectlite.Set: value of type " ++ (←Rtype.spelt src) ++ " is not assignable to type " ++ (←Rtype.spelt dst))
  pure (.tuple #[])):=rfl
theorem partsEa (a:Addr) (w:World):(ReflectliteValue.parts (.agg #[.pointer (some ⟨10,29,none⟩),.pointer (some a),.int .u64 386])).run prog w=.ok (some (29,a,386)) w:=by kernel_rfl
theorem partsE (a:Addr) (w:World):(ReflectliteValue.parts (.agg #[.pointer (some ⟨10,29,none⟩),.pointer (some a),.int .u64 130])).run prog w=.ok (some (29,a,130)) w:=by kernel_rfl
theorem directE (w:World):(Rtype.directlyAssignable 29 29).run prog w=.ok true w:=by kernel_rfl
theorem setE (ta b:Addr) (n:Int) (old:Value) (W:World) (hb:W.cell? b=some (ii n)) (ht:W.cell? ta=some old) (hf:W.frozen? ta=false):
  (ReflectliteValue.set #[.agg #[.pointer (some ⟨10,29,none⟩),.pointer (some ta),.int .u64 386],.agg #[.pointer (some ⟨10,29,none⟩),.pointer (some b),.int .u64 130]]).run prog W
    = .ok (.tuple #[]) (W.setCell ta (ii n)):=by
 rw[rls];simp only[Sem.run_bind,partsEa,partsE,Result.andThen];simp[ReflectliteValue.flagAddr,loadVar,isAgg,underlying,underlying29,hb,Result.andThen,directE,storeVar,Value.cells,storeCells,Addr.add];rw[run_store prog W ta _ _ (by rfl)];simp[ht,hf]
theorem as_hit (n:Int) (t:Nat) (old:Value) (w:World) (hg:w.cell? ⟨0,0,none⟩=some (.iface 295 (.agg #[.pointer (some ⟨10,25,none⟩)]))) (ht0:w.cell? ⟨t,0,none⟩=some old) (hf0:w.frozen? ⟨t,0,none⟩=false):
  Calls prog 115 #[.iface 29 (ii n),.iface 194 (.pointer (some ⟨t,0,none⟩))] w fun ev w'=>ev=.returned (.bool true)∧∃ x,w'=zai (w.setCell ⟨t,0,none⟩ (ii n)) x:=by
 have h6:=@run_callFunc_extern prog 154 _ (fun args=>ReflectliteValue.unpack (args.getD 0 (.tuple #[]))) func154 zK zK zK zK;have h7:=@run_callFunc_extern prog 155 _ (ReflectliteValue.methodAny (ReflectliteValue.valueError "reflectlite.Value.Type" 0) (fun t _ _ _=>ReflectliteType.toType t)) func155 zK zK zK zK;have h8:=@run_callFunc_extern prog 156 _ (ReflectliteValue.method (ReflectliteValue.valueError "reflectlite.Value.IsNil" 0) ReflectliteValue.isNil) func156 zK zK zK zK;have h27:=@run_callFunc_extern prog 310 _ (ReflectliteType.abiMethod fun t=>do pure (.int .u8 (←Rtype.kind t))) func310 zK zK zK zK;have h37:=@run_callFunc_extern prog 323 _ (ReflectliteType.method ReflectliteType.elem) func323 zK zK zK zK;have h38:=@run_callFunc_extern prog 324 _ (ReflectliteType.relation "Implements" ReflectliteType.implements_) func324 zK zK zK zK;have h10:=@run_callFunc_extern prog 190 _ ReflectliteType.typeOf func190 zK zK zK zK;have h35:=@run_callFunc_extern prog 321 _ (ReflectliteType.relation "AssignableTo" ReflectliteType.assignableTo) func321 zK zK zK zK;have h11:=@run_callFunc_extern prog 191 _ (ReflectliteValue.method (ReflectliteValue.valueError "reflectlite.Value.Elem" 0) ReflectliteValue.elem) func191 zK zK zK zK;have h12:=@run_callFunc_extern prog 192 _ ReflectliteValue.set func192 zK zK zK zK;have tO:=typeOfE;have aE:=zjZ;have vE:=valueOfE;have vP:=valueOfP;have tP:=typeP;have kP:=kindP;have kE:=kindE;have eP:=elemP;have iE:=zjL;have mK:=zlf;have mE:=zlg;have mI:=zfC;have mA:=zeP;have hlt:0<w.heap.size:=World.block_lt_of_cell? w _ hg;have htl:t<w.heap.size:=World.block_lt_of_cell? w _ ht0;haveI:zaj (0+1) w:=⟨hlt⟩;haveI:zaj (t+1) w:=⟨htl⟩;have n8:=isNilP ⟨w,0,none⟩ ⟨t,0,none⟩ ((w.alloc (.cells #[.pointer (some ⟨t,0,none⟩)] 194)).alloc (.cells #[.pointer (some ⟨10,194,none⟩),.pointer (some ⟨w,0,none⟩),.int .u64 150] 253)) zS;have el:=elemVP ⟨w,0,none⟩ ⟨t,0,none⟩ (((w.alloc (.cells #[.pointer (some ⟨t,0,none⟩)] 194)).alloc (.cells #[.pointer (some ⟨10,194,none⟩),.pointer (some ⟨w,0,none⟩),.int .u64 150] 253)).alloc (.cells #[.pointer (some ⟨10,194,none⟩),.pointer (some ⟨w,0,none⟩),.int .u64 150] 253)) (by simp[go_sem]);have st:=setE ⟨t,0,none⟩ ⟨w.heap.size+1+1+1,0,none⟩ n old ((((w.alloc (.cells #[.pointer (some ⟨t,0,none⟩)] 194)).alloc (.cells #[.pointer (some ⟨10,194,none⟩),.pointer (some ⟨w,0,none⟩),.int .u64 150] 253)).alloc (.cells #[.pointer (some ⟨10,194,none⟩),.pointer (some ⟨w,0,none⟩),.int .u64 150] 253)).alloc (.cells #[n] 29)) (by simp[go_sem]) (by simp[go_sem,ht0]) (by simp[go_sem,hf0]);go_enter func115,ntmps115;go_wp2;refine wp_loop_rounds 1 ?_;rw[rounds_succ];go_wp2;go_ret;refine⟨rfl,?_⟩;exact zad (by repeat(first|exact Below.refl _ _|refine zal ?_))
def za4 (w:World):Prop:=w.cell? ⟨0,0,none⟩=some (.iface 295 (.agg #[.pointer (some ⟨10,25,none⟩)]))
theorem za4.plus {w w':World}(h:za4 w) (hb:Below w w w'):za4 w':=by
 have hlt:0<w.heap.size:=World.block_lt_of_cell? w _ h;unfold za4;rw[hb.cell (p:=⟨0,0,none⟩) hlt];exact h
theorem tell_nil (w:World):Calls prog 61 #[.nilIface] w fun e w'=>e=.returned (ii 0)∧w=w':=by
 go_enter func61,ntmps61;go_wp2;go_ret;exact⟨rfl,rfl⟩
theorem zkI (n:Int) (w:World) (hg:za4 w):Calls prog 61 #[.iface 29 (ii n)] w fun e w'=>e=.returned (ii n)∧Below w w w':=by
 have hlt:0<w.heap.size:=World.block_lt_of_cell? w _ hg;haveI:zaj (0+1) w:=⟨hlt⟩;go_enter func61,ntmps61;go_wp2_with fail;refine(as_hit n w.heap.size (ii 0) _ ?_ ?_ ?_).mono ?_
 ·rw[zfk];exact hg
 ·simp[go_sem]
 ·simp[go_sem]
 rintro e w' ⟨rfl,x,rfl⟩;go_wp2;go_ret;exact⟨rfl,by repeat(first|exact Below.refl _ _|refine zal ?_|refine zaD ?_)⟩
theorem noAt (n:Int) (xT:TypeId) (w:World):(Instr.typeAssert (.iface 29 (ii n)) xT 223 true).run prog w=.ok (.tuple #[.pointer none,.bool false]) w:=by kernel_rfl
theorem noUnwrap (v:Value) (xT:TypeId) (w:World):(Instr.typeAssert (.iface 29 v) xT 225 true).run prog w=.ok (.tuple #[.nilIface,.bool false]) w:=
 run_typeAssert_lacksB underlying225 zK zK v xT w
theorem bare_nil (w:World):Calls prog 70 #[.nilIface] w fun e w'=>e=.returned (.tuple #[ii 0,.bool true])∧w=w':=by
 go_enter func70,ntmps70;go_wp2_with (go_at_call 61;refine(tell_nil _).mono ?_;rintro e w' ⟨rfl,rfl⟩);refine wp_loop_rounds 1 ?_;rw[rounds_succ];go_wp2;go_ret2;exact⟨rfl,rfl⟩
theorem zlA (n:Int) (w:World) (hg:za4 w):Calls prog 70 #[.iface 29 (ii n)] w fun e w'=>e=.returned (.tuple #[n,.bool true])∧Below w w w':=by
 have nA:=noAt;have nU:=noUnwrap;go_enter func70,ntmps70;go_wp2_with fail;refine(zkI n _ hg).mono ?_;rintro e w' ⟨rfl,hb⟩;obtain⟨x,rfl⟩:=zad hb;clear hb;go_wp2_with fail;refine wp_loop_rounds 1 ?_;rw[rounds_succ];go_wp2;go_ret2;exact⟨rfl,by repeat(first|exact Below.refl _ _|refine zal ?_|refine zaD ?_)⟩
def yaa:=@List.getElem?_eq_getElem
def yab:=@Nat.lt_of_lt_of_le
def yac:=@Nat.le_trans
def yad:=@if_neg
def yae:=@decide_eq_true
def yaf:=@Below.refl
def yag:=@bodyPost_ret
def yah:=@decide_eq_false
def yai:=@Nat.le_refl
def yaj:=@if_pos
def yak:=@List.length_append
def yal:=@World.frozen?_of_block
def yam:=@World.cell?_of_block
def yan:=@List.eq_nil_of_length_eq_zero
def yao:=@List.getElem?_eq_some_iff
def yap:=@decide_eq_true_eq
def yaq:=@List.length_cons
def yar:=@Int.eq_ofNat_of_zero_le
def yas:=@List.setIfInBounds_toArray
def yat:=@List.take_succ_cons
def yau:=@List.drop_succ_cons
def yav:=@Bool.and_eq_true
def yaw:=@List.getElem_mem
def yax:=@List.mem_append
def yay:=@Nat.zero_le
def yaz:=@Option.some.injEq
def yaA:=@List.drop_zero
def yaB:=@List.length_nil
def yaC:=@List.getElem?_append_right
def yaD:=@decide_eq_false_iff_not
def yaE:=@Below.grown
def yaF:=@List.set_cons_zero
def yaG:=@List.set_cons_succ
def yaH:=@Below.mono
def yaI:=@Option.some.inj
def yaJ:=@List.flatMap_append
def yaK:=@List.drop_eq_getElem_cons
def yaL:=@List.length_take
def yaM:=@wpQuiet_nil
def yaN:=@List.flatMap_cons
def yaO:=@rounds_succ
def yaP:=@Value.slice.injEq
def yaQ:=@List.take_zero
def yaR:=@List.mem_cons_of_mem
def yaS:=@congrArg
def yaT:=@List.length_drop
def yaU:=@Addr.mk.injEq
def yaV:=@Array.getElem?_eq_some_iff
def yaW:=@List.mem_singleton
def yaX:=@List.getElem?_append_left
def yaY:=@Array.length_toList
def yaZ:=@Nat.zero_add
def ya0:=@ByteArray.toList_eq
def ya1:=@List.mem_cons
def ya2:=@Below.drew
def ya3:=@results_none
def ya4:=@run_callFunc_extern
def ya5:=@List.take_succ_eq_append_getElem
def ya6:=@Option.map_eq_some_iff
def ya7:=@World.cell?_alloc_lt
def ya8:=@World.size_alloc
def ya9:=@List.map_append
def yba:=@World.frozen?_setCell
def ybb:=@World.block_lt_of_cell?
def ybc:=@Prod.mk.injEq
def ybd:=@List.nil_append
def ybe:=@trivial
def ybf:=@if_false
def ybg:=@Result.andThen_ok
def ybh:=@List.append_assoc
def ybi:=@bodyPost_end
def ybj:=@Below.heap_setCell
def ybk:=@if_true
def ybl:=@List.take_append_drop
def ybm:=@IntKind.wrap_i64
def ybn:=@List.map_cons
def ybo:=@List.mem_of_getElem?
def ybp:=@List.getElem?_drop
def ybq:=@Bool.eq_iff_iff
def ybr:=@World.cell?_setCell_other
def ybs:=@List.mem_filter
def ybt:=@List.drop_length
def ybu:=@Int.toNat_of_nonneg
def ybv:=@World.cell?_setCell_same
def ybw:=@Nat.le_of_lt
def ybx:=@Int.toNat_natCast
def yby:=@List.getElem?_map
def ybz:=@run_underlying
def ybA:=@wp_loop_rounds
def ybB:=@Nat.eq_zero_or_pos
def ybC:=@Below.trans
def ybD:=@List.take_length
def ybE:=@List.mem_map
def ybF:=@Option.isSome_none
def ybG:=@List.getElem?_take
def ybH:=@List.pairwise_cons
def ybI:=@List.cons_append
def ybJ:=@Sem.run_bind
def ybK:=@List.mem_range
def ybL:=@List.map_nil
def ybM:=@List.append_nil
def ybN:=@and_true
def ybO:=@List.getD_eq_getElem?_getD
def ybP:=@List.map_toArray
def ybQ:=@Option.getD_none
def ybR:=@Below.heap_alloc
def ybS:=@Array.getElem?_modify
def ybT:=@Option.isSome_some
def ybU:=@List.mem_of_find?_eq_some
def ybV:=@List.mem_of_mem_drop
def ybW:=@List.length_filterMap_le
def ybX:=@Option.isSome_iff_exists
def ybY:=@Bool.eq_false_or_eq_true
def ybZ:=@List.eraseIdx_eq_take_drop_succ
def yb0:=@List.getElem_of_mem
def yb1:=@World.grownBy_alloc
def yb2:=@List.mem_flatMap
def yb3:=@Option.getD_some
def yb4:=@List.mem_reverse
def yb5:=@info_parts
def yb6:=@List.take_of_length_le
def yb7:=@List.find?_eq_none
def yb8:=@List.filter_append
def yb9:=@Sem.run_pure
def yca:=@Int.min_eq_left
def ycb:=@Array.getElem?_toList
def ycc:=@List.mem_iff_getElem?
def ycd:=@List.take_add_one
def yce:=@Array.getElem?_append_left
def ycf:=@getD_replicate_false
def ycg:=@Array.replicate_succ
def ych:=@Array.replicate_zero
def yci:=@DataW.held.injEq
def ycj:=@List.append_toArray
def yck:=@mem_ready
def ycl:=@List.mem_filterMap
def ycm:=@World.grownBy.refl
def ycn:=@List.range_succ
def yco:=@List.mem_cons_self
def ycp:=@ne_of_beq_false
def ycq:=@List.take_left'
def ycr:=@Int.not_le
def ycs:=@List.size_toArray
def yct:=@List.push_toArray
def ycu:=@congr
def ycv:=@Nat.add_zero
end Go.Proofs.YtbopfhbeegkkaabGreatDoor
