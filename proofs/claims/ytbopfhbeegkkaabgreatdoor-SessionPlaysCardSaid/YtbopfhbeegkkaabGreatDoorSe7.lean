/- Part 7 of a proof: lemmas and contracts that other parts use. -/
import Derived.Test.YtbopfhbeegkkaabGreatDoorSe6
import Derived.Maps.OwnSet
import Derived.DeepKeys4
set_option linter.unusedVariables false
set_option linter.unusedSimpArgs false
set_option linter.constructorNameAsVariable false
namespace Go.Proofs.YtbopfhbeegkkaabGreatDoor
open Go.RowKit
def rowOf (vs:List VerP):List Value:=vs.flatMap verCells
theorem rowOf_len (vs:List VerP):(rowOf vs).length=vs.length*6:=by
 induction vs with
 | nil=>rfl
 | cons x l ih=>simp only [rowOf,List.flatMap_cons,List.length_append,verCells,List.length_cons,List.length_nil] at ih ⊢;omega
theorem rowOf_append (a b:List VerP):rowOf (a++b)=rowOf a++rowOf b:=by simp [rowOf]
theorem rowOf_take (vs:List VerP) (i:Nat) (hi:i≤vs.length):(rowOf vs).take (i*6)=rowOf (vs.take i):=by
 have h:rowOf vs=rowOf (vs.take i)++rowOf (vs.drop i):=by rw [←rowOf_append,List.take_append_drop]
 rw [h]
 exact List.take_left' (by rw [rowOf_len,List.length_take];omega)
theorem rowOf_drop (vs:List VerP) (i:Nat) (hi:i≤vs.length):(rowOf vs).drop (i*6)=rowOf (vs.drop i):=by
 have h:rowOf vs=rowOf (vs.take i)++rowOf (vs.drop i):=by rw [←rowOf_append,List.take_append_drop]
 rw [h]
 exact List.drop_left' (by rw [rowOf_len,List.length_take];omega)
theorem rowOf_one (vs:List VerP):∀ u∈rowOf vs,u.oneCell'=true:=by
 intro u hu
 simp only [rowOf,List.mem_flatMap,verCells] at hu
 obtain ⟨x,_,hx⟩:=hu
 simp at hx
 rcases hx with rfl | rfl | rfl | rfl | rfl | rfl <;> rfl
theorem rowOf_at:∀ (l:List VerP) (i:Nat) (x:VerP),l[i]?=some x→(rowOf l)[i*6]?=some (.int .i64 x.w)∧(rowOf l)[i*6+1]?=some (.int .i64 x.c)∧(rowOf l)[i*6+2]?=some (.int .i64 x.site)∧
  (rowOf l)[i*6+3]?=some (.int .i64 x.seq)∧(rowOf l)[i*6+4]?=some (.string x.data)∧(rowOf l)[i*6+5]?=some (.bool x.gone)
 | [],i,x,h=>by simp at h
 | y::l,0,x,h=>by simp at h;subst h;simp [rowOf,verCells]
 | y::l,i+1,x,h=>by
   have:=rowOf_at l i x (by simpa using h)
   have e:∀ j,(rowOf (y::l))[j+6]?=(rowOf l)[j]?:=fun j=>by simp [rowOf,verCells,List.getElem?_append_right]
   rw [show (i+1)*6=i*6+6 by omega,show i*6+6+1=(i*6+1)+6 by omega,show i*6+6+2=(i*6+2)+6 by omega,show i*6+6+3=(i*6+3)+6 by omega,show i*6+6+4=(i*6+4)+6 by omega,show i*6+6+5=(i*6+5)+6 by omega,e,e,e,e,e,e]
   exact this
theorem own_vs {w:World} {B c:Nat} {A:Option Addr} {vs:List VerP} (h:w.ownsRow B 59 6 (.slice A vs.length c) vs.length (rowOf vs)):VsAt w A vs:=by
 intro i x hx
 obtain ⟨hl,hn | ⟨g,cap,cur,hv,hb,hg,rest⟩⟩:=id h
 ·have:vs=[]:=List.eq_nil_of_length_eq_zero hn.2
  subst this;simp at hx
 ·simp only [Value.slice.injEq] at hv
  obtain ⟨rfl,_,rfl⟩:=hv
  have hc:=h.cells (g:=g) rfl
  obtain ⟨h0,h1,h2,h3,h4,h5⟩:=rowOf_at vs i x hx
  have e:∀ j:Nat,(⟨g,0,none⟩:Addr).add j=⟨g,0+j,none⟩:=fun j=>by unfold Addr.add;split <;> simp_all
  have k0:=hc _ _ h0;have k1:=hc _ _ h1;have k2:=hc _ _ h2;have k3:=hc _ _ h3;have k4:=hc _ _ h4;have k5:=hc _ _ h5
  rw [e] at k0 k1 k2 k3 k4 k5
  exact ⟨g,0,rfl,(Array.getElem?_eq_some_iff.1 hg).1,k0,k1,k2,k3,k4,k5⟩
theorem own_form {w:World} {B e s n:Nat} {v:Value} {xs:List Value} (h:w.ownsRow B e s v n xs):∃ A c,v=.slice A n c:=by
 obtain ⟨_,hh | ⟨g,cap,cur,hv,_⟩⟩:=h
 ·exact ⟨none,0,by rw [hh.1,hh.2]⟩
 ·exact ⟨_,cap,hv⟩
structure StAt (w:World) (g o B:Nat) (S:Nat→List VerP) (sv:Nat→Value):Prop where
 lt:g<w.heap.size
 cel:∀ k,k<8→w.cell? ⟨g,o+k,none⟩=some (sv k)
 frz:∀ k,k<8→w.frozen? ⟨g,o+k,none⟩=false
 own:∀ k,k<8→w.ownsRow B 59 6 (sv k) (S k).length (rowOf (S k))
 ng:∀ k,k<8→(sv k).ownBlock≠some g
 dis:∀ j k,j<8→k<8→j≠k→∀ b,(sv j).ownBlock=some b→(sv k).ownBlock≠some b
def StOwn (g:Nat) (sv:Nat→Value) (b:Nat):Prop:=b=g∨∃ k,k<8∧(sv k).ownBlock=some b
structure StFr (w w':World) (g o:Nat) (sv sv':Nat→Value):Prop where
 os:w'.os=w.os
 tape:w'.tape=w.tape
 output:w'.output=w.output
 size:w.heap.size≤w'.heap.size
 block:∀ k,k<w.heap.size→¬StOwn g sv k→w'.heap[k]?=w.heap[k]?
 own:∀ b,StOwn g sv' b→StOwn g sv b∨w.heap.size≤b
 rest:∀ k,k<o∨o+8≤k→w'.cell? ⟨g,k,none⟩=w.cell? ⟨g,k,none⟩
 frzd:∀ k,w'.frozen? ⟨g,k,none⟩=w.frozen? ⟨g,k,none⟩
theorem StAt.below {w w':World} {g o B:Nat} {S:Nat→List VerP} {sv:Nat→Value} (h:StAt w g o B S sv) (hb:Below w.heap.size w w'):StAt w' g o B S sv:=
 ⟨Nat.lt_of_lt_of_le h.lt hb.size,fun k hk=>(hb.cell (p:=⟨g,o+k,none⟩) h.lt).trans (h.cel k hk),fun k hk=>(World.frozen?_of_block (hb.block g h.lt)).trans (h.frz k hk),fun k hk=>own_below (h.own k hk) hb fun b e=>(own_ge (h.own k hk) e).2,h.ng,h.dis⟩
theorem StFr.of_below {w w':World} {g:Nat} (hlg:g<w.heap.size) (o:Nat) (sv:Nat→Value) (hb:Below w.heap.size w w'):StFr w w' g o sv sv:=
 ⟨hb.os,hb.tape,hb.output,hb.size,fun k hk _=>hb.block k hk,fun _ h=>.inl h,fun k _=>hb.cell (p:=⟨g,k,none⟩) hlg,fun k=>World.frozen?_of_block (hb.block g hlg)⟩
theorem StAt.cell {w:World} {g o B:Nat} {S:Nat→List VerP} {sv:Nat→Value} (h:StAt w g o B S sv) {k:Nat} (hk:k<8):w.cell? ⟨g,o+k,none⟩=some (sv k)∧w.frozen? ⟨g,o+k,none⟩=false:=
 ⟨h.cel k hk,h.frz k hk⟩
def insV (vs:List VerP) (v:VerP):List VerP:=vs.take (bsK vs v)++[v]++vs.drop (bsK vs v)
def putR (S:Nat→List VerP) (key:Int) (v:VerP):Int×(Nat→List VerP):=
 if key<0∨8≤key then (2,S) else if rightV v=false then (1,S) else if bsF (S key.toNat) v=true then (9,S)
 else (0,fun k=>if k=key.toNat then insV (S k) v else S k)
def errV (n:Int):Value:=if n=0 then .nilIface else .iface 29 (.int .i64 n)
theorem bsK_le (vs:List VerP) (v:VerP):bsK vs v≤vs.length:=(bsGo_le vs v _ _ _ (Nat.zero_le _)).2
theorem StAt.upd {w w1:World} {g o B k:Nat} {S:Nat→List VerP} {sv:Nat→Value} {v':Value} {vs':List VerP} (h:StAt w g o B S sv) (hk:k<8) (hg:w.grownBy w1 (sv k).ownBlock)
  (hown:w1.ownsRow B 59 6 v' vs'.length (rowOf vs')) (hv:v'.ownBlock=(sv k).ownBlock∨∀ b,v'.ownBlock=some b→w.heap.size≤b):
  StAt (w1.setCell ⟨g,o+k,none⟩ v') g o B (fun j=>if j=k then vs' else S j) (fun j=>if j=k then v' else sv j)∧
  StFr w (w1.setCell ⟨g,o+k,none⟩ v') g o sv (fun j=>if j=k then v' else sv j):=by
 have hlg:=h.lt
 have hgb:w1.heap[g]?=w.heap[g]?:=hg.block g hlg (fun e=>h.ng k hk e.symm)
 have hc1:∀ j,w1.cell? ⟨g,j,none⟩=w.cell? ⟨g,j,none⟩:=fun j=>World.cell?_of_block hgb
 have hf1:∀ j,w1.frozen? ⟨g,j,none⟩=w.frozen? ⟨g,j,none⟩:=fun j=>World.frozen?_of_block hgb
 have hgs:=grown_set w1 g (o+k) v'
 have hvg:v'.ownBlock≠some g:=by
  rcases hv with e | e
  ·rw [e];exact h.ng k hk
  ·intro e2;have:=e g e2;omega
 have hvd:∀ j,j<8→j≠k→∀ b,v'.ownBlock=some b→(sv j).ownBlock≠some b:=by
  intro j hj hjk b hb e2
  rcases hv with e | e
  ·rw [e] at hb;exact h.dis k j hk hj (Ne.symm hjk) b hb e2
  ·have:=e b hb;have:=(own_ge (h.own j hj) e2).2;omega
 refine ⟨⟨by have:=hg.size;simp [World.setCell];omega,?_,?_,?_,?_,?_⟩,⟨hg.os,hg.tape,hg.output,by simpa [World.setCell] using hg.size,?_,?_,?_,?_⟩⟩
 ·intro j hj
  by_cases e:j=k
  ·subst e
   simp only [if_true]
   exact World.cell?_setCell_same _ _ _ (by rw [hc1];exact h.cel j hj)
  ·simp only [if_neg e]
   rw [World.cell?_setCell_other _ _ _ _ (by simp only [ne_eq,Addr.mk.injEq,not_and];omega),hc1]
   exact h.cel j hj
 ·intro j hj
  rw [World.frozen?_setCell,hf1]
  exact h.frz j hj
 ·intro j hj
  by_cases e:j=k
  ·subst e
   simp only [if_true]
   exact hown.kept hgs (.inr hvg)
  ·simp only [if_neg e]
   have h1:w1.ownsRow B 59 6 (sv j) (S j).length (rowOf (S j)):=by
    refine (h.own j hj).kept hg ?_
    cases hb:(sv j).ownBlock with
    | none=>exact .inl rfl
    | some b=>exact .inr fun e2=>h.dis j k hj hk e b hb e2.symm
   exact h1.kept hgs (.inr (h.ng j hj))
 ·intro j hj
  by_cases e:j=k
  ·simp only [if_pos e];exact hvg
  ·simp only [if_neg e];exact h.ng j hj
 ·intro j i hj hi hji b hb
  by_cases e:j=k
  ·simp only [if_pos e] at hb
   have:i≠k:=fun e2=>hji (e.trans e2.symm)
   simp only [if_neg this]
   exact hvd i hi this b hb
  ·simp only [if_neg e] at hb
   by_cases e2:i=k
   ·simp only [if_pos e2]
    intro e3;exact hvd j hj e b e3 hb
   ·simp only [if_neg e2];exact h.dis j i hj hi hji b hb
 ·intro b hb hno
  have h1:b≠g:=fun e=>hno (.inl e)
  have h2:(sv k).ownBlock≠some b:=fun e=>hno (.inr ⟨k,hk,e⟩)
  rw [hgs.block b (by have:=hg.size;omega) (by simp;exact h1)]
  exact hg.block b hb (fun e=>h2 e.symm)
 ·rintro b (rfl | ⟨j,hj,hb⟩)
  ·exact .inl (.inl rfl)
  ·by_cases e:j=k
   ·simp only [if_pos e] at hb
    rcases hv with e2 | e2
    ·rw [e2] at hb;exact .inl (.inr ⟨k,hk,hb⟩)
    ·exact .inr (e2 b hb)
   ·simp only [if_neg e] at hb
    exact .inl (.inr ⟨j,hj,hb⟩)
 ·intro j hj
  rw [World.cell?_setCell_other _ _ _ _ (by simp only [ne_eq,Addr.mk.injEq,not_and];omega),hc1]
 ·intro j
  rw [World.frozen?_setCell,hf1]
end Go.Proofs.YtbopfhbeegkkaabGreatDoor
namespace Go.Proofs.YtbopfhbeegkkaabGreatDoor
open Go.RowKit Go.WideMaps Go.WideShapes Go.ChangeShapes
open Go.Maps (Keyed)
def heldV (v:Value):Option (DataW Value×List MemPlace):=some (.held v,[])
theorem laidOutD:laidOutB Tryz.prog=true:=by kernel_rfl
theorem row151:(160:TypeId)<Tryz.prog.types.size:=of_decide_eq_true (by kernel_rfl)
theorem wide151:(match Tryz.prog.underlying 160 with | some (.array _ _) | some (.struct _)=>true | _=>false)=true:=by kernel_rfl
set_option maxRecDepth 100000 in
theorem law151:KeyLaw Tryz.prog 160:=deep_law_laid laidOutD (m:=2) (by omega) row151 (by kernel_rfl) wide151
theorem keyed151:Keyed Tryz.prog 160:=Keyed.of_law law151
def klOf (s q:Int):Lit:=.string (keyBytes [.int .i64 s,.int .i64 q])
def wf64 (z:Int):Prop:=-9223372036854775808≤z∧z≤9223372036854775807
theorem wf64_lit {z:Int} (h:wf64 z):(Lit.int .i64 z).wf=true:=by
 unfold wf64 at h
 simp [Lit.wf,IntKind.min,IntKind.max,IntKind.signed,IntKind.bits];omega
theorem keyOf151 {s q:Int} (hs:wf64 s) (hq:wf64 q):keyOf Tryz.prog 160 (.agg #[.int .i64 s,.int .i64 q])=some (klOf s q):=by
 have h1:=wf64_lit hs
 have h2:=wf64_lit hq
 have hk:Tryz.prog.keyType 160=true:=by kernel_rfl
 have hc:Tryz.prog.cellsOf 160=2:=by kernel_rfl
 have h3:Tryz.prog.cellsOf 3=1:=by kernel_rfl
 have hm:Tryz.prog.types.size=410+1:=by kernel_rfl
 have hform:(Value.agg #[.int .i64 s,.int .i64 q]).formed Tryz.prog 160=true:=by simp [Value.formed,Tryz.underlying160,hc]
 unfold keyOf
 simp only [Tryz.underlying160]
 rw [if_pos (by rw [hk,hform];rfl),hm]
 unfold Program.keyLits
 simp only [Tryz.underlying160,Value.cells]
 rw [if_pos (by rw [hc];exact ⟨rfl,by simp⟩)]
 simp only [List.mapM_cons,List.mapM_nil]
 simp [h3,Program.keyLits,Tryz.underlying3,h1,h2,klOf]
theorem klOf_ne {s q s' q':Int} (hs:wf64 s) (hq:wf64 q) (hs':wf64 s') (hq':wf64 q') (h:¬(s=s'∧q=q')):klOf s q≠klOf s' q':=by
 intro e
 have:=keyed151.inj (keyOf151 hs hq) (by rw [e];exact keyOf151 hs' hq')
 simp only [Value.agg.injEq,Array.mk.injEq,List.cons.injEq,Value.int.injEq,true_and,and_true] at this
 exact h this
theorem klOf_key {s q:Int} (hs:wf64 s) (hq:wf64 q):WideAt.IsKeyLit (klOf s q):=keyed151.key (keyOf151 hs hq)
def txZero:Value:=.agg #[.int .i64 0,.int .i64 0,.int .i64 0,.int .i64 0,.int .i64 0,.int .i64 0,.int .i64 0,.int .i64 0,.slice none 0 0]
theorem zero40 (w:World):(zeroValue 44).run Tryz.prog w=.ok txZero w:=by kernel_rfl
theorem map146:Tryz.prog.underlying 141=some (.map 160 44):=Tryz.underlying141
def MpAt (w:World) (m:Nat) (f:Int→Int→Option Value) (sz:Nat):Prop:=
 ∃ D:DataW Value,w.ownsMap Tryz.prog 160 heldV m sz D∧Maps.size D=sz∧∀ s q,wf64 s→wf64 q→Maps.has D (klOf s q)=(f s q).isSome∧∀ z,D.atKey (klOf s q) z=match f s q with | some v=>.held v | none=>z
theorem MpAt.lt {w:World} {m sz:Nat} {f:Int→Int→Option Value} (h:MpAt w m f sz):m<w.heap.size:=by
 obtain ⟨D,h1,_⟩:=h
 exact h1.lt
theorem MpAt.block {w w':World} {m sz:Nat} {f:Int→Int→Option Value} (h:MpAt w m f sz) (hb:w'.heap[m]?=w.heap[m]?):MpAt w' m f sz:=by
 obtain ⟨D,⟨es,clock,e1,e2⟩,h2,h3⟩:=h
 exact ⟨D,⟨es,clock,hb.trans e1,e2⟩,h2,h3⟩
theorem MpAt.made {w:World} {m:Nat} (h:w.heap[m]?=some (.map #[] 0)):MpAt w m (fun _ _=>none) 0:=by
 have h1:=World.ownsMap_made (H:=Value) w Tryz.prog 160 heldV
 obtain ⟨es,clock,e1,e2⟩:=h1
 have e3:(w.alloc (.map #[] 0)).heap[w.heap.size]?=some (.map #[] 0):=by rw [heap_alloc,if_pos rfl]
 rw [e3] at e1
 refine ⟨.map [],⟨es,clock,h.trans e1,e2⟩,rfl,fun s q _ _=>⟨rfl,fun z=>rfl⟩⟩
theorem MpAt.look {w:World} {m sz:Nat} {f:Int→Int→Option Value} (h:MpAt w m f sz) {s q:Int} (hs:wf64 s) (hq:wf64 q):
  (Instr.lookup 141 (.map (some m)) (.agg #[.int .i64 s,.int .i64 q]) true).run Tryz.prog w=.ok (.tuple #[(f s q).getD txZero,.bool (f s q).isSome]) w:=by
 obtain ⟨D,h1,h2,h3⟩:=h
 obtain ⟨v,ps,hrun,hv⟩:=h1.look_ok keyed151 map146 (zero40 w) (zd:=.held txZero) (zp:=[]) rfl (keyOf151 hs hq)
 obtain ⟨e1,e2⟩:=h3 s q hs hq
 rw [hrun,e1]
 simp only [heldV,Option.some.injEq,Prod.mk.injEq] at hv
 have:=e2 (.held txZero)
 rw [←hv.1] at this
 cases hf:f s q with
 | none=>rw [hf] at this;simp only [DataW.held.injEq] at this;rw [this];rfl
 | some u=>rw [hf] at this;simp only [DataW.held.injEq] at this;rw [this];rfl
theorem MpAt.len {w:World} {m sz:Nat} {f:Int→Int→Option Value} (h:MpAt w m f sz) (ty:TypeId):(Builtin.len_ #[141] ty #[.map (some m)]).run Tryz.prog w=.ok (.int .i64 sz) w:=by
 obtain ⟨D,h1,h2,h3⟩:=h
 rw [h1.len map146 ty,h2]
def mput (f:Int→Int→Option Value) (s q:Int) (v:Option Value):Int→Int→Option Value:=fun s' q'=>if s'=s∧q'=q then v else f s' q'
theorem tight {w:World} {m n:Nat} {D:DataW Value} (h:w.ownsMap Tryz.prog 160 heldV m n D):w.ownsMap Tryz.prog 160 heldV m (Maps.size D) D:=by
 obtain ⟨es,clock,hb,F,hs,hD⟩:=h
 refine ⟨es,clock,hb,F,?_,hD⟩
 rw [hD]
 simp [Maps.size,length_sorted]
theorem MpAt.store {w:World} {m sz:Nat} {f:Int→Int→Option Value} (h:MpAt w m f sz) (hn:sz≤1000000) {s q:Int} (hs:wf64 s) (hq:wf64 q) (v:Value):
  ∃ w',(Instr.mapUpdate 141 (.map (some m)) (.agg #[.int .i64 s,.int .i64 q]) v).run Tryz.prog w=.ok () w'∧MpAt w' m (mput f s q (some v)) (if (f s q).isSome then sz else sz+1)∧w.mapTurned w' m:=by
 obtain ⟨D,h1,h2,h3⟩:=h
 obtain ⟨w',hrun,r1,r2⟩:=h1.store keyed151 map146 (by simp only [maxLen];omega) (keyOf151 hs hq) (val:=v) (d:=.held v) (ps:=[]) rfl
 have hsz:Maps.size (D.put (klOf s q) (.held v))=if (f s q).isSome then sz else sz+1:=by
  rw [Maps.size_put (h1.tidy keyed151),(h3 s q hs hq).1,h2]
 refine ⟨w',hrun,⟨_,?_,hsz,?_⟩,r2⟩
 ·rw [←hsz];exact tight r1
 ·intro s' q' hs' hq'
  unfold mput
  by_cases e:s'=s∧q'=q
  ·obtain ⟨rfl,rfl⟩:=e
   simp only [and_self,if_true]
   exact ⟨Maps.has_put_same h1.isMap (klOf_key hs hq) _,fun z=>Maps.atKey_put_same h1.isMap (klOf_key hs hq) _ z⟩
  ·have hne:=klOf_ne hs' hq' hs hq e
   rw [if_neg e]
   exact ⟨(Maps.has_put_other hne _).trans (h3 s' q' hs' hq').1,fun z=>(Maps.atKey_put_other hne _ z).trans ((h3 s' q' hs' hq').2 z)⟩
theorem MpAt.drop {w:World} {m sz:Nat} {f:Int→Int→Option Value} (h:MpAt w m f sz) {s q:Int} (hs:wf64 s) (hq:wf64 q) (ty:TypeId):
  ∃ w',(Builtin.delete_ #[141,160] ty #[.map (some m),.agg #[.int .i64 s,.int .i64 q]]).run Tryz.prog w=.ok (.tuple #[]) w'∧MpAt w' m (mput f s q none) (if (f s q).isSome then sz-1 else sz)∧w.mapTurned w' m:=by
 obtain ⟨D,h1,h2,h3⟩:=h
 obtain ⟨w',hrun,r1,r2⟩:=h1.drop keyed151 map146 (keyOf151 hs hq) ty
 have hsz:Maps.size (D.del (klOf s q))=if (f s q).isSome then sz-1 else sz:=by
  have:=Maps.size_del (k:=klOf s q) (h1.tidy keyed151)
  rw [(h3 s q hs hq).1,h2] at this
  split <;> simp_all <;> omega
 refine ⟨w',hrun,⟨_,?_,hsz,?_⟩,r2⟩
 ·rw [←hsz];exact tight r1
 ·intro s' q' hs' hq'
  unfold mput
  by_cases e:s'=s∧q'=q
  ·obtain ⟨rfl,rfl⟩:=e
   simp only [and_self,if_true]
   exact ⟨Maps.has_del_same,fun z=>Maps.atKey_del_same z⟩
  ·have hne:=klOf_ne hs' hq' hs hq e
   rw [if_neg e]
   exact ⟨(Maps.has_del_other hne).trans (h3 s' q' hs' hq').1,fun z=>(Maps.atKey_del_other hne z).trans ((h3 s' q' hs' hq').2 z)⟩
end Go.Proofs.YtbopfhbeegkkaabGreatDoor
