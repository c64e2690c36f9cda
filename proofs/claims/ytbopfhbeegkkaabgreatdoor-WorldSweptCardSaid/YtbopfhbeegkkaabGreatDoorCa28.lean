/- Part 28 of a proof: lemmas and contracts that other parts use. -/
import Derived.Test.YtbopfhbeegkkaabGreatDoorCa27
import Derived.Test.YtbopfhbeegkkaabGreatDoorCa6
import Derived.Test.YtbopfhbeegkkaabGreatDoorCa4
import Derived.Lib.SliceRun
import Derived.Deep.RegionLaw
set_option linter.unusedVariables false
set_option linter.unusedSimpArgs false
namespace Go.Proofs.YtbopfhbeegkkaabGreatDoor
open Go.RowKit
def obz:Value:=.agg #[.int .i64 0,.slice none 0 0]
section
variable {P:Program}
theorem blk_setCells {g:Nat} {e:TypeId} {fz:Nat×Nat}:∀ (vs:List Value) (o:Nat) (w:World) (cur:Array Value),w.heap[g]?=some (.cells cur e fz)→
  ∃ cur',(w.setCells g o vs).heap[g]?=some (.cells cur' e fz)∧cur'.size=cur.size∧∀ j,j<cur.size→cur'[j]?=if o≤j∧j<o+vs.length then vs[j-o]? else cur[j]?
 | [],o,w,cur,h=>⟨cur,h,rfl,fun j _=>by rw [if_neg (by simp)]⟩
 | v::r,o,w,cur,h=>by
   have h1:(w.setCell ⟨g,o,none⟩ v).heap[g]?=some (.cells (cur.setIfInBounds o v) e fz):=by
    simp [World.setCell,Array.getElem?_modify,h]
   obtain ⟨cur',h2,h3,h4⟩:=blk_setCells r (o+1) _ _ h1
   refine ⟨cur',h2,by rw [h3];simp,fun j hj=>?_⟩
   rw [h4 j (by simpa using hj)]
   simp only [List.length_cons]
   by_cases c1:o+1≤j∧j<o+1+r.length
   ·rw [if_pos c1,if_pos (by omega),show j-o=(j-(o+1))+1 by omega];rfl
   ·rw [if_neg c1]
    by_cases c2:j=o
    ·subst c2
     rw [if_pos (by omega),Nat.sub_self]
     simp [hj]
    ·rw [if_neg (by omega)]
     simp [Array.getElem?_setIfInBounds,Ne.symm c2]
theorem run_clear2 (w:World) (t e ty:TypeId) (ht:P.underlying t=some (.slice e)) (hv:∀ w,(zeroValue e).run P w=.ok obz w) (b o c:Nat)
  (hc:∀ j,j<2→(w.cell? ⟨b,o+j,none⟩).isSome=true) (hf:∀ j,j<2→w.frozen? ⟨b,o+j,none⟩=false):
  (Builtin.clear_ #[t] ty #[.slice (some ⟨b,o,none⟩) 1 c]).run P w=.ok (.tuple #[]) (w.setCells b o [.int .i64 0,.slice none 0 0]):=by
 have hzc:(Builtin.zeroCells obz.cells 1).toList=[.int .i64 0,.slice none 0 0]:=by
  unfold obz
  simp [Builtin.zeroCells,Value.cells]
  rfl
 have hst:=run_storeCells_cells (P:=P) b o [.int .i64 0,.slice none 0 0] 0 w (by simpa using hc) (by simpa using hf) (by intro v hv';simp at hv';rcases hv' with rfl | rfl <;> rfl)
 simp only [Nat.add_zero] at hst
 simp [Builtin.clear_,run_underlying ht,hv,hzc,hst]
theorem heap_setCells {g:Nat}:∀ (vs:List Value) (o:Nat) (w:World),(w.setCells g o vs).heap.size=w.heap.size∧(∀ k,k≠g→(w.setCells g o vs).heap[k]?=w.heap[k]?)∧(w.setCells g o vs).os=w.os∧(w.setCells g o vs).tape=w.tape∧(w.setCells g o vs).output=w.output
 | [],o,w=>⟨rfl,fun _ _=>rfl,rfl,rfl,rfl⟩
 | v::r,o,w=>by
   obtain ⟨h1,h2,h3,h4,h5⟩:=heap_setCells (g:=g) r (o+1) (w.setCell ⟨g,o,none⟩ v)
   refine ⟨h1.trans (by simp [World.setCell]),fun k hk=>(h2 k hk).trans ?_,h3,h4,h5⟩
   exact Below.heap_setCell w ⟨g,o,none⟩ v k hk
theorem grown_setCells (w:World) (g o:Nat) (vs:List Value):w.grownBy (w.setCells g o vs) (some g):=by
 obtain ⟨h1,h2,h3,h4,h5⟩:=heap_setCells (g:=g) vs o w
 exact ⟨h3,h4,h5,by rw [h1];exact Nat.le_refl _,fun k _ hk=>h2 k (fun e=>hk (by rw [e]))⟩
theorem own_del {w:World} {B g c n i:Nat} {e:TypeId} {xs:List Value} (h:w.ownsRow B e 2 (.slice (some ⟨g,0,none⟩) n c) n xs) (hi:i<n) (z0 z1:Value):
  ((w.setCells g (i*2) (xs.drop ((i+1)*2))).setCells g ((n-1)*2) [z0,z1]).ownsRow B e 2 (.slice (some ⟨g,0,none⟩) (n-1) c) (n-1) (xs.take (i*2)++xs.drop ((i+1)*2)):=by
 obtain ⟨hl,hn | ⟨g',cap,cur,hv,hB,hg,hnc,hm,hs,ht⟩⟩:=h
 ·cases hn.1
 ·simp only [Value.slice.injEq,Option.some.injEq,Addr.mk.injEq] at hv
  obtain ⟨⟨rfl,_⟩,_,rfl⟩:=hv
  obtain ⟨c1,a1,a2,a3⟩:=blk_setCells (xs.drop ((i+1)*2)) (i*2) w cur hg
  obtain ⟨c2,b1,b2,b3⟩:=blk_setCells [z0,z1] ((n-1)*2) _ c1 a1
  have hll:(xs.take (i*2)++xs.drop ((i+1)*2)).length=(n-1)*2:=by simp;omega
  refine ⟨hll,.inr ⟨g,c,c2,rfl,hB,b1,by omega,hm,by rw [b2,a2];exact hs,?_⟩⟩
  apply List.ext_getElem?
  intro j
  by_cases hj:j<(n-1)*2
  ·rw [List.getElem?_take,if_pos hj,Array.getElem?_toList,b3 j (by rw [a2];omega),if_neg (by omega),a3 j (by omega)]
   have hx:∀ k,k<n*2→cur[k]?=xs[k]?:=fun k hk=>by rw [←ht,List.getElem?_take,if_pos hk,Array.getElem?_toList]
   by_cases h1:j<i*2
   ·rw [if_neg (by omega),List.getElem?_append_left (by simp;omega),List.getElem?_take,if_pos h1,hx j (by omega)]
   ·rw [if_pos (by simp;omega),List.getElem?_append_right (by simp;omega)]
    simp only [List.getElem?_drop,List.length_take]
    congr 1
    omega
  ·rw [List.getElem?_eq_none (by simp;omega),List.getElem?_eq_none (by omega)]
end
section
variable {α:Type} {f:α→List Value}
theorem flat2_take (hf:∀ a,(f a).length=2):∀ (l:List α) (i:Nat),(l.take i).flatMap f=(l.flatMap f).take (i*2)
 | [],i=>by simp
 | a::l,0=>by simp
 | a::l,i+1=>by
   simp only [List.take_succ_cons,List.flatMap_cons]
   rw [List.take_append,List.take_of_length_le (l:=f a) (by rw [hf a];omega),hf a,flat2_take hf l i,show (i+1)*2-2=i*2 by omega]
theorem flat2_drop (hf:∀ a,(f a).length=2):∀ (l:List α) (i:Nat),(l.drop i).flatMap f=(l.flatMap f).drop (i*2)
 | [],i=>by simp
 | a::l,0=>by simp
 | a::l,i+1=>by
   simp only [List.drop_succ_cons,List.flatMap_cons]
   rw [List.drop_append,List.drop_of_length_le (l:=f a) (by rw [hf a];omega),hf a,flat2_drop hf l i,show (i+1)*2-2=i*2 by omega]
   rfl
theorem flat2_erase (hf:∀ a,(f a).length=2) (l:List α) (i:Nat):(l.eraseIdx i).flatMap f=(l.flatMap f).take (i*2)++(l.flatMap f).drop ((i+1)*2):=by
 rw [List.eraseIdx_eq_take_drop_succ,List.flatMap_append,flat2_take hf,flat2_drop hf]
theorem flat2_len (hf:∀ a,(f a).length=2):∀ (l:List α),(l.flatMap f).length=l.length*2
 | []=>by simp
 | a::l=>by simp only [List.flatMap_cons,List.length_append,List.length_cons];rw [hf a,flat2_len hf l];omega
theorem flat2_at (hf:∀ a,(f a).length=2):∀ (l:List α) (i:Nat) (x:α),l[i]?=some x→∀ j,j<2→(l.flatMap f)[i*2+j]?=(f x)[j]?
 | [],i,x,h,j,hj=>by cases i <;> simp at h
 | a::l,0,x,h,j,hj=>by
   simp at h;subst h
   simp only [List.flatMap_cons,Nat.zero_mul,Nat.zero_add]
   rw [List.getElem?_append_left (by rw [hf a];omega)]
 | a::l,i+1,x,h,j,hj=>by
   simp only [List.flatMap_cons]
   rw [List.getElem?_append_right (by rw [hf a];omega),hf a,show (i+1)*2+j-2=i*2+j by omega]
   exact flat2_at hf l i x (by simpa using h) j hj
end
theorem txB_len {t:TxP} (h:rightTx t=true):(txB t).length≤1000∧0<(txB t).length:=by
 have h2:=h
 simp only [rightTx,Bool.and_eq_true] at h2
 obtain ⟨hw,hl1,hl5⟩:=rightWs_all h2.2
 obtain ⟨q1,q2,q3,q4,q5,q6,q7,q8,_⟩:=headTx_all h2.1
 have h1:=numsB_le [t.site.toNat,t.seq.toNat,t.wall.toNat,t.count.toNat] (by intro z hz;simp at hz;omega)
 have h3:=numsB_le [t.d0.toNat,t.d1.toNat,t.d2.toNat,t.d3.toNat] (by intro z hz;simp at hz;omega)
 have h4:=numsB_le [t.ws.length] (by intro z hz;simp at hz;omega)
 have h5:=wrB_take_le t.ws hw t.ws.length (Nat.le_refl _)
 rw [List.take_length] at h5
 simp only [txB,List.length_cons,List.length_append,List.length_nil] at *
 omega
theorem own_bs {w:World} {B g:Nat} {v:Value} {bs:List UInt8} (h:w.ownsRow B 5 1 v bs.length (u8s bs)) (hg:w.heap.size=g):BsVal w g v bs∧∃ A c,v=.slice A bs.length c∧bs.length≤c∧c≤maxLen:=by
 subst hg
 obtain ⟨hl,hn | ⟨b,cap,cur,rfl,hb,hg,hc,hm,hsz,ht⟩⟩:=id h
 ·have:bs=[]:=List.eq_nil_of_length_eq_zero hn.2
  subst this
  rw [hn.1]
  exact ⟨bs_nil _ _,none,0,rfl,Nat.le_refl _,Nat.zero_le _⟩
 ·have hcell:=h.cells (g:=b) rfl
  refine ⟨⟨_,cap,rfl,hc,hm,fun i x hi=>⟨b,0,rfl,lt_blk hg,?_⟩⟩,_,cap,rfl,hc,hm⟩
  have:=hcell i (.int .u8 x.toNat) (by simp [u8s,hi])
  have e:(⟨b,0,none⟩:Addr).add i=⟨b,0+i,none⟩:=by unfold Addr.add;split <;> simp_all
  rw [e] at this
  exact this
theorem askB_len {s a0 a1 a2 a3:Int} (h:okAsk s a0 a1 a2 a3=true):(askB s a0 a1 a2 a3).length≤1000∧0<(askB s a0 a1 a2 a3).length:=by
 obtain ⟨h1,h2,h3,h4,h5⟩:=okAsk_all h
 have e1:=numsB_le [s.toNat] (by intro z hz;simp at hz;omega)
 have e2:=numsB_le [a0.toNat,a1.toNat,a2.toNat,a3.toNat] (by intro z hz;simp at hz;omega)
 simp only [askB,List.length_cons,List.length_append,List.length_nil] at *
 omega
theorem gmB_len {S:Nat} {g:GmP} (h:GmOk S g):(gmB g).length≤1000∧0<(gmB g).length:=by
 unfold gmB
 split
 ·exact txB_len (h.2.1 (by assumption))
 ·exact askB_len (h.2.2 (by assumption)).2
theorem encAsk_is {s a0 a1 a2 a3:Int} (h:okAsk s a0 a1 a2 a3=true) (w:World):
  Calls Tryz.prog 151 #[.int .i64 s,.agg #[.int .i64 a0,.int .i64 a1,.int .i64 a2,.int .i64 a3]] w fun e w'=>∃ v,e=.returned (.tuple #[v,.nilIface])∧Fresh w w' v (askB s a0 a1 a2 a3):=by
 obtain ⟨h1,h2,h3,h4,h5⟩:=okAsk_all h
 have hr:rgtB a0 a1 a2 a3=true:=by simp only [rgtB,Bool.and_eq_true,decide_eq_true_eq];omega
 obtain ⟨s',rfl⟩:∃ n:Nat,s=(n:Int):=⟨s.toNat,by omega⟩
 obtain ⟨b0,rfl⟩:∃ n:Nat,a0=(n:Int):=⟨a0.toNat,by omega⟩
 obtain ⟨b1,rfl⟩:∃ n:Nat,a1=(n:Int):=⟨a1.toNat,by omega⟩
 obtain ⟨b2,rfl⟩:∃ n:Nat,a2=(n:Int):=⟨a2.toNat,by omega⟩
 obtain ⟨b3,rfl⟩:∃ n:Nat,a3=(n:Int):=⟨a3.toNat,by omega⟩
 have:=encAsk_good s' b0 b1 b2 b3 w (by omega) hr
 have e:askB s' b0 b1 b2 b3=97::numsB [s',b0,b1,b2,b3]:=by
  simp [askB,numsB]
 rw [e]
 exact this
theorem bs_cells {w:World} {g c b o:Nat} {l:List UInt8} (h:BsVal w g (.slice (some ⟨b,o,none⟩) l.length c) l):∀ (j:Nat) (u:Value),(u8s l)[j]?=some u→w.cell? ⟨b,o+j,none⟩=some u:=by
 obtain ⟨A',c',e,h1,h2,h3⟩:=h
 simp only [Value.slice.injEq,true_and] at e
 obtain ⟨rfl,rfl⟩:=e
 intro j u hu
 unfold u8s at hu
 rw [List.getElem?_map] at hu
 obtain ⟨x,hx,rfl⟩:=Option.map_eq_some_iff.1 hu
 obtain ⟨b',o',e,_,hc⟩:=h3 j x hx
 simp only [Option.some.injEq,Addr.mk.injEq,and_true] at e
 obtain ⟨rfl,rfl⟩:=e
 exact hc
theorem u8s_one (l:List UInt8):∀ u∈u8s l,u.oneCell'=true:=by
 intro u hu
 unfold u8s at hu
 obtain ⟨x,_,rfl⟩:=List.mem_map.1 hu
 rfl
@[go_sem] theorem eqNilB (w:World) (a:Addr) (n c:Nat):Sem.run Tryz.prog (binOp BinOp.eql 207 (.slice (some a) n c) (.slice none 0 0)) w=.ok (.bool false) w:=by kernel_rfl
set_option maxRecDepth 20000 in
set_option maxHeartbeats 4000000 in
theorem bclone_any (A:Option Addr) (c:Nat) (l:List UInt8) (w:World) (hv:BsVal w w.heap.size (.slice A l.length c) l) (h0:0<l.length) (hn:l.length≤1000000):
  Calls Tryz.prog 184 #[.slice A l.length c] w fun e w'=>∃ b c',e=.returned (.slice (some ⟨b,0,none⟩) l.length c')∧BsVal w' w'.heap.size (.slice (some ⟨b,0,none⟩) l.length c') l∧Below w.heap.size w w'∧w.heap.size≤b∧b<w'.heap.size:=by
 have HV:=hidp hv
 obtain ⟨b,o,rfl,hb⟩:∃ b o,A=some ⟨b,o,none⟩∧b<w.heap.size:=by
  obtain ⟨A',c',e,h1,h2,h3⟩:=hv
  simp only [Value.slice.injEq,true_and] at e
  obtain ⟨rfl,rfl⟩:=e
  obtain ⟨b,o,e,hlt,_⟩:=h3 0 l[0] (List.getElem?_eq_getElem h0)
  exact ⟨b,o,e,hlt⟩
 clear hv
 obtain ⟨i0,hi0,hz0,hz1,hz2⟩:=info5x
 haveI:SzGe (b+1) w:=⟨hb⟩
 have hcells:=bs_cells HV.out
 have HNW:Hid (∀ (W:World),Below w.heap.size w W→∀ (j:Nat) (u:Value),(u8s l)[j]?=some u→W.cell? ((⟨b,o,none⟩:Addr).add j)=some u):=hidp (by
  intro W hB j u hu
  have e:(⟨b,o,none⟩:Addr).add j=⟨b,o+j,none⟩:=by unfold Addr.add;split <;> simp_all
  rw [e,hB.cell (p:=⟨b,o+j,none⟩) hb]
  exact hcells j u hu)
 have HLN:Hid ((u8s l).length=l.length*1):=hidp (by rw [u8s_length,Nat.mul_one])
 have h63:0+l.length≤maxLen:=by refine Nat.le_trans ?_ maxLen_ge;omega
 have hby:(0+l.length)*1≤140737488355328:=by omega
 clear hcells
 go_enter Tryz.func184,Tryz.ntmps184
 go_wp2_with (at_builtin;go_must (refine wpList_append_lies _ rfl _ _ 207 rfl w.heap.size 5 i0 (.int .u8 0) 1 1 Tryz.underlying207 hi0 hz0 hz1 hz2 rfl (by decide) (.slice (some ⟨w.heap.size,0,none⟩) 0 0) 0 [] rfl ⟨rfl,.inr ⟨w.heap.size,0,#[],rfl,Nat.le_refl _,by rw [heap_alloc,if_pos rfl],Nat.le_refl _,by simp only [maxLen];omega,rfl,rfl⟩⟩ ⟨b,o,none⟩ l.length c (u8s l) rfl HLN.out (HNW.out _ (blw_alloc (Below.refl _ _))) (u8s_one l) h0 h63 hby (by simp) _ rfl ?_))
 intro g1 cap1 w1 hown1 hgrow hgl hlt1
 try simp only [Nat.zero_add,List.nil_append] at hown1
 have hb1:Below w.heap.size w w1:=Below.grown (show Below w.heap.size w (w.alloc (Obj.cells #[] 5)) from blw_alloc (Below.refl _ _)) hgrow (by simp) (fun j e=>by simp [Value.ownBlock] at e;omega)
 have HR:Hid (BsVal w1 w1.heap.size (.slice (some ⟨g1,0,none⟩) l.length cap1) l∧Below w.heap.size w w1∧w.heap.size≤g1∧g1<w1.heap.size):=hidp ⟨(own_bs hown1 rfl).1,hb1,(own_ge hown1 rfl).1,hlt1⟩
 clear hown1 hgrow hgl hlt1 hb1
 try simp only [Nat.zero_add]
 go_wp2_with fail
 go_ret
 exact ⟨_,_,rfl,HR.out.1,HR.out.2.1,HR.out.2.2⟩
theorem gm_cells_len (m:MGm):m.cells.length=2:=rfl
theorem gms_one (gs:List MGm):∀ u∈gs.flatMap MGm.cells,u.oneCell'=true:=by
 intro u hu
 obtain ⟨m,_,hm⟩:=List.mem_flatMap.1 hu
 simp [MGm.cells] at hm
 rcases hm with rfl | rfl <;> rfl
theorem setCells_drew:∀ (vs:List Value) (o g:Nat) (w:World),w.drew.setCells g o vs=(w.setCells g o vs).drew
 | [],o,g,w=>rfl
 | v::r,o,g,w=>by
   show (w.drew.setCell _ v).setCells g (o+1) r=_
   rw [World.setCell_drew]
   exact setCells_drew r (o+1) g _
theorem setCells_heap {w1 w2:World} (h:w1.heap=w2.heap):∀ (vs:List Value) (o g:Nat),(w2.setCells g o vs).heap[g]?=(w1.setCells g o vs).heap[g]?:=by
 intro vs
 induction vs generalizing w1 w2 with
 | nil=>intro o g;show w2.heap[g]?=w1.heap[g]?;rw [h]
 | cons v r ih=>
   intro o g
   exact ih (w1:=w1.setCell ⟨g,o,none⟩ v) (w2:=w2.setCell ⟨g,o,none⟩ v) (by simp only [World.setCell,h]) (o+1) g
theorem infoG:(Tryz.prog.info? 243).map (fun i=>(i.zero,i.size,i.bytes))=some (some obz,2,32):=by kernel_rfl
theorem zeroG (w:World):(zeroValue 243).run Tryz.prog w=.ok obz w:=by kernel_rfl
set_option maxRecDepth 20000 in
set_option maxHeartbeats 8000000 in
theorem del_any (B g c i:Nat) (gs:List MGm) (w:World) (h:w.ownsRow B 243 2 (.slice (some ⟨g,0,none⟩) gs.length c) gs.length (gs.flatMap MGm.cells)) (hi:i<gs.length) (hn:gs.length≤300):
  Calls Tryz.prog 148 #[.slice (some ⟨g,0,none⟩) gs.length c,.int .i64 (i:Nat),.int .i64 ((i:Int)+1)] w fun e w'=>e=.returned (.slice (some ⟨g,0,none⟩) (gs.length-1) c)∧
   w'.ownsRow B 243 2 (.slice (some ⟨g,0,none⟩) (gs.length-1) c) (gs.length-1) ((gs.eraseIdx i).flatMap MGm.cells)∧w.grownBy w' (some g):=by
 obtain ⟨i0,hi0,hz0,hz1,hz2⟩:=info_parts infoG
 have hcap:gs.length≤c∧c≤maxLen∧g<w.heap.size:=by
  obtain ⟨_,hh | ⟨g',cap,cur,hv,hB,hg,hnc,hm,hs,ht⟩⟩:=id h
  ·cases hh.1
  ·simp only [Value.slice.injEq,Option.some.injEq,Addr.mk.injEq] at hv
   obtain ⟨⟨rfl,_⟩,_,rfl⟩:=hv
   exact ⟨hnc,hm,lt_blk hg⟩
 obtain ⟨hc1,hc2,hlt⟩:=hcap
 simp only [maxLen] at hc2
 obtain ⟨xs,hxs⟩:∃ xs,gs.flatMap MGm.cells=xs:=⟨_,rfl⟩
 have HE:=hidp (flat2_erase gm_cells_len gs i)
 have hone:=gms_one gs
 have hxl:xs.length=gs.length*2:=by rw [←hxs];exact flat2_len gm_cells_len gs
 rw [hxs] at h hone HE
 clear hxs
 generalize gs.eraseIdx i=gs2 at *
 obtain ⟨n,hnn⟩:∃ n,gs.length=n:=⟨_,rfl⟩
 rw [hnn] at h hi hn hc1 hxl ⊢
 clear hnn gs
 obtain ⟨news,hnews⟩:∃ news,news=xs.drop ((i+1)*2):=⟨_,rfl⟩
 have hnl:news.length=(n-(i+1))*2:=by rw [hnews];simp;omega
 have hcell:∀ j u,xs[j]?=some u→w.cell? ⟨g,j,none⟩=some u:=fun j u hu=>by
  have hj:=lt_get hu
  rw [h.cellAt j (by omega)];exact hu
 obtain ⟨A,hA,hsrc⟩:∃ A:Addr,(if c=i+1 then some (⟨g,0,none⟩:Addr) else some ⟨g,(i+1)*2,none⟩)=some A∧Hid (∀ t u,news[t]?=some u→w.drew.cell? (A.add t)=some u):=by
  by_cases hh:c=i+1
  ·refine ⟨⟨g,0,none⟩,by simp [hh],hidp fun t u hu=>?_⟩
   have h0:news.length=0:=by rw [hnl];omega
   rw [List.length_eq_zero_iff.1 h0] at hu
   simp at hu
  ·refine ⟨⟨g,(i+1)*2,none⟩,by simp [hh],hidp fun t u hu=>?_⟩
   rw [hnews,List.getElem?_drop] at hu
   have e:(⟨g,(i+1)*2,none⟩:Addr).add t=⟨g,(i+1)*2+t,none⟩:=by unfold Addr.add;split <;> simp_all
   rw [e]
   exact hcell _ _ hu
 have s1:Hid (news.length=(n-(i+1))*2):=hidp hnl
 have s2:Hid (∀ u∈news,u.oneCell'=true):=hidp (by rw [hnews];exact fun u hu=>hone u (List.mem_of_mem_drop hu))
 have s3:Hid (∀ t,t<news.length→(w.drew.cell? ⟨g,0+i*2+t,none⟩).isSome=true∧w.drew.frozen? ⟨g,0+i*2+t,none⟩=false):=hidp (by
  intro t ht
  rw [hnl] at ht
  refine ⟨?_,h.frozenAt _⟩
  have hj:0+i*2+t<xs.length:=by omega
  have:=hcell _ _ (List.getElem?_eq_getElem hj)
  show (w.cell? _).isSome=true
  rw [this];rfl)
 obtain ⟨W1,hW1⟩:∃ W1,W1=w.drew.setCells g (0+i*2) news:=⟨_,rfl⟩
 have hW1b:W1=w.drew.setCells g (i*2) news:=by rw [hW1,Nat.zero_add]
 have hown1:∃ cur1,W1.heap[g]?=some (.cells cur1 243 (0,0))∧cur1.size=c*2:=by
  obtain ⟨_,hh | ⟨g',cap,cur,hv,hB,hg,hnc,hm,hs,ht⟩⟩:=id h
  ·cases hh.1
  ·simp only [Value.slice.injEq,Option.some.injEq,Addr.mk.injEq] at hv
   obtain ⟨⟨rfl,_⟩,_,rfl⟩:=hv
   obtain ⟨c1,a1,a2,a3⟩:=blk_setCells news (i*2) w.drew cur hg
   exact ⟨c1,by rw [hW1b];exact a1,by rw [a2];exact hs⟩
 obtain ⟨cur1,hg1,hs1⟩:=hown1
 have hn1:i+(n-(i+1))=n-1:=by omega
 have hcl:∀ ty,(Builtin.clear_ #[189] ty #[.slice (some ⟨g,(i+(n-(i+1)))*2,none⟩) (n-(i+(n-(i+1)))) (c-(i+(n-(i+1))))]).run Tryz.prog W1=.ok (.tuple #[]) (W1.setCells g ((n-1)*2) [.int .i64 0,.slice none 0 0]):=by
  intro ty
  rw [hn1,show n-(n-1)=1 by omega]
  exact run_clear2 W1 _ _ ty Tryz.underlying189 zeroG g ((n-1)*2) _ (fun j hj=>by rw [cell_blk hg1];simp;omega) (fun j hj=>frozen_blk hg1 _)
 have HN1:=hidp hn1
 clear hn1
 have HF:=hidp (own_del h hi (.int .i64 0) (.slice none 0 0))
 have HW:Hid (W1=w.drew.setCells g (0+i*2) news):=hidp hW1
 have HW2:Hid (W1=w.drew.setCells g (i*2) (xs.drop ((i+1)*2))):=hidp (by rw [←hnews];exact hW1b)
 have HIC:=hidp hi
 have hi1:i+1≤n:=hi
 have hq0:(0:Int)≤(i:Int)+1:=by omega
 have hq1:(i:Int)+1≤(n:Int):=by omega
 have hil:i≤n:=by omega
 have hic:i≤c:=by omega
 have hjc:i+1≤c:=by omega
 have hne:¬(i=i+1):=by omega
 haveI:SzGe (g+1) w:=⟨hlt⟩
 clear hW1 hW1b hg1 hs1 hcell hone hnews hnl hxl h hi
 go_enter Tryz.func148,Tryz.ntmps148
 go_wp2_with fail
 go_region_law (refine step_append_room rfl (.tmp 22) (.tmp 25) 189 rfl 243 i0 2 Tryz.underlying189 hi0 hz1 g 0 i c (by simp [Act.eval,Act.put]) A (n-(i+1)) (c-(i+1)) news (by simp [Act.eval,Act.put]) s1.out hsrc.out s2.out (by omega) s3.out ?_;rw [←HW.out])
 go_wp2_with fail
 go_ret
 have e1:=HW2.out
 have hfin:=HF.out
 have hg1:=(grown_setCells w.drew g (i*2) (xs.drop ((i+1)*2)))
 rw [←e1] at hg1
 have hg2:=grown_setCells W1 g ((n-1)*2) [.int .i64 0,.slice none 0 0]
 have hw1:(w.setCells g (i*2) (xs.drop ((i+1)*2))).heap=W1.heap:=by rw [e1,setCells_drew];rfl
 refine ⟨by rw [HN1.out];rfl,?_,?_⟩
 ·rw [HE.out]
  refine own_same hfin fun b hb=>?_
  obtain rfl:g=b:=by simpa [Value.ownBlock] using hb
  exact setCells_heap hw1 _ _ _
 ·refine ⟨hg2.os.trans hg1.os,hg2.tape.trans hg1.tape,hg2.output.trans hg1.output,Nat.le_trans hg1.size hg2.size,fun k hk hne=>(hg2.block k (Nat.lt_of_lt_of_le hk hg1.size) hne).trans (hg1.block k hk hne)⟩
end Go.Proofs.YtbopfhbeegkkaabGreatDoor
