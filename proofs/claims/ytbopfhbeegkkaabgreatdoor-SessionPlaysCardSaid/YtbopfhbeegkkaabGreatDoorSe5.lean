/- Part 5 of a proof: lemmas and contracts that other parts use. -/
import Derived.Test.YtbopfhbeegkkaabGreatDoorSe3
import Derived.Test.YtbopfhbeegkkaabGreatDoorSe4
import Derived.Deep.RegionHeld3
import Derived.Laws.BitsAllLaws
import Derived.Laws.BitsLemmas
import Derived.Laws.BytesArg
import Derived.Deep.AppendLies
import Derived.Lib.AppendStr
import Derived.Laws.CopyRow
import Derived.Laws.IdiomCopy
import Derived.Lib.AppendZerosOnto
import Derived.Lib.Overlaps
set_option linter.unusedVariables false
set_option linter.unusedSimpArgs false
set_option linter.constructorNameAsVariable false
namespace Go.Proofs.YtbopfhbeegkkaabGreatDoor
open Go.RowKit
theorem heap_alloc (W:World) (o:Obj) (k:Nat):(W.alloc o).heap[k]?=if k=W.heap.size then some o else W.heap[k]?:=by
 show (W.heap.push o)[k]?=_
 rw [Array.getElem?_push]
theorem heap_drew (W:World):W.drew.heap=W.heap:=rfl
theorem cell_blk {w:World} {g:Nat} {cs:Array Value} {t:TypeId} (h:w.heap[g]?=some (.cells cs t)) (i:Nat):w.cell? ⟨g,i,none⟩=cs[i]?:=cell_of_row w g i cs t (0,0) h
theorem frozen_blk {w:World} {g:Nat} {cs:Array Value} {t:TypeId} (h:w.heap[g]?=some (.cells cs t)) (i:Nat):w.frozen? ⟨g,i,none⟩=false:=by
 simp [World.frozen?,h]
theorem lt_blk {w:World} {g:Nat} {o:Obj} (h:w.heap[g]?=some o):g<w.heap.size:=(Array.getElem?_eq_some_iff.1 h).1
theorem blk_set {w:World} {g:Nat} {cs:Array Value} {t:TypeId} (h:w.heap[g]?=some (.cells cs t)) (i:Nat) (u:Value):(w.setCell ⟨g,i,none⟩ u).heap[g]?=some (.cells (cs.setIfInBounds i u) t):=by
 simp [World.setCell,Array.getElem?_modify,h]
theorem grown_set (w:World) (g i:Nat) (u:Value):w.grownBy (w.setCell ⟨g,i,none⟩ u) (some g):=
 ⟨rfl,rfl,rfl,by simp [World.setCell],fun k _ hne=>Below.heap_setCell w ⟨g,i,none⟩ u k (fun e=>hne (by rw [e]))⟩
def wrCells (l:List WrP):List Value:=l.flatMap fun x=>[.int .i64 x.key,.string x.data,.bool x.gone]
theorem wrCells_len (l:List WrP):(wrCells l).length=l.length*3:=by
 induction l with
 | nil=>rfl
 | cons x l ih=>simp only [wrCells,List.flatMap_cons,List.length_append,List.length_cons,List.length_nil] at ih ⊢;omega
theorem wrCells_at:∀ (l:List WrP) (i:Nat) (x:WrP),l[i]?=some x→(wrCells l)[i*3]?=some (.int .i64 x.key)∧(wrCells l)[i*3+1]?=some (.string x.data)∧(wrCells l)[i*3+2]?=some (.bool x.gone)
 | [],i,x,h=>by simp at h
 | y::l,0,x,h=>by simp at h;subst h;simp [wrCells]
 | y::l,i+1,x,h=>by
   have:=wrCells_at l i x (by simpa using h)
   have e:∀ j,(wrCells (y::l))[j+3]?=(wrCells l)[j]?:=fun j=>by simp [wrCells,List.getElem?_append_right]
   rw [show (i+1)*3=i*3+3 by omega,show i*3+3+1=(i*3+1)+3 by omega,show i*3+3+2=(i*3+2)+3 by omega,e,e,e]
   exact this
theorem own_ws {w:World} {B c:Nat} {A:Option Addr} {ws:List WrP} (h:w.ownsRow B 83 3 (.slice A ws.length c) ws.length (wrCells ws)):WsAt w A ws:=by
 intro i x hx
 obtain ⟨hl,hn | ⟨g,cap,cur,hv,hb,hg,rest⟩⟩:=id h
 ·have:ws=[]:=List.eq_nil_of_length_eq_zero hn.2
  subst this;simp at hx
 ·simp only [Value.slice.injEq] at hv
  obtain ⟨rfl,_,rfl⟩:=hv
  have hc:=h.cells (g:=g) rfl
  obtain ⟨h0,h1,h2⟩:=wrCells_at ws i x hx
  have e:∀ j:Nat,(⟨g,0,none⟩:Addr).add j=⟨g,0+j,none⟩:=fun j=>by unfold Addr.add;split <;> simp_all
  have k0:=hc _ _ h0
  have k1:=hc _ _ h1
  have k2:=hc _ _ h2
  rw [e] at k0 k1 k2
  exact ⟨g,0,rfl,(Array.getElem?_eq_some_iff.1 hg).1,k0,k1,k2⟩
theorem own_ge {w:World} {B e s n:Nat} {v:Value} {xs:List Value} (h:w.ownsRow B e s v n xs) {k:Nat} (hk:v.ownBlock=some k):B≤k∧k<w.heap.size:=by
 obtain ⟨_,hn | ⟨g,cap,cur,hv,hb,hg,_⟩⟩:=h
 ·rw [hn.1] at hk;simp [Value.ownBlock] at hk
 ·subst hv
  have:g=k:=by simpa [Value.ownBlock] using hk
  subst this
  exact ⟨hb,(Array.getElem?_eq_some_iff.1 hg).1⟩
def put9 (W:World) (b:Nat) (u0 u1 u2 u3 u4 u5 u6 u7 u8:Value):World:=
 ((((((((W.setCell ⟨b,0,none⟩ u0).setCell ⟨b,1,none⟩ u1).setCell ⟨b,2,none⟩ u2).setCell ⟨b,3,none⟩ u3).setCell ⟨b,4,none⟩ u4).setCell ⟨b,5,none⟩ u5).setCell ⟨b,6,none⟩ u6).setCell ⟨b,7,none⟩ u7).setCell ⟨b,8,none⟩ u8
theorem put9_blk {W:World} {b:Nat} {x0 x1 x2 x3 x4 x5 x6 x7 x8 u0 u1 u2 u3 u4 u5 u6 u7 u8:Value} {t:TypeId} (h:W.heap[b]?=some (.cells #[x0,x1,x2,x3,x4,x5,x6,x7,x8] t)):
  (put9 W b u0 u1 u2 u3 u4 u5 u6 u7 u8).heap[b]?=some (.cells #[u0,u1,u2,u3,u4,u5,u6,u7,u8] t):=by
 have h0:=blk_set h 0 u0
 simp only [List.setIfInBounds_toArray,List.set_cons_zero,List.set_cons_succ] at h0
 have h1:=blk_set h0 1 u1
 simp only [List.setIfInBounds_toArray,List.set_cons_zero,List.set_cons_succ] at h1
 have h2:=blk_set h1 2 u2
 simp only [List.setIfInBounds_toArray,List.set_cons_zero,List.set_cons_succ] at h2
 have h3:=blk_set h2 3 u3
 simp only [List.setIfInBounds_toArray,List.set_cons_zero,List.set_cons_succ] at h3
 have h4:=blk_set h3 4 u4
 simp only [List.setIfInBounds_toArray,List.set_cons_zero,List.set_cons_succ] at h4
 have h5:=blk_set h4 5 u5
 simp only [List.setIfInBounds_toArray,List.set_cons_zero,List.set_cons_succ] at h5
 have h6:=blk_set h5 6 u6
 simp only [List.setIfInBounds_toArray,List.set_cons_zero,List.set_cons_succ] at h6
 have h7:=blk_set h6 7 u7
 simp only [List.setIfInBounds_toArray,List.set_cons_zero,List.set_cons_succ] at h7
 have h8:=blk_set h7 8 u8
 simp only [List.setIfInBounds_toArray,List.set_cons_zero,List.set_cons_succ] at h8
 exact h8
theorem own_below {w w':World} {n B e s m:Nat} {v:Value} {xs:List Value} (h:w.ownsRow B e s v m xs) (hb:Below n w w') (hn:∀ k,v.ownBlock=some k→k<n):w'.ownsRow B e s v m xs:=by
 obtain ⟨hl,hh | ⟨g,cap,cur,hv,hb',hg,rest⟩⟩:=h
 ·exact ⟨hl,.inl hh⟩
 ·refine ⟨hl,.inr ⟨g,cap,cur,hv,hb',?_,rest⟩⟩
  rw [hb.block g (hn g (by rw [hv];rfl))];exact hg
instance : Inhabited VerP := ⟨⟨0, 0, 0, 0, ⟨#[]⟩, false⟩⟩
def VsAt (w:World) (A:Option Addr) (vs:List VerP):Prop:=∀ (i:Nat) (x:VerP),vs[i]?=some x→∃ b o,A=some ⟨b,o,none⟩∧b<w.heap.size∧
 w.cell? ⟨b,o+i*6,none⟩=some (.int .i64 x.w)∧w.cell? ⟨b,o+i*6+1,none⟩=some (.int .i64 x.c)∧w.cell? ⟨b,o+i*6+2,none⟩=some (.int .i64 x.site)∧
 w.cell? ⟨b,o+i*6+3,none⟩=some (.int .i64 x.seq)∧w.cell? ⟨b,o+i*6+4,none⟩=some (.string x.data)∧w.cell? ⟨b,o+i*6+5,none⟩=some (.bool x.gone)
theorem VsAt.below {w w':World} {A:Option Addr} {vs:List VerP} (h:VsAt w A vs) (hb:Below w.heap.size w w'):VsAt w' A vs:=fun i x hx=>by
 obtain ⟨b,o,hA,hlt,h0,h1,h2,h3,h4,h5⟩:=h i x hx
 have e:∀ k,w'.cell? ⟨b,k,none⟩=w.cell? ⟨b,k,none⟩:=fun k=>hb.cell (p:=⟨b,k,none⟩) hlt
 exact ⟨b,o,hA,Nat.lt_of_lt_of_le hlt hb.size,by rw [e];exact h0,by rw [e];exact h1,by rw [e];exact h2,by rw [e];exact h3,by rw [e];exact h4,by rw [e];exact h5⟩
def bsGo (vs:List VerP) (v:VerP):Nat→Nat→Nat→Nat
 | 0,lo,_=>lo
 | f+1,lo,hi=>if lo<hi then (if cmpV (vs.getD ((lo+hi) / 2) default) v<0 then bsGo vs v f ((lo+hi) / 2+1) hi else bsGo vs v f lo ((lo+hi) / 2)) else lo
theorem bsGo_end (vs:List VerP) (v:VerP):∀ (f lo hi:Nat),¬lo<hi→bsGo vs v f lo hi=lo
 | 0,_,_,_=>rfl
 | f+1,lo,hi,h=>by unfold bsGo;rw [if_neg h]
theorem bsGo_le (vs:List VerP) (v:VerP):∀ (f lo hi:Nat),lo≤hi→lo≤bsGo vs v f lo hi∧bsGo vs v f lo hi≤hi
 | 0,lo,hi,h=>⟨Nat.le_refl _,h⟩
 | f+1,lo,hi,h=>by
   unfold bsGo
   split
   ·split
    ·have:=bsGo_le vs v f ((lo+hi) / 2+1) hi (by omega);omega
    ·have:=bsGo_le vs v f lo ((lo+hi) / 2) (by omega);omega
   ·omega
def bsK (vs:List VerP) (v:VerP):Nat:=bsGo vs v vs.length 0 vs.length
def bsF (vs:List VerP) (v:VerP):Bool:=decide (bsK vs v<vs.length)&&decide (cmpV (vs.getD (bsK vs v) default) v=0)
set_option maxHeartbeats 8000000 in
theorem search_any (vs:List VerP) (v:VerP) (A:Option Addr) (c:Nat) (w:World) (hn:vs.length≤1000000) (hvs:VsAt w A vs) (hs:∀ x∈vs,0≤x.site∧x.site<4) (hv:0≤v.site∧v.site<4):
  Calls Tryz.prog 176 #[.slice A vs.length c,verV v,.func (.func 177) #[] #[]] w fun e w'=>e=.returned (.tuple #[.int .i64 (bsK vs v),.bool (bsF vs v)])∧Below w.heap.size w w':=by
 have HV:=hidp hvs
 have HS:=hidp hs
 have HSV:=hidp hv
 clear hvs hs hv
 unfold verV
 go_enter Tryz.func176,Tryz.ntmps176
 go_wp2
 go_loopw [9,10] (fun i j wr=>∃ (lo hi f:Nat),i=.int .i64 lo∧j=.int .i64 hi∧lo≤hi∧hi≤vs.length∧hi-lo≤f∧bsGo vs v f lo hi=bsK vs v∧Below (w.alloc (.cells #[.int .i64 v.w,.int .i64 v.c,.int .i64 v.site,.int .i64 v.seq,.string v.data,.bool v.gone] 59)).heap.size (w.alloc (.cells #[.int .i64 v.w,.int .i64 v.c,.int .i64 v.site,.int .i64 v.seq,.string v.data,.bool v.gone] 59)) wr) (fun i j _=>((intOf j).toNat-(intOf i).toNat))
 case atStart=>exact ⟨0,vs.length,vs.length,rfl,rfl,Nat.zero_le _,Nat.le_refl _,by omega,rfl,Below.refl _ _⟩
 case round=>
  obtain ⟨lo,hi,f,rfl,rfl,h1,h2,h3,hB,hbl⟩:=hrel
  obtain ⟨x,rfl⟩:=wplus_of_below hbl
  clear hbl
  have HB:=hidp hB
  clear hB
  by_cases hlt:lo<hi
  ·obtain ⟨f,rfl⟩:∃ f',f=f'+1:=⟨f-1,by omega⟩
   obtain ⟨m,hm⟩:∃ m,(lo+hi) / 2=m:=⟨_,rfl⟩
   have hml:m<hi:=by omega
   have hmg:lo≤m:=by omega
   have hmi:((lo:Int)+(hi:Int)) / 2=(m:Int):=by omega
   have hmv:m<vs.length:=by omega
   obtain ⟨b,o,rfl,hb,c0,c1,c2,c3,c4,c5⟩:=HV.out m vs[m] (List.getElem?_eq_getElem hmv)
   obtain ⟨y,hy⟩:∃ y,vs[m]=y:=⟨_,rfl⟩
   have hys:=HS.out vs[m] (List.getElem_mem hmv)
   rw [hy] at c0 c1 c2 c3 c4 c5 hys
   have hgd:vs.getD m default=y:=by simp [List.getD,List.getElem?_eq_getElem hmv,hy]
   have hB2:bsK vs v=if cmpV y v<0 then bsGo vs v f (m+1) hi else bsGo vs v f lo m:=by
    rw [←HB.out];conv=>lhs;unfold bsGo
    rw [if_pos hlt,hm,hgd]
   have HB2:=hidp hB2
   have HC:=hidp fun w=>cmpV_any y v w hys HSV.out
   unfold verV at HC
   generalize cmpV y v=z at *
   haveI:SzGe (b+1) w:=⟨hb⟩
   clear hB2 hgd hy hm HB hys
   go_wp2
   by_cases hz:z<0
   ·have hd:decide (z<0)=true:=by simpa using hz
    have HB3:Hid (bsGo vs v f (m+1) hi=bsK vs v):=hidp (by rw [HB2.out,if_pos hz])
    clear HB2
    refine wp_region_plus (by kernel_rfl) (by kernel_rfl) ?_
    repeat (first | go_big_quiet_skip | (go_big_quiet_want;go_big_quiet_op;first | go_big_quiet_on | (apply Exists.intro;refine ⟨fun _=>?_,?_⟩;(first | (go_at_call 177;exact Calls.plus_of (HC.out _)));go_big_quiet_on)))
    refine wpQuiet_nil ?_
    rintro _ ⟨x3,rfl⟩
    go_wp2
    go_roundw
    case rel=>exact ⟨m+1,hi,f,congrArg (Value.int IntKind.i64) (by omega),rfl,by omega,h2,by omega,HB3.out,zB⟩
    case measure=>simp only [intOf];omega
   ·have hd:decide (z<0)=false:=by simpa using hz
    have HB3:Hid (bsGo vs v f lo m=bsK vs v):=hidp (by rw [HB2.out,if_neg hz])
    clear HB2
    refine wp_region_plus (by kernel_rfl) (by kernel_rfl) ?_
    repeat (first | go_big_quiet_skip | (go_big_quiet_want;go_big_quiet_op;first | go_big_quiet_on | (apply Exists.intro;refine ⟨fun _=>?_,?_⟩;(first | (go_at_call 177;exact Calls.plus_of (HC.out _)));go_big_quiet_on)))
    refine wpQuiet_nil ?_
    rintro _ ⟨x3,rfl⟩
    go_wp2
    go_roundw
    case rel=>exact ⟨lo,m,f,rfl,rfl,hmg,by omega,by omega,HB3.out,zB⟩
    case measure=>simp only [intOf];omega
  ·have hk:bsK vs v=lo:=by rw [←HB.out,bsGo_end vs v f lo hi hlt]
   have HK:=hidp hk
   clear hk HB
   by_cases hln:lo<vs.length
   ·obtain ⟨b,o,rfl,hb,c0,c1,c2,c3,c4,c5⟩:=HV.out lo vs[lo] (List.getElem?_eq_getElem hln)
    obtain ⟨y,hy⟩:∃ y,vs[lo]=y:=⟨_,rfl⟩
    have hys:=HS.out vs[lo] (List.getElem_mem hln)
    rw [hy] at c0 c1 c2 c3 c4 c5 hys
    have hgd:vs.getD lo default=y:=by simp [List.getD,List.getElem?_eq_getElem hln,hy]
    have HC:=hidp fun w=>cmpV_any y v w hys HSV.out
    have HF:Hid (bsF vs v=decide (cmpV y v=0)):=hidp (by unfold bsF;rw [HK.out,hgd,decide_eq_true hln,Bool.true_and])
    unfold verV at HC
    generalize cmpV y v=z at *
    haveI:SzGe (b+1) w:=⟨hb⟩
    have hd:decide ((lo:Int)<(vs.length:Int))=true:=decide_eq_true (by omega)
    clear hgd hy hys
    go_wp2
    refine wp_region_plus (by kernel_rfl) (by kernel_rfl) ?_
    repeat (first | go_big_quiet_skip | (go_big_quiet_want;go_big_quiet_op;first | go_big_quiet_on | (apply Exists.intro;refine ⟨fun _=>?_,?_⟩;(first | (go_at_call 177;exact Calls.plus_of (HC.out _)));go_big_quiet_on)))
    refine wpQuiet_nil ?_
    rintro _ ⟨x3,rfl⟩
    go_wp2
    go_ret2
    refine ⟨?_,zB⟩
    rw [HK.out,HF.out,show decide (z=0)=(z==0) from by rw [Bool.eq_iff_iff];simp]
    rfl
   ·have HF:Hid (bsF vs v=false):=hidp (by unfold bsF;rw [HK.out,decide_eq_false hln,Bool.false_and])
    have hd:decide ((lo:Int)<(vs.length:Int))=false:=decide_eq_false (by omega)
    go_wp2
    refine wp_region_plus (by kernel_rfl) (by kernel_rfl) ?_
    repeat (first | go_big_quiet_skip | (go_big_quiet_want;go_big_quiet_op;go_big_quiet_on))
    refine wpQuiet_nil ?_
    rintro _ ⟨x3,rfl⟩
    go_wp2
    go_ret2
    refine ⟨?_,zB⟩
    rw [HK.out,HF.out]
    rfl
theorem maxLen_ge:140737488355328≤maxLen:=by simp only [maxLen];omega
theorem run_copy_rowK {P:Program} (w:World) (dT sT ty elem:TypeId) (g o dLen dCap:Nat) (a:Addr) (sLen sCap sz n:Nat) (cur:Array Value) (t:TypeId) (cs:List Value)
  (hu:P.underlying dT=some (.slice elem)) (hs:(P.info? elem).map (·.size)=some sz)
  (hg:w.heap[g]?=some (.cells cur t (0,0))) (hn:Nat.min sLen dLen=n) (hcs:cs.length=n*sz)
  (hsrc:∀ j v,cs[j]?=some v→w.cell? (a.add j)=some v) (hfit:o+cs.length≤cur.size) (h1:∀ v∈cs,v.oneCell'=true):
  (Builtin.copy_ #[dT,sT] ty #[.slice (some ⟨g,o,none⟩) dLen dCap,.slice (some a) sLen sCap]).run P w=
    .ok (goInt n) (w.setRow g (cur.toList.take o++cs++cur.toList.drop (o+cs.length)).toArray):=by
 have hl:=run_loadCells_list (P:=P) w a cs hsrc
 have hst:=run_storeCells_at P g o t cs 0 cur w hg (by simpa using hfit) h1
 cases hq:P.info? elem with
 | none=>simp [hq] at hs
 | some i=>
   have hi:i.size=sz:=by simpa [hq] using hs
   simp [Builtin.copy_,run_underlying hu,Builtin.lenOf,Builtin.firstCells,sizeOf,typeInfo,hq,hi,hn,←hcs,hl,hst]
theorem info71:(Tryz.prog.info? 59).map (fun i=>(i.zero,i.size,i.bytes))=some (some (.agg #[.int .i64 0,.int .i64 0,.int .i64 0,.int .i64 0,.string ⟨#[]⟩,.bool false]),6,56):=by kernel_rfl
theorem info71x:∃ i,Tryz.prog.info? 59=some i∧i.zero=some (.agg #[.int .i64 0,.int .i64 0,.int .i64 0,.int .i64 0,.string ⟨#[]⟩,.bool false])∧i.size=6∧i.bytes=56:=by
 obtain ⟨i,hi,h⟩:=Option.map_eq_some_iff.1 info71
 simp only [Prod.mk.injEq] at h
 exact ⟨i,hi,h.1,h.2.1,h.2.2⟩
def InsPost (B:Nat) (v0:Value) (n:Nat) (ys:List Value) (w:World) (e:Ending) (w':World):Prop:=
 ∃ v',e=.returned v'∧w'.ownsRow B 59 6 v' (n+1) ys∧w.grownBy w' v0.ownBlock∧(v'.ownBlock=v0.ownBlock∨∀ k,v'.ownBlock=some k→w.heap.size≤k)
theorem cells6 {w:World} {ab:Nat} {u0 u1 u2 u3 u4 u5:Value} (h:w.heap[ab]?=some (.cells #[u0,u1,u2,u3,u4,u5] 59)):
  ∀ (j:Nat) (u:Value),[u0,u1,u2,u3,u4,u5][j]?=some u→w.cell? ((⟨ab,0,none⟩:Addr).add j)=some u:=by
 intro j u hj
 have e:(⟨ab,0,none⟩:Addr).add j=⟨ab,j,none⟩:=by unfold Addr.add;split <;> simp_all
 rw [e,cell_blk h j]
 simpa using hj
set_option maxHeartbeats 2000000 in
theorem insert_end (B:Nat) (v0:Value) (n:Nat) (xs:List Value) (u0 u1 u2 u3 u4 u5:Value) (ab:Nat) (w:World) (hB:B≤w.heap.size) (hown:w.ownsRow B 59 6 v0 n xs) (hn:n≤1000000)
  (hab:w.heap[ab]?=some (.cells #[u0,u1,u2,u3,u4,u5] 59)) (h1:∀ u∈[u0,u1,u2,u3,u4,u5],u.oneCell'=true):
  Calls Tryz.prog 178 #[v0,.int .i64 n,.slice (some ⟨ab,0,none⟩) 1 1] w (InsPost B v0 n (xs++[u0,u1,u2,u3,u4,u5]) w):=by
 obtain ⟨i0,hi,hz0,hz1,hz2⟩:=info71x
 have HO:=hidp hown
 have HA:=hidp hab
 have H1:=hidp h1
 obtain ⟨A,c,rfl,hc⟩:∃ A c,v0=.slice A n c∧n≤c:=by
  obtain ⟨_,hh | ⟨g,cap,cur,hv,_,_,hc,_⟩⟩:=hown
  ·exact ⟨none,0,by rw [hh.1,hh.2],by omega⟩
  ·exact ⟨_,cap,hv,hc⟩
 clear hown hab h1
 by_cases hcn:c=n
 all_goals
  first | subst hcn | skip
  go_enter Tryz.func178,Tryz.ntmps178
  go_wp2_with (at_builtin;go_must (refine wpList_append_lies _ rfl _ _ 142 rfl B 59 i0 (.agg #[.int .i64 0,.int .i64 0,.int .i64 0,.int .i64 0,.string ⟨#[]⟩,.bool false]) 6 56 Tryz.underlying142 hi hz0 hz1 hz2 rfl (by decide) _ _ xs rfl HO.out ⟨ab,0,none⟩ 1 1 [u0,u1,u2,u3,u4,u5] rfl rfl (cells6 HA.out) H1.out (by decide) ?c2 ?c3 hB _ rfl ?_))
  case c2=>refine Nat.le_trans ?_ maxLen_ge;omega
  case c3=>omega
  intro g1 cap1 w1 hown1 hgrow hgl hlt1
  have HP:Hid (InsPost B (.slice A _ _) _ (xs++[u0,u1,u2,u3,u4,u5]) w (.returned (.slice (some ⟨g1,0,none⟩) _ cap1)) w1):=hidp ⟨_,rfl,hown1,hgrow,by
   rcases hgl with h | h
   ·left;rw [h];rfl
   ·right;intro k hk;simp [Value.ownBlock] at hk;omega⟩
  clear hown1 hgrow hgl hlt1
  go_wp2
  go_ret
  exact HP.out
end Go.Proofs.YtbopfhbeegkkaabGreatDoor
