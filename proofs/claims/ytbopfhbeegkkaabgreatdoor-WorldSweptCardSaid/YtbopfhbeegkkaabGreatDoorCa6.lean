/- Part 6 of a proof: lemmas and contracts that other parts use. -/
import Derived.Test.YtbopfhbeegkkaabGreatDoorCa5
import Derived.Deep.AppendLies
import Derived.Test.YtbopfhbeegkkaabGreatDoorCa3
import Derived.Lib.AppendStr
set_option linter.unusedVariables false
set_option linter.unusedSimpArgs false
namespace Go.Proofs.YtbopfhbeegkkaabGreatDoor
open Go.RowKit
theorem num_to {r r':Rd} {n:Nat} (h:numR r=(n,r')) (g:Nat) (W:World) (hr:RdAt W g r) (hl:r.l.length≤1000000):
  Calls Tryz.prog 186 #[.pointer (some ⟨g,0,none⟩)] W fun e w'=>e=.returned (.int .i64 n)∧RdAt w' g r'∧W.grownBy w' (some g):=by
 have:=num_any g r W hr hl;rw [h] at this;exact this
theorem text_to {r r':Rd} {b:ByteArray} (h:textR r=(b,r')) (g:Nat) (W:World) (hr:RdAt W g r) (hl:r.l.length≤1000000):
  Calls Tryz.prog 188 #[.pointer (some ⟨g,0,none⟩)] W fun e w'=>e=.returned (.string b)∧RdAt w' g r'∧W.grownBy w' (some g):=by
 have:=text_any g r W hr hl;rw [h] at this;exact this
theorem vec_to {r r':Rd} {a b c d:Nat} (h:numR4 r=((a,b,c,d),r')) (g:Nat) (W:World) (hr:RdAt W g r) (hl:r.l.length≤1000000):
  Calls Tryz.prog 187 #[.pointer (some ⟨g,0,none⟩)] W fun e w'=>e=.returned (.agg #[.int .i64 a,.int .i64 b,.int .i64 c,.int .i64 d])∧RdAt w' g r'∧W.grownBy w' (some g):=by
 have:=vec_any g r W hr hl;rw [h] at this;exact this
theorem num_to_len {r r':Rd} {n:Nat} (h:numR r=(n,r')) (hl:r.l.length≤1000000):r'.l.length≤1000000:=by
 have:=numR_len r;rw [h] at this;exact Nat.le_trans this hl
theorem text_to_len {r r':Rd} {b:ByteArray} (h:textR r=(b,r')) (hl:r.l.length≤1000000):r'.l.length≤1000000:=by
 have h1:=numR_len r
 unfold textR at h
 split at h <;> (cases h;simp only [List.length_drop] ; omega)
theorem vec_to_len {r r':Rd} {q:Nat×Nat×Nat×Nat} (h:numR4 r=(q,r')) (hl:r.l.length≤1000000):r'.l.length≤1000000:=by
 have:=numR4_len r;rw [h] at this;exact Nat.le_trans this hl
theorem num_to_le {r r':Rd} {n:Nat} (h:numR r=(n,r')):n≤1099511627776:=by
 unfold numR at h
 cases e:rdNum r.l with
 | none=>rw [e] at h;cases h;omega
 | some x=>
   obtain ⟨k,l⟩:=x
   rw [e] at h
   cases h
   exact (rdNum_back e).2
theorem vec_to_le {r r':Rd} {a b c d:Nat} (h:numR4 r=((a,b,c,d),r')):a≤1099511627776∧b≤1099511627776∧c≤1099511627776∧d≤1099511627776:=by
 unfold numR4 at h
 simp only [Prod.mk.injEq] at h
 obtain ⟨⟨rfl,rfl,rfl,rfl⟩,_⟩:=h
 exact ⟨num_to_le rfl,num_to_le rfl,num_to_le rfl,num_to_le rfl⟩
def finTx (h d:Nat×Nat×Nat×Nat) (F:List WrP×Rd):Option TxP:=
 if F.2.bad||!F.2.l.isEmpty||!rightTx (txOf h d F.1) then none else some (txOf h d F.1)
theorem blk9 {W:World} {b:Nat} {x0 x1 x2 x3 x4 x5 x6 x7 x8:Value} {t:TypeId} (h:W.heap[b]?=some (.cells #[x0,x1,x2,x3,x4,x5,x6,x7,x8] t)):
  W.cell? ⟨b,0,none⟩=some x0∧W.cell? ⟨b,1,none⟩=some x1∧W.cell? ⟨b,2,none⟩=some x2∧W.cell? ⟨b,3,none⟩=some x3∧W.cell? ⟨b,4,none⟩=some x4∧
  W.cell? ⟨b,5,none⟩=some x5∧W.cell? ⟨b,6,none⟩=some x6∧W.cell? ⟨b,7,none⟩=some x7∧W.cell? ⟨b,8,none⟩=some x8∧
  W.frozen? ⟨b,0,none⟩=false∧W.frozen? ⟨b,1,none⟩=false∧W.frozen? ⟨b,2,none⟩=false∧W.frozen? ⟨b,3,none⟩=false∧W.frozen? ⟨b,4,none⟩=false∧
  W.frozen? ⟨b,5,none⟩=false∧W.frozen? ⟨b,6,none⟩=false∧W.frozen? ⟨b,7,none⟩=false∧W.frozen? ⟨b,8,none⟩=false:=
 ⟨cell_blk h 0,cell_blk h 1,cell_blk h 2,cell_blk h 3,cell_blk h 4,cell_blk h 5,cell_blk h 6,cell_blk h 7,cell_blk h 8,
  frozen_blk h 0,frozen_blk h 1,frozen_blk h 2,frozen_blk h 3,frozen_blk h 4,frozen_blk h 5,frozen_blk h 6,frozen_blk h 7,frozen_blk h 8⟩
def put9 (W:World) (b:Nat) (u0 u1 u2 u3 u4 u5 u6 u7 u8:Value):World:=
 ((((((((W.setCell ⟨b,0,none⟩ u0).setCell ⟨b,1,none⟩ u1).setCell ⟨b,2,none⟩ u2).setCell ⟨b,3,none⟩ u3).setCell ⟨b,4,none⟩ u4).setCell ⟨b,5,none⟩ u5).setCell ⟨b,6,none⟩ u6).setCell ⟨b,7,none⟩ u7).setCell ⟨b,8,none⟩ u8
theorem put9_blk {W:World} {b:Nat} {x0 x1 x2 x3 x4 x5 x6 x7 x8 u0 u1 u2 u3 u4 u5 u6 u7 u8:Value} {t:TypeId} (h:W.heap[b]?=some (.cells #[x0,x1,x2,x3,x4,x5,x6,x7,x8] t)):
  (put9 W b u0 u1 u2 u3 u4 u5 u6 u7 u8).heap[b]?=some (.cells #[u0,u1,u2,u3,u4,u5,u6,u7,u8] t):=by
 have h0:=blk_set h 0 u0
 simp only [List.setIfInBounds_toArray,List.set_cons_zero,List.set_cons_succ] at h0
 have h1:=blk_set h0 1 u1
 simp only [List.setIfInBounds_toArray,List.set_cons_zero,List.set_cons_succ] at h1
 have h2:=blk_set h1 2 u2
 simp only [List.setIfInBounds_toArray,List.set_cons_zero,List.set_cons_succ] at h2
 have h3:=blk_set h2 3 u3
 simp only [List.setIfInBounds_toArray,List.set_cons_zero,List.set_cons_succ] at h3
 have h4:=blk_set h3 4 u4
 simp only [List.setIfInBounds_toArray,List.set_cons_zero,List.set_cons_succ] at h4
 have h5:=blk_set h4 5 u5
 simp only [List.setIfInBounds_toArray,List.set_cons_zero,List.set_cons_succ] at h5
 have h6:=blk_set h5 6 u6
 simp only [List.setIfInBounds_toArray,List.set_cons_zero,List.set_cons_succ] at h6
 have h7:=blk_set h6 7 u7
 simp only [List.setIfInBounds_toArray,List.set_cons_zero,List.set_cons_succ] at h7
 have h8:=blk_set h7 8 u8
 simp only [List.setIfInBounds_toArray,List.set_cons_zero,List.set_cons_succ] at h8
 exact h8
theorem set_below {n b i:Nat} {u:Value} {w W:World} (h:Below n w W) (hn:n≤b):Below n w (W.setCell ⟨b,i,none⟩ u):=Below.setCell h (by simpa using hn) _
theorem put9_below {n b:Nat} {w W:World} {u0 u1 u2 u3 u4 u5 u6 u7 u8:Value} (h:Below n w W) (hn:n≤b):Below n w (put9 W b u0 u1 u2 u3 u4 u5 u6 u7 u8):=
 set_below (set_below (set_below (set_below (set_below (set_below (set_below (set_below (set_below h hn) hn) hn) hn) hn) hn) hn) hn) hn
theorem set_own {w:World} {B e s n b i:Nat} {v u:Value} {xs:List Value} (h:w.ownsRow B e s v n xs) (hb:v.ownBlock≠some b):(w.setCell ⟨b,i,none⟩ u).ownsRow B e s v n xs:=
 h.kept (grown_set w b i u) (.inr hb)
theorem put9_own {W:World} {B e s n b:Nat} {v u0 u1 u2 u3 u4 u5 u6 u7 u8:Value} {xs:List Value} (h:W.ownsRow B e s v n xs) (hb:v.ownBlock≠some b):
  (put9 W b u0 u1 u2 u3 u4 u5 u6 u7 u8).ownsRow B e s v n xs:=
 set_own (set_own (set_own (set_own (set_own (set_own (set_own (set_own (set_own h hb) hb) hb) hb) hb) hb) hb) hb) hb
theorem own_base {w:World} {B B' e s n:Nat} {v:Value} {xs:List Value} (h:w.ownsRow B e s v n xs) (hb:B'≤B):w.ownsRow B' e s v n xs:=by
 obtain ⟨hl,hn | ⟨g,cap,cur,hv,hb',hg,rest⟩⟩:=h
 ·exact ⟨hl,.inl hn⟩
 ·exact ⟨hl,.inr ⟨g,cap,cur,hv,Nat.le_trans hb hb',hg,rest⟩⟩
theorem own_below {w w':World} {n B e s m:Nat} {v:Value} {xs:List Value} (h:w.ownsRow B e s v m xs) (hb:Below n w w') (hn:∀ k,v.ownBlock=some k→k<n):w'.ownsRow B e s v m xs:=by
 obtain ⟨hl,hh | ⟨g,cap,cur,hv,hb',hg,rest⟩⟩:=h
 ·exact ⟨hl,.inl hh⟩
 ·refine ⟨hl,.inr ⟨g,cap,cur,hv,hb',?_,rest⟩⟩
  rw [hb.block g (hn g (by rw [hv];rfl))];exact hg
theorem DtSt.below {w W W':World} {g tb:Nat} {x0 x1 x2 x3 x4 x5 x6 x7:Int} {A:Option Addr} {c:Nat} {ws:List WrP} {r:Rd} (st:DtSt w W g tb x0 x1 x2 x3 x4 x5 x6 x7 A c ws r)
  (hb:Below W.heap.size W W'):DtSt w W' g tb x0 x1 x2 x3 x4 x5 x6 x7 A c ws r:=by
 have h1:=lt_blk st.z
 have h2:=lt_blk st.tx
 have h3:=st.lt
 refine ⟨st.rd.above fun k hk=>hb.block k (by omega),by rw [hb.block _ h1];exact st.z,by rw [hb.block _ h2];exact st.tx,own_below st.own hb fun k hk=>(own_ge st.own hk).2,st.bl.trans (hb.mono (Nat.le_of_lt h1)),st.lg,st.lt⟩
def TxPost (w:World) (D:Option TxP) (e:Ending) (w':World):Prop:=
 match D with
 | none=>e=.returned (.tuple #[.agg #[.int .i64 0,.int .i64 0,.int .i64 0,.int .i64 0,.int .i64 0,.int .i64 0,.int .i64 0,.int .i64 0,.slice none 0 0],.iface 29 (.int .i64 3)])∧Below w.heap.size w w'
 | some t=>∃ A c,e=.returned (.tuple #[.agg #[.int .i64 t.site,.int .i64 t.seq,.int .i64 t.wall,.int .i64 t.count,.int .i64 t.d0,.int .i64 t.d1,.int .i64 t.d2,.int .i64 t.d3,.slice A t.ws.length c],.nilIface])∧
    Below w.heap.size w w'∧w'.ownsRow w.heap.size 83 3 (.slice A t.ws.length c) t.ws.length (wrCells t.ws)
theorem cells3_new {W:World} {x0 x1 x2:Value} {n:Nat} (hn:n=W.heap.size):
  ∀ (j:Nat) (u:Value),[x0,x1,x2][j]?=some u→(W.alloc (.cells #[x0,x1,x2] 83)).cell? ((⟨n,0,none⟩:Addr).add j)=some u:=by
 subst hn
 intro j u hj
 have e:(⟨W.heap.size,0,none⟩:Addr).add j=⟨W.heap.size,j,none⟩:=by unfold Addr.add;split <;> simp_all
 rw [e,cell_blk (cs:=#[x0,x1,x2]) (t:=83) (by rw [heap_alloc,if_pos rfl]) j]
 simpa using hj
instance : Inhabited VerP:=⟨⟨0,0,0,0,⟨#[]⟩,false⟩⟩
def VsAt (w:World) (A:Option Addr) (vs:List VerP):Prop:=∀ (i:Nat) (x:VerP),vs[i]?=some x→∃ b o,A=some ⟨b,o,none⟩∧b<w.heap.size∧
 w.cell? ⟨b,o+i*6,none⟩=some (.int .i64 x.w)∧w.cell? ⟨b,o+i*6+1,none⟩=some (.int .i64 x.c)∧w.cell? ⟨b,o+i*6+2,none⟩=some (.int .i64 x.site)∧
 w.cell? ⟨b,o+i*6+3,none⟩=some (.int .i64 x.seq)∧w.cell? ⟨b,o+i*6+4,none⟩=some (.string x.data)∧w.cell? ⟨b,o+i*6+5,none⟩=some (.bool x.gone)
theorem VsAt.below {w w':World} {A:Option Addr} {vs:List VerP} (h:VsAt w A vs) (hb:Below w.heap.size w w'):VsAt w' A vs:=fun i x hx=>by
 obtain ⟨b,o,hA,hlt,h0,h1,h2,h3,h4,h5⟩:=h i x hx
 have e:∀ k,w'.cell? ⟨b,k,none⟩=w.cell? ⟨b,k,none⟩:=fun k=>hb.cell (p:=⟨b,k,none⟩) hlt
 exact ⟨b,o,hA,Nat.lt_of_lt_of_le hlt hb.size,by rw [e];exact h0,by rw [e];exact h1,by rw [e];exact h2,by rw [e];exact h3,by rw [e];exact h4,by rw [e];exact h5⟩
def bsGo (vs:List VerP) (v:VerP):Nat→Nat→Nat→Nat
 | 0,lo,_=>lo
 | f+1,lo,hi=>if lo<hi then (if cmpV (vs.getD ((lo+hi) / 2) default) v<0 then bsGo vs v f ((lo+hi) / 2+1) hi else bsGo vs v f lo ((lo+hi) / 2)) else lo
theorem bsGo_end (vs:List VerP) (v:VerP):∀ (f lo hi:Nat),¬lo<hi→bsGo vs v f lo hi=lo
 | 0,_,_,_=>rfl
 | f+1,lo,hi,h=>by unfold bsGo;rw [if_neg h]
theorem bsGo_le (vs:List VerP) (v:VerP):∀ (f lo hi:Nat),lo≤hi→lo≤bsGo vs v f lo hi∧bsGo vs v f lo hi≤hi
 | 0,lo,hi,h=>⟨Nat.le_refl _,h⟩
 | f+1,lo,hi,h=>by
   unfold bsGo
   split
   ·split
    ·have:=bsGo_le vs v f ((lo+hi) / 2+1) hi (by omega);omega
    ·have:=bsGo_le vs v f lo ((lo+hi) / 2) (by omega);omega
   ·omega
def bsK (vs:List VerP) (v:VerP):Nat:=bsGo vs v vs.length 0 vs.length
def bsF (vs:List VerP) (v:VerP):Bool:=decide (bsK vs v<vs.length)&&decide (cmpV (vs.getD (bsK vs v) default) v=0)
set_option maxHeartbeats 8000000 in
theorem search_any (vs:List VerP) (v:VerP) (A:Option Addr) (c:Nat) (w:World) (hn:vs.length≤1000000) (hvs:VsAt w A vs) (hs:∀ x∈vs,0≤x.site∧x.site<4) (hv:0≤v.site∧v.site<4):
  Calls Tryz.prog 176 #[.slice A vs.length c,verV v,.func (.func 177) #[] #[]] w fun e w'=>e=.returned (.tuple #[.int .i64 (bsK vs v),.bool (bsF vs v)])∧Below w.heap.size w w':=by
 have HV:=hidp hvs
 have HS:=hidp hs
 have HSV:=hidp hv
 clear hvs hs hv
 unfold verV
 go_enter Tryz.func176,Tryz.ntmps176
 go_wp2
 go_loopw [9,10] (fun i j wr=>∃ (lo hi f:Nat),i=.int .i64 lo∧j=.int .i64 hi∧lo≤hi∧hi≤vs.length∧hi-lo≤f∧bsGo vs v f lo hi=bsK vs v∧Below (w.alloc (.cells #[.int .i64 v.w,.int .i64 v.c,.int .i64 v.site,.int .i64 v.seq,.string v.data,.bool v.gone] 59)).heap.size (w.alloc (.cells #[.int .i64 v.w,.int .i64 v.c,.int .i64 v.site,.int .i64 v.seq,.string v.data,.bool v.gone] 59)) wr) (fun i j _=>((intOf j).toNat-(intOf i).toNat))
 case atStart=>exact ⟨0,vs.length,vs.length,rfl,rfl,Nat.zero_le _,Nat.le_refl _,by omega,rfl,Below.refl _ _⟩
 case round=>
  obtain ⟨lo,hi,f,rfl,rfl,h1,h2,h3,hB,hbl⟩:=hrel
  obtain ⟨x,rfl⟩:=wplus_of_below hbl
  clear hbl
  have HB:=hidp hB
  clear hB
  by_cases hlt:lo<hi
  ·obtain ⟨f,rfl⟩:∃ f',f=f'+1:=⟨f-1,by omega⟩
   obtain ⟨m,hm⟩:∃ m,(lo+hi) / 2=m:=⟨_,rfl⟩
   have hml:m<hi:=by omega
   have hmg:lo≤m:=by omega
   have hmi:((lo:Int)+(hi:Int)) / 2=(m:Int):=by omega
   have hmv:m<vs.length:=by omega
   obtain ⟨b,o,rfl,hb,c0,c1,c2,c3,c4,c5⟩:=HV.out m vs[m] (List.getElem?_eq_getElem hmv)
   obtain ⟨y,hy⟩:∃ y,vs[m]=y:=⟨_,rfl⟩
   have hys:=HS.out vs[m] (List.getElem_mem hmv)
   rw [hy] at c0 c1 c2 c3 c4 c5 hys
   have hgd:vs.getD m default=y:=by simp [List.getD,List.getElem?_eq_getElem hmv,hy]
   have hB2:bsK vs v=if cmpV y v<0 then bsGo vs v f (m+1) hi else bsGo vs v f lo m:=by
    rw [←HB.out];conv=>lhs;unfold bsGo
    rw [if_pos hlt,hm,hgd]
   have HB2:=hidp hB2
   have HC:=hidp fun w=>cmpV_any y v w hys HSV.out
   unfold verV at HC
   generalize cmpV y v=z at *
   haveI:SzGe (b+1) w:=⟨hb⟩
   clear hB2 hgd hy hm HB hys
   go_wp2
   by_cases hz:z<0
   ·have hd:decide (z<0)=true:=by simpa using hz
    have HB3:Hid (bsGo vs v f (m+1) hi=bsK vs v):=hidp (by rw [HB2.out,if_pos hz])
    clear HB2
    refine wp_region_plus (by kernel_rfl) (by kernel_rfl) ?_
    repeat (first | go_big_quiet_skip | (go_big_quiet_want;go_big_quiet_op;first | go_big_quiet_on | (apply Exists.intro;refine ⟨fun _=>?_,?_⟩;(first | (go_at_call 177;exact Calls.plus_of (HC.out _)));go_big_quiet_on)))
    refine wpQuiet_nil ?_
    rintro _ ⟨x3,rfl⟩
    go_wp2
    go_roundw
    case rel=>exact ⟨m+1,hi,f,congrArg (Value.int IntKind.i64) (by omega),rfl,by omega,h2,by omega,HB3.out,zB⟩
    case measure=>simp only [intOf];omega
   ·have hd:decide (z<0)=false:=by simpa using hz
    have HB3:Hid (bsGo vs v f lo m=bsK vs v):=hidp (by rw [HB2.out,if_neg hz])
    clear HB2
    refine wp_region_plus (by kernel_rfl) (by kernel_rfl) ?_
    repeat (first | go_big_quiet_skip | (go_big_quiet_want;go_big_quiet_op;first | go_big_quiet_on | (apply Exists.intro;refine ⟨fun _=>?_,?_⟩;(first | (go_at_call 177;exact Calls.plus_of (HC.out _)));go_big_quiet_on)))
    refine wpQuiet_nil ?_
    rintro _ ⟨x3,rfl⟩
    go_wp2
    go_roundw
    case rel=>exact ⟨lo,m,f,rfl,rfl,hmg,by omega,by omega,HB3.out,zB⟩
    case measure=>simp only [intOf];omega
  ·have hk:bsK vs v=lo:=by rw [←HB.out,bsGo_end vs v f lo hi hlt]
   have HK:=hidp hk
   clear hk HB
   by_cases hln:lo<vs.length
   ·obtain ⟨b,o,rfl,hb,c0,c1,c2,c3,c4,c5⟩:=HV.out lo vs[lo] (List.getElem?_eq_getElem hln)
    obtain ⟨y,hy⟩:∃ y,vs[lo]=y:=⟨_,rfl⟩
    have hys:=HS.out vs[lo] (List.getElem_mem hln)
    rw [hy] at c0 c1 c2 c3 c4 c5 hys
    have hgd:vs.getD lo default=y:=by simp [List.getD,List.getElem?_eq_getElem hln,hy]
    have HC:=hidp fun w=>cmpV_any y v w hys HSV.out
    have HF:Hid (bsF vs v=decide (cmpV y v=0)):=hidp (by unfold bsF;rw [HK.out,hgd,decide_eq_true hln,Bool.true_and])
    unfold verV at HC
    generalize cmpV y v=z at *
    haveI:SzGe (b+1) w:=⟨hb⟩
    have hd:decide ((lo:Int)<(vs.length:Int))=true:=decide_eq_true (by omega)
    clear hgd hy hys
    go_wp2
    refine wp_region_plus (by kernel_rfl) (by kernel_rfl) ?_
    repeat (first | go_big_quiet_skip | (go_big_quiet_want;go_big_quiet_op;first | go_big_quiet_on | (apply Exists.intro;refine ⟨fun _=>?_,?_⟩;(first | (go_at_call 177;exact Calls.plus_of (HC.out _)));go_big_quiet_on)))
    refine wpQuiet_nil ?_
    rintro _ ⟨x3,rfl⟩
    go_wp2
    go_ret2
    refine ⟨?_,zB⟩
    rw [HK.out,HF.out,show decide (z=0)=(z==0) from by rw [Bool.eq_iff_iff];simp]
    rfl
   ·have HF:Hid (bsF vs v=false):=hidp (by unfold bsF;rw [HK.out,decide_eq_false hln,Bool.false_and])
    have hd:decide ((lo:Int)<(vs.length:Int))=false:=decide_eq_false (by omega)
    go_wp2
    refine wp_region_plus (by kernel_rfl) (by kernel_rfl) ?_
    repeat (first | go_big_quiet_skip | (go_big_quiet_want;go_big_quiet_op;go_big_quiet_on))
    refine wpQuiet_nil ?_
    rintro _ ⟨x3,rfl⟩
    go_wp2
    go_ret2
    refine ⟨?_,zB⟩
    rw [HK.out,HF.out]
    rfl
theorem own_wr {w:World} {B:Nat} {v:Value} {L:List UInt8} {key:Nat} {data:ByteArray} {gone:Bool}
  (h:w.ownsRow B 5 1 v (L.length+(numsB [key,goneN gone,data.size]).length+data.size) (u8s (L++numsB [key,goneN gone,data.size])++Go.Lib.strCells data)):
  w.ownsRow B 5 1 v (L++wrB ⟨(key:Int),data,gone⟩).length (u8s (L++wrB ⟨(key:Int),data,gone⟩)):=by
 have e:L++wrB ⟨(key:Int),data,gone⟩=(L++numsB [key,goneN gone,data.size])++data.data.toList:=by simp [wrB]
 rw [e,u8s_append,List.length_append,List.length_append,←ba_size];exact h
theorem maxLen_ge:140737488355328≤maxLen:=by simp only [maxLen];omega
theorem info5x:∃ i,Tryz.prog.info? 5=some i∧i.zero=some (.int .u8 0)∧i.size=1∧i.bytes=1:=by
 obtain ⟨i,hi,h⟩:=Option.map_eq_some_iff.1 info5
 simp only [Prod.mk.injEq] at h
 exact ⟨i,hi,h.1,h.2.1,h.2.2⟩
theorem rightTx_is {t:TxP} {b:Bool} (h:rightTx t=b) (A:Option Addr) (c:Nat) (w:World) (hn:t.ws.length≤1000000) (hws:WsAt w A t.ws) (hseq:-9223372036854775808≤t.seq∧t.seq≤9223372036854775807):
  Calls Tryz.prog 82 #[.agg #[.int .i64 t.site,.int .i64 t.seq,.int .i64 t.wall,.int .i64 t.count,.int .i64 t.d0,.int .i64 t.d1,.int .i64 t.d2,.int .i64 t.d3,.slice A t.ws.length c]] w
   fun e w'=>e=.returned (.bool b)∧Below w.heap.size w w':=by
 subst h;exact rightTx_any t.site t.seq t.wall t.count t.d0 t.d1 t.d2 t.d3 A c t.ws w hn hws hseq
theorem WsAt.alloc {w:World} {A:Option Addr} {ws:List WrP} (h:WsAt w A ws) (o:Obj):WsAt (w.alloc o) A ws:=h.below (blw_alloc (Below.refl _ _))
structure EncSt (w W:World) (cs:Array Value) (v:Value) (bs:List UInt8):Prop where
 own:W.ownsRow (w.heap.size+1) 5 1 v bs.length (u8s bs)
 box:W.heap[w.heap.size]?=some (.cells cs 44)
 bl:Below w.heap.size w W
theorem EncSt.alloc {w W:World} {cs:Array Value} {v:Value} {bs:List UInt8} (h:EncSt w W cs v bs) (o:Obj):EncSt w (W.alloc o) cs v bs:=by
 have h1:=lt_blk h.box
 exact ⟨h.own.alloc o,by rw [heap_alloc,if_neg (by omega)];exact h.box,h.bl.alloc (by omega) o⟩
theorem EncSt.grown {w W W':World} {cs:Array Value} {v v':Value} {bs bs':List UInt8} (h:EncSt w W cs v bs) (hg:W.grownBy W' v.ownBlock) (hown:W'.ownsRow (w.heap.size+1) 5 1 v' bs'.length (u8s bs')):EncSt w W' cs v' bs':=by
 have h1:=lt_blk h.box
 have hne:∀ k,v.ownBlock=some k→w.heap.size+1≤k:=fun k e=>(own_ge h.own e).1
 refine ⟨hown,by rw [hg.block _ h1 (fun e=>by have:=hne _ e.symm;omega)];exact h.box,Below.grown h.bl hg (by omega) (fun k e=>by have:=hne k e;omega)⟩
theorem EncSt.put {w W W':World} {cs:Array Value} {v v':Value} {bs bs':List UInt8} (h:EncSt w W cs v bs) (hb:Buf (w.heap.size+1) W v W' v' bs'):EncSt w W' cs v' bs':=
 h.grown hb.grown hb.own
theorem EncSt.sz {w W:World} {cs:Array Value} {v:Value} {bs:List UInt8} (h:EncSt w W cs v bs):w.heap.size<W.heap.size:=lt_blk h.box
theorem EncSt.ne {w W:World} {cs:Array Value} {v:Value} {bs:List UInt8} (h:EncSt w W cs v bs) {k:Nat} (hk:W.heap.size≤k):v.ownBlock≠some k:=fun e=>by have:=(own_ge h.own e).2;omega
theorem EncSt.ne0 {w W:World} {cs:Array Value} {v:Value} {bs:List UInt8} (h:EncSt w W cs v bs):v.ownBlock≠some w.heap.size:=fun e=>by have:=(own_ge h.own e).1;omega
theorem numsB_le (zs:List Nat) (hz:∀ z∈zs,z≤1099511627776):(numsB zs).length≤6*zs.length:=by
 induction zs with
 | nil=>simp [numsB]
 | cons z zs ih=>
   have h1:=ih (fun x hx=>hz x (by simp [hx]))
   have h2:=numB_len z 6 (by have:=hz z (by simp);omega) (by omega)
   simp only [numsB,List.flatMap_cons,List.length_append,List.length_cons] at h1 ⊢
   omega
theorem encst_start {w W:World} {cs:Array Value} {o:Obj} {x:Int} (hb:W.heap[w.heap.size]?=some (.cells cs 44)) (hbl:Below w.heap.size w W) (ho:o=.cells #[.int .u8 x] 5) (hx:x=116):
  EncSt w (W.alloc o) cs (.slice (some ⟨W.heap.size,0,none⟩) 1 1) [116]:=by
 subst ho hx
 have h1:=lt_blk hb
 exact ⟨own_lit (c:=116) (x:=116) (by omega) (by rw [heap_alloc,if_pos rfl]) rfl,by rw [heap_alloc,if_neg (by omega)];exact hb,hbl.alloc (by omega) _⟩
theorem wrB_take_le (ws:List WrP) (h:∀ w∈ws,(0≤w.key∧w.key<8)∧w.data.size≤12):∀ k,k≤ws.length→((ws.take k).flatMap wrB).length≤30*k:=by
 intro k
 induction k with
 | zero=>intro _;simp
 | succ k ih=>
   intro hk
   have h1:=ih (by omega)
   rw [List.take_succ_eq_append_getElem (by omega)]
   have hw:=h ws[k] (List.getElem_mem (by omega))
   have h2:=numsB_le [ws[k].key.toNat,goneN ws[k].gone,ws[k].data.size] (by intro z hz;have:=goneN_le ws[k].gone;simp at hz;omega)
   have h3:=ba_size ws[k].data
   simp only [List.flatMap_append,List.length_append,List.flatMap_cons,List.flatMap_nil,List.append_nil,wrB] at h1 ⊢
   simp only [List.length_cons,List.length_nil] at h2
   omega
set_option maxRecDepth 20000 in
set_option maxHeartbeats 8000000 in
theorem encTx_good (t:TxP) (A:Option Addr) (c:Nat) (w:World) (h:rightTx t=true) (hws:WsAt w A t.ws):
  Calls Tryz.prog 146 #[.agg #[.int .i64 t.site,.int .i64 t.seq,.int .i64 t.wall,.int .i64 t.count,.int .i64 t.d0,.int .i64 t.d1,.int .i64 t.d2,.int .i64 t.d3,.slice A t.ws.length c]] w
   fun e w'=>∃ v,e=.returned (.tuple #[v,.nilIface])∧Fresh w w' v (txB t):=by
 have h2:=h
 simp only [rightTx,Bool.and_eq_true] at h2
 obtain ⟨hw,hl1,hl5⟩:=rightWs_all h2.2
 obtain ⟨q1,q2,q3,q4,q5,q6,q7,q8,_⟩:=headTx_all h2.1
 have HR:=hidp (fun o=>rightTx_is h A c (w.alloc o) (by omega) (hws.alloc o) ⟨by omega,by omega⟩)
 clear h h2
 obtain ⟨site,seq,wall,count,d0,d1,d2,d3,ws⟩:=t
 simp only at *
 obtain ⟨s,rfl⟩:=Int.eq_ofNat_of_zero_le q1.1
 obtain ⟨q,rfl⟩:=Int.eq_ofNat_of_zero_le (show 0≤seq by omega)
 obtain ⟨wl,rfl⟩:=Int.eq_ofNat_of_zero_le q3.1
 obtain ⟨ct,rfl⟩:=Int.eq_ofNat_of_zero_le q4.1
 obtain ⟨e0,rfl⟩:=Int.eq_ofNat_of_zero_le q5.1
 obtain ⟨e1,rfl⟩:=Int.eq_ofNat_of_zero_le q6.1
 obtain ⟨e2,rfl⟩:=Int.eq_ofNat_of_zero_le q7.1
 obtain ⟨e3,rfl⟩:=Int.eq_ofNat_of_zero_le q8.1
 obtain ⟨i0,hi,hz0,hz1,hz2⟩:=info5x
 have HW:=hidp hw
 have HWS:=hidp hws
 clear hw hws
 go_enter Tryz.func146,Tryz.ntmps146
 go_wp2_with fail
 go_at_call 82
 with_reducible refine (HR.out _).mono ?_
 rintro e w1 ⟨rfl,hb⟩
 have hbox:=hb.block w.heap.size (by simp)
 rw [heap_alloc,if_pos rfl] at hbox
 have hc:=blk9 hbox
 go_split_ands
 haveI:SzGe (w.heap.size+1) w1:=⟨lt_blk hbox⟩
 have HS:=hidp (fun (o:Obj) (h:o=.cells #[.int .u8 116] 5)=>encst_start hbox (Below.trans (blw_alloc (Below.refl _ _)) (hb.mono (by simp))) h rfl)
 clear hb hbox HR
 go_wp2_with fail
 go_at_call 183
 refine (put_len (w.heap.size+1) _ [116] [s,q,wl,ct] _ 0 4 4 _ rfl ?_ ((HS.out _ rfl).alloc _).own ?_ ?_ ?_ ((HS.out _ rfl).ne (by simp))).mono ?_
 ·have:=(HS.out _ rfl).sz;simp at this ⊢;omega
 ·intro z hz;simp at hz;omega
 ·simp
 ·intro i z hi
  rcases i with _ | _ | _ | _ | i <;> simp at hi <;> subst hi <;> rw [cell_blk (by rw [heap_alloc,if_pos (by simp)])] <;> rfl
 rintro e w2 ⟨v2,rfl,hb2⟩
 have st2:=hidp (((HS.out _ rfl).alloc _).put hb2)
 clear hb2 HS
 have hc:=blk9 st2.out.box
 have hlt2:=st2.out.sz
 haveI:SzGe (w.heap.size+1) w2:=⟨hlt2⟩
 go_split_ands
 go_wp2_with fail
 go_at_call 183
 refine (put_len (w.heap.size+1) _ _ [e0,e1,e2,e3] w.heap.size 4 4 4 _ rfl ?_ st2.out.own ?_ ?_ ?_ st2.out.ne0).mono ?_
 ·omega
 ·intro z hz;simp at hz;omega
 ·have:=numsB_le [s,q,wl,ct] (by intro z hz;simp at hz;omega);simp at this ⊢;omega
 ·intro i z hi
  rcases i with _ | _ | _ | _ | i <;> simp at hi <;> subst hi <;> assumption
 rintro e w3 ⟨v3,rfl,hb3⟩
 have st3:=hidp (st2.out.put hb3)
 clear hb3 st2
 have hc:=blk9 st3.out.box
 have hlt3:=st3.out.sz
 haveI:SzGe (w.heap.size+1) w3:=⟨hlt3⟩
 go_split_ands
 go_wp2_with fail
 go_at_call 183
 refine (put_len (w.heap.size+1) _ _ [ws.length] _ 0 1 1 _ rfl ?_ (st3.out.alloc _).own ?_ ?_ ?_ (st3.out.ne (Nat.le_refl _))).mono ?_
 ·simp;omega
 ·intro z hz;simp at hz;omega
 ·have:=numsB_le [s,q,wl,ct] (by intro z hz;simp at hz;omega);have:=numsB_le [e0,e1,e2,e3] (by intro z hz;simp at hz;omega);simp at *;omega
 ·intro i z hi
  rcases i with _ | i <;> simp at hi <;> subst hi <;> rw [cell_blk (by rw [heap_alloc,if_pos (by simp)])] <;> rfl
 rintro e w4 ⟨v4,rfl,hb4⟩
 have st4:=hidp ((st3.out.alloc _).put hb4)
 clear hb4 st3
 have hc:=blk9 st4.out.box
 have hlt4:=st4.out.sz
 haveI:SzGe (w.heap.size+1) w4:=⟨hlt4⟩
 go_split_ands
 obtain ⟨L0,hL0⟩:∃ L0,116::(numsB [s,q,wl,ct]++numsB [e0,e1,e2,e3]++numsB [ws.length])=L0:=⟨_,rfl⟩
 have HL0:Hid (L0.length≤100):=hidp (by
  have:=numsB_le [s,q,wl,ct] (by intro z hz;simp at hz;omega);have:=numsB_le [e0,e1,e2,e3] (by intro z hz;simp at hz;omega);have:=numsB_le [ws.length] (by intro z hz;simp at hz;omega)
  rw [←hL0];simp at *;omega)
 have st5:Hid (EncSt w w4 _ v4 L0):=hidp (by rw [←hL0];have:=st4.out;simpa using this)
 have HFIN:Hid (txB ⟨s,q,wl,ct,e0,e1,e2,e3,ws⟩=L0++ws.flatMap wrB):=hidp (by rw [←hL0];simp [txB])
 clear hL0 st4
 go_wp2
 go_loopw [4,38] (fun b i wr=>∃ (k:Nat) (L:List UInt8),k≤ws.length∧i=.int .i64 k∧L=L0++(ws.take k).flatMap wrB∧EncSt w wr #[.int .i64 s,.int .i64 q,.int .i64 wl,.int .i64 ct,.int .i64 e0,.int .i64 e1,.int .i64 e2,.int .i64 e3,.slice A ws.length c] b L) (fun _ i _=>ws.length-(intOf i).toNat)
 case atStart=>exact ⟨0,L0,Nat.zero_le _,rfl,by simp,st5.out⟩
 case round=>
  obtain ⟨k,L,hk,rfl,hL,st⟩:=hrel
  have hlen:L.length≤100+30*k:=by
   rw [hL,List.length_append]
   have:=HL0.out
   have:=wrB_take_le ws HW.out k hk
   omega
  have HLe:=hidp hL
  clear hL
  by_cases hlt:k<ws.length
  ·obtain ⟨b,o,rfl,hb,h0,h1,h2⟩:=(HWS.out.below st.bl) k ws[k] (List.getElem?_eq_getElem hlt)
   have hwk:=HW.out ws[k] (List.getElem_mem hlt)
   obtain ⟨y,hy⟩:∃ y,ws[k]=y:=⟨_,rfl⟩
   have HY:=hidp hy
   rw [hy] at h0 h1 h2 hwk
   clear hy
   obtain ⟨key,data,gone⟩:=y
   simp only at *
   obtain ⟨key,rfl⟩:=Int.eq_ofNat_of_zero_le hwk.1.1
   have hszr:=st.sz
   haveI:SzGe (b+1) wr:=⟨hb⟩
   cases gone
   ·
    go_wp2_with fail
    go_at_call 183
    refine (put_len (w.heap.size+1) _ _ [key,goneN false,data.size] _ 0 3 3 _ rfl ?_ ((st.alloc _).alloc _).own ?_ ?_ ?_ ((st.alloc (.cells #[.int .i64 key,.string data,.bool false] 83)).ne (by simp))).mono ?_
    ·simp;omega
    ·intro z hz;simp [goneN] at hz;omega
    ·simp;omega
    ·intro i z hi
     rcases i with _ | _ | _ | i <;> simp at hi <;> subst hi <;> rw [cell_blk (by rw [heap_alloc,if_pos (by simp)])] <;> rfl
    rintro e w6 ⟨v6,rfl,hb6⟩
    have st6:=((st.alloc _).alloc _).put hb6
    have hx1:w6.cell? ⟨wr.heap.size,1,none⟩=some (.string data):=by
     rw [hb6.cell (by simp;omega) (st.ne (Nat.le_refl _)),alloc_cell,cell_blk (by rw [heap_alloc,if_pos rfl])];rfl
    clear hb6
    go_wp2_with (at_builtin;go_must (refine Go.Lib.wpList_append_own_string _ rfl _ _ 207 9 rfl (w.heap.size+1) 5 i0 Tryz.underlying207 Tryz.underlying9 hi hz0 hz1 hz2 v6 _ _ rfl st6.own data rfl ?c2 ?c3 ?c4 ?_))
    case c2=>have:=numsB_le [key,goneN false,data.size] (by intro z hz;simp [goneN] at hz;omega);refine Nat.le_trans ?_ maxLen_ge;simp only [List.length_append,List.length_cons,List.length_nil] at this ⊢;omega
    case c3=>have:=numsB_le [key,goneN false,data.size] (by intro z hz;simp [goneN] at hz;omega);simp only [List.length_append,List.length_cons,List.length_nil] at this ⊢;omega
    case c4=>have:=st6.sz;omega
    intro v7 w7 hown7 hgrow7 _
    have st7:=hidp (EncSt.grown (bs':=L++wrB ⟨(key:Int),data,false⟩) st6 hgrow7 (own_wr hown7))
    clear hown7 hgrow7 st6
    go_wp2
    go_roundw
    case rel=>
     refine ⟨k+1,_,by omega,by go_num,?_,st7.out⟩
     rw [List.take_succ_eq_append_getElem hlt,HLe.out,HY.out];simp
    case measure=>simp [intOf];omega
   ·
    go_wp2_with fail
    go_at_call 183
    refine (put_len (w.heap.size+1) _ _ [key,goneN true,data.size] _ 0 3 3 _ rfl ?_ ((st.alloc _).alloc _).own ?_ ?_ ?_ ((st.alloc (.cells #[.int .i64 key,.string data,.bool true] 83)).ne (by simp))).mono ?_
    ·simp;omega
    ·intro z hz;simp [goneN] at hz;omega
    ·simp;omega
    ·intro i z hi
     rcases i with _ | _ | _ | i <;> simp at hi <;> subst hi <;> rw [cell_blk (by rw [heap_alloc,if_pos (by simp)])] <;> rfl
    rintro e w6 ⟨v6,rfl,hb6⟩
    have st6:=((st.alloc _).alloc _).put hb6
    have hx1:w6.cell? ⟨wr.heap.size,1,none⟩=some (.string data):=by
     rw [hb6.cell (by simp;omega) (st.ne (Nat.le_refl _)),alloc_cell,cell_blk (by rw [heap_alloc,if_pos rfl])];rfl
    clear hb6
    go_wp2_with (at_builtin;go_must (refine Go.Lib.wpList_append_own_string _ rfl _ _ 207 9 rfl (w.heap.size+1) 5 i0 Tryz.underlying207 Tryz.underlying9 hi hz0 hz1 hz2 v6 _ _ rfl st6.own data rfl ?c2 ?c3 ?c4 ?_))
    case c2=>have:=numsB_le [key,goneN true,data.size] (by intro z hz;simp [goneN] at hz;omega);refine Nat.le_trans ?_ maxLen_ge;simp only [List.length_append,List.length_cons,List.length_nil] at this ⊢;omega
    case c3=>have:=numsB_le [key,goneN true,data.size] (by intro z hz;simp [goneN] at hz;omega);simp only [List.length_append,List.length_cons,List.length_nil] at this ⊢;omega
    case c4=>have:=st6.sz;omega
    intro v7 w7 hown7 hgrow7 _
    have st7:=hidp (EncSt.grown (bs':=L++wrB ⟨(key:Int),data,true⟩) st6 hgrow7 (own_wr hown7))
    clear hown7 hgrow7 st6
    go_wp2
    go_roundw
    case rel=>
     refine ⟨k+1,_,by omega,by go_num,?_,st7.out⟩
     rw [List.take_succ_eq_append_getElem hlt,HLe.out,HY.out];simp
    case measure=>simp [intOf];omega
  ·have hkk:k=ws.length:=by omega
   have hc:=blk9 st.box
   go_split_ands
   go_wp2
   go_ret2
   refine ⟨_,rfl,st.bl,?_⟩
   have h:=own_base st.own (Nat.le_succ _)
   have hL:=HLe.out
   rw [hkk,List.take_length] at hL
   rw [HFIN.out,←hL]
   exact h
end Go.Proofs.YtbopfhbeegkkaabGreatDoor
