/- Part 27 of a proof: lemmas and contracts that other parts use. -/
import Derived.Test.YtbopfhbeegkkaabGreatDoorSe16
import Derived.RegionTactic
import Derived.Lib.AppendZeros
import Derived.Test.YtbopfhbeegkkaabGreatDoorSe24
import Derived.Test.YtbopfhbeegkkaabGreatDoorSe19
set_option linter.unusedVariables false
set_option linter.unusedSimpArgs false
set_option linter.constructorNameAsVariable false
namespace Go.Proofs.YtbopfhbeegkkaabGreatDoor
open Go.RowKit
theorem mcells_one (L:List MTx):∀ u∈L.flatMap MTx.cells,u.oneCell'=true:=by
 intro u hu
 obtain ⟨m,_,hm⟩:=List.mem_flatMap.1 hu
 simp [MTx.cells] at hm
 rcases hm with rfl | rfl | rfl | rfl | rfl | rfl | rfl | rfl | rfl <;> rfl
theorem XsAt.flat {w:World} {A:Option Addr} {L:List MTx} (h:XsAt w A L) (hL:0<L.length):∃ b o,A=some ⟨b,o,none⟩∧b<w.heap.size∧∀ (j:Nat) (u:Value),(L.flatMap MTx.cells)[j]?=some u→w.cell? ⟨b,o+j,none⟩=some u:=by
 obtain ⟨b,o,hA,hb,_⟩:=h 0 L[0] (List.getElem?_eq_getElem hL)
 refine ⟨b,o,hA,hb,fun j u hu=>?_⟩
 have hj:j<L.length*9:=by
  have:=(List.getElem?_eq_some_iff.1 hu).1
  rwa [mcells_len] at this
 have hi:j / 9<L.length:=by omega
 obtain ⟨b',o',hA',_,h0,h1,h2,h3,h4,h5,h6,h7,h8⟩:=h (j / 9) L[j / 9] (List.getElem?_eq_getElem hi)
 rw [hA] at hA'
 simp only [Option.some.injEq,Addr.mk.injEq] at hA'
 obtain ⟨rfl,rfl,_⟩:=hA'
 have hm:L[j / 9]?=some L[j / 9]:=List.getElem?_eq_getElem hi
 have key:∀ r v,(L[j / 9]).cells[r]?=some v→j % 9=r→w.cell? ⟨b,o+j / 9*9+r,none⟩=some v→w.cell? ⟨b,o+j,none⟩=some u:=by
  intro r v hv hr hc
  have h9:=mcells_at L (j / 9) _ hm r v hv
  have e:j / 9*9+r=j:=by omega
  rw [e,hu] at h9
  have e2:o+j / 9*9+r=o+j:=by omega
  rw [e2] at hc
  rw [hc];exact h9.symm
 have hr:j % 9=0∨j % 9=1∨j % 9=2∨j % 9=3∨j % 9=4∨j % 9=5∨j % 9=6∨j % 9=7∨j % 9=8:=by omega
 rcases hr with hr | hr | hr | hr | hr | hr | hr | hr | hr
 ·exact key 0 _ rfl hr h0
 ·exact key 1 _ rfl hr h1
 ·exact key 2 _ rfl hr h2
 ·exact key 3 _ rfl hr h3
 ·exact key 4 _ rfl hr h4
 ·exact key 5 _ rfl hr h5
 ·exact key 6 _ rfl hr h6
 ·exact key 7 _ rfl hr h7
 ·exact key 8 _ rfl hr h8
theorem run_append_xs (w:World) (ty:TypeId) (base:Nat) (v:Value) (n:Nat) (xs:List Value) (hown:w.ownsRow base 44 9 v n xs) (A:Option Addr) (c:Nat) (L:List MTx) (hx:XsAt w A L) (hn:n+L.length≤1000) (hbase:base≤w.heap.size):
  ∃ v' w',(Builtin.append_ #[35,35] ty #[v,.slice A L.length c]).run Tryz.prog w=.ok v' w'∧w'.ownsRow base 44 9 v' (n+L.length) (xs++L.flatMap MTx.cells)∧w.grownBy w' v.ownBlock∧(v'.ownBlock=v.ownBlock∨v'.ownBlock=some w.heap.size):=by
 obtain ⟨i0,hi0,hz0,hz1,hz2⟩:=info40
 have h63:n+L.length≤maxLen:=Nat.le_trans hn (Nat.le_trans (by decide) maxLen_ge)
 rcases A with _ | ad
 ·have hL:L=[]:=by
   rcases Nat.eq_zero_or_pos L.length with h | h
   ·exact List.eq_nil_of_length_eq_zero h
   ·obtain ⟨b,o,e,_⟩:=hx.flat h;cases e
  subst hL
  refine ⟨v,w,?_,by simpa using hown,World.grownBy.refl w _,.inl rfl⟩
  rcases hown.2 with ⟨rfl,rfl⟩ | ⟨g,cap,cur,rfl,_,_,hnc,_⟩
  ·simp [Builtin.append_,run_underlying Tryz.underlying35,sizeOf,typeInfo,hi0,Builtin.lenOf,Builtin.firstCells]
  ·simp [Builtin.append_,run_underlying Tryz.underlying35,sizeOf,typeInfo,hi0,Builtin.lenOf,Builtin.firstCells,hnc,storeCells]
 ·have hc:∀ j u,(L.flatMap MTx.cells)[j]?=some u→w.cell? (ad.add j)=some u:=by
   intro j u hu
   rcases Nat.eq_zero_or_pos L.length with h | h
   ·rw [List.eq_nil_of_length_eq_zero h] at hu;simp at hu
   ·obtain ⟨b,o,e,_,hc⟩:=hx.flat h
    obtain rfl:ad=⟨b,o,none⟩:=by simpa using e
    have e2:(⟨b,o,none⟩:Addr).add j=⟨b,o+j,none⟩:=by unfold Addr.add;split <;> simp_all
    rw [e2];exact hc j u hu
  obtain ⟨v',w',hrun,h2,h3,_,h5⟩:=run_append_own_at (P:=Tryz.prog) w base 35 ty 44 i0 txZero 9 88 Tryz.underlying35 hi0 hz0 hz1 hz2 rfl (by decide) v n xs hown ad L.length c _ (mcells_len L) hc (mcells_one L) h63 (by omega) hbase
  exact ⟨v',w',hrun,h2,h3,h5⟩
theorem wp_append_xs (w:World) {o:Oper} {a:Act} {K:Act→World→Prop} {Q:Exit→Act→World→Prop} (s x:Operand)
  (ho:o.op=.call { callee:=.builtin .append,args:=#[s,x],argTypes:=#[35,35] }) (base:Nat) (v:Value) (n:Nat) (L0:List MTx) (hs:a.eval s=v) (hown:w.ownsRow base 44 9 v n (L0.flatMap MTx.cells)) (A:Option Addr) (c:Nat) (L:List MTx) (hx:a.eval x=.slice A L.length c)
  (hxs:XsAt w A L) (hn:n+L.length≤1000) (hbase:base≤w.heap.size) (hn0:n=L0.length)
  (h:∀ A' c' w',w'.ownsRow base 44 9 (.slice A' (L0++L).length c') (L0++L).length ((L0++L).flatMap MTx.cells)→w.grownBy w' v.ownBlock→((Value.slice A' (L0++L).length c').ownBlock=v.ownBlock∨(Value.slice A' (L0++L).length c').ownBlock=some w.heap.size)→K (a.put o.dst (.slice A' (L0++L).length c')) w'):
  Oper.wp Tryz.prog o a w K Q:=by
 obtain ⟨v',w',hrun,h2,h3,h4⟩:=run_append_xs w o.type base v n (L0.flatMap MTx.cells) hown A c L hxs hn hbase
 have e:n+L.length=(L0++L).length:=by rw [hn0,List.length_append]
 rw [e,←List.flatMap_append] at h2
 obtain ⟨A',c',rfl⟩:=own_form h2
 unfold Oper.wp execOp
 simp only [ho,resolve,invoke,builtin,Sem.run_bind,Sem.run_pure,Result.andThen_ok,List.map_toArray,List.map_cons,List.map_nil,hs,hx,hrun]
 exact h A' c' w' h2 h3 h4
theorem step_append_xs (w:World) {ops:Array Oper} {o:Oper} {a:Act} {K:Act→World→Prop} {Q:Exit→Act→World→Prop} {E:Prop} (hgd:o.guard=none) (s x:Operand)
  (ho:o.op=.call { callee:=.builtin .append,args:=#[s,x],argTypes:=#[35,35] }) (base:Nat) (v:Value) (n:Nat) (L0:List MTx) (hs:a.eval s=v) (hown:w.ownsRow base 44 9 v n (L0.flatMap MTx.cells)) (A:Option Addr) (c:Nat) (L:List MTx) (hx:a.eval x=.slice A L.length c)
  (hxs:XsAt w A L) (hn:n+L.length≤1000) (hbase:base≤w.heap.size) (hn0:n=L0.length)
  (h:∀ A' c' w',w'.ownsRow base 44 9 (.slice A' (L0++L).length c') (L0++L).length ((L0++L).flatMap MTx.cells)→w.grownBy w' v.ownBlock→((Value.slice A' (L0++L).length c').ownBlock=v.ownBlock∨(Value.slice A' (L0++L).length c').ownBlock=some w.heap.size)→K (a.put o.dst (.slice A' (L0++L).length c')) w'):
  if Region.wanted o (yielded ops a.tmps)=true then Oper.wp Tryz.prog o a w K Q else E:=by
 have hw:Region.wanted o (yielded ops a.tmps)=true:=by simp [Region.wanted,hgd]
 rw [if_pos hw]
 exact wp_append_xs w s x ho base v n L0 hs hown A c L hx hxs hn hbase hn0 h
theorem own_cap {w:World} {B e s n c:Nat} {A:Option Addr} {xs:List Value} (h:w.ownsRow B e s (.slice A n c) n xs):n≤c:=by
 obtain ⟨_,hh | ⟨g,cap,cur,hv,_,_,hn,_⟩⟩:=h
 ·simp at hh;omega
 ·simp at hv;omega
theorem XsAt.take {w:World} {A:Option Addr} {L:List MTx} (h:XsAt w A L) (k:Nat):XsAt w A (L.take k):=fun i m hm=>h i m (by
 rw [List.getElem?_take] at hm
 split at hm
 ·exact hm
 ·cases hm)
theorem XsAt.drop {w:World} {b o:Nat} {L:List MTx} (h:XsAt w (some ⟨b,o,none⟩) L) (k:Nat):XsAt w (some ⟨b,o+k*9,none⟩) (L.drop k):=fun i m hm=>by
 rw [List.getElem?_drop] at hm
 obtain ⟨b',o',e,hb,h0,h1,h2,h3,h4,h5,h6,h7,h8⟩:=h _ m hm
 simp only [Option.some.injEq,Addr.mk.injEq] at e
 obtain ⟨rfl,rfl,_⟩:=e
 have q:o+(k+i)*9=o+k*9+i*9:=by omega
 rw [q] at h0 h1 h2 h3 h4 h5 h6 h7 h8
 exact ⟨b,o+k*9,rfl,hb,h0,h1,h2,h3,h4,h5,h6,h7,h8⟩
structure RInv (s:RsP):Prop where
 id:0≤s.id∧s.id<4
 ap:∀ a:Int,0≤s.at a∧s.at a≤1099511627776
 rt:∀ m∈s.ws,rightTx m.t=true
 len:s.L.length≤1000*(s.log.length+1)
def dropR (s:RsP) (j:Nat):RsP:={ s with ws:=s.ws.take j++s.ws.drop (j+1) }
theorem dropR_r (s:RsP) (j:Nat):(dropR s j).r=rDrop s.r j:=by
 unfold dropR rDrop RsP.r
 simp [List.map_take,List.map_drop]
theorem dropR_mem {s:RsP} {j:Nat} {m:MTx} (h:m∈(dropR s j).ws):m∈s.ws:=by
 rcases List.mem_append.1 h with e | e
 ·exact List.mem_of_mem_take e
 ·exact List.mem_of_mem_drop e
theorem RInv.drop {s:RsP} (h:RInv s) (j:Nat):RInv (dropR s j):=⟨h.id,h.ap,fun m hm=>h.rt m (dropR_mem hm),h.len⟩
theorem dropR_len {s:RsP} {j:Nat} (hj:j<s.ws.length):(dropR s j).ws.length+1=s.ws.length:=by
 unfold dropR;simp;omega
theorem applyR_ws (s:RsP) (m:MTx):(applyR s m).ws=s.ws:=by
 unfold applyR;split <;> rfl
theorem applyR_log (s:RsP) (m:MTx):(applyR s m).log=s.log++[m]:=rfl
theorem applyR_id (s:RsP) (m:MTx):(applyR s m).id=s.id:=by
 unfold applyR;split <;> rfl
theorem applyR_L (s:RsP) (m:MTx):(applyR s m).L=rPuts s.L m.t m.t.ws.length:=by
 unfold applyR;split <;> rfl
theorem RInv.apply {s:RsP} (h:RInv s) {m:MTx} (hm:rightTx m.t=true):RInv (applyR s m):=by
 obtain ⟨h1,h2,h3,h4⟩:=rightTx_parts hm
 have hr:=applyR_r s m h1
 have e0:(applyR s m).p0=if m.t.site=0 then m.t.seq else s.p0:=congrArg RSi.p0 hr
 have e1:(applyR s m).p1=if m.t.site=1 then m.t.seq else s.p1:=congrArg RSi.p1 hr
 have e2:(applyR s m).p2=if m.t.site=2 then m.t.seq else s.p2:=congrArg RSi.p2 hr
 have e3:(applyR s m).p3=if m.t.site=3 then m.t.seq else s.p3:=congrArg RSi.p3 hr
 have b0:0≤s.p0∧s.p0≤1099511627776:=h.ap 0
 have b1:0≤s.p1∧s.p1≤1099511627776:=h.ap 1
 have b2:0≤s.p2∧s.p2≤1099511627776:=h.ap 2
 have b3:0≤s.p3∧s.p3≤1099511627776:=h.ap 3
 refine ⟨by rw [applyR_id];exact h.id,fun a=>?_,fun m' hm'=>h.rt m' (by rw [applyR_ws] at hm';exact hm'),?_⟩
 ·unfold RsP.at atV
  rw [e0,e1,e2,e3]
  repeat' split
  all_goals omega
 ·rw [applyR_L,applyR_log,List.length_append]
  have:=rPuts_len s.L m.t m.t.ws.length
  have:=h.len
  simp only [List.length_cons,List.length_nil]
  omega
theorem applyR_has {s:RsP} {m m':MTx} (h:(applyR s m).has m'):s.has m'∨m'=m:=by
 rcases h with h | h
 ·rw [applyR_log] at h
  rcases List.mem_append.1 h with e | e
  ·exact .inl (.inl e)
  ·exact .inr (by simpa using e)
 ·rw [applyR_ws] at h
  exact .inl (.inr h)
def rbFrom (s:RsP) (i:Nat) (b:Int):Int:=rbGo s.r ((s.ws.drop i).map (·.t)) i b
theorem rbFrom_zero (s:RsP):rbFrom s 0 (-1)=rBest s.r:=by unfold rbFrom rBest;rw [List.drop_zero];rfl
theorem rbFrom_end (s:RsP) (b:Int):rbFrom s s.ws.length b=b:=by unfold rbFrom;rw [List.drop_length];rfl
theorem rbFrom_no {s:RsP} {i:Nat} {m:MTx} (hi:s.ws[i]?=some m) {b:Int} (h:rReady s.r m.t=false):rbFrom s i b=rbFrom s (i+1) b:=by
 obtain ⟨hlt,hm⟩:=List.getElem?_eq_some_iff.1 hi
 unfold rbFrom
 rw [List.drop_eq_getElem_cons hlt,hm,List.map_cons]
 show (if _ then _ else _)=_
 rw [if_neg (by rw [h];simp)]
theorem rbFrom_new {s:RsP} {i:Nat} {m:MTx} (hi:s.ws[i]?=some m) (h:rReady s.r m.t=true):rbFrom s i (-1)=rbFrom s (i+1) i:=by
 obtain ⟨hlt,hm⟩:=List.getElem?_eq_some_iff.1 hi
 unfold rbFrom
 rw [List.drop_eq_getElem_cons hlt,hm,List.map_cons]
 show (if _ then _ else _)=_
 rw [if_pos ⟨h,.inl (by omega)⟩]
theorem rbFrom_cmp {s:RsP} {i j:Nat} {m u:MTx} (hi:s.ws[i]?=some m) (hj:s.ws[j]?=some u) (h:rReady s.r m.t=true):rbFrom s i (j:Int)=rbFrom s (i+1) (if m.t.site<u.t.site then (i:Int) else (j:Int)):=by
 obtain ⟨hlt,hm⟩:=List.getElem?_eq_some_iff.1 hi
 unfold rbFrom
 rw [List.drop_eq_getElem_cons hlt,hm,List.map_cons]
 have hg:(s.r.ws.getD ((j:Int)).toNat ⟨0,0,0,0,0,0,0,0,[]⟩).site=u.t.site:=by
  have e:s.r.ws[j]?=some u.t:=by unfold RsP.r;rw [List.getElem?_map,hj];rfl
  rw [show ((j:Int)).toNat=j by omega,List.getD,e];rfl
 show (if _ then _ else _)=_
 rw [hg]
 by_cases hc:m.t.site<u.t.site
 ·rw [if_pos ⟨h,.inr hc⟩,if_pos hc]
 ·rw [if_neg (by rintro ⟨_,h2 | h2⟩ <;> omega),if_neg hc]
def sameR (s:RsP) (t:TxP) (j:Nat):Bool:=(s.ws.take j).any fun m=>decide (m.t.site=t.site)&&decide (m.t.seq=t.seq)
theorem sameR_all (s:RsP) (t:TxP):sameR s t s.ws.length=rSame s.r t:=by
 unfold sameR rSame RsP.r
 rw [List.take_length,List.any_map];rfl
theorem sameR_succ {s:RsP} {t:TxP} {j:Nat} {m:MTx} (h:s.ws[j]?=some m):sameR s t (j+1)=(sameR s t j||(decide (m.t.site=t.site)&&decide (m.t.seq=t.seq))):=by
 unfold sameR
 rw [List.take_add_one,h,List.any_append];simp
theorem sameR_hit {s:RsP} {t:TxP} {j:Nat} {m:MTx} (h:s.ws[j]?=some m) (h1:m.t.site=t.site) (h2:m.t.seq=t.seq):rSame s.r t=true:=by
 obtain ⟨hlt,rfl⟩:=List.getElem?_eq_some_iff.1 h
 unfold rSame RsP.r
 rw [List.any_map,List.any_eq_true]
 exact ⟨_,List.getElem_mem hlt,by simp [h1,h2]⟩
def RTakePost (B y:Nat) (s:RsP) (lv:Value) (wA:Option Addr) (wc:Nat) (av:Value) (t:TxP) (w:World) (e:Ending) (w':World):Prop:=
 e=.returned (.int .i64 (rTakeE s.r t))∧(rTakeE s.r t≠0→Below w.heap.size w w')∧
 (rTakeE s.r t=0→∃ b c' s' lv' wA' wc' av',w.heap.size≤b∧RsAt w' B y s' lv' wA' wc' av'∧RInv s'∧s'.r=rRun (s.r.ws.length+1) { s.r with ws:=s.r.ws++[t] }∧(∀ m,s'.has m→s.has m∨m=⟨t,some ⟨b,0,none⟩,c'⟩)∧
   SiFr w w' (RsOwn y lv av) (RsOwn y lv' av')∧∀ q o,wA'=some ⟨q,o,none⟩→w.heap.size≤q)
theorem xs_one {w:World} {q:Nat} {m:MTx} {t:TypeId} (h:w.heap[q]?=some (.cells #[.int .i64 m.t.site,.int .i64 m.t.seq,.int .i64 m.t.wall,.int .i64 m.t.count,.int .i64 m.t.d0,.int .i64 m.t.d1,.int .i64 m.t.d2,.int .i64 m.t.d3,.slice m.A m.t.ws.length m.c] t)):XsAt w (some ⟨q,0,none⟩) [m]:=by
 intro i x hx
 have hi:i=0:=by
  have:=(List.getElem?_eq_some_iff.1 hx).1
  simp at this;exact this
 subst hi
 obtain rfl:m=x:=by simpa using hx
 exact ⟨q,0,rfl,lt_blk h,cell_blk h 0,cell_blk h 1,cell_blk h 2,cell_blk h 3,cell_blk h 4,cell_blk h 5,cell_blk h 6,cell_blk h 7,cell_blk h 8⟩
theorem step_append_xs_q (w:World) {ops:Array Oper} {o:Oper} {a:Act} {K:Act→World→Prop} {Q:Exit→Act→World→Prop} {E:Prop} (hgd:o.guard=none) (s x:Operand)
  (ho:o.op=.call { callee:=.builtin .append,args:=#[s,x],argTypes:=#[35,35] }) (base g:Nat) (hs:a.eval s=.slice (some ⟨g,0,none⟩) 0 0) (hg:w.heap[g]?=some (.cells #[] 44)) (hb:base≤g) (A:Option Addr) (c:Nat) (L:List MTx) (hx:a.eval x=.slice A L.length c)
  (hxs:XsAt w A L) (hn:L.length≤1000) (q:Nat) (Z:Obj) (hq:w.heap[q]?=some Z) (hne:q≠g)
  (h:∀ A' c' w',w'.ownsRow base 44 9 (.slice A' L.length c') L.length (L.flatMap MTx.cells)→w.grownBy w' (some g)→w'.heap[q]?=some Z→(Value.slice A' L.length c').ownBlock≠some q→K (a.put o.dst (.slice A' L.length c')) w'):
  if Region.wanted o (yielded ops a.tmps)=true then Oper.wp Tryz.prog o a w K Q else E:=
 step_append_xs w hgd s x ho base (.slice (some ⟨g,0,none⟩) 0 0) 0 [] hs (own_empty_at hg hb) A c L hx hxs (by omega) (by have:=lt_blk hg;omega) rfl fun A' c' w' h2 h3 h4=>by
  simp only [List.nil_append] at h2 h4 ⊢
  refine h A' c' w' h2 h3 ((h3.block q (lt_blk hq) (by simp [Value.ownBlock];exact hne)).trans hq) (fun e=>?_)
  rcases h4 with e2 | e2
  ·rw [e2] at e;simp [Value.ownBlock] at e;omega
  ·rw [e2] at e;have:=lt_blk hq;simp at e;omega
theorem step_append_xs_0 (w:World) {ops:Array Oper} {o:Oper} {a:Act} {K:Act→World→Prop} {Q:Exit→Act→World→Prop} {E:Prop} (hgd:o.guard=none) (s x:Operand)
  (ho:o.op=.call { callee:=.builtin .append,args:=#[s,x],argTypes:=#[35,35] }) (base g:Nat) (hs:a.eval s=.slice (some ⟨g,0,none⟩) 0 0) (hg:w.heap[g]?=some (.cells #[] 44)) (hb:base≤g) (A:Option Addr) (c:Nat) (L:List MTx) (hx:a.eval x=.slice A L.length c)
  (hxs:XsAt w A L) (hn:L.length≤1000)
  (h:∀ A' c' w',w'.ownsRow base 44 9 (.slice A' L.length c') L.length (L.flatMap MTx.cells)→w.grownBy w' (some g)→K (a.put o.dst (.slice A' L.length c')) w'):
  if Region.wanted o (yielded ops a.tmps)=true then Oper.wp Tryz.prog o a w K Q else E:=
 step_append_xs w hgd s x ho base (.slice (some ⟨g,0,none⟩) 0 0) 0 [] hs (own_empty_at hg hb) A c L hx hxs (by omega) (by have:=lt_blk hg;omega) rfl fun A' c' w' h2 h3 h4=>by
  simp only [List.nil_append] at h2 ⊢
  exact h A' c' w' h2 h3
theorem runP_has:∀ (f:Nat) (s:SiP) (m:MTx),Inv s→(runP f s).has m→s.has m
 | 0,s,m,_,h=>h
 | f+1,s,m,hi,h=>by
   cases hn:nextOf s with
   | none=>rw [runP_stop (.inl hn)] at h;exact h
   | some m1=>
     by_cases hl:200≤s.log.length
     ·rw [runP_stop (.inr hl)] at h;exact h
     ·rw [runP_step hn hl] at h
      obtain ⟨hr,hw,_⟩:=hi.has hn
      have h2:=runP_has f _ m (hi.apply hr hl) h
      unfold SiP.has at *
      rw [applyP_log,applyP_wt] at h2
      rcases h2 with h2 | ⟨a,b,h2⟩
      ·rcases List.mem_append.1 h2 with h3 | h3
       ·exact .inl h3
       ·obtain rfl:m=m1:=by simpa using h3
        exact .inr ⟨_,_,hw⟩
      ·have:(s.unwait m1).wt=wset s.wt m1.t.site m1.t.seq none:=rfl
       rw [this] at h2
       unfold wset at h2
       split at h2
       ·cases h2
       ·exact .inr ⟨a,b,h2⟩
theorem wait_has {s:SiP} {m m':MTx} (h:(s.wait m).has m'):s.has m'∨m'=m:=by
 unfold SiP.has SiP.wait wset at h
 simp only at h
 rcases h with h | ⟨a,b,h⟩
 ·exact .inl (.inl h)
 ·split at h
  ·cases h;exact .inr rfl
  ·exact .inl (.inr ⟨a,b,h⟩)
theorem apply_has {s:SiP} {m m':MTx} (h:(applyP s m).has m'):s.has m'∨m'=m:=by
 unfold SiP.has at h
 rw [applyP_log,applyP_wt] at h
 rcases h with h | h
 ·rcases List.mem_append.1 h with h | h
  ·exact .inl (.inl h)
  ·exact .inr (by simpa using h)
 ·exact .inl (.inr h)
def Top (s:SiP):Prop:=s.p0≤s.log.length∧s.p1≤s.log.length∧s.p2≤s.log.length∧s.p3≤s.log.length
structure Full (s:SiP) (r:RsP):Prop where
 rep:SRep s r.r
 inv:Inv s
 rin:RInv r
 top:Top s
 rlg:∀ m∈r.log,rightTx m.t=true
theorem rDrop_len (r:RSi) (j:Nat):(rDrop r j).ws.length≤r.ws.length:=by
 unfold rDrop;simp;omega
theorem rRun_len:∀ (f:Nat) (r:RSi),(rRun f r).ws.length≤r.ws.length
 | 0,r=>Nat.le_refl _
 | f+1,r=>by
   unfold rRun
   split
   ·exact Nat.le_refl _
   ·refine Nat.le_trans (rRun_len f _) ?_
    exact rDrop_len r _
theorem Top.at {s:SiP} (h:Top s) (a:Int):s.at a≤s.log.length:=by
 obtain ⟨h0,h1,h2,h3⟩:=h
 unfold SiP.at atV
 repeat' split
 all_goals assumption
theorem Top.apply {s:SiP} (h:Top s) {m:MTx} (hs:0≤m.t.site∧m.t.site<4) (hq:m.t.seq=s.at m.t.site+1):Top (applyP s m):=by
 obtain ⟨_,e0,e1,e2,e3,_⟩:=applyP_fields s m hs
 have ht:=h.at m.t.site
 obtain ⟨h0,h1,h2,h3⟩:=h
 unfold Top
 rw [e0,e1,e2,e3,applyP_log]
 simp only [List.length_append,List.length_cons,List.length_nil]
 refine ⟨?_,?_,?_,?_⟩ <;> split <;> omega
theorem Top.unwait {s:SiP} (h:Top s) (m:MTx):Top (s.unwait m):=h
theorem Inv.run:∀ (f:Nat) {s:SiP},Inv s→Top s→Inv (runP f s)∧Top (runP f s)
 | 0,s,h,ht=>⟨h,ht⟩
 | f+1,s,h,ht=>by
   cases hn:nextOf s with
   | none=>rw [runP_stop (.inl hn)];exact ⟨h,ht⟩
   | some m1=>
     by_cases hl:200≤s.log.length
     ·rw [runP_stop (.inr hl)];exact ⟨h,ht⟩
     ·rw [runP_step hn hl]
      obtain ⟨hr,hw,hq⟩:=h.has hn
      exact Inv.run f (h.apply hr hl) ((ht.unwait m1).apply (rightTx_parts hr).1 hq)
theorem runP_right:∀ (f:Nat) {s:SiP},Inv s→(∀ m∈s.log,rightTx m.t=true)→∀ m∈(runP f s).log,rightTx m.t=true
 | 0,s,_,h=>h
 | f+1,s,hi,h=>by
   cases hn:nextOf s with
   | none=>rw [runP_stop (.inl hn)];exact h
   | some m1=>
     by_cases hl:200≤s.log.length
     ·rw [runP_stop (.inr hl)];exact h
     ·rw [runP_step hn hl]
      obtain ⟨hr,hw,hq⟩:=hi.has hn
      refine runP_right f (hi.apply hr hl) fun m hm=>?_
      rw [applyP_log] at hm
      rcases List.mem_append.1 hm with e | e
      ·exact h m e
      ·obtain rfl:m=m1:=by simpa using e
       exact hr
theorem takeE_parts {s:SiP} {t:TxP} (he:takeE s t=0):rightTx t=true:=by
 unfold takeE at he
 split at he
 ·cases he
 ·rename_i k1
  cases hr:rightTx t with
  | true=>rfl
  | false=>exact absurd (.inl hr) k1
theorem commit_right {s:SiP} (hi:Inv s) (ht:Top s) {now d0 d1 d2 d3:Int} {ws:List WrP} (he:commitE s now d0 d1 d2 d3 ws=0):rightTx (commitT s now d0 d1 d2 d3 ws)=true∧¬200≤s.log.length:=by
 unfold commitE at he
 split at he
 ·cases he
 rename_i k1
 split at he
 ·cases he
 rename_i k2
 split at he
 ·cases he
 rename_i k3
 have hws:rightWs ws=true:=by cases hr:rightWs ws with | true=>rfl | false=>exact absurd hr k1
 have hd:rgtB d0 d1 d2 d3=true:=by cases hr:rgtB d0 d1 d2 d3 with | true=>rfl | false=>exact absurd (.inl hr) k2
 refine ⟨?_,k3⟩
 have hn:(0≤nextW s.lw now∧nextW s.lw now≤1099511627776)∧(0≤nextC s.lw s.lc now∧nextC s.lw s.lc now≤1099511627776):=by
  unfold nextE at he
  split at he
  ·cases he
  rename_i j1
  have hrs:rightS s.lw s.lc=true:=by cases hr:rightS s.lw s.lc with | true=>rfl | false=>exact absurd (.inl hr) j1
  obtain ⟨b1,b2⟩:=rightS_bd hrs
  unfold nextW nextC
  split at he
  ·rename_i j2
   rw [if_pos j2,if_pos j2]
   omega
  ·rename_i j2
   rw [if_neg j2,if_neg j2]
   split at he
   ·cases he
   ·omega
 simp only [rgtB,Bool.and_eq_true,decide_eq_true_eq] at hd
 obtain ⟨⟨⟨g0,g1⟩,g2⟩,g3⟩:=hd
 obtain ⟨q0,q1,q2,q3⟩:=hi.ap
 have hat:=ht.at s.id
 have hge:=(okAp.at hi.ap s.id).1
 have hl:=hi.log
 have hid:=hi.id
 have hp:∀ (i p d:Int),(0≤p∧p≤1099511627776)→(0≤d∧d≤1099511627776)→okN (if s.id=i then p else d)=true:=fun i p d h1 h2=>by
  unfold okN
  split <;> (simp;omega)
 unfold rightTx headTx commitT
 simp only [Bool.and_eq_true,decide_eq_true_eq]
 refine ⟨⟨⟨⟨⟨⟨hid,by omega,by omega⟩,?_⟩,?_⟩,⟨⟨hp 0 _ _ q0 g0,hp 1 _ _ q1 g1⟩,hp 2 _ _ q2 g2⟩,hp 3 _ _ q3 g3⟩,?_⟩,hws⟩
 ·unfold okN;simp;omega
 ·unfold okN;simp;omega
 ·unfold depAt SiP.at atV
  have hc:s.id=0∨s.id=1∨s.id=2∨s.id=3:=by omega
  rcases hc with hc | hc | hc | hc <;> simp [hc]
theorem Inv.applyC {s:SiP} (h:Inv s) {m:MTx} (hr:rightTx m.t=true) (hl:¬200≤s.log.length):Inv (applyP s m):=by
 obtain ⟨r1,r2,r3,r4⟩:=rightTx_parts hr
 refine ⟨okAp_apply h.ap ⟨by omega,by omega⟩,h.id,?_,?_,stPut_dat h.dat _ _,?_⟩
 ·intro a b m' e
  rw [applyP_wt] at e
  exact h.wt a b m' e
 ·rw [applyP_st,applyP_log]
  refine (stPut_fit h.fit m.t m.t.ws.length).mono ?_
  simp only [List.length_append,List.length_cons,List.length_nil]
  omega
 ·rw [applyP_log]
  simp only [List.length_append,List.length_cons,List.length_nil]
  omega
theorem Full.commit {s:SiP} {r:RsP} (h:Full s r) {now d0 d1 d2 d3:Int} {ws:List WrP} (he:commitE s now d0 d1 d2 d3 ws=0) (A A2:Option Addr) (c c2:Nat):
  Full (applyP s ⟨commitT s now d0 d1 d2 d3 ws,A,c⟩) (applyR r ⟨commitT s now d0 d1 d2 d3 ws,A2,c2⟩):=by
 obtain ⟨hr,hl⟩:=commit_right h.inv h.top he
 have hp:=(rightTx_parts hr).1
 refine ⟨?_,h.inv.applyC hr hl,h.rin.apply hr,h.top.apply hp ?_,fun m hm=>?_⟩
 ·rw [applyR_r _ _ hp];exact h.rep.apply hp
 ·unfold commitT;rfl
 ·rw [applyR_log] at hm
  rcases List.mem_append.1 hm with e | e
  ·exact h.rlg m e
  ·obtain rfl:m=_:=by simpa using e
   exact hr
def rNew (id:Int):RsP:=⟨id,0,0,0,0,0,0,[],[],[],fun _=>0⟩
theorem Full.fresh {id:Int} (h:0≤id∧id<4):Full (siNew id) (rNew id):=
 ⟨SRep.fresh id,⟨⟨⟨by simp [siNew],by simp [siNew]⟩,⟨by simp [siNew],by simp [siNew]⟩,⟨by simp [siNew],by simp [siNew]⟩,⟨by simp [siNew],by simp [siNew]⟩⟩,h,fun a b m e=>by simp [siNew] at e,fun k _=>⟨fun x hx=>by simp [siNew] at hx,Nat.zero_le _⟩,fun k _ v hv=>by simp [siNew] at hv,by simp [siNew]⟩,
   ⟨h,fun a=>by unfold RsP.at atV rNew;simp,fun m hm=>by simp [rNew] at hm,by simp [rNew]⟩,⟨by simp [siNew],by simp [siNew],by simp [siNew],by simp [siNew]⟩,fun m hm=>by simp [rNew] at hm⟩
theorem Full.site_ok {s:SiP} {r:RsP} (h:Full s r):∀ p∈r.L,0≤p.v.site∧p.v.site<4:=h.rep.rep.site
end Go.Proofs.YtbopfhbeegkkaabGreatDoor
