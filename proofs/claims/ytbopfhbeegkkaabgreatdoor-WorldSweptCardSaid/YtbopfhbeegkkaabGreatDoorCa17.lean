/- Part 17 of a proof: lemmas and contracts that other parts use. -/
import Derived.Test.YtbopfhbeegkkaabGreatDoorCa12
import Derived.Test.YtbopfhbeegkkaabGreatDoorCa11
import Derived.Test.YtbopfhbeegkkaabGreatDoorCa16
import Derived.Test.YtbopfhbeegkkaabGreatDoorCa8
import Derived.RegionTactic
import Derived.Lib.AppendZeros
import Derived.Deep.RegionHeld3
import Derived.Test.YtbopfhbeegkkaabGreatDoorCa3
import Derived.Test.YtbopfhbeegkkaabGreatDoorCa4
import Derived.Test.YtbopfhbeegkkaabGreatDoorCa6
import Derived.Deep.DeepCutAuto
import Derived.Test.YtbopfhbeegkkaabGreatDoorCa13
import Derived.Test.YtbopfhbeegkkaabGreatDoorCa15
set_option linter.unusedVariables false
set_option linter.unusedSimpArgs false
namespace Go.Proofs.YtbopfhbeegkkaabGreatDoor
open Go.RowKit
set_option maxHeartbeats 400000 in
theorem min1_any (a b:Int) (w:World):
  Calls Tryz.prog 140 #[.int .i64 a,.int .i64 b] w fun e w'=>e=.returned (.int .i64 (min a b))∧w=w':=by
 rcases Int.le_total a b with h | h
 ·rw [Int.min_eq_left h]
  by_cases h1:a<b
  all_goals
   go_enter Tryz.func140,Tryz.ntmps140
   go_wp2
   all_goals go_ret
   all_goals exact ⟨by simp;try omega,rfl⟩
 ·rw [Int.min_eq_right h]
  by_cases h1:b<a
  all_goals
   go_enter Tryz.func140,Tryz.ntmps140
   go_wp2
   all_goals go_ret
   all_goals exact ⟨by simp;try omega,rfl⟩
set_option maxHeartbeats 1000000 in
theorem eachMin_any (a0 a1 a2 a3 b0 b1 b2 b3:Int) (w:World):
  Calls Tryz.prog 138 #[.agg #[.int .i64 a0,.int .i64 a1,.int .i64 a2,.int .i64 a3],.agg #[.int .i64 b0,.int .i64 b1,.int .i64 b2,.int .i64 b3],.func (.func 140) #[] #[]] w
   fun e w'=>e=.returned (.agg #[.int .i64 (min a0 b0),.int .i64 (min a1 b1),.int .i64 (min a2 b2),.int .i64 (min a3 b3)])∧Below w.heap.size w w':=by
 go_enter Tryz.func138,Tryz.ntmps138
 go_wp2
 refine wp_loop_rounds 5 ?_
 rw [rounds_succ]
 go_wp2
 refine wp_region_plus_tail 10 (by kernel_rfl) (by kernel_rfl) ?_
 simp only [List.take_succ_cons,List.take_zero,List.drop_succ_cons,List.drop_zero]
 repeat (first | go_big_quiet_skip | (go_big_quiet_want;go_big_quiet_op;first | go_big_quiet_on | (apply Exists.intro;refine ⟨fun _=>Calls.plus_same (min1_any _ _ _),?_⟩;go_big_quiet_on)))
 refine wpQuiet_nil ?_
 rintro _ ⟨x0,rfl⟩
 go_wp2
 rw [rounds_succ]
 go_wp2
 refine wp_region_plus_tail 10 (by kernel_rfl) (by kernel_rfl) ?_
 simp only [List.take_succ_cons,List.take_zero,List.drop_succ_cons,List.drop_zero]
 repeat (first | go_big_quiet_skip | (go_big_quiet_want;go_big_quiet_op;first | go_big_quiet_on | (apply Exists.intro;refine ⟨fun _=>Calls.plus_same (min1_any _ _ _),?_⟩;go_big_quiet_on)))
 refine wpQuiet_nil ?_
 rintro _ ⟨x1,rfl⟩
 go_wp2
 rw [rounds_succ]
 go_wp2
 refine wp_region_plus_tail 10 (by kernel_rfl) (by kernel_rfl) ?_
 simp only [List.take_succ_cons,List.take_zero,List.drop_succ_cons,List.drop_zero]
 repeat (first | go_big_quiet_skip | (go_big_quiet_want;go_big_quiet_op;first | go_big_quiet_on | (apply Exists.intro;refine ⟨fun _=>Calls.plus_same (min1_any _ _ _),?_⟩;go_big_quiet_on)))
 refine wpQuiet_nil ?_
 rintro _ ⟨x2,rfl⟩
 go_wp2
 rw [rounds_succ]
 go_wp2
 refine wp_region_plus_tail 10 (by kernel_rfl) (by kernel_rfl) ?_
 simp only [List.take_succ_cons,List.take_zero,List.drop_succ_cons,List.drop_zero]
 repeat (first | go_big_quiet_skip | (go_big_quiet_want;go_big_quiet_op;first | go_big_quiet_on | (apply Exists.intro;refine ⟨fun _=>Calls.plus_same (min1_any _ _ _),?_⟩;go_big_quiet_on)))
 refine wpQuiet_nil ?_
 rintro _ ⟨x3,rfl⟩
 go_wp2
 rw [rounds_succ]
 go_wp2
 exact bodyPost_ret (v:=.agg #[.int .i64 (min a0 b0),.int .i64 (min a1 b1),.int .i64 (min a2 b2),.int .i64 (min a3 b3)]) (by simp [results,Tryz.results138,go_sem]) rfl ⟨rfl,zB⟩
set_option maxHeartbeats 400000 in
theorem vMin_any (a0 a1 a2 a3 b0 b1 b2 b3:Int) (w:World):
  Calls Tryz.prog 89 #[.agg #[.int .i64 a0,.int .i64 a1,.int .i64 a2,.int .i64 a3],.agg #[.int .i64 b0,.int .i64 b1,.int .i64 b2,.int .i64 b3]] w
   fun e w'=>e=.returned (.agg #[.int .i64 (min a0 b0),.int .i64 (min a1 b1),.int .i64 (min a2 b2),.int .i64 (min a3 b3)])∧Below w.heap.size w w':=by
 go_enter Tryz.func89,Tryz.ntmps89
 go_wp2_with (go_at_call 138;refine (eachMin_any _ _ _ _ _ _ _ _ _).mono ?_;rintro e w' ⟨rfl,hb⟩;obtain ⟨x,rfl⟩:=wplus_of_below hb;clear hb)
 exact bodyPost_ret (v:=.agg #[.int .i64 (min a0 b0),.int .i64 (min a1 b1),.int .i64 (min a2 b2),.int .i64 (min a3 b3)]) (by simp [results,Tryz.results89,go_sem]) rfl ⟨rfl,zB⟩
structure RsP where
 id:Int
 p0:Int
 p1:Int
 p2:Int
 p3:Int
 lw:Int
 lc:Int
 log:List MTx
 ws:List MTx
 L:List PtP
 ot:Nat→Int
def RsP.r (s:RsP):RSi:=⟨s.id,s.p0,s.p1,s.p2,s.p3,s.lw,s.lc,s.log.map (·.t),s.ws.map (·.t),s.L,s.ot⟩
theorem XsAt.keep {w w':World} {A:Option Addr} {l:List MTx} (h:XsAt w A l) (hsz:w.heap.size≤w'.heap.size) (hb:∀ b o,A=some ⟨b,o,none⟩→w'.heap[b]?=w.heap[b]?):XsAt w' A l:=fun i m hm=>by
 obtain ⟨b,o,hA,hlt,rest⟩:=h i m hm
 have e:∀ k,w'.cell? ⟨b,k,none⟩=w.cell? ⟨b,k,none⟩:=fun k=>World.cell?_of_block (a:=⟨b,k,none⟩) (hb b o hA)
 simp only [←e] at rest
 exact ⟨b,o,hA,Nat.lt_of_lt_of_le hlt hsz,rest⟩
def RsP.at (s:RsP) (i:Int):Int:=atV s.p0 s.p1 s.p2 s.p3 i
def RsP.setc (s:RsP) (i:Nat) (z:Int):RsP:=
 { s with p0:=if i=1 then z else s.p0,p1:=if i=2 then z else s.p1,p2:=if i=3 then z else s.p2,p3:=if i=4 then z else s.p3,lw:=if i=5 then z else s.lw,lc:=if i=6 then z else s.lc,ot:=fun k=>if i=10+k then z else s.ot k }
def lastW:List WrP→Int→Option WrP
 | [],_=>none
 | x::l,k=>match lastW l k with
   | some y=>some y
   | none=>if x.key=k then some x else none
theorem lastW_app (k:Int) (x:WrP):∀ l,lastW (l++[x]) k=if x.key=k then some x else lastW l k
 | []=>by simp [lastW]
 | y::l=>by
   have e:lastW (y::(l++[x])) k=match lastW (l++[x]) k with
    | some z=>some z
    | none=>if y.key=k then some y else none:=rfl
   have e2:lastW (y::l) k=match lastW l k with
    | some z=>some z
    | none=>if y.key=k then some y else none:=rfl
   rw [List.cons_append,e,e2,lastW_app k x l]
   by_cases hx:x.key=k
   ·rw [if_pos hx,if_pos hx]
   ·rw [if_neg hx,if_neg hx]
theorem lastW_key {k:Int}:∀ {l:List WrP} {x:WrP},lastW l k=some x→x.key=k
 | y::l,x,h=>by
   unfold lastW at h
   split at h
   ·rename_i z hz
    cases h
    exact lastW_key hz
   ·split at h
    ·cases h;assumption
    ·cases h
def wcs (w:WrP):List Value:=[.int .i64 w.key,.string w.data,.bool w.gone]
theorem wcs_len (l:List WrP):(l.flatMap wcs).length=l.length*3:=by
 induction l with
 | nil=>rfl
 | cons x l ih=>rw [List.flatMap_cons,List.length_append,ih,List.length_cons];simp [wcs];omega
theorem wcs_one (L:List WrP):∀ u∈L.flatMap wcs,u.oneCell'=true:=by
 intro u hu
 obtain ⟨m,_,hm⟩:=List.mem_flatMap.1 hu
 simp [wcs] at hm
 rcases hm with rfl | rfl | rfl <;> rfl
theorem wcs_at:∀ (l:List WrP) (i:Nat) (m:WrP),l[i]?=some m→∀ r u,(wcs m)[r]?=some u→(l.flatMap wcs)[i*3+r]?=some u
 | [],i,m,h,_,_,_=>by simp at h
 | y::l,0,m,h,r,u,hu=>by
   simp at h;subst h
   have hr:r<3:=by have:=(List.getElem?_eq_some_iff.1 hu).1;simpa [wcs] using this
   rw [List.flatMap_cons,List.getElem?_append_left (by simp [wcs];omega)]
   simpa using hu
 | y::l,i+1,m,h,r,u,hu=>by
   have:=wcs_at l i m (by simpa using h) r u hu
   rw [List.flatMap_cons,List.getElem?_append_right (by simp [wcs];omega),←this]
   congr 1
   simp [wcs];omega
theorem own_wsx {w:World} {B c:Nat} {A:Option Addr} {l:List WrP} (h:w.ownsRow B 83 3 (.slice A l.length c) l.length (l.flatMap wcs)):WsAt w A l:=by
 intro i m hm
 obtain ⟨hl,hn | ⟨g,cap,cur,hv,hb,hg,rest⟩⟩:=id h
 ·have:l=[]:=List.eq_nil_of_length_eq_zero hn.2
  subst this;simp at hm
 ·simp only [Value.slice.injEq] at hv
  obtain ⟨rfl,_,rfl⟩:=hv
  have hc:=h.cells (g:=g) rfl
  have e:∀ j:Nat,(⟨g,0,none⟩:Addr).add j=⟨g,0+j,none⟩:=fun j=>by unfold Addr.add;split <;> simp_all
  have k:∀ r u,(wcs m)[r]?=some u→w.cell? ⟨g,0+(i*3+r),none⟩=some u:=fun r u hu=>by
   have:=hc _ _ (wcs_at l i m hm r u hu)
   rw [e] at this;exact this
  have q:∀ r,0+(i*3+r)=0+i*3+r:=fun r=>by omega
  exact ⟨g,0,rfl,(Array.getElem?_eq_some_iff.1 hg).1,by have:=k 0 _ rfl;rw [q] at this;exact this,by have:=k 1 _ rfl;rw [q] at this;exact this,by have:=k 2 _ rfl;rw [q] at this;exact this⟩
theorem ws_flat {w:World} {A:Option Addr} {L:List WrP} (h:WsAt w A L) (hL:0<L.length):∃ b o,A=some ⟨b,o,none⟩∧b<w.heap.size∧∀ (j:Nat) (u:Value),(L.flatMap wcs)[j]?=some u→w.cell? ⟨b,o+j,none⟩=some u:=by
 obtain ⟨b,o,hA,hb,_⟩:=h 0 L[0] (List.getElem?_eq_getElem hL)
 refine ⟨b,o,hA,hb,fun j u hu=>?_⟩
 have hj:j<L.length*3:=by
  have:=(List.getElem?_eq_some_iff.1 hu).1
  rwa [wcs_len] at this
 have hi:j / 3<L.length:=by omega
 obtain ⟨b',o',hA',_,h0,h1,h2⟩:=h (j / 3) L[j / 3] (List.getElem?_eq_getElem hi)
 rw [hA] at hA'
 simp only [Option.some.injEq,Addr.mk.injEq] at hA'
 obtain ⟨rfl,rfl,_⟩:=hA'
 have hm:L[j / 3]?=some L[j / 3]:=List.getElem?_eq_getElem hi
 have key:∀ r v,(wcs (L[j / 3]))[r]?=some v→j % 3=r→w.cell? ⟨b,o+j / 3*3+r,none⟩=some v→w.cell? ⟨b,o+j,none⟩=some u:=by
  intro r v hv hr hc
  have h9:=wcs_at L (j / 3) _ hm r v hv
  have e:j / 3*3+r=j:=by omega
  rw [e,hu] at h9
  have e2:o+j / 3*3+r=o+j:=by omega
  rw [e2] at hc
  rw [hc];exact h9.symm
 have hr:j % 3=0∨j % 3=1∨j % 3=2:=by omega
 rcases hr with hr | hr | hr
 ·exact key 0 _ rfl hr h0
 ·exact key 1 _ rfl hr h1
 ·exact key 2 _ rfl hr h2
theorem run_append_wr (w:World) (ty:TypeId) (base:Nat) (v:Value) (n:Nat) (xs:List Value) (hown:w.ownsRow base 83 3 v n xs) (A:Option Addr) (c:Nat) (L:List WrP) (hx:WsAt w A L) (hn:n+L.length≤1000) (hbase:base≤w.heap.size):
  ∃ v' w',(Builtin.append_ #[42,42] ty #[v,.slice A L.length c]).run Tryz.prog w=.ok v' w'∧w'.ownsRow base 83 3 v' (n+L.length) (xs++L.flatMap wcs)∧w.grownBy w' v.ownBlock∧(v'.ownBlock=v.ownBlock∨v'.ownBlock=some w.heap.size):=by
 obtain ⟨i0,hi0,hz0,hz1,hz2⟩:=info115
 have h63:n+L.length≤maxLen:=Nat.le_trans hn (Nat.le_trans (by decide) maxLen_ge)
 rcases A with _ | ad
 ·have hL:L=[]:=by
   rcases Nat.eq_zero_or_pos L.length with h | h
   ·exact List.eq_nil_of_length_eq_zero h
   ·obtain ⟨b,o,e,_⟩:=ws_flat hx h;cases e
  subst hL
  refine ⟨v,w,?_,by simpa using hown,World.grownBy.refl w _,.inl rfl⟩
  rcases hown.2 with ⟨rfl,rfl⟩ | ⟨g,cap,cur,rfl,_,_,hnc,_⟩
  ·simp [Builtin.append_,run_underlying Tryz.underlying42,sizeOf,typeInfo,hi0,Builtin.lenOf,Builtin.firstCells]
  ·simp [Builtin.append_,run_underlying Tryz.underlying42,sizeOf,typeInfo,hi0,Builtin.lenOf,Builtin.firstCells,hnc,storeCells]
 ·have hc:∀ j u,(L.flatMap wcs)[j]?=some u→w.cell? (ad.add j)=some u:=by
   intro j u hu
   rcases Nat.eq_zero_or_pos L.length with h | h
   ·rw [List.eq_nil_of_length_eq_zero h] at hu;simp at hu
   ·obtain ⟨b,o,e,_,hc⟩:=ws_flat hx h
    obtain rfl:ad=⟨b,o,none⟩:=by simpa using e
    have e2:(⟨b,o,none⟩:Addr).add j=⟨b,o+j,none⟩:=by unfold Addr.add;split <;> simp_all
    rw [e2];exact hc j u hu
  obtain ⟨v',w',hrun,h2,h3,_,h5⟩:=run_append_own_at (P:=Tryz.prog) w base 42 ty 83 i0 (.agg #[.int .i64 0,.string ⟨#[]⟩,.bool false]) 3 32 Tryz.underlying42 hi0 hz0 hz1 hz2 rfl (by decide) v n xs hown ad L.length c _ (wcs_len L) hc (wcs_one L) h63 (by omega) hbase
  exact ⟨v',w',hrun,h2,h3,h5⟩
theorem wp_append_wr (w:World) {o:Oper} {a:Act} {K:Act→World→Prop} {Q:Exit→Act→World→Prop} (s x:Operand)
  (ho:o.op=.call { callee:=.builtin .append,args:=#[s,x],argTypes:=#[42,42] }) (base:Nat) (v:Value) (n:Nat) (L0:List WrP) (hs:a.eval s=v) (hown:w.ownsRow base 83 3 v n (L0.flatMap wcs)) (A:Option Addr) (c:Nat) (L:List WrP) (hx:a.eval x=.slice A L.length c)
  (hxs:WsAt w A L) (hn:n+L.length≤1000) (hbase:base≤w.heap.size) (hn0:n=L0.length)
  (h:∀ A' c' w',w'.ownsRow base 83 3 (.slice A' (L0++L).length c') (L0++L).length ((L0++L).flatMap wcs)→w.grownBy w' v.ownBlock→((Value.slice A' (L0++L).length c').ownBlock=v.ownBlock∨(Value.slice A' (L0++L).length c').ownBlock=some w.heap.size)→K (a.put o.dst (.slice A' (L0++L).length c')) w'):
  Oper.wp Tryz.prog o a w K Q:=by
 obtain ⟨v',w',hrun,h2,h3,h4⟩:=run_append_wr w o.type base v n (L0.flatMap wcs) hown A c L hxs hn hbase
 have e:n+L.length=(L0++L).length:=by rw [hn0,List.length_append]
 rw [e,←List.flatMap_append] at h2
 obtain ⟨A',c',rfl⟩:=own_form h2
 unfold Oper.wp execOp
 simp only [ho,resolve,invoke,builtin,Sem.run_bind,Sem.run_pure,Result.andThen_ok,List.map_toArray,List.map_cons,List.map_nil,hs,hx,hrun]
 exact h A' c' w' h2 h3 h4
theorem wpList_append_wr (w:World) {ops:Array Oper} {rest:List Oper} {o:Oper} {a:Act} {Q:Exit→Act→World→Prop} (hgd:o.guard=none) (s x:Operand)
  (ho:o.op=.call { callee:=.builtin .append,args:=#[s,x],argTypes:=#[42,42] }) (base:Nat) (v:Value) (n:Nat) (L0:List WrP) (hs:a.eval s=v) (hown:w.ownsRow base 83 3 v n (L0.flatMap wcs)) (A:Option Addr) (c:Nat) (L:List WrP) (hx:a.eval x=.slice A L.length c)
  (hxs:WsAt w A L) (hn:n+L.length≤1000) (hbase:base≤w.heap.size) (hn0:n=L0.length)
  (h:∀ A' c' w',w'.ownsRow base 83 3 (.slice A' (L0++L).length c') (L0++L).length ((L0++L).flatMap wcs)→w.grownBy w' v.ownBlock→((Value.slice A' (L0++L).length c').ownBlock=v.ownBlock∨(Value.slice A' (L0++L).length c').ownBlock=some w.heap.size)→wpList Tryz.prog ops Q rest (a.put o.dst (.slice A' (L0++L).length c')) w'):
  wpList Tryz.prog ops Q (o::rest) a w:=
 wpList_plain hgd fun _ hK=>wp_append_wr w s x ho base v n L0 hs hown A c L hx hxs hn hbase hn0 fun A' c' w' h2 h3 h4=>hK _ _ (h A' c' w' h2 h3 h4)
theorem ws_one {w:World} {q:Nat} {m:WrP} {t:TypeId} (h:w.heap[q]?=some (.cells #[.int .i64 m.key,.string m.data,.bool m.gone] t)):WsAt w (some ⟨q,0,none⟩) [m]:=by
 intro i x hx
 have hi:i=0:=by
  have:=(List.getElem?_eq_some_iff.1 hx).1
  simp at this;exact this
 subst hi
 obtain rfl:m=x:=by simpa using hx
 exact ⟨q,0,rfl,lt_blk h,cell_blk h 0,cell_blk h 1,cell_blk h 2⟩
def allW (W:List WrP) (k:Nat):List WrP:=(List.range k).filterMap fun (i:Nat)=>lastW W (i:Int)
theorem allW_succ (W:List WrP) (k:Nat):allW W (k+1)=allW W k++(match lastW W (k:Int) with | some x=>[x] | none=>[]):=by
 unfold allW
 rw [List.range_succ,List.filterMap_append]
 cases h:lastW W (k:Int) <;> simp [h]
theorem allW_len (W:List WrP) (k:Nat):(allW W k).length≤k:=by
 unfold allW
 refine Nat.le_trans (List.length_filterMap_le _ _) ?_
 simp
def applyR (s:RsP) (m:MTx):RsP:=
 { (if 0<cmpS m.t.wall m.t.count s.lw s.lc then ((({ s with L:=rPuts s.L m.t m.t.ws.length }:RsP).setc (1+m.t.site.toNat) m.t.seq).setc 5 m.t.wall).setc 6 m.t.count
    else (({ s with L:=rPuts s.L m.t m.t.ws.length }:RsP).setc (1+m.t.site.toNat) m.t.seq)) with log:=s.log++[m] }
theorem rPut_len (L:List PtP) (k:Int) (v:VerP):(rPut L k v).2.length≤L.length+1:=by
 unfold rPut
 repeat' split
 all_goals simp
theorem rPuts_len (L:List PtP) (t:TxP):∀ j,(rPuts L t j).length≤L.length+j
 | 0=>Nat.le_refl _
 | j+1=>by
   have h1:=rPuts_len L t j
   have h2:=rPut_len (rPuts L t j) (t.ws.getD j default).key (verOf t (t.ws.getD j default))
   show (rPut _ _ _).2.length≤_
   omega
theorem applyR_r (s:RsP) (m:MTx) (hs:0≤m.t.site∧m.t.site<4):(applyR s m).r=rApply s.r m.t:=by
 have hc:m.t.site=0∨m.t.site=1∨m.t.site=2∨m.t.site=3:=by omega
 unfold applyR rApply RsP.r
 by_cases h:0<cmpS m.t.wall m.t.count s.lw s.lc
 ·simp only [h,if_true,RsP.setc]
  rcases hc with hc | hc | hc | hc <;> simp [hc] <;> (funext k;omega)
 ·simp only [h,if_false,RsP.setc]
  rcases hc with hc | hc | hc | hc <;> simp [hc] <;> (funext k;omega)
structure SdP where
 q0:Int
 q1:Int
 q2:Int
 q3:Int
 n0:Int
 n1:Int
 n2:Int
 n3:Int
 op:Bool
 W:List WrP
theorem SiFr.less {w w':World} {o1 o2 o3:Nat→Prop} (h:SiFr w w' o1 o2) (hs:∀ b,o3 b→o2 b):SiFr w w' o1 o3:=⟨h.os,h.tape,h.output,h.size,h.block,fun b hb=>h.own b (hs b hb)⟩
def sdBegin (d:SdP) (p0 p1 p2 p3:Int):SdP:={ d with n0:=p0,n1:=p1,n2:=p2,n3:=p3,op:=true,W:=[] }
def sdBeginE (d:SdP) (p0 p1 p2 p3:Int):Int:=if d.op=true then 6 else if covD p0 p1 p2 p3 d.q0 d.q1 d.q2 d.q3=false then 10 else 0
def sdAbort (d:SdP):SdP:=⟨max d.q0 d.n0,max d.q1 d.n1,max d.q2 d.n2,max d.q3 d.n3,0,0,0,0,false,[]⟩
def sdRead (op:Bool) (own:Option WrP) (V:VerP×Int):ByteArray×Int:=
 if op=false then (⟨#[]⟩,6) else match own with
  | some x=>if x.gone=true then (⟨#[]⟩,8) else (x.data,0)
  | none=>(V.1.data,V.2)
def emptyB (d:ByteArray):Bool:=d.toList.isEmpty
def sdWriteE (d:SdP) (x:WrP):Int:=
 if d.op=false then 6 else if x.key<0∨7<x.key then 2 else if 12<x.data.size then 4 else if x.gone=true∧emptyB x.data=false then 1
 else if lastW d.W x.key=none∧5≤(allW d.W 8).length then 12 else 0
theorem XsAt.take {w:World} {A:Option Addr} {L:List MTx} (h:XsAt w A L) (k:Nat):XsAt w A (L.take k):=fun i m hm=>h i m (by
 rw [List.getElem?_take] at hm
 split at hm
 ·exact hm
 ·cases hm)
structure RInv (s:RsP):Prop where
 id:0≤s.id∧s.id<4
 ap:∀ a:Int,0≤s.at a∧s.at a≤1099511627776
 rt:∀ m∈s.ws,rightTx m.t=true
 len:s.L.length≤1000*(s.log.length+1)
theorem applyR_ws (s:RsP) (m:MTx):(applyR s m).ws=s.ws:=by
 unfold applyR;split <;> rfl
theorem applyR_log (s:RsP) (m:MTx):(applyR s m).log=s.log++[m]:=rfl
theorem applyR_id (s:RsP) (m:MTx):(applyR s m).id=s.id:=by
 unfold applyR;split <;> rfl
theorem applyR_L (s:RsP) (m:MTx):(applyR s m).L=rPuts s.L m.t m.t.ws.length:=by
 unfold applyR;split <;> rfl
theorem RInv.apply {s:RsP} (h:RInv s) {m:MTx} (hm:rightTx m.t=true):RInv (applyR s m):=by
 obtain ⟨h1,h2,h3,h4⟩:=rightTx_parts hm
 have hr:=applyR_r s m h1
 have e0:(applyR s m).p0=if m.t.site=0 then m.t.seq else s.p0:=congrArg RSi.p0 hr
 have e1:(applyR s m).p1=if m.t.site=1 then m.t.seq else s.p1:=congrArg RSi.p1 hr
 have e2:(applyR s m).p2=if m.t.site=2 then m.t.seq else s.p2:=congrArg RSi.p2 hr
 have e3:(applyR s m).p3=if m.t.site=3 then m.t.seq else s.p3:=congrArg RSi.p3 hr
 have b0:0≤s.p0∧s.p0≤1099511627776:=h.ap 0
 have b1:0≤s.p1∧s.p1≤1099511627776:=h.ap 1
 have b2:0≤s.p2∧s.p2≤1099511627776:=h.ap 2
 have b3:0≤s.p3∧s.p3≤1099511627776:=h.ap 3
 refine ⟨by rw [applyR_id];exact h.id,fun a=>?_,fun m' hm'=>h.rt m' (by rw [applyR_ws] at hm';exact hm'),?_⟩
 ·unfold RsP.at atV
  rw [e0,e1,e2,e3]
  repeat' split
  all_goals omega
 ·rw [applyR_L,applyR_log,List.length_append]
  have:=rPuts_len s.L m.t m.t.ws.length
  have:=h.len
  simp only [List.length_cons,List.length_nil]
  omega
theorem runP_has:∀ (f:Nat) (s:SiP) (m:MTx),Inv s→(runP f s).has m→s.has m
 | 0,s,m,_,h=>h
 | f+1,s,m,hi,h=>by
   cases hn:nextOf s with
   | none=>rw [runP_stop (.inl hn)] at h;exact h
   | some m1=>
     by_cases hl:200≤s.log.length
     ·rw [runP_stop (.inr hl)] at h;exact h
     ·rw [runP_step hn hl] at h
      obtain ⟨hr,hw,_⟩:=hi.has hn
      have h2:=runP_has f _ m (hi.apply hr hl) h
      unfold SiP.has at *
      rw [applyP_log,applyP_wt] at h2
      rcases h2 with h2 | ⟨a,b,h2⟩
      ·rcases List.mem_append.1 h2 with h3 | h3
       ·exact .inl h3
       ·obtain rfl:m=m1:=by simpa using h3
        exact .inr ⟨_,_,hw⟩
      ·have:(s.unwait m1).wt=wset s.wt m1.t.site m1.t.seq none:=rfl
       rw [this] at h2
       unfold wset at h2
       split at h2
       ·cases h2
       ·exact .inr ⟨a,b,h2⟩
theorem wait_has {s:SiP} {m m':MTx} (h:(s.wait m).has m'):s.has m'∨m'=m:=by
 unfold SiP.has SiP.wait wset at h
 simp only at h
 rcases h with h | ⟨a,b,h⟩
 ·exact .inl (.inl h)
 ·split at h
  ·cases h;exact .inr rfl
  ·exact .inl (.inr ⟨a,b,h⟩)
theorem apply_has {s:SiP} {m m':MTx} (h:(applyP s m).has m'):s.has m'∨m'=m:=by
 unfold SiP.has at h
 rw [applyP_log,applyP_wt] at h
 rcases h with h | h
 ·rcases List.mem_append.1 h with h | h
  ·exact .inl (.inl h)
  ·exact .inr (by simpa using h)
 ·exact .inl (.inr h)
def Top (s:SiP):Prop:=s.p0≤s.log.length∧s.p1≤s.log.length∧s.p2≤s.log.length∧s.p3≤s.log.length
structure Full (s:SiP) (r:RsP):Prop where
 rep:SRep s r.r
 inv:Inv s
 rin:RInv r
 top:Top s
 rlg:∀ m∈r.log,rightTx m.t=true
theorem rDrop_len (r:RSi) (j:Nat):(rDrop r j).ws.length≤r.ws.length:=by
 unfold rDrop;simp;omega
theorem rRun_len:∀ (f:Nat) (r:RSi),(rRun f r).ws.length≤r.ws.length
 | 0,r=>Nat.le_refl _
 | f+1,r=>by
   unfold rRun
   split
   ·exact Nat.le_refl _
   ·refine Nat.le_trans (rRun_len f _) ?_
    exact rDrop_len r _
theorem Top.at {s:SiP} (h:Top s) (a:Int):s.at a≤s.log.length:=by
 obtain ⟨h0,h1,h2,h3⟩:=h
 unfold SiP.at atV
 repeat' split
 all_goals assumption
theorem Top.apply {s:SiP} (h:Top s) {m:MTx} (hs:0≤m.t.site∧m.t.site<4) (hq:m.t.seq=s.at m.t.site+1):Top (applyP s m):=by
 obtain ⟨_,e0,e1,e2,e3,_⟩:=applyP_fields s m hs
 have ht:=h.at m.t.site
 obtain ⟨h0,h1,h2,h3⟩:=h
 unfold Top
 rw [e0,e1,e2,e3,applyP_log]
 simp only [List.length_append,List.length_cons,List.length_nil]
 refine ⟨?_,?_,?_,?_⟩ <;> split <;> omega
theorem Top.unwait {s:SiP} (h:Top s) (m:MTx):Top (s.unwait m):=h
theorem Inv.run:∀ (f:Nat) {s:SiP},Inv s→Top s→Inv (runP f s)∧Top (runP f s)
 | 0,s,h,ht=>⟨h,ht⟩
 | f+1,s,h,ht=>by
   cases hn:nextOf s with
   | none=>rw [runP_stop (.inl hn)];exact ⟨h,ht⟩
   | some m1=>
     by_cases hl:200≤s.log.length
     ·rw [runP_stop (.inr hl)];exact ⟨h,ht⟩
     ·rw [runP_step hn hl]
      obtain ⟨hr,hw,hq⟩:=h.has hn
      exact Inv.run f (h.apply hr hl) ((ht.unwait m1).apply (rightTx_parts hr).1 hq)
theorem runP_right:∀ (f:Nat) {s:SiP},Inv s→(∀ m∈s.log,rightTx m.t=true)→∀ m∈(runP f s).log,rightTx m.t=true
 | 0,s,_,h=>h
 | f+1,s,hi,h=>by
   cases hn:nextOf s with
   | none=>rw [runP_stop (.inl hn)];exact h
   | some m1=>
     by_cases hl:200≤s.log.length
     ·rw [runP_stop (.inr hl)];exact h
     ·rw [runP_step hn hl]
      obtain ⟨hr,hw,hq⟩:=hi.has hn
      refine runP_right f (hi.apply hr hl) fun m hm=>?_
      rw [applyP_log] at hm
      rcases List.mem_append.1 hm with e | e
      ·exact h m e
      ·obtain rfl:m=m1:=by simpa using e
       exact hr
theorem takeE_parts {s:SiP} {t:TxP} (he:takeE s t=0):rightTx t=true:=by
 unfold takeE at he
 split at he
 ·cases he
 ·rename_i k1
  cases hr:rightTx t with
  | true=>rfl
  | false=>exact absurd (.inl hr) k1
theorem commit_right {s:SiP} (hi:Inv s) (ht:Top s) {now d0 d1 d2 d3:Int} {ws:List WrP} (he:commitE s now d0 d1 d2 d3 ws=0):rightTx (commitT s now d0 d1 d2 d3 ws)=true∧¬200≤s.log.length:=by
 unfold commitE at he
 split at he
 ·cases he
 rename_i k1
 split at he
 ·cases he
 rename_i k2
 split at he
 ·cases he
 rename_i k3
 have hws:rightWs ws=true:=by cases hr:rightWs ws with | true=>rfl | false=>exact absurd hr k1
 have hd:rgtB d0 d1 d2 d3=true:=by cases hr:rgtB d0 d1 d2 d3 with | true=>rfl | false=>exact absurd (.inl hr) k2
 refine ⟨?_,k3⟩
 have hn:(0≤nextW s.lw now∧nextW s.lw now≤1099511627776)∧(0≤nextC s.lw s.lc now∧nextC s.lw s.lc now≤1099511627776):=by
  unfold nextE at he
  split at he
  ·cases he
  rename_i j1
  have hrs:rightS s.lw s.lc=true:=by cases hr:rightS s.lw s.lc with | true=>rfl | false=>exact absurd (.inl hr) j1
  obtain ⟨b1,b2⟩:=rightS_bd hrs
  unfold nextW nextC
  split at he
  ·rename_i j2
   rw [if_pos j2,if_pos j2]
   omega
  ·rename_i j2
   rw [if_neg j2,if_neg j2]
   split at he
   ·cases he
   ·omega
 simp only [rgtB,Bool.and_eq_true,decide_eq_true_eq] at hd
 obtain ⟨⟨⟨g0,g1⟩,g2⟩,g3⟩:=hd
 obtain ⟨q0,q1,q2,q3⟩:=hi.ap
 have hat:=ht.at s.id
 have hge:=(okAp.at hi.ap s.id).1
 have hl:=hi.log
 have hid:=hi.id
 have hp:∀ (i p d:Int),(0≤p∧p≤1099511627776)→(0≤d∧d≤1099511627776)→okN (if s.id=i then p else d)=true:=fun i p d h1 h2=>by
  unfold okN
  split <;> (simp;omega)
 unfold rightTx headTx commitT
 simp only [Bool.and_eq_true,decide_eq_true_eq]
 refine ⟨⟨⟨⟨⟨⟨hid,by omega,by omega⟩,?_⟩,?_⟩,⟨⟨hp 0 _ _ q0 g0,hp 1 _ _ q1 g1⟩,hp 2 _ _ q2 g2⟩,hp 3 _ _ q3 g3⟩,?_⟩,hws⟩
 ·unfold okN;simp;omega
 ·unfold okN;simp;omega
 ·unfold depAt SiP.at atV
  have hc:s.id=0∨s.id=1∨s.id=2∨s.id=3:=by omega
  rcases hc with hc | hc | hc | hc <;> simp [hc]
theorem Inv.applyC {s:SiP} (h:Inv s) {m:MTx} (hr:rightTx m.t=true) (hl:¬200≤s.log.length):Inv (applyP s m):=by
 obtain ⟨r1,r2,r3,r4⟩:=rightTx_parts hr
 refine ⟨okAp_apply h.ap ⟨by omega,by omega⟩,h.id,?_,?_,stPut_dat h.dat _ _,?_⟩
 ·intro a b m' e
  rw [applyP_wt] at e
  exact h.wt a b m' e
 ·rw [applyP_st,applyP_log]
  refine (stPut_fit h.fit m.t m.t.ws.length).mono ?_
  simp only [List.length_append,List.length_cons,List.length_nil]
  omega
 ·rw [applyP_log]
  simp only [List.length_append,List.length_cons,List.length_nil]
  omega
theorem Full.commit {s:SiP} {r:RsP} (h:Full s r) {now d0 d1 d2 d3:Int} {ws:List WrP} (he:commitE s now d0 d1 d2 d3 ws=0) (A A2:Option Addr) (c c2:Nat):
  Full (applyP s ⟨commitT s now d0 d1 d2 d3 ws,A,c⟩) (applyR r ⟨commitT s now d0 d1 d2 d3 ws,A2,c2⟩):=by
 obtain ⟨hr,hl⟩:=commit_right h.inv h.top he
 have hp:=(rightTx_parts hr).1
 refine ⟨?_,h.inv.applyC hr hl,h.rin.apply hr,h.top.apply hp ?_,fun m hm=>?_⟩
 ·rw [applyR_r _ _ hp];exact h.rep.apply hp
 ·unfold commitT;rfl
 ·rw [applyR_log] at hm
  rcases List.mem_append.1 hm with e | e
  ·exact h.rlg m e
  ·obtain rfl:m=_:=by simpa using e
   exact hr
def rNew (id:Int):RsP:=⟨id,0,0,0,0,0,0,[],[],[],fun _=>0⟩
theorem Full.fresh {id:Int} (h:0≤id∧id<4):Full (siNew id) (rNew id):=
 ⟨SRep.fresh id,⟨⟨⟨by simp [siNew],by simp [siNew]⟩,⟨by simp [siNew],by simp [siNew]⟩,⟨by simp [siNew],by simp [siNew]⟩,⟨by simp [siNew],by simp [siNew]⟩⟩,h,fun a b m e=>by simp [siNew] at e,fun k _=>⟨fun x hx=>by simp [siNew] at hx,Nat.zero_le _⟩,fun k _ v hv=>by simp [siNew] at hv,by simp [siNew]⟩,
   ⟨h,fun a=>by unfold RsP.at atV rNew;simp,fun m hm=>by simp [rNew] at hm,by simp [rNew]⟩,⟨by simp [siNew],by simp [siNew],by simp [siNew],by simp [siNew]⟩,fun m hm=>by simp [rNew] at hm⟩
theorem Full.sweep {s:SiP} {r:RsP} (h:Full s r) (a0 a1 a2 a3:Int):Full { s with st:=fun k=>sweepV a0 a1 a2 a3 (s.st k) } { r with L:=rSweep a0 a1 a2 a3 r.L }:=by
 obtain ⟨b1,b2,b3,b4,b5,b6,b7,b8,b9,b10,b11,b12,b13,b14⟩:=h.rep
 refine ⟨⟨b1,b2,b3,b4,b5,b6,b7,b8,b9,b10,b11,b12,b13.sweep a0 a1 a2 a3,b14⟩,⟨h.inv.ap,h.inv.id,h.inv.wt,fun k hk=>⟨fun x hx=>(h.inv.fit k hk).1 x (sweepV_sub hx),?_⟩,fun k hk v hv=>h.inv.dat k hk v (sweepV_sub hv),h.inv.log⟩,⟨h.rin.id,h.rin.ap,h.rin.rt,?_⟩,h.top,h.rlg⟩
 ·exact Nat.le_trans (sweepV_len _ _ _ _ _) (h.inv.fit k hk).2
 ·refine Nat.le_trans ?_ h.rin.len
  show (rSweep a0 a1 a2 a3 r.L).length≤_
  unfold rSweep;exact List.length_filter_le _ _
structure Ob where
 at_:World→Prop
 own:Nat→Prop
 dat:Nat→Prop
instance : Inhabited Ob:=⟨⟨fun _=>True,fun _=>False,fun _=>False⟩⟩
structure Ob.Ok (B:Nat) (o:Ob):Prop where
 same:∀ w w',o.at_ w→w.heap.size≤w'.heap.size→(∀ b,o.own b∨o.dat b→w'.heap[b]?=w.heap[b]?)→o.at_ w'
 lt:∀ w b,o.at_ w→o.own b→B≤b∧b<w.heap.size
 dlt:∀ w b,o.at_ w→o.dat b→b<w.heap.size
def oset (O:Nat→Ob) (i:Nat) (o:Ob):Nat→Ob:=fun k=>if k=i then o else O k
theorem oset_same (O:Nat→Ob) (i:Nat) (o:Ob):oset O i o i=o:=if_pos rfl
theorem oset_other {O:Nat→Ob} {i k:Nat} (o:Ob) (h:k≠i):oset O i o k=O k:=if_neg h
structure Mem (w0 w:World) (n:Nat) (O:Nat→Ob):Prop where
 low:Below w0.heap.size w0 w
 ok:∀ i,i<n→(O i).Ok w0.heap.size
 at_:∀ i,i<n→(O i).at_ w
 dis:∀ i j,i<n→j<n→i≠j→∀ b,(O i).own b→¬(O j).own b∧¬(O j).dat b
section
variable {w0 w w':World} {n:Nat} {O:Nat→Ob}
theorem Mem.below (h:Mem w0 w n O) (hb:Below w.heap.size w w'):Mem w0 w' n O:=
 ⟨h.low.trans (hb.mono h.low.size),h.ok,fun i hi=>(h.ok i hi).same w w' (h.at_ i hi) hb.size (fun b hb'=>hb.block b (hb'.elim (fun e=>((h.ok i hi).lt w b (h.at_ i hi) e).2) ((h.ok i hi).dlt w b (h.at_ i hi)))),h.dis⟩
theorem Mem.step (h:Mem w0 w n O) {i:Nat} (hi:i<n) {o:Ob} (ho:o.Ok w0.heap.size) (hat:o.at_ w') (fr:SiFr w w' (O i).own o.own) (hd:∀ b,o.dat b→(O i).dat b∨w.heap.size≤b):Mem w0 w' n (oset O i o):=by
 have hlt:∀ b,(O i).own b→w0.heap.size≤b:=fun b e=>((h.ok i hi).lt w b (h.at_ i hi) e).1
 have hkeep:∀ k,k<n→k≠i→(O k).at_ w':=fun k hk hne=>(h.ok k hk).same w w' (h.at_ k hk) fr.size fun b hb=>fr.block b (hb.elim (fun e=>((h.ok k hk).lt w b (h.at_ k hk) e).2) ((h.ok k hk).dlt w b (h.at_ k hk))) fun e=>by
  obtain ⟨h1,h2⟩:=h.dis i k hi hk (Ne.symm hne) b e
  exact hb.elim h1 h2
 refine ⟨h.low.trans ⟨fr.os,fr.tape,fr.output,fr.size,fun k hk=>fr.block k (Nat.lt_of_lt_of_le hk h.low.size) fun e=>by have:=hlt k e;omega⟩,fun k hk=>?_,fun k hk=>?_,fun j k hj hk hne b hb=>?_⟩
 ·by_cases e:k=i
  ·subst e;rw [oset_same];exact ho
  ·rw [oset_other _ e];exact h.ok k hk
 ·by_cases e:k=i
  ·subst e;rw [oset_same];exact hat
  ·rw [oset_other _ e];exact hkeep k hk e
 ·by_cases e:j=i
  ·subst e
   rw [oset_same] at hb
   have hk2:k≠j:=Ne.symm hne
   rw [oset_other _ hk2]
   rcases fr.own b hb with h1 | h1
   ·exact h.dis j k hj hk hne b h1
   ·exact ⟨fun e=>by have:=((h.ok k hk).lt w b (h.at_ k hk) e).2;omega,fun e=>by have:=(h.ok k hk).dlt w b (h.at_ k hk) e;omega⟩
  ·rw [oset_other _ e] at hb
   have hbl:=((h.ok j hj).lt w b (h.at_ j hj) hb).2
   by_cases e2:k=i
   ·subst e2
    rw [oset_same]
    obtain ⟨h1,h2⟩:=h.dis j k hj hk hne b hb
    refine ⟨fun e3=>?_,fun e3=>?_⟩
    ·rcases fr.own b e3 with h3 | h3
     ·exact h1 h3
     ·omega
    ·rcases hd b e3 with h3 | h3
     ·exact h2 h3
     ·omega
   ·rw [oset_other _ e2]
    exact h.dis j k hj hk hne b hb
theorem Mem.push (h:Mem w0 w n O) {o:Ob} (hb:Below w.heap.size w w') (ho:o.Ok w0.heap.size) (hat:o.at_ w') (hn:∀ b,o.own b→w.heap.size≤b) (hd:∀ b,o.dat b→w.heap.size≤b):Mem w0 w' (n+1) (oset O n o):=by
 have h2:=h.below hb
 refine ⟨h2.low,fun k hk=>?_,fun k hk=>?_,fun j k hj hk hne b hb'=>?_⟩
 ·by_cases e:k=n
  ·subst e;rw [oset_same];exact ho
  ·rw [oset_other _ e];exact h2.ok k (by omega)
 ·by_cases e:k=n
  ·subst e;rw [oset_same];exact hat
  ·rw [oset_other _ e];exact h2.at_ k (by omega)
 ·by_cases e:j=n
  ·subst e
   rw [oset_same] at hb'
   have hk2:k<j:=by omega
   rw [oset_other _ (by omega)]
   have:=hn b hb'
   exact ⟨fun e=>by have:=((h.ok k hk2).lt w b (h.at_ k hk2) e).2;omega,fun e=>by have:=(h.ok k hk2).dlt w b (h.at_ k hk2) e;omega⟩
  ·rw [oset_other _ e] at hb'
   have hj2:j<n:=by omega
   have hbl:=((h.ok j hj2).lt w b (h.at_ j hj2) hb').2
   by_cases e2:k=n
   ·subst e2
    rw [oset_same]
    exact ⟨fun e=>by have:=hn b e;omega,fun e=>by have:=hd b e;omega⟩
   ·rw [oset_other _ e2]
    exact h.dis j k hj2 (by omega) hne b hb'
end
def obS (B x mb:Nat) (s:SiP) (lv:Value) (sv:Nat→Value):Ob:=⟨fun w=>SiAt w B x s mb lv sv,SiOwn x mb lv sv,fun b=>∃ m o,s.has m∧m.A=some ⟨b,o,none⟩⟩
theorem obS_ok (B x mb:Nat) (s:SiP) (lv:Value) (sv:Nat→Value):(obS B x mb s lv sv).Ok B:=
 ⟨fun w w' h hs hb=>SiAt.same h hs (fun b e=>hb b (.inl e)) (fun m hm b o e=>hb b (.inr ⟨m,o,hm,e⟩)),fun w b h e=>SiAt.lt h e,fun w b h ⟨m,o,hm,e⟩=>(SiAt.dat h m hm).2 b o e |>.1⟩
def obB (b:Nat) (o:Obj) (B:Nat):Ob:=⟨fun w=>B≤b∧w.heap[b]?=some o,fun k=>k=b,fun _=>False⟩
theorem obB_ok (b:Nat) (o:Obj) (B:Nat):(obB b o B).Ok B:=
 ⟨fun w w' h hs hb=>⟨h.1,(hb b (.inl rfl)).trans h.2⟩,fun w k h e=>by cases e;exact ⟨h.1,lt_blk h.2⟩,fun w b h e=>e.elim⟩
structure SnP where
 q0:Int
 q1:Int
 q2:Int
 q3:Int
 n0:Int
 n1:Int
 n2:Int
 n3:Int
 op:Bool
 m:Int→Option WrP
 mn:Nat
def SnOwn (u:Nat) (mv:Option Nat) (b:Nat):Prop:=b=u∨mv=some b
structure SnAt (w:World) (B u:Nat) (s:SnP) (mv:Option Nat):Prop where
 blk:w.heap[u]?=some (.cells #[.int .i64 s.q0,.int .i64 s.q1,.int .i64 s.q2,.int .i64 s.q3,.int .i64 s.n0,.int .i64 s.n1,.int .i64 s.n2,.int .i64 s.n3,.bool s.op,.map mv] 171)
 mp:∀ mb,mv=some mb→WpAt w mb s.m s.mn∧B≤mb∧mb≠u
 opn:s.op=true→mv≠none
 bx:B≤u
theorem SnAt.lt {w:World} {B u:Nat} {s:SnP} {mv:Option Nat} (h:SnAt w B u s mv) {b:Nat} (hb:SnOwn u mv b):B≤b∧b<w.heap.size:=by
 rcases hb with rfl | hb
 ·exact ⟨h.bx,lt_blk h.blk⟩
 ·exact ⟨(h.mp b hb).2.1,(h.mp b hb).1.lt⟩
theorem SnAt.same {w w':World} {B u:Nat} {s:SnP} {mv:Option Nat} (h:SnAt w B u s mv) (ho:∀ b,SnOwn u mv b→w'.heap[b]?=w.heap[b]?):SnAt w' B u s mv:=
 ⟨(ho u (.inl rfl)).trans h.blk,fun mb e=>⟨(h.mp mb e).1.block (ho mb (.inr e)),(h.mp mb e).2⟩,h.opn,h.bx⟩
theorem SnAt.below {w w':World} {B u:Nat} {s:SnP} {mv:Option Nat} (h:SnAt w B u s mv) (hb:Below w.heap.size w w'):SnAt w' B u s mv:=h.same fun b hb'=>hb.block b (h.lt hb').2
def obN (B u:Nat) (s:SnP) (mv:Option Nat):Ob:=⟨fun w=>SnAt w B u s mv,SnOwn u mv,fun _=>False⟩
theorem obN_ok (B u:Nat) (s:SnP) (mv:Option Nat):(obN B u s mv).Ok B:=
 ⟨fun w w' h hs hb=>SnAt.same h (fun b e=>hb b (.inl e)),fun w b h e=>SnAt.lt h e,fun w b h e=>e.elim⟩
def snNew:SnP:=⟨0,0,0,0,0,0,0,0,false,fun _=>none,0⟩
set_option maxRecDepth 20000 in
theorem sNew_any (w:World):Calls Tryz.prog 37 #[] w fun e w'=>e=.returned (.pointer (some ⟨w.heap.size,0,none⟩))∧SnAt w' w.heap.size w.heap.size snNew none∧Below w.heap.size w w':=by
 go_enter Tryz.func37,Tryz.ntmps37
 go_wp2_with fail
 go_ret
 exact ⟨rfl,⟨blk_new rfl _,fun mb e=>(by cases e),fun e=>(by cases e),Nat.le_refl _⟩,zB⟩
section
variable {w:World} {B u:Nat} {s:SnP} {mv:Option Nat}
set_option maxRecDepth 20000 in
theorem sPast_any (h:SnAt w B u s mv):Calls Tryz.prog 48 #[.pointer (some ⟨u,0,none⟩)] w fun e w'=>e=.returned (.agg #[.int .i64 s.q0,.int .i64 s.q1,.int .i64 s.q2,.int .i64 s.q3])∧Below w.heap.size w w':=by
 have hb:=h.blk
 have c0:=cell_blk hb 0;have c1:=cell_blk hb 1;have c2:=cell_blk hb 2;have c3:=cell_blk hb 3
 simp only [zC,zD,zE] at c0 c1 c2 c3
 haveI:SzGe (u+1) w:=⟨lt_blk hb⟩
 clear h hb
 go_enter Tryz.func48,Tryz.ntmps48
 go_wp2_with fail
 refine bodyPost_ret (v:=.agg #[.int .i64 s.q0,.int .i64 s.q1,.int .i64 s.q2,.int .i64 s.q3]) ?_ rfl ⟨rfl,zB⟩
 simp [results,Tryz.results48,go_sem]
set_option maxRecDepth 20000 in
theorem sSnap_any (h:SnAt w B u s mv):Calls Tryz.prog 49 #[.pointer (some ⟨u,0,none⟩)] w fun e w'=>e=.returned (.agg #[.int .i64 s.n0,.int .i64 s.n1,.int .i64 s.n2,.int .i64 s.n3])∧Below w.heap.size w w':=by
 have hb:=h.blk
 have c4:=cell_blk hb 4;have c5:=cell_blk hb 5;have c6:=cell_blk hb 6;have c7:=cell_blk hb 7
 simp only [zC,zD,zE] at c4 c5 c6 c7
 haveI:SzGe (u+1) w:=⟨lt_blk hb⟩
 clear h hb
 go_enter Tryz.func49,Tryz.ntmps49
 go_wp2_with fail
 refine bodyPost_ret (v:=.agg #[.int .i64 s.n0,.int .i64 s.n1,.int .i64 s.n2,.int .i64 s.n3]) ?_ rfl ⟨rfl,zB⟩
 simp [results,Tryz.results49,go_sem]
set_option maxRecDepth 20000 in
theorem sOpen_any (h:SnAt w B u s mv):Calls Tryz.prog 50 #[.pointer (some ⟨u,0,none⟩)] w fun e w'=>e=.returned (.bool s.op)∧Below w.heap.size w w':=by
 have hb:=h.blk
 have c8:=cell_blk hb 8
 simp only [zC,zD,zE] at c8
 haveI:SzGe (u+1) w:=⟨lt_blk hb⟩
 clear h hb
 go_enter Tryz.func50,Tryz.ntmps50
 go_wp2_with fail
 go_ret
 exact ⟨rfl,zB⟩
end
def snBegin (s:SnP) (p0 p1 p2 p3:Int):SnP:={ s with n0:=p0,n1:=p1,n2:=p2,n3:=p3,op:=true,m:=fun _=>none,mn:=0 }
def snBeginE (s:SnP) (p0 p1 p2 p3:Int):Int:=if s.op=true then 6 else if covD p0 p1 p2 p3 s.q0 s.q1 s.q2 s.q3=false then 10 else 0
theorem SiFr.setN {w:World} {u i:Nat} {mv:Option Nat} (v:Value):SiFr w (w.setCell ⟨u,i,none⟩ v) (SnOwn u mv) (SnOwn u mv):=
 ⟨rfl,rfl,rfl,by simp [World.setCell],fun k hk hn=>(grown_set w u i v).block k hk (by simp;exact fun e=>hn (.inl e)),fun _ h=>.inl h⟩
set_option maxRecDepth 20000 in
set_option maxHeartbeats 8000000 in
theorem sBegin_any (B u x:Nat) (s:SnP) (mv:Option Nat) (p0 p1 p2 p3:Int) (w:World) (h:SnAt w B u s mv)
  (hap:∀ W,Below w.heap.size w W→Calls Tryz.prog 26 #[.pointer (some ⟨x,0,none⟩)] W fun e w'=>e=.returned (.agg #[.int .i64 p0,.int .i64 p1,.int .i64 p2,.int .i64 p3])∧Below W.heap.size W w'):
  Calls Tryz.prog 38 #[.pointer (some ⟨u,0,none⟩),.pointer (some ⟨x,0,none⟩)] w fun e w'=>e=.returned (errV (snBeginE s p0 p1 p2 p3))∧(snBeginE s p0 p1 p2 p3≠0→Below w.heap.size w w')∧
   (snBeginE s p0 p1 p2 p3=0→∃ mb,SnAt w' B u (snBegin s p0 p1 p2 p3) (some mb)∧SiFr w w' (SnOwn u mv) (SnOwn u (some mb))):=by
 have HS:=hidp h
 have hb:=h.blk
 obtain ⟨q0,q1,q2,q3,n0,n1,n2,n3,op,m,mn⟩:=s
 simp only at hb
 have c0:=cell_blk hb 0;have c1:=cell_blk hb 1;have c2:=cell_blk hb 2;have c3:=cell_blk hb 3;have c4:=cell_blk hb 4;have c5:=cell_blk hb 5;have c6:=cell_blk hb 6;have c7:=cell_blk hb 7;have c8:=cell_blk hb 8;have c9:=cell_blk hb 9
 simp only [zC,zD,zE] at c0 c1 c2 c3 c4 c5 c6 c7 c8 c9
 have z0:=frozen_blk hb 0;have z1:=frozen_blk hb 1;have z2:=frozen_blk hb 2;have z3:=frozen_blk hb 3;have z4:=frozen_blk hb 4;have z5:=frozen_blk hb 5;have z6:=frozen_blk hb 6;have z7:=frozen_blk hb 7;have z8:=frozen_blk hb 8;have z9:=frozen_blk hb 9
 haveI:SzGe (u+1) w:=⟨lt_blk hb⟩
 have HBK:=hidp hb
 have HAP:=hidp hap
 have hmm:=@run_makeMap Tryz.prog
 clear h hb hap
 have HE:Hid (snBeginE ⟨q0,q1,q2,q3,n0,n1,n2,n3,op,m,mn⟩ p0 p1 p2 p3=if op=true then 6 else if covD p0 p1 p2 p3 q0 q1 q2 q3=false then 10 else 0):=hidp rfl
 generalize snBeginE ⟨q0,q1,q2,q3,n0,n1,n2,n3,op,m,mn⟩ p0 p1 p2 p3=E at *
 cases op with
 | true=>
   have HE2:Hid (E=6):=hidp (by rw [HE.out];rfl)
   clear HE
   go_enter Tryz.func38,Tryz.ntmps38
   go_wp2_with fail
   go_ret
   exact ⟨by rw [HE2.out];rfl,fun _=>zB,fun e=>by rw [HE2.out] at e;cases e⟩
 | false=>
   cases hcv:covD p0 p1 p2 p3 q0 q1 q2 q3 with
   | false=>
     have HCV:=hidp fun X=>covers_is hcv X
     have HE2:Hid (E=10):=hidp (by rw [HE.out,hcv];rfl)
     clear HE hcv
     go_enter Tryz.func38,Tryz.ntmps38
     go_wp2_with fail
     refine wp_region_plus (by kernel_rfl) (by kernel_rfl) ?_
     repeat (first | go_big_quiet_skip | (go_big_quiet_want;go_big_quiet_op;first | go_big_quiet_on | (apply Exists.intro;refine ⟨fun _=>?_,?_⟩;(first | (go_at_call 26;exact Calls.plus_of (HAP.out _ zB)) | (go_at_call 55;exact Calls.plus_of (HCV.out _)));go_big_quiet_on)))
     refine wpQuiet_nil ?_
     rintro _ ⟨x3,rfl⟩
     go_wp2_with fail
     go_ret
     exact ⟨by rw [HE2.out];rfl,fun _=>zB,fun e=>by rw [HE2.out] at e;cases e⟩
   | true=>
     have HCV:=hidp fun X=>covers_is hcv X
     have HE2:Hid (E=0):=hidp (by rw [HE.out,hcv];rfl)
     clear HE hcv
     go_enter Tryz.func38,Tryz.ntmps38
     go_wp2_with fail
     refine wp_region_plus (by kernel_rfl) (by kernel_rfl) ?_
     repeat (first | go_big_quiet_skip | (go_big_quiet_want;go_big_quiet_op;first | go_big_quiet_on | (apply Exists.intro;refine ⟨fun _=>?_,?_⟩;(first | (go_at_call 26;exact Calls.plus_of (HAP.out _ zB)) | (go_at_call 55;exact Calls.plus_of (HCV.out _)));go_big_quiet_on)))
     refine wpQuiet_nil ?_
     rintro _ ⟨x3,rfl⟩
     go_wp2_with fail
     go_at_call 26
     refine (HAP.out _ zB).mono ?_
     rintro e w4 ⟨rfl,hb4⟩
     obtain ⟨x4,rfl⟩:=wplus_of_below hb4
     clear hb4
     go_wp2_with fail
     go_ret
     refine ⟨by rw [HE2.out];rfl,fun e=>absurd HE2.out e,fun _=>?_⟩
     have e1:=blk_set HBK.out 4 (.int .i64 p0)
     have e2:=blk_set e1 5 (.int .i64 p1)
     have e3:=blk_set e2 6 (.int .i64 p2)
     have e4:=blk_set e3 7 (.int .i64 p3)
     have e5:=blk_set e4 8 (.bool true)
     have e6:=blk_set e5 9 (.map (some (w.heap.size+x3.blocks.size+x4.blocks.size)))
     simp only [List.setIfInBounds_toArray,List.set_cons_zero,List.set_cons_succ] at e6
     have hc:∀ (X:World) (i:Nat) (zz:Value),SiFr X (X.setCell ⟨u,i,none⟩ zz) (SnOwn u mv) (SnOwn u mv):=fun X i zz=>SiFr.setN zz
     have hfr:=((((((hc w 4 (.int .i64 p0)).trans (hc _ 5 (.int .i64 p1))).trans (hc _ 6 (.int .i64 p2))).trans (hc _ 7 (.int .i64 p3))).trans (hc _ 8 (.bool true))).trans (hc _ 9 (.map (some (w.heap.size+x3.blocks.size+x4.blocks.size)))))
     have hsz:((((((w.setCell ⟨u,4,none⟩ (.int .i64 p0)).setCell ⟨u,5,none⟩ (.int .i64 p1)).setCell ⟨u,6,none⟩ (.int .i64 p2)).setCell ⟨u,7,none⟩ (.int .i64 p3)).setCell ⟨u,8,none⟩ (.bool true)).setCell ⟨u,9,none⟩ (.map (some (w.heap.size+x3.blocks.size+x4.blocks.size)))).heap.size=w.heap.size:=by simp [World.setCell]
     have hul:=lt_blk HBK.out
     clear HCV HBK HAP hmm c0 c1 c2 c3 c4 c5 c6 c7 c8 c9 z0 z1 z2 z3 z4 z5 z6 z7 z8 z9 e1 e2 e3 e4 e5 hc
     generalize (((((w.setCell ⟨u,4,none⟩ (.int .i64 p0)).setCell ⟨u,5,none⟩ (.int .i64 p1)).setCell ⟨u,6,none⟩ (.int .i64 p2)).setCell ⟨u,7,none⟩ (.int .i64 p3)).setCell ⟨u,8,none⟩ (.bool true)).setCell ⟨u,9,none⟩ (.map (some (w.heap.size+x3.blocks.size+x4.blocks.size)))=W1 at *
     have hbel:Below W1.heap.size W1 ((wplus (wplus W1 x3) x4).alloc (.map #[] 0)):=zB
     refine ⟨w.heap.size+x3.blocks.size+x4.blocks.size,⟨(hbel.block u (by omega)).trans e6,fun mb' e=>?_,fun _=>by simp,HS.out.bx⟩,?_⟩
     ·obtain rfl:=Option.some.inj e
      exact ⟨WpAt.made (blk_new (by simp [hsz]) _),by have:=HS.out.bx;omega,by omega⟩
     ·have f1:=hfr.trans (SiFr.of_below (SnOwn u mv) hbel)
      exact ⟨f1.os,f1.tape,f1.output,f1.size,f1.block,fun b hb=>by
       rcases hb with e | e
       ·exact .inl (.inl e)
       ·have:=Option.some.inj e
        exact .inr (by omega)⟩
end Go.Proofs.YtbopfhbeegkkaabGreatDoor
