/- Part 21 of a proof: lemmas and contracts that other parts use. -/
import Derived.Test.YtbopfhbeegkkaabGreatDoorSe8
import Derived.Test.YtbopfhbeegkkaabGreatDoorSe20
import Derived.RegionTactic
import Derived.Test.YtbopfhbeegkkaabGreatDoorSe14
import Derived.Lib.AppendZeros
set_option linter.unusedVariables false
set_option linter.unusedSimpArgs false
set_option linter.constructorNameAsVariable false
namespace Go.Proofs.YtbopfhbeegkkaabGreatDoor
open Go.RowKit
def lastW:List WrP→Int→Option WrP
 | [],_=>none
 | x::l,k=>match lastW l k with
   | some y=>some y
   | none=>if x.key=k then some x else none
theorem lastW_app (k:Int) (x:WrP):∀ l,lastW (l++[x]) k=if x.key=k then some x else lastW l k
 | []=>by simp [lastW]
 | y::l=>by
   have e:lastW (y::(l++[x])) k=match lastW (l++[x]) k with
    | some z=>some z
    | none=>if y.key=k then some y else none:=rfl
   have e2:lastW (y::l) k=match lastW l k with
    | some z=>some z
    | none=>if y.key=k then some y else none:=rfl
   rw [List.cons_append,e,e2,lastW_app k x l]
   by_cases hx:x.key=k
   ·rw [if_pos hx,if_pos hx]
   ·rw [if_neg hx,if_neg hx]
theorem lastW_take {l:List WrP} {j:Nat} {x:WrP} (h:l[j]?=some x) (k:Int):lastW (l.take (j+1)) k=if x.key=k then some x else lastW (l.take j) k:=by
 rw [List.take_add_one,h]
 exact lastW_app k x _
theorem lastW_key {k:Int}:∀ {l:List WrP} {x:WrP},lastW l k=some x→x.key=k
 | y::l,x,h=>by
   unfold lastW at h
   split at h
   ·rename_i z hz
    cases h
    exact lastW_key hz
   ·split at h
    ·cases h;assumption
    ·cases h
set_option maxRecDepth 20000 in
set_option maxHeartbeats 8000000 in
theorem own_any (v:Nat) (A:Option Addr) (c:Nat) (W:List WrP) (key:Int) (w:World) (hc:w.cell? ⟨v,9,none⟩=some (.slice A W.length c)) (hv:v<w.heap.size) (hW:WsAt w A W) (hn:W.length≤100000):
  Calls Tryz.prog 95 #[.pointer (some ⟨v,0,none⟩),.int .i64 key] w fun e w'=>e=.returned (.tuple #[((lastW W key).getD wrZ).val,.bool (lastW W key).isSome])∧Below w.heap.size w w':=by
 have hb0:Below w.heap.size w (w.alloc (.cells #[.int .i64 0,.string ⟨#[]⟩,.bool false] 83)):=blw_alloc (Below.refl _ _)
 have HB0:=hidp hb0
 have HC:=hidp ((hb0.cell (p:=⟨v,9,none⟩) hv).trans hc)
 have HW:=hidp (hW.below hb0)
 have HBX:=hidp (show (w.alloc (.cells #[.int .i64 0,.string ⟨#[]⟩,.bool false] 83)).heap[w.heap.size]?=some (.cells #[.int .i64 0,.string ⟨#[]⟩,.bool false] 83) from blk_new rfl _)
 obtain ⟨R,hR⟩:∃ R,lastW W key=R:=⟨_,rfl⟩
 have HR:=hidp hR
 rw [hR]
 have HV:=hidp hv
 haveI:SzGe (v+1) w:=⟨hv⟩
 clear hb0 hW hR hv
 go_enter Tryz.func95,Tryz.ntmps95
 go_wp2_with fail
 have HZ:=hidp HB0.out.size
 clear hc
 generalize w.alloc (.cells #[.int .i64 0,.string ⟨#[]⟩,.bool false] 83)=W0 at *
 go_loopw [6] (fun i wr=>∃ j:Nat,i=.int .i64 ((j:Int)-1)∧j≤W.length∧lastW (W.take j) key=R∧Below W0.heap.size W0 wr) (fun i _=>(intOf i+1).toNat)
 case atStart=>exact ⟨W.length,by first | rfl | go_num,Nat.le_refl _,by rw [List.take_length];exact HR.out,Below.refl _ _⟩
 case round=>
  obtain ⟨j,rfl,hj,hlast,hbj⟩:=hrel
  have HBJ:=hidp hbj
  have HLS:=hidp hlast
  have c9:=(hbj.cell (p:=⟨v,9,none⟩) (by have:=HZ.out;have:=HV.out;show v<W0.heap.size;omega)).trans HC.out
  have HWJ:=hidp (HW.out.below hbj)
  have hbx:=(hbj.block _ (lt_blk HBX.out)).trans HBX.out
  have f0:=cell_blk hbx 0;have f1:=cell_blk hbx 1;have f2:=cell_blk hbx 2
  simp only [zC,zD,zE] at f0 f1 f2
  have z0:=frozen_blk hbx 0;have z1:=frozen_blk hbx 1;have z2:=frozen_blk hbx 2
  haveI:SzGe (v+1) wr:=⟨by have:=HZ.out;have:=HV.out;have:=hbj.size;omega⟩
  haveI:SzGe (w.heap.size+1) wr:=⟨lt_blk hbx⟩
  clear hbj hlast hbx
  by_cases h0:0<j
  ·obtain ⟨i,rfl⟩:∃ i,j=i+1:=⟨j-1,by omega⟩
   have hji:((i+1:Nat):Int)-1=(i:Int):=by omega
   rw [hji]
   have hd:decide (0≤(i:Int))=true:=decide_eq_true (by omega)
   have hil:i<W.length:=by omega
   have hi0:(0:Int)≤(i:Int):=by omega
   have hiW:(i:Int)<(W.length:Int):=by omega
   have hx:W[i]?=some W[i]:=List.getElem?_eq_getElem hil
   have HT:=hidp (lastW_take hx key)
   obtain ⟨gb,go,rfl,hgb,k0,k1,k2⟩:=HWJ.out i _ hx
   clear hx hji
   generalize W[i]=x at *
   obtain ⟨xk,xd,xg⟩:=x
   simp only at k0 k1 k2 HT
   haveI:SzGe (gb+1) wr:=⟨hgb⟩
   by_cases hk:xk=key
   ·have hd1:(xk==key)=true:=by simp [hk]
    have HE:Hid (R=some ⟨xk,xd,xg⟩):=hidp (by rw [←HLS.out,HT.out,if_pos hk])
    clear hk
    go_wp2_with fail
    obtain rfl:=HE.out
    have HBW:Below w.heap.size w wr:=HB0.out.trans (HBJ.out.mono HZ.out)
    refine bodyPost_ret (v:=.tuple #[WrP.val ⟨xk,xd,xg⟩,.bool true]) ?_ rfl ⟨rfl,?_⟩
    ·simp [results,Tryz.results95,go_sem,WrP.val, *]
    ·exact ((HBW.setCell (p:=⟨w.heap.size,0,none⟩) (Nat.le_refl _) _).setCell (p:=⟨w.heap.size,1,none⟩) (Nat.le_refl _) _).setCell (p:=⟨w.heap.size,2,none⟩) (Nat.le_refl _) _
   ·have hd1:(xk==key)=false:=by simpa using hk
    have HE:Hid (lastW (W.take i) key=R):=hidp (by rw [←HLS.out,HT.out,if_neg hk])
    clear hk
    go_wp2_with fail
    go_roundw
    case rel=>exact ⟨i,(by first | rfl | go_num),by omega,HE.out,HBJ.out.trans (Below.mono (B:=wr.heap.size) (by repeat (first | exact Below.refl _ _ | refine blw_alloc ?_ | refine blw_plus ?_ | refine Below.drew ?_)) HBJ.out.size)⟩
    case measure=>simp [intOf] <;> omega
  ·obtain rfl:j=0:=by omega
   have hd:decide (0≤(((0:Nat):Int)-1))=false:=by decide
   have HE:Hid (R=none):=hidp (by rw [←HLS.out];rfl)
   go_wp2_with fail
   obtain rfl:=HE.out
   have HBW:Below w.heap.size w wr:=HB0.out.trans (HBJ.out.mono HZ.out)
   refine bodyPost_ret (v:=.tuple #[WrP.val wrZ,.bool false]) ?_ rfl ⟨rfl,?_⟩
   ·simp [results,Tryz.results95,go_sem,WrP.val,wrZ, *]
   ·first
     | exact ((HBW.setCell (p:=⟨w.heap.size,0,none⟩) (Nat.le_refl _) _).setCell (p:=⟨w.heap.size,1,none⟩) (Nat.le_refl _) _).setCell (p:=⟨w.heap.size,2,none⟩) (Nat.le_refl _) _
     | exact HBW
def wcs (w:WrP):List Value:=[.int .i64 w.key,.string w.data,.bool w.gone]
theorem wcs_len (l:List WrP):(l.flatMap wcs).length=l.length*3:=by
 induction l with
 | nil=>rfl
 | cons x l ih=>rw [List.flatMap_cons,List.length_append,ih,List.length_cons];simp [wcs];omega
theorem wcs_one (L:List WrP):∀ u∈L.flatMap wcs,u.oneCell'=true:=by
 intro u hu
 obtain ⟨m,_,hm⟩:=List.mem_flatMap.1 hu
 simp [wcs] at hm
 rcases hm with rfl | rfl | rfl <;> rfl
theorem wcs_at:∀ (l:List WrP) (i:Nat) (m:WrP),l[i]?=some m→∀ r u,(wcs m)[r]?=some u→(l.flatMap wcs)[i*3+r]?=some u
 | [],i,m,h,_,_,_=>by simp at h
 | y::l,0,m,h,r,u,hu=>by
   simp at h;subst h
   have hr:r<3:=by have:=(List.getElem?_eq_some_iff.1 hu).1;simpa [wcs] using this
   rw [List.flatMap_cons,List.getElem?_append_left (by simp [wcs];omega)]
   simpa using hu
 | y::l,i+1,m,h,r,u,hu=>by
   have:=wcs_at l i m (by simpa using h) r u hu
   rw [List.flatMap_cons,List.getElem?_append_right (by simp [wcs];omega),←this]
   congr 1
   simp [wcs];omega
theorem own_wsx {w:World} {B c:Nat} {A:Option Addr} {l:List WrP} (h:w.ownsRow B 83 3 (.slice A l.length c) l.length (l.flatMap wcs)):WsAt w A l:=by
 intro i m hm
 obtain ⟨hl,hn | ⟨g,cap,cur,hv,hb,hg,rest⟩⟩:=id h
 ·have:l=[]:=List.eq_nil_of_length_eq_zero hn.2
  subst this;simp at hm
 ·simp only [Value.slice.injEq] at hv
  obtain ⟨rfl,_,rfl⟩:=hv
  have hc:=h.cells (g:=g) rfl
  have e:∀ j:Nat,(⟨g,0,none⟩:Addr).add j=⟨g,0+j,none⟩:=fun j=>by unfold Addr.add;split <;> simp_all
  have k:∀ r u,(wcs m)[r]?=some u→w.cell? ⟨g,0+(i*3+r),none⟩=some u:=fun r u hu=>by
   have:=hc _ _ (wcs_at l i m hm r u hu)
   rw [e] at this;exact this
  have q:∀ r,0+(i*3+r)=0+i*3+r:=fun r=>by omega
  exact ⟨g,0,rfl,(Array.getElem?_eq_some_iff.1 hg).1,by have:=k 0 _ rfl;rw [q] at this;exact this,by have:=k 1 _ rfl;rw [q] at this;exact this,by have:=k 2 _ rfl;rw [q] at this;exact this⟩
theorem ws_flat {w:World} {A:Option Addr} {L:List WrP} (h:WsAt w A L) (hL:0<L.length):∃ b o,A=some ⟨b,o,none⟩∧b<w.heap.size∧∀ (j:Nat) (u:Value),(L.flatMap wcs)[j]?=some u→w.cell? ⟨b,o+j,none⟩=some u:=by
 obtain ⟨b,o,hA,hb,_⟩:=h 0 L[0] (List.getElem?_eq_getElem hL)
 refine ⟨b,o,hA,hb,fun j u hu=>?_⟩
 have hj:j<L.length*3:=by
  have:=(List.getElem?_eq_some_iff.1 hu).1
  rwa [wcs_len] at this
 have hi:j / 3<L.length:=by omega
 obtain ⟨b',o',hA',_,h0,h1,h2⟩:=h (j / 3) L[j / 3] (List.getElem?_eq_getElem hi)
 rw [hA] at hA'
 simp only [Option.some.injEq,Addr.mk.injEq] at hA'
 obtain ⟨rfl,rfl,_⟩:=hA'
 have hm:L[j / 3]?=some L[j / 3]:=List.getElem?_eq_getElem hi
 have key:∀ r v,(wcs (L[j / 3]))[r]?=some v→j % 3=r→w.cell? ⟨b,o+j / 3*3+r,none⟩=some v→w.cell? ⟨b,o+j,none⟩=some u:=by
  intro r v hv hr hc
  have h9:=wcs_at L (j / 3) _ hm r v hv
  have e:j / 3*3+r=j:=by omega
  rw [e,hu] at h9
  have e2:o+j / 3*3+r=o+j:=by omega
  rw [e2] at hc
  rw [hc];exact h9.symm
 have hr:j % 3=0∨j % 3=1∨j % 3=2:=by omega
 rcases hr with hr | hr | hr
 ·exact key 0 _ rfl hr h0
 ·exact key 1 _ rfl hr h1
 ·exact key 2 _ rfl hr h2
theorem run_append_wr (w:World) (ty:TypeId) (base:Nat) (v:Value) (n:Nat) (xs:List Value) (hown:w.ownsRow base 83 3 v n xs) (A:Option Addr) (c:Nat) (L:List WrP) (hx:WsAt w A L) (hn:n+L.length≤1000) (hbase:base≤w.heap.size):
  ∃ v' w',(Builtin.append_ #[42,42] ty #[v,.slice A L.length c]).run Tryz.prog w=.ok v' w'∧w'.ownsRow base 83 3 v' (n+L.length) (xs++L.flatMap wcs)∧w.grownBy w' v.ownBlock∧(v'.ownBlock=v.ownBlock∨v'.ownBlock=some w.heap.size):=by
 obtain ⟨i0,hi0,hz0,hz1,hz2⟩:=info115
 have h63:n+L.length≤maxLen:=Nat.le_trans hn (Nat.le_trans (by decide) maxLen_ge)
 rcases A with _ | ad
 ·have hL:L=[]:=by
   rcases Nat.eq_zero_or_pos L.length with h | h
   ·exact List.eq_nil_of_length_eq_zero h
   ·obtain ⟨b,o,e,_⟩:=ws_flat hx h;cases e
  subst hL
  refine ⟨v,w,?_,by simpa using hown,World.grownBy.refl w _,.inl rfl⟩
  rcases hown.2 with ⟨rfl,rfl⟩ | ⟨g,cap,cur,rfl,_,_,hnc,_⟩
  ·simp [Builtin.append_,run_underlying Tryz.underlying42,sizeOf,typeInfo,hi0,Builtin.lenOf,Builtin.firstCells]
  ·simp [Builtin.append_,run_underlying Tryz.underlying42,sizeOf,typeInfo,hi0,Builtin.lenOf,Builtin.firstCells,hnc,storeCells]
 ·have hc:∀ j u,(L.flatMap wcs)[j]?=some u→w.cell? (ad.add j)=some u:=by
   intro j u hu
   rcases Nat.eq_zero_or_pos L.length with h | h
   ·rw [List.eq_nil_of_length_eq_zero h] at hu;simp at hu
   ·obtain ⟨b,o,e,_,hc⟩:=ws_flat hx h
    obtain rfl:ad=⟨b,o,none⟩:=by simpa using e
    have e2:(⟨b,o,none⟩:Addr).add j=⟨b,o+j,none⟩:=by unfold Addr.add;split <;> simp_all
    rw [e2];exact hc j u hu
  obtain ⟨v',w',hrun,h2,h3,_,h5⟩:=run_append_own_at (P:=Tryz.prog) w base 42 ty 83 i0 (.agg #[.int .i64 0,.string ⟨#[]⟩,.bool false]) 3 32 Tryz.underlying42 hi0 hz0 hz1 hz2 rfl (by decide) v n xs hown ad L.length c _ (wcs_len L) hc (wcs_one L) h63 (by omega) hbase
  exact ⟨v',w',hrun,h2,h3,h5⟩
theorem wp_append_wr (w:World) {o:Oper} {a:Act} {K:Act→World→Prop} {Q:Exit→Act→World→Prop} (s x:Operand)
  (ho:o.op=.call { callee:=.builtin .append,args:=#[s,x],argTypes:=#[42,42] }) (base:Nat) (v:Value) (n:Nat) (L0:List WrP) (hs:a.eval s=v) (hown:w.ownsRow base 83 3 v n (L0.flatMap wcs)) (A:Option Addr) (c:Nat) (L:List WrP) (hx:a.eval x=.slice A L.length c)
  (hxs:WsAt w A L) (hn:n+L.length≤1000) (hbase:base≤w.heap.size) (hn0:n=L0.length)
  (h:∀ A' c' w',w'.ownsRow base 83 3 (.slice A' (L0++L).length c') (L0++L).length ((L0++L).flatMap wcs)→w.grownBy w' v.ownBlock→((Value.slice A' (L0++L).length c').ownBlock=v.ownBlock∨(Value.slice A' (L0++L).length c').ownBlock=some w.heap.size)→K (a.put o.dst (.slice A' (L0++L).length c')) w'):
  Oper.wp Tryz.prog o a w K Q:=by
 obtain ⟨v',w',hrun,h2,h3,h4⟩:=run_append_wr w o.type base v n (L0.flatMap wcs) hown A c L hxs hn hbase
 have e:n+L.length=(L0++L).length:=by rw [hn0,List.length_append]
 rw [e,←List.flatMap_append] at h2
 obtain ⟨A',c',rfl⟩:=own_form h2
 unfold Oper.wp execOp
 simp only [ho,resolve,invoke,builtin,Sem.run_bind,Sem.run_pure,Result.andThen_ok,List.map_toArray,List.map_cons,List.map_nil,hs,hx,hrun]
 exact h A' c' w' h2 h3 h4
theorem wpList_append_wr (w:World) {ops:Array Oper} {rest:List Oper} {o:Oper} {a:Act} {Q:Exit→Act→World→Prop} (hgd:o.guard=none) (s x:Operand)
  (ho:o.op=.call { callee:=.builtin .append,args:=#[s,x],argTypes:=#[42,42] }) (base:Nat) (v:Value) (n:Nat) (L0:List WrP) (hs:a.eval s=v) (hown:w.ownsRow base 83 3 v n (L0.flatMap wcs)) (A:Option Addr) (c:Nat) (L:List WrP) (hx:a.eval x=.slice A L.length c)
  (hxs:WsAt w A L) (hn:n+L.length≤1000) (hbase:base≤w.heap.size) (hn0:n=L0.length)
  (h:∀ A' c' w',w'.ownsRow base 83 3 (.slice A' (L0++L).length c') (L0++L).length ((L0++L).flatMap wcs)→w.grownBy w' v.ownBlock→((Value.slice A' (L0++L).length c').ownBlock=v.ownBlock∨(Value.slice A' (L0++L).length c').ownBlock=some w.heap.size)→wpList Tryz.prog ops Q rest (a.put o.dst (.slice A' (L0++L).length c')) w'):
  wpList Tryz.prog ops Q (o::rest) a w:=
 wpList_plain hgd fun _ hK=>wp_append_wr w s x ho base v n L0 hs hown A c L hx hxs hn hbase hn0 fun A' c' w' h2 h3 h4=>hK _ _ (h A' c' w' h2 h3 h4)
theorem step_append_wr (w:World) {ops:Array Oper} {o:Oper} {a:Act} {K:Act→World→Prop} {Q:Exit→Act→World→Prop} {E:Prop} (hgd:o.guard=none) (s x:Operand)
  (ho:o.op=.call { callee:=.builtin .append,args:=#[s,x],argTypes:=#[42,42] }) (base:Nat) (v:Value) (n:Nat) (L0:List WrP) (hs:a.eval s=v) (hown:w.ownsRow base 83 3 v n (L0.flatMap wcs)) (A:Option Addr) (c:Nat) (L:List WrP) (hx:a.eval x=.slice A L.length c)
  (hxs:WsAt w A L) (hn:n+L.length≤1000) (hbase:base≤w.heap.size) (hn0:n=L0.length)
  (h:∀ A' c' w',w'.ownsRow base 83 3 (.slice A' (L0++L).length c') (L0++L).length ((L0++L).flatMap wcs)→w.grownBy w' v.ownBlock→((Value.slice A' (L0++L).length c').ownBlock=v.ownBlock∨(Value.slice A' (L0++L).length c').ownBlock=some w.heap.size)→K (a.put o.dst (.slice A' (L0++L).length c')) w'):
  if Region.wanted o (yielded ops a.tmps)=true then Oper.wp Tryz.prog o a w K Q else E:=by
 have hw:Region.wanted o (yielded ops a.tmps)=true:=by simp [Region.wanted,hgd]
 rw [if_pos hw]
 exact wp_append_wr w s x ho base v n L0 hs hown A c L hx hxs hn hbase hn0 h
theorem ws_one {w:World} {q:Nat} {m:WrP} {t:TypeId} (h:w.heap[q]?=some (.cells #[.int .i64 m.key,.string m.data,.bool m.gone] t)):WsAt w (some ⟨q,0,none⟩) [m]:=by
 intro i x hx
 have hi:i=0:=by
  have:=(List.getElem?_eq_some_iff.1 hx).1
  simp at this;exact this
 subst hi
 obtain rfl:m=x:=by simpa using hx
 exact ⟨q,0,rfl,lt_blk h,cell_blk h 0,cell_blk h 1,cell_blk h 2⟩
def allW (W:List WrP) (k:Nat):List WrP:=(List.range k).filterMap fun (i:Nat)=>lastW W (i:Int)
theorem allW_succ (W:List WrP) (k:Nat):allW W (k+1)=allW W k++(match lastW W (k:Int) with | some x=>[x] | none=>[]):=by
 unfold allW
 rw [List.range_succ,List.filterMap_append]
 cases h:lastW W (k:Int) <;> simp [h]
theorem allW_len (W:List WrP) (k:Nat):(allW W k).length≤k:=by
 unfold allW
 refine Nat.le_trans (List.length_filterMap_le _ _) ?_
 simp
set_option maxRecDepth 20000 in
set_option maxHeartbeats 8000000 in
theorem allW_any (v:Nat) (A:Option Addr) (c:Nat) (W:List WrP) (w:World) (hc:w.cell? ⟨v,9,none⟩=some (.slice A W.length c)) (hv:v<w.heap.size) (hW:WsAt w A W) (hn:W.length≤100000):
  Calls Tryz.prog 97 #[.pointer (some ⟨v,0,none⟩)] w fun e w'=>∃ A' c',e=.returned (.slice A' (allW W 8).length c')∧w'.ownsRow w.heap.size 83 3 (.slice A' (allW W 8).length c') (allW W 8).length ((allW W 8).flatMap wcs)∧Below w.heap.size w w':=by
 have HC:=hidp hc
 have HV:=hidp hv
 have HW:=hidp hW
 have HOWN:=hidp fun (W1:World) (key:Int) (hB:Below w.heap.size w W1)=>own_any v A c W key W1 ((hB.cell (p:=⟨v,9,none⟩) HV.out).trans HC.out) (Nat.lt_of_lt_of_le HV.out hB.size) (HW.out.below hB) hn
 unfold WrP.val at HOWN
 clear hc hv hW
 go_enter Tryz.func97,Tryz.ntmps97
 go_wp2_with fail
 go_loopw [3,7] (fun o i X=>∃ (k:Nat) (Ao:Option Addr) (co:Nat),k≤8∧i=.int .i64 k∧o=.slice Ao (allW W k).length co∧X.ownsRow w.heap.size 83 3 (.slice Ao (allW W k).length co) (allW W k).length ((allW W k).flatMap wcs)∧Below w.heap.size w X) (fun _ i _=>8-(intOf i).toNat)
 case atStart=>exact ⟨0,none,0,by omega,rfl,rfl,⟨rfl,.inl ⟨rfl,rfl⟩⟩,Below.refl _ _⟩
 case round=>
  obtain ⟨k,Ao,co,hk,rfl,rfl,hown,hbl⟩:=hrel
  obtain ⟨X,rfl⟩:∃ X:World,X=wr:=⟨_,rfl⟩
  have HOW:=hidp hown
  have HBW:=hidp hbl
  have hol:=allW_len W k
  have HSC:=hidp (allW_succ W k)
  clear hown hbl
  generalize hO:allW W k=outs at *
  have HOE:=hidp hO
  clear hO
  by_cases hk8:k<8
  ·have hd:decide ((k:Int)<8)=true:=decide_eq_true (by omega)
   go_wp2_with fail
   go_at_call 95
   refine (HOWN.out X (k:Int) HBW.out).mono ?_
   rintro e w5 ⟨rfl,hb5⟩
   have HB5:=hidp (HBW.out.trans (hb5.mono HBW.out.size))
   have HO5:=hidp (own_below HOW.out hb5 (fun j e=>(own_ge HOW.out e).2))
   clear hb5
   have hs5:=HB5.out.size
   cases hl:lastW W (k:Int) with
   | none=>
     have HS1:Hid (allW W (k+1)=outs):=hidp (by rw [HSC.out,hl];simp)
     clear hl
     simp only [Option.getD_none,Option.isSome_none,wrZ]
     go_wp2_with fail
     go_roundw
     case rel=>exact ⟨k+1,Ao,co,by omega,by go_num,by rw [HS1.out],by rw [HS1.out];exact HO5.out.alloc _,HB5.out.trans (Below.mono (B:=w5.heap.size) (by repeat (first | exact Below.refl _ _ | refine blw_alloc ?_ | refine blw_plus ?_ | refine Below.drew ?_)) HB5.out.size)⟩
     case measure=>simp [intOf] <;> omega
   | some m=>
     have HS1:Hid (allW W (k+1)=outs++[m]):=hidp (by rw [HSC.out,hl])
     clear hl
     obtain ⟨mk,md,mg⟩:=m
     simp only [Option.getD_some,Option.isSome_some]
     go_wp2_with (at_builtin;go_must (refine wpList_append_wr _ rfl (.tmp 17) (.tmp 19) rfl w.heap.size (.slice Ao outs.length co) outs.length outs rfl ((HO5.out.alloc _).alloc _) (some ⟨w5.heap.size+1,0,none⟩) 1 [⟨mk,md,mg⟩] ?c1 (ws_one (m:=⟨mk,md,mg⟩) (blk_new (by simp) _)) ?c2 ?c3 rfl ?_))
     case c1=>first | rfl | simp [Act.eval,Act.put]
     case c2=>show outs.length+1≤1000;omega
     case c3=>first | omega | (simp;omega)
     intro A6 c6 w6 hown6 hgrow6 hat6
     have HN6:=hidp hown6
     have HB6:Hid (Below w.heap.size w w6):=hidp (Below.grown HB5.out (grown_alloc (grown_alloc hgrow6)) HB5.out.size (fun j e=>(own_ge HOW.out e).1))
     clear hown6 hgrow6 hat6
     go_wp2_with fail
     go_roundw
     case rel=>exact ⟨k+1,A6,c6,by omega,by go_num,by rw [HS1.out] <;> simp,by rw [HS1.out];have h1:=HN6.out;simpa [List.flatMap_append] using h1,HB6.out⟩
     case measure=>simp [intOf] <;> omega
  ·obtain rfl:k=8:=by omega
   have hd:decide (((8:Nat):Int)<8)=false:=by decide
   go_wp2_with fail
   go_ret
   rw [HOE.out]
   exact ⟨Ao,co,rfl,HOW.out,HBW.out⟩
end Go.Proofs.YtbopfhbeegkkaabGreatDoor
