/- Part 11 of a proof: lemmas and contracts that other parts use. -/
import Derived.Test.YtbopfhbeegkkaabGreatDoorSe4
import Derived.Test.YtbopfhbeegkkaabGreatDoorSe5
import Derived.Test.YtbopfhbeegkkaabGreatDoorSe10
import Derived.Test.YtbopfhbeegkkaabGreatDoorSe9
set_option linter.unusedVariables false
set_option linter.unusedSimpArgs false
set_option linter.constructorNameAsVariable false
namespace Go.Proofs.YtbopfhbeegkkaabGreatDoor
open Go.RowKit
set_option maxHeartbeats 1000000 in
theorem few_any (site seq wall count d0 d1 d2 d3:Int) (A:Option Addr) (c:Nat) (ws:List WrP) (w:World) (hn:ws.length≤9223372036854775807) (hws:WsAt w A ws):
  Calls Tryz.prog 13 #[.agg #[.int .i64 site,.int .i64 seq,.int .i64 wall,.int .i64 count,.int .i64 d0,.int .i64 d1,.int .i64 d2,.int .i64 d3,.slice A ws.length c]] w
   fun e w'=>∃ b:Bool,e=.returned (.bool b)∧(b=true→ws.length≤20)∧Below w.heap.size w w':=by
 by_cases h10:20<ws.length
 ·clear hws
  go_enter Tryz.func13,Tryz.ntmps13
  go_wp2
  go_ret
  exact ⟨false,rfl,(fun h=>by cases h),zB⟩
 have HWS:=hidp hws
 clear hws
 go_enter Tryz.func13,Tryz.ntmps13
 go_wp2
 go_loopw [3] (fun i wr=>∃ (k:Nat) (x:Tail),k≤ws.length∧i=.int .i64 k∧wr=wplus (w.alloc (.cells #[.int .i64 site,.int .i64 seq,.int .i64 wall,.int .i64 count,.int .i64 d0,.int .i64 d1,.int .i64 d2,.int .i64 d3,.slice A ws.length c] 44)) x) (fun i _=>ws.length-(intOf i).toNat)
 case atStart=>exact ⟨0,⟨#[],w.drawn⟩,Nat.zero_le _,rfl,by simp [wplus];rfl⟩
 case round=>
  obtain ⟨k,x,hk,rfl,rfl⟩:=hrel
  by_cases hlt:k<ws.length
  ·obtain ⟨b,o,rfl,hb,h0,h1,h2⟩:=HWS.out k ws[k] (List.getElem?_eq_getElem hlt)
   haveI:SzGe (b+1) w:=⟨hb⟩
   generalize ws[k]=y at *
   obtain ⟨key,data,gone⟩:=y
   simp only at *
   by_cases hd:100<data.size
   ·go_wp2
    go_ret
    exact ⟨false,rfl,(fun h=>by cases h),zB⟩
   ·go_wp2
    go_roundw
    case rel=>exact ⟨k+1,_,by omega,by go_num,rfl⟩
    case measure=>simp [intOf];omega
  ·have hkk:k=ws.length:=by omega
   go_wp2
   go_ret
   exact ⟨true,rfl,(fun _=>by omega),zB⟩
theorem in_is {n lo hi:Int} {b:Bool} (w:World) (h:decide (lo≤n∧n≤hi)=b):
  Calls Tryz.prog 96 #[.int .i64 n,.int .i64 lo,.int .i64 hi] w fun e w'=>e=.returned (.bool b)∧w=w':=by
 subst h
 by_cases h:lo≤n∧n≤hi
 ·rw [decide_eq_true h];exact in_yes n lo hi w h.1 h.2
 ·rw [decide_eq_false h];exact in_no n lo hi w (by omega)
set_option maxHeartbeats 4000000 in
theorem rRightWs_any (A:Option Addr) (c:Nat) (ws:List WrP) (w:World) (hn:ws.length≤1000000) (hws:WsAt w A ws):
  Calls Tryz.prog 71 #[.slice A ws.length c] w fun e w'=>e=.returned (.bool (rightWs ws))∧Below w.heap.size w w':=by
 have HWS:=hidp hws
 clear hws
 go_enter Tryz.func71,Tryz.ntmps71
 go_wp2
 go_loopw [7] (fun i wr=>∃ (k:Nat) (z:Int),k≤ws.length∧i=.int .i64 k∧-1≤z∧Below w.heap.size w wr∧rwGo (-1) ws=rwGo z (ws.drop k)∧((k=0∧z=-1)∨(0<k∧∃ u,ws[k-1]?=some u∧u.key=z∧0≤z))) (fun i _=>ws.length-(intOf i).toNat)
 case atStart=>exact ⟨0,-1,Nat.zero_le _,rfl,by omega,Below.refl _ _,rfl,.inl ⟨rfl,rfl⟩⟩
 case round=>
  obtain ⟨k,z,hk,rfl,hz,hbl,hrw,hprev⟩:=hrel
  obtain ⟨x,rfl⟩:=wplus_of_below hbl
  clear hbl
  have HRW:=hidp hrw
  clear hrw
  by_cases hlt:k<ws.length
  ·obtain ⟨b,o,rfl,hb,h0,h1,h2⟩:=HWS.out k ws[k] (List.getElem?_eq_getElem hlt)
   haveI:SzGe (b+1) w:=⟨hb⟩
   obtain ⟨y,hy⟩:∃ y,ws[k]=y:=⟨_,rfl⟩
   rw [hy] at h0 h1 h2
   have hdrop:ws.drop k=y::ws.drop (k+1):=by rw [List.drop_eq_getElem_cons hlt,hy]
   have hbad:badW z y=true→rightWs ws=false:=fun h=>by
    rw [rightWs,HRW.out,hdrop];simp [rwGo,h]
   have hgood:badW z y=false→rwGo (-1) ws=rwGo y.key (ws.drop (k+1)):=fun h=>by
    rw [HRW.out,hdrop];simp [rwGo,h]
   have hprev':Hid (0≤y.key→((k+1=0∧y.key=-1)∨(0<k+1∧∃ u,ws[k+1-1]?=some u∧u.key=y.key∧0≤y.key))):=hidp fun h=>.inr ⟨by omega,y,by simp [List.getElem?_eq_getElem hlt,hy],rfl,h⟩
   have HB:=hidp hbad
   have HG:=hidp hgood
   clear hbad hgood hdrop hy
   by_cases c0:0≤y.key∧y.key≤7
   ·have HI:=hidp fun w=>in_is w (decide_eq_true c0)
    obtain ⟨c0,c0'⟩:=c0
    have hprev':=hprev'.out c0
    rcases Nat.eq_zero_or_pos k with rfl | hkp
    ·have hz1:z=-1:=by omega
     subst hz1
     clear hprev
     simp only [Nat.zero_mul,Nat.add_zero] at h0 h1 h2
     have _:decide ((0:Int)<((0:Nat):Int))=false:=rfl
     by_cases c3:12<y.data.size
     ·have HF:=hidp (HB.out (by simp [badW,c3]))
      have _:decide ((12:Int)<(y.data.size:Int))=true:=decide_eq_true (by omega)
      go_wp2
      refine wp_region_plus (by kernel_rfl) (by kernel_rfl) ?_
      repeat (first | go_big_quiet_skip | (go_big_quiet_want;go_big_quiet_op;first | go_big_quiet_on | (apply Exists.intro;refine ⟨fun _=>?_,?_⟩;(first | (go_at_call 96;exact Calls.plus_same (HI.out _)));go_big_quiet_on)))
      refine wpQuiet_nil ?_
      rintro _ ⟨x,rfl⟩
      go_wp2
      go_ret
      exact ⟨by rw [HF.out];rfl,zB⟩
     have _:decide ((12:Int)<(y.data.size:Int))=false:=decide_eq_false (by omega)
     obtain ⟨key,data,gone⟩:=y
     simp only at *
     cases gone
     ·have HF:=hidp (HG.out (by simp [badW];omega))
      go_wp2
      refine wp_region_plus (by kernel_rfl) (by kernel_rfl) ?_
      repeat (first | go_big_quiet_skip | (go_big_quiet_want;go_big_quiet_op;first | go_big_quiet_on | (apply Exists.intro;refine ⟨fun _=>?_,?_⟩;(first | (go_at_call 96;exact Calls.plus_same (HI.out _)));go_big_quiet_on)))
      refine wpQuiet_nil ?_
      rintro _ ⟨x,rfl⟩
      go_wp2
      go_roundw
      case rel=>exact ⟨0+1,key,by omega,by go_num,by omega,zB,HF.out,hprev'⟩
      case measure=>simp [intOf];omega
     ·by_cases c4:data.toList=[]
      ·have hs:data.size=0:=by rw [ba_size,←ByteArray.toList_eq,c4];rfl
       have HF:=hidp (HG.out (by simp [badW,hs];omega))
       have c5:(!data.toList.isEmpty)=false:=by rw [c4];rfl
       clear hs
       go_wp2
       refine wp_region_plus (by kernel_rfl) (by kernel_rfl) ?_
       repeat (first | go_big_quiet_skip | (go_big_quiet_want;go_big_quiet_op;first | go_big_quiet_on | (apply Exists.intro;refine ⟨fun _=>?_,?_⟩;(first | (go_at_call 96;exact Calls.plus_same (HI.out _)));go_big_quiet_on)))
       refine wpQuiet_nil ?_
       rintro _ ⟨x,rfl⟩
       go_wp2
       go_roundw
       case rel=>exact ⟨0+1,key,by omega,by go_num,by omega,zB,HF.out,hprev'⟩
       case measure=>simp [intOf];omega
      ·have hs:data.size≠0:=by rw [ba_size,←ByteArray.toList_eq];intro h;exact c4 (List.eq_nil_of_length_eq_zero h)
       have HF:=hidp (HB.out (by simp [badW,hs]))
       have c5:(!data.toList.isEmpty)=true:=by simpa using c4
       clear hs
       go_wp2
       refine wp_region_plus (by kernel_rfl) (by kernel_rfl) ?_
       repeat (first | go_big_quiet_skip | (go_big_quiet_want;go_big_quiet_op;first | go_big_quiet_on | (apply Exists.intro;refine ⟨fun _=>?_,?_⟩;(first | (go_at_call 96;exact Calls.plus_same (HI.out _)));go_big_quiet_on)))
       refine wpQuiet_nil ?_
       rintro _ ⟨x,rfl⟩
       go_wp2
       go_ret
       exact ⟨by rw [HF.out];rfl,zB⟩
    ·obtain ⟨_,u,hu,hue,hz0⟩:0<k∧∃ u,ws[k-1]?=some u∧u.key=z∧0≤z:=by
      rcases hprev with h | h
      ·omega
      ·exact h
     obtain ⟨b',o',e',hb',g0,_,_⟩:=HWS.out (k-1) u hu
     cases e'
     rw [hue] at g0
     clear hprev hu
     have _:decide ((0:Int)<(k:Int))=true:=decide_eq_true (by omega)
     by_cases c1:y.key≤z
     ·have HF:=hidp (HB.out (by simp [badW,c1]))
      have _:decide (y.key≤z)=true:=decide_eq_true (by omega)
      go_wp2
      refine wp_region_plus (by kernel_rfl) (by kernel_rfl) ?_
      repeat (first | go_big_quiet_skip | (go_big_quiet_want;go_big_quiet_op;first | go_big_quiet_on | (apply Exists.intro;refine ⟨fun _=>?_,?_⟩;(first | (go_at_call 96;exact Calls.plus_same (HI.out _)));go_big_quiet_on)))
      refine wpQuiet_nil ?_
      rintro _ ⟨x,rfl⟩
      go_wp2
      go_ret
      exact ⟨by rw [HF.out];rfl,zB⟩
     have _:decide (y.key≤z)=false:=decide_eq_false (by omega)
     by_cases c3:12<y.data.size
     ·have HF:=hidp (HB.out (by simp [badW,c3]))
      have _:decide ((12:Int)<(y.data.size:Int))=true:=decide_eq_true (by omega)
      go_wp2
      refine wp_region_plus (by kernel_rfl) (by kernel_rfl) ?_
      repeat (first | go_big_quiet_skip | (go_big_quiet_want;go_big_quiet_op;first | go_big_quiet_on | (apply Exists.intro;refine ⟨fun _=>?_,?_⟩;(first | (go_at_call 96;exact Calls.plus_same (HI.out _)));go_big_quiet_on)))
      refine wpQuiet_nil ?_
      rintro _ ⟨x,rfl⟩
      go_wp2
      go_ret
      exact ⟨by rw [HF.out];rfl,zB⟩
     have _:decide ((12:Int)<(y.data.size:Int))=false:=decide_eq_false (by omega)
     obtain ⟨key,data,gone⟩:=y
     simp only at *
     cases gone
     ·have HF:=hidp (HG.out (by simp [badW];omega))
      go_wp2
      refine wp_region_plus (by kernel_rfl) (by kernel_rfl) ?_
      repeat (first | go_big_quiet_skip | (go_big_quiet_want;go_big_quiet_op;first | go_big_quiet_on | (apply Exists.intro;refine ⟨fun _=>?_,?_⟩;(first | (go_at_call 96;exact Calls.plus_same (HI.out _)));go_big_quiet_on)))
      refine wpQuiet_nil ?_
      rintro _ ⟨x,rfl⟩
      go_wp2
      go_roundw
      case rel=>exact ⟨k+1,key,by omega,by go_num,by omega,zB,HF.out,hprev'⟩
      case measure=>simp [intOf];omega
     ·by_cases c4:data.toList=[]
      ·have hs:data.size=0:=by rw [ba_size,←ByteArray.toList_eq,c4];rfl
       have HF:=hidp (HG.out (by simp [badW,hs];omega))
       have c5:(!data.toList.isEmpty)=false:=by rw [c4];rfl
       clear hs
       go_wp2
       refine wp_region_plus (by kernel_rfl) (by kernel_rfl) ?_
       repeat (first | go_big_quiet_skip | (go_big_quiet_want;go_big_quiet_op;first | go_big_quiet_on | (apply Exists.intro;refine ⟨fun _=>?_,?_⟩;(first | (go_at_call 96;exact Calls.plus_same (HI.out _)));go_big_quiet_on)))
       refine wpQuiet_nil ?_
       rintro _ ⟨x,rfl⟩
       go_wp2
       go_roundw
       case rel=>exact ⟨k+1,key,by omega,by go_num,by omega,zB,HF.out,hprev'⟩
       case measure=>simp [intOf];omega
      ·have hs:data.size≠0:=by rw [ba_size,←ByteArray.toList_eq];intro h;exact c4 (List.eq_nil_of_length_eq_zero h)
       have HF:=hidp (HB.out (by simp [badW,hs]))
       have c5:(!data.toList.isEmpty)=true:=by simpa using c4
       clear hs
       go_wp2
       refine wp_region_plus (by kernel_rfl) (by kernel_rfl) ?_
       repeat (first | go_big_quiet_skip | (go_big_quiet_want;go_big_quiet_op;first | go_big_quiet_on | (apply Exists.intro;refine ⟨fun _=>?_,?_⟩;(first | (go_at_call 96;exact Calls.plus_same (HI.out _)));go_big_quiet_on)))
       refine wpQuiet_nil ?_
       rintro _ ⟨x,rfl⟩
       go_wp2
       go_ret
       exact ⟨by rw [HF.out];rfl,zB⟩
   ·have HI:=hidp fun w=>in_is w (decide_eq_false c0)
    have HF:=hidp (HB.out (by simp [badW];omega))
    clear hprev'
    go_wp2
    refine wp_region_plus (by kernel_rfl) (by kernel_rfl) ?_
    repeat (first | go_big_quiet_skip | (go_big_quiet_want;go_big_quiet_op;first | go_big_quiet_on | (apply Exists.intro;refine ⟨fun _=>?_,?_⟩;(first | (go_at_call 96;exact Calls.plus_same (HI.out _)));go_big_quiet_on)))
    refine wpQuiet_nil ?_
    rintro _ ⟨x,rfl⟩
    go_wp2
    go_ret
    exact ⟨by rw [HF.out];rfl,zB⟩
  ·have hkk:k=ws.length:=by omega
   have hfin:rightWs ws=decide (1≤(ws.length:Int)∧(ws.length:Int)≤5):=by
    have h1:=HRW.out
    rw [hkk,List.drop_length] at h1
    rw [rightWs,h1,Bool.eq_iff_iff];simp [rwGo];omega
   have HI:=hidp fun w=>in_is (n:=(ws.length:Int)) (lo:=1) (hi:=5) w hfin.symm
   clear hfin hkk HRW hprev
   go_wp2_with (go_at_call 96;refine (HI.out _).mono ?_;rintro e w' ⟨rfl,rfl⟩)
   go_ret
   exact ⟨rfl,zB⟩
def PtC (w:World) (b o:Nat) (x:PtP):Prop:=w.cell? ⟨b,o,none⟩=some (.int .i64 x.key)∧w.cell? ⟨b,o+1,none⟩=some (.int .i64 x.v.w)∧w.cell? ⟨b,o+2,none⟩=some (.int .i64 x.v.c)∧w.cell? ⟨b,o+3,none⟩=some (.int .i64 x.v.site)∧
 w.cell? ⟨b,o+4,none⟩=some (.int .i64 x.v.seq)∧w.cell? ⟨b,o+5,none⟩=some (.string x.v.data)∧w.cell? ⟨b,o+6,none⟩=some (.bool x.v.gone)
theorem PtC.below {n:Nat} {w w':World} {b o:Nat} {x:PtP} (h:PtC w b o x) (hb:Below n w w') (hlt:b<n):PtC w' b o x:=by
 obtain ⟨h0,h1,h2,h3,h4,h5,h6⟩:=h
 have e:∀ k,w'.cell? ⟨b,k,none⟩=w.cell? ⟨b,k,none⟩:=fun k=>hb.cell (p:=⟨b,k,none⟩) hlt
 unfold PtC
 exact ⟨by rw [e];exact h0,by rw [e];exact h1,by rw [e];exact h2,by rw [e];exact h3,by rw [e];exact h4,by rw [e];exact h5,by rw [e];exact h6⟩
def PtsAt (w:World) (A:Option Addr) (ps:List PtP):Prop:=∀ (i:Nat) (x:PtP),ps[i]?=some x→∃ b o,A=some ⟨b,o,none⟩∧b<w.heap.size∧PtC w b (o+i*7) x
def putCells (p:PtP):List Value:=[.int .i64 p.key,.int .i64 p.v.w,.int .i64 p.v.c,.int .i64 p.v.site,.int .i64 p.v.seq,.string p.v.data,.bool p.v.gone]
def heldRow (L:List PtP):List Value:=L.flatMap putCells
theorem heldRow_append (a b:List PtP):heldRow (a++b)=heldRow a++heldRow b:=by simp [heldRow]
theorem heldRow_at:∀ (l:List PtP) (i:Nat) (x:PtP),l[i]?=some x→(heldRow l)[i*7]?=some (.int .i64 x.key)∧(heldRow l)[i*7+1]?=some (.int .i64 x.v.w)∧(heldRow l)[i*7+2]?=some (.int .i64 x.v.c)∧(heldRow l)[i*7+3]?=some (.int .i64 x.v.site)∧
  (heldRow l)[i*7+4]?=some (.int .i64 x.v.seq)∧(heldRow l)[i*7+5]?=some (.string x.v.data)∧(heldRow l)[i*7+6]?=some (.bool x.v.gone)
 | [],i,x,h=>by simp at h
 | y::l,0,x,h=>by simp at h;subst h;simp [heldRow,putCells]
 | y::l,i+1,x,h=>by
   have:=heldRow_at l i x (by simpa using h)
   have e:∀ j,(heldRow (y::l))[j+7]?=(heldRow l)[j]?:=fun j=>by simp [heldRow,putCells,List.getElem?_append_right]
   rw [show (i+1)*7=i*7+7 by omega,show i*7+7+1=(i*7+1)+7 by omega,show i*7+7+2=(i*7+2)+7 by omega,show i*7+7+3=(i*7+3)+7 by omega,show i*7+7+4=(i*7+4)+7 by omega,show i*7+7+5=(i*7+5)+7 by omega,show i*7+7+6=(i*7+6)+7 by omega,e,e,e,e,e,e,e]
   exact this
theorem own_puts {w:World} {B c:Nat} {A:Option Addr} {ps:List PtP} (h:w.ownsRow B 166 7 (.slice A ps.length c) ps.length (heldRow ps)):PtsAt w A ps:=by
 intro i x hx
 obtain ⟨hl,hn | ⟨g,cap,cur,hv,hb,hg,rest⟩⟩:=id h
 ·have:ps=[]:=List.eq_nil_of_length_eq_zero hn.2
  subst this;simp at hx
 ·simp only [Value.slice.injEq] at hv
  obtain ⟨rfl,_,rfl⟩:=hv
  have hc:=h.cells (g:=g) rfl
  obtain ⟨h0,h1,h2,h3,h4,h5,h6⟩:=heldRow_at ps i x hx
  have e:∀ j:Nat,(⟨g,0,none⟩:Addr).add j=⟨g,0+j,none⟩:=fun j=>by unfold Addr.add;split <;> simp_all
  have k0:=hc _ _ h0;have k1:=hc _ _ h1;have k2:=hc _ _ h2;have k3:=hc _ _ h3;have k4:=hc _ _ h4;have k5:=hc _ _ h5;have k6:=hc _ _ h6
  rw [e] at k0 k1 k2 k3 k4 k5 k6
  exact ⟨g,0,rfl,(Array.getElem?_eq_some_iff.1 hg).1,by unfold PtC;exact ⟨k0,k1,k2,k3,k4,k5,k6⟩⟩
structure RfAt (w:World) (r o B:Nat) (L:List PtP) (v:Value):Prop where
 lt:r<w.heap.size
 cel:w.cell? ⟨r,o,none⟩=some v
 frz:w.frozen? ⟨r,o,none⟩=false
 own:w.ownsRow B 166 7 v L.length (heldRow L)
 ng:v.ownBlock≠some r
def RfOwn (r:Nat) (v:Value) (b:Nat):Prop:=b=r∨v.ownBlock=some b
structure RfFr (w w':World) (r o:Nat) (v v':Value):Prop where
 os:w'.os=w.os
 tape:w'.tape=w.tape
 output:w'.output=w.output
 size:w.heap.size≤w'.heap.size
 block:∀ k,k<w.heap.size→¬RfOwn r v k→w'.heap[k]?=w.heap[k]?
 own:∀ b,RfOwn r v' b→RfOwn r v b∨w.heap.size≤b
 rest:∀ k,k≠o→w'.cell? ⟨r,k,none⟩=w.cell? ⟨r,k,none⟩
 frzd:∀ k,w'.frozen? ⟨r,k,none⟩=w.frozen? ⟨r,k,none⟩
theorem RfAt.below {w w':World} {r o B:Nat} {L:List PtP} {v:Value} (h:RfAt w r o B L v) (hb:Below w.heap.size w w'):RfAt w' r o B L v:=
 ⟨Nat.lt_of_lt_of_le h.lt hb.size,(hb.cell (p:=⟨r,o,none⟩) h.lt).trans h.cel,(World.frozen?_of_block (hb.block r h.lt)).trans h.frz,own_below h.own hb fun b e=>(own_ge h.own e).2,h.ng⟩
theorem RfFr.of_below {w w':World} {r:Nat} (hlr:r<w.heap.size) (o:Nat) (v:Value) (hb:Below w.heap.size w w'):RfFr w w' r o v v:=
 ⟨hb.os,hb.tape,hb.output,hb.size,fun k hk _=>hb.block k hk,fun _ h=>.inl h,fun k _=>hb.cell (p:=⟨r,k,none⟩) hlr,fun k=>World.frozen?_of_block (hb.block r hlr)⟩
theorem RfFr.from {w W W':World} {r o:Nat} {v v':Value} (hlr:r<w.heap.size) (hb:Below w.heap.size w W) (h:RfFr W W' r o v v'):RfFr w W' r o v v':=
 ⟨h.os.trans hb.os,h.tape.trans hb.tape,h.output.trans hb.output,Nat.le_trans hb.size h.size,fun k hk hn=>(h.block k (Nat.lt_of_lt_of_le hk hb.size) hn).trans (hb.block k hk),fun b h'=>(h.own b h').imp id (fun e=>Nat.le_trans hb.size e),
  fun k hk=>(h.rest k hk).trans (hb.cell (p:=⟨r,k,none⟩) hlr),fun k=>(h.frzd k).trans (World.frozen?_of_block (hb.block r hlr))⟩
theorem RfAt.cell {w:World} {r o B:Nat} {L:List PtP} {v:Value} (h:RfAt w r o B L v):w.cell? ⟨r,o,none⟩=some v∧w.frozen? ⟨r,o,none⟩=false:=
 ⟨h.cel,h.frz⟩
theorem RfAt.upd {w w1:World} {r o B:Nat} {L L':List PtP} {v v':Value} (h:RfAt w r o B L v) (hg:w.grownBy w1 v.ownBlock)
  (hown:w1.ownsRow B 166 7 v' L'.length (heldRow L')) (hv:v'.ownBlock=v.ownBlock∨∀ b,v'.ownBlock=some b→w.heap.size≤b):
  RfAt (w1.setCell ⟨r,o,none⟩ v') r o B L' v'∧RfFr w (w1.setCell ⟨r,o,none⟩ v') r o v v':=by
 have hlg:=h.lt
 have hgb:w1.heap[r]?=w.heap[r]?:=hg.block r hlg (fun e=>h.ng e.symm)
 have hc1:∀ k,w1.cell? ⟨r,k,none⟩=w.cell? ⟨r,k,none⟩:=fun k=>World.cell?_of_block hgb
 have hf1:∀ k,w1.frozen? ⟨r,k,none⟩=w.frozen? ⟨r,k,none⟩:=fun k=>World.frozen?_of_block hgb
 have hgs:=grown_set w1 r o v'
 have hvg:v'.ownBlock≠some r:=by
  rcases hv with e | e
  ·rw [e];exact h.ng
  ·intro e2;have:=e r e2;omega
 have hf2:∀ k,(w1.setCell ⟨r,o,none⟩ v').frozen? ⟨r,k,none⟩=w1.frozen? ⟨r,k,none⟩:=fun k=>World.frozen?_setCell ..
 refine ⟨⟨by have:=hg.size;simp [World.setCell];omega,World.cell?_setCell_same _ _ _ ((hc1 o).trans h.cel),(hf2 o).trans ((hf1 o).trans h.frz),hown.kept hgs (.inr hvg),hvg⟩,⟨hg.os,hg.tape,hg.output,by simpa [World.setCell] using hg.size,?_,?_,?_,fun k=>(hf2 k).trans (hf1 k)⟩⟩
 ·intro b hb hno
  have h1:b≠r:=fun e=>hno (.inl e)
  have h2:v.ownBlock≠some b:=fun e=>hno (.inr e)
  rw [hgs.block b (by have:=hg.size;omega) (by simp;exact h1)]
  exact hg.block b hb (fun e=>h2 e.symm)
 ·rintro b (rfl | hb)
  ·exact .inl (.inl rfl)
  ·rcases hv with e2 | e2
   ·rw [e2] at hb;exact .inl (.inr hb)
   ·exact .inr (e2 b hb)
 ·intro k hk
  rw [World.cell?_setCell_other _ _ _ _ (by simp only [ne_eq,Addr.mk.injEq,not_and];omega)]
  exact hc1 k
theorem before_eq (a b:VerP):(if cmpS a.w a.c b.w b.c≠0 then decide (cmpS a.w a.c b.w b.c<0) else decide (a.site<b.site))=decide (cmpV a b<0):=by
 unfold cmpV
 split
 ·rfl
 ·simp only [decide_eq_decide];omega
set_option maxHeartbeats 2000000 in
theorem before_any (a b:VerP) (w:World):Calls Tryz.prog 141 #[verV a,verV b] w fun e w'=>e=.returned (.bool (decide (cmpV a b<0)))∧Below w.heap.size w w':=by
 unfold verV
 have HC:=hidp fun w=>rCompare_any a.w a.c b.w b.c w
 have HE:=hidp (before_eq a b)
 by_cases h:cmpS a.w a.c b.w b.c=0
 ·have HF:Hid (decide (cmpV a b<0)=decide (a.site<b.site)):=hidp (by rw [←HE.out,if_neg (by simpa using h)])
  rw [h] at HC
  clear h HE
  go_enter Tryz.func141,Tryz.ntmps141
  go_wp2_with (go_at_call 134;refine (HC.out _).mono ?_;rintro e w' ⟨rfl,hb⟩;obtain ⟨x,rfl⟩:=wplus_of_below hb;clear hb)
  go_ret
  exact ⟨by rw [HF.out];rfl,zB⟩
 ·have HF:Hid (decide (cmpV a b<0)=decide (cmpS a.w a.c b.w b.c<0)):=hidp (by rw [←HE.out,if_pos h])
  have hne:(cmpS a.w a.c b.w b.c != 0)=true:=by simpa using h
  clear HE
  generalize cmpS a.w a.c b.w b.c=z at *
  go_enter Tryz.func141,Tryz.ntmps141
  go_wp2_with (go_at_call 134;refine (HC.out _).mono ?_;rintro e w' ⟨rfl,hb⟩;obtain ⟨x,rfl⟩:=wplus_of_below hb;clear hb)
  go_ret
  exact ⟨by rw [HF.out];rfl,zB⟩
theorem bareL_any (n:Int) (w:World) (hg:EType w):Calls Tryz.prog 12 #[errV n,.int .i64 n] w fun e w'=>e=.returned (.bool true)∧Below w.heap.size w w':=by
 unfold errV
 split
 ·rename_i h
  subst h
  exact bareL_nil w
 ·exact bareL_errno n w hg
end Go.Proofs.YtbopfhbeegkkaabGreatDoor
