/- Part 3 of a proof: lemmas and contracts that other parts use. -/
import Derived.Test.YtbopfhbeegkkaabGreatDoorSe2
import Derived.Test.YtbopfhbeegkkaabGreatDoorSe1
import Derived.Test.YtbopfhbeegkkaabGreatDoorRows
import Derived.Deep.AppendLies
import Derived.Outline
set_option linter.unusedVariables false
set_option linter.unusedSimpArgs false
set_option linter.constructorNameAsVariable false
namespace Go.Proofs.YtbopfhbeegkkaabGreatDoor
structure WrP where
 key:Int
 data:ByteArray
 gone:Bool
structure TxP where
 site:Int
 seq:Int
 wall:Int
 count:Int
 d0:Int
 d1:Int
 d2:Int
 d3:Int
 ws:List WrP
def okN (z:Int):Bool:=decide (0≤z∧z≤1099511627776)
def badW (last:Int) (w:WrP):Bool:=decide (w.key≤last)||decide (8≤w.key)||decide (12<w.data.size)||(w.gone&&decide (w.data.size≠0))
def rwGo:Int→List WrP→Bool
 | _,[]=>true
 | last,w::ws=>if badW last w=true then false else rwGo w.key ws
def rightWs (l:List WrP):Bool:=rwGo (-1) l&&decide (1≤l.length)&&decide (l.length≤5)
def depAt (t:TxP):Int:=if t.site=0 then t.d0 else if t.site=1 then t.d1 else if t.site=2 then t.d2 else t.d3
def headTx (t:TxP):Bool:=decide (0≤t.site∧t.site<4)&&decide (1≤t.seq∧t.seq≤1099511627776)&&okN t.wall&&okN t.count&&(okN t.d0&&okN t.d1&&okN t.d2&&okN t.d3)&&decide (depAt t=t.seq-1)
def rightTx (t:TxP):Bool:=headTx t&&rightWs t.ws
theorem ba_size (x:ByteArray):x.size=x.data.toList.length:=by rw [Array.length_toList];rfl
end Go.Proofs.YtbopfhbeegkkaabGreatDoor
namespace Go.Proofs.YtbopfhbeegkkaabGreatDoor
open Go.RowKit
structure VerP where
 w:Int
 c:Int
 site:Int
 seq:Int
 data:ByteArray
 gone:Bool
def verCells (v:VerP):List Value:=[.int .i64 v.w,.int .i64 v.c,.int .i64 v.site,.int .i64 v.seq,.string v.data,.bool v.gone]
def verV (v:VerP):Value:=.agg #[.int .i64 v.w,.int .i64 v.c,.int .i64 v.site,.int .i64 v.seq,.string v.data,.bool v.gone]
def rightV (v:VerP):Bool:=rightS v.w v.c&&decide (0≤v.site)&&decide (v.site<4)&&decide (1≤v.seq)&&decide (v.seq≤1099511627776)&&decide (v.data.size≤12)&&(!v.gone||decide (v.data.size=0))
def cmpV (a b:VerP):Int:=if cmpS a.w a.c b.w b.c≠0 then cmpS a.w a.c b.w b.c else a.site-b.site
theorem rightS_isD {aw ac:Int} {b:Bool} (h:rightS aw ac=b) (w:World):Calls Tryz.prog 135 #[.agg #[.int .i64 aw,.int .i64 ac]] w fun e w'=>e=.returned (.bool b)∧Below w.heap.size w w':=by
 subst h;exact rightS_any aw ac w
set_option maxHeartbeats 2000000 in
theorem rightV_any (v:VerP) (w:World):Calls Tryz.prog 175 #[verV v] w fun e w'=>e=.returned (.bool (rightV v))∧Below w.heap.size w w':=by
 unfold verV
 rcases h0:rightS v.w v.c with _ | _
 ·have HS:=hidp fun w=>rightS_isD h0 w
  have HF:Hid (rightV v=false):=hidp (by simp [rightV,h0])
  clear h0
  go_enter Tryz.func175,Tryz.ntmps175
  go_wp2_with (go_at_call 135;refine (HS.out _).mono ?_;rintro e w' ⟨rfl,hb⟩;obtain ⟨x,rfl⟩:=wplus_of_below hb;clear hb)
  go_ret
  exact ⟨by rw [HF.out];rfl,zB⟩
 have HS:=hidp fun w=>rightS_isD h0 w
 by_cases h1:v.site<0
 ·have HF:Hid (rightV v=false):=hidp (by simp [rightV];omega)
  clear h0
  go_enter Tryz.func175,Tryz.ntmps175
  go_wp2_with (go_at_call 135;refine (HS.out _).mono ?_;rintro e w' ⟨rfl,hb⟩;obtain ⟨x,rfl⟩:=wplus_of_below hb;clear hb)
  go_ret
  exact ⟨by rw [HF.out];rfl,zB⟩
 by_cases h2:4≤v.site
 ·have HF:Hid (rightV v=false):=hidp (by simp [rightV];omega)
  clear h0
  go_enter Tryz.func175,Tryz.ntmps175
  go_wp2_with (go_at_call 135;refine (HS.out _).mono ?_;rintro e w' ⟨rfl,hb⟩;obtain ⟨x,rfl⟩:=wplus_of_below hb;clear hb)
  go_ret
  exact ⟨by rw [HF.out];rfl,zB⟩
 by_cases h3:v.seq<1
 ·have HF:Hid (rightV v=false):=hidp (by simp [rightV];omega)
  clear h0
  go_enter Tryz.func175,Tryz.ntmps175
  go_wp2_with (go_at_call 135;refine (HS.out _).mono ?_;rintro e w' ⟨rfl,hb⟩;obtain ⟨x,rfl⟩:=wplus_of_below hb;clear hb)
  go_ret
  exact ⟨by rw [HF.out];rfl,zB⟩
 by_cases h4:1099511627776<v.seq
 ·have HF:Hid (rightV v=false):=hidp (by simp [rightV];omega)
  clear h0
  go_enter Tryz.func175,Tryz.ntmps175
  go_wp2_with (go_at_call 135;refine (HS.out _).mono ?_;rintro e w' ⟨rfl,hb⟩;obtain ⟨x,rfl⟩:=wplus_of_below hb;clear hb)
  go_ret
  exact ⟨by rw [HF.out];rfl,zB⟩
 by_cases h5:12<v.data.size
 ·have HF:Hid (rightV v=false):=hidp (by simp [rightV];omega)
  clear h0
  go_enter Tryz.func175,Tryz.ntmps175
  go_wp2_with (go_at_call 135;refine (HS.out _).mono ?_;rintro e w' ⟨rfl,hb⟩;obtain ⟨x,rfl⟩:=wplus_of_below hb;clear hb)
  go_ret
  exact ⟨by rw [HF.out];rfl,zB⟩
 obtain ⟨vw,vc,site,seq,data,gone⟩:=v
 simp only at *
 cases gone
 ·have HF:Hid (rightV ⟨vw,vc,site,seq,data,false⟩=true):=hidp (by simp [rightV,h0];omega)
  clear h0
  go_enter Tryz.func175,Tryz.ntmps175
  go_wp2_with (go_at_call 135;refine (HS.out _).mono ?_;rintro e w' ⟨rfl,hb⟩;obtain ⟨x,rfl⟩:=wplus_of_below hb;clear hb)
  go_ret
  exact ⟨by rw [HF.out];rfl,zB⟩
 by_cases c4:data.toList=[]
 ·have hs:data.size=0:=by rw [ba_size,←ByteArray.toList_eq,c4];rfl
  have HF:Hid (rightV ⟨vw,vc,site,seq,data,true⟩=true):=hidp (by simp [rightV,h0,hs];omega)
  have c5:data.toList.isEmpty=true:=by rw [c4];rfl
  clear h0 hs
  go_enter Tryz.func175,Tryz.ntmps175
  go_wp2_with (go_at_call 135;refine (HS.out _).mono ?_;rintro e w' ⟨rfl,hb⟩;obtain ⟨x,rfl⟩:=wplus_of_below hb;clear hb)
  go_ret
  exact ⟨by rw [HF.out];rfl,zB⟩
 ·have hs:data.size≠0:=by rw [ba_size,←ByteArray.toList_eq];intro h;exact c4 (List.eq_nil_of_length_eq_zero h)
  have HF:Hid (rightV ⟨vw,vc,site,seq,data,true⟩=false):=hidp (by simp [rightV,hs])
  have c5:data.toList.isEmpty=false:=by simpa using c4
  clear h0 hs
  go_enter Tryz.func175,Tryz.ntmps175
  go_wp2_with (go_at_call 135;refine (HS.out _).mono ?_;rintro e w' ⟨rfl,hb⟩;obtain ⟨x,rfl⟩:=wplus_of_below hb;clear hb)
  go_ret
  exact ⟨by rw [HF.out];rfl,zB⟩
set_option maxHeartbeats 2000000 in
theorem cmpV_any (a b:VerP) (w:World) (ha:0≤a.site∧a.site<4) (hb:0≤b.site∧b.site<4):
  Calls Tryz.prog 177 #[verV a,verV b] w fun e w'=>e=.returned (.int .i64 (cmpV a b))∧Below w.heap.size w w':=by
 unfold verV
 have HC:=hidp fun w=>compare_any a.w a.c b.w b.c w
 by_cases h:cmpS a.w a.c b.w b.c=0
 ·have HF:Hid (cmpV a b=a.site-b.site):=hidp (by unfold cmpV;rw [if_neg (by simpa using h)])
  rw [h] at HC
  clear h
  obtain ⟨ha1,ha2⟩:=ha
  obtain ⟨hb1,hb2⟩:=hb
  go_enter Tryz.func177,Tryz.ntmps177
  go_wp2_with (go_at_call 114;refine (HC.out _).mono ?_;rintro e w' ⟨rfl,hb⟩;obtain ⟨x,rfl⟩:=wplus_of_below hb;clear hb)
  go_ret
  exact ⟨by rw [HF.out];rfl,zB⟩
 ·have HF:Hid (cmpV a b=cmpS a.w a.c b.w b.c):=hidp (by unfold cmpV;rw [if_pos h])
  have hne:(cmpS a.w a.c b.w b.c != 0)=true:=by simpa using h
  generalize cmpS a.w a.c b.w b.c=z at *
  go_enter Tryz.func177,Tryz.ntmps177
  go_wp2_with (go_at_call 114;refine (HC.out _).mono ?_;rintro e w' ⟨rfl,hb⟩;obtain ⟨x,rfl⟩:=wplus_of_below hb;clear hb)
  go_ret
  exact ⟨by rw [HF.out];rfl,zB⟩
theorem grownBy_trans' {a b c:World} {r s:Option Nat} (h:a.grownBy b r) (k:b.grownBy c s) (hs:s=r∨∀ j,s=some j→a.heap.size≤j):a.grownBy c r:=
 ⟨k.os.trans h.os,k.tape.trans h.tape,k.output.trans h.output,Nat.le_trans h.size k.size,fun i hi hne=>by
   have h1:=h.block i hi hne
   rw [←h1]
   refine k.block i (Nat.lt_of_lt_of_le hi h.size) (fun e=>?_)
   rcases hs with hs | hs
   ·exact hne (e.trans hs)
   ·have:=hs i e.symm;omega⟩
def WsAt (w:World) (A:Option Addr) (ws:List WrP):Prop:=∀ (i:Nat) (x:WrP),ws[i]?=some x→∃ b o,A=some ⟨b,o,none⟩∧b<w.heap.size∧w.cell? ⟨b,o+i*3,none⟩=some (.int .i64 x.key)∧w.cell? ⟨b,o+i*3+1,none⟩=some (.string x.data)∧w.cell? ⟨b,o+i*3+2,none⟩=some (.bool x.gone)
theorem WsAt.below {w w':World} {A:Option Addr} {ws:List WrP} (h:WsAt w A ws) (hb:Below w.heap.size w w'):WsAt w' A ws:=fun i x hx=>by
 obtain ⟨b,o,hA,hlt,h0,h1,h2⟩:=h i x hx
 refine ⟨b,o,hA,Nat.lt_of_lt_of_le hlt hb.size,?_,?_,?_⟩
 ·rw [hb.cell (p:=⟨b,o+i*3,none⟩) hlt];exact h0
 ·rw [hb.cell (p:=⟨b,o+i*3+1,none⟩) hlt];exact h1
 ·rw [hb.cell (p:=⟨b,o+i*3+2,none⟩) hlt];exact h2
set_option maxHeartbeats 1000000 in
theorem rightWs_any (A:Option Addr) (c:Nat) (ws:List WrP) (w:World) (hn:ws.length≤1000000) (hws:WsAt w A ws):
  Calls Tryz.prog 76 #[.slice A ws.length c] w fun e w'=>e=.returned (.bool (rightWs ws))∧Below w.heap.size w w':=by
 have HWS:=hidp hws
 clear hws
 go_enter Tryz.func76,Tryz.ntmps76
 go_wp2
 go_loopw [3,8] (fun l i wr=>∃ (k:Nat) (z:Int),k≤ws.length∧i=.int .i64 k∧l=.int .i64 z∧-1≤z∧Below w.heap.size w wr∧rwGo (-1) ws=rwGo z (ws.drop k)) (fun _ i _=>ws.length-(intOf i).toNat)
 case atStart=>exact ⟨0,-1,Nat.zero_le _,rfl,rfl,by omega,Below.refl _ _,rfl⟩
 case round=>
  obtain ⟨k,z,hk,rfl,rfl,hz,hbl,hrw⟩:=hrel
  obtain ⟨x,rfl⟩:=wplus_of_below hbl
  clear hbl
  have HRW:=hidp hrw
  clear hrw
  by_cases hlt:k<ws.length
  ·obtain ⟨b,o,rfl,hb,h0,h1,h2⟩:=HWS.out k ws[k] (List.getElem?_eq_getElem hlt)
   haveI:SzGe (b+1) w:=⟨hb⟩
   generalize hx:ws[k]=y at h0 h1 h2
   have HX:=hidp hx
   clear hx
   have hdrop:ws.drop k=y::ws.drop (k+1):=by rw [List.drop_eq_getElem_cons hlt,HX.out]
   have hbad:badW z y=true→rightWs ws=false:=fun h=>by
    rw [rightWs,HRW.out,hdrop];simp [rwGo,h]
   have hgood:badW z y=false→rwGo (-1) ws=rwGo y.key (ws.drop (k+1)):=fun h=>by
    rw [HRW.out,hdrop];simp [rwGo,h]
   have HB:=hidp hbad
   have HG:=hidp hgood
   clear hbad hgood hdrop
   by_cases c1:y.key≤z
   ·have HF:=hidp (HB.out (by simp [badW,c1]))
    go_wp2
    go_ret
    exact ⟨by rw [HF.out];rfl,zB⟩
   by_cases c2:8≤y.key
   ·have HF:=hidp (HB.out (by simp [badW,c2]))
    go_wp2
    go_ret
    exact ⟨by rw [HF.out];rfl,zB⟩
   by_cases c3:12<y.data.size
   ·have HF:=hidp (HB.out (by simp [badW,c3]))
    go_wp2
    go_ret
    exact ⟨by rw [HF.out];rfl,zB⟩
   obtain ⟨key,data,gone⟩:=y
   simp only at *
   cases gone
   ·have HF:=hidp (HG.out (by simp [badW];omega))
    go_wp2
    go_roundw
    case rel=>exact ⟨k+1,key,by omega,by go_num,rfl,by omega,zB,HF.out⟩
    case measure=>simp [intOf];omega
   ·by_cases c4:data.toList=[]
    ·have hs:data.size=0:=by rw [ba_size,←ByteArray.toList_eq,c4];rfl
     have HF:=hidp (HG.out (by simp [badW,hs];omega))
     clear hs
     go_wp2
     go_roundw
     case rel=>exact ⟨k+1,key,by omega,by go_num,rfl,by omega,zB,HF.out⟩
     case measure=>simp [intOf];omega
    ·have hs:data.size≠0:=by rw [ba_size,←ByteArray.toList_eq];intro h;exact c4 (List.eq_nil_of_length_eq_zero h)
     have HF:=hidp (HB.out (by simp [badW,hs]))
     clear hs
     have c4':(!data.toList.isEmpty)=true:=by simpa using c4
     go_wp2
     go_ret
     exact ⟨by rw [HF.out];rfl,zB⟩
  ·have hkk:k=ws.length:=by omega
   have hfin:rightWs ws=(decide (1≤ws.length)&&decide (ws.length≤5)):=by
    have h1:=HRW.out
    rw [hkk,List.drop_length] at h1
    rw [rightWs,h1];simp [rwGo]
   have HF:=hidp hfin
   clear hfin hkk HRW
   by_cases c1:1≤ws.length
   ·by_cases c2:ws.length≤5
    ·go_wp2
     go_ret
     exact ⟨by rw [HF.out];simp [c1,c2];try omega,zB⟩
    ·go_wp2
     go_ret
     exact ⟨by rw [HF.out];simp [c1,c2];try omega,zB⟩
   ·go_wp2
    go_ret
    exact ⟨by rw [HF.out];simp [c1],zB⟩
theorem size3 (w:World):(sizeOf 3).run Tryz.prog w=.ok 1 w:=by kernel_rfl
@[go_sem] theorem eqVec (w : World) (d : Nat) (a0 a1 a2 a3 b0 b1 b2 b3 : Int) :
   (Op.equalIn (d+2) 32 (.agg #[.int .i64 a0,.int .i64 a1,.int .i64 a2,.int .i64 a3]) (.agg #[.int .i64 b0,.int .i64 b1,.int .i64 b2,.int .i64 b3])).run Tryz.prog w=.ok (a0==b0&&a1==b1&&a2==b2&&a3==b3) w:=
  run_equalIn_four w d 32 3 .i64 _ _ _ _ _ _ _ _ Tryz.underlying32 size3 Tryz.underlying3
def rgtB (a0 a1 a2 a3:Int):Bool:=decide (0≤a0∧a0≤1099511627776)&&decide (0≤a1∧a1≤1099511627776)&&decide (0≤a2∧a2≤1099511627776)&&decide (0≤a3∧a3≤1099511627776)
@[go_sem] theorem ix0 (w : World) (a0 a1 a2 a3 : Int) : (Instr.index 32 (.agg #[.int .i64 a0, .int .i64 a1, .int .i64 a2, .int .i64 a3]) (.int .i64 0)).run Tryz.prog w = .ok (.int .i64 a0) w := by kernel_rfl
@[go_sem] theorem ix1 (w : World) (a0 a1 a2 a3 : Int) : (Instr.index 32 (.agg #[.int .i64 a0, .int .i64 a1, .int .i64 a2, .int .i64 a3]) (.int .i64 1)).run Tryz.prog w = .ok (.int .i64 a1) w := by kernel_rfl
@[go_sem] theorem ix2 (w : World) (a0 a1 a2 a3 : Int) : (Instr.index 32 (.agg #[.int .i64 a0, .int .i64 a1, .int .i64 a2, .int .i64 a3]) (.int .i64 2)).run Tryz.prog w = .ok (.int .i64 a2) w := by kernel_rfl
@[go_sem] theorem ix3 (w : World) (a0 a1 a2 a3 : Int) : (Instr.index 32 (.agg #[.int .i64 a0, .int .i64 a1, .int .i64 a2, .int .i64 a3]) (.int .i64 3)).run Tryz.prog w = .ok (.int .i64 a3) w := by kernel_rfl
set_option maxHeartbeats 2000000 in
theorem right_any (a0 a1 a2 a3:Int) (w:World):
  Calls Tryz.prog 77 #[.agg #[.int .i64 a0,.int .i64 a1,.int .i64 a2,.int .i64 a3]] w
   fun e w'=>e=.returned (.bool (rgtB a0 a1 a2 a3))∧Below w.heap.size w w':=by
 go_enter Tryz.func77,Tryz.ntmps77
 go_wp2
 refine wp_loop_rounds 5 ?_
 rw [rounds_succ]
 by_cases p0:a0<0
 ·go_wp2
  all_goals go_ret
  all_goals exact ⟨by simp [rgtB];omega,zB⟩
 by_cases q0:1099511627776<a0
 ·go_wp2
  all_goals go_ret
  all_goals exact ⟨by simp [rgtB];omega,zB⟩
 go_wp2
 rw [rounds_succ]
 by_cases p1:a1<0
 ·go_wp2
  all_goals go_ret
  all_goals exact ⟨by simp [rgtB];omega,zB⟩
 by_cases q1:1099511627776<a1
 ·go_wp2
  all_goals go_ret
  all_goals exact ⟨by simp [rgtB];omega,zB⟩
 go_wp2
 rw [rounds_succ]
 by_cases p2:a2<0
 ·go_wp2
  all_goals go_ret
  all_goals exact ⟨by simp [rgtB];omega,zB⟩
 by_cases q2:1099511627776<a2
 ·go_wp2
  all_goals go_ret
  all_goals exact ⟨by simp [rgtB];omega,zB⟩
 go_wp2
 rw [rounds_succ]
 by_cases p3:a3<0
 ·go_wp2
  all_goals go_ret
  all_goals exact ⟨by simp [rgtB];omega,zB⟩
 by_cases q3:1099511627776<a3
 ·go_wp2
  all_goals go_ret
  all_goals exact ⟨by simp [rgtB];omega,zB⟩
 go_wp2
 rw [rounds_succ]
 go_wp2
 go_ret
 exact ⟨by simp [rgtB];omega,zB⟩
set_option maxHeartbeats 2000000 in
theorem rRight_any (a0 a1 a2 a3:Int) (w:World):
  Calls Tryz.prog 72 #[.agg #[.int .i64 a0,.int .i64 a1,.int .i64 a2,.int .i64 a3]] w
   fun e w'=>e=.returned (.bool (rgtB a0 a1 a2 a3))∧Below w.heap.size w w':=by
 go_enter Tryz.func72,Tryz.ntmps72
 go_wp2
 refine wp_loop_rounds 5 ?_
 rw [rounds_succ]
 by_cases p0:a0<0
 ·go_wp2_with (go_at_call 96;refine (in_no _ _ _ _ (by omega)).mono ?_;rintro e w' ⟨rfl,rfl⟩)
  all_goals go_ret
  all_goals exact ⟨by simp [rgtB];omega,zB⟩
 by_cases q0:1099511627776<a0
 ·go_wp2_with (go_at_call 96;refine (in_no _ _ _ _ (by omega)).mono ?_;rintro e w' ⟨rfl,rfl⟩)
  all_goals go_ret
  all_goals exact ⟨by simp [rgtB];omega,zB⟩
 go_wp2_with (go_at_call 96;refine (in_yes _ _ _ _ (by omega) (by omega)).mono ?_;rintro e w' ⟨rfl,rfl⟩)
 rw [rounds_succ]
 by_cases p1:a1<0
 ·go_wp2_with (go_at_call 96;refine (in_no _ _ _ _ (by omega)).mono ?_;rintro e w' ⟨rfl,rfl⟩)
  all_goals go_ret
  all_goals exact ⟨by simp [rgtB];omega,zB⟩
 by_cases q1:1099511627776<a1
 ·go_wp2_with (go_at_call 96;refine (in_no _ _ _ _ (by omega)).mono ?_;rintro e w' ⟨rfl,rfl⟩)
  all_goals go_ret
  all_goals exact ⟨by simp [rgtB];omega,zB⟩
 go_wp2_with (go_at_call 96;refine (in_yes _ _ _ _ (by omega) (by omega)).mono ?_;rintro e w' ⟨rfl,rfl⟩)
 rw [rounds_succ]
 by_cases p2:a2<0
 ·go_wp2_with (go_at_call 96;refine (in_no _ _ _ _ (by omega)).mono ?_;rintro e w' ⟨rfl,rfl⟩)
  all_goals go_ret
  all_goals exact ⟨by simp [rgtB];omega,zB⟩
 by_cases q2:1099511627776<a2
 ·go_wp2_with (go_at_call 96;refine (in_no _ _ _ _ (by omega)).mono ?_;rintro e w' ⟨rfl,rfl⟩)
  all_goals go_ret
  all_goals exact ⟨by simp [rgtB];omega,zB⟩
 go_wp2_with (go_at_call 96;refine (in_yes _ _ _ _ (by omega) (by omega)).mono ?_;rintro e w' ⟨rfl,rfl⟩)
 rw [rounds_succ]
 by_cases p3:a3<0
 ·go_wp2_with (go_at_call 96;refine (in_no _ _ _ _ (by omega)).mono ?_;rintro e w' ⟨rfl,rfl⟩)
  all_goals go_ret
  all_goals exact ⟨by simp [rgtB];omega,zB⟩
 by_cases q3:1099511627776<a3
 ·go_wp2_with (go_at_call 96;refine (in_no _ _ _ _ (by omega)).mono ?_;rintro e w' ⟨rfl,rfl⟩)
  all_goals go_ret
  all_goals exact ⟨by simp [rgtB];omega,zB⟩
 go_wp2_with (go_at_call 96;refine (in_yes _ _ _ _ (by omega) (by omega)).mono ?_;rintro e w' ⟨rfl,rfl⟩)
 rw [rounds_succ]
 go_wp2
 go_ret
 exact ⟨by simp [rgtB];omega,zB⟩
end Go.Proofs.YtbopfhbeegkkaabGreatDoor
