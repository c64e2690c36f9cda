/- Part 23 of a proof: lemmas and contracts that other parts use. -/
import Derived.Test.YtbopfhbeegkkaabGreatDoorSe22
import Derived.Test.YtbopfhbeegkkaabGreatDoorSe19
import Derived.RegionTactic
import Derived.Lib.AppendZeros
import Derived.Test.YtbopfhbeegkkaabGreatDoorSe11
set_option linter.unusedVariables false
set_option linter.unusedSimpArgs false
set_option linter.constructorNameAsVariable false
namespace Go.Proofs.YtbopfhbeegkkaabGreatDoor
open Go.RowKit
theorem own_empty_at {w:World} {B g z:Nat} {t:TypeId} (h:w.heap[g]?=some (.cells #[] t)) (hB:B≤g):w.ownsRow B t z (.slice (some ⟨g,0,none⟩) 0 0) 0 []:=
 ⟨by simp,.inr ⟨g,0,#[],rfl,hB,h,Nat.le_refl _,Nat.zero_le _,by simp,by simp⟩⟩
theorem run_append_ws (w:World) (ty:TypeId) (g:Nat) (hg:w.heap[g]?=some (.cells #[] 83)) (A:Option Addr) (c:Nat) (ws:List WrP) (hws:WsAt w A ws) (h0:0<ws.length) (hn:ws.length≤1000):
  ∃ b c' w',(Builtin.append_ #[42,42] ty #[.slice (some ⟨g,0,none⟩) 0 0,.slice A ws.length c]).run Tryz.prog w=.ok (.slice (some ⟨b,0,none⟩) ws.length c') w'∧WsAt w' (some ⟨b,0,none⟩) ws∧w.grownBy w' (some g)∧(b=g∨b=w.heap.size)∧b<w'.heap.size:=by
 obtain ⟨i0,hi0,hz0,hz1,hz2⟩:=info115
 obtain ⟨sb,so,rfl,hsb,_⟩:=hws 0 ws[0] (List.getElem?_eq_getElem h0)
 have hc:∀ (j:Nat) (u:Value),(wrCells ws)[j]?=some u→w.cell? ((⟨sb,so,none⟩:Addr).add j)=some u:=by
  intro j u hu
  have e:(⟨sb,so,none⟩:Addr).add j=⟨sb,so+j,none⟩:=by unfold Addr.add;split <;> simp_all
  rw [e]
  exact ws_cells hws j u hu
 have hgl:=lt_blk hg
 obtain ⟨g1,cap,w',hrun,h2,h3,h4,h5⟩:=run_append_lies (P:=Tryz.prog) w 42 ty g 83 i0 (.agg #[.int .i64 0,.string ⟨#[]⟩,.bool false]) 3 32 Tryz.underlying42 hi0 hz0 hz1 hz2 rfl (by decide) (.slice (some ⟨g,0,none⟩) 0 0) 0 [] (own_empty_at hg (Nat.le_refl _)) ⟨sb,so,none⟩ ws.length c (wrCells ws) (wrCells_len ws) hc (wrCells_one ws) h0
  (by refine Nat.le_trans ?_ maxLen_ge;omega) (by omega) (by omega) _ rfl
 simp only [Nat.zero_add,List.nil_append] at hrun h2
 refine ⟨g1,cap,w',hrun,own_ws h2,h3,?_,h5⟩
 rcases h4 with e | e
 ·left;simp [Value.ownBlock] at e;exact e.symm
 ·exact .inr e
theorem wp_append_ws (w:World) {o:Oper} {a:Act} {K:Act→World→Prop} {Q:Exit→Act→World→Prop} (s x:Operand)
  (ho:o.op=.call { callee:=.builtin .append,args:=#[s,x],argTypes:=#[42,42] }) (g:Nat) (hs:a.eval s=.slice (some ⟨g,0,none⟩) 0 0) (hg:w.heap[g]?=some (.cells #[] 83)) (A:Option Addr) (c:Nat) (ws:List WrP) (hx:a.eval x=.slice A ws.length c)
  (hws:WsAt w A ws) (h0:0<ws.length) (hn:ws.length≤1000)
  (h:∀ b c' w',WsAt w' (some ⟨b,0,none⟩) ws→w.grownBy w' (some g)→(b=g∨b=w.heap.size)→b<w'.heap.size→K (a.put o.dst (.slice (some ⟨b,0,none⟩) ws.length c')) w'):
  Oper.wp Tryz.prog o a w K Q:=by
 obtain ⟨b,c',w',hrun,h2,h3,h4,h5⟩:=run_append_ws w o.type g hg A c ws hws h0 hn
 unfold Oper.wp execOp
 simp only [ho,resolve,invoke,builtin,Sem.run_bind,Sem.run_pure,Result.andThen_ok,List.map_toArray,List.map_cons,List.map_nil,hs,hx,hrun]
 exact h b c' w' h2 h3 h4 h5
theorem wpList_append_ws (w:World) {ops:Array Oper} {rest:List Oper} {o:Oper} {a:Act} {Q:Exit→Act→World→Prop} (hgd:o.guard=none) (s x:Operand)
  (ho:o.op=.call { callee:=.builtin .append,args:=#[s,x],argTypes:=#[42,42] }) (g:Nat) (hs:a.eval s=.slice (some ⟨g,0,none⟩) 0 0) (hg:w.heap[g]?=some (.cells #[] 83)) (A:Option Addr) (c:Nat) (ws:List WrP) (hx:a.eval x=.slice A ws.length c)
  (hws:WsAt w A ws) (h0:0<ws.length) (hn:ws.length≤1000)
  (h:∀ b c' w',WsAt w' (some ⟨b,0,none⟩) ws→w.grownBy w' (some g)→(b=g∨b=w.heap.size)→b<w'.heap.size→wpList Tryz.prog ops Q rest (a.put o.dst (.slice (some ⟨b,0,none⟩) ws.length c')) w'):
  wpList Tryz.prog ops Q (o::rest) a w:=
 wpList_plain hgd fun _ hK=>wp_append_ws w s x ho g hs hg A c ws hx hws h0 hn fun b c' w' h2 h3 h4 h5=>hK _ _ (h b c' w' h2 h3 h4 h5)
theorem step_append_ws (w:World) {ops:Array Oper} {o:Oper} {a:Act} {K:Act→World→Prop} {Q:Exit→Act→World→Prop} {E:Prop} (hgd:o.guard=none) (s x:Operand)
  (ho:o.op=.call { callee:=.builtin .append,args:=#[s,x],argTypes:=#[42,42] }) (g:Nat) (hs:a.eval s=.slice (some ⟨g,0,none⟩) 0 0) (hg:w.heap[g]?=some (.cells #[] 83)) (A:Option Addr) (c:Nat) (ws:List WrP) (hx:a.eval x=.slice A ws.length c)
  (hws:WsAt w A ws) (h0:0<ws.length) (hn:ws.length≤1000)
  (h:∀ b c' w',WsAt w' (some ⟨b,0,none⟩) ws→w.grownBy w' (some g)→(b=g∨b=w.heap.size)→b<w'.heap.size→K (a.put o.dst (.slice (some ⟨b,0,none⟩) ws.length c')) w'):
  if Region.wanted o (yielded ops a.tmps)=true then Oper.wp Tryz.prog o a w K Q else E:=by
 have hw:Region.wanted o (yielded ops a.tmps)=true:=by simp [Region.wanted,hgd]
 rw [if_pos hw]
 exact wp_append_ws w s x ho g hs hg A c ws hx hws h0 hn h
theorem step_append_ws_q (w:World) {ops:Array Oper} {o:Oper} {a:Act} {K:Act→World→Prop} {Q:Exit→Act→World→Prop} {E:Prop} (hgd:o.guard=none) (s x:Operand)
  (ho:o.op=.call { callee:=.builtin .append,args:=#[s,x],argTypes:=#[42,42] }) (g:Nat) (hs:a.eval s=.slice (some ⟨g,0,none⟩) 0 0) (hg:w.heap[g]?=some (.cells #[] 83)) (A:Option Addr) (c:Nat) (ws:List WrP) (hx:a.eval x=.slice A ws.length c)
  (hws:WsAt w A ws) (h0:0<ws.length) (hn:ws.length≤1000) (q:Nat) (Z:Obj) (hq:w.heap[q]?=some Z) (hne:q≠g)
  (h:∀ b c' w',WsAt w' (some ⟨b,0,none⟩) ws→w.grownBy w' (some g)→(b=g∨b=w.heap.size)→b<w'.heap.size→w'.heap[q]?=some Z→K (a.put o.dst (.slice (some ⟨b,0,none⟩) ws.length c')) w'):
  if Region.wanted o (yielded ops a.tmps)=true then Oper.wp Tryz.prog o a w K Q else E:=
 step_append_ws w hgd s x ho g hs hg A c ws hx hws h0 hn fun b c' w' h2 h3 h4 h5=>h b c' w' h2 h3 h4 h5 ((h3.block q (lt_blk hq) (by simp;exact hne)).trans hq)
theorem box_after {w2 w8:World} {b:Nat} {ws:List WrP} {o:Obj} (h:WsAt w8 (some ⟨b,0,none⟩) ws∧Below w2.heap.size w2 w8∧w2.heap.size≤b∧b<w8.heap.size):
  (w8.alloc o).heap[w8.heap.size]?=some o∧Below w2.heap.size w2 (w8.alloc o)∧WsAt (w8.alloc o) (some ⟨b,0,none⟩) ws∧w2.heap.size≤b∧b<(w8.alloc o).heap.size∧w2.heap.size≤w8.heap.size:=by
 obtain ⟨h1,h2,h3,h4⟩:=h
 have hb:Below w8.heap.size w8 (w8.alloc o):=blw_alloc (Below.refl _ _)
 exact ⟨blk_new rfl _,h2.trans (hb.mono h2.size),h1.below hb,h3,Nat.lt_of_lt_of_le h4 hb.size,h2.size⟩
theorem box_before {w2 w8:World} {b q:Nat} {ws:List WrP} {z0 z1 z2 z3 z4 z5 z6 z7 z8 u0 u1 u2 u3 u4 u5 u6 u7 u8:Value} (h:WsAt w8 (some ⟨b,0,none⟩) ws∧Below w2.heap.size w2 w8∧w2.heap.size≤b∧b<w8.heap.size)
  (hz:w8.heap[q]?=some (.cells #[z0,z1,z2,z3,z4,z5,z6,z7,z8] 44)) (hq:w2.heap.size≤q) (hn:b≠q):
  (put9 w8 q u0 u1 u2 u3 u4 u5 u6 u7 u8).heap[q]?=some (.cells #[u0,u1,u2,u3,u4,u5,u6,u7,u8] 44)∧Below w2.heap.size w2 (put9 w8 q u0 u1 u2 u3 u4 u5 u6 u7 u8)∧WsAt (put9 w8 q u0 u1 u2 u3 u4 u5 u6 u7 u8) (some ⟨b,0,none⟩) ws∧w2.heap.size≤b∧b<(put9 w8 q u0 u1 u2 u3 u4 u5 u6 u7 u8).heap.size∧w2.heap.size≤q:=by
 obtain ⟨h1,h2,h3,h4⟩:=h
 have hg:=put9_grown w8 q u0 u1 u2 u3 u4 u5 u6 u7 u8
 refine ⟨put9_blk hz,Below.grown h2 hg h2.size (fun j e=>by simp at e;omega),h1.keep (fun b' o e=>?_),h3,Nat.lt_of_lt_of_le h4 hg.size,hq⟩
 obtain ⟨rfl,_⟩:b=b'∧0=o:=by simpa using e
 exact hg.block b h4 (by simp;exact hn)
theorem rRightS_is {aw ac:Int} {b:Bool} (h:rightS aw ac=b) (w:World):Calls Tryz.prog 132 #[.agg #[.int .i64 aw,.int .i64 ac]] w fun e w'=>e=.returned (.bool b)∧Below w.heap.size w w':=by
 subst h;exact rRightS_any aw ac w
theorem rRight_is {a0 a1 a2 a3:Int} {b:Bool} (h:rgtB a0 a1 a2 a3=b) (w:World):Calls Tryz.prog 72 #[.agg #[.int .i64 a0,.int .i64 a1,.int .i64 a2,.int .i64 a3]] w fun e w'=>e=.returned (.bool b)∧Below w.heap.size w w':=by
 subst h;exact rRight_any a0 a1 a2 a3 w
set_option maxHeartbeats 4000000 in
theorem rrtx_1 (site:Int) (seq wall count d0 d1 d2 d3:Int) (A:Option Addr) (c:Nat) (ws:List WrP) (w:World) (hn:ws.length≤1000000) (hws:WsAt w A ws) (h1:¬(0≤site∧site≤3)):
  Calls Tryz.prog 86 #[.agg #[.int .i64 site,.int .i64 seq,.int .i64 wall,.int .i64 count,.int .i64 d0,.int .i64 d1,.int .i64 d2,.int .i64 d3,.slice A ws.length c]] w
   fun e w'=>e=.returned (.bool (rightTx ⟨site,seq,wall,count,d0,d1,d2,d3,ws⟩))∧Below w.heap.size w w':=by
 have HF:Hid (rightTx ⟨site,seq,wall,count,d0,d1,d2,d3,ws⟩=false):=hidp (by rw [rightTx,headTx_eq];simp;omega)
 clear hws
 have HI1:=hidp fun w=>in_is w (decide_eq_false h1)
 go_enter Tryz.func86,Tryz.ntmps86
 go_wp2
 refine wp_region_plus (by kernel_rfl) (by kernel_rfl) ?_
 repeat (first | go_big_quiet_skip | (go_big_quiet_want;go_big_quiet_op;first | go_big_quiet_on | (apply Exists.intro;refine ⟨fun _=>?_,?_⟩;(first | (go_at_call 96;with_reducible exact Calls.plus_same (HI1.out _)));go_big_quiet_on)))
 refine wpQuiet_nil ?_
 rintro _ ⟨x,rfl⟩
 go_wp2
 go_ret
 exact ⟨by rw [HF.out];rfl,zB⟩
set_option maxHeartbeats 4000000 in
theorem rrtx_2 (site:Int) (seq wall count d0 d1 d2 d3:Int) (A:Option Addr) (c:Nat) (ws:List WrP) (w:World) (hn:ws.length≤1000000) (hws:WsAt w A ws) (h1:0≤site∧site≤3) (h2:¬(1≤seq∧seq≤1099511627776)):
  Calls Tryz.prog 86 #[.agg #[.int .i64 site,.int .i64 seq,.int .i64 wall,.int .i64 count,.int .i64 d0,.int .i64 d1,.int .i64 d2,.int .i64 d3,.slice A ws.length c]] w
   fun e w'=>e=.returned (.bool (rightTx ⟨site,seq,wall,count,d0,d1,d2,d3,ws⟩))∧Below w.heap.size w w':=by
 have HF:Hid (rightTx ⟨site,seq,wall,count,d0,d1,d2,d3,ws⟩=false):=hidp (by rw [rightTx,headTx_eq];simp;omega)
 clear hws
 have HI1:=hidp fun w=>in_is w (decide_eq_true h1)
 have HI2:=hidp fun w=>in_is w (decide_eq_false h2)
 go_enter Tryz.func86,Tryz.ntmps86
 go_wp2
 refine wp_region_plus (by kernel_rfl) (by kernel_rfl) ?_
 repeat (first | go_big_quiet_skip | (go_big_quiet_want;go_big_quiet_op;first | go_big_quiet_on | (apply Exists.intro;refine ⟨fun _=>?_,?_⟩;(first | (go_at_call 96;with_reducible exact Calls.plus_same (HI1.out _)) | (go_at_call 96;with_reducible exact Calls.plus_same (HI2.out _)));go_big_quiet_on)))
 refine wpQuiet_nil ?_
 rintro _ ⟨x,rfl⟩
 go_wp2
 go_ret
 exact ⟨by rw [HF.out];rfl,zB⟩
set_option maxHeartbeats 4000000 in
theorem rrtx_3 (site:Int) (seq wall count d0 d1 d2 d3:Int) (A:Option Addr) (c:Nat) (ws:List WrP) (w:World) (hn:ws.length≤1000000) (hws:WsAt w A ws) (h1:0≤site∧site≤3) (h2:1≤seq∧seq≤1099511627776) (hs:rightS wall count=false):
  Calls Tryz.prog 86 #[.agg #[.int .i64 site,.int .i64 seq,.int .i64 wall,.int .i64 count,.int .i64 d0,.int .i64 d1,.int .i64 d2,.int .i64 d3,.slice A ws.length c]] w
   fun e w'=>e=.returned (.bool (rightTx ⟨site,seq,wall,count,d0,d1,d2,d3,ws⟩))∧Below w.heap.size w w':=by
 have HF:Hid (rightTx ⟨site,seq,wall,count,d0,d1,d2,d3,ws⟩=false):=hidp (by rw [rightTx,headTx_eq];simp [hs])
 clear hws
 have HI1:=hidp fun w=>in_is w (decide_eq_true h1)
 have HI2:=hidp fun w=>in_is w (decide_eq_true h2)
 have HS:=hidp (fun w=>rRightS_is hs w)
 go_enter Tryz.func86,Tryz.ntmps86
 go_wp2
 refine wp_region_plus (by kernel_rfl) (by kernel_rfl) ?_
 repeat (first | go_big_quiet_skip | (go_big_quiet_want;go_big_quiet_op;first | go_big_quiet_on | (apply Exists.intro;refine ⟨fun _=>?_,?_⟩;(first | (go_at_call 96;with_reducible exact Calls.plus_same (HI1.out _)) | (go_at_call 96;with_reducible exact Calls.plus_same (HI2.out _)) | (go_at_call 132;exact Calls.plus_of (HS.out _)));go_big_quiet_on)))
 refine wpQuiet_nil ?_
 rintro _ ⟨x,rfl⟩
 go_wp2
 go_ret
 exact ⟨by rw [HF.out];rfl,zB⟩
set_option maxHeartbeats 4000000 in
theorem rrtx_4 (site:Int) (seq wall count d0 d1 d2 d3:Int) (A:Option Addr) (c:Nat) (ws:List WrP) (w:World) (hn:ws.length≤1000000) (hws:WsAt w A ws) (h1:0≤site∧site≤3) (h2:1≤seq∧seq≤1099511627776) (hs:rightS wall count=true) (hr:rgtB d0 d1 d2 d3=false):
  Calls Tryz.prog 86 #[.agg #[.int .i64 site,.int .i64 seq,.int .i64 wall,.int .i64 count,.int .i64 d0,.int .i64 d1,.int .i64 d2,.int .i64 d3,.slice A ws.length c]] w
   fun e w'=>e=.returned (.bool (rightTx ⟨site,seq,wall,count,d0,d1,d2,d3,ws⟩))∧Below w.heap.size w w':=by
 have HF:Hid (rightTx ⟨site,seq,wall,count,d0,d1,d2,d3,ws⟩=false):=hidp (by rw [rightTx,headTx_eq];simp [hr])
 clear hws
 have HI1:=hidp fun w=>in_is w (decide_eq_true h1)
 have HI2:=hidp fun w=>in_is w (decide_eq_true h2)
 have HS:=hidp (fun w=>rRightS_is hs w)
 have HR:=hidp (fun w=>rRight_is hr w)
 go_enter Tryz.func86,Tryz.ntmps86
 go_wp2
 refine wp_region_plus (by kernel_rfl) (by kernel_rfl) ?_
 repeat (first | go_big_quiet_skip | (go_big_quiet_want;go_big_quiet_op;first | go_big_quiet_on | (apply Exists.intro;refine ⟨fun _=>?_,?_⟩;(first | (go_at_call 96;with_reducible exact Calls.plus_same (HI1.out _)) | (go_at_call 96;with_reducible exact Calls.plus_same (HI2.out _)) | (go_at_call 132;exact Calls.plus_of (HS.out _)) | (go_at_call 72;exact Calls.plus_of (HR.out _)));go_big_quiet_on)))
 refine wpQuiet_nil ?_
 rintro _ ⟨x,rfl⟩
 go_wp2
 go_ret
 exact ⟨by rw [HF.out];rfl,zB⟩
set_option maxHeartbeats 4000000 in
theorem rrtx_50 (seq wall count d0 d1 d2 d3:Int) (A:Option Addr) (c:Nat) (ws:List WrP) (w:World) (hn:ws.length≤1000000) (hws:WsAt w A ws) (h2:1≤seq∧seq≤1099511627776) (hs:rightS wall count=true) (hr:rgtB d0 d1 d2 d3=true) (hd:d0≠seq-1):
  Calls Tryz.prog 86 #[.agg #[.int .i64 0,.int .i64 seq,.int .i64 wall,.int .i64 count,.int .i64 d0,.int .i64 d1,.int .i64 d2,.int .i64 d3,.slice A ws.length c]] w
   fun e w'=>e=.returned (.bool (rightTx ⟨0,seq,wall,count,d0,d1,d2,d3,ws⟩))∧Below w.heap.size w w':=by
 have HF:Hid (rightTx ⟨0,seq,wall,count,d0,d1,d2,d3,ws⟩=false):=hidp (by rw [rightTx,headTx_eq];simp [depAt,hd])
 clear hws
 have HI1:=hidp fun w=>in_is (n:=0) (lo:=0) (hi:=3) (b:=true) w (by decide)
 have HI2:=hidp fun w=>in_is w (decide_eq_true h2)
 have HS:=hidp (fun w=>rRightS_is hs w)
 have HR:=hidp (fun w=>rRight_is hr w)
 have hd1:(d0==seq-1)=false:=by simpa using hd
 obtain ⟨h3,h4⟩:=h2
 go_enter Tryz.func86,Tryz.ntmps86
 go_wp2
 refine wp_region_plus (by kernel_rfl) (by kernel_rfl) ?_
 repeat (first | go_big_quiet_skip | (go_big_quiet_want;go_big_quiet_op;first | go_big_quiet_on | (apply Exists.intro;refine ⟨fun _=>?_,?_⟩;(first | (go_at_call 96;with_reducible exact Calls.plus_same (HI1.out _)) | (go_at_call 96;with_reducible exact Calls.plus_same (HI2.out _)) | (go_at_call 132;exact Calls.plus_of (HS.out _)) | (go_at_call 72;exact Calls.plus_of (HR.out _)));go_big_quiet_on)))
 refine wpQuiet_nil ?_
 rintro _ ⟨x,rfl⟩
 go_wp2
 go_ret
 exact ⟨by rw [HF.out];rfl,zB⟩
set_option maxHeartbeats 4000000 in
theorem rrtx_60 (seq wall count d0 d1 d2 d3:Int) (A:Option Addr) (c:Nat) (ws:List WrP) (w:World) (hn:ws.length≤1000000) (hws:WsAt w A ws) (h2:1≤seq∧seq≤1099511627776) (hs:rightS wall count=true) (hr:rgtB d0 d1 d2 d3=true) (hd:d0=seq-1):
  Calls Tryz.prog 86 #[.agg #[.int .i64 0,.int .i64 seq,.int .i64 wall,.int .i64 count,.int .i64 d0,.int .i64 d1,.int .i64 d2,.int .i64 d3,.slice A ws.length c]] w
   fun e w'=>e=.returned (.bool (rightTx ⟨0,seq,wall,count,d0,d1,d2,d3,ws⟩))∧Below w.heap.size w w':=by
 have HF:Hid (rightTx ⟨0,seq,wall,count,d0,d1,d2,d3,ws⟩=rightWs ws):=hidp (by rw [rightTx,headTx_eq];simp only [depAt];rw [hs,hr,decide_eq_true h2];simp [hd])
 have HW:=hidp hws
 clear hws
 have HI1:=hidp fun w=>in_is (n:=0) (lo:=0) (hi:=3) (b:=true) w (by decide)
 have HI2:=hidp fun w=>in_is w (decide_eq_true h2)
 have HS:=hidp (fun w=>rRightS_is hs w)
 have HR:=hidp (fun w=>rRight_is hr w)
 have hd1:(d0==seq-1)=true:=by simpa using hd
 obtain ⟨h3,h4⟩:=h2
 clear hd
 go_enter Tryz.func86,Tryz.ntmps86
 go_wp2
 refine wp_region_plus (by kernel_rfl) (by kernel_rfl) ?_
 repeat (first | go_big_quiet_skip | (go_big_quiet_want;go_big_quiet_op;first | go_big_quiet_on | (apply Exists.intro;refine ⟨fun _=>?_,?_⟩;(first | (go_at_call 96;with_reducible exact Calls.plus_same (HI1.out _)) | (go_at_call 96;with_reducible exact Calls.plus_same (HI2.out _)) | (go_at_call 132;exact Calls.plus_of (HS.out _)) | (go_at_call 72;exact Calls.plus_of (HR.out _)) | (go_at_call 71;exact Calls.plus_of (rRightWs_any A c ws _ hn (HW.out.below (by repeat (first | exact Below.refl _ _ | refine blw_alloc ?_ | refine blw_plus ?_ | refine Below.drew ?_))))));go_big_quiet_on)))
 refine wpQuiet_nil ?_
 rintro _ ⟨x,rfl⟩
 go_wp2
 go_ret
 exact ⟨by rw [HF.out];rfl,zB⟩
set_option maxHeartbeats 4000000 in
theorem rrtx_51 (seq wall count d0 d1 d2 d3:Int) (A:Option Addr) (c:Nat) (ws:List WrP) (w:World) (hn:ws.length≤1000000) (hws:WsAt w A ws) (h2:1≤seq∧seq≤1099511627776) (hs:rightS wall count=true) (hr:rgtB d0 d1 d2 d3=true) (hd:d1≠seq-1):
  Calls Tryz.prog 86 #[.agg #[.int .i64 1,.int .i64 seq,.int .i64 wall,.int .i64 count,.int .i64 d0,.int .i64 d1,.int .i64 d2,.int .i64 d3,.slice A ws.length c]] w
   fun e w'=>e=.returned (.bool (rightTx ⟨1,seq,wall,count,d0,d1,d2,d3,ws⟩))∧Below w.heap.size w w':=by
 have HF:Hid (rightTx ⟨1,seq,wall,count,d0,d1,d2,d3,ws⟩=false):=hidp (by rw [rightTx,headTx_eq];simp [depAt,hd])
 clear hws
 have HI1:=hidp fun w=>in_is (n:=1) (lo:=0) (hi:=3) (b:=true) w (by decide)
 have HI2:=hidp fun w=>in_is w (decide_eq_true h2)
 have HS:=hidp (fun w=>rRightS_is hs w)
 have HR:=hidp (fun w=>rRight_is hr w)
 have hd1:(d1==seq-1)=false:=by simpa using hd
 obtain ⟨h3,h4⟩:=h2
 go_enter Tryz.func86,Tryz.ntmps86
 go_wp2
 refine wp_region_plus (by kernel_rfl) (by kernel_rfl) ?_
 repeat (first | go_big_quiet_skip | (go_big_quiet_want;go_big_quiet_op;first | go_big_quiet_on | (apply Exists.intro;refine ⟨fun _=>?_,?_⟩;(first | (go_at_call 96;with_reducible exact Calls.plus_same (HI1.out _)) | (go_at_call 96;with_reducible exact Calls.plus_same (HI2.out _)) | (go_at_call 132;exact Calls.plus_of (HS.out _)) | (go_at_call 72;exact Calls.plus_of (HR.out _)));go_big_quiet_on)))
 refine wpQuiet_nil ?_
 rintro _ ⟨x,rfl⟩
 go_wp2
 go_ret
 exact ⟨by rw [HF.out];rfl,zB⟩
set_option maxHeartbeats 4000000 in
theorem rrtx_61 (seq wall count d0 d1 d2 d3:Int) (A:Option Addr) (c:Nat) (ws:List WrP) (w:World) (hn:ws.length≤1000000) (hws:WsAt w A ws) (h2:1≤seq∧seq≤1099511627776) (hs:rightS wall count=true) (hr:rgtB d0 d1 d2 d3=true) (hd:d1=seq-1):
  Calls Tryz.prog 86 #[.agg #[.int .i64 1,.int .i64 seq,.int .i64 wall,.int .i64 count,.int .i64 d0,.int .i64 d1,.int .i64 d2,.int .i64 d3,.slice A ws.length c]] w
   fun e w'=>e=.returned (.bool (rightTx ⟨1,seq,wall,count,d0,d1,d2,d3,ws⟩))∧Below w.heap.size w w':=by
 have HF:Hid (rightTx ⟨1,seq,wall,count,d0,d1,d2,d3,ws⟩=rightWs ws):=hidp (by rw [rightTx,headTx_eq];simp only [depAt];rw [hs,hr,decide_eq_true h2];simp [hd])
 have HW:=hidp hws
 clear hws
 have HI1:=hidp fun w=>in_is (n:=1) (lo:=0) (hi:=3) (b:=true) w (by decide)
 have HI2:=hidp fun w=>in_is w (decide_eq_true h2)
 have HS:=hidp (fun w=>rRightS_is hs w)
 have HR:=hidp (fun w=>rRight_is hr w)
 have hd1:(d1==seq-1)=true:=by simpa using hd
 obtain ⟨h3,h4⟩:=h2
 clear hd
 go_enter Tryz.func86,Tryz.ntmps86
 go_wp2
 refine wp_region_plus (by kernel_rfl) (by kernel_rfl) ?_
 repeat (first | go_big_quiet_skip | (go_big_quiet_want;go_big_quiet_op;first | go_big_quiet_on | (apply Exists.intro;refine ⟨fun _=>?_,?_⟩;(first | (go_at_call 96;with_reducible exact Calls.plus_same (HI1.out _)) | (go_at_call 96;with_reducible exact Calls.plus_same (HI2.out _)) | (go_at_call 132;exact Calls.plus_of (HS.out _)) | (go_at_call 72;exact Calls.plus_of (HR.out _)) | (go_at_call 71;exact Calls.plus_of (rRightWs_any A c ws _ hn (HW.out.below (by repeat (first | exact Below.refl _ _ | refine blw_alloc ?_ | refine blw_plus ?_ | refine Below.drew ?_))))));go_big_quiet_on)))
 refine wpQuiet_nil ?_
 rintro _ ⟨x,rfl⟩
 go_wp2
 go_ret
 exact ⟨by rw [HF.out];rfl,zB⟩
set_option maxHeartbeats 4000000 in
theorem rrtx_52 (seq wall count d0 d1 d2 d3:Int) (A:Option Addr) (c:Nat) (ws:List WrP) (w:World) (hn:ws.length≤1000000) (hws:WsAt w A ws) (h2:1≤seq∧seq≤1099511627776) (hs:rightS wall count=true) (hr:rgtB d0 d1 d2 d3=true) (hd:d2≠seq-1):
  Calls Tryz.prog 86 #[.agg #[.int .i64 2,.int .i64 seq,.int .i64 wall,.int .i64 count,.int .i64 d0,.int .i64 d1,.int .i64 d2,.int .i64 d3,.slice A ws.length c]] w
   fun e w'=>e=.returned (.bool (rightTx ⟨2,seq,wall,count,d0,d1,d2,d3,ws⟩))∧Below w.heap.size w w':=by
 have HF:Hid (rightTx ⟨2,seq,wall,count,d0,d1,d2,d3,ws⟩=false):=hidp (by rw [rightTx,headTx_eq];simp [depAt,hd])
 clear hws
 have HI1:=hidp fun w=>in_is (n:=2) (lo:=0) (hi:=3) (b:=true) w (by decide)
 have HI2:=hidp fun w=>in_is w (decide_eq_true h2)
 have HS:=hidp (fun w=>rRightS_is hs w)
 have HR:=hidp (fun w=>rRight_is hr w)
 have hd1:(d2==seq-1)=false:=by simpa using hd
 obtain ⟨h3,h4⟩:=h2
 go_enter Tryz.func86,Tryz.ntmps86
 go_wp2
 refine wp_region_plus (by kernel_rfl) (by kernel_rfl) ?_
 repeat (first | go_big_quiet_skip | (go_big_quiet_want;go_big_quiet_op;first | go_big_quiet_on | (apply Exists.intro;refine ⟨fun _=>?_,?_⟩;(first | (go_at_call 96;with_reducible exact Calls.plus_same (HI1.out _)) | (go_at_call 96;with_reducible exact Calls.plus_same (HI2.out _)) | (go_at_call 132;exact Calls.plus_of (HS.out _)) | (go_at_call 72;exact Calls.plus_of (HR.out _)));go_big_quiet_on)))
 refine wpQuiet_nil ?_
 rintro _ ⟨x,rfl⟩
 go_wp2
 go_ret
 exact ⟨by rw [HF.out];rfl,zB⟩
set_option maxHeartbeats 4000000 in
theorem rrtx_62 (seq wall count d0 d1 d2 d3:Int) (A:Option Addr) (c:Nat) (ws:List WrP) (w:World) (hn:ws.length≤1000000) (hws:WsAt w A ws) (h2:1≤seq∧seq≤1099511627776) (hs:rightS wall count=true) (hr:rgtB d0 d1 d2 d3=true) (hd:d2=seq-1):
  Calls Tryz.prog 86 #[.agg #[.int .i64 2,.int .i64 seq,.int .i64 wall,.int .i64 count,.int .i64 d0,.int .i64 d1,.int .i64 d2,.int .i64 d3,.slice A ws.length c]] w
   fun e w'=>e=.returned (.bool (rightTx ⟨2,seq,wall,count,d0,d1,d2,d3,ws⟩))∧Below w.heap.size w w':=by
 have HF:Hid (rightTx ⟨2,seq,wall,count,d0,d1,d2,d3,ws⟩=rightWs ws):=hidp (by rw [rightTx,headTx_eq];simp only [depAt];rw [hs,hr,decide_eq_true h2];simp [hd])
 have HW:=hidp hws
 clear hws
 have HI1:=hidp fun w=>in_is (n:=2) (lo:=0) (hi:=3) (b:=true) w (by decide)
 have HI2:=hidp fun w=>in_is w (decide_eq_true h2)
 have HS:=hidp (fun w=>rRightS_is hs w)
 have HR:=hidp (fun w=>rRight_is hr w)
 have hd1:(d2==seq-1)=true:=by simpa using hd
 obtain ⟨h3,h4⟩:=h2
 clear hd
 go_enter Tryz.func86,Tryz.ntmps86
 go_wp2
 refine wp_region_plus (by kernel_rfl) (by kernel_rfl) ?_
 repeat (first | go_big_quiet_skip | (go_big_quiet_want;go_big_quiet_op;first | go_big_quiet_on | (apply Exists.intro;refine ⟨fun _=>?_,?_⟩;(first | (go_at_call 96;with_reducible exact Calls.plus_same (HI1.out _)) | (go_at_call 96;with_reducible exact Calls.plus_same (HI2.out _)) | (go_at_call 132;exact Calls.plus_of (HS.out _)) | (go_at_call 72;exact Calls.plus_of (HR.out _)) | (go_at_call 71;exact Calls.plus_of (rRightWs_any A c ws _ hn (HW.out.below (by repeat (first | exact Below.refl _ _ | refine blw_alloc ?_ | refine blw_plus ?_ | refine Below.drew ?_))))));go_big_quiet_on)))
 refine wpQuiet_nil ?_
 rintro _ ⟨x,rfl⟩
 go_wp2
 go_ret
 exact ⟨by rw [HF.out];rfl,zB⟩
set_option maxHeartbeats 4000000 in
theorem rrtx_53 (seq wall count d0 d1 d2 d3:Int) (A:Option Addr) (c:Nat) (ws:List WrP) (w:World) (hn:ws.length≤1000000) (hws:WsAt w A ws) (h2:1≤seq∧seq≤1099511627776) (hs:rightS wall count=true) (hr:rgtB d0 d1 d2 d3=true) (hd:d3≠seq-1):
  Calls Tryz.prog 86 #[.agg #[.int .i64 3,.int .i64 seq,.int .i64 wall,.int .i64 count,.int .i64 d0,.int .i64 d1,.int .i64 d2,.int .i64 d3,.slice A ws.length c]] w
   fun e w'=>e=.returned (.bool (rightTx ⟨3,seq,wall,count,d0,d1,d2,d3,ws⟩))∧Below w.heap.size w w':=by
 have HF:Hid (rightTx ⟨3,seq,wall,count,d0,d1,d2,d3,ws⟩=false):=hidp (by rw [rightTx,headTx_eq];simp [depAt,hd])
 clear hws
 have HI1:=hidp fun w=>in_is (n:=3) (lo:=0) (hi:=3) (b:=true) w (by decide)
 have HI2:=hidp fun w=>in_is w (decide_eq_true h2)
 have HS:=hidp (fun w=>rRightS_is hs w)
 have HR:=hidp (fun w=>rRight_is hr w)
 have hd1:(d3==seq-1)=false:=by simpa using hd
 obtain ⟨h3,h4⟩:=h2
 go_enter Tryz.func86,Tryz.ntmps86
 go_wp2
 refine wp_region_plus (by kernel_rfl) (by kernel_rfl) ?_
 repeat (first | go_big_quiet_skip | (go_big_quiet_want;go_big_quiet_op;first | go_big_quiet_on | (apply Exists.intro;refine ⟨fun _=>?_,?_⟩;(first | (go_at_call 96;with_reducible exact Calls.plus_same (HI1.out _)) | (go_at_call 96;with_reducible exact Calls.plus_same (HI2.out _)) | (go_at_call 132;exact Calls.plus_of (HS.out _)) | (go_at_call 72;exact Calls.plus_of (HR.out _)));go_big_quiet_on)))
 refine wpQuiet_nil ?_
 rintro _ ⟨x,rfl⟩
 go_wp2
 go_ret
 exact ⟨by rw [HF.out];rfl,zB⟩
set_option maxHeartbeats 4000000 in
theorem rrtx_63 (seq wall count d0 d1 d2 d3:Int) (A:Option Addr) (c:Nat) (ws:List WrP) (w:World) (hn:ws.length≤1000000) (hws:WsAt w A ws) (h2:1≤seq∧seq≤1099511627776) (hs:rightS wall count=true) (hr:rgtB d0 d1 d2 d3=true) (hd:d3=seq-1):
  Calls Tryz.prog 86 #[.agg #[.int .i64 3,.int .i64 seq,.int .i64 wall,.int .i64 count,.int .i64 d0,.int .i64 d1,.int .i64 d2,.int .i64 d3,.slice A ws.length c]] w
   fun e w'=>e=.returned (.bool (rightTx ⟨3,seq,wall,count,d0,d1,d2,d3,ws⟩))∧Below w.heap.size w w':=by
 have HF:Hid (rightTx ⟨3,seq,wall,count,d0,d1,d2,d3,ws⟩=rightWs ws):=hidp (by rw [rightTx,headTx_eq];simp only [depAt];rw [hs,hr,decide_eq_true h2];simp [hd])
 have HW:=hidp hws
 clear hws
 have HI1:=hidp fun w=>in_is (n:=3) (lo:=0) (hi:=3) (b:=true) w (by decide)
 have HI2:=hidp fun w=>in_is w (decide_eq_true h2)
 have HS:=hidp (fun w=>rRightS_is hs w)
 have HR:=hidp (fun w=>rRight_is hr w)
 have hd1:(d3==seq-1)=true:=by simpa using hd
 obtain ⟨h3,h4⟩:=h2
 clear hd
 go_enter Tryz.func86,Tryz.ntmps86
 go_wp2
 refine wp_region_plus (by kernel_rfl) (by kernel_rfl) ?_
 repeat (first | go_big_quiet_skip | (go_big_quiet_want;go_big_quiet_op;first | go_big_quiet_on | (apply Exists.intro;refine ⟨fun _=>?_,?_⟩;(first | (go_at_call 96;with_reducible exact Calls.plus_same (HI1.out _)) | (go_at_call 96;with_reducible exact Calls.plus_same (HI2.out _)) | (go_at_call 132;exact Calls.plus_of (HS.out _)) | (go_at_call 72;exact Calls.plus_of (HR.out _)) | (go_at_call 71;exact Calls.plus_of (rRightWs_any A c ws _ hn (HW.out.below (by repeat (first | exact Below.refl _ _ | refine blw_alloc ?_ | refine blw_plus ?_ | refine Below.drew ?_))))));go_big_quiet_on)))
 refine wpQuiet_nil ?_
 rintro _ ⟨x,rfl⟩
 go_wp2
 go_ret
 exact ⟨by rw [HF.out];rfl,zB⟩
theorem rRightTx_any (site seq wall count d0 d1 d2 d3:Int) (A:Option Addr) (c:Nat) (ws:List WrP) (w:World) (hn:ws.length≤1000000) (hws:WsAt w A ws):
  Calls Tryz.prog 86 #[.agg #[.int .i64 site,.int .i64 seq,.int .i64 wall,.int .i64 count,.int .i64 d0,.int .i64 d1,.int .i64 d2,.int .i64 d3,.slice A ws.length c]] w
   fun e w'=>e=.returned (.bool (rightTx ⟨site,seq,wall,count,d0,d1,d2,d3,ws⟩))∧Below w.heap.size w w':=by
 by_cases h1:0≤site∧site≤3
 rotate_left
 ·exact rrtx_1 site seq wall count d0 d1 d2 d3 A c ws w hn hws h1
 by_cases h2:1≤seq∧seq≤1099511627776
 rotate_left
 ·exact rrtx_2 site seq wall count d0 d1 d2 d3 A c ws w hn hws h1 h2
 cases hs:rightS wall count
 ·exact rrtx_3 site seq wall count d0 d1 d2 d3 A c ws w hn hws h1 h2 hs
 cases hr:rgtB d0 d1 d2 d3
 ·exact rrtx_4 site seq wall count d0 d1 d2 d3 A c ws w hn hws h1 h2 hs hr
 have h5:site=0∨site=1∨site=2∨site=3:=by omega
 rcases h5 with rfl | rfl | rfl | rfl
 ·by_cases hd:d0=seq-1
  ·exact rrtx_60 seq wall count d0 d1 d2 d3 A c ws w hn hws h2 hs hr hd
  ·exact rrtx_50 seq wall count d0 d1 d2 d3 A c ws w hn hws h2 hs hr hd
 ·by_cases hd:d1=seq-1
  ·exact rrtx_61 seq wall count d0 d1 d2 d3 A c ws w hn hws h2 hs hr hd
  ·exact rrtx_51 seq wall count d0 d1 d2 d3 A c ws w hn hws h2 hs hr hd
 ·by_cases hd:d2=seq-1
  ·exact rrtx_62 seq wall count d0 d1 d2 d3 A c ws w hn hws h2 hs hr hd
  ·exact rrtx_52 seq wall count d0 d1 d2 d3 A c ws w hn hws h2 hs hr hd
 ·by_cases hd:d3=seq-1
  ·exact rrtx_63 seq wall count d0 d1 d2 d3 A c ws w hn hws h2 hs hr hd
  ·exact rrtx_53 seq wall count d0 d1 d2 d3 A c ws w hn hws h2 hs hr hd
theorem rRightTx_is {t:TxP} {b:Bool} (h:rightTx t=b) (A:Option Addr) (c:Nat) (w:World) (hn:t.ws.length≤1000000) (hws:WsAt w A t.ws):
  Calls Tryz.prog 86 #[.agg #[.int .i64 t.site,.int .i64 t.seq,.int .i64 t.wall,.int .i64 t.count,.int .i64 t.d0,.int .i64 t.d1,.int .i64 t.d2,.int .i64 t.d3,.slice A t.ws.length c]] w
   fun e w'=>e=.returned (.bool b)∧Below w.heap.size w w':=by
 subst h;exact rRightTx_any t.site t.seq t.wall t.count t.d0 t.d1 t.d2 t.d3 A c t.ws w hn hws
end Go.Proofs.YtbopfhbeegkkaabGreatDoor
