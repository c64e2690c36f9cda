/- Part 13 of a proof: lemmas and contracts that other parts use. -/
import Derived.Test.YtbopfhbeegkkaabGreatDoorWp12
import Derived.Test.YtbopfhbeegkkaabGreatDoorWp11
import Derived.RegionTactic
import Derived.Lib.AppendZeros
import Derived.Test.YtbopfhbeegkkaabGreatDoorWp7
import Derived.Deep.DeepCutAuto
set_option linter.unusedVariables false
set_option linter.unusedSimpArgs false
set_option maxHeartbeats 16000000
set_option maxRecDepth 20000
namespace Go.Proofs.YtbopfhbeegkkaabGreatDoor
open Go.RowKit Go.Proofs.Tryz
theorem zc8 {w:World}{B g z:Nat}{t:TypeId}(h:w.heap[g]?=some (.cells #[] t)) (hB:B≤g):w.ownsRow B t z (.slice (some ⟨g,0,none⟩) 0 0) 0 []:=
 ⟨zS,.inr ⟨g,0,#[],rfl,hB,h,yai _,yay _,zS,zS⟩⟩
theorem zhI (w:World) (ty:TypeId) (g:Nat) (hg:w.heap[g]?=some (.cells #[] 83)) (A:Option Addr) (c:Nat) (ws:List WrP) (hws:zaN w A ws) (h0:0<ws.length) (hn:ws.length≤1000):
  ∃ b c' w',(Builtin.append_ #[42,42] ty #[.slice (some ⟨g,0,none⟩) 0 0,.slice A ws.length c]).run prog w=.ok (.slice (some ⟨b,0,none⟩) ws.length c') w'∧zaN w' (some ⟨b,0,none⟩) ws∧w.grownBy w' (some g)∧(b=g∨b=w.heap.size)∧b<w'.heap.size:=by
 obtain⟨i0,hi0,hz0,hz1,hz2⟩:=info115;obtain⟨sb,so,rfl,hsb,_⟩:=hws 0 ws[0] (yaa h0);have hc:∀ (j:Nat) (u:Value),(za3 ws)[j]?=some u→w.cell? ((⟨sb,so,none⟩:Addr).add j)=some u:=by
  intro j u hu;have e:(⟨sb,so,none⟩:Addr).add j=⟨sb,so+j,none⟩:=by unfold Addr.add;split <;> simp_all
  rw[e];exact zhx hws j u hu
 have hgl:=zae hg;obtain⟨g1,cap,w',hrun,h2,h3,h4,h5⟩:=run_append_lies (P:=prog) w 42 ty g 83 i0 (.agg #[ii 0,.string ⟨#[]⟩,.bool false]) 3 32 underlying42 hi0 hz0 hz1 hz2 rfl zI (.slice (some ⟨g,0,none⟩) 0 0) 0 [] (zc8 hg (yai _)) ⟨sb,so,none⟩ ws.length c (za3 ws) (zfU ws) hc (zfT ws) h0
  (by refine yac ?_ maxLen_ge;omega) zO zO _ rfl
 simp only[yaZ,ybd]at hrun h2;refine⟨g1,cap,w',hrun,zkg h2,h3,?_,h5⟩;rcases h4 with e|e
 ·left;simp[Value.ownBlock]at e;exact e.symm
 ·exact .inr e
theorem zfl (w:World){o:Oper}{a:Act}{K:Act→World→Prop}{Q:Exit→Act→World→Prop}(s x:Operand)
  (ho:o.op=.call { callee:=.builtin .append,args:=#[s,x],argTypes:=#[42,42] }) (g:Nat) (hs:a.eval s=.slice (some ⟨g,0,none⟩) 0 0) (hg:w.heap[g]?=some (.cells #[] 83)) (A:Option Addr) (c:Nat) (ws:List WrP) (hx:a.eval x=.slice A ws.length c)
  (hws:zaN w A ws) (h0:0<ws.length) (hn:ws.length≤1000)
  (h:∀ b c' w',zaN w' (some ⟨b,0,none⟩) ws→w.grownBy w' (some g)→(b=g∨b=w.heap.size)→b<w'.heap.size→K (a.put o.dst (.slice (some ⟨b,0,none⟩) ws.length c')) w'):
  Oper.wp prog o a w K Q:=by
 obtain⟨b,c',w',hrun,h2,h3,h4,h5⟩:=zhI w o.type g hg A c ws hws h0 hn;unfold Oper.wp execOp;simp only[ho,resolve,invoke,builtin,ybJ,yb9,ybg,ybP,ybn,ybL,hs,hx,hrun];exact h b c' w' h2 h3 h4 h5
theorem zfx (w:World){ops:Array Oper}{rest:List Oper}{o:Oper}{a:Act}{Q:Exit→Act→World→Prop}(hgd:o.guard=none) (s x:Operand)
  (ho:o.op=.call { callee:=.builtin .append,args:=#[s,x],argTypes:=#[42,42] }) (g:Nat) (hs:a.eval s=.slice (some ⟨g,0,none⟩) 0 0) (hg:w.heap[g]?=some (.cells #[] 83)) (A:Option Addr) (c:Nat) (ws:List WrP) (hx:a.eval x=.slice A ws.length c)
  (hws:zaN w A ws) (h0:0<ws.length) (hn:ws.length≤1000)
  (h:∀ b c' w',zaN w' (some ⟨b,0,none⟩) ws→w.grownBy w' (some g)→(b=g∨b=w.heap.size)→b<w'.heap.size→wpList prog ops Q rest (a.put o.dst (.slice (some ⟨b,0,none⟩) ws.length c')) w'):
  wpList prog ops Q (o::rest) a w:=
 wpList_plain hgd fun _ hK=>zfl w s x ho g hs hg A c ws hx hws h0 hn fun b c' w' h2 h3 h4 h5=>hK _ _ (h b c' w' h2 h3 h4 h5)
theorem zec (w:World){ops:Array Oper}{o:Oper}{a:Act}{K:Act→World→Prop}{Q:Exit→Act→World→Prop}{E:Prop}(hgd:o.guard=none) (s x:Operand)
  (ho:o.op=.call { callee:=.builtin .append,args:=#[s,x],argTypes:=#[42,42] }) (g:Nat) (hs:a.eval s=.slice (some ⟨g,0,none⟩) 0 0) (hg:w.heap[g]?=some (.cells #[] 83)) (A:Option Addr) (c:Nat) (ws:List WrP) (hx:a.eval x=.slice A ws.length c)
  (hws:zaN w A ws) (h0:0<ws.length) (hn:ws.length≤1000)
  (h:∀ b c' w',zaN w' (some ⟨b,0,none⟩) ws→w.grownBy w' (some g)→(b=g∨b=w.heap.size)→b<w'.heap.size→K (a.put o.dst (.slice (some ⟨b,0,none⟩) ws.length c')) w'):
  if Region.wanted o (yielded ops a.tmps)=true then Oper.wp prog o a w K Q else E:=by
 have hw:Region.wanted o (yielded ops a.tmps)=true:=by simp[Region.wanted,hgd]
 rw[yaj hw];exact zfl w s x ho g hs hg A c ws hx hws h0 hn h
theorem zdC (w:World){ops:Array Oper}{o:Oper}{a:Act}{K:Act→World→Prop}{Q:Exit→Act→World→Prop}{E:Prop}(hgd:o.guard=none) (s x:Operand)
  (ho:o.op=.call { callee:=.builtin .append,args:=#[s,x],argTypes:=#[42,42] }) (g:Nat) (hs:a.eval s=.slice (some ⟨g,0,none⟩) 0 0) (hg:w.heap[g]?=some (.cells #[] 83)) (A:Option Addr) (c:Nat) (ws:List WrP) (hx:a.eval x=.slice A ws.length c)
  (hws:zaN w A ws) (h0:0<ws.length) (hn:ws.length≤1000) (q:Nat) (Z:Obj) (hq:w.heap[q]?=some Z) (hne:q≠g)
  (h:∀ b c' w',zaN w' (some ⟨b,0,none⟩) ws→w.grownBy w' (some g)→(b=g∨b=w.heap.size)→b<w'.heap.size→w'.heap[q]?=some Z→K (a.put o.dst (.slice (some ⟨b,0,none⟩) ws.length c')) w'):
  if Region.wanted o (yielded ops a.tmps)=true then Oper.wp prog o a w K Q else E:=
 zec w hgd s x ho g hs hg A c ws hx hws h0 hn fun b c' w' h2 h3 h4 h5=>h b c' w' h2 h3 h4 h5 ((h3.block q (zae hq) (by simp;exact hne)).trans hq)
theorem zm9 {w2 w8:World}{b:Nat}{ws:List WrP}{o:Obj}(h:zaN w8 (some ⟨b,0,none⟩) ws∧Below w2 w2 w8∧w2.heap.size≤b∧b<w8.heap.size):
  (w8.alloc o).heap[w8.heap.size]?=some o∧Below w2 w2 (w8.alloc o)∧zaN (w8.alloc o) (some ⟨b,0,none⟩) ws∧w2.heap.size≤b∧b<(w8.alloc o).heap.size∧w2.heap.size≤w8.heap.size:=by
 obtain⟨h1,h2,h3,h4⟩:=h;have hb:Below w8 w8 (w8.alloc o):=zal (yaf _ _);exact⟨zag rfl _,h2.trans (hb.mono h2.size),h1.below hb,h3,yab h4 hb.size,h2.size⟩
theorem zlv {w2 w8:World}{b q:Nat}{ws:List WrP}{z0 z1 z2 z3 z4 z5 z6 z7 z8 u0 u1 u2 u3 u4 u5 u6 u7 u8:Value}(h:zaN w8 (some ⟨b,0,none⟩) ws∧Below w2 w2 w8∧w2.heap.size≤b∧b<w8.heap.size)
  (hz:w8.heap[q]?=some (.cells #[z0,z1,z2,z3,z4,z5,z6,z7,z8] 44)) (hq:w2.heap.size≤q) (hn:b≠q):
  (zcx w8 q u0 u1 u2 u3 u4 u5 u6 u7 u8).heap[q]?=some (.cells #[u0,u1,u2,u3,u4,u5,u6,u7,u8] 44)∧Below w2 w2 (zcx w8 q u0 u1 u2 u3 u4 u5 u6 u7 u8)∧zaN (zcx w8 q u0 u1 u2 u3 u4 u5 u6 u7 u8) (some ⟨b,0,none⟩) ws∧w2.heap.size≤b∧b<(zcx w8 q u0 u1 u2 u3 u4 u5 u6 u7 u8).heap.size∧w2.heap.size≤q:=by
 obtain⟨h1,h2,h3,h4⟩:=h;have hg:=zd2 w8 q u0 u1 u2 u3 u4 u5 u6 u7 u8;refine⟨zc7 hz,yaE h2 hg h2.size (fun j e=>by simp at e;omega),h1.keep (fun b' o e=>?_),h3,yab h4 hg.size,hq⟩;obtain⟨rfl,_⟩:b=b'∧0=o:=by simpa using e
 exact hg.block b h4 (by simp;exact hn)
theorem zbS {aw ac:Int}{b:Bool}(h:zav aw ac=b) (w:World):Calls prog 132 #[.agg #[ii aw,ii ac]] w fun e w'=>e=.returned (.bool b)∧Below w w w':=by
 subst h;exact zb4 aw ac w
theorem zbO {a0 a1 a2 a3:Int}{b:Bool}(h:zcq a0 a1 a2 a3=b) (w:World):Calls prog 72 #[.agg #[ii a0,ii a1,ii a2,ii a3]] w fun e w'=>e=.returned (.bool b)∧Below w w w':=by
 subst h;exact zk8 a0 a1 a2 a3 w
theorem rrtx_1 (site:Int) (seq wall count d0 d1 d2 d3:Int) (A:Option Addr) (c:Nat) (ws:List WrP) (w:World) (hn:ws.length≤1000000) (hws:zaN w A ws) (h1:¬(0≤site∧site≤3)):
  Calls prog 86 #[.agg #[ii site,ii seq,ii wall,ii count,ii d0,ii d1,ii d2,ii d3,.slice A ws.length c]] w
   fun e w'=>e=.returned (.bool (zaf ⟨site,seq,wall,count,d0,d1,d2,d3,ws⟩))∧Below w w w':=by
 have HF:Hid (zaf ⟨site,seq,wall,count,d0,d1,d2,d3,ws⟩=false):=zac (by rw[zaf,zaL];simp;omega);clear hws;have HI1:=zac fun w=>zb7 w (yah h1)
 go_enter func86,ntmps86;go_wp2;refine zaz fun x=>?_
 go_wp2;go_ret;exact⟨by rw[HF.out];rfl,zB⟩
theorem rrtx_2 (site:Int) (seq wall count d0 d1 d2 d3:Int) (A:Option Addr) (c:Nat) (ws:List WrP) (w:World) (hn:ws.length≤1000000) (hws:zaN w A ws) (h1:0≤site∧site≤3) (h2:¬(1≤seq∧seq≤1099511627776)):
  Calls prog 86 #[.agg #[ii site,ii seq,ii wall,ii count,ii d0,ii d1,ii d2,ii d3,.slice A ws.length c]] w
   fun e w'=>e=.returned (.bool (zaf ⟨site,seq,wall,count,d0,d1,d2,d3,ws⟩))∧Below w w w':=by
 have HF:Hid (zaf ⟨site,seq,wall,count,d0,d1,d2,d3,ws⟩=false):=zac (by rw[zaf,zaL];simp;omega);clear hws;have HI1:=zac fun w=>zb7 w (yae h1)
 have HI2:=zac fun w=>zb7 w (yah h2)
 go_enter func86,ntmps86;go_wp2;refine zaz fun x=>?_
 go_wp2;go_ret;exact⟨by rw[HF.out];rfl,zB⟩
theorem rrtx_3 (site:Int) (seq wall count d0 d1 d2 d3:Int) (A:Option Addr) (c:Nat) (ws:List WrP) (w:World) (hn:ws.length≤1000000) (hws:zaN w A ws) (h1:0≤site∧site≤3) (h2:1≤seq∧seq≤1099511627776) (hs:zav wall count=false):
  Calls prog 86 #[.agg #[ii site,ii seq,ii wall,ii count,ii d0,ii d1,ii d2,ii d3,.slice A ws.length c]] w
   fun e w'=>e=.returned (.bool (zaf ⟨site,seq,wall,count,d0,d1,d2,d3,ws⟩))∧Below w w w':=by
 have HF:Hid (zaf ⟨site,seq,wall,count,d0,d1,d2,d3,ws⟩=false):=zac (by rw[zaf,zaL];simp[hs]);clear hws;have HI1:=zac fun w=>zb7 w (yae h1)
 have HI2:=zac fun w=>zb7 w (yae h2)
 have HS:=zac (fun w=>zbS hs w);go_enter func86,ntmps86;go_wp2;refine zaA zK zK ?_
 repeat(first|go_big_quiet_skip|(go_big_quiet_want;go_big_quiet_op;first|go_big_quiet_on|(apply Exists.intro;refine⟨fun _=>?_,?_⟩;(first|(go_at_call 96;with_reducible exact Calls.plus_same (HI1.out _))|(go_at_call 96;with_reducible exact Calls.plus_same (HI2.out _))|(go_at_call 132;exact Calls.plus_of (HS.out _)));go_big_quiet_on)))
 refine yaM ?_;rintro _ ⟨x,rfl⟩;go_wp2;go_ret;exact⟨by rw[HF.out];rfl,zB⟩
theorem rrtx_4 (site:Int) (seq wall count d0 d1 d2 d3:Int) (A:Option Addr) (c:Nat) (ws:List WrP) (w:World) (hn:ws.length≤1000000) (hws:zaN w A ws) (h1:0≤site∧site≤3) (h2:1≤seq∧seq≤1099511627776) (hs:zav wall count=true) (hr:zcq d0 d1 d2 d3=false):
  Calls prog 86 #[.agg #[ii site,ii seq,ii wall,ii count,ii d0,ii d1,ii d2,ii d3,.slice A ws.length c]] w
   fun e w'=>e=.returned (.bool (zaf ⟨site,seq,wall,count,d0,d1,d2,d3,ws⟩))∧Below w w w':=by
 have HF:Hid (zaf ⟨site,seq,wall,count,d0,d1,d2,d3,ws⟩=false):=zac (by rw[zaf,zaL];simp[hr]);clear hws;have HI1:=zac fun w=>zb7 w (yae h1)
 have HI2:=zac fun w=>zb7 w (yae h2)
 have HS:=zac (fun w=>zbS hs w);have HR:=zac (fun w=>zbO hr w);go_enter func86,ntmps86;go_wp2;refine zaA zK zK ?_
 repeat(first|go_big_quiet_skip|(go_big_quiet_want;go_big_quiet_op;first|go_big_quiet_on|(apply Exists.intro;refine⟨fun _=>?_,?_⟩;(first|(go_at_call 96;with_reducible exact Calls.plus_same (HI1.out _))|(go_at_call 96;with_reducible exact Calls.plus_same (HI2.out _))|(go_at_call 132;exact Calls.plus_of (HS.out _))|(go_at_call 72;exact Calls.plus_of (HR.out _)));go_big_quiet_on)))
 refine yaM ?_;rintro _ ⟨x,rfl⟩;go_wp2;go_ret;exact⟨by rw[HF.out];rfl,zB⟩
theorem rrtx_50 (seq wall count d0 d1 d2 d3:Int) (A:Option Addr) (c:Nat) (ws:List WrP) (w:World) (hn:ws.length≤1000000) (hws:zaN w A ws) (h2:1≤seq∧seq≤1099511627776) (hs:zav wall count=true) (hr:zcq d0 d1 d2 d3=true) (hd:d0≠seq-1):
  Calls prog 86 #[.agg #[ii 0,ii seq,ii wall,ii count,ii d0,ii d1,ii d2,ii d3,.slice A ws.length c]] w
   fun e w'=>e=.returned (.bool (zaf ⟨0,seq,wall,count,d0,d1,d2,d3,ws⟩))∧Below w w w':=by
 have HF:Hid (zaf ⟨0,seq,wall,count,d0,d1,d2,d3,ws⟩=false):=zac (by rw[zaf,zaL];simp[zdi,hd]);clear hws;have HI1:=zac fun w=>zb7 (n:=0) (lo:=0) (hi:=3) (b:=true) w zI
 have HI2:=zac fun w=>zb7 w (yae h2)
 have HS:=zac (fun w=>zbS hs w);have HR:=zac (fun w=>zbO hr w);have hd1:(d0==seq-1)=false:=by simpa using hd
 obtain⟨h3,h4⟩:=h2;go_enter func86,ntmps86;go_wp2;refine zaA zK zK ?_
 repeat(first|go_big_quiet_skip|(go_big_quiet_want;go_big_quiet_op;first|go_big_quiet_on|(apply Exists.intro;refine⟨fun _=>?_,?_⟩;(first|(go_at_call 96;with_reducible exact Calls.plus_same (HI1.out _))|(go_at_call 96;with_reducible exact Calls.plus_same (HI2.out _))|(go_at_call 132;exact Calls.plus_of (HS.out _))|(go_at_call 72;exact Calls.plus_of (HR.out _)));go_big_quiet_on)))
 refine yaM ?_;rintro _ ⟨x,rfl⟩;go_wp2;go_ret;exact⟨by rw[HF.out];rfl,zB⟩
theorem rrtx_60 (seq wall count d0 d1 d2 d3:Int) (A:Option Addr) (c:Nat) (ws:List WrP) (w:World) (hn:ws.length≤1000000) (hws:zaN w A ws) (h2:1≤seq∧seq≤1099511627776) (hs:zav wall count=true) (hr:zcq d0 d1 d2 d3=true) (hd:d0=seq-1):
  Calls prog 86 #[.agg #[ii 0,ii seq,ii wall,ii count,ii d0,ii d1,ii d2,ii d3,.slice A ws.length c]] w
   fun e w'=>e=.returned (.bool (zaf ⟨0,seq,wall,count,d0,d1,d2,d3,ws⟩))∧Below w w w':=by
 have HF:Hid (zaf ⟨0,seq,wall,count,d0,d1,d2,d3,ws⟩=zaX ws):=zac (by rw[zaf,zaL];simp only[zdi];rw[hs,hr,yae h2];simp[hd]);have HW:=zac hws;clear hws;have HI1:=zac fun w=>zb7 (n:=0) (lo:=0) (hi:=3) (b:=true) w zI
 have HI2:=zac fun w=>zb7 w (yae h2)
 have HS:=zac (fun w=>zbS hs w);have HR:=zac (fun w=>zbO hr w);have hd1:(d0==seq-1)=true:=by simpa using hd
 obtain⟨h3,h4⟩:=h2;clear hd;go_enter func86,ntmps86;go_wp2;refine zaA zK zK ?_
 repeat(first|go_big_quiet_skip|(go_big_quiet_want;go_big_quiet_op;first|go_big_quiet_on|(apply Exists.intro;refine⟨fun _=>?_,?_⟩;(first|(go_at_call 96;with_reducible exact Calls.plus_same (HI1.out _))|(go_at_call 96;with_reducible exact Calls.plus_same (HI2.out _))|(go_at_call 132;exact Calls.plus_of (HS.out _))|(go_at_call 72;exact Calls.plus_of (HR.out _))|(go_at_call 71;exact Calls.plus_of (zcE A c ws _ hn (HW.out.below zB))));go_big_quiet_on)))
 refine yaM ?_;rintro _ ⟨x,rfl⟩;go_wp2;go_ret;exact⟨by rw[HF.out];rfl,zB⟩
theorem rrtx_51 (seq wall count d0 d1 d2 d3:Int) (A:Option Addr) (c:Nat) (ws:List WrP) (w:World) (hn:ws.length≤1000000) (hws:zaN w A ws) (h2:1≤seq∧seq≤1099511627776) (hs:zav wall count=true) (hr:zcq d0 d1 d2 d3=true) (hd:d1≠seq-1):
  Calls prog 86 #[.agg #[ii 1,ii seq,ii wall,ii count,ii d0,ii d1,ii d2,ii d3,.slice A ws.length c]] w
   fun e w'=>e=.returned (.bool (zaf ⟨1,seq,wall,count,d0,d1,d2,d3,ws⟩))∧Below w w w':=by
 have HF:Hid (zaf ⟨1,seq,wall,count,d0,d1,d2,d3,ws⟩=false):=zac (by rw[zaf,zaL];simp[zdi,hd]);clear hws;have HI1:=zac fun w=>zb7 (n:=1) (lo:=0) (hi:=3) (b:=true) w zI
 have HI2:=zac fun w=>zb7 w (yae h2)
 have HS:=zac (fun w=>zbS hs w);have HR:=zac (fun w=>zbO hr w);have hd1:(d1==seq-1)=false:=by simpa using hd
 obtain⟨h3,h4⟩:=h2;go_enter func86,ntmps86;go_wp2;refine zaA zK zK ?_
 repeat(first|go_big_quiet_skip|(go_big_quiet_want;go_big_quiet_op;first|go_big_quiet_on|(apply Exists.intro;refine⟨fun _=>?_,?_⟩;(first|(go_at_call 96;with_reducible exact Calls.plus_same (HI1.out _))|(go_at_call 96;with_reducible exact Calls.plus_same (HI2.out _))|(go_at_call 132;exact Calls.plus_of (HS.out _))|(go_at_call 72;exact Calls.plus_of (HR.out _)));go_big_quiet_on)))
 refine yaM ?_;rintro _ ⟨x,rfl⟩;go_wp2;go_ret;exact⟨by rw[HF.out];rfl,zB⟩
theorem rrtx_61 (seq wall count d0 d1 d2 d3:Int) (A:Option Addr) (c:Nat) (ws:List WrP) (w:World) (hn:ws.length≤1000000) (hws:zaN w A ws) (h2:1≤seq∧seq≤1099511627776) (hs:zav wall count=true) (hr:zcq d0 d1 d2 d3=true) (hd:d1=seq-1):
  Calls prog 86 #[.agg #[ii 1,ii seq,ii wall,ii count,ii d0,ii d1,ii d2,ii d3,.slice A ws.length c]] w
   fun e w'=>e=.returned (.bool (zaf ⟨1,seq,wall,count,d0,d1,d2,d3,ws⟩))∧Below w w w':=by
 have HF:Hid (zaf ⟨1,seq,wall,count,d0,d1,d2,d3,ws⟩=zaX ws):=zac (by rw[zaf,zaL];simp only[zdi];rw[hs,hr,yae h2];simp[hd]);have HW:=zac hws;clear hws;have HI1:=zac fun w=>zb7 (n:=1) (lo:=0) (hi:=3) (b:=true) w zI
 have HI2:=zac fun w=>zb7 w (yae h2)
 have HS:=zac (fun w=>zbS hs w);have HR:=zac (fun w=>zbO hr w);have hd1:(d1==seq-1)=true:=by simpa using hd
 obtain⟨h3,h4⟩:=h2;clear hd;go_enter func86,ntmps86;go_wp2;refine zaA zK zK ?_
 repeat(first|go_big_quiet_skip|(go_big_quiet_want;go_big_quiet_op;first|go_big_quiet_on|(apply Exists.intro;refine⟨fun _=>?_,?_⟩;(first|(go_at_call 96;with_reducible exact Calls.plus_same (HI1.out _))|(go_at_call 96;with_reducible exact Calls.plus_same (HI2.out _))|(go_at_call 132;exact Calls.plus_of (HS.out _))|(go_at_call 72;exact Calls.plus_of (HR.out _))|(go_at_call 71;exact Calls.plus_of (zcE A c ws _ hn (HW.out.below zB))));go_big_quiet_on)))
 refine yaM ?_;rintro _ ⟨x,rfl⟩;go_wp2;go_ret;exact⟨by rw[HF.out];rfl,zB⟩
theorem rrtx_52 (seq wall count d0 d1 d2 d3:Int) (A:Option Addr) (c:Nat) (ws:List WrP) (w:World) (hn:ws.length≤1000000) (hws:zaN w A ws) (h2:1≤seq∧seq≤1099511627776) (hs:zav wall count=true) (hr:zcq d0 d1 d2 d3=true) (hd:d2≠seq-1):
  Calls prog 86 #[.agg #[ii 2,ii seq,ii wall,ii count,ii d0,ii d1,ii d2,ii d3,.slice A ws.length c]] w
   fun e w'=>e=.returned (.bool (zaf ⟨2,seq,wall,count,d0,d1,d2,d3,ws⟩))∧Below w w w':=by
 have HF:Hid (zaf ⟨2,seq,wall,count,d0,d1,d2,d3,ws⟩=false):=zac (by rw[zaf,zaL];simp[zdi,hd]);clear hws;have HI1:=zac fun w=>zb7 (n:=2) (lo:=0) (hi:=3) (b:=true) w zI
 have HI2:=zac fun w=>zb7 w (yae h2)
 have HS:=zac (fun w=>zbS hs w);have HR:=zac (fun w=>zbO hr w);have hd1:(d2==seq-1)=false:=by simpa using hd
 obtain⟨h3,h4⟩:=h2;go_enter func86,ntmps86;go_wp2;refine zaA zK zK ?_
 repeat(first|go_big_quiet_skip|(go_big_quiet_want;go_big_quiet_op;first|go_big_quiet_on|(apply Exists.intro;refine⟨fun _=>?_,?_⟩;(first|(go_at_call 96;with_reducible exact Calls.plus_same (HI1.out _))|(go_at_call 96;with_reducible exact Calls.plus_same (HI2.out _))|(go_at_call 132;exact Calls.plus_of (HS.out _))|(go_at_call 72;exact Calls.plus_of (HR.out _)));go_big_quiet_on)))
 refine yaM ?_;rintro _ ⟨x,rfl⟩;go_wp2;go_ret;exact⟨by rw[HF.out];rfl,zB⟩
theorem rrtx_62 (seq wall count d0 d1 d2 d3:Int) (A:Option Addr) (c:Nat) (ws:List WrP) (w:World) (hn:ws.length≤1000000) (hws:zaN w A ws) (h2:1≤seq∧seq≤1099511627776) (hs:zav wall count=true) (hr:zcq d0 d1 d2 d3=true) (hd:d2=seq-1):
  Calls prog 86 #[.agg #[ii 2,ii seq,ii wall,ii count,ii d0,ii d1,ii d2,ii d3,.slice A ws.length c]] w
   fun e w'=>e=.returned (.bool (zaf ⟨2,seq,wall,count,d0,d1,d2,d3,ws⟩))∧Below w w w':=by
 have HF:Hid (zaf ⟨2,seq,wall,count,d0,d1,d2,d3,ws⟩=zaX ws):=zac (by rw[zaf,zaL];simp only[zdi];rw[hs,hr,yae h2];simp[hd]);have HW:=zac hws;clear hws;have HI1:=zac fun w=>zb7 (n:=2) (lo:=0) (hi:=3) (b:=true) w zI
 have HI2:=zac fun w=>zb7 w (yae h2)
 have HS:=zac (fun w=>zbS hs w);have HR:=zac (fun w=>zbO hr w);have hd1:(d2==seq-1)=true:=by simpa using hd
 obtain⟨h3,h4⟩:=h2;clear hd;go_enter func86,ntmps86;go_wp2;refine zaA zK zK ?_
 repeat(first|go_big_quiet_skip|(go_big_quiet_want;go_big_quiet_op;first|go_big_quiet_on|(apply Exists.intro;refine⟨fun _=>?_,?_⟩;(first|(go_at_call 96;with_reducible exact Calls.plus_same (HI1.out _))|(go_at_call 96;with_reducible exact Calls.plus_same (HI2.out _))|(go_at_call 132;exact Calls.plus_of (HS.out _))|(go_at_call 72;exact Calls.plus_of (HR.out _))|(go_at_call 71;exact Calls.plus_of (zcE A c ws _ hn (HW.out.below zB))));go_big_quiet_on)))
 refine yaM ?_;rintro _ ⟨x,rfl⟩;go_wp2;go_ret;exact⟨by rw[HF.out];rfl,zB⟩
theorem rrtx_53 (seq wall count d0 d1 d2 d3:Int) (A:Option Addr) (c:Nat) (ws:List WrP) (w:World) (hn:ws.length≤1000000) (hws:zaN w A ws) (h2:1≤seq∧seq≤1099511627776) (hs:zav wall count=true) (hr:zcq d0 d1 d2 d3=true) (hd:d3≠seq-1):
  Calls prog 86 #[.agg #[ii 3,ii seq,ii wall,ii count,ii d0,ii d1,ii d2,ii d3,.slice A ws.length c]] w
   fun e w'=>e=.returned (.bool (zaf ⟨3,seq,wall,count,d0,d1,d2,d3,ws⟩))∧Below w w w':=by
 have HF:Hid (zaf ⟨3,seq,wall,count,d0,d1,d2,d3,ws⟩=false):=zac (by rw[zaf,zaL];simp[zdi,hd]);clear hws;have HI1:=zac fun w=>zb7 (n:=3) (lo:=0) (hi:=3) (b:=true) w zI
 have HI2:=zac fun w=>zb7 w (yae h2)
 have HS:=zac (fun w=>zbS hs w);have HR:=zac (fun w=>zbO hr w);have hd1:(d3==seq-1)=false:=by simpa using hd
 obtain⟨h3,h4⟩:=h2;go_enter func86,ntmps86;go_wp2;refine zaA zK zK ?_
 repeat(first|go_big_quiet_skip|(go_big_quiet_want;go_big_quiet_op;first|go_big_quiet_on|(apply Exists.intro;refine⟨fun _=>?_,?_⟩;(first|(go_at_call 96;with_reducible exact Calls.plus_same (HI1.out _))|(go_at_call 96;with_reducible exact Calls.plus_same (HI2.out _))|(go_at_call 132;exact Calls.plus_of (HS.out _))|(go_at_call 72;exact Calls.plus_of (HR.out _)));go_big_quiet_on)))
 refine yaM ?_;rintro _ ⟨x,rfl⟩;go_wp2;go_ret;exact⟨by rw[HF.out];rfl,zB⟩
theorem rrtx_63 (seq wall count d0 d1 d2 d3:Int) (A:Option Addr) (c:Nat) (ws:List WrP) (w:World) (hn:ws.length≤1000000) (hws:zaN w A ws) (h2:1≤seq∧seq≤1099511627776) (hs:zav wall count=true) (hr:zcq d0 d1 d2 d3=true) (hd:d3=seq-1):
  Calls prog 86 #[.agg #[ii 3,ii seq,ii wall,ii count,ii d0,ii d1,ii d2,ii d3,.slice A ws.length c]] w
   fun e w'=>e=.returned (.bool (zaf ⟨3,seq,wall,count,d0,d1,d2,d3,ws⟩))∧Below w w w':=by
 have HF:Hid (zaf ⟨3,seq,wall,count,d0,d1,d2,d3,ws⟩=zaX ws):=zac (by rw[zaf,zaL];simp only[zdi];rw[hs,hr,yae h2];simp[hd]);have HW:=zac hws;clear hws;have HI1:=zac fun w=>zb7 (n:=3) (lo:=0) (hi:=3) (b:=true) w zI
 have HI2:=zac fun w=>zb7 w (yae h2)
 have HS:=zac (fun w=>zbS hs w);have HR:=zac (fun w=>zbO hr w);have hd1:(d3==seq-1)=true:=by simpa using hd
 obtain⟨h3,h4⟩:=h2;clear hd;go_enter func86,ntmps86;go_wp2;refine zaA zK zK ?_
 repeat(first|go_big_quiet_skip|(go_big_quiet_want;go_big_quiet_op;first|go_big_quiet_on|(apply Exists.intro;refine⟨fun _=>?_,?_⟩;(first|(go_at_call 96;with_reducible exact Calls.plus_same (HI1.out _))|(go_at_call 96;with_reducible exact Calls.plus_same (HI2.out _))|(go_at_call 132;exact Calls.plus_of (HS.out _))|(go_at_call 72;exact Calls.plus_of (HR.out _))|(go_at_call 71;exact Calls.plus_of (zcE A c ws _ hn (HW.out.below zB))));go_big_quiet_on)))
 refine yaM ?_;rintro _ ⟨x,rfl⟩;go_wp2;go_ret;exact⟨by rw[HF.out];rfl,zB⟩
theorem ziE (site seq wall count d0 d1 d2 d3:Int) (A:Option Addr) (c:Nat) (ws:List WrP) (w:World) (hn:ws.length≤1000000) (hws:zaN w A ws):
  Calls prog 86 #[.agg #[ii site,ii seq,ii wall,ii count,ii d0,ii d1,ii d2,ii d3,.slice A ws.length c]] w
   fun e w'=>e=.returned (.bool (zaf ⟨site,seq,wall,count,d0,d1,d2,d3,ws⟩))∧Below w w w':=by
 by_cases h1:0≤site∧site≤3
 rotate_left
 ·exact rrtx_1 site seq wall count d0 d1 d2 d3 A c ws w hn hws h1
 by_cases h2:1≤seq∧seq≤1099511627776
 rotate_left
 ·exact rrtx_2 site seq wall count d0 d1 d2 d3 A c ws w hn hws h1 h2
 cases hs:zav wall count
 ·exact rrtx_3 site seq wall count d0 d1 d2 d3 A c ws w hn hws h1 h2 hs
 cases hr:zcq d0 d1 d2 d3
 ·exact rrtx_4 site seq wall count d0 d1 d2 d3 A c ws w hn hws h1 h2 hs hr
 have h5:site=0∨site=1∨site=2∨site=3:=by omega
 rcases h5 with rfl|rfl|rfl|rfl
 ·by_cases hd:d0=seq-1
  ·exact rrtx_60 seq wall count d0 d1 d2 d3 A c ws w hn hws h2 hs hr hd
  ·exact rrtx_50 seq wall count d0 d1 d2 d3 A c ws w hn hws h2 hs hr hd
 ·by_cases hd:d1=seq-1
  ·exact rrtx_61 seq wall count d0 d1 d2 d3 A c ws w hn hws h2 hs hr hd
  ·exact rrtx_51 seq wall count d0 d1 d2 d3 A c ws w hn hws h2 hs hr hd
 ·by_cases hd:d2=seq-1
  ·exact rrtx_62 seq wall count d0 d1 d2 d3 A c ws w hn hws h2 hs hr hd
  ·exact rrtx_52 seq wall count d0 d1 d2 d3 A c ws w hn hws h2 hs hr hd
 ·by_cases hd:d3=seq-1
  ·exact rrtx_63 seq wall count d0 d1 d2 d3 A c ws w hn hws h2 hs hr hd
  ·exact rrtx_53 seq wall count d0 d1 d2 d3 A c ws w hn hws h2 hs hr hd
theorem zf9 {t:TxP}{b:Bool}(h:zaf t=b) (A:Option Addr) (c:Nat) (w:World) (hn:t.ws.length≤1000000) (hws:zaN w A t.ws):
  Calls prog 86 #[.agg #[ii t.site,ii t.seq,ii t.wall,ii t.count,ii t.d0,ii t.d1,ii t.d2,ii t.d3,.slice A t.ws.length c]] w
   fun e w'=>e=.returned (.bool b)∧Below w w w':=by
 subst h;exact ziE t.site t.seq t.wall t.count t.d0 t.d1 t.d2 t.d3 A c t.ws w hn hws
theorem rnext_is (aw ac now:Int) (w:World):Calls prog 74 #[.agg #[ii aw,ii ac],now] w fun e w'=>
  e=.returned (.tuple #[if zbP aw ac now=0 then .agg #[ii (ze9 aw now),ii (zfa aw ac now)]else .agg #[ii 0,ii 0],ii (zbP aw ac now)])∧Below w w w':=by
 by_cases hr:zav aw ac=true
 ·have hb:=zf3 hr
  by_cases h0:now<0
  ·have e:zbP aw ac now=2:=by unfold zbP;rw[yaj (.inr (.inl h0))]
   rw[e,yad zI];exact rnext_r2 aw ac now w hr h0
  ·by_cases h1:1099511627776<now
   ·have e:zbP aw ac now=2:=by unfold zbP;rw[yaj (.inr (.inr h1))]
    rw[e,yad zI];exact rnext_r3 aw ac now w hr zO h1
   ·have hno:¬(zav aw ac=false∨now<0∨1099511627776<now):=by rw[hr];simp;omega
    by_cases h:aw<now
    ·have e:zbP aw ac now=0:=by unfold zbP;rw[yad hno,yaj h]
     rw[e,yaj rfl];unfold ze9 zfa;rw[yaj h,yaj h];exact zmi aw ac now w hr zO zO h
    ·by_cases hf:ac=1099511627776
     ·have e:zbP aw ac now=12:=by unfold zbP;rw[yad hno,yad h,yaj hf]
      rw[e,yad zI];exact zkV aw ac now w hr zO zO zO zO hb.2
     ·have e:zbP aw ac now=0:=by unfold zbP;rw[yad hno,yad h,yad hf]
      rw[e,yaj rfl];unfold ze9 zfa;rw[yad h,yad h];exact zmj aw ac now w hr zO zO zO zO hb.2
 ·have hr:zav aw ac=false:=by simpa using hr
  have e:zbP aw ac now=2:=by unfold zbP;rw[yaj (.inl hr)]
  rw[e,yad zI];exact rnext_r1 aw ac now w hr
def zgI (B y:Nat) (s:RsP) (lv:Value) (wA:Option Addr) (wc:Nat) (av:Value) (n:Int) (T:TxP) (w:World) (e:Ending) (w':World):Prop:=
 (n≠0→e=.returned (.tuple #[txZero,n])∧Below w w w')∧
 (n=0→∃ b c' lv' av',e=.returned (.tuple #[MTx.val ⟨T,some ⟨b,0,none⟩,c'⟩,ii 0])∧zcp w' B y (zbE s ⟨T,some ⟨b,0,none⟩,c'⟩) lv' wA wc av'∧zaO w w' (za2 y lv av) (za2 y lv' av')∧w.heap.size≤b∧b<w'.heap.size∧zaN w' (some ⟨b,0,none⟩) T.ws)
theorem zf8 {ws:List WrP}{b:Bool}(h:zaX ws=b) (A:Option Addr) (c:Nat) (w:World) (hn:ws.length≤1000000) (hws:zaN w A ws):Calls prog 71 #[.slice A ws.length c] w fun e w'=>e=.returned (.bool b)∧Below w w w':=by
 subst h;exact zcE A c ws w hn hws
theorem zcn {a0 a1 a2 a3 b0 b1 b2 b3:Int}{b:Bool}(h:zdp a0 a1 a2 a3 b0 b1 b2 b3=b) (w:World):
  Calls prog 73 #[.agg #[ii a0,ii a1,ii a2,ii a3],.agg #[ii b0,ii b1,ii b2,ii b3]] w fun e w'=>e=.returned (.bool b)∧Below w w w':=by
 subst h;exact zjw a0 a1 a2 a3 b0 b1 b2 b3 w
theorem zjx (B y wc:Nat) (s:RsP) (lv av:Value) (wA:Option Addr) (now d0 d1 d2 d3:Int) (A:Option Addr) (c:Nat) (ws:List WrP) (w:World) (h:zcp w B y s lv wA wc av)
  (hid:0≤s.id∧s.id<4) (hap:∀ a:Int,0≤s.at a∧s.at a≤1099511627776) (hN:s.L.length≤800000) (hws:zaN w A ws) (hn:ws.length≤1000000):
  Calls prog 14 #[.pointer (some ⟨y,0,none⟩),now,.agg #[ii d0,ii d1,ii d2,ii d3],.slice A ws.length c] w
   (zgI B y s lv wA wc av (za5 s.r now d0 d1 d2 d3 ws) (za9 s.r now d0 d1 d2 d3 ws) w):=by
 have HDN:Hid (∀ (n:Int) (w':World),n≠0→za5 s.r now d0 d1 d2 d3 ws=n→Below w w w'→zgI B y s lv wA wc av (za5 s.r now d0 d1 d2 d3 ws) (za9 s.r now d0 d1 d2 d3 ws) w (.returned (.tuple #[txZero,n])) w'):=zac (fun n w' h1 h2 h3=>⟨fun _=>⟨by rw[h2],h3⟩,fun e=>absurd (h2 ▸ e) h1⟩);have HCE:Hid (za5 s.r now d0 d1 d2 d3 ws=if zaX ws=false then 1 else if zcq d0 d1 d2 d3=false∨zdp s.p0 s.p1 s.p2 s.p3 d0 d1 d2 d3=false then 10 else if 200≤s.log.length then 12 else zbP s.lw s.lc now):=zac (by
  have e:s.r.log.length=s.log.length:=by simp[RsP.r]
  unfold za5;rw[e];rfl)
 have HS:=zac h;have HWS:=zac hws;have HN:=zac hn;have HNL:=zac hN;obtain⟨Al,cl,hlv⟩:=zaP h.row;have c7:=h.c7;rw[hlv]at c7;have HLV:=zac hlv;obtain⟨c1,c2,c3,c4⟩:=h.vec;have c5:=h.c5;have c6:=h.c6;have c0:=h.c0;haveI:zaj (y+1) w:=⟨h.sto.lt⟩;clear h hlv;obtain⟨k,hk⟩:=yar hid.1;have hk4:(k:Int)<4:=by omega
 have hk0:(0:Int)≤(k:Int):=by omega
 rw[hk]at c0;obtain⟨ap,hape⟩:∃ ap,s.at (k:Int)=ap:=⟨_,rfl⟩;have hap2:=hap (k:Int);rw[hape]at hap2;obtain⟨hap0,hap1⟩:=hap2;have hwr:IntKind.i64.wrap (ap+1)=ap+1:=by rw[ybm];omega
 have HK:=zac hk;have HAP:=zac hape;clear hid hap hk hape;cases hrw:zaX ws
 ·have HRW:=zac fun W (hB:Below w w W)=>zf8 hrw A c W hn (HWS.out.below hB)
  have HE:Hid (za5 s.r now d0 d1 d2 d3 ws=1):=zac (by rw[HCE.out,yaj hrw]);clear hrw hws;go_enter func14,ntmps14;go_wp2_with fail;go_at_call 71;refine(HRW.out _ zB).mono ?_;rintro e w' ⟨rfl,hb⟩;obtain⟨x1,rfl⟩:=zad hb;clear hb;go_wp2_with fail;refine yag (v:=.tuple #[txZero,ii 1]) ?_ rfl (HDN.out 1 _ zI HE.out zB);simp[results,results14,go_sem,txZero]
 have HRW:=zac fun W (hB:Below w w W)=>zf8 hrw A c W hn (HWS.out.below hB)
 have HRW2:=zac hrw;clear hrw hws;cases hrv:zcq d0 d1 d2 d3
 ·have HRV:=zac fun W=>zbO hrv W
  have HE:Hid (za5 s.r now d0 d1 d2 d3 ws=10):=zac (by rw[HCE.out,yad (by rw[HRW2.out];simp),yaj (.inl hrv)]);clear hrv;go_enter func14,ntmps14;go_wp2_with fail;go_at_call 71;refine(HRW.out _ zB).mono ?_;rintro e w' ⟨rfl,hb⟩;obtain⟨x1,rfl⟩:=zad hb;clear hb;go_wp2_with fail;refine zaz fun x2=>?_
  go_wp2_with fail;refine yag (v:=.tuple #[txZero,ii 10]) ?_ rfl (HDN.out 10 _ zI HE.out zB);simp[results,results14,go_sem,txZero]
 cases hcv:zdp s.p0 s.p1 s.p2 s.p3 d0 d1 d2 d3
 ·have HRV:=zac fun W=>zbO hrv W
  have HCV:=zac fun W=>zcn hcv W
  have HE:Hid (za5 s.r now d0 d1 d2 d3 ws=10):=zac (by rw[HCE.out,yad (by rw[HRW2.out];simp),yaj (.inr hcv)]);clear hrv hcv;go_enter func14,ntmps14;go_wp2_with fail;go_at_call 71;refine(HRW.out _ zB).mono ?_;rintro e w' ⟨rfl,hb⟩;obtain⟨x1,rfl⟩:=zad hb;clear hb;go_wp2_with fail;refine zaz fun x2=>?_
  go_wp2_with fail;refine yag (v:=.tuple #[txZero,ii 10]) ?_ rfl (HDN.out 10 _ zI HE.out zB);simp[results,results14,go_sem,txZero]
 have HRV:=zac fun W=>zbO hrv W
 have HCV:=zac fun W=>zcn hcv W
 have HNO:Hid (¬(zcq d0 d1 d2 d3=false∨zdp s.p0 s.p1 s.p2 s.p3 d0 d1 d2 d3=false)):=zac (by rw[hrv,hcv];simp);clear hrv hcv;by_cases h200:200≤s.log.length
 ·have hd3:decide ((200:Int)≤(s.log.length:Int))=true:=zT
  have HE:Hid (za5 s.r now d0 d1 d2 d3 ws=12):=zac (by rw[HCE.out,yad (by rw[HRW2.out];simp),yad HNO.out,yaj h200]);clear h200;go_enter func14,ntmps14;go_wp2_with fail;go_at_call 71;refine(HRW.out _ zB).mono ?_;rintro e w' ⟨rfl,hb⟩;obtain⟨x1,rfl⟩:=zad hb;clear hb;go_wp2_with fail;refine zaz fun x2=>?_
  go_wp2_with fail;refine yag (v:=.tuple #[txZero,ii 12]) ?_ rfl (HDN.out 12 _ zI HE.out zB);simp[results,results14,go_sem,txZero]
 have hd3:decide ((200:Int)≤(s.log.length:Int))=false:=zU;have HE0:Hid (za5 s.r now d0 d1 d2 d3 ws=zbP s.lw s.lc now):=zac (by rw[HCE.out,yad (by rw[HRW2.out];simp),yad HNO.out,yad h200]);have H200:=zac h200;clear h200;have HNX:=zac fun W=>rnext_is s.lw s.lc now W
 obtain⟨en,hen⟩:∃ en,zbP s.lw s.lc now=en:=⟨_,rfl⟩;rw[hen]at HNX HE0;clear hen;by_cases hn0:en=0
 case neg=>
  simp only[yad hn0]at HNX;have hnd:(en != 0)=true:=by simpa using hn0
  have HN0:=zac hn0;clear hn0;go_enter func14,ntmps14;go_wp2_with fail;go_at_call 71;refine(HRW.out _ zB).mono ?_;rintro e w' ⟨rfl,hb⟩;obtain⟨x1,rfl⟩:=zad hb;clear hb;go_wp2_with fail;refine zaz fun x2=>?_
  go_wp2_with fail;go_at_call 74;refine(HNX.out _).mono ?_;rintro e w' ⟨rfl,hb⟩;obtain⟨x3,rfl⟩:=zad hb;clear hb;go_wp2_with fail;refine yag (v:=.tuple #[txZero,en]) ?_ rfl (HDN.out en _ HN0.out HE0.out zB);simp[results,results14,go_sem,txZero]
 subst hn0;simp only[yaj]at HNX;generalize hNW:ze9 s.lw now=NW at HNX;generalize hNC:zfa s.lw s.lc now=NC at HNX;have HNW:=zac hNW;have HNC:=zac hNC;clear hNW hNC;generalize hTT:za9 s.r now d0 d1 d2 d3 ws=TR at *;have HTT:=zac hTT;clear hTT;go_enter func14,ntmps14;go_wp2_with fail;go_at_call 71;refine(HRW.out _ zB).mono ?_;rintro e w' ⟨rfl,hb⟩;obtain⟨x1,rfl⟩:=zad hb;clear hb;go_wp2_with fail;refine zaz fun x2=>?_
 go_wp2_with fail;go_at_call 74;refine(HNX.out _).mono ?_;rintro e w' ⟨rfl,hb⟩;obtain⟨x3,rfl⟩:=zad hb;clear hb;go_wp2_with fail;have HSZ:Hid ((zai (zai (zai ((w.alloc (.cells #[d0,d1,d2,d3] 32)).alloc (.cells #[ii 0,ii 0,ii 0,ii 0,ii 0,ii 0,ii 0,ii 0,.slice none 0 0] 44)) x1) x2) x3).heap.size=w.heap.size+1+1+x1.blocks.size+x2.blocks.size+x3.blocks.size):=zac zS;have HBC:Hid (Below w w ((zai (zai (zai ((w.alloc (.cells #[d0,d1,d2,d3] 32)).alloc (.cells #[ii 0,ii 0,ii 0,ii 0,ii 0,ii 0,ii 0,ii 0,.slice none 0 0] 44)) x1) x2) x3).alloc (.cells #[NW,NC] 34))):=zac zB;have HQ2:Hid (((zai (zai (zai ((w.alloc (.cells #[d0,d1,d2,d3] 32)).alloc (.cells #[ii 0,ii 0,ii 0,ii 0,ii 0,ii 0,ii 0,ii 0,.slice none 0 0] 44)) x1) x2) x3).alloc (.cells #[NW,NC] 34)).heap[w.heap.size]?=some (.cells #[d0,d1,d2,d3] 32)):=zac (by
  refine((show Below (w.alloc (.cells #[d0,d1,d2,d3] 32)).heap.size (w.alloc (.cells #[d0,d1,d2,d3] 32)) _ from zB).block _ zS).trans (zag rfl _))
 have HQ3:Hid (((zai (zai (zai ((w.alloc (.cells #[d0,d1,d2,d3] 32)).alloc (.cells #[ii 0,ii 0,ii 0,ii 0,ii 0,ii 0,ii 0,ii 0,.slice none 0 0] 44)) x1) x2) x3).alloc (.cells #[NW,NC] 34)).heap[w.heap.size+1]?=some (.cells #[ii 0,ii 0,ii 0,ii 0,ii 0,ii 0,ii 0,ii 0,.slice none 0 0] 44)):=zac (by
  refine((show Below ((w.alloc (.cells #[d0,d1,d2,d3] 32)).alloc (.cells #[ii 0,ii 0,ii 0,ii 0,ii 0,ii 0,ii 0,ii 0,.slice none 0 0] 44)).heap.size ((w.alloc (.cells #[d0,d1,d2,d3] 32)).alloc (.cells #[ii 0,ii 0,ii 0,ii 0,ii 0,ii 0,ii 0,ii 0,.slice none 0 0] 44)) _ from zB).block _ zS).trans (zag zS _))
 have HQ4:Hid (((zai (zai (zai ((w.alloc (.cells #[d0,d1,d2,d3] 32)).alloc (.cells #[ii 0,ii 0,ii 0,ii 0,ii 0,ii 0,ii 0,ii 0,.slice none 0 0] 44)) x1) x2) x3).alloc (.cells #[NW,NC] 34)).heap[w.heap.size+1+1+x1.blocks.size+x2.blocks.size+x3.blocks.size]?=some (.cells #[NW,NC] 34)):=zac (zag (by rw[HSZ.out]) _);clear c0 c1 c2 c3 c5 c6 c7 HRV HCV HNX hd3 HRW;have HTB:Hid (w.heap.size+1+1≤w.heap.size+1+1+x1.blocks.size+x2.blocks.size+x3.blocks.size):=zac zO;generalize w.heap.size+1+1+x1.blocks.size+x2.blocks.size+x3.blocks.size=tb at *;generalize (zai (zai (zai ((w.alloc (.cells #[d0,d1,d2,d3] 32)).alloc (.cells #[ii 0,ii 0,ii 0,ii 0,ii 0,ii 0,ii 0,ii 0,.slice none 0 0] 44)) x1) x2) x3).alloc (.cells #[NW,NC] 34)=W at *;clear HSZ;have HSW:=zac (HS.out.below HBC.out);have c0:=HSW.out.c0;rw[HK.out]at c0;have ca:=HSW.out.apc (k:=k) zO;rw[HAP.out]at ca;haveI:zaj (y+1) W:=⟨HSW.out.sto.lt⟩;haveI:zaj (w.heap.size+1) W:=⟨zae HQ2.out⟩;haveI:zaj (w.heap.size+1+1) W:=⟨zae HQ3.out⟩;haveI:zaj (tb+1) W:=⟨zae HQ4.out⟩;obtain⟨zu,hzu⟩:∃ zu,W.cell? ⟨w,k,none⟩=some (ii zu):=by
  have hc:k=0∨k=1∨k=2∨k=3:=by omega
  rcases hc with rfl|rfl|rfl|rfl <;> exact⟨_,zaa HQ2.out _⟩
 have hzf:=zab HQ2.out k;refine zaw fun x4=>?_
 have HBC2:Hid (Below w w (zai (W.setCell ⟨w,k,none⟩ (ii ap)) x4)):=zac (by
  have h1:Below w w (W.setCell ⟨w,k,none⟩ (ii ap)):=yaE HBC.out (zan W w.heap.size k _) HBC.out.size (fun j e=>by simp at e;omega);exact h1.trans ((zax _ _).mono h1.size))
 have hgs:=zan W w.heap.size k (ii ap);have HP2:Hid ((zai (W.setCell ⟨w,k,none⟩ (ii ap)) x4).heap[w.heap.size]?=some (.cells #[ii (if k=0 then ap else d0),ii (if k=1 then ap else d1),ii (if k=2 then ap else d2),ii (if k=3 then ap else d3)] 32)):=zac (by
  rw[zak _ _ _ (by have:=zae (zam HQ2.out k (ii ap));exact this),zam HQ2.out k (ii ap)];have hc:k=0∨k=1∨k=2∨k=3:=by omega
  rcases hc with rfl|rfl|rfl|rfl <;> rfl)
 have HP3:Hid ((zai (W.setCell ⟨w,k,none⟩ (ii ap)) x4).heap[w.heap.size+1]?=some (.cells #[ii 0,ii 0,ii 0,ii 0,ii 0,ii 0,ii 0,ii 0,.slice none 0 0] 44)):=zac (by
  have e:=(hgs.block (w.heap.size+1) (zae HQ3.out) zS).trans HQ3.out;rw[zak _ _ _ (zae e)];exact e)
 have HP4:Hid ((zai (W.setCell ⟨w,k,none⟩ (ii ap)) x4).heap[tb]?=some (.cells #[NW,NC] 34)):=zac (by
  have ht:=HTB.out;have e:=(hgs.block tb (zae HQ4.out) zP).trans HQ4.out;rw[zak _ _ _ (zae e)];exact e)
 clear hgs;have HDD:Hid (TR=⟨(k:Int),ap+1,NW,NC,if k=0 then ap else d0,if k=1 then ap else d1,if k=2 then ap else d2,if k=3 then ap else d3,ws⟩):=zac (by
  have hk:=HK.out;have ha:=HAP.out;rw[←HTT.out];unfold za9;rw[show s.r.id=s.id from rfl,hk,show s.r.at (k:Int)=ap from ha,show s.r.lw=s.lw from rfl,show s.r.lc=s.lc from rfl,HNW.out,HNC.out];have hc:k=0∨k=1∨k=2∨k=3:=by omega
  rcases hc with rfl|rfl|rfl|rfl <;> simp[RsP.at,atV,RsP.r]at ha ⊢ <;> first|exact ha|skip)
 generalize (if k=0 then ap else d0)=f0 at *;generalize (if k=1 then ap else d1)=f1 at *;generalize (if k=2 then ap else d2)=f2 at *;generalize (if k=3 then ap else d3)=f3 at *;go_upto_region 12 with fail;clear hzu hzf c0 ca;generalize zai (W.setCell ⟨w,k,none⟩ (ii ap)) x4=W2 at *;clear HQ2 HQ3 HQ4 HSW HBC;have HSW:=zac (HS.out.below HBC2.out);have c0:=HSW.out.c0;rw[HK.out]at c0;haveI:zaj (y+1) W2:=⟨HSW.out.sto.lt⟩;haveI:zaj (w.heap.size+1) W2:=⟨zae HP2.out⟩;haveI:zaj (w.heap.size+1+1) W2:=⟨zae HP3.out⟩;haveI:zaj (tb+1) W2:=⟨zae HP4.out⟩;have q1:=zaa HP4.out 0;have q2:=zaa HP4.out 1;have g0:=zaa HP2.out 0;have g1:=zaa HP2.out 1;have g2:=zaa HP2.out 2;have g3:=zaa HP2.out 3;simp only[zC,zD,zE]at q1 q2 g0 g1 g2 g3;obtain⟨hw1,hw5⟩:1≤ws.length∧ws.length≤5:=by
  have:=HRW2.out;unfold zaX at this;simp only[yav,yap]at this;exact⟨this.1.2,this.2⟩
 obtain⟨sb,so,rfl,hsb,_⟩:=HWS.out 0 ws[0] (yaa zO);clear hsb;have HZ2:=zac HBC2.out.size;have HW1:=zac hw1;have HW5:Hid (ws.length≤1000):=zac zO;go_cut [13] (fun s13 X=>∃ (q bb cc:Nat),s13=.pointer (some ⟨q,0,none⟩)∧X.heap[q]?=some (.cells #[(k:Int),ii (ap+1),NW,NC,f0,f1,f2,f3,.slice (some ⟨bb,0,none⟩) ws.length cc] 44)∧Below W2 W2 X∧zaN X (some ⟨bb,0,none⟩) ws∧W2.heap.size≤bb∧bb<X.heap.size∧W2.heap.size≤q)
 case first=>
  have hyl:y<W2.heap.size:=HSW.out.sto.lt;have htl:tb<W2.heap.size:=zae HP4.out;have hwl:w.heap.size<W2.heap.size:=zae HP2.out;go_region_held3 (fun X:World=>X.cell? ⟨y,0,none⟩=some (ii (k:Int))∧X.cell? ⟨tb,0,none⟩=some (ii NW)∧X.cell? ⟨tb,1,none⟩=some (ii NC)∧X.cell? ⟨w,0,none⟩=some (ii f0)∧X.cell? ⟨w,1,none⟩=some (ii f1)∧X.cell? ⟨w,2,none⟩=some (ii f2)∧X.cell? ⟨w,3,none⟩=some (ii f3)) ((repeat' apply And.intro) <;> simp[go_sem, *])
   (first
     | (refine zdC _ rfl (.tmp 74) (.tmp 75) rfl (W2.heap.size+1) ?_ ?_ (some ⟨sb,so,none⟩) c ws ?_ ?_ HW1.out HW5.out W2.heap.size (.cells #[ii 0,ii 0,ii 0,ii 0,ii 0,ii 0,ii 0,ii 0,.slice none 0 0] 44) ?_ ?_ ?_
        ·(simp[Act.eval,Act.put];done)
        ·first|(refine zag ?_ _;simp;done)|(refine zaC (zag ?_ _) _;simp;done)
        ·(simp[Act.eval,Act.put];done)
        ·exact HWS.out.below (HBC2.out.trans (yaH (B:=W2.heap.size) zB HZ2.out))
        ·first|(refine zag ?_ _;simp;done)|(refine zaC (zag ?_ _) _;simp;done)
        ·omega
        intro gb cc w8 hwn hgrow hgl hlt1 hz5;have hB8:Below W2 W2 w8:=yaE zB hgrow zN (fun j e=>by simp at e;omega);have hsz8:=hB8.size;have HR8:Hid (zaN w8 (some ⟨gb,0,none⟩) ws∧Below W2 W2 w8∧W2.heap.size≤gb∧gb<w8.heap.size):=zac ⟨hwn,hB8,(by rcases hgl with e|e <;> (try simp at e) <;> omega),hlt1⟩;have u0:=(hB8.cell (p:=⟨y,0,none⟩) hyl).trans c0;have u1:=(hB8.cell (p:=⟨tb,0,none⟩) htl).trans q1;have u2:=(hB8.cell (p:=⟨tb,1,none⟩) htl).trans q2;have u3:=(hB8.cell (p:=⟨w,0,none⟩) hwl).trans g0;have u4:=(hB8.cell (p:=⟨w,1,none⟩) hwl).trans g1;have u5:=(hB8.cell (p:=⟨w,2,none⟩) hwl).trans g2;have u6:=(hB8.cell (p:=⟨w,3,none⟩) hwl).trans g3;have HZ8:=zac hz5;have HQN:Hid (gb≠W2.heap.size):=zac (by rcases hgl with e|e <;> (try simp at e) <;> omega);have y0:=zaa hz5 0;have y1:=zaa hz5 1;have y2:=zaa hz5 2;have y3:=zaa hz5 3;have y4:=zaa hz5 4;have y5:=zaa hz5 5;have y6:=zaa hz5 6;have y7:=zaa hz5 7;have y8:=zaa hz5 8;have v0:=zab hz5 0;have v1:=zab hz5 1;have v2:=zab hz5 2;have v3:=zab hz5 3;have v4:=zab hz5 4;have v5:=zab hz5 5;have v6:=zab hz5 6;have v7:=zab hz5 7;have v8:=zab hz5 8;simp only[zC,zD,zE]at y0 y1 y2 y3 y4 y5 y6 y7 y8;haveI hsz5:zaj (W2.heap.size+1) w8:=⟨by have:=zae hz5;omega⟩;clear hz5;haveI hs1:zaj (y+1) w8:=⟨zO⟩;haveI hs2:zaj (tb+1) w8:=⟨zO⟩;haveI hs3:zaj (w.heap.size+1) w8:=⟨zO⟩;clear hwn hgrow hgl hlt1 hB8 hsz8)
     | (refine zdC _ rfl (.tmp 74) (.tmp 75) rfl W2.heap.size ?_ ?_ (some ⟨sb,so,none⟩) c ws ?_ ?_ HW1.out HW5.out (W2.heap.size+1) (.cells #[ii 0,ii 0,ii 0,ii 0,ii 0,ii 0,ii 0,ii 0,.slice none 0 0] 44) ?_ ?_ ?_
        ·(simp[Act.eval,Act.put];done)
        ·first|(refine zag ?_ _;simp;done)|(refine zaC (zag ?_ _) _;simp;done)
        ·(simp[Act.eval,Act.put];done)
        ·exact HWS.out.below (HBC2.out.trans (yaH (B:=W2.heap.size) zB HZ2.out))
        ·first|(refine zag ?_ _;simp;done)|(refine zaC (zag ?_ _) _;simp;done)
        ·omega
        intro gb cc w8 hwn hgrow hgl hlt1 hz5;have hB8:Below W2 W2 w8:=yaE zB hgrow zN (fun j e=>by simp at e;omega);have hsz8:=hB8.size;have HR8:Hid (zaN w8 (some ⟨gb,0,none⟩) ws∧Below W2 W2 w8∧W2.heap.size≤gb∧gb<w8.heap.size):=zac ⟨hwn,hB8,(by rcases hgl with e|e <;> (try simp at e) <;> omega),hlt1⟩;have u0:=(hB8.cell (p:=⟨y,0,none⟩) hyl).trans c0;have u1:=(hB8.cell (p:=⟨tb,0,none⟩) htl).trans q1;have u2:=(hB8.cell (p:=⟨tb,1,none⟩) htl).trans q2;have u3:=(hB8.cell (p:=⟨w,0,none⟩) hwl).trans g0;have u4:=(hB8.cell (p:=⟨w,1,none⟩) hwl).trans g1;have u5:=(hB8.cell (p:=⟨w,2,none⟩) hwl).trans g2;have u6:=(hB8.cell (p:=⟨w,3,none⟩) hwl).trans g3;have HZ8:=zac hz5;have HQN:Hid (gb≠(W2.heap.size+1)):=zac (by rcases hgl with e|e <;> (try simp at e) <;> omega);have y0:=zaa hz5 0;have y1:=zaa hz5 1;have y2:=zaa hz5 2;have y3:=zaa hz5 3;have y4:=zaa hz5 4;have y5:=zaa hz5 5;have y6:=zaa hz5 6;have y7:=zaa hz5 7;have y8:=zaa hz5 8;have v0:=zab hz5 0;have v1:=zab hz5 1;have v2:=zab hz5 2;have v3:=zab hz5 3;have v4:=zab hz5 4;have v5:=zab hz5 5;have v6:=zab hz5 6;have v7:=zab hz5 7;have v8:=zab hz5 8;simp only[zC,zD,zE]at y0 y1 y2 y3 y4 y5 y6 y7 y8;haveI hsz5:zaj ((W2.heap.size+1)+1) w8:=⟨by have:=zae hz5;omega⟩;clear hz5;haveI hs1:zaj (y+1) w8:=⟨zO⟩;haveI hs2:zaj (tb+1) w8:=⟨zO⟩;haveI hs3:zaj (w.heap.size+1) w8:=⟨zO⟩;clear hwn hgrow hgl hlt1 hB8 hsz8)
     | (refine zec _ rfl (.tmp 74) (.tmp 75) rfl W2.heap.size ?_ ?_ (some ⟨sb,so,none⟩) c ws ?_ ?_ HW1.out HW5.out ?_
        ·(simp[Act.eval,Act.put];done)
        ·first|(refine zag ?_ _;simp;done)|(refine zaC (zag ?_ _) _;simp;done)
        ·(simp[Act.eval,Act.put];done)
        ·exact HWS.out.below (HBC2.out.trans (yaH (B:=W2.heap.size) zB HZ2.out))
        intro gb cc w8 hwn hgrow hgl hlt1;have hB8:Below W2 W2 w8:=yaE zB hgrow zN (fun j e=>by simp at e;omega);have hsz8:=hB8.size;have HR8:Hid (zaN w8 (some ⟨gb,0,none⟩) ws∧Below W2 W2 w8∧W2.heap.size≤gb∧gb<w8.heap.size):=zac ⟨hwn,hB8,(by rcases hgl with e|e <;> (try simp at e) <;> omega),hlt1⟩;have u0:=(hB8.cell (p:=⟨y,0,none⟩) hyl).trans c0;have u1:=(hB8.cell (p:=⟨tb,0,none⟩) htl).trans q1;have u2:=(hB8.cell (p:=⟨tb,1,none⟩) htl).trans q2;have u3:=(hB8.cell (p:=⟨w,0,none⟩) hwl).trans g0;have u4:=(hB8.cell (p:=⟨w,1,none⟩) hwl).trans g1;have u5:=(hB8.cell (p:=⟨w,2,none⟩) hwl).trans g2;have u6:=(hB8.cell (p:=⟨w,3,none⟩) hwl).trans g3;haveI hs1:zaj (y+1) w8:=⟨zO⟩;haveI hs2:zaj (tb+1) w8:=⟨zO⟩;haveI hs3:zaj (w.heap.size+1) w8:=⟨zO⟩;clear hwn hgrow hgl hlt1 hB8 hsz8)
     | fail)
  all_goals
   go_wp2_with fail;go_meet
   first
    | (with_reducible exact⟨_,gb,cc,rfl,zm9 HR8.out⟩)
    | exact⟨_,gb,cc,rfl,zlv HR8.out HZ8.out zO HQN.out⟩
 case rest=>
  obtain⟨q,bb,cc,rfl,hqb,hBX,hwX,hbn,hbl,hqn⟩:=hcut;obtain⟨X,rfl⟩:∃ X:World,X=wc:=⟨_,rfl⟩;have HBX:=zac hBX;have HQB:=zac hqb;have HWX:=zac hwX;have HBN:=zac (show w.heap.size≤bb by have:=HZ2.out;omega);have HBL:=zac hbl;have hX0:=HBX.out.size;have hW2X:=HZ2.out;have HBWX:=zac (HBC2.out.trans (HBX.out.mono HZ2.out));have HSX:=zac (HS.out.below HBWX.out);have HNO:Hid (∀ b,w.heap.size≤b→¬za2 y lv av b):=zac (fun b hb e=>by have:=(HS.out.lt e).2;omega);have HAL:=zac (zfp B y wc s lv av wA (⟨(⟨(k:Int),ap+1,NW,NC,f0,f1,f2,f3,ws⟩:TxP),some ⟨bb,0,none⟩,cc⟩:MTx) X HSX.out ⟨HWX.out,fun b o e=>by
   obtain⟨rfl,_⟩:bb=b∧0=o:=by simpa using e
   exact⟨HBL.out,HNO.out _ HBN.out⟩⟩ ⟨hk0,hk4⟩ HNL.out (by have:=H200.out;omega) (by show ws.length≤1000;exact HW5.out))
  unfold MTx.val at HAL;simp only at HAL;have HP3X:Hid (X.heap[w.heap.size+1]?=some (.cells #[ii 0,ii 0,ii 0,ii 0,ii 0,ii 0,ii 0,ii 0,.slice none 0 0] 44)):=zac ((HBX.out.block _ (zae HP3.out)).trans HP3.out);have HQ1:Hid (w.heap.size+1<q):=zac (by have:=zae HP3.out;omega);have HB1:Hid (w.heap.size+1<bb):=zac (by have:=zae HP3.out;omega);clear hqb hBX hwX hbn hbl hqn c0 q1 q2 g0 g1 g2 g3;have e0:=zaa HQB.out 0;have e1:=zaa HQB.out 1;have e2:=zaa HQB.out 2;have e3:=zaa HQB.out 3;have e4:=zaa HQB.out 4;have e5:=zaa HQB.out 5;have e6:=zaa HQB.out 6;have e7:=zaa HQB.out 7;have e8:=zaa HQB.out 8;simp only[zC,zD,zE]at e0 e1 e2 e3 e4 e5 e6 e7 e8;haveI:zaj (q+1) X:=⟨zae HQB.out⟩;go_wp2_with fail;go_at_call 75;refine HAL.out.mono ?_;rintro e w4 ⟨rfl,lv',av',hs4,fr4⟩;have HS4:=zac hs4;have HF4:=zac fr4;clear hs4 fr4 HAL e0 e1 e2 e3 e4 e5 e6 e7 e8;have HNQ:Hid (∀ b,w.heap.size≤b→b<X.heap.size→¬za2 y lv av b∧¬za2 y lv' av' b):=zac (fun b h1 h2=>⟨HNO.out b h1,fun e=>(HF4.out.own b e).elim (HNO.out b h1) (fun e2=>by omega)⟩);have HB4:Hid (∀ b,w.heap.size≤b→b<X.heap.size→w4.heap[b]?=X.heap[b]?):=zac (fun b h1 h2=>HF4.out.block b h2 (HNO.out b h1));have HT4:=zac ((HB4.out q (by have:=HQ1.out;omega) (zae HQB.out)).trans HQB.out);have HR4:=zac ((HB4.out (w.heap.size+1) zO (zae HP3X.out)).trans HP3X.out);have HW4:=zac (HWX.out.keep (w':=w4) (fun b o e=>by
   obtain⟨rfl,_⟩:bb=b∧0=o:=by simpa using e
   exact HB4.out _ HBN.out HBL.out))
  have e0:=zaa HT4.out 0;have e1:=zaa HT4.out 1;have e2:=zaa HT4.out 2;have e3:=zaa HT4.out 3;have e4:=zaa HT4.out 4;have e5:=zaa HT4.out 5;have e6:=zaa HT4.out 6;have e7:=zaa HT4.out 7;have e8:=zaa HT4.out 8;simp only[zC,zD,zE]at e0 e1 e2 e3 e4 e5 e6 e7 e8;have r0:=zaa HR4.out 0;have r1:=zaa HR4.out 1;have r2:=zaa HR4.out 2;have r3:=zaa HR4.out 3;have r4:=zaa HR4.out 4;have r5:=zaa HR4.out 5;have r6:=zaa HR4.out 6;have r7:=zaa HR4.out 7;have r8:=zaa HR4.out 8;simp only[zC,zD,zE]at r0 r1 r2 r3 r4 r5 r6 r7 r8;have s0:=zab HR4.out 0;have s1:=zab HR4.out 1;have s2:=zab HR4.out 2;have s3:=zab HR4.out 3;have s4:=zab HR4.out 4;have s5:=zab HR4.out 5;have s6:=zab HR4.out 6;have s7:=zab HR4.out 7;have s8:=zab HR4.out 8;haveI:zaj (q+1) w4:=⟨zae HT4.out⟩;haveI:zaj (w.heap.size+1+1) w4:=⟨zae HR4.out⟩;go_wp2_with fail;have HG9:=zac (zd2 w4 (w.heap.size+1) (ii (k:Int)) (ii (ap+1)) (ii NW) (ii NC) (ii f0) (ii f1) (ii f2) (ii f3) (.slice (some ⟨bb,0,none⟩) ws.length cc));have HSZ9:=zac (ziJ w4 (w.heap.size+1) (ii (k:Int)) (ii (ap+1)) (ii NW) (ii NC) (ii f0) (ii f1) (ii f2) (ii f3) (.slice (some ⟨bb,0,none⟩) ws.length cc));have HK9:=zac (@zc7 _ _ _ _ _ _ _ _ _ _ _ (ii (k:Int)) (ii (ap+1)) (ii NW) (ii NC) (ii f0) (ii f1) (ii f2) (ii f3) (.slice (some ⟨bb,0,none⟩) ws.length cc) _ HR4.out);obtain⟨V9,hV9⟩:∃ V9,zcx w4 (w.heap.size+1) (ii (k:Int)) (ii (ap+1)) (ii NW) (ii NC) (ii f0) (ii f1) (ii f2) (ii f3) (.slice (some ⟨bb,0,none⟩) ws.length cc)=V9:=⟨_,rfl⟩;rw[hV9]at HG9 HSZ9 HK9;unfold zcx at hV9;rw[hV9];clear hV9 r0 r1 r2 r3 r4 r5 r6 r7 r8 s0 s1 s2 s3 s4 s5 s6 s7 s8 e0 e1 e2 e3 e4 e5 e6 e7 e8;haveI:zaj (w.heap.size+1+1) V9:=⟨zae HK9.out⟩;have y0:=zaa HK9.out 0;have y1:=zaa HK9.out 1;have y2:=zaa HK9.out 2;have y3:=zaa HK9.out 3;have y4:=zaa HK9.out 4;have y5:=zaa HK9.out 5;have y6:=zaa HK9.out 6;have y7:=zaa HK9.out 7;have y8:=zaa HK9.out 8;simp only[zC,zD,zE]at y0 y1 y2 y3 y4 y5 y6 y7 y8;have HTR:=HDD.out;have hbq:=zae HP3X.out;have HS5:=zac (HS4.out.same HG9.out.size (fun b hb=>HG9.out.block b (HS4.out.lt hb).2 (by simp;rintro rfl;exact(HNQ.out _ zO hbq).2 hb)) (fun b o e=>HG9.out.block b (HS4.out.wat.2.2 b o e).1 (by
    simp;rintro rfl;have:=(HS.out.wat.2.2 _ o e).1;omega)) (fun m hm b o e=>HG9.out.block b ((HS4.out.dat m hm).2 b o e).1 (by
   simp;rintro rfl;have hm2:s.has m∨m=⟨(⟨(k:Int),ap+1,NW,NC,f0,f1,f2,f3,ws⟩:TxP),some ⟨bb,0,none⟩,cc⟩:=by
    rcases hm with hm|hm
    ·rcases yax.1 hm with h1|h1
     ·exact .inl (.inl h1)
     ·exact .inr (by simpa using h1)
    ·refine .inl (.inr ?_)
     revert hm
     unfold zbE;split <;> exact fun h=>h
   rcases hm2 with h1|rfl
   ·have:=((HS.out.dat m h1).2 _ _ e).1;omega
   ·have:=HB1.out;simp at e;try omega)))
  have HW9:=HW4.out.keep (w':=V9) (fun b o e=>by
   obtain⟨rfl,_⟩:bb=b∧0=o:=by simpa using e
   exact HG9.out.block _ (by have:=HF4.out.size;have:=HBL.out;omega) (by simp;have:=HB1.out;omega))
  refine yag (v:=.tuple #[MTx.val ⟨(⟨(k:Int),ap+1,NW,NC,f0,f1,f2,f3,ws⟩:TxP),some ⟨bb,0,none⟩,cc⟩,ii 0]) ?_ rfl ⟨fun hne=>absurd HE0.out hne,fun _=>⟨bb,cc,lv',av',?_,?_,((zaO.of_below (za2 y lv av) HBWX.out).trans HF4.out).box HG9.out zO,HBN.out,?_,?_⟩⟩
  ·simp[results,results14,go_sem,MTx.val, *]
  ·rw[HTR]
  ·rw[HTR];exact HS5.out
  ·have:=HF4.out.size;have:=HG9.out.size;have:=HBL.out;omega
  ·rw[HTR];exact HW9
end Go.Proofs.YtbopfhbeegkkaabGreatDoor
