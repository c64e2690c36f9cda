/- Part 41 of a proof: lemmas and contracts that other parts use. -/
import Derived.Test.YtbopfhbeegkkaabGreatDoorSe40
import Derived.Test.YtbopfhbeegkkaabGreatDoorSe3
import Derived.Deep.Slices
import Derived.Lib.SmallJoins
import Derived.Test.YtbopfhbeegkkaabGreatDoorSe14
import Derived.Test.YtbopfhbeegkkaabGreatDoorSe7
import Derived.Test.YtbopfhbeegkkaabGreatDoorSe11
import Derived.Deep.DeepCutAuto
import Derived.Deep.CutBlock
set_option linter.unusedVariables false
set_option linter.unusedSimpArgs false
set_option linter.constructorNameAsVariable false
namespace Go.Proofs.YtbopfhbeegkkaabGreatDoor
open Go.RowKit Go.WideShapes Go.ChangeShapes Go.WideElems Go.ChangeAt
section
variable {H:Type} {enc:TypeId×Value→H} {w:World} {base:Nat} {spare:Nat→Bool} {held:Bool}
theorem list3 {α:Type} {cs:List α} (h:cs.length=3):∃ a b c,cs=[a,b,c]:=by
 match cs,h with
 | [a,b,c],_=>exact ⟨a,b,c,rfl⟩
theorem cells3:Tryz.prog.cellsOf 3=1:=by kernel_rfl
theorem cells4:Tryz.prog.cellsOf 4=1:=by kernel_rfl
theorem cells9:Tryz.prog.cellsOf 9=1:=by kernel_rfl
theorem cells23:Tryz.prog.cellsOf 32=4:=by kernel_rfl
theorem cells30:Tryz.prog.cellsOf 34=2:=by kernel_rfl
theorem cells39:Tryz.prog.cellsOf 42=1:=by kernel_rfl
theorem cells41:Tryz.prog.cellsOf 44=9:=by kernel_rfl
theorem cells43:Tryz.prog.cellsOf 83=3:=by kernel_rfl
theorem open_write {fuel:Nat} {cs:List Value} {x:DataW H×List MemPlace} (h:DataW.trod enc Tryz.prog w base spare held fuel 83 cs=some x):
  ∃ y:WrP,cs=[.int .i64 y.key,.string y.data,.bool y.gone]∧y.data.size≤maxLen:=by
 obtain ⟨xs,n,_,_,hl,hlen,hf⟩:=DataW.trod_struct Tryz.underlying83 h
 rw [cells43] at hl
 obtain ⟨c0,c1,c2,rfl⟩:=list3 hl
 have get:∀ i,i<3→∃ x,xs[i]?=some x:=fun i hi=>⟨xs[i]'(by rw [hlen];simpa using hi),List.getElem?_eq_getElem _⟩
 obtain ⟨x0,g0⟩:=get 0 (by omega);obtain ⟨x1,g1⟩:=get 1 (by omega);obtain ⟨x2,g2⟩:=get 2 (by omega)
 have h0:=hf 0 _ rfl;have h1:=hf 1 _ rfl;have h2:=hf 2 _ rfl
 rw [g0] at h0;rw [g1] at h1;rw [g2] at h2
 simp [cells3,cells4,cells9] at h0 h1 h2
 obtain ⟨k,e0,_,_⟩:=DataW.trod_int Tryz.underlying3 h0
 obtain ⟨s,e1,_,hs⟩:=DataW.trod_string Tryz.underlying9 h1
 obtain ⟨b,e2,_⟩:=DataW.trod_bool Tryz.underlying4 h2
 simp only [List.cons.injEq,and_true] at e0 e1 e2
 subst e0 e1 e2
 exact ⟨⟨k,s,b⟩,rfl,hs⟩
theorem open_writes {fuel:Nat} {cs:List Value} {x:DataW H×List MemPlace} (h:DataW.trod enc Tryz.prog w base spare held fuel 42 cs=some x):
  ∃ (A:Option Addr) (c:Nat) (ws:List WrP),cs=[.slice A ws.length c]∧WsAt w A ws∧ws.length≤maxLen:=by
 rcases Go.Deep.open_slice Tryz.underlying42 h with ⟨rfl,_⟩ | ⟨a,len,cap,m,n,D,Pl,rfl,hb,hlc,hcm,hm,_,hi⟩
 ·exact ⟨none,0,[],rfl,fun i x hx=>by simp at hx,Nat.zero_le _⟩
 ·have hlm:len≤m:=by rw [hm];split <;> omega
  rw [cells43] at hi
  have hy:∀ i,i<len→∃ y:WrP,w.cell? (a.add (i*3))=some (.int .i64 y.key)∧w.cell? ((a.add (i*3)).add 1)=some (.string y.data)∧w.cell? ((a.add (i*3)).add 2)=some (.bool y.gone):=by
   intro i hil
   obtain ⟨cs',h1,h2⟩:=hi i (by omega)
   obtain ⟨y,rfl,_⟩:=open_write h2
   obtain ⟨_,_,hc⟩:=World.cells?_some h1
   have k0:=hc 0 (by omega);have k1:=hc 1 (by omega);have k2:=hc 2 (by omega)
   refine ⟨y,?_,k1,k2⟩
   have e:(a.add (i*3)).add 0=a.add (i*3):=by simp [Addr.add]
   rw [e] at k0;exact k0
  haveI:Inhabited WrP:=⟨⟨0,⟨#[]⟩,false⟩⟩
  obtain ⟨Y,hY⟩:=Go.Deep.choose_lt (α:=WrP) hy
  refine ⟨some a,cap,(List.range len).map Y,by simp,fun i x hx=>?_,by simp;omega⟩
  have hil:i<len:=by
   have:=(List.getElem?_eq_some_iff.1 hx).1
   simpa using this
  have hx':Y i=x:=by simpa [List.getElem?_map,List.getElem?_range hil] using hx
  subst hx'
  obtain ⟨k0,k1,k2⟩:=hY i hil
  have k00:=(hY 0 (by omega)).1
  have hsp:=World.cell?_spot k00
  obtain ⟨b,o,spot⟩:=a
  have hspot:spot=none:=by simpa [Addr.add] using hsp
  subst hspot
  have e:∀ (j o:Nat),(⟨b,o,none⟩:Addr).add j=⟨b,o+j,none⟩:=fun j o=>by unfold Addr.add;split <;> simp_all
  simp only [e] at k0 k1 k2
  exact ⟨b,o,rfl,World.block_lt_of_cell? w _ k0,k0,k1,k2⟩
theorem open_vec {fuel:Nat} {c0 c1 c2 c3:Value} {x:DataW H×List MemPlace} (h:DataW.trod enc Tryz.prog w base spare held fuel 32 [c0,c1,c2,c3]=some x):
  ∃ a0 a1 a2 a3:Int,c0=.int .i64 a0∧c1=.int .i64 a1∧c2=.int .i64 a2∧c3=.int .i64 a3:=by
 obtain ⟨xs,m,_,_,_,hlen,hxs⟩:=DataW.trod_array Tryz.underlying32 h
 rw [cells3] at hxs
 have get:∀ i,i<4→∃ x,xs[i]?=some x:=fun i hi=>⟨xs[i]'(by omega),List.getElem?_eq_getElem (by omega)⟩
 obtain ⟨x0,g0⟩:=get 0 (by omega);obtain ⟨x1,g1⟩:=get 1 (by omega);obtain ⟨x2,g2⟩:=get 2 (by omega);obtain ⟨x3,g3⟩:=get 3 (by omega)
 have h0:=hxs 0 (by omega);have h1:=hxs 1 (by omega);have h2:=hxs 2 (by omega);have h3:=hxs 3 (by omega)
 rw [g0] at h0;rw [g1] at h1;rw [g2] at h2;rw [g3] at h3
 simp at h0 h1 h2 h3
 obtain ⟨a0,e0,_⟩:=DataW.trod_int Tryz.underlying3 h0
 obtain ⟨a1,e1,_⟩:=DataW.trod_int Tryz.underlying3 h1
 obtain ⟨a2,e2,_⟩:=DataW.trod_int Tryz.underlying3 h2
 obtain ⟨a3,e3,_⟩:=DataW.trod_int Tryz.underlying3 h3
 simp at e0 e1 e2 e3
 exact ⟨a0,a1,a2,a3,e0,e1,e2,e3⟩
theorem open_stamp {fuel:Nat} {c0 c1:Value} {x:DataW H×List MemPlace} (h:DataW.trod enc Tryz.prog w base spare held fuel 34 [c0,c1]=some x):
  ∃ a0 a1:Int,c0=.int .i64 a0∧c1=.int .i64 a1:=by
 obtain ⟨xs,n,_,_,hl,hlen,hf⟩:=DataW.trod_struct Tryz.underlying34 h
 have get:∀ i,i<2→∃ x,xs[i]?=some x:=fun i hi=>⟨xs[i]'(by rw [hlen];simpa using hi),List.getElem?_eq_getElem _⟩
 obtain ⟨x0,g0⟩:=get 0 (by omega);obtain ⟨x1,g1⟩:=get 1 (by omega)
 have h0:=hf 0 _ rfl;have h1:=hf 1 _ rfl
 rw [g0] at h0;rw [g1] at h1
 simp [cells3] at h0 h1
 obtain ⟨a0,e0,_⟩:=DataW.trod_int Tryz.underlying3 h0
 obtain ⟨a1,e1,_⟩:=DataW.trod_int Tryz.underlying3 h1
 simp at e0 e1
 exact ⟨a0,a1,e0,e1⟩
end
theorem wf64_of {z:Int} (h:(Lit.int .i64 z).wf=true):wf64 z:=by
 simp [Lit.wf,IntKind.min,IntKind.max,IntKind.signed,IntKind.bits] at h
 unfold wf64;omega
structure DoP where
 what:Int
 n:Int
 a0:Int
 a1:Int
 a2:Int
 a3:Int
 t:TxP
 A:Option Addr
 c:Nat
instance : Inhabited DoP := ⟨⟨0, 0, 0, 0, 0, 0, ⟨0, 0, 0, 0, 0, 0, 0, 0, []⟩, none, 0⟩⟩
section
variable {H:Type} {enc:TypeId×Value→H} {w:World} {base:Nat} {spare:Nat→Bool} {held:Bool}
set_option maxRecDepth 20000 in
theorem open_tx9 {fuel:Nat} {c0 c1 c2 c3 c4 c5 c6 c7 c8:Value} {x:DataW H×List MemPlace} (h:DataW.trod enc Tryz.prog w base spare held fuel 44 [c0,c1,c2,c3,c4,c5,c6,c7,c8]=some x):
  ∃ (t:TxP) (A:Option Addr) (c:Nat),c0=.int .i64 t.site∧c1=.int .i64 t.seq∧c2=.int .i64 t.wall∧c3=.int .i64 t.count∧c4=.int .i64 t.d0∧c5=.int .i64 t.d1∧c6=.int .i64 t.d2∧c7=.int .i64 t.d3∧c8=.slice A t.ws.length c∧
    (Lit.int .i64 t.site).wf=true∧(Lit.int .i64 t.seq).wf=true∧WsAt w A t.ws∧t.ws.length≤maxLen:=by
 obtain ⟨xs,n,_,_,hl,hlen,hf⟩:=DataW.trod_struct Tryz.underlying44 h
 have get:∀ i,i<5→∃ x,xs[i]?=some x:=fun i hi=>⟨xs[i]'(by rw [hlen];simpa using hi),List.getElem?_eq_getElem _⟩
 obtain ⟨x0,g0⟩:=get 0 (by omega);obtain ⟨x1,g1⟩:=get 1 (by omega);obtain ⟨x2,g2⟩:=get 2 (by omega);obtain ⟨x3,g3⟩:=get 3 (by omega);obtain ⟨x4,g4⟩:=get 4 (by omega)
 have h0:=hf 0 _ rfl;have h1:=hf 1 _ rfl;have h2:=hf 2 _ rfl;have h3:=hf 3 _ rfl;have h4:=hf 4 _ rfl
 rw [g0] at h0;rw [g1] at h1;rw [g2] at h2;rw [g3] at h3;rw [g4] at h4
 simp [cells3,cells23,cells30,cells39] at h0 h1 h2 h3 h4
 obtain ⟨site,e0,_,hw0⟩:=DataW.trod_int Tryz.underlying3 h0
 obtain ⟨seq,e1,_,hw⟩:=DataW.trod_int Tryz.underlying3 h1
 obtain ⟨wall,count,rfl,rfl⟩:=open_stamp h2
 obtain ⟨d0,d1,d2,d3,rfl,rfl,rfl,rfl⟩:=open_vec h3
 obtain ⟨A,c,ws,e4,hws,hwl⟩:=open_writes h4
 simp at e0 e1 e4
 subst e0 e1 e4
 exact ⟨⟨site,seq,wall,count,d0,d1,d2,d3,ws⟩,A,c,rfl,rfl,rfl,rfl,rfl,rfl,rfl,rfl,rfl,hw0,hw,hws,hwl⟩
end
structure TurnP where
 what:Int
 at_:Int
 key:Int
 now:Int
 wr:WrP
 tx:TxP
 txA:Option Addr
 txc:Nat
instance : Inhabited TurnP := ⟨⟨0, 0, 0, 0, ⟨0, ⟨#[]⟩, false⟩, ⟨0, 0, 0, 0, 0, 0, 0, 0, []⟩, none, 0⟩⟩
def TurnsAt (w:World) (A:Option Addr) (l:List TurnP):Prop:=∀ (i:Nat) (x:TurnP),l[i]?=some x→(∃ b o,A=some ⟨b,o,none⟩∧b<w.heap.size∧
 w.cell? ⟨b,o+i*16,none⟩=some (.int .i64 x.what)∧w.cell? ⟨b,o+i*16+1,none⟩=some (.int .i64 x.at_)∧w.cell? ⟨b,o+i*16+2,none⟩=some (.int .i64 x.key)∧w.cell? ⟨b,o+i*16+3,none⟩=some (.int .i64 x.now)∧w.cell? ⟨b,o+i*16+4,none⟩=some (.int .i64 x.wr.key)∧w.cell? ⟨b,o+i*16+5,none⟩=some (.string x.wr.data)∧w.cell? ⟨b,o+i*16+6,none⟩=some (.bool x.wr.gone)∧w.cell? ⟨b,o+i*16+7,none⟩=some (.int .i64 x.tx.site)∧w.cell? ⟨b,o+i*16+8,none⟩=some (.int .i64 x.tx.seq)∧w.cell? ⟨b,o+i*16+9,none⟩=some (.int .i64 x.tx.wall)∧w.cell? ⟨b,o+i*16+10,none⟩=some (.int .i64 x.tx.count)∧w.cell? ⟨b,o+i*16+11,none⟩=some (.int .i64 x.tx.d0)∧w.cell? ⟨b,o+i*16+12,none⟩=some (.int .i64 x.tx.d1)∧w.cell? ⟨b,o+i*16+13,none⟩=some (.int .i64 x.tx.d2)∧w.cell? ⟨b,o+i*16+14,none⟩=some (.int .i64 x.tx.d3)∧w.cell? ⟨b,o+i*16+15,none⟩=some (.slice x.txA x.tx.ws.length x.txc))∧(Lit.int .i64 x.what).wf=true∧(Lit.int .i64 x.at_).wf=true∧(Lit.int .i64 x.key).wf=true∧(Lit.int .i64 x.now).wf=true∧x.wr.data.size≤maxLen∧WsAt w x.txA x.tx.ws∧x.tx.ws.length≤maxLen∧(Lit.int .i64 x.tx.site).wf=true∧(Lit.int .i64 x.tx.seq).wf=true∧∀ b o,x.txA=some ⟨b,o,none⟩→x.tx.ws≠[]→b<w.heap.size
theorem TurnsAt.below {w w':World} {A:Option Addr} {l:List TurnP} (h:TurnsAt w A l) (hb:Below w.heap.size w w'):TurnsAt w' A l:=fun i x hx=>by
 obtain ⟨⟨b,o,hA,hlt,h0,h1,h2,h3,h4,h5,h6,h7,h8,h9,h10,h11,h12,h13,h14,h15⟩,i0,i1,i2,i3,i4,i5,i6,i7,i8,i9⟩:=h i x hx
 have e:∀ k,w'.cell? ⟨b,k,none⟩=w.cell? ⟨b,k,none⟩:=fun k=>hb.cell (p:=⟨b,k,none⟩) hlt
 exact ⟨⟨b,o,hA,Nat.lt_of_lt_of_le hlt hb.size,(e _).trans h0,(e _).trans h1,(e _).trans h2,(e _).trans h3,(e _).trans h4,(e _).trans h5,(e _).trans h6,(e _).trans h7,(e _).trans h8,(e _).trans h9,(e _).trans h10,(e _).trans h11,(e _).trans h12,(e _).trans h13,(e _).trans h14,(e _).trans h15⟩,i0,i1,i2,i3,i4,i5.below hb,i6,i7,i8,fun b o e2 e3=>Nat.lt_of_lt_of_le (i9 b o e2 e3) hb.size⟩
section
variable {H:Type} {enc:TypeId×Value→H} {w:World} {base:Nat} {spare:Nat→Bool} {held:Bool}
theorem list16turn {α:Type} {cs:List α} (h:cs.length=16):∃ c0 c1 c2 c3 c4 c5 c6 c7 c8 c9 c10 c11 c12 c13 c14 c15,cs=[c0,c1,c2,c3,c4,c5,c6,c7,c8,c9,c10,c11,c12,c13,c14,c15]:=by
 match cs,h with
 | [c0,c1,c2,c3,c4,c5,c6,c7,c8,c9,c10,c11,c12,c13,c14,c15],_=>exact ⟨c0,c1,c2,c3,c4,c5,c6,c7,c8,c9,c10,c11,c12,c13,c14,c15,rfl⟩
theorem cellsTurn:Tryz.prog.cellsOf 85=16:=by kernel_rfl
set_option maxRecDepth 20000 in
theorem open_turn {fuel:Nat} {cs:List Value} {x:DataW H×List MemPlace} (h:DataW.trod enc Tryz.prog w base spare held fuel 85 cs=some x):
  ∃ p:TurnP,cs=[.int .i64 p.what,.int .i64 p.at_,.int .i64 p.key,.int .i64 p.now,.int .i64 p.wr.key,.string p.wr.data,.bool p.wr.gone,.int .i64 p.tx.site,.int .i64 p.tx.seq,.int .i64 p.tx.wall,.int .i64 p.tx.count,.int .i64 p.tx.d0,.int .i64 p.tx.d1,.int .i64 p.tx.d2,.int .i64 p.tx.d3,.slice p.txA p.tx.ws.length p.txc]∧(Lit.int .i64 p.what).wf=true∧(Lit.int .i64 p.at_).wf=true∧(Lit.int .i64 p.key).wf=true∧(Lit.int .i64 p.now).wf=true∧p.wr.data.size≤maxLen∧WsAt w p.txA p.tx.ws∧p.tx.ws.length≤maxLen∧(Lit.int .i64 p.tx.site).wf=true∧(Lit.int .i64 p.tx.seq).wf=true:=by
 obtain ⟨xs,n,_,_,hl,hlen,hf⟩:=DataW.trod_struct Tryz.underlying85 h
 rw [cellsTurn] at hl
 obtain ⟨c0,c1,c2,c3,c4,c5,c6,c7,c8,c9,c10,c11,c12,c13,c14,c15,rfl⟩:=list16turn hl
 have get:∀ i,i<6→∃ x,xs[i]?=some x:=fun i hi=>⟨xs[i]'(by rw [hlen];simpa using hi),List.getElem?_eq_getElem _⟩
 obtain ⟨x0,g0⟩:=get 0 (by omega);obtain ⟨x1,g1⟩:=get 1 (by omega);obtain ⟨x2,g2⟩:=get 2 (by omega);obtain ⟨x3,g3⟩:=get 3 (by omega);obtain ⟨x4,g4⟩:=get 4 (by omega);obtain ⟨x5,g5⟩:=get 5 (by omega)
 have h0:=hf 0 _ rfl;have h1:=hf 1 _ rfl;have h2:=hf 2 _ rfl;have h3:=hf 3 _ rfl;have h4:=hf 4 _ rfl;have h5:=hf 5 _ rfl
 rw [g0] at h0;rw [g1] at h1;rw [g2] at h2;rw [g3] at h3;rw [g4] at h4;rw [g5] at h5
 simp [cells3,cells23,cells41,cells43,cells4,cells9] at h0 h1 h2 h3 h4 h5
 obtain ⟨v0,e0,_,hw0⟩:=DataW.trod_int Tryz.underlying3 h0
 obtain ⟨v1,e1,_,hw1⟩:=DataW.trod_int Tryz.underlying3 h1
 obtain ⟨v2,e2,_,hw2⟩:=DataW.trod_int Tryz.underlying3 h2
 obtain ⟨v3,e3,_,hw3⟩:=DataW.trod_int Tryz.underlying3 h3
 obtain ⟨v4,e4,hs4⟩:=open_write h4
 obtain ⟨v5,A5,k5,rfl,rfl,rfl,rfl,rfl,rfl,rfl,rfl,rfl,hwa5,hwb5,hws5,hwl5⟩:=open_tx9 h5
 simp at e0 e1 e2 e3 e4
 subst e0
 subst e1
 subst e2
 subst e3
 obtain ⟨rfl,rfl,rfl⟩:=e4
 exact ⟨⟨v0,v1,v2,v3,v4,v5,A5,k5⟩,rfl,hw0,hw1,hw2,hw3,hs4,hws5,hwl5,hwa5,hwb5⟩
set_option maxRecDepth 20000 in
theorem open_turns {r:Reach} {b0:Nat} {v:Value} {d:DataW H} {p:List MemPlace} (hv:Value.okWide Tryz.prog w r b0 74 v) (h:DataW.Trod enc Tryz.prog w base spare held 74 v d p):
  ∃ (A:Option Addr) (c:Nat) (ps:List TurnP),v=.slice A ps.length c∧TurnsAt w A ps∧ps.length≤maxLen:=by
 obtain ⟨a0,len0,cap0,rfl⟩:=okWide_slice Tryz.underlying74 hv
 obtain ⟨fuel,hf⟩:=h
 rcases Go.Deep.open_slice Tryz.underlying74 hf with ⟨hcs,_⟩ | ⟨a,len,cap,m,n,D,Pl,hcs,hb,hlc,hcm,hm,_,hi⟩
 ·simp [Value.cells] at hcs
  obtain ⟨rfl,rfl,rfl⟩:=hcs
  exact ⟨none,0,[],rfl,fun i x hx=>by simp at hx,Nat.zero_le _⟩
 ·simp [Value.cells] at hcs
  obtain ⟨rfl,rfl,rfl⟩:=hcs
  have hlm:len0≤m:=by rw [hm];split <;> omega
  rw [cellsTurn] at hi
  have hy:∀ i,i<len0→∃ y:TurnP,(w.cell? (a.add (i*16))=some (.int .i64 y.what)∧w.cell? ((a.add (i*16)).add 1)=some (.int .i64 y.at_)∧w.cell? ((a.add (i*16)).add 2)=some (.int .i64 y.key)∧w.cell? ((a.add (i*16)).add 3)=some (.int .i64 y.now)∧w.cell? ((a.add (i*16)).add 4)=some (.int .i64 y.wr.key)∧w.cell? ((a.add (i*16)).add 5)=some (.string y.wr.data)∧w.cell? ((a.add (i*16)).add 6)=some (.bool y.wr.gone)∧w.cell? ((a.add (i*16)).add 7)=some (.int .i64 y.tx.site)∧w.cell? ((a.add (i*16)).add 8)=some (.int .i64 y.tx.seq)∧w.cell? ((a.add (i*16)).add 9)=some (.int .i64 y.tx.wall)∧w.cell? ((a.add (i*16)).add 10)=some (.int .i64 y.tx.count)∧w.cell? ((a.add (i*16)).add 11)=some (.int .i64 y.tx.d0)∧w.cell? ((a.add (i*16)).add 12)=some (.int .i64 y.tx.d1)∧w.cell? ((a.add (i*16)).add 13)=some (.int .i64 y.tx.d2)∧w.cell? ((a.add (i*16)).add 14)=some (.int .i64 y.tx.d3)∧w.cell? ((a.add (i*16)).add 15)=some (.slice y.txA y.tx.ws.length y.txc))∧(Lit.int .i64 y.what).wf=true∧(Lit.int .i64 y.at_).wf=true∧(Lit.int .i64 y.key).wf=true∧(Lit.int .i64 y.now).wf=true∧y.wr.data.size≤maxLen∧WsAt w y.txA y.tx.ws∧y.tx.ws.length≤maxLen∧(Lit.int .i64 y.tx.site).wf=true∧(Lit.int .i64 y.tx.seq).wf=true:=by
   intro i hil
   obtain ⟨cs',h1,h2⟩:=hi i (by omega)
   obtain ⟨y,rfl,hrest⟩:=open_turn h2
   obtain ⟨_,_,hc⟩:=World.cells?_some h1
   have k0:=hc 0 (by simp)
   have e:(a.add (i*16)).add 0=a.add (i*16):=by simp [Addr.add]
   rw [e] at k0
   exact ⟨y,⟨k0,hc 1 (by simp),hc 2 (by simp),hc 3 (by simp),hc 4 (by simp),hc 5 (by simp),hc 6 (by simp),hc 7 (by simp),hc 8 (by simp),hc 9 (by simp),hc 10 (by simp),hc 11 (by simp),hc 12 (by simp),hc 13 (by simp),hc 14 (by simp),hc 15 (by simp)⟩,hrest⟩
  obtain ⟨Y,hY⟩:=Go.Deep.choose_lt (α:=TurnP) hy
  refine ⟨some a,cap0,(List.range len0).map Y,by simp,fun i x hx=>?_,by simp;omega⟩
  have hil:i<len0:=by
   have:=(List.getElem?_eq_some_iff.1 hx).1
   simpa using this
  have hx':Y i=x:=by simpa [List.getElem?_map,List.getElem?_range hil] using hx
  subst hx'
  obtain ⟨⟨k0,k1,k2,k3,k4,k5,k6,k7,k8,k9,k10,k11,k12,k13,k14,k15⟩,j1,j2,j3,j4,j5,j6,j7,j8,j9⟩:=hY i hil
  have k00:=(hY 0 (by omega)).1.1
  have hsp:=World.cell?_spot k00
  obtain ⟨b,o,spot⟩:=a
  have hspot:spot=none:=by simpa [Addr.add] using hsp
  subst hspot
  have e:∀ (j o:Nat),(⟨b,o,none⟩:Addr).add j=⟨b,o+j,none⟩:=fun j o=>by unfold Addr.add;split <;> simp_all
  simp only [e] at k0 k1 k2 k3 k4 k5 k6 k7 k8 k9 k10 k11 k12 k13 k14 k15
  exact ⟨⟨b,o,rfl,World.block_lt_of_cell? w _ k0,k0,k1,k2,k3,k4,k5,k6,k7,k8,k9,k10,k11,k12,k13,k14,k15⟩,j1,j2,j3,j4,j5,j6,j7,j8,j9,fun b2 o2 e2 e3=>by
   rcases List.exists_cons_of_ne_nil e3 with ⟨u,us,e4⟩
   obtain ⟨b3,o3,e5,hlt,_⟩:=j6 0 u (by rw [e4];rfl)
   rw [e2] at e5
   simp only [Option.some.injEq,Addr.mk.injEq] at e5
   obtain ⟨rfl,_⟩:=e5
   exact hlt⟩
end
end Go.Proofs.YtbopfhbeegkkaabGreatDoor
namespace Go.Proofs.YtbopfhbeegkkaabGreatDoor
open Go.RowKit
def findBlock (n:Nat):Code→Option Code
 | .block id c=>if id=n then some (.block id c) else findBlock n c
 | .seq a b=>match findBlock n a with
   | some c=>some c
   | none=>findBlock n b
 | .cond _ a b=>match findBlock n a with
   | some c=>some c
   | none=>findBlock n b
 | .loop c=>findBlock n c
 | .scope c=>findBlock n c
 | _=>none
noncomputable def sw4:Code:=(Tryz.f4.body.bind (findBlock 4)).getD .skip
set_option maxRecDepth 1000000 in
def L3J (w:World) (x y:Nat→Nat) (u v p q k j bx:Nat) (wh:Int) (f0 f1 f7 f8 f9 f11 f21 f22 f23 f24 f25 f26 f27 f28 f29 f30 f31 f32 f33 f34 f35 f36 f37 f38 f39 f40 f41 f42 f43 f44 f45 f46 f47 f48 f49 f50 f51:Value) (a:Act) (W:World):Prop:=
 ∃ u2 u13 u14 u15 u16 u17 u18 u19 u20 u52 u53 u54 u55 u56 u57 u58 u59 u60 u61 u62 u63 u64 u65 u66 u67 u68 u69 u70 u71 u72 u73 u74 u75 u76 u77 u78 u79 u80 u81 u82 u83 u85 u86 u87 u88 u89 u90 u91 u92 u93 u94 u95 u96 u97 u98 u99 u100 u101 u102 u103 u104 u105 u106 u107 u108 u109 u110 u111 u112 u113 u114 u115 u116 u117 u118 u119 u120 u121 u122 u123 u124 u125 u126 u127 u128 u129 u130 u131 u132 u133 u134 u135 u136 u137 u138 u139 u140 u141 u142 u143 u144 u145 u146 u147 u148 u149 u150 u151 u152 u153 u154 u155 u156 u157 u158 u159 u160 u161 u162 u163 u164 u165 u166 u167 u168 u169 u170 u171 u172 u173 u174 u175 u176 u177 u178 u179 u180 u181 u182 u183 u184 u185 u186 u187 u188 u189 u190 u191 u192 u193 u194 u195 u196 u197 u198 u199 u200 u201 u202 u203 u204 u205 u206 u207 u208 u209 u210 u211 u212 u213 u214 u215 u216 u217 u218 u219 u220 u221 u222:Value,(∃ (a':Nat→RSi) (d':SdP),d'.W.length≤j+1∧LE w W ⟨x,y,u,v,p,q,a',a',d',d'⟩ [])∧a=⟨#[f0,f1,u2,.pointer (some ⟨u,0,none⟩),.pointer (some ⟨v,0,none⟩),.pointer (some ⟨p,0,none⟩),.pointer (some ⟨q,0,none⟩),f7,f8,f9,.int .i64 (k:Int),f11,.pointer (some ⟨bx,0,none⟩),u13,u14,u15,u16,u17,u18,u19,u20,f21,f22,f23,f24,f25,f26,f27,f28,f29,f30,f31,f32,f33,f34,f35,f36,f37,f38,f39,f40,f41,f42,f43,f44,f45,f46,f47,f48,f49,f50,f51,u52,u53,u54,u55,u56,u57,u58,u59,u60,u61,u62,u63,u64,u65,u66,u67,u68,u69,u70,u71,u72,u73,u74,u75,u76,u77,u78,u79,u80,u81,u82,u83,.int .i64 wh,u85,u86,u87,u88,u89,u90,u91,u92,u93,u94,u95,u96,u97,u98,u99,u100,u101,u102,u103,u104,u105,u106,u107,u108,u109,u110,u111,u112,u113,u114,u115,u116,u117,u118,u119,u120,u121,u122,u123,u124,u125,u126,u127,u128,u129,u130,u131,u132,u133,u134,u135,u136,u137,u138,u139,u140,u141,u142,u143,u144,u145,u146,u147,u148,u149,u150,u151,u152,u153,u154,u155,u156,u157,u158,u159,u160,u161,u162,u163,u164,u165,u166,u167,u168,u169,u170,u171,u172,u173,u174,u175,u176,u177,u178,u179,u180,u181,u182,u183,u184,u185,u186,u187,u188,u189,u190,u191,u192,u193,u194,u195,u196,u197,u198,u199,u200,u201,u202,u203,u204,u205,u206,u207,u208,u209,u210,u211,u212,u213,u214,u215,u216,u217,u218,u219,u220,u221,u222],[]⟩
set_option maxRecDepth 1000000 in
set_option maxHeartbeats 32000000 in
theorem l3_begin {w wc:World} {x y:Nat→Nat} {u v p q k j bx:Nat} {a:Nat→RSi} {d:SdP} {at0 key now wk:Int} {wd:ByteArray} {wg:Bool} {site seq wall count d0 d1 d2 d3:Int} {ws:List WrP} {tA:Option Addr} {tc:Nat}
  {f0 f1 f7 f8 f9 f11 f21 f22 f23 f24 f25 f26 f27 f28 f29 f30 f31 f32 f33 f34 f35 f36 f37 f38 f39 f40 f41 f42 f43 f44 f45 f46 f47 f48 f49 f50 f51:Value} {s2 s13 s14 s15 s16 s17 s18 s19 s20 s52 s53 s54 s55 s56 s57 s58 s59 s60 s61 s62 s63 s64 s65 s66 s67 s68 s69 s70 s71 s72 s73 s74 s75 s76 s77 s78 s79 s80 s81 s82 s85 s86 s87 s88 s89 s90 s91 s92 s93 s94 s95 s96 s97 s98 s99 s100 s101 s102 s103 s104 s105 s106 s107 s108 s109 s110 s111 s112 s113 s114 s115 s116 s117 s118 s119 s120 s121 s122 s123 s124 s125 s126 s127 s128 s129 s130 s131 s132 s133 s134 s135 s136 s137 s138 s139 s140 s141 s142 s143 s144 s145 s146 s147 s148 s149 s150 s151 s152 s153 s154 s155 s156 s157 s158 s159 s160 s161 s162 s163 s164 s165 s166 s167 s168 s169 s170 s171 s172 s173 s174 s175 s176 s177 s178 s179 s180 s181 s182 s183 s184 s185 s186 s187 s188 s189 s190 s191 s192 s193 s194 s195 s196 s197 s198 s199 s200 s201 s202 s203 s204 s205 s206 s207 s208 s209 s210 s211 s212 s213 s214 s215 s216 s217 s218 s219 s220 s221 s222:Value} {K:Act→World→Prop} {Q:Exit→Act→World→Prop}
  (HG:Hid (EType w)) (HDW:Hid (d.W.length≤j)) (hn80:j<80) (HW0:Hid (WsAt w tA ws)) (HWF:Hid (wf64 site∧wf64 seq∧wf64 key)) (hw20:ws.length≤20) (hk:k<2)
  (HT:Hid (LE w wc ⟨x,y,u,v,p,q,a,a,d,d⟩ [obB bx (.cells #[.int .i64 0,.int .i64 at0,.int .i64 key,.int .i64 now,.int .i64 wk,.string wd,.bool wg,.int .i64 site,.int .i64 seq,.int .i64 wall,.int .i64 count,.int .i64 d0,.int .i64 d1,.int .i64 d2,.int .i64 d3,.slice tA ws.length tc] 85) w.heap.size]))
  (hK:∀ a' w',Met (L3J w x y u v p q k j bx 0 f0 f1 f7 f8 f9 f11 f21 f22 f23 f24 f25 f26 f27 f28 f29 f30 f31 f32 f33 f34 f35 f36 f37 f38 f39 f40 f41 f42 f43 f44 f45 f46 f47 f48 f49 f50 f51) a' w'→K a' w'):
  Code.wp Tryz.prog sw4 (Exit.then K Q) ⟨#[f0,f1,s2,.pointer (some ⟨u,0,none⟩),.pointer (some ⟨v,0,none⟩),.pointer (some ⟨p,0,none⟩),.pointer (some ⟨q,0,none⟩),f7,f8,f9,.int .i64 (k:Int),f11,.pointer (some ⟨bx,0,none⟩),s13,s14,s15,s16,s17,s18,s19,s20,f21,f22,f23,f24,f25,f26,f27,f28,f29,f30,f31,f32,f33,f34,f35,f36,f37,f38,f39,f40,f41,f42,f43,f44,f45,f46,f47,f48,f49,f50,f51,s52,s53,s54,s55,s56,s57,s58,s59,s60,s61,s62,s63,s64,s65,s66,s67,s68,s69,s70,s71,s72,s73,s74,s75,s76,s77,s78,s79,s80,s81,s82,.pointer (some ⟨bx,0,none⟩),.int .i64 0,s85,s86,s87,s88,s89,s90,s91,s92,s93,s94,s95,s96,s97,s98,s99,s100,s101,s102,s103,s104,s105,s106,s107,s108,s109,s110,s111,s112,s113,s114,s115,s116,s117,s118,s119,s120,s121,s122,s123,s124,s125,s126,s127,s128,s129,s130,s131,s132,s133,s134,s135,s136,s137,s138,s139,s140,s141,s142,s143,s144,s145,s146,s147,s148,s149,s150,s151,s152,s153,s154,s155,s156,s157,s158,s159,s160,s161,s162,s163,s164,s165,s166,s167,s168,s169,s170,s171,s172,s173,s174,s175,s176,s177,s178,s179,s180,s181,s182,s183,s184,s185,s186,s187,s188,s189,s190,s191,s192,s193,s194,s195,s196,s197,s198,s199,s200,s201,s202,s203,s204,s205,s206,s207,s208,s209,s210,s211,s212,s213,s214,s215,s216,s217,s218,s219,s220,s221,s222],[]⟩ wc:=by
 have hkd:decide ((k:Int)<2)=true:=decide_eq_true (by omega)
 have hk0:(0:Int)≤(k:Int):=by omega
 have hk2:(k:Int)<2:=by omega
 have hk3:(k:Int)≤2:=by omega
 have hbx:=HT.out.box (i:=0) rfl
 have q0:=cell_blk hbx 0;have q1:=cell_blk hbx 1;have q2:=cell_blk hbx 2;have q3:=cell_blk hbx 3;have q4:=cell_blk hbx 4;have q5:=cell_blk hbx 5;have q6:=cell_blk hbx 6;have q7:=cell_blk hbx 7;have q8:=cell_blk hbx 8;have q9:=cell_blk hbx 9;have q10:=cell_blk hbx 10;have q11:=cell_blk hbx 11;have q12:=cell_blk hbx 12;have q13:=cell_blk hbx 13;have q14:=cell_blk hbx 14;have q15:=cell_blk hbx 15
 simp only [zC,zD,zE] at q0 q1 q2 q3 q4 q5 q6 q7 q8 q9 q10 q11 q12 q13 q14 q15
 haveI:SzGe (bx+1) wc:=⟨lt_blk hbx⟩
 clear hbx
 conv=>arg 2;whnf
 obtain ⟨D,hD⟩:∃ D,dBegin d (a k).p0 (a k).p1 (a k).p2 (a k).p3=D:=⟨_,rfl⟩
 obtain ⟨z,hz⟩:∃ z,sdBeginE d (a k).p0 (a k).p1 (a k).p2 (a k).p3=z:=⟨_,rfl⟩
 have HDL:Hid (D.W.length≤d.W.length):=hidp (by rw [←hD];exact dBegin_len ..)
 have HP1:Hid (∀ W,LE w W ⟨x,y,u,v,p,q,a,a,d,d⟩ [obB bx (.cells #[.int .i64 0,.int .i64 at0,.int .i64 key,.int .i64 now,.int .i64 wk,.string wd,.bool wg,.int .i64 site,.int .i64 seq,.int .i64 wall,.int .i64 count,.int .i64 d0,.int .i64 d1,.int .i64 d2,.int .i64 d3,.slice tA ws.length tc] 85) w.heap.size]→Calls Tryz.prog 38 #[.pointer (some ⟨u,0,none⟩),.pointer (some ⟨x k,0,none⟩)] W fun e w'=>e=.returned (errV z)∧LE w w' ⟨x,y,u,v,p,q,a,a,D,d⟩ [obB bx (.cells #[.int .i64 0,.int .i64 at0,.int .i64 key,.int .i64 now,.int .i64 wk,.string wd,.bool wg,.int .i64 site,.int .i64 seq,.int .i64 wall,.int .i64 count,.int .i64 d0,.int .i64 d1,.int .i64 d2,.int .i64 d3,.slice tA ws.length tc] 85) w.heap.size]):=hidp (by subst hz hD;exact fun W h=>h.sBegin hk)
 have HP2:Hid (∀ W,LE w W ⟨x,y,u,v,p,q,a,a,D,d⟩ [obB bx (.cells #[.int .i64 0,.int .i64 at0,.int .i64 key,.int .i64 now,.int .i64 wk,.string wd,.bool wg,.int .i64 site,.int .i64 seq,.int .i64 wall,.int .i64 count,.int .i64 d0,.int .i64 d1,.int .i64 d2,.int .i64 d3,.slice tA ws.length tc] 85) w.heap.size]→Calls Tryz.prog 39 #[.pointer (some ⟨v,0,none⟩),.pointer (some ⟨y k,0,none⟩)] W fun e w'=>e=.returned (.int .i64 z)∧LE w w' ⟨x,y,u,v,p,q,a,a,D,D⟩ [obB bx (.cells #[.int .i64 0,.int .i64 at0,.int .i64 key,.int .i64 now,.int .i64 wk,.string wd,.bool wg,.int .i64 site,.int .i64 seq,.int .i64 wall,.int .i64 count,.int .i64 d0,.int .i64 d1,.int .i64 d2,.int .i64 d3,.slice tA ws.length tc] 85) w.heap.size]):=hidp (by subst hz hD;exact fun W h=>h.dBegin hk)
 clear hz hD
 have HSK:Hid (∀ (X:World) (aa bb:Nat→RSi) (dd ee:SdP),LE w X ⟨x,y,u,v,p,q,aa,bb,dd,ee⟩ [obB bx (.cells #[.int .i64 0,.int .i64 at0,.int .i64 key,.int .i64 now,.int .i64 wk,.string wd,.bool wg,.int .i64 site,.int .i64 seq,.int .i64 wall,.int .i64 count,.int .i64 d0,.int .i64 d1,.int .i64 d2,.int .i64 d3,.slice tA ws.length tc] 85) w.heap.size]→(X.cell? ⟨p,k,none⟩=some (.pointer (some ⟨x k,0,none⟩))∧X.cell? ⟨q,k,none⟩=some (.pointer (some ⟨y k,0,none⟩)))):=hidp (fun X aa bb dd ee h=>by
  have hx:=h.box (i:=0) rfl
  have hp:=h.bp
  have hq:=h.bq
  simp only [pp] at hp hq
  refine ⟨?_,?_⟩
  ·rw [cell_blk hp]
   have:k=0∨k=1:=by omega
   rcases this with rfl | rfl <;> rfl
  ·rw [cell_blk hq]
   have:k=0∨k=1:=by omega
   rcases this with rfl | rfl <;> rfl)
 clear q0 q1 q2 q3 q4 q5 q6 q7 q8 q9 q10 q11 q12 q13 q14 q15
 go_upto_region 26 with fail
 go_region_held3 (fun X:World=>X.cell? ⟨p,k,none⟩=some (.pointer (some ⟨x k,0,none⟩))∧X.cell? ⟨q,k,none⟩=some (.pointer (some ⟨y k,0,none⟩))) ((first | exact HSK.out _ _ _ _ _ H3.out | exact HSK.out _ _ _ _ _ H2.out | exact HSK.out _ _ _ _ _ H1.out | exact HSK.out _ _ _ _ _ (HT.out.below (by repeat (first | exact Below.refl _ _ | refine blw_alloc ?_ | refine blw_plus ?_ | refine Below.drew ?_))))) (
  first
  | (go_at_call 38
     refine (HP1.out _ (HT.out.below (by repeat (first | exact Below.refl _ _ | refine blw_alloc ?_ | refine blw_plus ?_ | refine Below.drew ?_)))).mono ?_
     rintro e w3 ⟨rfl,hb3⟩
     have H1:=hidp hb3
     clear hb3)
  | (go_at_call 39
     refine (HP2.out _ H1.out).mono ?_
     rintro e w4 ⟨rfl,hb4⟩
     have H2:=hidp hb4
     clear hb4)
  | (go_at_call 12
     refine (bareL_any z _ (HG.out.plus H2.out.low)).mono ?_
     rintro e w5 ⟨rfl,hb5⟩
     have H3:=hidp (H2.out.below hb5)
     clear hb5)
  | fail)
 all_goals
  go_wp2_with fail
  (refine Met.intro ?_;unfold L3J;(repeat apply Exists.intro);refine ⟨?rel,rfl⟩)
  exact ⟨a,D,by have:=HDL.out;have:=HDW.out;omega,(H3.out.below (by repeat (first | exact Below.refl _ _ | refine blw_alloc ?_ | refine blw_plus ?_ | refine Below.drew ?_))).nil⟩
end Go.Proofs.YtbopfhbeegkkaabGreatDoor
