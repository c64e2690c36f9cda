/- Part 15 of a proof: lemmas and contracts that other parts use. -/
import Derived.Test.YtbopfhbeegkkaabGreatDoorSe14
import Derived.RegionTactic
import Derived.Deep.RegionHeld3
set_option linter.unusedVariables false
set_option linter.unusedSimpArgs false
set_option linter.constructorNameAsVariable false
namespace Go.Proofs.YtbopfhbeegkkaabGreatDoor
open Go.RowKit
def SiP.setc (s:SiP) (i:Nat) (z:Int):SiP:=
 { s with p0:=if i=1 then z else s.p0,p1:=if i=2 then z else s.p1,p2:=if i=3 then z else s.p2,p3:=if i=4 then z else s.p3,lw:=if i=5 then z else s.lw,lc:=if i=6 then z else s.lc }
theorem cell_set {w:World} {x i j:Nat} {v u:Value} (h:w.cell? ⟨x,j,none⟩=some u):(w.setCell ⟨x,i,none⟩ v).cell? ⟨x,j,none⟩=some (if i=j then v else u):=by
 by_cases e:i=j
 ·subst e;rw [if_pos rfl];exact World.cell?_setCell_same _ _ _ h
 ·rw [if_neg e,World.cell?_setCell_other _ _ _ _ (by simp only [ne_eq,Addr.mk.injEq,not_and];omega)];exact h
theorem SiFr.setc {w:World} {x mb i:Nat} {lv:Value} {sv:Nat→Value} (v:Value):SiFr w (w.setCell ⟨x,i,none⟩ v) (SiOwn x mb lv sv) (SiOwn x mb lv sv):=
 ⟨rfl,rfl,rfl,by simp [World.setCell],fun k hk hn=>(grown_set w x i v).block k hk (by simp;exact fun e=>hn (.inl e)),fun _ h=>.inl h⟩
theorem SiAt.setc {w:World} {B x mb i:Nat} {s:SiP} {lv:Value} {sv:Nat→Value} (h:SiAt w B x s mb lv sv) (hi:1≤i∧i≤6) (z:Int):SiAt (w.setCell ⟨x,i,none⟩ (.int .i64 z)) B x (s.setc i z) mb lv sv:=by
 have hgs:=grown_set w x i (.int .i64 z)
 have hx:∀ b,b<w.heap.size→b≠x→(w.setCell ⟨x,i,none⟩ (.int .i64 z)).heap[b]?=w.heap[b]?:=fun b hb hne=>hgs.block b hb (by simp;exact hne)
 have hf:∀ k,(w.setCell ⟨x,i,none⟩ (.int .i64 z)).frozen? ⟨x,k,none⟩=w.frozen? ⟨x,k,none⟩:=fun k=>World.frozen?_setCell ..
 have hs:(w.setCell ⟨x,i,none⟩ (.int .i64 z)).heap.size=w.heap.size:=by simp [World.setCell]
 have t:∀ {j:Nat} {a:Int},w.cell? ⟨x,j,none⟩=some (.int .i64 a)→(w.setCell ⟨x,i,none⟩ (.int .i64 z)).cell? ⟨x,j,none⟩=some (.int .i64 (if i=j then z else a)):=fun {j a} hj=>by
  rw [cell_set hj]
  split <;> rfl
 refine ⟨?_,t h.c1,t h.c2,t h.c3,t h.c4,t h.c5,t h.c6,?_,?_,?_,fun k=>(hf k).trans (h.frz k),?_,?_,?_,h.bx,h.bm,h.dxm,h.dxl,h.dml,h.dms,h.dls,?_⟩
 ·have:=cell_set (i:=i) (v:=.int .i64 z) h.c0;rw [if_neg (by omega)] at this;exact this
 ·have:=cell_set (i:=i) (v:=.int .i64 z) h.c7;rw [if_neg (by omega)] at this;exact this
 ·have:=cell_set (i:=i) (v:=.int .i64 z) h.c8;rw [if_neg (by omega)] at this;exact this
 ·intro k hk
  have:=cell_set (i:=i) (v:=.int .i64 z) (h.oth k hk);rw [if_neg (by omega)] at this;exact this
 ·refine ⟨by rw [hs];exact h.sto.lt,fun k hk=>?_,fun k hk=>(hf _).trans (h.sto.frz k hk),fun k hk=>(h.sto.own k hk).kept hgs (.inr (h.sto.ng k hk)),h.sto.ng,h.sto.dis⟩
  have:=cell_set (i:=i) (v:=.int .i64 z) (h.sto.cel k hk);rw [if_neg (by omega)] at this;exact this
 ·exact h.row.kept hgs (.inr h.dxl)
 ·exact h.map.block (hx mb h.map.lt h.dxm)
 ·intro m hm
  obtain ⟨h1,h2⟩:=h.dat m hm
  exact ⟨h1.keep fun b o e=>hx b (h2 b o e).1 (fun e2=>(h2 b o e).2 (.inl e2)),fun b o e=>⟨by rw [hs];exact (h2 b o e).1,(h2 b o e).2⟩⟩
theorem SiAt.store {w w':World} {B x mb:Nat} {s:SiP} {lv:Value} {sv sv':Nat→Value} {st':Nat→List VerP} (h:SiAt w B x s mb lv sv) (hst:StAt w' x 9 B st' sv') (fr:StFr w w' x 9 sv sv'):
  SiAt w' B x { s with st:=st' } mb lv sv'∧SiFr w w' (SiOwn x mb lv sv) (SiOwn x mb lv sv'):=by
 have hso:∀ b,SiOwn x mb lv sv b→b<w.heap.size:=fun b hb=>(h.lt hb).2
 have hnew:∀ b,StOwn x sv' b→StOwn x sv b∨w.heap.size≤b:=fr.own
 have hnm:∀ k,k<8→(sv' k).ownBlock≠some mb:=by
  intro k hk e
  rcases fr.own mb (.inr ⟨k,hk,e⟩) with (e2 | ⟨j,hj,e2⟩) | e2
  ·exact h.dxm e2
  ·exact h.dms j hj e2
  ·have:=h.map.lt;omega
 have hnl:∀ k,k<8→∀ b,lv.ownBlock=some b→(sv' k).ownBlock≠some b:=by
  intro k hk b hb e
  have hbl:=(own_ge h.row hb).2
  rcases fr.own b (.inr ⟨k,hk,e⟩) with (e2 | ⟨j,hj,e2⟩) | e2
  ·subst e2;exact h.dxl hb
  ·exact h.dls j hj b hb e2
  ·omega
 have hrest:∀ b,b<w.heap.size→¬StOwn x sv b→w'.heap[b]?=w.heap[b]?:=fr.block
 have hcell:∀ k,k<9∨17≤k→w'.cell? ⟨x,k,none⟩=w.cell? ⟨x,k,none⟩:=fun k hk=>fr.rest k (by omega)
 have hmbs:¬StOwn x sv mb:=by
  rintro (e | ⟨k,hk,e⟩)
  ·exact h.dxm e
  ·exact h.dms k hk e
 have hlvs:∀ b,lv.ownBlock=some b→¬StOwn x sv b:=by
  rintro b hb (e | ⟨k,hk,e⟩)
  ·subst e;exact h.dxl hb
  ·exact h.dls k hk b hb e
 have hsub:∀ b,StOwn x sv b→SiOwn x mb lv sv b:=by
  rintro b (e | e)
  ·exact .inl e
  ·exact .inr (.inr (.inr e))
 refine ⟨⟨(hcell 0 (by omega)).trans h.c0,(hcell 1 (by omega)).trans h.c1,(hcell 2 (by omega)).trans h.c2,(hcell 3 (by omega)).trans h.c3,(hcell 4 (by omega)).trans h.c4,(hcell 5 (by omega)).trans h.c5,(hcell 6 (by omega)).trans h.c6,(hcell 7 (by omega)).trans h.c7,(hcell 8 (by omega)).trans h.c8,
  fun k hk=>(hcell _ (by omega)).trans (h.oth k hk),fun k=>(fr.frzd k).trans (h.frz k),hst,?_,h.map.block (hrest mb h.map.lt hmbs),h.bx,h.bm,h.dxm,h.dxl,h.dml,hnm,hnl,?_⟩,⟨fr.os,fr.tape,fr.output,fr.size,fun k hk hn=>hrest k hk (fun e=>hn (hsub k e)),?_⟩⟩
 ·obtain ⟨hl,hn | ⟨g,cap,cur,hv,hb,hg,rest⟩⟩:=h.row
  ·exact ⟨hl,.inl hn⟩
  ·exact ⟨hl,.inr ⟨g,cap,cur,hv,hb,by rw [hrest g (lt_blk hg) (hlvs g (by rw [hv];rfl))];exact hg,rest⟩⟩
 ·intro m hm
  obtain ⟨h1,h2⟩:=h.dat m hm
  refine ⟨h1.keep fun b o e=>hrest b (h2 b o e).1 (fun e2=>(h2 b o e).2 (hsub b e2)),fun b o e=>⟨Nat.lt_of_lt_of_le (h2 b o e).1 fr.size,?_⟩⟩
  have hb:=h2 b o e
  rintro (e2 | e2 | e2 | ⟨k,hk,e2⟩)
  ·exact hb.2 (.inl e2)
  ·exact hb.2 (.inr (.inl e2))
  ·exact hb.2 (.inr (.inr (.inl e2)))
  ·rcases hnew b (.inr ⟨k,hk,e2⟩) with e3 | e3
   ·exact hb.2 (hsub b e3)
   ·omega
 ·rintro b (e2 | e2 | e2 | ⟨k,hk,e2⟩)
  ·exact .inl (.inl e2)
  ·exact .inl (.inr (.inl e2))
  ·exact .inl (.inr (.inr (.inl e2)))
  ·rcases hnew b (.inr ⟨k,hk,e2⟩) with e3 | e3
   ·exact .inl (hsub b e3)
   ·exact .inr e3
theorem SiAt.logged {w w1:World} {B x mb:Nat} {s:SiP} {lv lv':Value} {sv:Nat→Value} {m:MTx} (h:SiAt w B x s mb lv sv) (hg:w.grownBy w1 lv.ownBlock)
  (hown:w1.ownsRow B 44 9 lv' (s.log++[m]).length ((s.log++[m]).flatMap MTx.cells)) (hv:lv'.ownBlock=lv.ownBlock∨∀ b,lv'.ownBlock=some b→w.heap.size≤b)
  (hm:WsAt w m.A m.t.ws∧∀ b o,m.A=some ⟨b,o,none⟩→b<w.heap.size∧¬SiOwn x mb lv sv b):
  SiAt (w1.setCell ⟨x,7,none⟩ lv') B x { s with log:=s.log++[m] } mb lv' sv∧SiFr w (w1.setCell ⟨x,7,none⟩ lv') (SiOwn x mb lv sv) (SiOwn x mb lv' sv):=by
 have hgs:=grown_set w1 x 7 lv'
 have hxb:w1.heap[x]?=w.heap[x]?:=hg.block x h.sto.lt (fun e=>h.dxl e.symm)
 have hc1:∀ j,w1.cell? ⟨x,j,none⟩=w.cell? ⟨x,j,none⟩:=fun j=>World.cell?_of_block hxb
 have hf:∀ k,(w1.setCell ⟨x,7,none⟩ lv').frozen? ⟨x,k,none⟩=w.frozen? ⟨x,k,none⟩:=fun k=>(World.frozen?_setCell ..).trans (World.frozen?_of_block hxb)
 have hs:(w1.setCell ⟨x,7,none⟩ lv').heap.size=w1.heap.size:=by simp [World.setCell]
 have hbl:∀ b,b<w.heap.size→b≠x→lv.ownBlock≠some b→(w1.setCell ⟨x,7,none⟩ lv').heap[b]?=w.heap[b]?:=fun b hb h1 h2=>by
  rw [hgs.block b (by have:=hg.size;omega) (by simp;exact h1)]
  exact hg.block b hb (fun e=>h2 e.symm)
 have t:∀ {j:Nat} {u:Value},j≠7→w.cell? ⟨x,j,none⟩=some u→(w1.setCell ⟨x,7,none⟩ lv').cell? ⟨x,j,none⟩=some u:=fun {j u} hj hu=>by
  have:=cell_set (i:=7) (v:=lv') ((hc1 j).trans hu)
  rw [if_neg (by omega)] at this;exact this
 have hlx:lv'.ownBlock≠some x:=by
  rcases hv with e | e
  ·rw [e];exact h.dxl
  ·intro e2;have:=e x e2;have:=h.sto.lt;omega
 have hlm:lv'.ownBlock≠some mb:=by
  rcases hv with e | e
  ·rw [e];exact h.dml
  ·intro e2;have:=e mb e2;have:=h.map.lt;omega
 have hls:∀ k,k<8→∀ b,lv'.ownBlock=some b→(sv k).ownBlock≠some b:=by
  intro k hk b hb e2
  rcases hv with e | e
  ·rw [e] at hb;exact h.dls k hk b hb e2
  ·have:=e b hb;have:=(own_ge (h.sto.own k hk) e2).2;omega
 have hkr:∀ k,k<8→w1.ownsRow B 59 6 (sv k) (s.st k).length (rowOf (s.st k)):=fun k hk=>(h.sto.own k hk).kept hg (by
  cases hb:lv.ownBlock with
  | none=>
    cases hk2:(sv k).ownBlock with
    | none=>exact .inl rfl
    | some b=>exact .inr (by simp)
  | some b=>
    cases hk2:(sv k).ownBlock with
    | none=>exact .inl rfl
    | some b'=>exact .inr (fun e=>by simp at e;subst e;exact h.dls k hk b' hb hk2))
 have hdata:∀ m':MTx,(WsAt w m'.A m'.t.ws∧∀ b o,m'.A=some ⟨b,o,none⟩→b<w.heap.size∧¬SiOwn x mb lv sv b)→WsAt (w1.setCell ⟨x,7,none⟩ lv') m'.A m'.t.ws∧∀ b o,m'.A=some ⟨b,o,none⟩→b<(w1.setCell ⟨x,7,none⟩ lv').heap.size∧¬SiOwn x mb lv' sv b:=by
  rintro m' ⟨h1,h2⟩
  refine ⟨h1.keep fun b o e=>hbl b (h2 b o e).1 (fun e2=>(h2 b o e).2 (.inl e2)) (fun e2=>(h2 b o e).2 (.inr (.inr (.inl e2)))),fun b o e=>⟨by rw [hs];have:=hg.size;have:=(h2 b o e).1;omega,?_⟩⟩
  have hb:=h2 b o e
  rintro (e2 | e2 | e2 | e2)
  ·exact hb.2 (.inl e2)
  ·exact hb.2 (.inr (.inl e2))
  ·rcases hv with e3 | e3
   ·exact hb.2 (.inr (.inr (.inl (e3 ▸ e2))))
   ·have:=e3 b e2;omega
  ·exact hb.2 (.inr (.inr (.inr e2)))
 refine ⟨⟨t (by omega) h.c0,t (by omega) h.c1,t (by omega) h.c2,t (by omega) h.c3,t (by omega) h.c4,t (by omega) h.c5,t (by omega) h.c6,World.cell?_setCell_same _ _ _ ((hc1 7).trans h.c7),t (by omega) h.c8,fun k hk=>t (by omega) (h.oth k hk),fun k=>(hf k).trans (h.frz k),?_,hown.kept hgs (.inr hlx),?_,h.bx,h.bm,h.dxm,hlx,hlm,h.dms,hls,?_⟩,
  ⟨hg.os,hg.tape,hg.output,by rw [hs];exact hg.size,fun k hk hn=>hbl k hk (fun e=>hn (.inl e)) (fun e=>hn (.inr (.inr (.inl e)))),?_⟩⟩
 ·exact ⟨by rw [hs];have:=hg.size;have:=h.sto.lt;omega,fun k hk=>t (by omega) (h.sto.cel k hk),fun k hk=>(hf _).trans (h.sto.frz k hk),fun k hk=>(hkr k hk).kept hgs (.inr (h.sto.ng k hk)),h.sto.ng,h.sto.dis⟩
 ·exact h.map.block (hbl mb h.map.lt h.dxm h.dml)
 ·intro m' hm'
  rcases hm' with hm' | hm'
  ·rcases List.mem_append.1 hm' with hm' | hm'
   ·exact hdata m' (h.dat m' (.inl hm'))
   ·simp only [List.mem_singleton] at hm';subst hm';exact hdata m' hm
  ·exact hdata m' (h.dat m' (.inr hm'))
 ·rintro b (e2 | e2 | e2 | e2)
  ·exact .inl (.inl e2)
  ·exact .inl (.inr (.inl e2))
  ·rcases hv with e3 | e3
   ·exact .inl (.inr (.inr (.inl (e3 ▸ e2))))
   ·exact .inr (e3 b e2)
  ·exact .inl (.inr (.inr (.inr e2)))
instance : Inhabited WrP := ⟨⟨0, ⟨#[]⟩, false⟩⟩
def verOf (t:TxP) (w:WrP):VerP:=⟨t.wall,t.count,t.site,t.seq,w.data,w.gone⟩
def stPut (st:Nat→List VerP) (t:TxP):Nat→Nat→List VerP
 | 0=>st
 | j+1=>putP (stPut st t j) ⟨(t.ws.getD j default).key,verOf t (t.ws.getD j default)⟩
theorem stPut_fit {st:Nat→List VerP} {N:Nat} (h:Fit st N) (t:TxP):∀ j,Fit (stPut st t j) (N+j)
 | 0=>h
 | j+1=>(stPut_fit h t j).put _
def laterW (aw ac bw bc:Int):Int:=if cmpS aw ac bw bc<0 then bw else aw
def laterC (aw ac bw bc:Int):Int:=if cmpS aw ac bw bc<0 then bc else ac
theorem later_is (aw ac bw bc:Int) (w:World):Calls Tryz.prog 137 #[.agg #[.int .i64 aw,.int .i64 ac],.agg #[.int .i64 bw,.int .i64 bc]] w fun e w'=>e=.returned (.agg #[.int .i64 (laterW aw ac bw bc),.int .i64 (laterC aw ac bw bc)])∧Below w.heap.size w w':=by
 have:=later_any aw ac bw bc w
 unfold laterW laterC
 split at this <;> rename_i h
 ·rw [if_pos h,if_pos h];exact this
 ·rw [if_neg h,if_neg h];exact this
def applyP (s:SiP) (m:MTx):SiP:=
 { ((({ s with st:=stPut s.st m.t m.t.ws.length }:SiP).setc (1+m.t.site.toNat) m.t.seq).setc 5 (laterW s.lw s.lc m.t.wall m.t.count)).setc 6 (laterC s.lw s.lc m.t.wall m.t.count) with log:=s.log++[m] }
theorem info40o:(Tryz.prog.info? 44).map (fun i=>(i.zero,i.size,i.bytes))=some (some txZero,9,88):=by kernel_rfl
theorem info40:∃ i,Tryz.prog.info? 44=some i∧i.zero=some txZero∧i.size=9∧i.bytes=88:=by
 obtain ⟨i,hi,h⟩:=Option.map_eq_some_iff.1 info40o
 simp only [Prod.mk.injEq] at h
 exact ⟨i,hi,h.1,h.2.1,h.2.2⟩
theorem mcells_len (l:List MTx):(l.flatMap MTx.cells).length=l.length*9:=by
 induction l with
 | nil=>rfl
 | cons x l ih=>simp only [List.flatMap_cons,List.length_append,MTx.cells,List.length_cons,List.length_nil] at ih ⊢;omega
set_option maxRecDepth 20000 in
set_option maxHeartbeats 16000000 in
theorem applies_any (B x mb:Nat) (s:SiP) (lv:Value) (sv:Nat→Value) (m:MTx) (N:Nat) (w:World) (h:SiAt w B x s mb lv sv)
  (hm:WsAt w m.A m.t.ws∧∀ b o,m.A=some ⟨b,o,none⟩→b<w.heap.size∧¬SiOwn x mb lv sv b) (hsite:0≤m.t.site∧m.t.site<4) (hf:Fit s.st N) (hN:N≤800000) (hl:s.log.length≤100000) (hw:m.t.ws.length≤1000):
  Calls Tryz.prog 80 #[.pointer (some ⟨x,0,none⟩),MTx.val m] w fun e w'=>e=.returned (.tuple #[])∧∃ lv' sv',SiAt w' B x (applyP s m) mb lv' sv'∧SiFr w w' (SiOwn x mb lv sv) (SiOwn x mb lv' sv'):=by
 obtain ⟨⟨site,seq,wall,count,d0,d1,d2,d3,ws⟩,A,c⟩:=m
 obtain ⟨Al,cl,rfl⟩:=own_form h.row
 simp only at hm hsite hw
 obtain ⟨st,rfl⟩:=Int.eq_ofNat_of_zero_le hsite.1
 have hst4:st<4:=by omega
 have hBw:Below w.heap.size w (w.alloc (.cells #[.int .i64 (st:Int),.int .i64 seq,.int .i64 wall,.int .i64 count,.int .i64 d0,.int .i64 d1,.int .i64 d2,.int .i64 d3,.slice A ws.length c] 44)):=blw_alloc (Below.refl _ _)
 have HS0:=hidp (h.below hBw)
 have HFR0:=hidp (SiFr.of_below (SiOwn x mb (.slice Al s.log.length cl) sv) hBw)
 have HM0:=hidp (show WsAt (w.alloc (.cells #[.int .i64 (st:Int),.int .i64 seq,.int .i64 wall,.int .i64 count,.int .i64 d0,.int .i64 d1,.int .i64 d2,.int .i64 d3,.slice A ws.length c] 44)) A ws∧∀ b o,A=some ⟨b,o,none⟩→b<(w.alloc (.cells #[.int .i64 (st:Int),.int .i64 seq,.int .i64 wall,.int .i64 count,.int .i64 d0,.int .i64 d1,.int .i64 d2,.int .i64 d3,.slice A ws.length c] 44)).heap.size∧¬SiOwn x mb (.slice Al s.log.length cl) sv b from ⟨hm.1.below hBw,fun b o e=>⟨Nat.lt_of_lt_of_le (hm.2 b o e).1 hBw.size,(hm.2 b o e).2⟩⟩)
 have HBX:=hidp (show (w.alloc (.cells #[.int .i64 (st:Int),.int .i64 seq,.int .i64 wall,.int .i64 count,.int .i64 d0,.int .i64 d1,.int .i64 d2,.int .i64 d3,.slice A ws.length c] 44)).heap[w.heap.size]?=some (.cells #[.int .i64 (st:Int),.int .i64 seq,.int .i64 wall,.int .i64 count,.int .i64 d0,.int .i64 d1,.int .i64 d2,.int .i64 d3,.slice A ws.length c] 44) from blk_new rfl _)
 have HNO:=hidp (show ¬SiOwn x mb (.slice Al s.log.length cl) sv w.heap.size from fun e=>by have:=(h.lt e).2;omega)
 have HB:=hidp (Nat.le_trans h.bx (Nat.le_of_lt h.sto.lt))
 have HF:=hidp hf
 have hbs:(w.alloc (.cells #[.int .i64 (st:Int),.int .i64 seq,.int .i64 wall,.int .i64 count,.int .i64 d0,.int .i64 d1,.int .i64 d2,.int .i64 d3,.slice A ws.length c] 44)).heap.size=w.heap.size+1:=by simp
 have HSZ:=hidp hbs
 clear h hm hBw hf hbs
 unfold MTx.val
 go_enter Tryz.func80,Tryz.ntmps80
 go_wp2_with fail
 generalize w.alloc (.cells #[.int .i64 (st:Int),.int .i64 seq,.int .i64 wall,.int .i64 count,.int .i64 d0,.int .i64 d1,.int .i64 d2,.int .i64 d3,.slice A ws.length c] 44)=wo at *
 go_loopw [9] (fun i wr=>∃ (j:Nat) (sv':Nat→Value),i=.int .i64 j∧j≤ws.length∧SiAt wr B x { s with st:=stPut s.st (⟨(st:Int),seq,wall,count,d0,d1,d2,d3,ws⟩:TxP) j } mb (.slice Al s.log.length cl) sv'∧SiFr wo wr (SiOwn x mb (.slice Al s.log.length cl) sv) (SiOwn x mb (.slice Al s.log.length cl) sv')) (fun i _=>ws.length-(intOf i).toNat)
 case atStart=>exact ⟨0,sv,rfl,Nat.zero_le _,HS0.out,SiFr.of_below _ (Below.refl _ _)⟩
 case round=>
  obtain ⟨j,sv1,rfl,hj,hs,hfr⟩:=hrel
  have HS:=hidp hs
  have HFR:=hidp hfr
  have hbx:wr.heap[w.heap.size]?=some (.cells #[.int .i64 (st:Int),.int .i64 seq,.int .i64 wall,.int .i64 count,.int .i64 d0,.int .i64 d1,.int .i64 d2,.int .i64 d3,.slice A ws.length c] 44):=(hfr.block _ (lt_blk HBX.out) HNO.out).trans HBX.out
  have e0:=cell_blk hbx 0;have e1:=cell_blk hbx 1;have e2:=cell_blk hbx 2;have e3:=cell_blk hbx 3;have e4:=cell_blk hbx 4;have e5:=cell_blk hbx 5;have e6:=cell_blk hbx 6;have e7:=cell_blk hbx 7;have e8:=cell_blk hbx 8
  simp only [zC,zD,zE] at e0 e1 e2 e3 e4 e5 e6 e7 e8
  haveI:SzGe (w.heap.size+1) wr:=⟨lt_blk hbx⟩
  have hszr:=hfr.size
  clear hs hfr hbx
  by_cases hjl:j<ws.length
  ·obtain ⟨hws,hwo⟩:=HM0.out
   obtain ⟨b,o,rfl,hb,k0,k1,k2⟩:=hws j ws[j] (List.getElem?_eq_getElem hjl)
   have hgd:ws.getD j default=ws[j]:=by simp [List.getD,List.getElem?_eq_getElem hjl]
   have HX:Hid (stPut s.st (⟨(st:Int),seq,wall,count,d0,d1,d2,d3,ws⟩:TxP) (j+1)=(putR (stPut s.st (⟨(st:Int),seq,wall,count,d0,d1,d2,d3,ws⟩:TxP) j) (ws[j]).key ⟨wall,count,(st:Int),seq,(ws[j]).data,(ws[j]).gone⟩).2):=hidp (by
    show putP _ ⟨(ws.getD j default).key,_⟩=_
    rw [hgd];rfl)
   have hbw:=HFR.out.block b (hwo b o rfl).1 (hwo b o rfl).2
   rw [←World.cell?_of_block hbw] at k0 k1 k2
   haveI:SzGe (b+1) wr:=⟨Nat.lt_of_lt_of_le (hwo b o rfl).1 hszr⟩
   generalize ws[j]=y at *
   obtain ⟨yk,yd,yg⟩:=y
   simp only at k0 k1 k2
   simp only at HX
   have HFJ:=hidp ((stPut_fit HF.out (⟨(st:Int),seq,wall,count,d0,d1,d2,d3,ws⟩:TxP) j).mono (M:=900000) (by omega))
   have HPT:=hidp fun W (hW:SiAt W B x { s with st:=stPut s.st (⟨(st:Int),seq,wall,count,d0,d1,d2,d3,ws⟩:TxP) j } mb (.slice Al s.log.length cl) sv1)=>putS_any x 9 B _ sv1 yk ⟨wall,count,(st:Int),seq,yd,yg⟩ W hW.sto (fun k hk=>(HFJ.out k hk).1) (fun k hk=>(HFJ.out k hk).2) (Nat.le_trans hW.bx (Nat.le_of_lt hW.sto.lt))
   clear hws hwo hgd hbw hb
   go_wp2_with fail
   refine wp_region_plus_tail 16 (by kernel_rfl) (by kernel_rfl) ?_
   simp only [List.take_succ_cons,List.take_zero,List.drop_succ_cons,List.drop_zero]
   repeat (first | go_big_quiet_skip | (go_big_quiet_want;go_big_quiet_op;go_big_quiet_on))
   refine wpQuiet_nil ?_
   rintro _ ⟨x3,rfl⟩
   go_wp2_with fail
   have HCU:=hidp (HS.out.below (show Below wr.heap.size wr (wplus (wr.alloc (.cells #[.int .i64 yk,.string yd,.bool yg] 83)) x3) from zB))
   have HFU:=hidp (HFR.out.trans (SiFr.of_below (SiOwn x mb (.slice Al s.log.length cl) sv1) (show Below wr.heap.size wr (wplus (wr.alloc (.cells #[.int .i64 yk,.string yd,.bool yg] 83)) x3) from zB)))
   go_at_call 136
   refine (HPT.out _ HCU.out).mono ?_
   rintro e w2 ⟨sv2,rfl,hst2,hfr2⟩
   have HN2:=hidp (HCU.out.store hst2 hfr2)
   clear hst2 hfr2 HPT
   go_wp2_with fail
   go_roundw
   case rel=>
    refine ⟨j+1,sv2,by go_num,by omega,?_,HFU.out.trans HN2.out.2⟩
    rw [HX.out]
    exact HN2.out.1
   case measure=>simp [intOf];omega
  ·obtain rfl:j=ws.length:=by omega
   have hxr:=HS.out.sto.lt
   haveI:SzGe (x+1) wr:=⟨hxr⟩
   obtain ⟨zu,hzu⟩:∃ zu,wr.cell? ⟨x,1+st,none⟩=some (.int .i64 zu):=by
    obtain ⟨v1,v2,v3,v4⟩:=HS.out.vec
    have hc:st=0∨st=1∨st=2∨st=3:=by omega
    rcases hc with rfl | rfl | rfl | rfl
    ·exact ⟨_,v1⟩
    ·exact ⟨_,v2⟩
    ·exact ⟨_,v3⟩
    ·exact ⟨_,v4⟩
   have hzf:=HS.out.frz (1+st)
   go_wp2_with fail
   refine wp_region_plus_tail 7 (by kernel_rfl) (by kernel_rfl) ?_
   simp only [List.take_succ_cons,List.take_zero,List.drop_succ_cons,List.drop_zero]
   repeat (first | go_big_quiet_skip | (go_big_quiet_want;go_big_quiet_op;go_big_quiet_on))
   refine wpQuiet_nil ?_
   rintro _ ⟨x3,rfl⟩
   go_wp2_with fail
   have HS6:=hidp ((HS.out.setc (i:=1+st) (by omega) seq).below (below_wplus _ x3))
   have HF6:=hidp ((HFR.out.trans (SiFr.setc (i:=1+st) (.int .i64 seq))).trans (SiFr.of_below (SiOwn x mb (.slice Al s.log.length cl) sv1) (below_wplus _ x3)))
   clear e0 e1 e2 e3 e4 e5 e6 e7 e8 hzu hzf
   generalize wplus (wr.setCell ⟨x,1+st,none⟩ (.int .i64 seq)) x3=w6 at *
   obtain ⟨s6,hs6⟩:∃ s6,SiP.setc ({ s with st:=stPut s.st (⟨(st:Int),seq,wall,count,d0,d1,d2,d3,ws⟩:TxP) ws.length }:SiP) (1+st) seq=s6:=⟨_,rfl⟩
   have hlw:s6.lw=s.lw:=by rw [←hs6];simp [SiP.setc];omega
   have hlc:s6.lc=s.lc:=by rw [←hs6];simp [SiP.setc];omega
   have hlg:s6.log=s.log:=by rw [←hs6];rfl
   have hst6:s6.st=stPut s.st (⟨(st:Int),seq,wall,count,d0,d1,d2,d3,ws⟩:TxP) ws.length:=by rw [←hs6];rfl
   rw [hs6] at HS6
   have HS6E:=hidp hs6
   have HLG:=hidp hlg
   have a5:=HS6.out.c5
   have a6:=HS6.out.c6
   rw [hlw] at a5
   rw [hlc] at a6
   have g5:=HS6.out.frz 5;have g6:=HS6.out.frz 6
   have hx6:=HS6.out.sto.lt
   haveI:SzGe (x+1) w6:=⟨hx6⟩
   clear hs6 hlw hlc hlg hst6
   have HLT:=hidp fun w=>later_is s.lw s.lc wall count w
   generalize hLW:laterW s.lw s.lc wall count=LW at *
   generalize hLC:laterC s.lw s.lc wall count=LC at *
   have HLW:=hidp hLW
   have HLC:=hidp hLC
   clear hLW hLC
   have hbx6:w6.heap[w.heap.size]?=some (.cells #[.int .i64 (st:Int),.int .i64 seq,.int .i64 wall,.int .i64 count,.int .i64 d0,.int .i64 d1,.int .i64 d2,.int .i64 d3,.slice A ws.length c] 44):=(HF6.out.block _ (lt_blk HBX.out) HNO.out).trans HBX.out
   have e0:=cell_blk hbx6 0;have e1:=cell_blk hbx6 1;have e2:=cell_blk hbx6 2;have e3:=cell_blk hbx6 3;have e4:=cell_blk hbx6 4;have e5:=cell_blk hbx6 5;have e6:=cell_blk hbx6 6;have e7:=cell_blk hbx6 7;have e8:=cell_blk hbx6 8
   simp only [zC,zD,zE] at e0 e1 e2 e3 e4 e5 e6 e7 e8
   haveI:SzGe (w.heap.size+1) w6:=⟨lt_blk hbx6⟩
   clear hbx6
   go_wp2_with fail
   refine wp_region_plus_tail 8 (by kernel_rfl) (by kernel_rfl) ?_
   simp only [List.take_succ_cons,List.take_zero,List.drop_succ_cons,List.drop_zero]
   repeat (first | go_big_quiet_skip | (go_big_quiet_want;go_big_quiet_op;first | go_big_quiet_on | (apply Exists.intro;refine ⟨fun _=>?_,?_⟩;(go_at_call 137;exact Calls.plus_of (HLT.out _));go_big_quiet_on)))
   refine wpQuiet_nil ?_
   rintro _ ⟨x4,rfl⟩
   go_wp2_with fail
   have HS7:=hidp (((HS6.out.setc (i:=5) (by omega) LW).setc (i:=6) (by omega) LC).below (below_wplus _ x4))
   have HF7:=hidp (((HF6.out.trans (SiFr.setc (i:=5) (.int .i64 LW))).trans (SiFr.setc (i:=6) (.int .i64 LC))).trans (SiFr.of_below (SiOwn x mb (.slice Al s.log.length cl) sv1) (below_wplus _ x4)))
   clear e0 e1 e2 e3 e4 e5 e6 e7 e8 a5 a6 g5 g6
   generalize wplus ((w6.setCell ⟨x,5,none⟩ (.int .i64 LW)).setCell ⟨x,6,none⟩ (.int .i64 LC)) x4=w7 at *
   have hM7:WsAt w7 A ws∧∀ b o,A=some ⟨b,o,none⟩→b<w7.heap.size∧¬SiOwn x mb (.slice Al s.log.length cl) sv1 b:=by
    obtain ⟨h1,h2⟩:=HM0.out
    have h3:=HF7.out.size
    refine ⟨h1.keep fun b o e=>HF7.out.block b (h2 b o e).1 (h2 b o e).2,fun b o e=>⟨Nat.lt_of_lt_of_le (h2 b o e).1 h3,fun e2=>?_⟩⟩
    rcases HF7.out.own b e2 with e3 | e3
    ·exact (h2 b o e).2 e3
    ·have:=(h2 b o e).1;omega
   have HM7:=hidp hM7
   clear hM7
   have HRW:=HS7.out.row
   rw [show ((s6.setc 5 LW).setc 6 LC).log=s6.log from rfl,HLG.out] at HRW
   have HOW:=hidp HRW
   clear HRW
   have k7:=HS7.out.c7
   have z7:=HS7.out.frz 7
   have hx7:=HS7.out.sto.lt
   haveI:SzGe (x+1) w7:=⟨hx7⟩
   have hB7:B≤w7.heap.size:=Nat.le_trans HS7.out.bx (Nat.le_of_lt hx7)
   have hbx7:w7.heap[w.heap.size]?=some (.cells #[.int .i64 (st:Int),.int .i64 seq,.int .i64 wall,.int .i64 count,.int .i64 d0,.int .i64 d1,.int .i64 d2,.int .i64 d3,.slice A ws.length c] 44):=(HF7.out.block _ (lt_blk HBX.out) HNO.out).trans HBX.out
   have e0:=cell_blk hbx7 0;have e1:=cell_blk hbx7 1;have e2:=cell_blk hbx7 2;have e3:=cell_blk hbx7 3;have e4:=cell_blk hbx7 4;have e5:=cell_blk hbx7 5;have e6:=cell_blk hbx7 6;have e7:=cell_blk hbx7 7;have e8:=cell_blk hbx7 8
   simp only [zC,zD,zE] at e0 e1 e2 e3 e4 e5 e6 e7 e8
   haveI:SzGe (w.heap.size+1) w7:=⟨lt_blk hbx7⟩
   clear hbx7
   obtain ⟨i0,hi0,hz0,hz1,hz2⟩:=info40
   have HN1:∀ u∈([.int .i64 (st:Int),.int .i64 seq,.int .i64 wall,.int .i64 count,.int .i64 d0,.int .i64 d1,.int .i64 d2,.int .i64 d3,.slice A ws.length c]:List Value),u.oneCell'=true:=by
    intro u hu;simp at hu;rcases hu with rfl | rfl | rfl | rfl | rfl | rfl | rfl | rfl | rfl <;> rfl
   have h63:s.log.length+1≤maxLen:=by refine Nat.le_trans ?_ maxLen_ge;omega
   have hby:(s.log.length+1)*88≤140737488355328:=by omega
   have HROW:Hid (∀ (W:World) (v:Value) (n:Nat),W.ownsRow B 44 9 v n (s.log.flatMap MTx.cells++[.int .i64 (st:Int),.int .i64 seq,.int .i64 wall,.int .i64 count,.int .i64 d0,.int .i64 d1,.int .i64 d2,.int .i64 d3,.slice A ws.length c])→n=s.log.length+1→W.ownsRow B 44 9 v (s.log++[(⟨⟨(st:Int),seq,wall,count,d0,d1,d2,d3,ws⟩,A,c⟩:MTx)]).length ((s.log++[(⟨⟨(st:Int),seq,wall,count,d0,d1,d2,d3,ws⟩,A,c⟩:MTx)]).flatMap MTx.cells)):=hidp (by
    intro W v n h hn
    have hrow:s.log.flatMap MTx.cells++[.int .i64 (st:Int),.int .i64 seq,.int .i64 wall,.int .i64 count,.int .i64 d0,.int .i64 d1,.int .i64 d2,.int .i64 d3,.slice A ws.length c]=(s.log++[(⟨⟨(st:Int),seq,wall,count,d0,d1,d2,d3,ws⟩,A,c⟩:MTx)]).flatMap MTx.cells:=by rw [List.flatMap_append];rfl
    have hle:(s.log++[(⟨⟨(st:Int),seq,wall,count,d0,d1,d2,d3,ws⟩,A,c⟩:MTx)]).length=s.log.length+1:=by simp
    rw [hle,←hn,←hrow];exact h)
   go_wp2_with fail
   go_region_law (
    refine step_append_lies _ rfl (.tmp 53) (.tmp 55) 35 rfl B 44 i0 txZero 9 88 Tryz.underlying35 hi0 hz0 hz1 hz2 rfl (by decide) (.slice Al s.log.length cl) s.log.length (s.log.flatMap MTx.cells) (by simp [Act.eval,Act.put]) (own_below HOW.out (by repeat (first | exact Below.refl _ _ | refine blw_alloc ?_ | refine blw_plus ?_ | refine Below.drew ?_)) (fun k e=>(own_ge HOW.out e).2)) ⟨w7.heap.size,0,none⟩ 1 1 [.int .i64 (st:Int),.int .i64 seq,.int .i64 wall,.int .i64 count,.int .i64 d0,.int .i64 d1,.int .i64 d2,.int .i64 d3,.slice A ws.length c] (by simp [Act.eval,Act.put]) rfl (World.news_of_block (cs:=#[.int .i64 (st:Int),.int .i64 seq,.int .i64 wall,.int .i64 count,.int .i64 d0,.int .i64 d1,.int .i64 d2,.int .i64 d3,.slice A ws.length c]) (by (try rw [heap_drew]);rw [heap_alloc,if_pos (by simp [heap_drew])])) HN1 (by decide) h63 hby (by simp;omega) _ rfl ?_
    intro g1 cap1 w8 hown1 hgrow hgl hlt1
    have hg:=grown_alloc (grown_drew hgrow)
    have hlog:=SiAt.logged (m:=(⟨⟨(st:Int),seq,wall,count,d0,d1,d2,d3,ws⟩,A,c⟩:MTx)) HS7.out hg (by rw [show ((s6.setc 5 LW).setc 6 LC).log=s6.log from rfl,HLG.out];exact HROW.out _ _ _ hown1 rfl) (by
     rcases hgl with e | e
     ·exact .inl (by rw [e];rfl)
     ·exact .inr (by intro b hb;simp [Value.ownBlock] at hb;subst hb;rw [e];simp [heap_drew])) HM7.out
    have HP:=hidp hlog
    have q1:w8.cell? ⟨x,7,none⟩=some (.slice Al s.log.length cl):=by rw [World.cell?_of_block (hg.block x hx7 (fun e=>HS7.out.dxl e.symm))];exact k7
    have q2:w8.frozen? ⟨x,7,none⟩=false:=by rw [World.frozen?_of_block (hg.block x hx7 (fun e=>HS7.out.dxl e.symm))];exact z7
    clear hown1 hgrow hgl hlt1 hg hlog)
   all_goals
    go_wp2_with fail
    have happ:applyP s (⟨⟨(st:Int),seq,wall,count,d0,d1,d2,d3,ws⟩,A,c⟩:MTx)={ (s6.setc 5 LW).setc 6 LC with log:=s.log++[(⟨⟨(st:Int),seq,wall,count,d0,d1,d2,d3,ws⟩,A,c⟩:MTx)] }:=by
     unfold applyP
     simp only [Int.toNat_natCast]
     rw [HS6E.out,HLW.out,HLC.out]
    obtain ⟨hp1,hp2⟩:=HP.out
    rw [show ((s6.setc 5 LW).setc 6 LC).log=s.log from HLG.out] at hp1
    refine bodyPost_end (results_none rfl _ _ _) rfl ⟨rfl,_,sv1,?_,(HFR0.out.trans HF7.out).trans hp2⟩
    rw [happ]
    exact hp1
end Go.Proofs.YtbopfhbeegkkaabGreatDoor
