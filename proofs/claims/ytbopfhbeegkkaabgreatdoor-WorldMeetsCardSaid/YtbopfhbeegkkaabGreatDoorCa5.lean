/- Part 5 of a proof: lemmas and contracts that other parts use. -/
import Derived.Test.YtbopfhbeegkkaabGreatDoorCa4
import Derived.Laws.BytesArg
import Derived.Test.YtbopfhbeegkkaabGreatDoorCa3
set_option linter.unusedVariables false
set_option linter.unusedSimpArgs false
namespace Go.Proofs.YtbopfhbeegkkaabGreatDoor
open Go.RowKit
theorem numR_len (r:Rd):(numR r).2.l.length≤r.l.length:=by
 unfold numR
 cases e:rdNum r.l with
 | none=>exact Nat.le_refl _
 | some x=>
   have h:=(rdNum_back (l:=r.l) (m:=x.1) (r:=x.2) (by rw [e])).1
   have h2:=congrArg List.length h
   simp only [List.length_append] at h2
   show x.2.length≤_
   omega
structure VecSt (w W:World) (g:Nat) (r:Rd) (a0 a1 a2 a3:Int):Prop where
 rd:RdAt W g r
 t2:W.heap[w.heap.size]?=some (.cells #[.int .i64 0,.int .i64 0,.int .i64 0,.int .i64 0] 32)
 t3:W.heap[w.heap.size+1]?=some (.cells #[.int .i64 a0,.int .i64 a1,.int .i64 a2,.int .i64 a3] 32)
 gr:w.grownBy W (some g)
 lt:g<w.heap.size
theorem grown_trans {w w1 w2:World} {g:Nat} (h1:w.grownBy w1 (some g)) (h2:w1.grownBy w2 (some g)):w.grownBy w2 (some g):=
 ⟨h2.os.trans h1.os,h2.tape.trans h1.tape,h2.output.trans h1.output,Nat.le_trans h1.size h2.size,fun k hk hne=>(h2.block k (Nat.lt_of_lt_of_le hk h1.size) hne).trans (h1.block k hk hne)⟩
theorem VecSt.call {w W W':World} {g:Nat} {r r':Rd} {a0 a1 a2 a3:Int} (st:VecSt w W g r a0 a1 a2 a3) (hr:RdAt W' g r') (hg:W.grownBy W' (some g)):VecSt w W' g r' a0 a1 a2 a3:=by
 have hlt:=st.lt
 have h2:=lt_blk st.t2
 have h3:=lt_blk st.t3
 exact ⟨hr,by rw [hg.block _ h2 (by simp;omega)];exact st.t2,by rw [hg.block _ h3 (by simp;omega)];exact st.t3,grown_trans st.gr hg,hlt⟩
theorem VecSt.set {w W:World} {g:Nat} {r:Rd} {a0 a1 a2 a3 b0 b1 b2 b3:Int} {i:Nat} {u:Value} (st:VecSt w W g r a0 a1 a2 a3)
  (hu:(#[.int .i64 a0,.int .i64 a1,.int .i64 a2,.int .i64 a3]:Array Value).setIfInBounds i u=#[.int .i64 b0,.int .i64 b1,.int .i64 b2,.int .i64 b3]):
  VecSt w (W.setCell ⟨w.heap.size+1,i,none⟩ u) g r b0 b1 b2 b3:=by
 have hlt:=st.lt
 refine ⟨st.rd.above fun k hk=>Below.heap_setCell W _ u k (by simp only;omega),by rw [Below.heap_setCell W _ u _ (by simp only;omega)];exact st.t2,?_,?_,hlt⟩
 ·rw [blk_set st.t3 i u,hu]
 ·exact ⟨st.gr.os,st.gr.tape,st.gr.output,by simpa [World.setCell] using st.gr.size,fun k hk hne=>by rw [Below.heap_setCell W _ u _ (by simp only;omega)];exact st.gr.block k hk hne⟩
theorem VecSt.res {w W:World} {g i:Nat} {r:Rd} {u:Value} {cs:Array Value} (hr:RdAt W g r) (hg:w.grownBy W (some g)) (hlt:g<w.heap.size) (h2:W.heap[w.heap.size]?=some (.cells cs 32)):
  RdAt (W.setCell ⟨w.heap.size,i,none⟩ u) g r∧w.grownBy (W.setCell ⟨w.heap.size,i,none⟩ u) (some g)∧(W.setCell ⟨w.heap.size,i,none⟩ u).heap[w.heap.size]?=some (.cells (cs.setIfInBounds i u) 32):=by
 refine ⟨hr.above fun k hk=>Below.heap_setCell W _ u k (by simp only;omega),?_,blk_set h2 i u⟩
 exact ⟨hg.os,hg.tape,hg.output,by simpa [World.setCell] using hg.size,fun k hk hne=>by rw [Below.heap_setCell W _ u _ (by simp only;omega)];exact hg.block k hk hne⟩
theorem VecSt.fin {w W:World} {g:Nat} {r:Rd} {a0 a1 a2 a3:Int} {u0 u1 u2 u3:Value} (st:VecSt w W g r a0 a1 a2 a3):
  RdAt ((((W.setCell ⟨w.heap.size,0,none⟩ u0).setCell ⟨w.heap.size,1,none⟩ u1).setCell ⟨w.heap.size,2,none⟩ u2).setCell ⟨w.heap.size,3,none⟩ u3) g r∧
  w.grownBy ((((W.setCell ⟨w.heap.size,0,none⟩ u0).setCell ⟨w.heap.size,1,none⟩ u1).setCell ⟨w.heap.size,2,none⟩ u2).setCell ⟨w.heap.size,3,none⟩ u3) (some g)∧
  ((((W.setCell ⟨w.heap.size,0,none⟩ u0).setCell ⟨w.heap.size,1,none⟩ u1).setCell ⟨w.heap.size,2,none⟩ u2).setCell ⟨w.heap.size,3,none⟩ u3).heap[w.heap.size]?=some (.cells #[u0,u1,u2,u3] 32):=by
 have h0:=VecSt.res (i:=0) (u:=u0) st.rd st.gr st.lt st.t2
 have h1:=VecSt.res (i:=1) (u:=u1) h0.1 h0.2.1 st.lt h0.2.2
 have h2:=VecSt.res (i:=2) (u:=u2) h1.1 h1.2.1 st.lt h1.2.2
 exact VecSt.res (i:=3) (u:=u3) h2.1 h2.2.1 st.lt h2.2.2
theorem blk4 {W:World} {b:Nat} {x0 x1 x2 x3:Value} {t:TypeId} (h:W.heap[b]?=some (.cells #[x0,x1,x2,x3] t)):
  W.cell? ⟨b,0,none⟩=some x0∧W.cell? ⟨b,1,none⟩=some x1∧W.cell? ⟨b,2,none⟩=some x2∧W.cell? ⟨b,3,none⟩=some x3∧
  W.frozen? ⟨b,0,none⟩=false∧W.frozen? ⟨b,1,none⟩=false∧W.frozen? ⟨b,2,none⟩=false∧W.frozen? ⟨b,3,none⟩=false:=
 ⟨cell_blk h 0,cell_blk h 1,cell_blk h 2,cell_blk h 3,frozen_blk h 0,frozen_blk h 1,frozen_blk h 2,frozen_blk h 3⟩
set_option maxRecDepth 20000 in
set_option maxHeartbeats 2000000 in
theorem vec_any (g:Nat) (r:Rd) (w:World) (hr:RdAt w g r) (hl:r.l.length≤1000000):
  Calls Tryz.prog 187 #[.pointer (some ⟨g,0,none⟩)] w fun e w'=>e=.returned (.agg #[.int .i64 (numR4 r).1.1,.int .i64 (numR4 r).1.2.1,.int .i64 (numR4 r).1.2.2.1,.int .i64 (numR4 r).1.2.2.2])
   ∧ RdAt w' g (numR4 r).2∧w.grownBy w' (some g):=by
 have hg:=hr.lt
 have st0:∀ o o2:Obj,o=.cells #[.int .i64 0,.int .i64 0,.int .i64 0,.int .i64 0] 32→o2=.cells #[.int .i64 0,.int .i64 0,.int .i64 0,.int .i64 0] 32→VecSt w ((w.alloc o).alloc o2) g r 0 0 0 0:=by
  rintro o o2 rfl rfl
  refine ⟨hr.above fun k hk=>?_,?_,?_,grown_trans (World.grownBy_alloc w _ _) (World.grownBy_alloc _ _ _),hg⟩
  ·rw [heap_alloc,if_neg (by simp;omega),heap_alloc,if_neg (by omega)]
  ·rw [heap_alloc,if_neg (by simp),heap_alloc,if_pos rfl]
  ·rw [heap_alloc,if_pos (by simp)]
 have hl1:=Nat.le_trans (numR_len r) hl
 have hl2:=Nat.le_trans (numR_len (numR r).2) hl1
 have hl3:=Nat.le_trans (numR_len (numR (numR r).2).2) hl2
 have ST0:=hidp st0
 clear st0 hr
 unfold numR4
 simp only
 generalize hr1:(numR r).2=r1 at *
 generalize hr2:(numR r1).2=r2 at *
 generalize hr3:(numR r2).2=r3 at *
 generalize hr4:(numR r3).2=r4 at *
 generalize hn1:(numR r).1=n1 at *
 generalize hn2:(numR r1).1=n2 at *
 generalize hn3:(numR r2).1=n3 at *
 generalize hn4:(numR r3).1=n4 at *
 have N1:=hidp fun W h=>(hr1 ▸ hn1 ▸ num_any g r W h hl)
 have N2:=hidp fun W h=>(hr2 ▸ hn2 ▸ num_any g r1 W h hl1)
 have N3:=hidp fun W h=>(hr3 ▸ hn3 ▸ num_any g r2 W h hl2)
 have N4:=hidp fun W h=>(hr4 ▸ hn4 ▸ num_any g r3 W h hl3)
 clear hr1 hr2 hr3 hr4 hn1 hn2 hn3 hn4 hl hl1 hl2 hl3
 go_enter Tryz.func187,Tryz.ntmps187
 go_wp2
 have st:=hidp (ST0.out _ _ rfl rfl)
 clear ST0
 refine wp_loop_rounds 5 ?_
 rw [rounds_succ]
 go_wp2_with fail
 go_at_call 186
 refine (N1.out _ st.out.rd).mono ?_
 rintro e w1 ⟨rfl,hr1,hg1⟩
 have sta:=st.out.call hr1 hg1
 have c1:=cell_blk sta.t3 0
 have c2:=frozen_blk sta.t3 0
 simp at c1
 have ST:=hidp (sta.set (i:=0) (u:=.int .i64 n1) rfl)
 clear sta hr1 hg1 st N1
 go_wp2
 have st:=ST
 clear ST c1 c2
 rw [rounds_succ]
 go_wp2_with fail
 go_at_call 186
 refine (N2.out _ st.out.rd).mono ?_
 rintro e w2 ⟨rfl,hr2,hg2⟩
 have sta:=st.out.call hr2 hg2
 have c1:=cell_blk sta.t3 1
 have c2:=frozen_blk sta.t3 1
 simp at c1
 have ST:=hidp (sta.set (i:=1) (u:=.int .i64 n2) rfl)
 clear sta hr2 hg2 st N2
 go_wp2
 have st:=ST
 clear ST c1 c2
 rw [rounds_succ]
 go_wp2_with fail
 go_at_call 186
 refine (N3.out _ st.out.rd).mono ?_
 rintro e w3 ⟨rfl,hr3,hg3⟩
 have sta:=st.out.call hr3 hg3
 have c1:=cell_blk sta.t3 2
 have c2:=frozen_blk sta.t3 2
 simp at c1
 have ST:=hidp (sta.set (i:=2) (u:=.int .i64 n3) rfl)
 clear sta hr3 hg3 st N3
 go_wp2
 have st:=ST
 clear ST c1 c2
 rw [rounds_succ]
 go_wp2_with fail
 go_at_call 186
 refine (N4.out _ st.out.rd).mono ?_
 rintro e w4 ⟨rfl,hr4,hg4⟩
 have sta:=st.out.call hr4 hg4
 have c1:=cell_blk sta.t3 3
 have c2:=frozen_blk sta.t3 3
 simp at c1
 have ST:=hidp (sta.set (i:=3) (u:=.int .i64 n4) rfl)
 clear sta hr4 hg4 st N4
 go_wp2
 have st:=ST
 clear ST c1 c2
 rw [rounds_succ]
 have h2:=blk4 st.out.t2
 have h3:=blk4 st.out.t3
 go_split_ands
 go_wp2
 have hf:=st.out.fin (u0:=.int .i64 n1) (u1:=.int .i64 n2) (u2:=.int .i64 n3) (u3:=.int .i64 n4)
 obtain ⟨hf1,hf2,hf3⟩:=hf
 have hf4:=blk4 hf3
 go_split_ands
 exact bodyPost_ret (v:=.agg #[.int .i64 n1,.int .i64 n2,.int .i64 n3,.int .i64 n4]) (by simp only [results,Tryz.results187];simp [go_sem, *]) rfl ⟨rfl,hf1,hf2⟩
theorem conv_bs {w:World} {g n c:Nat} {A:Option Addr} {l:List UInt8} (h:BsVal w g (.slice A l.length c) l) (hn:n≤l.length):
  (convert 207 9 (.slice A n c)).run Tryz.prog w=.ok (.string ⟨(l.take n).toArray⟩) w:=by
 obtain ⟨A',c',e,h1,h2,h3⟩:=h
 cases e
 rcases Nat.eq_zero_or_pos n with rfl | hp
 ·rw [run_convert_bytes_string w 207 9 5 _ 0 c Tryz.underlying207 Tryz.underlying5 Tryz.underlying9]
  cases A <;> simp [Conv.bytesToString,loadCells]
  all_goals rfl
 ·obtain ⟨B,o,rfl,_,_⟩:=h3 0 l[0] (List.getElem?_eq_getElem (by omega))
  rw [run_convert_bytes_arg w 207 5 Tryz.underlying207 Tryz.underlying5 B o n c ((l.take n).map fun b=>(b.toNat:Int)) (by simp;omega) ?_ 9 Tryz.underlying9]
  ·congr 1
   have e:∀ x:List UInt8,strOfNums (x.map fun b=>(b.toNat:Int))=⟨x.toArray⟩:=by
    intro x
    have e2:∀ b:UInt8,UInt8.ofNat ((b.toNat:Int)).toNat=b:=fun b=>by simp
    simp only [strOfNums,List.map_map]
    rw [show ((fun n:Int=>UInt8.ofNat n.toNat) ∘ fun b:UInt8=>(b.toNat:Int))=id from funext e2,List.map_id]
   rw [e]
  ·intro i hi
   obtain ⟨B',o',e,_,hc⟩:=h3 i l[i] (List.getElem?_eq_getElem (by omega))
   cases e
   rw [hc]
   have hi':i<l.length:=by omega
   simp [List.getD,List.getElem?_map,List.getElem?_take,hi,hi']
theorem bs_full {w:World} {g n:Nat} {A:Option Addr} {l:List UInt8} (hn:n≤l.length) (h:BsVal w g (.slice A l.length n) l):BsVal w g (.slice A (l.length-n) 0) (l.drop n):=by
 obtain ⟨A',c',e,h1,h2,h3⟩:=h
 cases e
 have e:l.length=n:=by omega
 refine ⟨A,0,by rw [List.length_drop],by rw [List.length_drop];omega,Nat.zero_le _,fun i b hi=>?_⟩
 rw [List.drop_eq_nil_of_le (by omega)] at hi
 simp at hi
theorem bs_rest {w:World} {g n c:Nat} {A:Option Addr} {l:List UInt8} (hn:n≤l.length) (h:BsVal w g (.slice A l.length c) l):BsVal w g (.slice (A.map fun x=>x.add n) (l.length-n) (c-n)) (l.drop n):=by
 obtain ⟨A',c',e,h1,h2,h3⟩:=h
 cases e
 refine ⟨_,_,by rw [List.length_drop],by rw [List.length_drop];omega,by omega,fun i b hi=>?_⟩
 rw [List.getElem?_drop] at hi
 obtain ⟨B,o,rfl,hB,hc⟩:=h3 _ _ hi
 exact ⟨B,o+n,by simp [Addr.add],hB,by rw [Nat.add_assoc];exact hc⟩
set_option maxRecDepth 20000 in
set_option maxHeartbeats 2000000 in
theorem text_any (g:Nat) (r:Rd) (w:World) (hr:RdAt w g r) (hl:r.l.length≤1000000):
  Calls Tryz.prog 188 #[.pointer (some ⟨g,0,none⟩)] w fun e w'=>e=.returned (.string (textR r).1)∧RdAt w' g (textR r).2∧w.grownBy w' (some g):=by
 have hg:=hr.lt
 have hl1:=Nat.le_trans (numR_len r) hl
 have hnum:=num_any g r w hr hl
 unfold textR
 generalize hr1:(numR r).2=r1 at *
 generalize hn1:(numR r).1=n at *
 clear hr1 hn1 hl
 have N:=hidp hnum
 clear hnum hr
 obtain ⟨l,bad⟩:=r1
 simp only at *
 by_cases hn:l.length<n
 all_goals
  first | rw [if_pos hn] | rw [if_neg hn]
  go_enter Tryz.func188,Tryz.ntmps188
  go_wp2_with fail
  go_at_call 186
  refine (N.out).mono ?_
  rintro e w1 ⟨rfl,hr1,hg1⟩
  obtain ⟨v,hb,hv⟩:=hr1
  have hv':=hv
  obtain ⟨A,c,rfl,hc,hcm,hx⟩:=hv'
  simp only at *
  have b0:=cell_blk hb 0
  have b1:=cell_blk hb 1
  have f0:=frozen_blk hb 0
  have f1:=frozen_blk hb 1
  simp at b0 b1
  have HX:=hidp hx
  have HV:=hidp hv
  have HB:=hidp hb
  have HG:=hidp hg1
  clear hx hb hv N hg1
 ·go_wp2
  go_ret
  refine ⟨rfl,⟨_,blk_set HB.out 1 _,HV.out.set 1 _⟩,grown_trans HG.out (grown_set w1 g 1 _)⟩
 ·have hnm:n≤l.length:=by omega
  have hcv:=conv_bs HV.out hnm
  go_wp2
  all_goals go_ret
  ·have e:c=n:=by first | assumption | omega
   subst e
   exact ⟨rfl,⟨_,blk_set HB.out 0 _,(bs_full hnm HV.out).set 0 _⟩,grown_trans HG.out (grown_set w1 g 0 _)⟩
  ·exact ⟨rfl,⟨_,blk_set HB.out 0 _,(bs_rest hnm HV.out).set 0 _⟩,grown_trans HG.out (grown_set w1 g 0 _)⟩
theorem BsVal.mono {w:World} {g g':Nat} {v:Value} {l:List UInt8} (h:BsVal w g v l) (hg:g≤g'):BsVal w g' v l:=by
 obtain ⟨A,c,rfl,h1,h2,h3⟩:=h
 refine ⟨A,c,rfl,h1,h2,fun i b hb=>?_⟩
 obtain ⟨B,o,hA,hB,hc⟩:=h3 i b hb
 exact ⟨B,o,hA,by omega,hc⟩
theorem rd_new {w:World} {v:Value} {l:List UInt8} {b:Bool} (h:BsVal w w.heap.size v l):RdAt (w.alloc (.cells #[v,.bool b] 293)) w.heap.size ⟨l,b⟩:=
 ⟨v,by rw [heap_alloc,if_pos rfl],h.above fun k hk=>by rw [heap_alloc,if_neg (by omega)]⟩
theorem bs_nil (w:World) (g:Nat):BsVal w g (.slice none 0 0) []:=⟨none,0,rfl,Nat.le_refl _,Nat.zero_le _,fun i b h=>by simp at h⟩
set_option maxRecDepth 20000 in
set_option maxHeartbeats 1000000 in
theorem begin_any (v:Value) (l:List UInt8) (z:Int) (c:UInt8) (hz:z=(c.toNat:Int)) (w:World) (hv:BsVal w w.heap.size v l) (hl:l.length≤1000000):
  Calls Tryz.prog 185 #[v,.int .u8 z] w fun e w'=>e=.returned (.pointer (some ⟨w.heap.size,0,none⟩))∧RdAt w' w.heap.size (beginR c l)∧Below w.heap.size w w':=by
 subst hz
 have HV:=hidp hv
 obtain ⟨A,k,rfl,hc,hcm,hx⟩:=hv
 unfold beginR
 cases l with
 | nil=>
   clear hx
   go_enter Tryz.func185,Tryz.ntmps185
   go_wp2
   go_ret
   exact ⟨rfl,rd_new (bs_nil _ _),zB⟩
 | cons x l=>
   obtain ⟨B,o,rfl,hB,hcell⟩:=hx 0 x (by simp)
   simp only [List.length_cons,Nat.add_zero] at *
   by_cases he:x=c
   ·have HB:=hidp (bs_rest (n:=1) (l:=x::l) (by simp) HV.out)
    have HB2:=hidp fun e:k=1=>bs_full (n:=1) (l:=x::l) (by simp) (e ▸ HV.out)
    clear hx
    rw [if_pos he]
    subst he
    go_enter Tryz.func185,Tryz.ntmps185
    go_wp2
    all_goals go_ret
    all_goals refine ⟨rfl,rd_new ?_,zB⟩
    ·exact HB2.out (by first | assumption | omega)
    ·exact HB.out
   ·rw [if_neg he]
    have hne:((x.toNat:Int) != (c.toNat:Int))=true:=by
     rw [bne_iff_ne];intro e;exact he (UInt8.toNat_inj.1 (by omega))
    go_enter Tryz.func185,Tryz.ntmps185
    go_wp2
    go_ret
    exact ⟨rfl,rd_new (bs_nil _ _),zB⟩
theorem numR4_len (r:Rd):(numR4 r).2.l.length≤r.l.length:=by
 unfold numR4
 exact Nat.le_trans (numR_len _) (Nat.le_trans (numR_len _) (Nat.le_trans (numR_len _) (numR_len _)))
theorem beginR_len (c:UInt8) (l:List UInt8):(beginR c l).l.length≤l.length:=by
 unfold beginR
 cases l with
 | nil=>simp
 | cons x l=>
   simp only
   split <;> simp
theorem below_grown {n g:Nat} {w w1 w2:World} (h:Below n w w1) (hg:w1.grownBy w2 (some g)) (hn:n≤g) (hs:n≤w.heap.size):Below n w w2:=
 Below.grown h hg (Nat.le_trans hs h.size) (fun k e=>by cases e;exact hn)
def askV:Option (Nat×(Nat×Nat×Nat×Nat))→Value
 | none=>.tuple #[.int .i64 0,.agg #[.int .i64 0,.int .i64 0,.int .i64 0,.int .i64 0],.iface 29 (.int .i64 3)]
 | some (s,a,b,c,d)=>.tuple #[.int .i64 s,.agg #[.int .i64 a,.int .i64 b,.int .i64 c,.int .i64 d],.nilIface]
set_option maxRecDepth 20000 in
set_option maxHeartbeats 2000000 in
theorem decAsk_any (v:Value) (l:List UInt8) (w:World) (hv:BsVal w w.heap.size v l) (hl:l.length≤1000000):
  Calls Tryz.prog 150 #[v] w fun e w'=>e=.returned (askV (decAsk l))∧Below w.heap.size w w':=by
 have hbeg:=fun o=>begin_any v l 97 97 rfl (w.alloc o) ((hv.above fun k hk=>by rw [heap_alloc,if_neg (by omega)]).mono (by simp)) hl
 simp only [show ∀ o,(w.alloc o).heap.size=w.heap.size+1 from fun o=>by simp] at hbeg
 have hlen0:=Nat.le_trans (beginR_len 97 l) hl
 have hlen1:=Nat.le_trans (numR_len (beginR 97 l)) hlen0
 have hD:decAsk l=if (numR4 (numR (beginR 97 l)).2).2.bad||!(numR4 (numR (beginR 97 l)).2).2.l.isEmpty||decide (4≤(numR (beginR 97 l)).1) then none else some ((numR (beginR 97 l)).1,(numR4 (numR (beginR 97 l)).2).1):=rfl
 rw [hD]
 clear hD hv hl
 generalize beginR 97 l=r0 at *
 have hnum:=fun W g h=>num_any g r0 W h hlen0
 generalize hn1:(numR r0).1=n at *
 generalize hr1:(numR r0).2=r1 at *
 have hvec:=fun W g h=>vec_any g r1 W h hlen1
 clear hr1 hn1
 generalize (numR4 r1).2=r2 at *
 generalize (numR4 r1).1=q at *
 obtain ⟨a,b,c,d⟩:=q
 obtain ⟨l2,bad2⟩:=r2
 simp only at *
 have HB:=hidp hbeg
 have HN:=hidp hnum
 have HV:=hidp hvec
 clear hbeg hnum hvec hlen0 hlen1
 rcases Bool.eq_false_or_eq_true bad2 with rfl | rfl
 ·rw [Bool.true_or,Bool.true_or,if_pos rfl]
  go_enter Tryz.func150,Tryz.ntmps150
  go_wp2_with fail
  go_at_call 185
  refine (HB.out _).mono ?_
  rintro e w1 ⟨rfl,hr1,hb1⟩
  go_wp2_with fail
  go_at_call 186
  refine (HN.out _ _ hr1).mono ?_
  rintro e w2 ⟨rfl,hr2,hg2⟩
  go_wp2_with fail
  go_at_call 187
  refine (HV.out _ _ hr2).mono ?_
  rintro e w3 ⟨rfl,hr3,hg3⟩
  have hb3:=below_grown (below_grown hb1 hg2 (Nat.le_refl _) (by simp)) hg3 (Nat.le_refl _) (by simp)
  have hz:=hb3.block w.heap.size (by omega)
  rw [heap_alloc,if_pos rfl] at hz
  obtain ⟨v3,hb,A,k,rfl,hc,hcm,hx⟩:=hr3
  simp only at *
  have c0:=cell_blk hb 0
  have c1:=cell_blk hb 1
  simp at c0 c1
  have hz4:=blk4 hz
  have hlt:=lt_blk hb
  have hlt0:w.heap.size<w3.heap.size:=by omega
  go_split_ands
  have HB3:Hid (Below w.heap.size w w3):=hidp (Below.trans (blw_alloc (Below.refl _ _)) (hb3.mono (by omega)))
  clear hx hr1 hr2 hg2 hg3 HB HN HV hb1 hb3 hb hz
  go_wp2
  all_goals
   haveI:SzGe w.heap.size w3:=⟨by omega⟩
   refine bodyPost_ret (v:=askV none) (by simp only [results,Tryz.results150];simp [go_sem,askV, *]) rfl ⟨rfl,?_⟩
   (repeat (first | exact HB3.out | refine blw_alloc ?_ | refine Below.drew ?_ | refine Below.setCell ?_ (by simp only;omega) _))
 rcases l2 with _ | ⟨y,l2⟩
 rotate_left
 ·rw [List.isEmpty_cons,Bool.not_false,Bool.or_true,Bool.true_or,if_pos rfl]
  go_enter Tryz.func150,Tryz.ntmps150
  go_wp2_with fail
  go_at_call 185
  refine (HB.out _).mono ?_
  rintro e w1 ⟨rfl,hr1,hb1⟩
  go_wp2_with fail
  go_at_call 186
  refine (HN.out _ _ hr1).mono ?_
  rintro e w2 ⟨rfl,hr2,hg2⟩
  go_wp2_with fail
  go_at_call 187
  refine (HV.out _ _ hr2).mono ?_
  rintro e w3 ⟨rfl,hr3,hg3⟩
  have hb3:=below_grown (below_grown hb1 hg2 (Nat.le_refl _) (by simp)) hg3 (Nat.le_refl _) (by simp)
  have hz:=hb3.block w.heap.size (by omega)
  rw [heap_alloc,if_pos rfl] at hz
  obtain ⟨v3,hb,A,k,rfl,hc,hcm,hx⟩:=hr3
  simp only at *
  have c0:=cell_blk hb 0
  have c1:=cell_blk hb 1
  simp at c0 c1
  have hz4:=blk4 hz
  have hlt:=lt_blk hb
  have hlt0:w.heap.size<w3.heap.size:=by omega
  go_split_ands
  have HB3:Hid (Below w.heap.size w w3):=hidp (Below.trans (blw_alloc (Below.refl _ _)) (hb3.mono (by omega)))
  clear hx hr1 hr2 hg2 hg3 HB HN HV hb1 hb3 hb hz
  go_wp2
  all_goals
   haveI:SzGe w.heap.size w3:=⟨by omega⟩
   refine bodyPost_ret (v:=askV none) (by simp only [results,Tryz.results150];simp [go_sem,askV, *]) rfl ⟨rfl,?_⟩
   (repeat (first | exact HB3.out | refine blw_alloc ?_ | refine Below.drew ?_ | refine Below.setCell ?_ (by simp only;omega) _))
 by_cases h4:4≤n
 ·rw [decide_eq_true h4,Bool.or_true,if_pos rfl]
  go_enter Tryz.func150,Tryz.ntmps150
  go_wp2_with fail
  go_at_call 185
  refine (HB.out _).mono ?_
  rintro e w1 ⟨rfl,hr1,hb1⟩
  go_wp2_with fail
  go_at_call 186
  refine (HN.out _ _ hr1).mono ?_
  rintro e w2 ⟨rfl,hr2,hg2⟩
  go_wp2_with fail
  go_at_call 187
  refine (HV.out _ _ hr2).mono ?_
  rintro e w3 ⟨rfl,hr3,hg3⟩
  have hb3:=below_grown (below_grown hb1 hg2 (Nat.le_refl _) (by simp)) hg3 (Nat.le_refl _) (by simp)
  have hz:=hb3.block w.heap.size (by omega)
  rw [heap_alloc,if_pos rfl] at hz
  obtain ⟨v3,hb,A,k,rfl,hc,hcm,hx⟩:=hr3
  simp only at *
  have c0:=cell_blk hb 0
  have c1:=cell_blk hb 1
  simp at c0 c1
  have hz4:=blk4 hz
  have hlt:=lt_blk hb
  have hlt0:w.heap.size<w3.heap.size:=by omega
  go_split_ands
  have HB3:Hid (Below w.heap.size w w3):=hidp (Below.trans (blw_alloc (Below.refl _ _)) (hb3.mono (by omega)))
  clear hx hr1 hr2 hg2 hg3 HB HN HV hb1 hb3 hb hz
  go_wp2
  all_goals
   haveI:SzGe w.heap.size w3:=⟨by omega⟩
   refine bodyPost_ret (v:=askV none) (by simp only [results,Tryz.results150];simp [go_sem,askV, *]) rfl ⟨rfl,?_⟩
   (repeat (first | exact HB3.out | refine blw_alloc ?_ | refine Below.drew ?_ | refine Below.setCell ?_ (by simp only;omega) _))
 ·rw [decide_eq_false h4,Bool.or_false,List.isEmpty_nil,Bool.not_true,Bool.or_false,if_neg Bool.false_ne_true]
  go_enter Tryz.func150,Tryz.ntmps150
  go_wp2_with fail
  go_at_call 185
  refine (HB.out _).mono ?_
  rintro e w1 ⟨rfl,hr1,hb1⟩
  go_wp2_with fail
  go_at_call 186
  refine (HN.out _ _ hr1).mono ?_
  rintro e w2 ⟨rfl,hr2,hg2⟩
  go_wp2_with fail
  go_at_call 187
  refine (HV.out _ _ hr2).mono ?_
  rintro e w3 ⟨rfl,hr3,hg3⟩
  have hb3:=below_grown (below_grown hb1 hg2 (Nat.le_refl _) (by simp)) hg3 (Nat.le_refl _) (by simp)
  have hz:=hb3.block w.heap.size (by omega)
  rw [heap_alloc,if_pos rfl] at hz
  obtain ⟨v3,hb,A,k,rfl,hc,hcm,hx⟩:=hr3
  simp only at *
  have c0:=cell_blk hb 0
  have c1:=cell_blk hb 1
  simp at c0 c1
  have hz4:=blk4 hz
  have hlt:=lt_blk hb
  have hlt0:w.heap.size<w3.heap.size:=by omega
  go_split_ands
  have HB3:Hid (Below w.heap.size w w3):=hidp (Below.trans (blw_alloc (Below.refl _ _)) (hb3.mono (by omega)))
  clear hx hr1 hr2 hg2 hg3 HB HN HV hb1 hb3 hb hz
  go_wp2
  go_region_held3 (fun W:World=>W.cell? ⟨w3.heap.size,0,none⟩=some (.int .i64 a)∧W.cell? ⟨w3.heap.size,1,none⟩=some (.int .i64 b)∧W.cell? ⟨w3.heap.size,2,none⟩=some (.int .i64 c)∧W.cell? ⟨w3.heap.size,3,none⟩=some (.int .i64 d)) ((repeat' apply And.intro) <;> simp [go_sem, *]) (fail)
  all_goals go_wp2
  all_goals
   haveI:SzGe w.heap.size w3:=⟨by omega⟩
   refine bodyPost_ret (v:=askV (some (n,a,b,c,d))) (by simp only [results,Tryz.results150];simp [go_sem,askV, *]) rfl ⟨rfl,?_⟩
   (repeat (first | exact HB3.out | refine blw_alloc ?_ | refine Below.drew ?_ | refine Below.setCell ?_ (by simp only;omega) _))
theorem info43:(Tryz.prog.info? 83).map (fun i=>(i.zero,i.size,i.bytes))=some (some (.agg #[.int .i64 0,.string ⟨#[]⟩,.bool false]),3,32):=by kernel_rfl
def wrCells (l:List WrP):List Value:=l.flatMap fun x=>[.int .i64 x.key,.string x.data,.bool x.gone]
theorem wrCells_len (l:List WrP):(wrCells l).length=l.length*3:=by
 induction l with
 | nil=>rfl
 | cons x l ih=>simp only [wrCells,List.flatMap_cons,List.length_append,List.length_cons,List.length_nil] at ih ⊢;omega
theorem wrCells_append (a b:List WrP):wrCells (a++b)=wrCells a++wrCells b:=by simp [wrCells]
theorem wrCells_at:∀ (l:List WrP) (i:Nat) (x:WrP),l[i]?=some x→(wrCells l)[i*3]?=some (.int .i64 x.key)∧(wrCells l)[i*3+1]?=some (.string x.data)∧(wrCells l)[i*3+2]?=some (.bool x.gone)
 | [],i,x,h=>by simp at h
 | y::l,0,x,h=>by simp at h;subst h;simp [wrCells]
 | y::l,i+1,x,h=>by
   have:=wrCells_at l i x (by simpa using h)
   have e:∀ j,(wrCells (y::l))[j+3]?=(wrCells l)[j]?:=fun j=>by simp [wrCells,List.getElem?_append_right]
   rw [show (i+1)*3=i*3+3 by omega,show i*3+3+1=(i*3+1)+3 by omega,show i*3+3+2=(i*3+2)+3 by omega,e,e,e]
   exact this
theorem own_ws {w:World} {B c:Nat} {A:Option Addr} {ws:List WrP} (h:w.ownsRow B 83 3 (.slice A ws.length c) ws.length (wrCells ws)):WsAt w A ws:=by
 intro i x hx
 obtain ⟨hl,hn | ⟨g,cap,cur,hv,hb,hg,rest⟩⟩:=id h
 ·have:ws=[]:=List.eq_nil_of_length_eq_zero hn.2
  subst this;simp at hx
 ·simp only [Value.slice.injEq] at hv
  obtain ⟨rfl,_,rfl⟩:=hv
  have hc:=h.cells (g:=g) rfl
  obtain ⟨h0,h1,h2⟩:=wrCells_at ws i x hx
  have e:∀ j:Nat,(⟨g,0,none⟩:Addr).add j=⟨g,0+j,none⟩:=fun j=>by unfold Addr.add;split <;> simp_all
  have k0:=hc _ _ h0
  have k1:=hc _ _ h1
  have k2:=hc _ _ h2
  rw [e] at k0 k1 k2
  exact ⟨g,0,rfl,(Array.getElem?_eq_some_iff.1 hg).1,k0,k1,k2⟩
structure DtSt (w W:World) (g tb:Nat) (x0 x1 x2 x3 x4 x5 x6 x7:Int) (A:Option Addr) (c:Nat) (ws:List WrP) (r:Rd):Prop where
 rd:RdAt W g r
 z:W.heap[w.heap.size]?=some (.cells #[.int .i64 0,.int .i64 0,.int .i64 0,.int .i64 0,.int .i64 0,.int .i64 0,.int .i64 0,.int .i64 0,.slice none 0 0] 44)
 tx:W.heap[tb]?=some (.cells #[.int .i64 x0,.int .i64 x1,.int .i64 x2,.int .i64 x3,.int .i64 x4,.int .i64 x5,.int .i64 x6,.int .i64 x7,.slice A ws.length c] 44)
 own:W.ownsRow (tb+1) 83 3 (.slice A ws.length c) ws.length (wrCells ws)
 bl:Below w.heap.size w W
 lg:w.heap.size<g
 lt:g<tb
theorem own_ge {w:World} {B e s n:Nat} {v:Value} {xs:List Value} (h:w.ownsRow B e s v n xs) {k:Nat} (hk:v.ownBlock=some k):B≤k∧k<w.heap.size:=by
 obtain ⟨_,hn | ⟨g,cap,cur,hv,hb,hg,_⟩⟩:=h
 ·rw [hn.1] at hk;simp [Value.ownBlock] at hk
 ·subst hv
  have:g=k:=by simpa [Value.ownBlock] using hk
  subst this
  exact ⟨hb,(Array.getElem?_eq_some_iff.1 hg).1⟩
theorem DtSt.keep {w W W':World} {g tb p:Nat} {x0 x1 x2 x3 x4 x5 x6 x7:Int} {A:Option Addr} {c:Nat} {ws:List WrP} {r r':Rd} (st:DtSt w W g tb x0 x1 x2 x3 x4 x5 x6 x7 A c ws r)
  (hg:W.grownBy W' (some p)) (hp:w.heap.size<p) (hpt:p≠tb) (hown:(Value.slice A ws.length c).ownBlock≠some p) (hr:RdAt W' g r'):DtSt w W' g tb x0 x1 x2 x3 x4 x5 x6 x7 A c ws r':=by
 have h1:=lt_blk st.z
 have h2:=lt_blk st.tx
 exact ⟨hr,by rw [hg.block _ h1 (by simp;omega)];exact st.z,by rw [hg.block _ h2 (by simp;omega)];exact st.tx,st.own.kept hg (.inr hown),below_grown st.bl hg (by omega) (Nat.le_refl _),st.lg,st.lt⟩
theorem DtSt.call {w W W':World} {g tb:Nat} {x0 x1 x2 x3 x4 x5 x6 x7:Int} {A:Option Addr} {c:Nat} {ws:List WrP} {r r':Rd} (st:DtSt w W g tb x0 x1 x2 x3 x4 x5 x6 x7 A c ws r)
  (hr:RdAt W' g r') (hg:W.grownBy W' (some g)):DtSt w W' g tb x0 x1 x2 x3 x4 x5 x6 x7 A c ws r':=
 st.keep hg st.lg (Nat.ne_of_lt st.lt) (fun e=>by have:=(own_ge st.own e).1;have:=st.lt;omega) hr
theorem rd_grown {W W':World} {g p:Nat} {r:Rd} (h:RdAt W g r) (hg:W.grownBy W' (some p)) (hp:g<p):RdAt W' g r:=
 h.above fun k hk=>hg.block k (Nat.lt_of_le_of_lt hk h.lt) (by simp;omega)
structure DtR (w W:World) (g tb:Nat) (x0 x1 x2 x3 x4 x5 x6 x7:Int) (A:Option Addr) (c:Nat) (ws:List WrP) (r:Rd) (p:Nat) (k:Int) (dt:ByteArray) (gn:Bool):Prop where
 st:DtSt w W g tb x0 x1 x2 x3 x4 x5 x6 x7 A c ws r
 t7:W.heap[p]?=some (.cells #[.int .i64 k,.string dt,.bool gn] 83)
 hp:tb<p
 ho:(Value.slice A ws.length c).ownBlock≠some p
theorem DtSt.round {w W:World} {g tb:Nat} {x0 x1 x2 x3 x4 x5 x6 x7:Int} {A:Option Addr} {c:Nat} {ws:List WrP} {r:Rd} {k:Int} {dt:ByteArray} {gn:Bool} {o:Obj} (st:DtSt w W g tb x0 x1 x2 x3 x4 x5 x6 x7 A c ws r)
  (ho:o=.cells #[.int .i64 k,.string dt,.bool gn] 83):DtR w (W.alloc o) g tb x0 x1 x2 x3 x4 x5 x6 x7 A c ws r W.heap.size k dt gn:=by
 subst ho
 have h2:=lt_blk st.tx
 have hg:=World.grownBy_alloc W (.cells #[.int .i64 k,.string dt,.bool gn] 83) (some W.heap.size)
 have h3:(Value.slice A ws.length c).ownBlock≠some W.heap.size:=fun e=>by have:=(own_ge st.own e).2;omega
 have h4:=st.lt
 have h5:=st.lg
 exact ⟨st.keep hg (by omega) (by omega) h3 (rd_grown st.rd hg (by omega)),by rw [heap_alloc,if_pos rfl],h2,h3⟩
theorem DtR.call {w W W':World} {g tb:Nat} {x0 x1 x2 x3 x4 x5 x6 x7:Int} {A:Option Addr} {c:Nat} {ws:List WrP} {r r':Rd} {p:Nat} {k:Int} {dt:ByteArray} {gn:Bool} (st:DtR w W g tb x0 x1 x2 x3 x4 x5 x6 x7 A c ws r p k dt gn)
  (hr:RdAt W' g r') (hg:W.grownBy W' (some g)):DtR w W' g tb x0 x1 x2 x3 x4 x5 x6 x7 A c ws r' p k dt gn:=by
 have h1:=lt_blk st.t7
 have h2:=st.hp
 have h3:=st.st.lt
 exact ⟨st.st.call hr hg,by rw [hg.block _ h1 (by simp;omega)];exact st.t7,st.hp,st.ho⟩
theorem DtR.set {w W:World} {g tb:Nat} {x0 x1 x2 x3 x4 x5 x6 x7:Int} {A:Option Addr} {c:Nat} {ws:List WrP} {r:Rd} {p:Nat} {k k':Int} {dt dt':ByteArray} {gn gn':Bool} {i:Nat} {u:Value} (st:DtR w W g tb x0 x1 x2 x3 x4 x5 x6 x7 A c ws r p k dt gn)
  (hu:(#[.int .i64 k,.string dt,.bool gn]:Array Value).setIfInBounds i u=#[.int .i64 k',.string dt',.bool gn']):DtR w (W.setCell ⟨p,i,none⟩ u) g tb x0 x1 x2 x3 x4 x5 x6 x7 A c ws r p k' dt' gn':=by
 have h2:=st.hp
 have h3:=st.st.lt
 have h4:=st.st.lg
 have hg:=grown_set W p i u
 exact ⟨st.st.keep hg (by omega) (by omega) st.ho (rd_grown st.st.rd hg (by omega)),by rw [blk_set st.t7 i u,hu],h2,st.ho⟩
theorem DtR.setBad {w W:World} {g tb:Nat} {x0 x1 x2 x3 x4 x5 x6 x7:Int} {A:Option Addr} {c:Nat} {ws:List WrP} {r:Rd} {p:Nat} {k:Int} {dt:ByteArray} {gn:Bool} (b:Bool) (st:DtR w W g tb x0 x1 x2 x3 x4 x5 x6 x7 A c ws r p k dt gn):
  DtR w (W.setCell ⟨g,1,none⟩ (.bool b)) g tb x0 x1 x2 x3 x4 x5 x6 x7 A c ws ⟨r.l,b⟩ p k dt gn:=by
 refine st.call ?_ (grown_set W g 1 _)
 obtain ⟨v,hb,hv⟩:=st.st.rd
 exact ⟨v,by simpa using blk_set hb 1 (.bool b),hv.set 1 _⟩
theorem DtR.app {w W W1:World} {g tb:Nat} {x0 x1 x2 x3 x4 x5 x6 x7:Int} {A:Option Addr} {c:Nat} {ws:List WrP} {r:Rd} {p:Nat} {k:Int} {dt:ByteArray} {gn:Bool} {o:Obj} {g1 cap:Nat} (st:DtR w W g tb x0 x1 x2 x3 x4 x5 x6 x7 A c ws r p k dt gn)
  (hown:W1.ownsRow (tb+1) 83 3 (.slice (some ⟨g1,0,none⟩) (ws.length+1) cap) (ws.length+1) (wrCells ws++[.int .i64 k,.string dt,.bool gn])) (hg:(W.alloc o).grownBy W1 (Value.slice A ws.length c).ownBlock):
  W1.cell? ⟨tb,8,none⟩=some (.slice A ws.length c)∧W1.frozen? ⟨tb,8,none⟩=false∧
  DtSt w (W1.setCell ⟨tb,8,none⟩ (.slice (some ⟨g1,0,none⟩) (ws.length+1) cap)) g tb x0 x1 x2 x3 x4 x5 x6 x7 (some ⟨g1,0,none⟩) cap (ws++[⟨k,dt,gn⟩]) r:=by
 have h2:=st.hp
 have h3:=st.st.lt
 have h4:=st.st.lg
 have hge:∀ j,(Value.slice A ws.length c).ownBlock=some j→tb+1≤j:=fun j e=>(own_ge st.st.own e).1
 have hgr:W.grownBy W1 (Value.slice A ws.length c).ownBlock:=grownBy_trans' (World.grownBy_alloc W o _) hg (.inl rfl)
 have h5:=lt_blk st.st.tx
 have h6:=lt_blk st.st.z
 have htb:W1.heap[tb]?=W.heap[tb]?:=hgr.block tb h5 (fun e=>by have:=hge tb e.symm;omega)
 have hz:W1.heap[w.heap.size]?=W.heap[w.heap.size]?:=hgr.block _ h6 (fun e=>by have:=hge _ e.symm;omega)
 have htx:=st.st.tx
 rw [←htb] at htx
 have hgs:=grown_set W1 tb 8 (.slice (some ⟨g1,0,none⟩) (ws.length+1) cap)
 refine ⟨cell_blk htx 8,frozen_blk htx 8,?_,?_,?_,?_,?_,h4,h3⟩
 ·refine rd_grown ?_ hgs h3
  exact st.st.rd.above fun j hj=>hgr.block j (by omega) (fun e=>by have:=hge _ e.symm;omega)
 ·rw [hgs.block _ (by have:=hgr.size;omega) (by simp;omega),hz];exact st.st.z
 ·rw [blk_set htx 8 _];simp
 ·have hn:(ws++[(⟨k,dt,gn⟩:WrP)]).length=ws.length+1:=by simp
  rw [hn,wrCells_append]
  exact hown.kept hgs (.inr (by have:=(own_ge hown (k:=g1) rfl).1;simp [Value.ownBlock];omega))
 ·refine below_grown (g:=tb) ?_ hgs (by omega) (Nat.le_refl _)
  exact Below.grown st.st.bl hgr (Nat.le_of_lt h6) (fun j e=>by have:=hge j e;omega)
end Go.Proofs.YtbopfhbeegkkaabGreatDoor
