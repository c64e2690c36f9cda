/- Part 29 of a proof: lemmas and contracts that other parts use. -/
import Derived.Test.YtbopfhbeegkkaabGreatDoorCa27
import Derived.Test.YtbopfhbeegkkaabGreatDoorCa28
import Derived.Test.YtbopfhbeegkkaabGreatDoorCa20
set_option linter.unusedVariables false
set_option linter.unusedSimpArgs false
namespace Go.Proofs.YtbopfhbeegkkaabGreatDoor
open Go.RowKit
theorem rRun_id:∀ (f:Nat) (r:RSi),(rRun f r).id=r.id
 | 0,r=>rfl
 | f+1,r=>by
   unfold rRun
   split
   ·rfl
   ·exact rRun_id f _
section
variable {w0 w:World} {n:Nat} {O:Nat→Ob} {p g:Nat} {A:AWd} {v:WV} {k u x:Nat}
theorem PWx.atS (hp:PWx w0.heap.size O p g A v) (h:Mem w0 w n O) (hn:p+16≤n) {i x:Nat} (hx:v.xs[i]?=some x):(O (p+(6+i))).at_ w:=by
 have:=lt_get hx;have:=hp.xl;have:=hp.ok.S
 exact h.at_ _ (by omega)
theorem PWx.atU (hp:PWx w0.heap.size O p g A v) (h:Mem w0 w n O) (hn:p+16≤n) {i u:Nat} (hu:v.us[i]?=some u):(O (p+(10+i))).at_ w:=by
 have:=lt_get hu;have:=hp.ul;have:=hp.ok.C
 exact h.at_ _ (by omega)
theorem PWx.below {w':World} (hp:PWx w0.heap.size O p g A v) (h:Mem w0 w n O) (hb:Below w.heap.size w w'):WUpd w0 w' n O p g v.xs v.us A:=WUpd.below h hp hb
theorem PWx.sBegin (hp:PWx w0.heap.size O p g A v) (h:Mem w0 w n O) (hn:p+16≤n) (hu:v.us[k]?=some u) (hx:v.xs[A.pl k]?=some x):
  Calls Tryz.prog 38 #[.pointer (some ⟨u,0,none⟩),.pointer (some ⟨x,0,none⟩)] w fun e w'=>e=.returned (errV (awBeginE A k))∧WUpd w0 w' n O p g v.xs v.us (awBegin A k):=by
 refine ((hp.cl k u hu).begin_ (hp.atU h hn hu) x _ _ _ _ fun W hb=>(hp.si _ x hx).applied (h.at_below (by have:=lt_get hx;have:=hp.xl;have:=hp.ok.S;omega) hb)).mono ?_
 rintro e w' ⟨rfl,hU⟩
 exact ⟨rfl,WUpd.cl h hn hp hu hU⟩
theorem PWx.sRead (hp:PWx w0.heap.size O p g A v) (h:Mem w0 w n O) (hn:p+16≤n) (hu:v.us[k]?=some u) (hx:v.xs[A.pl k]?=some x) (key:Int) (hk:wf64 key):
  Calls Tryz.prog 41 #[.pointer (some ⟨u,0,none⟩),.pointer (some ⟨x,0,none⟩),.int .i64 key] w fun e w'=>e=.returned (.tuple #[.string (awRead A k key).1,errV (awRead A k key).2])∧Below w.heap.size w w':=
 (hp.cl k u hu).read (hp.atU h hn hu) x key _ hk fun W hb=>(hp.si _ x hx).read (h.at_below (by have:=lt_get hx;have:=hp.xl;have:=hp.ok.S;omega) hb) key _ _ _ _
theorem PWx.sWrite (hp:PWx w0.heap.size O p g A v) (h:Mem w0 w n O) (hn:p+16≤n) (hu:v.us[k]?=some u) (y:WrP):
  Calls Tryz.prog 42 #[.pointer (some ⟨u,0,none⟩),y.val] w fun e w'=>e=.returned (errV (awWriteE A k y))∧WUpd w0 w' n O p g v.xs v.us (awWrite A k y):=by
 refine ((hp.cl k u hu).write (hp.atU h hn hu) y).mono ?_
 rintro e w' ⟨rfl,hU⟩
 exact ⟨rfl,WUpd.cl h hn hp hu hU⟩
theorem PWx.sAbort (hp:PWx w0.heap.size O p g A v) (h:Mem w0 w n O) (hn:p+16≤n) (hu:v.us[k]?=some u):
  Calls Tryz.prog 46 #[.pointer (some ⟨u,0,none⟩)] w fun e w'=>e=.returned (errV (awAbortE A k))∧WUpd w0 w' n O p g v.xs v.us (awAbort A k):=by
 refine ((hp.cl k u hu).abort (hp.atU h hn hu)).mono ?_
 rintro e w' ⟨rfl,hU⟩
 exact ⟨rfl,WUpd.cl h hn hp hu hU⟩
theorem PWx.sPast (hp:PWx w0.heap.size O p g A v) (h:Mem w0 w n O) (hn:p+16≤n) (hu:v.us[k]?=some u):
  Calls Tryz.prog 48 #[.pointer (some ⟨u,0,none⟩)] w fun e w'=>e=.returned (.agg #[.int .i64 (A.cl k).q0,.int .i64 (A.cl k).q1,.int .i64 (A.cl k).q2,.int .i64 (A.cl k).q3])∧Below w.heap.size w w':=
 (hp.cl k u hu).past (hp.atU h hn hu)
theorem PWx.sSnap (hp:PWx w0.heap.size O p g A v) (h:Mem w0 w n O) (hn:p+16≤n) (hu:v.us[k]?=some u):
  Calls Tryz.prog 49 #[.pointer (some ⟨u,0,none⟩)] w fun e w'=>e=.returned (.agg #[.int .i64 (A.cl k).n0,.int .i64 (A.cl k).n1,.int .i64 (A.cl k).n2,.int .i64 (A.cl k).n3])∧Below w.heap.size w w':=
 (hp.cl k u hu).snap (hp.atU h hn hu)
theorem PWx.sOpen (hp:PWx w0.heap.size O p g A v) (h:Mem w0 w n O) (hn:p+16≤n) (hu:v.us[k]?=some u):
  Calls Tryz.prog 50 #[.pointer (some ⟨u,0,none⟩)] w fun e w'=>e=.returned (.bool (A.cl k).op)∧Below w.heap.size w w':=
 (hp.cl k u hu).open_ (hp.atU h hn hu)
theorem PWx.sApplied (hp:PWx w0.heap.size O p g A v) (h:Mem w0 w n O) (hn:p+16≤n) (hx:v.xs[k]?=some x):
  Calls Tryz.prog 26 #[.pointer (some ⟨x,0,none⟩)] w fun e w'=>e=.returned (.agg #[.int .i64 (A.si k).p0,.int .i64 (A.si k).p1,.int .i64 (A.si k).p2,.int .i64 (A.si k).p3])∧Below w.heap.size w w':=
 (hp.si k x hx).applied (hp.atS h hn hx)
theorem PWx.sWaits (hp:PWx w0.heap.size O p g A v) (h:Mem w0 w n O) (hn:p+16≤n) (hx:v.xs[k]?=some x):
  Calls Tryz.prog 27 #[.pointer (some ⟨x,0,none⟩)] w fun e w'=>e=.returned (.int .i64 ((A.si k).ws.length:Nat))∧Below w.heap.size w w':=
 (hp.si k x hx).waits (hp.atS h hn hx)
theorem PWx.sMany (hp:PWx w0.heap.size O p g A v) (h:Mem w0 w n O) (hn:p+16≤n) (hx:v.xs[k]?=some x):
  Calls Tryz.prog 30 #[.pointer (some ⟨x,0,none⟩)] w fun e w'=>e=.returned (.int .i64 ((A.si k).held.length:Nat))∧Below w.heap.size w w':=
 (hp.si k x hx).many (hp.atS h hn hx)
theorem PWx.sAll (hp:PWx w0.heap.size O p g A v) (h:Mem w0 w n O) (hn:p+16≤n) (hx:v.xs[k]?=some x):
  Calls Tryz.prog 32 #[.pointer (some ⟨x,0,none⟩)] w fun e w'=>∃ A' c',e=.returned (.slice A' 8 c')∧TsAt w' A' (aTold (A.si k))∧Below w.heap.size w w':=
 (hp.si k x hx).all (hp.atS h hn hx)
theorem PWx.sStable (hp:PWx w0.heap.size O p g A v) (h:Mem w0 w n O) (hn:p+16≤n) (hx:v.xs[k]?=some x) (m:Int):
  Calls Tryz.prog 28 #[.pointer (some ⟨x,0,none⟩),.int .i64 m] w fun e w'=>
   e=.returned (.agg #[.int .i64 (aStab (A.si k) m 0 (A.si k).p0),.int .i64 (aStab (A.si k) m 1 (A.si k).p1),.int .i64 (aStab (A.si k) m 2 (A.si k).p2),.int .i64 (aStab (A.si k) m 3 (A.si k).p3)])∧Below w.heap.size w w':=
 (hp.si k x hx).stable (hp.atS h hn hx) m
theorem PWx.sMissing (hp:PWx w0.heap.size O p g A v) (h:Mem w0 w n O) (hn:p+16≤n) (hx:v.xs[k]?=some x) (v0 v1 v2 v3:Int):
  Calls Tryz.prog 35 #[.pointer (some ⟨x,0,none⟩),.agg #[.int .i64 v0,.int .i64 v1,.int .i64 v2,.int .i64 v3]] w fun e w'=>∃ (A':Option Addr) (c':Nat) (outs:List MTx),e=.returned (.slice A' outs.length c')∧outs.map (·.t)=aMiss (A.si k) v0 v1 v2 v3∧
   XsAt w' A' outs∧(∀ b o,A'=some ⟨b,o,none⟩→w.heap.size≤b∧b<w'.heap.size)∧(∀ m∈outs,WsAt w' m.A m.t.ws∧∀ b o,m.A=some ⟨b,o,none⟩→w.heap.size≤b∧b<w'.heap.size)∧Below w.heap.size w w':=by
 obtain ⟨mb,s,lv,sv,ho,hf,h40⟩:=hp.si k x hx
 have hat:=hp.atS h hn hx
 rw [ho] at hat
 have hl:∀ m∈s.log,rightTx m.t=true:=fun m hm=>hf.rlg m.t (by rw [←hf.rep.log];exact List.mem_map.2 ⟨m,hm,rfl⟩)
 refine (missing_all w0.heap.size x mb s lv sv v0 v1 v2 v3 w hat hl (by have:=hf.inv.log;omega)).mono ?_
 rintro e w' ⟨A',c',outs,rfl,h1,h2⟩
 exact ⟨A',c',outs,rfl,by rw [h1,hf.rep.log];rfl,h2⟩
theorem PWx.rlg (hp:PWx w0.heap.size O p g A v) {k:Nat} (hk:k<A.S):∀ t∈(A.si k).log,rightTx t=true:=by
 obtain ⟨x,hx⟩:=hp.xk hk
 obtain ⟨mb,s,lv,sv,ho,hf,h40⟩:=hp.si k x hx
 exact hf.rlg
theorem PWx.ask (hp:PWx w0.heap.size O p g A v) {k:Nat} (hk:k<A.S):okAsk (k:Int) (A.si k).p0 (A.si k).p1 (A.si k).p2 (A.si k).p3=true:=by
 obtain ⟨x,hx⟩:=hp.xk hk
 obtain ⟨mb,s,lv,sv,ho,hf,h40⟩:=hp.si k x hx
 have h1:=hf.inv.ap
 have h2:=hp.ok.S
 rw [←hf.rep.p0,←hf.rep.p1,←hf.rep.p2,←hf.rep.p3]
 unfold okAp at h1
 simp only [okAsk,okN,Bool.and_eq_true,decide_eq_true_eq]
 omega
theorem PWx.sTake (hp:PWx w0.heap.size O p g A v) (h:Mem w0 w n O) (hn:p+16≤n) (hx:v.xs[k]?=some x) (t:TxP) (A':Option Addr) (c:Nat) (hws:WsAt w A' t.ws) (hwl:t.ws.length≤1000000) (hfa:wf64 t.site) (hfb:wf64 t.seq):
  Calls Tryz.prog 17 #[.pointer (some ⟨x,0,none⟩),MTx.val ⟨t,A',c⟩] w fun e w'=>e=.returned (errV (rTakeE (A.si k) t))∧WUpd w0 w' n O p g v.xs v.us (awTake A k t):=by
 have hid:(rTake (A.si k) t).id=(k:Int):=by
  rw [←hp.ok.id k]
  unfold rTake
  split
  ·rw [rRun_id]
  ·rfl
 refine ((hp.si k x hx).take (hp.atS h hn hx) t A' c hws hwl hfa hfb).mono ?_
 rintro e w' ⟨rfl,hU⟩
 exact ⟨rfl,WUpd.si h hn hp hx hid hU⟩
theorem PWx.sKnows (hp:PWx w0.heap.size O p g A v) (h:Mem w0 w n O) (hn:p+16≤n) (hx:v.xs[k]?=some x) (f:Nat) (v0 v1 v2 v3:Int) (hf:f<4):
  Calls Tryz.prog 20 #[.pointer (some ⟨x,0,none⟩),.int .i64 (f:Nat),.agg #[.int .i64 v0,.int .i64 v1,.int .i64 v2,.int .i64 v3]] w fun e w'=>e=.returned .nilIface∧WUpd w0 w' n O p g v.xs v.us (awKnows A k f v0 v1 v2 v3):=by
 refine ((hp.si k x hx).knows (hp.atS h hn hx) f v0 v1 v2 v3 hf).mono ?_
 rintro e w' ⟨rfl,hU⟩
 exact ⟨rfl,WUpd.si h hn hp hx (hp.ok.id k) hU⟩
theorem PWx.sSweep (hp:PWx w0.heap.size O p g A v) (h:Mem w0 w n O) (hn:p+16≤n) (hx:v.xs[k]?=some x) (v0 v1 v2 v3:Int):
  Calls Tryz.prog 21 #[.pointer (some ⟨x,0,none⟩),.agg #[.int .i64 v0,.int .i64 v1,.int .i64 v2,.int .i64 v3]] w fun e w'=>e=.returned (.tuple #[])∧WUpd w0 w' n O p g v.xs v.us { A with si:=fset A.si k (rSwept (A.si k) v0 v1 v2 v3) }:=by
 refine ((hp.si k x hx).sweep (hp.atS h hn hx) v0 v1 v2 v3).mono ?_
 rintro e w' ⟨rfl,hU⟩
 exact ⟨rfl,WUpd.si h hn hp hx (hp.ok.id k) hU⟩
end
section
variable {w0 w:World} {n:Nat} {O:Nat→Ob} {p g:Nat} {A:AWd} {v:WV} {k u x:Nat}
set_option maxRecDepth 20000 in
set_option maxHeartbeats 4000000 in
theorem client_ok (hp:PWx w0.heap.size O p g A v) (h:Mem w0 w n O) (hn:p+16≤n) (hk:k<A.C) (hu:v.us[k]?=some u) (hx:v.xs[A.pl k]?=some x):
  Calls Tryz.prog 112 #[.pointer (some ⟨g,0,none⟩),.int .i64 (k:Nat)] w fun e w'=>e=.returned (.tuple #[.pointer (some ⟨u,0,none⟩),.pointer (some ⟨x,0,none⟩),.nilIface])∧Below w.heap.size w w':=by
 have hb:=hp.blk h hn
 obtain ⟨bS,cS,eS,_,lS,kS,_⟩:=row_at h (i:=p+1) (by omega) hp.b1 (by have:=hp.ok.S;omega)
 obtain ⟨bC,cC,eC,_,lC,kC,_⟩:=row_at h (i:=p+3) (by omega) hp.b3 (by omega)
 obtain ⟨bP,cP,eP,_,lP,kP,_⟩:=row_at h (i:=p+4) (by omega) hp.b4 (by omega)
 have x1:=kC k _ hk (ptrs_get hu)
 have x2:=kP k _ hk (intsN_get hk)
 have x3:=kS (A.pl k) _ (hp.ok.pl k) (ptrs_get hx)
 have hpl:=hp.ok.pl k
 rw [eS,eC,eP] at hb
 have c0:=cell_blk hb 0;have c2:=cell_blk hb 2;have c3:=cell_blk hb 3
 simp only [zC,zD,zE] at c0 c2 c3
 haveI:SzGe (g+1) w:=⟨lt_blk hb⟩
 haveI:SzGe (bS+1) w:=⟨lS⟩
 haveI:SzGe (bC+1) w:=⟨lC⟩
 haveI:SzGe (bP+1) w:=⟨lP⟩
 clear hb kS kC kP eS eC eP hp h hn hu hx lS lC lP
 generalize A.pl k=q at *
 generalize A.C=C at *
 generalize A.S=S at *
 have d0:decide ((k:Int)<0)=false:=decide_eq_false (by omega)
 have d1:decide ((C:Int)≤(k:Int))=false:=decide_eq_false (by omega)
 have d2:decide (C≤k)=false:=decide_eq_false (by omega)
 have hk0:(0:Int)≤(k:Int):=by omega
 have hk1:(k:Int)<(C:Int):=by omega
 have hq0:(0:Int)≤(q:Int):=by omega
 have hq1:(q:Int)<(S:Int):=by omega
 go_enter Tryz.func112,Tryz.ntmps112
 go_wp2_with fail
 refine wp_region_plus (by kernel_rfl) (by kernel_rfl) ?_
 repeat (first | go_big_quiet_skip | (go_big_quiet_want;go_big_quiet_op;first | go_big_quiet_on))
 refine wpQuiet_nil ?_
 rintro _ ⟨x9,rfl⟩
 go_wp2_with fail
 refine bodyPost_ret (v:=.tuple #[.pointer (some ⟨u,0,none⟩),.pointer (some ⟨x,0,none⟩),.nilIface]) ?_ rfl ⟨rfl,zB⟩
 simp [results,Tryz.results112,go_sem]
set_option maxRecDepth 20000 in
set_option maxHeartbeats 4000000 in
theorem wBegin_ok (hp:PWx w0.heap.size O p g A v) (h:Mem w0 w n O) (hn:p+16≤n) (hk:k<A.C):
  Calls Tryz.prog 100 #[.pointer (some ⟨g,0,none⟩),.int .i64 (k:Nat)] w fun e w'=>e=.returned (errV (awBeginE A k))∧WUpd w0 w' n O p g v.xs v.us (awBegin A k):=by
 obtain ⟨u,hu⟩:=hp.uk hk
 obtain ⟨x,hx⟩:=hp.xk (hp.ok.pl k)
 have HC:=hidp (client_ok hp h hn hk hu hx)
 have HB:=hidp (fun W (hb:Below w.heap.size w W)=>hp.sBegin (h.below hb) hn hu hx)
 obtain ⟨z,hz⟩:∃ z,errV (awBeginE A k)=z:=⟨_,rfl⟩
 rw [hz] at HB ⊢
 clear hp h hu hx hk hz
 go_enter Tryz.func100,Tryz.ntmps100
 go_wp2_with fail
 go_at_call 112
 refine (HC.out.mono ?_)
 rintro e w1 ⟨rfl,hb1⟩
 have HB1:=hidp hb1
 clear hb1 HC
 go_wp2_with fail
 go_at_call 38
 refine (HB.out _ HB1.out).mono ?_
 rintro e w2 ⟨rfl,hU⟩
 have HU:=hidp hU
 clear hU HB
 go_wp2_with fail
 go_ret
 exact ⟨rfl,HU.out⟩
set_option maxRecDepth 20000 in
set_option maxHeartbeats 4000000 in
theorem wAbort_ok (hp:PWx w0.heap.size O p g A v) (h:Mem w0 w n O) (hn:p+16≤n) (hk:k<A.C):
  Calls Tryz.prog 106 #[.pointer (some ⟨g,0,none⟩),.int .i64 (k:Nat)] w fun e w'=>e=.returned (errV (awAbortE A k))∧WUpd w0 w' n O p g v.xs v.us (awAbort A k):=by
 obtain ⟨u,hu⟩:=hp.uk hk
 obtain ⟨x,hx⟩:=hp.xk (hp.ok.pl k)
 have HC:=hidp (client_ok hp h hn hk hu hx)
 have HB:=hidp (fun W (hb:Below w.heap.size w W)=>hp.sAbort (h.below hb) hn hu)
 obtain ⟨z,hz⟩:∃ z,errV (awAbortE A k)=z:=⟨_,rfl⟩
 rw [hz] at HB ⊢
 clear hp h hu hx hk hz
 go_enter Tryz.func106,Tryz.ntmps106
 go_wp2_with fail
 go_at_call 112
 refine (HC.out.mono ?_)
 rintro e w1 ⟨rfl,hb1⟩
 have HB1:=hidp hb1
 clear hb1 HC
 go_wp2_with fail
 go_at_call 46
 refine (HB.out _ HB1.out).mono ?_
 rintro e w2 ⟨rfl,hU⟩
 have HU:=hidp hU
 clear hU HB
 go_wp2_with fail
 go_ret
 exact ⟨rfl,HU.out⟩
end
theorem wrap64_succ (n:Nat):wrap64 (wrap64 (n:Int)+1)=wrap64 ((n+1:Nat):Int):=by
 unfold wrap64
 omega
section
variable {w0 w:World} {n:Nat} {O:Nat→Ob} {p g:Nat} {A:AWd} {v:WV} {k u x:Nat}
theorem PWx.lostWay (hp:PWx w0.heap.size O p g A v) (h:Mem w0 w n O) (hn:p+16≤n):WUpd w0 (w.setCell ⟨g,5,none⟩ (.int .i64 (wrap64 ((A.lost+1:Nat):Int)))) n O p g v.xs v.us { A with lost:=A.lost+1 }:=by
 have h1:=h.set (i:=p+0) (by omega) hp.b0 5 (.int .i64 (wrap64 ((A.lost+1:Nat):Int)))
 refine ⟨_,h1,(hp.setWay (way:=A.way) (lost:=A.lost+1) (vG:=v.vG) (gs:=v.gs) hp.ok.len hp.ok.way hp.wr ?_ ?_ ?_).a,fun k _ hk=>oset_other _ (by omega)⟩
 ·rw [oset_same];rfl
 ·rw [oset_other _ (by omega)];exact hp.b5
 ·exact fun j hj h0 h5=>oset_other _ (by omega)
theorem obWay_app {w0 w W3 W4:World} {vG:Value} {gs:List MGm} {m:MGm} {b g1 cap1:Nat} (hat:(obWay w0.heap.size vG gs).at_ w) (hB:Below w.heap.size w W3) (hm:m.A=some ⟨b,0,none⟩)
  (hbs:BsVal W3 W3.heap.size (.slice m.A m.l.length m.c) m.l) (hb:w.heap.size≤b) (hb2:b<W3.heap.size)
  (hown:W4.ownsRow w0.heap.size 243 2 (.slice (some ⟨g1,0,none⟩) (gs.length+1) cap1) (gs.length+1) (gs.flatMap MGm.cells++m.cells)) (hgrow:W3.grownBy W4 vG.ownBlock) (hg1:vG.ownBlock=some g1∨g1=W3.heap.size):
  (obWay w0.heap.size (.slice (some ⟨g1,0,none⟩) (gs.length+1) cap1) (gs++[m])).at_ W4∧SiFr w W4 (obWay w0.heap.size vG gs).own (obWay w0.heap.size (.slice (some ⟨g1,0,none⟩) (gs.length+1) cap1) (gs++[m])).own∧
    ∀ k,(obWay w0.heap.size (.slice (some ⟨g1,0,none⟩) (gs.length+1) cap1) (gs++[m])).dat k→(obWay w0.heap.size vG gs).dat k∨w.heap.size≤k:=by
 obtain ⟨hr,hd⟩:=hat
 have hlt:∀ k,vG.ownBlock=some k→w0.heap.size≤k∧k<w.heap.size:=fun k e=>own_ge hr e
 have hs:=hB.size
 have hblk:∀ k,k<W3.heap.size→vG.ownBlock≠some k→W4.heap[k]?=W3.heap[k]?:=fun k hk hne=>hgrow.block k hk (fun e=>hne e.symm)
 have hg1k:∀ k,k<w.heap.size→vG.ownBlock≠some k→g1≠k:=fun k hk hne e=>by
  subst e
  rcases hg1 with e | e
  ·exact hne e
  ·omega
 refine ⟨⟨?_,fun m' hm'=>?_⟩,⟨hgrow.os.trans hB.os,hgrow.tape.trans hB.tape,hgrow.output.trans hB.output,Nat.le_trans hs hgrow.size,fun k hk hne=>(hblk k (by omega) hne).trans (hB.block k hk),fun k e=>?_⟩,fun k e=>?_⟩
 ·rw [List.flatMap_append,List.length_append]
  simpa using hown
 ·rcases List.mem_append.1 hm' with h1 | h1
  ·obtain ⟨k1,k2⟩:=hd m' h1
   refine ⟨k1.same (Nat.le_trans hs hgrow.size) fun b' o e=>?_,fun b' o e=>?_⟩
   ·obtain ⟨j1,j2⟩:=k2 b' o e
    exact (hblk b' (by omega) j2).trans (hB.block b' j1)
   ·obtain ⟨j1,j2⟩:=k2 b' o e
    have:=hgrow.size
    exact ⟨by omega,fun e2=>hg1k b' j1 j2 (by simpa [Value.ownBlock] using e2)⟩
  ·rw [List.mem_singleton] at h1
   subst h1
   have hne:vG.ownBlock≠some b:=fun e=>by have:=(hlt b e).2;omega
   refine ⟨hbs.same hgrow.size fun b' o e=>?_,fun b' o e=>?_⟩
   ·rw [hm] at e
    simp only [Option.some.injEq,Addr.mk.injEq] at e
    obtain ⟨rfl,_⟩:=e
    exact hblk b hb2 hne
   ·rw [hm] at e
    simp only [Option.some.injEq,Addr.mk.injEq] at e
    obtain ⟨rfl,_⟩:=e
    have:=hgrow.size
    refine ⟨by omega,fun e2=>?_⟩
    have e3:g1=b:=by simpa [Value.ownBlock] using e2
    rcases hg1 with e | e
    ·exact hne (e.trans (by rw [e3]))
    ·omega
 ·have e3:g1=k:=by simpa [obWay,Value.ownBlock] using e
  subst e3
  rcases hg1 with e | e
  ·exact .inl e
  ·exact .inr (by omega)
 ·obtain ⟨m',hm',o,e⟩:=e
  rcases List.mem_append.1 hm' with h1 | h1
  ·exact .inl ⟨m',h1,o,e⟩
  ·rw [List.mem_singleton] at h1
   subst h1
   rw [hm] at e
   simp only [Option.some.injEq,Addr.mk.injEq] at e
   obtain ⟨rfl,_⟩:=e
   exact .inr hb
theorem PWx.sentWay (hp:PWx w0.heap.size O p g A v) (h:Mem w0 w n O) (hn:p+16≤n) {W3 W4:World} {gm:GmP} {b c1 g1 cap1:Nat} (hgm:GmOk A.S gm) (hlen:¬300≤A.way.length) (hB:Below w.heap.size w W3)
  (hbs:BsVal W3 W3.heap.size (.slice (some ⟨b,0,none⟩) (gmB gm).length c1) (gmB gm)) (hb:w.heap.size≤b) (hb2:b<W3.heap.size)
  (hown:W4.ownsRow w0.heap.size 243 2 (.slice (some ⟨g1,0,none⟩) (A.way.length+1) cap1) (A.way.length+1) (v.gs.flatMap MGm.cells++[.int .i64 (gm.tgt:Int),.slice (some ⟨b,0,none⟩) (gmB gm).length c1])) (hgrow:W3.grownBy W4 v.vG.ownBlock) (hg1:v.vG.ownBlock=some g1∨g1=W3.heap.size):
  WUpd w0 (W4.setCell ⟨g,4,none⟩ (.slice (some ⟨g1,0,none⟩) (A.way.length+1) cap1)) n O p g v.xs v.us (awSend A gm):=by
 have hl:=hp.wr.len
 have hat:=h.at_ (p+5) (by omega)
 rw [hp.b5] at hat
 obtain ⟨k1,k2,k3⟩:=obWay_app (m:=⟨gm.tgt,some ⟨b,0,none⟩,c1,gmB gm⟩) hat hB rfl hbs hb hb2 (by rw [hl];exact hown) hgrow hg1
 obtain ⟨O1,m1,m2,m3⟩:=h.step1 (i:=p+5) (by omega) (o:=obWay w0.heap.size (.slice (some ⟨g1,0,none⟩) (v.gs.length+1) cap1) (v.gs++[⟨gm.tgt,some ⟨b,0,none⟩,c1,gmB gm⟩])) (obWay_ok ..) k1 (by rw [hp.b5];exact k2) (by rw [hp.b5];exact k3)
 have hb0:O1 (p+0)=_:=(m3 (p+0) (by omega)).trans hp.b0
 have h2:=m1.set (i:=p+0) (by omega) hb0 4 (.slice (some ⟨g1,0,none⟩) (A.way.length+1) cap1)
 have e:awSend A gm={ A with way:=A.way++[gm],lost:=A.lost }:=by unfold awSend;rw [if_neg hlen]
 rw [e]
 refine ⟨_,h2,(hp.setWay (way:=A.way++[gm]) (lost:=A.lost) (vG:=.slice (some ⟨g1,0,none⟩) (A.way.length+1) cap1) (gs:=v.gs++[⟨gm.tgt,some ⟨b,0,none⟩,c1,gmB gm⟩]) (by simp;omega) ?_ ?_ ?_ ?_ ?_).a,fun k _ hk=>by rw [oset_other _ (by omega)];exact m3 k (by omega)⟩
 ·intro m hm
  rcases List.mem_append.1 hm with h1 | h1
  ·exact hp.ok.way m h1
  ·rw [List.mem_singleton] at h1;rw [h1];exact hgm
 ·have:=hp.wr
  unfold WayRep at this ⊢
  rw [List.map_append,List.map_append,this]
  rfl
 ·rw [oset_same];rfl
 ·rw [oset_other _ (by omega),m2,hl]
 ·exact fun j hj h0 h5=>by rw [oset_other _ (by omega)];exact m3 _ (by omega)
set_option maxRecDepth 20000 in
set_option maxHeartbeats 8000000 in
theorem wSend_any (hp:PWx w0.heap.size O p g A v) (h:Mem w0 w n O) (hn:p+16≤n) (gm:GmP) (hgm:GmOk A.S gm) (Ab:Option Addr) (cb:Nat) (hv:BsVal w w.heap.size (.slice Ab (gmB gm).length cb) (gmB gm)):
  Calls Tryz.prog 147 #[.pointer (some ⟨g,0,none⟩),.int .i64 (gm.tgt:Int),.slice Ab (gmB gm).length cb] w fun e w'=>e=.returned (.tuple #[])∧WUpd w0 w' n O p g v.xs v.us (awSend A gm):=by
 have hb:=hp.blk h hn
 have hat:=h.at_ (p+5) (by omega)
 rw [hp.b5] at hat
 obtain ⟨aG,cG,eG⟩:=way_form h (i:=p+5) (by omega) hp.b5
 rw [hp.wr.len] at eG
 rw [eG] at hb
 have c4:=cell_blk hb 4;have c5:=cell_blk hb 5
 simp only [zC,zD,zE] at c4 c5
 have f4:=frozen_blk hb 4;have f5:=frozen_blk hb 5
 have hgl:g<w.heap.size:=lt_blk hb
 have hw0:w0.heap.size≤w.heap.size:=h.low.size
 haveI:SzGe (g+1) w:=⟨hgl⟩
 by_cases h300:300≤A.way.length
 ·have d0:decide (300≤A.way.length)=true:=decide_eq_true h300
  have d1:decide ((300:Int)≤(A.way.length:Int))=true:=decide_eq_true (by omega)
  have e:awSend A gm={ A with lost:=A.lost+1 }:=by unfold awSend;rw [if_pos h300]
  have HE:=hidp (hp.lostWay h hn)
  rw [←e] at HE
  have HWR:=hidp (wrap64_succ A.lost)
  clear e hb hat eG hv hgm h300 hp h hn
  generalize A.way.length=l at *
  generalize A.lost=lo at *
  generalize awSend A gm=A' at *
  go_enter Tryz.func147,Tryz.ntmps147
  go_wp2_with fail
  refine bodyPost_ret (results_none rfl _ _ _) rfl ⟨rfl,?_⟩
  first | (rw [HWR.out];exact HE.out) | exact HE.out
 ·have d0:decide (300≤A.way.length)=false:=decide_eq_false h300
  have d1:decide ((300:Int)≤(A.way.length:Int))=false:=decide_eq_false (by omega)
  have hgne:v.vG.ownBlock≠some g:=fun e=>by
   have:=(h.dis (p+5) (p+0) (by omega) (by omega) (by omega) g (by rw [hp.b5];exact e)).1
   exact this (by rw [hp.b0];rfl)
  have HSE:Hid (∀ (W3 W3' W4:World) (b c1 g1 cap1:Nat),Below w.heap.size w W3→BsVal W3 W3.heap.size (.slice (some ⟨b,0,none⟩) (gmB gm).length c1) (gmB gm)→w.heap.size≤b→b<W3.heap.size→
    W4.ownsRow w0.heap.size 243 2 (.slice (some ⟨g1,0,none⟩) (A.way.length+1) cap1) (A.way.length+1) (v.gs.flatMap MGm.cells++[.int .i64 (gm.tgt:Int),.slice (some ⟨b,0,none⟩) (gmB gm).length c1])→
    (W3.alloc (.cells #[.int .i64 (gm.tgt:Int),.slice (some ⟨b,0,none⟩) (gmB gm).length c1] 243)).grownBy W4 v.vG.ownBlock→(v.vG.ownBlock=some g1∨g1=(W3.alloc (.cells #[.int .i64 (gm.tgt:Int),.slice (some ⟨b,0,none⟩) (gmB gm).length c1] 243)).heap.size)→
    WUpd w0 (W4.setCell ⟨g,4,none⟩ (.slice (some ⟨g1,0,none⟩) (A.way.length+1) cap1)) n O p g v.xs v.us (awSend A gm)):=hidp (by
   intro W3 W3' W4 b c1 g1 cap1 k1 k2 k3 k4 k5 k6 k7
   exact hp.sentWay h hn hgm h300 (k1.alloc k1.size _) ((k2.above fun k hk=>by rw [heap_alloc,if_neg (by omega)]).mono (by simp)) k3 (by simp;omega) k5 k6 k7)
  have HCL:=hidp (fun W (hW:Below w.heap.size w W)=>bclone_any Ab cb (gmB gm) W ((hv.above fun k hk=>hW.block k (by omega)).mono hW.size) (gmB_len hgm).2 (by have:=(gmB_len hgm).1;omega))
  have hown:=hat.1
  rw [hp.wr.len,eG] at hown
  have HOW:=hidp hown
  have hl300:A.way.length≤300:=by omega
  rw [eG] at hgne HSE
  obtain ⟨i0,hi0,hz0,hz1,hz2⟩:=info_parts infoG
  have HN1:Hid (∀ b c1,∀ u∈([.int .i64 (gm.tgt:Int),.slice (some ⟨b,0,none⟩) (gmB gm).length c1]:List Value),u.oneCell'=true):=hidp (by
   intro b c1 u hu;simp at hu;rcases hu with rfl | rfl <;> rfl)
  have h63:A.way.length+1≤maxLen:=by refine Nat.le_trans ?_ maxLen_ge;omega
  have hby:(A.way.length+1)*32≤140737488355328:=by omega
  clear hb hat eG hv hgm h300 hp h hn hown
  generalize A.way.length=l at *
  generalize awSend A gm=A' at *
  generalize v.gs=gs at *
  generalize (gmB gm).length=bl at *
  generalize gmB gm=bts at *
  generalize gm.tgt=tg at *
  go_enter Tryz.func147,Tryz.ntmps147
  go_wp2_with fail
  refine wp_region_split 11 (S:=(fun X:World=>X.cell? ⟨g,4,none⟩=some (.slice aG l cG))) (by kernel_rfl) (by kernel_rfl) ?_ (fun hHeld=>?_)
  ·first | exact q1 | exact hk3 | (show World.cell? (World.alloc _ _) _=_;rw [World.cell?_alloc_lt];exact hk3;exact Nat.lt_of_lt_of_le hgl HB3.out.size) | exact c4
  simp only [List.take_succ_cons,List.take_zero,List.drop_succ_cons,List.drop_zero]
  refine takeL 0 rfl (by kernel_rfl) (by kernel_rfl) (by kernel_rfl) (fun _ _ _ h=>h) hHeld (by rfl) (v:=?_) ?_ ?_
  rotate_left
  ·intro w hSw
   (try dsimp only at hSw)
   go_simp
   all_goals (with_reducible rfl)
  try simp only [Act.put,zF,zG,zH]
  refine takeL 1 rfl (by kernel_rfl) (by kernel_rfl) (by kernel_rfl) (fun _ _ _ h=>h) hHeld (by rfl) (v:=?_) ?_ ?_
  rotate_left
  ·intro w hSw
   (try dsimp only at hSw)
   go_simp
   all_goals (with_reducible rfl)
  try simp only [Act.put,zF,zG,zH]
  refine takeL 2 rfl (by kernel_rfl) (by kernel_rfl) (by kernel_rfl) (fun _ _ _ h=>h) hHeld (by rfl) (v:=?_) ?_ ?_
  rotate_left
  ·intro w hSw
   (try dsimp only at hSw)
   go_simp
   all_goals (with_reducible rfl)
  try simp only [Act.put,zF,zG,zH]
  refine takeL 3 rfl (by kernel_rfl) (by kernel_rfl) (by kernel_rfl) (fun _ _ _ h=>h) hHeld (by rfl) (v:=?_) ?_ ?_
  rotate_left
  ·intro w hSw
   (try dsimp only at hSw)
   go_simp
   all_goals (with_reducible rfl)
  try simp only [Act.put,zF,zG,zH]
  refine takeL 4 rfl (by kernel_rfl) (by kernel_rfl) (by kernel_rfl) (fun _ _ _ h=>h) hHeld (by rfl) (v:=?_) ?_ ?_
  rotate_left
  ·intro w hSw
   (try dsimp only at hSw)
   go_simp
   all_goals (with_reducible rfl)
  try simp only [Act.put,zF,zG,zH]
  refine takeL 5 rfl (by kernel_rfl) (by kernel_rfl) (by kernel_rfl) (fun _ _ _ h=>h) hHeld (by rfl) (v:=?_) ?_ ?_
  rotate_left
  ·intro w hSw
   (try dsimp only at hSw)
   go_simp
   all_goals (with_reducible rfl)
  try simp only [Act.put,zF,zG,zH]
  refine takeL 6 rfl (by kernel_rfl) (by kernel_rfl) (by kernel_rfl) (fun _ _ _ h=>h) hHeld (by rfl) (v:=?_) ?_ ?_
  rotate_left
  ·intro w hSw
   (try dsimp only at hSw)
   go_simp
   all_goals (with_reducible rfl)
  try simp only [Act.put,zF,zG,zH]
  refine wpAnyH_ready (rs:=[7]) (by kernel_rfl) (by simp) ?_
  refine consL rfl (fun K hK=>?_) ?_
  ·go_simp
   go_at_call 184
   refine (HCL.out _ zB).mono ?_
   rintro e w3 ⟨b,c1,rfl,hbs,hb3,hb1,hb2⟩
   have HB3:=hidp (Below.trans (show Below w.heap.size w w.drew from zB) hb3)
   have HBS:=hidp hbs
   have hhb:w.heap.size≤b:=hb1
   have hk3:w3.cell? ⟨g,4,none⟩=some (.slice aG l cG):=(HB3.out.cell (p:=⟨g,4,none⟩) hgl).trans c4
   clear hbs hb3 hb1
   go_wp2_with fail
   refine hK.out _ _ ?_ (fun hNew=>?_)
   ·first | exact q1 | exact hk3 | (show World.cell? (World.alloc _ _) _=_;rw [World.cell?_alloc_lt];exact hk3;exact Nat.lt_of_lt_of_le hgl HB3.out.size) | exact c4
   clear hHeld
   have hHeld:=hNew
   clear hNew hK K
   try simp only [Act.put,zF,zG,zH]
   refine takeL 8 rfl (by kernel_rfl) (by kernel_rfl) (by kernel_rfl) (fun _ _ _ h=>h) hHeld (by rfl) (v:=?_) ?_ ?_
   rotate_left
   ·intro w hSw
    (try dsimp only at hSw)
    go_simp
    all_goals (with_reducible rfl)
   try simp only [Act.put,zF,zG,zH]
   refine wpAnyH_ready (rs:=[9]) (by kernel_rfl) (by simp) ?_
   refine consL rfl (fun K hK=>?_) ?_
   ·go_simp
    refine hK.out _ _ ?_ (fun hNew=>?_)
    ·first | exact q1 | exact hk3 | (show World.cell? (World.alloc _ _) _=_;rw [World.cell?_alloc_lt];exact hk3;exact Nat.lt_of_lt_of_le hgl HB3.out.size) | exact c4
    clear hHeld
    have hHeld:=hNew
    clear hNew hK K
    try simp only [Act.put,zF,zG,zH]
    refine wpAnyH_ready (rs:=[10]) (by kernel_rfl) (by simp) ?_
    refine consL rfl (fun K hK=>?_) ?_
    ·refine step_append_lies _ rfl (.tmp 23) (.tmp 28) 189 rfl w0.heap.size 243 i0 obz 2 32 Tryz.underlying189 hi0 hz0 hz1 hz2 rfl (by decide) (.slice aG l cG) l (gs.flatMap MGm.cells) (by simp [Act.eval,Act.put]) (own_below HOW.out (HB3.out.alloc HB3.out.size _) (fun k e=>(own_ge HOW.out e).2)) ⟨w3.heap.size,0,none⟩ 1 1 [.int .i64 (tg:Int),.slice (some ⟨b,0,none⟩) bl c1] (by simp [Act.eval,Act.put]) rfl (World.news_of_block (cs:=#[.int .i64 (tg:Int),.slice (some ⟨b,0,none⟩) bl c1]) (blk_new rfl _)) (HN1.out _ _) (by decide) h63 hby (by have:=HB3.out.size;simp;omega) _ rfl ?_
     intro g1 cap1 w5 hown1 hgrow hgl1 hlt1
     have hgr:=grown_alloc hgrow
     have HE:=hidp (HSE.out w3 (w3.alloc (.cells #[.int .i64 (tg:Int),.slice (some ⟨b,0,none⟩) bl c1] 243)) w5 b c1 g1 cap1 HB3.out HBS.out hhb hb2 hown1 hgrow hgl1)
     have q1:w5.cell? ⟨g,4,none⟩=some (.slice aG l cG):=by rw [World.cell?_of_block (hgr.block g (by have:=HB3.out.size;omega) (fun e=>hgne e.symm))];exact hk3
     have q2:w5.frozen? ⟨g,4,none⟩=false:=by rw [World.frozen?_of_block (hgr.block g (by have:=HB3.out.size;omega) (fun e=>hgne e.symm)),HB3.out.frozen (p:=⟨g,4,none⟩) hgl];exact f4
     clear hown1 hgrow hgl1 hgr
     refine hK.out _ _ ?_ (fun hNew=>?_)
     ·first | exact q1 | exact hk3 | (show World.cell? (World.alloc _ _) _=_;rw [World.cell?_alloc_lt];exact hk3;exact Nat.lt_of_lt_of_le hgl HB3.out.size) | exact c4
     clear hHeld
     have hHeld:=hNew
     clear hNew hK K
     try simp only [Act.put,zF,zG,zH]
     refine wpAnyH_done (by kernel_rfl) ?_ _
     refine headQ.normal ?_
     go_wp2_with fail
     refine bodyPost_end (results_none rfl _ _ _) rfl ⟨rfl,HE.out⟩
    exact AllReadyH.nil
   exact AllReadyH.nil
  exact AllReadyH.nil
end
end Go.Proofs.YtbopfhbeegkkaabGreatDoor
