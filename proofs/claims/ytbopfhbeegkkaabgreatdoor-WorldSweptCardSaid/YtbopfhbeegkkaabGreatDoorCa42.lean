/- Part 42 of a proof: lemmas and contracts that other parts use. -/
import Derived.Test.YtbopfhbeegkkaabGreatDoorCa38
set_option linter.unusedVariables false
set_option linter.unusedSimpArgs false
set_option linter.constructorNameAsVariable false
namespace Go.Proofs.YtbopfhbeegkkaabGreatDoor
open Go.RowKit
section
variable {w0 w:World} {n:Nat} {O:Nat→Ob} {p tb:Nat} {s:TlP} {t:TV} {b:Nat→Int→Int}
set_option maxRecDepth 200000 in
set_option maxHeartbeats 16000000 in
theorem does_1 (hg:EType w) (ht:TAx w0.heap.size O p tb s t) (hm:Mem w0 w n O) (hn:p+25≤n) (hok:TlOk s b) (hT:s.T.length<200) (ak an:Int) (ad:ByteArray) (ag sw:Bool):
  Calls Tryz.prog 53 #[.pointer (some ⟨tb,0,none⟩),.agg #[.int .i64 1,.int .i64 ak,.int .i64 an,.string ad,.bool ag],.bool sw] w fun e w'=>e=.returned (.bool true)∧TUpd w0 w' n O p tb t.g (tlDo s ⟨1,ak,an,ad,ag⟩ sw):=by
 have hC1:1≤s.A.C:=hok.C
 have hC6:s.A.C≤6:=ht.w.ok.C
 obtain ⟨hS1,hS4⟩:=hok.inv.S
 have hL3:s.A.way.length≤300:=hok.inv.wl
 obtain ⟨k,hkk⟩:∃ k,pickN ak s.A.C=k:=⟨_,rfl⟩
 have hk:k<s.A.C:=by rw [←hkk];exact pickN_lt _ hC1
 obtain ⟨iI,hI⟩:∃ i,(if 0<s.A.way.length then pickN an s.A.way.length else 0)=i:=⟨_,rfl⟩
 obtain ⟨d,hd⟩:∃ d,s.A.cl k=d:=⟨_,rfl⟩
 have HPK:=hidp (fun W=>pick_is ak s.A.C W hC1 (by omega))
 have HPN:=hidp (fun W (h0:0<s.A.way.length)=>pick_is an s.A.way.length W h0 (by omega))
 obtain ⟨kS,hkS⟩:∃ x,pickN ak s.A.S=x:=⟨_,rfl⟩
 obtain ⟨nS,hnS⟩:∃ x,pickN an s.A.S=x:=⟨_,rfl⟩
 obtain ⟨n5,hn5⟩:∃ x,pickN an 50=x:=⟨_,rfl⟩
 obtain ⟨n8,hn8⟩:∃ x,pickN an 8=x:=⟨_,rfl⟩
 have hkSl:kS<s.A.S:=by rw [←hkS];exact pickN_lt _ (by omega)
 have hnSl:nS<s.A.S:=by rw [←hnS];exact pickN_lt _ (by omega)
 have hn5l:n5<50:=by rw [←hn5];exact pickN_lt _ (by omega)
 have hn8l:n8<8:=by rw [←hn8];exact pickN_lt _ (by omega)
 have HP1:=hidp (fun W=>pick_is ak s.A.S W (by omega) (by omega))
 have HP2:=hidp (fun W=>pick_is an s.A.S W (by omega) (by omega))
 have HP5:=hidp (fun W=>(show Calls Tryz.prog 105 #[.int .i64 an,.int .i64 50] W (fun e w'=>e=.returned (.int .i64 (pickN an 50:Nat))∧W=w') from pick_is an 50 W (by omega) (by omega)))
 have HP8:=hidp (fun W=>(show Calls Tryz.prog 105 #[.int .i64 an,.int .i64 8] W (fun e w'=>e=.returned (.int .i64 (pickN an 8:Nat))∧W=w') from pick_is an 8 W (by omega) (by omega)))
 rw [hkS] at HP1;rw [hnS] at HP2;rw [hn5] at HP5;rw [hn8] at HP8
 rw [hkk] at HPK
 have HI:=hidp hI
 have HMA:=hidp (fun W (hW:Below w.heap.size w W)=>wMany_any ht.w (hm.below hW) (by omega))
 have HCL:=hidp (fun W (hW:Below w.heap.size w W)=>wClient_ok ht.w (hm.below hW) (by omega) hk)
 rw [hd] at HCL
 have HM:=hidp hm
 have HT:=hidp ht
 have HOK:=hidp hok
 have HKK:=hidp hkk
 have HDD:=hidp hd
 have HGE:=hidp hg
 have hbk:=ht.blk hm hn
 have c0:=cell_blk hbk 0;have c1:=cell_blk hbk 1;have c2:=cell_blk hbk 2
 simp only [zC,zD,zE] at c0 c1 c2
 have HBK:=hidp hbk
 haveI:SzGe (tb+1) w:=⟨lt_blk hbk⟩
 obtain ⟨g,hgg⟩:∃ g,t.g=g:=⟨_,rfl⟩
 rw [hgg] at c0 HMA HCL HBK
 have HGG:=hidp hgg
 obtain ⟨s',hs'⟩:∃ s',s=s':=⟨_,rfl⟩
 have HS':=hidp hs'
 have HC2:Hid (s'.A.C=s.A.C):=hidp (by rw [←hs'];try exact rfl)
 obtain ⟨d',hd'⟩:∃ d',s'.A.cl k=d':=⟨_,rfl⟩
 have HD2:=hidp hd'
 have HCO:=hidp (covers_of (show clCov d' d from by rw [←hd',←hs',←hd];exact clCov.refl _))
 have HEND:Hid (∀ W,TUpd w0 W n O p tb g s'→TUpd w0 W n O p tb t.g (tlDo s (⟨1,ak,an,ad,ag⟩:TaP) sw)):=hidp (fun W hW=>by rw [(show tlDo s (⟨1,ak,an,ad,ag⟩:TaP) sw=s' from (by exact (tlDo_1 _ _ _ rfl).trans hs')),hgg];exact hW)
 clear hs' hd'
 clear hm ht hok hkk hd hg hbk hI hgg hkS hnS hn5 hn8
 generalize hLL:s.A.way.length=L at *
 generalize hCC:s.A.C=C at *
 generalize hSS:s.A.S=S at *
 have HLL:=hidp hLL
 have HCC:=hidp hCC
 have HSS:=hidp hSS
 clear hLL hCC hSS
 go_enter Tryz.func53,Tryz.ntmps53
 go_wp2_with fail
 have HBA:=hidp (show (w.alloc (.cells #[.int .i64 1,.int .i64 ak,.int .i64 an,.string ad,.bool ag] 105)).heap[w.heap.size]?=some (.cells #[.int .i64 1,.int .i64 ak,.int .i64 an,.string ad,.bool ag] 105) from blk_new rfl _)
 have HB0:=hidp (show Below w.heap.size w (w.alloc (.cells #[.int .i64 1,.int .i64 ak,.int .i64 an,.string ad,.bool ag] 105)) from zB)
 refine wp_region_plus (by kernel_rfl) (by kernel_rfl) ?_
 repeat (first | go_big_quiet_skip | (go_big_quiet_want;go_big_quiet_op;first | go_big_quiet_on | (apply Exists.intro;refine ⟨fun _=>?_,?_⟩;(go_at_call 105;exact Calls.plus_same (HPK.out _));go_big_quiet_on)))
 refine wpQuiet_nil ?_
 rintro _ ⟨x1,rfl⟩
 have HA1:=hidp (show (wplus (w.alloc (.cells #[.int .i64 1,.int .i64 ak,.int .i64 an,.string ad,.bool ag] 105)) x1).heap[w.heap.size]?=some (.cells #[.int .i64 1,.int .i64 ak,.int .i64 an,.string ad,.bool ag] 105) from ((below_wplus _ x1).block _ (lt_blk HBA.out)).trans HBA.out)
 have HB1:=hidp (show Below w.heap.size w (wplus (w.alloc (.cells #[.int .i64 1,.int .i64 ak,.int .i64 an,.string ad,.bool ag] 105)) x1) from zB)
 clear HBA HB0
 generalize (wplus (w.alloc (.cells #[.int .i64 1,.int .i64 ak,.int .i64 an,.string ad,.bool ag] 105)) x1)=wa at *
 haveI:SzGe (w.heap.size+1) wa:=⟨lt_blk HA1.out⟩
 go_wp2_with fail
 go_at_call 66
 refine (HMA.out _ HB1.out).mono ?_
 rintro e wm ⟨rfl,hbm⟩
 have HBM:=hidp (show Below wa.heap.size wa wm from hbm)
 clear hbm HMA
 go_upto_if 47 with fail
 go_cut [9] (fun i W=>i=.int .i64 (iI:Int)∧Below wa.heap.size wa W)
 case first=>
  by_cases h0:0<L
  ·have e1:=HI.out
   rw [if_pos h0] at e1
   have d0:decide ((0:Int)<(L:Int))=true:=decide_eq_true (by omega)
   have ha:=(HBM.out.block _ (lt_blk HA1.out)).trans HA1.out
   have a2:=cell_blk ha 2
   simp only [zC,zD,zE] at a2
   haveI:SzGe (w.heap.size+1) wm:=⟨lt_blk ha⟩
   have HPN2:=hidp (fun W=>HPN.out W h0)
   rw [e1] at HPN2
   clear e1 ha HPN
   go_wp2_with fail
   go_at_call 105
   refine (HPN2.out _).mono ?_
   rintro e wn ⟨rfl,rfl⟩
   go_wp2_with fail
   go_meet
   exact ⟨rfl,HBM.out⟩
  ·have e1:=HI.out
   rw [if_neg h0] at e1
   have e1:=e1.symm
   subst e1
   have d0:decide ((0:Int)<(L:Int))=false:=decide_eq_false (by omega)
   clear HPN
   go_wp2_with fail
   go_meet
   exact ⟨rfl,HBM.out⟩
 case rest=>
  obtain ⟨rfl,hbc⟩:=hcut
  have HAC:=hidp (show Below wa.heap.size wa wc from hbc)
  have HBC:=hidp (HB1.out.trans (hbc.mono HB1.out.size))
  clear hbc HPN
  go_wp2_with fail
  go_at_call 54
  refine (HCL.out _ HBC.out).mono ?_
  rintro e wd ⟨rfl,hbd⟩
  have HBD:=hidp (HBC.out.trans (hbd.mono HBC.out.size))
  have HAD:=hidp (HAC.out.trans (hbd.mono HAC.out.size))
  obtain ⟨O2,m1,m2,m3,m4⟩:=(HM.out.below HBD.out).new2 (.cells #[.int .i64 d.q0,.int .i64 d.q1,.int .i64 d.q2,.int .i64 d.q3] 32) (.cells #[.int .i64 d.n0,.int .i64 d.n1,.int .i64 d.n2,.int .i64 d.n3] 32)
  have HM2:=hidp m1
  have HT2:=hidp (HT.out.keep (O':=O2) (fun j hj=>m2 (p+j) (by omega)))
  have HO2:=hidp (show ∀ i,i<n→(i<p∨p+25≤i)→O2 i=O i from fun i hi _=>m2 i hi)
  have HQ2:=hidp m3
  have HBX:=hidp (HBD.out.trans (Below.mono (show Below wd.heap.size wd ((wd.alloc (.cells #[.int .i64 d.q0,.int .i64 d.q1,.int .i64 d.q2,.int .i64 d.q3] 32)).alloc (.cells #[.int .i64 d.n0,.int .i64 d.n1,.int .i64 d.n2,.int .i64 d.n3] 32)) from zB) HBD.out.size))
  have HAX:=hidp (HAD.out.trans (Below.mono (show Below wd.heap.size wd ((wd.alloc (.cells #[.int .i64 d.q0,.int .i64 d.q1,.int .i64 d.q2,.int .i64 d.q3] 32)).alloc (.cells #[.int .i64 d.n0,.int .i64 d.n1,.int .i64 d.n2,.int .i64 d.n3] 32)) from zB) HAD.out.size))
  obtain ⟨bq,hbq⟩:∃ bq,wd.heap.size=bq:=⟨_,rfl⟩
  have HBQ:=hidp hbq
  clear hbd m1 m2 m3 m4 hbq HBD HAD HCL
  go_upto_region 9 with fail
  rw [HBQ.out] at HQ2
  generalize ((wd.alloc (.cells #[.int .i64 d.q0,.int .i64 d.q1,.int .i64 d.q2,.int .i64 d.q3] 32)).alloc (.cells #[.int .i64 d.n0,.int .i64 d.n1,.int .i64 d.n2,.int .i64 d.n3] 32))=wx at *
  rw [HBQ.out]
  have hax:=(HAX.out.block _ (lt_blk HA1.out)).trans HA1.out
  have a0:=cell_blk hax 0;have a1:=cell_blk hax 1;have a2:=cell_blk hax 2;have a3:=cell_blk hax 3;have a4:=cell_blk hax 4
  simp only [zC,zD,zE] at a0 a1 a2 a3 a4
  have hbx:=(HBX.out.block _ (lt_blk HBK.out)).trans HBK.out
  have c0:=cell_blk hbx 0;have c1:=cell_blk hbx 1;have c2:=cell_blk hbx 2
  simp only [zC,zD,zE] at c0 c1 c2
  haveI:SzGe (w.heap.size+1) wx:=⟨lt_blk hax⟩
  haveI:SzGe (tb+1) wx:=⟨lt_blk hbx⟩
  have hkC:k<s.A.C:=by rw [HCC.out];exact hk
  clear hax hbx
  go_wp2_with fail
  go_at_call 105
  refine (HP8.out _).mono ?_
  rintro e wq ⟨rfl,rfl⟩
  have HOP:=hidp (reads_ok (EType.low HGE.out HBX.out) HT2.out HM2.out (by omega) HOK.out (by omega) hkC (key:=(n8:Int)) (by omega))
  go_wp2_with fail
  go_at_call 56
  refine HOP.out.mono ?_
  rintro e w5 ⟨rfl,hb5⟩
  have HU:Hid (TUpd w0 w5 (n+2) O2 p tb g s'):=hidp (by
   rw [←HGG.out,←HS'.out]
   exact HT2.out.same HM2.out hb5)
  clear hb5 HOP
  go_wp2_with fail
  go_ret
  exact ⟨rfl,HEND.out _ (HU.out.less (by omega) HO2.out)⟩
theorem tlDo_no (s:TlP) (a:TaP) (sw:Bool) (h:∀ i:Int,0≤i→i≤12→a.what≠i):tlDo s a sw=s:=by
 unfold tlDo
 rw [if_neg (h 0 (by omega) (by omega)),if_neg (h 1 (by omega) (by omega)),if_neg (h 2 (by omega) (by omega)),if_neg (h 3 (by omega) (by omega)),if_neg (h 4 (by omega) (by omega)),if_neg (h 5 (by omega) (by omega)),if_neg (h 6 (by omega) (by omega)),if_neg (h 7 (by omega) (by omega)),if_neg (h 8 (by omega) (by omega)),if_neg (h 9 (by omega) (by omega)),if_neg (h 10 (by omega) (by omega)),if_neg (h 11 (by omega) (by omega)),if_neg (h 12 (by omega) (by omega))]
set_option maxRecDepth 200000 in
set_option maxHeartbeats 16000000 in
theorem does_no (hg:EType w) (ht:TAx w0.heap.size O p tb s t) (hm:Mem w0 w n O) (hn:p+25≤n) (hok:TlOk s b) (hT:s.T.length<200) (what ak an:Int) (hno:∀ i:Int,0≤i→i≤12→what≠i) (ad:ByteArray) (ag sw:Bool):
  Calls Tryz.prog 53 #[.pointer (some ⟨tb,0,none⟩),.agg #[.int .i64 what,.int .i64 ak,.int .i64 an,.string ad,.bool ag],.bool sw] w fun e w'=>e=.returned (.bool true)∧TUpd w0 w' n O p tb t.g (tlDo s ⟨what,ak,an,ad,ag⟩ sw):=by
 have z0:(what==0)=false:=by have:=hno 0 (by omega) (by omega);simpa using this
 have y0:decide (what=0)=false:=decide_eq_false (hno 0 (by omega) (by omega))
 have z1:(what==1)=false:=by have:=hno 1 (by omega) (by omega);simpa using this
 have y1:decide (what=1)=false:=decide_eq_false (hno 1 (by omega) (by omega))
 have z2:(what==2)=false:=by have:=hno 2 (by omega) (by omega);simpa using this
 have y2:decide (what=2)=false:=decide_eq_false (hno 2 (by omega) (by omega))
 have z3:(what==3)=false:=by have:=hno 3 (by omega) (by omega);simpa using this
 have y3:decide (what=3)=false:=decide_eq_false (hno 3 (by omega) (by omega))
 have z4:(what==4)=false:=by have:=hno 4 (by omega) (by omega);simpa using this
 have y4:decide (what=4)=false:=decide_eq_false (hno 4 (by omega) (by omega))
 have z5:(what==5)=false:=by have:=hno 5 (by omega) (by omega);simpa using this
 have y5:decide (what=5)=false:=decide_eq_false (hno 5 (by omega) (by omega))
 have z6:(what==6)=false:=by have:=hno 6 (by omega) (by omega);simpa using this
 have y6:decide (what=6)=false:=decide_eq_false (hno 6 (by omega) (by omega))
 have z7:(what==7)=false:=by have:=hno 7 (by omega) (by omega);simpa using this
 have y7:decide (what=7)=false:=decide_eq_false (hno 7 (by omega) (by omega))
 have z8:(what==8)=false:=by have:=hno 8 (by omega) (by omega);simpa using this
 have y8:decide (what=8)=false:=decide_eq_false (hno 8 (by omega) (by omega))
 have z9:(what==9)=false:=by have:=hno 9 (by omega) (by omega);simpa using this
 have y9:decide (what=9)=false:=decide_eq_false (hno 9 (by omega) (by omega))
 have z10:(what==10)=false:=by have:=hno 10 (by omega) (by omega);simpa using this
 have y10:decide (what=10)=false:=decide_eq_false (hno 10 (by omega) (by omega))
 have z11:(what==11)=false:=by have:=hno 11 (by omega) (by omega);simpa using this
 have y11:decide (what=11)=false:=decide_eq_false (hno 11 (by omega) (by omega))
 have z12:(what==12)=false:=by have:=hno 12 (by omega) (by omega);simpa using this
 have y12:decide (what=12)=false:=decide_eq_false (hno 12 (by omega) (by omega))
 have hC1:1≤s.A.C:=hok.C
 have hC6:s.A.C≤6:=ht.w.ok.C
 obtain ⟨hS1,hS4⟩:=hok.inv.S
 have hL3:s.A.way.length≤300:=hok.inv.wl
 obtain ⟨k,hkk⟩:∃ k,pickN ak s.A.C=k:=⟨_,rfl⟩
 have hk:k<s.A.C:=by rw [←hkk];exact pickN_lt _ hC1
 obtain ⟨iI,hI⟩:∃ i,(if 0<s.A.way.length then pickN an s.A.way.length else 0)=i:=⟨_,rfl⟩
 obtain ⟨d,hd⟩:∃ d,s.A.cl k=d:=⟨_,rfl⟩
 have HPK:=hidp (fun W=>pick_is ak s.A.C W hC1 (by omega))
 have HPN:=hidp (fun W (h0:0<s.A.way.length)=>pick_is an s.A.way.length W h0 (by omega))
 obtain ⟨kS,hkS⟩:∃ x,pickN ak s.A.S=x:=⟨_,rfl⟩
 obtain ⟨nS,hnS⟩:∃ x,pickN an s.A.S=x:=⟨_,rfl⟩
 obtain ⟨n5,hn5⟩:∃ x,pickN an 50=x:=⟨_,rfl⟩
 obtain ⟨n8,hn8⟩:∃ x,pickN an 8=x:=⟨_,rfl⟩
 have hkSl:kS<s.A.S:=by rw [←hkS];exact pickN_lt _ (by omega)
 have hnSl:nS<s.A.S:=by rw [←hnS];exact pickN_lt _ (by omega)
 have hn5l:n5<50:=by rw [←hn5];exact pickN_lt _ (by omega)
 have hn8l:n8<8:=by rw [←hn8];exact pickN_lt _ (by omega)
 have HP1:=hidp (fun W=>pick_is ak s.A.S W (by omega) (by omega))
 have HP2:=hidp (fun W=>pick_is an s.A.S W (by omega) (by omega))
 have HP5:=hidp (fun W=>(show Calls Tryz.prog 105 #[.int .i64 an,.int .i64 50] W (fun e w'=>e=.returned (.int .i64 (pickN an 50:Nat))∧W=w') from pick_is an 50 W (by omega) (by omega)))
 have HP8:=hidp (fun W=>(show Calls Tryz.prog 105 #[.int .i64 an,.int .i64 8] W (fun e w'=>e=.returned (.int .i64 (pickN an 8:Nat))∧W=w') from pick_is an 8 W (by omega) (by omega)))
 rw [hkS] at HP1;rw [hnS] at HP2;rw [hn5] at HP5;rw [hn8] at HP8
 rw [hkk] at HPK
 have HI:=hidp hI
 have HMA:=hidp (fun W (hW:Below w.heap.size w W)=>wMany_any ht.w (hm.below hW) (by omega))
 have HCL:=hidp (fun W (hW:Below w.heap.size w W)=>wClient_ok ht.w (hm.below hW) (by omega) hk)
 rw [hd] at HCL
 have HM:=hidp hm
 have HT:=hidp ht
 have HOK:=hidp hok
 have HKK:=hidp hkk
 have HDD:=hidp hd
 have HGE:=hidp hg
 have hbk:=ht.blk hm hn
 have c0:=cell_blk hbk 0;have c1:=cell_blk hbk 1;have c2:=cell_blk hbk 2
 simp only [zC,zD,zE] at c0 c1 c2
 have HBK:=hidp hbk
 haveI:SzGe (tb+1) w:=⟨lt_blk hbk⟩
 obtain ⟨g,hgg⟩:∃ g,t.g=g:=⟨_,rfl⟩
 rw [hgg] at c0 HMA HCL HBK
 have HGG:=hidp hgg
 obtain ⟨s',hs'⟩:∃ s',s=s':=⟨_,rfl⟩
 have HS':=hidp hs'
 have HC2:Hid (s'.A.C=s.A.C):=hidp (by rw [←hs'];try exact rfl)
 obtain ⟨d',hd'⟩:∃ d',s'.A.cl k=d':=⟨_,rfl⟩
 have HD2:=hidp hd'
 have HCO:=hidp (covers_of (show clCov d' d from by rw [←hd',←hs',←hd];exact clCov.refl _))
 have HEND:Hid (∀ W,TUpd w0 W n O p tb g s'→TUpd w0 W n O p tb t.g (tlDo s (⟨what,ak,an,ad,ag⟩:TaP) sw)):=hidp (fun W hW=>by rw [(show tlDo s (⟨what,ak,an,ad,ag⟩:TaP) sw=s' from (by exact (tlDo_no _ _ _ hno).trans hs')),hgg];exact hW)
 clear hs' hd'
 clear hno hm ht hok hkk hd hg hbk hI hgg hkS hnS hn5 hn8
 generalize hLL:s.A.way.length=L at *
 generalize hCC:s.A.C=C at *
 generalize hSS:s.A.S=S at *
 have HLL:=hidp hLL
 have HCC:=hidp hCC
 have HSS:=hidp hSS
 clear hLL hCC hSS
 go_enter Tryz.func53,Tryz.ntmps53
 go_wp2_with fail
 have HBA:=hidp (show (w.alloc (.cells #[.int .i64 what,.int .i64 ak,.int .i64 an,.string ad,.bool ag] 105)).heap[w.heap.size]?=some (.cells #[.int .i64 what,.int .i64 ak,.int .i64 an,.string ad,.bool ag] 105) from blk_new rfl _)
 have HB0:=hidp (show Below w.heap.size w (w.alloc (.cells #[.int .i64 what,.int .i64 ak,.int .i64 an,.string ad,.bool ag] 105)) from zB)
 refine wp_region_plus (by kernel_rfl) (by kernel_rfl) ?_
 repeat (first | go_big_quiet_skip | (go_big_quiet_want;go_big_quiet_op;first | go_big_quiet_on | (apply Exists.intro;refine ⟨fun _=>?_,?_⟩;(go_at_call 105;exact Calls.plus_same (HPK.out _));go_big_quiet_on)))
 refine wpQuiet_nil ?_
 rintro _ ⟨x1,rfl⟩
 have HA1:=hidp (show (wplus (w.alloc (.cells #[.int .i64 what,.int .i64 ak,.int .i64 an,.string ad,.bool ag] 105)) x1).heap[w.heap.size]?=some (.cells #[.int .i64 what,.int .i64 ak,.int .i64 an,.string ad,.bool ag] 105) from ((below_wplus _ x1).block _ (lt_blk HBA.out)).trans HBA.out)
 have HB1:=hidp (show Below w.heap.size w (wplus (w.alloc (.cells #[.int .i64 what,.int .i64 ak,.int .i64 an,.string ad,.bool ag] 105)) x1) from zB)
 clear HBA HB0
 generalize (wplus (w.alloc (.cells #[.int .i64 what,.int .i64 ak,.int .i64 an,.string ad,.bool ag] 105)) x1)=wa at *
 haveI:SzGe (w.heap.size+1) wa:=⟨lt_blk HA1.out⟩
 go_wp2_with fail
 go_at_call 66
 refine (HMA.out _ HB1.out).mono ?_
 rintro e wm ⟨rfl,hbm⟩
 have HBM:=hidp (show Below wa.heap.size wa wm from hbm)
 clear hbm HMA
 go_upto_if 47 with fail
 go_cut [9] (fun i W=>i=.int .i64 (iI:Int)∧Below wa.heap.size wa W)
 case first=>
  by_cases h0:0<L
  ·have e1:=HI.out
   rw [if_pos h0] at e1
   have d0:decide ((0:Int)<(L:Int))=true:=decide_eq_true (by omega)
   have ha:=(HBM.out.block _ (lt_blk HA1.out)).trans HA1.out
   have a2:=cell_blk ha 2
   simp only [zC,zD,zE] at a2
   haveI:SzGe (w.heap.size+1) wm:=⟨lt_blk ha⟩
   have HPN2:=hidp (fun W=>HPN.out W h0)
   rw [e1] at HPN2
   clear e1 ha HPN
   go_wp2_with fail
   go_at_call 105
   refine (HPN2.out _).mono ?_
   rintro e wn ⟨rfl,rfl⟩
   go_wp2_with fail
   go_meet
   exact ⟨rfl,HBM.out⟩
  ·have e1:=HI.out
   rw [if_neg h0] at e1
   have e1:=e1.symm
   subst e1
   have d0:decide ((0:Int)<(L:Int))=false:=decide_eq_false (by omega)
   clear HPN
   go_wp2_with fail
   go_meet
   exact ⟨rfl,HBM.out⟩
 case rest=>
  obtain ⟨rfl,hbc⟩:=hcut
  have HAC:=hidp (show Below wa.heap.size wa wc from hbc)
  have HBC:=hidp (HB1.out.trans (hbc.mono HB1.out.size))
  clear hbc HPN
  go_wp2_with fail
  go_at_call 54
  refine (HCL.out _ HBC.out).mono ?_
  rintro e wd ⟨rfl,hbd⟩
  have HBD:=hidp (HBC.out.trans (hbd.mono HBC.out.size))
  have HAD:=hidp (HAC.out.trans (hbd.mono HAC.out.size))
  obtain ⟨O2,m1,m2,m3,m4⟩:=(HM.out.below HBD.out).new2 (.cells #[.int .i64 d.q0,.int .i64 d.q1,.int .i64 d.q2,.int .i64 d.q3] 32) (.cells #[.int .i64 d.n0,.int .i64 d.n1,.int .i64 d.n2,.int .i64 d.n3] 32)
  have HM2:=hidp m1
  have HT2:=hidp (HT.out.keep (O':=O2) (fun j hj=>m2 (p+j) (by omega)))
  have HO2:=hidp (show ∀ i,i<n→(i<p∨p+25≤i)→O2 i=O i from fun i hi _=>m2 i hi)
  have HQ2:=hidp m3
  have HBX:=hidp (HBD.out.trans (Below.mono (show Below wd.heap.size wd ((wd.alloc (.cells #[.int .i64 d.q0,.int .i64 d.q1,.int .i64 d.q2,.int .i64 d.q3] 32)).alloc (.cells #[.int .i64 d.n0,.int .i64 d.n1,.int .i64 d.n2,.int .i64 d.n3] 32)) from zB) HBD.out.size))
  have HAX:=hidp (HAD.out.trans (Below.mono (show Below wd.heap.size wd ((wd.alloc (.cells #[.int .i64 d.q0,.int .i64 d.q1,.int .i64 d.q2,.int .i64 d.q3] 32)).alloc (.cells #[.int .i64 d.n0,.int .i64 d.n1,.int .i64 d.n2,.int .i64 d.n3] 32)) from zB) HAD.out.size))
  obtain ⟨bq,hbq⟩:∃ bq,wd.heap.size=bq:=⟨_,rfl⟩
  have HBQ:=hidp hbq
  clear hbd m1 m2 m3 m4 hbq HBD HAD HCL
  go_upto_region 9 with fail
  rw [HBQ.out] at HQ2
  generalize ((wd.alloc (.cells #[.int .i64 d.q0,.int .i64 d.q1,.int .i64 d.q2,.int .i64 d.q3] 32)).alloc (.cells #[.int .i64 d.n0,.int .i64 d.n1,.int .i64 d.n2,.int .i64 d.n3] 32))=wx at *
  rw [HBQ.out]
  have hax:=(HAX.out.block _ (lt_blk HA1.out)).trans HA1.out
  have a0:=cell_blk hax 0;have a1:=cell_blk hax 1;have a2:=cell_blk hax 2;have a3:=cell_blk hax 3;have a4:=cell_blk hax 4
  simp only [zC,zD,zE] at a0 a1 a2 a3 a4
  have hbx:=(HBX.out.block _ (lt_blk HBK.out)).trans HBK.out
  have c0:=cell_blk hbx 0;have c1:=cell_blk hbx 1;have c2:=cell_blk hbx 2
  simp only [zC,zD,zE] at c0 c1 c2
  haveI:SzGe (w.heap.size+1) wx:=⟨lt_blk hax⟩
  haveI:SzGe (tb+1) wx:=⟨lt_blk hbx⟩
  have hkC:k<s.A.C:=by rw [HCC.out];exact hk
  clear hax hbx
  go_wp2_with fail
  have HU:Hid (TUpd w0 wx (n+2) O2 p tb g s'):=hidp (by
   rw [←HGG.out,←HS'.out]
   exact HT2.out.same HM2.out (Below.refl _ _))
  have HTC:=hidp (TUpd.client HU.out (by omega) (k:=k) (by rw [HC2.out];first | exact hk | exact hkC))
  rw [HD2.out] at HTC
  go_wp2_with fail
  go_at_call 54
  refine HTC.out.mono ?_
  rintro e w6 ⟨rfl,hb6⟩
  have HU6:=hidp (HU.out.then hb6)
  have hq6:=HU6.out.box (i:=n) (by omega) (by omega) HQ2.out
  have v0:=cell_blk hq6 0;have v1:=cell_blk hq6 1;have v2:=cell_blk hq6 2;have v3:=cell_blk hq6 3
  simp only [zC,zD,zE] at v0 v1 v2 v3
  haveI:SzGe (bq+1) w6:=⟨lt_blk hq6⟩
  clear hb6 hq6 HU
  go_wp2_with fail
  go_at_call 55
  refine (HCO.out _).mono ?_
  rintro e w7 ⟨rfl,hb7⟩
  have HU7:=hidp (HU6.out.then (Below.trans (show Below w6.heap.size w6 ((w6.alloc (.cells #[.int .i64 d'.q0,.int .i64 d'.q1,.int .i64 d'.q2,.int .i64 d'.q3] 32)).alloc (.cells #[.int .i64 d'.n0,.int .i64 d'.n1,.int .i64 d'.n2,.int .i64 d'.n3] 32)) from zB) (hb7.mono (Below.size (show Below w6.heap.size w6 ((w6.alloc (.cells #[.int .i64 d'.q0,.int .i64 d'.q1,.int .i64 d'.q2,.int .i64 d'.q3] 32)).alloc (.cells #[.int .i64 d'.n0,.int .i64 d'.n1,.int .i64 d'.n2,.int .i64 d'.n3] 32)) from zB)))))
  clear hb7
  go_wp2_with fail
  go_ret
  exact ⟨rfl,HEND.out _ (HU7.out.less (by omega) HO2.out)⟩
end
end Go.Proofs.YtbopfhbeegkkaabGreatDoor
