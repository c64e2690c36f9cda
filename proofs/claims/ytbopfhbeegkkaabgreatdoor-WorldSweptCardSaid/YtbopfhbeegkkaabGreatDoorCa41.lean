/- Part 41 of a proof: lemmas and contracts that other parts use. -/
import Derived.Test.YtbopfhbeegkkaabGreatDoorCa38
set_option linter.unusedVariables false
set_option linter.unusedSimpArgs false
set_option linter.constructorNameAsVariable false
namespace Go.Proofs.YtbopfhbeegkkaabGreatDoor
open Go.RowKit
section
variable {w0 w:World} {n:Nat} {O:Nat→Ob} {p tb:Nat} {s:TlP} {t:TV} {b:Nat→Int→Int}
set_option maxRecDepth 200000 in
set_option maxHeartbeats 16000000 in
theorem does_7 (hg:EType w) (ht:TAx w0.heap.size O p tb s t) (hm:Mem w0 w n O) (hn:p+25≤n) (hok:TlOk s b) (hT:s.T.length<200) (ak an:Int) (ad:ByteArray) (ag sw:Bool):
  Calls Tryz.prog 53 #[.pointer (some ⟨tb,0,none⟩),.agg #[.int .i64 7,.int .i64 ak,.int .i64 an,.string ad,.bool ag],.bool sw] w fun e w'=>e=.returned (.bool true)∧TUpd w0 w' n O p tb t.g (tlDo s ⟨7,ak,an,ad,ag⟩ sw):=by
 have hC1:1≤s.A.C:=hok.C
 have hC6:s.A.C≤6:=ht.w.ok.C
 obtain ⟨hS1,hS4⟩:=hok.inv.S
 have hL3:s.A.way.length≤300:=hok.inv.wl
 obtain ⟨k,hkk⟩:∃ k,pickN ak s.A.C=k:=⟨_,rfl⟩
 have hk:k<s.A.C:=by rw [←hkk];exact pickN_lt _ hC1
 obtain ⟨iI,hI⟩:∃ i,(if 0<s.A.way.length then pickN an s.A.way.length else 0)=i:=⟨_,rfl⟩
 obtain ⟨d,hd⟩:∃ d,s.A.cl k=d:=⟨_,rfl⟩
 have HPK:=hidp (fun W=>pick_is ak s.A.C W hC1 (by omega))
 have HPN:=hidp (fun W (h0:0<s.A.way.length)=>pick_is an s.A.way.length W h0 (by omega))
 obtain ⟨kS,hkS⟩:∃ x,pickN ak s.A.S=x:=⟨_,rfl⟩
 obtain ⟨nS,hnS⟩:∃ x,pickN an s.A.S=x:=⟨_,rfl⟩
 obtain ⟨n5,hn5⟩:∃ x,pickN an 50=x:=⟨_,rfl⟩
 obtain ⟨n8,hn8⟩:∃ x,pickN an 8=x:=⟨_,rfl⟩
 have hkSl:kS<s.A.S:=by rw [←hkS];exact pickN_lt _ (by omega)
 have hnSl:nS<s.A.S:=by rw [←hnS];exact pickN_lt _ (by omega)
 have hn5l:n5<50:=by rw [←hn5];exact pickN_lt _ (by omega)
 have hn8l:n8<8:=by rw [←hn8];exact pickN_lt _ (by omega)
 have HP1:=hidp (fun W=>pick_is ak s.A.S W (by omega) (by omega))
 have HP2:=hidp (fun W=>pick_is an s.A.S W (by omega) (by omega))
 have HP5:=hidp (fun W=>(show Calls Tryz.prog 105 #[.int .i64 an,.int .i64 50] W (fun e w'=>e=.returned (.int .i64 (pickN an 50:Nat))∧W=w') from pick_is an 50 W (by omega) (by omega)))
 have HP8:=hidp (fun W=>(show Calls Tryz.prog 105 #[.int .i64 an,.int .i64 8] W (fun e w'=>e=.returned (.int .i64 (pickN an 8:Nat))∧W=w') from pick_is an 8 W (by omega) (by omega)))
 rw [hkS] at HP1;rw [hnS] at HP2;rw [hn5] at HP5;rw [hn8] at HP8
 rw [hkk] at HPK
 have HI:=hidp hI
 have HMA:=hidp (fun W (hW:Below w.heap.size w W)=>wMany_any ht.w (hm.below hW) (by omega))
 have HCL:=hidp (fun W (hW:Below w.heap.size w W)=>wClient_ok ht.w (hm.below hW) (by omega) hk)
 rw [hd] at HCL
 have HM:=hidp hm
 have HT:=hidp ht
 have HOK:=hidp hok
 have HKK:=hidp hkk
 have HDD:=hidp hd
 have HGE:=hidp hg
 have hbk:=ht.blk hm hn
 have c0:=cell_blk hbk 0;have c1:=cell_blk hbk 1;have c2:=cell_blk hbk 2
 simp only [zC,zD,zE] at c0 c1 c2
 have HBK:=hidp hbk
 haveI:SzGe (tb+1) w:=⟨lt_blk hbk⟩
 obtain ⟨g,hgg⟩:∃ g,t.g=g:=⟨_,rfl⟩
 rw [hgg] at c0 HMA HCL HBK
 have HGG:=hidp hgg
 obtain ⟨s',hs'⟩:∃ s',(if kS=nS then s else tlTo s (awAsk s.A kS nS))=s':=⟨_,rfl⟩
 have HS':=hidp hs'
 have HC2:Hid (s'.A.C=s.A.C):=hidp (by rw [←hs'];split;exact rfl;exact (awAsk_SC _ _ _).2.1)
 obtain ⟨d',hd'⟩:∃ d',s'.A.cl k=d':=⟨_,rfl⟩
 have HD2:=hidp hd'
 have HCO:=hidp (covers_of (show clCov d' d from by rw [←hd',←hs',←hd];split;exact clCov.refl _;show clCov ((awAsk s.A kS nS).cl k) (s.A.cl k);rw [(awAsk_SC _ _ _).2.2.1];exact clCov.refl _))
 have HEND:Hid (∀ W,TUpd w0 W n O p tb g s'→TUpd w0 W n O p tb t.g (tlDo s (⟨7,ak,an,ad,ag⟩:TaP) sw)):=hidp (fun W hW=>by rw [(show tlDo s (⟨7,ak,an,ad,ag⟩:TaP) sw=s' from (by rw [tlDo_7 _ _ _ rfl];show (if pickN ak s.A.S=pickN an s.A.S then s else tlTo s (awAsk s.A (pickN ak s.A.S) (pickN an s.A.S)))=_;rw [hkS,hnS];exact hs')),hgg];exact hW)
 clear hs' hd'
 clear hm ht hok hkk hd hg hbk hI hgg hkS hnS hn5 hn8
 generalize hLL:s.A.way.length=L at *
 generalize hCC:s.A.C=C at *
 generalize hSS:s.A.S=S at *
 have HLL:=hidp hLL
 have HCC:=hidp hCC
 have HSS:=hidp hSS
 clear hLL hCC hSS
 go_enter Tryz.func53,Tryz.ntmps53
 go_wp2_with fail
 have HBA:=hidp (show (w.alloc (.cells #[.int .i64 7,.int .i64 ak,.int .i64 an,.string ad,.bool ag] 105)).heap[w.heap.size]?=some (.cells #[.int .i64 7,.int .i64 ak,.int .i64 an,.string ad,.bool ag] 105) from blk_new rfl _)
 have HB0:=hidp (show Below w.heap.size w (w.alloc (.cells #[.int .i64 7,.int .i64 ak,.int .i64 an,.string ad,.bool ag] 105)) from zB)
 refine wp_region_plus (by kernel_rfl) (by kernel_rfl) ?_
 repeat (first | go_big_quiet_skip | (go_big_quiet_want;go_big_quiet_op;first | go_big_quiet_on | (apply Exists.intro;refine ⟨fun _=>?_,?_⟩;(go_at_call 105;exact Calls.plus_same (HPK.out _));go_big_quiet_on)))
 refine wpQuiet_nil ?_
 rintro _ ⟨x1,rfl⟩
 have HA1:=hidp (show (wplus (w.alloc (.cells #[.int .i64 7,.int .i64 ak,.int .i64 an,.string ad,.bool ag] 105)) x1).heap[w.heap.size]?=some (.cells #[.int .i64 7,.int .i64 ak,.int .i64 an,.string ad,.bool ag] 105) from ((below_wplus _ x1).block _ (lt_blk HBA.out)).trans HBA.out)
 have HB1:=hidp (show Below w.heap.size w (wplus (w.alloc (.cells #[.int .i64 7,.int .i64 ak,.int .i64 an,.string ad,.bool ag] 105)) x1) from zB)
 clear HBA HB0
 generalize (wplus (w.alloc (.cells #[.int .i64 7,.int .i64 ak,.int .i64 an,.string ad,.bool ag] 105)) x1)=wa at *
 haveI:SzGe (w.heap.size+1) wa:=⟨lt_blk HA1.out⟩
 go_wp2_with fail
 go_at_call 66
 refine (HMA.out _ HB1.out).mono ?_
 rintro e wm ⟨rfl,hbm⟩
 have HBM:=hidp (show Below wa.heap.size wa wm from hbm)
 clear hbm HMA
 go_upto_if 47 with fail
 go_cut [9] (fun i W=>i=.int .i64 (iI:Int)∧Below wa.heap.size wa W)
 case first=>
  by_cases h0:0<L
  ·have e1:=HI.out
   rw [if_pos h0] at e1
   have d0:decide ((0:Int)<(L:Int))=true:=decide_eq_true (by omega)
   have ha:=(HBM.out.block _ (lt_blk HA1.out)).trans HA1.out
   have a2:=cell_blk ha 2
   simp only [zC,zD,zE] at a2
   haveI:SzGe (w.heap.size+1) wm:=⟨lt_blk ha⟩
   have HPN2:=hidp (fun W=>HPN.out W h0)
   rw [e1] at HPN2
   clear e1 ha HPN
   go_wp2_with fail
   go_at_call 105
   refine (HPN2.out _).mono ?_
   rintro e wn ⟨rfl,rfl⟩
   go_wp2_with fail
   go_meet
   exact ⟨rfl,HBM.out⟩
  ·have e1:=HI.out
   rw [if_neg h0] at e1
   have e1:=e1.symm
   subst e1
   have d0:decide ((0:Int)<(L:Int))=false:=decide_eq_false (by omega)
   clear HPN
   go_wp2_with fail
   go_meet
   exact ⟨rfl,HBM.out⟩
 case rest=>
  obtain ⟨rfl,hbc⟩:=hcut
  have HAC:=hidp (show Below wa.heap.size wa wc from hbc)
  have HBC:=hidp (HB1.out.trans (hbc.mono HB1.out.size))
  clear hbc HPN
  go_wp2_with fail
  go_at_call 54
  refine (HCL.out _ HBC.out).mono ?_
  rintro e wd ⟨rfl,hbd⟩
  have HBD:=hidp (HBC.out.trans (hbd.mono HBC.out.size))
  have HAD:=hidp (HAC.out.trans (hbd.mono HAC.out.size))
  obtain ⟨O2,m1,m2,m3,m4⟩:=(HM.out.below HBD.out).new2 (.cells #[.int .i64 d.q0,.int .i64 d.q1,.int .i64 d.q2,.int .i64 d.q3] 32) (.cells #[.int .i64 d.n0,.int .i64 d.n1,.int .i64 d.n2,.int .i64 d.n3] 32)
  have HM2:=hidp m1
  have HT2:=hidp (HT.out.keep (O':=O2) (fun j hj=>m2 (p+j) (by omega)))
  have HO2:=hidp (show ∀ i,i<n→(i<p∨p+25≤i)→O2 i=O i from fun i hi _=>m2 i hi)
  have HQ2:=hidp m3
  have HBX:=hidp (HBD.out.trans (Below.mono (show Below wd.heap.size wd ((wd.alloc (.cells #[.int .i64 d.q0,.int .i64 d.q1,.int .i64 d.q2,.int .i64 d.q3] 32)).alloc (.cells #[.int .i64 d.n0,.int .i64 d.n1,.int .i64 d.n2,.int .i64 d.n3] 32)) from zB) HBD.out.size))
  have HAX:=hidp (HAD.out.trans (Below.mono (show Below wd.heap.size wd ((wd.alloc (.cells #[.int .i64 d.q0,.int .i64 d.q1,.int .i64 d.q2,.int .i64 d.q3] 32)).alloc (.cells #[.int .i64 d.n0,.int .i64 d.n1,.int .i64 d.n2,.int .i64 d.n3] 32)) from zB) HAD.out.size))
  obtain ⟨bq,hbq⟩:∃ bq,wd.heap.size=bq:=⟨_,rfl⟩
  have HBQ:=hidp hbq
  clear hbd m1 m2 m3 m4 hbq HBD HAD HCL
  go_upto_region 9 with fail
  rw [HBQ.out] at HQ2
  generalize ((wd.alloc (.cells #[.int .i64 d.q0,.int .i64 d.q1,.int .i64 d.q2,.int .i64 d.q3] 32)).alloc (.cells #[.int .i64 d.n0,.int .i64 d.n1,.int .i64 d.n2,.int .i64 d.n3] 32))=wx at *
  rw [HBQ.out]
  have hax:=(HAX.out.block _ (lt_blk HA1.out)).trans HA1.out
  have a0:=cell_blk hax 0;have a1:=cell_blk hax 1;have a2:=cell_blk hax 2;have a3:=cell_blk hax 3;have a4:=cell_blk hax 4
  simp only [zC,zD,zE] at a0 a1 a2 a3 a4
  have hbx:=(HBX.out.block _ (lt_blk HBK.out)).trans HBK.out
  have c0:=cell_blk hbx 0;have c1:=cell_blk hbx 1;have c2:=cell_blk hbx 2
  simp only [zC,zD,zE] at c0 c1 c2
  haveI:SzGe (w.heap.size+1) wx:=⟨lt_blk hax⟩
  haveI:SzGe (tb+1) wx:=⟨lt_blk hbx⟩
  have hkC:k<s.A.C:=by rw [HCC.out];exact hk
  clear hax hbx
  go_wp2_with fail
  refine wp_region_plus_tail 15 (by kernel_rfl) (by kernel_rfl) ?_
  simp only [List.take_succ_cons,List.take_zero,List.drop_succ_cons,List.drop_zero]
  repeat (first | go_big_quiet_skip | (go_big_quiet_want;go_big_quiet_op;first | go_big_quiet_on | (apply Exists.intro;refine ⟨fun _=>?_,?_⟩;(go_at_call 105;first | with_reducible exact Calls.plus_same (HP1.out _) | with_reducible exact Calls.plus_same (HP2.out _) | with_reducible exact Calls.plus_same (HP5.out _) | with_reducible exact Calls.plus_same (HP8.out _));go_big_quiet_on)))
  refine wpQuiet_nil ?_
  rintro _ ⟨x3,rfl⟩
  have HB3:=hidp (show Below wx.heap.size wx (wplus wx x3) from zB)
  have HM3:=hidp (HM2.out.below HB3.out)
  have HOP:Hid (Calls Tryz.prog 108 #[.pointer (some ⟨g,0,none⟩),.int .i64 (kS:Nat),.int .i64 (nS:Nat)] (wplus wx x3) fun e w'=>∃ z,e=.returned z∧TUpd w0 w' (n+2) O2 p tb g s'):=hidp (by
   rw [←HGG.out,←HS'.out]
   by_cases h0:kS=nS
   ·rw [if_pos h0]
    exact (wAsk_bad HT2.out.w HM3.out (by omega) (kS:Int) (nS:Int) (.inr (.inr (.inr (.inr (by omega)))))).mono fun e w' ⟨h1,h2⟩=>⟨_,h1,HT2.out.same HM2.out (HB3.out.trans (h2.mono HB3.out.size))⟩
   ·rw [if_neg h0]
    exact (wAsk_ok HT2.out.w HM3.out (by omega) (by have:=HSS.out;omega) (by have:=HSS.out;omega) h0).mono fun e w' ⟨h1,h2⟩=>⟨_,h1,HT2.out.world (by omega) (awAsk_SC _ _ _).1 (awAsk_SC _ _ _).2.1 h2⟩
   )
  go_wp2_with fail
  go_at_call 108
  refine HOP.out.mono ?_
  rintro e w5 ⟨z5,rfl,hU⟩
  have HU:=hidp hU
  clear hU HOP
  have HTC:=hidp (TUpd.client HU.out (by omega) (k:=k) (by rw [HC2.out];first | exact hk | exact hkC))
  rw [HD2.out] at HTC
  go_wp2_with fail
  go_at_call 54
  refine HTC.out.mono ?_
  rintro e w6 ⟨rfl,hb6⟩
  have HU6:=hidp (HU.out.then hb6)
  have hq6:=HU6.out.box (i:=n) (by omega) (by omega) HQ2.out
  have v0:=cell_blk hq6 0;have v1:=cell_blk hq6 1;have v2:=cell_blk hq6 2;have v3:=cell_blk hq6 3
  simp only [zC,zD,zE] at v0 v1 v2 v3
  haveI:SzGe (bq+1) w6:=⟨lt_blk hq6⟩
  clear hb6 hq6 HU
  go_wp2_with fail
  go_at_call 55
  refine (HCO.out _).mono ?_
  rintro e w7 ⟨rfl,hb7⟩
  have HU7:=hidp (HU6.out.then (Below.trans (show Below w6.heap.size w6 ((w6.alloc (.cells #[.int .i64 d'.q0,.int .i64 d'.q1,.int .i64 d'.q2,.int .i64 d'.q3] 32)).alloc (.cells #[.int .i64 d'.n0,.int .i64 d'.n1,.int .i64 d'.n2,.int .i64 d'.n3] 32)) from zB) (hb7.mono (Below.size (show Below w6.heap.size w6 ((w6.alloc (.cells #[.int .i64 d'.q0,.int .i64 d'.q1,.int .i64 d'.q2,.int .i64 d'.q3] 32)).alloc (.cells #[.int .i64 d'.n0,.int .i64 d'.n1,.int .i64 d'.n2,.int .i64 d'.n3] 32)) from zB)))))
  clear hb7
  go_wp2_with fail
  go_ret
  exact ⟨rfl,HEND.out _ (HU7.out.less (by omega) HO2.out)⟩
set_option maxRecDepth 200000 in
set_option maxHeartbeats 16000000 in
theorem does_11 (hg:EType w) (ht:TAx w0.heap.size O p tb s t) (hm:Mem w0 w n O) (hn:p+25≤n) (hok:TlOk s b) (hT:s.T.length<200) (ak an:Int) (ad:ByteArray) (ag sw:Bool):
  Calls Tryz.prog 53 #[.pointer (some ⟨tb,0,none⟩),.agg #[.int .i64 11,.int .i64 ak,.int .i64 an,.string ad,.bool ag],.bool sw] w fun e w'=>e=.returned (.bool true)∧TUpd w0 w' n O p tb t.g (tlDo s ⟨11,ak,an,ad,ag⟩ sw):=by
 have hC1:1≤s.A.C:=hok.C
 have hC6:s.A.C≤6:=ht.w.ok.C
 obtain ⟨hS1,hS4⟩:=hok.inv.S
 have hL3:s.A.way.length≤300:=hok.inv.wl
 obtain ⟨k,hkk⟩:∃ k,pickN ak s.A.C=k:=⟨_,rfl⟩
 have hk:k<s.A.C:=by rw [←hkk];exact pickN_lt _ hC1
 obtain ⟨iI,hI⟩:∃ i,(if 0<s.A.way.length then pickN an s.A.way.length else 0)=i:=⟨_,rfl⟩
 obtain ⟨d,hd⟩:∃ d,s.A.cl k=d:=⟨_,rfl⟩
 have HPK:=hidp (fun W=>pick_is ak s.A.C W hC1 (by omega))
 have HPN:=hidp (fun W (h0:0<s.A.way.length)=>pick_is an s.A.way.length W h0 (by omega))
 obtain ⟨kS,hkS⟩:∃ x,pickN ak s.A.S=x:=⟨_,rfl⟩
 obtain ⟨nS,hnS⟩:∃ x,pickN an s.A.S=x:=⟨_,rfl⟩
 obtain ⟨n5,hn5⟩:∃ x,pickN an 50=x:=⟨_,rfl⟩
 obtain ⟨n8,hn8⟩:∃ x,pickN an 8=x:=⟨_,rfl⟩
 have hkSl:kS<s.A.S:=by rw [←hkS];exact pickN_lt _ (by omega)
 have hnSl:nS<s.A.S:=by rw [←hnS];exact pickN_lt _ (by omega)
 have hn5l:n5<50:=by rw [←hn5];exact pickN_lt _ (by omega)
 have hn8l:n8<8:=by rw [←hn8];exact pickN_lt _ (by omega)
 have HP1:=hidp (fun W=>pick_is ak s.A.S W (by omega) (by omega))
 have HP2:=hidp (fun W=>pick_is an s.A.S W (by omega) (by omega))
 have HP5:=hidp (fun W=>(show Calls Tryz.prog 105 #[.int .i64 an,.int .i64 50] W (fun e w'=>e=.returned (.int .i64 (pickN an 50:Nat))∧W=w') from pick_is an 50 W (by omega) (by omega)))
 have HP8:=hidp (fun W=>(show Calls Tryz.prog 105 #[.int .i64 an,.int .i64 8] W (fun e w'=>e=.returned (.int .i64 (pickN an 8:Nat))∧W=w') from pick_is an 8 W (by omega) (by omega)))
 rw [hkS] at HP1;rw [hnS] at HP2;rw [hn5] at HP5;rw [hn8] at HP8
 rw [hkk] at HPK
 have HI:=hidp hI
 have HMA:=hidp (fun W (hW:Below w.heap.size w W)=>wMany_any ht.w (hm.below hW) (by omega))
 have HCL:=hidp (fun W (hW:Below w.heap.size w W)=>wClient_ok ht.w (hm.below hW) (by omega) hk)
 rw [hd] at HCL
 have HM:=hidp hm
 have HT:=hidp ht
 have HOK:=hidp hok
 have HKK:=hidp hkk
 have HDD:=hidp hd
 have HGE:=hidp hg
 have hbk:=ht.blk hm hn
 have c0:=cell_blk hbk 0;have c1:=cell_blk hbk 1;have c2:=cell_blk hbk 2
 simp only [zC,zD,zE] at c0 c1 c2
 have HBK:=hidp hbk
 haveI:SzGe (tb+1) w:=⟨lt_blk hbk⟩
 obtain ⟨g,hgg⟩:∃ g,t.g=g:=⟨_,rfl⟩
 rw [hgg] at c0 HMA HCL HBK
 have HGG:=hidp hgg
 obtain ⟨s',hs'⟩:∃ s',(if sw=true then tlTo s (awSweep s.A kS) else s)=s':=⟨_,rfl⟩
 have HS':=hidp hs'
 have HC2:Hid (s'.A.C=s.A.C):=hidp (by rw [←hs'];split <;> exact rfl)
 obtain ⟨d',hd'⟩:∃ d',s'.A.cl k=d':=⟨_,rfl⟩
 have HD2:=hidp hd'
 have HCO:=hidp (covers_of (show clCov d' d from by rw [←hd',←hs',←hd];split <;> exact clCov.refl _))
 have HEND:Hid (∀ W,TUpd w0 W n O p tb g s'→TUpd w0 W n O p tb t.g (tlDo s (⟨11,ak,an,ad,ag⟩:TaP) sw)):=hidp (fun W hW=>by rw [(show tlDo s (⟨11,ak,an,ad,ag⟩:TaP) sw=s' from (by rw [tlDo_11 _ _ _ rfl];show (if sw=true then tlTo s (awSweep s.A (pickN ak s.A.S)) else s)=_;rw [hkS];exact hs')),hgg];exact hW)
 clear hs' hd'
 clear hm ht hok hkk hd hg hbk hI hgg hkS hnS hn5 hn8
 generalize hLL:s.A.way.length=L at *
 generalize hCC:s.A.C=C at *
 generalize hSS:s.A.S=S at *
 have HLL:=hidp hLL
 have HCC:=hidp hCC
 have HSS:=hidp hSS
 clear hLL hCC hSS
 go_enter Tryz.func53,Tryz.ntmps53
 go_wp2_with fail
 have HBA:=hidp (show (w.alloc (.cells #[.int .i64 11,.int .i64 ak,.int .i64 an,.string ad,.bool ag] 105)).heap[w.heap.size]?=some (.cells #[.int .i64 11,.int .i64 ak,.int .i64 an,.string ad,.bool ag] 105) from blk_new rfl _)
 have HB0:=hidp (show Below w.heap.size w (w.alloc (.cells #[.int .i64 11,.int .i64 ak,.int .i64 an,.string ad,.bool ag] 105)) from zB)
 refine wp_region_plus (by kernel_rfl) (by kernel_rfl) ?_
 repeat (first | go_big_quiet_skip | (go_big_quiet_want;go_big_quiet_op;first | go_big_quiet_on | (apply Exists.intro;refine ⟨fun _=>?_,?_⟩;(go_at_call 105;exact Calls.plus_same (HPK.out _));go_big_quiet_on)))
 refine wpQuiet_nil ?_
 rintro _ ⟨x1,rfl⟩
 have HA1:=hidp (show (wplus (w.alloc (.cells #[.int .i64 11,.int .i64 ak,.int .i64 an,.string ad,.bool ag] 105)) x1).heap[w.heap.size]?=some (.cells #[.int .i64 11,.int .i64 ak,.int .i64 an,.string ad,.bool ag] 105) from ((below_wplus _ x1).block _ (lt_blk HBA.out)).trans HBA.out)
 have HB1:=hidp (show Below w.heap.size w (wplus (w.alloc (.cells #[.int .i64 11,.int .i64 ak,.int .i64 an,.string ad,.bool ag] 105)) x1) from zB)
 clear HBA HB0
 generalize (wplus (w.alloc (.cells #[.int .i64 11,.int .i64 ak,.int .i64 an,.string ad,.bool ag] 105)) x1)=wa at *
 haveI:SzGe (w.heap.size+1) wa:=⟨lt_blk HA1.out⟩
 go_wp2_with fail
 go_at_call 66
 refine (HMA.out _ HB1.out).mono ?_
 rintro e wm ⟨rfl,hbm⟩
 have HBM:=hidp (show Below wa.heap.size wa wm from hbm)
 clear hbm HMA
 go_upto_if 47 with fail
 go_cut [9] (fun i W=>i=.int .i64 (iI:Int)∧Below wa.heap.size wa W)
 case first=>
  by_cases h0:0<L
  ·have e1:=HI.out
   rw [if_pos h0] at e1
   have d0:decide ((0:Int)<(L:Int))=true:=decide_eq_true (by omega)
   have ha:=(HBM.out.block _ (lt_blk HA1.out)).trans HA1.out
   have a2:=cell_blk ha 2
   simp only [zC,zD,zE] at a2
   haveI:SzGe (w.heap.size+1) wm:=⟨lt_blk ha⟩
   have HPN2:=hidp (fun W=>HPN.out W h0)
   rw [e1] at HPN2
   clear e1 ha HPN
   go_wp2_with fail
   go_at_call 105
   refine (HPN2.out _).mono ?_
   rintro e wn ⟨rfl,rfl⟩
   go_wp2_with fail
   go_meet
   exact ⟨rfl,HBM.out⟩
  ·have e1:=HI.out
   rw [if_neg h0] at e1
   have e1:=e1.symm
   subst e1
   have d0:decide ((0:Int)<(L:Int))=false:=decide_eq_false (by omega)
   clear HPN
   go_wp2_with fail
   go_meet
   exact ⟨rfl,HBM.out⟩
 case rest=>
  obtain ⟨rfl,hbc⟩:=hcut
  have HAC:=hidp (show Below wa.heap.size wa wc from hbc)
  have HBC:=hidp (HB1.out.trans (hbc.mono HB1.out.size))
  clear hbc HPN
  go_wp2_with fail
  go_at_call 54
  refine (HCL.out _ HBC.out).mono ?_
  rintro e wd ⟨rfl,hbd⟩
  have HBD:=hidp (HBC.out.trans (hbd.mono HBC.out.size))
  have HAD:=hidp (HAC.out.trans (hbd.mono HAC.out.size))
  obtain ⟨O2,m1,m2,m3,m4⟩:=(HM.out.below HBD.out).new2 (.cells #[.int .i64 d.q0,.int .i64 d.q1,.int .i64 d.q2,.int .i64 d.q3] 32) (.cells #[.int .i64 d.n0,.int .i64 d.n1,.int .i64 d.n2,.int .i64 d.n3] 32)
  have HM2:=hidp m1
  have HT2:=hidp (HT.out.keep (O':=O2) (fun j hj=>m2 (p+j) (by omega)))
  have HO2:=hidp (show ∀ i,i<n→(i<p∨p+25≤i)→O2 i=O i from fun i hi _=>m2 i hi)
  have HQ2:=hidp m3
  have HBX:=hidp (HBD.out.trans (Below.mono (show Below wd.heap.size wd ((wd.alloc (.cells #[.int .i64 d.q0,.int .i64 d.q1,.int .i64 d.q2,.int .i64 d.q3] 32)).alloc (.cells #[.int .i64 d.n0,.int .i64 d.n1,.int .i64 d.n2,.int .i64 d.n3] 32)) from zB) HBD.out.size))
  have HAX:=hidp (HAD.out.trans (Below.mono (show Below wd.heap.size wd ((wd.alloc (.cells #[.int .i64 d.q0,.int .i64 d.q1,.int .i64 d.q2,.int .i64 d.q3] 32)).alloc (.cells #[.int .i64 d.n0,.int .i64 d.n1,.int .i64 d.n2,.int .i64 d.n3] 32)) from zB) HAD.out.size))
  obtain ⟨bq,hbq⟩:∃ bq,wd.heap.size=bq:=⟨_,rfl⟩
  have HBQ:=hidp hbq
  clear hbd m1 m2 m3 m4 hbq HBD HAD HCL
  go_upto_region 9 with fail
  rw [HBQ.out] at HQ2
  generalize ((wd.alloc (.cells #[.int .i64 d.q0,.int .i64 d.q1,.int .i64 d.q2,.int .i64 d.q3] 32)).alloc (.cells #[.int .i64 d.n0,.int .i64 d.n1,.int .i64 d.n2,.int .i64 d.n3] 32))=wx at *
  rw [HBQ.out]
  have hax:=(HAX.out.block _ (lt_blk HA1.out)).trans HA1.out
  have a0:=cell_blk hax 0;have a1:=cell_blk hax 1;have a2:=cell_blk hax 2;have a3:=cell_blk hax 3;have a4:=cell_blk hax 4
  simp only [zC,zD,zE] at a0 a1 a2 a3 a4
  have hbx:=(HBX.out.block _ (lt_blk HBK.out)).trans HBK.out
  have c0:=cell_blk hbx 0;have c1:=cell_blk hbx 1;have c2:=cell_blk hbx 2
  simp only [zC,zD,zE] at c0 c1 c2
  haveI:SzGe (w.heap.size+1) wx:=⟨lt_blk hax⟩
  haveI:SzGe (tb+1) wx:=⟨lt_blk hbx⟩
  have hkC:k<s.A.C:=by rw [HCC.out];exact hk
  clear hax hbx
  cases sw with
  | false=>
    go_wp2_with fail
    have HU:Hid (TUpd w0 wx (n+2) O2 p tb g s'):=hidp (by
     rw [←HGG.out,←HS'.out,if_neg (by simp)]
     exact HT2.out.same HM2.out (Below.refl _ _))
    have HTC:=hidp (TUpd.client HU.out (by omega) (k:=k) (by rw [HC2.out];first | exact hk | exact hkC))
    rw [HD2.out] at HTC
    go_wp2_with fail
    go_at_call 54
    refine HTC.out.mono ?_
    rintro e w6 ⟨rfl,hb6⟩
    have HU6:=hidp (HU.out.then hb6)
    have hq6:=HU6.out.box (i:=n) (by omega) (by omega) HQ2.out
    have v0:=cell_blk hq6 0;have v1:=cell_blk hq6 1;have v2:=cell_blk hq6 2;have v3:=cell_blk hq6 3
    simp only [zC,zD,zE] at v0 v1 v2 v3
    haveI:SzGe (bq+1) w6:=⟨lt_blk hq6⟩
    clear hb6 hq6 HU
    go_wp2_with fail
    go_at_call 55
    refine (HCO.out _).mono ?_
    rintro e w7 ⟨rfl,hb7⟩
    have HU7:=hidp (HU6.out.then (Below.trans (show Below w6.heap.size w6 ((w6.alloc (.cells #[.int .i64 d'.q0,.int .i64 d'.q1,.int .i64 d'.q2,.int .i64 d'.q3] 32)).alloc (.cells #[.int .i64 d'.n0,.int .i64 d'.n1,.int .i64 d'.n2,.int .i64 d'.n3] 32)) from zB) (hb7.mono (Below.size (show Below w6.heap.size w6 ((w6.alloc (.cells #[.int .i64 d'.q0,.int .i64 d'.q1,.int .i64 d'.q2,.int .i64 d'.q3] 32)).alloc (.cells #[.int .i64 d'.n0,.int .i64 d'.n1,.int .i64 d'.n2,.int .i64 d'.n3] 32)) from zB)))))
    clear hb7
    go_wp2_with fail
    go_ret
    exact ⟨rfl,HEND.out _ (HU7.out.less (by omega) HO2.out)⟩
  | true=>
    go_wp2_with fail
    refine wp_region_plus_tail 8 (by kernel_rfl) (by kernel_rfl) ?_
    simp only [List.take_succ_cons,List.take_zero,List.drop_succ_cons,List.drop_zero]
    repeat (first | go_big_quiet_skip | (go_big_quiet_want;go_big_quiet_op;first | go_big_quiet_on | (apply Exists.intro;refine ⟨fun _=>?_,?_⟩;(go_at_call 105;first | with_reducible exact Calls.plus_same (HP1.out _) | with_reducible exact Calls.plus_same (HP2.out _) | with_reducible exact Calls.plus_same (HP5.out _) | with_reducible exact Calls.plus_same (HP8.out _));go_big_quiet_on)))
    refine wpQuiet_nil ?_
    rintro _ ⟨x3,rfl⟩
    have HB3:=hidp (show Below wx.heap.size wx (wplus wx x3) from zB)
    have HM3:=hidp (HM2.out.below HB3.out)
    have HOP:Hid (Calls Tryz.prog 111 #[.pointer (some ⟨g,0,none⟩),.int .i64 (kS:Nat)] (wplus wx x3) fun e w'=>∃ z,e=.returned z∧TUpd w0 w' (n+2) O2 p tb g s'):=hidp (by
     rw [←HGG.out,←HS'.out]
     rw [if_pos (by trivial)]
     exact (wSweep_ok HT2.out.w HM3.out (by omega) (by have:=HSS.out;omega)).mono fun e w' ⟨h1,h2⟩=>⟨_,h1,HT2.out.world (by omega) rfl rfl h2⟩
     )
    go_wp2_with fail
    go_at_call 111
    refine HOP.out.mono ?_
    rintro e w5 ⟨z5,rfl,hU⟩
    have HU:=hidp hU
    clear hU HOP
    have HTC:=hidp (TUpd.client HU.out (by omega) (k:=k) (by rw [HC2.out];first | exact hk | exact hkC))
    rw [HD2.out] at HTC
    go_wp2_with fail
    go_at_call 54
    refine HTC.out.mono ?_
    rintro e w6 ⟨rfl,hb6⟩
    have HU6:=hidp (HU.out.then hb6)
    have hq6:=HU6.out.box (i:=n) (by omega) (by omega) HQ2.out
    have v0:=cell_blk hq6 0;have v1:=cell_blk hq6 1;have v2:=cell_blk hq6 2;have v3:=cell_blk hq6 3
    simp only [zC,zD,zE] at v0 v1 v2 v3
    haveI:SzGe (bq+1) w6:=⟨lt_blk hq6⟩
    clear hb6 hq6 HU
    go_wp2_with fail
    go_at_call 55
    refine (HCO.out _).mono ?_
    rintro e w7 ⟨rfl,hb7⟩
    have HU7:=hidp (HU6.out.then (Below.trans (show Below w6.heap.size w6 ((w6.alloc (.cells #[.int .i64 d'.q0,.int .i64 d'.q1,.int .i64 d'.q2,.int .i64 d'.q3] 32)).alloc (.cells #[.int .i64 d'.n0,.int .i64 d'.n1,.int .i64 d'.n2,.int .i64 d'.n3] 32)) from zB) (hb7.mono (Below.size (show Below w6.heap.size w6 ((w6.alloc (.cells #[.int .i64 d'.q0,.int .i64 d'.q1,.int .i64 d'.q2,.int .i64 d'.q3] 32)).alloc (.cells #[.int .i64 d'.n0,.int .i64 d'.n1,.int .i64 d'.n2,.int .i64 d'.n3] 32)) from zB)))))
    clear hb7
    go_wp2_with fail
    go_ret
    exact ⟨rfl,HEND.out _ (HU7.out.less (by omega) HO2.out)⟩
end
end Go.Proofs.YtbopfhbeegkkaabGreatDoor
