/- Part 43 of a proof: lemmas and contracts that other parts use. -/
import Derived.Test.YtbopfhbeegkkaabGreatDoorCa38
set_option linter.unusedVariables false
set_option linter.unusedSimpArgs false
set_option linter.constructorNameAsVariable false
namespace Go.Proofs.YtbopfhbeegkkaabGreatDoor
open Go.RowKit
section
variable {w0 w w':World} {n:Nat} {O:Nat→Ob} {p tb:Nat} {s:TlP} {t:TV} {b:Nat→Int→Int} {k:Nat}
theorem TAx.put (h:TAx w0.heap.size O p tb s t) (hm:Mem w0 w n O) (hn:p+25≤n) {mb:Nat} (hms:t.ms[k]?=some mb) {f:Int→Option WrP} {z:Nat} (hw:WpAt w' mb f z) (hg:w.grownBy w' (some mb)):
  TUpd w0 w' n O p tb t.g ⟨s.A,s.T,fset s.F k f,fset s.z k z⟩:=by
 have hkl:k<t.ms.length:=lt_get hms
 have h1l:=h.ml
 have h1c:=h.w.ok.C
 have hO:=h.m k mb hms
 have hat:=hm.at_ (p+(19+k)) (by omega)
 rw [hO] at hat
 obtain ⟨O',h1,h2,h3⟩:=hm.step1 (i:=p+(19+k)) (by omega) (o:=obMp w0.heap.size mb f z) (obMp_ok ..) ⟨hat.1,hw⟩
  ⟨hg.os,hg.tape,hg.output,hg.size,fun b hb hne=>hg.block b hb (fun e=>hne (by rw [hO];exact Option.some.inj e)),fun b hb=>.inl (by rw [hO];exact hb)⟩ (fun b e=>e.elim)
 refine ⟨O',t,h1,⟨⟨h.w.keep (fun j hj=>h3 _ (by omega)),(h3 _ (by omega)).trans h.b,(h3 _ (by omega)).trans h.T,h.eT,(h3 _ (by omega)).trans h.o,h.ml,fun j m hj=>?_⟩,rfl⟩,fun i hi hne=>h3 i (by omega)⟩
 have hjl:j<t.ms.length:=lt_get hj
 by_cases e:j=k
 ·subst e
  rw [hms] at hj
  obtain rfl:=Option.some.inj hj
  show O' _=obMp _ mb (fset s.F j f j) (fset s.z j z j)
  rw [fset_same,fset_same];exact h2
 ·show O' _=obMp _ m (fset s.F k f j) (fset s.z k z j)
  rw [fset_other _ e,fset_other _ e,h3 _ (by omega)]
  exact h.m j m hj
theorem obRow_setV (h:Mem w0 w n O) {i:Nat} (hi:i<n) {e g c m:Nat} {xs:List Value} (ho:O i=obRow w0.heap.size e 1 (.slice (some ⟨g,0,none⟩) m c) m xs) (k:Nat) (z:Value):
  ∃ O',Mem w0 (w.setCell ⟨g,k,none⟩ z) n O'∧O' i=obRow w0.heap.size e 1 (.slice (some ⟨g,0,none⟩) m c) m (xs.set k z)∧∀ j,j≠i→O' j=O j:=by
 have hat:=h.at_ i hi
 rw [ho] at hat
 have hw:w.ownsRow w0.heap.size e 1 (.slice (some ⟨g,0,none⟩) m c) m xs:=hat
 have h2:=hw.stored k z
 have hg:=grown_set w g k z
 refine h.step1 hi (obRow_ok ..) h2.1 ⟨hg.os,hg.tape,hg.output,hg.size,fun b hb hn=>hg.block b hb (fun e2=>hn ?_),fun b hb=>.inl ?_⟩ (fun b e=>e.elim)
 ·rw [ho];exact e2.symm
 ·rw [ho];exact hb
theorem maps_set (l:List Nat) (k m:Nat):(maps_ l).set k (.map (some m))=maps_ (l.set k m):=by simp [maps_,List.map_set]
theorem TAx.newMap (h:TAx w0.heap.size O p tb s t) (hm:Mem w0 w n O) (hn:p+25≤n) (hk:k<s.A.C) {bo co:Nat} (he:t.vO=.slice (some ⟨bo,0,none⟩) s.A.C co):
  TUpd w0 ((w.alloc (.map #[] 0)).setCell ⟨bo,k,none⟩ (.map (some w.heap.size))) n O p tb t.g ⟨s.A,s.T,fset s.F k (fun _=>none),fset s.z k 0⟩:=by
 have h1l:=h.ml
 have h1c:=h.w.ok.C
 have hb:Below w.heap.size w (w.alloc (.map #[] 0)):=blw_alloc (Below.refl _ _)
 obtain ⟨O1,m1,m2,m3⟩:=hm.step1 (i:=p+(19+k)) (by omega) (o:=obMp w0.heap.size w.heap.size (fun _=>none) 0) (obMp_ok ..) ⟨hm.low.size,WpAt.made (blk_new rfl _)⟩
  ⟨hb.os,hb.tape,hb.output,hb.size,fun b hb2 _=>hb.block b hb2,fun b e=>.inr (by have e2:b=w.heap.size:=e;omega)⟩ (fun b e=>e.elim)
 have ho:O1 (p+18)=obRow w0.heap.size 169 1 (.slice (some ⟨bo,0,none⟩) s.A.C co) s.A.C (maps_ t.ms):=by rw [m3 _ (by omega),h.o,he]
 obtain ⟨O2,k1,k2,k3⟩:=obRow_setV m1 (i:=p+18) (by omega) ho k (.map (some w.heap.size))
 rw [maps_set] at k2
 have hO:∀ j,j≠p+18→j≠p+(19+k)→O2 j=O j:=fun j e1 e2=>(k3 j e1).trans (m3 j e2)
 refine ⟨O2,⟨t.g,t.v,t.vT,t.vO,t.ts,t.ms.set k w.heap.size⟩,k1,⟨⟨h.w.keep (fun j hj=>hO _ (by omega) (by omega)),(hO _ (by omega) (by omega)).trans h.b,(hO _ (by omega) (by omega)).trans h.T,h.eT,?_,(List.length_set ..).trans h.ml,fun j m hj=>?_⟩,rfl⟩,fun i hi hne=>hO i (by omega) (by omega)⟩
 ·show O2 (p+18)=obRow w0.heap.size 169 1 t.vO s.A.C _
  rw [k2,he]
 ·have hjl:j<t.ms.length:=by have:=lt_get hj;simpa using this
  by_cases e:j=k
  ·subst e
   rw [List.getElem?_set_self hjl] at hj
   obtain rfl:=Option.some.inj hj
   show O2 _=obMp _ _ (fset s.F j (fun _=>none) j) (fset s.z j 0 j)
   rw [fset_same,fset_same,k3 _ (by omega)];exact m2
  ·rw [List.getElem?_set_ne (fun e2=>e e2.symm)] at hj
   show O2 _=obMp _ m (fset s.F k (fun _=>none) j) (fset s.z k 0 j)
   rw [fset_other _ e,fset_other _ e,hO _ (by omega) (by omega)]
   exact h.m j m hj
end
section
variable {w0 w:World} {n:Nat} {O:Nat→Ob} {p tb:Nat} {s:TlP} {t:TV} {b:Nat→Int→Int}
set_option maxRecDepth 200000 in
set_option maxHeartbeats 16000000 in
theorem does_2 (hg:EType w) (ht:TAx w0.heap.size O p tb s t) (hm:Mem w0 w n O) (hn:p+25≤n) (hok:TlOk s b) (hT:s.T.length<200) (ak an:Int) (ad:ByteArray) (ag sw:Bool):
  Calls Tryz.prog 53 #[.pointer (some ⟨tb,0,none⟩),.agg #[.int .i64 2,.int .i64 ak,.int .i64 an,.string ad,.bool ag],.bool sw] w fun e w'=>e=.returned (.bool true)∧TUpd w0 w' n O p tb t.g (tlDo s ⟨2,ak,an,ad,ag⟩ sw):=by
 have hC1:1≤s.A.C:=hok.C
 have hC6:s.A.C≤6:=ht.w.ok.C
 obtain ⟨hS1,hS4⟩:=hok.inv.S
 have hL3:s.A.way.length≤300:=hok.inv.wl
 obtain ⟨k,hkk⟩:∃ k,pickN ak s.A.C=k:=⟨_,rfl⟩
 have hk:k<s.A.C:=by rw [←hkk];exact pickN_lt _ hC1
 obtain ⟨iI,hI⟩:∃ i,(if 0<s.A.way.length then pickN an s.A.way.length else 0)=i:=⟨_,rfl⟩
 obtain ⟨d,hd⟩:∃ d,s.A.cl k=d:=⟨_,rfl⟩
 have HPK:=hidp (fun W=>pick_is ak s.A.C W hC1 (by omega))
 have HPN:=hidp (fun W (h0:0<s.A.way.length)=>pick_is an s.A.way.length W h0 (by omega))
 obtain ⟨kS,hkS⟩:∃ x,pickN ak s.A.S=x:=⟨_,rfl⟩
 obtain ⟨nS,hnS⟩:∃ x,pickN an s.A.S=x:=⟨_,rfl⟩
 obtain ⟨n5,hn5⟩:∃ x,pickN an 50=x:=⟨_,rfl⟩
 obtain ⟨n8,hn8⟩:∃ x,pickN an 8=x:=⟨_,rfl⟩
 have hkSl:kS<s.A.S:=by rw [←hkS];exact pickN_lt _ (by omega)
 have hnSl:nS<s.A.S:=by rw [←hnS];exact pickN_lt _ (by omega)
 have hn5l:n5<50:=by rw [←hn5];exact pickN_lt _ (by omega)
 have hn8l:n8<8:=by rw [←hn8];exact pickN_lt _ (by omega)
 have HP1:=hidp (fun W=>pick_is ak s.A.S W (by omega) (by omega))
 have HP2:=hidp (fun W=>pick_is an s.A.S W (by omega) (by omega))
 have HP5:=hidp (fun W=>(show Calls Tryz.prog 105 #[.int .i64 an,.int .i64 50] W (fun e w'=>e=.returned (.int .i64 (pickN an 50:Nat))∧W=w') from pick_is an 50 W (by omega) (by omega)))
 have HP8:=hidp (fun W=>(show Calls Tryz.prog 105 #[.int .i64 an,.int .i64 8] W (fun e w'=>e=.returned (.int .i64 (pickN an 8:Nat))∧W=w') from pick_is an 8 W (by omega) (by omega)))
 rw [hkS] at HP1;rw [hnS] at HP2;rw [hn5] at HP5;rw [hn8] at HP8
 rw [hkk] at HPK
 have HI:=hidp hI
 have HMA:=hidp (fun W (hW:Below w.heap.size w W)=>wMany_any ht.w (hm.below hW) (by omega))
 have HCL:=hidp (fun W (hW:Below w.heap.size w W)=>wClient_ok ht.w (hm.below hW) (by omega) hk)
 rw [hd] at HCL
 have HM:=hidp hm
 have HT:=hidp ht
 have HOK:=hidp hok
 have HKK:=hidp hkk
 have HDD:=hidp hd
 have HGE:=hidp hg
 have hbk:=ht.blk hm hn
 have c0:=cell_blk hbk 0;have c1:=cell_blk hbk 1;have c2:=cell_blk hbk 2
 simp only [zC,zD,zE] at c0 c1 c2
 have HBK:=hidp hbk
 haveI:SzGe (tb+1) w:=⟨lt_blk hbk⟩
 obtain ⟨g,hgg⟩:∃ g,t.g=g:=⟨_,rfl⟩
 rw [hgg] at c0 HMA HCL HBK
 have HGG:=hidp hgg
 obtain ⟨s',hs'⟩:∃ s',tlWrite s k (⟨(n8:Int),ad,ag⟩:WrP)=s':=⟨_,rfl⟩
 have HS':=hidp hs'
 have HC2:Hid (s'.A.C=s.A.C):=hidp (by rw [←hs'];unfold tlWrite;split <;> rfl)
 obtain ⟨d',hd'⟩:∃ d',s'.A.cl k=d':=⟨_,rfl⟩
 have HD2:=hidp hd'
 have HCO:=hidp (covers_of (show clCov d' d from by rw [←hd',←hs',←hd];unfold tlWrite;split <;> exact cov_set (cov_write _ _) k))
 have HEND:Hid (∀ W,TUpd w0 W n O p tb g s'→TUpd w0 W n O p tb t.g (tlDo s (⟨2,ak,an,ad,ag⟩:TaP) sw)):=hidp (fun W hW=>by rw [(show tlDo s (⟨2,ak,an,ad,ag⟩:TaP) sw=s' from (by rw [tlDo_2 _ _ _ rfl];show tlWrite s (pickN ak s.A.C) (⟨((pickN an 8:Nat):Int),ad,ag⟩:WrP)=_;rw [hkk,hn8];exact hs')),hgg];exact hW)
 clear hs' hd'
 clear hm ht hok hkk hd hg hbk hI hgg hkS hnS hn5 hn8
 generalize hLL:s.A.way.length=L at *
 generalize hCC:s.A.C=C at *
 generalize hSS:s.A.S=S at *
 have HLL:=hidp hLL
 have HCC:=hidp hCC
 have HSS:=hidp hSS
 clear hLL hCC hSS
 go_enter Tryz.func53,Tryz.ntmps53
 go_wp2_with fail
 have HBA:=hidp (show (w.alloc (.cells #[.int .i64 2,.int .i64 ak,.int .i64 an,.string ad,.bool ag] 105)).heap[w.heap.size]?=some (.cells #[.int .i64 2,.int .i64 ak,.int .i64 an,.string ad,.bool ag] 105) from blk_new rfl _)
 have HB0:=hidp (show Below w.heap.size w (w.alloc (.cells #[.int .i64 2,.int .i64 ak,.int .i64 an,.string ad,.bool ag] 105)) from zB)
 refine wp_region_plus (by kernel_rfl) (by kernel_rfl) ?_
 repeat (first | go_big_quiet_skip | (go_big_quiet_want;go_big_quiet_op;first | go_big_quiet_on | (apply Exists.intro;refine ⟨fun _=>?_,?_⟩;(go_at_call 105;exact Calls.plus_same (HPK.out _));go_big_quiet_on)))
 refine wpQuiet_nil ?_
 rintro _ ⟨x1,rfl⟩
 have HA1:=hidp (show (wplus (w.alloc (.cells #[.int .i64 2,.int .i64 ak,.int .i64 an,.string ad,.bool ag] 105)) x1).heap[w.heap.size]?=some (.cells #[.int .i64 2,.int .i64 ak,.int .i64 an,.string ad,.bool ag] 105) from ((below_wplus _ x1).block _ (lt_blk HBA.out)).trans HBA.out)
 have HB1:=hidp (show Below w.heap.size w (wplus (w.alloc (.cells #[.int .i64 2,.int .i64 ak,.int .i64 an,.string ad,.bool ag] 105)) x1) from zB)
 clear HBA HB0
 generalize (wplus (w.alloc (.cells #[.int .i64 2,.int .i64 ak,.int .i64 an,.string ad,.bool ag] 105)) x1)=wa at *
 haveI:SzGe (w.heap.size+1) wa:=⟨lt_blk HA1.out⟩
 go_wp2_with fail
 go_at_call 66
 refine (HMA.out _ HB1.out).mono ?_
 rintro e wm ⟨rfl,hbm⟩
 have HBM:=hidp (show Below wa.heap.size wa wm from hbm)
 clear hbm HMA
 go_upto_if 47 with fail
 go_cut [9] (fun i W=>i=.int .i64 (iI:Int)∧Below wa.heap.size wa W)
 case first=>
  by_cases h0:0<L
  ·have e1:=HI.out
   rw [if_pos h0] at e1
   have d0:decide ((0:Int)<(L:Int))=true:=decide_eq_true (by omega)
   have ha:=(HBM.out.block _ (lt_blk HA1.out)).trans HA1.out
   have a2:=cell_blk ha 2
   simp only [zC,zD,zE] at a2
   haveI:SzGe (w.heap.size+1) wm:=⟨lt_blk ha⟩
   have HPN2:=hidp (fun W=>HPN.out W h0)
   rw [e1] at HPN2
   clear e1 ha HPN
   go_wp2_with fail
   go_at_call 105
   refine (HPN2.out _).mono ?_
   rintro e wn ⟨rfl,rfl⟩
   go_wp2_with fail
   go_meet
   exact ⟨rfl,HBM.out⟩
  ·have e1:=HI.out
   rw [if_neg h0] at e1
   have e1:=e1.symm
   subst e1
   have d0:decide ((0:Int)<(L:Int))=false:=decide_eq_false (by omega)
   clear HPN
   go_wp2_with fail
   go_meet
   exact ⟨rfl,HBM.out⟩
 case rest=>
  obtain ⟨rfl,hbc⟩:=hcut
  have HAC:=hidp (show Below wa.heap.size wa wc from hbc)
  have HBC:=hidp (HB1.out.trans (hbc.mono HB1.out.size))
  clear hbc HPN
  go_wp2_with fail
  go_at_call 54
  refine (HCL.out _ HBC.out).mono ?_
  rintro e wd ⟨rfl,hbd⟩
  have HBD:=hidp (HBC.out.trans (hbd.mono HBC.out.size))
  have HAD:=hidp (HAC.out.trans (hbd.mono HAC.out.size))
  obtain ⟨O2,m1,m2,m3,m4⟩:=(HM.out.below HBD.out).new2 (.cells #[.int .i64 d.q0,.int .i64 d.q1,.int .i64 d.q2,.int .i64 d.q3] 32) (.cells #[.int .i64 d.n0,.int .i64 d.n1,.int .i64 d.n2,.int .i64 d.n3] 32)
  have HM2:=hidp m1
  have HT2:=hidp (HT.out.keep (O':=O2) (fun j hj=>m2 (p+j) (by omega)))
  have HO2:=hidp (show ∀ i,i<n→(i<p∨p+25≤i)→O2 i=O i from fun i hi _=>m2 i hi)
  have HQ2:=hidp m3
  have HBX:=hidp (HBD.out.trans (Below.mono (show Below wd.heap.size wd ((wd.alloc (.cells #[.int .i64 d.q0,.int .i64 d.q1,.int .i64 d.q2,.int .i64 d.q3] 32)).alloc (.cells #[.int .i64 d.n0,.int .i64 d.n1,.int .i64 d.n2,.int .i64 d.n3] 32)) from zB) HBD.out.size))
  have HAX:=hidp (HAD.out.trans (Below.mono (show Below wd.heap.size wd ((wd.alloc (.cells #[.int .i64 d.q0,.int .i64 d.q1,.int .i64 d.q2,.int .i64 d.q3] 32)).alloc (.cells #[.int .i64 d.n0,.int .i64 d.n1,.int .i64 d.n2,.int .i64 d.n3] 32)) from zB) HAD.out.size))
  obtain ⟨bq,hbq⟩:∃ bq,wd.heap.size=bq:=⟨_,rfl⟩
  have HBQ:=hidp hbq
  clear hbd m1 m2 m3 m4 hbq HBD HAD HCL
  go_upto_region 9 with fail
  rw [HBQ.out] at HQ2
  generalize ((wd.alloc (.cells #[.int .i64 d.q0,.int .i64 d.q1,.int .i64 d.q2,.int .i64 d.q3] 32)).alloc (.cells #[.int .i64 d.n0,.int .i64 d.n1,.int .i64 d.n2,.int .i64 d.n3] 32))=wx at *
  rw [HBQ.out]
  have hax:=(HAX.out.block _ (lt_blk HA1.out)).trans HA1.out
  have a0:=cell_blk hax 0;have a1:=cell_blk hax 1;have a2:=cell_blk hax 2;have a3:=cell_blk hax 3;have a4:=cell_blk hax 4
  simp only [zC,zD,zE] at a0 a1 a2 a3 a4
  have hbx:=(HBX.out.block _ (lt_blk HBK.out)).trans HBK.out
  have c0:=cell_blk hbx 0;have c1:=cell_blk hbx 1;have c2:=cell_blk hbx 2
  simp only [zC,zD,zE] at c0 c1 c2
  haveI:SzGe (w.heap.size+1) wx:=⟨lt_blk hax⟩
  haveI:SzGe (tb+1) wx:=⟨lt_blk hbx⟩
  have hkC:k<s.A.C:=by rw [HCC.out];exact hk
  clear hax hbx
  go_upto_region 19 with fail
  go_cut [21] (fun tb W'=>tb=.pointer (some ⟨wx.heap.size,0,none⟩)∧W'=(wx.alloc (.cells #[.int .i64 (n8:Int),.string ad,.bool ag] 83)).drew)
  case first=>
   go_region_held3 (fun X:World=>X.cell? ⟨w.heap.size,2,none⟩=some (.int .i64 an)∧X.cell? ⟨w.heap.size,3,none⟩=some (.string ad)∧X.cell? ⟨w.heap.size,4,none⟩=some (.bool ag)) ((repeat' apply And.intro) <;> simp [go_sem, *]) ((go_at_call 105;refine (HP8.out _).mono ?_;rintro e wq ⟨rfl,rfl⟩))
   all_goals go_wp2_with fail
   all_goals go_meet
   all_goals exact ⟨rfl,rfl⟩
  case rest=>
   obtain ⟨rfl,rfl⟩:=hcut
   go_wp2_with fail
   obtain ⟨O3,r1,r2,r3⟩:=HM2.out.new1 (.cells #[.int .i64 (n8:Int),.string ad,.bool ag] 83)
   have r1:=r1.below (w':=(wx.alloc (.cells #[.int .i64 (n8:Int),.string ad,.bool ag] 83)).drew) (by repeat (first | exact Below.refl _ _ | refine blw_alloc ?_ | refine blw_plus ?_ | refine Below.drew ?_))
   have HM4:=hidp r1
   have HT4:=hidp (HT2.out.keep (O':=O3) (fun j hj=>r2 (p+j) (by omega)))
   have HO4:=hidp (show ∀ i,i<n+2→(i<p∨p+25≤i)→O3 i=O2 i from fun i hi _=>r2 i hi)
   have HY4:=hidp r3
   clear r1 r2 r3
   obtain ⟨E,hE⟩:∃ E,awWriteE s.A k (⟨(n8:Int),ad,ag⟩:WrP)=E:=⟨_,rfl⟩
   have HE:=hidp hE
   have HOP:Hid (Calls Tryz.prog 101 #[.pointer (some ⟨g,0,none⟩),.int .i64 (k:Nat),.agg #[.int .i64 (n8:Int),.string ad,.bool ag]] (wx.alloc (.cells #[.int .i64 (n8:Int),.string ad,.bool ag] 83)).drew fun e w'=>e=.returned (errV E)∧TUpd w0 w' (n+3) O3 p tb g (tlTo s (awWrite s.A k (⟨(n8:Int),ad,ag⟩:WrP)))):=hidp (by
    rw [←HGG.out,←hE]
    exact (wWrite_ok HT4.out.w HM4.out (by omega) hkC (⟨(n8:Int),ad,ag⟩:WrP)).mono fun e w' ⟨h1,h2⟩=>⟨h1,HT4.out.world (by omega) rfl rfl h2⟩)
   clear hE
   generalize (wx.alloc (.cells #[.int .i64 (n8:Int),.string ad,.bool ag] 83)).drew=wy at *
   by_cases hE:E=0
   ·subst hE
    rw [show errV 0=.nilIface from rfl] at HOP
    have HX:Hid (∀ (W:World) (O5:Nat→Ob),(∀ i,i<n+3→(i<p∨p+25≤i)→O5 i=O3 i)→TUpd w0 W (n+3) O5 p tb g ⟨awWrite s.A k (⟨(n8:Int),ad,ag⟩:WrP),s.T,fset s.F k (wput (s.F k) (n8:Int) (⟨(n8:Int),ad,ag⟩:WrP)),fset s.z k (if (s.F k (n8:Int)).isSome then s.z k else s.z k+1)⟩→TUpd w0 W (n+2) O2 p tb g s'):=hidp (fun W O5 ho hW=>by
     have e:tlWrite s k (⟨(n8:Int),ad,ag⟩:WrP)=⟨awWrite s.A k (⟨(n8:Int),ad,ag⟩:WrP),s.T,fset s.F k (wput (s.F k) (n8:Int) (⟨(n8:Int),ad,ag⟩:WrP)),fset s.z k (if (s.F k (n8:Int)).isSome then s.z k else s.z k+1)⟩:=by
      unfold tlWrite;rw [if_pos HE.out]
     rw [←HS'.out,e]
     exact hW.less (by omega) (fun i hi hne=>(ho i (by omega) hne).trans (HO4.out i hi hne)))
    have hzk:s.z k≤1000000:=by
     have h1:=(sdWriteE_ok HE.out).1
     rw [(HOK.out.own k hkC h1).2]
     have:=allW_len (s.A.cl k).W 8
     omega
    have HZK:=hidp hzk
    clear hzk
    go_at_call 101
    refine HOP.out.mono ?_
    rintro e w5 ⟨rfl,O5,t5,q1,⟨q2,q3⟩,q4⟩
    have hy5:=q1.box (i:=n+2) (by omega) ((q4 (n+2) (by omega) (.inr (by omega))).trans HY4.out)
    have y0:=cell_blk hy5 0;have y1:=cell_blk hy5 1;have y2:=cell_blk hy5 2
    simp only [zC,zD,zE] at y0 y1 y2
    haveI:SzGe (wx.heap.size+1) w5:=⟨lt_blk hy5⟩
    have hb5:=q2.blk q1 (by omega)
    have c4:=cell_blk hb5 4
    simp only [zC,zD,zE] at c4
    haveI:SzGe (tb+1) w5:=⟨lt_blk hb5⟩
    obtain ⟨bo,co,mb,eO,hlo,hmc,hfr,hmp,hms,_,_⟩:=q2.map q1 (by omega) (k:=k) hkC
    rw [eO] at c4
    haveI:SzGe (bo+1) w5:=⟨hlo⟩
    haveI:SzGe (mb+1) w5:=⟨hmp.lt⟩
    have HM5:=hidp q1
    have HT5:=hidp q2
    have HG5:=hidp q3
    have HO5:=hidp q4
    have HMP:=hidp hmp
    have HMS:=hidp hms
    have hk0:(0:Int)≤(k:Int):=by omega
    have hk6:(k:Int)<6:=by omega
    have hCk:(tlTo s (awWrite s.A k (⟨(n8:Int),ad,ag⟩:WrP))).A.C=C:=HCC.out
    rw [hCk] at c4
    have hkc:(k:Int)<(C:Int):=by omega
    clear q1 q2 q3 q4 hy5 hb5 eO hmp hms hCk hlo HOP
    go_wp2_with fail
    refine wp_region_plus_tail 10 (by kernel_rfl) (by kernel_rfl) ?_
    simp only [List.take_succ_cons,List.take_zero,List.drop_succ_cons,List.drop_zero]
    repeat (first | go_big_quiet_skip | (go_big_quiet_want;go_big_quiet_op;go_big_quiet_on))
    refine wpQuiet_nil ?_
    rintro _ ⟨x5,rfl⟩
    have hb6:Below w5.heap.size w5 (wplus w5 x5):=(by repeat (first | exact Below.refl _ _ | refine blw_alloc ?_ | refine blw_plus ?_ | refine Below.drew ?_))
    obtain ⟨w6,hrun,hw6,htn⟩:=(HMP.out.below hb6).store HZK.out (k:=(n8:Int)) (by unfold wf64;omega) (⟨(n8:Int),ad,ag⟩:WrP)
    have hU6:=(HT5.out.put (HM5.out.below hb6) (by omega) HMS.out hw6 htn.grown)
    rw [HG5.out] at hU6
    have HU:=hidp (HX.out _ _ HO5.out hU6)
    unfold WrP.val at hrun
    simp only at hrun
    clear hU6 hw6 htn hb6 HX
    go_wp2_with fail
    have HTC:=hidp (TUpd.client HU.out (by omega) (k:=k) (by rw [HC2.out];first | exact hk | exact hkC))
    rw [HD2.out] at HTC
    go_wp2_with fail
    go_at_call 54
    refine HTC.out.mono ?_
    rintro e w6 ⟨rfl,hb6⟩
    have HU6:=hidp (HU.out.then hb6)
    have hq6:=HU6.out.box (i:=n) (by omega) (by omega) HQ2.out
    have v0:=cell_blk hq6 0;have v1:=cell_blk hq6 1;have v2:=cell_blk hq6 2;have v3:=cell_blk hq6 3
    simp only [zC,zD,zE] at v0 v1 v2 v3
    haveI:SzGe (bq+1) w6:=⟨lt_blk hq6⟩
    clear hb6 hq6 HU
    go_wp2_with fail
    go_at_call 55
    refine (HCO.out _).mono ?_
    rintro e w7 ⟨rfl,hb7⟩
    have HU7:=hidp (HU6.out.then (Below.trans (show Below w6.heap.size w6 ((w6.alloc (.cells #[.int .i64 d'.q0,.int .i64 d'.q1,.int .i64 d'.q2,.int .i64 d'.q3] 32)).alloc (.cells #[.int .i64 d'.n0,.int .i64 d'.n1,.int .i64 d'.n2,.int .i64 d'.n3] 32)) from zB) (hb7.mono (Below.size (show Below w6.heap.size w6 ((w6.alloc (.cells #[.int .i64 d'.q0,.int .i64 d'.q1,.int .i64 d'.q2,.int .i64 d'.q3] 32)).alloc (.cells #[.int .i64 d'.n0,.int .i64 d'.n1,.int .i64 d'.n2,.int .i64 d'.n3] 32)) from zB)))))
    clear hb7
    go_wp2_with fail
    go_ret
    exact ⟨rfl,HEND.out _ (HU7.out.less (by omega) HO2.out)⟩
   ·have hev:errV E=.iface 29 (.int .i64 E):=if_neg hE
    rw [hev] at HOP
    have HX:Hid (∀ W,TUpd w0 W (n+3) O3 p tb g (tlTo s (awWrite s.A k (⟨(n8:Int),ad,ag⟩:WrP)))→TUpd w0 W (n+2) O2 p tb g s'):=hidp (fun W hW=>by
     have e:tlWrite s k (⟨(n8:Int),ad,ag⟩:WrP)=tlTo s (awWrite s.A k (⟨(n8:Int),ad,ag⟩:WrP)):=by
      unfold tlWrite;rw [if_neg (by rw [HE.out];exact hE)];rfl
     rw [←HS'.out,e]
     exact hW.less (by omega) HO4.out)
    clear hE hev
    go_at_call 101
    refine HOP.out.mono ?_
    rintro e w5 ⟨rfl,hU⟩
    have HU:=hidp (HX.out _ hU)
    clear hU HOP HX
    have HTC:=hidp (TUpd.client HU.out (by omega) (k:=k) (by rw [HC2.out];first | exact hk | exact hkC))
    rw [HD2.out] at HTC
    go_wp2_with fail
    go_at_call 54
    refine HTC.out.mono ?_
    rintro e w6 ⟨rfl,hb6⟩
    have HU6:=hidp (HU.out.then hb6)
    have hq6:=HU6.out.box (i:=n) (by omega) (by omega) HQ2.out
    have v0:=cell_blk hq6 0;have v1:=cell_blk hq6 1;have v2:=cell_blk hq6 2;have v3:=cell_blk hq6 3
    simp only [zC,zD,zE] at v0 v1 v2 v3
    haveI:SzGe (bq+1) w6:=⟨lt_blk hq6⟩
    clear hb6 hq6 HU
    go_wp2_with fail
    go_at_call 55
    refine (HCO.out _).mono ?_
    rintro e w7 ⟨rfl,hb7⟩
    have HU7:=hidp (HU6.out.then (Below.trans (show Below w6.heap.size w6 ((w6.alloc (.cells #[.int .i64 d'.q0,.int .i64 d'.q1,.int .i64 d'.q2,.int .i64 d'.q3] 32)).alloc (.cells #[.int .i64 d'.n0,.int .i64 d'.n1,.int .i64 d'.n2,.int .i64 d'.n3] 32)) from zB) (hb7.mono (Below.size (show Below w6.heap.size w6 ((w6.alloc (.cells #[.int .i64 d'.q0,.int .i64 d'.q1,.int .i64 d'.q2,.int .i64 d'.q3] 32)).alloc (.cells #[.int .i64 d'.n0,.int .i64 d'.n1,.int .i64 d'.n2,.int .i64 d'.n3] 32)) from zB)))))
    clear hb7
    go_wp2_with fail
    go_ret
    exact ⟨rfl,HEND.out _ (HU7.out.less (by omega) HO2.out)⟩
end
section
variable {w0 w:World} {n:Nat} {O:Nat→Ob} {p tb:Nat} {s:TlP} {t:TV} {b:Nat→Int→Int}
theorem mkMap169 (w:World):Sem.run Tryz.prog (Instr.makeMap 169 none) w=.ok (.map (some w.heap.size)) (w.alloc (.map #[] 0)):=by kernel_rfl
set_option maxRecDepth 200000 in
set_option maxHeartbeats 16000000 in
theorem does_0 (hg:EType w) (ht:TAx w0.heap.size O p tb s t) (hm:Mem w0 w n O) (hn:p+25≤n) (hok:TlOk s b) (hT:s.T.length<200) (ak an:Int) (ad:ByteArray) (ag sw:Bool):
  Calls Tryz.prog 53 #[.pointer (some ⟨tb,0,none⟩),.agg #[.int .i64 0,.int .i64 ak,.int .i64 an,.string ad,.bool ag],.bool sw] w fun e w'=>e=.returned (.bool true)∧TUpd w0 w' n O p tb t.g (tlDo s ⟨0,ak,an,ad,ag⟩ sw):=by
 have hC1:1≤s.A.C:=hok.C
 have hC6:s.A.C≤6:=ht.w.ok.C
 obtain ⟨hS1,hS4⟩:=hok.inv.S
 have hL3:s.A.way.length≤300:=hok.inv.wl
 obtain ⟨k,hkk⟩:∃ k,pickN ak s.A.C=k:=⟨_,rfl⟩
 have hk:k<s.A.C:=by rw [←hkk];exact pickN_lt _ hC1
 obtain ⟨iI,hI⟩:∃ i,(if 0<s.A.way.length then pickN an s.A.way.length else 0)=i:=⟨_,rfl⟩
 obtain ⟨d,hd⟩:∃ d,s.A.cl k=d:=⟨_,rfl⟩
 have HPK:=hidp (fun W=>pick_is ak s.A.C W hC1 (by omega))
 have HPN:=hidp (fun W (h0:0<s.A.way.length)=>pick_is an s.A.way.length W h0 (by omega))
 obtain ⟨kS,hkS⟩:∃ x,pickN ak s.A.S=x:=⟨_,rfl⟩
 obtain ⟨nS,hnS⟩:∃ x,pickN an s.A.S=x:=⟨_,rfl⟩
 obtain ⟨n5,hn5⟩:∃ x,pickN an 50=x:=⟨_,rfl⟩
 obtain ⟨n8,hn8⟩:∃ x,pickN an 8=x:=⟨_,rfl⟩
 have hkSl:kS<s.A.S:=by rw [←hkS];exact pickN_lt _ (by omega)
 have hnSl:nS<s.A.S:=by rw [←hnS];exact pickN_lt _ (by omega)
 have hn5l:n5<50:=by rw [←hn5];exact pickN_lt _ (by omega)
 have hn8l:n8<8:=by rw [←hn8];exact pickN_lt _ (by omega)
 have HP1:=hidp (fun W=>pick_is ak s.A.S W (by omega) (by omega))
 have HP2:=hidp (fun W=>pick_is an s.A.S W (by omega) (by omega))
 have HP5:=hidp (fun W=>(show Calls Tryz.prog 105 #[.int .i64 an,.int .i64 50] W (fun e w'=>e=.returned (.int .i64 (pickN an 50:Nat))∧W=w') from pick_is an 50 W (by omega) (by omega)))
 have HP8:=hidp (fun W=>(show Calls Tryz.prog 105 #[.int .i64 an,.int .i64 8] W (fun e w'=>e=.returned (.int .i64 (pickN an 8:Nat))∧W=w') from pick_is an 8 W (by omega) (by omega)))
 rw [hkS] at HP1;rw [hnS] at HP2;rw [hn5] at HP5;rw [hn8] at HP8
 rw [hkk] at HPK
 have HI:=hidp hI
 have HMA:=hidp (fun W (hW:Below w.heap.size w W)=>wMany_any ht.w (hm.below hW) (by omega))
 have HCL:=hidp (fun W (hW:Below w.heap.size w W)=>wClient_ok ht.w (hm.below hW) (by omega) hk)
 rw [hd] at HCL
 have HM:=hidp hm
 have HT:=hidp ht
 have HOK:=hidp hok
 have HKK:=hidp hkk
 have HDD:=hidp hd
 have HGE:=hidp hg
 have hbk:=ht.blk hm hn
 have c0:=cell_blk hbk 0;have c1:=cell_blk hbk 1;have c2:=cell_blk hbk 2
 simp only [zC,zD,zE] at c0 c1 c2
 have HBK:=hidp hbk
 haveI:SzGe (tb+1) w:=⟨lt_blk hbk⟩
 obtain ⟨g,hgg⟩:∃ g,t.g=g:=⟨_,rfl⟩
 rw [hgg] at c0 HMA HCL HBK
 have HGG:=hidp hgg
 obtain ⟨s',hs'⟩:∃ s',tlBegin s k=s':=⟨_,rfl⟩
 have HS':=hidp hs'
 have HC2:Hid (s'.A.C=s.A.C):=hidp (by rw [←hs'];unfold tlBegin;split <;> rfl)
 obtain ⟨d',hd'⟩:∃ d',s'.A.cl k=d':=⟨_,rfl⟩
 have HD2:=hidp hd'
 have HCO:=hidp (covers_of (show clCov d' d from by rw [←hd',←hs',←hd];unfold tlBegin;split <;> exact cov_set (cov_begin _ _ _ _ _) k))
 have HEND:Hid (∀ W,TUpd w0 W n O p tb g s'→TUpd w0 W n O p tb t.g (tlDo s (⟨0,ak,an,ad,ag⟩:TaP) sw)):=hidp (fun W hW=>by rw [(show tlDo s (⟨0,ak,an,ad,ag⟩:TaP) sw=s' from (by rw [tlDo_0 _ _ _ rfl];show tlBegin s (pickN ak s.A.C)=_;rw [hkk];exact hs')),hgg];exact hW)
 clear hs' hd'
 clear hm ht hok hkk hd hg hbk hI hgg hkS hnS hn5 hn8
 generalize hLL:s.A.way.length=L at *
 generalize hCC:s.A.C=C at *
 generalize hSS:s.A.S=S at *
 have HLL:=hidp hLL
 have HCC:=hidp hCC
 have HSS:=hidp hSS
 clear hLL hCC hSS
 go_enter Tryz.func53,Tryz.ntmps53
 go_wp2_with fail
 have HBA:=hidp (show (w.alloc (.cells #[.int .i64 0,.int .i64 ak,.int .i64 an,.string ad,.bool ag] 105)).heap[w.heap.size]?=some (.cells #[.int .i64 0,.int .i64 ak,.int .i64 an,.string ad,.bool ag] 105) from blk_new rfl _)
 have HB0:=hidp (show Below w.heap.size w (w.alloc (.cells #[.int .i64 0,.int .i64 ak,.int .i64 an,.string ad,.bool ag] 105)) from zB)
 refine wp_region_plus (by kernel_rfl) (by kernel_rfl) ?_
 repeat (first | go_big_quiet_skip | (go_big_quiet_want;go_big_quiet_op;first | go_big_quiet_on | (apply Exists.intro;refine ⟨fun _=>?_,?_⟩;(go_at_call 105;exact Calls.plus_same (HPK.out _));go_big_quiet_on)))
 refine wpQuiet_nil ?_
 rintro _ ⟨x1,rfl⟩
 have HA1:=hidp (show (wplus (w.alloc (.cells #[.int .i64 0,.int .i64 ak,.int .i64 an,.string ad,.bool ag] 105)) x1).heap[w.heap.size]?=some (.cells #[.int .i64 0,.int .i64 ak,.int .i64 an,.string ad,.bool ag] 105) from ((below_wplus _ x1).block _ (lt_blk HBA.out)).trans HBA.out)
 have HB1:=hidp (show Below w.heap.size w (wplus (w.alloc (.cells #[.int .i64 0,.int .i64 ak,.int .i64 an,.string ad,.bool ag] 105)) x1) from zB)
 clear HBA HB0
 generalize (wplus (w.alloc (.cells #[.int .i64 0,.int .i64 ak,.int .i64 an,.string ad,.bool ag] 105)) x1)=wa at *
 haveI:SzGe (w.heap.size+1) wa:=⟨lt_blk HA1.out⟩
 go_wp2_with fail
 go_at_call 66
 refine (HMA.out _ HB1.out).mono ?_
 rintro e wm ⟨rfl,hbm⟩
 have HBM:=hidp (show Below wa.heap.size wa wm from hbm)
 clear hbm HMA
 go_upto_if 47 with fail
 go_cut [9] (fun i W=>i=.int .i64 (iI:Int)∧Below wa.heap.size wa W)
 case first=>
  by_cases h0:0<L
  ·have e1:=HI.out
   rw [if_pos h0] at e1
   have d0:decide ((0:Int)<(L:Int))=true:=decide_eq_true (by omega)
   have ha:=(HBM.out.block _ (lt_blk HA1.out)).trans HA1.out
   have a2:=cell_blk ha 2
   simp only [zC,zD,zE] at a2
   haveI:SzGe (w.heap.size+1) wm:=⟨lt_blk ha⟩
   have HPN2:=hidp (fun W=>HPN.out W h0)
   rw [e1] at HPN2
   clear e1 ha HPN
   go_wp2_with fail
   go_at_call 105
   refine (HPN2.out _).mono ?_
   rintro e wn ⟨rfl,rfl⟩
   go_wp2_with fail
   go_meet
   exact ⟨rfl,HBM.out⟩
  ·have e1:=HI.out
   rw [if_neg h0] at e1
   have e1:=e1.symm
   subst e1
   have d0:decide ((0:Int)<(L:Int))=false:=decide_eq_false (by omega)
   clear HPN
   go_wp2_with fail
   go_meet
   exact ⟨rfl,HBM.out⟩
 case rest=>
  obtain ⟨rfl,hbc⟩:=hcut
  have HAC:=hidp (show Below wa.heap.size wa wc from hbc)
  have HBC:=hidp (HB1.out.trans (hbc.mono HB1.out.size))
  clear hbc HPN
  go_wp2_with fail
  go_at_call 54
  refine (HCL.out _ HBC.out).mono ?_
  rintro e wd ⟨rfl,hbd⟩
  have HBD:=hidp (HBC.out.trans (hbd.mono HBC.out.size))
  have HAD:=hidp (HAC.out.trans (hbd.mono HAC.out.size))
  obtain ⟨O2,m1,m2,m3,m4⟩:=(HM.out.below HBD.out).new2 (.cells #[.int .i64 d.q0,.int .i64 d.q1,.int .i64 d.q2,.int .i64 d.q3] 32) (.cells #[.int .i64 d.n0,.int .i64 d.n1,.int .i64 d.n2,.int .i64 d.n3] 32)
  have HM2:=hidp m1
  have HT2:=hidp (HT.out.keep (O':=O2) (fun j hj=>m2 (p+j) (by omega)))
  have HO2:=hidp (show ∀ i,i<n→(i<p∨p+25≤i)→O2 i=O i from fun i hi _=>m2 i hi)
  have HQ2:=hidp m3
  have HBX:=hidp (HBD.out.trans (Below.mono (show Below wd.heap.size wd ((wd.alloc (.cells #[.int .i64 d.q0,.int .i64 d.q1,.int .i64 d.q2,.int .i64 d.q3] 32)).alloc (.cells #[.int .i64 d.n0,.int .i64 d.n1,.int .i64 d.n2,.int .i64 d.n3] 32)) from zB) HBD.out.size))
  have HAX:=hidp (HAD.out.trans (Below.mono (show Below wd.heap.size wd ((wd.alloc (.cells #[.int .i64 d.q0,.int .i64 d.q1,.int .i64 d.q2,.int .i64 d.q3] 32)).alloc (.cells #[.int .i64 d.n0,.int .i64 d.n1,.int .i64 d.n2,.int .i64 d.n3] 32)) from zB) HAD.out.size))
  obtain ⟨bq,hbq⟩:∃ bq,wd.heap.size=bq:=⟨_,rfl⟩
  have HBQ:=hidp hbq
  clear hbd m1 m2 m3 m4 hbq HBD HAD HCL
  go_upto_region 9 with fail
  rw [HBQ.out] at HQ2
  generalize ((wd.alloc (.cells #[.int .i64 d.q0,.int .i64 d.q1,.int .i64 d.q2,.int .i64 d.q3] 32)).alloc (.cells #[.int .i64 d.n0,.int .i64 d.n1,.int .i64 d.n2,.int .i64 d.n3] 32))=wx at *
  rw [HBQ.out]
  have hax:=(HAX.out.block _ (lt_blk HA1.out)).trans HA1.out
  have a0:=cell_blk hax 0;have a1:=cell_blk hax 1;have a2:=cell_blk hax 2;have a3:=cell_blk hax 3;have a4:=cell_blk hax 4
  simp only [zC,zD,zE] at a0 a1 a2 a3 a4
  have hbx:=(HBX.out.block _ (lt_blk HBK.out)).trans HBK.out
  have c0:=cell_blk hbx 0;have c1:=cell_blk hbx 1;have c2:=cell_blk hbx 2
  simp only [zC,zD,zE] at c0 c1 c2
  haveI:SzGe (w.heap.size+1) wx:=⟨lt_blk hax⟩
  haveI:SzGe (tb+1) wx:=⟨lt_blk hbx⟩
  have hkC:k<s.A.C:=by rw [HCC.out];exact hk
  clear hax hbx
  obtain ⟨E,hE⟩:∃ E,awBeginE s.A k=E:=⟨_,rfl⟩
  have HE:=hidp hE
  have HOP:Hid (Calls Tryz.prog 100 #[.pointer (some ⟨g,0,none⟩),.int .i64 (k:Nat)] wx fun e w'=>e=.returned (errV E)∧TUpd w0 w' (n+2) O2 p tb g (tlTo s (awBegin s.A k))):=hidp (by
   rw [←HGG.out,←hE]
   exact (wBegin_ok HT2.out.w HM2.out (by omega) hkC).mono fun e w' ⟨h1,h2⟩=>⟨h1,HT2.out.world (by omega) rfl rfl h2⟩)
  clear hE
  by_cases hE:E=0
  ·subst hE
   rw [show errV 0=.nilIface from rfl] at HOP
   have HX:Hid (∀ (W:World) (O5:Nat→Ob),(∀ i,i<n+2→(i<p∨p+25≤i)→O5 i=O2 i)→TUpd w0 W (n+2) O5 p tb g ⟨awBegin s.A k,s.T,fset s.F k (fun _=>none),fset s.z k 0⟩→TUpd w0 W (n+2) O2 p tb g s'):=hidp (fun W O5 ho hW=>by
    have e:tlBegin s k=⟨awBegin s.A k,s.T,fset s.F k (fun _=>none),fset s.z k 0⟩:=by
     unfold tlBegin;rw [if_pos HE.out]
    rw [←HS'.out,e]
    exact hW.less (by omega) ho)
   have HSEE:=hidp (show ∀ W,Calls Tryz.prog 55 #[.agg #[.int .i64 d'.n0,.int .i64 d'.n1,.int .i64 d'.n2,.int .i64 d'.n3],.agg #[.int .i64 d.q0,.int .i64 d.q1,.int .i64 d.q2,.int .i64 d.q3]] W fun e w'=>e=.returned (.bool true)∧Below W.heap.size W w' from fun W=>by
    have e:s'.A.cl k=dBegin d (awSe s.A k).p0 (awSe s.A k).p1 (awSe s.A k).p2 (awSe s.A k).p3:=by
     rw [←HS'.out,←HDD.out]
     unfold tlBegin
     rw [if_pos HE.out]
     show fset s.A.cl k (dBegin _ _ _ _ _) k=_
     rw [fset_same]
    have hs:=begin_sees (d:=d) (p0:=(awSe s.A k).p0) (p1:=(awSe s.A k).p1) (p2:=(awSe s.A k).p2) (p3:=(awSe s.A k).p3) (by have:=HE.out;unfold awBeginE at this;rw [HDD.out] at this;exact this)
    have hc:=covers_any d'.n0 d'.n1 d'.n2 d'.n3 d.q0 d.q1 d.q2 d.q3 W
    rw [←HD2.out,e,hs] at hc
    rw [←HD2.out,e]
    exact hc)
   go_wp2_with fail
   go_at_call 100
   refine HOP.out.mono ?_
   rintro e w5 ⟨rfl,O5,t5,q1,⟨q2,q3⟩,q4⟩
   have hb5:=q2.blk q1 (by omega)
   have c4:=cell_blk hb5 4
   simp only [zC,zD,zE] at c4
   haveI:SzGe (tb+1) w5:=⟨lt_blk hb5⟩
   obtain ⟨bo,co,mb,eO,hlo,_,hfr,_,_,_,_⟩:=q2.map q1 (by omega) (k:=k) hkC
   rw [eO] at c4
   haveI:SzGe (bo+1) w5:=⟨hlo⟩
   have hU6:=q2.newMap q1 (by omega) (k:=k) hkC eO
   rw [q3,show (w5.alloc (.map #[] 0)).setCell ⟨bo,k,none⟩ (.map (some w5.heap.size))=(w5.setCell ⟨bo,k,none⟩ (.map (some w5.heap.size))).alloc (.map #[] 0) from (by simp [go_sem])] at hU6
   have HU6:=hidp (HX.out _ _ q4 hU6)
   have hk0:(0:Int)≤(k:Int):=by omega
   have hk6:(k:Int)<6:=by omega
   have hCk:(tlTo s (awBegin s.A k)).A.C=C:=HCC.out
   rw [hCk] at c4
   have hkc:(k:Int)<(C:Int):=by omega
   have hmk:=mkMap169 w5
   clear q1 q2 q3 q4 hb5 eO hCk hlo HOP hU6 HX
   go_wp2_with fail
   generalize ((w5.setCell ⟨bo,k,none⟩ (.map (some w5.heap.size))).alloc (.map #[] 0))=w6 at *
   have HTC:=hidp (TUpd.client HU6.out (by omega) (k:=k) (by rw [HC2.out];first | exact hk | exact hkC))
   rw [HD2.out] at HTC
   go_at_call 54
   refine HTC.out.mono ?_
   rintro e w7 ⟨rfl,hb7⟩
   have HU7:=hidp (HU6.out.then hb7)
   have hq7:=HU7.out.box (i:=n) (by omega) (by omega) HQ2.out
   have v0:=cell_blk hq7 0;have v1:=cell_blk hq7 1;have v2:=cell_blk hq7 2;have v3:=cell_blk hq7 3
   simp only [zC,zD,zE] at v0 v1 v2 v3
   haveI:SzGe (bq+1) w7:=⟨lt_blk hq7⟩
   clear hb7 hq7 HTC c4 hfr hmk HU6
   go_wp2_with fail
   go_at_call 55
   refine (HSEE.out _).mono ?_
   rintro e w8 ⟨rfl,hb8⟩
   have HU:=hidp (HU7.out.then (Below.trans (show Below w7.heap.size w7 ((w7.alloc (.cells #[.int .i64 d'.q0,.int .i64 d'.q1,.int .i64 d'.q2,.int .i64 d'.q3] 32)).alloc (.cells #[.int .i64 d'.n0,.int .i64 d'.n1,.int .i64 d'.n2,.int .i64 d'.n3] 32)) from zB) (hb8.mono (Below.size (show Below w7.heap.size w7 ((w7.alloc (.cells #[.int .i64 d'.q0,.int .i64 d'.q1,.int .i64 d'.q2,.int .i64 d'.q3] 32)).alloc (.cells #[.int .i64 d'.n0,.int .i64 d'.n1,.int .i64 d'.n2,.int .i64 d'.n3] 32)) from zB)))))
   clear hb8 HU7 v0 v1 v2 v3 HSEE
   have HTC:=hidp (TUpd.client HU.out (by omega) (k:=k) (by rw [HC2.out];first | exact hk | exact hkC))
   rw [HD2.out] at HTC
   go_wp2_with fail
   go_at_call 54
   refine HTC.out.mono ?_
   rintro e w6 ⟨rfl,hb6⟩
   have HU6:=hidp (HU.out.then hb6)
   have hq6:=HU6.out.box (i:=n) (by omega) (by omega) HQ2.out
   have v0:=cell_blk hq6 0;have v1:=cell_blk hq6 1;have v2:=cell_blk hq6 2;have v3:=cell_blk hq6 3
   simp only [zC,zD,zE] at v0 v1 v2 v3
   haveI:SzGe (bq+1) w6:=⟨lt_blk hq6⟩
   clear hb6 hq6 HU
   go_wp2_with fail
   go_at_call 55
   refine (HCO.out _).mono ?_
   rintro e w7 ⟨rfl,hb7⟩
   have HU7:=hidp (HU6.out.then (Below.trans (show Below w6.heap.size w6 ((w6.alloc (.cells #[.int .i64 d'.q0,.int .i64 d'.q1,.int .i64 d'.q2,.int .i64 d'.q3] 32)).alloc (.cells #[.int .i64 d'.n0,.int .i64 d'.n1,.int .i64 d'.n2,.int .i64 d'.n3] 32)) from zB) (hb7.mono (Below.size (show Below w6.heap.size w6 ((w6.alloc (.cells #[.int .i64 d'.q0,.int .i64 d'.q1,.int .i64 d'.q2,.int .i64 d'.q3] 32)).alloc (.cells #[.int .i64 d'.n0,.int .i64 d'.n1,.int .i64 d'.n2,.int .i64 d'.n3] 32)) from zB)))))
   clear hb7
   go_wp2_with fail
   go_ret
   exact ⟨rfl,HEND.out _ (HU7.out.less (by omega) HO2.out)⟩
  ·have hev:errV E=.iface 29 (.int .i64 E):=if_neg hE
   rw [hev] at HOP
   have HX:Hid (∀ W,TUpd w0 W (n+2) O2 p tb g (tlTo s (awBegin s.A k))→TUpd w0 W (n+2) O2 p tb g s'):=hidp (fun W hW=>by
    have e:tlBegin s k=tlTo s (awBegin s.A k):=by
     unfold tlBegin;rw [if_neg (by rw [HE.out];exact hE)];rfl
    rw [←HS'.out,e]
    exact hW)
   clear hE hev
   go_wp2_with fail
   go_at_call 100
   refine HOP.out.mono ?_
   rintro e w5 ⟨rfl,hU⟩
   have HU:=hidp (HX.out _ hU)
   clear hU HOP HX
   have HTC:=hidp (TUpd.client HU.out (by omega) (k:=k) (by rw [HC2.out];first | exact hk | exact hkC))
   rw [HD2.out] at HTC
   go_wp2_with fail
   go_at_call 54
   refine HTC.out.mono ?_
   rintro e w6 ⟨rfl,hb6⟩
   have HU6:=hidp (HU.out.then hb6)
   have hq6:=HU6.out.box (i:=n) (by omega) (by omega) HQ2.out
   have v0:=cell_blk hq6 0;have v1:=cell_blk hq6 1;have v2:=cell_blk hq6 2;have v3:=cell_blk hq6 3
   simp only [zC,zD,zE] at v0 v1 v2 v3
   haveI:SzGe (bq+1) w6:=⟨lt_blk hq6⟩
   clear hb6 hq6 HU
   go_wp2_with fail
   go_at_call 55
   refine (HCO.out _).mono ?_
   rintro e w7 ⟨rfl,hb7⟩
   have HU7:=hidp (HU6.out.then (Below.trans (show Below w6.heap.size w6 ((w6.alloc (.cells #[.int .i64 d'.q0,.int .i64 d'.q1,.int .i64 d'.q2,.int .i64 d'.q3] 32)).alloc (.cells #[.int .i64 d'.n0,.int .i64 d'.n1,.int .i64 d'.n2,.int .i64 d'.n3] 32)) from zB) (hb7.mono (Below.size (show Below w6.heap.size w6 ((w6.alloc (.cells #[.int .i64 d'.q0,.int .i64 d'.q1,.int .i64 d'.q2,.int .i64 d'.q3] 32)).alloc (.cells #[.int .i64 d'.n0,.int .i64 d'.n1,.int .i64 d'.n2,.int .i64 d'.n3] 32)) from zB)))))
   clear hb7
   go_wp2_with fail
   go_ret
   exact ⟨rfl,HEND.out _ (HU7.out.less (by omega) HO2.out)⟩
end
section
variable {w0 w w' w1:World} {n:Nat} {O:Nat→Ob} {p tb:Nat} {s:TlP} {t:TV}
theorem Mem.stepD (h:Mem w0 w n O) {i:Nat} (hi:i<n) {o:Ob} (ho:o.Ok w0.heap.size) (hat:o.at_ w') (fr:SiFr w w' (O i).own o.own) (hd:∀ b,o.dat b→(O i).dat b∨w.heap.size≤b∨∀ k,k<n→¬(O k).own b):
  ∃ O',Mem w0 w' n O'∧O' i=o∧∀ k,k≠i→O' k=O k:=by
 have hlt:∀ b,(O i).own b→w0.heap.size≤b:=fun b e=>((h.ok i hi).lt w b (h.at_ i hi) e).1
 have hkeep:∀ k,k<n→k≠i→(O k).at_ w':=fun k hk hne=>(h.ok k hk).same w w' (h.at_ k hk) fr.size fun b hb=>fr.block b (hb.elim (fun e=>((h.ok k hk).lt w b (h.at_ k hk) e).2) ((h.ok k hk).dlt w b (h.at_ k hk))) fun e=>by
  obtain ⟨h1,h2⟩:=h.dis i k hi hk (Ne.symm hne) b e
  exact hb.elim h1 h2
 refine ⟨oset O i o,⟨h.low.trans ⟨fr.os,fr.tape,fr.output,fr.size,fun k hk=>fr.block k (Nat.lt_of_lt_of_le hk h.low.size) fun e=>by have:=hlt k e;omega⟩,fun k hk=>?_,fun k hk=>?_,fun j k hj hk hne b hb=>?_⟩,oset_same ..,fun k hk=>oset_other _ hk⟩
 ·by_cases e:k=i
  ·subst e;rw [oset_same];exact ho
  ·rw [oset_other _ e];exact h.ok k hk
 ·by_cases e:k=i
  ·subst e;rw [oset_same];exact hat
  ·rw [oset_other _ e];exact hkeep k hk e
 ·by_cases e:j=i
  ·subst e
   rw [oset_same] at hb
   have hk2:k≠j:=Ne.symm hne
   rw [oset_other _ hk2]
   rcases fr.own b hb with h1 | h1
   ·exact h.dis j k hj hk hne b h1
   ·exact ⟨fun e=>by have:=((h.ok k hk).lt w b (h.at_ k hk) e).2;omega,fun e=>by have:=(h.ok k hk).dlt w b (h.at_ k hk) e;omega⟩
  ·rw [oset_other _ e] at hb
   have hbl:=((h.ok j hj).lt w b (h.at_ j hj) hb).2
   by_cases e2:k=i
   ·subst e2
    rw [oset_same]
    obtain ⟨h1,h2⟩:=h.dis j k hj hk hne b hb
    refine ⟨fun e3=>?_,fun e3=>?_⟩
    ·rcases fr.own b e3 with h3 | h3
     ·exact h1 h3
     ·omega
    ·rcases hd b e3 with h3 | h3 | h3
     ·exact h2 h3
     ·omega
     ·exact h3 j hj hb
   ·rw [oset_other _ e2]
    exact h.dis j k hj hk hne b hb
theorem TAx.push (h:TAx w0.heap.size O p tb s t) (hm:Mem w0 w n O) (hn:p+25≤n) {m:MTx} {v':Value} (hws:WsAt w m.A m.t.ws) (hwd:∀ b o,m.A=some ⟨b,o,none⟩→b<w.heap.size∧∀ k,k<n→¬(O k).own b)
  (hg:w.grownBy w1 t.vT.ownBlock) (hown:w1.ownsRow w0.heap.size 44 9 v' (t.ts++[m]).length ((t.ts++[m]).flatMap MTx.cells)) (hv:v'.ownBlock=t.vT.ownBlock∨∀ b,v'.ownBlock=some b→w.heap.size≤b):
  TUpd w0 (w1.setCell ⟨tb,3,none⟩ v') n O p tb t.g ⟨s.A,s.T++[m.t],s.F,s.z⟩:=by
 have hat:=hm.at_ (p+17) (by omega)
 rw [h.T] at hat
 have hnw:∀ b,b<w.heap.size→t.vT.ownBlock≠some b→v'.ownBlock≠some b:=fun b hb hne e=>by
  rcases hv with hv | hv
  ·exact hne (by rw [←hv];exact e)
  ·have:=hv b e;omega
 have hmT:∀ b o,m.A=some ⟨b,o,none⟩→t.vT.ownBlock≠some b:=fun b o e e2=>(hwd b o e).2 (p+17) (by omega) (by rw [h.T];exact e2)
 have hkp:∀ (A:Option Addr) (ws:List WrP),WsAt w A ws→(∀ b o,A=some ⟨b,o,none⟩→b<w.heap.size∧t.vT.ownBlock≠some b)→WsAt w1 A ws:=fun A ws h1 h2=>
  h1.keep fun b o e=>hg.block b (h2 b o e).1 (fun e2=>(h2 b o e).2 e2.symm)
 obtain ⟨O1,m1,m2,m3⟩:=hm.stepD (w':=w1) (i:=p+17) (by omega) (o:=obTxs w0.heap.size v' (t.ts++[m])) (obTxs_ok ..)
  ⟨hown,fun x hx=>by
    rcases List.mem_append.1 hx with hx | hx
    ·obtain ⟨a1,a2⟩:=hat.2 x hx
     exact ⟨hkp _ _ a1 a2,fun b o e=>⟨Nat.lt_of_lt_of_le (a2 b o e).1 hg.size,hnw b (a2 b o e).1 (a2 b o e).2⟩⟩
    ·obtain rfl:=List.mem_singleton.1 hx
     exact ⟨hkp _ _ hws (fun b o e=>⟨(hwd b o e).1,hmT b o e⟩),fun b o e=>⟨Nat.lt_of_lt_of_le (hwd b o e).1 hg.size,hnw b (hwd b o e).1 (hmT b o e)⟩⟩⟩
  ⟨hg.os,hg.tape,hg.output,hg.size,fun b hb hne=>hg.block b hb (fun e=>hne (by rw [h.T];exact e.symm)),fun b e=>by
    rcases hv with hv | hv
    ·exact .inl (by rw [h.T];show t.vT.ownBlock=some b;rw [←hv];exact e)
    ·exact .inr (hv b e)⟩
  (fun b e=>by
    obtain ⟨x,hx,o,e⟩:=e
    rcases List.mem_append.1 hx with hx | hx
    ·exact .inl (by rw [h.T];exact ⟨x,hx,o,e⟩)
    ·obtain rfl:=List.mem_singleton.1 hx
     exact .inr (.inr (hwd b o e).2))
 have hb1:O1 (p+16)=obB tb (.cells #[.pointer (some ⟨t.g,0,none⟩),.int .i64 (s.A.S:Int),.int .i64 (s.A.C:Int),t.vT,t.vO] 110) w0.heap.size:=(m3 _ (by omega)).trans h.b
 have m4:=m1.set (i:=p+16) (by omega) hb1 3 v'
 have hO:∀ j,j≠p+16→j≠p+17→oset O1 (p+16) (obB tb (.cells ((#[.pointer (some ⟨t.g,0,none⟩),.int .i64 (s.A.S:Int),.int .i64 (s.A.C:Int),t.vT,t.vO]:Array Value).setIfInBounds 3 v') 110) w0.heap.size) j=O j:=fun j e1 e2=>(oset_other _ e1).trans (m3 j e2)
 have h1c:=h.w.ok.C
 have h1l:=h.ml
 refine ⟨_,⟨t.g,t.v,v',t.vO,t.ts++[m],t.ms⟩,m4,⟨⟨h.w.keep (fun j hj=>hO _ (by omega) (by omega)),?_,?_,?_,(hO _ (by omega) (by omega)).trans h.o,h.ml,fun j mb hj=>?_⟩,rfl⟩,fun i hi hne=>hO i (by omega) (by omega)⟩
 ·rw [oset_same];rfl
 ·rw [oset_other _ (by omega)];exact m2
 ·show (t.ts++[m]).map (·.t)=s.T++[m.t]
  rw [List.map_append,h.eT];rfl
 ·have:j<t.ms.length:=lt_get hj
  rw [hO _ (by omega) (by omega)];exact h.m j mb hj
end
end Go.Proofs.YtbopfhbeegkkaabGreatDoor
