/- Part 44 of a proof: lemmas and contracts that other parts use. -/
import Derived.Test.YtbopfhbeegkkaabGreatDoorCa43
set_option linter.unusedVariables false
set_option linter.unusedSimpArgs false
set_option linter.constructorNameAsVariable false
namespace Go.Proofs.YtbopfhbeegkkaabGreatDoor
open Go.RowKit
section
variable {w0 w w':World} {n:Nat} {O:Nat→Ob} {p tb:Nat} {s:TlP} {t:TV} {b:Nat→Int→Int}
theorem TAx.worldC (h:TAx w0.heap.size O p tb s t) (hn:p+25≤n) {A:AWd} (hS:A.S=s.A.S) (hC:A.C=s.A.C) {A1:Option Addr} {T:TxP} (hU:CmP w0 w' n O p t.g A t.v A1 T):
  ∃ O' t',Mem w0 w' (n+1) O'∧(TAx w0.heap.size O' p tb (tlTo s A) t'∧t'.g=t.g)∧O' n=obWs A1 T.ws∧∀ i,i<n→(i<p∨p+25≤i)→O' i=O i:=by
 obtain ⟨O',h1,h0,⟨v',h2,hx,hu⟩,h3⟩:=hU
 have hc6:=h.w.ok.C
 refine ⟨O',⟨t.g,v',t.vT,t.vO,t.ts,t.ms⟩,h1,⟨⟨h2,?_,?_,h.eT,?_,h.ml.trans hC.symm,fun k m hm=>?_⟩,rfl⟩,h0,fun k hk hne=>h3 k hk (by omega)⟩
 ·rw [h3 _ (by omega) (by omega),h.b]
  show _=obB tb (.cells #[_,.int .i64 (A.S:Int),.int .i64 (A.C:Int),_,_] 110) _
  rw [hS,hC]
 ·rw [h3 _ (by omega) (by omega)];exact h.T
 ·rw [h3 _ (by omega) (by omega)]
  show _=obRow _ 169 1 _ A.C _
  rw [hC];exact h.o
 ·have:k<t.ms.length:=lt_get hm
  have:=h.ml
  rw [h3 _ (by omega) (by omega)];exact h.m k m hm
set_option maxRecDepth 200000 in
set_option maxHeartbeats 16000000 in
theorem does_3 (hg:EType w) (ht:TAx w0.heap.size O p tb s t) (hm:Mem w0 w n O) (hn:p+25≤n) (hok:TlOk s b) (hT:s.T.length<200) (ak an:Int) (ad:ByteArray) (ag sw:Bool):
  Calls Tryz.prog 53 #[.pointer (some ⟨tb,0,none⟩),.agg #[.int .i64 3,.int .i64 ak,.int .i64 an,.string ad,.bool ag],.bool sw] w fun e w'=>e=.returned (.bool true)∧TUpd w0 w' n O p tb t.g (tlDo s ⟨3,ak,an,ad,ag⟩ sw):=by
 have hC1:1≤s.A.C:=hok.C
 have hC6:s.A.C≤6:=ht.w.ok.C
 obtain ⟨hS1,hS4⟩:=hok.inv.S
 have hL3:s.A.way.length≤300:=hok.inv.wl
 obtain ⟨k,hkk⟩:∃ k,pickN ak s.A.C=k:=⟨_,rfl⟩
 have hk:k<s.A.C:=by rw [←hkk];exact pickN_lt _ hC1
 obtain ⟨iI,hI⟩:∃ i,(if 0<s.A.way.length then pickN an s.A.way.length else 0)=i:=⟨_,rfl⟩
 obtain ⟨d,hd⟩:∃ d,s.A.cl k=d:=⟨_,rfl⟩
 have HPK:=hidp (fun W=>pick_is ak s.A.C W hC1 (by omega))
 have HPN:=hidp (fun W (h0:0<s.A.way.length)=>pick_is an s.A.way.length W h0 (by omega))
 obtain ⟨kS,hkS⟩:∃ x,pickN ak s.A.S=x:=⟨_,rfl⟩
 obtain ⟨nS,hnS⟩:∃ x,pickN an s.A.S=x:=⟨_,rfl⟩
 obtain ⟨n5,hn5⟩:∃ x,pickN an 50=x:=⟨_,rfl⟩
 obtain ⟨n8,hn8⟩:∃ x,pickN an 8=x:=⟨_,rfl⟩
 have hkSl:kS<s.A.S:=by rw [←hkS];exact pickN_lt _ (by omega)
 have hnSl:nS<s.A.S:=by rw [←hnS];exact pickN_lt _ (by omega)
 have hn5l:n5<50:=by rw [←hn5];exact pickN_lt _ (by omega)
 have hn8l:n8<8:=by rw [←hn8];exact pickN_lt _ (by omega)
 have HP1:=hidp (fun W=>pick_is ak s.A.S W (by omega) (by omega))
 have HP2:=hidp (fun W=>pick_is an s.A.S W (by omega) (by omega))
 have HP5:=hidp (fun W=>(show Calls Tryz.prog 105 #[.int .i64 an,.int .i64 50] W (fun e w'=>e=.returned (.int .i64 (pickN an 50:Nat))∧W=w') from pick_is an 50 W (by omega) (by omega)))
 have HP8:=hidp (fun W=>(show Calls Tryz.prog 105 #[.int .i64 an,.int .i64 8] W (fun e w'=>e=.returned (.int .i64 (pickN an 8:Nat))∧W=w') from pick_is an 8 W (by omega) (by omega)))
 rw [hkS] at HP1;rw [hnS] at HP2;rw [hn5] at HP5;rw [hn8] at HP8
 rw [hkk] at HPK
 have HI:=hidp hI
 have HMA:=hidp (fun W (hW:Below w.heap.size w W)=>wMany_any ht.w (hm.below hW) (by omega))
 have HCL:=hidp (fun W (hW:Below w.heap.size w W)=>wClient_ok ht.w (hm.below hW) (by omega) hk)
 rw [hd] at HCL
 have HM:=hidp hm
 have HT:=hidp ht
 have HOK:=hidp hok
 have HKK:=hidp hkk
 have HDD:=hidp hd
 have HGE:=hidp hg
 have hbk:=ht.blk hm hn
 have c0:=cell_blk hbk 0;have c1:=cell_blk hbk 1;have c2:=cell_blk hbk 2
 simp only [zC,zD,zE] at c0 c1 c2
 have HBK:=hidp hbk
 haveI:SzGe (tb+1) w:=⟨lt_blk hbk⟩
 obtain ⟨g,hgg⟩:∃ g,t.g=g:=⟨_,rfl⟩
 rw [hgg] at c0 HMA HCL HBK
 have HGG:=hidp hgg
 obtain ⟨s',hs'⟩:∃ s',tlCommit s k=s':=⟨_,rfl⟩
 have HS':=hidp hs'
 have HC2:Hid (s'.A.C=s.A.C):=hidp (by rw [←hs'];exact (awCommit_C _ _).1)
 obtain ⟨d',hd'⟩:∃ d',s'.A.cl k=d':=⟨_,rfl⟩
 have HD2:=hidp hd'
 have HCO:=hidp (covers_of (show clCov d' d from by rw [←hd',←hs',←hd];show clCov ((awCommit s.A k).cl k) (s.A.cl k);exact cov_commitA _ _ _))
 have HEND:Hid (∀ W,TUpd w0 W n O p tb g s'→TUpd w0 W n O p tb t.g (tlDo s (⟨3,ak,an,ad,ag⟩:TaP) sw)):=hidp (fun W hW=>by rw [(show tlDo s (⟨3,ak,an,ad,ag⟩:TaP) sw=s' from (by rw [tlDo_3 _ _ _ rfl];show tlCommit s (pickN ak s.A.C)=_;rw [hkk];exact hs')),hgg];exact hW)
 clear hs' hd'
 clear hm ht hok hkk hd hg hbk hI hgg hkS hnS hn5 hn8
 generalize hLL:s.A.way.length=L at *
 generalize hCC:s.A.C=C at *
 generalize hSS:s.A.S=S at *
 have HLL:=hidp hLL
 have HCC:=hidp hCC
 have HSS:=hidp hSS
 clear hLL hCC hSS
 go_enter Tryz.func53,Tryz.ntmps53
 go_wp2_with fail
 have HBA:=hidp (show (w.alloc (.cells #[.int .i64 3,.int .i64 ak,.int .i64 an,.string ad,.bool ag] 105)).heap[w.heap.size]?=some (.cells #[.int .i64 3,.int .i64 ak,.int .i64 an,.string ad,.bool ag] 105) from blk_new rfl _)
 have HB0:=hidp (show Below w.heap.size w (w.alloc (.cells #[.int .i64 3,.int .i64 ak,.int .i64 an,.string ad,.bool ag] 105)) from zB)
 refine wp_region_plus (by kernel_rfl) (by kernel_rfl) ?_
 repeat (first | go_big_quiet_skip | (go_big_quiet_want;go_big_quiet_op;first | go_big_quiet_on | (apply Exists.intro;refine ⟨fun _=>?_,?_⟩;(go_at_call 105;exact Calls.plus_same (HPK.out _));go_big_quiet_on)))
 refine wpQuiet_nil ?_
 rintro _ ⟨x1,rfl⟩
 have HA1:=hidp (show (wplus (w.alloc (.cells #[.int .i64 3,.int .i64 ak,.int .i64 an,.string ad,.bool ag] 105)) x1).heap[w.heap.size]?=some (.cells #[.int .i64 3,.int .i64 ak,.int .i64 an,.string ad,.bool ag] 105) from ((below_wplus _ x1).block _ (lt_blk HBA.out)).trans HBA.out)
 have HB1:=hidp (show Below w.heap.size w (wplus (w.alloc (.cells #[.int .i64 3,.int .i64 ak,.int .i64 an,.string ad,.bool ag] 105)) x1) from zB)
 clear HBA HB0
 generalize (wplus (w.alloc (.cells #[.int .i64 3,.int .i64 ak,.int .i64 an,.string ad,.bool ag] 105)) x1)=wa at *
 haveI:SzGe (w.heap.size+1) wa:=⟨lt_blk HA1.out⟩
 go_wp2_with fail
 go_at_call 66
 refine (HMA.out _ HB1.out).mono ?_
 rintro e wm ⟨rfl,hbm⟩
 have HBM:=hidp (show Below wa.heap.size wa wm from hbm)
 clear hbm HMA
 go_upto_if 47 with fail
 go_cut [9] (fun i W=>i=.int .i64 (iI:Int)∧Below wa.heap.size wa W)
 case first=>
  by_cases h0:0<L
  ·have e1:=HI.out
   rw [if_pos h0] at e1
   have d0:decide ((0:Int)<(L:Int))=true:=decide_eq_true (by omega)
   have ha:=(HBM.out.block _ (lt_blk HA1.out)).trans HA1.out
   have a2:=cell_blk ha 2
   simp only [zC,zD,zE] at a2
   haveI:SzGe (w.heap.size+1) wm:=⟨lt_blk ha⟩
   have HPN2:=hidp (fun W=>HPN.out W h0)
   rw [e1] at HPN2
   clear e1 ha HPN
   go_wp2_with fail
   go_at_call 105
   refine (HPN2.out _).mono ?_
   rintro e wn ⟨rfl,rfl⟩
   go_wp2_with fail
   go_meet
   exact ⟨rfl,HBM.out⟩
  ·have e1:=HI.out
   rw [if_neg h0] at e1
   have e1:=e1.symm
   subst e1
   have d0:decide ((0:Int)<(L:Int))=false:=decide_eq_false (by omega)
   clear HPN
   go_wp2_with fail
   go_meet
   exact ⟨rfl,HBM.out⟩
 case rest=>
  obtain ⟨rfl,hbc⟩:=hcut
  have HAC:=hidp (show Below wa.heap.size wa wc from hbc)
  have HBC:=hidp (HB1.out.trans (hbc.mono HB1.out.size))
  clear hbc HPN
  go_wp2_with fail
  go_at_call 54
  refine (HCL.out _ HBC.out).mono ?_
  rintro e wd ⟨rfl,hbd⟩
  have HBD:=hidp (HBC.out.trans (hbd.mono HBC.out.size))
  have HAD:=hidp (HAC.out.trans (hbd.mono HAC.out.size))
  obtain ⟨O2,m1,m2,m3,m4⟩:=(HM.out.below HBD.out).new2 (.cells #[.int .i64 d.q0,.int .i64 d.q1,.int .i64 d.q2,.int .i64 d.q3] 32) (.cells #[.int .i64 d.n0,.int .i64 d.n1,.int .i64 d.n2,.int .i64 d.n3] 32)
  have HM2:=hidp m1
  have HT2:=hidp (HT.out.keep (O':=O2) (fun j hj=>m2 (p+j) (by omega)))
  have HO2:=hidp (show ∀ i,i<n→(i<p∨p+25≤i)→O2 i=O i from fun i hi _=>m2 i hi)
  have HQ2:=hidp m3
  have HBX:=hidp (HBD.out.trans (Below.mono (show Below wd.heap.size wd ((wd.alloc (.cells #[.int .i64 d.q0,.int .i64 d.q1,.int .i64 d.q2,.int .i64 d.q3] 32)).alloc (.cells #[.int .i64 d.n0,.int .i64 d.n1,.int .i64 d.n2,.int .i64 d.n3] 32)) from zB) HBD.out.size))
  have HAX:=hidp (HAD.out.trans (Below.mono (show Below wd.heap.size wd ((wd.alloc (.cells #[.int .i64 d.q0,.int .i64 d.q1,.int .i64 d.q2,.int .i64 d.q3] 32)).alloc (.cells #[.int .i64 d.n0,.int .i64 d.n1,.int .i64 d.n2,.int .i64 d.n3] 32)) from zB) HAD.out.size))
  obtain ⟨bq,hbq⟩:∃ bq,wd.heap.size=bq:=⟨_,rfl⟩
  have HBQ:=hidp hbq
  clear hbd m1 m2 m3 m4 hbq HBD HAD HCL
  go_upto_region 9 with fail
  rw [HBQ.out] at HQ2
  generalize ((wd.alloc (.cells #[.int .i64 d.q0,.int .i64 d.q1,.int .i64 d.q2,.int .i64 d.q3] 32)).alloc (.cells #[.int .i64 d.n0,.int .i64 d.n1,.int .i64 d.n2,.int .i64 d.n3] 32))=wx at *
  rw [HBQ.out]
  have hax:=(HAX.out.block _ (lt_blk HA1.out)).trans HA1.out
  have a0:=cell_blk hax 0;have a1:=cell_blk hax 1;have a2:=cell_blk hax 2;have a3:=cell_blk hax 3;have a4:=cell_blk hax 4
  simp only [zC,zD,zE] at a0 a1 a2 a3 a4
  have hbx:=(HBX.out.block _ (lt_blk HBK.out)).trans HBK.out
  have c0:=cell_blk hbx 0;have c1:=cell_blk hbx 1;have c2:=cell_blk hbx 2
  simp only [zC,zD,zE] at c0 c1 c2
  haveI:SzGe (w.heap.size+1) wx:=⟨lt_blk hax⟩
  haveI:SzGe (tb+1) wx:=⟨lt_blk hbx⟩
  have hkC:k<s.A.C:=by rw [HCC.out];exact hk
  clear hax hbx
  obtain ⟨E,hE⟩:∃ E,awCommitE s.A k=E:=⟨_,rfl⟩
  obtain ⟨T,hT1⟩:∃ T,awCT s.A k=T:=⟨_,rfl⟩
  have HE:=hidp hE
  have HTT:=hidp hT1
  have HOP:Hid (Calls Tryz.prog 102 #[.pointer (some ⟨g,0,none⟩),.int .i64 (k:Nat)] wx fun e w'=>∃ A1 c1,e=.returned (.tuple #[MTx.val ⟨T,A1,c1⟩,errV E])∧∃ O' t',Mem w0 w' (n+3) O'∧(TAx w0.heap.size O' p tb (tlTo s (awCommit s.A k)) t'∧t'.g=g)∧O' (n+2)=obWs A1 T.ws∧∀ i,i<n+2→(i<p∨p+25≤i)→O' i=O2 i):=hidp (by
   rw [←HGG.out,←hE,←hT1]
   exact (wCommit_ok HT2.out.w HM2.out (by omega) hkC).mono fun e w' ⟨A1,c1,h1,h2⟩=>⟨A1,c1,h1,HT2.out.worldC (by omega) (awCommit_C _ _).2.1 (awCommit_C _ _).1 h2⟩)
  clear hE hT1
  obtain ⟨cs,cq,cw,cc,x0,x1,x2,x3,cws⟩:=T
  unfold MTx.val at HOP
  simp only at HOP
  have HXN:Hid (¬(E=0∧0<cq)→∀ (W:World) (O5:Nat→Ob) (t5:TV),Mem w0 W (n+3) O5→(TAx w0.heap.size O5 p tb (tlTo s (awCommit s.A k)) t5∧t5.g=g)→(∀ i,i<n+2→(i<p∨p+25≤i)→O5 i=O2 i)→TUpd w0 W (n+2) O2 p tb g s'):=hidp (fun hno W O5 t5 q1 q2 q5=>by
   have e:tlCommit s k=tlTo s (awCommit s.A k):=by
    unfold tlCommit
    rw [if_neg (fun h=>hno ⟨by rw [←HE.out];exact h.1,by
     have:=HTT.out
     unfold awCT at this
     rw [if_pos h.1] at this
     have h2:=h.2
     rw [this] at h2
     exact h2⟩)];rfl
   rw [←HS'.out,e]
   exact ⟨O5,t5,q1.less (by omega),q2,q5⟩)
  by_cases hE:E=0
  ·subst hE
   rw [show errV 0=.nilIface from rfl] at HOP
   by_cases hq:0<cq
   ·skip
    have HDD2:Hid (∃ i:Nat,i<4∧cs=(i:Int)∧cq≤d'.ps (i:Int)∧cws.length=s.z k):=hidp (by
     obtain ⟨i,j1,j2,j3,j4⟩:=HOK.out.did hkC HE.out (by
      have:=HTT.out
      unfold awCT at this
      rw [if_pos HE.out] at this
      rw [this];exact hq)
     have e:=HTT.out
     unfold awCT at e
     rw [if_pos HE.out] at e
     rw [e] at j2 j3 j4
     have e2:(awCommit s.A k).cl k=d':=by rw [←HD2.out,←HS'.out];rfl
     rw [e2] at j3
     exact ⟨i,j1,j2,j3,j4⟩)
    have HX:Hid (∀ (W:World) (O5:Nat→Ob),(∀ i,i<n+2→(i<p∨p+25≤i)→O5 i=O2 i)→TUpd w0 W (n+4) O5 p tb g ⟨awCommit s.A k,s.T++[(⟨cs,cq,cw,cc,x0,x1,x2,x3,cws⟩:TxP)],s.F,s.z⟩→TUpd w0 W (n+4) O5 p tb g s'):=hidp (fun W O5 ho hW=>by
     have e:=HTT.out
     unfold awCT at e
     rw [if_pos HE.out] at e
     have e2:tlCommit s k=⟨awCommit s.A k,s.T++[(⟨cs,cq,cw,cc,x0,x1,x2,x3,cws⟩:TxP)],s.F,s.z⟩:=by
      unfold tlCommit
      rw [if_pos ⟨HE.out,by rw [e];exact hq⟩,e]
     rw [←HS'.out,e2]
     exact hW)
    obtain ⟨ci,hc4,rfl,hcq,hcl⟩:=HDD2.out
    have HCQ:=hidp hcq
    have HCL2:=hidp hcl
    clear HDD2 HXN hcq hcl
    have HTN:=hidp hT
    have hd1:decide (0<cq)=true:=decide_eq_true hq
    obtain ⟨i0,hi0,hz0,hz1,hz2⟩:=info40
    go_wp2_with fail
    go_at_call 102
    refine HOP.out.mono ?_
    rintro e w5 ⟨A1,c1,rfl,O5,t5,q1,⟨q2,q3⟩,q4,q5⟩
    have hw5:=q1.at_ (n+2) (by omega)
    rw [q4] at hw5
    have hwd:∀ b o,A1=some ⟨b,o,none⟩→b<w5.heap.size∧∀ j,j<n+3→¬(O5 j).own b:=fun b o e=>⟨hw5.2 b o e,fun j hj hown=>by
     by_cases e2:j=n+2
     ·rw [e2,q4] at hown;exact hown
     ·exact (q1.dis j (n+2) hj (by omega) e2 b hown).2 (by rw [q4];exact ⟨o,e⟩)⟩
    obtain ⟨O6,r1,r2,r3⟩:=q1.new1 (.cells #[.int .i64 (ci:Int),.int .i64 cq,.int .i64 cw,.int .i64 cc,.int .i64 x0,.int .i64 x1,.int .i64 x2,.int .i64 x3,.slice A1 cws.length c1] 44)
    have hT6:=q2.keep (O':=O6) (fun j hj=>r2 (p+j) (by omega))
    obtain ⟨hrow,htb⟩:=hT6.rowT r1 (by omega)
    obtain ⟨Al,cl,eT⟩:=own_form hrow.1
    have hb6:=hT6.blk r1 (by omega)
    rw [eT] at hb6
    have HM6:=hidp r1
    have HT6:=hidp hT6
    have HG6:=hidp q3
    have HO6:=hidp (show ∀ i,i<n+2→(i<p∨p+25≤i)→O6 i=O2 i from fun i hi hne=>(r2 i (by omega)).trans (q5 i hi hne))
    have HX6:=hidp r3
    have HWS:=hidp (show WsAt (w5.alloc (.cells #[.int .i64 (ci:Int),.int .i64 cq,.int .i64 cw,.int .i64 cc,.int .i64 x0,.int .i64 x1,.int .i64 x2,.int .i64 x3,.slice A1 cws.length c1] 44)) A1 cws from hw5.1.keep (fun b o e=>Below.heap_alloc _ _ b (hw5.2 b o e)))
    have HWD:=hidp (show ∀ b o,A1=some ⟨b,o,none⟩→b<(w5.alloc (.cells #[.int .i64 (ci:Int),.int .i64 cq,.int .i64 cw,.int .i64 cc,.int .i64 x0,.int .i64 x1,.int .i64 x2,.int .i64 x3,.slice A1 cws.length c1] 44)).heap.size∧∀ j,j<n+4→¬(O6 j).own b from fun b o e=>⟨by have:=(hwd b o e).1;simp [go_sem];omega,fun j hj hown=>by
     by_cases e2:j=n+3
     ·rw [e2,r3] at hown
      have e3:b=w5.heap.size:=hown
      have:=(hwd b o e).1
      omega
     ·rw [r2 j (by omega)] at hown
      exact (hwd b o e).2 j (by omega) hown⟩)
    have HROW:=hidp hrow
    have HET:=hidp eT
    have hlT:t5.ts.length≤200:=by
     have:=congrArg List.length q2.eT
     rw [List.length_map] at this
     have h3:(tlTo s (awCommit s.A k)).T.length=s.T.length:=rfl
     rw [h3] at this
     omega
    clear q1 q2 q3 q4 q5 hw5 hwd r1 r2 hT6 hrow htb eT HOP
    go_upto_region 25 with fail
    generalize (w5.alloc (.cells #[.int .i64 (ci:Int),.int .i64 cq,.int .i64 cw,.int .i64 cc,.int .i64 x0,.int .i64 x1,.int .i64 x2,.int .i64 x3,.slice A1 cws.length c1] 44))=w6 at *
    have hx6:w6.heap[w5.heap.size]?=some (.cells #[.int .i64 (ci:Int),.int .i64 cq,.int .i64 cw,.int .i64 cc,.int .i64 x0,.int .i64 x1,.int .i64 x2,.int .i64 x3,.slice A1 cws.length c1] 44):=HM6.out.box (i:=n+3) (by omega) HX6.out
    have HX9:=hidp hx6
    obtain ⟨t0,t1,t2,t3,t4,t5',t6,t7,t8⟩:=cell9 hx6
    have c3:=cell_blk hb6 3
    simp only [zC,zD,zE] at c3
    have f3:w6.frozen? ⟨tb,3,none⟩=false:=frozen_blk hb6 3
    haveI:SzGe (tb+1) w6:=⟨lt_blk hb6⟩
    haveI:SzGe (w5.heap.size+1) w6:=⟨lt_blk hx6⟩
    clear hb6 hx6 r3
    go_cut [150] (fun z W=>TUpd w0 W (n+4) O6 p tb g s')
    case first=>
     have HN1:∀ u∈([.int .i64 (ci:Int),.int .i64 cq,.int .i64 cw,.int .i64 cc,.int .i64 x0,.int .i64 x1,.int .i64 x2,.int .i64 x3,.slice A1 cws.length c1]:List Value),u.oneCell'=true:=by
      intro u hu;simp at hu;rcases hu with rfl | rfl | rfl | rfl | rfl | rfl | rfl | rfl | rfl <;> rfl
     have h63:t5.ts.length+1≤maxLen:=by refine Nat.le_trans ?_ maxLen_ge;omega
     have hlow:w0.heap.size≤w6.heap.size:=HM6.out.low.size
     have hby:(t5.ts.length+1)*88≤140737488355328:=by omega
     have HFIN:Hid (∀ (W:World) (v':Value),w6.grownBy W t5.vT.ownBlock→W.ownsRow w0.heap.size 44 9 v' (t5.ts.length+1) (t5.ts.flatMap MTx.cells++[.int .i64 (ci:Int),.int .i64 cq,.int .i64 cw,.int .i64 cc,.int .i64 x0,.int .i64 x1,.int .i64 x2,.int .i64 x3,.slice A1 cws.length c1])→(v'.ownBlock=t5.vT.ownBlock∨∀ b,v'.ownBlock=some b→w6.heap.size≤b)→TUpd w0 (W.setCell ⟨tb,3,none⟩ v') (n+4) O6 p tb g s'):=hidp (fun W v' hg hown hv=>by
      have hle:(t5.ts++[(⟨(⟨(ci:Int),cq,cw,cc,x0,x1,x2,x3,cws⟩:TxP),A1,c1⟩:MTx)]).length=t5.ts.length+1:=by simp
      have hro:t5.ts.flatMap MTx.cells++[.int .i64 (ci:Int),.int .i64 cq,.int .i64 cw,.int .i64 cc,.int .i64 x0,.int .i64 x1,.int .i64 x2,.int .i64 x3,.slice A1 cws.length c1]=(t5.ts++[(⟨(⟨(ci:Int),cq,cw,cc,x0,x1,x2,x3,cws⟩:TxP),A1,c1⟩:MTx)]).flatMap MTx.cells:=by rw [List.flatMap_append];rfl
      have h:=HT6.out.push HM6.out (by omega) (m:=(⟨(⟨(ci:Int),cq,cw,cc,x0,x1,x2,x3,cws⟩:TxP),A1,c1⟩:MTx)) HWS.out HWD.out hg (by rw [hle,←hro];exact hown) hv
      rw [HG6.out] at h
      exact HX.out _ _ HO6.out h)
     have htb:t5.vT.ownBlock≠some tb:=(HT6.out.rowT HM6.out (by omega)).2
     have HTB:=hidp htb
     have htl:tb<w6.heap.size:=SzGe.out (n:=tb+1)
     have HTL:=hidp htl
     have HOW:Hid (w6.ownsRow w0.heap.size 44 9 (.slice Al t5.ts.length cl) t5.ts.length (t5.ts.flatMap MTx.cells)):=hidp (by rw [←HET.out];exact HROW.out.1)
     clear htb htl
     go_wp2_with fail
     go_region_law (
      refine step_append_lies _ rfl (.tmp 147) (.tmp 149) 35 rfl w0.heap.size 44 i0 txZero 9 88 Tryz.underlying35 hi0 hz0 hz1 hz2 rfl (by decide) (.slice Al t5.ts.length cl) t5.ts.length (t5.ts.flatMap MTx.cells) (by simp [Act.eval,Act.put]) (own_below HOW.out (by repeat (first | exact Below.refl _ _ | refine blw_alloc ?_ | refine blw_plus ?_ | refine Below.drew ?_)) (fun k e=>(own_ge HOW.out e).2)) ⟨w6.heap.size,0,none⟩ 1 1 [.int .i64 (ci:Int),.int .i64 cq,.int .i64 cw,.int .i64 cc,.int .i64 x0,.int .i64 x1,.int .i64 x2,.int .i64 x3,.slice A1 cws.length c1] (by simp [Act.eval,Act.put]) rfl (World.news_of_block (cs:=#[.int .i64 (ci:Int),.int .i64 cq,.int .i64 cw,.int .i64 cc,.int .i64 x0,.int .i64 x1,.int .i64 x2,.int .i64 x3,.slice A1 cws.length c1]) (by (try rw [heap_drew]);rw [heap_alloc,if_pos (by simp [heap_drew])])) HN1 (by decide) h63 hby (by simp;omega) _ rfl ?_
      intro g1 cap1 w8 hown1 hgrow hgl hlt1
      have hg:=grown_alloc (grown_drew hgrow)
      have hfin:=HFIN.out _ _ (by rw [HET.out];exact hg) hown1 (by
       rcases hgl with e | e
       ·exact .inl (by rw [HET.out,e];rfl)
       ·exact .inr (by intro b hb;simp [Value.ownBlock] at hb;subst hb;rw [e];simp [heap_drew]))
      have HP:=hidp hfin
      have q2:w8.frozen? ⟨tb,3,none⟩=false:=by rw [World.frozen?_of_block (hg.block tb HTL.out (fun e=>HTB.out (by rw [HET.out];exact e.symm)))];exact f3
      have q1:w8.cell? ⟨tb,3,none⟩=some (.slice Al t5.ts.length cl):=by rw [World.cell?_of_block (hg.block tb HTL.out (fun e=>HTB.out (by rw [HET.out];exact e.symm)))];exact c3
      clear hown1 hgrow hgl hlt1 hg hfin)
     all_goals
      go_wp2_with fail
      go_meet
      exact HP.out
    case rest=>
     have HUC:=hidp (show TUpd w0 wc (n+4) O6 p tb g s' from hcut)
     clear hcut
     have HTC:=hidp (TUpd.client HUC.out (by omega) (k:=k) (by rw [HC2.out];first | exact hk | exact hkC))
     rw [HD2.out] at HTC
     go_wp2_with fail
     go_at_call 54
     refine HTC.out.mono ?_
     rintro e w7 ⟨rfl,hb7⟩
     have HU7:=hidp (HUC.out.then hb7)
     clear hb7 HTC HUC t0 t1 t2 t3 t4 t5' t6 t7 t8 c3 f3
     go_upto_region 27 with fail
     have HB9:=hidp (show Below w7.heap.size w7 ((w7.alloc (.cells #[.int .i64 d'.q0,.int .i64 d'.q1,.int .i64 d'.q2,.int .i64 d'.q3] 32)).alloc (.cells #[.int .i64 d'.n0,.int .i64 d'.n1,.int .i64 d'.n2,.int .i64 d'.n3] 32)) from zB)
     have HQ9:=hidp (show ((w7.alloc (.cells #[.int .i64 d'.q0,.int .i64 d'.q1,.int .i64 d'.q2,.int .i64 d'.q3] 32)).alloc (.cells #[.int .i64 d'.n0,.int .i64 d'.n1,.int .i64 d'.n2,.int .i64 d'.n3] 32)).heap[w7.heap.size]?=some (.cells #[.int .i64 d'.q0,.int .i64 d'.q1,.int .i64 d'.q2,.int .i64 d'.q3] 32) from blk_alloc (blk_new rfl _) _)
     have HU9:=hidp (HU7.out.then HB9.out)
     generalize ((w7.alloc (.cells #[.int .i64 d'.q0,.int .i64 d'.q1,.int .i64 d'.q2,.int .i64 d'.q3] 32)).alloc (.cells #[.int .i64 d'.n0,.int .i64 d'.n1,.int .i64 d'.n2,.int .i64 d'.n3] 32))=w9 at *
     have hx9:=HU9.out.box (i:=n+3) (by omega) (by omega) HX6.out
     obtain ⟨t0,t1,t2,t3,t4,t5',t6,t7,t8⟩:=cell9 hx9
     haveI:SzGe (w5.heap.size+1) w9:=⟨lt_blk hx9⟩
     have hq9:=at_cell HQ9.out hc4
     haveI:SzGe (w7.heap.size+1) w9:=⟨lt_blk HQ9.out⟩
     obtain ⟨aS,haS⟩:∃ aS,atV d'.q0 d'.q1 d'.q2 d'.q3 (ci:Int)=aS:=⟨_,rfl⟩
     rw [haS] at hq9
     have hlt9:decide (aS<cq)=false:=decide_eq_false (by have h:=HCQ.out;unfold SdP.ps at h;rw [haS] at h;omega)
     obtain ⟨O9,u9,z1,⟨z2,z3⟩,z4⟩:=HU9.out
     have hb9:=z2.blk z1 (by omega)
     have c4:=cell_blk hb9 4
     simp only [zC,zD,zE] at c4
     haveI:SzGe (tb+1) w9:=⟨lt_blk hb9⟩
     obtain ⟨bo,co,mb,eO,hlo,hmc,_,hmp,_,_,_⟩:=z2.map z1 (by omega) (k:=k) (by rw [HC2.out];first | exact hk | exact hkC)
     rw [eO,HC2.out] at c4
     haveI:SzGe (bo+1) w9:=⟨hlo⟩
     have hzk:s'.z k=cws.length:=by rw [←HS'.out];exact HCL2.out.symm
     rw [hzk] at hmp
     have HLEN:=fun x ty=>(hmp.below (below_wplus w9 x)).len ty
     have hk0:(0:Int)≤(k:Int):=by omega
     have hk6:(k:Int)<6:=by omega
     have hkc:(k:Int)<(C:Int):=by omega
     have hci0:(0:Int)≤(ci:Int):=by omega
     have hci4:(ci:Int)<4:=by omega
     clear z1 z2 z3 z4 hb9 eO hmp hlo hx9 haS hzk HU7
     refine wp_region_plus (by kernel_rfl) (by kernel_rfl) ?_
     repeat (first | go_big_quiet_skip | (go_big_quiet_want;go_big_quiet_op;go_big_quiet_on))
     refine wpQuiet_nil ?_
     rintro _ ⟨x9,rfl⟩
     have HU:=hidp (show TUpd w0 (wplus w9 x9) (n+2) O2 p tb g s' from (HU9.out.then (below_wplus w9 x9)).less (by omega) HO6.out)
     clear HU9 HLEN hq9 c4 hmc t0 t1 t2 t3 t4 t5' t6 t7 t8
     have HTC:=hidp (TUpd.client HU.out (by omega) (k:=k) (by rw [HC2.out];first | exact hk | exact hkC))
     rw [HD2.out] at HTC
     go_wp2_with fail
     go_at_call 54
     refine HTC.out.mono ?_
     rintro e w6 ⟨rfl,hb6⟩
     have HU6:=hidp (HU.out.then hb6)
     have hq6:=HU6.out.box (i:=n) (by omega) (by omega) HQ2.out
     have v0:=cell_blk hq6 0;have v1:=cell_blk hq6 1;have v2:=cell_blk hq6 2;have v3:=cell_blk hq6 3
     simp only [zC,zD,zE] at v0 v1 v2 v3
     haveI:SzGe (bq+1) w6:=⟨lt_blk hq6⟩
     clear hb6 hq6 HU
     go_wp2_with fail
     go_at_call 55
     refine (HCO.out _).mono ?_
     rintro e w7 ⟨rfl,hb7⟩
     have HU7:=hidp (HU6.out.then (Below.trans (show Below w6.heap.size w6 ((w6.alloc (.cells #[.int .i64 d'.q0,.int .i64 d'.q1,.int .i64 d'.q2,.int .i64 d'.q3] 32)).alloc (.cells #[.int .i64 d'.n0,.int .i64 d'.n1,.int .i64 d'.n2,.int .i64 d'.n3] 32)) from zB) (hb7.mono (Below.size (show Below w6.heap.size w6 ((w6.alloc (.cells #[.int .i64 d'.q0,.int .i64 d'.q1,.int .i64 d'.q2,.int .i64 d'.q3] 32)).alloc (.cells #[.int .i64 d'.n0,.int .i64 d'.n1,.int .i64 d'.n2,.int .i64 d'.n3] 32)) from zB)))))
     clear hb7
     go_wp2_with fail
     go_ret
     exact ⟨rfl,HEND.out _ (HU7.out.less (by omega) HO2.out)⟩
   ·have hd1:decide (0<cq)=false:=decide_eq_false hq
    have HXM:=hidp (HXN.out (fun h=>hq h.2))
    clear HXN
    go_wp2_with fail
    go_at_call 102
    refine HOP.out.mono ?_
    rintro e w5 ⟨A1,c1,rfl,O5,t5,q1,q2,q4,q5⟩
    have HU:=hidp ((HXM.out w5 O5 t5 q1 q2 q5).then (show Below w5.heap.size w5 (w5.alloc (.cells #[.int .i64 cs,.int .i64 cq,.int .i64 cw,.int .i64 cc,.int .i64 x0,.int .i64 x1,.int .i64 x2,.int .i64 x3,.slice A1 cws.length c1] 44)) from zB))
    clear q1 q2 q4 q5 HOP HXM
    have HTC:=hidp (TUpd.client HU.out (by omega) (k:=k) (by rw [HC2.out];first | exact hk | exact hkC))
    rw [HD2.out] at HTC
    go_wp2_with fail
    go_at_call 54
    refine HTC.out.mono ?_
    rintro e w6 ⟨rfl,hb6⟩
    have HU6:=hidp (HU.out.then hb6)
    have hq6:=HU6.out.box (i:=n) (by omega) (by omega) HQ2.out
    have v0:=cell_blk hq6 0;have v1:=cell_blk hq6 1;have v2:=cell_blk hq6 2;have v3:=cell_blk hq6 3
    simp only [zC,zD,zE] at v0 v1 v2 v3
    haveI:SzGe (bq+1) w6:=⟨lt_blk hq6⟩
    clear hb6 hq6 HU
    go_wp2_with fail
    go_at_call 55
    refine (HCO.out _).mono ?_
    rintro e w7 ⟨rfl,hb7⟩
    have HU7:=hidp (HU6.out.then (Below.trans (show Below w6.heap.size w6 ((w6.alloc (.cells #[.int .i64 d'.q0,.int .i64 d'.q1,.int .i64 d'.q2,.int .i64 d'.q3] 32)).alloc (.cells #[.int .i64 d'.n0,.int .i64 d'.n1,.int .i64 d'.n2,.int .i64 d'.n3] 32)) from zB) (hb7.mono (Below.size (show Below w6.heap.size w6 ((w6.alloc (.cells #[.int .i64 d'.q0,.int .i64 d'.q1,.int .i64 d'.q2,.int .i64 d'.q3] 32)).alloc (.cells #[.int .i64 d'.n0,.int .i64 d'.n1,.int .i64 d'.n2,.int .i64 d'.n3] 32)) from zB)))))
    clear hb7
    go_wp2_with fail
    go_ret
    exact ⟨rfl,HEND.out _ (HU7.out.less (by omega) HO2.out)⟩
  ·have hev:errV E=.iface 29 (.int .i64 E):=if_neg hE
   rw [hev] at HOP
   clear hev
   have HXM:=hidp (HXN.out (fun h=>hE h.1))
   clear HXN
   go_wp2_with fail
   go_at_call 102
   refine HOP.out.mono ?_
   rintro e w5 ⟨A1,c1,rfl,O5,t5,q1,q2,q4,q5⟩
   have HU:=hidp ((HXM.out w5 O5 t5 q1 q2 q5).then (show Below w5.heap.size w5 (w5.alloc (.cells #[.int .i64 cs,.int .i64 cq,.int .i64 cw,.int .i64 cc,.int .i64 x0,.int .i64 x1,.int .i64 x2,.int .i64 x3,.slice A1 cws.length c1] 44)) from zB))
   clear q1 q2 q4 q5 HOP HXM
   have HTC:=hidp (TUpd.client HU.out (by omega) (k:=k) (by rw [HC2.out];first | exact hk | exact hkC))
   rw [HD2.out] at HTC
   go_wp2_with fail
   go_at_call 54
   refine HTC.out.mono ?_
   rintro e w6 ⟨rfl,hb6⟩
   have HU6:=hidp (HU.out.then hb6)
   have hq6:=HU6.out.box (i:=n) (by omega) (by omega) HQ2.out
   have v0:=cell_blk hq6 0;have v1:=cell_blk hq6 1;have v2:=cell_blk hq6 2;have v3:=cell_blk hq6 3
   simp only [zC,zD,zE] at v0 v1 v2 v3
   haveI:SzGe (bq+1) w6:=⟨lt_blk hq6⟩
   clear hb6 hq6 HU
   go_wp2_with fail
   go_at_call 55
   refine (HCO.out _).mono ?_
   rintro e w7 ⟨rfl,hb7⟩
   have HU7:=hidp (HU6.out.then (Below.trans (show Below w6.heap.size w6 ((w6.alloc (.cells #[.int .i64 d'.q0,.int .i64 d'.q1,.int .i64 d'.q2,.int .i64 d'.q3] 32)).alloc (.cells #[.int .i64 d'.n0,.int .i64 d'.n1,.int .i64 d'.n2,.int .i64 d'.n3] 32)) from zB) (hb7.mono (Below.size (show Below w6.heap.size w6 ((w6.alloc (.cells #[.int .i64 d'.q0,.int .i64 d'.q1,.int .i64 d'.q2,.int .i64 d'.q3] 32)).alloc (.cells #[.int .i64 d'.n0,.int .i64 d'.n1,.int .i64 d'.n2,.int .i64 d'.n3] 32)) from zB)))))
   clear hb7
   go_wp2_with fail
   go_ret
   exact ⟨rfl,HEND.out _ (HU7.out.less (by omega) HO2.out)⟩
end
end Go.Proofs.YtbopfhbeegkkaabGreatDoor
