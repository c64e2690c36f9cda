/- Part K18 of a proof: lemmas and contracts that other parts use. -/
import Derived.Test.YtbopfhbeegkkaabGreatDoorCa45
set_option linter.unusedVariables false
set_option linter.unusedSimpArgs false
set_option linter.constructorNameAsVariable false
namespace Go.Proofs.YtbopfhbeegkkaabGreatDoor
open Go.RowKit
theorem TSt.txs {w W:World} {tb g C i:Nat} {s:TlP} (h:TSt w tb g C i W s):∃ (ts:List MTx) (Al:Option Addr) (cl:Nat) (S:Int) (vO:Value),W.heap[tb]?=some (.cells #[.pointer (some ⟨g,0,none⟩),.int .i64 S,.int .i64 (C:Int),.slice Al ts.length cl,vO] 110)∧XsAt W Al ts∧ts.length≤i∧(∀ m∈ts,rightTx m.t=true∧m.t∈s.T):=by
 obtain ⟨O,t,b,h1,h2,rfl,h4,h5,rfl⟩:=h
 obtain ⟨hrow,_⟩:=h2.rowT h1 (by omega)
 obtain ⟨Al,cl,e⟩:=own_form hrow.1
 have hb:=h2.blk h1 (by omega)
 have hx:=hrow.1
 rw [e] at hx hb
 have hl:t.ts.length=s.T.length:=by rw [←h2.eT,List.length_map]
 exact ⟨t.ts,Al,cl,_,_,hb,own_xs hx,by omega,fun m hm=>⟨h4.inv.t.rt _ (by rw [←h2.eT];exact List.mem_map_of_mem hm),by rw [←h2.eT];exact List.mem_map_of_mem hm⟩⟩
theorem TSt.sees {w W:World} {tb g C i k:Nat} {s:TlP} (h:TSt w tb g C i W s) (hk:k<C) (ho:(s.A.cl k).op=true):Clo s.T (s.A.cl k).sn:=by
 obtain ⟨O,t,b,h1,h2,h3,h4,h5,rfl⟩:=h
 exact ((h4.inv.cl k hk).2 ho).2.2
set_option maxRecDepth 200000 in
set_option maxHeartbeats 32000000 in
theorem worldCausal_any (A:Option Addr) (c:Nat) (ls:List KacP) (sites clients:Int) (w:World) (hg:EType w) (hps:KacsAt w A ls):
  Calls Tryz.prog 5 #[.int .i64 sites,.int .i64 clients,.slice A ls.length c] w fun e w'=>e=.returned (.bool true)∧Below w.heap.size w w':=by
 by_cases hbig:120<ls.length
 ·have hd:decide ((120:Int)<(ls.length:Int))=true:=decide_eq_true (by omega)
  clear hbig hg hps
  go_enter Tryz.func5,Tryz.ntmps5
  go_wp2_with fail
  go_ret
  exact ⟨rfl,Below.refl _ _⟩
 have hd:decide ((120:Int)<(ls.length:Int))=false:=decide_eq_false (by omega)
 have hle:ls.length≤120:=by omega
 have HG:=hidp hg
 have HPS:=hidp hps
 clear hbig hg hps
 go_enter Tryz.func5,Tryz.ntmps5
 go_wp2_with fail
 go_at_call 51
 refine (lived_any w).mono ?_
 rintro e w1 ⟨rfl,hb1⟩
 have HB1:=hidp hb1
 clear hb1
 go_wp2_with fail
 go_at_call 52
 refine (TSt.new (W:=w1) sites clients).mono ?_
 rintro e w2 ⟨tb,g,C,s0,hC1,hC6,rfl,h2⟩
 have H2:=hidp h2
 clear h2
 go_wp2_with fail
 go_loopw [8] (fun i W=>∃ (k:Nat) (s:TlP),k≤ls.length∧i=.int .i64 k∧TSt w1 tb g C k W s) (fun i _=>ls.length-(Go.RowKit.intOf i).toNat)
 case atStart=>exact ⟨0,s0,Nat.zero_le _,rfl,H2.out⟩
 case round=>
  obtain ⟨k,s,hk,rfl,hS⟩:=hrel
  obtain ⟨W,rfl⟩:∃ W:World,W=wr:=⟨_,rfl⟩
  have HS:=hidp hS
  have HBW:=hidp (HB1.out.trans (hS.low.mono HB1.out.size))
  obtain ⟨S0,vT0,vO0,hbk⟩:=hS.blk
  haveI:SzGe (tb+1) W:=⟨lt_blk hbk⟩
  have c2:=cell_blk hbk 2
  simp only [zC,zD,zE] at c2
  clear hS hbk
  by_cases hlt:k<ls.length
  ·obtain ⟨⟨b,o,rfl,hb,d0,d1,d2,d3,d4⟩,_,_,_,_⟩:=(HPS.out.below HBW.out) k ls[k] (List.getElem?_eq_getElem hlt)
   generalize ls[k]=x at *
   obtain ⟨xw,xk,xn,xd,xg⟩:=x
   simp only at d0 d1 d2 d3 d4
   haveI:SzGe (b+1) W:=⟨hb⟩
   by_cases hsz:50<xd.size
   ·have hd5:decide ((50:Int)<(xd.size:Int))=true:=decide_eq_true (by omega)
    clear hsz
    go_wp2_with fail
    go_roundw
    case rel=>exact ⟨k+1,s,by omega,by go_num,HS.out.more⟩
    case measure=>simp [Go.RowKit.intOf];omega
   ·have hd5:decide ((50:Int)<(xd.size:Int))=false:=decide_eq_false (by omega)
    have HDO:=hidp (HS.out.does (HG.out.low HB1.out) (by omega) ⟨xw,xk,xn,xd,xg⟩ true)
    unfold TaP.val at HDO
    simp only at HDO
    generalize tlDo s ⟨xw,xk,xn,xd,xg⟩ true=s3 at *
    clear hsz c2
    go_wp2_with fail
    go_at_call 53
    refine HDO.out.mono ?_
    rintro e w3 ⟨rfl,h3⟩
    have H3:=hidp h3
    clear h3 HDO d0 d1 d2 d3 d4
    go_wp2_with fail
    go_loopw [9] (fun i W=>∃ (j:Nat),j≤C∧i=.int .i64 j∧TSt w1 tb g C (k+1) W s3) (fun i _=>C-(Go.RowKit.intOf i).toNat)
    case atStart=>exact ⟨0,Nat.zero_le _,rfl,H3.out⟩
    case round=>
     obtain ⟨j,hj,rfl,hS⟩:=hrel
     obtain ⟨W4,rfl⟩:∃ W:World,W=wr:=⟨_,rfl⟩
     have HS4:=hidp hS
     obtain ⟨S1,vT1,vO1,hbk⟩:=hS.blk
     haveI:SzGe (tb+1) W4:=⟨lt_blk hbk⟩
     have c0:=cell_blk hbk 0;have c2:=cell_blk hbk 2
     simp only [zC,zD,zE] at c0 c2
     clear hS hbk
     by_cases hjC:j<C
     ·have hdj:decide ((j:Int)<(C:Int))=true:=decide_eq_true (by omega)
      have HCL:=hidp (HS4.out.client hjC)
      obtain ⟨d,hdd⟩:∃ d,s3.A.cl j=d:=⟨_,rfl⟩
      have HDD:=hidp hdd
      rw [hdd] at HCL
      have HSE:=hidp (fun ho=>HS4.out.sees hjC ho)
      rw [hdd] at HSE
      clear hdd
      generalize s3.A.pl j=pl at *
      go_wp2_with fail
      go_at_call 54
      refine HCL.out.mono ?_
      rintro e w5 ⟨rfl,h5⟩
      have H5:=hidp h5
      have HN6:=hidp (show ((w5.alloc (.cells #[.int .i64 d.q0,.int .i64 d.q1,.int .i64 d.q2,.int .i64 d.q3] 32)).alloc (.cells #[.int .i64 d.n0,.int .i64 d.n1,.int .i64 d.n2,.int .i64 d.n3] 32)).heap[w5.heap.size+1]?=some (.cells #[.int .i64 d.n0,.int .i64 d.n1,.int .i64 d.n2,.int .i64 d.n3] 32) from blk_new (by simp [go_sem]) _)
      have H6:=hidp (h5.below (show Below w5.heap.size w5 ((w5.alloc (.cells #[.int .i64 d.q0,.int .i64 d.q1,.int .i64 d.q2,.int .i64 d.q3] 32)).alloc (.cells #[.int .i64 d.n0,.int .i64 d.n1,.int .i64 d.n2,.int .i64 d.n3] 32)) from zB))
      clear h5 HCL
      cases hop:d.op with
      | false=>
        go_wp2_with fail
        generalize ((w5.alloc (.cells #[.int .i64 d.q0,.int .i64 d.q1,.int .i64 d.q2,.int .i64 d.q3] 32)).alloc (.cells #[.int .i64 d.n0,.int .i64 d.n1,.int .i64 d.n2,.int .i64 d.n3] 32))=w6 at *
        obtain ⟨ts,Al,cl,S2,vO2,hbk,hxs,htl,hrt⟩:=H6.out.txs
        have HBK:=hidp hbk
        have HXS:=hidp hxs
        have HRT:=hidp hrt
        have HOP:=hidp hop
        clear hbk hxs hrt hop c0 c2
        go_loopw [15] (fun i W=>∃ (q:Nat),q≤ts.length∧i=.int .i64 q∧Below w6.heap.size w6 W) (fun i _=>ts.length-(Go.RowKit.intOf i).toNat)
        case atStart=>exact ⟨0,Nat.zero_le _,rfl,Below.refl _ _⟩
        case round=>
         obtain ⟨q,hq,rfl,hbl⟩:=hrel
         obtain ⟨W7,rfl⟩:∃ W:World,W=wr:=⟨_,rfl⟩
         have HB7:=hidp hbl
         have hbk:=(hbl.block _ (lt_blk HBK.out)).trans HBK.out
         have c3:=cell_blk hbk 3
         simp only [zC,zD,zE] at c3
         haveI:SzGe (tb+1) W7:=⟨lt_blk hbk⟩
         clear hbl hbk
         by_cases hql:q<ts.length
         ·have hdq:decide ((q:Int)<(ts.length:Int))=true:=decide_eq_true (by omega)
          go_wp2_with fail
          go_roundw
          case rel=>exact ⟨j+1,by omega,by go_num,H6.out.below HB7.out⟩
          case measure=>simp [Go.RowKit.intOf];omega
         ·have hdq:decide ((q:Int)<(ts.length:Int))=false:=decide_eq_false (by omega)
          have hdq2:decide (q<ts.length)=false:=decide_eq_false hql
          go_wp2_with fail
          go_roundw
          case rel=>exact ⟨j+1,by omega,by go_num,H6.out.below HB7.out⟩
          case measure=>simp [Go.RowKit.intOf];omega
      | true=>
        go_wp2_with fail
        generalize ((w5.alloc (.cells #[.int .i64 d.q0,.int .i64 d.q1,.int .i64 d.q2,.int .i64 d.q3] 32)).alloc (.cells #[.int .i64 d.n0,.int .i64 d.n1,.int .i64 d.n2,.int .i64 d.n3] 32))=w6 at *
        obtain ⟨ts,Al,cl,S2,vO2,hbk,hxs,htl,hrt⟩:=H6.out.txs
        have HBK:=hidp hbk
        have HXS:=hidp hxs
        have HRT:=hidp hrt
        have HOP:=hidp hop
        clear hbk hxs hrt hop c0 c2
        go_loopw [15] (fun i W=>∃ (q:Nat),q≤ts.length∧i=.int .i64 q∧Below w6.heap.size w6 W) (fun i _=>ts.length-(Go.RowKit.intOf i).toNat)
        case atStart=>exact ⟨0,Nat.zero_le _,rfl,Below.refl _ _⟩
        case round=>
         obtain ⟨q,hq,rfl,hbl⟩:=hrel
         obtain ⟨W7,rfl⟩:∃ W:World,W=wr:=⟨_,rfl⟩
         have HB7:=hidp hbl
         have hbk:=(hbl.block _ (lt_blk HBK.out)).trans HBK.out
         have c3:=cell_blk hbk 3
         simp only [zC,zD,zE] at c3
         haveI:SzGe (tb+1) W7:=⟨lt_blk hbk⟩
         clear hbl hbk
         by_cases hql:q<ts.length
         ·have hdq:decide ((q:Int)<(ts.length:Int))=true:=decide_eq_true (by omega)
          obtain ⟨b2,o2,rfl,hb2,f0,f1,f2,f3,f4,f5,f6,f7,f8⟩:=(HXS.out.below HB7.out) q ts[q] (List.getElem?_eq_getElem hql)
          obtain ⟨hrm,hmT⟩:=HRT.out ts[q] (List.getElem_mem hql)
          generalize ts[q]=m at *
          obtain ⟨⟨msite,mseq,mwall,mcount,md0,md1,md2,md3,mws⟩,mA,mc⟩:=m
          simp only at f0 f1 f2 f3 f4 f5 f6 f7 f8 hmT hrm
          obtain ⟨hp1,hp2,hp3,hp4⟩:=rightTx_parts hrm
          try simp only at hp1 hp2 hp3 hp4
          obtain ⟨st,rfl⟩:=Int.eq_ofNat_of_zero_le hp1.1
          have hst4:st<4:=by omega
          have hn7:=(HB7.out.block _ (lt_blk HN6.out)).trans HN6.out
          have hat:=at_cell hn7 hst4
          have v0:=cell_blk hn7 0;have v1:=cell_blk hn7 1;have v2:=cell_blk hn7 2;have v3:=cell_blk hn7 3
          simp only [zC,zD,zE] at v0 v1 v2 v3
          haveI:SzGe (b2+1) W7:=⟨hb2⟩
          haveI:SzGe (w5.heap.size+1+1) W7:=⟨lt_blk hn7⟩
          obtain ⟨aS,haS⟩:∃ aS,atV d.n0 d.n1 d.n2 d.n3 (st:Int)=aS:=⟨_,rfl⟩
          rw [haS] at hat
          have hk0:(0:Int)≤(st:Int):=by omega
          have hk4:(st:Int)<4:=by omega
          have HCV:=hidp (show mseq≤aS→∀ W,Calls Tryz.prog 55 #[.agg #[.int .i64 d.n0,.int .i64 d.n1,.int .i64 d.n2,.int .i64 d.n3],.agg #[.int .i64 md0,.int .i64 md1,.int .i64 md2,.int .i64 md3]] W fun e w'=>e=.returned (.bool true)∧Below W.heap.size W w' from fun hle W=>by
           have h:=HSE.out HOP.out _ hmT (by show mseq≤atV d.n0 d.n1 d.n2 d.n3 (st:Int);rw [haS];exact hle)
           have hc:=covers_any d.n0 d.n1 d.n2 d.n3 md0 md1 md2 md3 W
           rw [(covD_iff ..).2 h] at hc
           exact hc)
          clear haS hn7 hrm hmT hp1 hp2 hp3 hp4
          by_cases hsq:mseq≤aS
          ·have hds:decide (mseq≤aS)=true:=decide_eq_true hsq
           have HCC:=hidp (HCV.out hsq)
           clear HCV hsq
           go_wp2_with fail
           refine wp_region_plus (by kernel_rfl) (by kernel_rfl) ?_
           repeat (first | go_big_quiet_skip | (go_big_quiet_want;go_big_quiet_op;first | go_big_quiet_on | (apply Exists.intro;refine ⟨fun _=>?_,?_⟩;(go_at_call 55;exact Calls.plus_of (HCC.out _));go_big_quiet_on)))
           refine wpQuiet_nil ?_
           rintro _ ⟨x7,rfl⟩
           go_wp2_with fail
           go_roundw
           case rel=>exact ⟨q+1,by omega,by go_num,HB7.out.trans (Below.mono (below_wplus W7 x7) HB7.out.size)⟩
           case measure=>simp [Go.RowKit.intOf];omega
          ·have hds:decide (mseq≤aS)=false:=decide_eq_false hsq
           clear HCV hsq
           go_wp2_with fail
           refine wp_region_plus (by kernel_rfl) (by kernel_rfl) ?_
           repeat (first | go_big_quiet_skip | (go_big_quiet_want;go_big_quiet_op;go_big_quiet_on))
           refine wpQuiet_nil ?_
           rintro _ ⟨x7,rfl⟩
           go_wp2_with fail
           go_roundw
           case rel=>exact ⟨q+1,by omega,by go_num,HB7.out.trans (Below.mono (below_wplus W7 x7) HB7.out.size)⟩
           case measure=>simp [Go.RowKit.intOf];omega
         ·have hdq:decide ((q:Int)<(ts.length:Int))=false:=decide_eq_false (by omega)
          have hdq2:decide (q<ts.length)=false:=decide_eq_false hql
          go_wp2_with fail
          go_roundw
          case rel=>exact ⟨j+1,by omega,by go_num,H6.out.below HB7.out⟩
          case measure=>simp [Go.RowKit.intOf];omega
     ·obtain rfl:j=C:=by omega
      have hdj:decide ((j:Int)<(j:Int))=false:=decide_eq_false (by omega)
      go_wp2_with fail
      go_roundw
      case rel=>exact ⟨k+1,s3,by omega,by go_num,HS4.out⟩
      case measure=>simp [Go.RowKit.intOf];omega
  ·obtain rfl:k=ls.length:=by omega
   clear c2
   go_wp2_with fail
   go_loopw [16] (fun i W=>∃ (j:Nat),j≤C∧i=.int .i64 j∧TSt w1 tb g C ls.length W s) (fun i _=>C-(Go.RowKit.intOf i).toNat)
   case atStart=>exact ⟨0,Nat.zero_le _,rfl,HS.out⟩
   case round=>
    obtain ⟨j,hj,rfl,hS⟩:=hrel
    obtain ⟨W4,rfl⟩:∃ W:World,W=wr:=⟨_,rfl⟩
    have HS4:=hidp hS
    obtain ⟨S1,vT1,vO1,hbk⟩:=hS.blk
    haveI:SzGe (tb+1) W4:=⟨lt_blk hbk⟩
    have c2:=cell_blk hbk 2
    simp only [zC,zD,zE] at c2
    clear hS hbk
    by_cases hjC:j<C
    ·have hdj:decide ((j:Int)<(C:Int))=true:=decide_eq_true (by omega)
     go_wp2_with fail
     go_loopw [17] (fun i W=>∃ (q:Nat),q≤8∧i=.int .i64 q∧TSt w1 tb g C ls.length W s) (fun i _=>8-(Go.RowKit.intOf i).toNat)
     case atStart=>exact ⟨0,by omega,rfl,HS4.out⟩
     case round=>
      obtain ⟨q,hq,rfl,hS⟩:=hrel
      obtain ⟨W5,rfl⟩:∃ W:World,W=wr:=⟨_,rfl⟩
      have HS5:=hidp hS
      clear hS c2
      by_cases hq8:q<8
      ·have hdq:decide ((q:Int)<8)=true:=decide_eq_true (by omega)
       have HRE:=hidp (HS5.out.reads (HG.out.low HB1.out) (by omega) hjC (key:=(q:Int)) (by omega))
       go_wp2_with fail
       go_at_call 56
       refine HRE.out.mono ?_
       rintro e w6 ⟨rfl,h6⟩
       have H6:=hidp h6
       clear h6 HRE
       go_wp2_with fail
       go_roundw
       case rel=>exact ⟨q+1,by omega,by go_num,H6.out⟩
       case measure=>simp [Go.RowKit.intOf];omega
      ·have hdq:decide ((q:Int)<8)=false:=decide_eq_false (by omega)
       go_wp2_with fail
       go_roundw
       case rel=>exact ⟨j+1,by omega,by go_num,HS5.out⟩
       case measure=>simp [Go.RowKit.intOf];omega
    ·obtain rfl:j=C:=by omega
     have hdj:decide ((j:Int)<(j:Int))=false:=decide_eq_false (by omega)
     go_wp2_with fail
     go_ret
     exact ⟨rfl,HB1.out.trans (HS4.out.low.mono HB1.out.size)⟩
end Go.Proofs.YtbopfhbeegkkaabGreatDoor
