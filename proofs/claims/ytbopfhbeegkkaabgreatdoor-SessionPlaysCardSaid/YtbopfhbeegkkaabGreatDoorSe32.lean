/- Part 32 of a proof: lemmas and contracts that other parts use. -/
import Derived.Test.YtbopfhbeegkkaabGreatDoorSe31
import Derived.Deep.DeepCutAuto
set_option linter.unusedVariables false
set_option linter.unusedSimpArgs false
set_option linter.constructorNameAsVariable false
namespace Go.Proofs.YtbopfhbeegkkaabGreatDoor
open Go.RowKit
set_option maxRecDepth 20000 in
set_option maxHeartbeats 32000000 in
theorem rTake_any (B y cw:Nat) (s:RsP) (lv av:Value) (wA:Option Addr) (t:TxP) (A:Option Addr) (c:Nat) (w:World) (h:RsAt w B y s lv wA cw av) (hi:RInv s) (hwn:s.ws.length≤900) (hws:WsAt w A t.ws) (hwl:t.ws.length≤1000000):
  Calls Tryz.prog 18 #[.pointer (some ⟨y,0,none⟩),MTx.val ⟨t,A,c⟩] w (RTakePost B y s lv wA cw av t w):=by
 obtain ⟨Al,cl,rfl⟩:=own_form h.row
 have HDN:Hid (∀ (n:Int) (w':World),n≠0→rTakeE s.r t=n→Below w.heap.size w w'→RTakePost B y s (.slice Al s.log.length cl) wA cw av t w (.returned (.int .i64 n)) w'):=hidp (fun n w' h1 h2 h3=>⟨by rw [h2],fun _=>h3,fun e=>absurd (h2 ▸ e) h1⟩)
 have HTE:Hid (rTakeE s.r t=if rightTx t=false∨t.site=s.id then 1 else if t.seq≤s.at t.site then 9 else if rSame s.r t=true then 9 else if 200≤s.log.length∨(40≤s.ws.length∧rReady s.r t=false) then 12 else 0):=hidp (by
  have e1:s.r.log.length=s.log.length:=by simp [RsP.r]
  have e2:s.r.ws.length=s.ws.length:=by simp [RsP.r]
  unfold rTakeE
  rw [e1,e2];rfl)
 have HI:=hidp hi
 have HS:=hidp h
 have HWS:=hidp hws
 have HWN:=hidp hwn
 have HPT:Hid (rightTx t=true→((0≤t.site∧t.site<4)∧(1≤t.seq∧t.seq≤1099511627776)∧1≤t.ws.length∧t.ws.length≤5)):=hidp rightTx_parts
 have c0:=h.c0
 haveI:SzGe (y+1) w:=⟨h.sto.lt⟩
 obtain ⟨k,hk⟩:=Int.eq_ofNat_of_zero_le hi.id.1
 rw [hk] at c0
 have HK:=hidp hk
 clear h hi hws hk
 cases hrt:rightTx t
 ·have HRT:=hidp fun W (hB:Below w.heap.size w W)=>rRightTx_is hrt A c W hwl (HWS.out.below hB)
  have HE:Hid (rTakeE s.r t=1):=hidp (by rw [HTE.out,if_pos (.inl hrt)])
  clear hrt HPT
  obtain ⟨site,seq,wall,count,d0,d1,d2,d3,ws⟩:=t
  unfold MTx.val
  simp only at HRT hwl
  go_enter Tryz.func18,Tryz.ntmps18
  go_wp2_with fail
  refine wp_region_plus (by kernel_rfl) (by kernel_rfl) ?_
  repeat (first | go_big_quiet_skip | (go_big_quiet_want;go_big_quiet_op;first | go_big_quiet_on | (apply Exists.intro;refine ⟨fun _=>?_,?_⟩;(go_at_call 86;exact Calls.plus_of (HRT.out _ (by repeat (first | exact Below.refl _ _ | refine blw_alloc ?_ | refine blw_plus ?_ | refine Below.drew ?_))));go_big_quiet_on)))
  refine wpQuiet_nil ?_
  rintro _ ⟨x1,rfl⟩
  go_wp2_with fail
  go_ret
  exact HDN.out 1 _ (by decide) HE.out (by repeat (first | exact Below.refl _ _ | refine blw_alloc ?_ | refine blw_plus ?_ | refine Below.drew ?_))
 have HRT:=hidp fun W (hB:Below w.heap.size w W)=>rRightTx_is hrt A c W hwl (HWS.out.below hB)
 have HRR:=hidp hrt
 have hpt:=HPT.out hrt
 clear hrt HPT
 by_cases hid:t.site=s.id
 ·have HE:Hid (rTakeE s.r t=1):=hidp (by rw [HTE.out,if_pos (.inr hid)])
  have hie:(t.site==(k:Int))=true:=by rw [hid,HK.out];simp
  clear hid hpt
  obtain ⟨site,seq,wall,count,d0,d1,d2,d3,ws⟩:=t
  unfold MTx.val
  simp only at HRT hwl hie
  go_enter Tryz.func18,Tryz.ntmps18
  go_wp2_with fail
  refine wp_region_plus (by kernel_rfl) (by kernel_rfl) ?_
  repeat (first | go_big_quiet_skip | (go_big_quiet_want;go_big_quiet_op;first | go_big_quiet_on | (apply Exists.intro;refine ⟨fun _=>?_,?_⟩;(go_at_call 86;exact Calls.plus_of (HRT.out _ (by repeat (first | exact Below.refl _ _ | refine blw_alloc ?_ | refine blw_plus ?_ | refine Below.drew ?_))));go_big_quiet_on)))
  refine wpQuiet_nil ?_
  rintro _ ⟨x1,rfl⟩
  go_wp2_with fail
  go_ret
  exact HDN.out 1 _ (by decide) HE.out (by repeat (first | exact Below.refl _ _ | refine blw_alloc ?_ | refine blw_plus ?_ | refine Below.drew ?_))
 have hie:(t.site==(k:Int))=false:=by rw [beq_eq_false_iff_ne];intro e;exact hid (by rw [e,HK.out])
 have HN1:Hid (¬(rightTx t=false∨t.site=s.id)):=hidp (by rw [HRR.out];simpa using hid)
 clear hid
 obtain ⟨site,seq,wall,count,d0,d1,d2,d3,ws⟩:=t
 obtain ⟨⟨hs0,hs4⟩,⟨hq0,hq1⟩,hw1,hw5⟩:=hpt
 simp only at hs0 hs4 hq0 hq1 hw1 hw5 hwl HRT hie HN1
 obtain ⟨st,rfl⟩:=Int.eq_ofNat_of_zero_le hs0
 have hst4:st<4:=by omega
 have hBw:Below w.heap.size w (w.alloc (.cells #[.int .i64 (st:Int),.int .i64 seq,.int .i64 wall,.int .i64 count,.int .i64 d0,.int .i64 d1,.int .i64 d2,.int .i64 d3,.slice A ws.length c] 44)):=blw_alloc (Below.refl _ _)
 have HS1:=hidp (HS.out.below hBw)
 have HB1:=hidp hBw
 have HBX:=hidp (show (w.alloc (.cells #[.int .i64 (st:Int),.int .i64 seq,.int .i64 wall,.int .i64 count,.int .i64 d0,.int .i64 d1,.int .i64 d2,.int .i64 d3,.slice A ws.length c] 44)).heap[w.heap.size]?=some (.cells #[.int .i64 (st:Int),.int .i64 seq,.int .i64 wall,.int .i64 count,.int .i64 d0,.int .i64 d1,.int .i64 d2,.int .i64 d3,.slice A ws.length c] 44) from blk_new rfl _)
 have ca:=HS.out.apc hst4
 have hap:=HI.out.ap (st:Int)
 obtain ⟨ap,hape⟩:∃ ap,s.at (st:Int)=ap:=⟨_,rfl⟩
 have HAP:=hidp hape
 rw [hape] at ca hap
 obtain ⟨ha0,ha1⟩:=hap
 have hwr:IntKind.i64.wrap (ap+1)=ap+1:=by rw [IntKind.wrap_i64];omega
 clear hBw hape
 by_cases hsq:seq≤ap
 ·have HE:Hid (rTakeE s.r (⟨(st:Int),seq,wall,count,d0,d1,d2,d3,ws⟩:TxP)=9):=hidp (by rw [HTE.out,if_neg HN1.out,if_pos (by rw [HAP.out];exact hsq)])
  have hsd:decide (seq≤ap)=true:=decide_eq_true hsq
  clear hsq
  unfold MTx.val
  go_enter Tryz.func18,Tryz.ntmps18
  go_wp2_with fail
  refine wp_region_plus (by kernel_rfl) (by kernel_rfl) ?_
  repeat (first | go_big_quiet_skip | (go_big_quiet_want;go_big_quiet_op;first | go_big_quiet_on | (apply Exists.intro;refine ⟨fun _=>?_,?_⟩;(go_at_call 86;exact Calls.plus_of (HRT.out _ (by repeat (first | exact Below.refl _ _ | refine blw_alloc ?_ | refine blw_plus ?_ | refine Below.drew ?_))));go_big_quiet_on)))
  refine wpQuiet_nil ?_
  rintro _ ⟨x1,rfl⟩
  go_wp2_with fail
  refine wp_region_plus (by kernel_rfl) (by kernel_rfl) ?_
  repeat (first | go_big_quiet_skip | (go_big_quiet_want;go_big_quiet_op;first | go_big_quiet_on))
  refine wpQuiet_nil ?_
  rintro _ ⟨x2,rfl⟩
  go_wp2_with fail
  go_ret
  exact HDN.out 9 _ (by decide) HE.out (by repeat (first | exact Below.refl _ _ | refine blw_alloc ?_ | refine blw_plus ?_ | refine Below.drew ?_))
 have hsd:decide (seq≤ap)=false:=decide_eq_false hsq
 have HN2:Hid (s.at (st:Int)<seq):=hidp (by rw [HAP.out];omega)
 have c8:=HS.out.c8
 have hxw:=HS.out.wat
 unfold MTx.val
 go_enter Tryz.func18,Tryz.ntmps18
 go_wp2_with fail
 refine wp_region_plus (by kernel_rfl) (by kernel_rfl) ?_
 repeat (first | go_big_quiet_skip | (go_big_quiet_want;go_big_quiet_op;first | go_big_quiet_on | (apply Exists.intro;refine ⟨fun _=>?_,?_⟩;(go_at_call 86;exact Calls.plus_of (HRT.out _ (by repeat (first | exact Below.refl _ _ | refine blw_alloc ?_ | refine blw_plus ?_ | refine Below.drew ?_))));go_big_quiet_on)))
 refine wpQuiet_nil ?_
 rintro _ ⟨x1,rfl⟩
 go_wp2_with fail
 refine wp_region_plus (by kernel_rfl) (by kernel_rfl) ?_
 repeat (first | go_big_quiet_skip | (go_big_quiet_want;go_big_quiet_op;first | go_big_quiet_on))
 refine wpQuiet_nil ?_
 rintro _ ⟨x2,rfl⟩
 go_wp2_with fail
 have HBW1:Hid (Below w.heap.size w (wplus (wplus (w.alloc (.cells #[.int .i64 (st:Int),.int .i64 seq,.int .i64 wall,.int .i64 count,.int .i64 d0,.int .i64 d1,.int .i64 d2,.int .i64 d3,.slice A ws.length c] 44)) x1) x2)):=hidp (by repeat (first | exact Below.refl _ _ | refine blw_alloc ?_ | refine blw_plus ?_ | refine Below.drew ?_))
 have HBX1:Hid ((wplus (wplus (w.alloc (.cells #[.int .i64 (st:Int),.int .i64 seq,.int .i64 wall,.int .i64 count,.int .i64 d0,.int .i64 d1,.int .i64 d2,.int .i64 d3,.slice A ws.length c] 44)) x1) x2).heap[w.heap.size]?=some (.cells #[.int .i64 (st:Int),.int .i64 seq,.int .i64 wall,.int .i64 count,.int .i64 d0,.int .i64 d1,.int .i64 d2,.int .i64 d3,.slice A ws.length c] 44)):=hidp ((show Below (w.alloc (.cells #[.int .i64 (st:Int),.int .i64 seq,.int .i64 wall,.int .i64 count,.int .i64 d0,.int .i64 d1,.int .i64 d2,.int .i64 d3,.slice A ws.length c] 44)).heap.size (w.alloc (.cells #[.int .i64 (st:Int),.int .i64 seq,.int .i64 wall,.int .i64 count,.int .i64 d0,.int .i64 d1,.int .i64 d2,.int .i64 d3,.slice A ws.length c] 44)) (wplus (wplus (w.alloc (.cells #[.int .i64 (st:Int),.int .i64 seq,.int .i64 wall,.int .i64 count,.int .i64 d0,.int .i64 d1,.int .i64 d2,.int .i64 d3,.slice A ws.length c] 44)) x1) x2) from zB).block _ (by simp) |>.trans HBX.out)
 clear ca c0 c8 hxw HS1 HB1 HBX hsd hie hsq
 generalize wplus (wplus (w.alloc (.cells #[.int .i64 (st:Int),.int .i64 seq,.int .i64 wall,.int .i64 count,.int .i64 d0,.int .i64 d1,.int .i64 d2,.int .i64 d3,.slice A ws.length c] 44)) x1) x2=W1 at *
 have HZ1:=hidp HBW1.out.size
 go_loopw [39] (fun i W=>∃ j:Nat,i=.int .i64 j∧j≤s.ws.length∧Below W1.heap.size W1 W∧Hid (sameR s (⟨(st:Int),seq,wall,count,d0,d1,d2,d3,ws⟩:TxP) j=false)) (fun i _=>s.ws.length-(intOf i).toNat)
 case atStart=>exact ⟨0,rfl,Nat.zero_le _,Below.refl _ _,hidp rfl⟩
 case round=>as_aux_lemma=>
  obtain ⟨j,rfl,hj,hbj,HSJ⟩:=hrel
  obtain ⟨W,rfl⟩:∃ W:World,W=wr:=⟨_,rfl⟩
  have HBJ:=hidp hbj
  have HBW:=hidp (HBW1.out.trans (hbj.mono HZ1.out))
  have HBX2:=hidp ((hbj.block _ (lt_blk HBX1.out)).trans HBX1.out)
  clear hbj
  have HSW:=hidp (HS.out.below HBW.out)
  have e0:=cell_blk HBX2.out 0;have e1:=cell_blk HBX2.out 1;have e2:=cell_blk HBX2.out 2;have e3:=cell_blk HBX2.out 3;have e4:=cell_blk HBX2.out 4;have e5:=cell_blk HBX2.out 5;have e6:=cell_blk HBX2.out 6;have e7:=cell_blk HBX2.out 7;have e8:=cell_blk HBX2.out 8
  simp only [zC,zD,zE] at e0 e1 e2 e3 e4 e5 e6 e7 e8
  haveI:SzGe (w.heap.size+1) W:=⟨lt_blk HBX2.out⟩
  by_cases hjl:j<s.ws.length
  ·have hjd:decide ((j:Int)<(s.ws.length:Int))=true:=decide_eq_true (by omega)
   have hm:s.ws[j]?=some s.ws[j]:=List.getElem?_eq_getElem hjl
   obtain ⟨gb,go,rfl,hgb,k0,k1,k2,k3,k4,k5,k6,k7,k8⟩:=HSW.out.wat.1 j _ hm
   have HSC:=hidp (sameR_succ (t:=(⟨(st:Int),seq,wall,count,d0,d1,d2,d3,ws⟩:TxP)) hm)
   have HHT:=hidp (sameR_hit (t:=(⟨(st:Int),seq,wall,count,d0,d1,d2,d3,ws⟩:TxP)) hm)
   clear hm
   generalize s.ws[j]=m at *
   obtain ⟨⟨msite,mseq,mwall,mcount,md0,md1,md2,md3,mws⟩,mA,mc⟩:=m
   simp only at k0 k1 k2 k3 k4 k5 k6 k7 k8 HSC HHT
   haveI:SzGe (gb+1) W:=⟨hgb⟩
   by_cases hs1:msite=(st:Int)
   ·have hd1:(msite==(st:Int))=true:=by simp [hs1]
    by_cases hs2:mseq=seq
    ·have hd2:(mseq==seq)=true:=by simp [hs2]
     have HE:Hid (rTakeE s.r (⟨(st:Int),seq,wall,count,d0,d1,d2,d3,ws⟩:TxP)=9):=hidp (by rw [HTE.out,if_neg HN1.out,if_neg (by have:=HN2.out;omega),if_pos (HHT.out hs1 hs2)])
     clear hs1 hs2
     go_wp2_with fail
     go_ret
     exact HDN.out 9 _ (by decide) HE.out (HBW.out.trans (Below.mono (B:=W.heap.size) (by repeat (first | exact Below.refl _ _ | refine blw_alloc ?_ | refine blw_plus ?_ | refine Below.drew ?_)) HBW.out.size))
    ·have hd2:(mseq==seq)=false:=by simpa using hs2
     have HS2:=hidp hs2
     clear hs1 hs2
     go_wp2_with fail
     go_roundw
     case rel=>exact ⟨j+1,by go_num,by omega,HBJ.out.trans (Below.mono (B:=W.heap.size) (by repeat (first | exact Below.refl _ _ | refine blw_alloc ?_ | refine blw_plus ?_ | refine Below.drew ?_)) HBJ.out.size),hidp (by rw [HSC.out,HSJ.out,decide_eq_false HS2.out];simp)⟩
     case measure=>simp [intOf];omega
   ·have hd1:(msite==(st:Int))=false:=by simpa using hs1
    have HS2:=hidp hs1
    clear hs1
    go_wp2_with fail
    go_roundw
    case rel=>exact ⟨j+1,by go_num,by omega,HBJ.out.trans (Below.mono (B:=W.heap.size) (by repeat (first | exact Below.refl _ _ | refine blw_alloc ?_ | refine blw_plus ?_ | refine Below.drew ?_)) HBJ.out.size),hidp (by rw [HSC.out,HSJ.out,decide_eq_false HS2.out];simp)⟩
    case measure=>simp [intOf];omega
  ·obtain rfl:j=s.ws.length:=by omega
   have hjd:decide ((s.ws.length:Int)<(s.ws.length:Int))=false:=decide_eq_false (by omega)
   have HNS:Hid (¬rSame s.r (⟨(st:Int),seq,wall,count,d0,d1,d2,d3,ws⟩:TxP)=true):=hidp (by rw [←sameR_all,HSJ.out];simp)
   have ca:=HSW.out.apc hst4
   rw [HAP.out] at ca
   obtain ⟨v1,v2,v3,v4⟩:=HSW.out.vec
   have hst0:(0:Int)≤(st:Int):=by omega
   have hst5:(st:Int)<4:=by omega
   haveI:SzGe (y+1) W:=⟨HSW.out.sto.lt⟩
   have HRD:Hid (rReady s.r (⟨(st:Int),seq,wall,count,d0,d1,d2,d3,ws⟩:TxP)=(decide (seq=ap+1)&&covD s.p0 s.p1 s.p2 s.p3 d0 d1 d2 d3)):=hidp (by rw [←HAP.out];rfl)
   obtain ⟨rd,hrd⟩:∃ rd,rReady s.r (⟨(st:Int),seq,wall,count,d0,d1,d2,d3,ws⟩:TxP)=rd:=⟨_,rfl⟩
   rw [hrd] at HRD
   have HRY:=hidp hrd
   clear hrd HSJ
   go_upto_region 11 with fail
   go_cut [7] (fun s7 W'=>s7=.bool rd∧Below W.heap.size W W')
   case first=>as_aux_lemma=>
    by_cases hq:seq=ap+1
    ·have hd1:(seq==ap+1)=true:=by simp [hq]
     have HCV:=hidp fun X=>rCovers_is (show covD s.p0 s.p1 s.p2 s.p3 d0 d1 d2 d3=rd by rw [HRD.out,decide_eq_true hq];simp) X
     clear hq
     refine wp_region_plus (by kernel_rfl) (by kernel_rfl) ?_
     repeat (first | go_big_quiet_skip | (go_big_quiet_want;go_big_quiet_op;first | go_big_quiet_on | (apply Exists.intro;refine ⟨fun _=>?_,?_⟩;(go_at_call 73;exact Calls.plus_of (HCV.out _));go_big_quiet_on)))
     refine wpQuiet_nil ?_
     rintro _ ⟨x3,rfl⟩
     go_wp2_with fail
     go_meet
     exact ⟨rfl,zB⟩
    ·have hd1:(seq==ap+1)=false:=by simpa using hq
     obtain rfl:rd=false:=by rw [HRD.out,decide_eq_false hq];rfl
     clear hq
     refine wp_region_plus (by kernel_rfl) (by kernel_rfl) ?_
     repeat (first | go_big_quiet_skip | (go_big_quiet_want;go_big_quiet_op;first | go_big_quiet_on))
     refine wpQuiet_nil ?_
     rintro _ ⟨x3,rfl⟩
     go_wp2_with fail
     go_meet
     exact ⟨rfl,zB⟩
   case rest=>
    obtain ⟨rfl,hb3⟩:=hcut
    obtain ⟨W3,rfl⟩:∃ W3:World,W3=wc:=⟨_,rfl⟩
    have HB3:=hidp hb3
    have HBW3:=hidp (HBW.out.trans (hb3.mono HBW.out.size))
    have HBX3:=hidp ((hb3.block _ (lt_blk HBX2.out)).trans HBX2.out)
    have HS3:=hidp (HS.out.below HBW3.out)
    clear hb3 HB3 HBX2 HSW HBJ HRT ca v1 v2 v3 v4 e0 e1 e2 e3 e4 e5 e6 e7 e8
    have c7:=HS3.out.c7
    have c8:=HS3.out.c8
    haveI:SzGe (y+1) W3:=⟨HS3.out.sto.lt⟩
    haveI:SzGe (w.heap.size+1) W3:=⟨lt_blk HBX3.out⟩
    obtain ⟨f12,hf12⟩:∃ f12,(decide (200≤s.log.length)||(decide (40≤s.ws.length)&&!rd))=f12:=⟨_,rfl⟩
    have HF12:=hidp hf12
    clear hf12
    go_upto_region 12 with fail
    go_cut [93] (fun s93 W'=>s93=.bool f12∧W3=W')
    case first=>as_aux_lemma=>
     by_cases h2:200≤s.log.length
     ·have hd2:decide ((200:Int)≤(s.log.length:Int))=true:=decide_eq_true (by omega)
      obtain rfl:f12=true:=by rw [←HF12.out,decide_eq_true h2];rfl
      clear h2 HF12
      go_wp2_with fail
      go_meet
      exact ⟨rfl,rfl⟩
     ·have hd2:decide ((200:Int)≤(s.log.length:Int))=false:=decide_eq_false (by omega)
      by_cases h4:40≤s.ws.length
      ·have hd4:decide ((40:Int)≤(s.ws.length:Int))=true:=decide_eq_true (by omega)
       obtain rfl:f12=!rd:=by rw [←HF12.out,decide_eq_false h2,decide_eq_true h4];simp
       clear h2 h4 HF12
       go_wp2_with fail
       go_meet
       exact ⟨by simp,rfl⟩
      ·have hd4:decide ((40:Int)≤(s.ws.length:Int))=false:=decide_eq_false (by omega)
       obtain rfl:f12=false:=by rw [←HF12.out,decide_eq_false h2,decide_eq_false h4];rfl
       clear h2 h4 HF12
       go_wp2_with fail
       go_meet
       exact ⟨by simp,rfl⟩
    case rest=>
     obtain ⟨rfl,rfl⟩:=hcut
     cases f12
     case true=>
      have HE:Hid (rTakeE s.r (⟨(st:Int),seq,wall,count,d0,d1,d2,d3,ws⟩:TxP)=12):=hidp (by
       have h1:=HF12.out
       simp at h1
       rw [HTE.out,if_neg HN1.out,if_neg (by have:=HN2.out;omega),if_neg HNS.out,if_pos (by rw [HRY.out];exact h1)])
      go_wp2_with fail
      go_ret
      exact HDN.out 12 _ (by decide) HE.out HBW3.out
     case false=>
      have HE:Hid (rTakeE s.r (⟨(st:Int),seq,wall,count,d0,d1,d2,d3,ws⟩:TxP)=0):=hidp (by
       have h1:=HF12.out
       simp at h1
       rw [HTE.out,if_neg HN1.out,if_neg (by have:=HN2.out;omega),if_neg HNS.out,if_neg (by rw [HRY.out];rintro (h2 | ⟨h2,h3⟩) <;> simp_all <;> omega)])
      clear HF12 HDN HTE HNS HRD HRY
      have hbx3:=HBX3.out
      have e0:=cell_blk hbx3 0;have e1:=cell_blk hbx3 1;have e2:=cell_blk hbx3 2;have e3:=cell_blk hbx3 3;have e4:=cell_blk hbx3 4;have e5:=cell_blk hbx3 5;have e6:=cell_blk hbx3 6;have e7:=cell_blk hbx3 7;have e8:=cell_blk hbx3 8
      simp only [zC,zD,zE] at e0 e1 e2 e3 e4 e5 e6 e7 e8
      have z8:=frozen_blk HBX3.out 8
      clear hbx3
      go_wp2_with (at_builtin;go_must (refine wpList_append_ws _ rfl _ _ rfl W3.heap.size rfl (blk_new rfl _) A c ws rfl (HWS.out.below (HBW3.out.trans (Below.mono (B:=W3.heap.size) (by repeat (first | exact Below.refl _ _ | refine blw_alloc ?_ | refine blw_plus ?_ | refine Below.drew ?_)) HBW3.out.size))) (by omega) (by omega) ?_))
      intro b1 c1 w4 hw4 hg4 hl4 hlt4
      have hb4:Below W3.heap.size W3 w4:=Below.grown (blw_alloc (Below.refl _ _)) hg4 (by simp) (fun j e=>by simp at e;omega)
      have HB4:=hidp (HBW3.out.trans (hb4.mono HBW3.out.size))
      have HBX4:=hidp ((hb4.block _ (lt_blk HBX3.out)).trans HBX3.out)
      have HW4:=hidp hw4
      have HN4:Hid (W3.heap.size≤b1∧b1<w4.heap.size):=hidp ⟨by rcases hl4 with e | e <;> (try simp at e) <;> omega,hlt4⟩
      clear hw4 hg4 hl4 hlt4 hb4 z8 e0 e1 e2 e3 e4 e5 e6 e7 e8 c7 c8
      have q8:=cell_blk HBX4.out 8
      simp only [zC,zD,zE] at q8
      have z8:=frozen_blk HBX4.out 8
      haveI:SzGe (w.heap.size+1) w4:=⟨lt_blk HBX4.out⟩
      go_upto_region 15 with fail
      have HBX5:=hidp (blk_set HBX4.out 8 (.slice (some ⟨b1,0,none⟩) ws.length c1))
      have HB5:Hid (Below w.heap.size w (w4.setCell ⟨w.heap.size,8,none⟩ (.slice (some ⟨b1,0,none⟩) ws.length c1))):=hidp (Below.grown HB4.out (grown_set w4 w.heap.size 8 _) HB4.out.size (fun j e=>by simp at e;omega))
      have HN5:Hid (w.heap.size<b1∧b1<(w4.setCell ⟨w.heap.size,8,none⟩ (.slice (some ⟨b1,0,none⟩) ws.length c1)).heap.size):=hidp (by
       have h1:=HN4.out;have h2:=lt_blk HBX3.out
       refine ⟨by omega,?_⟩
       simp [World.setCell];exact h1.2)
      have HW5:=hidp (HW4.out.keep (w':=w4.setCell ⟨w.heap.size,8,none⟩ (.slice (some ⟨b1,0,none⟩) ws.length c1)) (fun b o e=>by
       obtain ⟨rfl,_⟩:b1=b∧0=o:=by simpa using e
       exact (grown_set w4 w.heap.size 8 _).block _ HN4.out.2 (by simp;have:=HN5.out.1;omega)))
      clear q8 z8 HBX4 HB4 HW4 HN4 HBX3 HS3
      generalize w4.setCell ⟨w.heap.size,8,none⟩ (.slice (some ⟨b1,0,none⟩) ws.length c1)=W5 at *
      have hbx5:W5.heap[w.heap.size]?=some (.cells #[.int .i64 (st:Int),.int .i64 seq,.int .i64 wall,.int .i64 count,.int .i64 d0,.int .i64 d1,.int .i64 d2,.int .i64 d3,.slice (some ⟨b1,0,none⟩) ws.length c1] 44):=HBX5.out
      have HS5:=hidp (HS.out.below HB5.out)
      have c8:=HS5.out.c8
      have z8:=HS5.out.frz 8
      have e0:=cell_blk hbx5 0;have e1:=cell_blk hbx5 1;have e2:=cell_blk hbx5 2;have e3:=cell_blk hbx5 3;have e4:=cell_blk hbx5 4;have e5:=cell_blk hbx5 5;have e6:=cell_blk hbx5 6;have e7:=cell_blk hbx5 7;have e8:=cell_blk hbx5 8
      simp only [zC,zD,zE] at e0 e1 e2 e3 e4 e5 e6 e7 e8
      haveI:SzGe (y+1) W5:=⟨HS5.out.sto.lt⟩
      haveI:SzGe (w.heap.size+1) W5:=⟨lt_blk hbx5⟩
      clear hbx5
      have hyl:y<W5.heap.size:=HS5.out.sto.lt
      have hwl:w.heap.size<W5.heap.size:=lt_blk HBX5.out
      have HXW:=hidp HS5.out.wat.1
      have HXO:Hid (∀ b o,wA=some ⟨b,o,none⟩→b<W5.heap.size):=hidp (fun b o e=>(HS5.out.wat.2.2 b o e).1)
      have HW9:Hid (s.ws.length≤1000):=hidp (by have:=HWN.out;omega)
      have HNO:Hid (∀ b,w.heap.size≤b→¬RsOwn y (.slice Al s.log.length cl) av b):=hidp (fun b hb e=>by have:=(HS.out.lt e).2;omega)
      have HZ5:=hidp HB5.out.size
      have HSK:Hid (∀ X:World,Below W5.heap.size W5 X→(Below W5.heap.size W5 X∧X.cell? ⟨y,8,none⟩=some (.slice wA s.ws.length cw)∧X.frozen? ⟨y,8,none⟩=false∧X.cell? ⟨w.heap.size,0,none⟩=some (.int .i64 (st:Int))∧X.cell? ⟨w.heap.size,1,none⟩=some (.int .i64 seq)∧X.cell? ⟨w.heap.size,2,none⟩=some (.int .i64 wall)∧X.cell? ⟨w.heap.size,3,none⟩=some (.int .i64 count)∧X.cell? ⟨w.heap.size,4,none⟩=some (.int .i64 d0)∧X.cell? ⟨w.heap.size,5,none⟩=some (.int .i64 d1)∧X.cell? ⟨w.heap.size,6,none⟩=some (.int .i64 d2)∧X.cell? ⟨w.heap.size,7,none⟩=some (.int .i64 d3)∧X.cell? ⟨w.heap.size,8,none⟩=some (.slice (some ⟨b1,0,none⟩) ws.length c1))):=hidp (fun X hb=>⟨hb,(hb.cell (p:=⟨y,8,none⟩) hyl).trans c8,(World.frozen?_of_block (a:=⟨y,8,none⟩) (hb.block y hyl)).trans z8,(hb.cell (p:=⟨w.heap.size,0,none⟩) hwl).trans e0,(hb.cell (p:=⟨w.heap.size,1,none⟩) hwl).trans e1,(hb.cell (p:=⟨w.heap.size,2,none⟩) hwl).trans e2,(hb.cell (p:=⟨w.heap.size,3,none⟩) hwl).trans e3,(hb.cell (p:=⟨w.heap.size,4,none⟩) hwl).trans e4,(hb.cell (p:=⟨w.heap.size,5,none⟩) hwl).trans e5,(hb.cell (p:=⟨w.heap.size,6,none⟩) hwl).trans e6,(hb.cell (p:=⟨w.heap.size,7,none⟩) hwl).trans e7,(hb.cell (p:=⟨w.heap.size,8,none⟩) hwl).trans e8⟩)
      have HFIN:Hid (∀ (w7:World) (A7:Option Addr) (c7:Nat),w7.ownsRow W5.heap.size 44 9 (.slice A7 (s.ws++[(⟨(⟨(st:Int),seq,wall,count,d0,d1,d2,d3,ws⟩:TxP),some ⟨b1,0,none⟩,c1⟩:MTx)]).length c7) (s.ws++[(⟨(⟨(st:Int),seq,wall,count,d0,d1,d2,d3,ws⟩:TxP),some ⟨b1,0,none⟩,c1⟩:MTx)]).length ((s.ws++[(⟨(⟨(st:Int),seq,wall,count,d0,d1,d2,d3,ws⟩:TxP),some ⟨b1,0,none⟩,c1⟩:MTx)]).flatMap MTx.cells)→Below W5.heap.size W5 w7→
        (fun X=>∃ (A7:Option Addr) (c7:Nat),RsAt X B y { s with ws:=s.ws++[(⟨(⟨(st:Int),seq,wall,count,d0,d1,d2,d3,ws⟩:TxP),some ⟨b1,0,none⟩,c1⟩:MTx)] } (.slice Al s.log.length cl) A7 c7 av∧SiFr w X (RsOwn y (.slice Al s.log.length cl) av) (RsOwn y (.slice Al s.log.length cl) av)∧∀ b o,A7=some ⟨b,o,none⟩→w.heap.size≤b) (w7.setCell ⟨y,8,none⟩ (.slice A7 (s.ws++[(⟨(⟨(st:Int),seq,wall,count,d0,d1,d2,d3,ws⟩:TxP),some ⟨b1,0,none⟩,c1⟩:MTx)]).length c7))):=hidp (fun w7 A7 c7 ho hB7=>by
          have hb7:=HB5.out.trans (hB7.mono HZ5.out)
          have hs7:=(HS.out.below hb7).waits (ws':=s.ws++[(⟨(⟨(st:Int),seq,wall,count,d0,d1,d2,d3,ws⟩:TxP),some ⟨b1,0,none⟩,c1⟩:MTx)]) (own_xs ho) (own_cap ho) (fun b o e=>by
           obtain ⟨h1,h2⟩:=own_ge ho (show (Value.slice A7 (s.ws++[(⟨(⟨(st:Int),seq,wall,count,d0,d1,d2,d3,ws⟩:TxP),some ⟨b1,0,none⟩,c1⟩:MTx)]).length c7).ownBlock=some b by rw [e];rfl)
           exact ⟨h2,HNO.out b (by have:=HZ5.out;omega)⟩) (fun m hm=>by
           rcases List.mem_append.1 hm with h1 | h1
           ·exact (HS.out.below hb7).dat m (.inr h1)
           ·obtain rfl:m=(⟨(⟨(st:Int),seq,wall,count,d0,d1,d2,d3,ws⟩:TxP),some ⟨b1,0,none⟩,c1⟩:MTx):=by simpa using h1
            refine ⟨HW5.out.below hB7,fun b o e=>?_⟩
            obtain ⟨rfl,_⟩:b1=b∧0=o:=by simpa using e
            exact ⟨by have:=HN5.out;have:=hB7.size;omega,HNO.out _ (by have:=HN5.out;omega)⟩)
          refine ⟨A7,c7,hs7,(SiFr.of_below _ hb7).trans (SiFr.setR _),fun b o e=>?_⟩
          have:=(own_ge ho (show (Value.slice A7 (s.ws++[(⟨(⟨(st:Int),seq,wall,count,d0,d1,d2,d3,ws⟩:TxP),some ⟨b1,0,none⟩,c1⟩:MTx)]).length c7).ownBlock=some b by rw [e];rfl)).1
          have:=HZ5.out
          omega)
      clear c8 z8 e0 e1 e2 e3 e4 e5 e6 e7 e8
      go_cut [3] (fun s3 X=>s3=.pointer (some ⟨w.heap.size,0,none⟩)∧∃ (A7:Option Addr) (c7:Nat),RsAt X B y { s with ws:=s.ws++[(⟨(⟨(st:Int),seq,wall,count,d0,d1,d2,d3,ws⟩:TxP),some ⟨b1,0,none⟩,c1⟩:MTx)] } (.slice Al s.log.length cl) A7 c7 av∧SiFr w X (RsOwn y (.slice Al s.log.length cl) av) (RsOwn y (.slice Al s.log.length cl) av)∧∀ b o,A7=some ⟨b,o,none⟩→w.heap.size≤b)
      case first=>as_aux_lemma=>
       refine wp_region_split 10 (S:=(fun X=>Below W5.heap.size W5 X∧X.cell? ⟨y,8,none⟩=some (.slice wA s.ws.length cw)∧X.frozen? ⟨y,8,none⟩=false∧X.cell? ⟨w.heap.size,0,none⟩=some (.int .i64 (st:Int))∧X.cell? ⟨w.heap.size,1,none⟩=some (.int .i64 seq)∧X.cell? ⟨w.heap.size,2,none⟩=some (.int .i64 wall)∧X.cell? ⟨w.heap.size,3,none⟩=some (.int .i64 count)∧X.cell? ⟨w.heap.size,4,none⟩=some (.int .i64 d0)∧X.cell? ⟨w.heap.size,5,none⟩=some (.int .i64 d1)∧X.cell? ⟨w.heap.size,6,none⟩=some (.int .i64 d2)∧X.cell? ⟨w.heap.size,7,none⟩=some (.int .i64 d3)∧X.cell? ⟨w.heap.size,8,none⟩=some (.slice (some ⟨b1,0,none⟩) ws.length c1))) (by kernel_rfl) (by kernel_rfl) ?_ (fun hHeld=>?_)
       ·exact HSK.out _ (by repeat (first | exact HB7.out | exact HB6.out | exact Below.refl _ _ | refine Below.drew ?_ | refine blw_alloc ?_))
       simp only [List.take_succ_cons,List.take_zero,List.drop_succ_cons,List.drop_zero]
       refine takeL 0 rfl (by as_aux_lemma=>kernel_rfl) (by as_aux_lemma=>kernel_rfl) (by as_aux_lemma=>kernel_rfl) (fun _ _ _ h=>h) hHeld (by rfl) (v:=?_) ?_ ?_
       rotate_left
       ·intro w hSw
        (try dsimp only at hSw)
        go_simp
        all_goals (with_reducible rfl)
       try simp only [Act.put,zF,zG,zH]
       refine takeL 2 rfl (by as_aux_lemma=>kernel_rfl) (by as_aux_lemma=>kernel_rfl) (by as_aux_lemma=>kernel_rfl) (fun _ _ _ h=>h) hHeld (by rfl) (v:=?_) ?_ ?_
       rotate_left
       ·intro w hSw
        (try dsimp only at hSw)
        go_simp
        all_goals (with_reducible rfl)
       try simp only [Act.put,zF,zG,zH]
       refine takeL 3 rfl (by as_aux_lemma=>kernel_rfl) (by as_aux_lemma=>kernel_rfl) (by as_aux_lemma=>kernel_rfl) (fun _ _ _ h=>h) hHeld (by rfl) (v:=?_) ?_ ?_
       rotate_left
       ·intro w hSw
        (try dsimp only at hSw)
        go_simp
        all_goals (with_reducible rfl)
       try simp only [Act.put,zF,zG,zH]
       refine takeL 4 rfl (by as_aux_lemma=>kernel_rfl) (by as_aux_lemma=>kernel_rfl) (by as_aux_lemma=>kernel_rfl) (fun _ _ _ h=>h) hHeld (by rfl) (v:=?_) ?_ ?_
       rotate_left
       ·intro w hSw
        (try dsimp only at hSw)
        go_simp
        all_goals (with_reducible rfl)
       try simp only [Act.put,zF,zG,zH]
       refine takeL 5 rfl (by as_aux_lemma=>kernel_rfl) (by as_aux_lemma=>kernel_rfl) (by as_aux_lemma=>kernel_rfl) (fun _ _ _ h=>h) hHeld (by rfl) (v:=?_) ?_ ?_
       rotate_left
       ·intro w hSw
        (try dsimp only at hSw)
        go_simp
        all_goals (with_reducible rfl)
       try simp only [Act.put,zF,zG,zH]
       refine takeL 7 rfl (by as_aux_lemma=>kernel_rfl) (by as_aux_lemma=>kernel_rfl) (by as_aux_lemma=>kernel_rfl) (fun _ _ _ h=>h) hHeld (by rfl) (v:=?_) ?_ ?_
       rotate_left
       ·intro w hSw
        (try dsimp only at hSw)
        go_simp
        all_goals (with_reducible rfl)
       try simp only [Act.put,zF,zG,zH]
       refine wpAnyH_ready (rs:=[1,8]) (by as_aux_lemma=>kernel_rfl) (by simp) ?_
       refine consL rfl (fun K hK=>?_) ?_
       ·as_aux_lemma=>
        go_simp
        refine hK.out _ _ ?_ (fun hNew=>?_)
        ·exact HSK.out _ (by repeat (first | exact HB7.out | exact HB6.out | exact Below.refl _ _ | refine Below.drew ?_ | refine blw_alloc ?_))
        clear hHeld
        have hHeld:=hNew
        clear hNew hK K
        try simp only [Act.put,zF,zG,zH]
        refine wpAnyH_ready (rs:=[6,8]) (by as_aux_lemma=>kernel_rfl) (by simp) ?_
        refine consL rfl (fun K hK=>?_) ?_
        ·as_aux_lemma=>
         refine step_append_xs_0 _ rfl (.tmp 100) (.tmp 104) rfl W5.heap.size W5.heap.size (by simp [Act.eval,Act.put]) (by rw [heap_drew];exact blk_new rfl _) (Nat.le_refl _) wA cw s.ws (by simp [Act.eval,Act.put]) (HXW.out.below hHeld.1) HW9.out ?_
         intro A6 c6 w6 hown6 hgrow6
         have HB6:=hidp (Below.grown hHeld.1 hgrow6 hHeld.1.size (fun j e=>by simp at e;omega))
         have HO6:=hidp hown6
         haveI hs1:SzGe W5.heap.size w6:=⟨HB6.out.size⟩
         clear hown6 hgrow6
         refine hK.out _ _ ?_ (fun hNew=>?_)
         ·exact HSK.out _ (by repeat (first | exact HB7.out | exact HB6.out | exact Below.refl _ _ | refine Below.drew ?_ | refine blw_alloc ?_))
         clear hHeld
         have hHeld:=hNew
         clear hNew hK K
         try simp only [Act.put,zF,zG,zH]
         refine wpAnyH_ready (rs:=[8]) (by as_aux_lemma=>kernel_rfl) (by simp) ?_
         refine consL rfl (fun K hK=>?_) ?_
         ·as_aux_lemma=>
          refine step_build_tx rfl (.tmp 106) rfl (.int .i64 (st:Int)) (.int .i64 seq) (.int .i64 wall) (.int .i64 count) (.int .i64 d0) (.int .i64 d1) (.int .i64 d2) (.int .i64 d3) (.slice (some ⟨b1,0,none⟩) ws.length c1) (by simp [Act.eval,Act.put]) ?_
          refine hK.out _ _ ?_ (fun hNew=>?_)
          ·exact HSK.out _ (by repeat (first | exact HB7.out | exact HB6.out | exact Below.refl _ _ | refine Below.drew ?_ | refine blw_alloc ?_))
          clear hHeld
          have hHeld:=hNew
          clear hNew hK K
          try simp only [Act.put,zF,zG,zH]
          refine wpAnyH_ready (rs:=[9]) (by as_aux_lemma=>kernel_rfl) (by simp) ?_
          refine consL rfl (fun K hK=>?_) ?_
          ·as_aux_lemma=>
           refine step_append_xs _ rfl (.tmp 105) (.tmp 107) rfl W5.heap.size (.slice A6 s.ws.length c6) s.ws.length s.ws (by simp [Act.eval,Act.put]) (HO6.out.alloc _) (some ⟨w6.heap.size,0,none⟩) 1 [(⟨(⟨(st:Int),seq,wall,count,d0,d1,d2,d3,ws⟩:TxP),some ⟨b1,0,none⟩,c1⟩:MTx)] (by simp [Act.eval,Act.put]) (xs_one (m:=(⟨(⟨(st:Int),seq,wall,count,d0,d1,d2,d3,ws⟩:TxP),some ⟨b1,0,none⟩,c1⟩:MTx)) (blk_new rfl _)) (by show s.ws.length+1≤1000;have:=HWN.out;omega) hHeld.1.size rfl ?_
           intro A7 c7 w7 hown7 hgrow7 hat7
           have HB7:=hidp (Below.grown HB6.out (grown_alloc hgrow7) HB6.out.size (fun b e=>(own_ge HO6.out e).1))
           have HO7:=hidp hown7
           clear hown7 hgrow7 hat7
           refine hK.out _ _ ?_ (fun hNew=>?_)
           ·exact HSK.out _ (by repeat (first | exact HB7.out | exact HB6.out | exact Below.refl _ _ | refine Below.drew ?_ | refine blw_alloc ?_))
           clear hHeld
           have hHeld:=hNew
           clear hNew hK K
           try simp only [Act.put,zF,zG,zH]
           refine wpAnyH_done (by as_aux_lemma=>kernel_rfl) ?_ _
           refine headQ.normal ?_
           have k8:=hHeld.2.1
           have k9:=hHeld.2.2.1
           clear hHeld
           haveI hs3:SzGe (y+1) w7:=⟨by have:=HB7.out.size;omega⟩
           go_wp2_with fail
           go_meet
           have hfin:=HFIN.out _ _ _ HO7.out HB7.out
           simp only [List.length_append,List.length_cons,List.length_nil,Nat.zero_add] at hfin
           exact ⟨rfl,hfin⟩
          exact AllReadyH.nil
         exact AllReadyH.nil
        refine consL rfl (fun K hK=>?_) ?_
        ·as_aux_lemma=>
         refine step_build_tx rfl (.tmp 106) rfl (.int .i64 (st:Int)) (.int .i64 seq) (.int .i64 wall) (.int .i64 count) (.int .i64 d0) (.int .i64 d1) (.int .i64 d2) (.int .i64 d3) (.slice (some ⟨b1,0,none⟩) ws.length c1) (by simp [Act.eval,Act.put]) ?_
         refine hK.out _ _ ?_ (fun hNew=>?_)
         ·exact HSK.out _ (by repeat (first | exact HB7.out | exact HB6.out | exact Below.refl _ _ | refine Below.drew ?_ | refine blw_alloc ?_))
         clear hHeld
         have hHeld:=hNew
         clear hNew hK K
         try simp only [Act.put,zF,zG,zH]
         refine wpAnyH_ready (rs:=[6]) (by as_aux_lemma=>kernel_rfl) (by simp) ?_
         refine consL rfl (fun K hK=>?_) ?_
         ·as_aux_lemma=>
          refine step_append_xs_q _ rfl (.tmp 100) (.tmp 104) rfl W5.heap.size W5.heap.size (by simp [Act.eval,Act.put]) (by first | exact blk_new (by simp) _ | exact blk_alloc (blk_new rfl _) _) (by omega) wA cw s.ws (by simp [Act.eval,Act.put]) (HXW.out.below hHeld.1) HW9.out (W5.heap.size+1) (.cells #[.int .i64 (st:Int),.int .i64 seq,.int .i64 wall,.int .i64 count,.int .i64 d0,.int .i64 d1,.int .i64 d2,.int .i64 d3,.slice (some ⟨b1,0,none⟩) ws.length c1] 44) (by first | exact blk_new (by simp) _ | exact blk_alloc (blk_new rfl _) _) (by omega) ?_
          intro A6 c6 w6 hown6 hgrow6 hq6 hqr
          have HQ6:=hidp hq6
          clear hq6 hqr
          have HB6:=hidp (Below.grown hHeld.1 hgrow6 hHeld.1.size (fun j e=>by simp at e;omega))
          have HO6:=hidp hown6
          haveI hs1:SzGe W5.heap.size w6:=⟨HB6.out.size⟩
          clear hown6 hgrow6
          refine hK.out _ _ ?_ (fun hNew=>?_)
          ·exact HSK.out _ (by repeat (first | exact HB7.out | exact HB6.out | exact Below.refl _ _ | refine Below.drew ?_ | refine blw_alloc ?_))
          clear hHeld
          have hHeld:=hNew
          clear hNew hK K
          try simp only [Act.put,zF,zG,zH]
          refine wpAnyH_ready (rs:=[9]) (by as_aux_lemma=>kernel_rfl) (by simp) ?_
          refine consL rfl (fun K hK=>?_) ?_
          ·as_aux_lemma=>
           refine step_append_xs _ rfl (.tmp 105) (.tmp 107) rfl W5.heap.size (.slice A6 s.ws.length c6) s.ws.length s.ws (by simp [Act.eval,Act.put]) HO6.out (some ⟨(W5.heap.size+1),0,none⟩) 1 [(⟨(⟨(st:Int),seq,wall,count,d0,d1,d2,d3,ws⟩:TxP),some ⟨b1,0,none⟩,c1⟩:MTx)] (by simp [Act.eval,Act.put]) (xs_one (m:=(⟨(⟨(st:Int),seq,wall,count,d0,d1,d2,d3,ws⟩:TxP),some ⟨b1,0,none⟩,c1⟩:MTx)) HQ6.out) (by show s.ws.length+1≤1000;have:=HWN.out;omega) hHeld.1.size rfl ?_
           intro A7 c7 w7 hown7 hgrow7 hat7
           have HB7:=hidp (Below.grown HB6.out hgrow7 HB6.out.size (fun b e=>(own_ge HO6.out e).1))
           have HO7:=hidp hown7
           clear hown7 hgrow7 hat7
           refine hK.out _ _ ?_ (fun hNew=>?_)
           ·exact HSK.out _ (by repeat (first | exact HB7.out | exact HB6.out | exact Below.refl _ _ | refine Below.drew ?_ | refine blw_alloc ?_))
           clear hHeld
           have hHeld:=hNew
           clear hNew hK K
           try simp only [Act.put,zF,zG,zH]
           refine wpAnyH_done (by as_aux_lemma=>kernel_rfl) ?_ _
           refine headQ.normal ?_
           have k8:=hHeld.2.1
           have k9:=hHeld.2.2.1
           clear hHeld
           haveI hs3:SzGe (y+1) w7:=⟨by have:=HB7.out.size;omega⟩
           go_wp2_with fail
           go_meet
           have hfin:=HFIN.out _ _ _ HO7.out HB7.out
           simp only [List.length_append,List.length_cons,List.length_nil,Nat.zero_add] at hfin
           exact ⟨rfl,hfin⟩
          exact AllReadyH.nil
         exact AllReadyH.nil
        exact AllReadyH.nil
       refine consL rfl (fun K hK=>?_) ?_
       ·as_aux_lemma=>
        refine step_build_tx rfl (.tmp 106) rfl (.int .i64 (st:Int)) (.int .i64 seq) (.int .i64 wall) (.int .i64 count) (.int .i64 d0) (.int .i64 d1) (.int .i64 d2) (.int .i64 d3) (.slice (some ⟨b1,0,none⟩) ws.length c1) (by simp [Act.eval,Act.put]) ?_
        refine hK.out _ _ ?_ (fun hNew=>?_)
        ·exact HSK.out _ (by repeat (first | exact HB7.out | exact HB6.out | exact Below.refl _ _ | refine Below.drew ?_ | refine blw_alloc ?_))
        clear hHeld
        have hHeld:=hNew
        clear hNew hK K
        try simp only [Act.put,zF,zG,zH]
        refine wpAnyH_ready (rs:=[1]) (by as_aux_lemma=>kernel_rfl) (by simp) ?_
        refine consL rfl (fun K hK=>?_) ?_
        ·as_aux_lemma=>
         go_simp
         refine hK.out _ _ ?_ (fun hNew=>?_)
         ·exact HSK.out _ (by repeat (first | exact HB7.out | exact HB6.out | exact Below.refl _ _ | refine Below.drew ?_ | refine blw_alloc ?_))
         clear hHeld
         have hHeld:=hNew
         clear hNew hK K
         try simp only [Act.put,zF,zG,zH]
         refine wpAnyH_ready (rs:=[6]) (by as_aux_lemma=>kernel_rfl) (by simp) ?_
         refine consL rfl (fun K hK=>?_) ?_
         ·as_aux_lemma=>
          refine step_append_xs_q _ rfl (.tmp 100) (.tmp 104) rfl W5.heap.size (W5.heap.size+1) (by simp [Act.eval,Act.put]) (by first | exact blk_new (by simp) _ | exact blk_alloc (blk_new rfl _) _) (by omega) wA cw s.ws (by simp [Act.eval,Act.put]) (HXW.out.below hHeld.1) HW9.out W5.heap.size (.cells #[.int .i64 (st:Int),.int .i64 seq,.int .i64 wall,.int .i64 count,.int .i64 d0,.int .i64 d1,.int .i64 d2,.int .i64 d3,.slice (some ⟨b1,0,none⟩) ws.length c1] 44) (by first | exact blk_new (by simp) _ | exact blk_alloc (blk_new rfl _) _) (by omega) ?_
          intro A6 c6 w6 hown6 hgrow6 hq6 hqr
          have HQ6:=hidp hq6
          clear hq6 hqr
          have HB6:=hidp (Below.grown hHeld.1 hgrow6 hHeld.1.size (fun j e=>by simp at e;omega))
          have HO6:=hidp hown6
          haveI hs1:SzGe W5.heap.size w6:=⟨HB6.out.size⟩
          clear hown6 hgrow6
          refine hK.out _ _ ?_ (fun hNew=>?_)
          ·exact HSK.out _ (by repeat (first | exact HB7.out | exact HB6.out | exact Below.refl _ _ | refine Below.drew ?_ | refine blw_alloc ?_))
          clear hHeld
          have hHeld:=hNew
          clear hNew hK K
          try simp only [Act.put,zF,zG,zH]
          refine wpAnyH_ready (rs:=[9]) (by as_aux_lemma=>kernel_rfl) (by simp) ?_
          refine consL rfl (fun K hK=>?_) ?_
          ·as_aux_lemma=>
           refine step_append_xs _ rfl (.tmp 105) (.tmp 107) rfl W5.heap.size (.slice A6 s.ws.length c6) s.ws.length s.ws (by simp [Act.eval,Act.put]) HO6.out (some ⟨W5.heap.size,0,none⟩) 1 [(⟨(⟨(st:Int),seq,wall,count,d0,d1,d2,d3,ws⟩:TxP),some ⟨b1,0,none⟩,c1⟩:MTx)] (by simp [Act.eval,Act.put]) (xs_one (m:=(⟨(⟨(st:Int),seq,wall,count,d0,d1,d2,d3,ws⟩:TxP),some ⟨b1,0,none⟩,c1⟩:MTx)) HQ6.out) (by show s.ws.length+1≤1000;have:=HWN.out;omega) hHeld.1.size rfl ?_
           intro A7 c7 w7 hown7 hgrow7 hat7
           have HB7:=hidp (Below.grown HB6.out hgrow7 HB6.out.size (fun b e=>(own_ge HO6.out e).1))
           have HO7:=hidp hown7
           clear hown7 hgrow7 hat7
           refine hK.out _ _ ?_ (fun hNew=>?_)
           ·exact HSK.out _ (by repeat (first | exact HB7.out | exact HB6.out | exact Below.refl _ _ | refine Below.drew ?_ | refine blw_alloc ?_))
           clear hHeld
           have hHeld:=hNew
           clear hNew hK K
           try simp only [Act.put,zF,zG,zH]
           refine wpAnyH_done (by as_aux_lemma=>kernel_rfl) ?_ _
           refine headQ.normal ?_
           have k8:=hHeld.2.1
           have k9:=hHeld.2.2.1
           clear hHeld
           haveI hs3:SzGe (y+1) w7:=⟨by have:=HB7.out.size;omega⟩
           go_wp2_with fail
           go_meet
           have hfin:=HFIN.out _ _ _ HO7.out HB7.out
           simp only [List.length_append,List.length_cons,List.length_nil,Nat.zero_add] at hfin
           exact ⟨rfl,hfin⟩
          exact AllReadyH.nil
         exact AllReadyH.nil
        exact AllReadyH.nil
       exact AllReadyH.nil
      case rest=>
       obtain ⟨rfl,A7,c7,hsr,hfr,hnew⟩:=hcut
       obtain ⟨W6,rfl⟩:∃ W6:World,W6=wc:=⟨_,rfl⟩
       obtain ⟨F,hF⟩:∃ F,rRun (s.r.ws.length+1) { s.r with ws:=s.r.ws++[(⟨(st:Int),seq,wall,count,d0,d1,d2,d3,ws⟩:TxP)] }=F:=⟨_,rfl⟩
       have HF:=hidp hF
       clear hF
       have HL0:Hid (RLp w W6 B y s (⟨(⟨(st:Int),seq,wall,count,d0,d1,d2,d3,ws⟩:TxP),some ⟨b1,0,none⟩,c1⟩:MTx) (RsOwn y (.slice Al s.log.length cl) av) F { s with ws:=s.ws++[(⟨(⟨(st:Int),seq,wall,count,d0,d1,d2,d3,ws⟩:TxP),some ⟨b1,0,none⟩,c1⟩:MTx)] } (.slice Al s.log.length cl) A7 c7 av):=hidp ⟨hsr,hfr,⟨HI.out.id,HI.out.ap,fun m hm=>by
         rcases List.mem_append.1 hm with h1 | h1
         ·exact HI.out.rt m h1
         ·obtain rfl:m=(⟨(⟨(st:Int),seq,wall,count,d0,d1,d2,d3,ws⟩:TxP),some ⟨b1,0,none⟩,c1⟩:MTx):=by simpa using h1
          exact HRR.out,HI.out.len⟩,by rw [←HF.out];simp [RsP.r],by have:=HW9.out;have:=HWN.out;simp;omega,fun m hm=>by
         rcases hm with h1 | h1
         ·exact .inl (.inl h1)
         ·rcases List.mem_append.1 h1 with h2 | h2
          ·exact .inl (.inr h2)
          ·exact .inr (by simpa using h2),hnew⟩
       have HDN0:Hid (∀ (s1:RsP) (lv1:Value) (wA1:Option Addr) (wc1:Nat) (av1:Value) (wr:World),RLp w wr B y s (⟨(⟨(st:Int),seq,wall,count,d0,d1,d2,d3,ws⟩:TxP),some ⟨b1,0,none⟩,c1⟩:MTx) (RsOwn y (.slice Al s.log.length cl) av) F s1 lv1 wA1 wc1 av1→s1.r=F→RTakePost B y s (.slice Al s.log.length cl) wA cw av (⟨(st:Int),seq,wall,count,d0,d1,d2,d3,ws⟩:TxP) w (.returned (.int .i64 0)) wr):=hidp (fun s1 lv1 wA1 wc1 av1 wr h1 h2=>⟨by rw [HE.out],fun e=>absurd HE.out e,fun _=>⟨b1,c1,s1,lv1,wA1,wc1,av1,by have:=HN5.out.1;omega,h1.at_,h1.inv,by rw [h2,HF.out],h1.has,h1.fr,h1.new⟩⟩)
       try clear hsr;try clear hfr;try clear hnew;try clear hyl;try clear hwl;try clear HXW;try clear HXO;try clear HW9;try clear HNO;try clear HZ5;try clear HSK;try clear HFIN;try clear HBX5;try clear HB5;try clear HN5;try clear HW5;try clear HS5;try clear HF;try clear HS;try clear HI;try clear HRR;try clear HN1;try clear HN2;try clear HAP;try clear HBW1;try clear HBX1;try clear HB1;try clear HK;try clear HPT
       go_wp2_with fail
       go_loopw [] (fun wr=>∃ (s1:RsP) (lv1:Value) (wA1:Option Addr) (wc1:Nat) (av1:Value),RLp w wr B y s (⟨(⟨(st:Int),seq,wall,count,d0,d1,d2,d3,ws⟩:TxP),some ⟨b1,0,none⟩,c1⟩:MTx) (RsOwn y (.slice Al s.log.length cl) av) F s1 lv1 wA1 wc1 av1) (fun wr=>wLen wr y)
       case atStart=>exact ⟨_,_,_,_,_,HL0.out⟩
       case round=>as_aux_lemma=>
        obtain ⟨s1,lv1,wA1,wc1,av1,hl1⟩:=hrel
        obtain ⟨W,rfl⟩:∃ W:World,W=wr:=⟨_,rfl⟩
        have HL:=hidp hl1
        have hwl1:=hl1.len
        obtain ⟨Al1,cl1,rfl⟩:=own_form hl1.at_.row
        have c7:=hl1.at_.c7
        have c8:=hl1.at_.c8
        haveI:SzGe (y+1) W:=⟨hl1.at_.sto.lt⟩
        clear hl1 HL0
        by_cases h200:s1.log.length<200
        ·have hd200:decide ((s1.log.length:Int)<200)=true:=decide_eq_true (by omega)
         have HL2:=hidp h200
         clear h200
         go_wp2_with fail
         go_loopw [8,122] (fun bv iv X=>∃ (j:Nat) (bz:Int),iv=.int .i64 j∧bv=.int .i64 bz∧j≤s1.ws.length∧rbFrom s1 j bz=rBest s1.r∧(bz=-1∨∃ k:Nat,bz=(k:Int)∧k<s1.ws.length)∧Below W.heap.size W X) (fun _ iv _=>s1.ws.length-(intOf iv).toNat)
         case atStart=>exact ⟨0,-1,rfl,rfl,Nat.zero_le _,rbFrom_zero _,.inl rfl,zB⟩
         case round=>as_aux_lemma=>
          clear c7 c8
          obtain ⟨j,bz,rfl,rfl,hj,hrb,hbz,hbx⟩:=hrel
          obtain ⟨X,rfl⟩:∃ X:World,X=wr:=⟨_,rfl⟩
          have HBJ:=hidp hbx
          have HLX:=hidp (HL.out.below hbx)
          have HRB:=hidp hrb
          have HBZ:=hidp hbz
          have hbg:-1≤bz∧bz<(s1.ws.length:Int)∨bz=-1:=by
           rcases hbz with h1 | ⟨k,h1,h2⟩
           ·exact .inr h1
           ·exact .inl ⟨by omega,by omega⟩
          clear hbx hrb hbz
          by_cases hjl:j<s1.ws.length
          ·have hjd:decide ((j:Int)<(s1.ws.length:Int))=true:=decide_eq_true (by omega)
           have hm:s1.ws[j]?=some s1.ws[j]:=List.getElem?_eq_getElem hjl
           obtain ⟨gb,go,rfl,hgb,k0,k1,k2,k3,k4,k5,k6,k7,k8⟩:=HLX.out.at_.wat.1 j _ hm
           have HNOr:Hid (rReady s1.r s1.ws[j].t=false→∀ b,rbFrom s1 j b=rbFrom s1 (j+1) b):=hidp fun h b=>rbFrom_no hm h
           have HNEW:Hid (rReady s1.r s1.ws[j].t=true→rbFrom s1 j (-1)=rbFrom s1 (j+1) j):=hidp fun h=>rbFrom_new hm h
           have HCMP:Hid (rReady s1.r s1.ws[j].t=true→∀ (k:Nat) (u:MTx),s1.ws[k]?=some u→rbFrom s1 j (k:Int)=rbFrom s1 (j+1) (if s1.ws[j].t.site<u.t.site then (j:Int) else (k:Int))):=hidp fun h k u hu=>rbFrom_cmp hm hu h
           have hmr:=HL.out.inv.rt _ (List.getElem_mem hjl)
           obtain ⟨⟨hms0,hms4⟩,⟨hmq0,hmq1⟩,_,_⟩:=rightTx_parts hmr
           have HRDY:Hid (rReady s1.r s1.ws[j].t=(decide (s1.ws[j].t.seq=s1.at s1.ws[j].t.site+1)&&covD s1.p0 s1.p1 s1.p2 s1.p3 s1.ws[j].t.d0 s1.ws[j].t.d1 s1.ws[j].t.d2 s1.ws[j].t.d3)):=hidp rfl
           clear hm hmr
           obtain ⟨rd,hrd⟩:∃ rd,rReady s1.r s1.ws[j].t=rd:=⟨_,rfl⟩
           rw [hrd] at HRDY HNOr HNEW HCMP
           clear hrd
           generalize s1.ws[j]=m at *
           obtain ⟨⟨msite,mseq,mwall,mcount,md0,md1,md2,md3,mws⟩,mA,mc⟩:=m
           simp only at k0 k1 k2 k3 k4 k5 k6 k7 k8 HRDY HNOr HNEW HCMP hms0 hms4 hmq0 hmq1
           obtain ⟨mst,rfl⟩:=Int.eq_ofNat_of_zero_le hms0
           have hmst4:mst<4:=by omega
           obtain ⟨ap1,hap1⟩:∃ ap1,s1.at (mst:Int)=ap1:=⟨_,rfl⟩
           have hapb:=HL.out.inv.ap (mst:Int)
           rw [hap1] at hapb HRDY
           have HAP1:=hidp hap1
           obtain ⟨hapb0,hapb1⟩:=hapb
           have hwr1:IntKind.i64.wrap (ap1+1)=ap1+1:=by rw [IntKind.wrap_i64];omega
           clear hap1
           haveI:SzGe (gb+1) X:=⟨hgb⟩
           haveI:SzGe (y+1) X:=⟨HLX.out.at_.sto.lt⟩
           go_upto_region 21 with fail
           have HBM:Hid ((X.alloc (.cells #[.int .i64 (mst:Int),.int .i64 mseq,.int .i64 mwall,.int .i64 mcount,.int .i64 md0,.int .i64 md1,.int .i64 md2,.int .i64 md3,.slice mA mws.length mc] 44)).heap[X.heap.size]?=some (.cells #[.int .i64 (mst:Int),.int .i64 mseq,.int .i64 mwall,.int .i64 mcount,.int .i64 md0,.int .i64 md1,.int .i64 md2,.int .i64 md3,.slice mA mws.length mc] 44)):=hidp (blk_new rfl _)
           have HBB:Hid (Below X.heap.size X (X.alloc (.cells #[.int .i64 (mst:Int),.int .i64 mseq,.int .i64 mwall,.int .i64 mcount,.int .i64 md0,.int .i64 md1,.int .i64 md2,.int .i64 md3,.slice mA mws.length mc] 44))):=hidp (by repeat (first | exact Below.refl _ _ | refine blw_alloc ?_ | refine blw_plus ?_ | refine Below.drew ?_))
           clear k0 k1 k2 k3 k4 k5 k6 k7 k8
           generalize X.alloc (.cells #[.int .i64 (mst:Int),.int .i64 mseq,.int .i64 mwall,.int .i64 mcount,.int .i64 md0,.int .i64 md1,.int .i64 md2,.int .i64 md3,.slice mA mws.length mc] 44)=X2 at *
           have HLX2:=hidp (HLX.out.below HBB.out)
           have ca:=HLX2.out.at_.apc hmst4
           rw [HAP1.out] at ca
           obtain ⟨v1,v2,v3,v4⟩:=HLX2.out.at_.vec
           have c8:=HLX2.out.at_.c8
           have hbm:=HBM.out
           have f0:=cell_blk hbm 0;have f1:=cell_blk hbm 1;have f2:=cell_blk hbm 2;have f3:=cell_blk hbm 3;have f4:=cell_blk hbm 4;have f5:=cell_blk hbm 5;have f6:=cell_blk hbm 6;have f7:=cell_blk hbm 7;have f8:=cell_blk hbm 8;simp only [zC,zD,zE] at f0 f1 f2 f3 f4 f5 f6 f7 f8
           haveI:SzGe (X.heap.size+1) X2:=⟨lt_blk hbm⟩
           haveI:SzGe (y+1) X2:=⟨HLX2.out.at_.sto.lt⟩
           clear hbm
           have HBJ:Hid (Below W.heap.size W X2):=hidp (HBJ.out.trans (HBB.out.mono HBJ.out.size))
           have HSZX:=hidp HBB.out.size
           by_cases hq:mseq=ap1+1
           ·have hd1:(mseq==ap1+1)=true:=by simp [hq]
            have HCV:=hidp fun Z=>rCovers_is (show covD s1.p0 s1.p1 s1.p2 s1.p3 md0 md1 md2 md3=rd by rw [HRDY.out,decide_eq_true hq];simp) Z
            clear hq
            cases hrdc:rd
            ·subst hrdc
             refine wp_region_plus (by kernel_rfl) (by kernel_rfl) ?_
             repeat (first | go_big_quiet_skip | (go_big_quiet_want;go_big_quiet_op;first | go_big_quiet_on | (apply Exists.intro;refine ⟨fun _=>?_,?_⟩;(go_at_call 73;exact Calls.plus_of (HCV.out _));go_big_quiet_on)))
             refine wpQuiet_nil ?_
             rintro _ ⟨x4,rfl⟩
             go_wp2_with fail
             go_roundw
             case rel=>exact ⟨j+1,bz,by go_num,rfl,by omega,(HNOr.out rfl bz).symm.trans HRB.out,HBZ.out,HBJ.out.trans (Below.mono (B:=X2.heap.size) (by repeat (first | exact Below.refl _ _ | refine blw_alloc ?_ | refine blw_plus ?_ | refine Below.drew ?_)) HBJ.out.size)⟩
             case measure=>simp [intOf];omega
            ·subst hrdc
             by_cases hb0:bz=-1
             ·subst hb0
              have hd2:decide ((-1:Int)<0)=true:=by decide
              refine wp_region_plus (by kernel_rfl) (by kernel_rfl) ?_
              repeat (first | go_big_quiet_skip | (go_big_quiet_want;go_big_quiet_op;first | go_big_quiet_on | (apply Exists.intro;refine ⟨fun _=>?_,?_⟩;(go_at_call 73;exact Calls.plus_of (HCV.out _));go_big_quiet_on)))
              refine wpQuiet_nil ?_
              rintro _ ⟨x4,rfl⟩
              go_wp2_with fail
              go_roundw
              case rel=>exact ⟨j+1,(j:Int),by go_num,rfl,by omega,(HNEW.out rfl).symm.trans HRB.out,.inr ⟨j,rfl,hjl⟩,HBJ.out.trans (Below.mono (B:=X2.heap.size) (by repeat (first | exact Below.refl _ _ | refine blw_alloc ?_ | refine blw_plus ?_ | refine Below.drew ?_)) HBJ.out.size)⟩
              case measure=>simp [intOf];omega
             ·obtain ⟨k,rfl,hkl⟩:∃ k:Nat,bz=(k:Int)∧k<s1.ws.length:=HBZ.out.resolve_left hb0
              have hd2:decide ((k:Int)<0)=false:=decide_eq_false (by omega)
              have hk0:(0:Int)≤(k:Int):=by omega
              have hki:(k:Int)<(s1.ws.length:Int):=by omega
              have hu:s1.ws[k]?=some s1.ws[k]:=List.getElem?_eq_getElem hkl
              obtain ⟨gb2,go2,hA2,_,u0,_⟩:=HLX2.out.at_.wat.1 k _ hu
              obtain ⟨rfl,rfl⟩:gb=gb2∧go=go2:=by simpa using hA2
              have HC:=hidp (HCMP.out rfl k _ hu)
              clear hA2 hu hb0 hbg
              generalize s1.ws[k].t.site=us at *
              haveI:SzGe (gb+1) X2:=⟨Nat.le_trans hgb HSZX.out⟩
              by_cases hlt:(mst:Int)<us
              ·have hd3:decide ((mst:Int)<us)=true:=decide_eq_true hlt
               have HC2:Hid (rbFrom s1 j (k:Int)=rbFrom s1 (j+1) (j:Int)):=hidp (by rw [HC.out,if_pos hlt])
               clear hlt HC
               refine wp_region_plus (by kernel_rfl) (by kernel_rfl) ?_
               repeat (first | go_big_quiet_skip | (go_big_quiet_want;go_big_quiet_op;first | go_big_quiet_on | (apply Exists.intro;refine ⟨fun _=>?_,?_⟩;(go_at_call 73;exact Calls.plus_of (HCV.out _));go_big_quiet_on)))
               refine wpQuiet_nil ?_
               rintro _ ⟨x4,rfl⟩
               go_wp2_with fail
               go_roundw
               case rel=>exact ⟨j+1,(j:Int),by go_num,rfl,by omega,HC2.out.symm.trans HRB.out,.inr ⟨j,rfl,hjl⟩,HBJ.out.trans (Below.mono (B:=X2.heap.size) (by repeat (first | exact Below.refl _ _ | refine blw_alloc ?_ | refine blw_plus ?_ | refine Below.drew ?_)) HBJ.out.size)⟩
               case measure=>simp [intOf];omega
              ·have hd3:decide ((mst:Int)<us)=false:=decide_eq_false hlt
               have HC2:Hid (rbFrom s1 j (k:Int)=rbFrom s1 (j+1) (k:Int)):=hidp (by rw [HC.out,if_neg hlt])
               clear hlt HC
               refine wp_region_plus (by kernel_rfl) (by kernel_rfl) ?_
               repeat (first | go_big_quiet_skip | (go_big_quiet_want;go_big_quiet_op;first | go_big_quiet_on | (apply Exists.intro;refine ⟨fun _=>?_,?_⟩;(go_at_call 73;exact Calls.plus_of (HCV.out _));go_big_quiet_on)))
               refine wpQuiet_nil ?_
               rintro _ ⟨x4,rfl⟩
               go_wp2_with fail
               go_roundw
               case rel=>exact ⟨j+1,(k:Int),by go_num,rfl,by omega,HC2.out.symm.trans HRB.out,.inr ⟨k,rfl,hkl⟩,HBJ.out.trans (Below.mono (B:=X2.heap.size) (by repeat (first | exact Below.refl _ _ | refine blw_alloc ?_ | refine blw_plus ?_ | refine Below.drew ?_)) HBJ.out.size)⟩
               case measure=>simp [intOf];omega
           ·have hd1:(mseq==ap1+1)=false:=by simpa using hq
            obtain rfl:rd=false:=by rw [HRDY.out,decide_eq_false hq];rfl
            clear hq
            refine wp_region_plus (by kernel_rfl) (by kernel_rfl) ?_
            repeat (first | go_big_quiet_skip | (go_big_quiet_want;go_big_quiet_op;first | go_big_quiet_on))
            refine wpQuiet_nil ?_
            rintro _ ⟨x4,rfl⟩
            go_wp2_with fail
            go_roundw
            case rel=>exact ⟨j+1,bz,by go_num,rfl,by omega,(HNOr.out rfl bz).symm.trans HRB.out,HBZ.out,HBJ.out.trans (Below.mono (B:=X2.heap.size) (by repeat (first | exact Below.refl _ _ | refine blw_alloc ?_ | refine blw_plus ?_ | refine Below.drew ?_)) HBJ.out.size)⟩
            case measure=>simp [intOf];omega
          ·obtain rfl:j=s1.ws.length:=by omega
           have hjd:decide ((s1.ws.length:Int)<(s1.ws.length:Int))=false:=decide_eq_false (by omega)
           have hrb:=HRB.out
           rw [rbFrom_end] at hrb
           clear HRB
           rcases HBZ.out with hb1 | ⟨k,hb1,hkl⟩
           ·subst hb1
            have hd2:decide ((-1:Int)<0)=true:=by decide
            have HST:=hidp (HLX.out.stop (.inr (by rw [←hrb];decide)))
            clear hrb hbg
            go_wp2_with fail
            go_ret
            exact HDN0.out _ _ _ _ _ _ (HLX.out.below (by repeat (first | exact Below.refl _ _ | refine blw_alloc ?_ | refine blw_plus ?_ | refine Below.drew ?_))) HST.out
           ·subst hb1
            have hd2:decide ((k:Int)<0)=false:=decide_eq_false (by omega)
            have hk0:(0:Int)≤(k:Int):=by omega
            have hki:(k:Int)<(s1.ws.length:Int):=by omega
            have hu:s1.ws[k]?=some s1.ws[k]:=List.getElem?_eq_getElem hkl
            have HNX:=hidp (HLX.out.next HL2.out hrb.symm hu)
            have hmr:=HLX.out.inv.rt _ (List.getElem_mem hkl)
            have HMH:Hid (s1.has s1.ws[k]):=hidp (.inr (List.getElem_mem hkl))
            have HIN:=hidp ((HLX.out.inv.drop k).apply (m:=s1.ws[k]) hmr)
            have HAP:=hidp fun (Z:World) (A7:Option Addr) (c7:Nat) (h:RsAt Z B y (dropR s1 k) (.slice Al1 s1.log.length cl1) A7 c7 av1) (hm:WsAt Z s1.ws[k].A s1.ws[k].t.ws∧∀ b o,s1.ws[k].A=some ⟨b,o,none⟩→b<Z.heap.size∧¬RsOwn y (.slice Al1 s1.log.length cl1) av1 b)=>
             rApplies_any B y c7 (dropR s1 k) (.slice Al1 s1.log.length cl1) av1 A7 s1.ws[k] Z h hm (rightTx_parts hmr).1 (by have:=HLX.out.inv.len;have:=HL2.out;show s1.L.length≤800000;omega) (by have:=HL2.out;show s1.log.length≤100000;omega) (by have:=(rightTx_parts hmr).2.2.2;omega)
            obtain ⟨gb,go,rfl,hgb,k0,k1,k2,k3,k4,k5,k6,k7,k8⟩:=HLX.out.at_.wat.1 k _ hu
            have hcap:=HLX.out.at_.wat.2.1
            have c8:=HLX.out.at_.c8
            clear hu hmr hrb hbg hjd hj
            generalize s1.ws[k]=m at *
            obtain ⟨⟨msite,mseq,mwall,mcount,md0,md1,md2,md3,mws⟩,mA,mc⟩:=m
            unfold MTx.val at HAP
            simp only at k0 k1 k2 k3 k4 k5 k6 k7 k8
            haveI:SzGe (gb+1) X:=⟨hgb⟩
            haveI:SzGe (y+1) X:=⟨HLX.out.at_.sto.lt⟩
            go_upto_region 26 with fail
            have HBM:Hid ((X.alloc (.cells #[.int .i64 msite,.int .i64 mseq,.int .i64 mwall,.int .i64 mcount,.int .i64 md0,.int .i64 md1,.int .i64 md2,.int .i64 md3,.slice mA mws.length mc] 44)).heap[X.heap.size]?=some (.cells #[.int .i64 msite,.int .i64 mseq,.int .i64 mwall,.int .i64 mcount,.int .i64 md0,.int .i64 md1,.int .i64 md2,.int .i64 md3,.slice mA mws.length mc] 44)):=hidp (blk_new rfl _)
            have HBB:Hid (Below X.heap.size X (X.alloc (.cells #[.int .i64 msite,.int .i64 mseq,.int .i64 mwall,.int .i64 mcount,.int .i64 md0,.int .i64 md1,.int .i64 md2,.int .i64 md3,.slice mA mws.length mc] 44))):=hidp (by repeat (first | exact Below.refl _ _ | refine blw_alloc ?_ | refine blw_plus ?_ | refine Below.drew ?_))
            clear k0 k1 k2 k3 k4 k5 k6 k7 k8 c8
            generalize X.alloc (.cells #[.int .i64 msite,.int .i64 mseq,.int .i64 mwall,.int .i64 mcount,.int .i64 md0,.int .i64 md1,.int .i64 md2,.int .i64 md3,.slice mA mws.length mc] 44)=X2 at *
            have HLX2:=hidp (HLX.out.below HBB.out)
            have HXT:=hidp (HLX2.out.at_.wat.1.take k)
            have HXD0:=hidp (HLX2.out.at_.wat.1.drop (k+1))
            have c8:=HLX2.out.at_.c8
            have z8:=HLX2.out.at_.frz 8
            haveI:SzGe (y+1) X2:=⟨HLX2.out.at_.sto.lt⟩
            have htk:(s1.ws.take k).length=k:=by simp;omega
            have hdk:(s1.ws.drop (k+1)).length=s1.ws.length-(k+1):=by simp
            have HTK:=hidp htk
            have HDK:=hidp hdk
            clear htk hdk
            have hk1L:(k:Int)+1≤(s1.ws.length:Int):=by omega
            have hwk:IntKind.i64.wrap ((k:Int)+1)=(k:Int)+1:=by rw [IntKind.wrap_i64];omega
            have htn:((k:Int)+1).toNat=k+1:=by omega
            have h0k:(0:Int)≤(k:Int)+1:=by omega
            by_cases hck:wc1=k+1
            ·as_aux_lemma=>
             have HXD:Hid (XsAt X2 (some ⟨gb,go,none⟩) (s1.ws.drop (k+1))):=hidp (by
              rw [show s1.ws.drop (k+1)=[] from List.eq_nil_of_length_eq_zero (by rw [HDK.out];omega)]
              intro i m hm
              simp at hm)
             subst hck
             have hkc:(k:Int)≤(k:Int)+1:=by omega
             have hLc:(s1.ws.length:Int)≤(k:Int)+1:=by omega
             have HSK26:Hid (∀ Z:World,Below X2.heap.size X2 Z→Below X2.heap.size X2 Z∧Z.cell? ⟨y,8,none⟩=some (.slice (some ⟨gb,go,none⟩) s1.ws.length (k+1))∧Z.frozen? ⟨y,8,none⟩=false):=hidp (fun Z hb=>⟨hb,(hb.cell (p:=⟨y,8,none⟩) HLX2.out.at_.sto.lt).trans c8,(World.frozen?_of_block (a:=⟨y,8,none⟩) (hb.block y HLX2.out.at_.sto.lt)).trans z8⟩)
             clear c8 z8
             refine wp_region_split 17 (S:=(fun Z=>Below X2.heap.size X2 Z∧Z.cell? ⟨y,8,none⟩=some (.slice (some ⟨gb,go,none⟩) s1.ws.length (k+1))∧Z.frozen? ⟨y,8,none⟩=false)) (by kernel_rfl) (by kernel_rfl) ?_ (fun hHeld=>?_)
             ·exact HSK26.out _ (by repeat (first | exact HB7.out | exact HB6.out | exact Below.refl _ _ | refine Below.drew ?_ | refine blw_alloc ?_))
             simp only [List.take_succ_cons,List.take_zero,List.drop_succ_cons,List.drop_zero]
             refine takeL 0 rfl (by as_aux_lemma=>kernel_rfl) (by as_aux_lemma=>kernel_rfl) (by as_aux_lemma=>kernel_rfl) (fun _ _ _ h=>h) hHeld (by rfl) (v:=?_) ?_ ?_
             rotate_left
             ·intro w hSw
              (try dsimp only at hSw)
              go_simp
              all_goals (with_reducible rfl)
             try simp only [Act.put,zF,zG,zH]
             refine takeL 2 rfl (by as_aux_lemma=>kernel_rfl) (by as_aux_lemma=>kernel_rfl) (by as_aux_lemma=>kernel_rfl) (fun _ _ _ h=>h) hHeld (by rfl) (v:=?_) ?_ ?_
             rotate_left
             ·intro w hSw
              (try dsimp only at hSw)
              go_simp
              all_goals (with_reducible rfl)
             try simp only [Act.put,zF,zG,zH]
             refine takeL 3 rfl (by as_aux_lemma=>kernel_rfl) (by as_aux_lemma=>kernel_rfl) (by as_aux_lemma=>kernel_rfl) (fun _ _ _ h=>h) hHeld (by rfl) (v:=?_) ?_ ?_
             rotate_left
             ·intro w hSw
              (try dsimp only at hSw)
              go_simp
              all_goals (with_reducible rfl)
             try simp only [Act.put,zF,zG,zH]
             refine takeL 4 rfl (by as_aux_lemma=>kernel_rfl) (by as_aux_lemma=>kernel_rfl) (by as_aux_lemma=>kernel_rfl) (fun _ _ _ h=>h) hHeld (by rfl) (v:=?_) ?_ ?_
             rotate_left
             ·intro w hSw
              (try dsimp only at hSw)
              go_simp
              all_goals (with_reducible rfl)
             try simp only [Act.put,zF,zG,zH]
             refine takeL 5 rfl (by as_aux_lemma=>kernel_rfl) (by as_aux_lemma=>kernel_rfl) (by as_aux_lemma=>kernel_rfl) (fun _ _ _ h=>h) hHeld (by rfl) (v:=?_) ?_ ?_
             rotate_left
             ·intro w hSw
              (try dsimp only at hSw)
              go_simp
              all_goals (with_reducible rfl)
             try simp only [Act.put,zF,zG,zH]
             refine takeL 6 rfl (by as_aux_lemma=>kernel_rfl) (by as_aux_lemma=>kernel_rfl) (by as_aux_lemma=>kernel_rfl) (fun _ _ _ h=>h) hHeld (by rfl) (v:=?_) ?_ ?_
             rotate_left
             ·intro w hSw
              (try dsimp only at hSw)
              go_simp
              all_goals (with_reducible rfl)
             try simp only [Act.put,zF,zG,zH]
             refine takeL 7 rfl (by as_aux_lemma=>kernel_rfl) (by as_aux_lemma=>kernel_rfl) (by as_aux_lemma=>kernel_rfl) (fun _ _ _ h=>h) hHeld (by rfl) (v:=?_) ?_ ?_
             rotate_left
             ·intro w hSw
              (try dsimp only at hSw)
              go_simp
              all_goals (with_reducible rfl)
             try simp only [Act.put,zF,zG,zH]
             refine takeL 9 rfl (by as_aux_lemma=>kernel_rfl) (by as_aux_lemma=>kernel_rfl) (by as_aux_lemma=>kernel_rfl) (fun _ _ _ h=>h) hHeld (by rfl) (v:=?_) ?_ ?_
             rotate_left
             ·intro w hSw
              (try dsimp only at hSw)
              go_simp
              all_goals (with_reducible rfl)
             try simp only [Act.put,zF,zG,zH]
             refine takeL 10 rfl (by as_aux_lemma=>kernel_rfl) (by as_aux_lemma=>kernel_rfl) (by as_aux_lemma=>kernel_rfl) (fun _ _ _ h=>h) hHeld (by rfl) (v:=?_) ?_ ?_
             rotate_left
             ·intro w hSw
              (try dsimp only at hSw)
              go_simp
              all_goals (with_reducible rfl)
             try simp only [Act.put,zF,zG,zH]
             refine takeL 11 rfl (by as_aux_lemma=>kernel_rfl) (by as_aux_lemma=>kernel_rfl) (by as_aux_lemma=>kernel_rfl) (fun _ _ _ h=>h) hHeld (by rfl) (v:=?_) ?_ ?_
             rotate_left
             ·intro w hSw
              (try dsimp only at hSw)
              go_simp
              all_goals (with_reducible rfl)
             try simp only [Act.put,zF,zG,zH]
             refine takeL 12 rfl (by as_aux_lemma=>kernel_rfl) (by as_aux_lemma=>kernel_rfl) (by as_aux_lemma=>kernel_rfl) (fun _ _ _ h=>h) hHeld (by rfl) (v:=?_) ?_ ?_
             rotate_left
             ·intro w hSw
              (try dsimp only at hSw)
              go_simp
              all_goals (with_reducible rfl)
             try simp only [Act.put,zF,zG,zH]
             refine takeL 13 rfl (by as_aux_lemma=>kernel_rfl) (by as_aux_lemma=>kernel_rfl) (by as_aux_lemma=>kernel_rfl) (fun _ _ _ h=>h) hHeld (by rfl) (v:=?_) ?_ ?_
             rotate_left
             ·intro w hSw
              (try dsimp only at hSw)
              go_simp
              all_goals (with_reducible rfl)
             try simp only [Act.put,zF,zG,zH]
             refine takeL 14 rfl (by as_aux_lemma=>kernel_rfl) (by as_aux_lemma=>kernel_rfl) (by as_aux_lemma=>kernel_rfl) (fun _ _ _ h=>h) hHeld (by rfl) (v:=?_) ?_ ?_
             rotate_left
             ·intro w hSw
              (try dsimp only at hSw)
              go_simp
              all_goals (with_reducible rfl)
             try simp only [Act.put,zF,zG,zH]
             refine takeL 15 rfl (by as_aux_lemma=>kernel_rfl) (by as_aux_lemma=>kernel_rfl) (by as_aux_lemma=>kernel_rfl) (fun _ _ _ h=>h) hHeld (by rfl) (v:=?_) ?_ ?_
             rotate_left
             ·intro w hSw
              (try dsimp only at hSw)
              go_simp
              all_goals (with_reducible rfl)
             try simp only [Act.put,zF,zG,zH]
             refine wpAnyH_ready (rs:=[1]) (by as_aux_lemma=>kernel_rfl) (by simp) ?_
             refine consL rfl (fun K hK=>?_) ?_
             ·as_aux_lemma=>
              go_simp
              refine hK.out _ _ ?_ (fun hNew=>?_)
              ·exact HSK26.out _ (by repeat (first | exact HB7.out | exact HB6.out | exact Below.refl _ _ | refine Below.drew ?_ | refine blw_alloc ?_))
              clear hHeld
              have hHeld:=hNew
              clear hNew hK K
              try simp only [Act.put,zF,zG,zH]
              refine wpAnyH_ready (rs:=[8]) (by as_aux_lemma=>kernel_rfl) (by simp) ?_
              refine consL rfl (fun K hK=>?_) ?_
              ·as_aux_lemma=>
               refine step_append_xs_0 _ rfl (.tmp 176) (.tmp 182) rfl X2.heap.size X2.heap.size (by simp [Act.eval,Act.put]) (by rw [heap_drew];exact blk_new rfl _) (Nat.le_refl _) (some ⟨gb,go,none⟩) (k+1) (s1.ws.take k) (by rw [HTK.out];simp [Act.eval,Act.put]) (HXT.out.below hHeld.1) (by rw [HTK.out];omega) ?_
               intro A6 c6 w6 hown6 hgrow6
               have HB6:=hidp (Below.grown hHeld.1 hgrow6 hHeld.1.size (fun j e=>by simp at e;omega))
               have HO6:=hidp hown6
               haveI hs1:SzGe X2.heap.size w6:=⟨HB6.out.size⟩
               clear hown6 hgrow6
               refine hK.out _ _ ?_ (fun hNew=>?_)
               ·exact HSK26.out _ (by repeat (first | exact HB7.out | exact HB6.out | exact Below.refl _ _ | refine Below.drew ?_ | refine blw_alloc ?_))
               clear hHeld
               have hHeld:=hNew
               clear hNew hK K
               try simp only [Act.put,zF,zG,zH]
               refine wpAnyH_ready (rs:=[16]) (by as_aux_lemma=>kernel_rfl) (by simp) ?_
               refine consL rfl (fun K hK=>?_) ?_
               ·as_aux_lemma=>
                refine step_append_xs _ rfl (.tmp 183) (.tmp 190) rfl X2.heap.size (.slice A6 (s1.ws.take k).length c6) (s1.ws.take k).length (s1.ws.take k) (by simp [Act.eval,Act.put]) HO6.out (some ⟨gb,go,none⟩) ((k+1)-(k+1)) (s1.ws.drop (k+1)) (by rw [HDK.out];simp [Act.eval,Act.put] <;> omega) (HXD.out.below hHeld.1) (by rw [HDK.out,HTK.out];omega) hHeld.1.size rfl ?_
                intro A7 c7 w7 hown7 hgrow7 hat7
                have HB7:=hidp (Below.grown HB6.out hgrow7 HB6.out.size (fun b e=>(own_ge HO6.out e).1))
                obtain ⟨n7,hn7⟩:∃ n7,(s1.ws.take k++s1.ws.drop (k+1)).length=n7:=⟨_,rfl⟩
                rw [hn7] at hown7 ⊢
                have HN7:=hidp hn7
                have HO7:=hidp hown7
                clear hown7 hgrow7 hat7 hn7
                refine hK.out _ _ ?_ (fun hNew=>?_)
                ·exact HSK26.out _ (by repeat (first | exact HB7.out | exact HB6.out | exact Below.refl _ _ | refine Below.drew ?_ | refine blw_alloc ?_))
                clear hHeld
                have hHeld:=hNew
                clear hNew hK K
                try simp only [Act.put,zF,zG,zH]
                refine wpAnyH_done (by as_aux_lemma=>kernel_rfl) ?_ _
                refine headQ.normal ?_
                have k8:=hHeld.2.1
                have k9:=hHeld.2.2
                clear hHeld
                haveI hs3:SzGe (y+1) w7:=⟨by have:=HB7.out.size;have:=HLX2.out.at_.sto.lt;omega⟩
                haveI hs4:SzGe (X.heap.size+1) w7:=⟨by have:=HB7.out.size;have:=lt_blk HBM.out;omega⟩
                go_upto_region 27 with fail
                have HDR:Hid (RsAt (w7.setCell ⟨y,8,none⟩ (.slice A7 n7 c7)) B y (dropR s1 k) (.slice Al1 s1.log.length cl1) A7 c7 av1∧SiFr w (w7.setCell ⟨y,8,none⟩ (.slice A7 n7 c7)) (RsOwn y (.slice Al s.log.length cl) av) (RsOwn y (.slice Al1 s1.log.length cl1) av1)∧(∀ b o,A7=some ⟨b,o,none⟩→w.heap.size≤b)∧∀ m,s1.has m→WsAt (w7.setCell ⟨y,8,none⟩ (.slice A7 n7 c7)) m.A m.t.ws∧∀ b o,m.A=some ⟨b,o,none⟩→b<(w7.setCell ⟨y,8,none⟩ (.slice A7 n7 c7)).heap.size∧¬RsOwn y (.slice Al1 s1.log.length cl1) av1 b):=hidp (by
                 have hd:=HLX2.out.drop (A:=A7) (c:=c7) (k:=k) HB7.out (by rw [HN7.out];exact HO7.out)
                 rw [HN7.out] at hd
                 exact hd)
                have HBM9:Hid ((w7.setCell ⟨y,8,none⟩ (.slice A7 n7 c7)).heap[X.heap.size]?=some (.cells #[.int .i64 msite,.int .i64 mseq,.int .i64 mwall,.int .i64 mcount,.int .i64 md0,.int .i64 md1,.int .i64 md2,.int .i64 md3,.slice mA mws.length mc] 44)):=hidp (by
                 refine ((grown_set w7 y 8 _).block X.heap.size ?_ ?_).trans ((HB7.out.block _ (lt_blk HBM.out)).trans HBM.out)
                 ·have:=HB7.out.size;have:=lt_blk HBM.out;omega
                 ·simp;have:=HLX.out.at_.sto.lt;omega)
                clear k8 k9 HB7 HO7 HN7 HB6 HO6
                generalize w7.setCell ⟨y,8,none⟩ (.slice A7 n7 c7)=X9 at *
                have hbm:=HBM9.out
                have f0:=cell_blk hbm 0;have f1:=cell_blk hbm 1;have f2:=cell_blk hbm 2;have f3:=cell_blk hbm 3;have f4:=cell_blk hbm 4;have f5:=cell_blk hbm 5;have f6:=cell_blk hbm 6;have f7:=cell_blk hbm 7;have f8:=cell_blk hbm 8;simp only [zC,zD,zE] at f0 f1 f2 f3 f4 f5 f6 f7 f8
                haveI:SzGe (X.heap.size+1) X9:=⟨lt_blk hbm⟩
                haveI:SzGe (y+1) X9:=⟨HDR.out.1.sto.lt⟩
                clear hbm
                go_wp2_with fail
                go_at_call 75
                refine (HAP.out X9 A7 c7 HDR.out.1 (HDR.out.2.2.2 _ HMH.out)).mono ?_
                rintro e w10 ⟨rfl,lv2,av2,hs10,hf10⟩
                have HR10:Hid (RLp w w10 B y s (⟨(⟨(st:Int),seq,wall,count,d0,d1,d2,d3,ws⟩:TxP),some ⟨b1,0,none⟩,c1⟩:MTx) (RsOwn y (.slice Al s.log.length cl) av) F (applyR (dropR s1 k) (⟨⟨msite,mseq,mwall,mcount,md0,md1,md2,md3,mws⟩,mA,mc⟩:MTx)) lv2 A7 c7 av2):=hidp ⟨hs10,HDR.out.2.1.trans hf10,HIN.out,HNX.out.1,by have:=HNX.out.2;omega,fun m' hm'=>by
                 rcases applyR_has hm' with h1 | h1
                 ·rcases h1 with h2 | h2
                  ·exact HLX.out.has _ (.inl h2)
                  ·exact HLX.out.has _ (.inr (dropR_mem h2))
                 ·exact HLX.out.has _ (h1 ▸ HMH.out),HDR.out.2.2.1⟩
                clear hs10 hf10 f0 f1 f2 f3 f4 f5 f6 f7 f8
                go_wp2_with fail
                go_roundw
                case rel=>exact ⟨_,_,_,_,_,HR10.out.below (by repeat (first | exact Below.refl _ _ | refine blw_alloc ?_ | refine blw_plus ?_ | refine Below.drew ?_))⟩
                case measure=>
                 rw [HL.out.at_.wLen]
                 have h1:=(HR10.out.below (wr':=_) (by repeat (first | exact Below.refl _ _ | refine blw_alloc ?_ | refine blw_plus ?_ | refine Below.drew ?_))).at_.wLen
                 have h2:=HNX.out.2
                 first
                  | (rw [h1];omega)
                  | (simp only [h1];omega)
               exact AllReadyH.nil
              exact AllReadyH.nil
             exact AllReadyH.nil
            ·as_aux_lemma=>
             have HXD:=HXD0
             have hkc:(k:Int)≤(wc1:Int):=by omega
             have hLc:(s1.ws.length:Int)≤(wc1:Int):=by omega
             have HSK26:Hid (∀ Z:World,Below X2.heap.size X2 Z→Below X2.heap.size X2 Z∧Z.cell? ⟨y,8,none⟩=some (.slice (some ⟨gb,go,none⟩) s1.ws.length wc1)∧Z.frozen? ⟨y,8,none⟩=false):=hidp (fun Z hb=>⟨hb,(hb.cell (p:=⟨y,8,none⟩) HLX2.out.at_.sto.lt).trans c8,(World.frozen?_of_block (a:=⟨y,8,none⟩) (hb.block y HLX2.out.at_.sto.lt)).trans z8⟩)
             clear c8 z8
             refine wp_region_split 17 (S:=(fun Z=>Below X2.heap.size X2 Z∧Z.cell? ⟨y,8,none⟩=some (.slice (some ⟨gb,go,none⟩) s1.ws.length wc1)∧Z.frozen? ⟨y,8,none⟩=false)) (by kernel_rfl) (by kernel_rfl) ?_ (fun hHeld=>?_)
             ·exact HSK26.out _ (by repeat (first | exact HB7.out | exact HB6.out | exact Below.refl _ _ | refine Below.drew ?_ | refine blw_alloc ?_))
             simp only [List.take_succ_cons,List.take_zero,List.drop_succ_cons,List.drop_zero]
             refine takeL 0 rfl (by as_aux_lemma=>kernel_rfl) (by as_aux_lemma=>kernel_rfl) (by as_aux_lemma=>kernel_rfl) (fun _ _ _ h=>h) hHeld (by rfl) (v:=?_) ?_ ?_
             rotate_left
             ·intro w hSw
              (try dsimp only at hSw)
              go_simp
              all_goals (with_reducible rfl)
             try simp only [Act.put,zF,zG,zH]
             refine takeL 2 rfl (by as_aux_lemma=>kernel_rfl) (by as_aux_lemma=>kernel_rfl) (by as_aux_lemma=>kernel_rfl) (fun _ _ _ h=>h) hHeld (by rfl) (v:=?_) ?_ ?_
             rotate_left
             ·intro w hSw
              (try dsimp only at hSw)
              go_simp
              all_goals (with_reducible rfl)
             try simp only [Act.put,zF,zG,zH]
             refine takeL 3 rfl (by as_aux_lemma=>kernel_rfl) (by as_aux_lemma=>kernel_rfl) (by as_aux_lemma=>kernel_rfl) (fun _ _ _ h=>h) hHeld (by rfl) (v:=?_) ?_ ?_
             rotate_left
             ·intro w hSw
              (try dsimp only at hSw)
              go_simp
              all_goals (with_reducible rfl)
             try simp only [Act.put,zF,zG,zH]
             refine takeL 4 rfl (by as_aux_lemma=>kernel_rfl) (by as_aux_lemma=>kernel_rfl) (by as_aux_lemma=>kernel_rfl) (fun _ _ _ h=>h) hHeld (by rfl) (v:=?_) ?_ ?_
             rotate_left
             ·intro w hSw
              (try dsimp only at hSw)
              go_simp
              all_goals (with_reducible rfl)
             try simp only [Act.put,zF,zG,zH]
             refine takeL 5 rfl (by as_aux_lemma=>kernel_rfl) (by as_aux_lemma=>kernel_rfl) (by as_aux_lemma=>kernel_rfl) (fun _ _ _ h=>h) hHeld (by rfl) (v:=?_) ?_ ?_
             rotate_left
             ·intro w hSw
              (try dsimp only at hSw)
              go_simp
              all_goals (with_reducible rfl)
             try simp only [Act.put,zF,zG,zH]
             refine takeL 6 rfl (by as_aux_lemma=>kernel_rfl) (by as_aux_lemma=>kernel_rfl) (by as_aux_lemma=>kernel_rfl) (fun _ _ _ h=>h) hHeld (by rfl) (v:=?_) ?_ ?_
             rotate_left
             ·intro w hSw
              (try dsimp only at hSw)
              go_simp
              all_goals (with_reducible rfl)
             try simp only [Act.put,zF,zG,zH]
             refine takeL 7 rfl (by as_aux_lemma=>kernel_rfl) (by as_aux_lemma=>kernel_rfl) (by as_aux_lemma=>kernel_rfl) (fun _ _ _ h=>h) hHeld (by rfl) (v:=?_) ?_ ?_
             rotate_left
             ·intro w hSw
              (try dsimp only at hSw)
              go_simp
              all_goals (with_reducible rfl)
             try simp only [Act.put,zF,zG,zH]
             refine takeL 9 rfl (by as_aux_lemma=>kernel_rfl) (by as_aux_lemma=>kernel_rfl) (by as_aux_lemma=>kernel_rfl) (fun _ _ _ h=>h) hHeld (by rfl) (v:=?_) ?_ ?_
             rotate_left
             ·intro w hSw
              (try dsimp only at hSw)
              go_simp
              all_goals (with_reducible rfl)
             try simp only [Act.put,zF,zG,zH]
             refine takeL 10 rfl (by as_aux_lemma=>kernel_rfl) (by as_aux_lemma=>kernel_rfl) (by as_aux_lemma=>kernel_rfl) (fun _ _ _ h=>h) hHeld (by rfl) (v:=?_) ?_ ?_
             rotate_left
             ·intro w hSw
              (try dsimp only at hSw)
              go_simp
              all_goals (with_reducible rfl)
             try simp only [Act.put,zF,zG,zH]
             refine takeL 11 rfl (by as_aux_lemma=>kernel_rfl) (by as_aux_lemma=>kernel_rfl) (by as_aux_lemma=>kernel_rfl) (fun _ _ _ h=>h) hHeld (by rfl) (v:=?_) ?_ ?_
             rotate_left
             ·intro w hSw
              (try dsimp only at hSw)
              go_simp
              all_goals (with_reducible rfl)
             try simp only [Act.put,zF,zG,zH]
             refine takeL 12 rfl (by as_aux_lemma=>kernel_rfl) (by as_aux_lemma=>kernel_rfl) (by as_aux_lemma=>kernel_rfl) (fun _ _ _ h=>h) hHeld (by rfl) (v:=?_) ?_ ?_
             rotate_left
             ·intro w hSw
              (try dsimp only at hSw)
              go_simp
              all_goals (with_reducible rfl)
             try simp only [Act.put,zF,zG,zH]
             refine takeL 13 rfl (by as_aux_lemma=>kernel_rfl) (by as_aux_lemma=>kernel_rfl) (by as_aux_lemma=>kernel_rfl) (fun _ _ _ h=>h) hHeld (by rfl) (v:=?_) ?_ ?_
             rotate_left
             ·intro w hSw
              (try dsimp only at hSw)
              go_simp
              all_goals (with_reducible rfl)
             try simp only [Act.put,zF,zG,zH]
             refine takeL 14 rfl (by as_aux_lemma=>kernel_rfl) (by as_aux_lemma=>kernel_rfl) (by as_aux_lemma=>kernel_rfl) (fun _ _ _ h=>h) hHeld (by rfl) (v:=?_) ?_ ?_
             rotate_left
             ·intro w hSw
              (try dsimp only at hSw)
              go_simp
              all_goals (with_reducible rfl)
             try simp only [Act.put,zF,zG,zH]
             refine takeL 15 rfl (by as_aux_lemma=>kernel_rfl) (by as_aux_lemma=>kernel_rfl) (by as_aux_lemma=>kernel_rfl) (fun _ _ _ h=>h) hHeld (by rfl) (v:=?_) ?_ ?_
             rotate_left
             ·intro w hSw
              (try dsimp only at hSw)
              go_simp
              all_goals (with_reducible rfl)
             try simp only [Act.put,zF,zG,zH]
             refine wpAnyH_ready (rs:=[1]) (by as_aux_lemma=>kernel_rfl) (by simp) ?_
             refine consL rfl (fun K hK=>?_) ?_
             ·as_aux_lemma=>
              go_simp
              refine hK.out _ _ ?_ (fun hNew=>?_)
              ·exact HSK26.out _ (by repeat (first | exact HB7.out | exact HB6.out | exact Below.refl _ _ | refine Below.drew ?_ | refine blw_alloc ?_))
              clear hHeld
              have hHeld:=hNew
              clear hNew hK K
              try simp only [Act.put,zF,zG,zH]
              refine wpAnyH_ready (rs:=[8]) (by as_aux_lemma=>kernel_rfl) (by simp) ?_
              refine consL rfl (fun K hK=>?_) ?_
              ·as_aux_lemma=>
               refine step_append_xs_0 _ rfl (.tmp 176) (.tmp 182) rfl X2.heap.size X2.heap.size (by simp [Act.eval,Act.put]) (by rw [heap_drew];exact blk_new rfl _) (Nat.le_refl _) (some ⟨gb,go,none⟩) wc1 (s1.ws.take k) (by rw [HTK.out];simp [Act.eval,Act.put]) (HXT.out.below hHeld.1) (by rw [HTK.out];omega) ?_
               intro A6 c6 w6 hown6 hgrow6
               have HB6:=hidp (Below.grown hHeld.1 hgrow6 hHeld.1.size (fun j e=>by simp at e;omega))
               have HO6:=hidp hown6
               haveI hs1:SzGe X2.heap.size w6:=⟨HB6.out.size⟩
               clear hown6 hgrow6
               refine hK.out _ _ ?_ (fun hNew=>?_)
               ·exact HSK26.out _ (by repeat (first | exact HB7.out | exact HB6.out | exact Below.refl _ _ | refine Below.drew ?_ | refine blw_alloc ?_))
               clear hHeld
               have hHeld:=hNew
               clear hNew hK K
               try simp only [Act.put,zF,zG,zH]
               refine wpAnyH_ready (rs:=[16]) (by as_aux_lemma=>kernel_rfl) (by simp) ?_
               refine consL rfl (fun K hK=>?_) ?_
               ·as_aux_lemma=>
                refine step_append_xs _ rfl (.tmp 183) (.tmp 190) rfl X2.heap.size (.slice A6 (s1.ws.take k).length c6) (s1.ws.take k).length (s1.ws.take k) (by simp [Act.eval,Act.put]) HO6.out (some ⟨gb,go+(k+1)*9,none⟩) (wc1-(k+1)) (s1.ws.drop (k+1)) (by rw [HDK.out];simp [Act.eval,Act.put] <;> omega) (HXD.out.below hHeld.1) (by rw [HDK.out,HTK.out];omega) hHeld.1.size rfl ?_
                intro A7 c7 w7 hown7 hgrow7 hat7
                have HB7:=hidp (Below.grown HB6.out hgrow7 HB6.out.size (fun b e=>(own_ge HO6.out e).1))
                obtain ⟨n7,hn7⟩:∃ n7,(s1.ws.take k++s1.ws.drop (k+1)).length=n7:=⟨_,rfl⟩
                rw [hn7] at hown7 ⊢
                have HN7:=hidp hn7
                have HO7:=hidp hown7
                clear hown7 hgrow7 hat7 hn7
                refine hK.out _ _ ?_ (fun hNew=>?_)
                ·exact HSK26.out _ (by repeat (first | exact HB7.out | exact HB6.out | exact Below.refl _ _ | refine Below.drew ?_ | refine blw_alloc ?_))
                clear hHeld
                have hHeld:=hNew
                clear hNew hK K
                try simp only [Act.put,zF,zG,zH]
                refine wpAnyH_done (by as_aux_lemma=>kernel_rfl) ?_ _
                refine headQ.normal ?_
                have k8:=hHeld.2.1
                have k9:=hHeld.2.2
                clear hHeld
                haveI hs3:SzGe (y+1) w7:=⟨by have:=HB7.out.size;have:=HLX2.out.at_.sto.lt;omega⟩
                haveI hs4:SzGe (X.heap.size+1) w7:=⟨by have:=HB7.out.size;have:=lt_blk HBM.out;omega⟩
                go_upto_region 27 with fail
                have HDR:Hid (RsAt (w7.setCell ⟨y,8,none⟩ (.slice A7 n7 c7)) B y (dropR s1 k) (.slice Al1 s1.log.length cl1) A7 c7 av1∧SiFr w (w7.setCell ⟨y,8,none⟩ (.slice A7 n7 c7)) (RsOwn y (.slice Al s.log.length cl) av) (RsOwn y (.slice Al1 s1.log.length cl1) av1)∧(∀ b o,A7=some ⟨b,o,none⟩→w.heap.size≤b)∧∀ m,s1.has m→WsAt (w7.setCell ⟨y,8,none⟩ (.slice A7 n7 c7)) m.A m.t.ws∧∀ b o,m.A=some ⟨b,o,none⟩→b<(w7.setCell ⟨y,8,none⟩ (.slice A7 n7 c7)).heap.size∧¬RsOwn y (.slice Al1 s1.log.length cl1) av1 b):=hidp (by
                 have hd:=HLX2.out.drop (A:=A7) (c:=c7) (k:=k) HB7.out (by rw [HN7.out];exact HO7.out)
                 rw [HN7.out] at hd
                 exact hd)
                have HBM9:Hid ((w7.setCell ⟨y,8,none⟩ (.slice A7 n7 c7)).heap[X.heap.size]?=some (.cells #[.int .i64 msite,.int .i64 mseq,.int .i64 mwall,.int .i64 mcount,.int .i64 md0,.int .i64 md1,.int .i64 md2,.int .i64 md3,.slice mA mws.length mc] 44)):=hidp (by
                 refine ((grown_set w7 y 8 _).block X.heap.size ?_ ?_).trans ((HB7.out.block _ (lt_blk HBM.out)).trans HBM.out)
                 ·have:=HB7.out.size;have:=lt_blk HBM.out;omega
                 ·simp;have:=HLX.out.at_.sto.lt;omega)
                clear k8 k9 HB7 HO7 HN7 HB6 HO6
                generalize w7.setCell ⟨y,8,none⟩ (.slice A7 n7 c7)=X9 at *
                have hbm:=HBM9.out
                have f0:=cell_blk hbm 0;have f1:=cell_blk hbm 1;have f2:=cell_blk hbm 2;have f3:=cell_blk hbm 3;have f4:=cell_blk hbm 4;have f5:=cell_blk hbm 5;have f6:=cell_blk hbm 6;have f7:=cell_blk hbm 7;have f8:=cell_blk hbm 8;simp only [zC,zD,zE] at f0 f1 f2 f3 f4 f5 f6 f7 f8
                haveI:SzGe (X.heap.size+1) X9:=⟨lt_blk hbm⟩
                haveI:SzGe (y+1) X9:=⟨HDR.out.1.sto.lt⟩
                clear hbm
                go_wp2_with fail
                go_at_call 75
                refine (HAP.out X9 A7 c7 HDR.out.1 (HDR.out.2.2.2 _ HMH.out)).mono ?_
                rintro e w10 ⟨rfl,lv2,av2,hs10,hf10⟩
                have HR10:Hid (RLp w w10 B y s (⟨(⟨(st:Int),seq,wall,count,d0,d1,d2,d3,ws⟩:TxP),some ⟨b1,0,none⟩,c1⟩:MTx) (RsOwn y (.slice Al s.log.length cl) av) F (applyR (dropR s1 k) (⟨⟨msite,mseq,mwall,mcount,md0,md1,md2,md3,mws⟩,mA,mc⟩:MTx)) lv2 A7 c7 av2):=hidp ⟨hs10,HDR.out.2.1.trans hf10,HIN.out,HNX.out.1,by have:=HNX.out.2;omega,fun m' hm'=>by
                 rcases applyR_has hm' with h1 | h1
                 ·rcases h1 with h2 | h2
                  ·exact HLX.out.has _ (.inl h2)
                  ·exact HLX.out.has _ (.inr (dropR_mem h2))
                 ·exact HLX.out.has _ (h1 ▸ HMH.out),HDR.out.2.2.1⟩
                clear hs10 hf10 f0 f1 f2 f3 f4 f5 f6 f7 f8
                go_wp2_with fail
                go_roundw
                case rel=>exact ⟨_,_,_,_,_,HR10.out.below (by repeat (first | exact Below.refl _ _ | refine blw_alloc ?_ | refine blw_plus ?_ | refine Below.drew ?_))⟩
                case measure=>
                 rw [HL.out.at_.wLen]
                 have h1:=(HR10.out.below (wr':=_) (by repeat (first | exact Below.refl _ _ | refine blw_alloc ?_ | refine blw_plus ?_ | refine Below.drew ?_))).at_.wLen
                 have h2:=HNX.out.2
                 first
                  | (rw [h1];omega)
                  | (simp only [h1];omega)
               exact AllReadyH.nil
              exact AllReadyH.nil
             exact AllReadyH.nil
        ·have hd200:decide ((s1.log.length:Int)<200)=false:=decide_eq_false (by omega)
         have HST:=hidp (HL.out.stop (.inl (by omega)))
         go_wp2_with fail
         go_ret
         exact HDN0.out _ _ _ _ _ _ (HL.out.below (by repeat (first | exact Below.refl _ _ | refine blw_alloc ?_ | refine blw_plus ?_ | refine Below.drew ?_))) HST.out
end Go.Proofs.YtbopfhbeegkkaabGreatDoor
