/- Part 22 of a proof: lemmas and contracts that other parts use. -/
import Derived.Test.YtbopfhbeegkkaabGreatDoorSe20
import Derived.RegionTactic
import Derived.Deep.RegionHeld3
set_option linter.unusedVariables false
set_option linter.unusedSimpArgs false
set_option linter.constructorNameAsVariable false
namespace Go.Proofs.YtbopfhbeegkkaabGreatDoor
open Go.RowKit
def applyR (s:RsP) (m:MTx):RsP:=
 { (if 0<cmpS m.t.wall m.t.count s.lw s.lc then ((({ s with L:=rPuts s.L m.t m.t.ws.length }:RsP).setc (1+m.t.site.toNat) m.t.seq).setc 5 m.t.wall).setc 6 m.t.count
    else (({ s with L:=rPuts s.L m.t m.t.ws.length }:RsP).setc (1+m.t.site.toNat) m.t.seq)) with log:=s.log++[m] }
theorem rPut_len (L:List PtP) (k:Int) (v:VerP):(rPut L k v).2.length≤L.length+1:=by
 unfold rPut
 repeat' split
 all_goals simp
theorem rPuts_len (L:List PtP) (t:TxP):∀ j,(rPuts L t j).length≤L.length+j
 | 0=>Nat.le_refl _
 | j+1=>by
   have h1:=rPuts_len L t j
   have h2:=rPut_len (rPuts L t j) (t.ws.getD j default).key (verOf t (t.ws.getD j default))
   show (rPut _ _ _).2.length≤_
   omega
theorem applyR_r (s:RsP) (m:MTx) (hs:0≤m.t.site∧m.t.site<4):(applyR s m).r=rApply s.r m.t:=by
 have hc:m.t.site=0∨m.t.site=1∨m.t.site=2∨m.t.site=3:=by omega
 unfold applyR rApply RsP.r
 by_cases h:0<cmpS m.t.wall m.t.count s.lw s.lc
 ·simp only [h,if_true,RsP.setc]
  rcases hc with hc | hc | hc | hc <;> simp [hc] <;> (funext k;omega)
 ·simp only [h,if_false,RsP.setc]
  rcases hc with hc | hc | hc | hc <;> simp [hc] <;> (funext k;omega)
set_option maxRecDepth 20000 in
set_option maxHeartbeats 16000000 in
theorem rApplies_any (B y wc:Nat) (s:RsP) (lv av:Value) (wA:Option Addr) (m:MTx) (w:World) (h:RsAt w B y s lv wA wc av)
  (hm:WsAt w m.A m.t.ws∧∀ b o,m.A=some ⟨b,o,none⟩→b<w.heap.size∧¬RsOwn y lv av b) (hsite:0≤m.t.site∧m.t.site<4) (hN:s.L.length≤800000) (hl:s.log.length≤100000) (hw:m.t.ws.length≤1000):
  Calls Tryz.prog 75 #[.pointer (some ⟨y,0,none⟩),MTx.val m] w fun e w'=>e=.returned (.tuple #[])∧∃ lv' av',RsAt w' B y (applyR s m) lv' wA wc av'∧SiFr w w' (RsOwn y lv av) (RsOwn y lv' av'):=by
 obtain ⟨⟨site,seq,wall,count,d0,d1,d2,d3,ws⟩,A,c⟩:=m
 obtain ⟨Al,cl,rfl⟩:=own_form h.row
 simp only at hm hsite hw
 obtain ⟨st,rfl⟩:=Int.eq_ofNat_of_zero_le hsite.1
 have hst4:st<4:=by omega
 have hBw:Below w.heap.size w (w.alloc (.cells #[.int .i64 (st:Int),.int .i64 seq,.int .i64 wall,.int .i64 count,.int .i64 d0,.int .i64 d1,.int .i64 d2,.int .i64 d3,.slice A ws.length c] 44)):=blw_alloc (Below.refl _ _)
 have HS0:=hidp (h.below hBw)
 have HFR0:=hidp (SiFr.of_below (RsOwn y (.slice Al s.log.length cl) av) hBw)
 have HM0:=hidp (show WsAt (w.alloc (.cells #[.int .i64 (st:Int),.int .i64 seq,.int .i64 wall,.int .i64 count,.int .i64 d0,.int .i64 d1,.int .i64 d2,.int .i64 d3,.slice A ws.length c] 44)) A ws∧∀ b o,A=some ⟨b,o,none⟩→b<(w.alloc (.cells #[.int .i64 (st:Int),.int .i64 seq,.int .i64 wall,.int .i64 count,.int .i64 d0,.int .i64 d1,.int .i64 d2,.int .i64 d3,.slice A ws.length c] 44)).heap.size∧¬RsOwn y (.slice Al s.log.length cl) av b from ⟨hm.1.below hBw,fun b o e=>⟨Nat.lt_of_lt_of_le (hm.2 b o e).1 hBw.size,(hm.2 b o e).2⟩⟩)
 have HBX:=hidp (show (w.alloc (.cells #[.int .i64 (st:Int),.int .i64 seq,.int .i64 wall,.int .i64 count,.int .i64 d0,.int .i64 d1,.int .i64 d2,.int .i64 d3,.slice A ws.length c] 44)).heap[w.heap.size]?=some (.cells #[.int .i64 (st:Int),.int .i64 seq,.int .i64 wall,.int .i64 count,.int .i64 d0,.int .i64 d1,.int .i64 d2,.int .i64 d3,.slice A ws.length c] 44) from blk_new rfl _)
 have HNO:=hidp (show ¬RsOwn y (.slice Al s.log.length cl) av w.heap.size from fun e=>by have:=(h.lt e).2;omega)
 have HB:=hidp (Nat.le_trans h.bx (Nat.le_of_lt h.sto.lt))
 have HPL:Hid (∀ j,(rPuts s.L (⟨(st:Int),seq,wall,count,d0,d1,d2,d3,ws⟩:TxP) j).length≤s.L.length+j):=hidp (rPuts_len s.L (⟨(st:Int),seq,wall,count,d0,d1,d2,d3,ws⟩:TxP))
 have hbs:(w.alloc (.cells #[.int .i64 (st:Int),.int .i64 seq,.int .i64 wall,.int .i64 count,.int .i64 d0,.int .i64 d1,.int .i64 d2,.int .i64 d3,.slice A ws.length c] 44)).heap.size=w.heap.size+1:=by simp
 have HSZ:=hidp hbs
 clear h hm hBw hbs
 unfold MTx.val
 go_enter Tryz.func75,Tryz.ntmps75
 go_wp2_with fail
 generalize w.alloc (.cells #[.int .i64 (st:Int),.int .i64 seq,.int .i64 wall,.int .i64 count,.int .i64 d0,.int .i64 d1,.int .i64 d2,.int .i64 d3,.slice A ws.length c] 44)=wo at *
 go_loopw [9] (fun i wr=>∃ (j:Nat) (av':Value),i=.int .i64 j∧j≤ws.length∧RsAt wr B y { s with L:=rPuts s.L (⟨(st:Int),seq,wall,count,d0,d1,d2,d3,ws⟩:TxP) j } (.slice Al s.log.length cl) wA wc av'∧SiFr wo wr (RsOwn y (.slice Al s.log.length cl) av) (RsOwn y (.slice Al s.log.length cl) av')) (fun i _=>ws.length-(intOf i).toNat)
 case atStart=>exact ⟨0,av,rfl,Nat.zero_le _,HS0.out,SiFr.of_below _ (Below.refl _ _)⟩
 case round=>
  obtain ⟨j,av1,rfl,hj,hs,hfr⟩:=hrel
  have HS:=hidp hs
  have HFR:=hidp hfr
  have hbx:wr.heap[w.heap.size]?=some (.cells #[.int .i64 (st:Int),.int .i64 seq,.int .i64 wall,.int .i64 count,.int .i64 d0,.int .i64 d1,.int .i64 d2,.int .i64 d3,.slice A ws.length c] 44):=(hfr.block _ (lt_blk HBX.out) HNO.out).trans HBX.out
  have e0:=cell_blk hbx 0;have e1:=cell_blk hbx 1;have e2:=cell_blk hbx 2;have e3:=cell_blk hbx 3;have e4:=cell_blk hbx 4;have e5:=cell_blk hbx 5;have e6:=cell_blk hbx 6;have e7:=cell_blk hbx 7;have e8:=cell_blk hbx 8
  simp only [zC,zD,zE] at e0 e1 e2 e3 e4 e5 e6 e7 e8
  haveI:SzGe (w.heap.size+1) wr:=⟨lt_blk hbx⟩
  have hszr:=hfr.size
  clear hs hfr hbx
  by_cases hjl:j<ws.length
  ·have hjd:decide ((j:Int)<(ws.length:Int))=true:=decide_eq_true (by omega)
   obtain ⟨hws,hwo⟩:=HM0.out
   obtain ⟨b,o,rfl,hb,k0,k1,k2⟩:=hws j ws[j] (List.getElem?_eq_getElem hjl)
   have hgd:ws.getD j default=ws[j]:=by simp [List.getD,List.getElem?_eq_getElem hjl]
   have HX:Hid (rPuts s.L (⟨(st:Int),seq,wall,count,d0,d1,d2,d3,ws⟩:TxP) (j+1)=(rPut (rPuts s.L (⟨(st:Int),seq,wall,count,d0,d1,d2,d3,ws⟩:TxP) j) (ws[j]).key ⟨wall,count,(st:Int),seq,(ws[j]).data,(ws[j]).gone⟩).2):=hidp (by
    show (rPut _ (ws.getD j default).key _).2=_
    rw [hgd];rfl)
   have hbw:=HFR.out.block b (hwo b o rfl).1 (hwo b o rfl).2
   rw [←World.cell?_of_block hbw] at k0 k1 k2
   haveI:SzGe (b+1) wr:=⟨Nat.lt_of_lt_of_le (hwo b o rfl).1 hszr⟩
   generalize ws[j]=y1 at *
   obtain ⟨yk,yd,yg⟩:=y1
   simp only at k0 k1 k2
   simp only at HX
   have HPT:=hidp fun W (hW:RsAt W B y { s with L:=rPuts s.L (⟨(st:Int),seq,wall,count,d0,d1,d2,d3,ws⟩:TxP) j } (.slice Al s.log.length cl) wA wc av1)=>rPut_any y 9 B _ av1 yk ⟨wall,count,(st:Int),seq,yd,yg⟩ W hW.sto (Nat.le_trans (HPL.out j) (by omega)) (Nat.le_trans hW.bx (Nat.le_of_lt hW.sto.lt))
   clear hws hwo hgd hbw hb
   go_wp2_with fail
   refine wp_region_plus_tail 16 (by kernel_rfl) (by kernel_rfl) ?_
   simp only [List.take_succ_cons,List.take_zero,List.drop_succ_cons,List.drop_zero]
   repeat (first | go_big_quiet_skip | (go_big_quiet_want;go_big_quiet_op;go_big_quiet_on))
   refine wpQuiet_nil ?_
   rintro _ ⟨x3,rfl⟩
   go_wp2_with fail
   have HCU:=hidp (HS.out.below (show Below wr.heap.size wr (wplus (wr.alloc (.cells #[.int .i64 yk,.string yd,.bool yg] 83)) x3) from zB))
   have HFU:=hidp (HFR.out.trans (SiFr.of_below (RsOwn y (.slice Al s.log.length cl) av1) (show Below wr.heap.size wr (wplus (wr.alloc (.cells #[.int .i64 yk,.string yd,.bool yg] 83)) x3) from zB)))
   go_at_call 133
   refine (HPT.out _ HCU.out).mono ?_
   rintro e w2 ⟨av2,rfl,hst2,hfr2⟩
   have HN2:=hidp (HCU.out.store hst2 hfr2)
   clear hst2 hfr2 HPT
   go_wp2_with fail
   go_roundw
   case rel=>
    refine ⟨j+1,av2,by go_num,by omega,?_,HFU.out.trans HN2.out.2⟩
    rw [HX.out]
    exact HN2.out.1
   case measure=>simp [intOf];omega
  ·obtain rfl:j=ws.length:=by omega
   have hjd:decide ((ws.length:Int)<(ws.length:Int))=false:=decide_eq_false (by omega)
   have hyr:=HS.out.sto.lt
   haveI:SzGe (y+1) wr:=⟨hyr⟩
   obtain ⟨zu,hzu⟩:∃ zu,wr.cell? ⟨y,1+st,none⟩=some (.int .i64 zu):=⟨_,HS.out.apc hst4⟩
   have hzf:=HS.out.frz (1+st)
   have hst0:(0:Int)≤(st:Int):=by omega
   have hst5:(st:Int)<4:=by omega
   go_wp2_with fail
   refine wp_region_plus_tail 8 (by kernel_rfl) (by kernel_rfl) ?_
   simp only [List.take_succ_cons,List.take_zero,List.drop_succ_cons,List.drop_zero]
   repeat (first | go_big_quiet_skip | (go_big_quiet_want;go_big_quiet_op;go_big_quiet_on))
   refine wpQuiet_nil ?_
   rintro _ ⟨x3,rfl⟩
   go_wp2_with fail
   have HS6:=hidp ((HS.out.setc (i:=1+st) (.inl (by omega)) seq).below (below_wplus _ x3))
   have HF6:=hidp ((HFR.out.trans (SiFr.setR (i:=1+st) (.int .i64 seq))).trans (SiFr.of_below (RsOwn y (.slice Al s.log.length cl) av1) (below_wplus _ x3)))
   clear e0 e1 e2 e3 e4 e5 e6 e7 e8 hzu hzf
   generalize wplus (wr.setCell ⟨y,1+st,none⟩ (.int .i64 seq)) x3=w6 at *
   obtain ⟨s6,hs6⟩:∃ s6,RsP.setc ({ s with L:=rPuts s.L (⟨(st:Int),seq,wall,count,d0,d1,d2,d3,ws⟩:TxP) ws.length }:RsP) (1+st) seq=s6:=⟨_,rfl⟩
   have hlw:s6.lw=s.lw:=by rw [←hs6];simp [RsP.setc];omega
   have hlc:s6.lc=s.lc:=by rw [←hs6];simp [RsP.setc];omega
   have hlg:s6.log=s.log:=by rw [←hs6];rfl
   rw [hs6] at HS6
   have HS6E:=hidp hs6
   have HLG:=hidp hlg
   have a5:=HS6.out.c5
   have a6:=HS6.out.c6
   rw [hlw] at a5
   rw [hlc] at a6
   have g5:=HS6.out.frz 5;have g6:=HS6.out.frz 6
   have hx6:=HS6.out.sto.lt
   haveI:SzGe (y+1) w6:=⟨hx6⟩
   clear hs6 hlw hlc hlg
   have HCM:=hidp fun w=>rCompare_any wall count s.lw s.lc w
   have HAP:=hidp (show applyR s (⟨⟨(st:Int),seq,wall,count,d0,d1,d2,d3,ws⟩,A,c⟩:MTx)={ (if 0<cmpS wall count s.lw s.lc then (s6.setc 5 wall).setc 6 count else s6) with log:=s.log++[(⟨⟨(st:Int),seq,wall,count,d0,d1,d2,d3,ws⟩,A,c⟩:MTx)] } from by
    unfold applyR
    simp only [Int.toNat_natCast]
    rw [HS6E.out])
   have hbx6:w6.heap[w.heap.size]?=some (.cells #[.int .i64 (st:Int),.int .i64 seq,.int .i64 wall,.int .i64 count,.int .i64 d0,.int .i64 d1,.int .i64 d2,.int .i64 d3,.slice A ws.length c] 44):=(HF6.out.block _ (lt_blk HBX.out) HNO.out).trans HBX.out
   have e0:=cell_blk hbx6 0;have e1:=cell_blk hbx6 1;have e2:=cell_blk hbx6 2;have e3:=cell_blk hbx6 3;have e4:=cell_blk hbx6 4;have e5:=cell_blk hbx6 5;have e6:=cell_blk hbx6 6;have e7:=cell_blk hbx6 7;have e8:=cell_blk hbx6 8
   simp only [zC,zD,zE] at e0 e1 e2 e3 e4 e5 e6 e7 e8
   haveI:SzGe (w.heap.size+1) w6:=⟨lt_blk hbx6⟩
   clear hbx6
   have hM6:∀ {wz:World},SiFr wo wz (RsOwn y (.slice Al s.log.length cl) av) (RsOwn y (.slice Al s.log.length cl) av1)→Hid (WsAt wz A ws∧∀ b o,A=some ⟨b,o,none⟩→b<wz.heap.size∧¬RsOwn y (.slice Al s.log.length cl) av1 b):=fun {wz} hF=>hidp (by
    obtain ⟨h1,h2⟩:=HM0.out
    have h3:=hF.size
    refine ⟨h1.keep fun b o e=>hF.block b (h2 b o e).1 (h2 b o e).2,fun b o e=>⟨Nat.lt_of_lt_of_le (h2 b o e).1 h3,fun e2=>?_⟩⟩
    rcases hF.own b e2 with e3 | e3
    ·exact (h2 b o e).2 e3
    ·have:=(h2 b o e).1;omega)
   have HM6:=hidp fun wz hF=>@hM6 wz hF
   clear hM6
   by_cases hcm:0<cmpS wall count s.lw s.lc
   ·rw [if_pos hcm] at HAP
    have hcd:decide (0<cmpS wall count s.lw s.lc)=true:=decide_eq_true hcm
    generalize cmpS wall count s.lw s.lc=cz at *
    clear hcm
    go_wp2_with fail
    refine wp_region_plus (by kernel_rfl) (by kernel_rfl) ?_
    repeat (first | go_big_quiet_skip | (go_big_quiet_want;go_big_quiet_op;first | go_big_quiet_on | (apply Exists.intro;refine ⟨fun _=>?_,?_⟩;(go_at_call 134;exact Calls.plus_of (HCM.out _));go_big_quiet_on)))
    refine wpQuiet_nil ?_
    rintro _ ⟨x4,rfl⟩
    go_wp2_with fail
    have HS7:=hidp ((((HS6.out).setc (i:=5) (.inl (by omega)) wall).setc (i:=6) (.inl (by omega)) count).below (below_wplus _ x4))
    have HF7:=hidp (((HF6.out.trans (SiFr.setR (i:=5) (.int .i64 wall))).trans (SiFr.setR (i:=6) (.int .i64 count))).trans (SiFr.of_below (RsOwn y (.slice Al s.log.length cl) av1) (below_wplus _ x4)))
    have HB7:Hid ((wplus ((w6.setCell ⟨y,5,none⟩ (.int .i64 wall)).setCell ⟨y,6,none⟩ (.int .i64 count)) x4).heap[w.heap.size]?=some (.cells #[.int .i64 (st:Int),.int .i64 seq,.int .i64 wall,.int .i64 count,.int .i64 d0,.int .i64 d1,.int .i64 d2,.int .i64 d3,.slice A ws.length c] 44)):=hidp ((HF7.out.block _ (lt_blk HBX.out) HNO.out).trans HBX.out)
    have HMZ:=hidp (HM6.out _ HF7.out).out
    have HL7:Hid (((s6.setc 5 wall).setc 6 count).log=s.log):=hidp HLG.out
    clear e0 e1 e2 e3 e4 e5 e6 e7 e8 a5 a6 g5 g6
    generalize wplus ((w6.setCell ⟨y,5,none⟩ (.int .i64 wall)).setCell ⟨y,6,none⟩ (.int .i64 count)) x4=w7 at *
    have HM7:=hidp HMZ
    clear HMZ
    have HOW:=hidp HS7.out.row
    rw [show ((s6.setc 5 wall).setc 6 count).log=s.log from HL7.out] at HOW
    have k7:=HS7.out.c7
    have z7:=HS7.out.frz 7
    have hy7:=HS7.out.sto.lt
    haveI:SzGe (y+1) w7:=⟨hy7⟩
    have hB7:B≤w7.heap.size:=Nat.le_trans HS7.out.bx (Nat.le_of_lt hy7)
    have hbx7:=HB7.out
    have e0:=cell_blk hbx7 0;have e1:=cell_blk hbx7 1;have e2:=cell_blk hbx7 2;have e3:=cell_blk hbx7 3;have e4:=cell_blk hbx7 4;have e5:=cell_blk hbx7 5;have e6:=cell_blk hbx7 6;have e7:=cell_blk hbx7 7;have e8:=cell_blk hbx7 8
    simp only [zC,zD,zE] at e0 e1 e2 e3 e4 e5 e6 e7 e8
    haveI:SzGe (w.heap.size+1) w7:=⟨lt_blk hbx7⟩
    clear hbx7
    obtain ⟨i0,hi0,hz0,hz1,hz2⟩:=info40
    have HN1:∀ u∈([.int .i64 (st:Int),.int .i64 seq,.int .i64 wall,.int .i64 count,.int .i64 d0,.int .i64 d1,.int .i64 d2,.int .i64 d3,.slice A ws.length c]:List Value),u.oneCell'=true:=by
     intro u hu;simp at hu;rcases hu with rfl | rfl | rfl | rfl | rfl | rfl | rfl | rfl | rfl <;> rfl
    have h63:s.log.length+1≤maxLen:=by refine Nat.le_trans ?_ maxLen_ge;omega
    have hby:(s.log.length+1)*88≤140737488355328:=by omega
    have HROW:Hid (∀ (W:World) (v:Value) (n:Nat),W.ownsRow B 44 9 v n (s.log.flatMap MTx.cells++[.int .i64 (st:Int),.int .i64 seq,.int .i64 wall,.int .i64 count,.int .i64 d0,.int .i64 d1,.int .i64 d2,.int .i64 d3,.slice A ws.length c])→n=s.log.length+1→W.ownsRow B 44 9 v (s.log++[(⟨⟨(st:Int),seq,wall,count,d0,d1,d2,d3,ws⟩,A,c⟩:MTx)]).length ((s.log++[(⟨⟨(st:Int),seq,wall,count,d0,d1,d2,d3,ws⟩,A,c⟩:MTx)]).flatMap MTx.cells)):=hidp (by
     intro W v n h hn
     have hrow:s.log.flatMap MTx.cells++[.int .i64 (st:Int),.int .i64 seq,.int .i64 wall,.int .i64 count,.int .i64 d0,.int .i64 d1,.int .i64 d2,.int .i64 d3,.slice A ws.length c]=(s.log++[(⟨⟨(st:Int),seq,wall,count,d0,d1,d2,d3,ws⟩,A,c⟩:MTx)]).flatMap MTx.cells:=by rw [List.flatMap_append];rfl
     have hle:(s.log++[(⟨⟨(st:Int),seq,wall,count,d0,d1,d2,d3,ws⟩,A,c⟩:MTx)]).length=s.log.length+1:=by simp
     rw [hle,←hn,←hrow];exact h)
    go_wp2_with fail
    go_region_law (
     refine step_append_lies _ rfl (.tmp 56) (.tmp 58) 35 rfl B 44 i0 txZero 9 88 Tryz.underlying35 hi0 hz0 hz1 hz2 rfl (by decide) (.slice Al s.log.length cl) s.log.length (s.log.flatMap MTx.cells) (by simp [Act.eval,Act.put]) (own_below HOW.out (by repeat (first | exact Below.refl _ _ | refine blw_alloc ?_ | refine blw_plus ?_ | refine Below.drew ?_)) (fun k e=>(own_ge HOW.out e).2)) ⟨w7.heap.size,0,none⟩ 1 1 [.int .i64 (st:Int),.int .i64 seq,.int .i64 wall,.int .i64 count,.int .i64 d0,.int .i64 d1,.int .i64 d2,.int .i64 d3,.slice A ws.length c] (by simp [Act.eval,Act.put]) rfl (World.news_of_block (cs:=#[.int .i64 (st:Int),.int .i64 seq,.int .i64 wall,.int .i64 count,.int .i64 d0,.int .i64 d1,.int .i64 d2,.int .i64 d3,.slice A ws.length c]) (by (try rw [heap_drew]);rw [heap_alloc,if_pos (by simp [heap_drew])])) HN1 (by decide) h63 hby (by simp;omega) _ rfl ?_
     intro g1 cap1 w8 hown1 hgrow hgl hlt1
     have hg:=grown_alloc (grown_drew hgrow)
     have hlog:=RsAt.logged (m:=(⟨⟨(st:Int),seq,wall,count,d0,d1,d2,d3,ws⟩,A,c⟩:MTx)) HS7.out hg (by rw [show ((s6.setc 5 wall).setc 6 count).log=s.log from HL7.out];exact HROW.out _ _ _ hown1 rfl) (by
      rcases hgl with e | e
      ·exact .inl (by rw [e];rfl)
      ·exact .inr (by intro b hb;simp [Value.ownBlock] at hb;subst hb;rw [e];simp [heap_drew])) HM7.out
     have HP:=hidp hlog
     have q1:w8.cell? ⟨y,7,none⟩=some (.slice Al s.log.length cl):=by rw [World.cell?_of_block (hg.block y hy7 (fun e=>HS7.out.dxl e.symm))];exact k7
     have q2:w8.frozen? ⟨y,7,none⟩=false:=by rw [World.frozen?_of_block (hg.block y hy7 (fun e=>HS7.out.dxl e.symm))];exact z7
     clear hown1 hgrow hgl hlt1 hg hlog)
    all_goals
     go_wp2_with fail
     obtain ⟨hp1,hp2⟩:=HP.out
     rw [show ((s6.setc 5 wall).setc 6 count).log=s.log from HL7.out] at hp1
     refine bodyPost_end (results_none rfl _ _ _) rfl ⟨rfl,_,av1,?_,(HFR0.out.trans HF7.out).trans hp2⟩
     rw [HAP.out]
     exact hp1
   ·rw [if_neg hcm] at HAP
    have hcd:decide (0<cmpS wall count s.lw s.lc)=false:=decide_eq_false hcm
    generalize cmpS wall count s.lw s.lc=cz at *
    clear hcm
    go_wp2_with fail
    refine wp_region_plus (by kernel_rfl) (by kernel_rfl) ?_
    repeat (first | go_big_quiet_skip | (go_big_quiet_want;go_big_quiet_op;first | go_big_quiet_on | (apply Exists.intro;refine ⟨fun _=>?_,?_⟩;(go_at_call 134;exact Calls.plus_of (HCM.out _));go_big_quiet_on)))
    refine wpQuiet_nil ?_
    rintro _ ⟨x4,rfl⟩
    have HS7:=hidp (HS6.out.below (below_wplus _ x4))
    have HF7:=hidp (HF6.out.trans (SiFr.of_below (RsOwn y (.slice Al s.log.length cl) av1) (below_wplus _ x4)))
    have HB7:Hid ((wplus w6 x4).heap[w.heap.size]?=some (.cells #[.int .i64 (st:Int),.int .i64 seq,.int .i64 wall,.int .i64 count,.int .i64 d0,.int .i64 d1,.int .i64 d2,.int .i64 d3,.slice A ws.length c] 44)):=hidp ((HF7.out.block _ (lt_blk HBX.out) HNO.out).trans HBX.out)
    have HMZ:=hidp (HM6.out _ HF7.out).out
    clear e0 e1 e2 e3 e4 e5 e6 e7 e8 a5 a6 g5 g6
    generalize wplus w6 x4=w7 at *
    have HM7:=hidp HMZ
    clear HMZ
    have HOW:=hidp HS7.out.row
    rw [show s6.log=s.log from HLG.out] at HOW
    have k7:=HS7.out.c7
    have z7:=HS7.out.frz 7
    have hy7:=HS7.out.sto.lt
    haveI:SzGe (y+1) w7:=⟨hy7⟩
    have hB7:B≤w7.heap.size:=Nat.le_trans HS7.out.bx (Nat.le_of_lt hy7)
    have hbx7:=HB7.out
    have e0:=cell_blk hbx7 0;have e1:=cell_blk hbx7 1;have e2:=cell_blk hbx7 2;have e3:=cell_blk hbx7 3;have e4:=cell_blk hbx7 4;have e5:=cell_blk hbx7 5;have e6:=cell_blk hbx7 6;have e7:=cell_blk hbx7 7;have e8:=cell_blk hbx7 8
    simp only [zC,zD,zE] at e0 e1 e2 e3 e4 e5 e6 e7 e8
    haveI:SzGe (w.heap.size+1) w7:=⟨lt_blk hbx7⟩
    clear hbx7
    obtain ⟨i0,hi0,hz0,hz1,hz2⟩:=info40
    have HN1:∀ u∈([.int .i64 (st:Int),.int .i64 seq,.int .i64 wall,.int .i64 count,.int .i64 d0,.int .i64 d1,.int .i64 d2,.int .i64 d3,.slice A ws.length c]:List Value),u.oneCell'=true:=by
     intro u hu;simp at hu;rcases hu with rfl | rfl | rfl | rfl | rfl | rfl | rfl | rfl | rfl <;> rfl
    have h63:s.log.length+1≤maxLen:=by refine Nat.le_trans ?_ maxLen_ge;omega
    have hby:(s.log.length+1)*88≤140737488355328:=by omega
    have HROW:Hid (∀ (W:World) (v:Value) (n:Nat),W.ownsRow B 44 9 v n (s.log.flatMap MTx.cells++[.int .i64 (st:Int),.int .i64 seq,.int .i64 wall,.int .i64 count,.int .i64 d0,.int .i64 d1,.int .i64 d2,.int .i64 d3,.slice A ws.length c])→n=s.log.length+1→W.ownsRow B 44 9 v (s.log++[(⟨⟨(st:Int),seq,wall,count,d0,d1,d2,d3,ws⟩,A,c⟩:MTx)]).length ((s.log++[(⟨⟨(st:Int),seq,wall,count,d0,d1,d2,d3,ws⟩,A,c⟩:MTx)]).flatMap MTx.cells)):=hidp (by
     intro W v n h hn
     have hrow:s.log.flatMap MTx.cells++[.int .i64 (st:Int),.int .i64 seq,.int .i64 wall,.int .i64 count,.int .i64 d0,.int .i64 d1,.int .i64 d2,.int .i64 d3,.slice A ws.length c]=(s.log++[(⟨⟨(st:Int),seq,wall,count,d0,d1,d2,d3,ws⟩,A,c⟩:MTx)]).flatMap MTx.cells:=by rw [List.flatMap_append];rfl
     have hle:(s.log++[(⟨⟨(st:Int),seq,wall,count,d0,d1,d2,d3,ws⟩,A,c⟩:MTx)]).length=s.log.length+1:=by simp
     rw [hle,←hn,←hrow];exact h)
    go_wp2_with fail
    go_region_law (
     refine step_append_lies _ rfl (.tmp 56) (.tmp 58) 35 rfl B 44 i0 txZero 9 88 Tryz.underlying35 hi0 hz0 hz1 hz2 rfl (by decide) (.slice Al s.log.length cl) s.log.length (s.log.flatMap MTx.cells) (by simp [Act.eval,Act.put]) (own_below HOW.out (by repeat (first | exact Below.refl _ _ | refine blw_alloc ?_ | refine blw_plus ?_ | refine Below.drew ?_)) (fun k e=>(own_ge HOW.out e).2)) ⟨w7.heap.size,0,none⟩ 1 1 [.int .i64 (st:Int),.int .i64 seq,.int .i64 wall,.int .i64 count,.int .i64 d0,.int .i64 d1,.int .i64 d2,.int .i64 d3,.slice A ws.length c] (by simp [Act.eval,Act.put]) rfl (World.news_of_block (cs:=#[.int .i64 (st:Int),.int .i64 seq,.int .i64 wall,.int .i64 count,.int .i64 d0,.int .i64 d1,.int .i64 d2,.int .i64 d3,.slice A ws.length c]) (by (try rw [heap_drew]);rw [heap_alloc,if_pos (by simp [heap_drew])])) HN1 (by decide) h63 hby (by simp;omega) _ rfl ?_
     intro g1 cap1 w8 hown1 hgrow hgl hlt1
     have hg:=grown_alloc (grown_drew hgrow)
     have hlog:=RsAt.logged (m:=(⟨⟨(st:Int),seq,wall,count,d0,d1,d2,d3,ws⟩,A,c⟩:MTx)) HS7.out hg (by rw [show s6.log=s.log from HLG.out];exact HROW.out _ _ _ hown1 rfl) (by
      rcases hgl with e | e
      ·exact .inl (by rw [e];rfl)
      ·exact .inr (by intro b hb;simp [Value.ownBlock] at hb;subst hb;rw [e];simp [heap_drew])) HM7.out
     have HP:=hidp hlog
     have q1:w8.cell? ⟨y,7,none⟩=some (.slice Al s.log.length cl):=by rw [World.cell?_of_block (hg.block y hy7 (fun e=>HS7.out.dxl e.symm))];exact k7
     have q2:w8.frozen? ⟨y,7,none⟩=false:=by rw [World.frozen?_of_block (hg.block y hy7 (fun e=>HS7.out.dxl e.symm))];exact z7
     clear hown1 hgrow hgl hlt1 hg hlog)
    all_goals
     go_wp2_with fail
     obtain ⟨hp1,hp2⟩:=HP.out
     rw [show s6.log=s.log from HLG.out] at hp1
     refine bodyPost_end (results_none rfl _ _ _) rfl ⟨rfl,_,av1,?_,(HFR0.out.trans HF7.out).trans hp2⟩
     rw [HAP.out]
     exact hp1
end Go.Proofs.YtbopfhbeegkkaabGreatDoor
