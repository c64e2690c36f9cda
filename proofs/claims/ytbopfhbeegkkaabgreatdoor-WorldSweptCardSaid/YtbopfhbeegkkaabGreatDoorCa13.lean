/- Part 13 of a proof: lemmas and contracts that other parts use. -/
import Derived.Test.YtbopfhbeegkkaabGreatDoorCa12
import Derived.RegionTactic
import Derived.Deep.RegionHeld3
set_option linter.unusedVariables false
set_option linter.unusedSimpArgs false
namespace Go.Proofs.YtbopfhbeegkkaabGreatDoor
open Go.RowKit
instance : Inhabited WrP:=⟨⟨0,⟨#[]⟩,false⟩⟩
def verOf (t:TxP) (w:WrP):VerP:=⟨t.wall,t.count,t.site,t.seq,w.data,w.gone⟩
def stPut (st:Nat→List VerP) (t:TxP):Nat→Nat→List VerP
 | 0=>st
 | j+1=>putP (stPut st t j) ⟨(t.ws.getD j default).key,verOf t (t.ws.getD j default)⟩
theorem stPut_fit {st:Nat→List VerP} {N:Nat} (h:Fit st N) (t:TxP):∀ j,Fit (stPut st t j) (N+j)
 | 0=>h
 | j+1=>(stPut_fit h t j).put _
def laterW (aw ac bw bc:Int):Int:=if cmpS aw ac bw bc<0 then bw else aw
def laterC (aw ac bw bc:Int):Int:=if cmpS aw ac bw bc<0 then bc else ac
theorem later_is (aw ac bw bc:Int) (w:World):Calls Tryz.prog 137 #[.agg #[.int .i64 aw,.int .i64 ac],.agg #[.int .i64 bw,.int .i64 bc]] w fun e w'=>e=.returned (.agg #[.int .i64 (laterW aw ac bw bc),.int .i64 (laterC aw ac bw bc)])∧Below w.heap.size w w':=by
 have:=later_any aw ac bw bc w
 unfold laterW laterC
 split at this <;> rename_i h
 ·rw [if_pos h,if_pos h];exact this
 ·rw [if_neg h,if_neg h];exact this
def applyP (s:SiP) (m:MTx):SiP:=
 { ((({ s with st:=stPut s.st m.t m.t.ws.length }:SiP).setc (1+m.t.site.toNat) m.t.seq).setc 5 (laterW s.lw s.lc m.t.wall m.t.count)).setc 6 (laterC s.lw s.lc m.t.wall m.t.count) with log:=s.log++[m] }
theorem info40o:(Tryz.prog.info? 44).map (fun i=>(i.zero,i.size,i.bytes))=some (some txZero,9,88):=by kernel_rfl
theorem info40:∃ i,Tryz.prog.info? 44=some i∧i.zero=some txZero∧i.size=9∧i.bytes=88:=by
 obtain ⟨i,hi,h⟩:=Option.map_eq_some_iff.1 info40o
 simp only [Prod.mk.injEq] at h
 exact ⟨i,hi,h.1,h.2.1,h.2.2⟩
set_option maxRecDepth 20000 in
set_option maxHeartbeats 16000000 in
theorem applies_any (B x mb:Nat) (s:SiP) (lv:Value) (sv:Nat→Value) (m:MTx) (N:Nat) (w:World) (h:SiAt w B x s mb lv sv)
  (hm:WsAt w m.A m.t.ws∧∀ b o,m.A=some ⟨b,o,none⟩→b<w.heap.size∧¬SiOwn x mb lv sv b) (hsite:0≤m.t.site∧m.t.site<4) (hf:Fit s.st N) (hN:N≤800000) (hl:s.log.length≤100000) (hw:m.t.ws.length≤1000):
  Calls Tryz.prog 80 #[.pointer (some ⟨x,0,none⟩),MTx.val m] w fun e w'=>e=.returned (.tuple #[])∧∃ lv' sv',SiAt w' B x (applyP s m) mb lv' sv'∧SiFr w w' (SiOwn x mb lv sv) (SiOwn x mb lv' sv'):=by
 obtain ⟨⟨site,seq,wall,count,d0,d1,d2,d3,ws⟩,A,c⟩:=m
 obtain ⟨Al,cl,rfl⟩:=own_form h.row
 simp only at hm hsite hw
 obtain ⟨st,rfl⟩:=Int.eq_ofNat_of_zero_le hsite.1
 have hst4:st<4:=by omega
 have hBw:Below w.heap.size w (w.alloc (.cells #[.int .i64 (st:Int),.int .i64 seq,.int .i64 wall,.int .i64 count,.int .i64 d0,.int .i64 d1,.int .i64 d2,.int .i64 d3,.slice A ws.length c] 44)):=blw_alloc (Below.refl _ _)
 have HS0:=hidp (h.below hBw)
 have HFR0:=hidp (SiFr.of_below (SiOwn x mb (.slice Al s.log.length cl) sv) hBw)
 have HM0:=hidp (show WsAt (w.alloc (.cells #[.int .i64 (st:Int),.int .i64 seq,.int .i64 wall,.int .i64 count,.int .i64 d0,.int .i64 d1,.int .i64 d2,.int .i64 d3,.slice A ws.length c] 44)) A ws∧∀ b o,A=some ⟨b,o,none⟩→b<(w.alloc (.cells #[.int .i64 (st:Int),.int .i64 seq,.int .i64 wall,.int .i64 count,.int .i64 d0,.int .i64 d1,.int .i64 d2,.int .i64 d3,.slice A ws.length c] 44)).heap.size∧¬SiOwn x mb (.slice Al s.log.length cl) sv b from ⟨hm.1.below hBw,fun b o e=>⟨Nat.lt_of_lt_of_le (hm.2 b o e).1 hBw.size,(hm.2 b o e).2⟩⟩)
 have HBX:=hidp (show (w.alloc (.cells #[.int .i64 (st:Int),.int .i64 seq,.int .i64 wall,.int .i64 count,.int .i64 d0,.int .i64 d1,.int .i64 d2,.int .i64 d3,.slice A ws.length c] 44)).heap[w.heap.size]?=some (.cells #[.int .i64 (st:Int),.int .i64 seq,.int .i64 wall,.int .i64 count,.int .i64 d0,.int .i64 d1,.int .i64 d2,.int .i64 d3,.slice A ws.length c] 44) from blk_new rfl _)
 have HNO:=hidp (show ¬SiOwn x mb (.slice Al s.log.length cl) sv w.heap.size from fun e=>by have:=(h.lt e).2;omega)
 have HB:=hidp (Nat.le_trans h.bx (Nat.le_of_lt h.sto.lt))
 have HF:=hidp hf
 have hbs:(w.alloc (.cells #[.int .i64 (st:Int),.int .i64 seq,.int .i64 wall,.int .i64 count,.int .i64 d0,.int .i64 d1,.int .i64 d2,.int .i64 d3,.slice A ws.length c] 44)).heap.size=w.heap.size+1:=by simp
 have HSZ:=hidp hbs
 clear h hm hBw hf hbs
 unfold MTx.val
 go_enter Tryz.func80,Tryz.ntmps80
 go_wp2_with fail
 generalize w.alloc (.cells #[.int .i64 (st:Int),.int .i64 seq,.int .i64 wall,.int .i64 count,.int .i64 d0,.int .i64 d1,.int .i64 d2,.int .i64 d3,.slice A ws.length c] 44)=wo at *
 go_loopw [9] (fun i wr=>∃ (j:Nat) (sv':Nat→Value),i=.int .i64 j∧j≤ws.length∧SiAt wr B x { s with st:=stPut s.st (⟨(st:Int),seq,wall,count,d0,d1,d2,d3,ws⟩:TxP) j } mb (.slice Al s.log.length cl) sv'∧SiFr wo wr (SiOwn x mb (.slice Al s.log.length cl) sv) (SiOwn x mb (.slice Al s.log.length cl) sv')) (fun i _=>ws.length-(intOf i).toNat)
 case atStart=>exact ⟨0,sv,rfl,Nat.zero_le _,HS0.out,SiFr.of_below _ (Below.refl _ _)⟩
 case round=>
  obtain ⟨j,sv1,rfl,hj,hs,hfr⟩:=hrel
  have HS:=hidp hs
  have HFR:=hidp hfr
  have hbx:wr.heap[w.heap.size]?=some (.cells #[.int .i64 (st:Int),.int .i64 seq,.int .i64 wall,.int .i64 count,.int .i64 d0,.int .i64 d1,.int .i64 d2,.int .i64 d3,.slice A ws.length c] 44):=(hfr.block _ (lt_blk HBX.out) HNO.out).trans HBX.out
  have e0:=cell_blk hbx 0;have e1:=cell_blk hbx 1;have e2:=cell_blk hbx 2;have e3:=cell_blk hbx 3;have e4:=cell_blk hbx 4;have e5:=cell_blk hbx 5;have e6:=cell_blk hbx 6;have e7:=cell_blk hbx 7;have e8:=cell_blk hbx 8
  simp only [zC,zD,zE] at e0 e1 e2 e3 e4 e5 e6 e7 e8
  haveI:SzGe (w.heap.size+1) wr:=⟨lt_blk hbx⟩
  have hszr:=hfr.size
  clear hs hfr hbx
  by_cases hjl:j<ws.length
  ·obtain ⟨hws,hwo⟩:=HM0.out
   obtain ⟨b,o,rfl,hb,k0,k1,k2⟩:=hws j ws[j] (List.getElem?_eq_getElem hjl)
   have hgd:ws.getD j default=ws[j]:=by simp [List.getD,List.getElem?_eq_getElem hjl]
   have HX:Hid (stPut s.st (⟨(st:Int),seq,wall,count,d0,d1,d2,d3,ws⟩:TxP) (j+1)=(putR (stPut s.st (⟨(st:Int),seq,wall,count,d0,d1,d2,d3,ws⟩:TxP) j) (ws[j]).key ⟨wall,count,(st:Int),seq,(ws[j]).data,(ws[j]).gone⟩).2):=hidp (by
    show putP _ ⟨(ws.getD j default).key,_⟩=_
    rw [hgd];rfl)
   have hbw:=HFR.out.block b (hwo b o rfl).1 (hwo b o rfl).2
   rw [←World.cell?_of_block hbw] at k0 k1 k2
   haveI:SzGe (b+1) wr:=⟨Nat.lt_of_lt_of_le (hwo b o rfl).1 hszr⟩
   generalize ws[j]=y at *
   obtain ⟨yk,yd,yg⟩:=y
   simp only at k0 k1 k2
   simp only at HX
   have HFJ:=hidp ((stPut_fit HF.out (⟨(st:Int),seq,wall,count,d0,d1,d2,d3,ws⟩:TxP) j).mono (M:=900000) (by omega))
   have HPT:=hidp fun W (hW:SiAt W B x { s with st:=stPut s.st (⟨(st:Int),seq,wall,count,d0,d1,d2,d3,ws⟩:TxP) j } mb (.slice Al s.log.length cl) sv1)=>putS_any x 9 B _ sv1 yk ⟨wall,count,(st:Int),seq,yd,yg⟩ W hW.sto (fun k hk=>(HFJ.out k hk).1) (fun k hk=>(HFJ.out k hk).2) (Nat.le_trans hW.bx (Nat.le_of_lt hW.sto.lt))
   clear hws hwo hgd hbw hb
   go_wp2_with fail
   refine wp_region_plus_tail 16 (by kernel_rfl) (by kernel_rfl) ?_
   simp only [List.take_succ_cons,List.take_zero,List.drop_succ_cons,List.drop_zero]
   repeat (first | go_big_quiet_skip | (go_big_quiet_want;go_big_quiet_op;go_big_quiet_on))
   refine wpQuiet_nil ?_
   rintro _ ⟨x3,rfl⟩
   go_wp2_with fail
   have HCU:=hidp (HS.out.below (show Below wr.heap.size wr (wplus (wr.alloc (.cells #[.int .i64 yk,.string yd,.bool yg] 83)) x3) from zB))
   have HFU:=hidp (HFR.out.trans (SiFr.of_below (SiOwn x mb (.slice Al s.log.length cl) sv1) (show Below wr.heap.size wr (wplus (wr.alloc (.cells #[.int .i64 yk,.string yd,.bool yg] 83)) x3) from zB)))
   go_at_call 136
   refine (HPT.out _ HCU.out).mono ?_
   rintro e w2 ⟨sv2,rfl,hst2,hfr2⟩
   have HN2:=hidp (HCU.out.store hst2 hfr2)
   clear hst2 hfr2 HPT
   go_wp2_with fail
   go_roundw
   case rel=>
    refine ⟨j+1,sv2,by go_num,by omega,?_,HFU.out.trans HN2.out.2⟩
    rw [HX.out]
    exact HN2.out.1
   case measure=>simp [intOf];omega
  ·obtain rfl:j=ws.length:=by omega
   have hxr:=HS.out.sto.lt
   haveI:SzGe (x+1) wr:=⟨hxr⟩
   obtain ⟨zu,hzu⟩:∃ zu,wr.cell? ⟨x,1+st,none⟩=some (.int .i64 zu):=by
    obtain ⟨v1,v2,v3,v4⟩:=HS.out.vec
    have hc:st=0∨st=1∨st=2∨st=3:=by omega
    rcases hc with rfl | rfl | rfl | rfl
    ·exact ⟨_,v1⟩
    ·exact ⟨_,v2⟩
    ·exact ⟨_,v3⟩
    ·exact ⟨_,v4⟩
   have hzf:=HS.out.frz (1+st)
   go_wp2_with fail
   refine wp_region_plus_tail 7 (by kernel_rfl) (by kernel_rfl) ?_
   simp only [List.take_succ_cons,List.take_zero,List.drop_succ_cons,List.drop_zero]
   repeat (first | go_big_quiet_skip | (go_big_quiet_want;go_big_quiet_op;go_big_quiet_on))
   refine wpQuiet_nil ?_
   rintro _ ⟨x3,rfl⟩
   go_wp2_with fail
   have HS6:=hidp ((HS.out.setc (i:=1+st) (by omega) seq).below (below_wplus _ x3))
   have HF6:=hidp ((HFR.out.trans (SiFr.setc (i:=1+st) (.int .i64 seq))).trans (SiFr.of_below (SiOwn x mb (.slice Al s.log.length cl) sv1) (below_wplus _ x3)))
   clear e0 e1 e2 e3 e4 e5 e6 e7 e8 hzu hzf
   generalize wplus (wr.setCell ⟨x,1+st,none⟩ (.int .i64 seq)) x3=w6 at *
   obtain ⟨s6,hs6⟩:∃ s6,SiP.setc ({ s with st:=stPut s.st (⟨(st:Int),seq,wall,count,d0,d1,d2,d3,ws⟩:TxP) ws.length }:SiP) (1+st) seq=s6:=⟨_,rfl⟩
   have hlw:s6.lw=s.lw:=by rw [←hs6];simp [SiP.setc];omega
   have hlc:s6.lc=s.lc:=by rw [←hs6];simp [SiP.setc];omega
   have hlg:s6.log=s.log:=by rw [←hs6];rfl
   have hst6:s6.st=stPut s.st (⟨(st:Int),seq,wall,count,d0,d1,d2,d3,ws⟩:TxP) ws.length:=by rw [←hs6];rfl
   rw [hs6] at HS6
   have HS6E:=hidp hs6
   have HLG:=hidp hlg
   have a5:=HS6.out.c5
   have a6:=HS6.out.c6
   rw [hlw] at a5
   rw [hlc] at a6
   have g5:=HS6.out.frz 5;have g6:=HS6.out.frz 6
   have hx6:=HS6.out.sto.lt
   haveI:SzGe (x+1) w6:=⟨hx6⟩
   clear hs6 hlw hlc hlg hst6
   have HLT:=hidp fun w=>later_is s.lw s.lc wall count w
   generalize hLW:laterW s.lw s.lc wall count=LW at *
   generalize hLC:laterC s.lw s.lc wall count=LC at *
   have HLW:=hidp hLW
   have HLC:=hidp hLC
   clear hLW hLC
   have hbx6:w6.heap[w.heap.size]?=some (.cells #[.int .i64 (st:Int),.int .i64 seq,.int .i64 wall,.int .i64 count,.int .i64 d0,.int .i64 d1,.int .i64 d2,.int .i64 d3,.slice A ws.length c] 44):=(HF6.out.block _ (lt_blk HBX.out) HNO.out).trans HBX.out
   have e0:=cell_blk hbx6 0;have e1:=cell_blk hbx6 1;have e2:=cell_blk hbx6 2;have e3:=cell_blk hbx6 3;have e4:=cell_blk hbx6 4;have e5:=cell_blk hbx6 5;have e6:=cell_blk hbx6 6;have e7:=cell_blk hbx6 7;have e8:=cell_blk hbx6 8
   simp only [zC,zD,zE] at e0 e1 e2 e3 e4 e5 e6 e7 e8
   haveI:SzGe (w.heap.size+1) w6:=⟨lt_blk hbx6⟩
   clear hbx6
   go_wp2_with fail
   refine wp_region_plus_tail 8 (by kernel_rfl) (by kernel_rfl) ?_
   simp only [List.take_succ_cons,List.take_zero,List.drop_succ_cons,List.drop_zero]
   repeat (first | go_big_quiet_skip | (go_big_quiet_want;go_big_quiet_op;first | go_big_quiet_on | (apply Exists.intro;refine ⟨fun _=>?_,?_⟩;(go_at_call 137;exact Calls.plus_of (HLT.out _));go_big_quiet_on)))
   refine wpQuiet_nil ?_
   rintro _ ⟨x4,rfl⟩
   go_wp2_with fail
   have HS7:=hidp (((HS6.out.setc (i:=5) (by omega) LW).setc (i:=6) (by omega) LC).below (below_wplus _ x4))
   have HF7:=hidp (((HF6.out.trans (SiFr.setc (i:=5) (.int .i64 LW))).trans (SiFr.setc (i:=6) (.int .i64 LC))).trans (SiFr.of_below (SiOwn x mb (.slice Al s.log.length cl) sv1) (below_wplus _ x4)))
   clear e0 e1 e2 e3 e4 e5 e6 e7 e8 a5 a6 g5 g6
   generalize wplus ((w6.setCell ⟨x,5,none⟩ (.int .i64 LW)).setCell ⟨x,6,none⟩ (.int .i64 LC)) x4=w7 at *
   have hM7:WsAt w7 A ws∧∀ b o,A=some ⟨b,o,none⟩→b<w7.heap.size∧¬SiOwn x mb (.slice Al s.log.length cl) sv1 b:=by
    obtain ⟨h1,h2⟩:=HM0.out
    have h3:=HF7.out.size
    refine ⟨h1.keep fun b o e=>HF7.out.block b (h2 b o e).1 (h2 b o e).2,fun b o e=>⟨Nat.lt_of_lt_of_le (h2 b o e).1 h3,fun e2=>?_⟩⟩
    rcases HF7.out.own b e2 with e3 | e3
    ·exact (h2 b o e).2 e3
    ·have:=(h2 b o e).1;omega
   have HM7:=hidp hM7
   clear hM7
   have HRW:=HS7.out.row
   rw [show ((s6.setc 5 LW).setc 6 LC).log=s6.log from rfl,HLG.out] at HRW
   have HOW:=hidp HRW
   clear HRW
   have k7:=HS7.out.c7
   have z7:=HS7.out.frz 7
   have hx7:=HS7.out.sto.lt
   haveI:SzGe (x+1) w7:=⟨hx7⟩
   have hB7:B≤w7.heap.size:=Nat.le_trans HS7.out.bx (Nat.le_of_lt hx7)
   have hbx7:w7.heap[w.heap.size]?=some (.cells #[.int .i64 (st:Int),.int .i64 seq,.int .i64 wall,.int .i64 count,.int .i64 d0,.int .i64 d1,.int .i64 d2,.int .i64 d3,.slice A ws.length c] 44):=(HF7.out.block _ (lt_blk HBX.out) HNO.out).trans HBX.out
   have e0:=cell_blk hbx7 0;have e1:=cell_blk hbx7 1;have e2:=cell_blk hbx7 2;have e3:=cell_blk hbx7 3;have e4:=cell_blk hbx7 4;have e5:=cell_blk hbx7 5;have e6:=cell_blk hbx7 6;have e7:=cell_blk hbx7 7;have e8:=cell_blk hbx7 8
   simp only [zC,zD,zE] at e0 e1 e2 e3 e4 e5 e6 e7 e8
   haveI:SzGe (w.heap.size+1) w7:=⟨lt_blk hbx7⟩
   clear hbx7
   obtain ⟨i0,hi0,hz0,hz1,hz2⟩:=info40
   have HN1:∀ u∈([.int .i64 (st:Int),.int .i64 seq,.int .i64 wall,.int .i64 count,.int .i64 d0,.int .i64 d1,.int .i64 d2,.int .i64 d3,.slice A ws.length c]:List Value),u.oneCell'=true:=by
    intro u hu;simp at hu;rcases hu with rfl | rfl | rfl | rfl | rfl | rfl | rfl | rfl | rfl <;> rfl
   have h63:s.log.length+1≤maxLen:=by refine Nat.le_trans ?_ maxLen_ge;omega
   have hby:(s.log.length+1)*88≤140737488355328:=by omega
   have HROW:Hid (∀ (W:World) (v:Value) (n:Nat),W.ownsRow B 44 9 v n (s.log.flatMap MTx.cells++[.int .i64 (st:Int),.int .i64 seq,.int .i64 wall,.int .i64 count,.int .i64 d0,.int .i64 d1,.int .i64 d2,.int .i64 d3,.slice A ws.length c])→n=s.log.length+1→W.ownsRow B 44 9 v (s.log++[(⟨⟨(st:Int),seq,wall,count,d0,d1,d2,d3,ws⟩,A,c⟩:MTx)]).length ((s.log++[(⟨⟨(st:Int),seq,wall,count,d0,d1,d2,d3,ws⟩,A,c⟩:MTx)]).flatMap MTx.cells)):=hidp (by
    intro W v n h hn
    have hrow:s.log.flatMap MTx.cells++[.int .i64 (st:Int),.int .i64 seq,.int .i64 wall,.int .i64 count,.int .i64 d0,.int .i64 d1,.int .i64 d2,.int .i64 d3,.slice A ws.length c]=(s.log++[(⟨⟨(st:Int),seq,wall,count,d0,d1,d2,d3,ws⟩,A,c⟩:MTx)]).flatMap MTx.cells:=by rw [List.flatMap_append];rfl
    have hle:(s.log++[(⟨⟨(st:Int),seq,wall,count,d0,d1,d2,d3,ws⟩,A,c⟩:MTx)]).length=s.log.length+1:=by simp
    rw [hle,←hn,←hrow];exact h)
   go_wp2_with fail
   go_region_law (
    refine step_append_lies _ rfl (.tmp 53) (.tmp 55) 35 rfl B 44 i0 txZero 9 88 Tryz.underlying35 hi0 hz0 hz1 hz2 rfl (by decide) (.slice Al s.log.length cl) s.log.length (s.log.flatMap MTx.cells) (by simp [Act.eval,Act.put]) (own_below HOW.out zB (fun k e=>(own_ge HOW.out e).2)) ⟨w7.heap.size,0,none⟩ 1 1 [.int .i64 (st:Int),.int .i64 seq,.int .i64 wall,.int .i64 count,.int .i64 d0,.int .i64 d1,.int .i64 d2,.int .i64 d3,.slice A ws.length c] (by simp [Act.eval,Act.put]) rfl (World.news_of_block (cs:=#[.int .i64 (st:Int),.int .i64 seq,.int .i64 wall,.int .i64 count,.int .i64 d0,.int .i64 d1,.int .i64 d2,.int .i64 d3,.slice A ws.length c]) (by (try rw [heap_drew]);rw [heap_alloc,if_pos (by simp [heap_drew])])) HN1 (by decide) h63 hby (by simp;omega) _ rfl ?_
    intro g1 cap1 w8 hown1 hgrow hgl hlt1
    have hg:=grown_alloc (grown_drew hgrow)
    have hlog:=SiAt.logged (m:=(⟨⟨(st:Int),seq,wall,count,d0,d1,d2,d3,ws⟩,A,c⟩:MTx)) HS7.out hg (by rw [show ((s6.setc 5 LW).setc 6 LC).log=s6.log from rfl,HLG.out];exact HROW.out _ _ _ hown1 rfl) (by
     rcases hgl with e | e
     ·exact .inl (by rw [e];rfl)
     ·exact .inr (by intro b hb;simp [Value.ownBlock] at hb;subst hb;rw [e];simp [heap_drew])) HM7.out
    have HP:=hidp hlog
    have q1:w8.cell? ⟨x,7,none⟩=some (.slice Al s.log.length cl):=by rw [World.cell?_of_block (hg.block x hx7 (fun e=>HS7.out.dxl e.symm))];exact k7
    have q2:w8.frozen? ⟨x,7,none⟩=false:=by rw [World.frozen?_of_block (hg.block x hx7 (fun e=>HS7.out.dxl e.symm))];exact z7
    clear hown1 hgrow hgl hlt1 hg hlog)
   all_goals
    go_wp2_with fail
    have happ:applyP s (⟨⟨(st:Int),seq,wall,count,d0,d1,d2,d3,ws⟩,A,c⟩:MTx)={ (s6.setc 5 LW).setc 6 LC with log:=s.log++[(⟨⟨(st:Int),seq,wall,count,d0,d1,d2,d3,ws⟩,A,c⟩:MTx)] }:=by
     unfold applyP
     simp only [Int.toNat_natCast]
     rw [HS6E.out,HLW.out,HLC.out]
    obtain ⟨hp1,hp2⟩:=HP.out
    rw [show ((s6.setc 5 LW).setc 6 LC).log=s.log from HLG.out] at hp1
    refine bodyPost_end (results_none rfl _ _ _) rfl ⟨rfl,_,sv1,?_,(HFR0.out.trans HF7.out).trans hp2⟩
    rw [happ]
    exact hp1
def SiP.at (s:SiP) (i:Int):Int:=atV s.p0 s.p1 s.p2 s.p3 i
def nextsL (s:SiP) (k:Nat):List MTx:=(List.range k).filterMap fun (i:Nat)=>s.wt (i:Int) (s.at (i:Int)+1)
theorem nextsL_succ (s:SiP) (k:Nat):nextsL s (k+1)=nextsL s k++(match s.wt (k:Int) (s.at (k:Int)+1) with | some m=>[m] | none=>[]):=by
 unfold nextsL
 rw [List.range_succ,List.filterMap_append]
 cases h:s.wt (k:Int) (s.at (k:Int)+1) <;> simp [h]
def XsAt (w:World) (A:Option Addr) (l:List MTx):Prop:=∀ (i:Nat) (m:MTx),l[i]?=some m→∃ b o,A=some ⟨b,o,none⟩∧b<w.heap.size∧w.cell? ⟨b,o+i*9,none⟩=some (.int .i64 m.t.site)∧w.cell? ⟨b,o+i*9+1,none⟩=some (.int .i64 m.t.seq)∧
 w.cell? ⟨b,o+i*9+2,none⟩=some (.int .i64 m.t.wall)∧w.cell? ⟨b,o+i*9+3,none⟩=some (.int .i64 m.t.count)∧w.cell? ⟨b,o+i*9+4,none⟩=some (.int .i64 m.t.d0)∧w.cell? ⟨b,o+i*9+5,none⟩=some (.int .i64 m.t.d1)∧
 w.cell? ⟨b,o+i*9+6,none⟩=some (.int .i64 m.t.d2)∧w.cell? ⟨b,o+i*9+7,none⟩=some (.int .i64 m.t.d3)∧w.cell? ⟨b,o+i*9+8,none⟩=some (.slice m.A m.t.ws.length m.c)
theorem XsAt.below {w w':World} {A:Option Addr} {l:List MTx} (h:XsAt w A l) (hb:Below w.heap.size w w'):XsAt w' A l:=fun i m hm=>by
 obtain ⟨b,o,hA,hlt,h0,h1,h2,h3,h4,h5,h6,h7,h8⟩:=h i m hm
 have e:∀ k,w'.cell? ⟨b,k,none⟩=w.cell? ⟨b,k,none⟩:=fun k=>hb.cell (p:=⟨b,k,none⟩) hlt
 exact ⟨b,o,hA,Nat.lt_of_lt_of_le hlt hb.size,by rw [e];exact h0,by rw [e];exact h1,by rw [e];exact h2,by rw [e];exact h3,by rw [e];exact h4,by rw [e];exact h5,by rw [e];exact h6,by rw [e];exact h7,by rw [e];exact h8⟩
theorem mcells_at:∀ (l:List MTx) (i:Nat) (m:MTx),l[i]?=some m→∀ r u,m.cells[r]?=some u→(l.flatMap MTx.cells)[i*9+r]?=some u
 | [],i,m,h,_,_,_=>by simp at h
 | y::l,0,m,h,r,u,hu=>by
   simp at h;subst h
   have hr:r<9:=by have:=(List.getElem?_eq_some_iff.1 hu).1;simpa [MTx.cells] using this
   rw [List.flatMap_cons,List.getElem?_append_left (by simp [MTx.cells];omega)]
   simpa using hu
 | y::l,i+1,m,h,r,u,hu=>by
   have:=mcells_at l i m (by simpa using h) r u hu
   rw [List.flatMap_cons,List.getElem?_append_right (by simp [MTx.cells];omega),←this]
   congr 1
   simp [MTx.cells];omega
theorem own_xs {w:World} {B c:Nat} {A:Option Addr} {l:List MTx} (h:w.ownsRow B 44 9 (.slice A l.length c) l.length (l.flatMap MTx.cells)):XsAt w A l:=by
 intro i m hm
 obtain ⟨hl,hn | ⟨g,cap,cur,hv,hb,hg,rest⟩⟩:=id h
 ·have:l=[]:=List.eq_nil_of_length_eq_zero hn.2
  subst this;simp at hm
 ·simp only [Value.slice.injEq] at hv
  obtain ⟨rfl,_,rfl⟩:=hv
  have hc:=h.cells (g:=g) rfl
  have e:∀ j:Nat,(⟨g,0,none⟩:Addr).add j=⟨g,0+j,none⟩:=fun j=>by unfold Addr.add;split <;> simp_all
  have k:∀ r u,m.cells[r]?=some u→w.cell? ⟨g,0+(i*9+r),none⟩=some u:=fun r u hu=>by
   have:=hc _ _ (mcells_at l i m hm r u hu)
   rw [e] at this;exact this
  have q:∀ r,0+(i*9+r)=0+i*9+r:=fun r=>by omega
  exact ⟨g,0,rfl,(Array.getElem?_eq_some_iff.1 hg).1,by have:=k 0 _ rfl;rw [q] at this;exact this,by have:=k 1 _ rfl;rw [q] at this;exact this,by have:=k 2 _ rfl;rw [q] at this;exact this,by have:=k 3 _ rfl;rw [q] at this;exact this,by have:=k 4 _ rfl;rw [q] at this;exact this,
   by have:=k 5 _ rfl;rw [q] at this;exact this,by have:=k 6 _ rfl;rw [q] at this;exact this,by have:=k 7 _ rfl;rw [q] at this;exact this,by have:=k 8 _ rfl;rw [q] at this;exact this⟩
def okAp (s:SiP):Prop:=(0≤s.p0∧s.p0≤1099511627776)∧(0≤s.p1∧s.p1≤1099511627776)∧(0≤s.p2∧s.p2≤1099511627776)∧(0≤s.p3∧s.p3≤1099511627776)
theorem okAp.at {s:SiP} (h:okAp s) (i:Int):0≤s.at i∧s.at i≤1099511627776:=by
 unfold okAp at h
 unfold SiP.at atV
 repeat' split
 all_goals omega
theorem SiAt.apc {w:World} {B x mb:Nat} {s:SiP} {lv:Value} {sv:Nat→Value} (h:SiAt w B x s mb lv sv) {k:Nat} (hk:k<4):w.cell? ⟨x,1+k,none⟩=some (.int .i64 (s.at (k:Int))):=by
 obtain ⟨v1,v2,v3,v4⟩:=h.vec
 have hc:k=0∨k=1∨k=2∨k=3:=by omega
 rcases hc with rfl | rfl | rfl | rfl
 ·exact v1
 ·exact v2
 ·exact v3
 ·exact v4
set_option maxRecDepth 20000 in
set_option maxHeartbeats 16000000 in
theorem nexts_any (B x mb:Nat) (s:SiP) (lv:Value) (sv:Nat→Value) (w:World) (h:SiAt w B x s mb lv sv) (hp:okAp s):
  Calls Tryz.prog 84 #[.pointer (some ⟨x,0,none⟩)] w fun e w'=>∃ A' c',e=.returned (.slice A' (nextsL s 4).length c')∧XsAt w' A' (nextsL s 4)∧Below w.heap.size w w':=by
 have HS:=hidp h
 have HP:=hidp hp
 clear h hp
 obtain ⟨i0,hi0,hz0,hz1,hz2⟩:=info40
 go_enter Tryz.func84,Tryz.ntmps84
 go_wp2_with fail
 go_loopw [3,7] (fun o i W=>∃ (k:Nat) (outs:List MTx) (Ao:Option Addr) (co:Nat),k≤4∧i=.int .i64 k∧o=.slice Ao outs.length co∧outs=nextsL s k∧outs.length≤k∧
  W.ownsRow w.heap.size 44 9 (.slice Ao outs.length co) outs.length (outs.flatMap MTx.cells)∧Below w.heap.size w W) (fun _ i _=>4-(intOf i).toNat)
 case atStart=>exact ⟨0,[],none,0,by omega,rfl,rfl,rfl,by simp,⟨rfl,.inl ⟨rfl,rfl⟩⟩,Below.refl _ _⟩
 case round=>
  obtain ⟨k,outs,Ao,co,hk,rfl,rfl,hout,hol,hown,hbl⟩:=hrel
  obtain ⟨W,rfl⟩:∃ W:World,W=wr:=⟨_,rfl⟩
  have HOUT:=hidp hout
  have HOW:=hidp hown
  have HBW:=hidp hbl
  clear hown hbl hout
  by_cases hlt:k<4
  ·have hkd:decide ((k:Int)<4)=true:=decide_eq_true (by omega)
   have HSW:=hidp (HS.out.below HBW.out)
   have c8:=HSW.out.c8
   have ca:=HSW.out.apc hlt
   have hap:=HP.out.at (k:Int)
   haveI:SzGe (x+1) W:=⟨HSW.out.sto.lt⟩
   haveI:SzGe (mb+1) W:=⟨HSW.out.map.lt⟩
   have HTS:=hidp (nextsL_succ s k)
   obtain ⟨ap,hape⟩:∃ ap,s.at (k:Int)=ap:=⟨_,rfl⟩
   rw [hape] at ca hap HTS
   obtain ⟨hap0,hap1⟩:=hap
   have hk0:(0:Int)≤(k:Int):=by omega
   have hk4:(k:Int)<4:=by omega
   have hwr:IntKind.i64.wrap (ap+1)=ap+1:=by rw [IntKind.wrap_i64];omega
   have hwk:wf64 (k:Int):=by unfold wf64;omega
   have hwa:wf64 (ap+1):=by unfold wf64;omega
   have hL:∀ X:World,X.heap[mb]?=W.heap[mb]?→(Instr.lookup 141 (.map (some mb)) (.agg #[.int .i64 (k:Int),.int .i64 (ap+1)]) true).run Tryz.prog X=.ok (.tuple #[((s.wt (k:Int) (ap+1)).map MTx.val).getD txZero,.bool ((s.wt (k:Int) (ap+1)).map MTx.val).isSome]) X:=fun X hX=>(HSW.out.map.block hX).look hwk hwa
   have hl1:=hL W.drew rfl
   have hl2:=hL (W.alloc (.cells #[.int .i64 0,.int .i64 0,.int .i64 0,.int .i64 0,.int .i64 0,.int .i64 0,.int .i64 0,.int .i64 0,.slice none 0 0] 44)).drew (Below.heap_alloc W _ mb HSW.out.map.lt)
   have hl3:=hL (W.drew.alloc (.cells #[.int .i64 0,.int .i64 0,.int .i64 0,.int .i64 0,.int .i64 0,.int .i64 0,.int .i64 0,.int .i64 0,.slice none 0 0] 44)) (Below.heap_alloc W.drew _ mb HSW.out.map.lt)
   clear hL hape
   cases hwt:s.wt (k:Int) (ap+1) with
   | none=>
     rw [hwt] at hl1 hl2 hl3 HTS
     simp only [Option.map_none,Option.getD_none,Option.isSome_none,txZero] at hl1 hl2 hl3
     have HT1:Hid (nextsL s (k+1)=outs):=hidp (by rw [HTS.out,←HOUT.out];simp)
     clear HTS hwt
     go_wp2_with fail
     go_region_held3 (fun X:World=>X.cell? ⟨x,8,none⟩=some (.map (some mb))∧X.cell? ⟨x,1+k,none⟩=some (.int .i64 ap)) ((repeat' apply And.intro) <;> simp [go_sem, *]) (fail)
     all_goals
      have HCUR:Below W.heap.size W ((W.alloc (.cells #[.int .i64 0,.int .i64 0,.int .i64 0,.int .i64 0,.int .i64 0,.int .i64 0,.int .i64 0,.int .i64 0,.slice none 0 0] 44)).drew):=zB
      go_wp2_with fail
      exact ⟨⟨k+1,outs,Ao,co,by omega,by go_num,rfl,HT1.out.symm,by omega,own_below HOW.out HCUR (fun j e=>(own_ge HOW.out e).2),HBW.out.trans (HCUR.mono HBW.out.size)⟩,by simp [intOf];omega⟩
   | some m=>
     rw [hwt] at hl1 hl2 hl3 HTS
     obtain ⟨⟨msite,mseq,mwall,mcount,md0,md1,md2,md3,mws⟩,mA,mc⟩:=m
     simp only [Option.map_some,Option.getD_some,Option.isSome_some,MTx.val] at hl1 hl2 hl3
     have HT1:Hid (nextsL s (k+1)=outs++[(⟨⟨msite,mseq,mwall,mcount,md0,md1,md2,md3,mws⟩,mA,mc⟩:MTx)]):=hidp (by rw [HTS.out,←HOUT.out])
     clear HTS hwt
     go_wp2_with fail
     go_region_held3 (fun X:World=>X.cell? ⟨x,8,none⟩=some (.map (some mb))∧X.cell? ⟨x,1+k,none⟩=some (.int .i64 ap)) ((repeat' apply And.intro) <;> simp [go_sem, *]) (fail)
     all_goals
      have HCUR:Hid (Below W.heap.size W ((W.alloc (.cells #[.int .i64 msite,.int .i64 mseq,.int .i64 mwall,.int .i64 mcount,.int .i64 md0,.int .i64 md1,.int .i64 md2,.int .i64 md3,.slice mA mws.length mc] 44)).drew)):=hidp zB
      have HOC:=hidp (own_below HOW.out HCUR.out (fun j e=>(own_ge HOW.out e).2))
      have HBC:=hidp (HBW.out.trans (HCUR.out.mono HBW.out.size))
      have HXC:=hidp (show ((W.alloc (.cells #[.int .i64 msite,.int .i64 mseq,.int .i64 mwall,.int .i64 mcount,.int .i64 md0,.int .i64 md1,.int .i64 md2,.int .i64 md3,.slice mA mws.length mc] 44)).drew).heap[W.heap.size]?=some (.cells #[.int .i64 msite,.int .i64 mseq,.int .i64 mwall,.int .i64 mcount,.int .i64 md0,.int .i64 md1,.int .i64 md2,.int .i64 md3,.slice mA mws.length mc] 44) from blk_new rfl _)
      clear hl1 hl2 hl3 ca c8
      generalize (W.alloc (.cells #[.int .i64 msite,.int .i64 mseq,.int .i64 mwall,.int .i64 mcount,.int .i64 md0,.int .i64 md1,.int .i64 md2,.int .i64 md3,.slice mA mws.length mc] 44)).drew=WC at *
      have g0:=cell_blk HXC.out 0;have g1:=cell_blk HXC.out 1;have g2:=cell_blk HXC.out 2;have g3:=cell_blk HXC.out 3;have g4:=cell_blk HXC.out 4;have g5:=cell_blk HXC.out 5;have g6:=cell_blk HXC.out 6;have g7:=cell_blk HXC.out 7;have g8:=cell_blk HXC.out 8
      simp only [zC,zD,zE] at g0 g1 g2 g3 g4 g5 g6 g7 g8
      have hsC:=HBC.out.size
      go_wp2_with (at_builtin;go_must (refine wpList_append_lies _ rfl _ _ 35 rfl w.heap.size 44 i0 txZero 9 88 Tryz.underlying35 hi0 hz0 hz1 hz2 rfl (by decide) (.slice Ao outs.length co) outs.length (outs.flatMap MTx.cells) rfl (HOC.out.alloc _) ⟨WC.heap.size,0,none⟩ 1 1 [.int .i64 msite,.int .i64 mseq,.int .i64 mwall,.int .i64 mcount,.int .i64 md0,.int .i64 md1,.int .i64 md2,.int .i64 md3,.slice mA mws.length mc] rfl rfl (World.news_of_block (cs:=#[.int .i64 msite,.int .i64 mseq,.int .i64 mwall,.int .i64 mcount,.int .i64 md0,.int .i64 md1,.int .i64 md2,.int .i64 md3,.slice mA mws.length mc]) (blk_new rfl _)) ?c1 (by decide) ?c2 ?c3 ?c4 _ rfl ?_))
      case c1=>first | exact ⟨rfl,rfl,rfl,rfl,rfl,rfl,rfl,rfl,rfl⟩ | (intro u hu;simp at hu;rcases hu with rfl | rfl | rfl | rfl | rfl | rfl | rfl | rfl | rfl <;> rfl)
      case c2=>refine Nat.le_trans ?_ maxLen_ge;omega
      case c3=>omega
      case c4=>first | omega | (simp;omega)
      intro gq cap1 w1 hown1 hgrow hgl hlt1
      have HN1:Hid (w1.ownsRow w.heap.size 44 9 (.slice (some ⟨gq,0,none⟩) (outs++[(⟨⟨msite,mseq,mwall,mcount,md0,md1,md2,md3,mws⟩,mA,mc⟩:MTx)]).length cap1) (outs++[(⟨⟨msite,mseq,mwall,mcount,md0,md1,md2,md3,mws⟩,mA,mc⟩:MTx)]).length ((outs++[(⟨⟨msite,mseq,mwall,mcount,md0,md1,md2,md3,mws⟩,mA,mc⟩:MTx)]).flatMap MTx.cells)):=hidp (by
       have e:(outs++[(⟨⟨msite,mseq,mwall,mcount,md0,md1,md2,md3,mws⟩,mA,mc⟩:MTx)]).length=outs.length+1:=by simp
       rw [e,List.flatMap_append];exact hown1)
      have HB1:Hid (Below w.heap.size w w1):=hidp (Below.grown HBC.out (grown_alloc hgrow) HBC.out.size (fun j e=>(own_ge HOW.out e).1))
      clear hown1 hgrow hgl hlt1
      go_wp2_with fail
      go_roundw
      case rel=>exact ⟨k+1,outs++[(⟨⟨msite,mseq,mwall,mcount,md0,md1,md2,md3,mws⟩,mA,mc⟩:MTx)],some ⟨gq,0,none⟩,cap1,by omega,by go_num,by simp,HT1.out.symm,by simp;omega,HN1.out,HB1.out⟩
      case measure=>simp [intOf];omega
  ·obtain rfl:k=4:=by omega
   have hkd:decide ((4:Int)<4)=false:=by decide
   have HR:Hid (XsAt W Ao (nextsL s 4)):=hidp (by rw [←HOUT.out];exact own_xs HOW.out)
   go_wp2_with fail
   go_ret
   exact ⟨Ao,co,by rw [←HOUT.out];rfl,HR.out,HBW.out⟩
end Go.Proofs.YtbopfhbeegkkaabGreatDoor
