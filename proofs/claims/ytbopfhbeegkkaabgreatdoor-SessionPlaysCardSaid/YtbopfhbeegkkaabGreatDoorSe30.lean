/- Part 30 of a proof: lemmas and contracts that other parts use. -/
import Derived.Test.YtbopfhbeegkkaabGreatDoorSe17
set_option linter.unusedVariables false
set_option linter.unusedSimpArgs false
set_option linter.constructorNameAsVariable false
namespace Go.Proofs.YtbopfhbeegkkaabGreatDoor
open Go.RowKit
theorem MpAt.pos {w:World} {m sz:Nat} {f:Int→Int→Option Value} (h:MpAt w m f sz) {a b:Int} (ha:wf64 a) (hb:wf64 b) (hf:(f a b).isSome=true):1≤sz:=by
 obtain ⟨D,h1,h2,h3⟩:=h
 have:=(h3 a b ha hb).1
 rw [hf] at this
 obtain ⟨es,rfl⟩:=h1.isMap
 rw [←h2]
 simp only [Maps.has,Maps.size] at *
 cases es with
 | nil=>simp at this
 | cons p es=>simp
theorem wp_cut1 {P:Program} {c:Code} {Q:Exit→Act→World→Prop} {a:Act} {w:World} (a1:Act) (w1:World) (h:c.wp P (fun e a' w'=>e=.normal∧a'=a1∧w'=w1) a w) (h2:Q .normal a1 w1):c.wp P Q a w:=
 Code.wp_mono (fun e a' w' ⟨he,ha,hw⟩=>by subst he ha hw;exact h2) h
def TakePost (B x mb:Nat) (s:SiP) (lv:Value) (sv:Nat→Value) (t:TxP) (w:World) (e:Ending) (w':World):Prop:=
 e=.returned (errV (takeE s t))∧(takeE s t≠0→Below w.heap.size w w')∧(takeE s t=0→∃ A' c' lv' sv',(∀ b o,A'=some ⟨b,o,none⟩→w.heap.size≤b)∧SiAt w' B x (runP (s.wn+1) (s.wait ⟨t,A',c'⟩)) mb lv' sv'∧SiFr w w' (SiOwn x mb lv sv) (SiOwn x mb lv' sv'))
theorem rightTx_as {t:TxP} {b:Bool} (h:rightTx t=b) (A:Option Addr) (c:Nat) (w:World) (hn:t.ws.length≤1000000) (hws:WsAt w A t.ws) (hseq:-9223372036854775808≤t.seq∧t.seq≤9223372036854775807):
  Calls Tryz.prog 82 #[MTx.val ⟨t,A,c⟩] w fun e w'=>e=.returned (.bool b)∧Below w.heap.size w w':=by
 subst h
 exact rightTx_any t.site t.seq t.wall t.count t.d0 t.d1 t.d2 t.d3 A c t.ws w hn hws hseq
set_option maxRecDepth 20000 in
set_option maxHeartbeats 16000000 in
theorem take_any (B x mb:Nat) (s:SiP) (lv:Value) (sv:Nat→Value) (t:TxP) (A:Option Addr) (c:Nat) (w:World) (h:SiAt w B x s mb lv sv) (hi:Inv s) (hwn:s.wn≤100000) (hws:WsAt w A t.ws) (hwl:t.ws.length≤1000000) (hfa:wf64 t.site) (hfb:wf64 t.seq):
  Calls Tryz.prog 17 #[.pointer (some ⟨x,0,none⟩),MTx.val ⟨t,A,c⟩] w (TakePost B x mb s lv sv t w):=by
 have hdone:∀ (n:Int) (w':World),n≠0→takeE s t=n→Below w.heap.size w w'→TakePost B x mb s lv sv t w (.returned (.iface 29 (.int .i64 n))) w':=by
  intro n w' hn he hb
  unfold TakePost
  rw [he]
  exact ⟨by unfold errV;rw [if_neg hn],fun _=>hb,fun e=>absurd e hn⟩
 have HDN:=hidp hdone
 clear hdone
 have HI:=hidp hi
 have HTE:Hid (takeE s t=if rightTx t=false∨t.site=s.id then 1 else if t.seq≤s.at t.site∨(s.wt t.site t.seq).isSome=true then 9
  else if 200≤s.log.length∨(40≤s.wn∧(t.seq≠s.at t.site+1∨covD s.p0 s.p1 s.p2 s.p3 t.d0 t.d1 t.d2 t.d3=false)) then 12 else 0):=hidp rfl
 have HRT:=hidp fun (b:Bool) (hb:rightTx t=b) W (hB:Below w.heap.size w W)=>rightTx_as hb A c W hwl (hws.below hB) hfb
 have HWS:=hidp hws
 have HPT:Hid (rightTx t=true→((0≤t.site∧t.site<4)∧(1≤t.seq∧t.seq≤1099511627776)∧1≤t.ws.length∧t.ws.length≤5)):=hidp rightTx_parts
 have HCL:Hid (rightTx t=true→∀ W,Below w.heap.size w W→Calls Tryz.prog 81 #[MTx.val ⟨t,A,c⟩] W fun e w'=>∃ A' c',e=.returned (MTx.val ⟨t,A',c'⟩)∧WsAt w' A' t.ws∧Below W.heap.size W w'∧∃ b,A'=some ⟨b,0,none⟩∧W.heap.size≤b):=hidp (fun hr W hB=>by
  obtain ⟨_,_,r3,r4⟩:=rightTx_parts hr
  exact clone_any t A c W (hws.below hB) (by omega) (by omega))
 have hb3:Below w.heap.size w (((w.alloc (.cells #[.pointer (some ⟨x,0,none⟩)] 23)).alloc (.cells #[.int .i64 t.site,.int .i64 t.seq,.int .i64 t.wall,.int .i64 t.count,.int .i64 t.d0,.int .i64 t.d1,.int .i64 t.d2,.int .i64 t.d3,.slice A t.ws.length c] 44)).alloc (.cells #[.int .i64 t.site,.int .i64 t.seq] 160)):=(by repeat (first | exact Below.refl _ _ | refine blw_alloc ?_ | refine blw_plus ?_ | refine Below.drew ?_))
 have HS3:=hidp (h.below hb3)
 have HB3:=hidp hb3
 have HP2:=hidp (show (((w.alloc (.cells #[.pointer (some ⟨x,0,none⟩)] 23)).alloc (.cells #[.int .i64 t.site,.int .i64 t.seq,.int .i64 t.wall,.int .i64 t.count,.int .i64 t.d0,.int .i64 t.d1,.int .i64 t.d2,.int .i64 t.d3,.slice A t.ws.length c] 44)).alloc (.cells #[.int .i64 t.site,.int .i64 t.seq] 160)).heap[w.heap.size]?=some (.cells #[.pointer (some ⟨x,0,none⟩)] 23) from blk_alloc (blk_alloc (blk_new rfl _) _) _)
 have HP3:=hidp (show (((w.alloc (.cells #[.pointer (some ⟨x,0,none⟩)] 23)).alloc (.cells #[.int .i64 t.site,.int .i64 t.seq,.int .i64 t.wall,.int .i64 t.count,.int .i64 t.d0,.int .i64 t.d1,.int .i64 t.d2,.int .i64 t.d3,.slice A t.ws.length c] 44)).alloc (.cells #[.int .i64 t.site,.int .i64 t.seq] 160)).heap[w.heap.size+1]?=some (.cells #[.int .i64 t.site,.int .i64 t.seq,.int .i64 t.wall,.int .i64 t.count,.int .i64 t.d0,.int .i64 t.d1,.int .i64 t.d2,.int .i64 t.d3,.slice A t.ws.length c] 44) from blk_alloc (blk_new (by simp) _) _)
 have HP5:=hidp (show (((w.alloc (.cells #[.pointer (some ⟨x,0,none⟩)] 23)).alloc (.cells #[.int .i64 t.site,.int .i64 t.seq,.int .i64 t.wall,.int .i64 t.count,.int .i64 t.d0,.int .i64 t.d1,.int .i64 t.d2,.int .i64 t.d3,.slice A t.ws.length c] 44)).alloc (.cells #[.int .i64 t.site,.int .i64 t.seq] 160)).heap[w.heap.size+1+1]?=some (.cells #[.int .i64 t.site,.int .i64 t.seq] 160) from blk_new (by simp) _)
 have HFA:=hidp hfa
 have HFB:=hidp hfb
 have HID:=hidp (show ¬SiOwn x mb lv sv w.heap.size from fun e=>by have:=(h.lt e).2;omega)
 have HFR:=hidp (SiFr.of_below (SiOwn x mb lv sv) hb3)
 have HWN:=hidp hwn
 have HMB:=hidp (show w.heap.size≠mb∧w.heap.size+1≠mb∧w.heap.size+1+1≠mb by have:=h.map.lt;omega)
 have hsz3:(((w.alloc (.cells #[.pointer (some ⟨x,0,none⟩)] 23)).alloc (.cells #[.int .i64 t.site,.int .i64 t.seq,.int .i64 t.wall,.int .i64 t.count,.int .i64 t.d0,.int .i64 t.d1,.int .i64 t.d2,.int .i64 t.d3,.slice A t.ws.length c] 44)).alloc (.cells #[.int .i64 t.site,.int .i64 t.seq] 160)).heap.size=w.heap.size+3:=by simp
 have HSZ:=hidp hsz3
 obtain ⟨Al,cl,hlv⟩:=own_form h.row
 have HLV:=hidp hlv
 clear h hi hws hwl hb3 hfa hfb hwn hsz3 hlv
 obtain ⟨site,seq,wall,count,d0,d1,d2,d3,ws⟩:=t
 simp only at HTE HRT HPT HCL HFA HFB HP3 HP5 HS3 HB3 HP2 HSZ
 try unfold MTx.val at HRT
 unfold MTx.val at HCL
 try unfold MTx.val
 try simp only at HRT
 try simp only at HCL
 try simp only
 go_enter Tryz.func17,Tryz.ntmps17
 go_wp2_with fail
 generalize ((w.alloc (.cells #[.pointer (some ⟨x,0,none⟩)] 23)).alloc (.cells #[.int .i64 site,.int .i64 seq,.int .i64 wall,.int .i64 count,.int .i64 d0,.int .i64 d1,.int .i64 d2,.int .i64 d3,.slice A ws.length c] 44)).alloc (.cells #[.int .i64 site,.int .i64 seq] 160)=w3 at *
 have hx3:=HS3.out.sto.lt
 haveI:SzGe (x+1) w3:=⟨hx3⟩
 haveI:SzGe (w.heap.size+1) w3:=⟨lt_blk HP2.out⟩
 haveI:SzGe (w.heap.size+1+1) w3:=⟨lt_blk HP3.out⟩
 haveI:SzGe (w.heap.size+1+1+1) w3:=⟨lt_blk HP5.out⟩
 haveI:SzGe w.heap.size w3:=⟨HB3.out.size⟩
 have c8:=HS3.out.c8
 have p0:=cell_blk HP2.out 0
 have k0:=cell_blk HP5.out 0;have k1:=cell_blk HP5.out 1
 simp only [zC,zD,zE] at p0 k0 k1
 have hL:∀ X:World,X.heap[mb]?=w3.heap[mb]?→(Instr.lookup 141 (.map (some mb)) (.agg #[.int .i64 site,.int .i64 seq]) true).run Tryz.prog X=.ok (.tuple #[((s.wt site seq).map MTx.val).getD txZero,.bool ((s.wt site seq).map MTx.val).isSome]) X:=fun X hX=>(HS3.out.map.block hX).look HFA.out HFB.out
 have hl1:=hL w3.drew rfl
 have hl2:=hL (w3.alloc (.cells #[.int .i64 0,.int .i64 0,.int .i64 0,.int .i64 0,.int .i64 0,.int .i64 0,.int .i64 0,.int .i64 0,.slice none 0 0] 44)).drew (Below.heap_alloc w3 _ mb HS3.out.map.lt)
 have hl3:=hL (w3.drew.alloc (.cells #[.int .i64 0,.int .i64 0,.int .i64 0,.int .i64 0,.int .i64 0,.int .i64 0,.int .i64 0,.int .i64 0,.slice none 0 0] 44)) (Below.heap_alloc w3.drew _ mb HS3.out.map.lt)
 clear hL
 cases hwt:s.wt site seq with
 | some m=>
   rw [hwt] at hl1 hl2 hl3
   obtain ⟨⟨msite,mseq,mwall,mcount,md0,md1,md2,md3,mws⟩,mA,mc⟩:=m
   simp only [Option.map_some,Option.getD_some,Option.isSome_some,MTx.val] at hl1 hl2 hl3
   have HWT:=hidp (show (s.wt site seq).isSome=true by rw [hwt];rfl)
   clear hwt
   apply wp_cut1
   case h=>
    go_region_held3 (fun X:World=>X.cell? ⟨w.heap.size,0,none⟩=some (.pointer (some ⟨x,0,none⟩))∧X.cell? ⟨x,8,none⟩=some (.map (some mb))∧X.cell? ⟨w.heap.size+1+1,0,none⟩=some (.int .i64 site)∧X.cell? ⟨w.heap.size+1+1,1,none⟩=some (.int .i64 seq)) ((repeat' apply And.intro) <;> simp [go_sem, *]) (fail)
    all_goals exact ⟨rfl,rfl,rfl⟩
   go_wp2_with fail
   have Q23:=HP2
   have Q33:=HP3
   have Q53:=HP5
   clear hl1 hl2 hl3 c8 p0 k0 k1
   have hb4:Below w3.heap.size w3 ((w3.alloc (.cells #[.int .i64 msite,.int .i64 mseq,.int .i64 mwall,.int .i64 mcount,.int .i64 md0,.int .i64 md1,.int .i64 md2,.int .i64 md3,.slice mA mws.length mc] 44)).drew):=(by repeat (first | exact Below.refl _ _ | refine blw_alloc ?_ | refine blw_plus ?_ | refine Below.drew ?_))
   have HS4:=hidp (HS3.out.below hb4)
   have HB4:=hidp (HB3.out.trans (hb4.mono HB3.out.size))
   have Q24:=hidp ((hb4.block _ (lt_blk Q23.out)).trans Q23.out)
   have Q34:=hidp ((hb4.block _ (lt_blk Q33.out)).trans Q33.out)
   have Q54:=hidp ((hb4.block _ (lt_blk Q53.out)).trans Q53.out)
   clear hb4
   generalize (w3.alloc (.cells #[.int .i64 msite,.int .i64 mseq,.int .i64 mwall,.int .i64 mcount,.int .i64 md0,.int .i64 md1,.int .i64 md2,.int .i64 md3,.slice mA mws.length mc] 44)).drew=w4 at *
   cases hrt:rightTx (⟨site,seq,wall,count,d0,d1,d2,d3,ws⟩:TxP)
   case false=>
    have HR4:=hidp fun W (hB:Below w4.heap.size w4 W)=>HRT.out false hrt W (HB4.out.trans (hB.mono HB4.out.size))
    have HRF:=hidp hrt
    clear hrt
    have hx4:=HS4.out.sto.lt
    haveI:SzGe (x+1) w4:=⟨hx4⟩
    haveI:SzGe (w.heap.size+1) w4:=⟨lt_blk Q24.out⟩
    haveI:SzGe (w.heap.size+1+1) w4:=⟨lt_blk Q34.out⟩
    haveI:SzGe (w.heap.size+1+1+1) w4:=⟨lt_blk Q54.out⟩
    have c0:=HS4.out.c0
    have c8:=HS4.out.c8
    have c7:=HS4.out.c7
    have p0:=cell_blk Q24.out 0
    have k0:=cell_blk Q54.out 0;have k1:=cell_blk Q54.out 1
    have e0:=cell_blk Q34.out 0;have e1:=cell_blk Q34.out 1;have e2:=cell_blk Q34.out 2;have e3:=cell_blk Q34.out 3;have e4:=cell_blk Q34.out 4;have e5:=cell_blk Q34.out 5;have e6:=cell_blk Q34.out 6;have e7:=cell_blk Q34.out 7;have e8:=cell_blk Q34.out 8
    simp only [zC,zD,zE] at p0 k0 k1 e0 e1 e2 e3 e4 e5 e6 e7 e8
    go_wp2_with fail
    refine wp_region_plus (by kernel_rfl) (by kernel_rfl) ?_
    repeat (first | go_big_quiet_skip | (go_big_quiet_want;go_big_quiet_op;first | go_big_quiet_on | (apply Exists.intro;refine ⟨fun _=>?_,?_⟩;(go_at_call 82;exact Calls.plus_of (HR4.out _ (below_wplus _ _)));go_big_quiet_on)))
    refine wpQuiet_nil ?_
    rintro _ ⟨x5,rfl⟩
    go_wp2_with fail
    go_ret
    exact HDN.out 1 _ (by decide) (by rw [HTE.out,if_pos (.inl HRF.out)]) (HB4.out.trans (Below.mono (B:=w4.heap.size) (by repeat (first | exact Below.refl _ _ | refine blw_alloc ?_ | refine blw_plus ?_ | refine Below.drew ?_)) HB4.out.size))
   case true=>
    have HR4:=hidp fun W (hB:Below w4.heap.size w4 W)=>HRT.out true hrt W (HB4.out.trans (hB.mono HB4.out.size))
    obtain ⟨hsi,hsq,hw1,hw5⟩:=HPT.out hrt
    have HRF:=hidp hrt
    obtain ⟨st,rfl⟩:=Int.eq_ofNat_of_zero_le hsi.1
    have hst4:st<4:=by omega
    clear hrt
    have hx4:=HS4.out.sto.lt
    haveI:SzGe (x+1) w4:=⟨hx4⟩
    haveI:SzGe (w.heap.size+1) w4:=⟨lt_blk Q24.out⟩
    haveI:SzGe (w.heap.size+1+1) w4:=⟨lt_blk Q34.out⟩
    haveI:SzGe (w.heap.size+1+1+1) w4:=⟨lt_blk Q54.out⟩
    have c0:=HS4.out.c0
    have c8:=HS4.out.c8
    have c7:=HS4.out.c7
    have p0:=cell_blk Q24.out 0
    have k0:=cell_blk Q54.out 0;have k1:=cell_blk Q54.out 1
    have e0:=cell_blk Q34.out 0;have e1:=cell_blk Q34.out 1;have e2:=cell_blk Q34.out 2;have e3:=cell_blk Q34.out 3;have e4:=cell_blk Q34.out 4;have e5:=cell_blk Q34.out 5;have e6:=cell_blk Q34.out 6;have e7:=cell_blk Q34.out 7;have e8:=cell_blk Q34.out 8
    simp only [zC,zD,zE] at p0 k0 k1 e0 e1 e2 e3 e4 e5 e6 e7 e8
    by_cases hid:(st:Int)=s.id
    ·have hd1:((st:Int)==s.id)=true:=by simp [hid]
     have HID2:=hidp hid
     clear hid
     go_wp2_with fail
     refine wp_region_plus (by kernel_rfl) (by kernel_rfl) ?_
     repeat (first | go_big_quiet_skip | (go_big_quiet_want;go_big_quiet_op;first | go_big_quiet_on | (apply Exists.intro;refine ⟨fun _=>?_,?_⟩;(go_at_call 82;exact Calls.plus_of (HR4.out _ (below_wplus _ _)));go_big_quiet_on)))
     refine wpQuiet_nil ?_
     rintro _ ⟨x5,rfl⟩
     go_wp2_with fail
     go_ret
     exact HDN.out 1 _ (by decide) (by rw [HTE.out,if_pos (.inr HID2.out)]) (HB4.out.trans (Below.mono (B:=w4.heap.size) (by repeat (first | exact Below.refl _ _ | refine blw_alloc ?_ | refine blw_plus ?_ | refine Below.drew ?_)) HB4.out.size))
    ·have hd1:((st:Int)==s.id)=false:=by simpa using hid
     have HID2:Hid (¬(rightTx ⟨(st:Int),seq,wall,count,d0,d1,d2,d3,ws⟩=false∨(st:Int)=s.id)):=hidp (by rw [HRF.out];simpa using hid)
     clear hid
     go_wp2_with fail
     refine wp_region_plus (by kernel_rfl) (by kernel_rfl) ?_
     repeat (first | go_big_quiet_skip | (go_big_quiet_want;go_big_quiet_op;first | go_big_quiet_on | (apply Exists.intro;refine ⟨fun _=>?_,?_⟩;(go_at_call 82;exact Calls.plus_of (HR4.out _ (below_wplus _ _)));go_big_quiet_on)))
     refine wpQuiet_nil ?_
     rintro _ ⟨x5,rfl⟩
     clear p0 k0 k1 c0 c8 c7 e0 e1 e2 e3 e4 e5 e6 e7 e8
     have hb5:Below w4.heap.size w4 (wplus w4 x5):=(by repeat (first | exact Below.refl _ _ | refine blw_alloc ?_ | refine blw_plus ?_ | refine Below.drew ?_))
     have HS5:=hidp (HS4.out.below hb5)
     have HB5:=hidp (HB4.out.trans (hb5.mono HB4.out.size))
     have Q25:=hidp ((hb5.block _ (lt_blk Q24.out)).trans Q24.out)
     have Q35:=hidp ((hb5.block _ (lt_blk Q34.out)).trans Q34.out)
     have Q55:=hidp ((hb5.block _ (lt_blk Q54.out)).trans Q54.out)
     clear hb5
     generalize wplus w4 x5=w5 at *
     have hx5:=HS5.out.sto.lt
     haveI:SzGe (x+1) w5:=⟨hx5⟩
     haveI:SzGe (w.heap.size+1) w5:=⟨lt_blk Q25.out⟩
     haveI:SzGe (w.heap.size+1+1) w5:=⟨lt_blk Q35.out⟩
     haveI:SzGe (w.heap.size+1+1+1) w5:=⟨lt_blk Q55.out⟩
     have c0:=HS5.out.c0
     have c8:=HS5.out.c8
     have c7:=HS5.out.c7
     have p0:=cell_blk Q25.out 0
     have k0:=cell_blk Q55.out 0;have k1:=cell_blk Q55.out 1
     have e0:=cell_blk Q35.out 0;have e1:=cell_blk Q35.out 1;have e2:=cell_blk Q35.out 2;have e3:=cell_blk Q35.out 3;have e4:=cell_blk Q35.out 4;have e5:=cell_blk Q35.out 5;have e6:=cell_blk Q35.out 6;have e7:=cell_blk Q35.out 7;have e8:=cell_blk Q35.out 8
     simp only [zC,zD,zE] at p0 k0 k1 e0 e1 e2 e3 e4 e5 e6 e7 e8
     have ca:=HS5.out.apc hst4
     have hk0:(0:Int)≤(st:Int):=by omega
     have hk4:(st:Int)<4:=by omega
     obtain ⟨ap,hap⟩:∃ ap,s.at (st:Int)=ap:=⟨_,rfl⟩
     rw [hap] at ca
     have HAP:=hidp hap
     have haq:=HI.out.ap.at (st:Int)
     rw [hap] at haq
     obtain ⟨haq0,haq1⟩:=haq
     clear hap
     by_cases hle:seq≤ap
     ·have hd2:decide (seq≤ap)=true:=decide_eq_true hle
      have HLE:=hidp hle
      clear hle
      go_wp2_with fail
      refine wp_region_plus (by kernel_rfl) (by kernel_rfl) ?_
      repeat (first | go_big_quiet_skip | (go_big_quiet_want;go_big_quiet_op;first | go_big_quiet_on | (apply Exists.intro;refine ⟨fun _=>?_,?_⟩;(fail);go_big_quiet_on)))
      refine wpQuiet_nil ?_
      rintro _ ⟨x6,rfl⟩
      go_wp2_with fail
      go_ret
      exact HDN.out 9 _ (by decide) (by rw [HTE.out,if_neg HID2.out,if_pos (.inl (by rw [HAP.out];exact HLE.out))]) (HB5.out.trans (Below.mono (B:=w5.heap.size) (by repeat (first | exact Below.refl _ _ | refine blw_alloc ?_ | refine blw_plus ?_ | refine Below.drew ?_)) HB5.out.size))
     ·have hd2:decide (seq≤ap)=false:=decide_eq_false hle
      have HLE:=hidp hle
      clear hle
      go_wp2_with fail
      refine wp_region_plus (by kernel_rfl) (by kernel_rfl) ?_
      repeat (first | go_big_quiet_skip | (go_big_quiet_want;go_big_quiet_op;first | go_big_quiet_on | (apply Exists.intro;refine ⟨fun _=>?_,?_⟩;(fail);go_big_quiet_on)))
      refine wpQuiet_nil ?_
      rintro _ ⟨x6,rfl⟩
      go_wp2_with fail
      go_ret
      exact HDN.out 9 _ (by decide) (by rw [HTE.out,if_neg HID2.out,if_pos (.inr HWT.out)]) (HB5.out.trans (Below.mono (B:=w5.heap.size) (by repeat (first | exact Below.refl _ _ | refine blw_alloc ?_ | refine blw_plus ?_ | refine Below.drew ?_)) HB5.out.size))
 | none=>
   rw [hwt] at hl1 hl2 hl3
   simp only [Option.map_none,Option.getD_none,Option.isSome_none,txZero] at hl1 hl2 hl3
   have HWT:=hidp hwt
   clear hwt
   apply wp_cut1
   case h=>
    go_region_held3 (fun X:World=>X.cell? ⟨w.heap.size,0,none⟩=some (.pointer (some ⟨x,0,none⟩))∧X.cell? ⟨x,8,none⟩=some (.map (some mb))∧X.cell? ⟨w.heap.size+1+1,0,none⟩=some (.int .i64 site)∧X.cell? ⟨w.heap.size+1+1,1,none⟩=some (.int .i64 seq)) ((repeat' apply And.intro) <;> simp [go_sem, *]) (fail)
    all_goals exact ⟨rfl,rfl,rfl⟩
   have Q23:=HP2
   have Q33:=HP3
   have Q53:=HP5
   clear hl1 hl2 hl3 c8 p0 k0 k1
   have hb4:Below w3.heap.size w3 ((w3.alloc (.cells #[.int .i64 0,.int .i64 0,.int .i64 0,.int .i64 0,.int .i64 0,.int .i64 0,.int .i64 0,.int .i64 0,.slice none 0 0] 44)).drew):=(by repeat (first | exact Below.refl _ _ | refine blw_alloc ?_ | refine blw_plus ?_ | refine Below.drew ?_))
   have HS4:=hidp (HS3.out.below hb4)
   have HB4:=hidp (HB3.out.trans (hb4.mono HB3.out.size))
   have Q24:=hidp ((hb4.block _ (lt_blk Q23.out)).trans Q23.out)
   have Q34:=hidp ((hb4.block _ (lt_blk Q33.out)).trans Q33.out)
   have Q54:=hidp ((hb4.block _ (lt_blk Q53.out)).trans Q53.out)
   clear hb4
   generalize (w3.alloc (.cells #[.int .i64 0,.int .i64 0,.int .i64 0,.int .i64 0,.int .i64 0,.int .i64 0,.int .i64 0,.int .i64 0,.slice none 0 0] 44)).drew=w4 at *
   cases hrt:rightTx (⟨site,seq,wall,count,d0,d1,d2,d3,ws⟩:TxP)
   case false=>
    have HR4:=hidp fun W (hB:Below w4.heap.size w4 W)=>HRT.out false hrt W (HB4.out.trans (hB.mono HB4.out.size))
    have HRF:=hidp hrt
    clear hrt
    have hx4:=HS4.out.sto.lt
    haveI:SzGe (x+1) w4:=⟨hx4⟩
    haveI:SzGe (w.heap.size+1) w4:=⟨lt_blk Q24.out⟩
    haveI:SzGe (w.heap.size+1+1) w4:=⟨lt_blk Q34.out⟩
    haveI:SzGe (w.heap.size+1+1+1) w4:=⟨lt_blk Q54.out⟩
    have c0:=HS4.out.c0
    have c8:=HS4.out.c8
    have c7:=HS4.out.c7
    have p0:=cell_blk Q24.out 0
    have k0:=cell_blk Q54.out 0;have k1:=cell_blk Q54.out 1
    have e0:=cell_blk Q34.out 0;have e1:=cell_blk Q34.out 1;have e2:=cell_blk Q34.out 2;have e3:=cell_blk Q34.out 3;have e4:=cell_blk Q34.out 4;have e5:=cell_blk Q34.out 5;have e6:=cell_blk Q34.out 6;have e7:=cell_blk Q34.out 7;have e8:=cell_blk Q34.out 8
    simp only [zC,zD,zE] at p0 k0 k1 e0 e1 e2 e3 e4 e5 e6 e7 e8
    go_wp2_with fail
    refine wp_region_plus (by kernel_rfl) (by kernel_rfl) ?_
    repeat (first | go_big_quiet_skip | (go_big_quiet_want;go_big_quiet_op;first | go_big_quiet_on | (apply Exists.intro;refine ⟨fun _=>?_,?_⟩;(go_at_call 82;exact Calls.plus_of (HR4.out _ (below_wplus _ _)));go_big_quiet_on)))
    refine wpQuiet_nil ?_
    rintro _ ⟨x5,rfl⟩
    go_wp2_with fail
    go_ret
    exact HDN.out 1 _ (by decide) (by rw [HTE.out,if_pos (.inl HRF.out)]) (HB4.out.trans (Below.mono (B:=w4.heap.size) (by repeat (first | exact Below.refl _ _ | refine blw_alloc ?_ | refine blw_plus ?_ | refine Below.drew ?_)) HB4.out.size))
   case true=>
    have HR4:=hidp fun W (hB:Below w4.heap.size w4 W)=>HRT.out true hrt W (HB4.out.trans (hB.mono HB4.out.size))
    obtain ⟨hsi,hsq,hw1,hw5⟩:=HPT.out hrt
    have HRF:=hidp hrt
    obtain ⟨st,rfl⟩:=Int.eq_ofNat_of_zero_le hsi.1
    have hst4:st<4:=by omega
    clear hrt
    have hx4:=HS4.out.sto.lt
    haveI:SzGe (x+1) w4:=⟨hx4⟩
    haveI:SzGe (w.heap.size+1) w4:=⟨lt_blk Q24.out⟩
    haveI:SzGe (w.heap.size+1+1) w4:=⟨lt_blk Q34.out⟩
    haveI:SzGe (w.heap.size+1+1+1) w4:=⟨lt_blk Q54.out⟩
    have c0:=HS4.out.c0
    have c8:=HS4.out.c8
    have c7:=HS4.out.c7
    have p0:=cell_blk Q24.out 0
    have k0:=cell_blk Q54.out 0;have k1:=cell_blk Q54.out 1
    have e0:=cell_blk Q34.out 0;have e1:=cell_blk Q34.out 1;have e2:=cell_blk Q34.out 2;have e3:=cell_blk Q34.out 3;have e4:=cell_blk Q34.out 4;have e5:=cell_blk Q34.out 5;have e6:=cell_blk Q34.out 6;have e7:=cell_blk Q34.out 7;have e8:=cell_blk Q34.out 8
    simp only [zC,zD,zE] at p0 k0 k1 e0 e1 e2 e3 e4 e5 e6 e7 e8
    by_cases hid:(st:Int)=s.id
    ·have hd1:((st:Int)==s.id)=true:=by simp [hid]
     have HID2:=hidp hid
     clear hid
     go_wp2_with fail
     refine wp_region_plus (by kernel_rfl) (by kernel_rfl) ?_
     repeat (first | go_big_quiet_skip | (go_big_quiet_want;go_big_quiet_op;first | go_big_quiet_on | (apply Exists.intro;refine ⟨fun _=>?_,?_⟩;(go_at_call 82;exact Calls.plus_of (HR4.out _ (below_wplus _ _)));go_big_quiet_on)))
     refine wpQuiet_nil ?_
     rintro _ ⟨x5,rfl⟩
     go_wp2_with fail
     go_ret
     exact HDN.out 1 _ (by decide) (by rw [HTE.out,if_pos (.inr HID2.out)]) (HB4.out.trans (Below.mono (B:=w4.heap.size) (by repeat (first | exact Below.refl _ _ | refine blw_alloc ?_ | refine blw_plus ?_ | refine Below.drew ?_)) HB4.out.size))
    ·have hd1:((st:Int)==s.id)=false:=by simpa using hid
     have HID2:Hid (¬(rightTx ⟨(st:Int),seq,wall,count,d0,d1,d2,d3,ws⟩=false∨(st:Int)=s.id)):=hidp (by rw [HRF.out];simpa using hid)
     clear hid
     go_wp2_with fail
     refine wp_region_plus (by kernel_rfl) (by kernel_rfl) ?_
     repeat (first | go_big_quiet_skip | (go_big_quiet_want;go_big_quiet_op;first | go_big_quiet_on | (apply Exists.intro;refine ⟨fun _=>?_,?_⟩;(go_at_call 82;exact Calls.plus_of (HR4.out _ (below_wplus _ _)));go_big_quiet_on)))
     refine wpQuiet_nil ?_
     rintro _ ⟨x5,rfl⟩
     clear p0 k0 k1 c0 c8 c7 e0 e1 e2 e3 e4 e5 e6 e7 e8
     have hb5:Below w4.heap.size w4 (wplus w4 x5):=(by repeat (first | exact Below.refl _ _ | refine blw_alloc ?_ | refine blw_plus ?_ | refine Below.drew ?_))
     have HS5:=hidp (HS4.out.below hb5)
     have HB5:=hidp (HB4.out.trans (hb5.mono HB4.out.size))
     have Q25:=hidp ((hb5.block _ (lt_blk Q24.out)).trans Q24.out)
     have Q35:=hidp ((hb5.block _ (lt_blk Q34.out)).trans Q34.out)
     have Q55:=hidp ((hb5.block _ (lt_blk Q54.out)).trans Q54.out)
     clear hb5
     generalize wplus w4 x5=w5 at *
     have hx5:=HS5.out.sto.lt
     haveI:SzGe (x+1) w5:=⟨hx5⟩
     haveI:SzGe (w.heap.size+1) w5:=⟨lt_blk Q25.out⟩
     haveI:SzGe (w.heap.size+1+1) w5:=⟨lt_blk Q35.out⟩
     haveI:SzGe (w.heap.size+1+1+1) w5:=⟨lt_blk Q55.out⟩
     have c0:=HS5.out.c0
     have c8:=HS5.out.c8
     have c7:=HS5.out.c7
     have p0:=cell_blk Q25.out 0
     have k0:=cell_blk Q55.out 0;have k1:=cell_blk Q55.out 1
     have e0:=cell_blk Q35.out 0;have e1:=cell_blk Q35.out 1;have e2:=cell_blk Q35.out 2;have e3:=cell_blk Q35.out 3;have e4:=cell_blk Q35.out 4;have e5:=cell_blk Q35.out 5;have e6:=cell_blk Q35.out 6;have e7:=cell_blk Q35.out 7;have e8:=cell_blk Q35.out 8
     simp only [zC,zD,zE] at p0 k0 k1 e0 e1 e2 e3 e4 e5 e6 e7 e8
     have ca:=HS5.out.apc hst4
     have hk0:(0:Int)≤(st:Int):=by omega
     have hk4:(st:Int)<4:=by omega
     obtain ⟨ap,hap⟩:∃ ap,s.at (st:Int)=ap:=⟨_,rfl⟩
     rw [hap] at ca
     have HAP:=hidp hap
     have haq:=HI.out.ap.at (st:Int)
     rw [hap] at haq
     obtain ⟨haq0,haq1⟩:=haq
     clear hap
     by_cases hle:seq≤ap
     ·have hd2:decide (seq≤ap)=true:=decide_eq_true hle
      have HLE:=hidp hle
      clear hle
      go_wp2_with fail
      refine wp_region_plus (by kernel_rfl) (by kernel_rfl) ?_
      repeat (first | go_big_quiet_skip | (go_big_quiet_want;go_big_quiet_op;first | go_big_quiet_on | (apply Exists.intro;refine ⟨fun _=>?_,?_⟩;(fail);go_big_quiet_on)))
      refine wpQuiet_nil ?_
      rintro _ ⟨x6,rfl⟩
      go_wp2_with fail
      go_ret
      exact HDN.out 9 _ (by decide) (by rw [HTE.out,if_neg HID2.out,if_pos (.inl (by rw [HAP.out];exact HLE.out))]) (HB5.out.trans (Below.mono (B:=w5.heap.size) (by repeat (first | exact Below.refl _ _ | refine blw_alloc ?_ | refine blw_plus ?_ | refine Below.drew ?_)) HB5.out.size))
     ·have hd2:decide (seq≤ap)=false:=decide_eq_false hle
      have HLE:Hid (¬(seq≤s.at (st:Int)∨(s.wt (st:Int) seq).isSome=true)):=hidp (by rw [HAP.out,HWT.out];simpa using hle)
      clear hle
      go_wp2_with fail
      refine wp_region_plus (by kernel_rfl) (by kernel_rfl) ?_
      repeat (first | go_big_quiet_skip | (go_big_quiet_want;go_big_quiet_op;first | go_big_quiet_on | (apply Exists.intro;refine ⟨fun _=>?_,?_⟩;(fail);go_big_quiet_on)))
      refine wpQuiet_nil ?_
      rintro _ ⟨x6,rfl⟩
      clear p0 k0 k1 c0 c8 c7 e0 e1 e2 e3 e4 e5 e6 e7 e8
      clear ca
      have hb6:Below w5.heap.size w5 (wplus w5 x6):=(by repeat (first | exact Below.refl _ _ | refine blw_alloc ?_ | refine blw_plus ?_ | refine Below.drew ?_))
      have HS6:=hidp (HS5.out.below hb6)
      have HB6:=hidp (HB5.out.trans (hb6.mono HB5.out.size))
      have Q26:=hidp ((hb6.block _ (lt_blk Q25.out)).trans Q25.out)
      have Q36:=hidp ((hb6.block _ (lt_blk Q35.out)).trans Q35.out)
      have Q56:=hidp ((hb6.block _ (lt_blk Q55.out)).trans Q55.out)
      clear hb6
      generalize wplus w5 x6=w6 at *
      have hx6:=HS6.out.sto.lt
      haveI:SzGe (x+1) w6:=⟨hx6⟩
      haveI:SzGe (w.heap.size+1) w6:=⟨lt_blk Q26.out⟩
      haveI:SzGe (w.heap.size+1+1) w6:=⟨lt_blk Q36.out⟩
      haveI:SzGe (w.heap.size+1+1+1) w6:=⟨lt_blk Q56.out⟩
      have c0:=HS6.out.c0
      have c8:=HS6.out.c8
      have c7:=HS6.out.c7
      have p0:=cell_blk Q26.out 0
      have k0:=cell_blk Q56.out 0;have k1:=cell_blk Q56.out 1
      have e0:=cell_blk Q36.out 0;have e1:=cell_blk Q36.out 1;have e2:=cell_blk Q36.out 2;have e3:=cell_blk Q36.out 3;have e4:=cell_blk Q36.out 4;have e5:=cell_blk Q36.out 5;have e6:=cell_blk Q36.out 6;have e7:=cell_blk Q36.out 7;have e8:=cell_blk Q36.out 8
      simp only [zC,zD,zE] at p0 k0 k1 e0 e1 e2 e3 e4 e5 e6 e7 e8
      have ca:=HS6.out.apc hst4
      rw [HAP.out] at ca
      rw [HLV.out] at c7
      obtain ⟨c1,c2,c3,c4⟩:=HS6.out.vec
      have hlen:∀ (a:Tail),(Builtin.len_ #[141] 3 #[.map (some mb)]).run Tryz.prog (wplus w6 a)=.ok (.int .i64 s.wn) (wplus w6 a):=fun a=>(HS6.out.below (below_wplus w6 a)).map.len 3
      by_cases h200:200≤s.log.length
      ·have hd3:decide ((200:Int)≤(s.log.length:Int))=true:=decide_eq_true (by omega)
       have H200:=hidp h200
       clear h200
       go_wp2_with fail
       refine wp_region_plus (by kernel_rfl) (by kernel_rfl) ?_
       repeat (first | go_big_quiet_skip | (go_big_quiet_want;go_big_quiet_op;first | go_big_quiet_on | (apply Exists.intro;refine ⟨fun _=>?_,?_⟩;(fail);go_big_quiet_on)))
       refine wpQuiet_nil ?_
       rintro _ ⟨x7,rfl⟩
       go_wp2_with fail
       go_ret
       exact HDN.out 12 _ (by decide) (by rw [HTE.out,if_neg HID2.out,if_neg HLE.out,if_pos (.inl H200.out)]) (HB6.out.trans (Below.mono (B:=w6.heap.size) (by repeat (first | exact Below.refl _ _ | refine blw_alloc ?_ | refine blw_plus ?_ | refine Below.drew ?_)) HB6.out.size))
      ·have hd3:decide ((200:Int)≤(s.log.length:Int))=false:=decide_eq_false (by omega)
       have H200:=hidp h200
       clear h200
       by_cases h40:40≤s.wn
       ·have hd4:decide ((40:Int)≤(s.wn:Int))=true:=decide_eq_true (by omega)
        have H40:=hidp h40
        clear h40
        have hwr:IntKind.i64.wrap (ap+1)=ap+1:=by rw [IntKind.wrap_i64];omega
        by_cases hnx:seq=ap+1
        ·have hd5:(seq != ap+1)=false:=by simp [hnx]
         have HNX:=hidp hnx
         clear hnx
         cases hcv:covD s.p0 s.p1 s.p2 s.p3 d0 d1 d2 d3
         case false=>
          have HCV:=hidp fun W=>covers_any s.p0 s.p1 s.p2 s.p3 d0 d1 d2 d3 W
          rw [hcv] at HCV
          have HCF:=hidp hcv
          clear hcv
          go_wp2_with fail
          refine wp_region_plus (by kernel_rfl) (by kernel_rfl) ?_
          repeat (first | go_big_quiet_skip | (go_big_quiet_want;go_big_quiet_op;first | go_big_quiet_on | (apply Exists.intro;refine ⟨fun _=>?_,?_⟩;(go_at_call 55;exact Calls.plus_of (HCV.out _));go_big_quiet_on)))
          refine wpQuiet_nil ?_
          rintro _ ⟨x7,rfl⟩
          go_wp2_with fail
          go_ret
          exact HDN.out 12 _ (by decide) (by rw [HTE.out,if_neg HID2.out,if_neg HLE.out,if_pos (.inr ⟨H40.out,.inr HCF.out⟩)]) (HB6.out.trans (Below.mono (B:=w6.heap.size) (by repeat (first | exact Below.refl _ _ | refine blw_alloc ?_ | refine blw_plus ?_ | refine Below.drew ?_)) HB6.out.size))
         case true=>
          have HCV:=hidp fun W=>covers_any s.p0 s.p1 s.p2 s.p3 d0 d1 d2 d3 W
          rw [hcv] at HCV
          have HE0:Hid (takeE s ⟨(st:Int),seq,wall,count,d0,d1,d2,d3,ws⟩=0):=hidp (by rw [HTE.out,if_neg HID2.out,if_neg HLE.out,if_neg (fun e=>e.elim H200.out (fun e=>e.2.elim (fun e=>e (by rw [HAP.out];exact HNX.out)) (fun e=>by rw [hcv] at e;cases e)))])
          clear hcv
          go_wp2_with fail
          refine wp_region_plus (by kernel_rfl) (by kernel_rfl) ?_
          repeat (first | go_big_quiet_skip | (go_big_quiet_want;go_big_quiet_op;first | go_big_quiet_on | (apply Exists.intro;refine ⟨fun _=>?_,?_⟩;(go_at_call 55;exact Calls.plus_of (HCV.out _));go_big_quiet_on)))
          refine wpQuiet_nil ?_
          rintro _ ⟨x7,rfl⟩
          clear p0 k0 k1 c0 c8 c7 e0 e1 e2 e3 e4 e5 e6 e7 e8
          clear ca c1 c2 c3 c4 hlen
          have hb7:Below w6.heap.size w6 (wplus w6 x7):=(by repeat (first | exact Below.refl _ _ | refine blw_alloc ?_ | refine blw_plus ?_ | refine Below.drew ?_))
          have HS7:=hidp (HS6.out.below hb7)
          have HB7:=hidp (HB6.out.trans (hb7.mono HB6.out.size))
          have Q27:=hidp ((hb7.block _ (lt_blk Q26.out)).trans Q26.out)
          have Q37:=hidp ((hb7.block _ (lt_blk Q36.out)).trans Q36.out)
          have Q57:=hidp ((hb7.block _ (lt_blk Q56.out)).trans Q56.out)
          clear hb7
          generalize wplus w6 x7=w7 at *
          have hx7:=HS7.out.sto.lt
          haveI:SzGe (x+1) w7:=⟨hx7⟩
          haveI:SzGe (w.heap.size+1) w7:=⟨lt_blk Q27.out⟩
          haveI:SzGe (w.heap.size+1+1) w7:=⟨lt_blk Q37.out⟩
          haveI:SzGe (w.heap.size+1+1+1) w7:=⟨lt_blk Q57.out⟩
          have c0:=HS7.out.c0
          have c8:=HS7.out.c8
          have c7:=HS7.out.c7
          have p0:=cell_blk Q27.out 0
          have k0:=cell_blk Q57.out 0;have k1:=cell_blk Q57.out 1
          have e0:=cell_blk Q37.out 0;have e1:=cell_blk Q37.out 1;have e2:=cell_blk Q37.out 2;have e3:=cell_blk Q37.out 3;have e4:=cell_blk Q37.out 4;have e5:=cell_blk Q37.out 5;have e6:=cell_blk Q37.out 6;have e7:=cell_blk Q37.out 7;have e8:=cell_blk Q37.out 8
          simp only [zC,zD,zE] at p0 k0 k1 e0 e1 e2 e3 e4 e5 e6 e7 e8
          have HMP:=hidp HS7.out.map
          have HW7:=hidp (HB7.out)
          go_wp2_with fail
          go_region_held3 (fun X:World=>X.cell? ⟨w.heap.size,0,none⟩=some (.pointer (some ⟨x,0,none⟩))∧X.cell? ⟨x,8,none⟩=some (.map (some mb))∧X.cell? ⟨w.heap.size+1+1,0,none⟩=some (.int .i64 (st:Int))∧X.cell? ⟨w.heap.size+1+1,1,none⟩=some (.int .i64 seq)∧X.cell? ⟨w.heap.size+1,0,none⟩=some (.int .i64 (st:Int))∧X.cell? ⟨w.heap.size+1,1,none⟩=some (.int .i64 seq)∧X.cell? ⟨w.heap.size+1,2,none⟩=some (.int .i64 wall)∧X.cell? ⟨w.heap.size+1,3,none⟩=some (.int .i64 count)∧X.cell? ⟨w.heap.size+1,4,none⟩=some (.int .i64 d0)∧X.cell? ⟨w.heap.size+1,5,none⟩=some (.int .i64 d1)∧X.cell? ⟨w.heap.size+1,6,none⟩=some (.int .i64 d2)∧X.cell? ⟨w.heap.size+1,7,none⟩=some (.int .i64 d3)∧X.cell? ⟨w.heap.size+1,8,none⟩=some (.slice A ws.length c)) ((repeat' apply And.intro) <;> simp [go_sem, *]) (
           (go_at_call 81
            refine (HCL.out HRF.out _ (HB7.out.trans (Below.mono (B:=w7.heap.size) (by repeat (first | exact Below.refl _ _ | refine blw_alloc ?_ | refine blw_plus ?_ | refine Below.drew ?_)) HB7.out.size))).mono ?_
            rintro e wc ⟨A',c',rfl,hw1,hbc,bb,rfl,hbb⟩
            obtain ⟨x9,rfl⟩:=wplus_of_below hbc
            have HSX:=hidp (HS7.out.below (show Below w7.heap.size w7 (wplus w7.drew x9) from zB))
            obtain ⟨wu,hrun,hmp,hturn⟩:=HSX.out.map.store (Nat.le_trans HWN.out (by omega)) HFA.out HFB.out (.agg #[.int .i64 (st:Int),.int .i64 seq,.int .i64 wall,.int .i64 count,.int .i64 d0,.int .i64 d1,.int .i64 d2,.int .i64 d3,.slice (some ⟨bb,0,none⟩) ws.length c'])
            have HWT1:=hidp (SiAt.wait (m:=⟨⟨(st:Int),seq,wall,count,d0,d1,d2,d3,ws⟩,some ⟨bb,0,none⟩,c'⟩) HSX.out hturn.grown hmp (by simp [SiP.wait,HWT.out]) ⟨hw1,fun b o e=>by
             obtain ⟨rfl,rfl⟩:b=bb∧o=0:=by simp at e;exact ⟨e.1.symm,e.2.symm⟩
             refine ⟨?_,fun e2=>?_⟩
             ·obtain ⟨b2,o2,e3,hlt,_⟩:=hw1 0 ws[0] (List.getElem?_eq_getElem (by omega))
              obtain ⟨rfl,rfl⟩:b2=b∧o2=0:=by simp at e3;exact ⟨e3.1.symm,e3.2.symm⟩
              exact hlt
             ·have h1:=(HS7.out.lt e2).2
              have h2:w7.heap.size≤b:=hbb
              omega⟩)
            have HBBG:=hidp (show w.heap.size≤bb from by have h2:w7.heap.size≤bb:=hbb;have:=HB7.out.size;omega)
            have HFW:=hidp ((SiFr.of_below (SiOwn x mb lv sv) (show Below w7.heap.size w7 (wplus w7.drew x9) from zB)).trans HWT1.out.2)
            have hgr:=hturn.grown
            have hbl:∀ k,k<w7.heap.size→k≠mb→wu.heap[k]?=w7.heap[k]?:=fun k hk hne=>(hgr.block k (by simp;omega) (by simp;exact hne)).trans (show (wplus w7.drew x9).heap[k]?=w7.heap[k]? from wplus_heap_lt w7.drew x9 k hk)
            have u2:=(hbl _ (lt_blk Q27.out) HMB.out.1).trans Q27.out
            have u3:=(hbl _ (lt_blk Q37.out) HMB.out.2.1).trans Q37.out
            have u5:=(hbl _ (lt_blk Q57.out) HMB.out.2.2).trans Q57.out
            have v8:=HWT1.out.1.c8
            have v0:=cell_blk u2 0;have y0:=cell_blk u5 0;have y1:=cell_blk u5 1;have z0:=cell_blk u3 0;have z1:=cell_blk u3 1;have z2:=cell_blk u3 2;have z3:=cell_blk u3 3;have z4:=cell_blk u3 4;have z5:=cell_blk u3 5;have z6:=cell_blk u3 6;have z7:=cell_blk u3 7;have z8:=cell_blk u3 8;simp only [zC,zD,zE] at v0 y0 y1 z0 z1 z2 z3 z4 z5 z6 z7 z8
            clear hbc hmp hturn hw1 hbb hgr hbl u3 u5))
          all_goals
           have HU2:=hidp u2
           clear u2
           have HSW:=hidp HWT1.out.1
           have HFRW:=hidp ((SiFr.of_below (SiOwn x mb lv sv) HB7.out).trans HFW.out)
           have HINV:=hidp (HI.out.wait (m:=⟨⟨(st:Int),seq,wall,count,d0,d1,d2,d3,ws⟩,some ⟨bb,0,none⟩,c'⟩) HRF.out)
           have HWN1:Hid ((s.wait ⟨⟨(st:Int),seq,wall,count,d0,d1,d2,d3,ws⟩,some ⟨bb,0,none⟩,c'⟩).wn=s.wn+1):=hidp (by simp [SiP.wait,HWT.out])
           have HPOST:Hid (∀ (s1:SiP) (lv1:Value) (sv1:Nat→Value) (w':World),SiAt w' B x s1 mb lv1 sv1→SiFr wu w' (SiOwn x mb lv sv) (SiOwn x mb lv1 sv1)→s1=runP (s.wn+1) (s.wait ⟨⟨(st:Int),seq,wall,count,d0,d1,d2,d3,ws⟩,some ⟨bb,0,none⟩,c'⟩)→TakePost B x mb s lv sv ⟨(st:Int),seq,wall,count,d0,d1,d2,d3,ws⟩ w (.returned .nilIface) w'):=hidp (by
            intro s1 lv1 sv1 w' h1 h2 h3
            unfold TakePost
            rw [HE0.out]
            exact ⟨rfl,fun e=>absurd rfl e,fun _=>⟨some ⟨bb,0,none⟩,c',lv1,sv1,(fun b o e=>by simp at e;have:=HBBG.out;omega),by rw [←h3];exact h1,HFRW.out.trans h2⟩⟩)
           generalize hMM:(⟨⟨(st:Int),seq,wall,count,d0,d1,d2,d3,ws⟩,some ⟨bb,0,none⟩,c'⟩:MTx)=M at *
           clear hMM v0 y0 y1 z0 z1 z2 z3 z4 z5 z6 z7 z8 v8 hrun
           go_wp2_with fail
           go_loopw [] (fun wr=>∃ (f:Nat) (s1:SiP) (lv1:Value) (sv1:Nat→Value),SiAt wr B x s1 mb lv1 sv1∧SiFr wu wr (SiOwn x mb lv sv) (SiOwn x mb lv1 sv1)∧Inv s1∧runP f s1=runP (s.wn+1) (s.wait M)∧s1.wn≤f) (fun wr=>mSize wr mb)
           case atStart=>exact ⟨s.wn+1,s.wait M,lv,sv,HSW.out,SiFr.of_below _ (Below.refl _ _),HINV.out,rfl,Nat.le_of_eq HWN1.out⟩
           case round=>
            obtain ⟨f,s1,lv1,sv1,hs,hfr,hin,hru,hwf⟩:=hrel
            have HS:=hidp hs
            have HF:=hidp hfr
            have HIN:=hidp hin
            have HRU:=hidp hru
            have q2:=(hfr.block _ (lt_blk HU2.out) HID.out).trans HU2.out
            have p0:=cell_blk q2 0
            simp only [List.getElem?_toArray,List.getElem?_cons_zero] at p0
            haveI:SzGe (w.heap.size+1) wr:=⟨lt_blk q2⟩
            haveI:SzGe (x+1) wr:=⟨hs.sto.lt⟩
            have HP2r:=hidp (show wr.cell? ⟨w.heap.size,0,none⟩=some (.pointer (some ⟨x,0,none⟩))∧w.heap.size<wr.heap.size from ⟨p0,lt_blk q2⟩)
            clear hs hfr hin hru q2
            go_wp2_with fail
            go_at_call 84
            refine (nexts_any B x mb s1 lv1 sv1 wr HS.out HIN.out.ap).mono ?_
            rintro e w8 ⟨A1,c1,rfl,hx1,hb8⟩
            have HX1:=hidp hx1
            have HSB:=hidp (HS.out.below hb8)
            have HP8:=hidp (show w8.cell? ⟨w.heap.size,0,none⟩=some (.pointer (some ⟨x,0,none⟩)) from (hb8.cell (p:=⟨w.heap.size,0,none⟩) HP2r.out.2).trans HP2r.out.1)
            obtain ⟨x8,rfl⟩:=wplus_of_below hb8
            clear hx1 hb8
            go_wp2_with fail
            go_at_call 83
            refine (index_any B x mb w.heap.size s1 lv1 sv1 A1 c1 (nextsL s1 4) _ HSB.out HP8.out (Nat.lt_of_lt_of_le HP2r.out.2 (by simp)) HX1.out (Nat.le_trans (nextsL_len _ _) (by omega))).mono ?_
            rintro e w9 ⟨rfl,hb9⟩
            have HSC:=hidp (HSB.out.below hb9)
            obtain ⟨x9,rfl⟩:=wplus_of_below hb9
            clear hb9
            obtain ⟨Al1,cl1,hlv1⟩:=own_form HS.out.row
            have c7:=HS.out.c7
            rw [hlv1] at c7
            have HLV1:=hidp hlv1
            clear hlv1
            rcases idx_find (covM s1) (nextsL s1 4) 0 with ⟨hn,hz⟩ | ⟨j,m,hn,hj,hz⟩
            ·rw [hz]
             have HN:=hidp hn
             clear hn hz
             go_wp2_with fail
             go_ret
             exact HPOST.out s1 lv1 sv1 _ (HS.out.below (by repeat (first | exact Below.refl _ _ | refine blw_alloc ?_ | refine blw_plus ?_ | refine Below.drew ?_))) (HF.out.trans (SiFr.of_below _ (show Below wr.heap.size wr _ from zB))) (by rw [←HRU.out];exact (runP_stop (.inl HN.out) f).symm)
            ·rw [hz]
             have HN:=hidp hn
             have hj4:j<4:=by have:=(List.getElem?_eq_some_iff.1 hj).1;have:=nextsL_len s1 4;omega
             have HJ:=hidp hj
             simp only [Nat.zero_add]
             have hdj:decide ((j:Int)<0)=false:=decide_eq_false (by omega)
             clear hn hz hj
             by_cases h2:200≤s1.log.length
             ·have hd6:decide ((200:Int)≤(s1.log.length:Int))=true:=decide_eq_true (by omega)
              have HH2:=hidp h2
              clear h2
              go_wp2_with fail
              go_ret
              exact HPOST.out s1 lv1 sv1 _ (HS.out.below (by repeat (first | exact Below.refl _ _ | refine blw_alloc ?_ | refine blw_plus ?_ | refine Below.drew ?_))) (HF.out.trans (SiFr.of_below _ (show Below wr.heap.size wr _ from zB))) (by rw [←HRU.out];exact (runP_stop (.inr HH2.out) f).symm)
             ·have hd6:decide ((200:Int)≤(s1.log.length:Int))=false:=decide_eq_false (by omega)
              have HH2:=hidp h2
              clear h2
              go_wp2_with fail
              go_at_call 84
              refine (nexts_any B x mb s1 lv1 sv1 _ HSC.out HIN.out.ap).mono ?_
              rintro e w10 ⟨A2,c2',rfl,hx2,hb10⟩
              have HSD:=hidp (HSC.out.below hb10)
              obtain ⟨b2,o2,rfl,hbl2,r0,r1,r2,r3,r4,r5,r6,r7,r8⟩:=hx2 j m HJ.out
              obtain ⟨x10,rfl⟩:=wplus_of_below hb10
              have hjl:j<(nextsL s1 4).length:=(List.getElem?_eq_some_iff.1 HJ.out).1
              have HNL:=hidp (nextsL_len s1 4)
              clear hx2 hb10
              have HB10:=hidp (show Below wr.heap.size wr (wplus (wplus (wplus wr x8) x9) x10) from zB)
              generalize wplus (wplus (wplus wr x8) x9) x10=w10 at *
              have HMR:=hidp (HIN.out.has HN.out)
              have HMD:=hidp (HSD.out.dat m (.inr ⟨_,_,(HIN.out.has HN.out).2.1⟩))
              have HCM:=hidp (rightTx_parts (HIN.out.has HN.out).1)
              obtain ⟨⟨msite,mseq,mwall,mcount,md0,md1,md2,md3,mws⟩,mA,mc⟩:=m
              simp only at r0 r1 r2 r3 r4 r5 r6 r7 r8
              have p10:w10.cell? ⟨w.heap.size,0,none⟩=some (.pointer (some ⟨x,0,none⟩)):=(HB10.out.cell (p:=⟨w.heap.size,0,none⟩) HP2r.out.2).trans HP2r.out.1
              have c8:=HSD.out.c8
              haveI:SzGe (b2+1) w10:=⟨hbl2⟩
              haveI:SzGe (x+1) w10:=⟨HSD.out.sto.lt⟩
              haveI:SzGe (w.heap.size+1) w10:=⟨Nat.lt_of_lt_of_le HP2r.out.2 HB10.out.size⟩
              have hjn:(j:Int)<((nextsL s1 4).length:Int):=by omega
              have hj0:(0:Int)≤(j:Int):=by omega
              go_wp2_with fail
              refine wp_region_plus_tail 9 (by kernel_rfl) (by kernel_rfl) ?_
              simp only [List.take_succ_cons,List.take_zero,List.drop_succ_cons,List.drop_zero]
              repeat (first | go_big_quiet_skip | (go_big_quiet_want;go_big_quiet_op;go_big_quiet_on))
              refine wpQuiet_nil ?_
              rintro _ ⟨x11,rfl⟩
              have hwe:Below w10.heap.size w10 (wplus (w10.alloc (.cells #[.int .i64 msite,.int .i64 mseq,.int .i64 mwall,.int .i64 mcount,.int .i64 md0,.int .i64 md1,.int .i64 md2,.int .i64 md3,.slice mA mws.length mc] 44)) x11):=(by repeat (first | exact Below.refl _ _ | refine blw_alloc ?_ | refine blw_plus ?_ | refine Below.drew ?_))
              have HSE:=hidp (HSD.out.below hwe)
              have HWE:=hidp hwe
              have hmb10:=HSD.out.map.lt
              have qb:(wplus (w10.alloc (.cells #[.int .i64 msite,.int .i64 mseq,.int .i64 mwall,.int .i64 mcount,.int .i64 md0,.int .i64 md1,.int .i64 md2,.int .i64 md3,.slice mA mws.length mc] 44)) x11).heap[w10.heap.size]?=some (.cells #[.int .i64 msite,.int .i64 mseq,.int .i64 mwall,.int .i64 mcount,.int .i64 md0,.int .i64 md1,.int .i64 md2,.int .i64 md3,.slice mA mws.length mc] 44):=(wplus_heap_lt _ x11 _ (by simp)).trans (blk_new rfl _)
              have pe:(wplus (w10.alloc (.cells #[.int .i64 msite,.int .i64 mseq,.int .i64 mwall,.int .i64 mcount,.int .i64 md0,.int .i64 md1,.int .i64 md2,.int .i64 md3,.slice mA mws.length mc] 44)) x11).cell? ⟨w.heap.size,0,none⟩=some (.pointer (some ⟨x,0,none⟩)):=(hwe.cell (p:=⟨w.heap.size,0,none⟩) (Nat.lt_of_lt_of_le HP2r.out.2 HB10.out.size)).trans p10
              have hlw10:w.heap.size<w10.heap.size:=Nat.lt_of_lt_of_le HP2r.out.2 HB10.out.size
              clear hwe r0 r1 r2 r3 r4 r5 r6 r7 r8 p10 c8
              generalize wplus (w10.alloc (.cells #[.int .i64 msite,.int .i64 mseq,.int .i64 mwall,.int .i64 mcount,.int .i64 md0,.int .i64 md1,.int .i64 md2,.int .i64 md3,.slice mA mws.length mc] 44)) x11=we at *
              obtain ⟨hm1,hm2,hm3⟩:=HMR.out
              obtain ⟨hmp1,hmp2,hmp3,hmp4⟩:=HCM.out
              try simp only at hm1 hm2 hm3 hmp1 hmp2 hmp3 hmp4
              have hwfa:wf64 msite:=by unfold wf64;omega
              have hwfb:wf64 mseq:=by unfold wf64;omega
              have HPOS:=hidp (HSE.out.map.pos (a:=msite) (b:=mseq) hwfa hwfb (by simp [hm2]))
              obtain ⟨wd,hrun,hmp,hturn⟩:=HSE.out.map.drop hwfa hwfb 0
              have HUN:=hidp (HSE.out.unwait (m:=⟨⟨msite,mseq,mwall,mcount,md0,md1,md2,md3,mws⟩,mA,mc⟩) hturn.grown hmp (by simp [SiP.unwait]))
              have hgr:=hturn.grown
              have hwl:=HWE.out.size
              have hbl:∀ k,k<we.heap.size→k≠mb→wd.heap[k]?=we.heap[k]?:=fun k hk hne=>hgr.block k hk (by simp;exact hne)
              have qd:=(hbl w10.heap.size (lt_blk qb) (by omega)).trans qb
              have pd0:wd.cell? ⟨w.heap.size,0,none⟩=some (.pointer (some ⟨x,0,none⟩)):=(World.cell?_of_block (hbl w.heap.size (by omega) HMB.out.1)).trans pe
              have HMD2:=hidp (show WsAt wd mA mws∧∀ b o,mA=some ⟨b,o,none⟩→b<wd.heap.size∧¬SiOwn x mb lv1 sv1 b from ⟨HMD.out.1.keep fun b o e=>(hbl b (by have:=(HMD.out.2 b o e).1;omega) (fun e2=>(HMD.out.2 b o e).2 (.inr (.inl e2)))).trans (HWE.out.block b (HMD.out.2 b o e).1),fun b o e=>⟨by have:=(HMD.out.2 b o e).1;have:=hgr.size;omega,(HMD.out.2 b o e).2⟩⟩)
              have HAPP:=hidp (applies_any B x mb (SiP.unwait s1 ⟨⟨msite,mseq,mwall,mcount,md0,md1,md2,md3,mws⟩,mA,mc⟩) lv1 sv1 ⟨⟨msite,mseq,mwall,mcount,md0,md1,md2,md3,mws⟩,mA,mc⟩ (5*s1.log.length) wd HUN.out.1 HMD2.out hmp1 HIN.out.fit (by have:=HIN.out.log;omega) (by have:=HIN.out.log;show s1.log.length≤_;omega) (by show mws.length≤_;omega))
              have HINA:=hidp (HIN.out.apply (m:=⟨⟨msite,mseq,mwall,mcount,md0,md1,md2,md3,mws⟩,mA,mc⟩) hm1 HH2.out)
              have HWNA:Hid ((applyP (SiP.unwait s1 ⟨⟨msite,mseq,mwall,mcount,md0,md1,md2,md3,mws⟩,mA,mc⟩) ⟨⟨msite,mseq,mwall,mcount,md0,md1,md2,md3,mws⟩,mA,mc⟩).wn=s1.wn-1):=hidp (by rw [applyP_wn];simp [SiP.unwait,hm2])
              have HFRD:=hidp ((HF.out.trans (SiFr.of_below _ (HB10.out.trans (HWE.out.mono HB10.out.size)))).trans HUN.out.2)
              have dx:=HUN.out.1.sto.lt
              have d0c:=cell_blk qd 0;have d1c:=cell_blk qd 1;have d2c:=cell_blk qd 2;have d3c:=cell_blk qd 3;have d4c:=cell_blk qd 4;have d5c:=cell_blk qd 5;have d6c:=cell_blk qd 6;have d7c:=cell_blk qd 7;have d8c:=cell_blk qd 8
              simp only [zC,zD,zE] at d0c d1c d2c d3c d4c d5c d6c d7c d8c
              unfold MTx.val at HAPP
              try simp only at HAPP
              clear hmp hturn hgr hbl qb pe hm1 hm2 hm3 hmp1 hmp2 hmp3 hmp4 hwfa hwfb hwl hmb10
              go_wp2_with fail
              go_at_call 80
              refine HAPP.out.mono ?_
              rintro e wz ⟨rfl,lv2,sv2,hsz,hfz⟩
              have HSZ2:=hidp hsz
              have HFZ:=hidp hfz
              clear hsz hfz hrun
              go_wp2_with fail
              go_roundw
              case rel=>
               obtain ⟨f',rfl⟩:∃ f',f=f'+1:=⟨f-1,by have:=HPOS.out;omega⟩
               refine ⟨f',_,lv2,sv2,HSZ2.out,HFRD.out.trans HFZ.out,HINA.out,?_,by rw [HWNA.out];have:=HPOS.out;omega⟩
               rw [←HRU.out]
               exact (runP_step HN.out HH2.out).symm
              case measure=>
               rw [HSZ2.out.map.msize,HS.out.map.msize,HWNA.out]
               have:=HPOS.out
               omega
        ·have hd5:(seq != ap+1)=true:=by simpa using hnx
         have HNX:Hid (seq≠s.at (st:Int)+1):=hidp (by rw [HAP.out];exact hnx)
         clear hnx
         go_wp2_with fail
         refine wp_region_plus (by kernel_rfl) (by kernel_rfl) ?_
         repeat (first | go_big_quiet_skip | (go_big_quiet_want;go_big_quiet_op;first | go_big_quiet_on | (apply Exists.intro;refine ⟨fun _=>?_,?_⟩;(fail);go_big_quiet_on)))
         refine wpQuiet_nil ?_
         rintro _ ⟨x7,rfl⟩
         go_wp2_with fail
         go_ret
         exact HDN.out 12 _ (by decide) (by rw [HTE.out,if_neg HID2.out,if_neg HLE.out,if_pos (.inr ⟨H40.out,.inl HNX.out⟩)]) (HB6.out.trans (Below.mono (B:=w6.heap.size) (by repeat (first | exact Below.refl _ _ | refine blw_alloc ?_ | refine blw_plus ?_ | refine Below.drew ?_)) HB6.out.size))
       ·have hd4:decide ((40:Int)≤(s.wn:Int))=false:=decide_eq_false (by omega)
        have HE0:Hid (takeE s ⟨(st:Int),seq,wall,count,d0,d1,d2,d3,ws⟩=0):=hidp (by rw [HTE.out,if_neg HID2.out,if_neg HLE.out,if_neg (fun e=>e.elim H200.out (fun e=>h40 e.1))])
        clear h40
        go_wp2_with fail
        refine wp_region_plus (by kernel_rfl) (by kernel_rfl) ?_
        repeat (first | go_big_quiet_skip | (go_big_quiet_want;go_big_quiet_op;first | go_big_quiet_on | (apply Exists.intro;refine ⟨fun _=>?_,?_⟩;(fail);go_big_quiet_on)))
        refine wpQuiet_nil ?_
        rintro _ ⟨x7,rfl⟩
        clear p0 k0 k1 c0 c8 c7 e0 e1 e2 e3 e4 e5 e6 e7 e8
        clear ca c1 c2 c3 c4 hlen
        have hb7:Below w6.heap.size w6 (wplus w6 x7):=(by repeat (first | exact Below.refl _ _ | refine blw_alloc ?_ | refine blw_plus ?_ | refine Below.drew ?_))
        have HS7:=hidp (HS6.out.below hb7)
        have HB7:=hidp (HB6.out.trans (hb7.mono HB6.out.size))
        have Q27:=hidp ((hb7.block _ (lt_blk Q26.out)).trans Q26.out)
        have Q37:=hidp ((hb7.block _ (lt_blk Q36.out)).trans Q36.out)
        have Q57:=hidp ((hb7.block _ (lt_blk Q56.out)).trans Q56.out)
        clear hb7
        generalize wplus w6 x7=w7 at *
        have hx7:=HS7.out.sto.lt
        haveI:SzGe (x+1) w7:=⟨hx7⟩
        haveI:SzGe (w.heap.size+1) w7:=⟨lt_blk Q27.out⟩
        haveI:SzGe (w.heap.size+1+1) w7:=⟨lt_blk Q37.out⟩
        haveI:SzGe (w.heap.size+1+1+1) w7:=⟨lt_blk Q57.out⟩
        have c0:=HS7.out.c0
        have c8:=HS7.out.c8
        have c7:=HS7.out.c7
        have p0:=cell_blk Q27.out 0
        have k0:=cell_blk Q57.out 0;have k1:=cell_blk Q57.out 1
        have e0:=cell_blk Q37.out 0;have e1:=cell_blk Q37.out 1;have e2:=cell_blk Q37.out 2;have e3:=cell_blk Q37.out 3;have e4:=cell_blk Q37.out 4;have e5:=cell_blk Q37.out 5;have e6:=cell_blk Q37.out 6;have e7:=cell_blk Q37.out 7;have e8:=cell_blk Q37.out 8
        simp only [zC,zD,zE] at p0 k0 k1 e0 e1 e2 e3 e4 e5 e6 e7 e8
        have HMP:=hidp HS7.out.map
        have HW7:=hidp (HB7.out)
        go_wp2_with fail
        go_region_held3 (fun X:World=>X.cell? ⟨w.heap.size,0,none⟩=some (.pointer (some ⟨x,0,none⟩))∧X.cell? ⟨x,8,none⟩=some (.map (some mb))∧X.cell? ⟨w.heap.size+1+1,0,none⟩=some (.int .i64 (st:Int))∧X.cell? ⟨w.heap.size+1+1,1,none⟩=some (.int .i64 seq)∧X.cell? ⟨w.heap.size+1,0,none⟩=some (.int .i64 (st:Int))∧X.cell? ⟨w.heap.size+1,1,none⟩=some (.int .i64 seq)∧X.cell? ⟨w.heap.size+1,2,none⟩=some (.int .i64 wall)∧X.cell? ⟨w.heap.size+1,3,none⟩=some (.int .i64 count)∧X.cell? ⟨w.heap.size+1,4,none⟩=some (.int .i64 d0)∧X.cell? ⟨w.heap.size+1,5,none⟩=some (.int .i64 d1)∧X.cell? ⟨w.heap.size+1,6,none⟩=some (.int .i64 d2)∧X.cell? ⟨w.heap.size+1,7,none⟩=some (.int .i64 d3)∧X.cell? ⟨w.heap.size+1,8,none⟩=some (.slice A ws.length c)) ((repeat' apply And.intro) <;> simp [go_sem, *]) (
         (go_at_call 81
          refine (HCL.out HRF.out _ (HB7.out.trans (Below.mono (B:=w7.heap.size) (by repeat (first | exact Below.refl _ _ | refine blw_alloc ?_ | refine blw_plus ?_ | refine Below.drew ?_)) HB7.out.size))).mono ?_
          rintro e wc ⟨A',c',rfl,hw1,hbc,bb,rfl,hbb⟩
          obtain ⟨x9,rfl⟩:=wplus_of_below hbc
          have HSX:=hidp (HS7.out.below (show Below w7.heap.size w7 (wplus w7.drew x9) from zB))
          obtain ⟨wu,hrun,hmp,hturn⟩:=HSX.out.map.store (Nat.le_trans HWN.out (by omega)) HFA.out HFB.out (.agg #[.int .i64 (st:Int),.int .i64 seq,.int .i64 wall,.int .i64 count,.int .i64 d0,.int .i64 d1,.int .i64 d2,.int .i64 d3,.slice (some ⟨bb,0,none⟩) ws.length c'])
          have HWT1:=hidp (SiAt.wait (m:=⟨⟨(st:Int),seq,wall,count,d0,d1,d2,d3,ws⟩,some ⟨bb,0,none⟩,c'⟩) HSX.out hturn.grown hmp (by simp [SiP.wait,HWT.out]) ⟨hw1,fun b o e=>by
           obtain ⟨rfl,rfl⟩:b=bb∧o=0:=by simp at e;exact ⟨e.1.symm,e.2.symm⟩
           refine ⟨?_,fun e2=>?_⟩
           ·obtain ⟨b2,o2,e3,hlt,_⟩:=hw1 0 ws[0] (List.getElem?_eq_getElem (by omega))
            obtain ⟨rfl,rfl⟩:b2=b∧o2=0:=by simp at e3;exact ⟨e3.1.symm,e3.2.symm⟩
            exact hlt
           ·have h1:=(HS7.out.lt e2).2
            have h2:w7.heap.size≤b:=hbb
            omega⟩)
          have HBBG:=hidp (show w.heap.size≤bb from by have h2:w7.heap.size≤bb:=hbb;have:=HB7.out.size;omega)
          have HFW:=hidp ((SiFr.of_below (SiOwn x mb lv sv) (show Below w7.heap.size w7 (wplus w7.drew x9) from zB)).trans HWT1.out.2)
          have hgr:=hturn.grown
          have hbl:∀ k,k<w7.heap.size→k≠mb→wu.heap[k]?=w7.heap[k]?:=fun k hk hne=>(hgr.block k (by simp;omega) (by simp;exact hne)).trans (show (wplus w7.drew x9).heap[k]?=w7.heap[k]? from wplus_heap_lt w7.drew x9 k hk)
          have u2:=(hbl _ (lt_blk Q27.out) HMB.out.1).trans Q27.out
          have u3:=(hbl _ (lt_blk Q37.out) HMB.out.2.1).trans Q37.out
          have u5:=(hbl _ (lt_blk Q57.out) HMB.out.2.2).trans Q57.out
          have v8:=HWT1.out.1.c8
          have v0:=cell_blk u2 0;have y0:=cell_blk u5 0;have y1:=cell_blk u5 1;have z0:=cell_blk u3 0;have z1:=cell_blk u3 1;have z2:=cell_blk u3 2;have z3:=cell_blk u3 3;have z4:=cell_blk u3 4;have z5:=cell_blk u3 5;have z6:=cell_blk u3 6;have z7:=cell_blk u3 7;have z8:=cell_blk u3 8;simp only [zC,zD,zE] at v0 y0 y1 z0 z1 z2 z3 z4 z5 z6 z7 z8
          clear hbc hmp hturn hw1 hbb hgr hbl u3 u5))
        all_goals
         have HU2:=hidp u2
         clear u2
         have HSW:=hidp HWT1.out.1
         have HFRW:=hidp ((SiFr.of_below (SiOwn x mb lv sv) HB7.out).trans HFW.out)
         have HINV:=hidp (HI.out.wait (m:=⟨⟨(st:Int),seq,wall,count,d0,d1,d2,d3,ws⟩,some ⟨bb,0,none⟩,c'⟩) HRF.out)
         have HWN1:Hid ((s.wait ⟨⟨(st:Int),seq,wall,count,d0,d1,d2,d3,ws⟩,some ⟨bb,0,none⟩,c'⟩).wn=s.wn+1):=hidp (by simp [SiP.wait,HWT.out])
         have HPOST:Hid (∀ (s1:SiP) (lv1:Value) (sv1:Nat→Value) (w':World),SiAt w' B x s1 mb lv1 sv1→SiFr wu w' (SiOwn x mb lv sv) (SiOwn x mb lv1 sv1)→s1=runP (s.wn+1) (s.wait ⟨⟨(st:Int),seq,wall,count,d0,d1,d2,d3,ws⟩,some ⟨bb,0,none⟩,c'⟩)→TakePost B x mb s lv sv ⟨(st:Int),seq,wall,count,d0,d1,d2,d3,ws⟩ w (.returned .nilIface) w'):=hidp (by
          intro s1 lv1 sv1 w' h1 h2 h3
          unfold TakePost
          rw [HE0.out]
          exact ⟨rfl,fun e=>absurd rfl e,fun _=>⟨some ⟨bb,0,none⟩,c',lv1,sv1,(fun b o e=>by simp at e;have:=HBBG.out;omega),by rw [←h3];exact h1,HFRW.out.trans h2⟩⟩)
         generalize hMM:(⟨⟨(st:Int),seq,wall,count,d0,d1,d2,d3,ws⟩,some ⟨bb,0,none⟩,c'⟩:MTx)=M at *
         clear hMM v0 y0 y1 z0 z1 z2 z3 z4 z5 z6 z7 z8 v8 hrun
         go_wp2_with fail
         go_loopw [] (fun wr=>∃ (f:Nat) (s1:SiP) (lv1:Value) (sv1:Nat→Value),SiAt wr B x s1 mb lv1 sv1∧SiFr wu wr (SiOwn x mb lv sv) (SiOwn x mb lv1 sv1)∧Inv s1∧runP f s1=runP (s.wn+1) (s.wait M)∧s1.wn≤f) (fun wr=>mSize wr mb)
         case atStart=>exact ⟨s.wn+1,s.wait M,lv,sv,HSW.out,SiFr.of_below _ (Below.refl _ _),HINV.out,rfl,Nat.le_of_eq HWN1.out⟩
         case round=>
          obtain ⟨f,s1,lv1,sv1,hs,hfr,hin,hru,hwf⟩:=hrel
          have HS:=hidp hs
          have HF:=hidp hfr
          have HIN:=hidp hin
          have HRU:=hidp hru
          have q2:=(hfr.block _ (lt_blk HU2.out) HID.out).trans HU2.out
          have p0:=cell_blk q2 0
          simp only [List.getElem?_toArray,List.getElem?_cons_zero] at p0
          haveI:SzGe (w.heap.size+1) wr:=⟨lt_blk q2⟩
          haveI:SzGe (x+1) wr:=⟨hs.sto.lt⟩
          have HP2r:=hidp (show wr.cell? ⟨w.heap.size,0,none⟩=some (.pointer (some ⟨x,0,none⟩))∧w.heap.size<wr.heap.size from ⟨p0,lt_blk q2⟩)
          clear hs hfr hin hru q2
          go_wp2_with fail
          go_at_call 84
          refine (nexts_any B x mb s1 lv1 sv1 wr HS.out HIN.out.ap).mono ?_
          rintro e w8 ⟨A1,c1,rfl,hx1,hb8⟩
          have HX1:=hidp hx1
          have HSB:=hidp (HS.out.below hb8)
          have HP8:=hidp (show w8.cell? ⟨w.heap.size,0,none⟩=some (.pointer (some ⟨x,0,none⟩)) from (hb8.cell (p:=⟨w.heap.size,0,none⟩) HP2r.out.2).trans HP2r.out.1)
          obtain ⟨x8,rfl⟩:=wplus_of_below hb8
          clear hx1 hb8
          go_wp2_with fail
          go_at_call 83
          refine (index_any B x mb w.heap.size s1 lv1 sv1 A1 c1 (nextsL s1 4) _ HSB.out HP8.out (Nat.lt_of_lt_of_le HP2r.out.2 (by simp)) HX1.out (Nat.le_trans (nextsL_len _ _) (by omega))).mono ?_
          rintro e w9 ⟨rfl,hb9⟩
          have HSC:=hidp (HSB.out.below hb9)
          obtain ⟨x9,rfl⟩:=wplus_of_below hb9
          clear hb9
          obtain ⟨Al1,cl1,hlv1⟩:=own_form HS.out.row
          have c7:=HS.out.c7
          rw [hlv1] at c7
          have HLV1:=hidp hlv1
          clear hlv1
          rcases idx_find (covM s1) (nextsL s1 4) 0 with ⟨hn,hz⟩ | ⟨j,m,hn,hj,hz⟩
          ·rw [hz]
           have HN:=hidp hn
           clear hn hz
           go_wp2_with fail
           go_ret
           exact HPOST.out s1 lv1 sv1 _ (HS.out.below (by repeat (first | exact Below.refl _ _ | refine blw_alloc ?_ | refine blw_plus ?_ | refine Below.drew ?_))) (HF.out.trans (SiFr.of_below _ (show Below wr.heap.size wr _ from zB))) (by rw [←HRU.out];exact (runP_stop (.inl HN.out) f).symm)
          ·rw [hz]
           have HN:=hidp hn
           have hj4:j<4:=by have:=(List.getElem?_eq_some_iff.1 hj).1;have:=nextsL_len s1 4;omega
           have HJ:=hidp hj
           simp only [Nat.zero_add]
           have hdj:decide ((j:Int)<0)=false:=decide_eq_false (by omega)
           clear hn hz hj
           by_cases h2:200≤s1.log.length
           ·have hd6:decide ((200:Int)≤(s1.log.length:Int))=true:=decide_eq_true (by omega)
            have HH2:=hidp h2
            clear h2
            go_wp2_with fail
            go_ret
            exact HPOST.out s1 lv1 sv1 _ (HS.out.below (by repeat (first | exact Below.refl _ _ | refine blw_alloc ?_ | refine blw_plus ?_ | refine Below.drew ?_))) (HF.out.trans (SiFr.of_below _ (show Below wr.heap.size wr _ from zB))) (by rw [←HRU.out];exact (runP_stop (.inr HH2.out) f).symm)
           ·have hd6:decide ((200:Int)≤(s1.log.length:Int))=false:=decide_eq_false (by omega)
            have HH2:=hidp h2
            clear h2
            go_wp2_with fail
            go_at_call 84
            refine (nexts_any B x mb s1 lv1 sv1 _ HSC.out HIN.out.ap).mono ?_
            rintro e w10 ⟨A2,c2',rfl,hx2,hb10⟩
            have HSD:=hidp (HSC.out.below hb10)
            obtain ⟨b2,o2,rfl,hbl2,r0,r1,r2,r3,r4,r5,r6,r7,r8⟩:=hx2 j m HJ.out
            obtain ⟨x10,rfl⟩:=wplus_of_below hb10
            have hjl:j<(nextsL s1 4).length:=(List.getElem?_eq_some_iff.1 HJ.out).1
            have HNL:=hidp (nextsL_len s1 4)
            clear hx2 hb10
            have HB10:=hidp (show Below wr.heap.size wr (wplus (wplus (wplus wr x8) x9) x10) from zB)
            generalize wplus (wplus (wplus wr x8) x9) x10=w10 at *
            have HMR:=hidp (HIN.out.has HN.out)
            have HMD:=hidp (HSD.out.dat m (.inr ⟨_,_,(HIN.out.has HN.out).2.1⟩))
            have HCM:=hidp (rightTx_parts (HIN.out.has HN.out).1)
            obtain ⟨⟨msite,mseq,mwall,mcount,md0,md1,md2,md3,mws⟩,mA,mc⟩:=m
            simp only at r0 r1 r2 r3 r4 r5 r6 r7 r8
            have p10:w10.cell? ⟨w.heap.size,0,none⟩=some (.pointer (some ⟨x,0,none⟩)):=(HB10.out.cell (p:=⟨w.heap.size,0,none⟩) HP2r.out.2).trans HP2r.out.1
            have c8:=HSD.out.c8
            haveI:SzGe (b2+1) w10:=⟨hbl2⟩
            haveI:SzGe (x+1) w10:=⟨HSD.out.sto.lt⟩
            haveI:SzGe (w.heap.size+1) w10:=⟨Nat.lt_of_lt_of_le HP2r.out.2 HB10.out.size⟩
            have hjn:(j:Int)<((nextsL s1 4).length:Int):=by omega
            have hj0:(0:Int)≤(j:Int):=by omega
            go_wp2_with fail
            refine wp_region_plus_tail 9 (by kernel_rfl) (by kernel_rfl) ?_
            simp only [List.take_succ_cons,List.take_zero,List.drop_succ_cons,List.drop_zero]
            repeat (first | go_big_quiet_skip | (go_big_quiet_want;go_big_quiet_op;go_big_quiet_on))
            refine wpQuiet_nil ?_
            rintro _ ⟨x11,rfl⟩
            have hwe:Below w10.heap.size w10 (wplus (w10.alloc (.cells #[.int .i64 msite,.int .i64 mseq,.int .i64 mwall,.int .i64 mcount,.int .i64 md0,.int .i64 md1,.int .i64 md2,.int .i64 md3,.slice mA mws.length mc] 44)) x11):=(by repeat (first | exact Below.refl _ _ | refine blw_alloc ?_ | refine blw_plus ?_ | refine Below.drew ?_))
            have HSE:=hidp (HSD.out.below hwe)
            have HWE:=hidp hwe
            have hmb10:=HSD.out.map.lt
            have qb:(wplus (w10.alloc (.cells #[.int .i64 msite,.int .i64 mseq,.int .i64 mwall,.int .i64 mcount,.int .i64 md0,.int .i64 md1,.int .i64 md2,.int .i64 md3,.slice mA mws.length mc] 44)) x11).heap[w10.heap.size]?=some (.cells #[.int .i64 msite,.int .i64 mseq,.int .i64 mwall,.int .i64 mcount,.int .i64 md0,.int .i64 md1,.int .i64 md2,.int .i64 md3,.slice mA mws.length mc] 44):=(wplus_heap_lt _ x11 _ (by simp)).trans (blk_new rfl _)
            have pe:(wplus (w10.alloc (.cells #[.int .i64 msite,.int .i64 mseq,.int .i64 mwall,.int .i64 mcount,.int .i64 md0,.int .i64 md1,.int .i64 md2,.int .i64 md3,.slice mA mws.length mc] 44)) x11).cell? ⟨w.heap.size,0,none⟩=some (.pointer (some ⟨x,0,none⟩)):=(hwe.cell (p:=⟨w.heap.size,0,none⟩) (Nat.lt_of_lt_of_le HP2r.out.2 HB10.out.size)).trans p10
            have hlw10:w.heap.size<w10.heap.size:=Nat.lt_of_lt_of_le HP2r.out.2 HB10.out.size
            clear hwe r0 r1 r2 r3 r4 r5 r6 r7 r8 p10 c8
            generalize wplus (w10.alloc (.cells #[.int .i64 msite,.int .i64 mseq,.int .i64 mwall,.int .i64 mcount,.int .i64 md0,.int .i64 md1,.int .i64 md2,.int .i64 md3,.slice mA mws.length mc] 44)) x11=we at *
            obtain ⟨hm1,hm2,hm3⟩:=HMR.out
            obtain ⟨hmp1,hmp2,hmp3,hmp4⟩:=HCM.out
            try simp only at hm1 hm2 hm3 hmp1 hmp2 hmp3 hmp4
            have hwfa:wf64 msite:=by unfold wf64;omega
            have hwfb:wf64 mseq:=by unfold wf64;omega
            have HPOS:=hidp (HSE.out.map.pos (a:=msite) (b:=mseq) hwfa hwfb (by simp [hm2]))
            obtain ⟨wd,hrun,hmp,hturn⟩:=HSE.out.map.drop hwfa hwfb 0
            have HUN:=hidp (HSE.out.unwait (m:=⟨⟨msite,mseq,mwall,mcount,md0,md1,md2,md3,mws⟩,mA,mc⟩) hturn.grown hmp (by simp [SiP.unwait]))
            have hgr:=hturn.grown
            have hwl:=HWE.out.size
            have hbl:∀ k,k<we.heap.size→k≠mb→wd.heap[k]?=we.heap[k]?:=fun k hk hne=>hgr.block k hk (by simp;exact hne)
            have qd:=(hbl w10.heap.size (lt_blk qb) (by omega)).trans qb
            have pd0:wd.cell? ⟨w.heap.size,0,none⟩=some (.pointer (some ⟨x,0,none⟩)):=(World.cell?_of_block (hbl w.heap.size (by omega) HMB.out.1)).trans pe
            have HMD2:=hidp (show WsAt wd mA mws∧∀ b o,mA=some ⟨b,o,none⟩→b<wd.heap.size∧¬SiOwn x mb lv1 sv1 b from ⟨HMD.out.1.keep fun b o e=>(hbl b (by have:=(HMD.out.2 b o e).1;omega) (fun e2=>(HMD.out.2 b o e).2 (.inr (.inl e2)))).trans (HWE.out.block b (HMD.out.2 b o e).1),fun b o e=>⟨by have:=(HMD.out.2 b o e).1;have:=hgr.size;omega,(HMD.out.2 b o e).2⟩⟩)
            have HAPP:=hidp (applies_any B x mb (SiP.unwait s1 ⟨⟨msite,mseq,mwall,mcount,md0,md1,md2,md3,mws⟩,mA,mc⟩) lv1 sv1 ⟨⟨msite,mseq,mwall,mcount,md0,md1,md2,md3,mws⟩,mA,mc⟩ (5*s1.log.length) wd HUN.out.1 HMD2.out hmp1 HIN.out.fit (by have:=HIN.out.log;omega) (by have:=HIN.out.log;show s1.log.length≤_;omega) (by show mws.length≤_;omega))
            have HINA:=hidp (HIN.out.apply (m:=⟨⟨msite,mseq,mwall,mcount,md0,md1,md2,md3,mws⟩,mA,mc⟩) hm1 HH2.out)
            have HWNA:Hid ((applyP (SiP.unwait s1 ⟨⟨msite,mseq,mwall,mcount,md0,md1,md2,md3,mws⟩,mA,mc⟩) ⟨⟨msite,mseq,mwall,mcount,md0,md1,md2,md3,mws⟩,mA,mc⟩).wn=s1.wn-1):=hidp (by rw [applyP_wn];simp [SiP.unwait,hm2])
            have HFRD:=hidp ((HF.out.trans (SiFr.of_below _ (HB10.out.trans (HWE.out.mono HB10.out.size)))).trans HUN.out.2)
            have dx:=HUN.out.1.sto.lt
            have d0c:=cell_blk qd 0;have d1c:=cell_blk qd 1;have d2c:=cell_blk qd 2;have d3c:=cell_blk qd 3;have d4c:=cell_blk qd 4;have d5c:=cell_blk qd 5;have d6c:=cell_blk qd 6;have d7c:=cell_blk qd 7;have d8c:=cell_blk qd 8
            simp only [zC,zD,zE] at d0c d1c d2c d3c d4c d5c d6c d7c d8c
            unfold MTx.val at HAPP
            try simp only at HAPP
            clear hmp hturn hgr hbl qb pe hm1 hm2 hm3 hmp1 hmp2 hmp3 hmp4 hwfa hwfb hwl hmb10
            go_wp2_with fail
            go_at_call 80
            refine HAPP.out.mono ?_
            rintro e wz ⟨rfl,lv2,sv2,hsz,hfz⟩
            have HSZ2:=hidp hsz
            have HFZ:=hidp hfz
            clear hsz hfz hrun
            go_wp2_with fail
            go_roundw
            case rel=>
             obtain ⟨f',rfl⟩:∃ f',f=f'+1:=⟨f-1,by have:=HPOS.out;omega⟩
             refine ⟨f',_,lv2,sv2,HSZ2.out,HFRD.out.trans HFZ.out,HINA.out,?_,by rw [HWNA.out];have:=HPOS.out;omega⟩
             rw [←HRU.out]
             exact (runP_step HN.out HH2.out).symm
            case measure=>
             rw [HSZ2.out.map.msize,HS.out.map.msize,HWNA.out]
             have:=HPOS.out
             omega
end Go.Proofs.YtbopfhbeegkkaabGreatDoor
