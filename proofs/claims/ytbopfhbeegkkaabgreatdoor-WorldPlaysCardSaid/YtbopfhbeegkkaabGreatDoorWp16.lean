/- Part 16 of a proof: lemmas and contracts that other parts use. -/
import Derived.Test.YtbopfhbeegkkaabGreatDoorWp10
import Derived.Test.YtbopfhbeegkkaabGreatDoorWp14
import Derived.Great.BuildSlice
import Derived.Test.YtbopfhbeegkkaabGreatDoorWp1
import Derived.Deep.RegionHeld3
set_option linter.unusedVariables false
set_option linter.unusedSimpArgs false
set_option maxHeartbeats 16000000
set_option maxRecDepth 20000
namespace Go.Proofs.YtbopfhbeegkkaabGreatDoor
open Go.RowKit Go.Proofs.Tryz
theorem zfw.pos {w:World}{m sz:Nat}{f:Int→Int→Option Value}(h:zfw w m f sz){a b:Int}(ha:zcr a) (hb:zcr b) (hf:(f a b).isSome=true):1≤sz:=by
 obtain⟨D,h1,h2,h3⟩:=h;have:=(h3 a b ha hb).1;rw[hf]at this;obtain⟨es,rfl⟩:=h1.isMap;rw[←h2];simp only[Maps.has,Maps.size]at *;cases es with
 | nil=>simp at this
 | cons p es=>simp
theorem zlI {P:Program}{c:Code}{Q:Exit→Act→World→Prop}{a:Act}{w:World}(a1:Act) (w1:World) (h:c.wp P (fun e a' w'=>e=.normal∧a'=a1∧w'=w1) a w) (h2:Q .normal a1 w1):c.wp P Q a w:=
 Code.wp_mono (fun e a' w' ⟨he,ha,hw⟩=>by subst he ha hw;exact h2) h
def zdz (B x mb:Nat) (s:SiP) (lv:Value) (sv:Nat→Value) (t:TxP) (w:World) (e:Ending) (w':World):Prop:=
 e=.returned (zbT (takeE s t))∧(takeE s t≠0→Below w w w')∧(takeE s t=0→∃ A' c' lv' sv',(∀ b o,A'=some ⟨b,o,none⟩→w.heap.size≤b)∧zbV w' B x (runP (s.wn+1) (s.wait ⟨t,A',c'⟩)) mb lv' sv'∧zaO w w' (zaW x mb lv sv) (zaW x mb lv' sv'))
theorem zkY {t:TxP}{b:Bool}(h:zaf t=b) (A:Option Addr) (c:Nat) (w:World) (hn:t.ws.length≤1000000) (hws:zaN w A t.ws) (hseq:-9223372036854775808≤t.seq∧t.seq≤9223372036854775807):
  Calls prog 82 #[MTx.val ⟨t,A,c⟩] w fun e w'=>e=.returned (.bool b)∧Below w w w':=by
 subst h;exact zel t.site t.seq t.wall t.count t.d0 t.d1 t.d2 t.d3 A c t.ws w hn hws hseq
theorem take_any (B x mb:Nat) (s:SiP) (lv:Value) (sv:Nat→Value) (t:TxP) (A:Option Addr) (c:Nat) (w:World) (h:zbV w B x s mb lv sv) (hi:Inv s) (hwn:s.wn≤100000) (hws:zaN w A t.ws) (hwl:t.ws.length≤1000000) (hfa:zcr t.site) (hfb:zcr t.seq):
  Calls prog 17 #[.pointer (some ⟨x,0,none⟩),MTx.val ⟨t,A,c⟩] w (zdz B x mb s lv sv t w):=by
 have hdone:∀ (n:Int) (w':World),n≠0→takeE s t=n→Below w w w'→zdz B x mb s lv sv t w (.returned (.iface 29 (ii n))) w':=by
  intro n w' hn he hb;unfold zdz;rw[he];exact⟨by unfold zbT;rw[yad hn],fun _=>hb,fun e=>absurd e hn⟩
 have HDN:=zac hdone;clear hdone;have HI:=zac hi;have HTE:Hid (takeE s t=if zaf t=false∨t.site=s.id then 1 else if t.seq≤s.at t.site∨(s.wt t.site t.seq).isSome=true then 9
  else if 200≤s.log.length∨(40≤s.wn∧(t.seq≠s.at t.site+1∨zdp s.p0 s.p1 s.p2 s.p3 t.d0 t.d1 t.d2 t.d3=false))then 12 else 0):=zac rfl
 have HRT:=zac fun(b:Bool) (hb:zaf t=b) W (hB:Below w w W)=>zkY hb A c W hwl (hws.below hB) hfb
 have HWS:=zac hws;have HPT:Hid (zaf t=true→((0≤t.site∧t.site<4)∧(1≤t.seq∧t.seq≤1099511627776)∧1≤t.ws.length∧t.ws.length≤5)):=zac zar;have HCL:Hid (zaf t=true→∀ W,Below w w W→Calls prog 81 #[MTx.val ⟨t,A,c⟩] W fun e w'=>∃ A' c',e=.returned (MTx.val ⟨t,A',c'⟩)∧zaN w' A' t.ws∧Below W W w'∧∃ b,A'=some ⟨b,0,none⟩∧W.heap.size≤b):=zac (fun hr W hB=>by
  obtain⟨_,_,r3,r4⟩:=zar hr;exact zgw t A c W (hws.below hB) zO zO)
 have hb3:Below w w (((w.alloc (.cells #[.pointer (some ⟨x,0,none⟩)] 23)).alloc (.cells #[t.site,t.seq,t.wall,t.count,t.d0,t.d1,t.d2,t.d3,.slice A t.ws.length c] 44)).alloc (.cells #[t.site,t.seq] 160)):=zB;have HS3:=zac (h.below hb3);have HB3:=zac hb3;have HP2:=zac (show(((w.alloc (.cells #[.pointer (some ⟨x,0,none⟩)] 23)).alloc (.cells #[t.site,t.seq,t.wall,t.count,t.d0,t.d1,t.d2,t.d3,.slice A t.ws.length c] 44)).alloc (.cells #[t.site,t.seq] 160)).heap[w.heap.size]?=some (.cells #[.pointer (some ⟨x,0,none⟩)] 23)from zaC (zaC (zag rfl _) _) _);have HP3:=zac (show(((w.alloc (.cells #[.pointer (some ⟨x,0,none⟩)] 23)).alloc (.cells #[t.site,t.seq,t.wall,t.count,t.d0,t.d1,t.d2,t.d3,.slice A t.ws.length c] 44)).alloc (.cells #[t.site,t.seq] 160)).heap[w.heap.size+1]?=some (.cells #[t.site,t.seq,t.wall,t.count,t.d0,t.d1,t.d2,t.d3,.slice A t.ws.length c] 44)from zaC (zag zS _) _);have HP5:=zac (show(((w.alloc (.cells #[.pointer (some ⟨x,0,none⟩)] 23)).alloc (.cells #[t.site,t.seq,t.wall,t.count,t.d0,t.d1,t.d2,t.d3,.slice A t.ws.length c] 44)).alloc (.cells #[t.site,t.seq] 160)).heap[w.heap.size+1+1]?=some (.cells #[t.site,t.seq] 160)from zag zS _);have HFA:=zac hfa;have HFB:=zac hfb;have HID:=zac (show ¬zaW x mb lv sv w.heap.size from fun e=>by have:=(h.lt e).2;omega);have HFR:=zac (zaO.of_below (zaW x mb lv sv) hb3);have HWN:=zac hwn;have HMB:=zac (show w.heap.size≠mb∧w.heap.size+1≠mb∧w.heap.size+1+1≠mb by have:=h.map.lt;omega);have hsz3:(((w.alloc (.cells #[.pointer (some ⟨x,0,none⟩)] 23)).alloc (.cells #[t.site,t.seq,t.wall,t.count,t.d0,t.d1,t.d2,t.d3,.slice A t.ws.length c] 44)).alloc (.cells #[t.site,t.seq] 160)).heap.size=w.heap.size+3:=by simp
 have HSZ:=zac hsz3;obtain⟨Al,cl,hlv⟩:=zaP h.row;have HLV:=zac hlv;clear h hi hws hwl hb3 hfa hfb hwn hsz3 hlv;obtain⟨site,seq,wall,count,d0,d1,d2,d3,ws⟩:=t;simp only at HTE HRT HPT HCL HFA HFB HP3 HP5 HS3 HB3 HP2 HSZ
 try unfold MTx.val at HRT
 unfold MTx.val at HCL
 try unfold MTx.val
 try simp only at HRT
 try simp only at HCL
 try simp only
 go_enter func17,ntmps17;go_wp2_with fail;generalize ((w.alloc (.cells #[.pointer (some ⟨x,0,none⟩)] 23)).alloc (.cells #[site,seq,wall,count,d0,d1,d2,d3,.slice A ws.length c] 44)).alloc (.cells #[site,seq] 160)=w3 at *;have hx3:=HS3.out.sto.lt;haveI:zaj (x+1) w3:=⟨hx3⟩;haveI:zaj (w.heap.size+1) w3:=⟨zae HP2.out⟩;haveI:zaj (w.heap.size+1+1) w3:=⟨zae HP3.out⟩;haveI:zaj (w.heap.size+1+1+1) w3:=⟨zae HP5.out⟩;haveI:zaj w.heap.size w3:=⟨HB3.out.size⟩;have c8:=HS3.out.c8;have p0:=zaa HP2.out 0;have k0:=zaa HP5.out 0;have k1:=zaa HP5.out 1;simp only[zC,zD,zE]at p0 k0 k1;have hL:∀ X:World,X.heap[mb]?=w3.heap[mb]?→(Instr.lookup 141 (.map (some mb)) (.agg #[site,seq]) true).run prog X=.ok (.tuple #[((s.wt site seq).map MTx.val).getD txZero,.bool ((s.wt site seq).map MTx.val).isSome]) X:=fun X hX=>(HS3.out.map.block hX).look HFA.out HFB.out
 have hl1:=hL w3.drew rfl;have hl2:=hL (w3.alloc (.cells #[ii 0,ii 0,ii 0,ii 0,ii 0,ii 0,ii 0,ii 0,.slice none 0 0] 44)).drew (ybR w3 _ mb HS3.out.map.lt);have hl3:=hL (w3.drew.alloc (.cells #[ii 0,ii 0,ii 0,ii 0,ii 0,ii 0,ii 0,ii 0,.slice none 0 0] 44)) (ybR w3.drew _ mb HS3.out.map.lt);clear hL;cases hwt:s.wt site seq with
 | some m=>
   rw[hwt]at hl1 hl2 hl3;obtain⟨⟨msite,mseq,mwall,mcount,md0,md1,md2,md3,mws⟩,mA,mc⟩:=m;simp only[Option.map_some,yb3,ybT,MTx.val]at hl1 hl2 hl3;have HWT:=zac (show(s.wt site seq).isSome=true by rw[hwt];rfl);clear hwt;apply zlI
   case h=>
    go_region_held3 (fun X:World=>X.cell? ⟨w,0,none⟩=some (.pointer (some ⟨x,0,none⟩))∧X.cell? ⟨x,8,none⟩=some (.map (some mb))∧X.cell? ⟨w.heap.size+1+1,0,none⟩=some (ii site)∧X.cell? ⟨w.heap.size+1+1,1,none⟩=some (ii seq)) ((repeat' apply And.intro) <;> simp[go_sem, *]) (fail)
    all_goals exact⟨rfl,rfl,rfl⟩
   go_wp2_with fail;have Q23:=HP2;have Q33:=HP3;have Q53:=HP5;clear hl1 hl2 hl3 c8 p0 k0 k1;have hb4:Below w3 w3 ((w3.alloc (.cells #[msite,mseq,mwall,mcount,md0,md1,md2,md3,.slice mA mws.length mc] 44)).drew):=zB;have HS4:=zac (HS3.out.below hb4);have HB4:=zac (HB3.out.trans (hb4.mono HB3.out.size));have Q24:=zac ((hb4.block _ (zae Q23.out)).trans Q23.out);have Q34:=zac ((hb4.block _ (zae Q33.out)).trans Q33.out);have Q54:=zac ((hb4.block _ (zae Q53.out)).trans Q53.out);clear hb4;generalize (w3.alloc (.cells #[msite,mseq,mwall,mcount,md0,md1,md2,md3,.slice mA mws.length mc] 44)).drew=w4 at *;cases hrt:zaf (⟨site,seq,wall,count,d0,d1,d2,d3,ws⟩:TxP)
   case false=>
    have HR4:=zac fun W (hB:Below w4 w4 W)=>HRT.out false hrt W (HB4.out.trans (hB.mono HB4.out.size))
    have HRF:=zac hrt;clear hrt;have hx4:=HS4.out.sto.lt;haveI:zaj (x+1) w4:=⟨hx4⟩;haveI:zaj (w.heap.size+1) w4:=⟨zae Q24.out⟩;haveI:zaj (w.heap.size+1+1) w4:=⟨zae Q34.out⟩;haveI:zaj (w.heap.size+1+1+1) w4:=⟨zae Q54.out⟩;have c0:=HS4.out.c0;have c8:=HS4.out.c8;have c7:=HS4.out.c7;have p0:=zaa Q24.out 0;have k0:=zaa Q54.out 0;have k1:=zaa Q54.out 1;have e0:=zaa Q34.out 0;have e1:=zaa Q34.out 1;have e2:=zaa Q34.out 2;have e3:=zaa Q34.out 3;have e4:=zaa Q34.out 4;have e5:=zaa Q34.out 5;have e6:=zaa Q34.out 6;have e7:=zaa Q34.out 7;have e8:=zaa Q34.out 8;simp only[zC,zD,zE]at p0 k0 k1 e0 e1 e2 e3 e4 e5 e6 e7 e8;go_wp2_with fail;refine zaz fun x5=>?_
    go_wp2_with fail;go_ret;exact HDN.out 1 _ zI (by rw[HTE.out,yaj (.inl HRF.out)]) (HB4.out.trans (yaH (B:=w4.heap.size) zB HB4.out.size))
   case true=>
    have HR4:=zac fun W (hB:Below w4 w4 W)=>HRT.out true hrt W (HB4.out.trans (hB.mono HB4.out.size))
    obtain⟨hsi,hsq,hw1,hw5⟩:=HPT.out hrt;have HRF:=zac hrt;obtain⟨st,rfl⟩:=yar hsi.1;have hst4:st<4:=by omega
    clear hrt;have hx4:=HS4.out.sto.lt;haveI:zaj (x+1) w4:=⟨hx4⟩;haveI:zaj (w.heap.size+1) w4:=⟨zae Q24.out⟩;haveI:zaj (w.heap.size+1+1) w4:=⟨zae Q34.out⟩;haveI:zaj (w.heap.size+1+1+1) w4:=⟨zae Q54.out⟩;have c0:=HS4.out.c0;have c8:=HS4.out.c8;have c7:=HS4.out.c7;have p0:=zaa Q24.out 0;have k0:=zaa Q54.out 0;have k1:=zaa Q54.out 1;have e0:=zaa Q34.out 0;have e1:=zaa Q34.out 1;have e2:=zaa Q34.out 2;have e3:=zaa Q34.out 3;have e4:=zaa Q34.out 4;have e5:=zaa Q34.out 5;have e6:=zaa Q34.out 6;have e7:=zaa Q34.out 7;have e8:=zaa Q34.out 8;simp only[zC,zD,zE]at p0 k0 k1 e0 e1 e2 e3 e4 e5 e6 e7 e8;by_cases hid:(st:Int)=s.id
    ·have hd1:((st:Int)==s.id)=true:=by simp[hid]
     have HID2:=zac hid;clear hid;go_wp2_with fail;refine zaz fun x5=>?_
     go_wp2_with fail;go_ret;exact HDN.out 1 _ zI (by rw[HTE.out,yaj (.inr HID2.out)]) (HB4.out.trans (yaH (B:=w4.heap.size) zB HB4.out.size))
    ·have hd1:((st:Int)==s.id)=false:=by simpa using hid
     have HID2:Hid (¬(zaf ⟨(st:Int),seq,wall,count,d0,d1,d2,d3,ws⟩=false∨(st:Int)=s.id)):=zac (by rw[HRF.out];simpa using hid);clear hid;go_wp2_with fail;refine zaz fun x5=>?_
     clear p0 k0 k1 c0 c8 c7 e0 e1 e2 e3 e4 e5 e6 e7 e8;have hb5:Below w4 w4 (zai w4 x5):=zB;have HS5:=zac (HS4.out.below hb5);have HB5:=zac (HB4.out.trans (hb5.mono HB4.out.size));have Q25:=zac ((hb5.block _ (zae Q24.out)).trans Q24.out);have Q35:=zac ((hb5.block _ (zae Q34.out)).trans Q34.out);have Q55:=zac ((hb5.block _ (zae Q54.out)).trans Q54.out);clear hb5;generalize zai w4 x5=w5 at *;have hx5:=HS5.out.sto.lt;haveI:zaj (x+1) w5:=⟨hx5⟩;haveI:zaj (w.heap.size+1) w5:=⟨zae Q25.out⟩;haveI:zaj (w.heap.size+1+1) w5:=⟨zae Q35.out⟩;haveI:zaj (w.heap.size+1+1+1) w5:=⟨zae Q55.out⟩;have c0:=HS5.out.c0;have c8:=HS5.out.c8;have c7:=HS5.out.c7;have p0:=zaa Q25.out 0;have k0:=zaa Q55.out 0;have k1:=zaa Q55.out 1;have e0:=zaa Q35.out 0;have e1:=zaa Q35.out 1;have e2:=zaa Q35.out 2;have e3:=zaa Q35.out 3;have e4:=zaa Q35.out 4;have e5:=zaa Q35.out 5;have e6:=zaa Q35.out 6;have e7:=zaa Q35.out 7;have e8:=zaa Q35.out 8;simp only[zC,zD,zE]at p0 k0 k1 e0 e1 e2 e3 e4 e5 e6 e7 e8;have ca:=HS5.out.apc hst4;have hk0:(0:Int)≤(st:Int):=by omega
     have hk4:(st:Int)<4:=by omega
     obtain⟨ap,hap⟩:∃ ap,s.at (st:Int)=ap:=⟨_,rfl⟩;rw[hap]at ca;have HAP:=zac hap;have haq:=HI.out.ap.at (st:Int);rw[hap]at haq;obtain⟨haq0,haq1⟩:=haq;clear hap;by_cases hle:seq≤ap
     ·have hd2:decide (seq≤ap)=true:=yae hle
      have HLE:=zac hle;clear hle;go_wp2_with fail;refine zaz fun x6=>?_
      go_wp2_with fail;go_ret;exact HDN.out 9 _ zI (by rw[HTE.out,yad HID2.out,yaj (.inl (by rw[HAP.out];exact HLE.out))]) (HB5.out.trans (yaH (B:=w5.heap.size) zB HB5.out.size))
     ·have hd2:decide (seq≤ap)=false:=yah hle
      have HLE:=zac hle;clear hle;go_wp2_with fail;refine zaz fun x6=>?_
      go_wp2_with fail;go_ret;exact HDN.out 9 _ zI (by rw[HTE.out,yad HID2.out,yaj (.inr HWT.out)]) (HB5.out.trans (yaH (B:=w5.heap.size) zB HB5.out.size))
 | none=>
   rw[hwt]at hl1 hl2 hl3;simp only[Option.map_none,ybQ,ybF,txZero]at hl1 hl2 hl3;have HWT:=zac hwt;clear hwt;apply zlI
   case h=>
    go_region_held3 (fun X:World=>X.cell? ⟨w,0,none⟩=some (.pointer (some ⟨x,0,none⟩))∧X.cell? ⟨x,8,none⟩=some (.map (some mb))∧X.cell? ⟨w.heap.size+1+1,0,none⟩=some (ii site)∧X.cell? ⟨w.heap.size+1+1,1,none⟩=some (ii seq)) ((repeat' apply And.intro) <;> simp[go_sem, *]) (fail)
    all_goals exact⟨rfl,rfl,rfl⟩
   have Q23:=HP2;have Q33:=HP3;have Q53:=HP5;clear hl1 hl2 hl3 c8 p0 k0 k1;have hb4:Below w3 w3 ((w3.alloc (.cells #[ii 0,ii 0,ii 0,ii 0,ii 0,ii 0,ii 0,ii 0,.slice none 0 0] 44)).drew):=zB;have HS4:=zac (HS3.out.below hb4);have HB4:=zac (HB3.out.trans (hb4.mono HB3.out.size));have Q24:=zac ((hb4.block _ (zae Q23.out)).trans Q23.out);have Q34:=zac ((hb4.block _ (zae Q33.out)).trans Q33.out);have Q54:=zac ((hb4.block _ (zae Q53.out)).trans Q53.out);clear hb4;generalize (w3.alloc (.cells #[ii 0,ii 0,ii 0,ii 0,ii 0,ii 0,ii 0,ii 0,.slice none 0 0] 44)).drew=w4 at *;cases hrt:zaf (⟨site,seq,wall,count,d0,d1,d2,d3,ws⟩:TxP)
   case false=>
    have HR4:=zac fun W (hB:Below w4 w4 W)=>HRT.out false hrt W (HB4.out.trans (hB.mono HB4.out.size))
    have HRF:=zac hrt;clear hrt;have hx4:=HS4.out.sto.lt;haveI:zaj (x+1) w4:=⟨hx4⟩;haveI:zaj (w.heap.size+1) w4:=⟨zae Q24.out⟩;haveI:zaj (w.heap.size+1+1) w4:=⟨zae Q34.out⟩;haveI:zaj (w.heap.size+1+1+1) w4:=⟨zae Q54.out⟩;have c0:=HS4.out.c0;have c8:=HS4.out.c8;have c7:=HS4.out.c7;have p0:=zaa Q24.out 0;have k0:=zaa Q54.out 0;have k1:=zaa Q54.out 1;have e0:=zaa Q34.out 0;have e1:=zaa Q34.out 1;have e2:=zaa Q34.out 2;have e3:=zaa Q34.out 3;have e4:=zaa Q34.out 4;have e5:=zaa Q34.out 5;have e6:=zaa Q34.out 6;have e7:=zaa Q34.out 7;have e8:=zaa Q34.out 8;simp only[zC,zD,zE]at p0 k0 k1 e0 e1 e2 e3 e4 e5 e6 e7 e8;go_wp2_with fail;refine zaz fun x5=>?_
    go_wp2_with fail;go_ret;exact HDN.out 1 _ zI (by rw[HTE.out,yaj (.inl HRF.out)]) (HB4.out.trans (yaH (B:=w4.heap.size) zB HB4.out.size))
   case true=>
    have HR4:=zac fun W (hB:Below w4 w4 W)=>HRT.out true hrt W (HB4.out.trans (hB.mono HB4.out.size))
    obtain⟨hsi,hsq,hw1,hw5⟩:=HPT.out hrt;have HRF:=zac hrt;obtain⟨st,rfl⟩:=yar hsi.1;have hst4:st<4:=by omega
    clear hrt;have hx4:=HS4.out.sto.lt;haveI:zaj (x+1) w4:=⟨hx4⟩;haveI:zaj (w.heap.size+1) w4:=⟨zae Q24.out⟩;haveI:zaj (w.heap.size+1+1) w4:=⟨zae Q34.out⟩;haveI:zaj (w.heap.size+1+1+1) w4:=⟨zae Q54.out⟩;have c0:=HS4.out.c0;have c8:=HS4.out.c8;have c7:=HS4.out.c7;have p0:=zaa Q24.out 0;have k0:=zaa Q54.out 0;have k1:=zaa Q54.out 1;have e0:=zaa Q34.out 0;have e1:=zaa Q34.out 1;have e2:=zaa Q34.out 2;have e3:=zaa Q34.out 3;have e4:=zaa Q34.out 4;have e5:=zaa Q34.out 5;have e6:=zaa Q34.out 6;have e7:=zaa Q34.out 7;have e8:=zaa Q34.out 8;simp only[zC,zD,zE]at p0 k0 k1 e0 e1 e2 e3 e4 e5 e6 e7 e8;by_cases hid:(st:Int)=s.id
    ·have hd1:((st:Int)==s.id)=true:=by simp[hid]
     have HID2:=zac hid;clear hid;go_wp2_with fail;refine zaz fun x5=>?_
     go_wp2_with fail;go_ret;exact HDN.out 1 _ zI (by rw[HTE.out,yaj (.inr HID2.out)]) (HB4.out.trans (yaH (B:=w4.heap.size) zB HB4.out.size))
    ·have hd1:((st:Int)==s.id)=false:=by simpa using hid
     have HID2:Hid (¬(zaf ⟨(st:Int),seq,wall,count,d0,d1,d2,d3,ws⟩=false∨(st:Int)=s.id)):=zac (by rw[HRF.out];simpa using hid);clear hid;go_wp2_with fail;refine zaz fun x5=>?_
     clear p0 k0 k1 c0 c8 c7 e0 e1 e2 e3 e4 e5 e6 e7 e8;have hb5:Below w4 w4 (zai w4 x5):=zB;have HS5:=zac (HS4.out.below hb5);have HB5:=zac (HB4.out.trans (hb5.mono HB4.out.size));have Q25:=zac ((hb5.block _ (zae Q24.out)).trans Q24.out);have Q35:=zac ((hb5.block _ (zae Q34.out)).trans Q34.out);have Q55:=zac ((hb5.block _ (zae Q54.out)).trans Q54.out);clear hb5;generalize zai w4 x5=w5 at *;have hx5:=HS5.out.sto.lt;haveI:zaj (x+1) w5:=⟨hx5⟩;haveI:zaj (w.heap.size+1) w5:=⟨zae Q25.out⟩;haveI:zaj (w.heap.size+1+1) w5:=⟨zae Q35.out⟩;haveI:zaj (w.heap.size+1+1+1) w5:=⟨zae Q55.out⟩;have c0:=HS5.out.c0;have c8:=HS5.out.c8;have c7:=HS5.out.c7;have p0:=zaa Q25.out 0;have k0:=zaa Q55.out 0;have k1:=zaa Q55.out 1;have e0:=zaa Q35.out 0;have e1:=zaa Q35.out 1;have e2:=zaa Q35.out 2;have e3:=zaa Q35.out 3;have e4:=zaa Q35.out 4;have e5:=zaa Q35.out 5;have e6:=zaa Q35.out 6;have e7:=zaa Q35.out 7;have e8:=zaa Q35.out 8;simp only[zC,zD,zE]at p0 k0 k1 e0 e1 e2 e3 e4 e5 e6 e7 e8;have ca:=HS5.out.apc hst4;have hk0:(0:Int)≤(st:Int):=by omega
     have hk4:(st:Int)<4:=by omega
     obtain⟨ap,hap⟩:∃ ap,s.at (st:Int)=ap:=⟨_,rfl⟩;rw[hap]at ca;have HAP:=zac hap;have haq:=HI.out.ap.at (st:Int);rw[hap]at haq;obtain⟨haq0,haq1⟩:=haq;clear hap;by_cases hle:seq≤ap
     ·have hd2:decide (seq≤ap)=true:=yae hle
      have HLE:=zac hle;clear hle;go_wp2_with fail;refine zaz fun x6=>?_
      go_wp2_with fail;go_ret;exact HDN.out 9 _ zI (by rw[HTE.out,yad HID2.out,yaj (.inl (by rw[HAP.out];exact HLE.out))]) (HB5.out.trans (yaH (B:=w5.heap.size) zB HB5.out.size))
     ·have hd2:decide (seq≤ap)=false:=yah hle
      have HLE:Hid (¬(seq≤s.at (st:Int)∨(s.wt (st:Int) seq).isSome=true)):=zac (by rw[HAP.out,HWT.out];simpa using hle);clear hle;go_wp2_with fail;refine zaz fun x6=>?_
      clear p0 k0 k1 c0 c8 c7 e0 e1 e2 e3 e4 e5 e6 e7 e8;clear ca;have hb6:Below w5 w5 (zai w5 x6):=zB;have HS6:=zac (HS5.out.below hb6);have HB6:=zac (HB5.out.trans (hb6.mono HB5.out.size));have Q26:=zac ((hb6.block _ (zae Q25.out)).trans Q25.out);have Q36:=zac ((hb6.block _ (zae Q35.out)).trans Q35.out);have Q56:=zac ((hb6.block _ (zae Q55.out)).trans Q55.out);clear hb6;generalize zai w5 x6=w6 at *;have hx6:=HS6.out.sto.lt;haveI:zaj (x+1) w6:=⟨hx6⟩;haveI:zaj (w.heap.size+1) w6:=⟨zae Q26.out⟩;haveI:zaj (w.heap.size+1+1) w6:=⟨zae Q36.out⟩;haveI:zaj (w.heap.size+1+1+1) w6:=⟨zae Q56.out⟩;have c0:=HS6.out.c0;have c8:=HS6.out.c8;have c7:=HS6.out.c7;have p0:=zaa Q26.out 0;have k0:=zaa Q56.out 0;have k1:=zaa Q56.out 1;have e0:=zaa Q36.out 0;have e1:=zaa Q36.out 1;have e2:=zaa Q36.out 2;have e3:=zaa Q36.out 3;have e4:=zaa Q36.out 4;have e5:=zaa Q36.out 5;have e6:=zaa Q36.out 6;have e7:=zaa Q36.out 7;have e8:=zaa Q36.out 8;simp only[zC,zD,zE]at p0 k0 k1 e0 e1 e2 e3 e4 e5 e6 e7 e8;have ca:=HS6.out.apc hst4;rw[HAP.out]at ca;rw[HLV.out]at c7;obtain⟨c1,c2,c3,c4⟩:=HS6.out.vec;have hlen:∀ (a:zks),(Builtin.len_ #[141] 3 #[.map (some mb)]).run prog (zai w6 a)=.ok (ii s.wn) (zai w6 a):=fun a=>(HS6.out.below (zax w6 a)).map.len 3
      by_cases h200:200≤s.log.length
      ·have hd3:decide ((200:Int)≤(s.log.length:Int))=true:=zT
       have H200:=zac h200;clear h200;go_wp2_with fail;refine zaz fun x7=>?_
       go_wp2_with fail;go_ret;exact HDN.out 12 _ zI (by rw[HTE.out,yad HID2.out,yad HLE.out,yaj (.inl H200.out)]) (HB6.out.trans (yaH (B:=w6.heap.size) zB HB6.out.size))
      ·have hd3:decide ((200:Int)≤(s.log.length:Int))=false:=zU
       have H200:=zac h200;clear h200;by_cases h40:40≤s.wn
       ·have hd4:decide ((40:Int)≤(s.wn:Int))=true:=zT
        have H40:=zac h40;clear h40;have hwr:IntKind.i64.wrap (ap+1)=ap+1:=by rw[ybm];omega
        by_cases hnx:seq=ap+1
        ·have hd5:(seq != ap+1)=false:=by simp[hnx]
         have HNX:=zac hnx;clear hnx;cases hcv:zdp s.p0 s.p1 s.p2 s.p3 d0 d1 d2 d3
         case false=>
          have HCV:=zac fun W=>zdj s.p0 s.p1 s.p2 s.p3 d0 d1 d2 d3 W
          rw[hcv]at HCV;have HCF:=zac hcv;clear hcv;go_wp2_with fail;refine zaz fun x7=>?_
          go_wp2_with fail;go_ret;exact HDN.out 12 _ zI (by rw[HTE.out,yad HID2.out,yad HLE.out,yaj (.inr ⟨H40.out,.inr HCF.out⟩)]) (HB6.out.trans (yaH (B:=w6.heap.size) zB HB6.out.size))
         case true=>
          have HCV:=zac fun W=>zdj s.p0 s.p1 s.p2 s.p3 d0 d1 d2 d3 W
          rw[hcv]at HCV;have HE0:Hid (takeE s ⟨(st:Int),seq,wall,count,d0,d1,d2,d3,ws⟩=0):=zac (by rw[HTE.out,yad HID2.out,yad HLE.out,yad (fun e=>e.elim H200.out (fun e=>e.2.elim (fun e=>e (by rw[HAP.out];exact HNX.out)) (fun e=>by rw[hcv]at e;cases e)))]);clear hcv;go_wp2_with fail;refine zaz fun x7=>?_
          clear p0 k0 k1 c0 c8 c7 e0 e1 e2 e3 e4 e5 e6 e7 e8;clear ca c1 c2 c3 c4 hlen;have hb7:Below w6 w6 (zai w6 x7):=zB;have HS7:=zac (HS6.out.below hb7);have HB7:=zac (HB6.out.trans (hb7.mono HB6.out.size));have Q27:=zac ((hb7.block _ (zae Q26.out)).trans Q26.out);have Q37:=zac ((hb7.block _ (zae Q36.out)).trans Q36.out);have Q57:=zac ((hb7.block _ (zae Q56.out)).trans Q56.out);clear hb7;generalize zai w6 x7=w7 at *;have hx7:=HS7.out.sto.lt;haveI:zaj (x+1) w7:=⟨hx7⟩;haveI:zaj (w.heap.size+1) w7:=⟨zae Q27.out⟩;haveI:zaj (w.heap.size+1+1) w7:=⟨zae Q37.out⟩;haveI:zaj (w.heap.size+1+1+1) w7:=⟨zae Q57.out⟩;have c0:=HS7.out.c0;have c8:=HS7.out.c8;have c7:=HS7.out.c7;have p0:=zaa Q27.out 0;have k0:=zaa Q57.out 0;have k1:=zaa Q57.out 1;have e0:=zaa Q37.out 0;have e1:=zaa Q37.out 1;have e2:=zaa Q37.out 2;have e3:=zaa Q37.out 3;have e4:=zaa Q37.out 4;have e5:=zaa Q37.out 5;have e6:=zaa Q37.out 6;have e7:=zaa Q37.out 7;have e8:=zaa Q37.out 8;simp only[zC,zD,zE]at p0 k0 k1 e0 e1 e2 e3 e4 e5 e6 e7 e8;have HMP:=zac HS7.out.map;have HW7:=zac (HB7.out);go_wp2_with fail;go_region_held3 (fun X:World=>X.cell? ⟨w,0,none⟩=some (.pointer (some ⟨x,0,none⟩))∧X.cell? ⟨x,8,none⟩=some (.map (some mb))∧X.cell? ⟨w.heap.size+1+1,0,none⟩=some (ii (st:Int))∧X.cell? ⟨w.heap.size+1+1,1,none⟩=some (ii seq)∧X.cell? ⟨w.heap.size+1,0,none⟩=some (ii (st:Int))∧X.cell? ⟨w.heap.size+1,1,none⟩=some (ii seq)∧X.cell? ⟨w.heap.size+1,2,none⟩=some (ii wall)∧X.cell? ⟨w.heap.size+1,3,none⟩=some (ii count)∧X.cell? ⟨w.heap.size+1,4,none⟩=some (ii d0)∧X.cell? ⟨w.heap.size+1,5,none⟩=some (ii d1)∧X.cell? ⟨w.heap.size+1,6,none⟩=some (ii d2)∧X.cell? ⟨w.heap.size+1,7,none⟩=some (ii d3)∧X.cell? ⟨w.heap.size+1,8,none⟩=some (.slice A ws.length c)) ((repeat' apply And.intro) <;> simp[go_sem, *]) (
           (go_at_call 81
            refine(HCL.out HRF.out _ (HB7.out.trans (yaH (B:=w7.heap.size) zB HB7.out.size))).mono ?_;rintro e wc ⟨A',c',rfl,hw1,hbc,bb,rfl,hbb⟩;obtain⟨x9,rfl⟩:=zad hbc;have HSX:=zac (HS7.out.below (show Below w7 w7 (zai w7.drew x9)from zB));obtain⟨wu,hrun,hmp,hturn⟩:=HSX.out.map.store (yac HWN.out zO) HFA.out HFB.out (.agg #[(st:Int),seq,wall,count,d0,d1,d2,d3,.slice (some ⟨bb,0,none⟩) ws.length c']);have HWT1:=zac (zbV.wait (m:=⟨⟨(st:Int),seq,wall,count,d0,d1,d2,d3,ws⟩,some ⟨bb,0,none⟩,c'⟩) HSX.out hturn.grown hmp (by simp[SiP.wait,HWT.out]) ⟨hw1,fun b o e=>by
             obtain⟨rfl,rfl⟩:b=bb∧o=0:=by simp at e;exact⟨e.1.symm,e.2.symm⟩
             refine⟨?_,fun e2=>?_⟩
             ·obtain⟨b2,o2,e3,hlt,_⟩:=hw1 0 ws[0] (yaa zO)
              obtain⟨rfl,rfl⟩:b2=b∧o2=0:=by simp at e3;exact⟨e3.1.symm,e3.2.symm⟩
              exact hlt
             ·have h1:=(HS7.out.lt e2).2
              have h2:w7.heap.size≤b:=hbb;omega⟩)
            have HBBG:=zac (show w.heap.size≤bb from by have h2:w7.heap.size≤bb:=hbb;have:=HB7.out.size;omega);have HFW:=zac ((zaO.of_below (zaW x mb lv sv) (show Below w7 w7 (zai w7.drew x9)from zB)).trans HWT1.out.2);have hgr:=hturn.grown;have hbl:∀ k,k<w7.heap.size→k≠mb→wu.heap[k]?=w7.heap[k]?:=fun k hk hne=>(hgr.block k zP (by simp;exact hne)).trans (show(zai w7.drew x9).heap[k]?=w7.heap[k]? from zak w7.drew x9 k hk)
            have u2:=(hbl _ (zae Q27.out) HMB.out.1).trans Q27.out;have u3:=(hbl _ (zae Q37.out) HMB.out.2.1).trans Q37.out;have u5:=(hbl _ (zae Q57.out) HMB.out.2.2).trans Q57.out;have v8:=HWT1.out.1.c8;have v0:=zaa u2 0;have y0:=zaa u5 0;have y1:=zaa u5 1;have z0:=zaa u3 0;have z1:=zaa u3 1;have z2:=zaa u3 2;have z3:=zaa u3 3;have z4:=zaa u3 4;have z5:=zaa u3 5;have z6:=zaa u3 6;have z7:=zaa u3 7;have z8:=zaa u3 8;simp only[zC,zD,zE]at v0 y0 y1 z0 z1 z2 z3 z4 z5 z6 z7 z8;clear hbc hmp hturn hw1 hbb hgr hbl u3 u5))
          all_goals
           have HU2:=zac u2;clear u2;have HSW:=zac HWT1.out.1;have HFRW:=zac ((zaO.of_below (zaW x mb lv sv) HB7.out).trans HFW.out);have HINV:=zac (HI.out.wait (m:=⟨⟨(st:Int),seq,wall,count,d0,d1,d2,d3,ws⟩,some ⟨bb,0,none⟩,c'⟩) HRF.out);have HWN1:Hid ((s.wait ⟨⟨(st:Int),seq,wall,count,d0,d1,d2,d3,ws⟩,some ⟨bb,0,none⟩,c'⟩).wn=s.wn+1):=zac (by simp[SiP.wait,HWT.out]);have HPOST:Hid (∀ (s1:SiP) (lv1:Value) (sv1:Nat→Value) (w':World),zbV w' B x s1 mb lv1 sv1→zaO wu w' (zaW x mb lv sv) (zaW x mb lv1 sv1)→s1=runP (s.wn+1) (s.wait ⟨⟨(st:Int),seq,wall,count,d0,d1,d2,d3,ws⟩,some ⟨bb,0,none⟩,c'⟩)→zdz B x mb s lv sv ⟨(st:Int),seq,wall,count,d0,d1,d2,d3,ws⟩ w (.returned .nilIface) w'):=zac (by
            intro s1 lv1 sv1 w' h1 h2 h3;unfold zdz;rw[HE0.out];exact⟨rfl,fun e=>absurd rfl e,fun _=>⟨some ⟨bb,0,none⟩,c',lv1,sv1,(fun b o e=>by simp at e;have:=HBBG.out;omega),by rw[←h3];exact h1,HFRW.out.trans h2⟩⟩)
           generalize hMM:(⟨⟨(st:Int),seq,wall,count,d0,d1,d2,d3,ws⟩,some ⟨bb,0,none⟩,c'⟩:MTx)=M at *;clear hMM v0 y0 y1 z0 z1 z2 z3 z4 z5 z6 z7 z8 v8 hrun;go_wp2_with fail;go_loopw [] (fun wr=>∃ (f:Nat) (s1:SiP) (lv1:Value) (sv1:Nat→Value),zbV wr B x s1 mb lv1 sv1∧zaO wu wr (zaW x mb lv sv) (zaW x mb lv1 sv1)∧Inv s1∧runP f s1=runP (s.wn+1) (s.wait M)∧s1.wn≤f) (fun wr=>mSize wr mb)
           case atStart=>exact⟨s.wn+1,s.wait M,lv,sv,HSW.out,zaO.of_below _ (yaf _ _),HINV.out,rfl,Nat.le_of_eq HWN1.out⟩
           case round=>
            obtain⟨f,s1,lv1,sv1,hs,hfr,hin,hru,hwf⟩:=hrel;have HS:=zac hs;have HF:=zac hfr;have HIN:=zac hin;have HRU:=zac hru;have q2:=(hfr.block _ (zae HU2.out) HID.out).trans HU2.out;have p0:=zaa q2 0;simp only[List.getElem?_toArray,List.getElem?_cons_zero]at p0;haveI:zaj (w.heap.size+1) wr:=⟨zae q2⟩;haveI:zaj (x+1) wr:=⟨hs.sto.lt⟩;have HP2r:=zac (show wr.cell? ⟨w,0,none⟩=some (.pointer (some ⟨x,0,none⟩))∧w.heap.size<wr.heap.size from ⟨p0,zae q2⟩);clear hs hfr hin hru q2;go_wp2_with fail;go_at_call 84;refine(zeN B x mb s1 lv1 sv1 wr HS.out HIN.out.ap).mono ?_;rintro e w8 ⟨A1,c1,rfl,hx1,hb8⟩;have HX1:=zac hx1;have HSB:=zac (HS.out.below hb8);have HP8:=zac (show w8.cell? ⟨w,0,none⟩=some (.pointer (some ⟨x,0,none⟩))from (hb8.cell (p:=⟨w,0,none⟩) HP2r.out.2).trans HP2r.out.1);obtain⟨x8,rfl⟩:=zad hb8;clear hx1 hb8;go_wp2_with fail;go_at_call 83;refine(ziX B x mb w.heap.size s1 lv1 sv1 A1 c1 (zbu s1 4) _ HSB.out HP8.out (yab HP2r.out.2 zS) HX1.out (yac (zcR _ _) zO)).mono ?_;rintro e w9 ⟨rfl,hb9⟩;have HSC:=zac (HSB.out.below hb9);obtain⟨x9,rfl⟩:=zad hb9;clear hb9;obtain⟨Al1,cl1,hlv1⟩:=zaP HS.out.row;have c7:=HS.out.c7;rw[hlv1]at c7;have HLV1:=zac hlv1;clear hlv1;rcases zh4 (zgL s1) (zbu s1 4) 0 with ⟨hn,hz⟩|⟨j,m,hn,hj,hz⟩
            ·rw[hz]
             have HN:=zac hn;clear hn hz;go_wp2_with fail;go_ret;exact HPOST.out s1 lv1 sv1 _ (HS.out.below zB) (HF.out.trans (zaO.of_below _ (show Below wr wr _ from zB))) (by rw[←HRU.out];exact(zbN (.inl HN.out) f).symm)
            ·rw[hz]
             have HN:=zac hn;have hj4:j<4:=by have:=(yao.1 hj).1;have:=zcR s1 4;omega
             have HJ:=zac hj;simp only[yaZ];have hdj:decide ((j:Int)<0)=false:=zU;clear hn hz hj;by_cases h2:200≤s1.log.length
             ·have hd6:decide ((200:Int)≤(s1.log.length:Int))=true:=zT
              have HH2:=zac h2;clear h2;go_wp2_with fail;go_ret;exact HPOST.out s1 lv1 sv1 _ (HS.out.below zB) (HF.out.trans (zaO.of_below _ (show Below wr wr _ from zB))) (by rw[←HRU.out];exact(zbN (.inr HH2.out) f).symm)
             ·have hd6:decide ((200:Int)≤(s1.log.length:Int))=false:=zU
              have HH2:=zac h2;clear h2;go_wp2_with fail;go_at_call 84;refine(zeN B x mb s1 lv1 sv1 _ HSC.out HIN.out.ap).mono ?_;rintro e w10 ⟨A2,c2',rfl,hx2,hb10⟩;have HSD:=zac (HSC.out.below hb10);obtain⟨b2,o2,rfl,hbl2,r0,r1,r2,r3,r4,r5,r6,r7,r8⟩:=hx2 j m HJ.out;obtain⟨x10,rfl⟩:=zad hb10;have hjl:j<(zbu s1 4).length:=(yao.1 HJ.out).1;have HNL:=zac (zcR s1 4);clear hx2 hb10;have HB10:=zac (show Below wr wr (zai (zai (zai wr x8) x9) x10)from zB);generalize zai (zai (zai wr x8) x9) x10=w10 at *;have HMR:=zac (HIN.out.has HN.out);have HMD:=zac (HSD.out.dat m (.inr ⟨_,_,(HIN.out.has HN.out).2.1⟩));have HCM:=zac (zar (HIN.out.has HN.out).1);obtain⟨⟨msite,mseq,mwall,mcount,md0,md1,md2,md3,mws⟩,mA,mc⟩:=m;simp only at r0 r1 r2 r3 r4 r5 r6 r7 r8;have p10:w10.cell? ⟨w,0,none⟩=some (.pointer (some ⟨x,0,none⟩)):=(HB10.out.cell (p:=⟨w,0,none⟩) HP2r.out.2).trans HP2r.out.1;have c8:=HSD.out.c8;haveI:zaj (b2+1) w10:=⟨hbl2⟩;haveI:zaj (x+1) w10:=⟨HSD.out.sto.lt⟩;haveI:zaj (w.heap.size+1) w10:=⟨yab HP2r.out.2 HB10.out.size⟩;have hjn:(j:Int)<((zbu s1 4).length:Int):=by omega
              have hj0:(0:Int)≤(j:Int):=by omega
              go_wp2_with fail;refine zb9 9 fun x11=>?_
              have hwe:Below w10 w10 (zai (w10.alloc (.cells #[msite,mseq,mwall,mcount,md0,md1,md2,md3,.slice mA mws.length mc] 44)) x11):=zB;have HSE:=zac (HSD.out.below hwe);have HWE:=zac hwe;have hmb10:=HSD.out.map.lt;have qb:(zai (w10.alloc (.cells #[msite,mseq,mwall,mcount,md0,md1,md2,md3,.slice mA mws.length mc] 44)) x11).heap[w10.heap.size]?=some (.cells #[msite,mseq,mwall,mcount,md0,md1,md2,md3,.slice mA mws.length mc] 44):=(zak _ x11 _ zS).trans (zag rfl _);have pe:(zai (w10.alloc (.cells #[msite,mseq,mwall,mcount,md0,md1,md2,md3,.slice mA mws.length mc] 44)) x11).cell? ⟨w,0,none⟩=some (.pointer (some ⟨x,0,none⟩)):=(hwe.cell (p:=⟨w,0,none⟩) (yab HP2r.out.2 HB10.out.size)).trans p10;have hlw10:w.heap.size<w10.heap.size:=yab HP2r.out.2 HB10.out.size;clear hwe r0 r1 r2 r3 r4 r5 r6 r7 r8 p10 c8;generalize zai (w10.alloc (.cells #[msite,mseq,mwall,mcount,md0,md1,md2,md3,.slice mA mws.length mc] 44)) x11=we at *;obtain⟨hm1,hm2,hm3⟩:=HMR.out;obtain⟨hmp1,hmp2,hmp3,hmp4⟩:=HCM.out
              try simp only at hm1 hm2 hm3 hmp1 hmp2 hmp3 hmp4
              have hwfa:zcr msite:=by unfold zcr;omega
              have hwfb:zcr mseq:=by unfold zcr;omega
              have HPOS:=zac (HSE.out.map.pos (a:=msite) (b:=mseq) hwfa hwfb (by simp[hm2]));obtain⟨wd,hrun,hmp,hturn⟩:=HSE.out.map.drop hwfa hwfb 0;have HUN:=zac (HSE.out.unwait (m:=⟨⟨msite,mseq,mwall,mcount,md0,md1,md2,md3,mws⟩,mA,mc⟩) hturn.grown hmp (by simp[SiP.unwait]));have hgr:=hturn.grown;have hwl:=HWE.out.size;have hbl:∀ k,k<we.heap.size→k≠mb→wd.heap[k]?=we.heap[k]?:=fun k hk hne=>hgr.block k hk (by simp;exact hne)
              have qd:=(hbl w10.heap.size (zae qb) zO).trans qb;have pd0:wd.cell? ⟨w,0,none⟩=some (.pointer (some ⟨x,0,none⟩)):=(yam (hbl w.heap.size zO HMB.out.1)).trans pe;have HMD2:=zac (show zaN wd mA mws∧∀ b o,mA=some ⟨b,o,none⟩→b<wd.heap.size∧¬zaW x mb lv1 sv1 b from ⟨HMD.out.1.keep fun b o e=>(hbl b (by have:=(HMD.out.2 b o e).1;omega) (fun e2=>(HMD.out.2 b o e).2 (.inr (.inl e2)))).trans (HWE.out.block b (HMD.out.2 b o e).1),fun b o e=>⟨by have:=(HMD.out.2 b o e).1;have:=hgr.size;omega,(HMD.out.2 b o e).2⟩⟩);have HAPP:=zac (zey B x mb (SiP.unwait s1 ⟨⟨msite,mseq,mwall,mcount,md0,md1,md2,md3,mws⟩,mA,mc⟩) lv1 sv1 ⟨⟨msite,mseq,mwall,mcount,md0,md1,md2,md3,mws⟩,mA,mc⟩ (5*s1.log.length) wd HUN.out.1 HMD2.out hmp1 HIN.out.fit (by have:=HIN.out.log;omega) (by have:=HIN.out.log;show s1.log.length≤_;omega) (by show mws.length≤_;omega));have HINA:=zac (HIN.out.apply (m:=⟨⟨msite,mseq,mwall,mcount,md0,md1,md2,md3,mws⟩,mA,mc⟩) hm1 HH2.out);have HWNA:Hid ((zbo (SiP.unwait s1 ⟨⟨msite,mseq,mwall,mcount,md0,md1,md2,md3,mws⟩,mA,mc⟩) ⟨⟨msite,mseq,mwall,mcount,md0,md1,md2,md3,mws⟩,mA,mc⟩).wn=s1.wn-1):=zac (by rw[zgD];simp[SiP.unwait,hm2]);have HFRD:=zac ((HF.out.trans (zaO.of_below _ (HB10.out.trans (HWE.out.mono HB10.out.size)))).trans HUN.out.2);have dx:=HUN.out.1.sto.lt;have d0c:=zaa qd 0;have d1c:=zaa qd 1;have d2c:=zaa qd 2;have d3c:=zaa qd 3;have d4c:=zaa qd 4;have d5c:=zaa qd 5;have d6c:=zaa qd 6;have d7c:=zaa qd 7;have d8c:=zaa qd 8;simp only[zC,zD,zE]at d0c d1c d2c d3c d4c d5c d6c d7c d8c;unfold MTx.val at HAPP
              try simp only at HAPP
              clear hmp hturn hgr hbl qb pe hm1 hm2 hm3 hmp1 hmp2 hmp3 hmp4 hwfa hwfb hwl hmb10;go_wp2_with fail;go_at_call 80;refine HAPP.out.mono ?_;rintro e wz ⟨rfl,lv2,sv2,hsz,hfz⟩;have HSZ2:=zac hsz;have HFZ:=zac hfz;clear hsz hfz hrun;go_wp2_with fail;go_roundw
              case rel=>
               obtain⟨f',rfl⟩:∃ f',f=f'+1:=⟨f-1,by have:=HPOS.out;omega⟩;refine⟨f',_,lv2,sv2,HSZ2.out,HFRD.out.trans HFZ.out,HINA.out,?_,by rw[HWNA.out];have:=HPOS.out;omega⟩;rw[←HRU.out];exact(zde HN.out HH2.out).symm
              case measure=>
               rw[HSZ2.out.map.msize,HS.out.map.msize,HWNA.out];have:=HPOS.out;omega
        ·have hd5:(seq != ap+1)=true:=by simpa using hnx
         have HNX:Hid (seq≠s.at (st:Int)+1):=zac (by rw[HAP.out];exact hnx);clear hnx;go_wp2_with fail;refine zaz fun x7=>?_
         go_wp2_with fail;go_ret;exact HDN.out 12 _ zI (by rw[HTE.out,yad HID2.out,yad HLE.out,yaj (.inr ⟨H40.out,.inl HNX.out⟩)]) (HB6.out.trans (yaH (B:=w6.heap.size) zB HB6.out.size))
       ·have hd4:decide ((40:Int)≤(s.wn:Int))=false:=zU
        have HE0:Hid (takeE s ⟨(st:Int),seq,wall,count,d0,d1,d2,d3,ws⟩=0):=zac (by rw[HTE.out,yad HID2.out,yad HLE.out,yad (fun e=>e.elim H200.out (fun e=>h40 e.1))]);clear h40;go_wp2_with fail;refine zaz fun x7=>?_
        clear p0 k0 k1 c0 c8 c7 e0 e1 e2 e3 e4 e5 e6 e7 e8;clear ca c1 c2 c3 c4 hlen;have hb7:Below w6 w6 (zai w6 x7):=zB;have HS7:=zac (HS6.out.below hb7);have HB7:=zac (HB6.out.trans (hb7.mono HB6.out.size));have Q27:=zac ((hb7.block _ (zae Q26.out)).trans Q26.out);have Q37:=zac ((hb7.block _ (zae Q36.out)).trans Q36.out);have Q57:=zac ((hb7.block _ (zae Q56.out)).trans Q56.out);clear hb7;generalize zai w6 x7=w7 at *;have hx7:=HS7.out.sto.lt;haveI:zaj (x+1) w7:=⟨hx7⟩;haveI:zaj (w.heap.size+1) w7:=⟨zae Q27.out⟩;haveI:zaj (w.heap.size+1+1) w7:=⟨zae Q37.out⟩;haveI:zaj (w.heap.size+1+1+1) w7:=⟨zae Q57.out⟩;have c0:=HS7.out.c0;have c8:=HS7.out.c8;have c7:=HS7.out.c7;have p0:=zaa Q27.out 0;have k0:=zaa Q57.out 0;have k1:=zaa Q57.out 1;have e0:=zaa Q37.out 0;have e1:=zaa Q37.out 1;have e2:=zaa Q37.out 2;have e3:=zaa Q37.out 3;have e4:=zaa Q37.out 4;have e5:=zaa Q37.out 5;have e6:=zaa Q37.out 6;have e7:=zaa Q37.out 7;have e8:=zaa Q37.out 8;simp only[zC,zD,zE]at p0 k0 k1 e0 e1 e2 e3 e4 e5 e6 e7 e8;have HMP:=zac HS7.out.map;have HW7:=zac (HB7.out);go_wp2_with fail;go_region_held3 (fun X:World=>X.cell? ⟨w,0,none⟩=some (.pointer (some ⟨x,0,none⟩))∧X.cell? ⟨x,8,none⟩=some (.map (some mb))∧X.cell? ⟨w.heap.size+1+1,0,none⟩=some (ii (st:Int))∧X.cell? ⟨w.heap.size+1+1,1,none⟩=some (ii seq)∧X.cell? ⟨w.heap.size+1,0,none⟩=some (ii (st:Int))∧X.cell? ⟨w.heap.size+1,1,none⟩=some (ii seq)∧X.cell? ⟨w.heap.size+1,2,none⟩=some (ii wall)∧X.cell? ⟨w.heap.size+1,3,none⟩=some (ii count)∧X.cell? ⟨w.heap.size+1,4,none⟩=some (ii d0)∧X.cell? ⟨w.heap.size+1,5,none⟩=some (ii d1)∧X.cell? ⟨w.heap.size+1,6,none⟩=some (ii d2)∧X.cell? ⟨w.heap.size+1,7,none⟩=some (ii d3)∧X.cell? ⟨w.heap.size+1,8,none⟩=some (.slice A ws.length c)) ((repeat' apply And.intro) <;> simp[go_sem, *]) (
         (go_at_call 81
          refine(HCL.out HRF.out _ (HB7.out.trans (yaH (B:=w7.heap.size) zB HB7.out.size))).mono ?_;rintro e wc ⟨A',c',rfl,hw1,hbc,bb,rfl,hbb⟩;obtain⟨x9,rfl⟩:=zad hbc;have HSX:=zac (HS7.out.below (show Below w7 w7 (zai w7.drew x9)from zB));obtain⟨wu,hrun,hmp,hturn⟩:=HSX.out.map.store (yac HWN.out zO) HFA.out HFB.out (.agg #[(st:Int),seq,wall,count,d0,d1,d2,d3,.slice (some ⟨bb,0,none⟩) ws.length c']);have HWT1:=zac (zbV.wait (m:=⟨⟨(st:Int),seq,wall,count,d0,d1,d2,d3,ws⟩,some ⟨bb,0,none⟩,c'⟩) HSX.out hturn.grown hmp (by simp[SiP.wait,HWT.out]) ⟨hw1,fun b o e=>by
           obtain⟨rfl,rfl⟩:b=bb∧o=0:=by simp at e;exact⟨e.1.symm,e.2.symm⟩
           refine⟨?_,fun e2=>?_⟩
           ·obtain⟨b2,o2,e3,hlt,_⟩:=hw1 0 ws[0] (yaa zO)
            obtain⟨rfl,rfl⟩:b2=b∧o2=0:=by simp at e3;exact⟨e3.1.symm,e3.2.symm⟩
            exact hlt
           ·have h1:=(HS7.out.lt e2).2
            have h2:w7.heap.size≤b:=hbb;omega⟩)
          have HBBG:=zac (show w.heap.size≤bb from by have h2:w7.heap.size≤bb:=hbb;have:=HB7.out.size;omega);have HFW:=zac ((zaO.of_below (zaW x mb lv sv) (show Below w7 w7 (zai w7.drew x9)from zB)).trans HWT1.out.2);have hgr:=hturn.grown;have hbl:∀ k,k<w7.heap.size→k≠mb→wu.heap[k]?=w7.heap[k]?:=fun k hk hne=>(hgr.block k zP (by simp;exact hne)).trans (show(zai w7.drew x9).heap[k]?=w7.heap[k]? from zak w7.drew x9 k hk)
          have u2:=(hbl _ (zae Q27.out) HMB.out.1).trans Q27.out;have u3:=(hbl _ (zae Q37.out) HMB.out.2.1).trans Q37.out;have u5:=(hbl _ (zae Q57.out) HMB.out.2.2).trans Q57.out;have v8:=HWT1.out.1.c8;have v0:=zaa u2 0;have y0:=zaa u5 0;have y1:=zaa u5 1;have z0:=zaa u3 0;have z1:=zaa u3 1;have z2:=zaa u3 2;have z3:=zaa u3 3;have z4:=zaa u3 4;have z5:=zaa u3 5;have z6:=zaa u3 6;have z7:=zaa u3 7;have z8:=zaa u3 8;simp only[zC,zD,zE]at v0 y0 y1 z0 z1 z2 z3 z4 z5 z6 z7 z8;clear hbc hmp hturn hw1 hbb hgr hbl u3 u5))
        all_goals
         have HU2:=zac u2;clear u2;have HSW:=zac HWT1.out.1;have HFRW:=zac ((zaO.of_below (zaW x mb lv sv) HB7.out).trans HFW.out);have HINV:=zac (HI.out.wait (m:=⟨⟨(st:Int),seq,wall,count,d0,d1,d2,d3,ws⟩,some ⟨bb,0,none⟩,c'⟩) HRF.out);have HWN1:Hid ((s.wait ⟨⟨(st:Int),seq,wall,count,d0,d1,d2,d3,ws⟩,some ⟨bb,0,none⟩,c'⟩).wn=s.wn+1):=zac (by simp[SiP.wait,HWT.out]);have HPOST:Hid (∀ (s1:SiP) (lv1:Value) (sv1:Nat→Value) (w':World),zbV w' B x s1 mb lv1 sv1→zaO wu w' (zaW x mb lv sv) (zaW x mb lv1 sv1)→s1=runP (s.wn+1) (s.wait ⟨⟨(st:Int),seq,wall,count,d0,d1,d2,d3,ws⟩,some ⟨bb,0,none⟩,c'⟩)→zdz B x mb s lv sv ⟨(st:Int),seq,wall,count,d0,d1,d2,d3,ws⟩ w (.returned .nilIface) w'):=zac (by
          intro s1 lv1 sv1 w' h1 h2 h3;unfold zdz;rw[HE0.out];exact⟨rfl,fun e=>absurd rfl e,fun _=>⟨some ⟨bb,0,none⟩,c',lv1,sv1,(fun b o e=>by simp at e;have:=HBBG.out;omega),by rw[←h3];exact h1,HFRW.out.trans h2⟩⟩)
         generalize hMM:(⟨⟨(st:Int),seq,wall,count,d0,d1,d2,d3,ws⟩,some ⟨bb,0,none⟩,c'⟩:MTx)=M at *;clear hMM v0 y0 y1 z0 z1 z2 z3 z4 z5 z6 z7 z8 v8 hrun;go_wp2_with fail;go_loopw [] (fun wr=>∃ (f:Nat) (s1:SiP) (lv1:Value) (sv1:Nat→Value),zbV wr B x s1 mb lv1 sv1∧zaO wu wr (zaW x mb lv sv) (zaW x mb lv1 sv1)∧Inv s1∧runP f s1=runP (s.wn+1) (s.wait M)∧s1.wn≤f) (fun wr=>mSize wr mb)
         case atStart=>exact⟨s.wn+1,s.wait M,lv,sv,HSW.out,zaO.of_below _ (yaf _ _),HINV.out,rfl,Nat.le_of_eq HWN1.out⟩
         case round=>
          obtain⟨f,s1,lv1,sv1,hs,hfr,hin,hru,hwf⟩:=hrel;have HS:=zac hs;have HF:=zac hfr;have HIN:=zac hin;have HRU:=zac hru;have q2:=(hfr.block _ (zae HU2.out) HID.out).trans HU2.out;have p0:=zaa q2 0;simp only[List.getElem?_toArray,List.getElem?_cons_zero]at p0;haveI:zaj (w.heap.size+1) wr:=⟨zae q2⟩;haveI:zaj (x+1) wr:=⟨hs.sto.lt⟩;have HP2r:=zac (show wr.cell? ⟨w,0,none⟩=some (.pointer (some ⟨x,0,none⟩))∧w.heap.size<wr.heap.size from ⟨p0,zae q2⟩);clear hs hfr hin hru q2;go_wp2_with fail;go_at_call 84;refine(zeN B x mb s1 lv1 sv1 wr HS.out HIN.out.ap).mono ?_;rintro e w8 ⟨A1,c1,rfl,hx1,hb8⟩;have HX1:=zac hx1;have HSB:=zac (HS.out.below hb8);have HP8:=zac (show w8.cell? ⟨w,0,none⟩=some (.pointer (some ⟨x,0,none⟩))from (hb8.cell (p:=⟨w,0,none⟩) HP2r.out.2).trans HP2r.out.1);obtain⟨x8,rfl⟩:=zad hb8;clear hx1 hb8;go_wp2_with fail;go_at_call 83;refine(ziX B x mb w.heap.size s1 lv1 sv1 A1 c1 (zbu s1 4) _ HSB.out HP8.out (yab HP2r.out.2 zS) HX1.out (yac (zcR _ _) zO)).mono ?_;rintro e w9 ⟨rfl,hb9⟩;have HSC:=zac (HSB.out.below hb9);obtain⟨x9,rfl⟩:=zad hb9;clear hb9;obtain⟨Al1,cl1,hlv1⟩:=zaP HS.out.row;have c7:=HS.out.c7;rw[hlv1]at c7;have HLV1:=zac hlv1;clear hlv1;rcases zh4 (zgL s1) (zbu s1 4) 0 with ⟨hn,hz⟩|⟨j,m,hn,hj,hz⟩
          ·rw[hz]
           have HN:=zac hn;clear hn hz;go_wp2_with fail;go_ret;exact HPOST.out s1 lv1 sv1 _ (HS.out.below zB) (HF.out.trans (zaO.of_below _ (show Below wr wr _ from zB))) (by rw[←HRU.out];exact(zbN (.inl HN.out) f).symm)
          ·rw[hz]
           have HN:=zac hn;have hj4:j<4:=by have:=(yao.1 hj).1;have:=zcR s1 4;omega
           have HJ:=zac hj;simp only[yaZ];have hdj:decide ((j:Int)<0)=false:=zU;clear hn hz hj;by_cases h2:200≤s1.log.length
           ·have hd6:decide ((200:Int)≤(s1.log.length:Int))=true:=zT
            have HH2:=zac h2;clear h2;go_wp2_with fail;go_ret;exact HPOST.out s1 lv1 sv1 _ (HS.out.below zB) (HF.out.trans (zaO.of_below _ (show Below wr wr _ from zB))) (by rw[←HRU.out];exact(zbN (.inr HH2.out) f).symm)
           ·have hd6:decide ((200:Int)≤(s1.log.length:Int))=false:=zU
            have HH2:=zac h2;clear h2;go_wp2_with fail;go_at_call 84;refine(zeN B x mb s1 lv1 sv1 _ HSC.out HIN.out.ap).mono ?_;rintro e w10 ⟨A2,c2',rfl,hx2,hb10⟩;have HSD:=zac (HSC.out.below hb10);obtain⟨b2,o2,rfl,hbl2,r0,r1,r2,r3,r4,r5,r6,r7,r8⟩:=hx2 j m HJ.out;obtain⟨x10,rfl⟩:=zad hb10;have hjl:j<(zbu s1 4).length:=(yao.1 HJ.out).1;have HNL:=zac (zcR s1 4);clear hx2 hb10;have HB10:=zac (show Below wr wr (zai (zai (zai wr x8) x9) x10)from zB);generalize zai (zai (zai wr x8) x9) x10=w10 at *;have HMR:=zac (HIN.out.has HN.out);have HMD:=zac (HSD.out.dat m (.inr ⟨_,_,(HIN.out.has HN.out).2.1⟩));have HCM:=zac (zar (HIN.out.has HN.out).1);obtain⟨⟨msite,mseq,mwall,mcount,md0,md1,md2,md3,mws⟩,mA,mc⟩:=m;simp only at r0 r1 r2 r3 r4 r5 r6 r7 r8;have p10:w10.cell? ⟨w,0,none⟩=some (.pointer (some ⟨x,0,none⟩)):=(HB10.out.cell (p:=⟨w,0,none⟩) HP2r.out.2).trans HP2r.out.1;have c8:=HSD.out.c8;haveI:zaj (b2+1) w10:=⟨hbl2⟩;haveI:zaj (x+1) w10:=⟨HSD.out.sto.lt⟩;haveI:zaj (w.heap.size+1) w10:=⟨yab HP2r.out.2 HB10.out.size⟩;have hjn:(j:Int)<((zbu s1 4).length:Int):=by omega
            have hj0:(0:Int)≤(j:Int):=by omega
            go_wp2_with fail;refine zb9 9 fun x11=>?_
            have hwe:Below w10 w10 (zai (w10.alloc (.cells #[msite,mseq,mwall,mcount,md0,md1,md2,md3,.slice mA mws.length mc] 44)) x11):=zB;have HSE:=zac (HSD.out.below hwe);have HWE:=zac hwe;have hmb10:=HSD.out.map.lt;have qb:(zai (w10.alloc (.cells #[msite,mseq,mwall,mcount,md0,md1,md2,md3,.slice mA mws.length mc] 44)) x11).heap[w10.heap.size]?=some (.cells #[msite,mseq,mwall,mcount,md0,md1,md2,md3,.slice mA mws.length mc] 44):=(zak _ x11 _ zS).trans (zag rfl _);have pe:(zai (w10.alloc (.cells #[msite,mseq,mwall,mcount,md0,md1,md2,md3,.slice mA mws.length mc] 44)) x11).cell? ⟨w,0,none⟩=some (.pointer (some ⟨x,0,none⟩)):=(hwe.cell (p:=⟨w,0,none⟩) (yab HP2r.out.2 HB10.out.size)).trans p10;have hlw10:w.heap.size<w10.heap.size:=yab HP2r.out.2 HB10.out.size;clear hwe r0 r1 r2 r3 r4 r5 r6 r7 r8 p10 c8;generalize zai (w10.alloc (.cells #[msite,mseq,mwall,mcount,md0,md1,md2,md3,.slice mA mws.length mc] 44)) x11=we at *;obtain⟨hm1,hm2,hm3⟩:=HMR.out;obtain⟨hmp1,hmp2,hmp3,hmp4⟩:=HCM.out
            try simp only at hm1 hm2 hm3 hmp1 hmp2 hmp3 hmp4
            have hwfa:zcr msite:=by unfold zcr;omega
            have hwfb:zcr mseq:=by unfold zcr;omega
            have HPOS:=zac (HSE.out.map.pos (a:=msite) (b:=mseq) hwfa hwfb (by simp[hm2]));obtain⟨wd,hrun,hmp,hturn⟩:=HSE.out.map.drop hwfa hwfb 0;have HUN:=zac (HSE.out.unwait (m:=⟨⟨msite,mseq,mwall,mcount,md0,md1,md2,md3,mws⟩,mA,mc⟩) hturn.grown hmp (by simp[SiP.unwait]));have hgr:=hturn.grown;have hwl:=HWE.out.size;have hbl:∀ k,k<we.heap.size→k≠mb→wd.heap[k]?=we.heap[k]?:=fun k hk hne=>hgr.block k hk (by simp;exact hne)
            have qd:=(hbl w10.heap.size (zae qb) zO).trans qb;have pd0:wd.cell? ⟨w,0,none⟩=some (.pointer (some ⟨x,0,none⟩)):=(yam (hbl w.heap.size zO HMB.out.1)).trans pe;have HMD2:=zac (show zaN wd mA mws∧∀ b o,mA=some ⟨b,o,none⟩→b<wd.heap.size∧¬zaW x mb lv1 sv1 b from ⟨HMD.out.1.keep fun b o e=>(hbl b (by have:=(HMD.out.2 b o e).1;omega) (fun e2=>(HMD.out.2 b o e).2 (.inr (.inl e2)))).trans (HWE.out.block b (HMD.out.2 b o e).1),fun b o e=>⟨by have:=(HMD.out.2 b o e).1;have:=hgr.size;omega,(HMD.out.2 b o e).2⟩⟩);have HAPP:=zac (zey B x mb (SiP.unwait s1 ⟨⟨msite,mseq,mwall,mcount,md0,md1,md2,md3,mws⟩,mA,mc⟩) lv1 sv1 ⟨⟨msite,mseq,mwall,mcount,md0,md1,md2,md3,mws⟩,mA,mc⟩ (5*s1.log.length) wd HUN.out.1 HMD2.out hmp1 HIN.out.fit (by have:=HIN.out.log;omega) (by have:=HIN.out.log;show s1.log.length≤_;omega) (by show mws.length≤_;omega));have HINA:=zac (HIN.out.apply (m:=⟨⟨msite,mseq,mwall,mcount,md0,md1,md2,md3,mws⟩,mA,mc⟩) hm1 HH2.out);have HWNA:Hid ((zbo (SiP.unwait s1 ⟨⟨msite,mseq,mwall,mcount,md0,md1,md2,md3,mws⟩,mA,mc⟩) ⟨⟨msite,mseq,mwall,mcount,md0,md1,md2,md3,mws⟩,mA,mc⟩).wn=s1.wn-1):=zac (by rw[zgD];simp[SiP.unwait,hm2]);have HFRD:=zac ((HF.out.trans (zaO.of_below _ (HB10.out.trans (HWE.out.mono HB10.out.size)))).trans HUN.out.2);have dx:=HUN.out.1.sto.lt;have d0c:=zaa qd 0;have d1c:=zaa qd 1;have d2c:=zaa qd 2;have d3c:=zaa qd 3;have d4c:=zaa qd 4;have d5c:=zaa qd 5;have d6c:=zaa qd 6;have d7c:=zaa qd 7;have d8c:=zaa qd 8;simp only[zC,zD,zE]at d0c d1c d2c d3c d4c d5c d6c d7c d8c;unfold MTx.val at HAPP
            try simp only at HAPP
            clear hmp hturn hgr hbl qb pe hm1 hm2 hm3 hmp1 hmp2 hmp3 hmp4 hwfa hwfb hwl hmb10;go_wp2_with fail;go_at_call 80;refine HAPP.out.mono ?_;rintro e wz ⟨rfl,lv2,sv2,hsz,hfz⟩;have HSZ2:=zac hsz;have HFZ:=zac hfz;clear hsz hfz hrun;go_wp2_with fail;go_roundw
            case rel=>
             obtain⟨f',rfl⟩:∃ f',f=f'+1:=⟨f-1,by have:=HPOS.out;omega⟩;refine⟨f',_,lv2,sv2,HSZ2.out,HFRD.out.trans HFZ.out,HINA.out,?_,by rw[HWNA.out];have:=HPOS.out;omega⟩;rw[←HRU.out];exact(zde HN.out HH2.out).symm
            case measure=>
             rw[HSZ2.out.map.msize,HS.out.map.msize,HWNA.out];have:=HPOS.out;omega
theorem zdr {ops:Array Oper}{o:Oper}{a:Act}{w:World}{K:Act→World→Prop}{Q:Exit→Act→World→Prop}{E:Prop}(hgd:o.guard=none) (x:Operand) (ho:o.op=.buildSlice 35 1 #[(0,x)]) (v0 v1 v2 v3 v4 v5 v6 v7 v8:Value) (hx:a.eval x=.agg #[v0,v1,v2,v3,v4,v5,v6,v7,v8])
  (h:K (a.put o.dst (.slice (some ⟨w,0,none⟩) 1 1)) (w.alloc (.cells #[v0,v1,v2,v3,v4,v5,v6,v7,v8] 44))):if Region.wanted o (yielded ops a.tmps)=true then Oper.wp prog o a w K Q else E:=by
 have hw:Region.wanted o (yielded ops a.tmps)=true:=by simp[Region.wanted,hgd]
 rw[yaj hw];obtain⟨i0,hi0,hz0,hz1,hz2⟩:=info40;refine wp_buildSlice 35 44 1 #[(0,x)] ho #[v0,v1,v2,v3,v4,v5,v6,v7,v8] i0 txZero underlying35 hi0 hz0 (by rw[hz1];decide) (by rw[hz1];decide) ?_ h;rw[hz1];simp only[ybP,ybn,ybL,hx]
 kernel_rfl
structure RLp (w wr:World) (B y:Nat) (s:RsP) (M:MTx) (own:Nat→Prop) (F:RSi) (s1:RsP) (lv1:Value) (wA1:Option Addr) (wc1:Nat) (av1:Value):Prop where
 at_:zcp wr B y s1 lv1 wA1 wc1 av1
 fr:zaO w wr own (za2 y lv1 av1)
 inv:zlF s1
 run:rRun s1.ws.length s1.r=F
 len:s1.ws.length≤901
 has:∀ m,s1.has m→s.has m∨m=M
 new:∀ b o,wA1=some ⟨b,o,none⟩→w.heap.size≤b
section
variable {w wr wr':World}{B y:Nat}{s:RsP}{M:MTx}{own:Nat→Prop}{F:RSi}{s1:RsP}{lv1:Value}{wA1:Option Addr}{wc1:Nat}{av1:Value}
theorem RLp.below (h:RLp w wr B y s M own F s1 lv1 wA1 wc1 av1) (hb:Below wr wr wr'):RLp w wr' B y s M own F s1 lv1 wA1 wc1 av1:=
 ⟨h.at_.below hb,h.fr.trans (zaO.of_below _ hb),h.inv,h.run,h.len,h.has,h.new⟩
theorem RLp.stop (h:RLp w wr B y s M own F s1 lv1 wA1 wc1 av1) (hs:200≤s1.log.length∨ze7 s1.r<0):s1.r=F:=by
 rw[←h.run];exact(zf7 (hs.imp (fun e=>by simpa[RsP.r]using e) id) _).symm
theorem RLp.next (h:RLp w wr B y s M own F s1 lv1 wA1 wc1 av1){k:Nat}{m:MTx}(hl:s1.log.length<200) (hb:ze7 s1.r=(k:Int)) (hk:s1.ws[k]?=some m):
  rRun (zbE (zdS s1 k) m).ws.length (zbE (zdS s1 k) m).r=F∧(zbE (zdS s1 k) m).ws.length+1=s1.ws.length:=by
 obtain⟨hlt,hm⟩:=yao.1 hk;have hr:=h.inv.rt m (by rw[←hm];exact yaw hlt);have e1:(zbE (zdS s1 k) m).ws.length+1=s1.ws.length:=by rw[zgC];exact zm1 hlt
 refine⟨?_,e1⟩;rw[zeW _ _ (zar hr).1,dropR_r,←h.run,←e1];exact(ziD (by simpa[RsP.r]using hl) hb (by unfold RsP.r;rw[yby,hk];rfl) _).symm
theorem RLp.drop (h:RLp w wr B y s M own F s1 lv1 wA1 wc1 av1){k:Nat}{A:Option Addr}{c:Nat}(hb:Below wr wr wr') (ho:wr'.ownsRow wr.heap.size 44 9 (.slice A (s1.ws.take k++s1.ws.drop (k+1)).length c) (s1.ws.take k++s1.ws.drop (k+1)).length ((s1.ws.take k++s1.ws.drop (k+1)).flatMap MTx.cells)):
  zcp (wr'.setCell ⟨y,8,none⟩ (.slice A (s1.ws.take k++s1.ws.drop (k+1)).length c)) B y (zdS s1 k) lv1 A c av1∧zaO w (wr'.setCell ⟨y,8,none⟩ (.slice A (s1.ws.take k++s1.ws.drop (k+1)).length c)) own (za2 y lv1 av1)∧(∀ b o,A=some ⟨b,o,none⟩→w.heap.size≤b)∧∀ m,s1.has m→zaN (wr'.setCell ⟨y,8,none⟩ (.slice A (s1.ws.take k++s1.ws.drop (k+1)).length c)) m.A m.t.ws∧∀ b o,m.A=some ⟨b,o,none⟩→b<(wr'.setCell ⟨y,8,none⟩ (.slice A (s1.ws.take k++s1.ws.drop (k+1)).length c)).heap.size∧¬za2 y lv1 av1 b:=by
 have h2:=h.at_.below hb;have hA:∀ b o,A=some ⟨b,o,none⟩→wr.heap.size≤b∧b<wr'.heap.size:=fun b o e=>zao ho (show(Value.slice A (s1.ws.take k++s1.ws.drop (k+1)).length c).ownBlock=some b by rw[e];rfl)
 refine⟨h2.waits (zgd ho) (zhV ho) (fun b o e=>⟨(hA b o e).2,fun e2=>by have:=(h.at_.lt e2).2;have:=(hA b o e).1;omega⟩) (fun m hm=>h2.dat m (.inr (zeR hm))),(h.fr.trans (zaO.of_below _ hb)).trans (zaO.setR _),fun b o e=>?_,fun m hm=>?_⟩
 ·have:=(hA b o e).1
  have:=h.fr.size;omega
 ·obtain⟨h3,h4⟩:=h2.dat m hm
  have hs:(wr'.setCell ⟨y,8,none⟩ (.slice A (s1.ws.take k++s1.ws.drop (k+1)).length c)).heap.size=wr'.heap.size:=by simp[World.setCell]
  exact⟨h3.keep fun b o e=>(zan wr' y 8 _).block b (h4 b o e).1 (by simp;exact fun e2=>(h4 b o e).2 (.inl e2)),fun b o e=>⟨by rw[hs];exact(h4 b o e).1,(h4 b o e).2⟩⟩
end
def wLen (w:World) (y:Nat):Nat:=match w.cell? ⟨y,8,none⟩with|some (.slice _ n _)=>n|_=>0
theorem zcp.wLen {w:World}{B y wc:Nat}{s:RsP}{lv av:Value}{wA:Option Addr}(h:zcp w B y s lv wA wc av):wLen w y=s.ws.length:=by
 unfold Go.Proofs.YtbopfhbeegkkaabGreatDoor.wLen;rw[h.c8]
section
variable {P:Program}
def zes (P:Program) (ops:Array Oper) (Q:Exit→Act→World→Prop) (tl:List Oper):Exit→Act→World→Prop
 | .normal,a,w=>wpList P ops Q tl a w
 | .panic c,a,w=>Q (.panic c) a w
 | .outgrown,a,w=>Q .outgrown a w
 | _,_,_=>False
theorem zes.normal {ops:Array Oper}{Q:Exit→Act→World→Prop}{tl:List Oper}{a:Act}{w:World}(h:wpList P ops Q tl a w):zes P ops Q tl .normal a w:=h
def splitB (md:Region.Mode) (ops:Array Oper) (n:Nat):Bool:=
 decide (n<ops.size)&&Region.sinkB md ops n&&Region.chainB md ops n&&
 ((List.range n).all fun i=>match ops[i]? with
   | some o=>o.guard.isNone&&(o.after.all fun e=>decide (e.on<i))
   | none=>false)&&
 Region.seqB md ops (ops.size-n) n (Array.replicate n true++Array.replicate (ops.size-n) false)
theorem zgZ {md:Region.Mode}{ops:Array Oper}{Q:Exit→Act→World→Prop}:∀ (f:Nat) (listed:Array Bool) (a:Act) (w:World),wpAny P md ops Q f listed a w→wpAny P md ops Q (f+1) listed a w
 | 0,_,_,_,h=>⟨fun _=>h.2,by rw[h.1];simp⟩
 | f+1,_,_,_,h=>⟨h.1,fun i hi=>wpOp_mono (fun a' w' h'=>zgZ f _ a' w' h') (h.2 i hi)⟩
theorem zfX {md:Region.Mode}{ops:Array Oper}{Q:Exit→Act→World→Prop}(listed:Array Bool) (a:Act) (w:World) (f:Nat) (h:wpAny P md ops Q f listed a w):∀ g,wpAny P md ops Q (g+f) listed a w
 | 0=>by rw[yaZ];exact h
 | g+1=>by rw[show g+1+f=(g+f)+1 by omega];exact zgZ _ _ _ _ (zfX listed a w f h g)
theorem zkv {ops:Array Oper}{Q:Exit→Act→World→Prop}{tl:List Oper}{i:Nat}{o:Oper}{oph:Array Oper}(h0:ops[i]?=some o) (h1:oph[i]?=some o) (hg:o.guard=none)
  {K K':Act→World→Prop}{a:Act}{w:World}(hK:∀ a w,K a w→K' a w) (h:wpOp P oph (zes P ops Q tl) i K a w):wpOp P ops Q i K' a w:=by
 have hw:∀ f,Region.wanted o f=true:=fun f=>by simp[Region.wanted,hg]
 unfold wpOp at *;simp only[h0,h1,hw,ybk]at *;rcases h with h|⟨h2,a',w',h3⟩
 ·left
  unfold Oper.wp at *;generalize (execOp a.eval o).run P w=r at *;cases r with
  | ok x w'=>
    cases x <;> simp only[Oper.upon]at h ⊢ <;>
     first
      | exact hK _ _ h
      | exact Calls.mono h (fun e w'' he=>by
         cases e
         ·exact hK _ _ he
         ·exact he
         ·obtain⟨a2,w2,h2⟩:=he;exact⟨a2,w2,h2⟩)
      | exact Rows.mono h (fun _ _ he=>hK _ _ he)
  | halt x w'=>cases x <;> simp only[Oper.upon]at h ⊢ <;> exact h
 ·exact .inr ⟨h2,a',w',h3⟩
theorem zdx {n m i:Nat}{lh:Array Bool}(hs:lh.size=n) (hi:i<n) (d:Bool):(lh++Array.replicate m false).getD i d=lh.getD i d:=by
 subst hs;simp[hi,yce hi]
theorem zmZ {lh:Array Bool}{i:Nat}(hi:i<lh.size) (d e:Bool):lh.getD i d=lh.getD i e:=by simp[hi]
theorem zjj {md:Region.Mode}{ops:Array Oper}{Q:Exit→Act→World→Prop}{l:List Oper}(hops:ops=l.toArray) (n:Nat) (hn:n<ops.size) (hs:Region.sinkB md ops n=true) (hc:Region.chainB md ops n=true)
  (hg:∀ (i:Nat) (o:Oper),i<n→ops[i]?=some o→o.guard=none∧∀ e∈o.after,e.on<i)
  (hq:Region.seqB md ops (ops.size-n) n (Array.replicate n true++Array.replicate (ops.size-n) false)=true):
  ∀ (f:Nat) (lh:Array Bool) (a:Act) (w:World),lh.size=n→HeadInv md ops n (lh++Array.replicate (ops.size-n) false)→
    wpAny P md (l.take n).toArray (zes P ops Q (l.drop n)) f lh a w→wpAny P md ops Q (f+(ops.size-n)) (lh++Array.replicate (ops.size-n) false) a w:=by
 have hsz:(l.take n).toArray.size=n:=by rw[hops]at hn;simp at hn ⊢;omega
 have hop:∀ i,i<n→(l.take n).toArray[i]?=ops[i]?:=fun i hi=>by rw[hops];simp[hi]
 have hdl:(l.drop n).length=ops.size-n:=by rw[hops];simp
 have hex:∀ (lh:Array Bool),lh.size=n→∀ (i:Nat),i<n→lh.getD i false=false→∃ j,j∈Region.ready md (l.take n).toArray lh:=by
  intro lh hl i
  induction i using Nat.strongRecOn with
  | _ i ih=>
    intro hi hf;by_cases hall:∀ k,k<i→lh.getD k false=true
    ·obtain⟨o,ho⟩:∃ o,ops[i]?=some o:=⟨ops[i],zS⟩
     refine⟨i,yck.2 ⟨by rw[zmZ zO true false];exact hf,o,by rw[hop i hi];exact ho,fun e he _=>hall e.on ((hg i o hi ho).2 e he)⟩⟩
    ·simp only[Classical.not_forall,Bool.not_eq_true]at hall
     obtain⟨k,hk,hkf⟩:=hall;exact ih k hk zO hkf
 have htail:∀ (lh:Array Bool) (a:Act) (w:World),lh.size=n→Region.ready md (l.take n).toArray lh=[]→wpList P ops Q (l.drop n) a w→wpAny P md ops Q (ops.size-n) (lh++Array.replicate (ops.size-n) false) a w:=by
  intro lh a w hl hr h;have hall:lh=Array.replicate n true:=by
   apply Array.ext
   ·simp[hl]
   ·intro i h1 h2
    cases hi:lh[i]with
    | true=>simp
    | false=>
      obtain⟨j,hj⟩:=hex lh hl i zO (by simp[h1,hi]);rw[hr]at hj;cases hj
  rw[hall];have:=wpAny_of_seq (P:=P) (md:=md) (ops:=ops) (Q':=Q) (l.drop n) n (Array.replicate n true++Array.replicate (ops.size-n) false) a w (fun j=>by rw[hops];simp[ybp]) (by rw[hdl];exact hq) h;rwa[hdl]at this
 intro f
 induction f with
 | zero=>
   intro lh a w hl inv h;rw[yaZ];exact htail lh a w hl h.1 h.2
 | succ f ih=>
   intro lh a w hl inv h;by_cases hr:Region.ready md (l.take n).toArray lh=[]
   ·exact zfX _ _ _ _ (htail lh a w hl hr (h.1 hr)) (f+1)
   ·obtain⟨j0,hj0⟩:∃ j,j∈Region.ready md (l.take n).toArray lh:=by
     cases hrr:Region.ready md (l.take n).toArray lh with
     | nil=>exact absurd hrr hr
     | cons x xs=>exact⟨x,zS⟩
    have hj0n:j0<n:=by
     obtain⟨_,o,ho,_⟩:=yck.1 hj0;have:=(yaV.1 ho).1;omega
    have hun0:(lh++Array.replicate (ops.size-n) false).getD j0 true=false:=by rw[zdx hl hj0n];exact(yck.1 hj0).1
    have hto:∀ i,i<n→(i∈Region.ready md ops (lh++Array.replicate (ops.size-n) false)↔i∈Region.ready md (l.take n).toArray lh):=fun i hi=>by
     rw[yck,yck,zdx hl hi,hop i hi];constructor
     ·rintro⟨h1,o,ho,h2⟩
      exact⟨h1,o,ho,fun e he hb=>by have:=h2 e he hb;rwa[zdx hl (by have:=(hg i o hi ho).2 e he;omega)]at this⟩
     ·rintro⟨h1,o,ho,h2⟩
      exact⟨h1,o,ho,fun e he hb=>by rw[zdx hl (by have:=(hg i o hi ho).2 e he;omega)];exact h2 e he hb⟩
    rw[show f+1+(ops.size-n)=(f+(ops.size-n))+1 by omega];refine⟨fun h0=>?_,fun i hi=>?_⟩
    ·have:=(hto j0 hj0n).2 hj0
     rw[h0]at this;cases this
    ·have hin:i<n:=by
      rcases Nat.lt_or_ge i n with h1|h1
      ·exact h1
      ·exact absurd hi (tail_waits hs hc hn inv _ j0 rfl hj0n hun0 i h1)
     have hih:=(hto i hin).1 hi;obtain⟨_,o,ho,_⟩:=yck.1 hi;have hset:(lh++Array.replicate (ops.size-n) false).setIfInBounds i true=lh.setIfInBounds i true++Array.replicate (ops.size-n) false:=by
      rw[Array.setIfInBounds_append_left zO]
     have inv2:=inv.set hi hin;rw[hset]at inv2 ⊢;exact zkv ho (by rw[hop i hin];exact ho) (hg i o hin ho).1 (fun a' w' h'=>ih _ a' w' (by simp[hl]) inv2 h') (h.2 i hih)
theorem zbc {id:Nat}{Q:Exit→Act→World→Prop}{a:Act}{w:World}{l:List Oper}(n:Nat){S:World→Prop}(hm:P.follows .mixedOrders=true) (hB:splitB .any l.toArray n=true) (hS:S w.drew)
  (h:S w.drew→wpAnyH P .any (l.take n).toArray (zes P l.toArray Q (l.drop n)) S n (Array.replicate n false) a w.drew):(Code.region id l.toArray true).wp P Q a w:=by
 simp only[splitB,yav,yap]at hB;obtain⟨⟨⟨⟨hn,hs⟩,hc⟩,hg⟩,hq⟩:=hB;refine wp_region_any hm ?_;have hrep:Array.replicate l.toArray.size false=Array.replicate n false++Array.replicate (l.toArray.size-n) false:=by
  rw[Array.replicate_append_replicate];congr 1;omega
 have inv0:HeadInv .any l.toArray n (Array.replicate n false++Array.replicate (l.toArray.size-n) false):=by
  rw[←hrep];exact⟨zS,fun j oj _ hl=>(by rw[ycf]at hl;cases hl),fun t _ ht=>getD_in (by simpa using ht) (ycf _ _)⟩
 have H:=zjj (P:=P) (md:=.any) (Q:=Q) rfl n hn hs hc (fun i o hi ho=>by
  have:=List.all_eq_true.1 hg i (ybK.2 hi);rw[ho]at this;simp only[yav,Option.isNone_iff_eq_none]at this;refine⟨this.1,fun e he=>?_⟩;have h2:=Array.all_eq_true'.1 this.2 e he;simpa using h2) hq n (Array.replicate n false) a w.drew zS inv0 (wpAny_of_held _ _ _ _ (h hS))
 rw[show n+(l.toArray.size-n)=l.toArray.size by omega,←hrep]at H;exact H
end
section
variable {P:Program}{md:Region.Mode}{Q:Exit→Act→World→Prop}{S:World→Prop}
def nthOp:List Oper→Nat→Option Oper
 | [],_=>none
 | x::_,0=>some x
 | _::xs,n+1=>nthOp xs n
theorem nthOp_is:∀ (l:List Oper) (i:Nat){o:Oper},nthOp l i=some o→l.toArray[i]?=some o
 | [],_,_,h=>by cases h
 | x::_,0,_,h=>by simpa[nthOp]using h
 | _::xs,n+1,_,h=>by have:=nthOp_is xs n h;simpa using this
theorem takeL {l:List Oper}{oi:Oper}{v:Value}{fuel:Nat}{listed:Array Bool}{a:Act}{w:World}(i:Nat) (hi:nthOp l i=some oi)
  (hs:Region.noSelect l.toArray=true) (hf:Region.free md l.toArray listed i=true) (hr:(Region.ready md l.toArray listed).contains i=true)
  (hQ:∀ c a w,Q (.panic c) (a.put oi.dst v) w→Q (.panic c) a w) (hS:S w) (hw:Region.wanted oi (yielded l.toArray a.tmps)=true) (hy:∀ w,S w→(execOp a.eval oi).run P w=.ok (.value v) w)
  (h:wpAnyH P md l.toArray Q S fuel (listed.setIfInBounds i true) (a.put oi.dst v) w):wpAnyH P md l.toArray Q S (fuel+1) listed a w:=
 wpAnyH_take (nthOp_is l i hi) hs hf hr hQ (.inl ⟨hw,hy⟩) hS h
theorem zaU {l:List Oper}{fuel:Nat}{listed:Array Bool}{a:Act}{w:World}{i:Nat}{o:Oper}{rs:List Nat}(ho:nthOp l i=some o)
  (h:∀ K:Act→World→Prop,Shut (∀ a w,S w→(S w→wpAnyH P md l.toArray Q S fuel (listed.setIfInBounds i true) a w)→K a w)→
    if Region.wanted o (yielded l.toArray a.tmps)=true then Oper.wp P o a w K Q else K (a.put o.dst undef) w)
  (hs:AllReadyH P md l.toArray Q S fuel listed a w rs):AllReadyH P md l.toArray Q S fuel listed a w (i::rs):=
 AllReadyH.cons (nthOp_is l i ho) h hs
end
theorem zat {P:Program}{md:Region.Mode}{Q:Exit→Act→World→Prop}{S:World→Prop}{l:List Oper}{oi:Oper}{v:Value}{fuel:Nat}{listed l':Array Bool}{a a':Act}{w:World}(i:Nat) (hS:S w)
  (h:wpAnyH P md l.toArray Q S fuel l' a' w) (hi:nthOp l i=some oi:=by rfl)
  (hs:Region.noSelect l.toArray=true:=by kernel_rfl) (hf:Region.free md l.toArray listed i=true:=by kernel_rfl) (hr:(Region.ready md l.toArray listed).contains i=true:=by kernel_rfl)
  (hQ:∀ c a w,Q (.panic c) (a.put oi.dst v) w→Q (.panic c) a w:=by exact fun _ _ _ h=>h) (hw:Region.wanted oi (yielded l.toArray a.tmps)=true:=by rfl)
  (hy:∀ w,S w→(execOp a.eval oi).run P w=.ok (.value v) w:=by intro w hSw;(try dsimp only at hSw);go_simp;all_goals(with_reducible rfl))
  (hl:listed.setIfInBounds i true=l':=by(try simp only[yas,yaF,yaG]) <;> exact rfl)
  (ha:a.put oi.dst v=a':=by(try simp only[Act.put,zF,zG,zH]) <;> exact rfl):wpAnyH P md l.toArray Q S (fuel+1) listed a w:=
 takeL i hi hs hf hr hQ hS hw hy (by rw[hl,ha];exact h)
theorem zb6 {P:Program}{md:Region.Mode}{Q:Exit→Act→World→Prop}{S:World→Prop}{l:List Oper}{oi:Oper}{v:Value}{fuel:Nat}{listed l':Array Bool}{a a':Act}{w:World}(i:Nat) (hS:S w)
  (h:wpAnyH P md l.toArray Q S fuel l' a' w) (hi:nthOp l i=some oi:=by rfl)
  (hs:Region.noSelect l.toArray=true:=by as_aux_lemma=>kernel_rfl) (hf:Region.free md l.toArray listed i=true:=by as_aux_lemma=>kernel_rfl) (hr:(Region.ready md l.toArray listed).contains i=true:=by as_aux_lemma=>kernel_rfl)
  (hQ:∀ c a w,Q (.panic c) (a.put oi.dst v) w→Q (.panic c) a w:=by exact fun _ _ _ h=>h) (hw:Region.wanted oi (yielded l.toArray a.tmps)=true:=by rfl)
  (hy:∀ w,S w→(execOp a.eval oi).run P w=.ok (.value v) w:=by intro w hSw;(try dsimp only at hSw);go_simp;all_goals(with_reducible rfl))
  (hl:listed.setIfInBounds i true=l':=by(try simp only[yas,yaF,yaG]) <;> exact rfl)
  (ha:a.put oi.dst v=a':=by(try simp only[Act.put,zF,zG,zH]) <;> exact rfl):wpAnyH P md l.toArray Q S (fuel+1) listed a w:=
 takeL i hi hs hf hr hQ hS hw hy (by rw[hl,ha];exact h)
theorem zbg {P:Program}{md:Region.Mode}{Q:Exit→Act→World→Prop}{S:World→Prop}{l:List Oper}{fuel:Nat}{listed l':Array Bool}{K:Act→World→Prop}{a a':Act}{w:World}
  (hK:Shut (∀ a w,S w→(S w→wpAnyH P md l.toArray Q S fuel listed a w)→K a w)) (hS:S w) (h:S w→wpAnyH P md l.toArray Q S fuel l' a' w)
  (hl:listed=l':=by(try simp only[yas,yaF,yaG]) <;> exact rfl)
  (ha:a=a':=by(try simp only[Act.put,zF,zG,zH]) <;> exact rfl):K a w:=
 hK.out _ _ hS (by rw[hl,ha];exact h)
theorem zcT {P:Program}{md:Region.Mode}{ops:Array Oper}{Q:Exit→Act→World→Prop}{S:World→Prop}{fuel:Nat}{listed:Array Bool}{a:Act}{w:World}(rs:List Nat)
  (h:AllReadyH P md ops Q S fuel listed a w rs) (hr:Region.ready md ops listed=rs:=by as_aux_lemma=>kernel_rfl) (hne:rs≠[]:=by simp):wpAnyH P md ops Q S (fuel+1) listed a w:=wpAnyH_ready hr hne h
theorem zaR {P:Program}{md:Region.Mode}{ops:Array Oper}{Q:Exit→Act→World→Prop}{S:World→Prop}{fuel:Nat}{listed:Array Bool}{a:Act}{w:World}(rs:List Nat)
  (h:AllReadyH P md ops Q S fuel listed a w rs) (hr:Region.ready md ops listed=rs:=by kernel_rfl) (hne:rs≠[]:=by simp):wpAnyH P md ops Q S (fuel+1) listed a w:=wpAnyH_ready hr hne h
end Go.Proofs.YtbopfhbeegkkaabGreatDoor
