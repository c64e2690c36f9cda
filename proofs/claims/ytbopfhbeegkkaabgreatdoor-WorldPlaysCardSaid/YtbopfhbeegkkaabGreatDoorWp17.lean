/- Part 17 of a proof: lemmas and contracts that other parts use. -/
import Derived.Test.YtbopfhbeegkkaabGreatDoorWp16
import Derived.Deep.DeepCutAuto
set_option linter.unusedVariables false
set_option linter.unusedSimpArgs false
set_option maxHeartbeats 32000000
set_option maxRecDepth 20000
namespace Go.Proofs.YtbopfhbeegkkaabGreatDoor
open Go.RowKit Go.Proofs.Tryz
theorem zms (B y cw:Nat) (s:RsP) (lv av:Value) (wA:Option Addr) (t:TxP) (A:Option Addr) (c:Nat) (w:World) (h:zcp w B y s lv wA cw av) (hi:zlF s) (hwn:s.ws.length≤900) (hws:zaN w A t.ws) (hwl:t.ws.length≤1000000):
  Calls prog 18 #[.pointer (some ⟨y,0,none⟩),MTx.val ⟨t,A,c⟩] w (zgH B y s lv wA cw av t w):=by
 obtain⟨Al,cl,rfl⟩:=zaP h.row;have HDN:Hid (∀ (n:Int) (w':World),n≠0→zb3 s.r t=n→Below w w w'→zgH B y s (.slice Al s.log.length cl) wA cw av t w (.returned (ii n)) w'):=zac (fun n w' h1 h2 h3=>⟨by rw[h2],fun _=>h3,fun e=>absurd (h2 ▸ e) h1⟩);have HTE:Hid (zb3 s.r t=if zaf t=false∨t.site=s.id then 1 else if t.seq≤s.at t.site then 9 else if zhN s.r t=true then 9 else if 200≤s.log.length∨(40≤s.ws.length∧zbD s.r t=false)then 12 else 0):=zac (by
  have e1:s.r.log.length=s.log.length:=by simp[RsP.r]
  have e2:s.r.ws.length=s.ws.length:=by simp[RsP.r]
  unfold zb3;rw[e1,e2];rfl)
 have HI:=zac hi;have HS:=zac h;have HWS:=zac hws;have HWN:=zac hwn;have HPT:Hid (zaf t=true→((0≤t.site∧t.site<4)∧(1≤t.seq∧t.seq≤1099511627776)∧1≤t.ws.length∧t.ws.length≤5)):=zac zar;have c0:=h.c0;haveI:zaj (y+1) w:=⟨h.sto.lt⟩;obtain⟨k,hk⟩:=yar hi.id.1;rw[hk]at c0;have HK:=zac hk;clear h hi hws hk;cases hrt:zaf t
 ·have HRT:=zac fun W (hB:Below w w W)=>zf9 hrt A c W hwl (HWS.out.below hB)
  have HE:Hid (zb3 s.r t=1):=zac (by rw[HTE.out,yaj (.inl hrt)]);clear hrt HPT;obtain⟨site,seq,wall,count,d0,d1,d2,d3,ws⟩:=t;unfold MTx.val;simp only at HRT hwl;go_enter func18,ntmps18;go_wp2_with fail;refine zaz fun x1=>?_
  go_wp2_with fail;go_ret;exact HDN.out 1 _ zI HE.out zB
 have HRT:=zac fun W (hB:Below w w W)=>zf9 hrt A c W hwl (HWS.out.below hB)
 have HRR:=zac hrt;have hpt:=HPT.out hrt;clear hrt HPT;by_cases hid:t.site=s.id
 ·have HE:Hid (zb3 s.r t=1):=zac (by rw[HTE.out,yaj (.inr hid)])
  have hie:(t.site==(k:Int))=true:=by rw[hid,HK.out];simp
  clear hid hpt;obtain⟨site,seq,wall,count,d0,d1,d2,d3,ws⟩:=t;unfold MTx.val;simp only at HRT hwl hie;go_enter func18,ntmps18;go_wp2_with fail;refine zaz fun x1=>?_
  go_wp2_with fail;go_ret;exact HDN.out 1 _ zI HE.out zB
 have hie:(t.site==(k:Int))=false:=by rw[beq_eq_false_iff_ne];intro e;exact hid (by rw[e,HK.out])
 have HN1:Hid (¬(zaf t=false∨t.site=s.id)):=zac (by rw[HRR.out];simpa using hid);clear hid;obtain⟨site,seq,wall,count,d0,d1,d2,d3,ws⟩:=t;obtain⟨⟨hs0,hs4⟩,⟨hq0,hq1⟩,hw1,hw5⟩:=hpt;simp only at hs0 hs4 hq0 hq1 hw1 hw5 hwl HRT hie HN1;obtain⟨st,rfl⟩:=yar hs0;have hst4:st<4:=by omega
 have hBw:Below w w (w.alloc (.cells #[(st:Int),seq,wall,count,d0,d1,d2,d3,.slice A ws.length c] 44)):=zal (yaf _ _);have HS1:=zac (HS.out.below hBw);have HB1:=zac hBw;have HBX:=zac (show(w.alloc (.cells #[(st:Int),seq,wall,count,d0,d1,d2,d3,.slice A ws.length c] 44)).heap[w.heap.size]?=some (.cells #[(st:Int),seq,wall,count,d0,d1,d2,d3,.slice A ws.length c] 44)from zag rfl _);have ca:=HS.out.apc hst4;have hap:=HI.out.ap (st:Int);obtain⟨ap,hape⟩:∃ ap,s.at (st:Int)=ap:=⟨_,rfl⟩;have HAP:=zac hape;rw[hape]at ca hap;obtain⟨ha0,ha1⟩:=hap;have hwr:IntKind.i64.wrap (ap+1)=ap+1:=by rw[ybm];omega
 clear hBw hape;by_cases hsq:seq≤ap
 ·have HE:Hid (zb3 s.r (⟨(st:Int),seq,wall,count,d0,d1,d2,d3,ws⟩:TxP)=9):=zac (by rw[HTE.out,yad HN1.out,yaj (by rw[HAP.out];exact hsq)])
  have hsd:decide (seq≤ap)=true:=yae hsq;clear hsq;unfold MTx.val;go_enter func18,ntmps18;go_wp2_with fail;refine zaz fun x1=>?_
  go_wp2_with fail;refine zaw fun x2=>?_
  go_wp2_with fail;go_ret;exact HDN.out 9 _ zI HE.out zB
 have hsd:decide (seq≤ap)=false:=yah hsq;have HN2:Hid (s.at (st:Int)<seq):=zac (by rw[HAP.out];omega);have c8:=HS.out.c8;have hxw:=HS.out.wat
 unfold MTx.val;go_enter func18,ntmps18;go_wp2_with fail;refine zaz fun x1=>?_
 go_wp2_with fail;refine zaw fun x2=>?_
 go_wp2_with fail;have HBW1:Hid (Below w w (zai (zai (w.alloc (.cells #[(st:Int),seq,wall,count,d0,d1,d2,d3,.slice A ws.length c] 44)) x1) x2)):=zac zB;have HBX1:Hid ((zai (zai (w.alloc (.cells #[(st:Int),seq,wall,count,d0,d1,d2,d3,.slice A ws.length c] 44)) x1) x2).heap[w.heap.size]?=some (.cells #[(st:Int),seq,wall,count,d0,d1,d2,d3,.slice A ws.length c] 44)):=zac ((show Below (w.alloc (.cells #[(st:Int),seq,wall,count,d0,d1,d2,d3,.slice A ws.length c] 44)).heap.size (w.alloc (.cells #[(st:Int),seq,wall,count,d0,d1,d2,d3,.slice A ws.length c] 44)) (zai (zai (w.alloc (.cells #[(st:Int),seq,wall,count,d0,d1,d2,d3,.slice A ws.length c] 44)) x1) x2)from zB).block _ zS |>.trans HBX.out);clear ca c0 c8 hxw HS1 HB1 HBX hsd hie hsq;generalize zai (zai (w.alloc (.cells #[(st:Int),seq,wall,count,d0,d1,d2,d3,.slice A ws.length c] 44)) x1) x2=W1 at *;have HZ1:=zac HBW1.out.size;go_loopw [39] (fun i W=>∃ j:Nat,i=ii j∧j≤s.ws.length∧Below W1 W1 W∧Hid (zkO s (⟨(st:Int),seq,wall,count,d0,d1,d2,d3,ws⟩:TxP) j=false)) (fun i _=>s.ws.length-(intOf i).toNat)
 case atStart=>exact⟨0,rfl,yay _,yaf _ _,zac rfl⟩
 case round=>as_aux_lemma=>
  obtain⟨j,rfl,hj,hbj,HSJ⟩:=hrel;obtain⟨W,rfl⟩:∃ W:World,W=wr:=⟨_,rfl⟩;have HBJ:=zac hbj;have HBW:=zac (HBW1.out.trans (hbj.mono HZ1.out));have HBX2:=zac ((hbj.block _ (zae HBX1.out)).trans HBX1.out);clear hbj;have HSW:=zac (HS.out.below HBW.out);have e0:=zaa HBX2.out 0;have e1:=zaa HBX2.out 1;have e2:=zaa HBX2.out 2;have e3:=zaa HBX2.out 3;have e4:=zaa HBX2.out 4;have e5:=zaa HBX2.out 5;have e6:=zaa HBX2.out 6;have e7:=zaa HBX2.out 7;have e8:=zaa HBX2.out 8;simp only[zC,zD,zE]at e0 e1 e2 e3 e4 e5 e6 e7 e8;haveI:zaj (w.heap.size+1) W:=⟨zae HBX2.out⟩;by_cases hjl:j<s.ws.length
  ·have hjd:decide ((j:Int)<(s.ws.length:Int))=true:=zT
   have hm:s.ws[j]?=some s.ws[j]:=yaa hjl;obtain⟨gb,go,rfl,hgb,k0,k1,k2,k3,k4,k5,k6,k7,k8⟩:=HSW.out.wat.1 j _ hm;have HSC:=zac (zkN (t:=(⟨(st:Int),seq,wall,count,d0,d1,d2,d3,ws⟩:TxP)) hm);have HHT:=zac (zma (t:=(⟨(st:Int),seq,wall,count,d0,d1,d2,d3,ws⟩:TxP)) hm);clear hm;generalize s.ws[j]=m at *;obtain⟨⟨msite,mseq,mwall,mcount,md0,md1,md2,md3,mws⟩,mA,mc⟩:=m;simp only at k0 k1 k2 k3 k4 k5 k6 k7 k8 HSC HHT;haveI:zaj (gb+1) W:=⟨hgb⟩;by_cases hs1:msite=(st:Int)
   ·have hd1:(msite==(st:Int))=true:=by simp[hs1]
    by_cases hs2:mseq=seq
    ·have hd2:(mseq==seq)=true:=by simp[hs2]
     have HE:Hid (zb3 s.r (⟨(st:Int),seq,wall,count,d0,d1,d2,d3,ws⟩:TxP)=9):=zac (by rw[HTE.out,yad HN1.out,yad (by have:=HN2.out;omega),yaj (HHT.out hs1 hs2)]);clear hs1 hs2;go_wp2_with fail;go_ret;exact HDN.out 9 _ zI HE.out (HBW.out.trans (yaH (B:=W.heap.size) zB HBW.out.size))
    ·have hd2:(mseq==seq)=false:=by simpa using hs2
     have HS2:=zac hs2;clear hs1 hs2;go_wp2_with fail;go_roundw
     case rel=>exact⟨j+1,by go_num,zO,HBJ.out.trans (yaH (B:=W.heap.size) zB HBJ.out.size),zac (by rw[HSC.out,HSJ.out,yah HS2.out];simp)⟩
     case measure=>simp[intOf];omega
   ·have hd1:(msite==(st:Int))=false:=by simpa using hs1
    have HS2:=zac hs1;clear hs1;go_wp2_with fail;go_roundw
    case rel=>exact⟨j+1,by go_num,zO,HBJ.out.trans (yaH (B:=W.heap.size) zB HBJ.out.size),zac (by rw[HSC.out,HSJ.out,yah HS2.out];simp)⟩
    case measure=>simp[intOf];omega
  ·obtain rfl:j=s.ws.length:=by omega
   have hjd:decide ((s.ws.length:Int)<(s.ws.length:Int))=false:=zU;have HNS:Hid (¬zhN s.r (⟨(st:Int),seq,wall,count,d0,d1,d2,d3,ws⟩:TxP)=true):=zac (by rw[←zmb,HSJ.out];simp);have ca:=HSW.out.apc hst4;rw[HAP.out]at ca;obtain⟨v1,v2,v3,v4⟩:=HSW.out.vec;have hst0:(0:Int)≤(st:Int):=by omega
   have hst5:(st:Int)<4:=by omega
   haveI:zaj (y+1) W:=⟨HSW.out.sto.lt⟩;have HRD:Hid (zbD s.r (⟨(st:Int),seq,wall,count,d0,d1,d2,d3,ws⟩:TxP)=(decide (seq=ap+1)&&zdp s.p0 s.p1 s.p2 s.p3 d0 d1 d2 d3)):=zac (by rw[←HAP.out];rfl);obtain⟨rd,hrd⟩:∃ rd,zbD s.r (⟨(st:Int),seq,wall,count,d0,d1,d2,d3,ws⟩:TxP)=rd:=⟨_,rfl⟩;rw[hrd]at HRD;have HRY:=zac hrd;clear hrd HSJ;go_upto_region 11 with fail;go_cut [7] (fun s7 W'=>s7=.bool rd∧Below W W W')
   case first=>as_aux_lemma=>
    by_cases hq:seq=ap+1
    ·have hd1:(seq==ap+1)=true:=by simp[hq]
     have HCV:=zac fun X=>zcn (show zdp s.p0 s.p1 s.p2 s.p3 d0 d1 d2 d3=rd by rw[HRD.out,yae hq];simp) X
     clear hq;refine zaz fun x3=>?_
     go_wp2_with fail;go_meet;exact⟨rfl,zB⟩
    ·have hd1:(seq==ap+1)=false:=by simpa using hq
     obtain rfl:rd=false:=by rw[HRD.out,yah hq];rfl
     clear hq;refine zaw fun x3=>?_
     go_wp2_with fail;go_meet;exact⟨rfl,zB⟩
   case rest=>
    obtain⟨rfl,hb3⟩:=hcut;obtain⟨W3,rfl⟩:∃ W3:World,W3=wc:=⟨_,rfl⟩;have HB3:=zac hb3;have HBW3:=zac (HBW.out.trans (hb3.mono HBW.out.size));have HBX3:=zac ((hb3.block _ (zae HBX2.out)).trans HBX2.out);have HS3:=zac (HS.out.below HBW3.out);clear hb3 HB3 HBX2 HSW HBJ HRT ca v1 v2 v3 v4 e0 e1 e2 e3 e4 e5 e6 e7 e8;have c7:=HS3.out.c7;have c8:=HS3.out.c8;haveI:zaj (y+1) W3:=⟨HS3.out.sto.lt⟩;haveI:zaj (w.heap.size+1) W3:=⟨zae HBX3.out⟩;obtain⟨f12,hf12⟩:∃ f12,(decide (200≤s.log.length)||(decide (40≤s.ws.length)&&!rd))=f12:=⟨_,rfl⟩;have HF12:=zac hf12;clear hf12;go_upto_region 12 with fail;go_cut [93] (fun s93 W'=>s93=.bool f12∧W3=W')
    case first=>as_aux_lemma=>
     by_cases h2:200≤s.log.length
     ·have hd2:decide ((200:Int)≤(s.log.length:Int))=true:=zT
      obtain rfl:f12=true:=by rw[←HF12.out,yae h2];rfl
      clear h2 HF12;go_wp2_with fail;go_meet;exact⟨rfl,rfl⟩
     ·have hd2:decide ((200:Int)≤(s.log.length:Int))=false:=zU
      by_cases h4:40≤s.ws.length
      ·have hd4:decide ((40:Int)≤(s.ws.length:Int))=true:=zT
       obtain rfl:f12=!rd:=by rw[←HF12.out,yah h2,yae h4];simp
       clear h2 h4 HF12;go_wp2_with fail;go_meet;exact⟨zS,rfl⟩
      ·have hd4:decide ((40:Int)≤(s.ws.length:Int))=false:=zU
       obtain rfl:f12=false:=by rw[←HF12.out,yah h2,yah h4];rfl
       clear h2 h4 HF12;go_wp2_with fail;go_meet;exact⟨zS,rfl⟩
    case rest=>
     obtain⟨rfl,rfl⟩:=hcut;cases f12
     case true=>
      have HE:Hid (zb3 s.r (⟨(st:Int),seq,wall,count,d0,d1,d2,d3,ws⟩:TxP)=12):=zac (by
       have h1:=HF12.out;simp at h1;rw[HTE.out,yad HN1.out,yad (by have:=HN2.out;omega),yad HNS.out,yaj (by rw[HRY.out];exact h1)])
      go_wp2_with fail;go_ret;exact HDN.out 12 _ zI HE.out HBW3.out
     case false=>
      have HE:Hid (zb3 s.r (⟨(st:Int),seq,wall,count,d0,d1,d2,d3,ws⟩:TxP)=0):=zac (by
       have h1:=HF12.out;simp at h1;rw[HTE.out,yad HN1.out,yad (by have:=HN2.out;omega),yad HNS.out,yad (by rw[HRY.out];rintro(h2|⟨h2,h3⟩) <;> simp_all <;> omega)])
      clear HF12 HDN HTE HNS HRD HRY;have hbx3:=HBX3.out;have e0:=zaa hbx3 0;have e1:=zaa hbx3 1;have e2:=zaa hbx3 2;have e3:=zaa hbx3 3;have e4:=zaa hbx3 4;have e5:=zaa hbx3 5;have e6:=zaa hbx3 6;have e7:=zaa hbx3 7;have e8:=zaa hbx3 8;simp only[zC,zD,zE]at e0 e1 e2 e3 e4 e5 e6 e7 e8;have z8:=zab HBX3.out 8;clear hbx3;go_wp2_with (at_builtin;go_must (refine zfx _ rfl _ _ rfl W3.heap.size rfl (zag rfl _) A c ws rfl (HWS.out.below (HBW3.out.trans (yaH (B:=W3.heap.size) zB HBW3.out.size))) zO zO ?_));intro b1 c1 w4 hw4 hg4 hl4 hlt4;have hb4:Below W3 W3 w4:=yaE (zal (yaf _ _)) hg4 zS (fun j e=>by simp at e;omega);have HB4:=zac (HBW3.out.trans (hb4.mono HBW3.out.size));have HBX4:=zac ((hb4.block _ (zae HBX3.out)).trans HBX3.out);have HW4:=zac hw4;have HN4:Hid (W3.heap.size≤b1∧b1<w4.heap.size):=zac ⟨by rcases hl4 with e|e <;> (try simp at e) <;> omega,hlt4⟩;clear hw4 hg4 hl4 hlt4 hb4 z8 e0 e1 e2 e3 e4 e5 e6 e7 e8 c7 c8;have q8:=zaa HBX4.out 8;simp only[zC,zD,zE]at q8;have z8:=zab HBX4.out 8;haveI:zaj (w.heap.size+1) w4:=⟨zae HBX4.out⟩;go_upto_region 15 with fail;have HBX5:=zac (zam HBX4.out 8 (.slice (some ⟨b1,0,none⟩) ws.length c1));have HB5:Hid (Below w w (w4.setCell ⟨w,8,none⟩ (.slice (some ⟨b1,0,none⟩) ws.length c1))):=zac (yaE HB4.out (zan w4 w.heap.size 8 _) HB4.out.size (fun j e=>by simp at e;omega));have HN5:Hid (w.heap.size<b1∧b1<(w4.setCell ⟨w,8,none⟩ (.slice (some ⟨b1,0,none⟩) ws.length c1)).heap.size):=zac (by
       have h1:=HN4.out;have h2:=zae HBX3.out;refine⟨zO,?_⟩;simp[World.setCell];exact h1.2)
      have HW5:=zac (HW4.out.keep (w':=w4.setCell ⟨w,8,none⟩ (.slice (some ⟨b1,0,none⟩) ws.length c1)) (fun b o e=>by
       obtain⟨rfl,_⟩:b1=b∧0=o:=by simpa using e
       exact(zan w4 w.heap.size 8 _).block _ HN4.out.2 (by simp;have:=HN5.out.1;omega)))
      clear q8 z8 HBX4 HB4 HW4 HN4 HBX3 HS3;generalize w4.setCell ⟨w,8,none⟩ (.slice (some ⟨b1,0,none⟩) ws.length c1)=W5 at *;have hbx5:W5.heap[w.heap.size]?=some (.cells #[(st:Int),seq,wall,count,d0,d1,d2,d3,.slice (some ⟨b1,0,none⟩) ws.length c1] 44):=HBX5.out;have HS5:=zac (HS.out.below HB5.out);have c8:=HS5.out.c8;have z8:=HS5.out.frz 8;have e0:=zaa hbx5 0;have e1:=zaa hbx5 1;have e2:=zaa hbx5 2;have e3:=zaa hbx5 3;have e4:=zaa hbx5 4;have e5:=zaa hbx5 5;have e6:=zaa hbx5 6;have e7:=zaa hbx5 7;have e8:=zaa hbx5 8;simp only[zC,zD,zE]at e0 e1 e2 e3 e4 e5 e6 e7 e8;haveI:zaj (y+1) W5:=⟨HS5.out.sto.lt⟩;haveI:zaj (w.heap.size+1) W5:=⟨zae hbx5⟩;clear hbx5;have hyl:y<W5.heap.size:=HS5.out.sto.lt;have hwl:w.heap.size<W5.heap.size:=zae HBX5.out;have HXW:=zac HS5.out.wat.1;have HXO:Hid (∀ b o,wA=some ⟨b,o,none⟩→b<W5.heap.size):=zac (fun b o e=>(HS5.out.wat.2.2 b o e).1);have HW9:Hid (s.ws.length≤1000):=zac (by have:=HWN.out;omega);have HNO:Hid (∀ b,w.heap.size≤b→¬za2 y (.slice Al s.log.length cl) av b):=zac (fun b hb e=>by have:=(HS.out.lt e).2;omega);have HZ5:=zac HB5.out.size;have HSK:Hid (∀ X:World,Below W5 W5 X→(Below W5 W5 X∧X.cell? ⟨y,8,none⟩=some (.slice wA s.ws.length cw)∧X.frozen? ⟨y,8,none⟩=false∧X.cell? ⟨w,0,none⟩=some (ii (st:Int))∧X.cell? ⟨w,1,none⟩=some (ii seq)∧X.cell? ⟨w,2,none⟩=some (ii wall)∧X.cell? ⟨w,3,none⟩=some (ii count)∧X.cell? ⟨w,4,none⟩=some (ii d0)∧X.cell? ⟨w,5,none⟩=some (ii d1)∧X.cell? ⟨w,6,none⟩=some (ii d2)∧X.cell? ⟨w,7,none⟩=some (ii d3)∧X.cell? ⟨w,8,none⟩=some (.slice (some ⟨b1,0,none⟩) ws.length c1))):=zac (fun X hb=>⟨hb,(hb.cell (p:=⟨y,8,none⟩) hyl).trans c8,(yal (a:=⟨y,8,none⟩) (hb.block y hyl)).trans z8,(hb.cell (p:=⟨w,0,none⟩) hwl).trans e0,(hb.cell (p:=⟨w,1,none⟩) hwl).trans e1,(hb.cell (p:=⟨w,2,none⟩) hwl).trans e2,(hb.cell (p:=⟨w,3,none⟩) hwl).trans e3,(hb.cell (p:=⟨w,4,none⟩) hwl).trans e4,(hb.cell (p:=⟨w,5,none⟩) hwl).trans e5,(hb.cell (p:=⟨w,6,none⟩) hwl).trans e6,(hb.cell (p:=⟨w,7,none⟩) hwl).trans e7,(hb.cell (p:=⟨w,8,none⟩) hwl).trans e8⟩);have HFIN:Hid (∀ (w7:World) (A7:Option Addr) (c7:Nat),w7.ownsRow W5.heap.size 44 9 (.slice A7 (s.ws++[(⟨(⟨(st:Int),seq,wall,count,d0,d1,d2,d3,ws⟩:TxP),some ⟨b1,0,none⟩,c1⟩:MTx)]).length c7) (s.ws++[(⟨(⟨(st:Int),seq,wall,count,d0,d1,d2,d3,ws⟩:TxP),some ⟨b1,0,none⟩,c1⟩:MTx)]).length ((s.ws++[(⟨(⟨(st:Int),seq,wall,count,d0,d1,d2,d3,ws⟩:TxP),some ⟨b1,0,none⟩,c1⟩:MTx)]).flatMap MTx.cells)→Below W5 W5 w7→
        (fun X=>∃ (A7:Option Addr) (c7:Nat),zcp X B y { s with ws:=s.ws++[(⟨(⟨(st:Int),seq,wall,count,d0,d1,d2,d3,ws⟩:TxP),some ⟨b1,0,none⟩,c1⟩:MTx)] } (.slice Al s.log.length cl) A7 c7 av∧zaO w X (za2 y (.slice Al s.log.length cl) av) (za2 y (.slice Al s.log.length cl) av)∧∀ b o,A7=some ⟨b,o,none⟩→w.heap.size≤b) (w7.setCell ⟨y,8,none⟩ (.slice A7 (s.ws++[(⟨(⟨(st:Int),seq,wall,count,d0,d1,d2,d3,ws⟩:TxP),some ⟨b1,0,none⟩,c1⟩:MTx)]).length c7))):=zac (fun w7 A7 c7 ho hB7=>by
          have hb7:=HB5.out.trans (hB7.mono HZ5.out);have hs7:=(HS.out.below hb7).waits (ws':=s.ws++[(⟨(⟨(st:Int),seq,wall,count,d0,d1,d2,d3,ws⟩:TxP),some ⟨b1,0,none⟩,c1⟩:MTx)]) (zgd ho) (zhV ho) (fun b o e=>by
           obtain⟨h1,h2⟩:=zao ho (show(Value.slice A7 (s.ws++[(⟨(⟨(st:Int),seq,wall,count,d0,d1,d2,d3,ws⟩:TxP),some ⟨b1,0,none⟩,c1⟩:MTx)]).length c7).ownBlock=some b by rw[e];rfl);exact⟨h2,HNO.out b (by have:=HZ5.out;omega)⟩) (fun m hm=>by
           rcases yax.1 hm with h1|h1
           ·exact(HS.out.below hb7).dat m (.inr h1)
           ·obtain rfl:m=(⟨(⟨(st:Int),seq,wall,count,d0,d1,d2,d3,ws⟩:TxP),some ⟨b1,0,none⟩,c1⟩:MTx):=by simpa using h1
            refine⟨HW5.out.below hB7,fun b o e=>?_⟩;obtain⟨rfl,_⟩:b1=b∧0=o:=by simpa using e
            exact⟨by have:=HN5.out;have:=hB7.size;omega,HNO.out _ (by have:=HN5.out;omega)⟩)
          refine⟨A7,c7,hs7,(zaO.of_below _ hb7).trans (zaO.setR _),fun b o e=>?_⟩;have:=(zao ho (show(Value.slice A7 (s.ws++[(⟨(⟨(st:Int),seq,wall,count,d0,d1,d2,d3,ws⟩:TxP),some ⟨b1,0,none⟩,c1⟩:MTx)]).length c7).ownBlock=some b by rw[e];rfl)).1;have:=HZ5.out;omega)
      clear c8 z8 e0 e1 e2 e3 e4 e5 e6 e7 e8;go_cut [3] (fun s3 X=>s3=.pointer (some ⟨w,0,none⟩)∧∃ (A7:Option Addr) (c7:Nat),zcp X B y { s with ws:=s.ws++[(⟨(⟨(st:Int),seq,wall,count,d0,d1,d2,d3,ws⟩:TxP),some ⟨b1,0,none⟩,c1⟩:MTx)] } (.slice Al s.log.length cl) A7 c7 av∧zaO w X (za2 y (.slice Al s.log.length cl) av) (za2 y (.slice Al s.log.length cl) av)∧∀ b o,A7=some ⟨b,o,none⟩→w.heap.size≤b)
      case first=>as_aux_lemma=>
       refine zbc 10 (S:=(fun X=>Below W5 W5 X∧X.cell? ⟨y,8,none⟩=some (.slice wA s.ws.length cw)∧X.frozen? ⟨y,8,none⟩=false∧X.cell? ⟨w,0,none⟩=some (ii (st:Int))∧X.cell? ⟨w,1,none⟩=some (ii seq)∧X.cell? ⟨w,2,none⟩=some (ii wall)∧X.cell? ⟨w,3,none⟩=some (ii count)∧X.cell? ⟨w,4,none⟩=some (ii d0)∧X.cell? ⟨w,5,none⟩=some (ii d1)∧X.cell? ⟨w,6,none⟩=some (ii d2)∧X.cell? ⟨w,7,none⟩=some (ii d3)∧X.cell? ⟨w,8,none⟩=some (.slice (some ⟨b1,0,none⟩) ws.length c1))) zK zK ?_ (fun hHeld=>?_)
       ·exact HSK.out _ zV
       simp only[yat,yaQ,yau,yaA];refine zb6 0 hHeld ?_;refine zb6 2 hHeld ?_;refine zb6 3 hHeld ?_;refine zb6 4 hHeld ?_;refine zb6 5 hHeld ?_;refine zb6 7 hHeld ?_;refine zcT [1,8] (zaU rfl (fun K hK=>?_) ?_)
       ·as_aux_lemma=>
        go_simp;refine zbg hK (HSK.out _ zV) ?_;clear hHeld hK K;intro hHeld;refine zcT [6,8] (zaU rfl (fun K hK=>?_) ?_)
        ·as_aux_lemma=>
         refine zcJ _ rfl (.tmp 100) (.tmp 104) rfl W5.heap.size W5.heap.size zM (by rw[zaq];exact zag rfl _) (yai _) wA cw s.ws zM (HXW.out.below hHeld.1) HW9.out ?_;intro A6 c6 w6 hown6 hgrow6;have HB6:=zac (yaE hHeld.1 hgrow6 hHeld.1.size (fun j e=>by simp at e;omega));have HO6:=zac hown6;haveI hs1:zaj W5.heap.size w6:=⟨HB6.out.size⟩;clear hown6 hgrow6;refine zbg hK (HSK.out _ zV) ?_;clear hHeld hK K;intro hHeld;refine zcT [8] (zaU rfl (fun K hK=>?_) ?_)
         ·as_aux_lemma=>
          refine zdr rfl (.tmp 106) rfl (ii (st:Int)) (ii seq) (ii wall) (ii count) (ii d0) (ii d1) (ii d2) (ii d3) (.slice (some ⟨b1,0,none⟩) ws.length c1) zM ?_;refine zbg hK (HSK.out _ zV) ?_;clear hHeld hK K;intro hHeld;refine zcT [9] (zaU rfl (fun K hK=>?_) ?_)
          ·as_aux_lemma=>
           refine zbv _ rfl (.tmp 105) (.tmp 107) rfl W5.heap.size (.slice A6 s.ws.length c6) s.ws.length s.ws zM (HO6.out.alloc _) (some ⟨w6,0,none⟩) 1 [(⟨(⟨(st:Int),seq,wall,count,d0,d1,d2,d3,ws⟩:TxP),some ⟨b1,0,none⟩,c1⟩:MTx)] zM (zlG (m:=(⟨(⟨(st:Int),seq,wall,count,d0,d1,d2,d3,ws⟩:TxP),some ⟨b1,0,none⟩,c1⟩:MTx)) (zag rfl _)) (by show s.ws.length+1≤1000;have:=HWN.out;omega) hHeld.1.size rfl ?_;intro A7 c7 w7 hown7 hgrow7 hat7;have HB7:=zac (yaE HB6.out (zau hgrow7) HB6.out.size (fun b e=>(zao HO6.out e).1));have HO7:=zac hown7;clear hown7 hgrow7 hat7;refine zbg hK (HSK.out _ zV) ?_;clear hHeld hK K;intro hHeld;refine wpAnyH_done zJ ?_ _;refine zes.normal ?_;have k8:=hHeld.2.1;have k9:=hHeld.2.2.1;clear hHeld;haveI hs3:zaj (y+1) w7:=⟨by have:=HB7.out.size;omega⟩;go_wp2_with fail;go_meet;have hfin:=HFIN.out _ _ _ HO7.out HB7.out;simp only[yak,yaq,yaB,yaZ]at hfin;exact⟨rfl,hfin⟩
          exact AllReadyH.nil
         exact AllReadyH.nil
        refine zaU rfl (fun K hK=>?_) ?_
        ·as_aux_lemma=>
         refine zdr rfl (.tmp 106) rfl (ii (st:Int)) (ii seq) (ii wall) (ii count) (ii d0) (ii d1) (ii d2) (ii d3) (.slice (some ⟨b1,0,none⟩) ws.length c1) zM ?_;refine zbg hK (HSK.out _ zV) ?_;clear hHeld hK K;intro hHeld;refine zcT [6] (zaU rfl (fun K hK=>?_) ?_)
         ·as_aux_lemma=>
          refine zdB _ rfl (.tmp 100) (.tmp 104) rfl W5.heap.size W5.heap.size zM (by first|exact zag zS _|exact zaC (zag rfl _) _) zO wA cw s.ws zM (HXW.out.below hHeld.1) HW9.out (W5.heap.size+1) (.cells #[(st:Int),seq,wall,count,d0,d1,d2,d3,.slice (some ⟨b1,0,none⟩) ws.length c1] 44) (by first|exact zag zS _|exact zaC (zag rfl _) _) zO ?_;intro A6 c6 w6 hown6 hgrow6 hq6 hqr;have HQ6:=zac hq6;clear hq6 hqr;have HB6:=zac (yaE hHeld.1 hgrow6 hHeld.1.size (fun j e=>by simp at e;omega));have HO6:=zac hown6;haveI hs1:zaj W5.heap.size w6:=⟨HB6.out.size⟩;clear hown6 hgrow6;refine zbg hK (HSK.out _ zV) ?_;clear hHeld hK K;intro hHeld;refine zcT [9] (zaU rfl (fun K hK=>?_) ?_)
          ·as_aux_lemma=>
           refine zbv _ rfl (.tmp 105) (.tmp 107) rfl W5.heap.size (.slice A6 s.ws.length c6) s.ws.length s.ws zM HO6.out (some ⟨(W5.heap.size+1),0,none⟩) 1 [(⟨(⟨(st:Int),seq,wall,count,d0,d1,d2,d3,ws⟩:TxP),some ⟨b1,0,none⟩,c1⟩:MTx)] zM (zlG (m:=(⟨(⟨(st:Int),seq,wall,count,d0,d1,d2,d3,ws⟩:TxP),some ⟨b1,0,none⟩,c1⟩:MTx)) HQ6.out) (by show s.ws.length+1≤1000;have:=HWN.out;omega) hHeld.1.size rfl ?_;intro A7 c7 w7 hown7 hgrow7 hat7;have HB7:=zac (yaE HB6.out hgrow7 HB6.out.size (fun b e=>(zao HO6.out e).1));have HO7:=zac hown7;clear hown7 hgrow7 hat7;refine zbg hK (HSK.out _ zV) ?_;clear hHeld hK K;intro hHeld;refine wpAnyH_done zJ ?_ _;refine zes.normal ?_;have k8:=hHeld.2.1;have k9:=hHeld.2.2.1;clear hHeld;haveI hs3:zaj (y+1) w7:=⟨by have:=HB7.out.size;omega⟩;go_wp2_with fail;go_meet;have hfin:=HFIN.out _ _ _ HO7.out HB7.out;simp only[yak,yaq,yaB,yaZ]at hfin;exact⟨rfl,hfin⟩
          exact AllReadyH.nil
         exact AllReadyH.nil
        exact AllReadyH.nil
       refine zaU rfl (fun K hK=>?_) ?_
       ·as_aux_lemma=>
        refine zdr rfl (.tmp 106) rfl (ii (st:Int)) (ii seq) (ii wall) (ii count) (ii d0) (ii d1) (ii d2) (ii d3) (.slice (some ⟨b1,0,none⟩) ws.length c1) zM ?_;refine zbg hK (HSK.out _ zV) ?_;clear hHeld hK K;intro hHeld;refine zcT [1] (zaU rfl (fun K hK=>?_) ?_)
        ·as_aux_lemma=>
         go_simp;refine zbg hK (HSK.out _ zV) ?_;clear hHeld hK K;intro hHeld;refine zcT [6] (zaU rfl (fun K hK=>?_) ?_)
         ·as_aux_lemma=>
          refine zdB _ rfl (.tmp 100) (.tmp 104) rfl W5.heap.size (W5.heap.size+1) zM (by first|exact zag zS _|exact zaC (zag rfl _) _) zO wA cw s.ws zM (HXW.out.below hHeld.1) HW9.out W5.heap.size (.cells #[(st:Int),seq,wall,count,d0,d1,d2,d3,.slice (some ⟨b1,0,none⟩) ws.length c1] 44) (by first|exact zag zS _|exact zaC (zag rfl _) _) zO ?_;intro A6 c6 w6 hown6 hgrow6 hq6 hqr;have HQ6:=zac hq6;clear hq6 hqr;have HB6:=zac (yaE hHeld.1 hgrow6 hHeld.1.size (fun j e=>by simp at e;omega));have HO6:=zac hown6;haveI hs1:zaj W5.heap.size w6:=⟨HB6.out.size⟩;clear hown6 hgrow6;refine zbg hK (HSK.out _ zV) ?_;clear hHeld hK K;intro hHeld;refine zcT [9] (zaU rfl (fun K hK=>?_) ?_)
          ·as_aux_lemma=>
           refine zbv _ rfl (.tmp 105) (.tmp 107) rfl W5.heap.size (.slice A6 s.ws.length c6) s.ws.length s.ws zM HO6.out (some ⟨W5,0,none⟩) 1 [(⟨(⟨(st:Int),seq,wall,count,d0,d1,d2,d3,ws⟩:TxP),some ⟨b1,0,none⟩,c1⟩:MTx)] zM (zlG (m:=(⟨(⟨(st:Int),seq,wall,count,d0,d1,d2,d3,ws⟩:TxP),some ⟨b1,0,none⟩,c1⟩:MTx)) HQ6.out) (by show s.ws.length+1≤1000;have:=HWN.out;omega) hHeld.1.size rfl ?_;intro A7 c7 w7 hown7 hgrow7 hat7;have HB7:=zac (yaE HB6.out hgrow7 HB6.out.size (fun b e=>(zao HO6.out e).1));have HO7:=zac hown7;clear hown7 hgrow7 hat7;refine zbg hK (HSK.out _ zV) ?_;clear hHeld hK K;intro hHeld;refine wpAnyH_done zJ ?_ _;refine zes.normal ?_;have k8:=hHeld.2.1;have k9:=hHeld.2.2.1;clear hHeld;haveI hs3:zaj (y+1) w7:=⟨by have:=HB7.out.size;omega⟩;go_wp2_with fail;go_meet;have hfin:=HFIN.out _ _ _ HO7.out HB7.out;simp only[yak,yaq,yaB,yaZ]at hfin;exact⟨rfl,hfin⟩
          exact AllReadyH.nil
         exact AllReadyH.nil
        exact AllReadyH.nil
       exact AllReadyH.nil
      case rest=>
       obtain⟨rfl,A7,c7,hsr,hfr,hnew⟩:=hcut;obtain⟨W6,rfl⟩:∃ W6:World,W6=wc:=⟨_,rfl⟩;obtain⟨F,hF⟩:∃ F,rRun (s.r.ws.length+1) { s.r with ws:=s.r.ws++[(⟨(st:Int),seq,wall,count,d0,d1,d2,d3,ws⟩:TxP)] }=F:=⟨_,rfl⟩;have HF:=zac hF;clear hF;have HL0:Hid (RLp w W6 B y s (⟨(⟨(st:Int),seq,wall,count,d0,d1,d2,d3,ws⟩:TxP),some ⟨b1,0,none⟩,c1⟩:MTx) (za2 y (.slice Al s.log.length cl) av) F { s with ws:=s.ws++[(⟨(⟨(st:Int),seq,wall,count,d0,d1,d2,d3,ws⟩:TxP),some ⟨b1,0,none⟩,c1⟩:MTx)] } (.slice Al s.log.length cl) A7 c7 av):=zac ⟨hsr,hfr,⟨HI.out.id,HI.out.ap,fun m hm=>by
         rcases yax.1 hm with h1|h1
         ·exact HI.out.rt m h1
         ·obtain rfl:m=(⟨(⟨(st:Int),seq,wall,count,d0,d1,d2,d3,ws⟩:TxP),some ⟨b1,0,none⟩,c1⟩:MTx):=by simpa using h1
          exact HRR.out,HI.out.len⟩,by rw[←HF.out];simp[RsP.r],by have:=HW9.out;have:=HWN.out;simp;omega,fun m hm=>by
         rcases hm with h1|h1
         ·exact .inl (.inl h1)
         ·rcases yax.1 h1 with h2|h2
          ·exact .inl (.inr h2)
          ·exact .inr (by simpa using h2),hnew⟩
       have HDN0:Hid (∀ (s1:RsP) (lv1:Value) (wA1:Option Addr) (wc1:Nat) (av1:Value) (wr:World),RLp w wr B y s (⟨(⟨(st:Int),seq,wall,count,d0,d1,d2,d3,ws⟩:TxP),some ⟨b1,0,none⟩,c1⟩:MTx) (za2 y (.slice Al s.log.length cl) av) F s1 lv1 wA1 wc1 av1→s1.r=F→zgH B y s (.slice Al s.log.length cl) wA cw av (⟨(st:Int),seq,wall,count,d0,d1,d2,d3,ws⟩:TxP) w (.returned (ii 0)) wr):=zac (fun s1 lv1 wA1 wc1 av1 wr h1 h2=>⟨by rw[HE.out],fun e=>absurd HE.out e,fun _=>⟨b1,c1,s1,lv1,wA1,wc1,av1,by have:=HN5.out.1;omega,h1.at_,h1.inv,by rw[h2,HF.out],h1.has,h1.fr,h1.new⟩⟩)
       try clear hsr;try clear hfr;try clear hnew;try clear hyl;try clear hwl;try clear HXW;try clear HXO;try clear HW9;try clear HNO;try clear HZ5;try clear HSK;try clear HFIN;try clear HBX5;try clear HB5;try clear HN5;try clear HW5;try clear HS5;try clear HF;try clear HS;try clear HI;try clear HRR;try clear HN1;try clear HN2;try clear HAP;try clear HBW1;try clear HBX1;try clear HB1;try clear HK;try clear HPT
       go_wp2_with fail;go_loopw [] (fun wr=>∃ (s1:RsP) (lv1:Value) (wA1:Option Addr) (wc1:Nat) (av1:Value),RLp w wr B y s (⟨(⟨(st:Int),seq,wall,count,d0,d1,d2,d3,ws⟩:TxP),some ⟨b1,0,none⟩,c1⟩:MTx) (za2 y (.slice Al s.log.length cl) av) F s1 lv1 wA1 wc1 av1) (fun wr=>wLen wr y)
       case atStart=>exact⟨_,_,_,_,_,HL0.out⟩
       case round=>as_aux_lemma=>
        obtain⟨s1,lv1,wA1,wc1,av1,hl1⟩:=hrel;obtain⟨W,rfl⟩:∃ W:World,W=wr:=⟨_,rfl⟩;have HL:=zac hl1;have hwl1:=hl1.len;obtain⟨Al1,cl1,rfl⟩:=zaP hl1.at_.row;have c7:=hl1.at_.c7;have c8:=hl1.at_.c8;haveI:zaj (y+1) W:=⟨hl1.at_.sto.lt⟩;clear hl1 HL0;by_cases h200:s1.log.length<200
        ·have hd200:decide ((s1.log.length:Int)<200)=true:=zT
         have HL2:=zac h200;clear h200;go_wp2_with fail;go_loopw [8,122] (fun bv iv X=>∃ (j:Nat) (bz:Int),iv=ii j∧bv=ii bz∧j≤s1.ws.length∧zbZ s1 j bz=ze7 s1.r∧(bz=-1∨∃ k:Nat,bz=(k:Int)∧k<s1.ws.length)∧Below W W X) (fun _ iv _=>s1.ws.length-(intOf iv).toNat)
         case atStart=>exact⟨0,-1,rfl,rfl,yay _,zjs _,.inl rfl,zB⟩
         case round=>as_aux_lemma=>
          clear c7 c8;obtain⟨j,bz,rfl,rfl,hj,hrb,hbz,hbx⟩:=hrel;obtain⟨X,rfl⟩:∃ X:World,X=wr:=⟨_,rfl⟩;have HBJ:=zac hbx;have HLX:=zac (HL.out.below hbx);have HRB:=zac hrb;have HBZ:=zac hbz;have hbg:-1≤bz∧bz<(s1.ws.length:Int)∨bz=-1:=by
           rcases hbz with h1|⟨k,h1,h2⟩
           ·exact .inr h1
           ·exact .inl ⟨zO,zO⟩
          clear hbx hrb hbz;by_cases hjl:j<s1.ws.length
          ·have hjd:decide ((j:Int)<(s1.ws.length:Int))=true:=zT
           have hm:s1.ws[j]?=some s1.ws[j]:=yaa hjl;obtain⟨gb,go,rfl,hgb,k0,k1,k2,k3,k4,k5,k6,k7,k8⟩:=HLX.out.at_.wat.1 j _ hm;have HNOr:Hid (zbD s1.r s1.ws[j].t=false→∀ b,zbZ s1 j b=zbZ s1 (j+1) b):=zac fun h b=>zmq hm h
           have HNEW:Hid (zbD s1.r s1.ws[j].t=true→zbZ s1 j (-1)=zbZ s1 (j+1) j):=zac fun h=>zk1 hm h
           have HCMP:Hid (zbD s1.r s1.ws[j].t=true→∀ (k:Nat) (u:MTx),s1.ws[k]?=some u→zbZ s1 j (k:Int)=zbZ s1 (j+1) (if s1.ws[j].t.site<u.t.site then (j:Int)else (k:Int))):=zac fun h k u hu=>zk3 hm hu h
           have hmr:=HL.out.inv.rt _ (yaw hjl);obtain⟨⟨hms0,hms4⟩,⟨hmq0,hmq1⟩,_,_⟩:=zar hmr;have HRDY:Hid (zbD s1.r s1.ws[j].t=(decide (s1.ws[j].t.seq=s1.at s1.ws[j].t.site+1)&&zdp s1.p0 s1.p1 s1.p2 s1.p3 s1.ws[j].t.d0 s1.ws[j].t.d1 s1.ws[j].t.d2 s1.ws[j].t.d3)):=zac rfl;clear hm hmr;obtain⟨rd,hrd⟩:∃ rd,zbD s1.r s1.ws[j].t=rd:=⟨_,rfl⟩;rw[hrd]at HRDY HNOr HNEW HCMP;clear hrd;generalize s1.ws[j]=m at *;obtain⟨⟨msite,mseq,mwall,mcount,md0,md1,md2,md3,mws⟩,mA,mc⟩:=m;simp only at k0 k1 k2 k3 k4 k5 k6 k7 k8 HRDY HNOr HNEW HCMP hms0 hms4 hmq0 hmq1;obtain⟨mst,rfl⟩:=yar hms0;have hmst4:mst<4:=by omega
           obtain⟨ap1,hap1⟩:∃ ap1,s1.at (mst:Int)=ap1:=⟨_,rfl⟩;have hapb:=HL.out.inv.ap (mst:Int);rw[hap1]at hapb HRDY;have HAP1:=zac hap1;obtain⟨hapb0,hapb1⟩:=hapb;have hwr1:IntKind.i64.wrap (ap1+1)=ap1+1:=by rw[ybm];omega
           clear hap1;haveI:zaj (gb+1) X:=⟨hgb⟩;haveI:zaj (y+1) X:=⟨HLX.out.at_.sto.lt⟩;go_upto_region 21 with fail;have HBM:Hid ((X.alloc (.cells #[(mst:Int),mseq,mwall,mcount,md0,md1,md2,md3,.slice mA mws.length mc] 44)).heap[X.heap.size]?=some (.cells #[(mst:Int),mseq,mwall,mcount,md0,md1,md2,md3,.slice mA mws.length mc] 44)):=zac (zag rfl _);have HBB:Hid (Below X X (X.alloc (.cells #[(mst:Int),mseq,mwall,mcount,md0,md1,md2,md3,.slice mA mws.length mc] 44))):=zac zB;clear k0 k1 k2 k3 k4 k5 k6 k7 k8;generalize X.alloc (.cells #[(mst:Int),mseq,mwall,mcount,md0,md1,md2,md3,.slice mA mws.length mc] 44)=X2 at *;have HLX2:=zac (HLX.out.below HBB.out);have ca:=HLX2.out.at_.apc hmst4;rw[HAP1.out]at ca;obtain⟨v1,v2,v3,v4⟩:=HLX2.out.at_.vec;have c8:=HLX2.out.at_.c8;have hbm:=HBM.out;have f0:=zaa hbm 0;have f1:=zaa hbm 1;have f2:=zaa hbm 2;have f3:=zaa hbm 3;have f4:=zaa hbm 4;have f5:=zaa hbm 5;have f6:=zaa hbm 6;have f7:=zaa hbm 7;have f8:=zaa hbm 8;simp only[zC,zD,zE]at f0 f1 f2 f3 f4 f5 f6 f7 f8;haveI:zaj (X.heap.size+1) X2:=⟨zae hbm⟩;haveI:zaj (y+1) X2:=⟨HLX2.out.at_.sto.lt⟩;clear hbm;have HBJ:Hid (Below W W X2):=zac (HBJ.out.trans (HBB.out.mono HBJ.out.size));have HSZX:=zac HBB.out.size;by_cases hq:mseq=ap1+1
           ·have hd1:(mseq==ap1+1)=true:=by simp[hq]
            have HCV:=zac fun Z=>zcn (show zdp s1.p0 s1.p1 s1.p2 s1.p3 md0 md1 md2 md3=rd by rw[HRDY.out,yae hq];simp) Z
            clear hq;cases hrdc:rd
            ·subst hrdc
             refine zaz fun x4=>?_
             go_wp2_with fail;go_roundw
             case rel=>exact⟨j+1,bz,by go_num,rfl,zO,(HNOr.out rfl bz).symm.trans HRB.out,HBZ.out,HBJ.out.trans (yaH (B:=X2.heap.size) zB HBJ.out.size)⟩
             case measure=>simp[intOf];omega
            ·subst hrdc
             by_cases hb0:bz=-1
             ·subst hb0
              have hd2:decide ((-1:Int)<0)=true:=by decide
              refine zaz fun x4=>?_
              go_wp2_with fail;go_roundw
              case rel=>exact⟨j+1,(j:Int),by go_num,rfl,zO,(HNEW.out rfl).symm.trans HRB.out,.inr ⟨j,rfl,hjl⟩,HBJ.out.trans (yaH (B:=X2.heap.size) zB HBJ.out.size)⟩
              case measure=>simp[intOf];omega
             ·obtain⟨k,rfl,hkl⟩:∃ k:Nat,bz=(k:Int)∧k<s1.ws.length:=HBZ.out.resolve_left hb0
              have hd2:decide ((k:Int)<0)=false:=zU;have hk0:(0:Int)≤(k:Int):=by omega
              have hki:(k:Int)<(s1.ws.length:Int):=by omega
              have hu:s1.ws[k]?=some s1.ws[k]:=yaa hkl;obtain⟨gb2,go2,hA2,_,u0,_⟩:=HLX2.out.at_.wat.1 k _ hu;obtain⟨rfl,rfl⟩:gb=gb2∧go=go2:=by simpa using hA2
              have HC:=zac (HCMP.out rfl k _ hu);clear hA2 hu hb0 hbg;generalize s1.ws[k].t.site=us at *;haveI:zaj (gb+1) X2:=⟨yac hgb HSZX.out⟩;by_cases hlt:(mst:Int)<us
              ·have hd3:decide ((mst:Int)<us)=true:=yae hlt
               have HC2:Hid (zbZ s1 j (k:Int)=zbZ s1 (j+1) (j:Int)):=zac (by rw[HC.out,yaj hlt]);clear hlt HC;refine zaz fun x4=>?_
               go_wp2_with fail;go_roundw
               case rel=>exact⟨j+1,(j:Int),by go_num,rfl,zO,HC2.out.symm.trans HRB.out,.inr ⟨j,rfl,hjl⟩,HBJ.out.trans (yaH (B:=X2.heap.size) zB HBJ.out.size)⟩
               case measure=>simp[intOf];omega
              ·have hd3:decide ((mst:Int)<us)=false:=yah hlt
               have HC2:Hid (zbZ s1 j (k:Int)=zbZ s1 (j+1) (k:Int)):=zac (by rw[HC.out,yad hlt]);clear hlt HC;refine zaz fun x4=>?_
               go_wp2_with fail;go_roundw
               case rel=>exact⟨j+1,(k:Int),by go_num,rfl,zO,HC2.out.symm.trans HRB.out,.inr ⟨k,rfl,hkl⟩,HBJ.out.trans (yaH (B:=X2.heap.size) zB HBJ.out.size)⟩
               case measure=>simp[intOf];omega
           ·have hd1:(mseq==ap1+1)=false:=by simpa using hq
            obtain rfl:rd=false:=by rw[HRDY.out,yah hq];rfl
            clear hq;refine zaw fun x4=>?_
            go_wp2_with fail;go_roundw
            case rel=>exact⟨j+1,bz,by go_num,rfl,zO,(HNOr.out rfl bz).symm.trans HRB.out,HBZ.out,HBJ.out.trans (yaH (B:=X2.heap.size) zB HBJ.out.size)⟩
            case measure=>simp[intOf];omega
          ·obtain rfl:j=s1.ws.length:=by omega
           have hjd:decide ((s1.ws.length:Int)<(s1.ws.length:Int))=false:=zU;have hrb:=HRB.out;rw[zk2]at hrb;clear HRB;rcases HBZ.out with hb1|⟨k,hb1,hkl⟩
           ·subst hb1
            have hd2:decide ((-1:Int)<0)=true:=by decide
            have HST:=zac (HLX.out.stop (.inr (by rw[←hrb];decide)));clear hrb hbg;go_wp2_with fail;go_ret;exact HDN0.out _ _ _ _ _ _ (HLX.out.below zB) HST.out
           ·subst hb1
            have hd2:decide ((k:Int)<0)=false:=zU;have hk0:(0:Int)≤(k:Int):=by omega
            have hki:(k:Int)<(s1.ws.length:Int):=by omega
            have hu:s1.ws[k]?=some s1.ws[k]:=yaa hkl;have HNX:=zac (HLX.out.next HL2.out hrb.symm hu);have hmr:=HLX.out.inv.rt _ (yaw hkl);have HMH:Hid (s1.has s1.ws[k]):=zac (.inr (yaw hkl));have HIN:=zac ((HLX.out.inv.drop k).apply (m:=s1.ws[k]) hmr);have HAP:=zac fun(Z:World) (A7:Option Addr) (c7:Nat) (h:zcp Z B y (zdS s1 k) (.slice Al1 s1.log.length cl1) A7 c7 av1) (hm:zaN Z s1.ws[k].A s1.ws[k].t.ws∧∀ b o,s1.ws[k].A=some ⟨b,o,none⟩→b<Z.heap.size∧¬za2 y (.slice Al1 s1.log.length cl1) av1 b)=>
             zfp B y c7 (zdS s1 k) (.slice Al1 s1.log.length cl1) av1 A7 s1.ws[k] Z h hm (zar hmr).1 (by have:=HLX.out.inv.len;have:=HL2.out;show s1.L.length≤800000;omega) (by have:=HL2.out;show s1.log.length≤100000;omega) (by have:=(zar hmr).2.2.2;omega)
            obtain⟨gb,go,rfl,hgb,k0,k1,k2,k3,k4,k5,k6,k7,k8⟩:=HLX.out.at_.wat.1 k _ hu;have hcap:=HLX.out.at_.wat.2.1;have c8:=HLX.out.at_.c8;clear hu hmr hrb hbg hjd hj;generalize s1.ws[k]=m at *;obtain⟨⟨msite,mseq,mwall,mcount,md0,md1,md2,md3,mws⟩,mA,mc⟩:=m;unfold MTx.val at HAP;simp only at k0 k1 k2 k3 k4 k5 k6 k7 k8;haveI:zaj (gb+1) X:=⟨hgb⟩;haveI:zaj (y+1) X:=⟨HLX.out.at_.sto.lt⟩;go_upto_region 26 with fail;have HBM:Hid ((X.alloc (.cells #[msite,mseq,mwall,mcount,md0,md1,md2,md3,.slice mA mws.length mc] 44)).heap[X.heap.size]?=some (.cells #[msite,mseq,mwall,mcount,md0,md1,md2,md3,.slice mA mws.length mc] 44)):=zac (zag rfl _);have HBB:Hid (Below X X (X.alloc (.cells #[msite,mseq,mwall,mcount,md0,md1,md2,md3,.slice mA mws.length mc] 44))):=zac zB;clear k0 k1 k2 k3 k4 k5 k6 k7 k8 c8;generalize X.alloc (.cells #[msite,mseq,mwall,mcount,md0,md1,md2,md3,.slice mA mws.length mc] 44)=X2 at *;have HLX2:=zac (HLX.out.below HBB.out);have HXT:=zac (HLX2.out.at_.wat.1.take k);have HXD0:=zac (HLX2.out.at_.wat.1.drop (k+1));have c8:=HLX2.out.at_.c8;have z8:=HLX2.out.at_.frz 8;haveI:zaj (y+1) X2:=⟨HLX2.out.at_.sto.lt⟩;have htk:(s1.ws.take k).length=k:=by simp;omega
            have hdk:(s1.ws.drop (k+1)).length=s1.ws.length-(k+1):=by simp
            have HTK:=zac htk;have HDK:=zac hdk;clear htk hdk;have hk1L:(k:Int)+1≤(s1.ws.length:Int):=by omega
            have hwk:IntKind.i64.wrap ((k:Int)+1)=(k:Int)+1:=by rw[ybm];omega
            have htn:((k:Int)+1).toNat=k+1:=by omega
            have h0k:(0:Int)≤(k:Int)+1:=by omega
            by_cases hck:wc1=k+1
            ·as_aux_lemma=>
             have HXD:Hid (zd9 X2 (some ⟨gb,go,none⟩) (s1.ws.drop (k+1))):=zac (by
              rw[show s1.ws.drop (k+1)=[]from yan (by rw[HDK.out];omega)];intro i m hm;simp at hm)
             subst hck;have hkc:(k:Int)≤(k:Int)+1:=by omega
             have hLc:(s1.ws.length:Int)≤(k:Int)+1:=by omega
             have HSK26:Hid (∀ Z:World,Below X2 X2 Z→Below X2 X2 Z∧Z.cell? ⟨y,8,none⟩=some (.slice (some ⟨gb,go,none⟩) s1.ws.length (k+1))∧Z.frozen? ⟨y,8,none⟩=false):=zac (fun Z hb=>⟨hb,(hb.cell (p:=⟨y,8,none⟩) HLX2.out.at_.sto.lt).trans c8,(yal (a:=⟨y,8,none⟩) (hb.block y HLX2.out.at_.sto.lt)).trans z8⟩);clear c8 z8;refine zbc 17 (S:=(fun Z=>Below X2 X2 Z∧Z.cell? ⟨y,8,none⟩=some (.slice (some ⟨gb,go,none⟩) s1.ws.length (k+1))∧Z.frozen? ⟨y,8,none⟩=false)) zK zK ?_ (fun hHeld=>?_)
             ·exact HSK26.out _ zV
             simp only[yat,yaQ,yau,yaA];refine zb6 0 hHeld ?_;refine zb6 2 hHeld ?_;refine zb6 3 hHeld ?_;refine zb6 4 hHeld ?_;refine zb6 5 hHeld ?_;refine zb6 6 hHeld ?_;refine zb6 7 hHeld ?_;refine zb6 9 hHeld ?_;refine zb6 10 hHeld ?_;refine zb6 11 hHeld ?_;refine zb6 12 hHeld ?_;refine zb6 13 hHeld ?_;refine zb6 14 hHeld ?_;refine zb6 15 hHeld ?_;refine zcT [1] (zaU rfl (fun K hK=>?_) ?_)
             ·as_aux_lemma=>
              go_simp;refine zbg hK (HSK26.out _ zV) ?_;clear hHeld hK K;intro hHeld;refine zcT [8] (zaU rfl (fun K hK=>?_) ?_)
              ·as_aux_lemma=>
               refine zcJ _ rfl (.tmp 176) (.tmp 182) rfl X2.heap.size X2.heap.size zM (by rw[zaq];exact zag rfl _) (yai _) (some ⟨gb,go,none⟩) (k+1) (s1.ws.take k) (by rw[HTK.out];simp[Act.eval,Act.put]) (HXT.out.below hHeld.1) (by rw[HTK.out];omega) ?_;intro A6 c6 w6 hown6 hgrow6;have HB6:=zac (yaE hHeld.1 hgrow6 hHeld.1.size (fun j e=>by simp at e;omega));have HO6:=zac hown6;haveI hs1:zaj X2.heap.size w6:=⟨HB6.out.size⟩;clear hown6 hgrow6;refine zbg hK (HSK26.out _ zV) ?_;clear hHeld hK K;intro hHeld;refine zcT [16] (zaU rfl (fun K hK=>?_) ?_)
               ·as_aux_lemma=>
                refine zbv _ rfl (.tmp 183) (.tmp 190) rfl X2.heap.size (.slice A6 (s1.ws.take k).length c6) (s1.ws.take k).length (s1.ws.take k) zM HO6.out (some ⟨gb,go,none⟩) ((k+1)-(k+1)) (s1.ws.drop (k+1)) (by rw[HDK.out];simp[Act.eval,Act.put] <;> omega) (HXD.out.below hHeld.1) (by rw[HDK.out,HTK.out];omega) hHeld.1.size rfl ?_;intro A7 c7 w7 hown7 hgrow7 hat7;have HB7:=zac (yaE HB6.out hgrow7 HB6.out.size (fun b e=>(zao HO6.out e).1));obtain⟨n7,hn7⟩:∃ n7,(s1.ws.take k++s1.ws.drop (k+1)).length=n7:=⟨_,rfl⟩;rw[hn7]at hown7 ⊢;have HN7:=zac hn7;have HO7:=zac hown7;clear hown7 hgrow7 hat7 hn7;refine zbg hK (HSK26.out _ zV) ?_;clear hHeld hK K;intro hHeld;refine wpAnyH_done zJ ?_ _;refine zes.normal ?_;have k8:=hHeld.2.1;have k9:=hHeld.2.2;clear hHeld;haveI hs3:zaj (y+1) w7:=⟨by have:=HB7.out.size;have:=HLX2.out.at_.sto.lt;omega⟩;haveI hs4:zaj (X.heap.size+1) w7:=⟨by have:=HB7.out.size;have:=zae HBM.out;omega⟩;go_upto_region 27 with fail;have HDR:Hid (zcp (w7.setCell ⟨y,8,none⟩ (.slice A7 n7 c7)) B y (zdS s1 k) (.slice Al1 s1.log.length cl1) A7 c7 av1∧zaO w (w7.setCell ⟨y,8,none⟩ (.slice A7 n7 c7)) (za2 y (.slice Al s.log.length cl) av) (za2 y (.slice Al1 s1.log.length cl1) av1)∧(∀ b o,A7=some ⟨b,o,none⟩→w.heap.size≤b)∧∀ m,s1.has m→zaN (w7.setCell ⟨y,8,none⟩ (.slice A7 n7 c7)) m.A m.t.ws∧∀ b o,m.A=some ⟨b,o,none⟩→b<(w7.setCell ⟨y,8,none⟩ (.slice A7 n7 c7)).heap.size∧¬za2 y (.slice Al1 s1.log.length cl1) av1 b):=zac (by
                 have hd:=HLX2.out.drop (A:=A7) (c:=c7) (k:=k) HB7.out (by rw[HN7.out];exact HO7.out);rw[HN7.out]at hd;exact hd)
                have HBM9:Hid ((w7.setCell ⟨y,8,none⟩ (.slice A7 n7 c7)).heap[X.heap.size]?=some (.cells #[msite,mseq,mwall,mcount,md0,md1,md2,md3,.slice mA mws.length mc] 44)):=zac (by
                 refine((zan w7 y 8 _).block X.heap.size ?_ ?_).trans ((HB7.out.block _ (zae HBM.out)).trans HBM.out)
                 ·have:=HB7.out.size;have:=zae HBM.out;omega
                 ·simp;have:=HLX.out.at_.sto.lt;omega)
                clear k8 k9 HB7 HO7 HN7 HB6 HO6;generalize w7.setCell ⟨y,8,none⟩ (.slice A7 n7 c7)=X9 at *;have hbm:=HBM9.out;have f0:=zaa hbm 0;have f1:=zaa hbm 1;have f2:=zaa hbm 2;have f3:=zaa hbm 3;have f4:=zaa hbm 4;have f5:=zaa hbm 5;have f6:=zaa hbm 6;have f7:=zaa hbm 7;have f8:=zaa hbm 8;simp only[zC,zD,zE]at f0 f1 f2 f3 f4 f5 f6 f7 f8;haveI:zaj (X.heap.size+1) X9:=⟨zae hbm⟩;haveI:zaj (y+1) X9:=⟨HDR.out.1.sto.lt⟩;clear hbm;go_wp2_with fail;go_at_call 75;refine(HAP.out X9 A7 c7 HDR.out.1 (HDR.out.2.2.2 _ HMH.out)).mono ?_;rintro e w10 ⟨rfl,lv2,av2,hs10,hf10⟩;have HR10:Hid (RLp w w10 B y s (⟨(⟨(st:Int),seq,wall,count,d0,d1,d2,d3,ws⟩:TxP),some ⟨b1,0,none⟩,c1⟩:MTx) (za2 y (.slice Al s.log.length cl) av) F (zbE (zdS s1 k) (⟨⟨msite,mseq,mwall,mcount,md0,md1,md2,md3,mws⟩,mA,mc⟩:MTx)) lv2 A7 c7 av2):=zac ⟨hs10,HDR.out.2.1.trans hf10,HIN.out,HNX.out.1,by have:=HNX.out.2;omega,fun m' hm'=>by
                 rcases zfj hm' with h1|h1
                 ·rcases h1 with h2|h2
                  ·exact HLX.out.has _ (.inl h2)
                  ·exact HLX.out.has _ (.inr (zeR h2))
                 ·exact HLX.out.has _ (h1 ▸ HMH.out),HDR.out.2.2.1⟩
                clear hs10 hf10 f0 f1 f2 f3 f4 f5 f6 f7 f8;go_wp2_with fail;go_roundw
                case rel=>exact⟨_,_,_,_,_,HR10.out.below zB⟩
                case measure=>
                 rw[HL.out.at_.wLen];have h1:=(HR10.out.below (wr':=_) zB).at_.wLen;have h2:=HNX.out.2
                 first
                  | (rw[h1];omega)
                  | (simp only[h1];omega)
               exact AllReadyH.nil
              exact AllReadyH.nil
             exact AllReadyH.nil
            ·as_aux_lemma=>
             have HXD:=HXD0;have hkc:(k:Int)≤(wc1:Int):=by omega
             have hLc:(s1.ws.length:Int)≤(wc1:Int):=by omega
             have HSK26:Hid (∀ Z:World,Below X2 X2 Z→Below X2 X2 Z∧Z.cell? ⟨y,8,none⟩=some (.slice (some ⟨gb,go,none⟩) s1.ws.length wc1)∧Z.frozen? ⟨y,8,none⟩=false):=zac (fun Z hb=>⟨hb,(hb.cell (p:=⟨y,8,none⟩) HLX2.out.at_.sto.lt).trans c8,(yal (a:=⟨y,8,none⟩) (hb.block y HLX2.out.at_.sto.lt)).trans z8⟩);clear c8 z8;refine zbc 17 (S:=(fun Z=>Below X2 X2 Z∧Z.cell? ⟨y,8,none⟩=some (.slice (some ⟨gb,go,none⟩) s1.ws.length wc1)∧Z.frozen? ⟨y,8,none⟩=false)) zK zK ?_ (fun hHeld=>?_)
             ·exact HSK26.out _ zV
             simp only[yat,yaQ,yau,yaA];refine zb6 0 hHeld ?_;refine zb6 2 hHeld ?_;refine zb6 3 hHeld ?_;refine zb6 4 hHeld ?_;refine zb6 5 hHeld ?_;refine zb6 6 hHeld ?_;refine zb6 7 hHeld ?_;refine zb6 9 hHeld ?_;refine zb6 10 hHeld ?_;refine zb6 11 hHeld ?_;refine zb6 12 hHeld ?_;refine zb6 13 hHeld ?_;refine zb6 14 hHeld ?_;refine zb6 15 hHeld ?_;refine zcT [1] (zaU rfl (fun K hK=>?_) ?_)
             ·as_aux_lemma=>
              go_simp;refine zbg hK (HSK26.out _ zV) ?_;clear hHeld hK K;intro hHeld;refine zcT [8] (zaU rfl (fun K hK=>?_) ?_)
              ·as_aux_lemma=>
               refine zcJ _ rfl (.tmp 176) (.tmp 182) rfl X2.heap.size X2.heap.size zM (by rw[zaq];exact zag rfl _) (yai _) (some ⟨gb,go,none⟩) wc1 (s1.ws.take k) (by rw[HTK.out];simp[Act.eval,Act.put]) (HXT.out.below hHeld.1) (by rw[HTK.out];omega) ?_;intro A6 c6 w6 hown6 hgrow6;have HB6:=zac (yaE hHeld.1 hgrow6 hHeld.1.size (fun j e=>by simp at e;omega));have HO6:=zac hown6;haveI hs1:zaj X2.heap.size w6:=⟨HB6.out.size⟩;clear hown6 hgrow6;refine zbg hK (HSK26.out _ zV) ?_;clear hHeld hK K;intro hHeld;refine zcT [16] (zaU rfl (fun K hK=>?_) ?_)
               ·as_aux_lemma=>
                refine zbv _ rfl (.tmp 183) (.tmp 190) rfl X2.heap.size (.slice A6 (s1.ws.take k).length c6) (s1.ws.take k).length (s1.ws.take k) zM HO6.out (some ⟨gb,go+(k+1)*9,none⟩) (wc1-(k+1)) (s1.ws.drop (k+1)) (by rw[HDK.out];simp[Act.eval,Act.put] <;> omega) (HXD.out.below hHeld.1) (by rw[HDK.out,HTK.out];omega) hHeld.1.size rfl ?_;intro A7 c7 w7 hown7 hgrow7 hat7;have HB7:=zac (yaE HB6.out hgrow7 HB6.out.size (fun b e=>(zao HO6.out e).1));obtain⟨n7,hn7⟩:∃ n7,(s1.ws.take k++s1.ws.drop (k+1)).length=n7:=⟨_,rfl⟩;rw[hn7]at hown7 ⊢;have HN7:=zac hn7;have HO7:=zac hown7;clear hown7 hgrow7 hat7 hn7;refine zbg hK (HSK26.out _ zV) ?_;clear hHeld hK K;intro hHeld;refine wpAnyH_done zJ ?_ _;refine zes.normal ?_;have k8:=hHeld.2.1;have k9:=hHeld.2.2;clear hHeld;haveI hs3:zaj (y+1) w7:=⟨by have:=HB7.out.size;have:=HLX2.out.at_.sto.lt;omega⟩;haveI hs4:zaj (X.heap.size+1) w7:=⟨by have:=HB7.out.size;have:=zae HBM.out;omega⟩;go_upto_region 27 with fail;have HDR:Hid (zcp (w7.setCell ⟨y,8,none⟩ (.slice A7 n7 c7)) B y (zdS s1 k) (.slice Al1 s1.log.length cl1) A7 c7 av1∧zaO w (w7.setCell ⟨y,8,none⟩ (.slice A7 n7 c7)) (za2 y (.slice Al s.log.length cl) av) (za2 y (.slice Al1 s1.log.length cl1) av1)∧(∀ b o,A7=some ⟨b,o,none⟩→w.heap.size≤b)∧∀ m,s1.has m→zaN (w7.setCell ⟨y,8,none⟩ (.slice A7 n7 c7)) m.A m.t.ws∧∀ b o,m.A=some ⟨b,o,none⟩→b<(w7.setCell ⟨y,8,none⟩ (.slice A7 n7 c7)).heap.size∧¬za2 y (.slice Al1 s1.log.length cl1) av1 b):=zac (by
                 have hd:=HLX2.out.drop (A:=A7) (c:=c7) (k:=k) HB7.out (by rw[HN7.out];exact HO7.out);rw[HN7.out]at hd;exact hd)
                have HBM9:Hid ((w7.setCell ⟨y,8,none⟩ (.slice A7 n7 c7)).heap[X.heap.size]?=some (.cells #[msite,mseq,mwall,mcount,md0,md1,md2,md3,.slice mA mws.length mc] 44)):=zac (by
                 refine((zan w7 y 8 _).block X.heap.size ?_ ?_).trans ((HB7.out.block _ (zae HBM.out)).trans HBM.out)
                 ·have:=HB7.out.size;have:=zae HBM.out;omega
                 ·simp;have:=HLX.out.at_.sto.lt;omega)
                clear k8 k9 HB7 HO7 HN7 HB6 HO6;generalize w7.setCell ⟨y,8,none⟩ (.slice A7 n7 c7)=X9 at *;have hbm:=HBM9.out;have f0:=zaa hbm 0;have f1:=zaa hbm 1;have f2:=zaa hbm 2;have f3:=zaa hbm 3;have f4:=zaa hbm 4;have f5:=zaa hbm 5;have f6:=zaa hbm 6;have f7:=zaa hbm 7;have f8:=zaa hbm 8;simp only[zC,zD,zE]at f0 f1 f2 f3 f4 f5 f6 f7 f8;haveI:zaj (X.heap.size+1) X9:=⟨zae hbm⟩;haveI:zaj (y+1) X9:=⟨HDR.out.1.sto.lt⟩;clear hbm;go_wp2_with fail;go_at_call 75;refine(HAP.out X9 A7 c7 HDR.out.1 (HDR.out.2.2.2 _ HMH.out)).mono ?_;rintro e w10 ⟨rfl,lv2,av2,hs10,hf10⟩;have HR10:Hid (RLp w w10 B y s (⟨(⟨(st:Int),seq,wall,count,d0,d1,d2,d3,ws⟩:TxP),some ⟨b1,0,none⟩,c1⟩:MTx) (za2 y (.slice Al s.log.length cl) av) F (zbE (zdS s1 k) (⟨⟨msite,mseq,mwall,mcount,md0,md1,md2,md3,mws⟩,mA,mc⟩:MTx)) lv2 A7 c7 av2):=zac ⟨hs10,HDR.out.2.1.trans hf10,HIN.out,HNX.out.1,by have:=HNX.out.2;omega,fun m' hm'=>by
                 rcases zfj hm' with h1|h1
                 ·rcases h1 with h2|h2
                  ·exact HLX.out.has _ (.inl h2)
                  ·exact HLX.out.has _ (.inr (zeR h2))
                 ·exact HLX.out.has _ (h1 ▸ HMH.out),HDR.out.2.2.1⟩
                clear hs10 hf10 f0 f1 f2 f3 f4 f5 f6 f7 f8;go_wp2_with fail;go_roundw
                case rel=>exact⟨_,_,_,_,_,HR10.out.below zB⟩
                case measure=>
                 rw[HL.out.at_.wLen];have h1:=(HR10.out.below (wr':=_) zB).at_.wLen;have h2:=HNX.out.2
                 first
                  | (rw[h1];omega)
                  | (simp only[h1];omega)
               exact AllReadyH.nil
              exact AllReadyH.nil
             exact AllReadyH.nil
        ·have hd200:decide ((s1.log.length:Int)<200)=false:=zU
         have HST:=zac (HL.out.stop (.inl zO));go_wp2_with fail;go_ret;exact HDN0.out _ _ _ _ _ _ (HL.out.below zB) HST.out
end Go.Proofs.YtbopfhbeegkkaabGreatDoor
