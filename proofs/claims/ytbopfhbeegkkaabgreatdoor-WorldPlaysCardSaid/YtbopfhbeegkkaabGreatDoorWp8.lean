/- Part 8 of a proof: lemmas and contracts that other parts use. -/
import Derived.Test.YtbopfhbeegkkaabGreatDoorWp7
import Derived.Test.YtbopfhbeegkkaabGreatDoorWp6
import Derived.Test.YtbopfhbeegkkaabGreatDoorWp3
set_option linter.unusedVariables false
set_option linter.unusedSimpArgs false
set_option maxHeartbeats 8000000
set_option maxRecDepth 20000
namespace Go.Proofs.YtbopfhbeegkkaabGreatDoor
open Go.RowKit Go.Proofs.Tryz
theorem eqE_iff (bw bc bs bq:Int) (bd:ByteArray) (bg:Bool) (pw pc ps pq:Int) (pd:ByteArray) (pg:Bool):
  @decide ((⟨bw,bc,bs,bq,bd,bg⟩:zaE)=⟨pw,pc,ps,pq,pd,pg⟩) (Classical.propDecidable _)=(bw==pw&&bc==pc&&bs==ps&&bq==pq&&decide (bd=pd)&&bg==pg):=by
 rw[ybq];simp[and_assoc]
theorem eqVerB (w:World) (d:Nat) (xw xc xs xq:Int) (xd:ByteArray) (xg:Bool) (yw yc ys yq:Int) (yd:ByteArray) (yg:Bool):
  (Op.equalIn (d+3) 59 (.agg #[xw,xc,xs,xq,.string xd,.bool xg]) (.agg #[yw,yc,ys,yq,.string yd,.bool yg])).run prog w=
    .ok (xw==yw&&xc==yc&&xs==ys&&xq==yq&&decide (xd=yd)&&xg==yg) w:=by
 rw[run_equalIn_agg w (d+2) _ _ _ zK zK];by_cases h1:xw=yw
 case neg=>simp[go_sem,h1]
 by_cases h2:xc=yc
 case neg=>simp[go_sem,h1,h2]
 by_cases h3:xs=ys
 case neg=>simp[go_sem,h1,h2,h3]
 by_cases h4:xq=yq
 case neg=>simp[go_sem,h1,h2,h3,h4]
 by_cases h5:xd=yd
 case neg=>
  have h6:¬xd.toList=yd.toList:=fun e=>h5 (by
   obtain⟨xd⟩:=xd;obtain⟨yd⟩:=yd;rw[ya0,ya0]at e;exact yaS _ (Array.toList_inj.1 e))
  simp[go_sem,h1,h2,h3,h4,h5,h6]
 subst h5;by_cases h6:xg=yg <;> simp[go_sem,h1,h2,h3,h4,h6]
theorem zk6 (r o B:Nat) (L:List PtP) (v0:Value) (a0 a1 a2 a3:Int) (w:World) (hst:zgY w r o B L v0) (hok:∀ p∈L,0≤p.v.site∧p.v.site<4) (hlen:L.length≤900000) (hB:B≤w.heap.size):
  Calls prog 22 #[.pointer (some ⟨r,o,none⟩),.agg #[ii a0,ii a1,ii a2,ii a3]] w fun e w'=>e=.returned (.tuple #[])∧∃ v',zgY w' r o B (zee a0 a1 a2 a3 L) v'∧zng w w' r o v0 v':=by
 obtain⟨A,c,rfl⟩:=zaP hst.own;have hlr:=hst.lt;obtain⟨RS,hRS⟩:∃ RS,zee a0 a1 a2 a3 L=RS:=⟨_,rfl⟩;have HRS:=zac (show L.filter (zgb a0 a1 a2 a3 L)=RS from hRS);rw[hRS];clear hRS;have HLS:=zac fun(key:Int) w' (hb:Below w w w')=>ziI r o B L (.slice A L.length c) key a0 a1 a2 a3 w' (hst.below hb) hok hlen
 have HOK:=zac hok;have hBo:Below w w (w.alloc (.cells #[a0,a1,a2,a3] 32)):=zal (yaf _ _);have HSO:=zac (hst.below hBo);have HBO:=zac hBo;have HBX:Hid ((w.alloc (.cells #[a0,a1,a2,a3] 32)).heap[w.heap.size]?=some (.cells #[a0,a1,a2,a3] 32)):=zac (zag rfl _);have hso:(w.alloc (.cells #[a0,a1,a2,a3] 32)).heap.size=w.heap.size+1:=by simp
 clear hst hok hBo;go_enter func22,ntmps22;obtain⟨hc1,hc2⟩:=HSO.out.cell;have HPS:=zac (zhU HSO.out.own);have hpO:=HPS.out;haveI:zaj (r+1) w:=⟨hlr⟩;have hc1':w.cell? ⟨r,o,none⟩=some (.slice A L.length c):=by rw[←hc1];exact(HBO.out.cell (p:=⟨r,o,none⟩) hlr).symm
 clear hc1 hc2 hpO;go_wp2_with fail;generalize w.alloc (.cells #[a0,a1,a2,a3] 32)=wo at *;have HSZ:=zac hso;clear hso;obtain⟨i0,hi0,hz0,hz1,hz2⟩:=info141;go_loopw [4,14] (fun o i W=>∃ (m:Nat) (outs:List PtP) (Ao:Option Addr) (co:Nat),m≤L.length∧i=ii m∧o=.slice Ao outs.length co∧outs++(L.drop m).filter (zgb a0 a1 a2 a3 L)=RS∧
  W.ownsRow wo.heap.size 166 7 (.slice Ao outs.length co) outs.length (zaY outs)∧Below wo wo W∧outs.length≤m) (fun _ i _=>L.length-(intOf i).toNat)
 case atStart=>exact⟨0,[],none,0,yay _,rfl,rfl,by rw[yaA];exact HRS.out,⟨rfl,.inl ⟨rfl,rfl⟩⟩,yaf _ _,yai _⟩
 case round=>
  obtain⟨m,outs,Ao,co,hlm,rfl,rfl,hkp,hown,hbl,hol⟩:=hrel;obtain⟨W,rfl⟩:∃ W:World,W=wr:=⟨_,rfl⟩;have HOW:=zac hown;have HBW:=zac hbl;have HKP:=zac hkp;clear hown hbl hkp;by_cases hm:m<L.length
  ·obtain⟨b,o,rfl,hb,hc⟩:=HPS.out m L[m] (yaa hm)
   have hys:=HOK.out L[m] (yaw hm);have hdrop:L.drop m=L[m]::L.drop (m+1):=yaK hm;have hkp:=HKP.out;rw[hdrop,List.filter_cons]at hkp;generalize L[m]=p at *;obtain⟨pk,⟨pw,pc,ps,pq,pd,pg⟩⟩:=p;simp only at hys;obtain⟨st,rfl⟩:=yar hys.1;have hst4:st<4:=by omega
   obtain⟨d0,d1,d2,d3,d4,d5,d6⟩:=hc.below HBW.out hb;have hbxW:W.heap[w.heap.size]?=some (.cells #[a0,a1,a2,a3] 32):=by rw[HBW.out.block _ (zae HBX.out)];exact HBX.out
   have hat:=zex hbxW hst4;have e0:=zaa hbxW 0;have e1:=zaa hbxW 1;have e2:=zaa hbxW 2;have e3:=zaa hbxW 3;simp only[zC,zD,zE]at e0 e1 e2 e3;haveI:zaj (b+1) W:=⟨yac hb HBW.out.size⟩;haveI:zaj (w.heap.size+1) W:=⟨zae hbxW⟩;haveI:zaj w.heap.size W:=⟨by have:=zae hbxW;omega⟩;obtain⟨aS,haS⟩:∃ aS,atV a0 a1 a2 a3 (st:Int)=aS:=⟨_,rfl⟩;rw[haS]at hat
   have hsv2:zbJ a0 a1 a2 a3 ⟨pw,pc,(st:Int),pq,pd,pg⟩=decide (pq≤aS):=by unfold zbJ;rw[←haS]
   obtain⟨⟨⟨bw,bc,bs,bq,bd,bg⟩,sm⟩,hR⟩:∃ R,zen a0 a1 a2 a3 pk L=R:=⟨_,rfl⟩;have hkeep:zgb a0 a1 a2 a3 L (⟨pk,⟨pw,pc,(st:Int),pq,pd,pg⟩⟩:PtP)=(sm==false||(bw==pw&&bc==pc&&bs==(st:Int)&&bq==pq&&decide (bd=pd)&&bg==pg)||!decide (pq≤aS)):=by
    show((zen a0 a1 a2 a3 pk L).2==false||@decide ((zen a0 a1 a2 a3 pk L).1=⟨pw,pc,(st:Int),pq,pd,pg⟩) (Classical.propDecidable _)||!zbJ a0 a1 a2 a3 ⟨pw,pc,(st:Int),pq,pd,pg⟩)=_;rw[hR,hsv2,eqE_iff]
   rw[hkeep]at hkp;have HKQ:=zac hkp;have HL:=zac fun w' (hb:Below w w w')=>HLS.out pk w' hb
   rw[hR]at HL;unfold zbX at HL;have HBWw:=zac (HBO.out.trans (HBW.out.mono HBO.out.size));clear hkp hkeep hsv2 haS hdrop HKP hys hR hc hbxW;obtain⟨E,hE⟩:∃ E,(bw==pw&&bc==pc&&bs==(st:Int)&&bq==pq&&decide (bd=pd)&&bg==pg)=E:=⟨_,rfl⟩;rw[hE]at HKQ;have HEQ:∀ (w:World) (d:Nat),(Op.equalIn (d+3) 59 (.agg #[bw,bc,bs,bq,.string bd,.bool bg]) (.agg #[pw,pc,(st:Int),pq,.string pd,.bool pg])).run prog w=.ok E w:=fun w d=>by rw[eqVerB,hE]
   clear hE;go_wp2_with fail;go_at_call 90;refine(HL.out _ (HBWw.out.trans (yaH (B:=W.heap.size) zB HBWw.out.size))).mono ?_;rintro e w' ⟨rfl,hb⟩;obtain⟨x,rfl⟩:=zad hb;clear hb HL;go_wp2_with fail;cases sm
   ·have HK2:Hid ((outs++[(⟨pk,⟨pw,pc,(st:Int),pq,pd,pg⟩⟩:PtP)])++(L.drop (m+1)).filter (zgb a0 a1 a2 a3 L)=RS):=zac (by rw[←HKQ.out];simp )
    clear HKQ;refine zaw fun x3=>?_
    have HCUR:=zac (show Below W W (zai ((zai (W.alloc (.cells #[pk,pw,pc,(st:Int),pq,.string pd,.bool pg] 166)) x).alloc (.cells #[bw,bc,bs,bq,.string bd,.bool bg] 59)) x3)from zB);have HOC:=zac (zaF HOW.out HCUR.out (fun k e=>(zao HOW.out e).2));have HBC:=zac (HBW.out.trans (HCUR.out.mono HBW.out.size));have HXC:=zac (show(zai ((zai (W.alloc (.cells #[pk,pw,pc,(st:Int),pq,.string pd,.bool pg] 166)) x).alloc (.cells #[bw,bc,bs,bq,.string bd,.bool bg] 59)) x3).heap[W.heap.size]?=some (.cells #[pk,pw,pc,(st:Int),pq,.string pd,.bool pg] 166)from (zak _ x3 _ zP).trans (zaC ((zak _ x _ zS).trans (zag rfl _)) _));generalize zai ((zai (W.alloc (.cells #[pk,pw,pc,(st:Int),pq,.string pd,.bool pg] 166)) x).alloc (.cells #[bw,bc,bs,bq,.string bd,.bool bg] 59)) x3=WC at *;have g0:=zaa HXC.out 0;have g1:=zaa HXC.out 1;have g2:=zaa HXC.out 2;have g3:=zaa HXC.out 3;have g4:=zaa HXC.out 4;have g5:=zaa HXC.out 5;have g6:=zaa HXC.out 6;simp only[zC,zD,zE]at g0 g1 g2 g3 g4 g5 g6;have hsC:=HBC.out.size;go_wp2_with (at_builtin;go_must (refine wpList_append_lies _ rfl _ _ 36 rfl wo.heap.size 166 i0 (.agg #[ii 0,ii 0,ii 0,ii 0,ii 0,.string ⟨#[]⟩,.bool false]) 7 64 underlying36 hi0 hz0 hz1 hz2 rfl zI (.slice Ao outs.length co) outs.length (zaY outs) rfl (HOC.out.alloc _) ⟨WC,0,none⟩ 1 1 [ii pk,ii pw,ii pc,ii (st:Int),ii pq,.string pd,.bool pg] rfl rfl (zff rfl) ?c1 zI ?c2 ?c3 ?c4 _ rfl ?_))
    case c1=>first|exact⟨rfl,rfl,rfl,rfl,rfl,rfl,rfl⟩|(intro u hu;simp at hu;rcases hu with rfl|rfl|rfl|rfl|rfl|rfl|rfl <;> rfl)
    case c2=>refine yac ?_ maxLen_ge;omega
    case c3=>omega
    case c4=>first|omega|(simp;omega)
    intro gq cap1 w1 hown1 hgrow hgl hlt1;have HN1:Hid (w1.ownsRow wo.heap.size 166 7 (.slice (some ⟨gq,0,none⟩) (outs++[(⟨pk,⟨pw,pc,(st:Int),pq,pd,pg⟩⟩:PtP)]).length cap1) (outs++[(⟨pk,⟨pw,pc,(st:Int),pq,pd,pg⟩⟩:PtP)]).length (zaY (outs++[(⟨pk,⟨pw,pc,(st:Int),pq,pd,pg⟩⟩:PtP)]))):=zac (by
     have e:(outs++[(⟨pk,⟨pw,pc,(st:Int),pq,pd,pg⟩⟩:PtP)]).length=outs.length+1:=by simp
     rw[e,zcf];exact hown1)
    have HB1:Hid (Below wo wo w1):=zac (yaE HBC.out (zau hgrow) HBC.out.size (fun j e=>(zao HOW.out e).1));clear hown1 hgrow hgl hlt1;go_wp2_with fail;go_roundw
    case rel=>exact⟨m+1,outs++[(⟨pk,⟨pw,pc,(st:Int),pq,pd,pg⟩⟩:PtP)],some ⟨gq,0,none⟩,cap1,zO,by go_num,zS,HK2.out,HN1.out,HB1.out,by simp;omega⟩
    case measure=>simp[intOf];omega
   ·cases E
    ·by_cases hq:pq≤aS
     ·have hd1:decide (pq≤aS)=true:=yae hq
      have hd2:decide (aS<pq)=false:=zU;have HK2:Hid (outs++(L.drop (m+1)).filter (zgb a0 a1 a2 a3 L)=RS):=zac (by rw[←HKQ.out];simp[hd1]);clear HKQ;refine zaw fun x3=>?_
      have HCUR:=zac (show Below W W (zai ((zai (W.alloc (.cells #[pk,pw,pc,(st:Int),pq,.string pd,.bool pg] 166)) x).alloc (.cells #[bw,bc,bs,bq,.string bd,.bool bg] 59)) x3)from zB);have HOC:=zac (zaF HOW.out HCUR.out (fun k e=>(zao HOW.out e).2));have HBC:=zac (HBW.out.trans (HCUR.out.mono HBW.out.size));go_wp2_with fail;go_roundw
      case rel=>exact⟨m+1,outs,Ao,co,zO,by go_num,rfl,HK2.out,HOC.out,HBC.out,zO⟩
      case measure=>simp[intOf];omega
     ·have hd1:decide (pq≤aS)=false:=yah hq
      have hd2:decide (aS<pq)=true:=zT;have HK2:Hid ((outs++[(⟨pk,⟨pw,pc,(st:Int),pq,pd,pg⟩⟩:PtP)])++(L.drop (m+1)).filter (zgb a0 a1 a2 a3 L)=RS):=zac (by rw[←HKQ.out];simp[hd1]);clear HKQ;refine zaw fun x3=>?_
      have HCUR:=zac (show Below W W (zai ((zai (W.alloc (.cells #[pk,pw,pc,(st:Int),pq,.string pd,.bool pg] 166)) x).alloc (.cells #[bw,bc,bs,bq,.string bd,.bool bg] 59)) x3)from zB);have HOC:=zac (zaF HOW.out HCUR.out (fun k e=>(zao HOW.out e).2));have HBC:=zac (HBW.out.trans (HCUR.out.mono HBW.out.size));have HXC:=zac (show(zai ((zai (W.alloc (.cells #[pk,pw,pc,(st:Int),pq,.string pd,.bool pg] 166)) x).alloc (.cells #[bw,bc,bs,bq,.string bd,.bool bg] 59)) x3).heap[W.heap.size]?=some (.cells #[pk,pw,pc,(st:Int),pq,.string pd,.bool pg] 166)from (zak _ x3 _ zP).trans (zaC ((zak _ x _ zS).trans (zag rfl _)) _));generalize zai ((zai (W.alloc (.cells #[pk,pw,pc,(st:Int),pq,.string pd,.bool pg] 166)) x).alloc (.cells #[bw,bc,bs,bq,.string bd,.bool bg] 59)) x3=WC at *;have g0:=zaa HXC.out 0;have g1:=zaa HXC.out 1;have g2:=zaa HXC.out 2;have g3:=zaa HXC.out 3;have g4:=zaa HXC.out 4;have g5:=zaa HXC.out 5;have g6:=zaa HXC.out 6;simp only[zC,zD,zE]at g0 g1 g2 g3 g4 g5 g6;have hsC:=HBC.out.size;go_wp2_with (at_builtin;go_must (refine wpList_append_lies _ rfl _ _ 36 rfl wo.heap.size 166 i0 (.agg #[ii 0,ii 0,ii 0,ii 0,ii 0,.string ⟨#[]⟩,.bool false]) 7 64 underlying36 hi0 hz0 hz1 hz2 rfl zI (.slice Ao outs.length co) outs.length (zaY outs) rfl (HOC.out.alloc _) ⟨WC,0,none⟩ 1 1 [ii pk,ii pw,ii pc,ii (st:Int),ii pq,.string pd,.bool pg] rfl rfl (zff rfl) ?c1 zI ?c2 ?c3 ?c4 _ rfl ?_))
      case c1=>first|exact⟨rfl,rfl,rfl,rfl,rfl,rfl,rfl⟩|(intro u hu;simp at hu;rcases hu with rfl|rfl|rfl|rfl|rfl|rfl|rfl <;> rfl)
      case c2=>refine yac ?_ maxLen_ge;omega
      case c3=>omega
      case c4=>first|omega|(simp;omega)
      intro gq cap1 w1 hown1 hgrow hgl hlt1;have HN1:Hid (w1.ownsRow wo.heap.size 166 7 (.slice (some ⟨gq,0,none⟩) (outs++[(⟨pk,⟨pw,pc,(st:Int),pq,pd,pg⟩⟩:PtP)]).length cap1) (outs++[(⟨pk,⟨pw,pc,(st:Int),pq,pd,pg⟩⟩:PtP)]).length (zaY (outs++[(⟨pk,⟨pw,pc,(st:Int),pq,pd,pg⟩⟩:PtP)]))):=zac (by
       have e:(outs++[(⟨pk,⟨pw,pc,(st:Int),pq,pd,pg⟩⟩:PtP)]).length=outs.length+1:=by simp
       rw[e,zcf];exact hown1)
      have HB1:Hid (Below wo wo w1):=zac (yaE HBC.out (zau hgrow) HBC.out.size (fun j e=>(zao HOW.out e).1));clear hown1 hgrow hgl hlt1;go_wp2_with fail;go_roundw
      case rel=>exact⟨m+1,outs++[(⟨pk,⟨pw,pc,(st:Int),pq,pd,pg⟩⟩:PtP)],some ⟨gq,0,none⟩,cap1,zO,by go_num,zS,HK2.out,HN1.out,HB1.out,by simp;omega⟩
      case measure=>simp[intOf];omega
    ·have HK2:Hid ((outs++[(⟨pk,⟨pw,pc,(st:Int),pq,pd,pg⟩⟩:PtP)])++(L.drop (m+1)).filter (zgb a0 a1 a2 a3 L)=RS):=zac (by rw[←HKQ.out];simp )
     clear HKQ;refine zaw fun x3=>?_
     have HCUR:=zac (show Below W W (zai ((zai (W.alloc (.cells #[pk,pw,pc,(st:Int),pq,.string pd,.bool pg] 166)) x).alloc (.cells #[bw,bc,bs,bq,.string bd,.bool bg] 59)) x3)from zB);have HOC:=zac (zaF HOW.out HCUR.out (fun k e=>(zao HOW.out e).2));have HBC:=zac (HBW.out.trans (HCUR.out.mono HBW.out.size));have HXC:=zac (show(zai ((zai (W.alloc (.cells #[pk,pw,pc,(st:Int),pq,.string pd,.bool pg] 166)) x).alloc (.cells #[bw,bc,bs,bq,.string bd,.bool bg] 59)) x3).heap[W.heap.size]?=some (.cells #[pk,pw,pc,(st:Int),pq,.string pd,.bool pg] 166)from (zak _ x3 _ zP).trans (zaC ((zak _ x _ zS).trans (zag rfl _)) _));generalize zai ((zai (W.alloc (.cells #[pk,pw,pc,(st:Int),pq,.string pd,.bool pg] 166)) x).alloc (.cells #[bw,bc,bs,bq,.string bd,.bool bg] 59)) x3=WC at *;have g0:=zaa HXC.out 0;have g1:=zaa HXC.out 1;have g2:=zaa HXC.out 2;have g3:=zaa HXC.out 3;have g4:=zaa HXC.out 4;have g5:=zaa HXC.out 5;have g6:=zaa HXC.out 6;simp only[zC,zD,zE]at g0 g1 g2 g3 g4 g5 g6;have hsC:=HBC.out.size;go_wp2_with (at_builtin;go_must (refine wpList_append_lies _ rfl _ _ 36 rfl wo.heap.size 166 i0 (.agg #[ii 0,ii 0,ii 0,ii 0,ii 0,.string ⟨#[]⟩,.bool false]) 7 64 underlying36 hi0 hz0 hz1 hz2 rfl zI (.slice Ao outs.length co) outs.length (zaY outs) rfl (HOC.out.alloc _) ⟨WC,0,none⟩ 1 1 [ii pk,ii pw,ii pc,ii (st:Int),ii pq,.string pd,.bool pg] rfl rfl (zff rfl) ?c1 zI ?c2 ?c3 ?c4 _ rfl ?_))
     case c1=>first|exact⟨rfl,rfl,rfl,rfl,rfl,rfl,rfl⟩|(intro u hu;simp at hu;rcases hu with rfl|rfl|rfl|rfl|rfl|rfl|rfl <;> rfl)
     case c2=>refine yac ?_ maxLen_ge;omega
     case c3=>omega
     case c4=>first|omega|(simp;omega)
     intro gq cap1 w1 hown1 hgrow hgl hlt1;have HN1:Hid (w1.ownsRow wo.heap.size 166 7 (.slice (some ⟨gq,0,none⟩) (outs++[(⟨pk,⟨pw,pc,(st:Int),pq,pd,pg⟩⟩:PtP)]).length cap1) (outs++[(⟨pk,⟨pw,pc,(st:Int),pq,pd,pg⟩⟩:PtP)]).length (zaY (outs++[(⟨pk,⟨pw,pc,(st:Int),pq,pd,pg⟩⟩:PtP)]))):=zac (by
      have e:(outs++[(⟨pk,⟨pw,pc,(st:Int),pq,pd,pg⟩⟩:PtP)]).length=outs.length+1:=by simp
      rw[e,zcf];exact hown1)
     have HB1:Hid (Below wo wo w1):=zac (yaE HBC.out (zau hgrow) HBC.out.size (fun j e=>(zao HOW.out e).1));clear hown1 hgrow hgl hlt1;go_wp2_with fail;go_roundw
     case rel=>exact⟨m+1,outs++[(⟨pk,⟨pw,pc,(st:Int),pq,pd,pg⟩⟩:PtP)],some ⟨gq,0,none⟩,cap1,zO,by go_num,zS,HK2.out,HN1.out,HB1.out,by simp;omega⟩
     case measure=>simp[intOf];omega
  ·obtain rfl:m=L.length:=by omega
   have hkp:=HKP.out;rw[ybt]at hkp;obtain rfl:outs=RS:=by simpa using hkp
   have hup:=zgY.upd HSO.out (zeU HBW.out _) (zeK HOW.out (yac hB HBO.out.size)) (.inr fun b e=>(zao HOW.out e).1);have HU:Hid (∃ v',zgY (W.setCell ⟨r,o,none⟩ (.slice Ao outs.length co)) r o B outs v'∧zng w (W.setCell ⟨r,o,none⟩ (.slice Ao outs.length co)) r o (.slice A L.length c) v'):=zac ⟨_,hup.1,hup.2.from hlr HBO.out⟩;have q1:W.cell? ⟨r,o,none⟩=some (.slice A L.length c):=by rw[HBW.out.cell (p:=⟨r,o,none⟩) (HSO.out.lt)];exact HSO.out.cell.1
   have q2:W.frozen? ⟨r,o,none⟩=false:=by rw[yal (HBW.out.block r (HSO.out.lt))];exact HSO.out.cell.2
   clear hup hkp HKP hlm hm;go_wp2_with fail;refine ybi (ya3 rfl _ _ _) rfl ⟨rfl,HU.out⟩
def zgX (w:World) (A:Option Addr) (ts:List ByteArray):Prop:=∀ (i:Nat) (x:ByteArray),ts[i]?=some x→∃ b o,A=some ⟨b,o,none⟩∧b<w.heap.size∧w.cell? ⟨b,o+i,none⟩=some (.string x)
theorem zgX.below {w w':World}{A:Option Addr}{ts:List ByteArray}(h:zgX w A ts) (hb:Below w w w'):zgX w' A ts:=fun i x hx=>by
 obtain⟨b,o,hA,hlt,h0⟩:=h i x hx;exact⟨b,o,hA,yab hlt hb.size,by rw[hb.cell (p:=⟨b,o+i,none⟩) hlt];exact h0⟩
def zbM (ts:List ByteArray):List Value:=ts.map fun s=>.string s
theorem ziK {w:World}{B c:Nat}{A:Option Addr}{ts:List ByteArray}(h:w.ownsRow B 9 1 (.slice A ts.length c) ts.length (zbM ts)):zgX w A ts:=by
 intro i x hx;obtain⟨hl,hn|⟨g,cap,cur,hv,hb,hg,rest⟩⟩:=id h
 ·have:ts=[]:=yan hn.2
  subst this;simp at hx
 ·simp only[yaP]at hv
  obtain⟨rfl,_,rfl⟩:=hv;have hc:=h.cells (g:=g) rfl;have h0:(zbM ts)[i]?=some (.string x):=by simp[zbM,hx]
  have e:∀ j:Nat,(⟨g,0,none⟩:Addr).add j=⟨g,0+j,none⟩:=fun j=>by unfold Addr.add;split <;> simp_all
  have k0:=hc _ _ h0;rw[e]at k0;exact⟨g,0,rfl,(yaV.1 hg).1,k0⟩
def txtOf (r:zaE×Int):ByteArray:=if r.2=0 then ⟨#[61]⟩++r.1.data else ⟨#[]⟩
def zdG (R:Nat→zaE×Int) (k:Nat):List ByteArray:=(List.range k).map fun i=>txtOf (R i)
theorem zg1 (R:Nat→zaE×Int) (k:Nat):zdG R (k+1)=zdG R k++[txtOf (R k)]:=by simp[zdG,ycn]
theorem zl5 (R:Nat→zaE×Int) (k:Nat):(zdG R k).length=k:=by simp[zdG]
theorem info9o:(prog.info? 9).map (fun i=>(i.zero,i.size,i.bytes))=some (some (.string ⟨#[]⟩),1,16):=by kernel_rfl
theorem info9:∃ i,prog.info? 9=some i∧i.zero=some (.string ⟨#[]⟩)∧i.size=1∧i.bytes=16:=by
 obtain⟨i,hi,h⟩:=ya6.1 info9o;simp only[ybc]at h;exact⟨i,hi,h.1,h.2.1,h.2.2⟩
theorem zkr {w:World}{ab:Nat}{u0:Value}{t:TypeId}(h:w.heap[ab]?=some (.cells #[u0] t)):
  ∀ (j:Nat) (u:Value),[u0][j]?=some u→w.cell? ((⟨ab,0,none⟩:Addr).add j)=some u:=by
 intro j u hj;have e:(⟨ab,0,none⟩:Addr).add j=⟨ab,j,none⟩:=by unfold Addr.add;split <;> simp_all
 rw[e,zaa h j];simpa using hj
def zmQ (S:Nat→List zaE):Nat→Nat
 | 0=>0
 | k+1=>zmQ S k+(S k).length
theorem zmP {S:Nat→List zaE}{N:Nat}(h:∀ k,k<8→(S k).length≤N):∀ k,k≤8→zmQ S k≤k*N
 | 0,_=>by simp[zmQ]
 | k+1,hk=>by
   have:=zmP h k zO;have:=h k zO;unfold zmQ;rw[Nat.succ_mul];omega
theorem many_any (g o B:Nat) (S:Nat→List zaE) (sv:Nat→Value) (w:World) (hst:ze0 w g o B S sv) (hlen:∀ k,k<8→(S k).length≤900000):
  Calls prog 93 #[.pointer (some ⟨g,o,none⟩)] w fun e w'=>e=.returned (ii (zmQ S 8))∧Below w w w':=by
 have HST:=zac hst;have hlg:=hst.lt;have c0:=(hst.cell (k:=0) zO).1;have c1:=(hst.cell (k:=1) zO).1;have c2:=(hst.cell (k:=2) zO).1;have c3:=(hst.cell (k:=3) zO).1;have c4:=(hst.cell (k:=4) zO).1;have c5:=(hst.cell (k:=5) zO).1;have c6:=(hst.cell (k:=6) zO).1;have c7:=(hst.cell (k:=7) zO).1;simp only[ycv]at c0;have HLN:=zac (zmP hlen);have HL1:=zac hlen;haveI:zaj (g+1) w:=⟨hlg⟩;clear hst hlen;go_enter func93,ntmps93;go_wp2_with fail;go_loopw [3,10] (fun n i wr=>∃ k:Nat,k≤8∧i=ii k∧n=ii (zmQ S k)∧Below w w wr) (fun _ i _=>8-(intOf i).toNat)
 case atStart=>exact⟨0,zO,rfl,rfl,yaf _ _⟩
 case round=>
  obtain⟨k,hk,rfl,rfl,hbl⟩:=hrel;obtain⟨x,rfl⟩:=zad hbl;clear hbl;have hn:=HLN.out k hk;by_cases hlt:k<8
  ·have hm:=HL1.out k hlt
   have hkd:decide ((k:Int)<8)=true:=zT;obtain⟨A,c,hsv⟩:=zaP (HST.out.own k hlt);have HN:Hid (zmQ S (k+1)=zmQ S k+(S k).length):=zac rfl;go_wp2_with fail;go_roundw
   case rel=>exact⟨k+1,zO,by go_num,yaS (Value.int IntKind.i64) (by rw[HN.out];go_num),zB⟩
   case measure=>simp[intOf];omega
  ·obtain rfl:k=8:=by omega
   have hkd:decide ((8:Int)<8)=false:=by decide
   go_wp2_with fail;go_ret;exact⟨rfl,zB⟩
theorem all_any (g o B:Nat) (S:Nat→List zaE) (sv:Nat→Value) (a0 a1 a2 a3:Int) (R:Nat→zaE×Int) (w:World) (hst:ze0 w g o B S sv) (hok:∀ k,k<8→∀ x∈S k,0≤x.site∧x.site<4) (hlen:∀ k,k<8→(S k).length≤900000) (hR:∀ k:Nat,k<8→R k=zcO a0 a1 a2 a3 S k) (hd:∀ k:Nat,k<8→(R k).1.data.size≤1000000):
  Calls prog 94 #[.pointer (some ⟨g,o,none⟩),.agg #[ii a0,ii a1,ii a2,ii a3]] w fun e w'=>∃ A' c',e=.returned (.slice A' 8 c')∧zgX w' A' (zdG R 8)∧Below w w w':=by
 have HRD:Hid (∀ (k:Nat) (w':World),k<8→Below w w w'→Calls prog 92 #[.pointer (some ⟨g,o,none⟩),k,.agg #[ii a0,ii a1,ii a2,ii a3]] w' fun e w''=>e=.returned (.tuple #[zbX (R k).1,zbT (R k).2])∧Below w' w' w''):=zac (by
  intro k w' hk hb;rw[hR k hk];exact ziC g o B S sv k a0 a1 a2 a3 w' (hst.below hb) hok hlen)
 have HD:=zac hd;clear hst hR hd;go_enter func94,ntmps94;obtain⟨i0,hi0,hz0,hz1,hz2⟩:=info9;have HBO:Hid (Below w w (w.alloc (.cells #[a0,a1,a2,a3] 32))):=zac (zal (yaf _ _));have HBX:Hid ((w.alloc (.cells #[a0,a1,a2,a3] 32)).heap[w.heap.size]?=some (.cells #[a0,a1,a2,a3] 32)):=zac (zag rfl _);go_wp2_with fail;generalize w.alloc (.cells #[a0,a1,a2,a3] 32)=wo at *;go_loopw [5,9] (fun oo i W=>∃ (k:Nat) (outs:List ByteArray) (Ao:Option Addr) (co:Nat),k≤8∧i=ii k∧oo=.slice Ao outs.length co∧outs=zdG R k∧outs.length=k∧
  W.ownsRow wo.heap.size 9 1 (.slice Ao outs.length co) outs.length (zbM outs)∧Below wo wo W) (fun _ i _=>8-(intOf i).toNat)
 case atStart=>exact⟨0,[],none,0,zO,rfl,rfl,rfl,rfl,⟨rfl,.inl ⟨rfl,rfl⟩⟩,yaf _ _⟩
 case round=>
  obtain⟨k,outs,Ao,co,hk,rfl,rfl,hout,hol,hown,hbl⟩:=hrel;obtain⟨W,rfl⟩:∃ W:World,W=wr:=⟨_,rfl⟩;have HOUT:=zac hout;have HOW:=zac hown;have HBW:=zac hbl;have HOL:=zac hol;clear hown hbl hout hol;by_cases hlt:k<8
  ·have hbxW:W.heap[w.heap.size]?=some (.cells #[a0,a1,a2,a3] 32):=by rw[HBW.out.block _ (zae HBX.out)];exact HBX.out
   have e0:=zaa hbxW 0;have e1:=zaa hbxW 1;have e2:=zaa hbxW 2;have e3:=zaa hbxW 3;simp only[zC,zD,zE]at e0 e1 e2 e3;haveI:zaj (w.heap.size+1) W:=⟨zae hbxW⟩;have hkd:decide ((k:Int)<8)=true:=zT;have HB0:=zac (HBO.out.trans (HBW.out.mono HBO.out.size));have HL:=zac (HRD.out k W hlt HB0.out);have HTS:=zac (zg1 R k);obtain⟨⟨⟨vw,vc,vs,vq,vd,vg⟩,z⟩,hz⟩:∃ z,R k=z:=⟨_,rfl⟩;have hvd:=HD.out k hlt;rw[hz]at HL HTS hvd;simp only at hvd;unfold zbX at HL;clear hbxW hz;go_wp2_with fail;go_at_call 92;refine HL.out.mono ?_;rintro e w' ⟨rfl,hb⟩;obtain⟨x,rfl⟩:=zad hb;clear hb HL;by_cases hz0e:z=0
   ·subst hz0e
    have HT1:Hid (zdG R (k+1)=outs++[⟨#[61]⟩++vd]):=zac (by rw[HTS.out,←HOUT.out];rfl);clear HTS;have HCUR:=zac (show Below W W ((zai W x).alloc (.cells #[vw,vc,vs,vq,.string vd,.bool vg] 59))from zB);have HOC:=zac (zaF HOW.out HCUR.out (fun k e=>(zao HOW.out e).2));have HBC:=zac (HBW.out.trans (HCUR.out.mono HBW.out.size));have hsC:=HBC.out.size;have hol:outs.length≤8:=by rw[HOL.out];omega
    have hev:zbT 0=.nilIface:=rfl;go_wp2_with (at_builtin;go_must (refine wpList_append_lies _ rfl _ _ 68 rfl wo.heap.size 9 i0 (.string ⟨#[]⟩) 1 16 underlying68 hi0 hz0 hz1 hz2 rfl zI (.slice Ao outs.length co) outs.length (zbM outs) rfl (HOC.out.alloc _) ⟨W.heap.size+x.blocks.size+1,0,none⟩ 1 1 [.string (⟨#[61]⟩++vd)] rfl rfl (zkr (zag zS _)) ?c1 zI ?c2 ?c3 ?c4 _ rfl ?_))
    case c1=>first|rfl|(intro u hu;simp at hu;subst hu;rfl)
    case c2=>refine yac ?_ maxLen_ge;omega
    case c3=>omega
    case c4=>first|omega|(simp at hsC ⊢;omega)
    intro gq cap1 w1 hown1 hgrow hgl hlt1;have HN1:Hid (w1.ownsRow wo.heap.size 9 1 (.slice (some ⟨gq,0,none⟩) (outs++[(⟨#[61]⟩++vd)]).length cap1) (outs++[(⟨#[61]⟩++vd)]).length (zbM (outs++[(⟨#[61]⟩++vd)]))):=zac (by
     have e:(outs++[(⟨#[61]⟩++vd)]).length=outs.length+1:=by simp
     rw[e,show zbM (outs++[(⟨#[61]⟩++vd)])=zbM outs++[.string (⟨#[61]⟩++vd)]by simp[zbM]];exact hown1)
    have HB1:Hid (Below wo wo w1):=zac (yaE HBC.out (zau hgrow) HBC.out.size (fun j e=>(zao HOW.out e).1));clear hown1 hgrow hgl hlt1;go_wp2_with fail;go_roundw
    case rel=>exact⟨k+1,outs++[(⟨#[61]⟩++vd)],some ⟨gq,0,none⟩,cap1,zO,by go_num,zS,HT1.out.symm,by simp[HOL.out],HN1.out,HB1.out⟩
    case measure=>simp[intOf];omega
   ·have HT1:Hid (zdG R (k+1)=outs++[⟨#[]⟩]):=zac (by rw[HTS.out,←HOUT.out];simp[txtOf,hz0e])
    clear HTS;have HCUR:=zac (show Below W W ((zai W x).alloc (.cells #[vw,vc,vs,vq,.string vd,.bool vg] 59))from zB);have HOC:=zac (zaF HOW.out HCUR.out (fun k e=>(zao HOW.out e).2));have HBC:=zac (HBW.out.trans (HCUR.out.mono HBW.out.size));have hsC:=HBC.out.size;have hol:outs.length≤8:=by rw[HOL.out];omega
    have hev:zbT z=.iface 29 (ii z):=by unfold zbT;rw[yad hz0e]
    go_wp2_with (at_builtin;go_must (refine wpList_append_lies _ rfl _ _ 68 rfl wo.heap.size 9 i0 (.string ⟨#[]⟩) 1 16 underlying68 hi0 hz0 hz1 hz2 rfl zI (.slice Ao outs.length co) outs.length (zbM outs) rfl (HOC.out.alloc _) ⟨W.heap.size+x.blocks.size+1,0,none⟩ 1 1 [.string (⟨#[]⟩:ByteArray)] rfl rfl (zkr (zag zS _)) ?c1 zI ?c2 ?c3 ?c4 _ rfl ?_))
    case c1=>first|rfl|(intro u hu;simp at hu;subst hu;rfl)
    case c2=>refine yac ?_ maxLen_ge;omega
    case c3=>omega
    case c4=>first|omega|(simp at hsC ⊢;omega)
    intro gq cap1 w1 hown1 hgrow hgl hlt1;have HN1:Hid (w1.ownsRow wo.heap.size 9 1 (.slice (some ⟨gq,0,none⟩) (outs++[(⟨#[]⟩:ByteArray)]).length cap1) (outs++[(⟨#[]⟩:ByteArray)]).length (zbM (outs++[(⟨#[]⟩:ByteArray)]))):=zac (by
     have e:(outs++[(⟨#[]⟩:ByteArray)]).length=outs.length+1:=by simp
     rw[e,show zbM (outs++[(⟨#[]⟩:ByteArray)])=zbM outs++[.string (⟨#[]⟩:ByteArray)]by simp[zbM]];exact hown1)
    have HB1:Hid (Below wo wo w1):=zac (yaE HBC.out (zau hgrow) HBC.out.size (fun j e=>(zao HOW.out e).1));clear hown1 hgrow hgl hlt1;go_wp2_with fail;go_roundw
    case rel=>exact⟨k+1,outs++[(⟨#[]⟩:ByteArray)],some ⟨gq,0,none⟩,cap1,zO,by go_num,zS,HT1.out.symm,by simp[HOL.out],HN1.out,HB1.out⟩
    case measure=>simp[intOf];omega
  ·obtain rfl:k=8:=by omega
   have hkd:decide ((8:Int)<8)=false:=by decide
   have HT:Hid (zgX W Ao (zdG R 8)):=zac (by rw[←HOUT.out];exact ziK HOW.out);go_wp2_with fail;go_ret;exact⟨Ao,co,by rw[HOL.out];rfl,HT.out,HBO.out.trans (HBW.out.mono HBO.out.size)⟩
theorem zmr (r o B:Nat) (L:List PtP) (v:Value) (a0 a1 a2 a3:Int) (R:Nat→zaE×Int) (w:World) (hst:zgY w r o B L v) (hok:∀ p∈L,0≤p.v.site∧p.v.site<4) (hlen:L.length≤900000) (hR:∀ k:Nat,k<8→R k=zeb a0 a1 a2 a3 L k) (hd:∀ k:Nat,k<8→(R k).1.data.size≤1000000):
  Calls prog 33 #[.pointer (some ⟨r,o,none⟩),.agg #[ii a0,ii a1,ii a2,ii a3]] w fun e w'=>∃ A' c',e=.returned (.slice A' 8 c')∧zgX w' A' (zdG R 8)∧Below w w w':=by
 have HRD:Hid (∀ (k:Nat) (w':World),k<8→Below w w w'→Calls prog 91 #[.pointer (some ⟨r,o,none⟩),k,.agg #[ii a0,ii a1,ii a2,ii a3]] w' fun e w''=>e=.returned (.tuple #[zbX (R k).1,ii (R k).2])∧Below w' w' w''):=zac (by
  intro k w' hk hb;rw[hR k hk];exact ziF r o B L v k a0 a1 a2 a3 w' (hst.below hb) hok hlen)
 have HD:=zac hd;clear hst hR hd;go_enter func33,ntmps33;obtain⟨i0,hi0,hz0,hz1,hz2⟩:=info9;have HBO:Hid (Below w w (w.alloc (.cells #[a0,a1,a2,a3] 32))):=zac (zal (yaf _ _));have HBX:Hid ((w.alloc (.cells #[a0,a1,a2,a3] 32)).heap[w.heap.size]?=some (.cells #[a0,a1,a2,a3] 32)):=zac (zag rfl _);go_wp2_with fail;generalize w.alloc (.cells #[a0,a1,a2,a3] 32)=wo at *;go_loopw [5,9] (fun o i W=>∃ (k:Nat) (outs:List ByteArray) (Ao:Option Addr) (co:Nat),k≤8∧i=ii k∧o=.slice Ao outs.length co∧outs=zdG R k∧outs.length=k∧
  W.ownsRow wo.heap.size 9 1 (.slice Ao outs.length co) outs.length (zbM outs)∧Below wo wo W) (fun _ i _=>8-(intOf i).toNat)
 case atStart=>exact⟨0,[],none,0,zO,rfl,rfl,rfl,rfl,⟨rfl,.inl ⟨rfl,rfl⟩⟩,yaf _ _⟩
 case round=>
  obtain⟨k,outs,Ao,co,hk,rfl,rfl,hout,hol,hown,hbl⟩:=hrel;obtain⟨W,rfl⟩:∃ W:World,W=wr:=⟨_,rfl⟩;have HOUT:=zac hout;have HOW:=zac hown;have HBW:=zac hbl;have HOL:=zac hol;clear hown hbl hout hol;by_cases hlt:k<8
  ·have hbxW:W.heap[w.heap.size]?=some (.cells #[a0,a1,a2,a3] 32):=by rw[HBW.out.block _ (zae HBX.out)];exact HBX.out
   have e0:=zaa hbxW 0;have e1:=zaa hbxW 1;have e2:=zaa hbxW 2;have e3:=zaa hbxW 3;simp only[zC,zD,zE]at e0 e1 e2 e3;haveI:zaj (w.heap.size+1) W:=⟨zae hbxW⟩;have hkd:decide ((k:Int)<8)=true:=zT;have HB0:=zac (HBO.out.trans (HBW.out.mono HBO.out.size));have HL:=zac (HRD.out k W hlt HB0.out);have HTS:=zac (zg1 R k);obtain⟨⟨⟨vw,vc,vs,vq,vd,vg⟩,z⟩,hz⟩:∃ z,R k=z:=⟨_,rfl⟩;have hvd:=HD.out k hlt;rw[hz]at HL HTS hvd;simp only at hvd;unfold zbX at HL;clear hbxW hz;go_wp2_with fail;go_at_call 91;refine HL.out.mono ?_;rintro e w' ⟨rfl,hb⟩;obtain⟨x,rfl⟩:=zad hb;clear hb HL;by_cases hz0e:z=0
   ·subst hz0e
    have HT1:Hid (zdG R (k+1)=outs++[⟨#[61]⟩++vd]):=zac (by rw[HTS.out,←HOUT.out];rfl);clear HTS;have HCUR:=zac (show Below W W ((zai W x).alloc (.cells #[vw,vc,vs,vq,.string vd,.bool vg] 59))from zB);have HOC:=zac (zaF HOW.out HCUR.out (fun k e=>(zao HOW.out e).2));have HBC:=zac (HBW.out.trans (HCUR.out.mono HBW.out.size));have hsC:=HBC.out.size;have hol:outs.length≤8:=by rw[HOL.out];omega
    go_wp2_with (at_builtin;go_must (refine wpList_append_lies _ rfl _ _ 68 rfl wo.heap.size 9 i0 (.string ⟨#[]⟩) 1 16 underlying68 hi0 hz0 hz1 hz2 rfl zI (.slice Ao outs.length co) outs.length (zbM outs) rfl (HOC.out.alloc _) ⟨W.heap.size+x.blocks.size+1,0,none⟩ 1 1 [.string (⟨#[61]⟩++vd)] rfl rfl (zkr (zag zS _)) ?c1 zI ?c2 ?c3 ?c4 _ rfl ?_))
    case c1=>first|rfl|(intro u hu;simp at hu;subst hu;rfl)
    case c2=>refine yac ?_ maxLen_ge;omega
    case c3=>omega
    case c4=>first|omega|(simp at hsC ⊢;omega)
    intro gq cap1 w1 hown1 hgrow hgl hlt1;have HN1:Hid (w1.ownsRow wo.heap.size 9 1 (.slice (some ⟨gq,0,none⟩) (outs++[(⟨#[61]⟩++vd)]).length cap1) (outs++[(⟨#[61]⟩++vd)]).length (zbM (outs++[(⟨#[61]⟩++vd)]))):=zac (by
     have e:(outs++[(⟨#[61]⟩++vd)]).length=outs.length+1:=by simp
     rw[e,show zbM (outs++[(⟨#[61]⟩++vd)])=zbM outs++[.string (⟨#[61]⟩++vd)]by simp[zbM]];exact hown1)
    have HB1:Hid (Below wo wo w1):=zac (yaE HBC.out (zau hgrow) HBC.out.size (fun j e=>(zao HOW.out e).1));clear hown1 hgrow hgl hlt1;go_wp2_with fail;go_roundw
    case rel=>exact⟨k+1,outs++[(⟨#[61]⟩++vd)],some ⟨gq,0,none⟩,cap1,zO,by go_num,zS,HT1.out.symm,by simp[HOL.out],HN1.out,HB1.out⟩
    case measure=>simp[intOf];omega
   ·have HT1:Hid (zdG R (k+1)=outs++[⟨#[]⟩]):=zac (by rw[HTS.out,←HOUT.out];simp[txtOf,hz0e])
    clear HTS;have HCUR:=zac (show Below W W ((zai W x).alloc (.cells #[vw,vc,vs,vq,.string vd,.bool vg] 59))from zB);have HOC:=zac (zaF HOW.out HCUR.out (fun k e=>(zao HOW.out e).2));have HBC:=zac (HBW.out.trans (HCUR.out.mono HBW.out.size));have hsC:=HBC.out.size;have hol:outs.length≤8:=by rw[HOL.out];omega
    have hzb:(z==0)=false:=by simpa using hz0e
    go_wp2_with (at_builtin;go_must (refine wpList_append_lies _ rfl _ _ 68 rfl wo.heap.size 9 i0 (.string ⟨#[]⟩) 1 16 underlying68 hi0 hz0 hz1 hz2 rfl zI (.slice Ao outs.length co) outs.length (zbM outs) rfl (HOC.out.alloc _) ⟨W.heap.size+x.blocks.size+1,0,none⟩ 1 1 [.string (⟨#[]⟩:ByteArray)] rfl rfl (zkr (zag zS _)) ?c1 zI ?c2 ?c3 ?c4 _ rfl ?_))
    case c1=>first|rfl|(intro u hu;simp at hu;subst hu;rfl)
    case c2=>refine yac ?_ maxLen_ge;omega
    case c3=>omega
    case c4=>first|omega|(simp at hsC ⊢;omega)
    intro gq cap1 w1 hown1 hgrow hgl hlt1;have HN1:Hid (w1.ownsRow wo.heap.size 9 1 (.slice (some ⟨gq,0,none⟩) (outs++[(⟨#[]⟩:ByteArray)]).length cap1) (outs++[(⟨#[]⟩:ByteArray)]).length (zbM (outs++[(⟨#[]⟩:ByteArray)]))):=zac (by
     have e:(outs++[(⟨#[]⟩:ByteArray)]).length=outs.length+1:=by simp
     rw[e,show zbM (outs++[(⟨#[]⟩:ByteArray)])=zbM outs++[.string (⟨#[]⟩:ByteArray)]by simp[zbM]];exact hown1)
    have HB1:Hid (Below wo wo w1):=zac (yaE HBC.out (zau hgrow) HBC.out.size (fun j e=>(zao HOW.out e).1));clear hown1 hgrow hgl hlt1;go_wp2_with fail;go_roundw
    case rel=>exact⟨k+1,outs++[(⟨#[]⟩:ByteArray)],some ⟨gq,0,none⟩,cap1,zO,by go_num,zS,HT1.out.symm,by simp[HOL.out],HN1.out,HB1.out⟩
    case measure=>simp[intOf];omega
  ·obtain rfl:k=8:=by omega
   have hkd:decide ((8:Int)<8)=false:=by decide
   have HT:Hid (zgX W Ao (zdG R 8)):=zac (by rw[←HOUT.out];exact ziK HOW.out);go_wp2_with fail;go_ret;exact⟨Ao,co,by rw[HOL.out];rfl,HT.out,HBO.out.trans (HBW.out.mono HBO.out.size)⟩
theorem zhE (A A':Option Addr) (c c':Nat) (ts:List ByteArray) (w:World) (h1:zgX w A ts) (h2:zgX w A' ts) (hn:ts.length=8):
  Calls prog 31 #[.slice A 8 c,.slice A' 8 c'] w fun e w'=>e=.returned (.bool true)∧Below w w w':=by
 have H1:=zac h1;have H2:=zac h2;have HN:=zac hn;clear h1 h2 hn;go_enter func31,ntmps31;go_wp2_with fail;go_loopw [5] (fun i wr=>∃ k:Nat,k≤8∧i=ii k∧Below w w wr) (fun i _=>8-(intOf i).toNat)
 case atStart=>exact⟨0,zO,rfl,yaf _ _⟩
 case round=>
  obtain⟨k,hk,rfl,hbl⟩:=hrel;obtain⟨x,rfl⟩:=zad hbl;clear hbl;by_cases hlt:k<8
  ·have hkd:decide ((k:Int)<8)=true:=zT
   have hkl:k<ts.length:=by rw[HN.out];exact hlt
   obtain⟨b,o,rfl,hb,d0⟩:=H1.out k ts[k] (yaa hkl);obtain⟨b',o',rfl,hb',d1⟩:=H2.out k ts[k] (yaa hkl);generalize ts[k]=s at *;haveI:zaj (b+1) w:=⟨hb⟩;haveI:zaj (b'+1) w:=⟨hb'⟩;clear hkl;go_wp2_with fail;refine zaw fun x3=>?_
   go_wp2_with fail;go_roundw
   case rel=>exact⟨k+1,zO,by go_num,zB⟩
   case measure=>simp[intOf];omega
  ·obtain rfl:k=8:=by omega
   have hkd:decide ((8:Int)<8)=false:=by decide
   go_wp2_with fail;go_ret;exact⟨rfl,zB⟩
theorem zhx {w:World}{b:Nat}:∀ {ws:List WrP}{o:Nat},zaN w (some ⟨b,o,none⟩) ws→∀ (j:Nat) (u:Value),(za3 ws)[j]?=some u→w.cell? ⟨b,o+j,none⟩=some u
 | [],o,h,j,u,hu=>by simp[za3]at hu
 | x::l,o,h,j,u,hu=>by
   have h0:=h 0 x rfl;obtain⟨b',o',e,_,c0,c1,c2⟩:=h0;obtain⟨rfl,rfl⟩:b'=b∧o'=o:=by simp at e;exact⟨e.1.symm,e.2.symm⟩
   have hl:zaN w (some ⟨b',o'+3,none⟩) l:=fun i y hy=>by
    obtain⟨b2,o2,e2,hlt,k0,k1,k2⟩:=h (i+1) y (by simpa using hy);obtain⟨rfl,rfl⟩:b2=b'∧o2=o':=by simp at e2;exact⟨e2.1.symm,e2.2.symm⟩
    rw[show o2+(i+1)*3=o2+3+i*3 by omega]at k0 k1 k2;exact⟨b2,o2+3,rfl,hlt,k0,k1,k2⟩
   match j,hu with
   | 0,hu=>simp[za3]at hu;subst hu;simpa using c0
   | 1,hu=>simp[za3]at hu;subst hu;simpa using c1
   | 2,hu=>simp[za3]at hu;subst hu;simpa using c2
   | j+3,hu=>
     have:=zhx hl j u (by simpa[za3]using hu);rw[show o'+(j+3)=o'+3+j by omega];exact this
theorem zfT (ws:List WrP):∀ u∈za3 ws,u.oneCell'=true:=by
 intro u hu;simp only[za3,yb2]at hu;obtain⟨x,_,hx⟩:=hu;simp at hx;rcases hx with rfl|rfl|rfl <;> rfl
theorem info115o:(prog.info? 83).map (fun i=>(i.zero,i.size,i.bytes))=some (some (.agg #[ii 0,.string ⟨#[]⟩,.bool false]),3,32):=by kernel_rfl
theorem info115:∃ i,prog.info? 83=some i∧i.zero=some (.agg #[ii 0,.string ⟨#[]⟩,.bool false])∧i.size=3∧i.bytes=32:=by
 obtain⟨i,hi,h⟩:=ya6.1 info115o;simp only[ybc]at h;exact⟨i,hi,h.1,h.2.1,h.2.2⟩
@[go_sem] theorem eqNil38(w : World) (a : Addr) (n c : Nat) : Sem.run prog (binOp BinOp.eql 42 (.slice (some a) n c) (.slice none 0 0)) w = .ok (.bool false) w := by kernel_rfl
theorem zg6 (A:Option Addr) (c:Nat) (ws:List WrP) (w:World) (hws:zaN w A ws) (h0:0<ws.length) (hn:ws.length≤1000):
  Calls prog 79 #[.slice A ws.length c] w fun e w'=>∃ A' c',e=.returned (.slice A' ws.length c')∧zaN w' A' ws∧Below w w w'∧∃ b,A'=some ⟨b,0,none⟩∧w.heap.size≤b:=by
 have HWS:=zac hws;obtain⟨b,o,rfl,hb,_⟩:=hws 0 ws[0] (yaa h0);clear hws;obtain⟨i0,hi0,hz0,hz1,hz2⟩:=info115;haveI:zaj (b+1) w:=⟨hb⟩;go_enter func79,ntmps79;have hcells:=zhx HWS.out;have HNW:Hid (∀ (W:World),Below w w W→∀ (j:Nat) (u:Value),(za3 ws)[j]?=some u→W.cell? ((⟨b,o,none⟩:Addr).add j)=some u):=zac (by
  intro W hB j u hu;have e:(⟨b,o,none⟩:Addr).add j=⟨b,o+j,none⟩:=by unfold Addr.add;split <;> simp_all
  rw[e,hB.cell (p:=⟨b,o+j,none⟩) hb];exact hcells j u hu)
 have HLN:=zac (zfU ws);have h63:0+ws.length≤maxLen:=by refine yac ?_ maxLen_ge;omega
 have hby:(0+ws.length)*32≤140737488355328:=by omega
 clear hcells;go_wp2_with (at_builtin;go_must (refine wpList_append_lies _ rfl _ _ 42 rfl w.heap.size 83 i0 (.agg #[ii 0,.string ⟨#[]⟩,.bool false]) 3 32 underlying42 hi0 hz0 hz1 hz2 rfl zI (.slice (some ⟨w,0,none⟩) 0 0) 0 [] rfl ⟨rfl,.inr ⟨w,0,#[],rfl,yai _,by rw[heap_alloc,yaj rfl],yai _,by simp only[maxLen];omega,rfl,rfl⟩⟩ ⟨b,o,none⟩ ws.length c (za3 ws) rfl HLN.out (HNW.out _ (zal (yaf _ _))) (zfT ws) h0 h63 hby zS _ rfl ?_));intro g1 cap1 w1 hown1 hgrow hgl hlt1
 try simp only[yaZ,ybd]at hown1
 have hb1:Below w w w1:=yaE (show Below w w (w.alloc (Obj.cells #[] 83))from zal (yaf _ _)) hgrow zS (fun j e=>by simp[Value.ownBlock]at e;omega);have HR:Hid (zaN w1 (some ⟨g1,0,none⟩) ws∧Below w w w1∧w.heap.size≤g1):=zac ⟨zkg hown1,hb1,(zao hown1 rfl).1⟩;clear hown1 hgrow hgl hlt1 hb1
 try simp only[yaZ]
 go_wp2_with fail;go_ret;exact⟨_,_,rfl,HR.out.1,HR.out.2.1,g1,rfl,HR.out.2.2⟩
theorem zbs (w:World) (x:zks) (k:Nat) (h:w.heap.size≤k):(zai w x).heap[k]?=x.blocks[k-w.heap.size]?:=by
 simp only[zai];rw[Array.getElem?_append_right h]
theorem zaN.move {w w':World}{A:Option Addr}{ws:List WrP}(h:zaN w A ws) (hb:∀ b o,A=some ⟨b,o,none⟩→w'.heap[b]?=w.heap[b]?):zaN w' A ws:=fun i x hx=>by
 obtain⟨b,o,hA,hlt,h0,h1,h2⟩:=h i x hx;have e:=hb b o hA;have e0:∀ j,w'.cell? ⟨b,j,none⟩=w.cell? ⟨b,j,none⟩:=fun j=>yam e
 refine⟨b,o,hA,?_,by rw[e0];exact h0,by rw[e0];exact h1,by rw[e0];exact h2⟩;have:=ybb w' _ ((e0 _).trans h0);exact this
structure MTx where
 t:TxP
 A:Option Addr
 c:Nat
def MTx.cells (m:MTx):List Value:=[ii m.t.site,ii m.t.seq,ii m.t.wall,ii m.t.count,ii m.t.d0,ii m.t.d1,ii m.t.d2,ii m.t.d3,.slice m.A m.t.ws.length m.c]
def MTx.val (m:MTx):Value:=.agg #[m.t.site,m.t.seq,m.t.wall,m.t.count,m.t.d0,m.t.d1,m.t.d2,m.t.d3,.slice m.A m.t.ws.length m.c]
theorem cell9 {w:World}{b:Nat}{x0 x1 x2 x3 x4 x5 x6 x7 x8:Value}{t:TypeId}(h:w.heap[b]?=some (.cells #[x0,x1,x2,x3,x4,x5,x6,x7,x8] t)):
  w.cell? ⟨b,0,none⟩=some x0∧w.cell? ⟨b,1,none⟩=some x1∧w.cell? ⟨b,2,none⟩=some x2∧w.cell? ⟨b,3,none⟩=some x3∧w.cell? ⟨b,4,none⟩=some x4∧w.cell? ⟨b,5,none⟩=some x5∧w.cell? ⟨b,6,none⟩=some x6∧w.cell? ⟨b,7,none⟩=some x7∧w.cell? ⟨b,8,none⟩=some x8:=
 ⟨zaa h 0,zaa h 1,zaa h 2,zaa h 3,zaa h 4,zaa h 5,zaa h 6,zaa h 7,zaa h 8⟩
theorem zgw (t:TxP) (A:Option Addr) (c:Nat) (w:World) (hws:zaN w A t.ws) (h0:0<t.ws.length) (hn:t.ws.length≤1000):
  Calls prog 81 #[MTx.val ⟨t,A,c⟩] w fun e w'=>∃ A' c',e=.returned (MTx.val ⟨t,A',c'⟩)∧zaN w' A' t.ws∧Below w w w'∧∃ b,A'=some ⟨b,0,none⟩∧w.heap.size≤b:=by
 have HC:=zac fun w' (hb:Below w w w')=>zg6 A c t.ws w' (hws.below hb) h0 hn
 unfold MTx.val;obtain⟨site,seq,wall,count,d0,d1,d2,d3,ws⟩:=t;simp only at *;clear hws;go_enter func81,ntmps81;go_wp2_with fail;go_at_call 79;refine(HC.out _ zB).mono ?_;rintro e w1 ⟨A',c',rfl,hw1,hb1,b,rfl,hbb⟩;have HW:=zac hw1;obtain⟨x,rfl⟩:=zad hb1;clear hw1 hb1;have HB2:=zac hbb;clear hbb;go_wp2_with fail;have hbb:=HB2.out;simp at hbb;refine yag (v:=MTx.val ⟨⟨site,seq,wall,count,d0,d1,d2,d3,ws⟩,some ⟨b,0,none⟩,c'⟩) ?_ rfl ⟨some ⟨b,0,none⟩,c',rfl,?_,?_,b,rfl,zO⟩
 ·simp[results,results81,go_sem,MTx.val]
 ·refine HW.out.move ?_
  intro b' o' e;obtain⟨rfl,rfl⟩:b'=b∧o'=0:=by simp at e;exact⟨e.1.symm,e.2.symm⟩
  rw[zbs _ _ _ zP,zbs _ _ _ zP];simp
 ·repeat(first|exact yaf _ _|refine zal ?_|refine zaD ?_|refine ya2 ?_)
end Go.Proofs.YtbopfhbeegkkaabGreatDoor
