/- Part 30 of a proof: lemmas and contracts that other parts use. -/
import Derived.Test.YtbopfhbeegkkaabGreatDoorWp20
import Derived.Test.YtbopfhbeegkkaabGreatDoorWp11
import Derived.Test.YtbopfhbeegkkaabGreatDoorWp16
import Derived.Deep.DeepCutAuto
import Derived.Deep.CutBlock
import Derived.Test.YtbopfhbeegkkaabGreatDoorWp29
import Derived.Test.YtbopfhbeegkkaabGreatDoorWp22
import Derived.Test.YtbopfhbeegkkaabGreatDoorWp26
import Derived.Below
import Derived.ChangeSame
import Derived.OpenVars
import Derived.ProofKit
import Derived.OpenShut
import Derived.JoinedCond
import Derived.RowKitTokens
import Derived.Test.YtbopfhbeegkkaabGreatDoorWp2
import Derived.Deep.Slices
import Derived.Lib.SmallJoins
import Derived.Test.YtbopfhbeegkkaabGreatDoorWp8
import Derived.Test.YtbopfhbeegkkaabGreatDoorWp5
import Derived.Test.YtbopfhbeegkkaabGreatDoorWp21
import Derived.Deep.RegionHeld3
set_option linter.unusedVariables false
set_option linter.unusedSimpArgs false
set_option linter.constructorNameAsVariable false
set_option maxHeartbeats 32000000
set_option maxRecDepth 200000
namespace Go.Proofs.YtbopfhbeegkkaabGreatDoor
open Go.RowKit Go.Proofs.Tryz
theorem zhs (A:AWd) (k:Nat) (a0 a1 a2 a3 b0 b1 b2 b3:Int):∀ j,zby A k j (min a0 b0,min a1 b1,min a2 b2,min a3 b3)=
  (min (zby A k j (a0,a1,a2,a3)).1 b0,min (zby A k j (a0,a1,a2,a3)).2.1 b1,min (zby A k j (a0,a1,a2,a3)).2.2.1 b2,min (zby A k j (a0,a1,a2,a3)).2.2.2 b3)
 | 0=>rfl
 | j+1=>by
   unfold zby;rw[zhs A k a0 a1 a2 a3 b0 b1 b2 b3 j];split
   ·simp only[ybc]
    omega
   ·rfl
theorem zk5 (a:RSi) (v0 v1 v2 v3:Int):zc6 a (min v0 a.p0) (min v1 a.p1) (min v2 a.p2) (min v3 a.p3)=zc6 a v0 v1 v2 v3:=by
 unfold zc6;rw[show min (min v0 a.p0) a.p0=min v0 a.p0 by omega,show min (min v1 a.p1) a.p1=min v1 a.p1 by omega,show min (min v2 a.p2) a.p2=min v2 a.p2 by omega,show min (min v3 a.p3) a.p3=min v3 a.p3 by omega]
section
variable {w0 w:World}{n:Nat}{O:Nat→Ob}{p g:Nat}{A:AWd}{v:RV}{k u x:Nat}
theorem zk4 (hp:RWx w0.heap.size O p g A v) (h:Mem w0 w n O) (hn:p+16≤n) (hk:k<A.S):
  Calls prog 121 #[.pointer (some ⟨g,0,none⟩),ii (k:Nat)] w fun e w'=>e=.returned (.tuple #[])∧zbG w0 w' n O p g v.xs v.us (zdy A k):=by
 have hb:=hp.blk h hn;obtain⟨x,hx⟩:=hp.xk hk;obtain⟨bS,cS,eS,_,lS,kS,_⟩:=zbl h (i:=p+1) zO hp.b1 zO;have y1:=kS k _ hk (zbt hx);obtain⟨hxl,_,e1,e2,e3,e4,_⟩:=hp.xCells h hn hx;obtain⟨aC,cC,eC⟩:=zbq h (i:=p+3) zO hp.b3;obtain⟨aP,cP,eP⟩:=zbq h (i:=p+4) zO hp.b4;have hC:A.C≤6:=hp.ok.C;have HST:=zac (fun W (hW:Below w w W)=>hp.sStable (h.below hW) hn hx (A.S:Int));have HSW:=zac (fun W (hW:Below w w W) (v0 v1 v2 v3:Int) hv=>hp.sSweep (h.below hW) hn hx v0 v1 v2 v3 hv);have HRC:Hid (∀ j,j<A.C→∃ (u bC bP:Nat) (wv:Value),aC=some ⟨bC,0,none⟩∧aP=some ⟨bP,0,none⟩∧bC<w.heap.size∧bP<w.heap.size∧w.cell? ⟨bC,j,none⟩=some (.pointer (some ⟨u,0,none⟩))∧w.cell? ⟨bP,j,none⟩=some (ii (A.pl j:Int))∧
   w.heap[u]?=some (.cells #[ii (A.cl j).q0,ii (A.cl j).q1,ii (A.cl j).q2,ii (A.cl j).q3,ii (A.cl j).n0,ii (A.cl j).n1,ii (A.cl j).n2,ii (A.cl j).n3,.bool (A.cl j).op,wv] 79)):=zac (fun j hj=>by
  obtain⟨u,hu⟩:=hp.uk hj;obtain⟨bC,cC',eC',_,lC,kC,_⟩:=zbl h (i:=p+3) zO hp.b3 zO;obtain⟨bP,cP',eP',_,lP,kP,_⟩:=zbl h (i:=p+4) zO hp.b4 zO;rw[eC]at eC';rw[eP]at eP';simp only[yaP]at eC' eP';obtain⟨wv,hc⟩:=hp.sCells h hn hu;exact⟨u,bC,bP,wv,eC'.1,eP'.1,lC,lP,kC j _ hj (zbt hu),kP j _ hj (zbQ hj),hc⟩)
 obtain⟨V0,hV0⟩:∃ V0,V0=(min (zbI A k).1 (A.si k).p0,min (zbI A k).2.1 (A.si k).p1,min (zbI A k).2.2.1 (A.si k).p2,min (zbI A k).2.2.2 (A.si k).p3):=⟨_,rfl⟩;have hmore:=zhs A k (zbI A k).1 (zbI A k).2.1 (zbI A k).2.2.1 (zbI A k).2.2.2 (A.si k).p0 (A.si k).p1 (A.si k).p2 (A.si k).p3;rw[←hV0]at hmore;have HFS:Hid (∀ j,zby A k (j+1) V0=if A.pl j=k∧(A.cl j).op=true then
   (min (zby A k j V0).1 (A.cl j).n0,min (zby A k j V0).2.1 (A.cl j).n1,min (zby A k j V0).2.2.1 (A.cl j).n2,min (zby A k j V0).2.2.2 (A.cl j).n3)else zby A k j V0):=zac fun j=>rfl
 have HEND:Hid (∀ W,zbG w0 W n O p g v.xs v.us { A with si:=zb5 A.si k (zc6 (A.si k) (zby A k A.C V0).1 (zby A k A.C V0).2.1 (zby A k A.C V0).2.2.1 (zby A k A.C V0).2.2.2) }→zbG w0 W n O p g v.xs v.us (zdy A k)):=zac fun W hW=>by
  rw[hmore A.C,zk5]at hW;exact hW
 have HLE:Hid ((zby A k A.C V0).1≤(A.si k).p0∧(zby A k A.C V0).2.1≤(A.si k).p1∧(zby A k A.C V0).2.2.1≤(A.si k).p2∧(zby A k A.C V0).2.2.2≤(A.si k).p3):=zac (by
  rw[hmore A.C];exact⟨by simp only;omega,by simp only;omega,by simp only;omega,by simp only;omega⟩)
 have HSV:Hid (V0=(min (zbR (A.si k) A.S 0 (A.si k).p0) (A.si k).p0,min (zbR (A.si k) A.S 1 (A.si k).p1) (A.si k).p1,min (zbR (A.si k) A.S 2 (A.si k).p2) (A.si k).p2,min (zbR (A.si k) A.S 3 (A.si k).p3) (A.si k).p3)):=zac hV0;rw[eS,eC,eP]at hb;have c0:=zaa hb 0;have c2:=zaa hb 2;have c3:=zaa hb 3;simp only[zC,zD,zE]at c0 c2 c3;haveI:zaj (g+1) w:=⟨zae hb⟩;haveI:zaj (bS+1) w:=⟨lS⟩;haveI:zaj (x+1) w:=⟨hxl⟩;clear hb eS eC eP kS lS hx hV0 hmore;generalize zbR (A.si k) A.S 0 (A.si k).p0=s0 at *;generalize zbR (A.si k) A.S 1 (A.si k).p1=s1 at *;generalize zbR (A.si k) A.S 2 (A.si k).p2=s2 at *;generalize zbR (A.si k) A.S 3 (A.si k).p3=s3 at *;generalize (A.si k).p0=p0 at *;generalize (A.si k).p1=p1 at *;generalize (A.si k).p2=p2 at *;generalize (A.si k).p3=p3 at *;have HMN:=zac (fun W=>zhQ s0 s1 s2 s3 p0 p1 p2 p3 W);clear hp h hn;obtain⟨F,hF⟩:∃ F:Nat→Int×Int×Int×Int,(fun j=>zby A k j V0)=F:=⟨_,rfl⟩;have hFj:∀ j,zby A k j V0=F j:=fun j=>congrFun hF j
 have HG0:Hid (F 0=(min s0 p0,min s1 p1,min s2 p2,min s3 p3)):=zac (by rw[←hFj 0];exact HSV.out);simp only[hFj]at HFS HEND HLE;clear hF hFj HSV;have hC6:=hC;have hk0:(0:Int)≤(k:Int):=by omega
 have hk1:(k:Int)<(A.S:Int):=by omega
 generalize hSS:A.S=S at *;clear hSS hk;go_enter func121,ntmps121;go_upto_region 1 with fail;go_cut [5] (fun tb W'=>∃ bx:Nat,tb=.pointer (some ⟨bx,0,none⟩)∧w.heap.size≤bx∧W'.heap[bx]?=some (.cells #[ii (min s0 p0),ii (min s1 p1),ii (min s2 p2),ii (min s3 p3)] 32)∧Below w w W')
 case first=>
  refine wp_region_held_drew (S:=(fun X:World=>X.cell? ⟨g,0,none⟩=some (.slice (some ⟨bS,0,none⟩) S cS)∧X.cell? ⟨bS,k,none⟩=some (.pointer (some ⟨x,0,none⟩))∧X.cell? ⟨x,1,none⟩=some (ii p0)∧X.cell? ⟨x,2,none⟩=some (ii p1)∧X.cell? ⟨x,3,none⟩=some (ii p2)∧X.cell? ⟨x,4,none⟩=some (ii p3))) zK ?_ (fun hHeld=>?_)
  ·exact⟨by simp[go_sem, *],by simp[go_sem, *],by simp[go_sem, *],by simp[go_sem, *],by simp[go_sem, *],by simp[go_sem, *]⟩
  refine zat 0 hHeld ?_;refine zat 1 hHeld ?_;refine zat 2 hHeld ?_;refine zat 3 hHeld ?_;refine zat 4 hHeld ?_;refine zat 5 hHeld ?_;refine zat 7 hHeld ?_;refine zat 8 hHeld ?_;refine zat 9 hHeld ?_;refine zat 10 hHeld ?_;refine zaR [6,12] (zaU rfl (fun K hK=>?_) ?_)
  ·go_simp
   go_at_call 29;refine(HST.out _ zB).mono ?_;rintro e w3 ⟨rfl,hb3⟩;obtain⟨x3,rfl⟩:=zad hb3;clear hb3;go_wp2_with fail;refine zbg hK (⟨by simp[go_sem, *],by simp[go_sem, *],by simp[go_sem, *],by simp[go_sem, *],by simp[go_sem, *],by simp[go_sem, *]⟩) ?_;clear hHeld hK K;intro hHeld;refine zaR [11,12] (zaU rfl (fun K hK=>?_) ?_)
   ·go_simp
    go_at_call 23;refine(HMN.out _).mono ?_;rintro e w5 ⟨rfl,hb5⟩;obtain⟨x5,rfl⟩:=zad hb5;clear hb5;go_wp2_with fail;refine zbg hK (⟨by simp[go_sem, *],by simp[go_sem, *],by simp[go_sem, *],by simp[go_sem, *],by simp[go_sem, *],by simp[go_sem, *]⟩) ?_;clear hHeld hK K;intro hHeld;refine zaR [12] (zaU rfl (fun K hK=>?_) ?_)
    ·go_simp
     refine zbg hK (⟨by simp[go_sem, *],by simp[go_sem, *],by simp[go_sem, *],by simp[go_sem, *],by simp[go_sem, *],by simp[go_sem, *]⟩) ?_;clear hHeld hK K;intro hHeld;refine zaR [13] (zaU rfl (fun K hK=>?_) ?_)
     ·go_simp
      refine zbg hK (⟨by simp[go_sem, *],by simp[go_sem, *],by simp[go_sem, *],by simp[go_sem, *],by simp[go_sem, *],by simp[go_sem, *]⟩) ?_;clear hHeld hK K;intro hHeld;refine wpAnyH_done zK ?_ _;go_wp2_with fail;go_meet;exact⟨_,rfl,by first|exact yai _|(simp;done)|(simp;omega)|omega,by first|exact zag rfl _|exact zag zN _|exact(zak _ _ _ zN).trans (zag rfl _)|exact(zak _ _ _ zN).trans (zag zN _)|exact(zak _ _ _ zN).trans ((zak _ _ _ zN).trans (zag rfl _))|exact(zak _ _ _ zN).trans ((zak _ _ _ zN).trans (zag zN _)),zB⟩
     exact AllReadyH.nil
    exact AllReadyH.nil
   refine zaU rfl (fun K hK=>?_) ?_
   ·go_simp
    refine zbg hK (⟨by simp[go_sem, *],by simp[go_sem, *],by simp[go_sem, *],by simp[go_sem, *],by simp[go_sem, *],by simp[go_sem, *]⟩) ?_;clear hHeld hK K;intro hHeld;refine zaR [11] (zaU rfl (fun K hK=>?_) ?_)
    ·go_simp
     go_at_call 23;refine(HMN.out _).mono ?_;rintro e w5 ⟨rfl,hb5⟩;obtain⟨x5,rfl⟩:=zad hb5;clear hb5;go_wp2_with fail;refine zbg hK (⟨by simp[go_sem, *],by simp[go_sem, *],by simp[go_sem, *],by simp[go_sem, *],by simp[go_sem, *],by simp[go_sem, *]⟩) ?_;clear hHeld hK K;intro hHeld;refine zaR [13] (zaU rfl (fun K hK=>?_) ?_)
     ·go_simp
      refine zbg hK (⟨by simp[go_sem, *],by simp[go_sem, *],by simp[go_sem, *],by simp[go_sem, *],by simp[go_sem, *],by simp[go_sem, *]⟩) ?_;clear hHeld hK K;intro hHeld;refine wpAnyH_done zK ?_ _;go_wp2_with fail;go_meet;exact⟨_,rfl,by first|exact yai _|(simp;done)|(simp;omega)|omega,by first|exact zag rfl _|exact zag zN _|exact(zak _ _ _ zN).trans (zag rfl _)|exact(zak _ _ _ zN).trans (zag zN _)|exact(zak _ _ _ zN).trans ((zak _ _ _ zN).trans (zag rfl _))|exact(zak _ _ _ zN).trans ((zak _ _ _ zN).trans (zag zN _)),zB⟩
     exact AllReadyH.nil
    exact AllReadyH.nil
   exact AllReadyH.nil
  refine zaU rfl (fun K hK=>?_) ?_
  ·go_simp
   refine zbg hK (⟨by simp[go_sem, *],by simp[go_sem, *],by simp[go_sem, *],by simp[go_sem, *],by simp[go_sem, *],by simp[go_sem, *]⟩) ?_;clear hHeld hK K;intro hHeld;refine zaR [6] (zaU rfl (fun K hK=>?_) ?_)
   ·go_simp
    go_at_call 29;refine(HST.out _ zB).mono ?_;rintro e w3 ⟨rfl,hb3⟩;obtain⟨x3,rfl⟩:=zad hb3;clear hb3;go_wp2_with fail;refine zbg hK (⟨by simp[go_sem, *],by simp[go_sem, *],by simp[go_sem, *],by simp[go_sem, *],by simp[go_sem, *],by simp[go_sem, *]⟩) ?_;clear hHeld hK K;intro hHeld;refine zaR [11] (zaU rfl (fun K hK=>?_) ?_)
    ·go_simp
     go_at_call 23;refine(HMN.out _).mono ?_;rintro e w5 ⟨rfl,hb5⟩;obtain⟨x5,rfl⟩:=zad hb5;clear hb5;go_wp2_with fail;refine zbg hK (⟨by simp[go_sem, *],by simp[go_sem, *],by simp[go_sem, *],by simp[go_sem, *],by simp[go_sem, *],by simp[go_sem, *]⟩) ?_;clear hHeld hK K;intro hHeld;refine zaR [13] (zaU rfl (fun K hK=>?_) ?_)
     ·go_simp
      refine zbg hK (⟨by simp[go_sem, *],by simp[go_sem, *],by simp[go_sem, *],by simp[go_sem, *],by simp[go_sem, *],by simp[go_sem, *]⟩) ?_;clear hHeld hK K;intro hHeld;refine wpAnyH_done zK ?_ _;go_wp2_with fail;go_meet;exact⟨_,rfl,by first|exact yai _|(simp;done)|(simp;omega)|omega,by first|exact zag rfl _|exact zag zN _|exact(zak _ _ _ zN).trans (zag rfl _)|exact(zak _ _ _ zN).trans (zag zN _)|exact(zak _ _ _ zN).trans ((zak _ _ _ zN).trans (zag rfl _))|exact(zak _ _ _ zN).trans ((zak _ _ _ zN).trans (zag zN _)),zB⟩
     exact AllReadyH.nil
    exact AllReadyH.nil
   exact AllReadyH.nil
  exact AllReadyH.nil
 case rest=>
  obtain⟨bx,rfl,hbx,hbl,hbw⟩:=hcut;have HBX:=zac hbx;have HBL:=zac hbl;have HBW:=zac hbw;clear hbx hbl hbw HST HMN;have C2:=(HBW.out.cell (p:=⟨g,2,none⟩) (zaj.out (n:=g+1))).trans c2;go_wp2_with fail;go_loopw [32] (fun i W=>∃ j:Nat,i=ii j∧j≤A.C∧Below w w W∧W.heap[bx]?=some (.cells #[ii (F j).1,ii (F j).2.1,ii (F j).2.2.1,ii (F j).2.2.2] 32)) (fun i _=>A.C-(Go.RowKit.intOf i).toNat)
  case atStart=>exact⟨0,rfl,yay _,HBW.out,by rw[HG0.out];exact HBL.out⟩
  case round=>
   obtain⟨j,rfl,hj,hbw,hbl⟩:=hrel;clear HBW HBL C2;haveI:zaj (bx+1) wr:=⟨zae hbl⟩;haveI:zaj w.heap.size wr:=⟨hbw.size⟩;haveI:zaj (g+1) wr:=⟨yac (zaj.out (n:=g+1) (w:=w)) hbw.size⟩;have C3:=(hbw.cell (p:=⟨g,3,none⟩) (zaj.out (n:=g+1))).trans c3;have v0:=zaa hbl 0;have v1:=zaa hbl 1;have v2:=zaa hbl 2;have v3:=zaa hbl 3;simp only[zC,zD,zE]at v0 v1 v2 v3;have fv:∀ i,wr.frozen? ⟨bx,i,none⟩=false:=fun i=>zab hbl i
   have fv0:=fv 0;have fv1:=fv 1;have fv2:=fv 2;have fv3:=fv 3;have HBL:=zac hbl;have HBW:=zac hbw;have hFS:=HFS.out j;obtain⟨⟨f0,f1,f2,f3⟩,hFj⟩:∃ f,F j=f:=⟨_,rfl⟩;rw[hFj]at v0 v1 v2 v3 hFS HBL;simp only at v0 v1 v2 v3 hFS HBL;have HFJ:=zac hFj;have HFS2:=zac hFS;clear hbl hbw fv hFS hFj;by_cases hjl:j<A.C
   ·obtain⟨u,bC,bP,wv,rfl,rfl,lC,lP,z1,z2,hblk⟩:=HRC.out j hjl
    have HUB:=zac ((HBW.out.block u (zae hblk)).trans hblk);have Z1:=(HBW.out.cell (p:=⟨bC,j,none⟩) lC).trans z1;have Z2:=(HBW.out.cell (p:=⟨bP,j,none⟩) lP).trans z2;haveI:zaj (bC+1) wr:=⟨yac lC HBW.out.size⟩;haveI:zaj (bP+1) wr:=⟨yac lP HBW.out.size⟩;haveI:zaj (u+1) wr:=⟨zae HUB.out⟩;have u8:=zaa HUB.out 8;have u4:=zaa HUB.out 4;have u5:=zaa HUB.out 5;have u6:=zaa HUB.out 6;have u7:=zaa HUB.out 7;simp only[zC,zD,zE]at u8 u4 u5 u6 u7;clear z1 z2 HRC lC lP hblk HUB;have hj0:(0:Int)≤(j:Int):=by omega
    have hj1:(j:Int)<(A.C:Int):=by omega
    have hj6:(j:Int)<6:=by omega
    cases hop:(A.cl j).op with
    | true=>
      rw[hop]at u8;by_cases hpl:A.pl j=k
      ·have e1:((A.pl j:Int)==(k:Int))=true:=by rw[hpl];simp
       have e1b:(A.pl j==k)=true:=by rw[hpl];simp
       have HFN:Hid (F (j+1)=(min f0 (A.cl j).n0,min f1 (A.cl j).n1,min f2 (A.cl j).n2,min f3 (A.cl j).n3)):=zac (by rw[HFS2.out,yaj ⟨hpl,hop⟩]);have HMN:=zac (fun W=>zhQ f0 f1 f2 f3 (A.cl j).n0 (A.cl j).n1 (A.cl j).n2 (A.cl j).n3 W);clear hpl hop HFS2;generalize (A.cl j).n0=m0 at *;generalize (A.cl j).n1=m1 at *;generalize (A.cl j).n2=m2 at *;generalize (A.cl j).n3=m3 at *;generalize A.pl j=q at *;go_upto_region 6 with fail;refine zb9 6 fun x9=>?_
       go_wp2_with fail;go_roundw
       case rel=>
        have hh:=zam (zam (zam (zam HBL.out 0 (ii (min f0 m0))) 1 (ii (min f1 m1))) 2 (ii (min f2 m2))) 3 (ii (min f3 m3));simp only[yas,yaF,yaG]at hh;refine⟨j+1,by go_num,zO,zaD (zbd (zbd (zbd (zbd HBW.out HBX.out) HBX.out) HBX.out) HBX.out),?_⟩;rw[HFN.out,wplus_heap];exact hh
       case measure=>simp[Go.RowKit.intOf];omega
      ·have e1:((A.pl j:Int)==(k:Int))=false:=by simp;omega
       have e1b:(A.pl j==k)=false:=by simp;exact hpl
       have HFN:Hid (F (j+1)=(f0,f1,f2,f3)):=zac (by rw[HFS2.out,yad (fun e=>hpl e.1)]);clear hpl HFS2 hop;generalize A.pl j=q at *;go_wp2_with fail;go_roundw
       case rel=>exact⟨j+1,by go_num,zO,HBW.out,by rw[HFN.out];exact HBL.out⟩
       case measure=>simp[Go.RowKit.intOf];omega
    | false=>
      rw[hop]at u8;have HFN:Hid (F (j+1)=(f0,f1,f2,f3)):=zac (by rw[HFS2.out,yad (by rw[hop];simp)]);clear hop HFS2;generalize A.pl j=q at *;go_wp2_with fail;go_roundw
      case rel=>exact⟨j+1,by go_num,zO,HBW.out,by rw[HFN.out];exact HBL.out⟩
      case measure=>simp[Go.RowKit.intOf];omega
   ·obtain rfl:j=A.C:=by omega
    have hjd:decide (A.C<A.C)=false:=zU;have hjd2:decide ((A.C:Int)<(A.C:Int))=false:=zU;have HLE2:Hid (f0≤p0∧f1≤p1∧f2≤p2∧f3≤p3):=zac (by have:=HLE.out;rw[HFJ.out]at this;exact this);clear hjl hj HRC HFS HFS2 hC hC6 HLE;go_wp2_with fail;refine zb9 4 fun x9=>?_
    go_wp2_with fail;go_at_call 22;refine(HSW.out _ (ybC HBW.out (yaH (B:=wr.heap.size) zB HBW.out.size)) f0 f1 f2 f3 HLE2.out).mono ?_;rintro e w7 ⟨rfl,hU⟩;have HU:=zac hU;clear hU HSW;go_wp2_with fail;refine ybi (ya3 rfl _ _ _) rfl ⟨rfl,HEND.out _ (by rw[HFJ.out];exact HU.out)⟩
end
section
variable {w0 w:World}{T:TWo}{A:AWd}{E:List Ob}{N key:Int}{wd:ByteArray}{wg:Bool}{k:Nat}
variable {Ap Ar:AWd}
theorem TW.comes (h:TW w0 w T Ap Ar E) (m:RGm) (hok:zih Ar.S m.g) (hws:zaN w m.A m.g.tx.ws):
  Calls prog 118 #[.pointer (some ⟨T.gr,0,none⟩),.agg m.cells.toArray] w fun e w'=>e=.returned (.tuple #[])∧TW w0 w' T Ap (zcl Ar m.g) E:=
 h.rc fun n O v e1 e2 hp h hn=>zha hp h hn m hok hws
theorem TW.setWl (h:TW w0 w T A A E){k:Nat}{z:Int}{bW:Nat}{cW:Nat}(hk:k<A.S) (hz:0≤z∧z≤1099511627776) (hc:w.cell? ⟨T.gr,1,none⟩=some (.slice (some ⟨bW,0,none⟩) A.S cW)):
  TW w0 (w.setCell ⟨bW,k,none⟩ (ii (min (A.wl k+z) 1099511627776))) T A (zgA A k z) E:=by
 obtain⟨O,vp,vr,h1,h2,h3,h4,h5⟩:=h;have hb:=h3.blk h1 zO;have c1:=zaa hb 1;simp only[zC,zD,zE]at c1;rw[hc]at c1;have eP:vr.vW=.slice (some ⟨bW,0,none⟩) A.S cW:=(yaI c1).symm;have hwl:=h3.ok.wl k;have hb2:O (16+2)=_:=h3.b2;rw[eP]at hb2;obtain⟨O',k1,k2,k3⟩:=zeM h1 (i:=16+2) zO hb2 k (min (A.wl k+z) 1099511627776);exact⟨O',vp,vr,k1,h2.keep (fun j hj=>k3 _ zO),h3.setWl (k:=k) (z:=min (A.wl k+z) 1099511627776) zO (by rw[eP];exact k2) (fun j hj hne=>k3 _ zO),h4,fun i o hi=>(k3 _ zO).trans (h5 i o hi)⟩
theorem TW.net (h:TW w0 w T A A E):∃ (S L:Nat) (bS cS bW cW:Nat) (aG:Option Addr) (cG:Nat),(A.S=S∧S≤4∧A.way.length=L)∧zaj (T.gr+1) w∧zaj (bW+1) w∧w.cell? ⟨T.gr,0,none⟩=some (.slice (some ⟨bS,0,none⟩) S cS)∧w.cell? ⟨T.gr,4,none⟩=some (.slice aG L cG):=by
 obtain⟨bS,cS,bW,cW,aC,cC,aP,cP,aG,cG,hb,hbS,hbW,_⟩:=h.blk;have c0:=zaa hb 0;have c4:=zaa hb 4;simp only[zC,zD,zE]at c0 c4;exact⟨_,_,bS,cS,bW,cW,aG,cG,⟨rfl,h.ok.S.2,rfl⟩,⟨zae hb⟩,⟨hbW.2⟩,c0,c4⟩
theorem zfB (h:TW w0 w T A A E) (hg:za4 w0) (K:Int) (hK:K<0∨(A.way.length:Int)≤K):
  Calls prog 65 #[.pointer (some ⟨T.gp,0,none⟩),.pointer (some ⟨T.gr,0,none⟩),.agg #[ii 8,ii K,ii N,ii key,.string wd,.bool wg]] w fun e w'=>e=.returned (.bool true)∧TW w0 w' T A A E:=by
 obtain⟨S,L,bS,cS,bW,cW,aG,cG,⟨hgS,hS4,hgL⟩,i1,i2,c0,c4⟩:=h.net;have HG:=zac hg;have HT:=zac (h.push (.cells #[ii 8,K,N,key,.string wd,.bool wg] 129));have hx:decide (0≤K)=false∧decide (K<0)=true∧True∨decide (0≤K)=true∧decide (K<0)=false∧decide (K<(L:Int))=false:=by
  rw[hgL]at hK;simp only[yap,yaD,ybN];omega
 have HK:=zac hK;clear h hg hK;rcases hx with ⟨d0,d1,d2⟩|⟨d0,d1,d2⟩
 all_goals
  go_enter func65,ntmps65;go_wp2_with (refine zaw fun x1=>?_);go_at_call 104;refine((HT.out.below zB).pb fun n O v hp h hn=>zim hp h hn K HK.out).mono ?_;rintro e w4 ⟨rfl,ht4⟩;have HT4:=zac ht4;clear ht4;go_wp2_with fail;go_at_call 12;refine(za0 2 w4 (za4.low2 HG.out HT4.out.low)).mono ?_;rintro e w5 ⟨rfl,hb5⟩;have HT5:=zac (HT4.out.below hb5);obtain⟨x5,rfl⟩:=zad hb5;clear hb5;go_wp2_with fail;go_ret;exact⟨rfl,(HT5.out.below zB).less⟩
theorem zh1 (h:TW w0 w T A A E) (hg:za4 w0) (K:Int) (hK:K<0∨(A.way.length:Int)≤K):
  Calls prog 65 #[.pointer (some ⟨T.gp,0,none⟩),.pointer (some ⟨T.gr,0,none⟩),.agg #[ii 9,ii K,ii N,ii key,.string wd,.bool wg]] w fun e w'=>e=.returned (.bool true)∧TW w0 w' T A A E:=by
 obtain⟨S,L,bS,cS,bW,cW,aG,cG,⟨hgS,hS4,hgL⟩,i1,i2,c0,c4⟩:=h.net;have HG:=zac hg;have HT:=zac (h.push (.cells #[ii 9,K,N,key,.string wd,.bool wg] 129));have hx:decide (0≤K)=false∧decide (K<0)=true∧True∨decide (0≤K)=true∧decide (K<0)=false∧decide (K<(L:Int))=false:=by
  rw[hgL]at hK;simp only[yap,yaD,ybN];omega
 have HK:=zac hK;clear h hg hK;rcases hx with ⟨d0,d1,d2⟩|⟨d0,d1,d2⟩
 all_goals
  go_enter func65,ntmps65;go_wp2_with (refine zaw fun x1=>?_);go_at_call 109;refine((HT.out.below zB).pb fun n O v hp h hn=>zlT hp h hn K HK.out).mono ?_;rintro e w4 ⟨rfl,ht4⟩;have HT4:=zac ht4;clear ht4;go_wp2_with fail;go_at_call 12;refine(za0 2 w4 (za4.low2 HG.out HT4.out.low)).mono ?_;rintro e w5 ⟨rfl,hb5⟩;have HT5:=zac (HT4.out.below hb5);obtain⟨x5,rfl⟩:=zad hb5;clear hb5;go_wp2_with fail;go_ret;exact⟨rfl,(HT5.out.below zB).less⟩
theorem zgQ (h:TW w0 w T A A E) (hg:za4 w0) (K:Int) (hK:K<0∨(A.way.length:Int)≤K):
  Calls prog 65 #[.pointer (some ⟨T.gp,0,none⟩),.pointer (some ⟨T.gr,0,none⟩),.agg #[ii 10,ii K,ii N,ii key,.string wd,.bool wg]] w fun e w'=>e=.returned (.bool true)∧TW w0 w' T A A E:=by
 obtain⟨S,L,bS,cS,bW,cW,aG,cG,⟨hgS,hS4,hgL⟩,i1,i2,c0,c4⟩:=h.net;have HG:=zac hg;have HT:=zac (h.push (.cells #[ii 10,K,N,key,.string wd,.bool wg] 129));have hx:decide (0≤K)=false∧decide (K<0)=true∧True∨decide (0≤K)=true∧decide (K<0)=false∧decide (K<(L:Int))=false:=by
  rw[hgL]at hK;simp only[yap,yaD,ybN];omega
 have HK:=zac hK;clear h hg hK;rcases hx with ⟨d0,d1,d2⟩|⟨d0,d1,d2⟩
 all_goals
  go_enter func65,ntmps65;go_wp2_with (refine zaw fun x1=>?_);go_at_call 110;refine((HT.out.below zB).pb fun n O v hp h hn=>zky hp h hn K HK.out).mono ?_;rintro e w4 ⟨rfl,ht4⟩;have HT4:=zac ht4;clear ht4;go_wp2_with fail;go_at_call 12;refine(za0 2 w4 (za4.low2 HG.out HT4.out.low)).mono ?_;rintro e w5 ⟨rfl,hb5⟩;have HT5:=zac (HT4.out.below hb5);obtain⟨x5,rfl⟩:=zad hb5;clear hb5;go_wp2_with fail;go_ret;exact⟨rfl,(HT5.out.below zB).less⟩
theorem zgR (h:TW w0 w T A A E) (hg:za4 w0) (K:Int) (hK:K<0∨(A.S:Int)≤K):
  Calls prog 65 #[.pointer (some ⟨T.gp,0,none⟩),.pointer (some ⟨T.gr,0,none⟩),.agg #[ii 11,ii K,ii N,ii key,.string wd,.bool wg]] w fun e w'=>e=.returned (.bool true)∧TW w0 w' T A A E:=by
 obtain⟨S,L,bS,cS,bW,cW,aG,cG,⟨hgS,hS4,hgL⟩,i1,i2,c0,c4⟩:=h.net;have HG:=zac hg;have HT:=zac (h.push (.cells #[ii 11,K,N,key,.string wd,.bool wg] 129));have hx:decide (0≤K)=false∧decide (K<0)=true∧True∨decide (0≤K)=true∧decide (K<0)=false∧decide (K<(S:Int))=false:=by
  rw[hgS]at hK;simp only[yap,yaD,ybN];omega
 have HK:=zac hK;clear h hg hK;rcases hx with ⟨d0,d1,d2⟩|⟨d0,d1,d2⟩
 all_goals
  go_enter func65,ntmps65;go_wp2_with (refine zaw fun x1=>?_);go_at_call 111;refine((HT.out.below zB).pb fun n O v hp h hn=>zkz hp h hn K HK.out).mono ?_;rintro e w4 ⟨rfl,ht4⟩;have HT4:=zac ht4;clear ht4;go_wp2_with fail;go_at_call 12;refine(za0 2 w4 (za4.low2 HG.out HT4.out.low)).mono ?_;rintro e w5 ⟨rfl,hb5⟩;have HT5:=zac (HT4.out.below hb5);obtain⟨x5,rfl⟩:=zad hb5;clear hb5;go_wp2_with fail;go_ret;exact⟨rfl,(HT5.out.below zB).less⟩
theorem zh2 (h:TW w0 w T A A E) (hg:za4 w0) (K:Int) (hK:K<0∨(A.S:Int)≤K∨N<0∨1099511627776<N):
  Calls prog 65 #[.pointer (some ⟨T.gp,0,none⟩),.pointer (some ⟨T.gr,0,none⟩),.agg #[ii 6,ii K,ii N,ii key,.string wd,.bool wg]] w fun e w'=>e=.returned (.bool true)∧TW w0 w' T A A E:=by
 obtain⟨S,L,bS,cS,bW,cW,aG,cG,⟨hgS,hS4,hgL⟩,i1,i2,c0,c4⟩:=h.net;have HG:=zac hg;have HT:=zac (h.push (.cells #[ii 6,K,N,key,.string wd,.bool wg] 129));have hx:decide (0≤K)=false∧decide (K<0)=true∧True∧True∧True∨decide (0≤K)=true∧decide (K<0)=false∧decide (K<(S:Int))=false∧True∧True∨decide (0≤K)=true∧decide (K<0)=false∧decide (K<(S:Int))=true∧decide (0≤N)=false∧True∨decide (0≤K)=true∧decide (K<0)=false∧decide (K<(S:Int))=true∧decide (0≤N)=true∧decide (N≤1099511627776)=false:=by
  rw[hgS]at hK;simp only[yap,yaD,ybN];omega
 have HK:=zac hK;clear h hg hK;rcases hx with ⟨d0,d1,d2,d3,d4⟩|⟨d0,d1,d2,d3,d4⟩|⟨d0,d1,d2,d3,d4⟩|⟨d0,d1,d2,d3,d4⟩
 all_goals
  go_enter func65,ntmps65;go_wp2_with (refine zaw fun x1=>?_);go_at_call 107;refine((HT.out.below zB).pb fun n O v hp h hn=>zlU hp h hn K N HK.out).mono ?_;rintro e w4 ⟨rfl,ht4⟩;have HT4:=zac ht4;clear ht4;go_wp2_with fail;go_at_call 12;refine(za0 2 w4 (za4.low2 HG.out HT4.out.low)).mono ?_;rintro e w5 ⟨rfl,hb5⟩;have HT5:=zac (HT4.out.below hb5);obtain⟨x5,rfl⟩:=zad hb5;clear hb5;go_wp2_with fail;go_ret;exact⟨rfl,(HT5.out.below zB).less⟩
theorem ziP (h:TW w0 w T A A E) (hg:za4 w0) (K:Int) (hK:K<0∨(A.S:Int)≤K∨N<0∨(A.S:Int)≤N∨K=N):
  Calls prog 65 #[.pointer (some ⟨T.gp,0,none⟩),.pointer (some ⟨T.gr,0,none⟩),.agg #[ii 7,ii K,ii N,ii key,.string wd,.bool wg]] w fun e w'=>e=.returned (.bool true)∧TW w0 w' T A A E:=by
 obtain⟨S,L,bS,cS,bW,cW,aG,cG,⟨hgS,hS4,hgL⟩,i1,i2,c0,c4⟩:=h.net;have HG:=zac hg;have HT:=zac (h.push (.cells #[ii 7,K,N,key,.string wd,.bool wg] 129));have hx:decide (0≤K)=false∧decide (K<0)=true∧True∧True∧True∧True∨decide (0≤K)=true∧decide (K<0)=false∧decide (K<(S:Int))=false∧True∧True∧True∨decide (0≤K)=true∧decide (K<0)=false∧decide (K<(S:Int))=true∧decide (0≤N)=false∧True∧True∨decide (0≤K)=true∧decide (K<0)=false∧decide (K<(S:Int))=true∧decide (0≤N)=true∧decide (N<(S:Int))=false∧True∨decide (0≤K)=true∧decide (K<0)=false∧decide (K<(S:Int))=true∧decide (0≤N)=true∧decide (N<(S:Int))=true∧K=N:=by
  rw[hgS]at hK;simp only[yap,yaD,ybN];omega
 have HK:=zac hK;clear h hg hK;rcases hx with ⟨d0,d1,d2,d3,d4,d5⟩|⟨d0,d1,d2,d3,d4,d5⟩|⟨d0,d1,d2,d3,d4,d5⟩|⟨d0,d1,d2,d3,d4,d5⟩|⟨d0,d1,d2,d3,d4,rfl⟩
 all_goals
  go_enter func65,ntmps65;go_wp2_with (refine zaw fun x1=>?_);go_at_call 108;refine((HT.out.below zB).pb fun n O v hp h hn=>zj9 hp h hn _ _ (by first|exact HK.out|exact .inr (.inr (.inr (.inr rfl))))).mono ?_;rintro e w4 ⟨rfl,ht4⟩;have HT4:=zac ht4;clear ht4;go_wp2_with fail;go_at_call 12;refine(za0 2 w4 (za4.low2 HG.out HT4.out.low)).mono ?_;rintro e w5 ⟨rfl,hb5⟩;have HT5:=zac (HT4.out.below hb5);obtain⟨x5,rfl⟩:=zad hb5;clear hb5;go_wp2_with fail;go_ret;exact⟨rfl,(HT5.out.below zB).less⟩
end
section
variable {w0 w:World}{T:TWo}{A:AWd}{E:List Ob}{N key:Int}{wd:ByteArray}{wg:Bool}{k:Nat}
theorem zhZ (h:TW w0 w T A A E) (hg:za4 w0) (hk:k<A.way.length):
  Calls prog 65 #[.pointer (some ⟨T.gp,0,none⟩),.pointer (some ⟨T.gr,0,none⟩),.agg #[ii 10,ii (k:Nat),ii N,ii key,.string wd,.bool wg]] w fun e w'=>e=.returned (.bool true)∧TW w0 w' T (zc0 A k) (zc0 A k) E:=by
 obtain⟨S,L,bS,cS,bW,cW,aG,cG,⟨hgS,hS4,hgL⟩,i1,i2,c0,c4⟩:=h.net;have HG:=zac hg;have HT:=zac (h.push (.cells #[ii 10,ii (k:Nat),N,key,.string wd,.bool wg] 129));have d0:decide (0≤(k:Int))=true:=zT;have d1:decide ((k:Int)<0)=false:=zU;have HK:=zac hk;have d2:k<L:=by omega
 have d3:decide ((k:Int)<(L:Int))=true:=zT;clear hk;clear h hg;go_enter func65,ntmps65;go_wp2_with (refine zaw fun x1=>?_);go_at_call 120;refine((HT.out.below zB).rc (A1:=zc0 A k) fun n O v e1 e2 hp h hn=>zmy hp h hn k HK.out).mono ?_;rintro e w3 ⟨rfl,ht3⟩;have hz:=ht3.box (b:=w.heap.size) (o:=.cells #[ii 10,ii (k:Nat),N,key,.string wd,.bool wg] 129) zS;have q1:=zaa hz 1;simp only[zC,zD,zE]at q1;haveI:zaj (w.heap.size+1) w3:=⟨zae hz⟩;have HT3:=zac ht3;clear hz ht3 HT;go_wp2_with fail;go_at_call 110;refine((HT3.out.below zB).pc (A1:=zc0 A k) fun n O v hp h hn=>zlM hp h hn HK.out).mono ?_;rintro e w4 ⟨rfl,ht4⟩;have HT4:=zac ht4;clear ht4;go_wp2_with fail;go_at_call 12;refine(zcY w4).mono ?_;rintro e w5 ⟨rfl,hb5⟩;have HT5:=zac (HT4.out.below hb5);obtain⟨x5,rfl⟩:=zad hb5;clear hb5;go_wp2_with fail;go_ret;exact⟨rfl,(HT5.out.below zB).less⟩
theorem zh0 (h:TW w0 w T A A E) (hg:za4 w0) (hk:k<A.S):
  Calls prog 65 #[.pointer (some ⟨T.gp,0,none⟩),.pointer (some ⟨T.gr,0,none⟩),.agg #[ii 11,ii (k:Nat),ii N,ii key,.string wd,.bool wg]] w fun e w'=>e=.returned (.bool true)∧TW w0 w' T (zdy A k) (zdy A k) E:=by
 obtain⟨S,L,bS,cS,bW,cW,aG,cG,⟨hgS,hS4,hgL⟩,i1,i2,c0,c4⟩:=h.net;have HG:=zac hg;have HT:=zac (h.push (.cells #[ii 11,ii (k:Nat),N,key,.string wd,.bool wg] 129));have d0:decide (0≤(k:Int))=true:=zT;have d1:decide ((k:Int)<0)=false:=zU;have HK:=zac hk;have d2:k<S:=by omega
 have d3:decide ((k:Int)<(S:Int))=true:=zT;clear hk;clear h hg;go_enter func65,ntmps65;go_wp2_with (refine zaw fun x1=>?_);go_at_call 121;refine((HT.out.below zB).rc (A1:=zdy A k) fun n O v e1 e2 hp h hn=>zk4 hp h hn HK.out).mono ?_;rintro e w3 ⟨rfl,ht3⟩;have hz:=ht3.box (b:=w.heap.size) (o:=.cells #[ii 11,ii (k:Nat),N,key,.string wd,.bool wg] 129) zS;have q1:=zaa hz 1;simp only[zC,zD,zE]at q1;haveI:zaj (w.heap.size+1) w3:=⟨zae hz⟩;have HT3:=zac ht3;clear hz ht3 HT;go_wp2_with fail;go_at_call 111;refine((HT3.out.below zB).pc (A1:=zdy A k) fun n O v hp h hn=>zlN hp h hn HK.out).mono ?_;rintro e w4 ⟨rfl,ht4⟩;have HT4:=zac ht4;clear ht4;go_wp2_with fail;go_at_call 12;refine(zcY w4).mono ?_;rintro e w5 ⟨rfl,hb5⟩;have HT5:=zac (HT4.out.below hb5);obtain⟨x5,rfl⟩:=zad hb5;clear hb5;go_wp2_with fail;go_ret;exact⟨rfl,(HT5.out.below zB).less⟩
theorem ziN (h:TW w0 w T A A E) (hg:za4 w0) (hk:k<A.way.length):
  Calls prog 65 #[.pointer (some ⟨T.gp,0,none⟩),.pointer (some ⟨T.gr,0,none⟩),.agg #[ii 9,ii (k:Nat),ii N,ii key,.string wd,.bool wg]] w fun e w'=>e=.returned (.bool true)∧TW w0 w' T (zbh A k) (zbh A k) E:=by
 obtain⟨S,L,bS,cS,bW,cW,aG,cG,⟨hgS,hS4,hgL⟩,i1,i2,c0,c4⟩:=h.net;have HG:=zac hg;have HT:=zac (h.push (.cells #[ii 9,ii (k:Nat),N,key,.string wd,.bool wg] 129));have d0:decide (0≤(k:Int))=true:=zT;have d1:decide ((k:Int)<0)=false:=zU;have HK:=zac hk;have d2:k<L:=by omega
 have d3:decide ((k:Int)<(L:Int))=true:=zT;clear hk;clear h hg;go_enter func65,ntmps65;go_wp2_with (refine zaw fun x1=>?_);go_at_call 119;refine((HT.out.below zB).out HK.out).mono ?_;rintro e w3 ⟨m,rfl,hm,hok,hws,ht3⟩;have hz:=ht3.box (b:=w.heap.size) (o:=.cells #[ii 9,ii (k:Nat),N,key,.string wd,.bool wg] 129) zS;have q1:=zaa hz 1;simp only[zC,zD,zE]at q1;haveI:zaj (w.heap.size+1) w3:=⟨zae hz⟩;have HT3:=zac ht3;clear hz ht3 HT;go_wp2_with fail;go_at_call 109;refine((HT3.out.below zB).pc (A1:=zbh A k) fun n O v hp h hn=>wLose_ok hp h hn HK.out).mono ?_;rintro e w4 ⟨rfl,ht4⟩;have HT4:=zac ht4;clear ht4;go_wp2_with fail;go_at_call 12;refine(zcY w4).mono ?_;rintro e w5 ⟨rfl,hb5⟩;have HT5:=zac (HT4.out.below hb5);obtain⟨x5,rfl⟩:=zad hb5;clear hb5;go_wp2_with fail;go_ret;exact⟨rfl,(HT5.out.below zB).less⟩
theorem zgi (h:TW w0 w T A A E) (hg:za4 w0) (hk:k<A.way.length):
  Calls prog 65 #[.pointer (some ⟨T.gp,0,none⟩),.pointer (some ⟨T.gr,0,none⟩),.agg #[ii 8,ii (k:Nat),ii N,ii key,.string wd,.bool wg]] w fun e w'=>e=.returned (.bool true)∧TW w0 w' T (zaH A k) (zaH A k) E:=by
 obtain⟨S,L,bS,cS,bW,cW,aG,cG,⟨hgS,hS4,hgL⟩,i1,i2,c0,c4⟩:=h.net;have HG:=zac hg;have HT:=zac (h.push (.cells #[ii 8,ii (k:Nat),N,key,.string wd,.bool wg] 129));have d0:decide (0≤(k:Int))=true:=zT;have d1:decide ((k:Int)<0)=false:=zU;have HK:=zac hk;have d2:k<L:=by omega
 have d3:decide ((k:Int)<(L:Int))=true:=zT;clear hk;clear h hg;go_enter func65,ntmps65;go_wp2_with (refine zaw fun x1=>?_);go_at_call 119;refine((HT.out.below zB).out HK.out).mono ?_;rintro e w2 ⟨m,rfl,hm,hok,hws,ht2⟩;have HQ:Hid (zcl (zbh A k) m.g=zaH A k):=zac (by rw[hm];rfl);have HT2:=zac ht2;have HO:=zac hok;have HS:=zac hws;clear ht2 hm hok hws;go_wp2_with fail;go_at_call 118;refine((HT2.out.below zB).comes m HO.out (HS.out.below zB)).mono ?_;rintro e w3 ⟨rfl,ht3⟩;rw[HQ.out]at ht3;have hz:=ht3.box (b:=w.heap.size) (o:=.cells #[ii 8,ii (k:Nat),N,key,.string wd,.bool wg] 129) zS;have q1:=zaa hz 1;simp only[zC,zD,zE]at q1;haveI:zaj (w.heap.size+1) w3:=⟨zae hz⟩;have HT3:=zac ht3;clear hz ht3 HT;go_wp2_with fail;go_at_call 104;refine((HT3.out.below zB).pc (A1:=zaH A k) fun n O v hp h hn=>zfY hp h hn HK.out).mono ?_;rintro e w4 ⟨rfl,ht4⟩;have HT4:=zac ht4;clear ht4;go_wp2_with fail;go_at_call 12;refine(zcY w4).mono ?_;rintro e w5 ⟨rfl,hb5⟩;have HT5:=zac (HT4.out.below hb5);obtain⟨x5,rfl⟩:=zad hb5;clear hb5;go_wp2_with fail;go_ret;exact⟨rfl,(HT5.out.below zB).less⟩
theorem zjF (h:TW w0 w T A A E) (hg:za4 w0) (o:Nat) (hk:k<A.S) (ho:o<A.S) (hko:k≠o):
  Calls prog 65 #[.pointer (some ⟨T.gp,0,none⟩),.pointer (some ⟨T.gr,0,none⟩),.agg #[ii 7,ii (k:Nat),ii (o:Nat),ii key,.string wd,.bool wg]] w fun e w'=>e=.returned (.bool true)∧TW w0 w' T (zc2 A k o) (zc2 A k o) E:=by
 obtain⟨S,L,bS,cS,bW,cW,aG,cG,⟨hgS,hS4,hgL⟩,i1,i2,c0,c4⟩:=h.net;have HG:=zac hg;have HT:=zac (h.push (.cells #[ii 7,ii (k:Nat),ii (o:Nat),key,.string wd,.bool wg] 129));have d0:decide (0≤(k:Int))=true:=zT;have d1:decide ((k:Int)<0)=false:=zU;have HK:=zac hk;have d2:k<S:=by omega
 have d3:decide ((k:Int)<(S:Int))=true:=zT;clear hk;have HO:=zac ho;have HKO:=zac hko;have d4:decide (0≤(o:Int))=true:=zT;have d5:decide ((o:Int)<(S:Int))=true:=zT;have d6:o<S:=by omega
 clear ho;clear h hg;go_enter func65,ntmps65;go_wp2_with (refine zaw fun x1=>?_);go_at_call 117;refine((HT.out.below zB).rc (A1:=zc2 A k o) fun n O v e1 e2 hp h hn=>zmx hp h hn k o HK.out HO.out).mono ?_;rintro e w3 ⟨rfl,ht3⟩;have hz:=ht3.box (b:=w.heap.size) (o:=.cells #[ii 7,ii (k:Nat),ii (o:Nat),key,.string wd,.bool wg] 129) zS;have q1:=zaa hz 1;have q2:=zaa hz 2;simp only[zC,zD,zE]at q1 q2;haveI:zaj (w.heap.size+1) w3:=⟨zae hz⟩;have HT3:=zac ht3;clear hz ht3 HT;go_wp2_with fail;go_at_call 108;refine((HT3.out.below zB).pc (A1:=zc2 A k o) fun n O v hp h hn=>zlX hp h hn HK.out HO.out HKO.out).mono ?_;rintro e w4 ⟨rfl,ht4⟩;have HT4:=zac ht4;clear ht4;go_wp2_with fail;go_at_call 12;refine(zcY w4).mono ?_;rintro e w5 ⟨rfl,hb5⟩;have HT5:=zac (HT4.out.below hb5);obtain⟨x5,rfl⟩:=zad hb5;clear hb5;go_wp2_with fail;go_ret;exact⟨rfl,(HT5.out.below zB).less⟩
theorem zmO (h:TW w0 w T A A E) (K:Int):
  Calls prog 65 #[.pointer (some ⟨T.gp,0,none⟩),.pointer (some ⟨T.gr,0,none⟩),.agg #[ii 12,ii K,ii N,ii key,.string wd,.bool wg]] w fun e w'=>e=.returned (.bool true)∧TW w0 w' T (zfv A) (zfv A) E:=by
 obtain⟨S,L,bS,cS,bW,cW,aG,cG,⟨hgS,hS4,hgL⟩,i1,i2,c0,c4⟩:=h.net;have HT:=zac (h.push (.cells #[ii 12,K,N,key,.string wd,.bool wg] 129));clear h;have hx:(decide (0≤K)=false∧decide (K<0)=true)∨(decide (0≤K)=true∧decide (K<0)=false):=by simp only[yap,yaD];omega
 rcases hx with ⟨d0,d1⟩|⟨d0,d1⟩
 all_goals
  go_enter func65,ntmps65;go_wp2_with (refine zaw fun x1=>?_);go_at_call 122;refine((HT.out.below zB).rc (A1:=zfv A) fun n O v e1 e2 hp h hn=>zmw hp h hn).mono ?_;rintro e w3 ⟨rfl,ht3⟩;have HT3:=zac ht3;clear ht3 HT;go_wp2_with fail;go_at_call 57;refine((HT3.out.below zB).pc (A1:=zfv A) fun n O v hp h hn=>zlV hp h hn).mono ?_;rintro e w4 ⟨rfl,ht4⟩;have HT4:=zac ht4;clear ht4;go_wp2_with fail;go_ret;exact⟨rfl,(HT4.out.below zB).less⟩
theorem zmN (h:TW w0 w T A A E) (K z:Int) (hz:12<z):
  Calls prog 65 #[.pointer (some ⟨T.gp,0,none⟩),.pointer (some ⟨T.gr,0,none⟩),.agg #[ii z,ii K,ii N,ii key,.string wd,.bool wg]] w fun e w'=>e=.returned (.bool true)∧TW w0 w' T A A E:=by
 obtain⟨S,L,bS,cS,bW,cW,aG,cG,⟨hgS,hS4,hgL⟩,i1,i2,c0,c4⟩:=h.net;have HT:=zac (h.push (.cells #[z,K,N,key,.string wd,.bool wg] 129));clear h;have hx:(decide (0≤K)=false∧decide (K<0)=true)∨(decide (0≤K)=true∧decide (K<0)=false):=by simp only[yap,yaD];omega
 have hy:¬z=6∧¬z=7∧¬z=8∧¬z=9∧¬z=10∧¬z=11∧¬z=12:=by omega
 obtain⟨z0,z1,z2,z3,z4,z5,z6⟩:=hy;rcases hx with ⟨d0,d1⟩|⟨d0,d1⟩
 all_goals
  go_enter func65,ntmps65;go_wp2_with (refine zaw fun x1=>?_);go_ret;exact⟨rfl,(HT.out.below zB).less⟩
end
section
variable {w0 w:World}{T:TWo}{A:AWd}{E:List Ob}{N key:Int}{wd:ByteArray}{wg:Bool}{k:Nat}
theorem ziO (h:TW w0 w T A A E) (hg:za4 w0) (hk:k<A.S) (hN:0≤N∧N≤1099511627776):
  Calls prog 65 #[.pointer (some ⟨T.gp,0,none⟩),.pointer (some ⟨T.gr,0,none⟩),.agg #[ii 6,ii (k:Nat),ii N,ii key,.string wd,.bool wg]] w fun e w'=>e=.returned (.bool true)∧TW w0 w' T (zgA A k N) (zgA A k N) E:=by
 obtain⟨bS,cS,bW,cW,aC,cC,aP,cP,aG,cG,hb,hbS,hbW,kS,kW,fW,_⟩:=h.blk;have c0:=zaa hb 0;have c1:=zaa hb 1;have c4:=zaa hb 4;simp only[zC,zD,zE]at c0 c1 c4;haveI:zaj (T.gr+1) w:=⟨zae hb⟩;haveI:zaj (bW+1) w:=⟨hbW.2⟩;have HG:=zac hg;have HT:=zac (h.push (.cells #[ii 6,ii (k:Nat),N,key,.string wd,.bool wg] 129));have HP0:=zac (h.setWl (k:=k) (z:=N) hk hN c1);have HK:=zac hk;have HN:=zac hN;have xW:=kW k hk;have fW0:=fW k;have hwl:=h.ok.wl k;have hne1:¬w.heap.size=bW:=by have:=hbW.2;omega
 have hne2:¬bW=w.heap.size:=by have:=hbW.2;omega
 obtain⟨wk,hwk⟩:∃ wk,A.wl k=wk:=⟨_,rfl⟩;rw[hwk]at xW hwl HP0;obtain⟨A2,hA2⟩:∃ A2,zgA A k N=A2:=⟨_,rfl⟩;have HA2:=zac hA2;rw[hA2]at HP0;rw[hA2];obtain⟨S,hgS⟩:∃ S,A.S=S:=⟨_,rfl⟩;obtain⟨L,hgL⟩:∃ L,A.way.length=L:=⟨_,rfl⟩;rw[hgS]at c0 c1;rw[hgL]at c4;have hS4:S≤4:=by rw[←hgS];exact h.ok.S.2
 have d0:decide (0≤(k:Int))=true:=zT;have d1:decide ((k:Int)<0)=false:=zU;have d2:decide ((k:Int)<(S:Int))=true:=zT;have d2n:k<S:=by omega
 have hk0:(0:Int)≤(k:Int):=by omega
 have hk1:(k:Int)<(S:Int):=by omega
 obtain⟨hn0,hn1⟩:=hN;obtain⟨hw0,hw1⟩:=hwl;have d3:decide (0≤N)=true:=yae hn0;have d4:decide (N≤1099511627776)=true:=yae hn1;clear hk hA2 hwk;clear hb hbS hbW kS kW fW h hg;have HPV:Hid (∀ z,z=min (wk+N) 1099511627776→TW w0 ((w.setCell ⟨bW,k,none⟩ (ii z)).alloc (.cells #[ii 6,ii (k:Nat),N,key,.string wd,.bool wg] 129)) T A A2 (E++[obB (w.setCell ⟨bW,k,none⟩ (ii z)).heap.size (.cells #[ii 6,ii (k:Nat),N,key,.string wd,.bool wg] 129) w0.heap.size])):=zac (fun z hz=>by subst hz;exact HP0.out.push (.cells #[ii 6,ii (k:Nat),N,key,.string wd,.bool wg] 129));have HP1:=zac (HPV.out (min (wk+N) 1099511627776) rfl);clear HP0 HPV;go_enter func65,ntmps65;go_wp2_with fail;refine zaw fun x1=>?_
 go_wp2_with fail;refine zaw fun x2=>?_
 go_wp2_with fail;refine zb9 18 fun x3=>?_
 go_wp2_with fail;go_at_call 107;refine((HP1.out.below zB).pc (A1:=A2) fun n O v hp h hn=>by rw[←HA2.out];exact wGoes_ok hp h hn HK.out N HN.out).mono ?_;rintro e w4 ⟨rfl,ht4⟩;have HT4:=zac ht4;clear ht4;go_wp2_with fail;go_at_call 12;refine(zcY w4).mono ?_;rintro e w5 ⟨rfl,hb5⟩;have HT5:=zac (HT4.out.below hb5);obtain⟨x5,rfl⟩:=zad hb5;clear hb5;go_wp2_with fail;go_ret;exact⟨rfl,(HT5.out.below zB).less⟩
end
def zca (A A':AWd):Prop:=A'.S=A.S∧A'.C=A.C∧∀ k,(A'.cl k).W.length≤(A.cl k).W.length+1
theorem zca.rfl' (A:AWd):zca A A:=⟨rfl,rfl,fun k=>by omega⟩
theorem zca.same {A A':AWd}(h1:A'.S=A.S) (h2:A'.C=A.C) (h3:A'.cl=A.cl):zca A A':=⟨h1,h2,fun k=>by rw[h3];omega⟩
theorem zca.cl (A:AWd) (k:Nat) (d:SdP) (h:d.W.length≤(A.cl k).W.length+1):zca A { A with cl:=zb5 A.cl k d }:=⟨rfl,rfl,fun i=>by
 show(zb5 A.cl k d i).W.length≤_;by_cases e:i=k
 ·subst e;rw[zbm];exact h
 ·rw[zbk _ e];omega⟩
theorem zca.commit (A:AWd) (k:Nat):zca A (zbB A k):=by
 have h1:zca A (zap A k):=by
  unfold zap;split
  ·refine⟨rfl,rfl,fun i=>?_⟩
   show(zb5 A.cl k _ i).W.length≤_;by_cases e:i=k
   ·subst e;rw[zbm]
    unfold zb8;split <;> simp[zg5,zaG]
   ·rw[zbk _ e];omega
  ·exact zca.rfl' A
 unfold zbB;split
 ·obtain⟨e1,e2,e3,e4,e5,e6⟩:=awSends_eq (zfE A (A.pl k) (zaZ A k) A.S) (zap A k)
  exact⟨e1.trans h1.1,e2.trans h1.2.1,fun i=>by rw[e5];exact h1.2.2 i⟩
 ·exact h1
section
variable {w0 w:World}{T:TWo}{A:AWd}{E:List Ob}{N key:Int}{wd:ByteArray}{wg:Bool}{k:Nat}
theorem acts_any (h:TW w0 w T A A E) (hg:za4 w0) (hwf:zcr N) (hW:∀ k,(A.cl k).W.length≤900) (K z:Int) (hz:0≤z∧z≤5):
  Calls prog 64 #[.pointer (some ⟨T.gp,0,none⟩),.pointer (some ⟨T.gr,0,none⟩),.agg #[ii z,ii K,ii N,ii key,.string wd,.bool wg]] w fun e w'=>e=.returned (.bool true)∧∃ A',zca A A'∧TW w0 w' T A' A' E:=by
 have hz6:z=0∨z=1∨z=2∨z=3∨z=4∨z=5:=by omega
 by_cases hK:K<0∨(A.C:Int)≤K
 ·have hs:=zca.rfl' A
  rcases hz6 with rfl|rfl|rfl|rfl|rfl|rfl
  ·exact(zgV h hg K hK).mono fun e w' ⟨a,b⟩=>⟨a,A,hs,b⟩
  ·exact(zic h hg K hK).mono fun e w' ⟨a,b⟩=>⟨a,A,hs,b⟩
  ·exact(zgT h hg K hK).mono fun e w' ⟨a,b⟩=>⟨a,A,hs,b⟩
  ·exact(zgG h hg K hK).mono fun e w' ⟨a,b⟩=>⟨a,A,hs,b⟩
  ·exact(zgW h hg K hK).mono fun e w' ⟨a,b⟩=>⟨a,A,hs,b⟩
  ·exact(zid h hg K hK).mono fun e w' ⟨a,b⟩=>⟨a,A,hs,b⟩
 ·obtain⟨k,rfl⟩:∃ k:Nat,K=(k:Int):=⟨K.toNat,zO⟩
  have hk:k<A.C:=by omega
  rcases hz6 with rfl|rfl|rfl|rfl|rfl|rfl
  ·refine(zie h hg hk).mono fun e w' ⟨a,b⟩=>⟨a,_,zca.cl A k _ ?_,b⟩
   unfold zhn;split
   ·simp[ze3]
   ·omega
  ·exact(zje h hg hk hwf (hW k)).mono fun e w' ⟨a,b⟩=>⟨a,_,zca.rfl' A,b⟩
  ·refine(zib h hg hk (hW k)).mono fun e w' ⟨a,b⟩=>⟨a,_,zca.cl A k _ ?_,b⟩
   unfold zfr;split
   ·simp
   ·omega
  ·exact(zgU h hg hk (hW k)).mono fun e w' ⟨a,b⟩=>⟨a,_,zca.commit A k,b⟩
  ·refine(zif h hg hk).mono fun e w' ⟨a,b⟩=>⟨a,_,zca.cl A k _ ?_,b⟩
   unfold zgt;split
   ·simp[zaG]
   ·omega
  ·refine(zjf h hg hk).mono fun e w' ⟨a,b⟩=>⟨a,_,?_,b⟩
   unfold zdF;split
   ·exact zca.same rfl rfl rfl
   ·exact zca.rfl' A
theorem zgy (A:AWd) (g:GmP):zca A (zaJ A g):=by
 obtain⟨e1,e2,e3,e4,e5,e6⟩:=zgz A g;exact zca.same e1 e2 e5
theorem nets_any (h:TW w0 w T A A E) (hg:za4 w0) (K z:Int) (hz:5<z):
  Calls prog 65 #[.pointer (some ⟨T.gp,0,none⟩),.pointer (some ⟨T.gr,0,none⟩),.agg #[ii z,ii K,ii N,ii key,.string wd,.bool wg]] w fun e w'=>e=.returned (.bool true)∧∃ A',zca A A'∧TW w0 w' T A' A' E:=by
 have hs:=zca.rfl' A;by_cases h12:12<z
 ·exact(zmN h K z h12).mono fun e w' ⟨a,b⟩=>⟨a,A,hs,b⟩
 have hz6:z=6∨z=7∨z=8∨z=9∨z=10∨z=11∨z=12:=by omega
 rcases hz6 with rfl|rfl|rfl|rfl|rfl|rfl|rfl
 ·by_cases hK:K<0∨(A.S:Int)≤K∨N<0∨1099511627776<N
  ·exact(zh2 h hg K hK).mono fun e w' ⟨a,b⟩=>⟨a,A,hs,b⟩
  ·obtain⟨k,rfl⟩:∃ k:Nat,K=(k:Int):=⟨K.toNat,zO⟩
   exact(ziO h hg (k:=k) zO zO).mono fun e w' ⟨a,b⟩=>⟨a,zgA A k N,zca.same rfl rfl rfl,b⟩
 ·by_cases hK:K<0∨(A.S:Int)≤K∨N<0∨(A.S:Int)≤N∨K=N
  ·exact(ziP h hg K hK).mono fun e w' ⟨a,b⟩=>⟨a,A,hs,b⟩
  ·obtain⟨k,rfl⟩:∃ k:Nat,K=(k:Int):=⟨K.toNat,zO⟩
   obtain⟨o,rfl⟩:∃ o:Nat,N=(o:Int):=⟨N.toNat,zO⟩;exact(zjF h hg (k:=k) o zO zO zO).mono fun e w' ⟨a,b⟩=>⟨a,_,zgy _ _,b⟩
 ·by_cases hK:K<0∨(A.way.length:Int)≤K
  ·exact(zfB h hg K hK).mono fun e w' ⟨a,b⟩=>⟨a,A,hs,b⟩
  ·obtain⟨k,rfl⟩:∃ k:Nat,K=(k:Int):=⟨K.toNat,zO⟩
   have hd:=zfu A k;exact(zgi h hg (k:=k) zO).mono fun e w' ⟨a,b⟩=>⟨a,_,zca.same hd.1 hd.2.1 hd.2.2.1,b⟩
 ·by_cases hK:K<0∨(A.way.length:Int)≤K
  ·exact(zh1 h hg K hK).mono fun e w' ⟨a,b⟩=>⟨a,A,hs,b⟩
  ·obtain⟨k,rfl⟩:∃ k:Nat,K=(k:Int):=⟨K.toNat,zO⟩
   exact(ziN h hg (k:=k) zO).mono fun e w' ⟨a,b⟩=>⟨a,zbh A k,zca.same rfl rfl rfl,b⟩
 ·by_cases hK:K<0∨(A.way.length:Int)≤K
  ·exact(zgQ h hg K hK).mono fun e w' ⟨a,b⟩=>⟨a,A,hs,b⟩
  ·obtain⟨k,rfl⟩:∃ k:Nat,K=(k:Int):=⟨K.toNat,zO⟩
   exact(zhZ h hg (k:=k) zO).mono fun e w' ⟨a,b⟩=>⟨a,_,zgy _ _,b⟩
 ·by_cases hK:K<0∨(A.S:Int)≤K
  ·exact(zgR h hg K hK).mono fun e w' ⟨a,b⟩=>⟨a,A,hs,b⟩
  ·obtain⟨k,rfl⟩:∃ k:Nat,K=(k:Int):=⟨K.toNat,zO⟩
   exact(zh0 h hg (k:=k) zO).mono fun e w' ⟨a,b⟩=>⟨a,zdy A k,zca.same rfl rfl rfl,b⟩
 ·have h1:=zd6 (zaS A) A.S
  have h2:=awFlow_SC (wayW A.way) A;exact(zmO h K).mono fun e w' ⟨a,b⟩=>⟨a,_,zca.same (h1.1.trans h2.1) (h1.2.1.trans h2.2.1) (h1.2.2.1.trans h2.2.2.1),b⟩
end
end Go.Proofs.YtbopfhbeegkkaabGreatDoor
namespace Go.Proofs.YtbopfhbeegkkaabGreatDoor
open Go.RowKit Go.WideShapes Go.ChangeShapes Go.WideElems Go.ChangeAt Go.Proofs.Tryz
section
variable {H:Type}{enc:TypeId×Value→H}{P:Program}
def zd1 (P:Program) (ts:List TypeId):Bool:=ts.all fun t=>P.readableRec t&&decide (t<P.types.size)
theorem zfn (hl:laidOutB P=true){W W':World}{sp:Nat→Bool}(hb:Below W.heap.size W W'):
  ∀ {ts:List TypeId}{vs:List Value}{ds:List (DataW H)}{ps:List MemPlace},zd1 P ts=true→DataW.TrodAll enc P W 0 (fun _=>true) true ts vs ds ps→
    (∀ p∈ps,p.block<W.heap.size)→(∀ p∈ps,sp p.block=true)→DataW.TrodAll enc P W' 0 sp true ts vs ds ps
 | [],[],[],_,_,h,_,_=>h
 | t::ts,v::vs,d::ds,ps,ht,h,hlt,hs=>by
   obtain⟨p,q,h1,h2,e⟩:=h;simp only[zd1,List.all_cons,yav,yap]at ht;subst e;exact⟨p,q,Trod_stays hl ht.1.1 ht.1.2 h1 (fun x hx=>hb.same (hlt x (by simp[hx]))) (fun x hx=>hs x (by simp[hx])),
    zfn hl hb (by simpa[zd1]using ht.2) h2 (fun x hx=>hlt x (by simp[hx])) (fun x hx=>hs x (by simp[hx])),rfl⟩
 | [],[],_::_,_,_,h,_,_=>h.elim
 | [],_::_,_,_,_,h,_,_=>h.elim
 | _::_,[],_,_,_,h,_,_=>h.elim
 | _::_,_::_,[],_,_,h,_,_=>h.elim
theorem zeD (hl:laidOutB P=true){W W':World}{sp:Nat→Bool}(hb:Below W.heap.size W W'):
  ∀ {ns:List String}{gs:List (DataW H)}{ps:List MemPlace},varsRowed P ns=true→DataW.TrodVars enc P W (fun _=>true) ns gs ps→
    (∀ p∈ps,sp p.block=true)→DataW.TrodVars enc P W' sp ns gs ps
 | [],[],_,_,h,_=>h
 | [],_::_,_,_,h,_=>h.elim
 | _::_,[],_,_,h,_=>h.elim
 | n::ns,d::ds,ps,hv,h,hsp=>by
   have hlt:=h.lt;obtain⟨g,t,cs,fuel,p,q,h1,h2,h3,h4,hs,e⟩:=h;simp only[varsRowed,List.all_cons,yav]at hv;have ht:P.readableRec t=true∧t<P.types.size:=by
    have:=hv.1;rw[h1]at this;cases hg:P.globals[g]? with
    | none=>rw[hg]at h2;cases h2
    | some gl=>
      rw[hg]at h2;obtain rfl:gl.type=t:=yaI h2;simpa[hg]using this
   have hp:∀ x∈p,x.block<W.heap.size:=fun x hx=>hlt x (by rw[e];simp[hx])
   have h3':W'.var? P n=some cs:=by
    unfold World.var? at h3 ⊢;rw[h1]at h3 ⊢;simp only[Option.bind_some]at h3 ⊢;have hg:g<W.heap.size:=by
     cases hh:W.heap[g]? with
     | none=>rw[hh]at h3;cases h3
     | some o=>exact(yaV.1 hh).1
    rw[hb.block g hg];exact h3
   exact⟨g,t,cs,fuel,p,q,h1,h2,h3',DataW.trod_stays (kids_book hl ht.1) (book_sized ht.1) (fun h=>by cases h) ⟨ht.2,book_self t⟩ h4 (fun x hx=>hb.same (hp x hx)) (fun x hx=>hsp x (by rw[e];simp[hx])),
    zeD hl hb (by simpa[varsRowed]using hv.2) hs (fun x hx=>hsp x (by rw[e];simp[hx])),e⟩
theorem law_post {f:Func}{s:ChangeSpec}{W W':World}{args:Array Value}{ds gs:List (DataW H)}{before:List MemPlace}{tb:TypeId}
  (hl:laidOutB P=true) (hp:zd1 P f.params.toList=true) (hvr:varsRowed P s.vars=true)
  (hW:DataW.Whole enc P f.params.toList s.vars false W args.toList ds gs before) (hb:Below W.heap.size W W')
  (hr:f.resultTypes=#[tb]) (hub:P.underlying tb=some .bool)
  (hres:(s.fn H (ds++gs)).results=[.lit (.bool true)]) (hargs:(s.fn H (ds++gs)).args=ds) (hvars:(s.fn H (ds++gs)).vars=gs):
  s.post enc P f false true false false W args (.bool true) W':=by
 have hlt:∀ p∈before,p.block<W.heap.size:=fun p hp=>hW.lt p hp
 have hold:∀ p∈before,(fun b=>decide (b<W.heap.size)) p.block=true:=fun p hp=>by simpa using hlt p hp
 obtain⟨pa,pv,hA,hV,hps,hz,hn⟩:=id hW;have hok:∀ (j:Nat) (t:TypeId) (r:Value),f.resultTypes[j]?=some t→((Value.bool true).resultList f.resultTypes.size)[j]?=some r→Value.okWide P W' .any 0 t r:=
  ok_one hr rfl (okWide_bool_mk hub _)
 have hres':∀ (b:Nat) (sp:Nat→Bool) (hd:Bool),DataW.TrodAll enc P W' b sp hd f.resultTypes.toList ((Value.bool true).resultList f.resultTypes.size) (s.fn H (ds++gs)).results []:=fun b sp hd=>by
  rw[hr,hres];exact trodAll_mk1 (shut_bool hub true)
 have hargs':∀ sp:Nat→Bool,(∀ p∈before,sp p.block=true)→DataW.TrodAll enc P W' 0 sp true f.params.toList args.toList (s.fn H (ds++gs)).args pa:=fun sp hsp=>by
  rw[hargs];exact zfn hl hb hp hA (fun x hx=>hlt x (by rw[hps];simp[hx])) (fun x hx=>hsp x (by rw[hps];simp[hx]))
 have hvars':∀ sp:Nat→Bool,(∀ p∈before,sp p.block=true)→DataW.TrodVars enc P W' sp s.vars (s.fn H (ds++gs)).vars pv:=fun sp hsp=>by
  rw[hvars];exact zeD hl hb hvr hV (fun x hx=>hsp x (by rw[hps];simp[hx]))
 refine⟨ds,gs,before,[],pa,pv,hW,hres' _ _ _,hargs' _ hold,hvars' _ hold,World.keptBut_mono (fun p hp=>⟨hp,?_⟩) (hb.frame (·∈before)),fun h=>by cases h⟩;rw[hps,yax]at hp;exact Or.inr hp
end
section
variable {H:Type}{enc:TypeId×Value→H}{w:World}{base:Nat}{spare:Nat→Bool}{held:Bool}
theorem list3 {α:Type}{cs:List α}(h:cs.length=3):∃ a b c,cs=[a,b,c]:=by
 match cs,h with
 | [a,b,c],_=>exact⟨a,b,c,rfl⟩
theorem cells3:prog.cellsOf 3=1:=by kernel_rfl
theorem cells4:prog.cellsOf 4=1:=by kernel_rfl
theorem cells9:prog.cellsOf 9=1:=by kernel_rfl
theorem cells23:prog.cellsOf 32=4:=by kernel_rfl
theorem cells41:prog.cellsOf 44=9:=by kernel_rfl
theorem cells43:prog.cellsOf 83=3:=by kernel_rfl
theorem zlc {fuel:Nat}{cs:List Value}{x:DataW H×List MemPlace}(h:DataW.trod enc prog w base spare held fuel 83 cs=some x):
  ∃ y:WrP,cs=[.int .i64 y.key,.string y.data,.bool y.gone]∧y.data.size≤maxLen:=by
 obtain⟨xs,n,_,_,hl,hlen,hf⟩:=DataW.trod_struct underlying83 h;rw[cells43]at hl;obtain⟨c0,c1,c2,rfl⟩:=list3 hl;have get:∀ i,i<3→∃ x,xs[i]?=some x:=fun i hi=>⟨xs[i]'(by rw[hlen];simpa using hi),yaa _⟩
 obtain⟨x0,g0⟩:=get 0 zO;obtain⟨x1,g1⟩:=get 1 zO;obtain⟨x2,g2⟩:=get 2 zO;have h0:=hf 0 _ rfl;have h1:=hf 1 _ rfl;have h2:=hf 2 _ rfl;rw[g0]at h0;rw[g1]at h1;rw[g2]at h2;simp[cells3,cells4,cells9]at h0 h1 h2;obtain⟨k,e0,_,_⟩:=DataW.trod_int underlying3 h0;obtain⟨s,e1,_,hs⟩:=DataW.trod_string underlying9 h1;obtain⟨b,e2,_⟩:=DataW.trod_bool underlying4 h2;simp only[List.cons.injEq,ybN]at e0 e1 e2;subst e0 e1 e2;exact⟨⟨k,s,b⟩,rfl,hs⟩
end
theorem wf64_of {z:Int}(h:(Lit.int .i64 z).wf=true):zcr z:=by
 simp[Lit.wf,IntKind.min,IntKind.max,IntKind.signed,IntKind.bits]at h;unfold zcr;omega
structure DoP where
 what:Int
 n:Int
 a0:Int
 a1:Int
 a2:Int
 a3:Int
 t:TxP
 A:Option Addr
 c:Nat
instance : Inhabited DoP := ⟨⟨0, 0, 0, 0, 0, 0, ⟨0, 0, 0, 0, 0, 0, 0, 0, []⟩, none, 0⟩⟩
structure ActP where
 what:Int
 k:Int
 n:Int
 wr:WrP
instance : Inhabited ActP := ⟨⟨0, 0, 0, ⟨0, ⟨#[]⟩, false⟩⟩⟩
def zjg (w:World) (A:Option Addr) (l:List ActP):Prop:=∀ (i:Nat) (x:ActP),l[i]?=some x→(∃ b o,A=some ⟨b,o,none⟩∧b<w.heap.size∧
 w.cell? ⟨b,o+i*6,none⟩=some (.int .i64 x.what)∧w.cell? ⟨b,o+i*6+1,none⟩=some (.int .i64 x.k)∧w.cell? ⟨b,o+i*6+2,none⟩=some (.int .i64 x.n)∧w.cell? ⟨b,o+i*6+3,none⟩=some (.int .i64 x.wr.key)∧w.cell? ⟨b,o+i*6+4,none⟩=some (.string x.wr.data)∧w.cell? ⟨b,o+i*6+5,none⟩=some (.bool x.wr.gone))∧(Lit.int .i64 x.what).wf=true∧(Lit.int .i64 x.k).wf=true∧(Lit.int .i64 x.n).wf=true∧x.wr.data.size≤maxLen
theorem zjg.below {w w':World}{A:Option Addr}{l:List ActP}(h:zjg w A l) (hb:Below w w w'):zjg w' A l:=fun i x hx=>by
 obtain⟨⟨b,o,hA,hlt,h0,h1,h2,h3,h4,h5⟩,i0,i1,i2,i3⟩:=h i x hx;have e:∀ k,w'.cell? ⟨b,k,none⟩=w.cell? ⟨b,k,none⟩:=fun k=>hb.cell (p:=⟨b,k,none⟩) hlt
 exact⟨⟨b,o,hA,yab hlt hb.size,(e _).trans h0,(e _).trans h1,(e _).trans h2,(e _).trans h3,(e _).trans h4,(e _).trans h5⟩,i0,i1,i2,i3⟩
section
variable {H:Type}{enc:TypeId×Value→H}{w:World}{base:Nat}{spare:Nat→Bool}{held:Bool}
theorem list6act {α:Type}{cs:List α}(h:cs.length=6):∃ c0 c1 c2 c3 c4 c5,cs=[c0,c1,c2,c3,c4,c5]:=by
 match cs,h with
 | [c0,c1,c2,c3,c4,c5],_=>exact⟨c0,c1,c2,c3,c4,c5,rfl⟩
theorem cellsAct:prog.cellsOf 129=6:=by kernel_rfl
theorem open_act {fuel:Nat}{cs:List Value}{x:DataW H×List MemPlace}(h:DataW.trod enc prog w base spare held fuel 129 cs=some x):
  ∃ p:ActP,cs=[.int .i64 p.what,.int .i64 p.k,.int .i64 p.n,.int .i64 p.wr.key,.string p.wr.data,.bool p.wr.gone]∧(Lit.int .i64 p.what).wf=true∧(Lit.int .i64 p.k).wf=true∧(Lit.int .i64 p.n).wf=true∧p.wr.data.size≤maxLen:=by
 obtain⟨xs,n,_,_,hl,hlen,hf⟩:=DataW.trod_struct underlying129 h;rw[cellsAct]at hl;obtain⟨c0,c1,c2,c3,c4,c5,rfl⟩:=list6act hl;have get:∀ i,i<4→∃ x,xs[i]?=some x:=fun i hi=>⟨xs[i]'(by rw[hlen];simpa using hi),yaa _⟩
 obtain⟨x0,g0⟩:=get 0 zO;obtain⟨x1,g1⟩:=get 1 zO;obtain⟨x2,g2⟩:=get 2 zO;obtain⟨x3,g3⟩:=get 3 zO;have h0:=hf 0 _ rfl;have h1:=hf 1 _ rfl;have h2:=hf 2 _ rfl;have h3:=hf 3 _ rfl;rw[g0]at h0;rw[g1]at h1;rw[g2]at h2;rw[g3]at h3;simp[cells3,cells23,cells41,cells43,cells4,cells9]at h0 h1 h2 h3;obtain⟨v0,e0,_,hw0⟩:=DataW.trod_int underlying3 h0;obtain⟨v1,e1,_,hw1⟩:=DataW.trod_int underlying3 h1;obtain⟨v2,e2,_,hw2⟩:=DataW.trod_int underlying3 h2;obtain⟨v3,e3,hs3⟩:=zlc h3;simp at e0 e1 e2 e3;subst e0;subst e1;subst e2;obtain⟨rfl,rfl,rfl⟩:=e3;exact⟨⟨v0,v1,v2,v3⟩,rfl,hw0,hw1,hw2,hs3⟩
theorem zmF {r:Reach}{b0:Nat}{v:Value}{d:DataW H}{p:List MemPlace}(hv:Value.okWide prog w r b0 122 v) (h:DataW.Trod enc prog w base spare held 122 v d p):
  ∃ (A:Option Addr) (c:Nat) (ps:List ActP),v=.slice A ps.length c∧zjg w A ps∧ps.length≤maxLen:=by
 obtain⟨a0,len0,cap0,rfl⟩:=okWide_slice underlying122 hv;obtain⟨fuel,hf⟩:=h;rcases Go.Deep.open_slice underlying122 hf with ⟨hcs,_⟩|⟨a,len,cap,m,n,D,Pl,hcs,hb,hlc,hcm,hm,_,hi⟩
 ·simp[Value.cells]at hcs
  obtain⟨rfl,rfl,rfl⟩:=hcs;exact⟨none,0,[],rfl,fun i x hx=>by simp at hx,yay _⟩
 ·simp[Value.cells]at hcs
  obtain⟨rfl,rfl,rfl⟩:=hcs;have hlm:len0≤m:=by rw[hm];split <;> omega
  rw[cellsAct]at hi;have hy:∀ i,i<len0→∃ y:ActP,(w.cell? (a.add (i*6))=some (.int .i64 y.what)∧w.cell? ((a.add (i*6)).add 1)=some (.int .i64 y.k)∧w.cell? ((a.add (i*6)).add 2)=some (.int .i64 y.n)∧w.cell? ((a.add (i*6)).add 3)=some (.int .i64 y.wr.key)∧w.cell? ((a.add (i*6)).add 4)=some (.string y.wr.data)∧w.cell? ((a.add (i*6)).add 5)=some (.bool y.wr.gone))∧(Lit.int .i64 y.what).wf=true∧(Lit.int .i64 y.k).wf=true∧(Lit.int .i64 y.n).wf=true∧y.wr.data.size≤maxLen:=by
   intro i hil;obtain⟨cs',h1,h2⟩:=hi i zO;obtain⟨y,rfl,hrest⟩:=open_act h2;obtain⟨_,_,hc⟩:=World.cells?_some h1;have k0:=hc 0 zS;have e:(a.add (i*6)).add 0=a.add (i*6):=by simp[Addr.add]
   rw[e]at k0;exact⟨y,⟨k0,hc 1 zS,hc 2 zS,hc 3 zS,hc 4 zS,hc 5 zS⟩,hrest⟩
  obtain⟨Y,hY⟩:=Go.Deep.choose_lt (α:=ActP) hy;refine⟨some a,cap0,(List.range len0).map Y,zS,fun i x hx=>?_,by simp;omega⟩;have hil:i<len0:=by
   have:=(yao.1 hx).1;simpa using this
  have hx':Y i=x:=by simpa[yby,List.getElem?_range hil]using hx
  subst hx';obtain⟨⟨k0,k1,k2,k3,k4,k5⟩,j1,j2,j3,j4⟩:=hY i hil;have k00:=(hY 0 zO).1.1;have hsp:=World.cell?_spot k00;obtain⟨b,o,spot⟩:=a;have hspot:spot=none:=by simpa[Addr.add]using hsp
  subst hspot;have e:∀ (j o:Nat),(⟨b,o,none⟩:Addr).add j=⟨b,o+j,none⟩:=fun j o=>by unfold Addr.add;split <;> simp_all
  simp only[e]at k0 k1 k2 k3 k4 k5;exact⟨⟨b,o,rfl,ybb w _ k0,k0,k1,k2,k3,k4,k5⟩,j1,j2,j3,j4⟩
end
end Go.Proofs.YtbopfhbeegkkaabGreatDoor
namespace Go.Proofs.YtbopfhbeegkkaabGreatDoor
open Go.RowKit Go.Proofs.Tryz
section
variable {w0 w:World}{n:Nat}{O:Nat→Ob}{p g:Nat}{A:AWd}{v:WV}{k u x:Nat}
theorem zkB (hp:PWx w0.heap.size O p g A v) (h:Mem w0 w n O) (hn:p+16≤n) (hk:k<A.C):
  Calls prog 54 #[.pointer (some ⟨g,0,none⟩),ii (k:Nat)] w fun e w'=>e=.returned (.tuple #[ii (A.pl k:Int),.agg #[ii (A.cl k).q0,ii (A.cl k).q1,ii (A.cl k).q2,ii (A.cl k).q3],.agg #[ii (A.cl k).n0,ii (A.cl k).n1,ii (A.cl k).n2,ii (A.cl k).n3],.bool (A.cl k).op,.nilIface])∧Below w w w':=by
 have hb:=hp.blk h hn;obtain⟨u,hu⟩:=hp.uk hk;obtain⟨x,hx⟩:=hp.xk (hp.ok.pl k);obtain⟨bP,cP,eP,_,lP,kP,_⟩:=zbl h (i:=p+4) zO hp.b4 zO;have y1:=kP k _ hk (zbQ hk);have HC:=zac (fun W (hW:Below w w W)=>zcX hp (h.below hW) hn hk hu hx);have HPA:=zac (fun W (hW:Below w w W)=>hp.sPast (h.below hW) hn hu);have HSN:=zac (fun W (hW:Below w w W)=>hp.sSnap (h.below hW) hn hu);have HOP:=zac (fun W (hW:Below w w W)=>hp.sOpen (h.below hW) hn hu);rw[eP]at hb;have c3:=zaa hb 3;simp only[zC,zD,zE]at c3;haveI:zaj (g+1) w:=⟨zae hb⟩;haveI:zaj (bP+1) w:=⟨lP⟩;have hk0:(0:Int)≤(k:Int):=by omega
 have hk1:(k:Int)<(A.C:Int):=by omega
 clear hb hu hx eP kP lP hk hp h hn;generalize A.C=C at *;generalize A.pl k=q at *;generalize (A.cl k).q0=e0 at *;generalize (A.cl k).q1=e1 at *;generalize (A.cl k).q2=e2 at *;generalize (A.cl k).q3=e3 at *;generalize (A.cl k).n0=e4 at *;generalize (A.cl k).n1=e5 at *;generalize (A.cl k).n2=e6 at *;generalize (A.cl k).n3=e7 at *;generalize (A.cl k).op=op at *;go_enter func54,ntmps54;go_wp2_with fail;go_at_call 112;refine(HC.out _ zB).mono ?_;rintro e w1 ⟨rfl,hb1⟩;obtain⟨x1,rfl⟩:=zad hb1;clear hb1 HC;go_wp2_with fail;refine zas 13 zK zK ?_;simp only[yat,yaQ,yau,yaA]
 repeat(first|go_big_quiet_skip|(go_big_quiet_want;go_big_quiet_op;first|go_big_quiet_on|(apply Exists.intro;refine⟨fun _=>?_,?_⟩;(first|(go_at_call 48;exact Calls.plus_of (HPA.out _ zB))|(go_at_call 49;exact Calls.plus_of (HSN.out _ zB))|(go_at_call 50;exact Calls.plus_of (HOP.out _ zB)));go_big_quiet_on)))
 refine yaM ?_;rintro _ ⟨x9,rfl⟩;go_wp2_with fail;refine yag (v:=.tuple #[(q:Int),.agg #[ii e0,ii e1,ii e2,ii e3],.agg #[ii e4,ii e5,ii e6,ii e7],.bool op,.nilIface]) ?_ rfl ⟨rfl,zB⟩;simp[results,results54,go_sem]
theorem zjm (hp:PWx w0.heap.size O p g A v) (h:Mem w0 w n O) (hn:p+16≤n) (k:Int) (hk:k<0∨(A.C:Int)≤k):
  Calls prog 54 #[.pointer (some ⟨g,0,none⟩),k] w fun e w'=>e=.returned (.tuple #[ii 0,.agg #[ii 0,ii 0,ii 0,ii 0],.agg #[ii 0,ii 0,ii 0,ii 0],.bool false,.iface 29 (ii 2)])∧Below w w w':=by
 have HC:=zac (fun W (hW:Below w w W)=>zcB hp (h.below hW) hn k hk);clear hp h hk;go_enter func54,ntmps54;go_wp2_with fail;go_at_call 112;refine(HC.out _ zB).mono ?_;rintro e w1 ⟨rfl,hb1⟩;obtain⟨x1,rfl⟩:=zad hb1;clear hb1 HC;go_wp2_with fail;refine yag (v:=.tuple #[ii 0,.agg #[ii 0,ii 0,ii 0,ii 0],.agg #[ii 0,ii 0,ii 0,ii 0],.bool false,.iface 29 (ii 2)]) ?_ rfl ⟨rfl,zB⟩;simp[results,results54,go_sem]
end
section
variable {w0 w:World}{T:TWo}{Ap Ar:AWd}{E:List Ob}
theorem TW.many (h:TW w0 w T Ap Ar E):∀ W,Below w w W→Calls prog 66 #[.pointer (some ⟨T.gp,0,none⟩)] W fun e w'=>e=.returned (ii (Ap.way.length:Nat))∧Below W W w':=fun W hW=>by
 obtain⟨O,v,u,h1,h2,h3⟩:=h.below hW;exact zlR h2 h1 zO
theorem TW.lost (h:TW w0 w T Ap Ar E):∀ W,Below w w W→Calls prog 67 #[.pointer (some ⟨T.gp,0,none⟩)] W fun e w'=>e=.returned (ii (wrap64 (Ap.lost:Int)))∧Below W W w':=fun W hW=>by
 obtain⟨O,v,u,h1,h2,h3⟩:=h.below hW;exact zlS h2 h1 zO
theorem TW.site (h:TW w0 w T Ap Ar E){k:Nat}(hk:k<Ap.S):∀ W,Below w w W→Calls prog 58 #[.pointer (some ⟨T.gp,0,none⟩),ii (k:Nat)] W fun e w'=>∃ At ct,e=.returned (.tuple #[.agg #[ii (Ap.si k).p0,ii (Ap.si k).p1,ii (Ap.si k).p2,ii (Ap.si k).p3],ii ((Ap.si k).ws.length:Nat),.slice At 8 ct,ii ((Ap.si k).held.length:Nat),.nilIface])∧zgX w' At (zfG (Ap.si k))∧Below W W w':=fun W hW=>by
 obtain⟨O,v,u,h1,h2,h3⟩:=h.below hW;exact wSite_ok h2 h1 zO hk
theorem TW.client (h:TW w0 w T Ap Ar E){k:Nat}(hk:k<Ap.C):∀ W,Below w w W→Calls prog 54 #[.pointer (some ⟨T.gp,0,none⟩),ii (k:Nat)] W fun e w'=>e=.returned (.tuple #[ii (Ap.pl k:Int),.agg #[ii (Ap.cl k).q0,ii (Ap.cl k).q1,ii (Ap.cl k).q2,ii (Ap.cl k).q3],.agg #[ii (Ap.cl k).n0,ii (Ap.cl k).n1,ii (Ap.cl k).n2,ii (Ap.cl k).n3],.bool (Ap.cl k).op,.nilIface])∧Below W W w':=fun W hW=>by
 obtain⟨O,v,u,h1,h2,h3⟩:=h.below hW;exact zkB h2 h1 zO hk
theorem TW.told (h:TW w0 w T Ap Ar E){k x:Nat}(hx:T.ys[k]?=some x):∀ W,Below w w W→Calls prog 33 #[.pointer (some ⟨x,9,none⟩),.agg #[ii (Ar.si k).p0,ii (Ar.si k).p1,ii (Ar.si k).p2,ii (Ar.si k).p3]] W fun e w'=>∃ A' c',e=.returned (.slice A' 8 c')∧zgX w' A' (zfG (Ar.si k))∧Below W W w':=fun W hW=>by
 obtain⟨O,v,u,h1,h2,h3,⟨a1,a2,a3,a4⟩,_⟩:=h.below hW;exact h3.sTold h1 zO (by rw[a3];exact hx)
theorem TW.siteBad (h:TW w0 w T Ap Ar E) (k:Int) (hk:k<0∨(Ap.S:Int)≤k):∀ W,Below w w W→Calls prog 58 #[.pointer (some ⟨T.gp,0,none⟩),k] W fun e w'=>e=.returned (.tuple #[.agg #[ii 0,ii 0,ii 0,ii 0],ii 0,.slice none 0 0,ii 0,.iface 29 (ii 2)])∧Below W W w':=fun W hW=>by
 obtain⟨O,v,u,h1,h2,h3⟩:=h.below hW;exact zlO h2 h1 zO k hk
theorem TW.clientBad (h:TW w0 w T Ap Ar E) (k:Int) (hk:k<0∨(Ap.C:Int)≤k):∀ W,Below w w W→Calls prog 54 #[.pointer (some ⟨T.gp,0,none⟩),k] W fun e w'=>e=.returned (.tuple #[ii 0,.agg #[ii 0,ii 0,ii 0,ii 0],.agg #[ii 0,ii 0,ii 0,ii 0],.bool false,.iface 29 (ii 2)])∧Below W W w':=fun W hW=>by
 obtain⟨O,v,u,h1,h2,h3⟩:=h.below hW;exact zjm h2 h1 zO k hk
end
theorem TW.start {w w2:World}{S C gp gr:Nat}{O1 O2:Nat→Ob}{vp:WV}{vr:RV}(h1:PWx w.heap.size O1 0 gp (zdI S C) vp) (h2:Mem w w2 (16+16) O2) (h3:RWx w.heap.size O2 16 gr (zdI S C) vr) (h4:∀ k,k<16→O2 k=O1 k):
  TW w w2 ⟨gp,gr,vp.xs,vp.us,vr.xs,vr.us⟩ (zdI S C) (zdI S C) []:=
 ⟨O2,vp,vr,h2,h1.keep (fun j hj=>h4 _ zO),h3,⟨rfl,rfl,rfl,rfl⟩,fun i o e=>by simp at e⟩
theorem zgO (S0 C0:Int) (Aa:Option Addr) (c:Nat) (ls:List ActP) (w:World) (hg:za4 w) (hls:zjg w Aa ls) (hlen:ls.length≤maxLen):
  Calls prog 8 #[S0,C0,.slice Aa ls.length c] w fun e w'=>e=.returned (.bool true)∧Below w w w':=by
 have HG:=zac hg;have HPS:=zac hls;by_cases h120:120<ls.length
 ·have hd0:decide ((120:Int)<(ls.length:Int))=true:=zT
  clear hg hls hlen;go_enter func8,ntmps8;go_wp2_with fail;go_ret;exact⟨rfl,zB⟩
 have hd0:decide ((120:Int)<(ls.length:Int))=false:=zU;have hn:ls.length≤120:=by omega
 clear h120 hg hls hlen;by_cases hbad:S0<1∨4<S0∨C0<0∨6<C0
 ·as_aux_lemma=>
   have HP:=zac (wNew_bad S0 C0 hbad);have HR:=zac (rNew_bad S0 C0 hbad);clear hbad;go_enter func8,ntmps8;go_wp2_with fail;go_at_call 62;refine(HP.out _).mono ?_;rintro e w1 ⟨rfl,hb1⟩;obtain⟨x1,rfl⟩:=zad hb1;clear hb1;go_wp2_with fail;go_at_call 63;refine(HR.out _).mono ?_;rintro e w2 ⟨rfl,hb2⟩;obtain⟨x2,rfl⟩:=zad hb2;clear hb2;go_wp2_with fail;go_at_call 12;refine(za0 2 _ (HG.out.plus zB)).mono ?_;rintro e w3 ⟨rfl,hb3⟩;obtain⟨x3,rfl⟩:=zad hb3;clear hb3;go_wp2_with fail;go_ret;exact⟨rfl,zB⟩
 obtain⟨S,rfl⟩:∃ S:Nat,S0=(S:Int):=⟨S0.toNat,zO⟩;obtain⟨C,rfl⟩:∃ C:Nat,C0=(C:Int):=⟨C0.toNat,zO⟩;have hS:1≤S∧S≤4:=by omega
 have hC:C≤6:=by omega
 clear hbad;have HP:=zac (wNew_ok (Mem.nil w (fun _=>obNil)) S C hS hC);have HR:=zac (fun(W:World) (n:Nat) (O:Nat→Ob) (h:Mem w W n O)=>rNew_ok h S C hS hC);go_enter func8,ntmps8;go_wp2_with fail;go_at_call 62;refine HP.out.mono ?_;rintro e w1 ⟨gp,rfl,O1,vp,hm1,hp1,_⟩;have HM1:=zac hm1;have HP1:=zac hp1;clear hm1 hp1 HP;go_wp2_with fail;go_at_call 63;refine(HR.out _ _ _ HM1.out).mono ?_;rintro e w2 ⟨gr,rfl,O2,vr,hm2,hr2,hk2⟩;simp only[yaZ]at hm2 hr2 hk2;obtain⟨T,hT⟩:∃ T:TWo,(⟨gp,gr,vp.xs,vp.us,vr.xs,vr.us⟩:TWo)=T:=⟨_,rfl⟩;have H0:Hid (TW w w2 T (zdI S C) (zdI S C) []):=zac (by
  have h9:=TW.start HP1.out hm2 hr2 hk2;rw[hT]at h9;exact h9)
 have hgp:T.gp=gp:=by rw[←hT]
 have hgr:T.gr=gr:=by rw[←hT]
 subst hgp;subst hgr;clear hm2 hr2 hk2 HP1 HM1 HR hT;go_wp2_with fail;go_loopw [11] (fun i W=>∃ (j:Nat) (A:AWd),i=ii j∧j≤ls.length∧TW w W T A A []∧A.S=S∧A.C=C∧∀ k,(A.cl k).W.length≤j) (fun i _=>ls.length-(Go.RowKit.intOf i).toNat)
 case atStart=>exact⟨0,zdI S C,rfl,yay _,H0.out,rfl,rfl,fun k=>by simp[zdI,sdNew0]⟩
 case round=>
  obtain⟨j,A,rfl,hj,ht,hAS,hAC,hAW⟩:=hrel;have HT:=zac ht;have HAW:=zac hAW;clear ht hAW H0;by_cases hjn:j<ls.length
  ·obtain⟨x,hx⟩:∃ x,ls[j]?=some x:=⟨ls[j]'hjn,yaa _⟩
   obtain⟨⟨b,o,rfl,hlt,h0,h1,h2,h3,h4,h5⟩,i0,i1,i2,i3⟩:=HPS.out.below HT.out.low j x hx;obtain⟨z,K,N,⟨key,wd,wg⟩⟩:=x;have HWF:Hid (zcr N):=zac (wf64_of i2)
   (try simp only at h0 h1 h2 h3 h4 h5)
   haveI:zaj (b+1) wr:=⟨hlt⟩;have hj0:(0:Int)≤(j:Int):=by omega
   have hjl:(j:Int)<(ls.length:Int):=by omega
   have hjd:decide ((j:Int)<(ls.length:Int))=true:=yae hjl;have hj120:(j:Int)<120:=by omega
   have HB:=zac (HT.out.push (.cells #[z,K,N,key,.string wd,.bool wg] 129));clear i0 i1 i2 i3 hx hlt;by_cases hw1:100<wd.size
   ·have hwd:decide ((100:Int)<(wd.size:Int))=true:=zT
    have hwd2:decide (100<wd.size)=true:=yae hw1;clear HB;go_wp2_with fail;go_roundw
    case rel=>exact⟨j+1,A,by go_num,zO,HT.out.below zB,hAS,hAC,fun k=>by have:=HAW.out k;omega⟩
    case measure=>show ls.length-((j:Int)+1).toNat<ls.length-(j:Int).toNat;omega
   ·have hwd:decide ((100:Int)<(wd.size:Int))=false:=zU
    have hwd2:decide (100<wd.size)=false:=yah hw1;clear hw1;go_upto_region 14 with fail;go_cut [12,108] (fun t tb W'=>tb=.bool false∧∃ (A':AWd) (E:List Ob),zca A A'∧TW w W' T A' A' E)
    case first=>
     by_cases z0:z<0
     ·as_aux_lemma=>
       have e0:decide (0≤z)=false:=zU;have e1:decide (5<z)=false:=zU;have HR1:=zac (show ∃ (A2:AWd) (E:List Ob),zca A A2∧TW w (wr.alloc (.cells #[z,K,N,key,.string wd,.bool wg] 129)) T A2 A2 E from ⟨A,_,zca.rfl' A,HB.out⟩);go_wp2_with fail;go_meet;exact⟨rfl,HR1.out⟩
     have e0:decide (0≤z)=true:=zT;by_cases z5:z≤5
     ·as_aux_lemma=>
       have e1:decide (z≤5)=true:=yae z5;have e2:decide (5<z)=false:=zU;go_wp2_with fail;go_at_call 64;refine(acts_any HB.out HG.out HWF.out (fun k=>by have:=HAW.out k;omega) K z zO).mono ?_;rintro e w3 ⟨rfl,A',hst,ht3⟩;have hz:=ht3.box (b:=wr.heap.size) (o:=(.cells #[z,K,N,key,.string wd,.bool wg] 129)) zS;have q0:=zaa hz 0;simp only[zC,zD,zE]at q0;haveI:zaj (wr.heap.size+1) w3:=⟨zae hz⟩;have HR1:Hid (∃ (A':AWd) (E:List Ob),zca A A'∧TW w w3 T A' A' E):=zac ⟨A',_,hst,ht3⟩;clear hz ht3 hst;go_wp2_with fail;go_meet;exact⟨rfl,HR1.out⟩
     ·as_aux_lemma=>
       have e1:decide (z≤5)=false:=yah z5;have e2:decide (5<z)=true:=zT;go_wp2_with fail;go_at_call 65;refine(nets_any HB.out HG.out K z zO).mono ?_;rintro e w3 ⟨rfl,A',hst,ht3⟩;have hz:=ht3.box (b:=wr.heap.size) (o:=(.cells #[z,K,N,key,.string wd,.bool wg] 129)) zS;have q0:=zaa hz 0;simp only[zC,zD,zE]at q0;haveI:zaj (wr.heap.size+1) w3:=⟨zae hz⟩;have HR1:Hid (∃ (A':AWd) (E:List Ob),zca A A'∧TW w w3 T A' A' E):=zac ⟨A',_,hst,ht3⟩;clear hz ht3 hst;go_wp2_with fail;go_meet;exact⟨rfl,HR1.out⟩
    case rest=>
     obtain⟨rfl,A',E,hst,ht3⟩:=hcut;have HQ:=zac ht3;have HST:=zac hst;have hAS2:A'.S=S:=hst.1.trans hAS;have hAC2:A'.C=C:=hst.2.1.trans hAC;clear ht3 hst HB HT;clear h0 h1 h2 h3 h4 h5;obtain⟨bS,cS,bW,cW,aC,cC,aP,cP,aG,cG,hb,_⟩:=HQ.out.blk;have c4:=zaa hb 4;have c5:=zaa hb 5;simp only[zC,zD,zE]at c4 c5;haveI:zaj (T.gr+1) _:=⟨zae hb⟩;have HM:=zac HQ.out.many;have HL:=zac HQ.out.lost;clear hb;generalize A'.way.length=L at c4 HM;generalize wrap64 (A'.lost:Int)=lo at c5 HL;go_upto_region 16 with fail;go_cut [125] (fun tb W'=>tb=.bool false∧TW w W' T A' A' E)
     case first=>as_aux_lemma=>
       go_region_held3 (fun X:World=>X.cell? ⟨T.gr,4,none⟩=some (.slice aG L cG)∧X.cell? ⟨T.gr,5,none⟩=some (ii lo)) ((repeat' apply And.intro) <;> simp[go_sem, *]) (first
        | (go_at_call 66;refine(HM.out _ zB).mono ?_;rintro e w6 ⟨rfl,hb6⟩;obtain⟨x6,rfl⟩:=zad hb6;clear hb6)
        | (go_at_call 67;refine(HL.out _ zB).mono ?_;rintro e w7 ⟨rfl,hb7⟩;obtain⟨x7,rfl⟩:=zad hb7;clear hb7)
        | fail)
       all_goals
        go_wp2_with fail;go_meet;exact⟨rfl,HQ.out.below zB⟩
     case rest=>
      obtain⟨rfl,ht⟩:=hcut;have HQ2:=zac ht;clear ht HQ HM HL c4 c5;go_wp2_with fail;go_loopw [13] (fun i W=>∃ k:Nat,i=ii k∧k≤S∧TW w W T A' A' E) (fun i _=>S-(Go.RowKit.intOf i).toNat)
      case atStart=>exact⟨0,rfl,yay _,HQ2.out⟩
      case round=>
       obtain⟨k,rfl,hk,ht⟩:=hrel;have HT:=zac ht;clear ht HQ2;obtain⟨bS,cS,bW,cW,aC,cC,aP,cP,aG,cG,hb,hbS,hbW,kS,kW,fW,⟨lS,lT⟩,_⟩:=HT.out.blk;have c0:=zaa hb 0;simp only[zC,zD,zE]at c0;rw[hAS2]at c0 lS;haveI:zaj (T.gr+1) wr:=⟨zae hb⟩;haveI:zaj (bS+1) wr:=⟨hbS.2⟩;have hk0:(0:Int)≤(k:Int):=by omega
       by_cases hkS:k<S
       ·as_aux_lemma=>
         obtain⟨x,hx⟩:∃ x,T.ys[k]?=some x:=⟨T.ys[k]'zO,yaa _⟩;have xS:=kS k x hx;have hkd:decide ((k:Int)<(S:Int))=true:=zT;have hkl:(k:Int)<(S:Int):=by omega
         have hk4:(k:Int)<4:=by omega
         have HSI:=zac (HT.out.site (k:=k) (by rw[hAS2];exact hkS));have HTO:Hid (∀ X E2,TW w X T A' A' E2→∀ W,Below X X W→_):=zac (fun X E2 h=>h.told hx);have HXC:Hid (∀ X E2,TW w X T A' A' E2→_):=zac (fun X E2 h=>h.xcells hx);have HTL:Hid ((zfG (A'.si k)).length=8):=zac (zl5 _ _);generalize (A'.si k).id=xid at *;generalize (A'.si k).p0=p0 at *;generalize (A'.si k).p1=p1 at *;generalize (A'.si k).p2=p2 at *;generalize (A'.si k).p3=p3 at *;generalize (A'.si k).ws.length=lw at *;generalize (A'.si k).held.length=lh at *;generalize zfG (A'.si k)=tt at *;clear hb hbS hbW kS kW fW lS lT hx;go_wp2_with fail;go_at_call 58;refine(HSI.out _ zB).mono ?_;rintro e w6 ⟨At,ct,rfl,hts,hb6⟩;have HTS:=zac hts;obtain⟨x6,rfl⟩:=zad hb6;clear hts hb6 HSI;go_upto_region 23 with fail;have HD:=zac ((HT.out.below (w':=zai wr x6) zB).push (.cells #[p0,p1,p2,p3] 32));have HTS1:=zac (HTS.out.below (w':=(zai wr x6).alloc (.cells #[p0,p1,p2,p3] 32)) zB);have hz:=HD.out.box (b:=(zai wr x6).heap.size) (o:=(.cells #[p0,p1,p2,p3] 32)) zS;simp only[wplus_size]at hz;generalize (zai wr x6).alloc (.cells #[p0,p1,p2,p3] 32)=WD at *;generalize wr.heap.size+x6.blocks.size=p9 at *;have v0:=zaa hz 0;have v1:=zaa hz 1;have v2:=zaa hz 2;have v3:=zaa hz 3;simp only[zC,zD,zE]at v0 v1 v2 v3;obtain⟨hxl,_,y1,y2,y3,y4,⟨A8,c8,y8⟩,A9,c9,y9⟩:=HXC.out _ _ HD.out;have HTD:=zac (HTO.out _ _ HD.out);haveI:zaj (p9+1) WD:=⟨zae hz⟩;haveI:zaj (x+1) WD:=⟨hxl⟩;clear hz hxl HTO HXC c0 xS HTS HT;go_cut [192] (fun tb W'=>tb=.bool false∧TW w W' T A' A' E)
         case first=>as_aux_lemma=>
           go_region_held3 (fun X:World=>X.cell? ⟨p9,0,none⟩=some (ii p0)∧X.cell? ⟨p9,1,none⟩=some (ii p1)∧X.cell? ⟨p9,2,none⟩=some (ii p2)∧X.cell? ⟨p9,3,none⟩=some (ii p3)∧X.cell? ⟨x,1,none⟩=some (ii p0)∧X.cell? ⟨x,2,none⟩=some (ii p1)∧X.cell? ⟨x,3,none⟩=some (ii p2)∧X.cell? ⟨x,4,none⟩=some (ii p3)∧X.cell? ⟨x,8,none⟩=some (.slice A8 lw c8)∧X.cell? ⟨x,9,none⟩=some (.slice A9 lh c9)) ((repeat' apply And.intro) <;> simp[go_sem, *]) (first
            | (go_at_call 33;refine(HTD.out _ zB).mono ?_;rintro e w' ⟨A2,c2,rfl,hts,hb⟩;have HTS2:=zac hts;clear hts;obtain⟨x7,rfl⟩:=zad hb;clear hb)
            | (go_at_call 31;refine(zhE At A2 ct c2 _ _ (HTS1.out.below zB) (HTS2.out.below zB) HTL.out).mono ?_;rintro e w' ⟨rfl,hb⟩;obtain⟨x8,rfl⟩:=zad hb;clear hb)
            | fail)
           all_goals
            go_wp2_with fail;go_meet;exact⟨rfl,(HD.out.below zB).less⟩
         case rest=>
          obtain⟨rfl,ht⟩:=hcut;have HT2:=zac ht;clear ht HD HTD HTS1;go_wp2_with fail;go_roundw
          case rel=>exact⟨k+1,by go_num,zO,HT2.out⟩
          case measure=>show S-((k:Int)+1).toNat<S-(k:Int).toNat;omega
       ·obtain rfl:k=S:=by omega
        have hkd:decide ((k:Int)<(k:Int))=false:=zU;clear hb hbS hbW kS kW fW lS lT hkS hk;go_wp2_with fail;go_loopw [20] (fun i W=>∃ q:Nat,i=ii q∧q≤C∧TW w W T A' A' E) (fun i _=>C-(Go.RowKit.intOf i).toNat)
        case atStart=>exact⟨0,rfl,yay _,HT.out⟩
        case round=>
         obtain⟨q,rfl,hq,ht⟩:=hrel;have HT3:=zac ht;clear ht HT c0;obtain⟨bS,cS,bW,cW,aC,cC,aP,cP,aG,cG,hb,hbS,hbW,kS,kW,fW,⟨lS,lT⟩,hCC⟩:=HT3.out.blk;have c2:=zaa hb 2;have c3:=zaa hb 3;simp only[zC,zD,zE]at c2 c3;rw[hAC2]at c2 c3;haveI:zaj (T.gr+1) wr:=⟨zae hb⟩;have hq0:(0:Int)≤(q:Int):=by omega
         by_cases hqC:q<C
         ·as_aux_lemma=>
           obtain⟨bC,bP,rfl,rfl,hbC,hbP,kC,kP,fP⟩:=hCC zO;obtain⟨u,hu⟩:∃ u,T.ts[q]?=some u:=⟨T.ts[q]'zO,yaa _⟩;have xC:=kC q u hu;have xP:=kP q zO;obtain⟨wv,hu8⟩:=HT3.out.scells hu;have HCL:=zac (HT3.out.client (k:=q) (by rw[hAC2];exact hqC));have o0:=zaa hu8 0;have o1:=zaa hu8 1;have o2:=zaa hu8 2;have o3:=zaa hu8 3;have o4:=zaa hu8 4;have o5:=zaa hu8 5;have o6:=zaa hu8 6;have o7:=zaa hu8 7;have o8:=zaa hu8 8;simp only[zC,zD,zE]at o0 o1 o2 o3 o4 o5 o6 o7 o8;haveI:zaj (bC+1) wr:=⟨hbC.2⟩;haveI:zaj (bP+1) wr:=⟨hbP.2⟩;haveI:zaj (u+1) wr:=⟨zae hu8⟩;have hqd:decide ((q:Int)<(C:Int))=true:=zT;have hql:(q:Int)<(C:Int):=by omega
           have hq6:(q:Int)<6:=by omega
           generalize (A'.cl q).q0=z0 at *;generalize (A'.cl q).q1=z1 at *;generalize (A'.cl q).q2=z2 at *;generalize (A'.cl q).q3=z3 at *;generalize (A'.cl q).n0=z4 at *;generalize (A'.cl q).n1=z5 at *;generalize (A'.cl q).n2=z6 at *;generalize (A'.cl q).n3=z7 at *;generalize (A'.cl q).op=op at *;generalize A'.pl q=pq at *;clear hb hbS hbW kS kW fW lS lT hCC hbC hbP kC kP fP hu hu8;go_wp2_with fail;go_at_call 54;refine(HCL.out _ zB).mono ?_;rintro e w6 ⟨rfl,hb6⟩;obtain⟨x6,rfl⟩:=zad hb6;clear hb6 HCL;go_upto_region 30 with fail;refine zaw fun x9=>?_
           go_wp2_with fail;go_roundw
           case rel=>exact⟨q+1,by go_num,zO,HT3.out.below zB⟩
           case measure=>show C-((q:Int)+1).toNat<C-(q:Int).toNat;omega
         ·obtain rfl:q=C:=by omega
          have hqd:decide ((q:Int)<(q:Int))=false:=zU;clear hb hbS hbW kS kW fW lS lT hCC hqC hq;go_wp2_with fail;go_roundw
          case rel=>exact⟨j+1,A',by go_num,zO,HT3.out.pre (E:=[]) ⟨E,rfl⟩,hAS2,hAC2,fun i=>by have h1:=HST.out.2.2 i;have h2:=HAW.out i;omega⟩
          case measure=>show ls.length-((j:Int)+1).toNat<ls.length-(j:Int).toNat;omega
  ·as_aux_lemma=>
    have hje:j=ls.length:=by omega
    subst hje;obtain⟨bS,cS,bW,cW,aC,cC,aP,cP,aG,cG,hb,_⟩:=HT.out.blk;have c0:=zaa hb 0;simp only[zC,zD,zE]at c0;haveI:zaj (T.gr+1) wr:=⟨zae hb⟩;have HSB:=zac (HT.out.siteBad (S:Int) (.inr (by rw[hAS];omega)));have HCB:=zac (HT.out.clientBad (-1) (.inl zI));have HGT:=zac (za4.low2 HG.out HT.out.low);rw[hAS]at c0;clear hb hjn hj hAS hAC HAW;go_wp2_with fail;go_at_call 58;refine(HSB.out _ zB).mono ?_;rintro e w1 ⟨rfl,hb1⟩;obtain⟨x1,rfl⟩:=zad hb1;clear hb1 HSB;go_wp2_with fail;go_at_call 54;refine(HCB.out _ zB).mono ?_;rintro e w2 ⟨rfl,hb2⟩;obtain⟨x2,rfl⟩:=zad hb2;clear hb2 HCB;go_wp2_with fail;go_at_call 12;refine(za0 2 _ (za4.low2 HGT.out (show Below wr wr _ from zB))).mono ?_;rintro e w3 ⟨rfl,hb3⟩;obtain⟨x3,rfl⟩:=zad hb3;clear hb3;go_wp2_with fail;go_at_call 12;refine(za0 2 _ (za4.low2 HGT.out (show Below wr wr _ from zB))).mono ?_;rintro e w4 ⟨rfl,hb4⟩;obtain⟨x4,rfl⟩:=zad hb4;clear hb4;go_wp2_with fail;go_ret;exact⟨rfl,HT.out.low.trans (yaH (B:=wr.heap.size) zB HT.out.low.size)⟩
end Go.Proofs.YtbopfhbeegkkaabGreatDoor
