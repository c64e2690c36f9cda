/- Part 28 of a proof: lemmas and contracts that other parts use. -/
import Derived.Test.YtbopfhbeegkkaabGreatDoorWp27
import Derived.Test.YtbopfhbeegkkaabGreatDoorWp16
import Derived.Deep.DeepCutAuto
import Derived.Deep.CutBlock
import Derived.Test.YtbopfhbeegkkaabGreatDoorWp26
import Derived.Test.YtbopfhbeegkkaabGreatDoorWp21
set_option linter.unusedVariables false
set_option linter.unusedSimpArgs false
set_option linter.constructorNameAsVariable false
set_option maxHeartbeats 16000000
set_option maxRecDepth 200000
namespace Go.Proofs.YtbopfhbeegkkaabGreatDoor
open Go.RowKit Go.Proofs.Tryz
theorem infoP23:(prog.info? 23).map (fun i=>(i.zero,i.size,i.bytes))=some (some (.pointer none),1,8):=by kernel_rfl
theorem infoP75:(prog.info? 75).map (fun i=>(i.zero,i.size,i.bytes))=some (some (.pointer none),1,8):=by kernel_rfl
theorem wNew_ok {w0 w:World}{n:Nat}{O:Nat→Ob}(h:Mem w0 w n O) (S C:Nat) (hS:1≤S∧S≤4) (hC:C≤6):
  Calls prog 62 #[(S:Int),(C:Int)] w fun e w'=>∃ g,e=.returned (.tuple #[.pointer (some ⟨g,0,none⟩),.nilIface])∧∃ O' v,Mem w0 w' (n+16) O'∧PWx w0.heap.size O' n g (zdI S C) v∧∀ k,k<n→O' k=O k:=by
 have HM:=zac h;have HS:=zac hS;have HC:=zac hC;have hmk1:=fun W=>zhG S zO W
 have hmk2:=fun W=>zhG C zO W
 have d0:decide ((S:Int)<1)=false:=zU;have d1:decide ((4:Int)<(S:Int))=false:=zU;have d2:decide ((C:Int)<0)=false:=zU;have d3:decide ((6:Int)<(C:Int))=false:=zU;have hS1:(1:Int)≤(S:Int):=by omega
 have hS4:(S:Int)≤4:=by omega
 have hC6:(C:Int)≤6:=by omega
 obtain⟨i0,hi0,hz0,hz1,hz2⟩:=yb5 infoP23;obtain⟨i1,hi1,hz4,hz5,hz6⟩:=yb5 infoP75;clear h hS hC;go_enter func62,ntmps62;go_upto_region 3 with fail;go_cut [6] (fun tg W'=>∃ g vW vP,tg=.pointer (some ⟨g,0,none⟩)∧PNu w0 W' n O g S C [] [] (.slice none 0 0) vW (.slice none 0 0) vP)
 case first=>
  refine wp_region_held_drew (S:=(fun _:World=>True)) zK ?_ (fun hHeld=>?_)
  ·trivial
  refine zat 0 hHeld ?_;refine zat 2 hHeld ?_;refine zaR [1,3] (zaU rfl (fun K hK=>?_) ?_)
  ·go_simp
   refine hK.out _ _ ?_ (fun hNew=>?_)
   ·trivial
   clear hHeld;have hHeld:=hNew;clear hNew hK K
   try simp only[Act.put,zF,zG,zH]
   refine zaR [3] (zaU rfl (fun K hK=>?_) ?_)
   ·go_simp
    refine hK.out _ _ ?_ (fun hNew=>?_)
    ·trivial
    clear hHeld;have hHeld:=hNew;clear hNew hK K
    try simp only[Act.put,zF,zG,zH]
    refine zat 4 hHeld ?_;refine zaR [5] (zaU rfl (fun K hK=>?_) ?_)
    ·go_simp
     refine hK.out _ _ ?_ (fun hNew=>?_)
     ·trivial
     clear hHeld;have hHeld:=hNew;clear hNew hK K
     try simp only[Act.put,zF,zG,zH]
     refine zat 6 hHeld ?_;refine wpAnyH_done zK ?_ _;go_wp2_with fail;go_meet;exact⟨_,_,_,rfl,PNu.start HM.out HS.out HC.out (.inl ⟨rfl,rfl,rfl,rfl⟩) rfl (by first|rfl|simp[zaq])⟩
    exact AllReadyH.nil
   exact AllReadyH.nil
  refine zaU rfl (fun K hK=>?_) ?_
  ·go_simp
   refine hK.out _ _ ?_ (fun hNew=>?_)
   ·trivial
   clear hHeld;have hHeld:=hNew;clear hNew hK K
   try simp only[Act.put,zF,zG,zH]
   refine zaR [1] (zaU rfl (fun K hK=>?_) ?_)
   ·go_simp
    refine hK.out _ _ ?_ (fun hNew=>?_)
    ·trivial
    clear hHeld;have hHeld:=hNew;clear hNew hK K
    try simp only[Act.put,zF,zG,zH]
    refine zat 4 hHeld ?_;refine zaR [5] (zaU rfl (fun K hK=>?_) ?_)
    ·go_simp
     refine hK.out _ _ ?_ (fun hNew=>?_)
     ·trivial
     clear hHeld;have hHeld:=hNew;clear hNew hK K
     try simp only[Act.put,zF,zG,zH]
     refine zat 6 hHeld ?_;refine wpAnyH_done zK ?_ _;go_wp2_with fail;go_meet;exact⟨_,_,_,rfl,PNu.start HM.out HS.out HC.out (.inr ⟨rfl,rfl,rfl,rfl⟩) rfl (by first|rfl|simp[zaq])⟩
    exact AllReadyH.nil
   exact AllReadyH.nil
  exact AllReadyH.nil
 case rest=>
  obtain⟨g,vW,vP,rfl,hP⟩:=hcut;have HP:=zac hP;clear hP hmk1 hmk2 HM;go_wp2_with fail;go_loopw [32] (fun i W=>∃ (xs:List Nat) (vS:Value),i=ii (xs.length:Nat)∧PNu w0 W n O g S C xs [] vS vW (.slice none 0 0) vP) (fun i _=>S-(Go.RowKit.intOf i).toNat)
  case atStart=>exact⟨[],_,rfl,HP.out⟩
  case round=>
   obtain⟨xs,vS,rfl,hP⟩:=hrel;clear HP;have HP:=zac hP;have hxl:xs.length≤S:=by obtain⟨_,_,h2,_⟩:=hP;exact h2.xl
   have hb:=hP.blk;have c0:=zaa hb 0;simp only[zC,zD,zE]at c0;have f0:=zab hb 0;have HRS:=zac hP.rowS;have hgl:g<wr.heap.size:=zae hb;haveI:zaj (g+1) wr:=⟨hgl⟩;have hw0:w0.heap.size≤wr.heap.size:=by obtain⟨_,h1,_⟩:=hP;exact h1.size
   clear hb hP;by_cases hx:xs.length<S
   ·have hx4:(xs.length:Int)<4:=by omega
    have hxd:decide ((xs.length:Int)<(S:Int))=true:=zT;have HX:=zac hx;have HNA:=zac (fun W=>new_any (xs.length:Int) W zO);have HO1:Hid (∀ b,∀ u∈([.pointer (some ⟨b,0,none⟩)]:List Value),u.oneCell'=true):=zac (by
     intro b u hu;simp at hu;subst hu;rfl)
    have h63:xs.length+1≤maxLen:=by refine yac ?_ maxLen_ge;omega
    have hby:(xs.length+1)*8≤140737488355328:=by omega
    clear hx hxl;go_wp2_with fail;go_at_call 11;refine(HNA.out _).mono ?_;rintro e w1 ⟨rfl,hs,hb1⟩;have HB1:=zac hb1;have HSI:=zac hs;have C0:=(hb1.cell (p:=⟨g,0,none⟩) hgl).trans c0;have F0:=(hb1.frozen (p:=⟨g,0,none⟩) hgl).trans f0;have hgw1:g<w1.heap.size:=yab hgl hb1.size;haveI:zaj (g+1) w1:=⟨hgw1⟩;clear hb1 hs HNA c0 f0;go_wp2_with (at_builtin;go_must (refine wpList_append_lies _ rfl _ _ 187 rfl w0.heap.size 23 i0 (.pointer none) 1 8 underlying187 hi0 hz0 hz1 hz2 rfl zI vS xs.length (zfA xs) rfl (zaF HRS.out.1 (HB1.out.alloc HB1.out.size _) (fun k e=>(zao HRS.out.1 e).2)) ⟨w1,0,none⟩ 1 1 [.pointer (some ⟨wr.heap.size+1,0,none⟩)] rfl rfl (World.news_of_block (cs:=#[.pointer (some ⟨wr.heap.size+1,0,none⟩)]) (zag rfl _)) (HO1.out _) zI h63 hby (by have:=HB1.out.size;simp;omega) _ rfl ?_));intro g1 cap1 w5 hown1 hgrow hgl1 hlt1;have HE:=zac (HP.out.site HX.out HSI.out HB1.out (zal (yaf _ _)) hown1 hgrow (by
     rcases hgl1 with e|e
     ·exact .inl (by rw[e];rfl)
     ·exact .inr (fun b hb=>by simp[Value.ownBlock]at hb;subst hb;rw[e];simp)))
    have hblk:=hgrow.block g zP (fun e=>HRS.out.2 e.symm);rw[heap_alloc,yad zO]at hblk;have q1:w5.cell? ⟨g,0,none⟩=some vS:=by rw[yam hblk];exact C0
    have q2:w5.frozen? ⟨g,0,none⟩=false:=by rw[yal hblk];exact F0
    have hgw5:g<w5.heap.size:=by have:=hgrow.size;simp at this;omega
    haveI:zaj (g+1) w5:=⟨hgw5⟩;clear hown1 hgrow hgl1 hblk;go_wp2_with fail;go_roundw
    case rel=>exact⟨xs++[wr.heap.size+1],_,zS,HE.out⟩
    case measure=>simp[Go.RowKit.intOf];omega
   ·have hxe:xs.length=S:=by omega
    have HXS:=zac hxe;have hxd:decide ((xs.length:Int)<(S:Int))=false:=zU;have hxd2:decide (xs.length<S)=false:=zU;have hxn:¬xs.length<S:=hx;clear hx hxl hxe c0 f0 HRS;go_wp2_with fail;go_loopw [52] (fun i W=>∃ (us:List Nat) (vC:Value),i=ii (us.length:Nat)∧PNu w0 W n O g S C xs us vS vW vC vP) (fun i _=>C-(Go.RowKit.intOf i).toNat)
    case atStart=>exact⟨[],_,rfl,HP.out⟩
    case round=>
     obtain⟨us,vC,rfl,hP⟩:=hrel;clear HP hgl hw0;have HP:=zac hP;have hul:us.length≤C:=by obtain⟨_,_,h2,_⟩:=hP;exact h2.ul
     have hb:=hP.blk;have c2:=zaa hb 2;simp only[zC,zD,zE]at c2;have f2:=zab hb 2;have HRC:=zac hP.rowC;have hgl:g<wr.heap.size:=zae hb;haveI:zaj (g+1) wr:=⟨hgl⟩;have hw0:w0.heap.size≤wr.heap.size:=by obtain⟨_,h1,_⟩:=hP;exact h1.size
     clear hb hP;by_cases hx:us.length<C
     ·have hx6:(us.length:Int)<6:=by omega
      have hxd:decide ((us.length:Int)<(C:Int))=true:=zT;have hiC:=hx;have HO1:Hid (∀ b,∀ u∈([.pointer (some ⟨b,0,none⟩)]:List Value),u.oneCell'=true):=zac (by
       intro b u hu;simp at hu;subst hu;rfl)
      have h63:us.length+1≤maxLen:=by refine yac ?_ maxLen_ge;omega
      have hby:(us.length+1)*8≤140737488355328:=by omega
      clear hx hul;go_upto_region 12 with fail;refine zbc 8 (S:=(fun X:World=>X.cell? ⟨g,2,none⟩=some vC)) zK zK ?_ (fun hHeld=>?_)
      ·first|exact q1|exact hk3|(show World.cell? (World.alloc _ _) _=_;rw[ya7];exact hk3;exact yab hgl HB3.out.size)|exact c2
      simp only[yat,yaQ,yau,yaA];refine zat 0 hHeld ?_;refine zat 1 hHeld ?_;refine zat 2 hHeld ?_;refine zat 3 hHeld ?_;refine zat 4 hHeld ?_;refine zaR [5] (zaU rfl (fun K hK=>?_) ?_)
      ·go_simp
       go_at_call 37;refine(sNew_any _).mono ?_;rintro e w3 ⟨rfl,hs,hb3⟩;have HB3:=zac (ybC (show Below wr wr wr.drew from zB) hb3);have HSN:=zac hs;have hk3:w3.cell? ⟨g,2,none⟩=some vC:=(HB3.out.cell (p:=⟨g,2,none⟩) hgl).trans c2;clear hs hb3;go_wp2_with fail;refine hK.out _ _ ?_ (fun hNew=>?_)
       ·first|exact q1|exact hk3|(show World.cell? (World.alloc _ _) _=_;rw[ya7];exact hk3;exact yab hgl HB3.out.size)|exact c2
       clear hHeld;have hHeld:=hNew;clear hNew hK K
       try simp only[Act.put,zF,zG,zH]
       refine zaR [6] (zaU rfl (fun K hK=>?_) ?_)
       ·go_simp
        refine hK.out _ _ ?_ (fun hNew=>?_)
        ·first|exact q1|exact hk3|(show World.cell? (World.alloc _ _) _=_;rw[ya7];exact hk3;exact yab hgl HB3.out.size)|exact c2
        clear hHeld;have hHeld:=hNew;clear hNew hK K
        try simp only[Act.put,zF,zG,zH]
        refine zaR [7] (zaU rfl (fun K hK=>?_) ?_)
        ·refine step_append_lies _ rfl (.tmp 58) (.tmp 60) 188 rfl w0.heap.size 75 i1 (.pointer none) 1 8 underlying188 hi1 hz4 hz5 hz6 rfl zI vC us.length (zfA us) zM (zaF HRC.out.1 (HB3.out.alloc HB3.out.size _) (fun k e=>(zao HRC.out.1 e).2)) ⟨w3,0,none⟩ 1 1 [.pointer (some ⟨wr,0,none⟩)] zM rfl (World.news_of_block (cs:=#[.pointer (some ⟨wr,0,none⟩)]) (zag rfl _)) (HO1.out _) zI h63 hby (by have:=HB3.out.size;simp;omega) _ rfl ?_
         intro g1 cap1 w5 hown1 hgrow hgl1 hlt1;have HE:=zac (HP.out.sess hiC HSN.out HB3.out (zal (yaf _ _)) hown1 hgrow (by
          rcases hgl1 with e|e
          ·exact .inl (by rw[e];rfl)
          ·exact .inr (fun b hb=>by simp[Value.ownBlock]at hb;subst hb;rw[e];simp)))
         have hblk:=hgrow.block g (by have:=HB3.out.size;simp;omega) (fun e=>HRC.out.2 e.symm);rw[heap_alloc,yad (by have:=HB3.out.size;omega)]at hblk;have q1:w5.cell? ⟨g,2,none⟩=some vC:=by rw[yam hblk];exact hk3
         have q2:w5.frozen? ⟨g,2,none⟩=false:=by rw[yal hblk,HB3.out.frozen (p:=⟨g,2,none⟩) hgl];exact f2
         have hgw5:g<w5.heap.size:=by have:=hgrow.size;have:=HB3.out.size;simp at *;omega
         haveI:zaj (g+1) w5:=⟨hgw5⟩;clear hown1 hgrow hgl1 hblk;refine hK.out _ _ ?_ (fun hNew=>?_)
         ·first|exact q1|exact hk3|(show World.cell? (World.alloc _ _) _=_;rw[ya7];exact hk3;exact yab hgl HB3.out.size)|exact c2
         clear hHeld;have hHeld:=hNew;clear hNew hK K
         try simp only[Act.put,zF,zG,zH]
         refine wpAnyH_done zK ?_ _;refine zes.normal ?_;go_wp2_with fail;go_roundw
         case rel=>exact⟨us++[wr.heap.size],_,zS,HE.out⟩
         case measure=>simp[Go.RowKit.intOf];omega
        exact AllReadyH.nil
       exact AllReadyH.nil
      exact AllReadyH.nil
     ·have hue:us.length=C:=by omega
      have HUS:=zac hue;have hxd:decide ((us.length:Int)<(C:Int))=false:=zU;have hxd2:decide (us.length<C)=false:=zU;have hxn:¬us.length<C:=hx;clear hx hul hue c2 f2 HRC;go_wp2_with fail;go_ret2;exact⟨g,rfl,HP.out.done HXS.out HUS.out⟩
theorem wNew_bad (S C:Int) (hb:S<1∨4<S∨C<0∨6<C) (w:World):
  Calls prog 62 #[S,C] w fun e w'=>e=.returned (.tuple #[.pointer none,.iface 29 (ii 2)])∧Below w w w':=by
 by_cases h0:S<1
 ·have d0:decide (S<1)=true:=yae h0
  clear hb h0;go_enter func62,ntmps62;go_wp2_with fail;go_ret2;exact⟨rfl,zB⟩
 have d0:decide (S<1)=false:=yah h0;by_cases h1:4<S
 ·have d1:decide (4<S)=true:=yae h1
  clear hb h0 h1;go_enter func62,ntmps62;go_wp2_with fail;go_ret2;exact⟨rfl,zB⟩
 have d1:decide (4<S)=false:=yah h1;by_cases h2:C<0
 ·have d2:decide (C<0)=true:=yae h2
  clear hb h0 h1 h2;go_enter func62,ntmps62;go_wp2_with fail;go_ret2;exact⟨rfl,zB⟩
 have d2:decide (C<0)=false:=yah h2;have d3:decide (6<C)=true:=zT;clear hb h0 h1 h2;go_enter func62,ntmps62;go_wp2_with fail;go_ret2;exact⟨rfl,zB⟩
structure TWo where
 gp:Nat
 gr:Nat
 xs:List Nat
 us:List Nat
 ys:List Nat
 ts:List Nat
def TW (w0 w:World) (T:TWo) (Ap Ar:AWd) (E:List Ob):Prop:=
 ∃ O vp vr,Mem w0 w (32+E.length) O∧PWx w0.heap.size O 0 T.gp Ap vp∧RWx w0.heap.size O 16 T.gr Ar vr∧(vp.xs=T.xs∧vp.us=T.us∧vr.xs=T.ys∧vr.us=T.ts)∧∀ i o,E[i]?=some o→O (32+i)=o
section
variable {w0 w w':World}{T:TWo}{Ap Ar A1:AWd}{E F:List Ob}{f:Nat}{vs:Array Value}{R:Ending}
theorem TW.low (h:TW w0 w T Ap Ar E):Below w0 w0 w:=by obtain⟨O,_,_,h1,_⟩:=h;exact h1.low
theorem TW.below (h:TW w0 w T Ap Ar E) (hb:Below w w w'):TW w0 w' T Ap Ar E:=by
 obtain⟨O,v,u,h1,h2⟩:=h;exact⟨O,v,u,h1.below hb,h2⟩
theorem TW.snoc {O O2:Nat→Ob}(hE:∀ i o,E[i]?=some o→O (32+i)=o){o:Ob}(h2:∀ k,k<32+E.length→32≤k→O2 k=O k) (h3:O2 (32+E.length)=o):∀ i o',(E++[o])[i]?=some o'→O2 (32+i)=o':=fun i o' he=>by
 rcases ze2 he with h|⟨rfl,rfl⟩
 ·have:=zaI h
  rw[h2 _ zO zO];exact hE i o' h
 ·exact h3
theorem TW.push (h:TW w0 w T Ap Ar E) (o:Obj):TW w0 (w.alloc o) T Ap Ar (E++[obB w.heap.size o w0.heap.size]):=by
 obtain⟨O,v,u,h1,h2,h3,h4,h5⟩:=h;obtain⟨O2,k1,k2,k3⟩:=h1.new1 o;have e:32+(E++[obB w.heap.size o w0.heap.size]).length=32+E.length+1:=by simp;omega
 exact⟨O2,v,u,e ▸ k1,h2.keep (fun j hj=>k2 _ zO),h3.keep (fun j hj=>k2 _ zO),h4,TW.snoc h5 (fun k hk _=>k2 k hk) k3⟩
theorem TW.box (h:TW w0 w T Ap Ar E){b:Nat}{o:Obj}(hi:obB b o w0.heap.size∈E):w.heap[b]?=some o:=by
 obtain⟨O,v,u,h1,h2,h3,h4,h5⟩:=h;obtain⟨i,hi⟩:=ycc.1 hi;have:=zaI hi;exact h1.box zO (h5 i _ hi)
theorem TW.ws (h:TW w0 w T Ap Ar E){A1:Option Addr}{ws:List WrP}(hi:zcQ A1 ws∈E):zaN w A1 ws:=by
 obtain⟨O,v,u,h1,h2,h3,h4,h5⟩:=h;obtain⟨i,hi⟩:=ycc.1 hi;have:=zaI hi;have:=h1.at_ (32+i) zO;rw[h5 i _ hi]at this;exact this.1
theorem TW.less (h:TW w0 w T Ap Ar (E++F)):TW w0 w T Ap Ar E:=by
 obtain⟨O,v,u,h1,h2,h3,h4,h5⟩:=h;exact⟨O,v,u,h1.less zS,h2,h3,h4,fun i o hi=>h5 i o (by rw[yaX (zaI hi)];exact hi)⟩
theorem TW.pc (h:TW w0 w T Ap Ar E) (H:∀ n O v,PWx w0.heap.size O 0 T.gp Ap v→Mem w0 w n O→0+16≤n→Calls prog f vs w fun e w'=>e=R∧zbF w0 w' n O 0 T.gp v.xs v.us A1):Calls prog f vs w fun e w'=>e=R∧TW w0 w' T A1 Ar E:=by
 obtain⟨O,v,u,h1,h2,h3,⟨a1,a2,a3⟩,h5⟩:=h;refine(H _ O v h2 h1 zO).mono ?_;rintro e w' ⟨he,O2,k1,⟨v2,k2,e1,e2⟩,k3⟩;exact⟨he,O2,v2,u,k1,k2,h3.keep (fun j hj=>k3 _ zO (.inr zO)),⟨e1.trans a1,e2.trans a2,a3⟩,fun i o hi=>by have:=zaI hi;rw[k3 _ zO (.inr zO)];exact h5 i o hi⟩
theorem TW.rc (h:TW w0 w T Ap Ar E) (H:∀ n O v,v.xs=T.ys→v.us=T.ts→RWx w0.heap.size O 16 T.gr Ar v→Mem w0 w n O→16+16≤n→Calls prog f vs w fun e w'=>e=R∧zbG w0 w' n O 16 T.gr v.xs v.us A1):Calls prog f vs w fun e w'=>e=R∧TW w0 w' T Ap A1 E:=by
 obtain⟨O,v,u,h1,h2,h3,⟨a1,a2,a3,a4⟩,h5⟩:=h;refine(H _ O u a3 a4 h3 h1 zO).mono ?_;rintro e w' ⟨he,O2,k1,⟨u2,k2,e1,e2⟩,k3⟩;exact⟨he,O2,v,u2,k1,h2.keep (fun j hj=>k3 _ zO (.inl zO)),k2,⟨a1,a2,e1.trans a3,e2.trans a4⟩,fun i o hi=>by have:=zaI hi;rw[k3 _ zO (.inr zO)];exact h5 i o hi⟩
theorem TW.pb (h:TW w0 w T Ap Ar E) (H:∀ n O v,PWx w0.heap.size O 0 T.gp Ap v→Mem w0 w n O→0+16≤n→Calls prog f vs w fun e w'=>e=R∧Below w w w'):Calls prog f vs w fun e w'=>e=R∧TW w0 w' T Ap Ar E:=by
 obtain⟨O,v,u,h1,h2,h3⟩:=id h;refine(H _ O v h2 h1 zO).mono ?_;rintro e w' ⟨he,hb⟩;exact⟨he,h.below hb⟩
theorem TW.rb (h:TW w0 w T Ap Ar E) (H:∀ n O v,v.xs=T.ys→v.us=T.ts→RWx w0.heap.size O 16 T.gr Ar v→Mem w0 w n O→16+16≤n→Calls prog f vs w fun e w'=>e=R∧Below w w w'):Calls prog f vs w fun e w'=>e=R∧TW w0 w' T Ap Ar E:=by
 obtain⟨O,v,u,h1,h2,h3,⟨a1,a2,a3,a4⟩,h5⟩:=id h;refine(H _ O u a3 a4 h3 h1 zO).mono ?_;rintro e w' ⟨he,hb⟩;exact⟨he,h.below hb⟩
theorem TW.out (h:TW w0 w T Ap Ar E){i:Nat}(hi:i<Ar.way.length):Calls prog 119 #[.pointer (some ⟨T.gr,0,none⟩),ii (i:Nat)] w fun e w'=>∃ m:RGm,e=.returned (.agg m.cells.toArray)∧m.g=Ar.way.getD i gmZ∧zih Ar.S m.g∧zaN w' m.A m.g.tx.ws∧TW w0 w' T Ap (zbh Ar i) E:=by
 obtain⟨O,v,u,h1,h2,h3,⟨a1,a2,a3,a4⟩,h5⟩:=h;refine(zke h3 h1 zO i hi).mono ?_;rintro e w' ⟨m,he,q1,q2,q3,O2,k1,⟨u2,k2,e1,e2⟩,k3⟩;exact⟨m,he,q1,q2,q3,O2,v,u2,k1,h2.keep (fun j hj=>k3 _ zO (.inl zO)),k2,⟨a1,a2,e1.trans a3,e2.trans a4⟩,fun i o hi=>by have:=zaI hi;rw[k3 _ zO (.inr zO)];exact h5 i o hi⟩
theorem TW.rCommit (h:TW w0 w T Ap Ar E){k:Nat}(hk:k<Ar.C) (hW:(Ar.cl k).W.length≤900):Calls prog 116 #[.pointer (some ⟨T.gr,0,none⟩),ii (k:Nat)] w fun e w'=>∃ A1 c1,e=.returned (.tuple #[MTx.val ⟨zdk Ar k,A1,c1⟩,ii (zaK Ar k)])∧TW w0 w' T Ap (zbB Ar k) (E++[zcQ A1 (zdk Ar k).ws]):=by
 obtain⟨O,v,u,h1,h2,h3,⟨a1,a2,a3,a4⟩,h5⟩:=h;refine(zjt h3 h1 zO hk hW).mono ?_;rintro e w' ⟨A1,c1,he,O2,u2,k1,k2,⟨⟨e1,e2⟩,_⟩,k3,k4⟩;have e:32+(E++[zcQ A1 (zdk Ar k).ws]).length=32+E.length+1:=by simp;omega
 exact⟨A1,c1,he,O2,v,u2,e ▸ k1,h2.keep (fun j hj=>k4 _ zO (.inl zO)),k2,⟨a1,a2,e1.trans a3,e2.trans a4⟩,TW.snoc h5 (fun k hk h32=>k4 k hk (.inr zO)) (k3 0 _ rfl)⟩
theorem TW.pCommit (h:TW w0 w T Ap Ar E){k:Nat}(hk:k<Ap.C):Calls prog 102 #[.pointer (some ⟨T.gp,0,none⟩),ii (k:Nat)] w fun e w'=>∃ A1 c1,e=.returned (.tuple #[MTx.val ⟨zdk Ap k,A1,c1⟩,zbT (zaK Ap k)])∧TW w0 w' T (zbB Ap k) Ar (E++[zcQ A1 (zdk Ap k).ws]):=by
 obtain⟨O,v,u,h1,h2,h3,⟨a1,a2,a3,a4⟩,h5⟩:=h;refine(zkA h2 h1 zO hk).mono ?_;rintro e w' ⟨A1,c1,he,O2,k1,k2,⟨v2,k3,e1,e2⟩,k4⟩;have e:32+(E++[zcQ A1 (zdk Ap k).ws]).length=32+E.length+1:=by simp;omega
 exact⟨A1,c1,he,O2,v2,u,e ▸ k1,k3,h3.keep (fun j hj=>k4 _ zO (.inr zO)),⟨e1.trans a1,e2.trans a2,a3,a4⟩,TW.snoc h5 (fun k hk h32=>k4 k hk (.inr zO)) k2⟩
theorem TW.blk (h:TW w0 w T Ap Ar E):∃ bS cS bW cW aC cC aP cP aG cG,w.heap[T.gr]?=some (.cells #[.slice (some ⟨bS,0,none⟩) Ar.S cS,.slice (some ⟨bW,0,none⟩) Ar.S cW,.slice aC Ar.C cC,.slice aP Ar.C cP,.slice aG Ar.way.length cG,ii (wrap64 (Ar.lost:Int))] 136)∧
  (w0.heap.size≤bS∧bS<w.heap.size)∧(w0.heap.size≤bW∧bW<w.heap.size)∧(∀ k x,T.ys[k]?=some x→w.cell? ⟨bS,k,none⟩=some (.pointer (some ⟨x,0,none⟩)))∧(∀ k,k<Ar.S→w.cell? ⟨bW,k,none⟩=some (ii (Ar.wl k)))∧(∀ k,w.frozen? ⟨bW,k,none⟩=false)∧(T.ys.length=Ar.S∧T.ts.length=Ar.C)∧
  (0<Ar.C→∃ bC bP,aC=some ⟨bC,0,none⟩∧aP=some ⟨bP,0,none⟩∧(w0.heap.size≤bC∧bC<w.heap.size)∧(w0.heap.size≤bP∧bP<w.heap.size)∧(∀ k u,T.ts[k]?=some u→w.cell? ⟨bC,k,none⟩=some (.pointer (some ⟨u,0,none⟩)))∧(∀ k,k<Ar.C→w.cell? ⟨bP,k,none⟩=some (ii (Ar.pl k:Int)))∧∀ k,w.frozen? ⟨bP,k,none⟩=false):=by
 obtain⟨O,v,u,h1,h2,hp,⟨a1,a2,a3,a4⟩,h5⟩:=h;have hn:16+16≤32+E.length:=by omega
 have hS:=hp.ok.S;have hb:=hp.blk h1 hn;obtain⟨bS,cS,eS,gS,lS,kS,fS⟩:=zbl h1 (i:=16+1) zO hp.b1 zO;obtain⟨bW,cW,eW,gW,lW,kW,fW⟩:=zbl h1 (i:=16+2) zO hp.b2 zO;obtain⟨aC,cC,eC⟩:=zbq h1 (i:=16+3) zO hp.b3;obtain⟨aP,cP,eP⟩:=zbq h1 (i:=16+4) zO hp.b4;obtain⟨aG,cG,eG⟩:=zjN h1 (i:=16+5) zO hp.b5;rw[hp.wr.len]at eG;rw[eS,eW,eC,eP,eG]at hb;refine⟨bS,cS,bW,cW,aC,cC,aP,cP,aG,cG,hb,⟨gS,lS⟩,⟨gW,lW⟩,fun k x hx=>kS k _ (by have:=zaI hx;have:=hp.xl;rw[a3]at this;omega) (zbt (by rw[a3];exact hx)),fun k hk=>kW k _ hk (zbQ hk),fW,⟨by rw[←a3];exact hp.xl,by rw[←a4];exact hp.ul⟩,fun hC=>?_⟩;obtain⟨bC,cC2,eC2,gC,lC,kC,fC⟩:=zbl h1 (i:=16+3) zO hp.b3 hC;obtain⟨bP,cP2,eP2,gP,lP,kP,fP⟩:=zbl h1 (i:=16+4) zO hp.b4 hC;rw[eC]at eC2;rw[eP]at eP2;cases eC2;cases eP2;exact⟨bC,bP,rfl,rfl,⟨gC,lC⟩,⟨gP,lP⟩,fun k x hx=>kC k _ (by have:=zaI hx;have:=hp.ul;rw[a4]at this;omega) (zbt (by rw[a4];exact hx)),fun k hk=>kP k _ hk (zbQ hk),fP⟩
theorem TW.ok (h:TW w0 w T Ap Ar E):AOk Ar:=by obtain⟨O,v,u,h1,h2,h3,_⟩:=h;exact h3.ok
theorem TW.scells (h:TW w0 w T Ap Ar E){k u:Nat}(hu:T.ts[k]?=some u):
  ∃ wv,w.heap[u]?=some (.cells #[ii (Ar.cl k).q0,ii (Ar.cl k).q1,ii (Ar.cl k).q2,ii (Ar.cl k).q3,ii (Ar.cl k).n0,ii (Ar.cl k).n1,ii (Ar.cl k).n2,ii (Ar.cl k).n3,.bool (Ar.cl k).op,wv] 79):=by
 obtain⟨O,v,u,h1,h2,h3,⟨a1,a2,a3,a4⟩,h5⟩:=h;exact h3.sCells h1 zO (by rw[a4];exact hu)
theorem TW.xcells (h:TW w0 w T Ap Ar E){k x:Nat}(hx:T.ys[k]?=some x):x<w.heap.size∧w.cell? ⟨x,0,none⟩=some (ii (Ar.si k).id)∧w.cell? ⟨x,1,none⟩=some (ii (Ar.si k).p0)∧w.cell? ⟨x,2,none⟩=some (ii (Ar.si k).p1)∧w.cell? ⟨x,3,none⟩=some (ii (Ar.si k).p2)∧w.cell? ⟨x,4,none⟩=some (ii (Ar.si k).p3)∧
  (∃ A' c,w.cell? ⟨x,8,none⟩=some (.slice A' (Ar.si k).ws.length c))∧(∃ A' c,w.cell? ⟨x,9,none⟩=some (.slice A' (Ar.si k).held.length c)):=by
 obtain⟨O,v,u,h1,h2,h3,⟨a1,a2,a3,a4⟩,h5⟩:=h;have:=h3.xCells h1 zO (k:=k) (x:=x) (by rw[a3];exact hx);exact⟨this.1,this.2.1,this.2.2.1,this.2.2.2.1,this.2.2.2.2.1,this.2.2.2.2.2.1,this.2.2.2.2.2.2.1,this.2.2.2.2.2.2.2.1⟩
end
section
variable {w0 w:World}{n:Nat}{O:Nat→Ob}{p g:Nat}{A:AWd}{v:WV}{k u x:Nat}
theorem wRead_ok (hp:PWx w0.heap.size O p g A v) (h:Mem w0 w n O) (hn:p+16≤n) (hk:k<A.C) (key:Int) (hwf:zcr key):
  Calls prog 60 #[.pointer (some ⟨g,0,none⟩),ii (k:Nat),key] w fun e w'=>e=.returned (.tuple #[.string (zft A k key).1,zbT (zft A k key).2])∧Below w w w':=by
 obtain⟨u,hu⟩:=hp.uk hk;obtain⟨x,hx⟩:=hp.xk (hp.ok.pl k);have HC:=zac (zcX hp h hn hk hu hx);have HB:=zac (fun W (hb:Below w w W)=>hp.sRead (h.below hb) hn hu hx key hwf);obtain⟨z,hz⟩:∃ z,zbT (zft A k key).2=z:=⟨_,rfl⟩;obtain⟨s,hs⟩:∃ s,(zft A k key).1=s:=⟨_,rfl⟩;rw[hz,hs]at HB ⊢;clear hp h hu hx hk hz hs hwf;go_enter func60,ntmps60;go_wp2_with fail;go_at_call 112;refine HC.out.mono ?_;rintro e w1 ⟨rfl,hb1⟩;have HB1:=zac hb1;clear hb1 HC;go_wp2_with fail;go_at_call 41;refine(HB.out _ HB1.out).mono ?_;rintro e w2 ⟨rfl,hb2⟩;have HB2:=zac (HB1.out.trans (hb2.mono HB1.out.size));clear hb2 HB HB1;go_wp2_with fail;go_ret2;exact⟨rfl,HB2.out⟩
theorem zlP (hp:PWx w0.heap.size O p g A v) (h:Mem w0 w n O) (hn:p+16≤n) (k:Int) (hk:k<0∨(A.C:Int)≤k) (key:Int):
  Calls prog 60 #[.pointer (some ⟨g,0,none⟩),k,key] w fun e w'=>e=.returned (.tuple #[.string ⟨#[]⟩,.iface 29 (ii 2)])∧Below w w w':=by
 have HC:=zac (zcB hp h hn k hk);clear hp h hk;go_enter func60,ntmps60;go_wp2_with fail;go_at_call 112;refine HC.out.mono ?_;rintro e w1 ⟨rfl,hb1⟩;have HB1:=zac hb1;clear hb1 HC;go_wp2_with fail;go_ret2;exact⟨rfl,HB1.out⟩
theorem zlL (hp:PWx w0.heap.size O p g A v) (h:Mem w0 w n O) (hn:p+16≤n) (hk:k<A.C) (y:WrP):
  Calls prog 101 #[.pointer (some ⟨g,0,none⟩),ii (k:Nat),y.val] w fun e w'=>e=.returned (zbT (zfO A k y))∧zbF w0 w' n O p g v.xs v.us (zdW A k y):=by
 obtain⟨u,hu⟩:=hp.uk hk;obtain⟨x,hx⟩:=hp.xk (hp.ok.pl k);have HC:=zac (fun W (hb:Below w w W)=>zcX hp (h.below hb) hn hk hu hx);have HB:=zac (fun W (hb:Below w w W)=>hp.sWrite (h.below hb) hn hu y);obtain⟨z,hz⟩:∃ z,zbT (zfO A k y)=z:=⟨_,rfl⟩;obtain⟨AA,hA⟩:∃ AA,zdW A k y=AA:=⟨_,rfl⟩;rw[hz,hA]at HB ⊢;obtain⟨yk,yd,yg⟩:=y;unfold WrP.val at *;simp only at HB ⊢;clear hp h hu hx hk hz hA;go_enter func101,ntmps101;go_wp2_with fail;go_at_call 112;refine(HC.out _ zB).mono ?_;rintro e w1 ⟨rfl,hb1⟩;obtain⟨x1,rfl⟩:=zad hb1;clear hb1 HC;go_wp2_with fail;go_at_call 42;refine(HB.out _ zB).mono ?_;rintro e w2 ⟨rfl,hU⟩;have HU:=zac hU;clear hU HB;go_wp2_with fail;go_ret;exact⟨rfl,HU.out⟩
theorem zkx (hp:PWx w0.heap.size O p g A v) (h:Mem w0 w n O) (hn:p+16≤n) (k:Int) (hk:k<0∨(A.C:Int)≤k) (y:WrP):
  Calls prog 101 #[.pointer (some ⟨g,0,none⟩),k,y.val] w fun e w'=>e=.returned (.iface 29 (ii 2))∧Below w w w':=by
 have HC:=zac (fun W (hb:Below w w W)=>zcB hp (h.below hb) hn k hk);obtain⟨yk,yd,yg⟩:=y;unfold WrP.val;simp only;clear hp h hk;go_enter func101,ntmps101;go_wp2_with fail;go_at_call 112;refine(HC.out _ zB).mono ?_;rintro e w1 ⟨rfl,hb1⟩;obtain⟨x1,rfl⟩:=zad hb1;clear hb1 HC;go_wp2_with fail;go_ret;exact⟨rfl,zB⟩
end
section
variable {w0 w:World}{n:Nat}{O:Nat→Ob}{p g:Nat}{A:AWd}{v:WV}{k u x:Nat}
theorem zj8 (hp:PWx w0.heap.size O p g A v) (h:Mem w0 w n O) (hn:p+16≤n) (hk:k<A.C) (z:Int):
  Calls prog 103 #[.pointer (some ⟨g,0,none⟩),ii (k:Nat),z] w fun e w'=>e=.returned (zbT (zcv A k z))∧zbF w0 w' n O p g v.xs v.us (zdF A k z):=by
 have hb:=hp.blk h hn;obtain⟨u,hu⟩:=hp.uk hk;obtain⟨x,hx⟩:=hp.xk (hp.ok.pl k);obtain⟨aS,cS,eS⟩:=zbq h (i:=p+1) zO hp.b1;obtain⟨bP,cP,eP,_,lP,kP,fP⟩:=zbl h (i:=p+4) zO hp.b4 zO;have y1:=kP k _ hk (zbQ hk);have y2:=fP k;have HC:=zac (zcX hp h hn hk hu hx);have HOP:=zac (fun W (hW:Below w w W)=>hp.sOpen (h.below hW) hn hu);have HSAME:Hid (zcv A k z≠0→∀ w',Below w w w'→zbF w0 w' n O p g v.xs v.us (zdF A k z)):=zac (fun he w' hb'=>by
  unfold zdF;rw[yad he];exact hp.below h hb')
 have HSET:Hid (zcv A k z=0→∀ w',Below (w.setCell ⟨bP,k,none⟩ (ii z)).heap.size (w.setCell ⟨bP,k,none⟩ (ii z)) w'→zbF w0 w' n O p g v.xs v.us (zdF A k z)):=zac (by
  intro he w' hb';have hz:0≤z∧z<(A.S:Int):=by
   unfold zcv at he;by_cases e:z<0∨(A.S:Int)≤z
   ·rw[yaj e]at he;cases he
   ·omega
  have hzt:((z.toNat:Nat):Int)=z:=by omega
  have hb4:O (p+4)=_:=hp.b4;rw[eP]at hb4;obtain⟨O',h1,h2,h3⟩:=zeM h (i:=p+4) zO hb4 k z;have e2:(zb5 (fun i=>(A.pl i:Int)) k z)=fun i=>((zb5 A.pl k z.toNat i:Nat):Int):=by
   funext i;unfold zb5;split
   ·exact hzt.symm
   ·rfl
  rw[e2]at h2;unfold zdF;rw[yaj he];exact zbF.then ⟨O',h1,(hp.setPl (z:=z.toNat) zO (by rw[eP];exact h2) (fun j hj hne=>h3 _ zO)).a,fun i _ hi=>h3 i zO⟩ hb')
 rw[eS,eP]at hb;have c0:=zaa hb 0;have c3:=zaa hb 3;simp only[zC,zD,zE]at c0 c3;haveI:zaj (g+1) w:=⟨zae hb⟩;haveI:zaj (bP+1) w:=⟨lP⟩;clear hb hu hx eS eP kP fP lP;have hk0:(0:Int)≤(k:Int):=by omega
 have hk1:(k:Int)<(A.C:Int):=by omega
 clear hk;have HE:Hid (zcv A k z=if z<0∨(A.S:Int)≤z then 2 else if(A.cl k).op=true then 6 else 0):=zac rfl;clear hp h hn;generalize zcv A k z=E at *;generalize zdF A k z=A' at *;generalize A.C=C at *;generalize A.S=S at *;generalize (A.cl k).op=op at *;by_cases h0:z<0
 ·have d0:decide (z<0)=true:=yae h0
  obtain rfl:E=2:=by rw[HE.out,yaj (.inl h0)]
  clear h0 HE HSET;go_enter func103,ntmps103;go_wp2_with fail;go_at_call 112;refine HC.out.mono ?_;rintro e w1 ⟨rfl,hb1⟩;obtain⟨x1,rfl⟩:=zad hb1;clear hb1 HC;go_wp2_with fail;go_ret;exact⟨rfl,HSAME.out zI _ zB⟩
 have d0:decide (z<0)=false:=yah h0;by_cases h1:(S:Int)≤z
 ·have d1:decide ((S:Int)≤z)=true:=yae h1
  obtain rfl:E=2:=by rw[HE.out,yaj (.inr h1)]
  clear h0 h1 HE HSET;go_enter func103,ntmps103;go_wp2_with fail;go_at_call 112;refine HC.out.mono ?_;rintro e w1 ⟨rfl,hb1⟩;obtain⟨x1,rfl⟩:=zad hb1;clear hb1 HC;go_wp2_with fail;go_ret;exact⟨rfl,HSAME.out zI _ zB⟩
 have d1:decide ((S:Int)≤z)=false:=yah h1;cases op with
 | true=>
   obtain rfl:E=6:=by rw[HE.out,yad zO,yaj rfl]
   clear h0 h1 HE HSET;go_enter func103,ntmps103;go_wp2_with fail;go_at_call 112;refine HC.out.mono ?_;rintro e w1 ⟨rfl,hb1⟩;obtain⟨x1,rfl⟩:=zad hb1;clear hb1 HC;go_wp2_with fail;go_at_call 50;refine(HOP.out _ zB).mono ?_;rintro e w2 ⟨rfl,hb2⟩;obtain⟨x2,rfl⟩:=zad hb2;clear hb2 HOP;go_wp2_with fail;go_ret;exact⟨rfl,HSAME.out zI _ zB⟩
 | false=>
   obtain rfl:E=0:=by rw[HE.out,yad zO,yad zS]
   clear h0 h1 HE HSAME;go_enter func103,ntmps103;go_wp2_with fail;go_at_call 112;refine HC.out.mono ?_;rintro e w1 ⟨rfl,hb1⟩;obtain⟨x1,rfl⟩:=zad hb1;clear hb1 HC;go_wp2_with fail;go_at_call 50;refine(HOP.out _ zB).mono ?_;rintro e w2 ⟨rfl,hb2⟩;obtain⟨x2,rfl⟩:=zad hb2;clear hb2 HOP;go_wp2_with fail;go_ret;exact⟨rfl,HSET.out (by first|rfl|trivial) _ zB⟩
theorem zlQ (hp:PWx w0.heap.size O p g A v) (h:Mem w0 w n O) (hn:p+16≤n) (k:Int) (hk:k<0∨(A.C:Int)≤k) (z:Int):
  Calls prog 103 #[.pointer (some ⟨g,0,none⟩),k,z] w fun e w'=>e=.returned (.iface 29 (ii 2))∧Below w w w':=by
 have HC:=zac (zcB hp h hn k hk);clear hp h hk;go_enter func103,ntmps103;go_wp2_with fail;go_at_call 112;refine HC.out.mono ?_;rintro e w1 ⟨rfl,hb1⟩;obtain⟨x1,rfl⟩:=zad hb1;clear hb1 HC;go_wp2_with fail;go_ret;exact⟨rfl,zB⟩
end
end Go.Proofs.YtbopfhbeegkkaabGreatDoor
