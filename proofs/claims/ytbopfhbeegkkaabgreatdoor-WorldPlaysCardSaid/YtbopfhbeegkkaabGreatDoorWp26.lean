/- Part 26 of a proof: lemmas and contracts that other parts use. -/
import Derived.Test.YtbopfhbeegkkaabGreatDoorWp25
import Derived.Test.YtbopfhbeegkkaabGreatDoorWp16
import Derived.Deep.DeepCutAuto
import Derived.Test.YtbopfhbeegkkaabGreatDoorWp23
import Derived.Test.YtbopfhbeegkkaabGreatDoorWp22
import Derived.Deep.LoopGhost
set_option linter.unusedVariables false
set_option linter.unusedSimpArgs false
set_option linter.constructorNameAsVariable false
set_option maxHeartbeats 16000000
set_option maxRecDepth 200000
namespace Go.Proofs.YtbopfhbeegkkaabGreatDoor
open Go.RowKit Go.Proofs.Tryz
section
variable {w0 w:World}{n:Nat}{O:Nat→Ob}{p g:Nat}{A:AWd}{v:RV}{k u x:Nat}
theorem zjt (hp:RWx w0.heap.size O p g A v) (h:Mem w0 w n O) (hn:p+16≤n) (hk:k<A.C) (hW:(A.cl k).W.length≤900):
  Calls prog 116 #[.pointer (some ⟨g,0,none⟩),ii (k:Nat)] w fun e w'=>∃ A1 c1,e=.returned (.tuple #[MTx.val ⟨zdk A k,A1,c1⟩,ii (zaK A k)])∧REx w0 w' n O p g (fun v1=>v1.xs=v.xs∧v1.us=v.us) (zbB A k) [zcQ A1 (zdk A k).ws]:=by
 obtain⟨u,hu⟩:=hp.uk hk;obtain⟨q,hq⟩:∃ q,A.pl k=q:=⟨_,rfl⟩;obtain⟨wl,hwl⟩:∃ wl,A.wl q=wl:=⟨_,rfl⟩;have hqS:q<A.S:=by rw[←hq];exact hp.ok.pl k
 obtain⟨x,hx⟩:=hp.xk hqS;have HCL:Hid (∀ X AA E,REx w0 X n O p g (fun v1=>v1=v) AA E→(AA.S=A.S∧AA.C=A.C∧AA.wl=A.wl∧AA.pl=A.pl)→zku g v k q u x A X):=zac (fun X AA E h1 h2=>h1.cells hu hx hk hq h2);have HN0:=zac (REx.of hp h hn);have HEA0:Hid (A.S=A.S∧A.C=A.C∧A.wl=A.wl∧A.pl=A.pl):=zac ⟨rfl,rfl,rfl,rfl⟩;have HE1:Hid ((zap A k).S=A.S∧(zap A k).C=A.C∧(zap A k).wl=A.wl∧(zap A k).pl=A.pl):=zac (by unfold zap;split <;> exact⟨rfl,rfl,rfl,rfl⟩);have HRT:Hid (zaK A k=0→0<(zdk A k).seq→zaf (zdk A k)=true):=zac (fun he hs=>by
  unfold zdk at hs ⊢;rw[yaj he]at hs ⊢;exact(hp.right he hs).1)
 have HCM0:Hid (∀ (W:World) (E:List Ob),REx w0 W n O p g (fun v1=>v1=v) A E→Calls prog 44 #[.pointer (some ⟨u,0,none⟩),.pointer (some ⟨x,0,none⟩),wl] W fun e w'=>
   ∃ A' c',e=.returned (.tuple #[MTx.val ⟨zdk A k,A',c'⟩,ii (zaK A k)])∧REx w0 w' n O p g (fun v1=>v1=v) (zap A k) (E++[zcQ A' (zdk A k).ws])):=zac (fun W E hE=>by
  have h1:=hE.commit (k:=k) (u:=u) (x:=x) (fun v1 e=>by subst e;exact⟨hu,by rw[hq];exact hx⟩) hW;rw[hq,hwl]at h1;exact h1)
 have HCM2:Hid (zbB A k=if zaK A k=0∧0<(zdk A k).seq then zay (zap A k) (zfE A q (zdk A k) A.S)else zap A k):=zac (by
  unfold zbB;rw[hq];by_cases he:zaK A k=0
  ·have e1:zdk A k=zaZ A k:=by unfold zdk;rw[yaj he]
   rw[e1]
  ·rw[yad (fun e=>he e.1),yad (fun e=>he e.1)])
 obtain⟨bS,cS,bW,cW,bC,cC,bP,cP,eS,eW,eC,eP,lg,lS,lW,lC,lP,g0,g1,g2,g3,g4,g5,g6,g7⟩:=HCL.out _ _ _ HN0.out HEA0.out;have HSK0:Hid (∀ X:World,zku g v k q u x A X→(X.cell? ⟨g,0,none⟩=some (.slice (some ⟨bS,0,none⟩) A.S cS)∧X.cell? ⟨g,1,none⟩=some (.slice (some ⟨bW,0,none⟩) A.S cW)∧X.cell? ⟨g,2,none⟩=some (.slice (some ⟨bC,0,none⟩) A.C cC)∧X.cell? ⟨g,3,none⟩=some (.slice (some ⟨bP,0,none⟩) A.C cP)∧X.cell? ⟨bS,q,none⟩=some (.pointer (some ⟨x,0,none⟩))∧X.cell? ⟨bW,q,none⟩=some (ii (A.wl q))∧X.cell? ⟨bC,k,none⟩=some (.pointer (some ⟨u,0,none⟩))∧X.cell? ⟨bP,k,none⟩=some (ii (q:Int)))):=zac (fun X h=>by
  obtain⟨bS',cS',bW',cW',bC',cC',bP',cP',eS',eW',eC',eP',_,_,_,_,_,g0',g1',g2',g3',g4',g5',g6',g7'⟩:=h;rw[eS]at eS' g0';rw[eW]at eW' g1';rw[eC]at eC' g2';rw[eP]at eP' g3';simp only[yaP,yaz,yaU,ybN,true_and]at eS' eW' eC' eP';obtain⟨rfl,rfl⟩:=eS';obtain⟨rfl,rfl⟩:=eW';obtain⟨rfl,rfl⟩:=eC';obtain⟨rfl,rfl⟩:=eP';exact⟨g0',g1',g2',g3',g4',g5',g6',g7'⟩)
 rw[eS]at g0;rw[eW]at g1;rw[eC]at g2;rw[eP]at g3;rw[hwl]at g5 HSK0;clear eS eW eC eP hu hx hq hwl hW h hp;obtain⟨T,hT⟩:∃ T,zdk A k=T:=⟨_,rfl⟩;obtain⟨z,hz⟩:∃ z,zaK A k=z:=⟨_,rfl⟩;obtain⟨A1W,hA1⟩:∃ A1W,zap A k=A1W:=⟨_,rfl⟩;rw[hT,hz]at HRT HCM0 HCM2;rw[hA1]at HCM0 HCM2 HE1;rw[hT,hz];obtain⟨t0,t1,t2,t3,t4,t5,t6,t7,tws⟩:=T;have HCM:=HCM0;unfold MTx.val at HCM ⊢;simp only at HCM HCM2 HRT ⊢;clear hT hz hA1 HCM0;haveI:zaj (g+1) w:=⟨lg⟩;haveI:zaj (bS+1) w:=⟨lS⟩;haveI:zaj (bW+1) w:=⟨lW⟩;haveI:zaj (bC+1) w:=⟨lC⟩;haveI:zaj (bP+1) w:=⟨lP⟩;clear lg lS lW lC lP;have hk0:(0:Int)≤(k:Int):=by omega
 have hk1:(k:Int)<(A.C:Int):=by omega
 have hq0:(0:Int)≤(q:Int):=by omega
 have hq1:(q:Int)<(A.S:Int):=by omega
 have hS4:A.S≤4:=by
  obtain⟨O1,v1,_,h2,_⟩:=HN0.out;exact h2.ok.S.2
 have hS4i:(A.S:Int)≤4:=by omega
 have HAS:Hid (A1W.S=A.S):=zac HE1.out.1;generalize hSS:A.S=S at *;generalize hCC:A.C=C at *;have HEA:Hid (A.S=S∧A.C=C∧A.wl=A.wl∧A.pl=A.pl):=zac ⟨hSS,hCC,rfl,rfl⟩;clear hSS hCC HEA0;have HSK:Hid (∀ X:World,zku g v k q u x A X→(X.cell? ⟨g,0,none⟩=some (.slice (some ⟨bS,0,none⟩) S cS)∧X.cell? ⟨g,1,none⟩=some (.slice (some ⟨bW,0,none⟩) S cW)∧X.cell? ⟨g,2,none⟩=some (.slice (some ⟨bC,0,none⟩) C cC)∧X.cell? ⟨g,3,none⟩=some (.slice (some ⟨bP,0,none⟩) C cP)∧X.cell? ⟨bS,q,none⟩=some (.pointer (some ⟨x,0,none⟩))∧X.cell? ⟨bW,q,none⟩=some (ii wl)∧X.cell? ⟨bC,k,none⟩=some (.pointer (some ⟨u,0,none⟩))∧X.cell? ⟨bP,k,none⟩=some (ii (q:Int)))):=HSK0;go_enter func116,ntmps116;go_upto_region 2 with fail;have HN1:Hid (REx w0 (w.alloc (.cells #[ii 0,ii 0,ii 0,ii 0,ii 0,ii 0,ii 0,ii 0,.slice none 0 0] 44)) n O p g (fun v1=>v1=v) A [obB w.heap.size (.cells #[ii 0,ii 0,ii 0,ii 0,ii 0,ii 0,ii 0,ii 0,.slice none 0 0] 44) w0.heap.size]):=zac (HN0.out.push (.cells #[ii 0,ii 0,ii 0,ii 0,ii 0,ii 0,ii 0,ii 0,.slice none 0 0] 44));obtain⟨W4,hW4⟩:∃ W4,w.alloc (.cells #[ii 0,ii 0,ii 0,ii 0,ii 0,ii 0,ii 0,ii 0,.slice none 0 0] 44)=W4:=⟨_,rfl⟩;obtain⟨b4,hb4⟩:∃ b4,w.heap.size=b4:=⟨_,rfl⟩;rw[hW4,hb4]at HN1;rw[hW4,hb4];have HN:Hid (REx w0 W4.drew n O p g (fun v1=>v1=v) A [obB b4 (.cells #[ii 0,ii 0,ii 0,ii 0,ii 0,ii 0,ii 0,ii 0,.slice none 0 0] 44) w0.heap.size]):=zac (HN1.out.below (ya2 (yaf _ _)));have HH:=zac (HCL.out _ _ _ HN.out HEA.out);haveI:zaj (g+1) W4:=⟨by have:=zaj.out (n:=g+1) (w:=w);rw[←hW4];simp;omega⟩;clear hW4 hb4 HN1 HN0 g0 g1 g2 g3 g4 g5 g6 g7 HSK0 hk hqS;go_cut [7,8] (fun tb tz W'=>∃ b9 A1 c1,tb=.pointer (some ⟨b9,0,none⟩)∧tz=ii z∧REx w0 W' n O p g (fun v1=>v1=v) A1W [obB b4 (.cells #[ii 0,ii 0,ii 0,ii 0,ii 0,ii 0,ii 0,ii 0,.slice none 0 0] 44) w0.heap.size,zcQ A1 tws,obB b9 (.cells #[t0,t1,t2,t3,t4,t5,t6,t7,.slice A1 tws.length c1] 44) w0.heap.size])
 case first=>
  refine wp_region_held_drew (S:=(fun X:World=>X.cell? ⟨g,0,none⟩=some (.slice (some ⟨bS,0,none⟩) S cS)∧X.cell? ⟨g,1,none⟩=some (.slice (some ⟨bW,0,none⟩) S cW)∧X.cell? ⟨g,2,none⟩=some (.slice (some ⟨bC,0,none⟩) C cC)∧X.cell? ⟨g,3,none⟩=some (.slice (some ⟨bP,0,none⟩) C cP)∧X.cell? ⟨bS,q,none⟩=some (.pointer (some ⟨x,0,none⟩))∧X.cell? ⟨bW,q,none⟩=some (ii wl)∧X.cell? ⟨bC,k,none⟩=some (.pointer (some ⟨u,0,none⟩))∧X.cell? ⟨bP,k,none⟩=some (ii (q:Int)))) zK ?_ (fun hHeld=>?_)
  ·exact HSK.out _ HH.out
  refine zat 0 hHeld ?_;refine zat 1 hHeld ?_;refine zat 2 hHeld ?_;refine zat 3 hHeld ?_;refine zat 4 hHeld ?_;refine zat 5 hHeld ?_;refine zat 6 hHeld ?_;refine zat 7 hHeld ?_;refine zat 8 hHeld ?_;refine zat 9 hHeld ?_;refine zat 10 hHeld ?_;refine zat 11 hHeld ?_;refine zat 12 hHeld ?_;refine zat 13 hHeld ?_;refine zat 14 hHeld ?_;refine zat 15 hHeld ?_;refine zat 16 hHeld ?_;refine zat 17 hHeld ?_;refine zat 18 hHeld ?_;refine zat 19 hHeld ?_;refine zat 20 hHeld ?_;refine zaR [21,25] (zaU rfl (fun K hK=>?_) ?_)
  ·go_simp
   go_at_call 44;refine(HCM.out _ _ HN.out).mono ?_;rintro e w3 ⟨A1,c1,rfl,hx⟩;have HN2:=zac hx;have HH:=zac (HCL.out _ _ _ hx HE1.out);clear hx;go_wp2_with fail;refine zbg hK (HSK.out _ HH.out) ?_;clear hHeld hK K;intro hHeld;refine zat 22 hHeld ?_;refine zat 23 hHeld ?_;refine zat 24 hHeld ?_;refine zaR [25] (zaU rfl (fun K hK=>?_) ?_)
   ·go_simp
    have HH:=zac (HCL.out _ _ _ (HN2.out.push (.cells #[ii 0,ii 0,ii 0,ii 0,ii 0,ii 0,ii 0,ii 0,.slice none 0 0] 44)) HE1.out);refine zbg hK (HSK.out _ HH.out) ?_;clear hHeld hK K;intro hHeld;refine zaR [26] (zaU rfl (fun K hK=>?_) ?_)
    ·go_simp
     have HN4:Hid (REx w0 (w3.alloc (.cells #[t0,t1,t2,t3,t4,t5,t6,t7,.slice A1 tws.length c1] 44)) n O p g (fun v1=>v1=v) A1W [obB b4 (.cells #[ii 0,ii 0,ii 0,ii 0,ii 0,ii 0,ii 0,ii 0,.slice none 0 0] 44) w0.heap.size,zcQ A1 tws,obB w3.heap.size (.cells #[t0,t1,t2,t3,t4,t5,t6,t7,.slice A1 tws.length c1] 44) w0.heap.size]):=zac (HN2.out.push (.cells #[t0,t1,t2,t3,t4,t5,t6,t7,.slice A1 tws.length c1] 44));have HH:=zac (HCL.out _ _ _ HN4.out HE1.out);refine zbg hK (HSK.out _ HH.out) ?_;clear hHeld hK K;intro hHeld;refine zat 27 hHeld ?_;refine wpAnyH_done zK ?_ _;go_wp2_with fail;go_meet;exact⟨_,A1,c1,rfl,rfl,HN4.out⟩
    exact AllReadyH.nil
   exact AllReadyH.nil
  refine zaU rfl (fun K hK=>?_) ?_
  ·go_simp
   have HN2:Hid (REx w0 (W4.drew.alloc (.cells #[ii 0,ii 0,ii 0,ii 0,ii 0,ii 0,ii 0,ii 0,.slice none 0 0] 44)) n O p g (fun v1=>v1=v) A [obB b4 (.cells #[ii 0,ii 0,ii 0,ii 0,ii 0,ii 0,ii 0,ii 0,.slice none 0 0] 44) w0.heap.size,obB W4.heap.size (.cells #[ii 0,ii 0,ii 0,ii 0,ii 0,ii 0,ii 0,ii 0,.slice none 0 0] 44) w0.heap.size]):=zac (HN.out.push (.cells #[ii 0,ii 0,ii 0,ii 0,ii 0,ii 0,ii 0,ii 0,.slice none 0 0] 44));have HH:=zac (HCL.out _ _ _ HN2.out HEA.out);refine zbg hK (HSK.out _ HH.out) ?_;clear hHeld hK K;intro hHeld;refine zaR [21] (zaU rfl (fun K hK=>?_) ?_)
   ·go_simp
    go_at_call 44;refine(HCM.out _ _ HN2.out).mono ?_;rintro e w3 ⟨A1,c1,rfl,hx⟩;have HN3:=zac hx;have HH:=zac (HCL.out _ _ _ hx HE1.out);have hx9:=hx.box (b:=W4.heap.size) (o:=(.cells #[ii 0,ii 0,ii 0,ii 0,ii 0,ii 0,ii 0,ii 0,.slice none 0 0] 44)) zS;have r0:=zaa hx9 0;have r1:=zaa hx9 1;have r2:=zaa hx9 2;have r3:=zaa hx9 3;have r4:=zaa hx9 4;have r5:=zaa hx9 5;have r6:=zaa hx9 6;have r7:=zaa hx9 7;have r8:=zaa hx9 8;simp only[zC,zD,zE]at r0 r1 r2 r3 r4 r5 r6 r7 r8;have s0:=zab hx9 0;have s1:=zab hx9 1;have s2:=zab hx9 2;have s3:=zab hx9 3;have s4:=zab hx9 4;have s5:=zab hx9 5;have s6:=zab hx9 6;have s7:=zab hx9 7;have s8:=zab hx9 8;haveI:zaj (W4.heap.size+1) w3:=⟨zae hx9⟩;clear hx9 hx;go_wp2_with fail;refine zbg hK (HSK.out _ HH.out) ?_;clear hHeld hK K;intro hHeld;refine zat 22 hHeld ?_;refine zat 23 hHeld ?_;refine zat 24 hHeld ?_;refine zaR [26] (zaU rfl (fun K hK=>?_) ?_)
    ·have HN4:Hid (REx w0 (zcx w3 W4.heap.size (ii t0) (ii t1) (ii t2) (ii t3) (ii t4) (ii t5) (ii t6) (ii t7) (.slice A1 tws.length c1)) n O p g (fun v1=>v1=v) A1W [obB b4 (.cells #[ii 0,ii 0,ii 0,ii 0,ii 0,ii 0,ii 0,ii 0,.slice none 0 0] 44) w0.heap.size,zcQ A1 tws,obB W4.heap.size (.cells #[t0,t1,t2,t3,t4,t5,t6,t7,.slice A1 tws.length c1] 44) w0.heap.size]):=zac ((REx.fill9 (E:=[obB b4 (.cells #[ii 0,ii 0,ii 0,ii 0,ii 0,ii 0,ii 0,ii 0,.slice none 0 0] 44) w0.heap.size]) (F:=[zcQ A1 tws]) (b:=W4.heap.size) HN3.out (ii t0) (ii t1) (ii t2) (ii t3) (ii t4) (ii t5) (ii t6) (ii t7) (.slice A1 tws.length c1)).pick (fun i=>if i=1 then 2 else if i=2 then 1 else i) (fun i o e=>by rcases i with _|_|_|i <;> simp at e ⊢ <;> exact e) (fun i j hi hj e=>by rcases i with _|_|_|i <;> rcases j with _|_|_|j <;> simp at hi hj e ⊢ <;> omega))
     have HH:=zac (HCL.out _ _ _ HN4.out HE1.out);unfold zcx at HN4 HH;go_simp;refine zbg hK (HSK.out _ HH.out) ?_;clear hHeld hK K;intro hHeld;refine zat 27 hHeld ?_;refine wpAnyH_done zK ?_ _;go_wp2_with fail;go_meet;exact⟨_,A1,c1,rfl,rfl,HN4.out⟩
    exact AllReadyH.nil
   exact AllReadyH.nil
  exact AllReadyH.nil
 case rest=>
  obtain⟨b9,A1,c1,rfl,rfl,hK⟩:=hcut;have HK:=zac hK;clear HH HN HCM hK;by_cases hc:z=0∧0<t1
  ·obtain⟨rfl,hs⟩:=hc
   have ds:decide ((0:Int)<t1)=true:=yae hs;have hrt:=HRT.out rfl hs;have HRTT:=zac hrt;rw[yaj ⟨rfl,hs⟩]at HCM2;have hg0:=(HSK.out _ (HCL.out _ _ _ HK.out HE1.out)).1;have hgl:g<wc.heap.size:=by obtain⟨_,_,_,_,_,_,_,_,_,_,_,_,lg,_⟩:=HCL.out _ _ _ HK.out HE1.out;exact lg
   haveI:zaj (g+1) wc:=⟨hgl⟩;have hx9:=HK.out.box (b:=b9) (o:=(.cells #[t0,t1,t2,t3,t4,t5,t6,t7,.slice A1 tws.length c1] 44)) zS;have y1:=zaa hx9 1;simp only[zC,zD,zE]at y1;haveI:zaj (b9+1) wc:=⟨zae hx9⟩;have HKX:Hid (REx w0 wc n O p g (fun v1=>v1.xs=v.xs∧v1.us=v.us) A1W [obB b4 (.cells #[ii 0,ii 0,ii 0,ii 0,ii 0,ii 0,ii 0,ii 0,.slice none 0 0] 44) w0.heap.size,zcQ A1 tws,obB b9 (.cells #[t0,t1,t2,t3,t4,t5,t6,t7,.slice A1 tws.length c1] 44) w0.heap.size]):=zac (HK.out.weak fun v1 e=>by subst e;exact⟨rfl,rfl⟩);clear hx9 HK HCL HSK HRT hrt HE1 HEA;go_wp2_with fail;go_loopw [54] (fun i W=>∃ j:Nat,i=ii j∧j≤S∧REx w0 W n O p g (fun v1=>v1.xs=v.xs∧v1.us=v.us) (zay A1W (zfE A q (⟨t0,t1,t2,t3,t4,t5,t6,t7,tws⟩:TxP) j)) [obB b4 (.cells #[ii 0,ii 0,ii 0,ii 0,ii 0,ii 0,ii 0,ii 0,.slice none 0 0] 44) w0.heap.size,zcQ A1 tws,obB b9 (.cells #[t0,t1,t2,t3,t4,t5,t6,t7,.slice A1 tws.length c1] 44) w0.heap.size]) (fun i _=>S-(Go.RowKit.intOf i).toNat)
   case atStart=>exact⟨0,rfl,yay _,HKX.out⟩
   case round=>
    obtain⟨j,rfl,hj,hU⟩:=hrel;clear HKX;have HU:=zac hU;clear hU;by_cases hjS:j<S
    ·have hj0:(0:Int)≤(j:Int):=by omega
     have hj1:(j:Int)<(S:Int):=by omega
     have hj4:(j:Int)<4:=by omega
     by_cases hjq:j=q
     ·have e1:((j:Int)==(q:Int))=true:=by rw[hjq];simp
      have e1b:(j==q)=true:=by rw[hjq];simp
      have HNX:Hid (zfE A q (⟨t0,t1,t2,t3,t4,t5,t6,t7,tws⟩:TxP) (j+1)=zfE A q (⟨t0,t1,t2,t3,t4,t5,t6,t7,tws⟩:TxP) j):=zac (by rw[zeV,yad (fun e=>e hjq)];simp);clear hjq;go_wp2_with fail;go_roundw
      case rel=>exact⟨j+1,by go_num,zO,by rw[HNX.out];exact HU.out.below zB⟩
      case measure=>simp[Go.RowKit.intOf];omega
     ·have e1:((j:Int)==(q:Int))=false:=by simp;omega
      have e1b:(j==q)=false:=by simp;exact hjq
      have HNX:Hid (zay A1W (zfE A q (⟨t0,t1,t2,t3,t4,t5,t6,t7,tws⟩:TxP) (j+1))=zaJ (zay A1W (zfE A q (⟨t0,t1,t2,t3,t4,t5,t6,t7,tws⟩:TxP) j)) ⟨j,(⟨t0,t1,t2,t3,t4,t5,t6,t7,tws⟩:TxP),0,0,0,0,0⟩):=zac (by rw[zeV,yaj hjq,zeu]);have HSD:Hid (∀ W,Below wr wr W→Calls prog 158 #[.pointer (some ⟨g,0,none⟩),.agg #[ii (j:Int),ii t0,ii t1,ii t2,ii t3,ii t4,ii t5,ii t6,ii t7,.slice A1 tws.length c1,ii 0,ii 0,ii 0,ii 0,ii 0]] W fun e w'=>e=.returned (.tuple #[])∧REx w0 w' n O p g (fun v1=>v1.xs=v.xs∧v1.us=v.us) (zaJ (zay A1W (zfE A q (⟨t0,t1,t2,t3,t4,t5,t6,t7,tws⟩:TxP) j)) ⟨j,(⟨t0,t1,t2,t3,t4,t5,t6,t7,tws⟩:TxP),0,0,0,0,0⟩) [obB b4 (.cells #[ii 0,ii 0,ii 0,ii 0,ii 0,ii 0,ii 0,ii 0,.slice none 0 0] 44) w0.heap.size,zcQ A1 tws,obB b9 (.cells #[t0,t1,t2,t3,t4,t5,t6,t7,.slice A1 tws.length c1] 44) w0.heap.size]):=zac (fun W hW=>
       (HU.out.below hW).send ⟨⟨j,(⟨t0,t1,t2,t3,t4,t5,t6,t7,tws⟩:TxP),0,0,0,0,0⟩,A1,c1⟩ ⟨by show j<(zay A1W _).S;rw[(awSends_eq _ A1W).1,HAS.out];exact hjS,fun _=>HRTT.out,fun e=>absurd hs e⟩ zS)
      have hx9:=HU.out.box (b:=b9) (o:=(.cells #[t0,t1,t2,t3,t4,t5,t6,t7,.slice A1 tws.length c1] 44)) zS;have y0:=zaa hx9 0;have y1:=zaa hx9 1;have y2:=zaa hx9 2;have y3:=zaa hx9 3;have y4:=zaa hx9 4;have y5:=zaa hx9 5;have y6:=zaa hx9 6;have y7:=zaa hx9 7;have y8:=zaa hx9 8;simp only[zC,zD,zE]at y0 y1 y2 y3 y4 y5 y6 y7 y8;haveI:zaj (b9+1) wr:=⟨zae hx9⟩;clear hjq hx9;generalize zaJ (zay A1W (zfE A q (⟨t0,t1,t2,t3,t4,t5,t6,t7,tws⟩:TxP) j)) ⟨j,(⟨t0,t1,t2,t3,t4,t5,t6,t7,tws⟩:TxP),0,0,0,0,0⟩=AN at *;go_wp2_with fail;go_at_call 158;refine(HSD.out _ zB).mono ?_;rintro e w5 ⟨rfl,hU⟩;have HU2:=zac hU;clear hU HSD;go_wp2_with fail;go_roundw
      case rel=>exact⟨j+1,by go_num,zO,by rw[HNX.out];first|exact HU2.out|exact HU2.out.below zB⟩
      case measure=>simp[Go.RowKit.intOf];omega
    ·obtain rfl:j=S:=by omega
     have hx9:=HU.out.box (b:=b9) (o:=(.cells #[t0,t1,t2,t3,t4,t5,t6,t7,.slice A1 tws.length c1] 44)) zS;have hx4:=HU.out.box (b:=b4) (o:=(.cells #[ii 0,ii 0,ii 0,ii 0,ii 0,ii 0,ii 0,ii 0,.slice none 0 0] 44)) zS;have y0:=zaa hx9 0;have y1:=zaa hx9 1;have y2:=zaa hx9 2;have y3:=zaa hx9 3;have y4:=zaa hx9 4;have y5:=zaa hx9 5;have y6:=zaa hx9 6;have y7:=zaa hx9 7;have y8:=zaa hx9 8;simp only[zC,zD,zE]at y0 y1 y2 y3 y4 y5 y6 y7 y8;have s0:=zab hx4 0;have s1:=zab hx4 1;have s2:=zab hx4 2;have s3:=zab hx4 3;have s4:=zab hx4 4;have s5:=zab hx4 5;have s6:=zab hx4 6;have s7:=zab hx4 7;have s8:=zab hx4 8;have r0:=zaa hx4 0;have r1:=zaa hx4 1;have r2:=zaa hx4 2;have r3:=zaa hx4 3;have r4:=zaa hx4 4;have r5:=zaa hx4 5;have r6:=zaa hx4 6;have r7:=zaa hx4 7;have r8:=zaa hx4 8;simp only[zC,zD,zE]at r0 r1 r2 r3 r4 r5 r6 r7 r8;haveI:zaj (b9+1) wr:=⟨zae hx9⟩;haveI:zaj (b4+1) wr:=⟨zae hx4⟩;have HF:Hid (REx w0 (zcx wr b4 (ii t0) (ii t1) (ii t2) (ii t3) (ii t4) (ii t5) (ii t6) (ii t7) (.slice A1 tws.length c1)) n O p g (fun v1=>v1.xs=v.xs∧v1.us=v.us) (zay A1W (zfE A q (⟨t0,t1,t2,t3,t4,t5,t6,t7,tws⟩:TxP) j)) [zcQ A1 tws]):=zac ((REx.fill9 (E:=[]) (F:=[zcQ A1 tws,obB b9 (.cells #[t0,t1,t2,t3,t4,t5,t6,t7,.slice A1 tws.length c1] 44) w0.heap.size]) (b:=b4) HU.out (ii t0) (ii t1) (ii t2) (ii t3) (ii t4) (ii t5) (ii t6) (ii t7) (.slice A1 tws.length c1)).pick (fun _=>1) (fun i o e=>by rcases i with _|i <;> simp at e ⊢ <;> exact e) (fun i j hi hj e=>by simp at hi hj;omega));have hx5:(zcx wr b4 (ii t0) (ii t1) (ii t2) (ii t3) (ii t4) (ii t5) (ii t6) (ii t7) (.slice A1 tws.length c1)).heap[b4]?=some (.cells #[t0,t1,t2,t3,t4,t5,t6,t7,.slice A1 tws.length c1] 44):=zc7 hx4;unfold zcx at HF hx5;clear hx9 hx4;go_wp2_with fail;refine yag (v:=.tuple #[.agg #[ii t0,ii t1,ii t2,ii t3,ii t4,ii t5,ii t6,ii t7,.slice A1 tws.length c1],ii 0]) ?_ rfl ⟨A1,c1,rfl,by rw[HCM2.out];exact HF.out⟩;have x0:=zaa hx5 0;have x1:=zaa hx5 1;have x2:=zaa hx5 2;have x3:=zaa hx5 3;have x4:=zaa hx5 4;have x5:=zaa hx5 5;have x6:=zaa hx5 6;have x7:=zaa hx5 7;have x8:=zaa hx5 8;simp only[zC,zD,zE]at x0 x1 x2 x3 x4 x5 x6 x7 x8;simp[results,results116,go_sem,x0,x1,x2,x3,x4,x5,x6,x7,x8]
  ·rw[yad hc]at HCM2
   have HKX:Hid (REx w0 wc n O p g (fun v1=>v1.xs=v.xs∧v1.us=v.us) A1W [obB b4 (.cells #[ii 0,ii 0,ii 0,ii 0,ii 0,ii 0,ii 0,ii 0,.slice none 0 0] 44) w0.heap.size,zcQ A1 tws,obB b9 (.cells #[t0,t1,t2,t3,t4,t5,t6,t7,.slice A1 tws.length c1] 44) w0.heap.size]):=zac (HK.out.weak fun v1 e=>by subst e;exact⟨rfl,rfl⟩);clear HK HCL HSK HRT HE1 HEA;by_cases hz:z=0
   ·subst hz
    have ds:decide ((0:Int)<t1)=false:=yah (fun e=>hc ⟨rfl,e⟩);clear hc;have hx9:=HKX.out.box (b:=b9) (o:=(.cells #[t0,t1,t2,t3,t4,t5,t6,t7,.slice A1 tws.length c1] 44)) zS;have hx4:=HKX.out.box (b:=b4) (o:=(.cells #[ii 0,ii 0,ii 0,ii 0,ii 0,ii 0,ii 0,ii 0,.slice none 0 0] 44)) zS;have y0:=zaa hx9 0;have y1:=zaa hx9 1;have y2:=zaa hx9 2;have y3:=zaa hx9 3;have y4:=zaa hx9 4;have y5:=zaa hx9 5;have y6:=zaa hx9 6;have y7:=zaa hx9 7;have y8:=zaa hx9 8;simp only[zC,zD,zE]at y0 y1 y2 y3 y4 y5 y6 y7 y8;have s0:=zab hx4 0;have s1:=zab hx4 1;have s2:=zab hx4 2;have s3:=zab hx4 3;have s4:=zab hx4 4;have s5:=zab hx4 5;have s6:=zab hx4 6;have s7:=zab hx4 7;have s8:=zab hx4 8;have r0:=zaa hx4 0;have r1:=zaa hx4 1;have r2:=zaa hx4 2;have r3:=zaa hx4 3;have r4:=zaa hx4 4;have r5:=zaa hx4 5;have r6:=zaa hx4 6;have r7:=zaa hx4 7;have r8:=zaa hx4 8;simp only[zC,zD,zE]at r0 r1 r2 r3 r4 r5 r6 r7 r8;haveI:zaj (b9+1) wc:=⟨zae hx9⟩;haveI:zaj (b4+1) wc:=⟨zae hx4⟩;have HF:Hid (REx w0 (zcx wc b4 (ii t0) (ii t1) (ii t2) (ii t3) (ii t4) (ii t5) (ii t6) (ii t7) (.slice A1 tws.length c1)) n O p g (fun v1=>v1.xs=v.xs∧v1.us=v.us) A1W [zcQ A1 tws]):=zac ((REx.fill9 (E:=[]) (F:=[zcQ A1 tws,obB b9 (.cells #[t0,t1,t2,t3,t4,t5,t6,t7,.slice A1 tws.length c1] 44) w0.heap.size]) (b:=b4) HKX.out (ii t0) (ii t1) (ii t2) (ii t3) (ii t4) (ii t5) (ii t6) (ii t7) (.slice A1 tws.length c1)).pick (fun _=>1) (fun i o e=>by rcases i with _|i <;> simp at e ⊢ <;> exact e) (fun i j hi hj e=>by simp at hi hj;omega));have hx5:(zcx wc b4 (ii t0) (ii t1) (ii t2) (ii t3) (ii t4) (ii t5) (ii t6) (ii t7) (.slice A1 tws.length c1)).heap[b4]?=some (.cells #[t0,t1,t2,t3,t4,t5,t6,t7,.slice A1 tws.length c1] 44):=zc7 hx4;unfold zcx at HF hx5;clear hx9 hx4;go_wp2_with fail;refine yag (v:=.tuple #[.agg #[ii t0,ii t1,ii t2,ii t3,ii t4,ii t5,ii t6,ii t7,.slice A1 tws.length c1],ii 0]) ?_ rfl ⟨A1,c1,rfl,by rw[HCM2.out];exact HF.out⟩;have x0:=zaa hx5 0;have x1:=zaa hx5 1;have x2:=zaa hx5 2;have x3:=zaa hx5 3;have x4:=zaa hx5 4;have x5:=zaa hx5 5;have x6:=zaa hx5 6;have x7:=zaa hx5 7;have x8:=zaa hx5 8;simp only[zC,zD,zE]at x0 x1 x2 x3 x4 x5 x6 x7 x8;simp[results,results116,go_sem,x0,x1,x2,x3,x4,x5,x6,x7,x8]
   ·have dz:(z==0)=false:=by simpa using hz
    clear hc hz;have hx9:=HKX.out.box (b:=b9) (o:=(.cells #[t0,t1,t2,t3,t4,t5,t6,t7,.slice A1 tws.length c1] 44)) zS;have hx4:=HKX.out.box (b:=b4) (o:=(.cells #[ii 0,ii 0,ii 0,ii 0,ii 0,ii 0,ii 0,ii 0,.slice none 0 0] 44)) zS;have y0:=zaa hx9 0;have y1:=zaa hx9 1;have y2:=zaa hx9 2;have y3:=zaa hx9 3;have y4:=zaa hx9 4;have y5:=zaa hx9 5;have y6:=zaa hx9 6;have y7:=zaa hx9 7;have y8:=zaa hx9 8;simp only[zC,zD,zE]at y0 y1 y2 y3 y4 y5 y6 y7 y8;have s0:=zab hx4 0;have s1:=zab hx4 1;have s2:=zab hx4 2;have s3:=zab hx4 3;have s4:=zab hx4 4;have s5:=zab hx4 5;have s6:=zab hx4 6;have s7:=zab hx4 7;have s8:=zab hx4 8;have r0:=zaa hx4 0;have r1:=zaa hx4 1;have r2:=zaa hx4 2;have r3:=zaa hx4 3;have r4:=zaa hx4 4;have r5:=zaa hx4 5;have r6:=zaa hx4 6;have r7:=zaa hx4 7;have r8:=zaa hx4 8;simp only[zC,zD,zE]at r0 r1 r2 r3 r4 r5 r6 r7 r8;haveI:zaj (b9+1) wc:=⟨zae hx9⟩;haveI:zaj (b4+1) wc:=⟨zae hx4⟩;have HF:Hid (REx w0 (zcx wc b4 (ii t0) (ii t1) (ii t2) (ii t3) (ii t4) (ii t5) (ii t6) (ii t7) (.slice A1 tws.length c1)) n O p g (fun v1=>v1.xs=v.xs∧v1.us=v.us) A1W [zcQ A1 tws]):=zac ((REx.fill9 (E:=[]) (F:=[zcQ A1 tws,obB b9 (.cells #[t0,t1,t2,t3,t4,t5,t6,t7,.slice A1 tws.length c1] 44) w0.heap.size]) (b:=b4) HKX.out (ii t0) (ii t1) (ii t2) (ii t3) (ii t4) (ii t5) (ii t6) (ii t7) (.slice A1 tws.length c1)).pick (fun _=>1) (fun i o e=>by rcases i with _|i <;> simp at e ⊢ <;> exact e) (fun i j hi hj e=>by simp at hi hj;omega));have hx5:(zcx wc b4 (ii t0) (ii t1) (ii t2) (ii t3) (ii t4) (ii t5) (ii t6) (ii t7) (.slice A1 tws.length c1)).heap[b4]?=some (.cells #[t0,t1,t2,t3,t4,t5,t6,t7,.slice A1 tws.length c1] 44):=zc7 hx4;unfold zcx at HF hx5;clear hx9 hx4;go_wp2_with fail;refine yag (v:=.tuple #[.agg #[ii t0,ii t1,ii t2,ii t3,ii t4,ii t5,ii t6,ii t7,.slice A1 tws.length c1],z]) ?_ rfl ⟨A1,c1,rfl,by rw[HCM2.out];exact HF.out⟩;have x0:=zaa hx5 0;have x1:=zaa hx5 1;have x2:=zaa hx5 2;have x3:=zaa hx5 3;have x4:=zaa hx5 4;have x5:=zaa hx5 5;have x6:=zaa hx5 6;have x7:=zaa hx5 7;have x8:=zaa hx5 8;simp only[zC,zD,zE]at x0 x1 x2 x3 x4 x5 x6 x7 x8;simp[results,results116,go_sem,x0,x1,x2,x3,x4,x5,x6,x7,x8]
end
end Go.Proofs.YtbopfhbeegkkaabGreatDoor
namespace Go.Proofs.YtbopfhbeegkkaabGreatDoor
open Go.Proofs.Tryz
section
variable {T:List TxP}{b:Nat→Int→Int}
theorem zgB {A:AWd}{g:GmP}{l:List GmP}(hw:A.way=g::l) (f:Nat):awFlow (f+1) A=awFlow f (zaH A 0):=by
 simp only[awFlow];rw[hw]
theorem zht {A:AWd}(hw:A.way=[]) (f:Nat):awFlow f A=A:=by
 cases f with
 | zero=>rfl
 | succ f=>simp only[awFlow];rw[hw]
end
end Go.Proofs.YtbopfhbeegkkaabGreatDoor
namespace Go.Proofs.YtbopfhbeegkkaabGreatDoor
open Go.RowKit Go.Proofs.Tryz
section
variable {w0 w:World}{n:Nat}{O:Nat→Ob}{p g:Nat}{A:AWd}{v:WV}{k u x:Nat}
theorem zfY (hp:PWx w0.heap.size O p g A v) (h:Mem w0 w n O) (hn:p+16≤n){i:Nat}(hi:i<A.way.length):
  Calls prog 104 #[.pointer (some ⟨g,0,none⟩),ii (i:Nat)] w fun e w'=>e=.returned .nilIface∧zbF w0 w' n O p g v.xs v.us (zaH A i):=by
 by_cases hs:0<(A.way[i]).tx.seq
 ·exact zjk hp h hn hi (yaa hi) hs
 ·exact zin hp h hn hi (yaa hi) hs
theorem zg0 (hp:PWx w0.heap.size O p g A v) (h:Mem w0 w n O) (hn:p+16≤n):
  Calls prog 113 #[.pointer (some ⟨g,0,none⟩)] w fun e w'=>e=.returned (.tuple #[])∧zbF w0 w' n O p g v.xs v.us (zaS A):=by
 obtain⟨k0,hk0⟩:∃ k0,wayW A.way=k0:=⟨_,rfl⟩;obtain⟨AF,hAF⟩:∃ AF,awFlow k0 A=AF:=⟨_,rfl⟩;have HF:Hid (zaS A=AF):=zac (by unfold zaS;rw[hk0];exact hAF);have H0:Hid (zbF w0 w n O p g v.xs v.us A∧wayW A.way≤k0∧Hid (awFlow k0 A=AF)):=zac ⟨hp.below h (yaf _ _),zO,zac hAF⟩;have HN:=zac hn;clear hk0 hp h hAF hn;go_enter func113,ntmps113;go_wp2_with fail;go_loopg [] k0 (fun k W=>∃ A1:AWd,zbF w0 W n O p g v.xs v.us A1∧wayW A1.way≤k∧Hid (awFlow k A1=AF))
 case atStart=>exact⟨A,H0.out⟩
 case round=>
  obtain⟨A1,hU,hk,HA⟩:=hrel;clear H0;have HK:=zac hk;obtain⟨O1,l1,⟨v1,l2,ex,eu⟩,l3⟩:=id hU;have HU:=zac hU;have hb:=l2.blk l1 HN.out;obtain⟨aG,cG,eG⟩:=zd0 l1 (i:=p+5) (by have:=HN.out;omega) l2.b5;rw[l2.wr.len]at eG;rw[eG]at hb;have c4:=zaa hb 4;simp only[zC,zD,zE]at c4;haveI:zaj (g+1) wr:=⟨zae hb⟩;clear hb eG hU hk;by_cases hw:A1.way.length=0
  ·have hnil:A1.way=[]:=yan hw
   have HQ:Hid (zaS A=A1):=zac (by rw[HF.out,←HA.out];exact zht hnil gk);clear l1 l2 l3 ex eu hnil;rw[hw]at c4;clear hw;go_wp2_with fail;refine ybi (ya3 rfl _ _ _) rfl ⟨rfl,?_⟩;rw[HQ.out];exact HU.out
  ·have hpos:0<A1.way.length:=by omega
   have HD:Hid (Calls prog 104 #[.pointer (some ⟨g,0,none⟩),ii 0] wr fun e w'=>e=.returned .nilIface∧zbF w0 w' n O p g v.xs v.us (zaH A1 0)):=zac (by
    have h1:=zfY l2 l1 HN.out (i:=0) hpos;rw[ex,eu]at h1;refine Calls.mono (show Calls prog 104 #[.pointer (some ⟨g,0,none⟩),ii 0] wr _ from h1) ?_;rintro e w' ⟨q1,q2⟩;exact⟨q1,zbF.next l3 q2⟩)
   obtain⟨g1,gl,hgl⟩:∃ g1 gl,A1.way=g1::gl:=by
    cases hA:A1.way with
    | nil=>rw[hA]at hpos;simp at hpos
    | cons x l=>exact⟨x,l,rfl⟩
   have hless:=zei hgl l2.ok.len (l2.rlg (k:=g1.tgt) (l2.ok.way g1 (by rw[hgl];simp)).1);have HLS:=zac hless.1;have HLE:Hid (0<gk):=zac (by have:=HK.out;have:=hless.1;omega);have HNX:Hid (awFlow (gk-1) (zaH A1 0)=AF):=zac (by
    have h1:=HA.out;have h2:=HLE.out;rw[show gk=(gk-1)+1 by omega,zgB hgl]at h1;exact h1)
   have hl0:(0:Int)<(A1.way.length:Int):=by omega
   clear l1 l2 l3 ex eu hless hgl hw HA;generalize A1.way.length=ln at *;go_wp2_with fail;go_at_call 104;refine HD.out.mono ?_;rintro e w2 ⟨rfl,hU2⟩;have HU2:=zac hU2;clear hU2 HD;go_wp2_with fail;go_roundg (gk-1)
   case rel=>exact⟨_,HU2.out,by have:=HLS.out;have:=HK.out;omega,HNX⟩
   case measure=>have:=HLE.out;omega
end
section
variable {w0 w:World}{n:Nat}{O:Nat→Ob}{p g:Nat}{A:AWd}{v:RV}{k u x:Nat}
theorem zha (hp:RWx w0.heap.size O p g A v) (h:Mem w0 w n O) (hn:p+16≤n) (m:RGm) (hok:zih A.S m.g) (hws:zaN w m.A m.g.tx.ws):
  Calls prog 118 #[.pointer (some ⟨g,0,none⟩),.agg m.cells.toArray] w fun e w'=>e=.returned (.tuple #[])∧zbG w0 w' n O p g v.xs v.us (zcl A m.g):=by
 by_cases hs:0<m.g.tx.seq
 ·exact zmv hp h hn m hok hs hws
 ·exact zla hp h hn m hok hs
theorem RWx.rlg (hp:RWx w0.heap.size O p g A v){k:Nat}(hk:k<A.S):∀ t∈(A.si k).log,zaf t=true:=by
 obtain⟨x,hx⟩:=hp.xk hk;exact(hp.si k x hx).rlg.1
theorem zk9 {m:Nat}{bx:Nat}(hp:RWx w0.heap.size O p g A v) (h:Mem w0 w m O) (hn:p+16≤n) (hm:n<m) (ho:O n=obB bx (.cells #[.pointer (some ⟨g,0,none⟩)] 125) w0.heap.size):
  Calls prog 159 #[.pointer (some ⟨bx,0,none⟩)] w fun e w'=>e=.returned (.tuple #[])∧zbG w0 w' m O p g v.xs v.us (zaS A):=by
 obtain⟨k0,hk0⟩:∃ k0,wayW A.way=k0:=⟨_,rfl⟩;obtain⟨AF,hAF⟩:∃ AF,awFlow k0 A=AF:=⟨_,rfl⟩;have HF:Hid (zaS A=AF):=zac (by unfold zaS;rw[hk0];exact hAF);have H0:Hid (zbG w0 w m O p g v.xs v.us A∧wayW A.way≤k0∧Hid (awFlow k0 A=AF)):=zac ⟨hp.below h (yaf _ _),zO,zac hAF⟩;have HBK:Hid (∀ (W:World) (A2:AWd),zbG w0 W m O p g v.xs v.us A2→W.cell? ⟨bx,0,none⟩=some (.pointer (some ⟨g,0,none⟩))):=zac (fun W A2 hU=>by
  obtain⟨O1,l1,_,l3⟩:=hU;exact zaa (l1.box (i:=n) hm ((l3 n hm (.inr hn)).trans ho)) 0)
 have HSB:Hid (∀ (W:World) (A2:AWd),zbG w0 W m O p g v.xs v.us A2→bx<W.heap.size):=zac (fun W A2 hU=>by
  obtain⟨O1,l1,_,l3⟩:=hU;exact zae (l1.box (i:=n) hm ((l3 n hm (.inr hn)).trans ho)))
 have HN:Hid (p+16≤m):=zac zO;clear hk0 hp h hAF hn hm ho;go_enter func159,ntmps159;go_wp2_with fail;go_loopg [] k0 (fun k W=>∃ A1:AWd,zbG w0 W m O p g v.xs v.us A1∧wayW A1.way≤k∧Hid (awFlow k A1=AF))
 case atStart=>exact⟨A,H0.out⟩
 case round=>
  obtain⟨A1,hU,hk,HA⟩:=hrel;clear H0;have HK:=zac hk;obtain⟨O1,l1,⟨v1,l2,ex,eu⟩,l3⟩:=id hU;have HU:=zac hU;have z0:=HBK.out _ _ hU;have hb:=l2.blk l1 HN.out;obtain⟨aG,cG,eG⟩:=zjN l1 (i:=p+5) (by have:=HN.out;omega) l2.b5;rw[l2.wr.len]at eG;rw[eG]at hb;have c4:=zaa hb 4;simp only[zC,zD,zE]at c4;haveI:zaj (g+1) wr:=⟨zae hb⟩;haveI:zaj (bx+1) wr:=⟨HSB.out _ _ hU⟩;clear hb eG hU hk;by_cases hw:A1.way.length=0
  ·have hnil:A1.way=[]:=yan hw
   have HQ:Hid (zaS A=A1):=zac (by rw[HF.out,←HA.out];exact zht hnil gk);clear l1 l2 l3 ex eu hnil;rw[hw]at c4;clear hw;go_wp2_with fail;refine ybi (ya3 rfl _ _ _) rfl ⟨rfl,?_⟩;rw[HQ.out];exact HU.out
  ·have hpos:0<A1.way.length:=by omega
   have HOU:Hid (∀ W,Below wr wr W→Calls prog 119 #[.pointer (some ⟨g,0,none⟩),ii 0] W fun e w'=>∃ mm:RGm,e=.returned (.agg mm.cells.toArray)∧
     (∀ W2,Below w' w' W2→Calls prog 118 #[.pointer (some ⟨g,0,none⟩),.agg mm.cells.toArray] W2 fun e w2=>e=.returned (.tuple #[])∧zbG w0 w2 m O p g v.xs v.us (zaH A1 0))∧w'.cell? ⟨bx,0,none⟩=some (.pointer (some ⟨g,0,none⟩))):=zac (fun W hW=>by
    have h1:=zke l2 (l1.below hW) HN.out 0 hpos;rw[ex,eu]at h1;refine Calls.mono (show Calls prog 119 #[.pointer (some ⟨g,0,none⟩),ii 0] W _ from h1) ?_;rintro e w' ⟨mm,rfl,e1,e2,e3,hU1⟩;have hU2:=zbG.next l3 hU1;refine⟨mm,rfl,fun W2 hW2=>?_,HBK.out _ _ hU2⟩;obtain⟨O2,r1,⟨v2,r2,ex2,eu2⟩,r3⟩:=hU2;have h2:=zha r2 (r1.below hW2) HN.out mm e2 (e3.below hW2);rw[ex2,eu2,e1]at h2;refine h2.mono ?_;rintro e w2 ⟨q1,q2⟩;exact⟨q1,zbG.next r3 q2⟩)
   obtain⟨g1,gl,hgl⟩:∃ g1 gl,A1.way=g1::gl:=by
    cases hA:A1.way with
    | nil=>rw[hA]at hpos;simp at hpos
    | cons x l=>exact⟨x,l,rfl⟩
   have hless:=zei hgl l2.ok.len (l2.rlg (k:=g1.tgt) (l2.ok.way g1 (by rw[hgl];simp)).1);have HLE:Hid (0<gk):=zac (by have:=HK.out;have:=hless.1;omega);have HLS:Hid (wayW (zaH A1 0).way≤gk-1):=zac (by have:=HK.out;have:=hless.1;omega);have HNX:Hid (awFlow (gk-1) (zaH A1 0)=AF):=zac (by
    have h1:=HA.out;have h2:=HLE.out;rw[show gk=(gk-1)+1 by omega,zgB hgl]at h1;exact h1)
   have hl0:(0:Int)<(A1.way.length:Int):=by omega
   clear l1 l2 l3 ex eu hless hgl hw HA;generalize A1.way.length=ln at *;go_upto_region 1 with fail;refine wp_region_held_drew (S:=(fun X:World=>X.cell? ⟨bx,0,none⟩=some (.pointer (some ⟨g,0,none⟩)))) zK ?_ (fun hHeld=>?_)
   ·first|exact q2|exact q1|exact z0
   refine zat 0 hHeld ?_;refine zat 1 hHeld ?_;refine zaR [2] (zaU rfl (fun K hK=>?_) ?_)
   ·go_simp
    go_at_call 119;refine(HOU.out _ zB).mono ?_;rintro e w3 ⟨m,rfl,hc,hd⟩;have HC3:=zac hc;have q1:=hd;clear hc hd;go_wp2_with fail;refine hK.out _ _ ?_ (fun hNew=>?_)
    ·first|exact q2|exact q1|exact z0
    clear hHeld;have hHeld:=hNew;clear hNew hK K
    try simp only[Act.put,zF,zG,zH]
    refine zaR [3] (zaU rfl (fun K hK=>?_) ?_)
    ·go_simp
     go_at_call 118;refine(HC3.out _ zB).mono ?_;rintro e w4 ⟨rfl,hU⟩;have HU4:=zac hU;have q2:=HBK.out _ _ hU;clear hU;go_wp2_with fail;refine hK.out _ _ ?_ (fun hNew=>?_)
     ·first|exact q2|exact q1|exact z0
     clear hHeld;have hHeld:=hNew;clear hNew hK K
     try simp only[Act.put,zF,zG,zH]
     refine wpAnyH_done zK ?_ _;go_wp2_with fail;go_roundg (gk-1)
     case rel=>exact⟨_,HU4.out,HLS.out,HNX⟩
     case measure=>have:=HLE.out;omega
    exact AllReadyH.nil
   exact AllReadyH.nil
end
section
variable {w0 w:World}{n:Nat}{O:Nat→Ob}{p g:Nat}{A:AWd}{v:WV}{k u x:Nat}
theorem zlV (hp:PWx w0.heap.size O p g A v) (h:Mem w0 w n O) (hn:p+16≤n):
  Calls prog 57 #[.pointer (some ⟨g,0,none⟩)] w fun e w'=>e=.returned (.tuple #[])∧zbF w0 w' n O p g v.xs v.us (zfv A):=by
 have HFL:=zac (zg0 hp h hn);have HSA:Hid ((zaS A).S=A.S):=zac (awFlow_SC _ A).1;have HCK:Hid (∀ k,(zbe (zaS A) k).S=A.S):=zac (fun k=>(zd6 _ k).1.trans HSA.out);have HCO:Hid (∀ k B o,(zaV k B o).S=B.S):=zac (fun k B o=>(zd5 k B o).1);have HEND:Hid (zfv A=zbe (zaS A) A.S):=zac rfl;have HKS:Hid (∀ k,zbe (zaS A) (k+1)=zaV k (zbe (zaS A) k) A.S):=zac (fun k=>by show zaV k (zbe (zaS A) k) (zaS A).S=_;rw[HSA.out]);have HS4:Hid (A.S≤4):=zac hp.ok.S.2;have HN:=zac hn;clear hp h hn;go_enter func57,ntmps57;go_wp2_with fail;go_at_call 113;refine HFL.out.mono ?_;rintro e w1 ⟨rfl,hU⟩;have HU:=zac hU;clear hU HFL;obtain⟨O1,l1,⟨v1,l2,ex,eu⟩,l3⟩:=id HU.out;have hb:=l2.blk l1 HN.out;obtain⟨aS,cS,eS⟩:=zbq l1 (i:=p+1) (by have:=HN.out;omega) l2.b1;rw[eS]at hb;have c0:=zaa hb 0;simp only[zC,zD,zE]at c0;haveI:zaj (g+1) w1:=⟨zae hb⟩;clear hb eS;rw[HSA.out]at c0;clear l1 l2 l3 ex eu;have H0:Hid (zbF w0 w1 n O p g v.xs v.us (zbe (zaS A) 0)):=zac HU.out;clear HU;obtain⟨S,hS⟩:∃ S,A.S=S:=⟨_,rfl⟩;rw[hS]at c0;have HSS:=zac hS;clear hS;go_wp2_with fail;go_loopw [11] (fun i W=>∃ k:Nat,i=ii k∧k≤S∧zbF w0 W n O p g v.xs v.us (zbe (zaS A) k)) (fun i _=>S-(Go.RowKit.intOf i).toNat)
 case atStart=>exact⟨0,rfl,yay _,H0.out⟩
 case round=>
  obtain⟨k,rfl,hk,hU⟩:=hrel;have HU:=zac hU;clear H0 hU c0;by_cases hkS:k<S
  ·have hk4:(k:Int)<4:=by have:=HS4.out;have:=HSS.out;omega
   obtain⟨O1,l1,⟨v1,l2,ex,eu⟩,l3⟩:=id HU.out;have hb:=l2.blk l1 HN.out;obtain⟨aS,cS,eS⟩:=zbq l1 (i:=p+1) (by have:=HN.out;omega) l2.b1;rw[eS]at hb;have c0:=zaa hb 0;simp only[zC,zD,zE]at c0;haveI:zaj (g+1) wr:=⟨zae hb⟩;clear hb eS;rw[HCK.out,HSS.out]at c0;clear l1 l2 l3 ex eu;obtain⟨B,hB⟩:∃ B,zbe (zaS A) k=B:=⟨_,rfl⟩;have HBK:=zac hB;have HBS:Hid (B.S=S):=zac (by rw[←hB,HCK.out,HSS.out]);have H0:Hid (zbF w0 wr n O p g v.xs v.us (zaV k B 0)):=zac (by show zbF w0 wr n O p g v.xs v.us B;rw[←hB];exact HU.out);have hkd:decide ((k:Int)<(S:Int))=true:=zT;clear HU hB;go_wp2_with fail;go_loopw [19] (fun i W=>∃ o:Nat,i=ii o∧o≤S∧zbF w0 W n O p g v.xs v.us (zaV k B o)) (fun i _=>S-(Go.RowKit.intOf i).toNat)
   case atStart=>exact⟨0,rfl,yay _,H0.out⟩
   case round=>
    obtain⟨o,rfl,ho,hU⟩:=hrel;have HU:=zac hU;clear H0 hU c0;by_cases hoS:o<S
    ·have ho4:(o:Int)<4:=by have:=HS4.out;have:=HSS.out;omega
     have hod:decide ((o:Int)<(S:Int))=true:=zT;obtain⟨O1,l1,⟨v1,l2,ex,eu⟩,l3⟩:=id HU.out;have hSo:(zaV k B o).S=S:=by rw[HCO.out,HBS.out]
     by_cases hko:k=o
     ·have HBA:=zac (zj9 l2 l1 HN.out (k:Int) (o:Int) zO)
      have HNX:Hid (zaV k B (o+1)=zaV k B o):=zac (by show(if k=o then _ else _)=_;rw[yaj hko]);clear l1 l2 l3 ex eu hSo hko;go_wp2_with fail;go_at_call 108;refine HBA.out.mono ?_;rintro e w2 ⟨rfl,hb2⟩;have HB2:=zac hb2;clear hb2 HBA;go_wp2_with fail;go_roundw
      case rel=>exact⟨o+1,by go_num,zO,by rw[HNX.out];exact HU.out.then HB2.out⟩
      case measure=>simp[Go.RowKit.intOf];omega
     ·have HAK:Hid (Calls prog 108 #[.pointer (some ⟨g,0,none⟩),ii (k:Nat),ii (o:Nat)] wr fun e w'=>e=.returned .nilIface∧zbF w0 w' n O p g v.xs v.us (zc2 (zaV k B o) k o)):=zac (by
       have h1:=zlX l2 l1 HN.out (k:=k) (o:=o) (by rw[hSo];exact hkS) (by rw[hSo];exact hoS) hko;rw[ex,eu]at h1;refine h1.mono ?_;rintro e w' ⟨q1,q2⟩;exact⟨q1,zbF.next l3 q2⟩)
      have HNX:Hid (zaV k B (o+1)=zaS (zc2 (zaV k B o) k o)):=zac (by show(if k=o then _ else _)=_;rw[yad hko]);clear l1 l2 l3 ex eu hSo hko HU;go_wp2_with fail;go_at_call 108;refine HAK.out.mono ?_;rintro e w2 ⟨rfl,hU2⟩;obtain⟨O2,l1,⟨v2,l2,ex,eu⟩,l3⟩:=hU2;have HFL:Hid (Calls prog 113 #[.pointer (some ⟨g,0,none⟩)] w2 fun e w'=>e=.returned (.tuple #[])∧zbF w0 w' n O p g v.xs v.us (zaS (zc2 (zaV k B o) k o))):=zac (by
       have h1:=zg0 l2 l1 HN.out;rw[ex,eu]at h1;refine h1.mono ?_;rintro e w' ⟨q1,q2⟩;exact⟨q1,zbF.next l3 q2⟩)
      clear l1 l2 l3 ex eu HAK;go_wp2_with fail;go_at_call 113;refine HFL.out.mono ?_;rintro e w3 ⟨rfl,hU3⟩;have HU3:=zac hU3;clear hU3 HFL;go_wp2_with fail;go_roundw
      case rel=>exact⟨o+1,by go_num,zO,by rw[HNX.out];exact HU3.out⟩
      case measure=>simp[Go.RowKit.intOf];omega
    ·obtain rfl:o=S:=by omega
     have hod:decide ((o:Int)<(o:Int))=false:=zU;have HNX:Hid (zbe (zaS A) (k+1)=zaV k B o):=zac (by rw[HKS.out,HBK.out,HSS.out]);clear hoS ho;go_wp2_with fail;go_roundw
     case rel=>exact⟨k+1,by go_num,zO,by rw[HNX.out];exact HU.out⟩
     case measure=>simp[Go.RowKit.intOf];omega
  ·obtain rfl:k=S:=by omega
   have hkd:decide ((k:Int)<(k:Int))=false:=zU;clear hkS hk;go_wp2_with fail;refine ybi (ya3 rfl _ _ _) rfl ⟨rfl,?_⟩;rw[HEND.out,HSS.out];exact HU.out
end
section
variable {w0 w:World}{n:Nat}{O:Nat→Ob}{p g:Nat}{A:AWd}{v:RV}{k u x:Nat}
theorem zmw (hp:RWx w0.heap.size O p g A v) (h:Mem w0 w n O) (hn:p+16≤n):
  Calls prog 122 #[.pointer (some ⟨g,0,none⟩)] w fun e w'=>e=.returned (.tuple #[])∧zbG w0 w' n O p g v.xs v.us (zfv A):=by
 obtain⟨bx,hbx⟩:∃ bx,w.heap.size=bx:=⟨_,rfl⟩;obtain⟨O2,h2,hl2,ho2⟩:=h.new1 (.cells #[.pointer (some ⟨g,0,none⟩)] 125);rw[hbx]at ho2;have hp2:RWx w0.heap.size O2 p g A v:=hp.keep fun j hj=>hl2 _ zO
 have HSA:Hid ((zaS A).S=A.S):=zac (awFlow_SC _ A).1;have HCK:Hid (∀ k,(zbe (zaS A) k).S=A.S):=zac (fun k=>(zd6 _ k).1.trans HSA.out);have HCO:Hid (∀ k B o,(zaV k B o).S=B.S):=zac (fun k B o=>(zd5 k B o).1);have HEND:Hid (zfv A=zbe (zaS A) A.S):=zac rfl;have HKS:Hid (∀ k,zbe (zaS A) (k+1)=zaV k (zbe (zaS A) k) A.S):=zac (fun k=>by show zaV k (zbe (zaS A) k) (zaS A).S=_;rw[HSA.out]);have HS4:Hid (A.S≤4):=zac hp.ok.S.2;have HN:=zac (show p+16≤n+1 by omega);have HBK:Hid (∀ (W:World) (A2:AWd),zbG w0 W (n+1) O2 p g v.xs v.us A2→W.cell? ⟨bx,0,none⟩=some (.pointer (some ⟨g,0,none⟩))):=zac (fun W A2 hU=>by
  obtain⟨O1,l1,_,l3⟩:=hU;exact zaa (l1.box (i:=n) zO ((l3 n zO (.inr hn)).trans ho2)) 0)
 have HSB:Hid (∀ (W:World) (A2:AWd),zbG w0 W (n+1) O2 p g v.xs v.us A2→bx<W.heap.size):=zac (fun W A2 hU=>by
  obtain⟨O1,l1,_,l3⟩:=hU;exact zae (l1.box (i:=n) zO ((l3 n zO (.inr hn)).trans ho2)))
 have HFL:Hid (∀ (W:World) (A2:AWd),zbG w0 W (n+1) O2 p g v.xs v.us A2→Calls prog 159 #[.pointer (some ⟨bx,0,none⟩)] W fun e w'=>e=.returned (.tuple #[])∧zbG w0 w' (n+1) O2 p g v.xs v.us (zaS A2)):=zac (fun W A2 hU=>by
  obtain⟨O1,l1,⟨v1,l2,ex,eu⟩,l3⟩:=hU;have h1:=zk9 l2 l1 hn (Nat.lt_succ_self n) ((l3 n zO (.inr hn)).trans ho2);rw[ex,eu]at h1;refine h1.mono ?_;rintro e w' ⟨q1,q2⟩;exact⟨q1,zbG.next l3 q2⟩)
 have HAK:Hid (∀ (W:World) (A2:AWd) (k o:Nat),zbG w0 W (n+1) O2 p g v.xs v.us A2→k<A2.S→o<A2.S→Calls prog 117 #[.pointer (some ⟨g,0,none⟩),ii (k:Nat),ii (o:Nat)] W fun e w'=>e=.returned (.tuple #[])∧zbG w0 w' (n+1) O2 p g v.xs v.us (zc2 A2 k o)):=zac (fun W A2 k o hU hk ho=>by
  obtain⟨O1,l1,⟨v1,l2,ex,eu⟩,l3⟩:=hU;have h1:=zmx l2 l1 HN.out k o hk ho;rw[ex,eu]at h1;refine h1.mono ?_;rintro e w' ⟨q1,q2⟩;exact⟨q1,zbG.next l3 q2⟩)
 have HOF:Hid (∀ (W:World) (A2:AWd),zbG w0 W (n+1) O2 p g v.xs v.us A2→zbG w0 W n O p g v.xs v.us A2):=zac (fun W A2 hU=>by
  obtain⟨O1,l1,l2,l3⟩:=hU;exact⟨O1,l1.less zO,l2,fun i hi hne=>(l3 i zO hne).trans (hl2 i hi)⟩)
 have HU0:Hid (zbG w0 (w.alloc (.cells #[.pointer (some ⟨g,0,none⟩)] 125)) (n+1) O2 p g v.xs v.us A):=zac (hp2.below h2 (yaf _ _));clear hp h hn ho2 hl2 h2 hp2;go_enter func122,ntmps122;go_wp2_with fail;go_at_call 159;refine(HFL.out _ _ HU0.out).mono ?_;rintro e w1 ⟨rfl,hU⟩;have HU:=zac hU;clear hU HU0;obtain⟨O1,l1,⟨v1,l2,ex,eu⟩,l3⟩:=id HU.out;have z0:=HBK.out _ _ HU.out;have hb:=l2.blk l1 HN.out;obtain⟨aS,cS,eS⟩:=zbq l1 (i:=p+1) (by have:=HN.out;omega) l2.b1;rw[eS]at hb;have c0:=zaa hb 0;simp only[zC,zD,zE]at c0;haveI:zaj (g+1) w1:=⟨zae hb⟩;haveI:zaj (bx+1) w1:=⟨HSB.out _ _ HU.out⟩;clear hb eS;rw[HSA.out]at c0;clear l1 l2 l3 ex eu;have H0:Hid (zbG w0 w1 (n+1) O2 p g v.xs v.us (zbe (zaS A) 0)):=zac HU.out;clear HU;obtain⟨S,hS⟩:∃ S,A.S=S:=⟨_,rfl⟩;rw[hS]at c0;have HSS:=zac hS;clear hS;go_wp2_with fail;go_loopw [13] (fun i W=>∃ k:Nat,i=ii k∧k≤S∧zbG w0 W (n+1) O2 p g v.xs v.us (zbe (zaS A) k)) (fun i _=>S-(Go.RowKit.intOf i).toNat)
 case atStart=>exact⟨0,rfl,yay _,H0.out⟩
 case round=>
  obtain⟨k,rfl,hk,hU⟩:=hrel;have HU:=zac hU;clear H0 hU c0 z0;by_cases hkS:k<S
  ·have hk4:(k:Int)<4:=by have:=HS4.out;have:=HSS.out;omega
   obtain⟨O1,l1,⟨v1,l2,ex,eu⟩,l3⟩:=id HU.out;have z0:=HBK.out _ _ HU.out;have hb:=l2.blk l1 HN.out;obtain⟨aS,cS,eS⟩:=zbq l1 (i:=p+1) (by have:=HN.out;omega) l2.b1;rw[eS]at hb;have c0:=zaa hb 0;simp only[zC,zD,zE]at c0;haveI:zaj (g+1) wr:=⟨zae hb⟩;haveI:zaj (bx+1) wr:=⟨HSB.out _ _ HU.out⟩;clear hb eS;rw[HCK.out,HSS.out]at c0;clear l1 l2 l3 ex eu;obtain⟨B,hB⟩:∃ B,zbe (zaS A) k=B:=⟨_,rfl⟩;have HBK2:=zac hB;have HBS:Hid (B.S=S):=zac (by rw[←hB,HCK.out,HSS.out]);have H0:Hid (zbG w0 wr (n+1) O2 p g v.xs v.us (zaV k B 0)):=zac (by show zbG w0 wr (n+1) O2 p g v.xs v.us B;rw[←hB];exact HU.out);have hkd:decide ((k:Int)<(S:Int))=true:=zT;clear HU hB;go_wp2_with fail;go_loopw [21] (fun i W=>∃ o:Nat,i=ii o∧o≤S∧zbG w0 W (n+1) O2 p g v.xs v.us (zaV k B o)) (fun i _=>S-(Go.RowKit.intOf i).toNat)
   case atStart=>exact⟨0,rfl,yay _,H0.out⟩
   case round=>
    obtain⟨o,rfl,ho,hU⟩:=hrel;have HU:=zac hU;clear H0 hU c0 z0;by_cases hoS:o<S
    ·have ho4:(o:Int)<4:=by have:=HS4.out;have:=HSS.out;omega
     have hod:decide ((o:Int)<(S:Int))=true:=zT;have z0:=HBK.out _ _ HU.out;haveI:zaj (bx+1) wr:=⟨HSB.out _ _ HU.out⟩;have hSo:(zaV k B o).S=S:=by rw[HCO.out,HBS.out]
     by_cases hko:k=o
     ·have HNX:Hid (zaV k B (o+1)=zaV k B o):=zac (by show(if k=o then _ else _)=_;rw[yaj hko])
      have hkt:((k:Int)=(o:Int)):=by omega
      clear hSo hko;go_wp2_with fail;go_roundw
      case rel=>exact⟨o+1,by go_num,zO,by rw[HNX.out];exact HU.out⟩
      case measure=>simp[Go.RowKit.intOf];omega
     ·have HAS:=zac (HAK.out _ _ k o HU.out (by rw[hSo];exact hkS) (by rw[hSo];exact hoS))
      have HNX:Hid (zaV k B (o+1)=zaS (zc2 (zaV k B o) k o)):=zac (by show(if k=o then _ else _)=_;rw[yad hko]);have hkt:¬((k:Int)=(o:Int)):=by omega
      clear hSo hko HU;go_wp2_with fail;go_at_call 117;refine HAS.out.mono ?_;rintro e w2 ⟨rfl,hU2⟩;have HU2:=zac hU2;clear hU2 HAS;go_wp2_with fail;go_at_call 159;refine(HFL.out _ _ HU2.out).mono ?_;rintro e w3 ⟨rfl,hU3⟩;have HU3:=zac hU3;clear hU3;go_wp2_with fail;go_roundw
      case rel=>exact⟨o+1,by go_num,zO,by rw[HNX.out];exact HU3.out⟩
      case measure=>simp[Go.RowKit.intOf];omega
    ·obtain rfl:o=S:=by omega
     have hod:decide ((o:Int)<(o:Int))=false:=zU;have HNX:Hid (zbe (zaS A) (k+1)=zaV k B o):=zac (by rw[HKS.out,HBK2.out,HSS.out]);clear hoS ho;go_wp2_with fail;go_roundw
     case rel=>exact⟨k+1,by go_num,zO,by rw[HNX.out];exact HU.out⟩
     case measure=>simp[Go.RowKit.intOf];omega
  ·obtain rfl:k=S:=by omega
   have hkd:decide ((k:Int)<(k:Int))=false:=zU;clear hkS hk;go_wp2_with fail;refine ybi (ya3 rfl _ _ _) rfl ⟨rfl,?_⟩;rw[HEND.out,HSS.out];exact HOF.out _ _ HU.out
end
def z26 (k:Nat):Obj:=.cells #[ii (k:Nat),ii 0,ii 0,ii 0,ii 0,ii 0,ii 0,.slice none 0 0,.slice none 0 0,.slice none 0 0,ii 0,ii 0,ii 0,ii 0,ii 0,ii 0,ii 0,ii 0,ii 0,ii 0,ii 0,ii 0,ii 0,ii 0,ii 0,ii 0] 41
def z79:Obj:=.cells #[ii 0,ii 0,ii 0,ii 0,ii 0,ii 0,ii 0,ii 0,.bool false,.slice none 0 0] 79
theorem Mem.nil (w:World) (O:Nat→Ob):Mem w w 0 O:=⟨yaf _ _,fun i h=>zO,fun i h=>zO,fun i j h=>zO⟩
section
variable {w0 w w1:World}{u v p q:Nat}{x y:Nat→Nat}{j:Nat}{O:Nat→Ob}
theorem zbV.low {B B' x mb:Nat}{id:Int}(h:zbV w B x (zcz id) mb (.slice none 0 0) (fun _=>.slice none 0 0)) (hB:B'≤B):zbV w B' x (zcz id) mb (.slice none 0 0) (fun _=>.slice none 0 0):=
 { h with sto:={ h.sto with own:=fun k _=>zkh w B' },row:=⟨rfl,.inl ⟨rfl,rfl⟩⟩,bx:=yac hB h.bx,bm:=yac hB h.bm }
theorem own_si0 {x mb b:Nat}(e:zaW x mb (.slice none 0 0) (fun _=>.slice none 0 0) b):b=x∨b=mb:=by
 rcases e with e|e|e|⟨k,_,e⟩
 ·exact .inl e
 ·exact .inr e
 ·simp[Value.ownBlock]at e
 ·simp[Value.ownBlock]at e
theorem own_rs0 {y b:Nat}(e:za2 y (.slice none 0 0) (.slice none 0 0) b):b=y:=by
 rcases e with e|e|e
 ·exact e
 ·simp[Value.ownBlock]at e
 ·simp[Value.ownBlock]at e
end
end Go.Proofs.YtbopfhbeegkkaabGreatDoor
