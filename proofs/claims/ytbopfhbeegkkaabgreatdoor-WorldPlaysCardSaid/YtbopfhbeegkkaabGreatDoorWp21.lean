/- Part 21 of a proof: lemmas and contracts that other parts use. -/
import Derived.Test.YtbopfhbeegkkaabGreatDoorWp20
import Derived.Test.YtbopfhbeegkkaabGreatDoorWp16
import Derived.Deep.MidRow
import Derived.Test.YtbopfhbeegkkaabGreatDoorWp14
set_option linter.unusedVariables false
set_option linter.unusedSimpArgs false
set_option maxHeartbeats 8000000
set_option maxRecDepth 20000
namespace Go.Proofs.YtbopfhbeegkkaabGreatDoor
open Go.RowKit Go.Proofs.Tryz
theorem setCells_drew:∀ (vs:List Value) (o g:Nat) (w:World),w.drew.setCells g o vs=(w.setCells g o vs).drew
 | [],o,g,w=>rfl
 | v::r,o,g,w=>by
   show(w.drew.setCell _ v).setCells g (o+1) r=_;rw[World.setCell_drew];exact setCells_drew r (o+1) g _
theorem zhC {w1 w2:World}(h:w1.heap=w2.heap):∀ (vs:List Value) (o g:Nat),(w2.setCells g o vs).heap[g]?=(w1.setCells g o vs).heap[g]?:=by
 intro vs
 induction vs generalizing w1 w2 with
 | nil=>intro o g;show w2.heap[g]?=w1.heap[g]?;rw[h]
 | cons v r ih=>
   intro o g;exact ih (w1:=w1.setCell ⟨g,o,none⟩ v) (w2:=w2.setCell ⟨g,o,none⟩ v) (by simp only[World.setCell,h]) (o+1) g
theorem infoG:(prog.info? 243).map (fun i=>(i.zero,i.size,i.bytes))=some (some obz,2,32):=by kernel_rfl
theorem zeroG (w:World):(zeroValue 243).run prog w=.ok obz w:=by kernel_rfl
theorem zjT (B g c i:Nat) (gs:List MGm) (w:World) (h:w.ownsRow B 243 2 (.slice (some ⟨g,0,none⟩) gs.length c) gs.length (gs.flatMap MGm.cells)) (hi:i<gs.length) (hn:gs.length≤300):
  Calls prog 148 #[.slice (some ⟨g,0,none⟩) gs.length c,ii (i:Nat),ii ((i:Int)+1)] w fun e w'=>e=.returned (.slice (some ⟨g,0,none⟩) (gs.length-1) c)∧
   w'.ownsRow B 243 2 (.slice (some ⟨g,0,none⟩) (gs.length-1) c) (gs.length-1) ((gs.eraseIdx i).flatMap MGm.cells)∧w.grownBy w' (some g):=by
 obtain⟨i0,hi0,hz0,hz1,hz2⟩:=yb5 infoG;have hcap:gs.length≤c∧c≤maxLen∧g<w.heap.size:=by
  obtain⟨_,hh|⟨g',cap,cur,hv,hB,hg,hnc,hm,hs,ht⟩⟩:=id h
  ·cases hh.1
  ·simp only[yaP,yaz,yaU]at hv
   obtain⟨⟨rfl,_⟩,_,rfl⟩:=hv;exact⟨hnc,hm,zae hg⟩
 obtain⟨hc1,hc2,hlt⟩:=hcap;simp only[maxLen]at hc2;obtain⟨xs,hxs⟩:∃ xs,gs.flatMap MGm.cells=xs:=⟨_,rfl⟩;have HE:=zac (zjO zda gs i);have hone:=gms_one gs;have hxl:xs.length=gs.length*2:=by rw[←hxs];exact zi0 zda gs
 rw[hxs]at h hone HE;clear hxs;generalize gs.eraseIdx i=gs2 at *;obtain⟨n,hnn⟩:∃ n,gs.length=n:=⟨_,rfl⟩;rw[hnn]at h hi hn hc1 hxl ⊢;clear hnn gs;obtain⟨news,hnews⟩:∃ news,news=xs.drop ((i+1)*2):=⟨_,rfl⟩;have hnl:news.length=(n-(i+1))*2:=by rw[hnews];simp;omega
 have hcell:∀ j u,xs[j]?=some u→w.cell? ⟨g,j,none⟩=some u:=fun j u hu=>by
  have hj:=zaI hu;rw[h.cellAt j zO];exact hu
 obtain⟨A,hA,hsrc⟩:∃ A:Addr,(if c=i+1 then some (⟨g,0,none⟩:Addr)else some ⟨g,(i+1)*2,none⟩)=some A∧Hid (∀ t u,news[t]?=some u→w.drew.cell? (A.add t)=some u):=by
  by_cases hh:c=i+1
  ·refine⟨⟨g,0,none⟩,by simp[hh],zac fun t u hu=>?_⟩
   have h0:news.length=0:=by rw[hnl];omega
   rw[List.length_eq_zero_iff.1 h0]at hu;simp at hu
  ·refine⟨⟨g,(i+1)*2,none⟩,by simp[hh],zac fun t u hu=>?_⟩
   rw[hnews,ybp]at hu;have e:(⟨g,(i+1)*2,none⟩:Addr).add t=⟨g,(i+1)*2+t,none⟩:=by unfold Addr.add;split <;> simp_all
   rw[e];exact hcell _ _ hu
 have s1:Hid (news.length=(n-(i+1))*2):=zac hnl;have s2:Hid (∀ u∈news,u.oneCell'=true):=zac (by rw[hnews];exact fun u hu=>hone u (ybV hu));have s3:Hid (∀ t,t<news.length→(w.drew.cell? ⟨g,0+i*2+t,none⟩).isSome=true∧w.drew.frozen? ⟨g,0+i*2+t,none⟩=false):=zac (by
  intro t ht;rw[hnl]at ht;refine⟨?_,h.frozenAt _⟩;have hj:0+i*2+t<xs.length:=by omega
  have:=hcell _ _ (yaa hj);show(w.cell? _).isSome=true;rw[this];rfl)
 obtain⟨W1,hW1⟩:∃ W1,W1=w.drew.setCells g (0+i*2) news:=⟨_,rfl⟩;have hW1b:W1=w.drew.setCells g (i*2) news:=by rw[hW1,yaZ]
 have hown1:∃ cur1,W1.heap[g]?=some (.cells cur1 243 (0,0))∧cur1.size=c*2:=by
  obtain⟨_,hh|⟨g',cap,cur,hv,hB,hg,hnc,hm,hs,ht⟩⟩:=id h
  ·cases hh.1
  ·simp only[yaP,yaz,yaU]at hv
   obtain⟨⟨rfl,_⟩,_,rfl⟩:=hv;obtain⟨c1,a1,a2,a3⟩:=zcH news (i*2) w.drew cur hg;exact⟨c1,by rw[hW1b];exact a1,by rw[a2];exact hs⟩
 obtain⟨cur1,hg1,hs1⟩:=hown1;have hn1:i+(n-(i+1))=n-1:=by omega
 have hcl:∀ ty,(Builtin.clear_ #[189] ty #[.slice (some ⟨g,(i+(n-(i+1)))*2,none⟩) (n-(i+(n-(i+1)))) (c-(i+(n-(i+1))))]).run prog W1=.ok (.tuple #[]) (W1.setCells g ((n-1)*2) [ii 0,.slice none 0 0]):=by
  intro ty;rw[hn1,show n-(n-1)=1 by omega];exact zkS W1 _ _ ty underlying189 zeroG g ((n-1)*2) _ (fun j hj=>by rw[zaa hg1];simp;omega) (fun j hj=>zab hg1 _)
 have HN1:=zac hn1;clear hn1;have HF:=zac (own_del h hi (ii 0) (.slice none 0 0));have HW:Hid (W1=w.drew.setCells g (0+i*2) news):=zac hW1;have HW2:Hid (W1=w.drew.setCells g (i*2) (xs.drop ((i+1)*2))):=zac (by rw[←hnews];exact hW1b);have HIC:=zac hi;have hi1:i+1≤n:=hi;have hq0:(0:Int)≤(i:Int)+1:=by omega
 have hq1:(i:Int)+1≤(n:Int):=by omega
 have hil:i≤n:=by omega
 have hic:i≤c:=by omega
 have hjc:i+1≤c:=by omega
 have hne:¬(i=i+1):=by omega
 haveI:zaj (g+1) w:=⟨hlt⟩;clear hW1 hW1b hg1 hs1 hcell hone hnews hnl hxl h hi;go_enter func148,ntmps148;go_wp2_with fail;go_region_law (refine step_append_room rfl (.tmp 22) (.tmp 25) 189 rfl 243 i0 2 underlying189 hi0 hz1 g 0 i c zM A (n-(i+1)) (c-(i+1)) news zM s1.out hsrc.out s2.out zO s3.out ?_;rw[←HW.out]);go_wp2_with fail;go_ret;have e1:=HW2.out;have hfin:=HF.out;have hg1:=(zcg w.drew g (i*2) (xs.drop ((i+1)*2)));rw[←e1]at hg1;have hg2:=zcg W1 g ((n-1)*2) [ii 0,.slice none 0 0];have hw1:(w.setCells g (i*2) (xs.drop ((i+1)*2))).heap=W1.heap:=by rw[e1,setCells_drew];rfl
 refine⟨by rw[HN1.out];rfl,?_,?_⟩
 ·rw[HE.out]
  refine zfI hfin fun b hb=>?_
  obtain rfl:g=b:=by simpa[Value.ownBlock]using hb
  exact zhC hw1 _ _ _
 ·refine⟨hg2.os.trans hg1.os,hg2.tape.trans hg1.tape,hg2.output.trans hg1.output,yac hg1.size hg2.size,fun k hk hne=>(hg2.block k (yab hk hg1.size) hne).trans (hg1.block k hk hne)⟩
section
variable {w0 w:World}{n:Nat}{O:Nat→Ob}{p g:Nat}{A:AWd}{v:WV}{k u x:Nat}
theorem zcX (hp:PWx w0.heap.size O p g A v) (h:Mem w0 w n O) (hn:p+16≤n) (hk:k<A.C) (hu:v.us[k]?=some u) (hx:v.xs[A.pl k]?=some x):
  Calls prog 112 #[.pointer (some ⟨g,0,none⟩),ii (k:Nat)] w fun e w'=>e=.returned (.tuple #[.pointer (some ⟨u,0,none⟩),.pointer (some ⟨x,0,none⟩),.nilIface])∧Below w w w':=by
 have hb:=hp.blk h hn;obtain⟨bS,cS,eS,_,lS,kS,_⟩:=zbl h (i:=p+1) zO hp.b1 (by have:=hp.ok.S;omega);obtain⟨bC,cC,eC,_,lC,kC,_⟩:=zbl h (i:=p+3) zO hp.b3 zO;obtain⟨bP,cP,eP,_,lP,kP,_⟩:=zbl h (i:=p+4) zO hp.b4 zO;have x1:=kC k _ hk (zbt hu);have x2:=kP k _ hk (zbQ hk);have x3:=kS (A.pl k) _ (hp.ok.pl k) (zbt hx);have hpl:=hp.ok.pl k;rw[eS,eC,eP]at hb;have c0:=zaa hb 0;have c2:=zaa hb 2;have c3:=zaa hb 3;simp only[zC,zD,zE]at c0 c2 c3;haveI:zaj (g+1) w:=⟨zae hb⟩;haveI:zaj (bS+1) w:=⟨lS⟩;haveI:zaj (bC+1) w:=⟨lC⟩;haveI:zaj (bP+1) w:=⟨lP⟩;clear hb kS kC kP eS eC eP hp h hn hu hx lS lC lP;generalize A.pl k=q at *;generalize A.C=C at *;generalize A.S=S at *;have d0:decide ((k:Int)<0)=false:=zU;have d1:decide ((C:Int)≤(k:Int))=false:=zU;have d2:decide (C≤k)=false:=zU;have hk0:(0:Int)≤(k:Int):=by omega
 have hk1:(k:Int)<(C:Int):=by omega
 have hq0:(0:Int)≤(q:Int):=by omega
 have hq1:(q:Int)<(S:Int):=by omega
 go_enter func112,ntmps112;go_wp2_with fail;refine zaw fun x9=>?_
 go_wp2_with fail;refine yag (v:=.tuple #[.pointer (some ⟨u,0,none⟩),.pointer (some ⟨x,0,none⟩),.nilIface]) ?_ rfl ⟨rfl,zB⟩;simp[results,results112,go_sem]
theorem zcB (hp:PWx w0.heap.size O p g A v) (h:Mem w0 w n O) (hn:p+16≤n) (k:Int) (hk:k<0∨(A.C:Int)≤k):
  Calls prog 112 #[.pointer (some ⟨g,0,none⟩),k] w fun e w'=>e=.returned (.tuple #[.pointer none,.pointer none,.iface 29 (ii 2)])∧Below w w w':=by
 have hb:=hp.blk h hn;obtain⟨aC,cC,eC⟩:=zbq h (i:=p+3) zO hp.b3;rw[eC]at hb;have c2:=zaa hb 2;simp only[zC,zD,zE]at c2;haveI:zaj (g+1) w:=⟨zae hb⟩;clear hb eC hp h hn;generalize A.C=C at *;by_cases h0:k<0
 ·have d0:decide (k<0)=true:=yae h0
  clear hk h0;go_enter func112,ntmps112;go_wp2_with fail;refine yag (v:=.tuple #[.pointer none,.pointer none,.iface 29 (ii 2)]) ?_ rfl ⟨rfl,zB⟩;simp[results,results112,go_sem]
 ·have d0:decide (k<0)=false:=yah h0
  have d1:decide ((C:Int)≤k)=true:=zT;clear hk h0;go_enter func112,ntmps112;go_wp2_with fail;refine yag (v:=.tuple #[.pointer none,.pointer none,.iface 29 (ii 2)]) ?_ rfl ⟨rfl,zB⟩;simp[results,results112,go_sem]
theorem zlW (hp:PWx w0.heap.size O p g A v) (h:Mem w0 w n O) (hn:p+16≤n) (hk:k<A.C):
  Calls prog 100 #[.pointer (some ⟨g,0,none⟩),ii (k:Nat)] w fun e w'=>e=.returned (zbT (zfP A k))∧zbF w0 w' n O p g v.xs v.us (zev A k):=by
 obtain⟨u,hu⟩:=hp.uk hk;obtain⟨x,hx⟩:=hp.xk (hp.ok.pl k);have HC:=zac (zcX hp h hn hk hu hx);have HB:=zac (fun W (hb:Below w w W)=>hp.sBegin (h.below hb) hn hu hx);obtain⟨z,hz⟩:∃ z,zbT (zfP A k)=z:=⟨_,rfl⟩;rw[hz]at HB ⊢;clear hp h hu hx hk hz;go_enter func100,ntmps100;go_wp2_with fail;go_at_call 112;refine(HC.out.mono ?_);rintro e w1 ⟨rfl,hb1⟩;have HB1:=zac hb1;clear hb1 HC;go_wp2_with fail;go_at_call 38;refine(HB.out _ HB1.out).mono ?_;rintro e w2 ⟨rfl,hU⟩;have HU:=zac hU;clear hU HB;go_wp2_with fail;go_ret;exact⟨rfl,HU.out⟩
theorem zlY (hp:PWx w0.heap.size O p g A v) (h:Mem w0 w n O) (hn:p+16≤n) (hk:k<A.C):
  Calls prog 106 #[.pointer (some ⟨g,0,none⟩),ii (k:Nat)] w fun e w'=>e=.returned (zbT (zfQ A k))∧zbF w0 w' n O p g v.xs v.us (zew A k):=by
 obtain⟨u,hu⟩:=hp.uk hk;obtain⟨x,hx⟩:=hp.xk (hp.ok.pl k);have HC:=zac (zcX hp h hn hk hu hx);have HB:=zac (fun W (hb:Below w w W)=>hp.sAbort (h.below hb) hn hu);obtain⟨z,hz⟩:∃ z,zbT (zfQ A k)=z:=⟨_,rfl⟩;rw[hz]at HB ⊢;clear hp h hu hx hk hz;go_enter func106,ntmps106;go_wp2_with fail;go_at_call 112;refine(HC.out.mono ?_);rintro e w1 ⟨rfl,hb1⟩;have HB1:=zac hb1;clear hb1 HC;go_wp2_with fail;go_at_call 46;refine(HB.out _ HB1.out).mono ?_;rintro e w2 ⟨rfl,hU⟩;have HU:=zac hU;clear hU HB;go_wp2_with fail;go_ret;exact⟨rfl,HU.out⟩
theorem zkC (hp:PWx w0.heap.size O p g A v) (h:Mem w0 w n O) (hn:p+16≤n) (k:Int) (hk:k<0∨(A.C:Int)≤k):
  Calls prog 100 #[.pointer (some ⟨g,0,none⟩),k] w fun e w'=>e=.returned (.iface 29 (ii 2))∧Below w w w':=by
 have HC:=zac (zcB hp h hn k hk);clear hp h hk;go_enter func100,ntmps100;go_wp2_with fail;go_at_call 112;refine HC.out.mono ?_;rintro e w1 ⟨rfl,hb1⟩;have HB1:=zac hb1;clear hb1 HC;go_wp2_with fail;go_ret;exact⟨rfl,HB1.out⟩
theorem zkD (hp:PWx w0.heap.size O p g A v) (h:Mem w0 w n O) (hn:p+16≤n) (k:Int) (hk:k<0∨(A.C:Int)≤k):
  Calls prog 106 #[.pointer (some ⟨g,0,none⟩),k] w fun e w'=>e=.returned (.iface 29 (ii 2))∧Below w w w':=by
 have HC:=zac (zcB hp h hn k hk);clear hp h hk;go_enter func106,ntmps106;go_wp2_with fail;go_at_call 112;refine HC.out.mono ?_;rintro e w1 ⟨rfl,hb1⟩;have HB1:=zac hb1;clear hb1 HC;go_wp2_with fail;go_ret;exact⟨rfl,HB1.out⟩
end
theorem zfS (n:Nat):wrap64 (wrap64 (n:Int)+1)=wrap64 ((n+1:Nat):Int):=by
 unfold wrap64;omega
section
variable {w0 w:World}{n:Nat}{O:Nat→Ob}{p g:Nat}{A:AWd}{v:WV}{k u x:Nat}
theorem PWx.lostWay (hp:PWx w0.heap.size O p g A v) (h:Mem w0 w n O) (hn:p+16≤n):zbF w0 (w.setCell ⟨g,5,none⟩ (ii (wrap64 ((A.lost+1:Nat):Int)))) n O p g v.xs v.us { A with lost:=A.lost+1 }:=by
 have h1:=h.set (i:=p+0) zO hp.b0 5 (ii (wrap64 ((A.lost+1:Nat):Int)));refine⟨_,h1,(hp.setWay (way:=A.way) (lost:=A.lost+1) (vG:=v.vG) (gs:=v.gs) hp.ok.len hp.ok.way hp.wr ?_ ?_ ?_).a,fun k _ hk=>zah _ zO⟩
 ·rw[zaB];rfl
 ·rw[zah _ zO];exact hp.b5
 ·exact fun j hj h0 h5=>zah _ zO
theorem zmG {w0 w W3 W4:World}{vG:Value}{gs:List MGm}{m:MGm}{b g1 cap1:Nat}(hat:(zdR w0.heap.size vG gs).at_ w) (hB:Below w w W3) (hm:m.A=some ⟨b,0,none⟩)
  (hbs:zbp W3 W3.heap.size (.slice m.A m.l.length m.c) m.l) (hb:w.heap.size≤b) (hb2:b<W3.heap.size)
  (hown:W4.ownsRow w0.heap.size 243 2 (.slice (some ⟨g1,0,none⟩) (gs.length+1) cap1) (gs.length+1) (gs.flatMap MGm.cells++m.cells)) (hgrow:W3.grownBy W4 vG.ownBlock) (hg1:vG.ownBlock=some g1∨g1=W3.heap.size):
  (zdR w0.heap.size (.slice (some ⟨g1,0,none⟩) (gs.length+1) cap1) (gs++[m])).at_ W4∧zaO w W4 (zdR w0.heap.size vG gs).own (zdR w0.heap.size (.slice (some ⟨g1,0,none⟩) (gs.length+1) cap1) (gs++[m])).own∧
    ∀ k,(zdR w0.heap.size (.slice (some ⟨g1,0,none⟩) (gs.length+1) cap1) (gs++[m])).dat k→(zdR w0.heap.size vG gs).dat k∨w.heap.size≤k:=by
 obtain⟨hr,hd⟩:=hat
 have hlt:∀ k,vG.ownBlock=some k→w0.heap.size≤k∧k<w.heap.size:=fun k e=>zao hr e
 have hs:=hB.size;have hblk:∀ k,k<W3.heap.size→vG.ownBlock≠some k→W4.heap[k]?=W3.heap[k]?:=fun k hk hne=>hgrow.block k hk (fun e=>hne e.symm)
 have hg1k:∀ k,k<w.heap.size→vG.ownBlock≠some k→g1≠k:=fun k hk hne e=>by
  subst e;rcases hg1 with e|e
  ·exact hne e
  ·omega
 refine⟨⟨?_,fun m' hm'=>?_⟩,⟨hgrow.os.trans hB.os,hgrow.tape.trans hB.tape,hgrow.output.trans hB.output,yac hs hgrow.size,fun k hk hne=>(hblk k zO hne).trans (hB.block k hk),fun k e=>?_⟩,fun k e=>?_⟩
 ·rw[yaJ,yak]
  simpa using hown
 ·rcases yax.1 hm' with h1|h1
  ·obtain⟨k1,k2⟩:=hd m' h1
   refine⟨k1.same (yac hs hgrow.size) fun b' o e=>?_,fun b' o e=>?_⟩
   ·obtain⟨j1,j2⟩:=k2 b' o e
    exact(hblk b' zO j2).trans (hB.block b' j1)
   ·obtain⟨j1,j2⟩:=k2 b' o e
    have:=hgrow.size;exact⟨zO,fun e2=>hg1k b' j1 j2 (by simpa[Value.ownBlock]using e2)⟩
  ·rw[yaW]at h1
   subst h1;have hne:vG.ownBlock≠some b:=fun e=>by have:=(hlt b e).2;omega
   refine⟨hbs.same hgrow.size fun b' o e=>?_,fun b' o e=>?_⟩
   ·rw[hm]at e
    simp only[yaz,yaU]at e;obtain⟨rfl,_⟩:=e;exact hblk b hb2 hne
   ·rw[hm]at e
    simp only[yaz,yaU]at e;obtain⟨rfl,_⟩:=e;have:=hgrow.size;refine⟨zO,fun e2=>?_⟩;have e3:g1=b:=by simpa[Value.ownBlock]using e2
    rcases hg1 with e|e
    ·exact hne (e.trans (by rw[e3]))
    ·omega
 ·have e3:g1=k:=by simpa[zdR,Value.ownBlock]using e
  subst e3;rcases hg1 with e|e
  ·exact .inl e
  ·exact .inr zO
 ·obtain⟨m',hm',o,e⟩:=e
  rcases yax.1 hm' with h1|h1
  ·exact .inl ⟨m',h1,o,e⟩
  ·rw[yaW]at h1
   subst h1;rw[hm]at e;simp only[yaz,yaU]at e;obtain⟨rfl,_⟩:=e;exact .inr hb
theorem PWx.sentWay (hp:PWx w0.heap.size O p g A v) (h:Mem w0 w n O) (hn:p+16≤n){W3 W4:World}{gm:GmP}{b c1 g1 cap1:Nat}(hgm:zih A.S gm) (hlen:¬300≤A.way.length) (hB:Below w w W3)
  (hbs:zbp W3 W3.heap.size (.slice (some ⟨b,0,none⟩) (gmB gm).length c1) (gmB gm)) (hb:w.heap.size≤b) (hb2:b<W3.heap.size)
  (hown:W4.ownsRow w0.heap.size 243 2 (.slice (some ⟨g1,0,none⟩) (A.way.length+1) cap1) (A.way.length+1) (v.gs.flatMap MGm.cells++[ii (gm.tgt:Int),.slice (some ⟨b,0,none⟩) (gmB gm).length c1])) (hgrow:W3.grownBy W4 v.vG.ownBlock) (hg1:v.vG.ownBlock=some g1∨g1=W3.heap.size):
  zbF w0 (W4.setCell ⟨g,4,none⟩ (.slice (some ⟨g1,0,none⟩) (A.way.length+1) cap1)) n O p g v.xs v.us (zaJ A gm):=by
 have hl:=hp.wr.len;have hat:=h.at_ (p+5) zO;rw[hp.b5]at hat
 obtain⟨k1,k2,k3⟩:=zmG (m:=⟨gm.tgt,some ⟨b,0,none⟩,c1,gmB gm⟩) hat hB rfl hbs hb hb2 (by rw[hl];exact hown) hgrow hg1;obtain⟨O1,m1,m2,m3⟩:=h.step1 (i:=p+5) zO (o:=zdR w0.heap.size (.slice (some ⟨g1,0,none⟩) (v.gs.length+1) cap1) (v.gs++[⟨gm.tgt,some ⟨b,0,none⟩,c1,gmB gm⟩])) (zhW ..) k1 (by rw[hp.b5];exact k2) (by rw[hp.b5];exact k3);have hb0:O1 (p+0)=_:=(m3 (p+0) zO).trans hp.b0;have h2:=m1.set (i:=p+0) zO hb0 4 (.slice (some ⟨g1,0,none⟩) (A.way.length+1) cap1);have e:zaJ A gm={ A with way:=A.way++[gm],lost:=A.lost }:=by unfold zaJ;rw[yad hlen]
 rw[e];refine⟨_,h2,(hp.setWay (way:=A.way++[gm]) (lost:=A.lost) (vG:=.slice (some ⟨g1,0,none⟩) (A.way.length+1) cap1) (gs:=v.gs++[⟨gm.tgt,some ⟨b,0,none⟩,c1,gmB gm⟩]) zP ?_ ?_ ?_ ?_ ?_).a,fun k _ hk=>by rw[zah _ zO];exact m3 k zO⟩
 ·intro m hm
  rcases yax.1 hm with h1|h1
  ·exact hp.ok.way m h1
  ·rw[yaW]at h1;rw[h1];exact hgm
 ·have:=hp.wr
  unfold zhu at this ⊢;rw[ya9,ya9,this];rfl
 ·rw[zaB];rfl
 ·rw[zah _ zO,m2,hl]
 ·exact fun j hj h0 h5=>by rw[zah _ zO];exact m3 _ zO
theorem zeB (hp:PWx w0.heap.size O p g A v) (h:Mem w0 w n O) (hn:p+16≤n) (gm:GmP) (hgm:zih A.S gm) (Ab:Option Addr) (cb:Nat) (hv:zbp w w.heap.size (.slice Ab (gmB gm).length cb) (gmB gm)):
  Calls prog 147 #[.pointer (some ⟨g,0,none⟩),ii (gm.tgt:Int),.slice Ab (gmB gm).length cb] w fun e w'=>e=.returned (.tuple #[])∧zbF w0 w' n O p g v.xs v.us (zaJ A gm):=by
 have hb:=hp.blk h hn;have hat:=h.at_ (p+5) zO;rw[hp.b5]at hat
 obtain⟨aG,cG,eG⟩:=zd0 h (i:=p+5) zO hp.b5;rw[hp.wr.len]at eG;rw[eG]at hb;have c4:=zaa hb 4;have c5:=zaa hb 5;simp only[zC,zD,zE]at c4 c5;have f4:=zab hb 4;have f5:=zab hb 5;have hgl:g<w.heap.size:=zae hb;have hw0:w0.heap.size≤w.heap.size:=h.low.size;haveI:zaj (g+1) w:=⟨hgl⟩;by_cases h300:300≤A.way.length
 ·have d0:decide (300≤A.way.length)=true:=yae h300
  have d1:decide ((300:Int)≤(A.way.length:Int))=true:=zT;have e:zaJ A gm={ A with lost:=A.lost+1 }:=by unfold zaJ;rw[yaj h300]
  have HE:=zac (hp.lostWay h hn);rw[←e]at HE;have HWR:=zac (zfS A.lost);clear e hb hat eG hv hgm h300 hp h hn;generalize A.way.length=l at *;generalize A.lost=lo at *;generalize zaJ A gm=A' at *;go_enter func147,ntmps147;go_wp2_with fail;refine yag (ya3 rfl _ _ _) rfl ⟨rfl,?_⟩
  first|(rw[HWR.out];exact HE.out)|exact HE.out
 ·have d0:decide (300≤A.way.length)=false:=yah h300
  have d1:decide ((300:Int)≤(A.way.length:Int))=false:=zU;have hgne:v.vG.ownBlock≠some g:=fun e=>by
   have:=(h.dis (p+5) (p+0) zO zO zO g (by rw[hp.b5];exact e)).1;exact this (by rw[hp.b0];rfl)
  have HSE:Hid (∀ (W3 W3' W4:World) (b c1 g1 cap1:Nat),Below w w W3→zbp W3 W3.heap.size (.slice (some ⟨b,0,none⟩) (gmB gm).length c1) (gmB gm)→w.heap.size≤b→b<W3.heap.size→
    W4.ownsRow w0.heap.size 243 2 (.slice (some ⟨g1,0,none⟩) (A.way.length+1) cap1) (A.way.length+1) (v.gs.flatMap MGm.cells++[ii (gm.tgt:Int),.slice (some ⟨b,0,none⟩) (gmB gm).length c1])→
    (W3.alloc (.cells #[ii (gm.tgt:Int),.slice (some ⟨b,0,none⟩) (gmB gm).length c1] 243)).grownBy W4 v.vG.ownBlock→(v.vG.ownBlock=some g1∨g1=(W3.alloc (.cells #[ii (gm.tgt:Int),.slice (some ⟨b,0,none⟩) (gmB gm).length c1] 243)).heap.size)→
    zbF w0 (W4.setCell ⟨g,4,none⟩ (.slice (some ⟨g1,0,none⟩) (A.way.length+1) cap1)) n O p g v.xs v.us (zaJ A gm)):=zac (by
   intro W3 W3' W4 b c1 g1 cap1 k1 k2 k3 k4 k5 k6 k7;exact hp.sentWay h hn hgm h300 (k1.alloc k1.size _) ((k2.above fun k hk=>by rw[heap_alloc,yad zO]).mono zS) k3 zP k5 k6 k7)
  have HCL:=zac (fun W (hW:Below w w W)=>zlz Ab cb (gmB gm) W ((hv.above fun k hk=>hW.block k zO).mono hW.size) (zmY hgm).2 (by have:=(zmY hgm).1;omega));have hown:=hat.1;rw[hp.wr.len,eG]at hown;have HOW:=zac hown;have hl300:A.way.length≤300:=by omega
  rw[eG]at hgne HSE;obtain⟨i0,hi0,hz0,hz1,hz2⟩:=yb5 infoG;have HN1:Hid (∀ b c1,∀ u∈([ii (gm.tgt:Int),.slice (some ⟨b,0,none⟩) (gmB gm).length c1]:List Value),u.oneCell'=true):=zac (by
   intro b c1 u hu;simp at hu;rcases hu with rfl|rfl <;> rfl)
  have h63:A.way.length+1≤maxLen:=by refine yac ?_ maxLen_ge;omega
  have hby:(A.way.length+1)*32≤140737488355328:=by omega
  clear hb hat eG hv hgm h300 hp h hn hown;generalize A.way.length=l at *;generalize zaJ A gm=A' at *;generalize v.gs=gs at *;generalize (gmB gm).length=bl at *;generalize gmB gm=bts at *;generalize gm.tgt=tg at *;go_enter func147,ntmps147;go_wp2_with fail;refine zbc 11 (S:=(fun X:World=>X.cell? ⟨g,4,none⟩=some (.slice aG l cG))) zK zK ?_ (fun hHeld=>?_)
  ·first|exact q1|exact hk3|(show World.cell? (World.alloc _ _) _=_;rw[ya7];exact hk3;exact yab hgl HB3.out.size)|exact c4
  simp only[yat,yaQ,yau,yaA];refine zat 0 hHeld ?_;refine zat 1 hHeld ?_;refine zat 2 hHeld ?_;refine zat 3 hHeld ?_;refine zat 4 hHeld ?_;refine zat 5 hHeld ?_;refine zat 6 hHeld ?_;refine zaR [7] (zaU rfl (fun K hK=>?_) ?_)
  ·go_simp
   go_at_call 184;refine(HCL.out _ zB).mono ?_;rintro e w3 ⟨b,c1,rfl,hbs,hb3,hb1,hb2⟩;have HB3:=zac (ybC (show Below w w w.drew from zB) hb3);have HBS:=zac hbs;have hhb:w.heap.size≤b:=hb1;have hk3:w3.cell? ⟨g,4,none⟩=some (.slice aG l cG):=(HB3.out.cell (p:=⟨g,4,none⟩) hgl).trans c4;clear hbs hb3 hb1;go_wp2_with fail;refine hK.out _ _ ?_ (fun hNew=>?_)
   ·first|exact q1|exact hk3|(show World.cell? (World.alloc _ _) _=_;rw[ya7];exact hk3;exact yab hgl HB3.out.size)|exact c4
   clear hHeld;have hHeld:=hNew;clear hNew hK K
   try simp only[Act.put,zF,zG,zH]
   refine zat 8 hHeld ?_;refine zaR [9] (zaU rfl (fun K hK=>?_) ?_)
   ·go_simp
    refine hK.out _ _ ?_ (fun hNew=>?_)
    ·first|exact q1|exact hk3|(show World.cell? (World.alloc _ _) _=_;rw[ya7];exact hk3;exact yab hgl HB3.out.size)|exact c4
    clear hHeld;have hHeld:=hNew;clear hNew hK K
    try simp only[Act.put,zF,zG,zH]
    refine zaR [10] (zaU rfl (fun K hK=>?_) ?_)
    ·refine step_append_lies _ rfl (.tmp 23) (.tmp 28) 189 rfl w0.heap.size 243 i0 obz 2 32 underlying189 hi0 hz0 hz1 hz2 rfl zI (.slice aG l cG) l (gs.flatMap MGm.cells) zM (zaF HOW.out (HB3.out.alloc HB3.out.size _) (fun k e=>(zao HOW.out e).2)) ⟨w3,0,none⟩ 1 1 [ii (tg:Int),.slice (some ⟨b,0,none⟩) bl c1] zM rfl (World.news_of_block (cs:=#[ii (tg:Int),.slice (some ⟨b,0,none⟩) bl c1]) (zag rfl _)) (HN1.out _ _) zI h63 hby (by have:=HB3.out.size;simp;omega) _ rfl ?_
     intro g1 cap1 w5 hown1 hgrow hgl1 hlt1;have hgr:=zau hgrow;have HE:=zac (HSE.out w3 (w3.alloc (.cells #[(tg:Int),.slice (some ⟨b,0,none⟩) bl c1] 243)) w5 b c1 g1 cap1 HB3.out HBS.out hhb hb2 hown1 hgrow hgl1);have q1:w5.cell? ⟨g,4,none⟩=some (.slice aG l cG):=by rw[yam (hgr.block g (by have:=HB3.out.size;omega) (fun e=>hgne e.symm))];exact hk3
     have q2:w5.frozen? ⟨g,4,none⟩=false:=by rw[yal (hgr.block g (by have:=HB3.out.size;omega) (fun e=>hgne e.symm)),HB3.out.frozen (p:=⟨g,4,none⟩) hgl];exact f4
     clear hown1 hgrow hgl1 hgr;refine hK.out _ _ ?_ (fun hNew=>?_)
     ·first|exact q1|exact hk3|(show World.cell? (World.alloc _ _) _=_;rw[ya7];exact hk3;exact yab hgl HB3.out.size)|exact c4
     clear hHeld;have hHeld:=hNew;clear hNew hK K
     try simp only[Act.put,zF,zG,zH]
     refine wpAnyH_done zK ?_ _;refine zes.normal ?_;go_wp2_with fail;refine ybi (ya3 rfl _ _ _) rfl ⟨rfl,HE.out⟩
    exact AllReadyH.nil
   exact AllReadyH.nil
  exact AllReadyH.nil
end
theorem zh7 {op:Oper}{a:Act}{w:World}(ty:TypeId) (x:Operand) (ho:op.op=.load ty x) (b o:Nat) (hx:a.eval x=.pointer (some ⟨b,o,none⟩)) (cs:List Value) (d:TypeDesc) (hc:w.rangeAt b o cs)
  (hu:prog.underlying ty=some d) (hd:d.isRow=true) (hi:(prog.info? ty).map (·.size)=some cs.length):(execOp a.eval op).run prog w=.ok (.value (.agg cs.toArray)) w:=by
 unfold execOp;simp only[ho,hx,Instr.loadAt,Instr.sureAddr,ybJ,yb9,ybg,run_loadVar_mid w b o ty cs d hc hu hd hi]
theorem zf6 {w:World}{b t:Nat}{cs:List Value}(h:w.heap[b]?=some (.cells cs.toArray t)):w.rangeAt b 0 cs:=by
 intro j v hv;have:=zaa h j;rw[yaZ];rw[this];simpa using hv
def gmZero:Value:=.agg #[ii 0,ii 0,ii 0,ii 0,ii 0,ii 0,ii 0,ii 0,ii 0,.slice none 0 0,ii 0,ii 0,ii 0,ii 0,ii 0]
theorem info199:(prog.info? 199).map (fun i=>(i.zero,i.size,i.bytes))=some (some gmZero,15,136):=by kernel_rfl
theorem zhA {ops:Array Oper}{o:Oper}{a:Act}{w:World}{K:Act→World→Prop}{Q:Exit→Act→World→Prop}{E:Prop}(hgd:o.guard=none) (x:Operand) (ho:o.op=.buildSlice 134 1 #[(0,x)]) (z0 z1 z2 z3 z4 z5 z6 z7 z8 z9 z10 z11 z12 z13 z14:Value) (hx:a.eval x=.agg #[z0,z1,z2,z3,z4,z5,z6,z7,z8,z9,z10,z11,z12,z13,z14])
  (h:K (a.put o.dst (.slice (some ⟨w,0,none⟩) 1 1)) (w.alloc (.cells #[z0,z1,z2,z3,z4,z5,z6,z7,z8,z9,z10,z11,z12,z13,z14] 199))):if Region.wanted o (yielded ops a.tmps)=true then Oper.wp prog o a w K Q else E:=by
 have hw:Region.wanted o (yielded ops a.tmps)=true:=by simp[Region.wanted,hgd]
 rw[yaj hw];obtain⟨i0,hi0,hz0,hz1,hz2⟩:=yb5 info199;refine wp_buildSlice 134 199 1 #[(0,x)] ho #[z0,z1,z2,z3,z4,z5,z6,z7,z8,z9,z10,z11,z12,z13,z14] i0 gmZero underlying134 hi0 hz0 (by rw[hz1];decide) (by rw[hz1];decide) ?_ h;rw[hz1];simp only[ybP,ybn,ybL,hx]
 kernel_rfl
section
variable {w0 w:World}{n:Nat}{O:Nat→Ob}{p g:Nat}{A:AWd}{v:RV}{k u x:Nat}
theorem RWx.lostGs (hp:RWx w0.heap.size O p g A v) (h:Mem w0 w n O) (hn:p+16≤n):zbG w0 (w.setCell ⟨g,5,none⟩ (ii (wrap64 ((A.lost+1:Nat):Int)))) n O p g v.xs v.us { A with lost:=A.lost+1 }:=by
 have h1:=h.set (i:=p+0) zO hp.b0 5 (ii (wrap64 ((A.lost+1:Nat):Int)));refine⟨_,h1,(hp.setWay (way:=A.way) (lost:=A.lost+1) (vG:=v.vG) (gs:=v.gs) hp.ok.len hp.ok.way hp.wr ?_ ?_ ?_).a,fun k _ hk=>zah _ zO⟩
 ·rw[zaB];rfl
 ·rw[zah _ zO];exact hp.b5
 ·exact fun j hj h0 h5=>zah _ zO
theorem obGs_app {w0 w W3 W4:World}{vG:Value}{gs:List RGm}{m:RGm}{g1 cap1:Nat}(hat:(zjh w0.heap.size vG gs).at_ w) (hB:Below w w W3) (hws:zaN w m.A m.g.tx.ws) (hwd:∀ b o,m.A=some ⟨b,o,none⟩→b<w.heap.size∧vG.ownBlock≠some b)
  (hown:W4.ownsRow w0.heap.size 199 15 (.slice (some ⟨g1,0,none⟩) (gs.length+1) cap1) (gs.length+1) (gs.flatMap RGm.cells++m.cells)) (hgrow:W3.grownBy W4 vG.ownBlock) (hg1:vG.ownBlock=some g1∨w.heap.size≤g1):
  (zjh w0.heap.size (.slice (some ⟨g1,0,none⟩) (gs.length+1) cap1) (gs++[m])).at_ W4∧zaO w W4 (zjh w0.heap.size vG gs).own (zjh w0.heap.size (.slice (some ⟨g1,0,none⟩) (gs.length+1) cap1) (gs++[m])).own∧
    ∀ k,(zjh w0.heap.size (.slice (some ⟨g1,0,none⟩) (gs.length+1) cap1) (gs++[m])).dat k→(zjh w0.heap.size vG gs).dat k∨∃ o,m.A=some ⟨k,o,none⟩:=by
 obtain⟨hr,hd⟩:=hat
 have hlt:∀ k,vG.ownBlock=some k→w0.heap.size≤k∧k<w.heap.size:=fun k e=>zao hr e
 have hs:=hB.size;have hblk:∀ k,k<W3.heap.size→vG.ownBlock≠some k→W4.heap[k]?=W3.heap[k]?:=fun k hk hne=>hgrow.block k hk (fun e=>hne e.symm)
 have hg1k:∀ k,k<w.heap.size→vG.ownBlock≠some k→g1≠k:=fun k hk hne e=>by
  subst e;rcases hg1 with e|e
  ·exact hne e
  ·omega
 have all:∀ m':RGm,zaN w m'.A m'.g.tx.ws→(∀ b o,m'.A=some ⟨b,o,none⟩→b<w.heap.size∧vG.ownBlock≠some b)→zaN W4 m'.A m'.g.tx.ws∧∀ b o,m'.A=some ⟨b,o,none⟩→b<W4.heap.size∧(Value.slice (some ⟨g1,0,none⟩) (gs.length+1) cap1).ownBlock≠some b:=fun m' k1 k2=>by
  refine⟨k1.keep fun b' o e=>?_,fun b' o e=>?_⟩
  ·obtain⟨j1,j2⟩:=k2 b' o e
   exact(hblk b' zO j2).trans (hB.block b' j1)
  ·obtain⟨j1,j2⟩:=k2 b' o e
   have:=hgrow.size;exact⟨zO,fun e2=>hg1k b' j1 j2 (by simpa[Value.ownBlock]using e2)⟩
 refine⟨⟨?_,fun m' hm'=>?_⟩,⟨hgrow.os.trans hB.os,hgrow.tape.trans hB.tape,hgrow.output.trans hB.output,yac hs hgrow.size,fun k hk hne=>(hblk k zO hne).trans (hB.block k hk),fun k e=>?_⟩,fun k e=>?_⟩
 ·rw[yaJ,yak]
  simpa using hown
 ·rcases yax.1 hm' with h1|h1
  ·exact all m' (hd m' h1).1 (hd m' h1).2
  ·rw[yaW]at h1
   subst h1;exact all m' hws hwd
 ·have e3:g1=k:=by simpa[zjh,Value.ownBlock]using e
  subst e3;rcases hg1 with e|e
  ·exact .inl e
  ·exact .inr zO
 ·obtain⟨m',hm',o,e⟩:=e
  rcases yax.1 hm' with h1|h1
  ·exact .inl ⟨m',h1,o,e⟩
  ·rw[yaW]at h1
   subst h1;exact .inr ⟨o,e⟩
theorem RWx.sentGs (hp:RWx w0.heap.size O p g A v) (h:Mem w0 w n O) (hn:p+16≤n){W3 W4:World}{m:RGm}{g1 cap1:Nat}(hgm:zih A.S m.g) (hlen:¬300≤A.way.length) (hB:Below w w W3) (hws:zaN w m.A m.g.tx.ws) (hwd:∀ b o,m.A=some ⟨b,o,none⟩→b<w.heap.size∧∀ k,k<n→¬(O k).own b)
  (hown:W4.ownsRow w0.heap.size 199 15 (.slice (some ⟨g1,0,none⟩) (A.way.length+1) cap1) (A.way.length+1) (v.gs.flatMap RGm.cells++m.cells)) (hgrow:W3.grownBy W4 v.vG.ownBlock) (hg1:v.vG.ownBlock=some g1∨w.heap.size≤g1):
  zbG w0 (W4.setCell ⟨g,4,none⟩ (.slice (some ⟨g1,0,none⟩) (A.way.length+1) cap1)) n O p g v.xs v.us (zaJ A m.g):=by
 have hl:=hp.wr.len;have hat:=h.at_ (p+5) zO;rw[hp.b5]at hat
 obtain⟨k1,k2,k3⟩:=obGs_app (m:=m) hat hB hws (fun b o e=>⟨(hwd b o e).1,fun e2=>(hwd b o e).2 (p+5) zO (by rw[hp.b5];exact e2)⟩) (by rw[hl];exact hown) hgrow hg1;obtain⟨O1,m1,m2,m3⟩:=h.stepX (i:=p+5) zO (o:=zjh w0.heap.size (.slice (some ⟨g1,0,none⟩) (v.gs.length+1) cap1) (v.gs++[m])) (zjD ..) k1 (by rw[hp.b5];exact k2) (by
  rw[hp.b5];intro b e;rcases k3 b e with e|⟨o,e⟩
  ·exact .inl e
  ·exact .inr (.inr (hwd b o e).2))
 have hb0:O1 (p+0)=_:=(m3 (p+0) zO).trans hp.b0;have h2:=m1.set (i:=p+0) zO hb0 4 (.slice (some ⟨g1,0,none⟩) (A.way.length+1) cap1);have e:zaJ A m.g={ A with way:=A.way++[m.g],lost:=A.lost }:=by unfold zaJ;rw[yad hlen]
 rw[e];refine⟨_,h2,(hp.setWay (way:=A.way++[m.g]) (lost:=A.lost) (vG:=.slice (some ⟨g1,0,none⟩) (A.way.length+1) cap1) (gs:=v.gs++[m]) zP ?_ ?_ ?_ ?_ ?_).a,fun k _ hk=>by rw[zah _ zO];exact m3 k zO⟩
 ·intro m' hm
  rcases yax.1 hm with h1|h1
  ·exact hp.ok.way m' h1
  ·rw[yaW]at h1;rw[h1];exact hgm
 ·have:=hp.wr
  unfold zlD at this ⊢;rw[ya9,this];rfl
 ·rw[zaB];rfl
 ·rw[zah _ zO,m2,hl]
 ·exact fun j hj h0 h5=>by rw[zah _ zO];exact m3 _ zO
end
theorem zfd (m:RGm):∀ u∈m.cells,u.oneCell'=true:=by
 intro u hu;simp[RGm.cells]at hu;rcases hu with rfl|rfl|rfl|rfl|rfl|rfl|rfl|rfl|rfl|rfl|rfl|rfl|rfl|rfl|rfl <;> rfl
theorem zjM (L:List RGm):∀ u∈L.flatMap RGm.cells,u.oneCell'=true:=by
 intro u hu;obtain⟨m,_,hm⟩:=yb2.1 hu;exact zfd m u hm
theorem gscells_len:∀ (L:List RGm),(L.flatMap RGm.cells).length=L.length*15
 | []=>rfl
 | m::L=>by rw[yaN,yak,gscells_len L,yaq];show 15+_=_;omega
theorem zhj (L:List RGm) (i:Nat) (m:RGm) (h:L[i]?=some m) (r:Nat) (u:Value) (hu:m.cells[r]?=some u):(L.flatMap RGm.cells)[i*15+r]?=some u:=by
 induction L generalizing i with
 | nil=>simp at h
 | cons a L ih=>
   rw[yaN];have hr:r<15:=(yao.1 hu).1;rcases i with _|i
   ·simp at h;subst h
    rw[yaX (by show _<15;omega)];simpa using hu
   ·rw[yaC (by show 15≤_;omega)]
    have e:(i+1)*15+r-a.cells.length=i*15+r:=by show _-15=_;omega
    rw[e];exact ih i (by simpa using h)
def zji (w:World) (A:Option Addr) (L:List RGm):Prop:=0<L.length→∃ b o,A=some ⟨b,o,none⟩∧b<w.heap.size∧∀ (j:Nat) (u:Value),(L.flatMap RGm.cells)[j]?=some u→w.cell? ⟨b,o+j,none⟩=some u
theorem zji.below {w w':World}{A:Option Addr}{L:List RGm}(h:zji w A L) (hb:Below w w w'):zji w' A L:=fun hL=>by
 obtain⟨b,o,hA,hlt,hc⟩:=h hL;exact⟨b,o,hA,yab hlt hb.size,fun j u hu=>(hb.cell (p:=⟨b,o+j,none⟩) hlt).trans (hc j u hu)⟩
theorem zji.take {w:World}{A:Option Addr}{L:List RGm}(h:zji w A L) (k:Nat):zji w A (L.take k):=fun hL=>by
 obtain⟨b,o,hA,hlt,hc⟩:=h (by simp at hL;omega);refine⟨b,o,hA,hlt,fun j u hu=>hc j u ?_⟩;have e:L.flatMap RGm.cells=(L.take k).flatMap RGm.cells++(L.drop k).flatMap RGm.cells:=by rw[←yaJ,ybl]
 rw[e,yaX (yao.1 hu).1];exact hu
theorem zji.drop {w:World}{b o:Nat}{L:List RGm}(h:zji w (some ⟨b,o,none⟩) L) (k:Nat):zji w (some ⟨b,o+k*15,none⟩) (L.drop k):=fun hL=>by
 have hk:k<L.length:=by simp at hL;omega
 obtain⟨b',o',hA,hlt,hc⟩:=h zO;simp only[yaz,yaU]at hA;obtain⟨rfl,rfl,_⟩:=hA;refine⟨b,o+k*15,rfl,hlt,fun j u hu=>?_⟩;have e:L.flatMap RGm.cells=(L.take k).flatMap RGm.cells++(L.drop k).flatMap RGm.cells:=by rw[←yaJ,ybl]
 have hl:((L.take k).flatMap RGm.cells).length=k*15:=by rw[gscells_len,yaL];congr 1;omega
 rw[Nat.add_assoc];refine hc (k*15+j) u ?_;rw[e,yaC zO,hl,Nat.add_sub_cancel_left];exact hu
theorem own_gs {w:World}{B n c:Nat}{A:Option Addr}{L:List RGm}(h:w.ownsRow B 199 15 (.slice A n c) n (L.flatMap RGm.cells)) (hn:n=L.length):zji w A L:=fun hL=>by
 obtain⟨b,c2,e,k1,k2⟩:=World.ownsRow.form h zO;simp only[yaP]at e;obtain⟨rfl,_,_⟩:=e;refine⟨b,0,rfl,k2,fun j u hu=>?_⟩;have hj:=(yao.1 hu).1;rw[gscells_len]at hj;rw[yaZ,h.cellAt j (by rw[hn];omega)];exact hu
theorem zhK (w:World) (ty:TypeId) (base:Nat) (v:Value) (n:Nat) (xs:List Value) (hown:w.ownsRow base 199 15 v n xs) (A:Option Addr) (c:Nat) (L:List RGm) (hx:zji w A L) (hn:n+L.length≤1000) (hbase:base≤w.heap.size):
  ∃ v' w',(Builtin.append_ #[134,134] ty #[v,.slice A L.length c]).run prog w=.ok v' w'∧w'.ownsRow base 199 15 v' (n+L.length) (xs++L.flatMap RGm.cells)∧w.grownBy w' v.ownBlock∧(v'.ownBlock=v.ownBlock∨v'.ownBlock=some w.heap.size):=by
 obtain⟨i0,hi0,hz0,hz1,hz2⟩:=yb5 info199;have h63:n+L.length≤maxLen:=yac hn (yac zI maxLen_ge);rcases A with _|ad
 ·have hL:L=[]:=by
   rcases ybB L.length with h|h
   ·exact yan h
   ·obtain⟨b,o,e,_⟩:=hx h;cases e
  subst hL;refine⟨v,w,?_,by simpa using hown,ycm w _,.inl rfl⟩;rcases hown.2 with ⟨rfl,rfl⟩|⟨g,cap,cur,rfl,_,_,hnc,_⟩
  ·simp[Builtin.append_,ybz underlying134,sizeOf,typeInfo,hi0,Builtin.lenOf,Builtin.firstCells]
  ·simp[Builtin.append_,ybz underlying134,sizeOf,typeInfo,hi0,Builtin.lenOf,Builtin.firstCells,hnc,storeCells]
 ·have hc:∀ j u,(L.flatMap RGm.cells)[j]?=some u→w.cell? (ad.add j)=some u:=by
   intro j u hu;rcases ybB L.length with h|h
   ·rw[yan h]at hu;simp at hu
   ·obtain⟨b,o,e,_,hc⟩:=hx h
    obtain rfl:ad=⟨b,o,none⟩:=by simpa using e
    have e2:(⟨b,o,none⟩:Addr).add j=⟨b,o+j,none⟩:=by unfold Addr.add;split <;> simp_all
    rw[e2];exact hc j u hu
  obtain⟨v',w',hrun,h2,h3,_,h5⟩:=run_append_own_at (P:=prog) w base 134 ty 199 i0 gmZero 15 136 underlying134 hi0 hz0 hz1 hz2 rfl zI v n xs hown ad L.length c _ (gscells_len L) hc (zjM L) h63 zO hbase;exact⟨v',w',hrun,h2,h3,h5⟩
theorem zdb (w:World){ops:Array Oper}{o:Oper}{a:Act}{K:Act→World→Prop}{Q:Exit→Act→World→Prop}{E:Prop}(hgd:o.guard=none) (s x:Operand)
  (ho:o.op=.call { callee:=.builtin .append,args:=#[s,x],argTypes:=#[134,134] }) (base:Nat) (v:Value) (n:Nat) (L0:List RGm) (hs:a.eval s=v) (hown:w.ownsRow base 199 15 v n (L0.flatMap RGm.cells)) (A:Option Addr) (c:Nat) (L:List RGm) (hx:a.eval x=.slice A L.length c)
  (hxs:zji w A L) (hn:n+L.length≤1000) (hbase:base≤w.heap.size) (hn0:n=L0.length)
  (h:∀ A' c' w',w'.ownsRow base 199 15 (.slice A' (L0++L).length c') (L0++L).length ((L0++L).flatMap RGm.cells)→w.grownBy w' v.ownBlock→((Value.slice A' (L0++L).length c').ownBlock=v.ownBlock∨(Value.slice A' (L0++L).length c').ownBlock=some w.heap.size)→K (a.put o.dst (.slice A' (L0++L).length c')) w'):
  if Region.wanted o (yielded ops a.tmps)=true then Oper.wp prog o a w K Q else E:=by
 have hw:Region.wanted o (yielded ops a.tmps)=true:=by simp[Region.wanted,hgd]
 rw[yaj hw];obtain⟨v',w',hrun,h2,h3,h4⟩:=zhK w o.type base v n (L0.flatMap RGm.cells) hown A c L hxs hn hbase;have e:n+L.length=(L0++L).length:=by rw[hn0,yak]
 rw[e,←yaJ]at h2;obtain⟨A',c',rfl⟩:=zaP h2;unfold Oper.wp execOp;simp only[ho,resolve,invoke,builtin,ybJ,yb9,ybg,ybP,ybn,ybL,hs,hx,hrun];exact h A' c' w' h2 h3 h4
theorem zdD (w:World){ops:Array Oper}{o:Oper}{a:Act}{K:Act→World→Prop}{Q:Exit→Act→World→Prop}{E:Prop}(hgd:o.guard=none) (s x:Operand)
  (ho:o.op=.call { callee:=.builtin .append,args:=#[s,x],argTypes:=#[134,134] }) (base g:Nat) (hs:a.eval s=.slice (some ⟨g,0,none⟩) 0 0) (hg:w.heap[g]?=some (.cells #[] 199)) (hb:base≤g) (A:Option Addr) (c:Nat) (L:List RGm) (hx:a.eval x=.slice A L.length c)
  (hxs:zji w A L) (hn:L.length≤1000)
  (h:∀ A' c' w',w'.ownsRow base 199 15 (.slice A' L.length c') L.length (L.flatMap RGm.cells)→w.grownBy w' (some g)→K (a.put o.dst (.slice A' L.length c')) w'):
  if Region.wanted o (yielded ops a.tmps)=true then Oper.wp prog o a w K Q else E:=
 zdb w hgd s x ho base (.slice (some ⟨g,0,none⟩) 0 0) 0 [] hs (zc8 hg hb) A c L hx hxs zO (by have:=zae hg;omega) rfl fun A' c' w' h2 h3 h4=>by
  simp only[ybd]at h2 ⊢;exact h A' c' w' h2 h3
section
variable {w0 w:World}{n:Nat}{O:Nat→Ob}{p g:Nat}{A:AWd}{v:RV}{k u x:Nat}
theorem zeH (hp:RWx w0.heap.size O p g A v) (h:Mem w0 w n O) (hn:p+16≤n) (m:RGm) (hgm:zih A.S m.g) (hws:zaN w m.A m.g.tx.ws) (hwd:∀ b o,m.A=some ⟨b,o,none⟩→b<w.heap.size∧∀ k,k<n→¬(O k).own b):
  Calls prog 158 #[.pointer (some ⟨g,0,none⟩),.agg m.cells.toArray] w fun e w'=>e=.returned (.tuple #[])∧zbG w0 w' n O p g v.xs v.us (zaJ A m.g):=by
 have hb:=hp.blk h hn;have hat:=h.at_ (p+5) zO;rw[hp.b5]at hat
 obtain⟨aG,cG,eG⟩:=zjN h (i:=p+5) zO hp.b5;rw[hp.wr.len]at eG;rw[eG]at hb;have c4:=zaa hb 4;have c5:=zaa hb 5;simp only[zC,zD,zE]at c4 c5;have f4:=zab hb 4;have f5:=zab hb 5;have hgl:g<w.heap.size:=zae hb;have hw0:w0.heap.size≤w.heap.size:=h.low.size;haveI:zaj (g+1) w:=⟨hgl⟩;have HN0:=zfd m;by_cases h300:300≤A.way.length
 ·have d0:decide (300≤A.way.length)=true:=yae h300
  have d1:decide ((300:Int)≤(A.way.length:Int))=true:=zT;have e:zaJ A m.g={ A with lost:=A.lost+1 }:=by unfold zaJ;rw[yaj h300]
  have HE:Hid (∀ Z:Obj,zbG w0 ((w.setCell ⟨g,5,none⟩ (ii (wrap64 ((A.lost+1:Nat):Int)))).alloc Z) n O p g v.xs v.us (zaJ A m.g)):=zac (by
   intro Z;rw[e];exact(hp.lostGs h hn).then (zal (yaf _ _)))
  have HWR:=zac (zfS A.lost);clear e hb hat eG hws hwd hgm h300 hp h hn HN0;generalize A.way.length=l at *;generalize A.lost=lo at *;generalize zaJ A m.g=A' at *;unfold RGm.cells;go_enter func158,ntmps158;go_wp2_with fail;refine ybi (ya3 rfl _ _ _) rfl ⟨rfl,?_⟩
  first|(rw[HWR.out];exact HE.out _)|exact HE.out _
 ·have d0:decide (300≤A.way.length)=false:=yah h300
  have d1:decide ((300:Int)≤(A.way.length:Int))=false:=zU;have hgne:v.vG.ownBlock≠some g:=fun e=>by
   have:=(h.dis (p+5) (p+0) zO zO zO g (by rw[hp.b5];exact e)).1;exact this (by rw[hp.b0];rfl)
  have HSE:Hid (∀ (W3 W4:World) (g1 cap1:Nat),Below w w W3→
    W4.ownsRow w0.heap.size 199 15 (.slice (some ⟨g1,0,none⟩) (A.way.length+1) cap1) (A.way.length+1) (v.gs.flatMap RGm.cells++m.cells)→W3.grownBy W4 v.vG.ownBlock→(v.vG.ownBlock=some g1∨w.heap.size≤g1)→
    zbG w0 (W4.setCell ⟨g,4,none⟩ (.slice (some ⟨g1,0,none⟩) (A.way.length+1) cap1)) n O p g v.xs v.us (zaJ A m.g)):=zac (by
   intro W3 W4 g1 cap1 k1 k5 k6 k7;exact hp.sentGs h hn hgm h300 k1 hws hwd k5 k6 k7)
  have hown:=hat.1;rw[hp.wr.len,eG]at hown;have HOW:=zac hown;have hlt:=fun k (e:v.vG.ownBlock=some k)=>(zao hat.1 e).2
  have hl300:A.way.length≤300:=by omega
  rw[eG]at hgne HSE hlt;obtain⟨i0,hi0,hz0,hz1,hz2⟩:=yb5 info199;have h63:A.way.length+1≤maxLen:=by refine yac ?_ maxLen_ge;omega
  have hby:(A.way.length+1)*136≤140737488355328:=by omega
  obtain⟨z0,z1,z2,z3,z4,z5,z6,z7,z8,z9,z10,z11,z12,z13,z14,hmc⟩:∃ z0 z1 z2 z3 z4 z5 z6 z7 z8 z9 z10 z11 z12 z13 z14,m.cells=[z0,z1,z2,z3,z4,z5,z6,z7,z8,z9,z10,z11,z12,z13,z14]:=⟨_,_,_,_,_,_,_,_,_,_,_,_,_,_,_,rfl⟩;rw[hmc]at HSE HN0 ⊢;have HN1:=zac HN0;clear hb hat eG hws hwd hgm h300 hp h hn hown hmc HN0;generalize A.way.length=l at *;generalize zaJ A m.g=A' at *;generalize v.gs=gs at *;have HSK:Hid (∀ X:World,Below (w.alloc (.cells #[z0,z1,z2,z3,z4,z5,z6,z7,z8,z9,z10,z11,z12,z13,z14] 199)).heap.size (w.alloc (.cells #[z0,z1,z2,z3,z4,z5,z6,z7,z8,z9,z10,z11,z12,z13,z14] 199)) X→(X.cell? ⟨g,4,none⟩=some (.slice aG l cG)∧X.rangeAt w.heap.size 0 [z0,z1,z2,z3,z4,z5,z6,z7,z8,z9,z10,z11,z12,z13,z14])):=zac (fun X hb=>⟨(hb.cell (p:=⟨g,4,none⟩) zP).trans (by rw[ya7];exact c4;exact hgl),zf6 ((hb.block w.heap.size zS).trans (zag rfl _))⟩);have HQ:Hid (∀ X W5:World,Below (w.alloc (.cells #[z0,z1,z2,z3,z4,z5,z6,z7,z8,z9,z10,z11,z12,z13,z14] 199)).heap.size (w.alloc (.cells #[z0,z1,z2,z3,z4,z5,z6,z7,z8,z9,z10,z11,z12,z13,z14] 199)) X→X.grownBy W5 (Value.slice aG l cG).ownBlock→(W5.cell? ⟨g,4,none⟩=some (.slice aG l cG)∧W5.rangeAt w.heap.size 0 [z0,z1,z2,z3,z4,z5,z6,z7,z8,z9,z10,z11,z12,z13,z14])):=zac (fun X W5 hb hg=>by
   have h1:=HSK.out X hb;have hs:=hb.size;simp at hs;refine⟨?_,fun j u hj=>?_⟩
   ·rw[yam (hg.block g zO (fun e=>hgne e.symm))];exact h1.1
   ·rw[yam (a:=⟨w,0+j,none⟩) (hg.block w.heap.size zO (fun e=>by have:=hlt _ e.symm;omega))];exact h1.2 j u hj)
  have HF5:Hid (∀ X W5:World,Below (w.alloc (.cells #[z0,z1,z2,z3,z4,z5,z6,z7,z8,z9,z10,z11,z12,z13,z14] 199)).heap.size (w.alloc (.cells #[z0,z1,z2,z3,z4,z5,z6,z7,z8,z9,z10,z11,z12,z13,z14] 199)) X→X.grownBy W5 (Value.slice aG l cG).ownBlock→W5.frozen? ⟨g,4,none⟩=false):=zac (fun X W5 hb hg=>by
   have hs:=hb.size;simp at hs;have hbk:W5.heap[g]?=w.heap[g]?:=(hg.block g zO (fun e=>hgne e.symm)).trans ((hb.block g zP).trans (by rw[heap_alloc,yad zO]));rw[yal (a:=⟨g,4,none⟩) hbk];exact f4)
  go_enter func158,ntmps158;go_upto_region 3 with fail;refine zbc 8 (S:=(fun X:World=>X.cell? ⟨g,4,none⟩=some (.slice aG l cG)∧X.rangeAt w.heap.size 0 [z0,z1,z2,z3,z4,z5,z6,z7,z8,z9,z10,z11,z12,z13,z14])) zK zK ?_ (fun hHeld=>?_)
  ·first|exact q1|exact HSK.out _ zB
  simp only[yat,yaQ,yau,yaA];refine zat 0 hHeld ?_;refine zat 1 hHeld ?_;refine zat 2 hHeld ?_;refine zat 3 hHeld ?_;refine zat 4 hHeld ?_;refine takeL 5 rfl zK zK zK (fun _ _ _ h=>h) hHeld (by rfl) (v:=.agg #[z0,z1,z2,z3,z4,z5,z6,z7,z8,z9,z10,z11,z12,z13,z14]) ?_ ?_
  ·intro X hSw
   exact zh7 199 (.tmp 3) rfl w.heap.size 0 zM [z0,z1,z2,z3,z4,z5,z6,z7,z8,z9,z10,z11,z12,z13,z14] _ hSw.2 underlying199 rfl zK
  try simp only[Act.put,zF,zG,zH]
  refine zaR [6] (zaU rfl (fun K hK=>?_) ?_)
  ·refine zhA rfl (.tmp 22) rfl z0 z1 z2 z3 z4 z5 z6 z7 z8 z9 z10 z11 z12 z13 z14 zM ?_
   refine hK.out _ _ ?_ (fun hNew=>?_)
   ·first|exact q1|exact HSK.out _ zB
   clear hHeld;have hHeld:=hNew;clear hNew hK K
   try simp only[Act.put,zF,zG,zH]
   refine zaR [7] (zaU rfl (fun K hK=>?_) ?_)
   ·refine step_append_lies _ rfl (.tmp 21) (.tmp 23) 134 rfl w0.heap.size 199 i0 gmZero 15 136 underlying134 hi0 hz0 hz1 hz2 rfl zI (.slice aG l cG) l (gs.flatMap RGm.cells) zM (zaF HOW.out zB (fun k e=>(zao HOW.out e).2)) ⟨w.heap.size+1,0,none⟩ 1 1 [z0,z1,z2,z3,z4,z5,z6,z7,z8,z9,z10,z11,z12,z13,z14] zM rfl (World.news_of_block (cs:=#[z0,z1,z2,z3,z4,z5,z6,z7,z8,z9,z10,z11,z12,z13,z14]) (zag zS _)) HN1.out zI h63 hby zP _ rfl ?_
    intro g1 cap1 w5 hown1 hgrow hgl1 hlt1;have HE:=zac (HSE.out _ w5 g1 cap1 zB hown1 hgrow (hgl1.imp id (fun e=>by rw[e];simp;omega)));have q1:=HQ.out _ w5 zB hgrow;have q2:=HF5.out _ w5 zB hgrow;haveI:zaj (g+1) w5:=⟨by have:=hgrow.size;simp at this;omega⟩;clear hown1 hgrow hgl1;refine hK.out _ _ ?_ (fun hNew=>?_)
    ·first|exact q1|exact HSK.out _ zB
    clear hHeld;have hHeld:=hNew;clear hNew hK K
    try simp only[Act.put,zF,zG,zH]
    refine wpAnyH_done zK ?_ _;refine zes.normal ?_;have q3:=q1.1;clear q1;go_wp2_with fail;refine ybi (ya3 rfl _ _ _) rfl ⟨rfl,HE.out⟩
   exact AllReadyH.nil
  exact AllReadyH.nil
end
end Go.Proofs.YtbopfhbeegkkaabGreatDoor
