/- Part 22 of a proof: lemmas and contracts that other parts use. -/
import Derived.Test.YtbopfhbeegkkaabGreatDoorWp21
import Derived.Laws.Rows
set_option linter.unusedVariables false
set_option linter.unusedSimpArgs false
set_option linter.constructorNameAsVariable false
set_option maxHeartbeats 8000000
set_option maxRecDepth 20000
namespace Go.Proofs.YtbopfhbeegkkaabGreatDoor
open Go.RowKit Go.Proofs.Tryz
theorem own_mono {w:World}{B B' e z n:Nat}{v:Value}{xs:List Value}(h:w.ownsRow B e z v n xs) (hb:B'≤B):w.ownsRow B' e z v n xs:=by
 obtain⟨hl,hn|⟨g,cap,cur,hv,hB,rest⟩⟩:=h
 ·exact⟨hl,.inl hn⟩
 ·exact⟨hl,.inr ⟨g,cap,cur,hv,yac hb hB,rest⟩⟩
theorem zh8 {w:World}{g e:Nat}{fz:Nat×Nat}{cur:Array Value}{vs:List Value}(h:w.heap[g]?=some (.cells cur e fz)) (hs:cur.size=vs.length):(w.setCells g 0 vs).heap[g]?=some (.cells vs.toArray e fz):=by
 obtain⟨c,h1,h2,h3⟩:=zcH vs 0 w cur h;rw[h1];congr 2;apply Array.ext_getElem?;intro j;by_cases hj:j<cur.size
 ·rw[h3 j hj,yaj ⟨yay _,zO⟩]
  simp
 ·rw[Array.getElem?_eq_none zO]
  simp;omega
section
variable {w0 w:World}{n:Nat}{O:Nat→Ob}{p g:Nat}{A:AWd}{v:RV}{k u x:Nat}
theorem RWx.outGs (hp:RWx w0.heap.size O p g A v) (h:Mem w0 w n O) (hn:p+16≤n){i:Nat}{W7:World}{A7:Option Addr}{c7 n7 B:Nat}(hi:i<A.way.length) (hB:Below w w W7) (hBs:w.heap.size≤B)
  (hown:W7.ownsRow B 199 15 (.slice A7 n7 c7) n7 ((v.gs.take i++v.gs.drop (i+1)).flatMap RGm.cells)) (hn7:(v.gs.take i++v.gs.drop (i+1)).length=n7):zbG w0 (W7.setCell ⟨g,4,none⟩ (.slice A7 n7 c7)) n O p g v.xs v.us (zbh A i):=by
 have hl:=hp.wr.len;have hw0:=h.low.size;have hat:=h.at_ (p+5) zO;rw[hp.b5]at hat
 obtain⟨hr,hd⟩:=hat
 have hmem:∀ m∈v.gs.take i++v.gs.drop (i+1),m∈v.gs:=fun m hm=>by
  rcases yax.1 hm with e|e
  ·exact List.mem_of_mem_take e
  ·exact ybV e
 have hge:∀ b,(Value.slice A7 n7 c7).ownBlock=some b→w.heap.size≤b:=fun b e=>yac hBs (zao hown e).1
 obtain⟨O1,m1,m2,m3⟩:=h.step1 (w':=W7) (i:=p+5) zO (o:=zjh w0.heap.size (.slice A7 n7 c7) (v.gs.take i++v.gs.drop (i+1))) (zjD ..)
  ⟨by rw[hn7];exact own_mono hown zO,fun m hm=>by
    obtain⟨k1,k2⟩:=hd m (hmem m hm);exact⟨k1.below hB,fun b o e=>⟨yab (k2 b o e).1 hB.size,fun e2=>by have:=hge b e2;have:=(k2 b o e).1;omega⟩⟩⟩
  (by rw[hp.b5];exact⟨hB.os,hB.tape,hB.output,hB.size,fun k hk _=>hB.block k hk,fun b e=>.inr (hge b e)⟩)
  (by rw[hp.b5];rintro b ⟨m,hm,o,e⟩;exact .inl ⟨m,hmem m hm,o,e⟩)
 have hb0:O1 (p+0)=_:=(m3 (p+0) zO).trans hp.b0;have h2:=m1.set (i:=p+0) zO hb0 4 (.slice A7 n7 c7);have hwl:=hp.ok.len;refine⟨_,h2,(hp.setWay (way:=A.way.eraseIdx i) (lost:=A.lost) (vG:=.slice A7 n7 c7) (gs:=v.gs.take i++v.gs.drop (i+1)) ?_ ?_ ?_ ?_ ?_ ?_).a,fun k _ hk=>by rw[zah _ zO];exact m3 k zO⟩
 ·rw[List.length_eraseIdx_of_lt hi];omega
 ·exact fun m hm=>hp.ok.way m (List.mem_of_mem_eraseIdx hm)
 ·have:=hp.wr
  unfold zlD at this ⊢;rw[ybZ,ya9,List.map_take,List.map_drop,this]
 ·rw[zaB];rfl
 ·rw[zah _ zO,m2]
 ·exact fun j hj h0 h5=>by rw[zah _ zO];exact m3 _ zO
theorem zbG.fillBox {w1 w2:World}{m b:Nat}{Ox:Nat→Ob}{o o':Obj}{xs us:List Nat}(h:zbG w0 w1 m Ox p g xs us A) (hn:p+16≤n) (hnm:n<m) (ho:Ox n=obB b o w0.heap.size) (hg:w1.grownBy w2 (some b)) (hb:w2.heap[b]?=some o') (he:∀ k,k<n→Ox k=O k):zbG w0 w2 n O p g xs us A:=by
 obtain⟨O1,h1,⟨v1,h3,hx,hu⟩,h4⟩:=h;have h5:=h1.grow hnm ((h4 n hnm (.inr hn)).trans ho) hg hb;exact⟨_,h5.less zO,⟨v1,h3.keep (fun j hj=>zah _ zO),hx,hu⟩,fun k hk hne=>by rw[zah _ zO];exact(h4 k zO hne).trans (he k hk)⟩
theorem zke (hp:RWx w0.heap.size O p g A v) (h:Mem w0 w n O) (hn:p+16≤n) (i:Nat) (hi:i<A.way.length):
  Calls prog 119 #[.pointer (some ⟨g,0,none⟩),ii (i:Nat)] w fun e w'=>∃ m:RGm,e=.returned (.agg m.cells.toArray)∧m.g=A.way.getD i gmZ∧zih A.S m.g∧zaN w' m.A m.g.tx.ws∧zbG w0 w' n O p g v.xs v.us (zbh A i):=by
 have hb:=hp.blk h hn;have hat:=h.at_ (p+5) zO;rw[hp.b5]at hat
 have hgl:g<w.heap.size:=zae hb;have hwr:=hp.wr;have hgsl:v.gs.length=A.way.length:=hp.wr.len;have hm0:v.gs[i]?=some v.gs[i]:=yaa zO;have hmg:(v.gs[i]).g=A.way.getD i gmZ:=by
  have e:A.way[i]?=some (v.gs[i]).g:=by rw[←hwr,yby,hm0];rfl
  rw[List.getD,e];rfl
 have hok:zih A.S (v.gs[i]).g:=by rw[hmg];exact hp.ok.way _ (by rw[List.getD,yaa hi];exact yaw hi)
 obtain⟨hws,hwd0⟩:=hat.2 _ (yaw (l:=v.gs) (n:=i) zO);have hwd:∀ b o,(v.gs[i]).A=some ⟨b,o,none⟩→b<w.heap.size∧b≠g:=fun b o e=>⟨(hwd0 b o e).1,fun e2=>by
  subst e2;exact(h.dis (p+0) (p+5) zO zO zO b (by rw[hp.b0];rfl)).2 (by rw[hp.b5];exact⟨_,yaw (l:=v.gs) (n:=i) zO,o,e⟩)⟩
 clear hwd0;have hown:=hat.1;obtain⟨bG,cG,eG,hb1,hb2⟩:=World.ownsRow.form hown zO;have hcap0:=zhV (by rw[eG]at hown;exact hown);have HCP:=zac (show A.way.length≤cG by omega);have hwg:bG≠g:=fun e=>by
  subst e;exact(h.dis (p+5) (p+0) zO zO zO bG (by rw[hp.b5];show v.vG.ownBlock=_;rw[eG];rfl)).1 (by rw[hp.b0];rfl)
 have hgs:zji w (some ⟨bG,0,none⟩) v.gs:=own_gs (by rw[eG]at hown;exact hown) rfl;rw[eG,hgsl]at hb;have c4:=zaa hb 4;simp only[zC,zD,zE]at c4;have f4:=zab hb 4;have hl3:A.way.length≤300:=hp.ok.len;have hrow:w.rangeAt bG (i*15) (v.gs[i]).cells:=by
  obtain⟨b,o,e,_,hc⟩:=hgs zO;simp only[yaz,yaU]at e;obtain⟨rfl,rfl,_⟩:=e;intro j u hu;have:=hc _ _ (zhj v.gs i _ hm0 j u hu);rwa[yaZ]at this
 have HN0:=zfd (v.gs[i]);obtain⟨m,hm⟩:∃ m,v.gs[i]=m:=⟨_,rfl⟩;rw[hm]at hmg hok hws hwd hrow HN0;clear hm hm0;obtain⟨z0,z1,z2,z3,z4,z5,z6,z7,z8,z9,z10,z11,z12,z13,z14,hmc⟩:∃ z0 z1 z2 z3 z4 z5 z6 z7 z8 z9 z10 z11 z12 z13 z14,m.cells=[z0,z1,z2,z3,z4,z5,z6,z7,z8,z9,z10,z11,z12,z13,z14]:=⟨_,_,_,_,_,_,_,_,_,_,_,_,_,_,_,rfl⟩;rw[hmc]at hrow HN0;have HALL:=zac (all_oneCell_toArray HN0);have hbg:bG<w.heap.size:=hb2;obtain⟨W1,hW1⟩:∃ W1,((w.alloc (.cells #[ii 0,ii 0,ii 0,ii 0,ii 0,ii 0,ii 0,ii 0,ii 0,.slice none 0 0,ii 0,ii 0,ii 0,ii 0,ii 0] 199)).alloc (.cells #[ii 0,ii 0,ii 0,ii 0,ii 0,ii 0,ii 0,ii 0,ii 0,.slice none 0 0,ii 0,ii 0,ii 0,ii 0,ii 0] 199)).setCells (w.heap.size+1) 0 [z0,z1,z2,z3,z4,z5,z6,z7,z8,z9,z10,z11,z12,z13,z14]=W1:=⟨_,rfl⟩;have hk5:((w.alloc (.cells #[ii 0,ii 0,ii 0,ii 0,ii 0,ii 0,ii 0,ii 0,ii 0,.slice none 0 0,ii 0,ii 0,ii 0,ii 0,ii 0] 199)).alloc (.cells #[ii 0,ii 0,ii 0,ii 0,ii 0,ii 0,ii 0,ii 0,ii 0,.slice none 0 0,ii 0,ii 0,ii 0,ii 0,ii 0] 199)).heap[w.heap.size+1]?=some (.cells #[ii 0,ii 0,ii 0,ii 0,ii 0,ii 0,ii 0,ii 0,ii 0,.slice none 0 0,ii 0,ii 0,ii 0,ii 0,ii 0] 199):=zag zS _;have hK5:W1.heap[w.heap.size+1]?=some (.cells #[z0,z1,z2,z3,z4,z5,z6,z7,z8,z9,z10,z11,z12,z13,z14] 199):=by rw[←hW1];exact zh8 (vs:=[z0,z1,z2,z3,z4,z5,z6,z7,z8,z9,z10,z11,z12,z13,z14]) hk5 rfl
 have hgr5:((w.alloc (.cells #[ii 0,ii 0,ii 0,ii 0,ii 0,ii 0,ii 0,ii 0,ii 0,.slice none 0 0,ii 0,ii 0,ii 0,ii 0,ii 0] 199)).alloc (.cells #[ii 0,ii 0,ii 0,ii 0,ii 0,ii 0,ii 0,ii 0,ii 0,.slice none 0 0,ii 0,ii 0,ii 0,ii 0,ii 0] 199)).grownBy W1 (some (w.heap.size+1)):=by rw[←hW1];exact zcg _ _ _ _
 have hK4:W1.heap[w.heap.size]?=some (.cells #[ii 0,ii 0,ii 0,ii 0,ii 0,ii 0,ii 0,ii 0,ii 0,.slice none 0 0,ii 0,ii 0,ii 0,ii 0,ii 0] 199):=(hgr5.block _ zP zS).trans (zaC (zag rfl _) _);have hB1:Below w w W1:=yaE (((yaf _ w).alloc (yai _) _).alloc zS _) hgr5 zP (fun j e=>by simp at e;omega);have hsz1:W1.heap.size=w.heap.size+2:=by rw[←hW1,(zdw _ _ _).1];simp
 have HMX:Hid (∃ O2,Mem w0 W1 (n+2) O2∧RWx w0.heap.size O2 p g A v∧O2 n=obB w.heap.size (.cells #[ii 0,ii 0,ii 0,ii 0,ii 0,ii 0,ii 0,ii 0,ii 0,.slice none 0 0,ii 0,ii 0,ii 0,ii 0,ii 0] 199) w0.heap.size∧∀ k,k<n→O2 k=O k):=zac (by
  obtain⟨O',m1,m2,m3,m4⟩:=h.new2 (.cells #[ii 0,ii 0,ii 0,ii 0,ii 0,ii 0,ii 0,ii 0,ii 0,.slice none 0 0,ii 0,ii 0,ii 0,ii 0,ii 0] 199) (.cells #[ii 0,ii 0,ii 0,ii 0,ii 0,ii 0,ii 0,ii 0,ii 0,.slice none 0 0,ii 0,ii 0,ii 0,ii 0,ii 0] 199);have m5:=m1.grow (i:=n+1) zO m4 hgr5 hK5;exact⟨_,m5,hp.keep (fun j hj=>by rw[zah _ zO];exact m2 _ zO),by rw[zah _ zO];exact m3,fun k hk=>by rw[zah _ zO];exact m2 k hk⟩)
 have HFIN:Hid (∀ (w7:World) (A7:Option Addr) (c7 n7:Nat),Below W1 W1 w7→w7.ownsRow W1.heap.size 199 15 (.slice A7 n7 c7) n7 ((v.gs.take i++v.gs.drop (i+1)).flatMap RGm.cells)→(v.gs.take i++v.gs.drop (i+1)).length=n7→
   zbG w0 ((w7.setCell ⟨g,4,none⟩ (.slice A7 n7 c7)).setCells w.heap.size 0 [z0,z1,z2,z3,z4,z5,z6,z7,z8,z9,z10,z11,z12,z13,z14]) n O p g v.xs v.us (zbh A i)∧zaN ((w7.setCell ⟨g,4,none⟩ (.slice A7 n7 c7)).setCells w.heap.size 0 [z0,z1,z2,z3,z4,z5,z6,z7,z8,z9,z10,z11,z12,z13,z14]) m.A m.g.tx.ws):=zac (by
  intro w7 A7 c7 n7 h1 h2 h3;obtain⟨O2,m1,m2,m3,m4⟩:=HMX.out;have hu:=m2.outGs m1 zO hi h1 (yai _) h2 h3;have hs7:=h1.size;have hk4:(w7.setCell ⟨g,4,none⟩ (.slice A7 n7 c7)).heap[w.heap.size]?=some (.cells #[ii 0,ii 0,ii 0,ii 0,ii 0,ii 0,ii 0,ii 0,ii 0,.slice none 0 0,ii 0,ii 0,ii 0,ii 0,ii 0] 199):=((zan w7 g 4 _).block _ zO zP).trans ((h1.block _ zO).trans hK4);refine⟨hu.fillBox hn zO m3 (zcg _ _ _ _) (zh8 (vs:=[z0,z1,z2,z3,z4,z5,z6,z7,z8,z9,z10,z11,z12,z13,z14]) hk4 rfl) m4,?_⟩;refine zaN.keep (w:=w) hws fun b o e=>?_
  obtain⟨q1,q2⟩:=hwd b o e;have hbg2:b≠g:=q2;rw[((zcg _ w.heap.size 0 [z0,z1,z2,z3,z4,z5,z6,z7,z8,z9,z10,z11,z12,z13,z14]).block b (by rw[World.setCell];simp;omega) zP),(zan w7 g 4 _).block b zO (by simp;exact hbg2),h1.block b zO,hB1.block b q1])
 have HK4:=zac hK4;have HK5:=zac hK5;have HTH:Hid (∀ W9:World,W9.heap[w.heap.size]?=some (.cells #[ii 0,ii 0,ii 0,ii 0,ii 0,ii 0,ii 0,ii 0,ii 0,.slice none 0 0,ii 0,ii 0,ii 0,ii 0,ii 0] 199)→W9.there w.heap.size 0 15):=zac (fun W9 hb j hj=>by
  rw[yaZ];refine⟨?_,zab hb j⟩;rw[zaa hb j];rcases j with _|_|_|_|_|_|_|_|_|_|_|_|_|_|_|j <;> first|rfl|omega)
 have hth5:((w.alloc (.cells #[ii 0,ii 0,ii 0,ii 0,ii 0,ii 0,ii 0,ii 0,ii 0,.slice none 0 0,ii 0,ii 0,ii 0,ii 0,ii 0] 199)).alloc (.cells #[ii 0,ii 0,ii 0,ii 0,ii 0,ii 0,ii 0,ii 0,ii 0,.slice none 0 0,ii 0,ii 0,ii 0,ii 0,ii 0] 199)).there (w.heap.size+1) 0 15:=fun j hj=>by
  rw[yaZ];refine⟨?_,zab hk5 j⟩;rw[zaa hk5 j];rcases j with _|_|_|_|_|_|_|_|_|_|_|_|_|_|_|j <;> first|rfl|omega
 have HXT:=zac (hgs.below (w':=W1) hB1 |>.take i);have HXD0:=zac (hgs.below (w':=W1) hB1 |>.drop (i+1));have C4:=zac ((hB1.cell (p:=⟨g,4,none⟩) hgl).trans c4);have F4:=zac ((yal (a:=⟨g,4,none⟩) (hB1.block g hgl)).trans f4);have hrow2:((w.alloc (.cells #[ii 0,ii 0,ii 0,ii 0,ii 0,ii 0,ii 0,ii 0,ii 0,.slice none 0 0,ii 0,ii 0,ii 0,ii 0,ii 0] 199))).rangeAt bG (i*15) [z0,z1,z2,z3,z4,z5,z6,z7,z8,z9,z10,z11,z12,z13,z14]:=World.rangeAt_alloc hrow _;have htk:(v.gs.take i).length=i:=by simp;omega
 have hdk:(v.gs.drop (i+1)).length=A.way.length-(i+1):=by simp;omega
 have HTK:=zac htk;have HDK:=zac hdk;have hi0:(0:Int)≤(i:Int):=by omega
 have hil:(i:Int)<(A.way.length:Int):=by omega
 have hid:decide ((i:Int)<(A.way.length:Int))=true:=yae hil;have hi1L:(i:Int)+1≤(A.way.length:Int):=by omega
 have hi3:(i:Int)<300:=by omega
 have hwk:IntKind.i64.wrap ((i:Int)+1)=(i:Int)+1:=by rw[ybm];omega
 have htn:((i:Int)+1).toNat=i+1:=by omega
 have h0k:(0:Int)≤(i:Int)+1:=by omega
 have HOK:=zac hok;have HMG:=zac hmg;haveI:zaj (g+1) w:=⟨hgl⟩;haveI:zaj (bG+1) w:=⟨hbg⟩;haveI:zaj (g+1) W1:=⟨zO⟩;have hgl1:g<W1.heap.size:=by omega
 have hgb:¬(g=bG):=fun e=>hwg e.symm
 have HMC:=zac hmc;clear hb hat hwr hgsl hmg hok hws hown hcap0 hgs f4 hrow HN0 hmc hwd htk hdk HMX hk5 hK5 hgr5 hK4 hB1 hp h hn;generalize A.way.length=l at *;generalize v.gs=gs at *;go_enter func119,ntmps119;go_upto_region 2 with (first
  | refine wpList_load_mid rfl 199 (.tmp 11) rfl bG (i*15) (by simp[Act.eval]) [z0,z1,z2,z3,z4,z5,z6,z7,z8,z9,z10,z11,z12,z13,z14] _ hrow2 underlying199 rfl zJ ?_
  | refine wpList_store_mid rfl 199 (.tmp 5) (.tmp 12) rfl (w.heap.size+1) 0 #[z0,z1,z2,z3,z4,z5,z6,z7,z8,z9,z10,z11,z12,z13,z14] zM zM hth5 zJ HALL.out ?_)
 rw[show((w.alloc (.cells #[ii 0,ii 0,ii 0,ii 0,ii 0,ii 0,ii 0,ii 0,ii 0,.slice none 0 0,ii 0,ii 0,ii 0,ii 0,ii 0] 199)).alloc (.cells #[ii 0,ii 0,ii 0,ii 0,ii 0,ii 0,ii 0,ii 0,ii 0,.slice none 0 0,ii 0,ii 0,ii 0,ii 0,ii 0] 199)).setCells (w.heap.size+1) 0 (#[z0,z1,z2,z3,z4,z5,z6,z7,z8,z9,z10,z11,z12,z13,z14]:Array Value).toList=W1 from hW1];clear hrow2 hth5 c4 hW1;have c4:=C4.out;have f4:=F4.out;by_cases hck:cG=i+1
 ·have HXD:Hid (zji W1 (some ⟨bG,0,none⟩) (gs.drop (i+1))):=zac (fun hL=>by
   have:=HDK.out;have:=HCP.out;omega)
  subst hck;have hkc:(i:Int)≤(i:Int)+1:=by omega
  have hLc:(l:Int)≤(i:Int)+1:=by have:=HCP.out;omega
  have HSK:Hid (∀ X:World,Below W1 W1 X→Below W1 W1 X∧X.cell? ⟨g,4,none⟩=some (.slice (some ⟨bG,0,none⟩) l (i+1))∧X.frozen? ⟨g,4,none⟩=false):=zac (fun Z hb=>⟨hb,(hb.cell (p:=⟨g,4,none⟩) hgl1).trans c4,(yal (a:=⟨g,4,none⟩) (hb.block g hgl1)).trans f4⟩);clear c4 f4;refine zbc 17 (S:=(fun X:World=>Below W1 W1 X∧X.cell? ⟨g,4,none⟩=some (.slice (some ⟨bG,0,none⟩) l (i+1))∧X.frozen? ⟨g,4,none⟩=false)) zK zK ?_ (fun hHeld=>?_)
  ·exact HSK.out _ zV
  simp only[yat,yaQ,yau,yaA];refine zat 0 hHeld ?_;refine zat 2 hHeld ?_;refine zat 3 hHeld ?_;refine zat 4 hHeld ?_;refine zat 5 hHeld ?_;refine zat 6 hHeld ?_;refine zat 7 hHeld ?_;refine zat 9 hHeld ?_;refine zat 10 hHeld ?_;refine zat 11 hHeld ?_;refine zat 12 hHeld ?_;refine zat 13 hHeld ?_;refine zat 14 hHeld ?_;refine zat 15 hHeld ?_;refine zaR [1] (zaU rfl (fun K hK=>?_) ?_)
  ·go_simp
   refine zbg hK (HSK.out _ zV) ?_;clear hHeld hK K;intro hHeld;refine zaR [8] (zaU rfl (fun K hK=>?_) ?_)
   ·refine zdD _ rfl (.tmp 14) (.tmp 20) rfl W1.heap.size W1.heap.size zM (by rw[zaq];exact zag rfl _) (yai _) (some ⟨bG,0,none⟩) (i+1) (gs.take i) (by rw[HTK.out];simp[Act.eval,Act.put]) (HXT.out.below hHeld.1) (by rw[HTK.out];omega) ?_
    intro A6 c6 w6 hown6 hgrow6;have HB6:=zac (yaE hHeld.1 hgrow6 hHeld.1.size (fun j e=>by simp at e;omega));have HO6:=zac hown6;haveI hs1:zaj W1.heap.size w6:=⟨HB6.out.size⟩;clear hown6 hgrow6;refine zbg hK (HSK.out _ zV) ?_;clear hHeld hK K;intro hHeld;refine zaR [16] (zaU rfl (fun K hK=>?_) ?_)
    ·refine zdb _ rfl (.tmp 21) (.tmp 28) rfl W1.heap.size (.slice A6 (gs.take i).length c6) (gs.take i).length (gs.take i) zM HO6.out (some ⟨bG,0,none⟩) ((i+1)-(i+1)) (gs.drop (i+1)) (by rw[HDK.out];simp[Act.eval,Act.put] <;> omega) (HXD.out.below hHeld.1) (by rw[HDK.out,HTK.out];omega) hHeld.1.size rfl ?_
     intro A7 c7 w7 hown7 hgrow7 hat7;have HB7:=zac (yaE HB6.out hgrow7 HB6.out.size (fun b e=>(zao HO6.out e).1));obtain⟨n7,hn7⟩:∃ n7,(gs.take i++gs.drop (i+1)).length=n7:=⟨_,rfl⟩;rw[hn7]at hown7 ⊢;have HE7:=zac (HFIN.out w7 A7 c7 n7 HB7.out hown7 hn7);clear hown7 hgrow7 hat7 hn7;refine zbg hK (HSK.out _ zV) ?_;clear hHeld hK K;intro hHeld;refine wpAnyH_done zK ?_ _;refine zes.normal ?_;have k8:=hHeld.2.1;have k9:=hHeld.2.2;clear hHeld;haveI hs3:zaj (g+1) w7:=⟨by have:=HB7.out.size;omega⟩;go_upto_region 3 with fail;have HR4:=zac (((zan w7 g 4 (.slice A7 n7 c7)).block w.heap.size (by have:=HB7.out.size;omega) zP).trans ((HB7.out.block _ zO).trans HK4.out));have HR5:=zac (((zan w7 g 4 (.slice A7 n7 c7)).block (w.heap.size+1) (by have:=HB7.out.size;omega) zP).trans ((HB7.out.block _ zO).trans HK5.out));clear k8 k9 HB7 HB6 HO6 HSK;generalize w7.setCell ⟨g,4,none⟩ (.slice A7 n7 c7)=W9 at *;have hsz4:w.heap.size<W9.heap.size:=zae HR4.out;have hsz5:w.heap.size+1<W9.heap.size:=zae HR5.out;haveI:zaj (w.heap.size+1) W9:=⟨hsz4⟩;haveI:zaj (w.heap.size+1+1) W9:=⟨hsz5⟩;have hth:=HTH.out W9 HR4.out;go_wp2_with (first
      | refine wpList_load_mid rfl 199 (.tmp 5) rfl (w.heap.size+1) 0 (by simp[Act.eval]) [z0,z1,z2,z3,z4,z5,z6,z7,z8,z9,z10,z11,z12,z13,z14] _ (zf6 HR5.out) underlying199 rfl zJ ?_
      | refine wpList_store_mid rfl 199 (.tmp 4) (.tmp 32) rfl w.heap.size 0 #[z0,z1,z2,z3,z4,z5,z6,z7,z8,z9,z10,z11,z12,z13,z14] zM zM hth zJ HALL.out ?_)
     have HR6:=zac (zh8 HR4.out (vs:=[z0,z1,z2,z3,z4,z5,z6,z7,z8,z9,z10,z11,z12,z13,z14]) rfl);clear HR4 HR5 hth;generalize W9.setCells w.heap.size 0 [z0,z1,z2,z3,z4,z5,z6,z7,z8,z9,z10,z11,z12,z13,z14]=WA at *;refine yag (results_cell_row results119 _ _ w.heap.size 199 #[z0,z1,z2,z3,z4,z5,z6,z7,z8,z9,z10,z11,z12,z13,z14] _ _ (by rfl) HR6.out underlying199 rfl zK) rfl ?_;exact⟨m,by rw[HMC.out],HMG.out,HOK.out,HE7.out.2,HE7.out.1⟩
    exact AllReadyH.nil
   exact AllReadyH.nil
  exact AllReadyH.nil
 ·have HXD:=HXD0
  have hkc:(i:Int)≤(cG:Int):=by have:=HCP.out;omega
  have hLc:(l:Int)≤(cG:Int):=by have:=HCP.out;omega
  have HSK:Hid (∀ X:World,Below W1 W1 X→Below W1 W1 X∧X.cell? ⟨g,4,none⟩=some (.slice (some ⟨bG,0,none⟩) l cG)∧X.frozen? ⟨g,4,none⟩=false):=zac (fun Z hb=>⟨hb,(hb.cell (p:=⟨g,4,none⟩) hgl1).trans c4,(yal (a:=⟨g,4,none⟩) (hb.block g hgl1)).trans f4⟩);clear c4 f4;refine zbc 17 (S:=(fun X:World=>Below W1 W1 X∧X.cell? ⟨g,4,none⟩=some (.slice (some ⟨bG,0,none⟩) l cG)∧X.frozen? ⟨g,4,none⟩=false)) zK zK ?_ (fun hHeld=>?_)
  ·exact HSK.out _ zV
  simp only[yat,yaQ,yau,yaA];refine zat 0 hHeld ?_;refine zat 2 hHeld ?_;refine zat 3 hHeld ?_;refine zat 4 hHeld ?_;refine zat 5 hHeld ?_;refine zat 6 hHeld ?_;refine zat 7 hHeld ?_;refine zat 9 hHeld ?_;refine zat 10 hHeld ?_;refine zat 11 hHeld ?_;refine zat 12 hHeld ?_;refine zat 13 hHeld ?_;refine zat 14 hHeld ?_;refine zat 15 hHeld ?_;refine zaR [1] (zaU rfl (fun K hK=>?_) ?_)
  ·go_simp
   refine zbg hK (HSK.out _ zV) ?_;clear hHeld hK K;intro hHeld;refine zaR [8] (zaU rfl (fun K hK=>?_) ?_)
   ·refine zdD _ rfl (.tmp 14) (.tmp 20) rfl W1.heap.size W1.heap.size zM (by rw[zaq];exact zag rfl _) (yai _) (some ⟨bG,0,none⟩) cG (gs.take i) (by rw[HTK.out];simp[Act.eval,Act.put]) (HXT.out.below hHeld.1) (by rw[HTK.out];omega) ?_
    intro A6 c6 w6 hown6 hgrow6;have HB6:=zac (yaE hHeld.1 hgrow6 hHeld.1.size (fun j e=>by simp at e;omega));have HO6:=zac hown6;haveI hs1:zaj W1.heap.size w6:=⟨HB6.out.size⟩;clear hown6 hgrow6;refine zbg hK (HSK.out _ zV) ?_;clear hHeld hK K;intro hHeld;refine zaR [16] (zaU rfl (fun K hK=>?_) ?_)
    ·refine zdb _ rfl (.tmp 21) (.tmp 28) rfl W1.heap.size (.slice A6 (gs.take i).length c6) (gs.take i).length (gs.take i) zM HO6.out (some ⟨bG,0+(i+1)*15,none⟩) (cG-(i+1)) (gs.drop (i+1)) (by rw[HDK.out];simp[Act.eval,Act.put] <;> omega) (HXD.out.below hHeld.1) (by rw[HDK.out,HTK.out];omega) hHeld.1.size rfl ?_
     intro A7 c7 w7 hown7 hgrow7 hat7;have HB7:=zac (yaE HB6.out hgrow7 HB6.out.size (fun b e=>(zao HO6.out e).1));obtain⟨n7,hn7⟩:∃ n7,(gs.take i++gs.drop (i+1)).length=n7:=⟨_,rfl⟩;rw[hn7]at hown7 ⊢;have HE7:=zac (HFIN.out w7 A7 c7 n7 HB7.out hown7 hn7);clear hown7 hgrow7 hat7 hn7;refine zbg hK (HSK.out _ zV) ?_;clear hHeld hK K;intro hHeld;refine wpAnyH_done zK ?_ _;refine zes.normal ?_;have k8:=hHeld.2.1;have k9:=hHeld.2.2;clear hHeld;haveI hs3:zaj (g+1) w7:=⟨by have:=HB7.out.size;omega⟩;go_upto_region 3 with fail;have HR4:=zac (((zan w7 g 4 (.slice A7 n7 c7)).block w.heap.size (by have:=HB7.out.size;omega) zP).trans ((HB7.out.block _ zO).trans HK4.out));have HR5:=zac (((zan w7 g 4 (.slice A7 n7 c7)).block (w.heap.size+1) (by have:=HB7.out.size;omega) zP).trans ((HB7.out.block _ zO).trans HK5.out));clear k8 k9 HB7 HB6 HO6 HSK;generalize w7.setCell ⟨g,4,none⟩ (.slice A7 n7 c7)=W9 at *;have hsz4:w.heap.size<W9.heap.size:=zae HR4.out;have hsz5:w.heap.size+1<W9.heap.size:=zae HR5.out;haveI:zaj (w.heap.size+1) W9:=⟨hsz4⟩;haveI:zaj (w.heap.size+1+1) W9:=⟨hsz5⟩;have hth:=HTH.out W9 HR4.out;go_wp2_with (first
      | refine wpList_load_mid rfl 199 (.tmp 5) rfl (w.heap.size+1) 0 (by simp[Act.eval]) [z0,z1,z2,z3,z4,z5,z6,z7,z8,z9,z10,z11,z12,z13,z14] _ (zf6 HR5.out) underlying199 rfl zJ ?_
      | refine wpList_store_mid rfl 199 (.tmp 4) (.tmp 32) rfl w.heap.size 0 #[z0,z1,z2,z3,z4,z5,z6,z7,z8,z9,z10,z11,z12,z13,z14] zM zM hth zJ HALL.out ?_)
     have HR6:=zac (zh8 HR4.out (vs:=[z0,z1,z2,z3,z4,z5,z6,z7,z8,z9,z10,z11,z12,z13,z14]) rfl);clear HR4 HR5 hth;generalize W9.setCells w.heap.size 0 [z0,z1,z2,z3,z4,z5,z6,z7,z8,z9,z10,z11,z12,z13,z14]=WA at *;refine yag (results_cell_row results119 _ _ w.heap.size 199 #[z0,z1,z2,z3,z4,z5,z6,z7,z8,z9,z10,z11,z12,z13,z14] _ _ (by rfl) HR6.out underlying199 rfl zK) rfl ?_;exact⟨m,by rw[HMC.out],HMG.out,HOK.out,HE7.out.2,HE7.out.1⟩
    exact AllReadyH.nil
   exact AllReadyH.nil
  exact AllReadyH.nil
end
section
variable {w0 w:World}{n:Nat}{O:Nat→Ob}{p g:Nat}{A:AWd}{v:RV}{k u x:Nat}
theorem RWx.gram (hp:RWx w0.heap.size O p g A v) (h:Mem w0 w n O) (hn:p+16≤n){i:Nat}(hi:i<A.way.length):∃ (m:RGm) (bG cG:Nat),v.vG=.slice (some ⟨bG,0,none⟩) A.way.length cG∧bG<w.heap.size∧bG≠g∧A.way.length≤cG∧m.g=A.way.getD i gmZ∧zih A.S m.g∧w.rangeAt bG (i*15) m.cells∧zaN w m.A m.g.tx.ws∧∀ b o,m.A=some ⟨b,o,none⟩→b<w.heap.size∧∀ k,k<n→¬(O k).own b:=by
 have hat:=h.at_ (p+5) zO;rw[hp.b5]at hat
 have hwr:=hp.wr;have hgsl:v.gs.length=A.way.length:=hp.wr.len;have hm0:v.gs[i]?=some v.gs[i]:=yaa zO;have hmg:(v.gs[i]).g=A.way.getD i gmZ:=by
  have e:A.way[i]?=some (v.gs[i]).g:=by rw[←hwr,yby,hm0];rfl
  rw[List.getD,e];rfl
 have hok:zih A.S (v.gs[i]).g:=by rw[hmg];exact hp.ok.way _ (by rw[List.getD,yaa hi];exact yaw hi)
 obtain⟨hws,hwd0⟩:=hat.2 _ (yaw (l:=v.gs) (n:=i) zO);have hown:=hat.1;obtain⟨bG,cG,eG,hb1,hb2⟩:=World.ownsRow.form hown zO;have hcap0:=zhV (by rw[eG]at hown;exact hown);have hwg:bG≠g:=fun e=>by
  subst e;exact(h.dis (p+5) (p+0) zO zO zO bG (by rw[hp.b5];show v.vG.ownBlock=_;rw[eG];rfl)).1 (by rw[hp.b0];rfl)
 have hgs:zji w (some ⟨bG,0,none⟩) v.gs:=own_gs (by rw[eG]at hown;exact hown) rfl;refine⟨v.gs[i],bG,cG,by rw[←hgsl];exact eG,hb2,hwg,zO,hmg,hok,?_,hws,fun b o e=>⟨(hwd0 b o e).1,fun k hk e2=>?_⟩⟩
 ·obtain⟨b,o,e,_,hc⟩:=hgs zO
  simp only[yaz,yaU]at e;obtain⟨rfl,rfl,_⟩:=e;intro j u hu;have:=hc _ _ (zhj v.gs i _ hm0 j u hu);rwa[yaZ]at this
 ·by_cases e3:k=p+5
  ·subst e3
   rw[hp.b5]at e2;exact(hwd0 b o e).2 e2
  ·exact(h.dis k (p+5) hk zO e3 b e2).2 (by rw[hp.b5];exact⟨_,yaw (l:=v.gs) (n:=i) zO,o,e⟩)
theorem zmy (hp:RWx w0.heap.size O p g A v) (h:Mem w0 w n O) (hn:p+16≤n) (i:Nat) (hi:i<A.way.length):
  Calls prog 120 #[.pointer (some ⟨g,0,none⟩),ii (i:Nat)] w fun e w'=>e=.returned (.tuple #[])∧zbG w0 w' n O p g v.xs v.us (zc0 A i):=by
 have hb:=hp.blk h hn;obtain⟨m,bG,cG,eG,hbg,hwg,hcap,hmg,hok,hrow,hws,hwd⟩:=hp.gram h hn hi;rw[eG]at hb;have c4:=zaa hb 4;simp only[zC,zD,zE]at c4;have hgl:g<w.heap.size:=zae hb;have hl3:A.way.length≤300:=hp.ok.len;have HSD:=zac (fun W (hW:Below w w W)=>zeH hp (h.below hW) hn m hok (hws.below hW) (fun b o e=>⟨yab (hwd b o e).1 hW.size,(hwd b o e).2⟩));rw[show zaJ A m.g=zc0 A i by unfold zc0;rw[hmg]]at HSD;obtain⟨z0,z1,z2,z3,z4,z5,z6,z7,z8,z9,z10,z11,z12,z13,z14,hmc⟩:∃ z0 z1 z2 z3 z4 z5 z6 z7 z8 z9 z10 z11 z12 z13 z14,m.cells=[z0,z1,z2,z3,z4,z5,z6,z7,z8,z9,z10,z11,z12,z13,z14]:=⟨_,_,_,_,_,_,_,_,_,_,_,_,_,_,_,rfl⟩;rw[hmc]at hrow HSD;have hi0:(0:Int)≤(i:Int):=by omega
 have hil:(i:Int)<(A.way.length:Int):=by omega
 have hid:decide ((i:Int)<(A.way.length:Int))=true:=yae hil;haveI:zaj (g+1) w:=⟨hgl⟩;haveI:zaj (bG+1) w:=⟨hbg⟩;clear hb eG hcap hmg hok hws hwd hmc hi hp h hn hwg hl3;generalize A.way.length=l at *;go_enter func120,ntmps120;go_wp2_with (refine wpList_load_mid rfl 199 (.tmp 10) rfl bG (i*15) (by simp[Act.eval]) [z0,z1,z2,z3,z4,z5,z6,z7,z8,z9,z10,z11,z12,z13,z14] _ hrow underlying199 rfl zJ ?_);go_at_call 158;refine(HSD.out _ zB).mono ?_;rintro e w1 ⟨rfl,hu⟩;have HU:=zac hu;clear hu HSD;go_wp2_with fail;refine ybi (ya3 rfl _ _ _) rfl ⟨rfl,?_⟩
 first|exact HU.out|exact HU.out.then zB
theorem RWx.askOk (hp:RWx w0.heap.size O p g A v){k:Nat}(hk:k<A.S):zeL (k:Int) (A.si k).p0 (A.si k).p1 (A.si k).p2 (A.si k).p3=true:=by
 obtain⟨x,hx⟩:=hp.xk hk;exact(hp.si k x hx).rlg.2 k (by have:=hp.ok.S;omega)
theorem zmx (hp:RWx w0.heap.size O p g A v) (h:Mem w0 w n O) (hn:p+16≤n) (k o:Nat) (hk:k<A.S) (ho:o<A.S):
  Calls prog 117 #[.pointer (some ⟨g,0,none⟩),ii (k:Nat),ii (o:Nat)] w fun e w'=>e=.returned (.tuple #[])∧zbG w0 w' n O p g v.xs v.us (zc2 A k o):=by
 have hb:=hp.blk h hn;obtain⟨x,hx⟩:=hp.xk hk;obtain⟨hxl,_,e1,e2,e3,e4,_⟩:=hp.xCells h hn hx;obtain⟨bS,cS,eS,_,lS,kS,fS⟩:=zbl h (i:=p+1) zO hp.b1 zO;have x1:=kS k _ hk (zbt hx);have hS4:=hp.ok.S.2;rw[eS]at hb;have c0:=zaa hb 0;simp only[zC,zD,zE]at c0;have hgl:g<w.heap.size:=zae hb;have HSD:=zac (fun W (hW:Below w w W)=>zeH hp (h.below hW) hn ⟨zdl A k o,none,0⟩ ⟨ho,fun e=>absurd e (by simp[zdl,txZP]),fun _=>⟨hk,hp.askOk hk⟩⟩ (fun i b e=>by simp[zdl,txZP]at e) (fun b o e=>by cases e));rw[show zaJ A (RGm.g ⟨zdl A k o,none,0⟩)=zc2 A k o from rfl]at HSD;simp only[RGm.cells,zdl,txZP,yaB]at HSD;haveI:zaj (g+1) w:=⟨hgl⟩;haveI:zaj (bS+1) w:=⟨lS⟩;haveI:zaj (x+1) w:=⟨hxl⟩;have hk0:(0:Int)≤(k:Int):=by omega
 have hkl:(k:Int)<(A.S:Int):=by omega
 have hkd:decide ((k:Int)<(A.S:Int))=true:=yae hkl;have hS4i:(A.S:Int)≤4:=by omega
 have hk4:(k:Int)<4:=by omega
 clear hb eS kS fS hx hk ho hp h hn hS4;generalize A.S=S at *;generalize (A.si k).p0=e0 at *;generalize (A.si k).p1=f1 at *;generalize (A.si k).p2=f2 at *;generalize (A.si k).p3=f3 at *;go_enter func117,ntmps117;go_wp2_with fail;go_at_call 158;refine(HSD.out _ zB).mono ?_;rintro e w1 ⟨rfl,hu⟩;have HU:=zac hu;clear hu HSD;go_wp2_with fail;refine ybi (ya3 rfl _ _ _) rfl ⟨rfl,?_⟩
 first|exact HU.out|exact HU.out.then zB
end
section
variable {w0 w:World}{n:Nat}{O:Nat→Ob}{p g:Nat}{A:AWd}{v:WV}{k u x:Nat}
theorem ziQ {α β:Type}(f:α→β) (l:List α) (i:Nat):(l.eraseIdx i).map f=(l.map f).eraseIdx i:=by
 simp only[ybZ,ya9,List.map_take,List.map_drop]
theorem zgj {α:Type}{l:List α}{i:Nat}{x:α}(h:x∈l.eraseIdx i):x∈l:=List.mem_of_mem_eraseIdx h
theorem ziR {α:Type}{l:List α}{i:Nat}(h:i<l.length):(l.eraseIdx i).length=l.length-1:=List.length_eraseIdx_of_lt h
theorem PWx.outWay (hp:PWx w0.heap.size O p g A v) (h:Mem w0 w n O) (hn:p+16≤n){i b c:Nat}{W4:World}(hi:i<A.way.length) (hv:v.vG=.slice (some ⟨b,0,none⟩) A.way.length c)
  (hown:W4.ownsRow w0.heap.size 243 2 (.slice (some ⟨b,0,none⟩) (A.way.length-1) c) (A.way.length-1) ((v.gs.eraseIdx i).flatMap MGm.cells)) (hg:w.grownBy W4 (some b)):
  ∃ O',Mem w0 (W4.setCell ⟨g,4,none⟩ (.slice (some ⟨b,0,none⟩) (A.way.length-1) c)) n O'∧PWx w0.heap.size O' p g (zbh A i) { v with vG:=.slice (some ⟨b,0,none⟩) (A.way.length-1) c,gs:=v.gs.eraseIdx i }∧∀ k,k<n→(k<p∨p+16≤k)→O' k=O k:=by
 have hl:=hp.wr.len;have hat:=h.at_ (p+5) zO;rw[hp.b5]at hat
 obtain⟨hr,hd⟩:=hat
 have hel:(v.gs.eraseIdx i).length=A.way.length-1:=by rw[ziR zO,hl]
 have hob:v.vG.ownBlock=some b:=by rw[hv];rfl
 have hblk:∀ k,k<w.heap.size→v.vG.ownBlock≠some k→W4.heap[k]?=w.heap[k]?:=fun k hk hne=>hg.block k hk (fun e=>hne (hob.trans e.symm))
 have k1:(zdR w0.heap.size (.slice (some ⟨b,0,none⟩) (A.way.length-1) c) (v.gs.eraseIdx i)).at_ W4:=by
  refine⟨by rw[hel];exact hown,fun m hm=>?_⟩;obtain⟨j1,j2⟩:=hd m (zgj hm);refine⟨j1.same hg.size fun b' o e=>hblk b' (j2 b' o e).1 (j2 b' o e).2,fun b' o e=>⟨yab (j2 b' o e).1 hg.size,fun e2=>(j2 b' o e).2 (hob.trans e2)⟩⟩
 obtain⟨O1,m1,m2,m3⟩:=h.step1 (i:=p+5) zO (o:=zdR w0.heap.size (.slice (some ⟨b,0,none⟩) (A.way.length-1) c) (v.gs.eraseIdx i)) (zhW ..) k1
  (by rw[hp.b5];exact⟨hg.os,hg.tape,hg.output,hg.size,fun k hk hne=>hblk k hk hne,fun k e=>.inl (hob.trans e)⟩) (by rw[hp.b5];exact fun k ⟨m,hm,o,e⟩=>.inl ⟨m,zgj hm,o,e⟩)
 have hb0:O1 (p+0)=_:=(m3 (p+0) zO).trans hp.b0;have h2:=m1.set (i:=p+0) zO hb0 4 (.slice (some ⟨b,0,none⟩) (A.way.length-1) c);refine⟨_,h2,hp.setWay (way:=A.way.eraseIdx i) (lost:=A.lost) (vG:=.slice (some ⟨b,0,none⟩) (A.way.length-1) c) (gs:=v.gs.eraseIdx i) (by rw[ziR hi];have:=hp.ok.len;omega) (fun m hm=>hp.ok.way m (zgj hm)) ?_ ?_ ?_ ?_,fun k _ hk=>by rw[zah _ zO];exact m3 k zO⟩
 ·have:=hp.wr
  unfold zhu at this ⊢;rw[ziQ,ziQ,this]
 ·rw[zaB];rfl
 ·rw[zah _ zO,m2]
 ·exact fun j hj h0 h5=>by rw[zah _ zO];exact m3 _ zO
theorem PWx.rowG (hp:PWx w0.heap.size O p g A v) (h:Mem w0 w n O) (hn:p+16≤n) (h0:0<A.way.length):∃ b c,v.vG=.slice (some ⟨b,0,none⟩) A.way.length c∧b<w.heap.size∧b≠g∧w.ownsRow w0.heap.size 243 2 (.slice (some ⟨b,0,none⟩) A.way.length c) A.way.length (v.gs.flatMap MGm.cells)∧
  (∀ i m,v.gs[i]?=some m→w.cell? ⟨b,i*2,none⟩=some (ii (m.tgt:Int))∧w.cell? ⟨b,i*2+1,none⟩=some (.slice m.A m.l.length m.c)∧zbp w w.heap.size (.slice m.A m.l.length m.c) m.l∧∀ b' o,m.A=some ⟨b',o,none⟩→b'<w.heap.size∧b'≠b∧b'≠g)∧∀ k,w.frozen? ⟨b,k,none⟩=false:=by
 have hl:=hp.wr.len;have hat:=h.at_ (p+5) zO;rw[hp.b5]at hat
 obtain⟨hr,hd⟩:=hat
 rw[hl]at hr;obtain⟨b,c,e⟩:=World.ownsRow.form hr h0;obtain⟨e,_,hlt⟩:=e;rw[e]at hr;refine⟨b,c,e,hlt,fun e2=>?_,hr,fun i m hm=>?_,fun k=>hr.frozenAt k⟩
 ·have:=(h.dis (p+5) (p+0) zO zO zO b (by rw[hp.b5,e];rfl)).1
  exact this (by rw[hp.b0,e2];rfl)
 ·have hi:=zaI hm
  have a0:=zh6 zda v.gs i m hm 0 zO;have a1:=zh6 zda v.gs i m hm 1 zO;have hgd:=(h.dis (p+0) (p+5) zO zO zO g (by rw[hp.b0];rfl)).2;rw[hp.b5]at hgd;refine⟨?_,?_,(hd m (ybo hm)).1,fun b' o e2=>⟨((hd m (ybo hm)).2 b' o e2).1,fun e3=>((hd m (ybo hm)).2 b' o e2).2 (by rw[e,e3];rfl),fun e3=>hgd ⟨m,ybo hm,o,by rw[←e3];exact e2⟩⟩⟩
  ·rw[hr.cellAt (i*2) zO];exact a0
  ·rw[hr.cellAt (i*2+1) zO];exact a1
theorem PWx.gm (hp:PWx w0.heap.size O p g A v) (h:Mem w0 w n O) (hn:p+16≤n){i:Nat}{gm:GmP}(hg:A.way[i]?=some gm):∃ m,v.gs[i]?=some m∧m.tgt=gm.tgt∧m.l=gmB gm∧zih A.S gm:=by
 have h1:=yaS (fun l=>l[i]?) hp.wr;simp only[yby,hg,Option.map_some]at h1;obtain⟨m,h2,h3⟩:=ya6.1 h1;simp only[ybc]at h3;exact⟨m,h2,h3.1,h3.2,hp.ok.way gm (ybo hg)⟩
theorem wLose_ok (hp:PWx w0.heap.size O p g A v) (h:Mem w0 w n O) (hn:p+16≤n){i:Nat}(hi:i<A.way.length):
  Calls prog 109 #[.pointer (some ⟨g,0,none⟩),ii (i:Nat)] w fun e w'=>e=.returned .nilIface∧zbF w0 w' n O p g v.xs v.us (zbh A i):=by
 have hb:=hp.blk h hn;obtain⟨b,c,eG,hbl,hbg,hown,_,_⟩:=hp.rowG h hn zO;have HO:=zac (fun(W4:World) (h1:_) (h2:_)=>hp.outWay (W4:=W4) h hn hi eG h1 h2);have hl:=hp.wr.len;have hi0:(0:Int)≤(i:Int):=by omega
 have hi1:(i:Int)<300:=by have:=hp.ok.len;omega
 rw[←hl]at hown hi;have HD:=zac (zjT w0.heap.size b c i v.gs w hown hi (by have:=hp.ok.len;omega));rw[hl]at HD hi;rw[eG]at hb;have c4:=zaa hb 4;simp only[zC,zD,zE]at c4;have f4:=zab hb 4;have hgl:g<w.heap.size:=zae hb;haveI:zaj (g+1) w:=⟨hgl⟩;have HNE:Hid (∀ W4:World,w.grownBy W4 (some b)→(W4.cell? ⟨g,4,none⟩=some (.slice (some ⟨b,0,none⟩) A.way.length c)∧W4.frozen? ⟨g,4,none⟩=false)∧g<W4.heap.size):=zac (fun W4 hg=>by
  have hblk:=hg.block g hgl (fun e=>hbg (yaI e).symm);exact⟨⟨(yam (a:=⟨g,4,none⟩) hblk).trans c4,(yal (a:=⟨g,4,none⟩) hblk).trans f4⟩,yab hgl hg.size⟩)
 clear hb eG hown hl hp h hn;generalize A.way.length=l at *;have d0:decide ((i:Int)<0)=false:=zU;have d1:decide ((l:Int)≤(i:Int))=false:=zU;have d2:decide (l≤i)=false:=zU;have HI:=zac hi;clear hi;go_enter func109,ntmps109;go_wp2_with fail;go_at_call 148;refine HD.out.mono ?_;rintro e W4 ⟨rfl,h1,h2⟩;obtain⟨⟨q1,q2⟩,q3⟩:=HNE.out W4 h2;have HX:=zac (HO.out W4 h1 h2);haveI:zaj (g+1) W4:=⟨q3⟩;clear h1 h2 HO HD HNE q3;go_wp2_with fail;go_ret;obtain⟨O',k1,k2,k3⟩:=HX.out;exact⟨rfl,O',k1,k2.a,k3⟩
theorem zlT (hp:PWx w0.heap.size O p g A v) (h:Mem w0 w n O) (hn:p+16≤n) (i:Int) (hi:i<0∨(A.way.length:Int)≤i):
  Calls prog 109 #[.pointer (some ⟨g,0,none⟩),i] w fun e w'=>e=.returned (.iface 29 (ii 2))∧Below w w w':=by
 have hb:=hp.blk h hn;obtain⟨aG,cG,eG⟩:=zd0 h (i:=p+5) zO hp.b5;rw[hp.wr.len]at eG;rw[eG]at hb;have c4:=zaa hb 4;simp only[zC,zD,zE]at c4;haveI:zaj (g+1) w:=⟨zae hb⟩;clear hb eG hp h hn;generalize A.way.length=l at *;by_cases h0:i<0
 ·have d0:decide (i<0)=true:=yae h0
  clear hi h0;go_enter func109,ntmps109;go_wp2_with fail;go_ret;exact⟨rfl,zB⟩
 ·have d0:decide (i<0)=false:=yah h0
  have d1:decide ((l:Int)≤i)=true:=zT;clear hi h0;go_enter func109,ntmps109;go_wp2_with fail;go_ret;exact⟨rfl,zB⟩
theorem zky (hp:PWx w0.heap.size O p g A v) (h:Mem w0 w n O) (hn:p+16≤n) (i:Int) (hi:i<0∨(A.way.length:Int)≤i):
  Calls prog 110 #[.pointer (some ⟨g,0,none⟩),i] w fun e w'=>e=.returned (.iface 29 (ii 2))∧Below w w w':=by
 have hb:=hp.blk h hn;obtain⟨aG,cG,eG⟩:=zd0 h (i:=p+5) zO hp.b5;rw[hp.wr.len]at eG;rw[eG]at hb;have c4:=zaa hb 4;simp only[zC,zD,zE]at c4;haveI:zaj (g+1) w:=⟨zae hb⟩;clear hb eG hp h hn;generalize A.way.length=l at *;by_cases h0:i<0
 ·have d0:decide (i<0)=true:=yae h0
  clear hi h0;go_enter func110,ntmps110;go_wp2_with fail;go_ret;exact⟨rfl,zB⟩
 ·have d0:decide (i<0)=false:=yah h0
  have d1:decide ((l:Int)≤i)=true:=zT;clear hi h0;go_enter func110,ntmps110;go_wp2_with fail;go_ret;exact⟨rfl,zB⟩
theorem zim (hp:PWx w0.heap.size O p g A v) (h:Mem w0 w n O) (hn:p+16≤n) (i:Int) (hi:i<0∨(A.way.length:Int)≤i):
  Calls prog 104 #[.pointer (some ⟨g,0,none⟩),i] w fun e w'=>e=.returned (.iface 29 (ii 2))∧Below w w w':=by
 have hb:=hp.blk h hn;obtain⟨aG,cG,eG⟩:=zd0 h (i:=p+5) zO hp.b5;rw[hp.wr.len]at eG;rw[eG]at hb;have c4:=zaa hb 4;simp only[zC,zD,zE]at c4;haveI:zaj (g+1) w:=⟨zae hb⟩;clear hb eG hp h hn;generalize A.way.length=l at *;by_cases h0:i<0
 ·have d0:decide (i<0)=true:=yae h0
  clear hi h0;go_enter func104,ntmps104;go_wp2_with fail;go_ret;exact⟨rfl,zB⟩
 ·have d0:decide (i<0)=false:=yah h0
  have d1:decide ((l:Int)≤i)=true:=zT;clear hi h0;go_enter func104,ntmps104;go_wp2_with fail;go_ret;exact⟨rfl,zB⟩
theorem zlM (hp:PWx w0.heap.size O p g A v) (h:Mem w0 w n O) (hn:p+16≤n){i:Nat}(hi:i<A.way.length):
  Calls prog 110 #[.pointer (some ⟨g,0,none⟩),ii (i:Nat)] w fun e w'=>e=.returned .nilIface∧zbF w0 w' n O p g v.xs v.us (zc0 A i):=by
 have hb:=hp.blk h hn;obtain⟨b,c,eG,hbl,hbg,hown,hrd,_⟩:=hp.rowG h hn zO;obtain⟨m,hm,hmt,hml,hgo⟩:=hp.gm h hn (yaa hi);obtain⟨x1,x2,x3,_⟩:=hrd i m hm;have hgd:A.way.getD i gmZ=A.way[i]:=by simp[List.getD,yaa hi]
 have HS:Hid (∀ W,Below w w W→Calls prog 147 #[.pointer (some ⟨g,0,none⟩),ii (m.tgt:Int),.slice m.A m.l.length m.c] W fun e w'=>e=.returned (.tuple #[])∧zbF w0 w' n O p g v.xs v.us (zc0 A i)):=zac (by
  intro W hW;have h1:=zeB hp (h.below hW) hn A.way[i] hgo m.A m.c (by rw[←hml];exact(x3.above fun k hk=>hW.block k zO).mono hW.size);rw[←hml,←hmt]at h1;unfold zc0;rw[hgd];exact h1)
 rw[eG]at hb;have c4:=zaa hb 4;simp only[zC,zD,zE]at c4;haveI:zaj (g+1) w:=⟨zae hb⟩;haveI:zaj (b+1) w:=⟨hbl⟩;clear hb eG hown hrd hm hmt hml hgo x3 hgd hp h hn;generalize m.tgt=tg at *;generalize m.l.length=bl at *;generalize m.A=aB at *;generalize m.c=cB at *;generalize zc0 A i=A' at *;generalize A.way.length=l at *;clear m;have d0:decide ((i:Int)<0)=false:=zU;have d1:decide ((l:Int)≤(i:Int))=false:=zU;have d2:decide (l≤i)=false:=zU;have hi0:(0:Int)≤(i:Int):=by omega
 have hi1:(i:Int)<(l:Int):=by omega
 have HI:=zac hi;clear hi;go_enter func110,ntmps110;go_wp2_with fail;refine zb9 17 fun x9=>?_
 go_wp2_with fail;go_at_call 147;refine(HS.out _ zB).mono ?_;rintro e w3 ⟨rfl,hU⟩;have HU:=zac hU;clear hU HS;go_wp2_with fail;go_ret;exact⟨rfl,HU.out⟩
theorem zlX (hp:PWx w0.heap.size O p g A v) (h:Mem w0 w n O) (hn:p+16≤n){k o:Nat}(hk:k<A.S) (ho:o<A.S) (hne:k≠o):
  Calls prog 108 #[.pointer (some ⟨g,0,none⟩),ii (k:Nat),ii (o:Nat)] w fun e w'=>e=.returned .nilIface∧zbF w0 w' n O p g v.xs v.us (zc2 A k o):=by
 have hb:=hp.blk h hn;obtain⟨bS,cS,eS,_,lS,kS,_⟩:=zbl h (i:=p+1) zO hp.b1 zO;obtain⟨x,hx⟩:=hp.xk hk;have x3:=kS k _ hk (zbt hx);have hok:=hp.ask hk;have HAP:=zac (hp.sApplied h hn hx);have HEN:=zac (fun W=>zm0 hok W);have HSD:Hid (∀ W v',Below w w W→zbp W W.heap.size v' (zfR (k:Int) (A.si k).p0 (A.si k).p1 (A.si k).p2 (A.si k).p3)→Calls prog 147 #[.pointer (some ⟨g,0,none⟩),(o:Int),v'] W fun e w'=>e=.returned (.tuple #[])∧zbF w0 w' n O p g v.xs v.us (zc2 A k o)):=zac (by
  intro W v' hW hv;obtain⟨A',c',rfl,_⟩:=id hv;have h1:=zeB hp (h.below hW) hn (zdl A k o) ⟨ho,fun e=>by(exfalso;simp[zdl,txZP]at e),fun _=>⟨hk,hok⟩⟩ A' c' (by rw[show gmB (zdl A k o)=zfR (k:Int) (A.si k).p0 (A.si k).p1 (A.si k).p2 (A.si k).p3 from yad (by simp[zdl,txZP])];exact hv);have e1:gmB (zdl A k o)=zfR (k:Int) (A.si k).p0 (A.si k).p1 (A.si k).p2 (A.si k).p3:=by unfold gmB;rw[yad (by simp[zdl,txZP])];rfl
  rw[e1]at h1;exact h1)
 rw[eS]at hb;have c0:=zaa hb 0;simp only[zC,zD,zE]at c0;haveI:zaj (g+1) w:=⟨zae hb⟩;haveI:zaj (bS+1) w:=⟨lS⟩;clear hb eS hx hok kS hp h hn lS;generalize A.S=S at *;generalize zc2 A k o=A' at *;generalize (A.si k).p0=e0 at *;generalize (A.si k).p1=e1 at *;generalize (A.si k).p2=e2 at *;generalize (A.si k).p3=e3 at *;generalize zfR (k:Int) e0 e1 e2 e3=bts at *;have d0:decide ((k:Int)<0)=false:=zU;have d1:decide ((S:Int)≤(k:Int))=false:=zU;have d2:decide (S≤k)=false:=zU;have d3:decide ((o:Int)<0)=false:=zU;have d4:decide ((S:Int)≤(o:Int))=false:=zU;have d5:decide (S≤o)=false:=zU;have d6:((k:Int)==(o:Int))=false:=by simp;omega
 have d7:(k==o)=false:=by simp;exact hne
 have hk0:(0:Int)≤(k:Int):=by omega
 have hk1:(k:Int)<(S:Int):=by omega
 clear hk ho hne;go_enter func108,ntmps108;go_wp2_with fail;go_at_call 26;refine HAP.out.mono ?_;rintro e w1 ⟨rfl,hb1⟩;have HB1:=zac hb1;clear hb1 HAP;go_wp2_with fail;go_at_call 151;refine(HEN.out _).mono ?_;rintro e w2 ⟨v',rfl,hb2,hown⟩;have HB2:=zac (HB1.out.trans (hb2.mono HB1.out.size));have HBS:=zac (zki hown rfl).1;clear hb2 hown HEN HB1;go_wp2_with fail;go_at_call 147;refine(HSD.out _ _ HB2.out HBS.out).mono ?_;rintro e w3 ⟨rfl,hU⟩;have HU:=zac hU;clear hU HSD HB2 HBS;go_wp2_with fail;go_ret;exact⟨rfl,HU.out⟩
theorem zj9 (hp:PWx w0.heap.size O p g A v) (h:Mem w0 w n O) (hn:p+16≤n) (k o:Int) (hbad:k<0∨(A.S:Int)≤k∨o<0∨(A.S:Int)≤o∨k=o):
  Calls prog 108 #[.pointer (some ⟨g,0,none⟩),k,o] w fun e w'=>e=.returned (.iface 29 (ii 2))∧Below w w w':=by
 have hb:=hp.blk h hn;obtain⟨aS,cS,eS⟩:=zbq h (i:=p+1) zO hp.b1;rw[eS]at hb;have c0:=zaa hb 0;simp only[zC,zD,zE]at c0;haveI:zaj (g+1) w:=⟨zae hb⟩;clear hb eS hp h hn;generalize A.S=S at *;by_cases h0:k<0
 ·have d0:decide (k<0)=true:=yae h0
  clear hbad h0;go_enter func108,ntmps108;go_wp2_with fail;go_ret;exact⟨rfl,zB⟩
 have d0:decide (k<0)=false:=yah h0;by_cases h1:(S:Int)≤k
 ·have d1:decide ((S:Int)≤k)=true:=yae h1
  clear hbad h0 h1;go_enter func108,ntmps108;go_wp2_with fail;go_ret;exact⟨rfl,zB⟩
 have d1:decide ((S:Int)≤k)=false:=yah h1;by_cases h2:o<0
 ·have d2:decide (o<0)=true:=yae h2
  clear hbad h0 h1 h2;go_enter func108,ntmps108;go_wp2_with fail;go_ret;exact⟨rfl,zB⟩
 have d2:decide (o<0)=false:=yah h2;by_cases h3:(S:Int)≤o
 ·have d3:decide ((S:Int)≤o)=true:=yae h3
  clear hbad h0 h1 h2 h3;go_enter func108,ntmps108;go_wp2_with fail;go_ret;exact⟨rfl,zB⟩
 have d3:decide ((S:Int)≤o)=false:=yah h3;obtain rfl:k=o:=by omega
 have d4:(k==k)=true:=by simp
 clear hbad h0 h1 h2 h3;go_enter func108,ntmps108;go_wp2_with fail;go_ret;exact⟨rfl,zB⟩
end
end Go.Proofs.YtbopfhbeegkkaabGreatDoor
