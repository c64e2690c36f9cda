/- Part 27 of a proof: lemmas and contracts that other parts use. -/
import Derived.Test.YtbopfhbeegkkaabGreatDoorWp20
import Derived.Test.YtbopfhbeegkkaabGreatDoorWp26
import Derived.Test.YtbopfhbeegkkaabGreatDoorWp2
import Derived.Test.YtbopfhbeegkkaabGreatDoorWp16
import Derived.Deep.DeepCutAuto
import Derived.Deep.CutBlock
import Derived.Test.YtbopfhbeegkkaabGreatDoorWp25
import Derived.Test.YtbopfhbeegkkaabGreatDoorWp23
set_option linter.unusedVariables false
set_option linter.unusedSimpArgs false
set_option linter.constructorNameAsVariable false
set_option maxHeartbeats 16000000
set_option maxRecDepth 200000
namespace Go.Proofs.YtbopfhbeegkkaabGreatDoor
open Go.RowKit Go.Proofs.Tryz
section
variable {w0 w w' w1 w2 w3:World}{n:Nat}{O:Nat→Ob}{p g:Nat}
theorem Mem.nils (h:Mem w0 w n O):∀ m,∃ O',Mem w0 w (n+m) O'∧(∀ k,k<n→O' k=O k)∧∀ k,n≤k→k<n+m→O' k=obNil
 | 0=>⟨O,h,fun _ _=>rfl,fun k h1 h2=>zO⟩
 | m+1=>by
   obtain⟨O1,h1,h2,h3⟩:=Mem.nils h m;obtain⟨O2,k1,k2,k3⟩:=h1.lend1 (o:=obNil) (obNil_ok _) trivial (fun b e=>e) (fun b k _ e=>e.elim);refine⟨O2,k1,fun k hk=>(k2 k zO).trans (h2 k hk),fun k hk hk2=>?_⟩;by_cases e:k=n+m
   ·rw[e];exact k3
   ·rw[k2 k zO];exact h3 k hk zO
theorem Mem.put (h:Mem w0 w n O){i:Nat}(hi:i<n) (hO:O i=obNil){o:Ob}(hb:Below w w w') (ho:o.Ok w0.heap.size) (hat:o.at_ w') (hn:∀ b,o.own b→w.heap.size≤b) (hd:∀ b,o.dat b→w.heap.size≤b):
  ∃ O',Mem w0 w' n O'∧O' i=o∧∀ k,k≠i→O' k=O k:=
 h.step1 hi ho hat ⟨hb.os,hb.tape,hb.output,hb.size,fun k hk _=>hb.block k hk,fun b e=>.inr (hn b e)⟩ (fun b e=>.inr (hd b e))
theorem Mem.row (h:Mem w0 w n O){i:Nat}(hi:i<n){e z m m':Nat}{v v':Value}{xs xs':List Value}(hO:O i=zbi w0.heap.size e z v m xs) (hb:Below w w w2) (hg:w2.grownBy w3 v.ownBlock) (hr:w3.ownsRow w0.heap.size e z v' m' xs') (hv:v'.ownBlock=v.ownBlock∨∀ b,v'.ownBlock=some b→w.heap.size≤b):
  ∃ O',Mem w0 w3 n O'∧O' i=zbi w0.heap.size e z v' m' xs'∧∀ k,k≠i→O' k=O k:=by
 have hat:=h.at_ i hi;rw[hO]at hat
 refine h.step1 hi (zbK ..) hr ⟨hg.os.trans hb.os,hg.tape.trans hb.tape,hg.output.trans hb.output,yac hb.size hg.size,fun k hk hne=>(hg.block k (yab hk hb.size) (fun e=>hne (by rw[hO];exact e.symm))).trans (hb.block k hk),fun b e=>?_⟩ (fun b e=>e.elim);rw[hO];rcases hv with hv|hv
 ·exact .inl (hv.symm.trans e)
 ·exact .inr (hv b e)
end
structure PNx (B:Nat) (O:Nat→Ob) (p g S C:Nat) (xs us:List Nat) (vS vW vC vP:Value):Prop where
 s4:1≤S∧S≤4
 c6:C≤6
 xl:xs.length≤S
 ul:us.length≤C
 b0:O (p+0)=obB g (.cells #[vS,vW,vC,vP,.slice none 0 0,ii 0] 191) B
 b1:O (p+1)=zbi B 23 1 vS xs.length (zfA xs)
 b2:O (p+2)=zbi B 3 1 vW S (zb2 S fun _=>0)
 b3:O (p+3)=zbi B 75 1 vC us.length (zfA us)
 b4:O (p+4)=zbi B 3 1 vP C (zb2 C fun _=>0)
 b5:O (p+5)=zdR B (.slice none 0 0) []
 si:∀ (k x:Nat),xs[k]?=some x→zdq B x (zis (k:Int)) (O (p+(6+k)))
 sz:∀ k:Nat,xs.length≤k→k<4→O (p+(6+k))=obNil
 cl:∀ k u:Nat,us[k]?=some u→zdX B u sdNew0 (O (p+(10+k)))
 cz:∀ k:Nat,us.length≤k→k<6→O (p+(10+k))=obNil
def PNu (w0 w:World) (n:Nat) (O:Nat→Ob) (g S C:Nat) (xs us:List Nat) (vS vW vC vP:Value):Prop:=
 ∃ O',Mem w0 w (n+16) O'∧PNx w0.heap.size O' n g S C xs us vS vW vC vP∧∀ k,k<n→O' k=O k
section
variable {w0 w w' w1 w2 w3:World}{n g S C:Nat}{O:Nat→Ob}{xs us:List Nat}{vS vW vC vP:Value}
theorem PNu.blk (h:PNu w0 w n O g S C xs us vS vW vC vP):w.heap[g]?=some (.cells #[vS,vW,vC,vP,.slice none 0 0,ii 0] 191):=by
 obtain⟨O',h1,h2,_⟩:=h;exact h1.box (i:=n+0) zO h2.b0
theorem PNu.rowS (h:PNu w0 w n O g S C xs us vS vW vC vP):w.ownsRow w0.heap.size 23 1 vS xs.length (zfA xs)∧vS.ownBlock≠some g:=by
 obtain⟨O',h1,h2,_⟩:=h;have:=h1.at_ (n+1) zO;rw[h2.b1]at this;refine⟨this,fun e=>?_⟩;have h3:=(h1.dis (n+1) (n+0) zO zO zO g (by rw[h2.b1];exact e)).1;exact h3 (by rw[h2.b0];rfl)
theorem PNu.rowC (h:PNu w0 w n O g S C xs us vS vW vC vP):w.ownsRow w0.heap.size 75 1 vC us.length (zfA us)∧vC.ownBlock≠some g:=by
 obtain⟨O',h1,h2,_⟩:=h;have:=h1.at_ (n+3) zO;rw[h2.b3]at this;refine⟨this,fun e=>?_⟩;have h3:=(h1.dis (n+3) (n+0) zO zO zO g (by rw[h2.b3];exact e)).1;exact h3 (by rw[h2.b0];rfl)
theorem zeJ (l:List Nat) (x:Nat):zfA (l++[x])=zfA l++[.pointer (some ⟨x,0,none⟩)]:=by simp[zfA]
theorem PNu.site (h:PNu w0 w n O g S C xs us vS vW vC vP) (hS:xs.length<S){xn mb:Nat}{v':Value}(hs:zbV w1 w.heap.size xn (zcz (xs.length:Int)) mb (.slice none 0 0) (fun _=>.slice none 0 0)) (hb:Below w w w1)
  (hb2:Below w1 w1 w2) (hr:w3.ownsRow w0.heap.size 23 1 v' (xs.length+1) (zfA xs++[.pointer (some ⟨xn,0,none⟩)])) (hg:w2.grownBy w3 vS.ownBlock) (hv:v'.ownBlock=vS.ownBlock∨∀ b,v'.ownBlock=some b→w1.heap.size≤b):
  PNu w0 (w3.setCell ⟨g,0,none⟩ v') n O g S C (xs++[xn]) us v' vW vC vP:=by
 obtain⟨O1,h1,h2,h3⟩:=h;have hj:=h2.s4;have hid:(0:Int)≤(xs.length:Int)∧(xs.length:Int)<4:=by omega
 have hbm:w.heap.size≤mb:=hs.bm;have hbx:w.heap.size≤xn:=hs.bx;obtain⟨O2,k1,k2,k3⟩:=h1.put (i:=n+(6+xs.length)) zO (h2.sz _ (yai _) zO) (o:=obS w0.heap.size xn mb (zcz (xs.length:Int)) (.slice none 0 0) (fun _=>.slice none 0 0)) hb (zmI ..) (hs.low h1.size) (fun b e=>by rcases own_si0 e with e|e <;> omega) (fun b e=>by
  obtain⟨m,o,hm,_⟩:=e;rcases hm with hm|⟨a,b,hm⟩ <;> simp[zcz]at hm)
 obtain⟨O3,l1,l2,l3⟩:=k1.row (i:=n+1) zO ((k3 _ zO).trans h2.b1) hb2 hg hr hv;have hb0:O3 (n+0)=_:=(l3 _ zO).trans ((k3 _ zO).trans h2.b0);have l4:=l1.set (i:=n+0) zO hb0 0 v';have he:∀ j,j≠0→j≠1→j≠6+xs.length→(zjB O3 (n+0) (obB g (.cells (#[vS,vW,vC,vP,.slice none 0 0,ii 0].setIfInBounds 0 v') 191) w0.heap.size)) (n+j)=O1 (n+j):=fun j e0 e1 e2=>by
  rw[zah _ zO,l3 _ zO,k3 _ zO]
 refine⟨_,l4,⟨h2.s4,h2.c6,by simp;omega,h2.ul,?_,?_,(he 2 zO zO zO).trans h2.b2,(he 3 zO zO zO).trans h2.b3,(he 4 zO zO zO).trans h2.b4,(he 5 zO zO zO).trans h2.b5,fun k x hx=>?_,fun k hk hk4=>?_,fun k u hu=>?_,fun k hk hk6=>?_⟩,fun k hk=>?_⟩
 ·rw[zaB];rfl
 ·rw[zah _ zO,l2,zeJ];simp
 ·rcases ze2 hx with h5|⟨e,rfl⟩
  ·have:=zaI h5
   rw[he _ zO zO zO];exact h2.si k x h5
  ·subst e
   rw[zah _ zO,l3 _ zO,k2];exact⟨mb,_,_,_,rfl,zbW.fresh hid,by simp[zis]⟩
 ·have:xs.length+1≤k:=by simpa using hk
  rw[he _ zO zO zO];exact h2.sz k zO hk4
 ·rw[he _ zO zO zO]
  exact h2.cl k u hu
 ·rw[he _ zO zO zO]
  exact h2.cz k hk hk6
 ·rw[zah _ zO,l3 _ zO,k3 _ zO]
  exact h3 k hk
theorem zc3.low {u B' B:Nat}(h:zc3 w B u snNew none) (hB:B'≤B):zc3 w B' u snNew none:=⟨h.blk,fun mb e=>(by cases e),h.opn,yac hB h.bx⟩
theorem PNu.sess (h:PNu w0 w n O g S C xs us vS vW vC vP) (hC:us.length<C){un:Nat}{v':Value}(hs:zc3 w1 w.heap.size un snNew none) (hb:Below w w w1)
  (hb2:Below w1 w1 w2) (hr:w3.ownsRow w0.heap.size 75 1 v' (us.length+1) (zfA us++[.pointer (some ⟨un,0,none⟩)])) (hg:w2.grownBy w3 vC.ownBlock) (hv:v'.ownBlock=vC.ownBlock∨∀ b,v'.ownBlock=some b→w1.heap.size≤b):
  PNu w0 (w3.setCell ⟨g,2,none⟩ v') n O g S C xs (us++[un]) vS vW v' vP:=by
 obtain⟨O1,h1,h2,h3⟩:=h;have hj:=h2.c6;have hS4:=h2.s4;have hxl:=h2.xl;obtain⟨O2,k1,k2,k3⟩:=h1.put (i:=n+(10+us.length)) zO (h2.cz _ (yai _) zO) (o:=obN w0.heap.size un snNew none) hb (zgf ..) (hs.low h1.size) (fun b e=>(zc3.lt hs e).1) (fun b e=>e.elim);obtain⟨O3,l1,l2,l3⟩:=k1.row (i:=n+3) zO ((k3 _ zO).trans h2.b3) hb2 hg hr hv;have hb0:O3 (n+0)=_:=(l3 _ zO).trans ((k3 _ zO).trans h2.b0);have l4:=l1.set (i:=n+0) zO hb0 2 v';have he:∀ j,j≠0→j≠3→j≠10+us.length→(zjB O3 (n+0) (obB g (.cells (#[vS,vW,vC,vP,.slice none 0 0,ii 0].setIfInBounds 2 v') 191) w0.heap.size)) (n+j)=O1 (n+j):=fun j e0 e1 e2=>by
  rw[zah _ zO,l3 _ zO,k3 _ zO]
 refine⟨_,l4,⟨h2.s4,h2.c6,h2.xl,by simp;omega,?_,(he 1 zO zO zO).trans h2.b1,(he 2 zO zO zO).trans h2.b2,?_,(he 4 zO zO zO).trans h2.b4,(he 5 zO zO zO).trans h2.b5,fun k x hx=>?_,fun k hk hk4=>?_,fun k u hu=>?_,fun k hk hk6=>?_⟩,fun k hk=>?_⟩
 ·rw[zaB];rfl
 ·rw[zah _ zO,l2,zeJ];simp
 ·have:=zaI hx
  rw[he _ zO zO zO];exact h2.si k x hx
 ·rw[he _ zO zO zO]
  exact h2.sz k hk hk4
 ·rcases ze2 hu with h5|⟨e,rfl⟩
  ·have:=zaI h5
   rw[he _ zO zO zO];exact h2.cl k u h5
  ·subst e
   rw[zah _ zO,l3 _ zO,k2];exact⟨_,_,rfl,zgM.fresh⟩
 ·have:us.length+1≤k:=by simpa using hk
  rw[he _ zO zO zO];exact h2.cz k zO hk6
 ·rw[zah _ zO,l3 _ zO,k3 _ zO]
  exact h3 k hk
theorem PNu.done (h:PNu w0 w n O g S C xs us vS vW vC vP) (hS:xs.length=S) (hC:us.length=C):∃ O' v,Mem w0 w (n+16) O'∧PWx w0.heap.size O' n g (zdI S C) v∧∀ k,k<n→O' k=O k:=by
 obtain⟨O1,h1,h2,h3⟩:=h;have hj:=h2.s4;refine⟨O1,⟨vS,vW,vC,vP,.slice none 0 0,xs,us,[]⟩,h1,⟨⟨h2.s4,h2.c6,fun k=>by show 0<S;omega,fun k=>by show(0:Int)≤0∧(0:Int)≤_;omega,fun k=>rfl,by simp[zdI],fun m hm=>by simp[zdI]at hm⟩,hS,hC,rfl,h2.b0.trans (by simp[zdI,wrap64]),?_,h2.b2,?_,h2.b4,h2.b5,h2.si,h2.cl⟩,h3⟩
 ·have:=h2.b1;rw[hS]at this;exact this
 ·have:=h2.b3;rw[hC]at this;exact this
end
theorem infoI:(prog.info? 3).map (fun i=>(i.zero,i.size,i.bytes))=some (some (ii 0),1,8):=by kernel_rfl
theorem mkI_eq (n:Nat):madeCells (Value.cells (ii 0)) n=(Array.replicate n (ii 0)):=by
 apply Array.ext';rw[show Value.cells (ii 0)=#[ii 0]from rfl,toList_madeCells_one,Array.toList_replicate]
theorem zhG (n:Nat) (hn:n≤1000) (w:World):(Instr.makeSlice 132 (ii (n:Int)) (ii (n:Int))).run prog w=.ok (.slice (some ⟨w,0,none⟩) n n) (w.alloc (.cells (Array.replicate n (ii 0)) 3)):=by
 obtain⟨i0,hi0,hz0,hz1,hz2⟩:=yb5 infoI;refine(run_make (P:=prog) w 132 3 i0 (ii 0) underlying132 hi0 hz0 .i64 .i64 n n zO (Int.le_refl _) (by rw[hz2];omega) zO).trans ?_;rw[ybx,hz1,Nat.mul_one,mkI_eq]
theorem ziA (n:Nat):(Array.replicate n (Value.int .i64 0)).toList=zb2 n fun _=>0:=by
 apply List.ext_getElem?;intro i;unfold zb2;simp[List.getElem?_replicate];by_cases h:i<n <;> simp[h]
theorem zco {B e z k m c n b:Nat}{xs:List Value}(h:(zbi B e z (.slice (some ⟨k,0,none⟩) m c) n xs).own b):k=b:=by simpa[zbi,Value.ownBlock]using h
theorem PNu.start {w0 w w1 w2 w3:World}{n S C:Nat}{O:Nat→Ob}{bW bP g:Nat}(h:Mem w0 w n O) (hS:1≤S∧S≤4) (hC:C≤6) (e1:w1=w.drew.alloc (.cells (Array.replicate S (ii 0)) 3)∧w2=w1.alloc (.cells (Array.replicate C (ii 0)) 3)∧bW=w.heap.size∧bP=w.heap.size+1∨w1=w.drew.alloc (.cells (Array.replicate C (ii 0)) 3)∧w2=w1.alloc (.cells (Array.replicate S (ii 0)) 3)∧bP=w.heap.size∧bW=w.heap.size+1)
  (hg:g=w.heap.size+1+1) (e3:w3=w2.alloc (.cells #[.slice none 0 0,.slice (some ⟨bW,0,none⟩) S S,.slice none 0 0,.slice (some ⟨bP,0,none⟩) C C,.slice none 0 0,ii 0] 191)):
  PNu w0 w3 n O g S C [] [] (.slice none 0 0) (.slice (some ⟨bW,0,none⟩) S S) (.slice none 0 0) (.slice (some ⟨bP,0,none⟩) C C):=by
 obtain⟨O1,h1,h2,h3⟩:=(h.below (w':=w.drew) (ya2 (yaf _ _))).nils 16;have own:∀ (W:World) (m:Nat),w0.heap.size≤W.heap.size→m≤6→(W.alloc (.cells (Array.replicate m (ii 0)) 3)).ownsRow w0.heap.size 3 1 (.slice (some ⟨W,0,none⟩) m m) m (zb2 m fun _=>0):=fun W m hb hm=>by
  have:=World.ownsRow_lit (base:=w0.heap.size) (e:=3) (size:=1) W (Array.replicate m (ii 0)) m hb (by simp only[maxLen];omega) zS;rw[ziA]at this;exact this
 have hsz:=h.size;have fin:∀ (O3:Nat→Ob),Mem w0 w2 (n+16) O3→O3 (n+2)=zbi w0.heap.size 3 1 (.slice (some ⟨bW,0,none⟩) S S) S (zb2 S fun _=>0)→O3 (n+4)=zbi w0.heap.size 3 1 (.slice (some ⟨bP,0,none⟩) C C) C (zb2 C fun _=>0)→(∀ k,k<n→O3 k=O k)→(∀ k,n≤k→k<n+16→k≠n+2→k≠n+4→O3 k=obNil)→g=w2.heap.size→
   PNu w0 w3 n O g S C [] [] (.slice none 0 0) (.slice (some ⟨bW,0,none⟩) S S) (.slice none 0 0) (.slice (some ⟨bP,0,none⟩) C C):=by
  intro O3 m1 m2 m3 m4 m5 hg2;obtain⟨O4,k1,k2,k3⟩:=m1.put (i:=n+0) zO (m5 _ zO zO zO zO) (w':=w3) (o:=obB g (.cells #[.slice none 0 0,.slice (some ⟨bW,0,none⟩) S S,.slice none 0 0,.slice (some ⟨bP,0,none⟩) C C,.slice none 0 0,ii 0] 191) w0.heap.size) (by rw[e3];exact zal (yaf _ _)) (zkj ..) ⟨by have:=m1.size;omega,by rw[e3,hg2];exact zag rfl _⟩ (fun b e=>by have e2:b=g:=e;omega) (fun b e=>e.elim);obtain⟨O5,l1,l2,l3⟩:=k1.put (i:=n+1) zO ((k3 _ zO).trans (m5 _ zO zO zO zO)) (o:=zbi w0.heap.size 23 1 (.slice none 0 0) 0 []) (yaf _ _) (zbK ..) ⟨rfl,.inl ⟨rfl,rfl⟩⟩ (fun b e=>by simp[zbi,Value.ownBlock]at e) (fun b e=>e.elim);obtain⟨O6,r1,r2,r3⟩:=l1.put (i:=n+3) zO ((l3 _ zO).trans ((k3 _ zO).trans (m5 _ zO zO zO zO))) (o:=zbi w0.heap.size 75 1 (.slice none 0 0) 0 []) (yaf _ _) (zbK ..) ⟨rfl,.inl ⟨rfl,rfl⟩⟩ (fun b e=>by simp[zbi,Value.ownBlock]at e) (fun b e=>e.elim);obtain⟨O7,s1,s2,s3⟩:=r1.put (i:=n+5) zO ((r3 _ zO).trans ((l3 _ zO).trans ((k3 _ zO).trans (m5 _ zO zO zO zO)))) (o:=zdR w0.heap.size (.slice none 0 0) []) (yaf _ _) (zhW ..) ⟨⟨rfl,.inl ⟨rfl,rfl⟩⟩,fun m hm=>(by cases hm)⟩ (fun b e=>by simp[zdR,Value.ownBlock]at e) (fun b e=>by obtain⟨m,hm,_⟩:=e;cases hm);have q:∀ k,k≠n+0→k≠n+1→k≠n+3→k≠n+5→O7 k=O3 k:=fun k a b c d=>by rw[s3 k d,r3 k c,l3 k b,k3 k a]
  refine⟨O7,s1,⟨hS,hC,zS,zS,?_,?_,(q _ zO zO zO zO).trans m2,?_,(q _ zO zO zO zO).trans m3,s2,fun k x hx=>by simp at hx,fun k _ hk=>(q _ zO zO zO zO).trans (m5 _ zO zO zO zO),fun k x hx=>by simp at hx,fun k _ hk=>(q _ zO zO zO zO).trans (m5 _ zO zO zO zO)⟩,fun k hk=>(q _ zO zO zO zO).trans (m4 k hk)⟩
  ·rw[s3 _ zO,r3 _ zO,l3 _ zO,k2]
  ·rw[s3 _ zO,r3 _ zO,l2];rfl
  ·rw[s3 _ zO,r2];rfl
 rcases e1 with ⟨rfl,rfl,rfl,rfl⟩|⟨rfl,rfl,rfl,rfl⟩
 ·obtain⟨O2,k1,k2,k3⟩:=h1.put (i:=n+2) zO (h3 _ zO zO) (o:=zbi w0.heap.size 3 1 (.slice (some ⟨w,0,none⟩) S S) S (zb2 S fun _=>0)) (zal (yaf _ _)) (zbK ..) (own w.drew S hsz zO) (fun b e=>by rw[←zco e];exact yai _) (fun b e=>e.elim)
  obtain⟨O3,l1,l2,l3⟩:=k1.put (i:=n+4) zO ((k3 _ zO).trans (h3 _ zO zO)) (o:=zbi w0.heap.size 3 1 (.slice (some ⟨(w.heap.size+1),0,none⟩) C C) C (zb2 C fun _=>0)) (w':=(w.drew.alloc (.cells (Array.replicate S (ii 0)) 3)).alloc (.cells (Array.replicate C (ii 0)) 3)) (zal (yaf _ _)) (zbK ..) (by have:=own (w.drew.alloc (.cells (Array.replicate S (ii 0)) 3)) C (by simp[zaq];omega) hC;simp only[ya8,zaq]at this;exact this) (fun b e=>by rw[←zco e];simp[zaq]) (fun b e=>e.elim);exact fin O3 l1 ((l3 _ zO).trans k2) l2 (fun k hk=>(l3 _ zO).trans ((k3 _ zO).trans (h2 k hk))) (fun k a b c d=>(l3 _ zO).trans ((k3 _ zO).trans (h3 k a b))) (by rw[hg];simp[zaq])
 ·obtain⟨O2,k1,k2,k3⟩:=h1.put (i:=n+4) zO (h3 _ zO zO) (o:=zbi w0.heap.size 3 1 (.slice (some ⟨w,0,none⟩) C C) C (zb2 C fun _=>0)) (zal (yaf _ _)) (zbK ..) (own w.drew C hsz hC) (fun b e=>by rw[←zco e];exact yai _) (fun b e=>e.elim)
  obtain⟨O3,l1,l2,l3⟩:=k1.put (i:=n+2) zO ((k3 _ zO).trans (h3 _ zO zO)) (o:=zbi w0.heap.size 3 1 (.slice (some ⟨(w.heap.size+1),0,none⟩) S S) S (zb2 S fun _=>0)) (w':=(w.drew.alloc (.cells (Array.replicate C (ii 0)) 3)).alloc (.cells (Array.replicate S (ii 0)) 3)) (zal (yaf _ _)) (zbK ..) (by have:=own (w.drew.alloc (.cells (Array.replicate C (ii 0)) 3)) S (by simp[zaq];omega) zO;simp only[ya8,zaq]at this;exact this) (fun b e=>by rw[←zco e];simp[zaq]) (fun b e=>e.elim);exact fin O3 l1 l2 ((l3 _ zO).trans k2) (fun k hk=>(l3 _ zO).trans ((k3 _ zO).trans (h2 k hk))) (fun k a b c d=>(l3 _ zO).trans ((k3 _ zO).trans (h3 k a b))) (by rw[hg];simp[zaq])
structure RNx (B:Nat) (O:Nat→Ob) (p g S C:Nat) (xs us:List Nat) (vS vW vC vP:Value):Prop where
 s4:1≤S∧S≤4
 c6:C≤6
 xl:xs.length≤S
 ul:us.length≤C
 b0:O (p+0)=obB g (.cells #[vS,vW,vC,vP,.slice none 0 0,ii 0] 136) B
 b1:O (p+1)=zbi B 30 1 vS xs.length (zfA xs)
 b2:O (p+2)=zbi B 3 1 vW S (zb2 S fun _=>0)
 b3:O (p+3)=zbi B 77 1 vC us.length (zfA us)
 b4:O (p+4)=zbi B 3 1 vP C (zb2 C fun _=>0)
 b5:O (p+5)=zjh B (.slice none 0 0) []
 si:∀ (k x:Nat),xs[k]?=some x→zcM B x (zis (k:Int)) (O (p+(6+k)))
 sz:∀ k:Nat,xs.length≤k→k<4→O (p+(6+k))=obNil
 cl:∀ k u:Nat,us[k]?=some u→zeA B u sdNew0 (O (p+(10+k)))
 cz:∀ k:Nat,us.length≤k→k<6→O (p+(10+k))=obNil
def RNu (w0 w:World) (n:Nat) (O:Nat→Ob) (g S C:Nat) (xs us:List Nat) (vS vW vC vP:Value):Prop:=
 ∃ O',Mem w0 w (n+16) O'∧RNx w0.heap.size O' n g S C xs us vS vW vC vP∧∀ k,k<n→O' k=O k
section
variable {w0 w w' w1 w2 w3:World}{n g S C:Nat}{O:Nat→Ob}{xs us:List Nat}{vS vW vC vP:Value}
theorem RNu.blk (h:RNu w0 w n O g S C xs us vS vW vC vP):w.heap[g]?=some (.cells #[vS,vW,vC,vP,.slice none 0 0,ii 0] 136):=by
 obtain⟨O',h1,h2,_⟩:=h;exact h1.box (i:=n+0) zO h2.b0
theorem RNu.rowS (h:RNu w0 w n O g S C xs us vS vW vC vP):w.ownsRow w0.heap.size 30 1 vS xs.length (zfA xs)∧vS.ownBlock≠some g:=by
 obtain⟨O',h1,h2,_⟩:=h;have:=h1.at_ (n+1) zO;rw[h2.b1]at this;refine⟨this,fun e=>?_⟩;have h3:=(h1.dis (n+1) (n+0) zO zO zO g (by rw[h2.b1];exact e)).1;exact h3 (by rw[h2.b0];rfl)
theorem RNu.rowC (h:RNu w0 w n O g S C xs us vS vW vC vP):w.ownsRow w0.heap.size 77 1 vC us.length (zfA us)∧vC.ownBlock≠some g:=by
 obtain⟨O',h1,h2,_⟩:=h;have:=h1.at_ (n+3) zO;rw[h2.b3]at this;refine⟨this,fun e=>?_⟩;have h3:=(h1.dis (n+3) (n+0) zO zO zO g (by rw[h2.b3];exact e)).1;exact h3 (by rw[h2.b0];rfl)
theorem RNu.site (h:RNu w0 w n O g S C xs us vS vW vC vP) (hS:xs.length<S){v':Value}(hb2:Below (w.alloc (z26 xs.length)).heap.size (w.alloc (z26 xs.length)) w2)
  (hr:w3.ownsRow w0.heap.size 30 1 v' (xs.length+1) (zfA xs++[.pointer (some ⟨w,0,none⟩)])) (hg:w2.grownBy w3 vS.ownBlock) (hv:v'.ownBlock=vS.ownBlock∨∀ b,v'.ownBlock=some b→(w.alloc (z26 xs.length)).heap.size≤b):
  RNu w0 (w3.setCell ⟨g,0,none⟩ v') n O g S C (xs++[w.heap.size]) us v' vW vC vP:=by
 obtain⟨O1,h1,h2,h3⟩:=h;have hj:=h2.s4;have hid:(0:Int)≤(xs.length:Int)∧(xs.length:Int)<4:=by omega
 obtain⟨O2,k1,k2,k3⟩:=h1.put (i:=n+(6+xs.length)) zO (h2.sz _ (yai _) zO) (w':=w.alloc (z26 xs.length)) (o:=obR w0.heap.size w.heap.size (zmt (xs.length:Nat)) (.slice none 0 0) none 0 (.slice none 0 0)) (zal (yaf _ _)) (zmJ ..) (zcp.fresh (id:=(xs.length:Nat)) (zag rfl _) h1.size) (fun b e=>by have:=own_rs0 e;omega) (fun b e=>by
  rcases e with ⟨o,e⟩|⟨m,o,hm,e⟩
  ·cases e
  ·rcases hm with hm|hm <;> simp[zmt]at hm)
 obtain⟨O3,l1,l2,l3⟩:=k1.row (i:=n+1) zO ((k3 _ zO).trans h2.b1) hb2 hg hr hv;have hb0:O3 (n+0)=_:=(l3 _ zO).trans ((k3 _ zO).trans h2.b0);have l4:=l1.set (i:=n+0) zO hb0 0 v';have he:∀ j,j≠0→j≠1→j≠6+xs.length→(zjB O3 (n+0) (obB g (.cells (#[vS,vW,vC,vP,.slice none 0 0,ii 0].setIfInBounds 0 v') 136) w0.heap.size)) (n+j)=O1 (n+j):=fun j e0 e1 e2=>by
  rw[zah _ zO,l3 _ zO,k3 _ zO]
 refine⟨_,l4,⟨h2.s4,h2.c6,by simp;omega,h2.ul,?_,?_,(he 2 zO zO zO).trans h2.b2,(he 3 zO zO zO).trans h2.b3,(he 4 zO zO zO).trans h2.b4,(he 5 zO zO zO).trans h2.b5,fun k x hx=>?_,fun k hk hk4=>?_,fun k u hu=>?_,fun k hk hk6=>?_⟩,fun k hk=>?_⟩
 ·rw[zaB];rfl
 ·rw[zah _ zO,l2,zeJ];simp
 ·rcases ze2 hx with h5|⟨e,rfl⟩
  ·have:=zaI h5
   rw[he _ zO zO zO];exact h2.si k x h5
  ·subst e
   rw[zah _ zO,l3 _ zO,k2];exact⟨_,_,_,_,_,rfl,⟨_,zbW.fresh hid⟩,rfl,by simp[zis]⟩
 ·have:xs.length+1≤k:=by simpa using hk
  rw[he _ zO zO zO];exact h2.sz k zO hk4
 ·rw[he _ zO zO zO]
  exact h2.cl k u hu
 ·rw[he _ zO zO zO]
  exact h2.cz k hk hk6
 ·rw[zah _ zO,l3 _ zO,k3 _ zO]
  exact h3 k hk
theorem RNu.sess (h:RNu w0 w n O g S C xs us vS vW vC vP) (hC:us.length<C){v':Value}(hb2:Below (w.alloc z79).heap.size (w.alloc z79) w2) (hr:w3.ownsRow w0.heap.size 77 1 v' (us.length+1) (zfA us++[.pointer (some ⟨w,0,none⟩)])) (hg:w2.grownBy w3 vC.ownBlock) (hv:v'.ownBlock=vC.ownBlock∨∀ b,v'.ownBlock=some b→(w.alloc z79).heap.size≤b):
  RNu w0 (w3.setCell ⟨g,2,none⟩ v') n O g S C xs (us++[w.heap.size]) vS vW v' vP:=by
 obtain⟨O1,h1,h2,h3⟩:=h;have hj:=h2.c6;have hS4:=h2.s4;have hxl:=h2.xl;have hd:zdn (w.alloc z79) w0.heap.size w.heap.size sdNew0 (.slice none 0 0):=⟨zag rfl _,⟨rfl,.inl ⟨rfl,rfl⟩⟩,h1.size,by simp[Value.ownBlock]⟩;obtain⟨O2,k1,k2,k3⟩:=h1.put (i:=n+(10+us.length)) zO (h2.cz _ (yai _) zO) (w':=w.alloc z79) (o:=obD w0.heap.size w.heap.size sdNew0 (.slice none 0 0)) (zal (yaf _ _)) (zef ..) hd (fun b e=>by
  rcases e with e|e
  ·omega
  ·simp[Value.ownBlock]at e) (fun b e=>e.elim)
 obtain⟨O3,l1,l2,l3⟩:=k1.row (i:=n+3) zO ((k3 _ zO).trans h2.b3) hb2 hg hr hv;have hb0:O3 (n+0)=_:=(l3 _ zO).trans ((k3 _ zO).trans h2.b0);have l4:=l1.set (i:=n+0) zO hb0 2 v';have he:∀ j,j≠0→j≠3→j≠10+us.length→(zjB O3 (n+0) (obB g (.cells (#[vS,vW,vC,vP,.slice none 0 0,ii 0].setIfInBounds 2 v') 136) w0.heap.size)) (n+j)=O1 (n+j):=fun j e0 e1 e2=>by
  rw[zah _ zO,l3 _ zO,k3 _ zO]
 refine⟨_,l4,⟨h2.s4,h2.c6,h2.xl,by simp;omega,?_,(he 1 zO zO zO).trans h2.b1,(he 2 zO zO zO).trans h2.b2,?_,(he 4 zO zO zO).trans h2.b4,(he 5 zO zO zO).trans h2.b5,fun k x hx=>?_,fun k hk hk4=>?_,fun k u hu=>?_,fun k hk hk6=>?_⟩,fun k hk=>?_⟩
 ·rw[zaB];rfl
 ·rw[zah _ zO,l2,zeJ];simp
 ·have:=zaI hx
  rw[he _ zO zO zO];exact h2.si k x hx
 ·rw[he _ zO zO zO]
  exact h2.sz k hk hk4
 ·rcases ze2 hu with h5|⟨e,rfl⟩
  ·have:=zaI h5
   rw[he _ zO zO zO];exact h2.cl k u h5
  ·subst e
   rw[zah _ zO,l3 _ zO,k2];exact⟨_,rfl,_,zgM.fresh⟩
 ·have:us.length+1≤k:=by simpa using hk
  rw[he _ zO zO zO];exact h2.cz k zO hk6
 ·rw[zah _ zO,l3 _ zO,k3 _ zO]
  exact h3 k hk
theorem RNu.done (h:RNu w0 w n O g S C xs us vS vW vC vP) (hS:xs.length=S) (hC:us.length=C):∃ O' v,Mem w0 w (n+16) O'∧RWx w0.heap.size O' n g (zdI S C) v∧∀ k,k<n→O' k=O k:=by
 obtain⟨O1,h1,h2,h3⟩:=h;have hj:=h2.s4;refine⟨O1,⟨vS,vW,vC,vP,.slice none 0 0,xs,us,[]⟩,h1,⟨⟨h2.s4,h2.c6,fun k=>by show 0<S;omega,fun k=>by show(0:Int)≤0∧(0:Int)≤_;omega,fun k=>rfl,by simp[zdI],fun m hm=>by simp[zdI]at hm⟩,hS,hC,rfl,h2.b0.trans (by simp[zdI,wrap64]),?_,h2.b2,?_,h2.b4,h2.b5,h2.si,h2.cl⟩,h3⟩
 ·have:=h2.b1;rw[hS]at this;exact this
 ·have:=h2.b3;rw[hC]at this;exact this
end
theorem RNu.start {w0 w w1 w2 w3:World}{n S C:Nat}{O:Nat→Ob}{bW bP g:Nat}(h:Mem w0 w n O) (hS:1≤S∧S≤4) (hC:C≤6) (e1:w1=w.drew.alloc (.cells (Array.replicate S (ii 0)) 3)∧w2=w1.alloc (.cells (Array.replicate C (ii 0)) 3)∧bW=w.heap.size∧bP=w.heap.size+1∨w1=w.drew.alloc (.cells (Array.replicate C (ii 0)) 3)∧w2=w1.alloc (.cells (Array.replicate S (ii 0)) 3)∧bP=w.heap.size∧bW=w.heap.size+1)
  (hg:g=w.heap.size+1+1) (e3:w3=w2.alloc (.cells #[.slice none 0 0,.slice (some ⟨bW,0,none⟩) S S,.slice none 0 0,.slice (some ⟨bP,0,none⟩) C C,.slice none 0 0,ii 0] 136)):
  RNu w0 w3 n O g S C [] [] (.slice none 0 0) (.slice (some ⟨bW,0,none⟩) S S) (.slice none 0 0) (.slice (some ⟨bP,0,none⟩) C C):=by
 obtain⟨O1,h1,h2,h3⟩:=(h.below (w':=w.drew) (ya2 (yaf _ _))).nils 16;have own:∀ (W:World) (m:Nat),w0.heap.size≤W.heap.size→m≤6→(W.alloc (.cells (Array.replicate m (ii 0)) 3)).ownsRow w0.heap.size 3 1 (.slice (some ⟨W,0,none⟩) m m) m (zb2 m fun _=>0):=fun W m hb hm=>by
  have:=World.ownsRow_lit (base:=w0.heap.size) (e:=3) (size:=1) W (Array.replicate m (ii 0)) m hb (by simp only[maxLen];omega) zS;rw[ziA]at this;exact this
 have hsz:=h.size;have fin:∀ (O3:Nat→Ob),Mem w0 w2 (n+16) O3→O3 (n+2)=zbi w0.heap.size 3 1 (.slice (some ⟨bW,0,none⟩) S S) S (zb2 S fun _=>0)→O3 (n+4)=zbi w0.heap.size 3 1 (.slice (some ⟨bP,0,none⟩) C C) C (zb2 C fun _=>0)→(∀ k,k<n→O3 k=O k)→(∀ k,n≤k→k<n+16→k≠n+2→k≠n+4→O3 k=obNil)→g=w2.heap.size→
   RNu w0 w3 n O g S C [] [] (.slice none 0 0) (.slice (some ⟨bW,0,none⟩) S S) (.slice none 0 0) (.slice (some ⟨bP,0,none⟩) C C):=by
  intro O3 m1 m2 m3 m4 m5 hg2;obtain⟨O4,k1,k2,k3⟩:=m1.put (i:=n+0) zO (m5 _ zO zO zO zO) (w':=w3) (o:=obB g (.cells #[.slice none 0 0,.slice (some ⟨bW,0,none⟩) S S,.slice none 0 0,.slice (some ⟨bP,0,none⟩) C C,.slice none 0 0,ii 0] 136) w0.heap.size) (by rw[e3];exact zal (yaf _ _)) (zkj ..) ⟨by have:=m1.size;omega,by rw[e3,hg2];exact zag rfl _⟩ (fun b e=>by have e2:b=g:=e;omega) (fun b e=>e.elim);obtain⟨O5,l1,l2,l3⟩:=k1.put (i:=n+1) zO ((k3 _ zO).trans (m5 _ zO zO zO zO)) (o:=zbi w0.heap.size 30 1 (.slice none 0 0) 0 []) (yaf _ _) (zbK ..) ⟨rfl,.inl ⟨rfl,rfl⟩⟩ (fun b e=>by simp[zbi,Value.ownBlock]at e) (fun b e=>e.elim);obtain⟨O6,r1,r2,r3⟩:=l1.put (i:=n+3) zO ((l3 _ zO).trans ((k3 _ zO).trans (m5 _ zO zO zO zO))) (o:=zbi w0.heap.size 77 1 (.slice none 0 0) 0 []) (yaf _ _) (zbK ..) ⟨rfl,.inl ⟨rfl,rfl⟩⟩ (fun b e=>by simp[zbi,Value.ownBlock]at e) (fun b e=>e.elim);obtain⟨O7,s1,s2,s3⟩:=r1.put (i:=n+5) zO ((r3 _ zO).trans ((l3 _ zO).trans ((k3 _ zO).trans (m5 _ zO zO zO zO)))) (o:=zjh w0.heap.size (.slice none 0 0) []) (yaf _ _) (zjD ..) ⟨⟨rfl,.inl ⟨rfl,rfl⟩⟩,fun m hm=>(by cases hm)⟩ (fun b e=>by simp[zjh,Value.ownBlock]at e) (fun b e=>by obtain⟨m,hm,_⟩:=e;cases hm);have q:∀ k,k≠n+0→k≠n+1→k≠n+3→k≠n+5→O7 k=O3 k:=fun k a b c d=>by rw[s3 k d,r3 k c,l3 k b,k3 k a]
  refine⟨O7,s1,⟨hS,hC,zS,zS,?_,?_,(q _ zO zO zO zO).trans m2,?_,(q _ zO zO zO zO).trans m3,s2,fun k x hx=>by simp at hx,fun k _ hk=>(q _ zO zO zO zO).trans (m5 _ zO zO zO zO),fun k x hx=>by simp at hx,fun k _ hk=>(q _ zO zO zO zO).trans (m5 _ zO zO zO zO)⟩,fun k hk=>(q _ zO zO zO zO).trans (m4 k hk)⟩
  ·rw[s3 _ zO,r3 _ zO,l3 _ zO,k2]
  ·rw[s3 _ zO,r3 _ zO,l2];rfl
  ·rw[s3 _ zO,r2];rfl
 rcases e1 with ⟨rfl,rfl,rfl,rfl⟩|⟨rfl,rfl,rfl,rfl⟩
 ·obtain⟨O2,k1,k2,k3⟩:=h1.put (i:=n+2) zO (h3 _ zO zO) (o:=zbi w0.heap.size 3 1 (.slice (some ⟨w,0,none⟩) S S) S (zb2 S fun _=>0)) (zal (yaf _ _)) (zbK ..) (own w.drew S hsz zO) (fun b e=>by rw[←zco e];exact yai _) (fun b e=>e.elim)
  obtain⟨O3,l1,l2,l3⟩:=k1.put (i:=n+4) zO ((k3 _ zO).trans (h3 _ zO zO)) (o:=zbi w0.heap.size 3 1 (.slice (some ⟨(w.heap.size+1),0,none⟩) C C) C (zb2 C fun _=>0)) (w':=(w.drew.alloc (.cells (Array.replicate S (ii 0)) 3)).alloc (.cells (Array.replicate C (ii 0)) 3)) (zal (yaf _ _)) (zbK ..) (by have:=own (w.drew.alloc (.cells (Array.replicate S (ii 0)) 3)) C (by simp[zaq];omega) hC;simp only[ya8,zaq]at this;exact this) (fun b e=>by rw[←zco e];simp[zaq]) (fun b e=>e.elim);exact fin O3 l1 ((l3 _ zO).trans k2) l2 (fun k hk=>(l3 _ zO).trans ((k3 _ zO).trans (h2 k hk))) (fun k a b c d=>(l3 _ zO).trans ((k3 _ zO).trans (h3 k a b))) (by rw[hg];simp[zaq])
 ·obtain⟨O2,k1,k2,k3⟩:=h1.put (i:=n+4) zO (h3 _ zO zO) (o:=zbi w0.heap.size 3 1 (.slice (some ⟨w,0,none⟩) C C) C (zb2 C fun _=>0)) (zal (yaf _ _)) (zbK ..) (own w.drew C hsz hC) (fun b e=>by rw[←zco e];exact yai _) (fun b e=>e.elim)
  obtain⟨O3,l1,l2,l3⟩:=k1.put (i:=n+2) zO ((k3 _ zO).trans (h3 _ zO zO)) (o:=zbi w0.heap.size 3 1 (.slice (some ⟨(w.heap.size+1),0,none⟩) S S) S (zb2 S fun _=>0)) (w':=(w.drew.alloc (.cells (Array.replicate C (ii 0)) 3)).alloc (.cells (Array.replicate S (ii 0)) 3)) (zal (yaf _ _)) (zbK ..) (by have:=own (w.drew.alloc (.cells (Array.replicate C (ii 0)) 3)) S (by simp[zaq];omega) zO;simp only[ya8,zaq]at this;exact this) (fun b e=>by rw[←zco e];simp[zaq]) (fun b e=>e.elim);exact fin O3 l1 l2 ((l3 _ zO).trans k2) (fun k hk=>(l3 _ zO).trans ((k3 _ zO).trans (h2 k hk))) (fun k a b c d=>(l3 _ zO).trans ((k3 _ zO).trans (h3 k a b))) (by rw[hg];simp[zaq])
theorem infoP30:(prog.info? 30).map (fun i=>(i.zero,i.size,i.bytes))=some (some (.pointer none),1,8):=by kernel_rfl
theorem infoP77:(prog.info? 77).map (fun i=>(i.zero,i.size,i.bytes))=some (some (.pointer none),1,8):=by kernel_rfl
theorem rNew_ok {w0 w:World}{n:Nat}{O:Nat→Ob}(h:Mem w0 w n O) (S C:Nat) (hS:1≤S∧S≤4) (hC:C≤6):
  Calls prog 63 #[(S:Int),(C:Int)] w fun e w'=>∃ g,e=.returned (.tuple #[.pointer (some ⟨g,0,none⟩),ii 0])∧∃ O' v,Mem w0 w' (n+16) O'∧RWx w0.heap.size O' n g (zdI S C) v∧∀ k,k<n→O' k=O k:=by
 have HM:=zac h;have HS:=zac hS;have HC:=zac hC;have hmk1:=fun W=>zhG S zO W
 have hmk2:=fun W=>zhG C zO W
 have d0:decide ((S:Int)<1)=false:=zU;have d1:decide ((4:Int)<(S:Int))=false:=zU;have d2:decide ((C:Int)<0)=false:=zU;have d3:decide ((6:Int)<(C:Int))=false:=zU;have hS1:(1:Int)≤(S:Int):=by omega
 have hS4:(S:Int)≤4:=by omega
 have hC0:(0:Int)≤(C:Int):=by omega
 have hC6:(C:Int)≤6:=by omega
 obtain⟨i0,hi0,hz0,hz1,hz2⟩:=yb5 infoP30;obtain⟨i1,hi1,hz4,hz5,hz6⟩:=yb5 infoP77;clear h hS hC;go_enter func63,ntmps63;go_upto_region 3 with ((go_at_call 96;first|(with_reducible refine(zce _ _ _ _ zO zO).mono ?_)|(with_reducible refine(zcL _ _ _ _ zO).mono ?_));(rintro e w2 ⟨rfl,rfl⟩));go_cut [6] (fun tg W'=>∃ g vW vP,tg=.pointer (some ⟨g,0,none⟩)∧RNu w0 W' n O g S C [] [] (.slice none 0 0) vW (.slice none 0 0) vP)
 case first=>
  refine wp_region_held_drew (S:=(fun _:World=>True)) zK ?_ (fun hHeld=>?_)
  ·trivial
  refine zat 0 hHeld ?_;refine zat 2 hHeld ?_;refine zaR [1,3] (zaU rfl (fun K hK=>?_) ?_)
  ·go_simp
   refine hK.out _ _ ?_ (fun hNew=>?_)
   ·trivial
   clear hHeld;have hHeld:=hNew;clear hNew hK K
   try simp only[Act.put,zF,zG,zH]
   refine zaR [3] (zaU rfl (fun K hK=>?_) ?_)
   ·go_simp
    refine hK.out _ _ ?_ (fun hNew=>?_)
    ·trivial
    clear hHeld;have hHeld:=hNew;clear hNew hK K
    try simp only[Act.put,zF,zG,zH]
    refine zat 4 hHeld ?_;refine zaR [5] (zaU rfl (fun K hK=>?_) ?_)
    ·go_simp
     refine hK.out _ _ ?_ (fun hNew=>?_)
     ·trivial
     clear hHeld;have hHeld:=hNew;clear hNew hK K
     try simp only[Act.put,zF,zG,zH]
     refine zat 6 hHeld ?_;refine wpAnyH_done zK ?_ _;go_wp2_with fail;go_meet;exact⟨_,_,_,rfl,RNu.start HM.out HS.out HC.out (.inl ⟨rfl,rfl,rfl,rfl⟩) rfl (by first|rfl|simp[zaq])⟩
    exact AllReadyH.nil
   exact AllReadyH.nil
  refine zaU rfl (fun K hK=>?_) ?_
  ·go_simp
   refine hK.out _ _ ?_ (fun hNew=>?_)
   ·trivial
   clear hHeld;have hHeld:=hNew;clear hNew hK K
   try simp only[Act.put,zF,zG,zH]
   refine zaR [1] (zaU rfl (fun K hK=>?_) ?_)
   ·go_simp
    refine hK.out _ _ ?_ (fun hNew=>?_)
    ·trivial
    clear hHeld;have hHeld:=hNew;clear hNew hK K
    try simp only[Act.put,zF,zG,zH]
    refine zat 4 hHeld ?_;refine zaR [5] (zaU rfl (fun K hK=>?_) ?_)
    ·go_simp
     refine hK.out _ _ ?_ (fun hNew=>?_)
     ·trivial
     clear hHeld;have hHeld:=hNew;clear hNew hK K
     try simp only[Act.put,zF,zG,zH]
     refine zat 6 hHeld ?_;refine wpAnyH_done zK ?_ _;go_wp2_with fail;go_meet;exact⟨_,_,_,rfl,RNu.start HM.out HS.out HC.out (.inr ⟨rfl,rfl,rfl,rfl⟩) rfl (by first|rfl|simp[zaq])⟩
    exact AllReadyH.nil
   exact AllReadyH.nil
  exact AllReadyH.nil
 case rest=>
  obtain⟨g,vW,vP,rfl,hP⟩:=hcut;have HP:=zac hP;clear hP hmk1 hmk2 HM;go_wp2_with fail;go_loopw [23] (fun i W=>∃ (xs:List Nat) (vS:Value),i=ii (xs.length:Nat)∧RNu w0 W n O g S C xs [] vS vW (.slice none 0 0) vP) (fun i _=>S-(Go.RowKit.intOf i).toNat)
  case atStart=>exact⟨[],_,rfl,HP.out⟩
  case round=>
   obtain⟨xs,vS,rfl,hP⟩:=hrel;clear HP;have HP:=zac hP;have hxl:xs.length≤S:=by obtain⟨_,_,h2,_⟩:=hP;exact h2.xl
   have hb:=hP.blk;have c0:=zaa hb 0;simp only[zC,zD,zE]at c0;have f0:=zab hb 0;have HRS:=zac hP.rowS;have hgl:g<wr.heap.size:=zae hb;haveI:zaj (g+1) wr:=⟨hgl⟩;have hw0:w0.heap.size≤wr.heap.size:=by obtain⟨_,h1,_⟩:=hP;exact h1.size
   clear hb hP;by_cases hx:xs.length<S
   ·have hx4:(xs.length:Int)<4:=by omega
    have hxd:decide ((xs.length:Int)<(S:Int))=true:=zT;have HX:=zac hx;have HO1:Hid (∀ b,∀ u∈([.pointer (some ⟨b,0,none⟩)]:List Value),u.oneCell'=true):=zac (by
     intro b u hu;simp at hu;subst hu;rfl)
    have h63:xs.length+1≤maxLen:=by refine yac ?_ maxLen_ge;omega
    have hby:(xs.length+1)*8≤140737488355328:=by omega
    clear hx hxl;go_wp2_with (at_builtin;go_must (refine wpList_append_lies _ rfl _ _ 131 rfl w0.heap.size 30 i0 (.pointer none) 1 8 underlying131 hi0 hz0 hz1 hz2 rfl zI vS xs.length (zfA xs) rfl (zaF HRS.out.1 zB (fun k e=>(zao HRS.out.1 e).2)) ⟨wr.heap.size+1,0,none⟩ 1 1 [.pointer (some ⟨wr,0,none⟩)] rfl rfl (World.news_of_block (cs:=#[.pointer (some ⟨wr,0,none⟩)]) (zag (ya8 _ _).symm _)) (HO1.out _) zI h63 hby zP _ rfl ?_));intro g1 cap1 w5 hown1 hgrow hgl1 hlt1;have HE:=zac (HP.out.site HX.out (w2:=(wr.alloc (z26 xs.length)).alloc (.cells #[.pointer (some ⟨wr,0,none⟩)] 30)) (zal (yaf _ _)) hown1 hgrow (by
     rcases hgl1 with e|e
     ·exact .inl (by rw[e];rfl)
     ·exact .inr (fun b hb=>by simp[Value.ownBlock]at hb;subst hb;rw[e];simp)))
    have hblk:=hgrow.block g zP (fun e=>HRS.out.2 e.symm);rw[heap_alloc,yad zP,heap_alloc,yad zO]at hblk;have q1:w5.cell? ⟨g,0,none⟩=some vS:=by rw[yam hblk];exact c0
    have q2:w5.frozen? ⟨g,0,none⟩=false:=by rw[yal hblk];exact f0
    have hgw5:g<w5.heap.size:=by have:=hgrow.size;simp at this;omega
    haveI:zaj (g+1) w5:=⟨hgw5⟩;clear hown1 hgrow hgl1 hblk;go_wp2_with fail;go_roundw
    case rel=>exact⟨xs++[wr.heap.size],_,zS,HE.out⟩
    case measure=>simp[Go.RowKit.intOf];omega
   ·have hxe:xs.length=S:=by omega
    have HXS:=zac hxe;have hxd:decide ((xs.length:Int)<(S:Int))=false:=zU;have hxd2:decide (xs.length<S)=false:=zU;have hxn:¬xs.length<S:=hx;clear hx hxl hxe c0 f0 HRS;go_wp2_with fail;go_loopw [40] (fun i W=>∃ (us:List Nat) (vC:Value),i=ii (us.length:Nat)∧RNu w0 W n O g S C xs us vS vW vC vP) (fun i _=>C-(Go.RowKit.intOf i).toNat)
    case atStart=>exact⟨[],_,rfl,HP.out⟩
    case round=>
     obtain⟨us,vC,rfl,hP⟩:=hrel;clear HP hgl hw0;have HP:=zac hP;have hul:us.length≤C:=by obtain⟨_,_,h2,_⟩:=hP;exact h2.ul
     have hb:=hP.blk;have c2:=zaa hb 2;simp only[zC,zD,zE]at c2;have f2:=zab hb 2;have HRC:=zac hP.rowC;have hgl:g<wr.heap.size:=zae hb;haveI:zaj (g+1) wr:=⟨hgl⟩;have hw0:w0.heap.size≤wr.heap.size:=by obtain⟨_,h1,_⟩:=hP;exact h1.size
     clear hb hP;by_cases hx:us.length<C
     ·have hx6:(us.length:Int)<6:=by omega
      have hxd:decide ((us.length:Int)<(C:Int))=true:=zT;have hiC:=hx;have HO1:Hid (∀ b,∀ u∈([.pointer (some ⟨b,0,none⟩)]:List Value),u.oneCell'=true):=zac (by
       intro b u hu;simp at hu;subst hu;rfl)
      have h63:us.length+1≤maxLen:=by refine yac ?_ maxLen_ge;omega
      have hby:(us.length+1)*8≤140737488355328:=by omega
      clear hx hul;go_wp2_with (at_builtin;go_must (refine wpList_append_lies _ rfl _ _ 133 rfl w0.heap.size 77 i1 (.pointer none) 1 8 underlying133 hi1 hz4 hz5 hz6 rfl zI vC us.length (zfA us) rfl (zaF HRC.out.1 zB (fun k e=>(zao HRC.out.1 e).2)) ⟨wr.heap.size+1,0,none⟩ 1 1 [.pointer (some ⟨wr,0,none⟩)] rfl rfl (World.news_of_block (cs:=#[.pointer (some ⟨wr,0,none⟩)]) (zag (ya8 _ _).symm _)) (HO1.out _) zI h63 hby zP _ rfl ?_));intro g1 cap1 w5 hown1 hgrow hgl1 hlt1;have HE:=zac (HP.out.sess hiC (w2:=(wr.alloc z79).alloc (.cells #[.pointer (some ⟨wr,0,none⟩)] 77)) (zal (yaf _ _)) hown1 hgrow (by
       rcases hgl1 with e|e
       ·exact .inl (by rw[e];rfl)
       ·exact .inr (fun b hb=>by simp[Value.ownBlock]at hb;subst hb;rw[e];simp)))
      have hblk:=hgrow.block g zP (fun e=>HRC.out.2 e.symm);rw[heap_alloc,yad zP,heap_alloc,yad zO]at hblk;have q1:w5.cell? ⟨g,2,none⟩=some vC:=by rw[yam hblk];exact c2
      have q2:w5.frozen? ⟨g,2,none⟩=false:=by rw[yal hblk];exact f2
      have hgw5:g<w5.heap.size:=by have:=hgrow.size;simp at this;omega
      haveI:zaj (g+1) w5:=⟨hgw5⟩;clear hown1 hgrow hgl1 hblk;go_wp2_with fail;go_roundw
      case rel=>exact⟨us++[wr.heap.size],_,zS,HE.out⟩
      case measure=>simp[Go.RowKit.intOf];omega
     ·have hue:us.length=C:=by omega
      have HUS:=zac hue;have hxd:decide ((us.length:Int)<(C:Int))=false:=zU;have hxd2:decide (us.length<C)=false:=zU;have hxn:¬us.length<C:=hx;clear hx hul hue c2 f2 HRC;go_wp2_with fail;go_ret2;exact⟨g,rfl,HP.out.done HXS.out HUS.out⟩
theorem rNew_bad (S C:Int) (hb:S<1∨4<S∨C<0∨6<C) (w:World):
  Calls prog 63 #[S,C] w fun e w'=>e=.returned (.tuple #[.pointer none,ii 2])∧Below w w w':=by
 by_cases h0:S<1
 ·have d0:decide (S<1)=true:=yae h0
  have e0:¬(1:Int)≤S:=by omega
  clear hb h0;go_enter func63,ntmps63;go_wp2_with ((go_at_call 96;first|(with_reducible refine(zce _ _ _ _ zO zO).mono ?_)|(with_reducible refine(zcL _ _ _ _ zO).mono ?_));(rintro e w2 ⟨rfl,rfl⟩));go_ret2;exact⟨rfl,zB⟩
 have d0:decide (S<1)=false:=yah h0;have e0:(1:Int)≤S:=by omega
 by_cases h1:4<S
 ·have d1:decide (4<S)=true:=yae h1
  have e1:¬S≤4:=by omega
  clear hb h0 h1;go_enter func63,ntmps63;go_wp2_with ((go_at_call 96;first|(with_reducible refine(zce _ _ _ _ zO zO).mono ?_)|(with_reducible refine(zcL _ _ _ _ zO).mono ?_));(rintro e w2 ⟨rfl,rfl⟩));go_ret2;exact⟨rfl,zB⟩
 have d1:decide (4<S)=false:=yah h1;have e1:S≤4:=by omega
 by_cases h2:C<0
 ·have d2:decide (C<0)=true:=yae h2
  have e2:¬(0:Int)≤C:=by omega
  clear hb h0 h1 h2;go_enter func63,ntmps63;go_wp2_with ((go_at_call 96;first|(with_reducible refine(zce _ _ _ _ zO zO).mono ?_)|(with_reducible refine(zcL _ _ _ _ zO).mono ?_));(rintro e w2 ⟨rfl,rfl⟩));go_ret2;exact⟨rfl,zB⟩
 have d2:decide (C<0)=false:=yah h2;have d3:decide (6<C)=true:=zT;have e2:(0:Int)≤C:=by omega
 have e3:¬C≤6:=by omega
 clear hb h0 h1 h2;go_enter func63,ntmps63;go_wp2_with ((go_at_call 96;first|(with_reducible refine(zce _ _ _ _ zO zO).mono ?_)|(with_reducible refine(zcL _ _ _ _ zO).mono ?_));(rintro e w2 ⟨rfl,rfl⟩));go_ret2;exact⟨rfl,zB⟩
section
variable {w0 w:World}{n:Nat}{O:Nat→Ob}{p g:Nat}{A:AWd}{v:WV}{k u x:Nat}
variable {W4 W5 W6:World}{b4:Nat}{A1:Option Addr}{c1:Nat}{T:TxP}{AA:AWd}
def HasW (w0 X:World) (p g:Nat) (A:AWd) (v:WV):Prop:=∃ n1 O1 AA,Mem w0 X n1 O1∧PWx w0.heap.size O1 p g AA v∧p+16≤n1∧(AA.S=A.S∧AA.C=A.C∧AA.wl=A.wl∧AA.pl=A.pl)
def CmA (w0 W:World) (n:Nat) (O:Nat→Ob) (p g:Nat) (A:AWd) (v:WV) (b4:Nat):Prop:=
 ∃ O1,Mem w0 W (n+1) O1∧PWx w0.heap.size O1 p g A v∧O1 n=obB b4 (.cells #[ii 0,ii 0,ii 0,ii 0,ii 0,ii 0,ii 0,ii 0,.slice none 0 0] 44) w0.heap.size∧p+16≤n∧∀ k,k<n→(k<p∨p+16≤k)→O1 k=O k
def CmB (w0 W:World) (n:Nat) (O:Nat→Ob) (p g:Nat) (A:AWd) (v:WV) (b4 b9:Nat):Prop:=
 ∃ O1,Mem w0 W (n+2) O1∧PWx w0.heap.size O1 p g A v∧O1 n=obB b4 (.cells #[ii 0,ii 0,ii 0,ii 0,ii 0,ii 0,ii 0,ii 0,.slice none 0 0] 44) w0.heap.size∧O1 (n+1)=obB b9 (.cells #[ii 0,ii 0,ii 0,ii 0,ii 0,ii 0,ii 0,ii 0,.slice none 0 0] 44) w0.heap.size∧p+16≤n∧∀ k,k<n→(k<p∨p+16≤k)→O1 k=O k
def CmC (w0 W:World) (n:Nat) (O:Nat→Ob) (p g:Nat) (A:AWd) (v:WV) (b4:Nat) (A1:Option Addr) (T:TxP):Prop:=
 ∃ O1,Mem w0 W (n+2) O1∧PWx w0.heap.size O1 p g A v∧O1 n=obB b4 (.cells #[ii 0,ii 0,ii 0,ii 0,ii 0,ii 0,ii 0,ii 0,.slice none 0 0] 44) w0.heap.size∧O1 (n+1)=zcQ A1 T.ws∧p+16≤n∧∀ k,k<n→(k<p∨p+16≤k)→O1 k=O k
def CmD (w0 W:World) (n:Nat) (O:Nat→Ob) (p g:Nat) (A:AWd) (v:WV) (b4 b9:Nat) (A1:Option Addr) (T:TxP):Prop:=
 ∃ O1,Mem w0 W (n+3) O1∧PWx w0.heap.size O1 p g A v∧O1 n=obB b4 (.cells #[ii 0,ii 0,ii 0,ii 0,ii 0,ii 0,ii 0,ii 0,.slice none 0 0] 44) w0.heap.size∧O1 (n+1)=obB b9 (.cells #[ii 0,ii 0,ii 0,ii 0,ii 0,ii 0,ii 0,ii 0,.slice none 0 0] 44) w0.heap.size∧O1 (n+2)=zcQ A1 T.ws∧p+16≤n∧∀ k,k<n→(k<p∨p+16≤k)→O1 k=O k
theorem CmA.has (h:CmA w0 W4 n O p g A v b4):HasW w0 W4 p g A v:=by
 obtain⟨O1,h1,h2,_,h4,_⟩:=h;exact⟨_,O1,A,h1,h2,zO,rfl,rfl,rfl,rfl⟩
theorem CmA.below (h:CmA w0 W4 n O p g A v b4) (hb:Below W4 W4 W5):CmA w0 W5 n O p g A v b4:=by
 obtain⟨O1,h1,h2⟩:=h;exact⟨O1,h1.below hb,h2⟩
theorem CmA.alloc (h:CmA w0 W4 n O p g A v b4):CmB w0 (W4.alloc (.cells #[ii 0,ii 0,ii 0,ii 0,ii 0,ii 0,ii 0,ii 0,.slice none 0 0] 44)) n O p g A v b4 W4.heap.size:=by
 obtain⟨O1,h1,h2,h3,h4,h5⟩:=h;obtain⟨O2,k1,k2,k3⟩:=h1.new1 (.cells #[ii 0,ii 0,ii 0,ii 0,ii 0,ii 0,ii 0,ii 0,.slice none 0 0] 44);exact⟨O2,k1,h2.keep (fun j hj=>k2 _ zO),(k2 n zO).trans h3,k3,h4,fun k hk hne=>(k2 k zO).trans (h5 k hk hne)⟩
theorem CmB.has {b9:Nat}(h:CmB w0 W4 n O p g A v b4 b9):HasW w0 W4 p g A v:=by
 obtain⟨O1,h1,h2,_,_,h4,_⟩:=h;exact⟨_,O1,A,h1,h2,zO,rfl,rfl,rfl,rfl⟩
theorem CmA.commit (h:CmA w0 W4 n O p g A v b4) (hq:∀ O1,Mem w0 W4 (n+1) O1→PWx w0.heap.size O1 p g A v→∃ O',Mem w0 W5 (n+1+1) O'∧O' (n+1)=zcQ A1 T.ws∧PWx w0.heap.size O' p g AA v∧∀ i,i<n+1→(i<p∨p+16≤i)→O' i=O1 i):CmC w0 W5 n O p g AA v b4 A1 T:=by
 obtain⟨O1,h1,h2,h3,h4,h5⟩:=h;obtain⟨O2,k1,k2,k3,k4⟩:=hq O1 h1 h2;exact⟨O2,k1,k3,(k4 n zO zO).trans h3,k2,h4,fun k hk hne=>(k4 k zO hne).trans (h5 k hk hne)⟩
theorem CmB.commit {b9:Nat}(h:CmB w0 W4 n O p g A v b4 b9) (hq:∀ O1,Mem w0 W4 (n+2) O1→PWx w0.heap.size O1 p g A v→∃ O',Mem w0 W5 (n+2+1) O'∧O' (n+2)=zcQ A1 T.ws∧PWx w0.heap.size O' p g AA v∧∀ i,i<n+2→(i<p∨p+16≤i)→O' i=O1 i):CmD w0 W5 n O p g AA v b4 b9 A1 T:=by
 obtain⟨O1,h1,h2,h3,h3b,h4,h5⟩:=h;obtain⟨O2,k1,k2,k3,k4⟩:=hq O1 h1 h2;exact⟨O2,k1,k3,(k4 n zO zO).trans h3,(k4 (n+1) zO zO).trans h3b,k2,h4,fun k hk hne=>(k4 k zO hne).trans (h5 k hk hne)⟩
theorem CmC.has (h:CmC w0 W4 n O p g AA v b4 A1 T) (he:AA.S=A.S∧AA.C=A.C∧AA.wl=A.wl∧AA.pl=A.pl):HasW w0 W4 p g A v:=by
 obtain⟨O1,h1,h2,_,_,h4,_⟩:=h;exact⟨_,O1,AA,h1,h2,zO,he⟩
theorem CmC.has2 (h:CmC w0 W4 n O p g AA v b4 A1 T) (he:AA.S=A.S∧AA.C=A.C∧AA.wl=A.wl∧AA.pl=A.pl) (o:Obj):HasW w0 (W4.alloc o) p g A v:=by
 obtain⟨O1,h1,h2,_,_,h4,_⟩:=h;exact⟨_,O1,AA,h1.below (zal (yaf _ _)),h2,zO,he⟩
theorem CmD.has {b9:Nat}(h:CmD w0 W4 n O p g AA v b4 b9 A1 T) (he:AA.S=A.S∧AA.C=A.C∧AA.wl=A.wl∧AA.pl=A.pl):HasW w0 W4 p g A v:=by
 obtain⟨O1,h1,h2,_,_,_,h4,_⟩:=h;exact⟨_,O1,AA,h1,h2,zO,he⟩
theorem CmD.box {b9:Nat}(h:CmD w0 W4 n O p g AA v b4 b9 A1 T):W4.heap[b9]?=some (.cells #[ii 0,ii 0,ii 0,ii 0,ii 0,ii 0,ii 0,ii 0,.slice none 0 0] 44):=by
 obtain⟨O1,h1,h2,_,h3,_⟩:=h;exact h1.box (i:=n+1) zO h3
theorem CmC.done (h:CmC w0 W4 n O p g AA v b4 A1 T):CmS w0 (W4.alloc (.cells #[T.site,T.seq,T.wall,T.count,T.d0,T.d1,T.d2,T.d3,.slice A1 T.ws.length c1] 44)) n O p g AA v b4 W4.heap.size A1 c1 T:=by
 obtain⟨O1,h1,h2,h3,h4,h5,h6⟩:=h;obtain⟨O2,k1,k2,k3⟩:=h1.new1 (.cells #[T.site,T.seq,T.wall,T.count,T.d0,T.d1,T.d2,T.d3,.slice A1 T.ws.length c1] 44);exact⟨O2,k1,h2.keep (fun j hj=>k2 _ zO),(k2 n zO).trans h3,(k2 (n+1) zO).trans h4,k3,fun k hk hne=>(k2 k zO).trans (h6 k hk hne)⟩
theorem CmD.done {b9:Nat}(h:CmD w0 W4 n O p g AA v b4 b9 A1 T):CmS w0 (zcx W4 b9 (ii T.site) (ii T.seq) (ii T.wall) (ii T.count) (ii T.d0) (ii T.d1) (ii T.d2) (ii T.d3) (.slice A1 T.ws.length c1)) n O p g AA v b4 b9 A1 c1 T:=by
 obtain⟨O1,h1,h2,h3,h4,h5,h6,h7⟩:=h;obtain⟨O2,k1,k2,k3⟩:=h1.fill9' (i:=n+1) zO h4 (ii T.site) (ii T.seq) (ii T.wall) (ii T.count) (ii T.d0) (ii T.d1) (ii T.d2) (ii T.d3) (.slice A1 T.ws.length c1);have k4:=k1.pick (m:=n+3) (fun k=>if k=n+1 then n+2 else if k=n+2 then n+1 else k) (fun k hk=>by(try dsimp only);split <;> (try split) <;> omega) (fun j k hj hk e=>by(try dsimp only at e);split at e <;> split at e <;> (try split at e) <;> (try split at e) <;> omega);have e0:∀ k,k<n+1→(fun k=>O2 (if k=n+1 then n+2 else if k=n+2 then n+1 else k)) k=O2 k:=fun k hk=>by(try dsimp only);rw[yad zO,yad zO]
 refine⟨_,k4,h2.keep (fun j hj=>(e0 _ zO).trans (k3 _ zO)),(e0 n zO).trans ((k3 n zO).trans h3),?_,?_,fun k hk hne=>(e0 k zO).trans ((k3 k zO).trans (h7 k hk hne))⟩
 ·(try dsimp only);rw[yaj rfl,k3 _ zO];exact h5
 ·(try dsimp only);rw[yad zO,yaj rfl];exact k2
theorem CmS.has {b9:Nat}(hn:p+16≤n) (h:CmS w0 W4 n O p g AA v b4 b9 A1 c1 T) (he:AA.S=A.S∧AA.C=A.C∧AA.wl=A.wl∧AA.pl=A.pl):HasW w0 W4 p g A v:=by
 obtain⟨O1,h1,h2,_⟩:=h;exact⟨_,O1,AA,h1,h2,zO,he⟩
theorem znh {m:Nat}{O2:Nat→Ob}{z0 z1 z2 z3 z4 z5 z6 z7 z8:Value}(h:Mem w0 W4 m O2) (hm:n+2≤m) (hn:p+16≤n) (h4:O2 n=obB b4 (.cells #[z0,z1,z2,z3,z4,z5,z6,z7,z8] 44) w0.heap.size) (h5:O2 (n+1)=zcQ A1 T.ws) (hp:PWa w0.heap.size O2 p g v.xs v.us AA)
  (hk:∀ k,k<n→(k<p∨p+16≤k)→O2 k=O k) (u0 u1 u2 u3 u4 u5 u6 u7 u8:Value):CmP w0 (zcx W4 b4 u0 u1 u2 u3 u4 u5 u6 u7 u8) n O p g AA v A1 T:=by
 obtain⟨O3,k1,k2,k3⟩:=h.fill9' (i:=n) zO h4 u0 u1 u2 u3 u4 u5 u6 u7 u8;have k4:=k1.pick (m:=n+1) (fun k=>if k=n then n+1 else k) (fun k hk=>by(try dsimp only);split <;> omega) (fun j k hj hk e=>by(try dsimp only at e);split at e <;> split at e <;> omega);have e0:∀ k,k<n→(fun k=>O3 (if k=n then n+1 else k)) k=O3 k:=fun k hk=>by(try dsimp only);rw[yad zO]
 obtain⟨v',hv,hx,hu⟩:=hp;refine⟨_,k4,?_,⟨v',hv.keep (fun j hj=>(e0 _ zO).trans (k3 _ zO)),hx,hu⟩,fun i hi hne=>(e0 i hi).trans ((k3 i zO).trans (hk i hi hne))⟩
 (try dsimp only)
 rw[yaj rfl,k3 _ zO];exact h5
theorem CmP.none (h:CmP w0 W4 n O p g AA v A1 T) (hn:p+16≤n):CmP w0 W4 n O p g AA v none txZP:=by
 obtain⟨O',h1,h2,h3,h4⟩:=h;obtain⟨O2,k1,k2,k3⟩:=zdQ (h1.less (m:=n) zO);obtain⟨v',hv,hx,hu⟩:=h3;exact⟨O2,k1,k3,⟨v',hv.keep (fun j hj=>k2 _ zO),hx,hu⟩,fun i hi hne=>(k2 i hi).trans (h4 i hi hne)⟩
theorem HasW.cells (h:HasW w0 W4 p g A v){k q:Nat}{bW cW bP cP:Nat}(eW:v.vW=.slice (some ⟨bW,0,none⟩) A.S cW) (eP:v.vP=.slice (some ⟨bP,0,none⟩) A.C cP) (hk:k<A.C) (hq:A.pl k=q) (hqS:q<A.S):
  W4.cell? ⟨g,1,none⟩=some (.slice (some ⟨bW,0,none⟩) A.S cW)∧W4.cell? ⟨g,3,none⟩=some (.slice (some ⟨bP,0,none⟩) A.C cP)∧W4.cell? ⟨bP,k,none⟩=some (ii (q:Int))∧W4.cell? ⟨bW,q,none⟩=some (ii (A.wl q)):=by
 obtain⟨n1,O1,AA,h1,h2,h3,e1,e2,e3,e4⟩:=h;have hb:=h2.blk h1 h3;rw[eW,eP]at hb;have c1:=zaa hb 1;have c3:=zaa hb 3;simp only[zC,zD,zE]at c1 c3;have r2:=h2.b2;have r4:=h2.b4;obtain⟨b,c,e,_,_,hr,_⟩:=zbl h1 (i:=p+2) zO r2 zO;obtain⟨b',c',e',_,_,hr',_⟩:=zbl h1 (i:=p+4) zO r4 zO;rw[eW]at e;rw[eP]at e';simp only[yaP,yaz,yaU,ybN]at e e';obtain⟨rfl,_⟩:=e;obtain⟨rfl,_⟩:=e';refine⟨c1,c3,?_,?_⟩
 ·have:=hr' k _ zO (zbQ zO)
  rw[this,e4,hq]
 ·have:=hr q _ zO (zbQ zO)
  rw[this,e3]
end
section
variable {w0 w:World}{n:Nat}{O:Nat→Ob}{p g:Nat}{A:AWd}{v:WV}{k u x:Nat}
theorem zkA (hp:PWx w0.heap.size O p g A v) (h:Mem w0 w n O) (hn:p+16≤n) (hk:k<A.C):
  Calls prog 102 #[.pointer (some ⟨g,0,none⟩),ii (k:Nat)] w fun e w'=>∃ A1 c1,e=.returned (.tuple #[MTx.val ⟨zdk A k,A1,c1⟩,zbT (zaK A k)])∧CmP w0 w' n O p g (zbB A k) v A1 (zdk A k):=by
 obtain⟨u,hu⟩:=hp.uk hk;obtain⟨x,hx⟩:=hp.xk (hp.ok.pl k);obtain⟨bW,cW,eW,_⟩:=zbl h (i:=p+2) zO hp.b2 (by have:=hp.ok.S;omega);obtain⟨bP,cP,eP,_⟩:=zbl h (i:=p+4) zO hp.b4 zO;obtain⟨q,hq⟩:∃ q,A.pl k=q:=⟨_,rfl⟩;obtain⟨wl,hwl⟩:∃ wl,A.wl q=wl:=⟨_,rfl⟩;have hqS:q<A.S:=by rw[←hq];exact hp.ok.pl k
 have HC:=zac (fun W (hW:Below w w W)=>zcX hp (h.below hW) hn hk hu hx);have HSK:=zac (fun X (hX:HasW w0 X p g A v)=>hX.cells eW eP hk hq hqS);rw[hwl]at HSK;have HA0:Hid (CmA w0 (w.alloc (.cells #[ii 0,ii 0,ii 0,ii 0,ii 0,ii 0,ii 0,ii 0,.slice none 0 0] 44)) n O p g A v w.heap.size):=zac (by
  obtain⟨O1,m1,m2,m3⟩:=h.new1 (.cells #[ii 0,ii 0,ii 0,ii 0,ii 0,ii 0,ii 0,ii 0,.slice none 0 0] 44);exact⟨O1,m1,hp.keep (fun j hj=>m2 _ zO),m3,hn,fun i hi _=>m2 i hi⟩)
 obtain⟨T,hT⟩:∃ T,zdk A k=T:=⟨_,rfl⟩;obtain⟨z,hz⟩:∃ z,zaK A k=z:=⟨_,rfl⟩;rw[hT,hz];have HSC:Hid (∀ W n1 O1,Mem w0 W n1 O1→PWx w0.heap.size O1 p g A v→p+16≤n1→Calls prog 45 #[.pointer (some ⟨u,0,none⟩),.pointer (some ⟨x,0,none⟩),wl] W fun e w'=>
   ∃ A' c',e=.returned (.tuple #[MTx.val ⟨T,A',c'⟩,zbT z])∧∃ O',Mem w0 w' (n1+1) O'∧O' n1=zcQ A' T.ws∧PWx w0.heap.size O' p g (zap A k) v∧∀ i,i<n1→(i<p∨p+16≤i)→O' i=O1 i):=zac (fun W n1 O1 h1 h2 h3=>by
  have:=h2.sCommit h1 h3 hu hx;rw[hT,hz,hq,hwl]at this;exact this)
 have HEQ:Hid ((zap A k).S=A.S∧(zap A k).C=A.C∧(zap A k).wl=A.wl∧(zap A k).pl=A.pl):=zac (by rw[zlu];exact⟨rfl,rfl,rfl,rfl⟩);have HN16:=zac hn;have HTW:Hid (z≠0→T=txZP):=zac (fun e=>by rw[←hT];unfold zdk;rw[yad (by rw[hz];exact e)]);have HTE:Hid (z=0→T=zaZ A k):=zac (fun e=>by rw[←hT];unfold zdk;rw[yaj (by rw[hz];exact e)]);have HCM:Hid (zbB A k=if z=0∧0<(zaZ A k).seq then zay (zap A k) (zfE A q (zaZ A k) A.S)else (zap A k)):=zac (by unfold zbB;rw[hz,hq]);have HRT:Hid (z=0→0<T.seq→zaf T=true∧T.site=(q:Int)):=zac (fun e hs=>by
  have e2:T=zaZ A k:=by rw[←hT];unfold zdk;rw[yaj (by rw[hz];exact e)]
  rw[e2]at hs ⊢;have:=hp.right (hz.trans e) hs;rw[hq]at this;exact this)
 have HS4:Hid (A.S≤4∧q<A.S):=zac ⟨hp.ok.S.2,hqS⟩;have hb:=hp.blk h hn;haveI:zaj (g+1) w:=⟨zae hb⟩;have hk0:(0:Int)≤(k:Int):=by omega
 have hk1:(k:Int)<(A.C:Int):=by omega
 have hq0:(0:Int)≤(q:Int):=by omega
 have hq1:(q:Int)<(A.S:Int):=by omega
 clear hb hu hx eW eP hwl hqS hT hz hp h hn hk hq;obtain⟨S,hS⟩:∃ S,A.S=S:=⟨_,rfl⟩;obtain⟨C,hC⟩:∃ C,A.C=C:=⟨_,rfl⟩;rw[hS]at hq1 HSK HCM HS4;rw[hC]at hk1 HSK;have HSS:=zac hS;clear hS hC;obtain⟨t0,t1,t2,t3,t4,t5,t6,t7,tws⟩:=T;unfold MTx.val at HSC;simp only at HSC;go_enter func102,ntmps102;go_wp2_with fail;go_at_call 112;refine(HC.out _ zB).mono ?_;rintro e w1 ⟨rfl,hb1⟩;have HA:=zac (HA0.out.below hb1);clear HC HA0;have hbq:=hb1.size;generalize w1=W4 at *;haveI:zaj (w.heap.size+1) W4:=⟨by simpa using hbq⟩;clear hbq hb1 w1;go_upto_region 4 with fail;have HN:=zac (HA.out.below (ya2 (yaf _ _)));have HH:=zac (CmA.has HN.out);go_cut [8,9] (fun te tb W'=>∃ (b9:Nat) (A1:Option Addr) (c1:Nat),te=zbT z∧tb=.pointer (some ⟨b9,0,none⟩)∧CmS w0 W' n O p g (zap A k) v w.heap.size b9 A1 c1 (⟨t0,t1,t2,t3,t4,t5,t6,t7,tws⟩:TxP))
 case first=>
  refine wp_region_held_drew (S:=(fun X:World=>X.cell? ⟨g,1,none⟩=some (.slice (some ⟨bW,0,none⟩) S cW)∧X.cell? ⟨g,3,none⟩=some (.slice (some ⟨bP,0,none⟩) C cP)∧X.cell? ⟨bP,k,none⟩=some (ii (q:Int))∧X.cell? ⟨bW,q,none⟩=some (ii wl))) zK ?_ (fun hHeld=>?_)
  ·exact HSK.out _ HH.out
  refine zat 0 hHeld ?_;refine zat 1 hHeld ?_;refine zat 2 hHeld ?_;refine zat 3 hHeld ?_;refine zat 4 hHeld ?_;refine zat 5 hHeld ?_;refine zat 6 hHeld ?_;refine zat 7 hHeld ?_;refine zat 8 hHeld ?_;refine zat 9 hHeld ?_;refine zat 10 hHeld ?_;refine zat 11 hHeld ?_;refine zat 12 hHeld ?_;refine zat 13 hHeld ?_;refine zat 14 hHeld ?_;refine zaR [15,19] (zaU rfl (fun K hK=>?_) ?_)
  ·go_simp
   go_at_call 45;obtain⟨OX,hx1,hx2,hx3,hx4,hx5⟩:=HN.out;refine(HSC.out _ _ _ hx1 hx2 zO).mono ?_;rintro e w3 ⟨A1,c1,rfl,OY,hy1,hy2,hy3,hy4⟩;have HN2:Hid (CmC w0 w3 n O p g (zap A k) v w.heap.size A1 ⟨t0,t1,t2,t3,t4,t5,t6,t7,tws⟩):=zac ⟨OY,hy1,hy3,(hy4 n zO zO).trans hx3,hy2,hx4,fun i hi hne=>(hy4 i zO hne).trans (hx5 i hi hne)⟩;have HH:=zac (CmC.has HN2.out HEQ.out);clear hx1 hx2 hx3 hx4 hx5 hy1 hy2 hy3 hy4;go_wp2_with fail;refine zbg hK (HSK.out _ HH.out) ?_;clear hHeld hK K;intro hHeld;refine zat 16 hHeld ?_;refine zat 17 hHeld ?_;refine zat 18 hHeld ?_;refine zaR [19] (zaU rfl (fun K hK=>?_) ?_)
   ·go_simp
    have HH:=zac (CmC.has2 HN2.out HEQ.out (.cells #[ii 0,ii 0,ii 0,ii 0,ii 0,ii 0,ii 0,ii 0,.slice none 0 0] 44));refine zbg hK (HSK.out _ HH.out) ?_;clear hHeld hK K;intro hHeld;refine zaR [20] (zaU rfl (fun K hK=>?_) ?_)
    ·go_simp
     have HN4:=zac (CmC.done (c1:=c1) HN2.out);simp only at HN4;have HH:=zac (CmS.has HN16.out HN4.out HEQ.out);refine zbg hK (HSK.out _ HH.out) ?_;clear hHeld hK K;intro hHeld;refine zat 21 hHeld ?_;refine wpAnyH_done zK ?_ _;go_wp2_with fail;go_meet;exact⟨_,A1,c1,rfl,rfl,HN4.out⟩
    exact AllReadyH.nil
   exact AllReadyH.nil
  refine zaU rfl (fun K hK=>?_) ?_
  ·go_simp
   have HN2:Hid (CmB w0 (W4.drew.alloc (.cells #[ii 0,ii 0,ii 0,ii 0,ii 0,ii 0,ii 0,ii 0,.slice none 0 0] 44)) n O p g A v w.heap.size W4.heap.size):=zac (CmA.alloc HN.out);have HH:=zac (CmB.has HN2.out);refine zbg hK (HSK.out _ HH.out) ?_;clear hHeld hK K;intro hHeld;refine zaR [15] (zaU rfl (fun K hK=>?_) ?_)
   ·go_simp
    go_at_call 45;obtain⟨OX,hx1,hx2,hx3,hx3b,hx4,hx5⟩:=HN2.out;refine(HSC.out _ _ _ hx1 hx2 zO).mono ?_;rintro e w3 ⟨A1,c1,rfl,OY,hy1,hy2,hy3,hy4⟩;have HN3:Hid (CmD w0 w3 n O p g (zap A k) v w.heap.size W4.heap.size A1 ⟨t0,t1,t2,t3,t4,t5,t6,t7,tws⟩):=zac ⟨OY,hy1,hy3,(hy4 n zO zO).trans hx3,(hy4 (n+1) zO zO).trans hx3b,hy2,hx4,fun i hi hne=>(hy4 i zO hne).trans (hx5 i hi hne)⟩;have HH:=zac (CmD.has HN3.out HEQ.out);have hx9:=CmD.box HN3.out;have r0:=zaa hx9 0;have r1:=zaa hx9 1;have r2:=zaa hx9 2;have r3:=zaa hx9 3;have r4:=zaa hx9 4;have r5:=zaa hx9 5;have r6:=zaa hx9 6;have r7:=zaa hx9 7;have r8:=zaa hx9 8;simp only[zC,zD,zE]at r0 r1 r2 r3 r4 r5 r6 r7 r8;have s0:=zab hx9 0;have s1:=zab hx9 1;have s2:=zab hx9 2;have s3:=zab hx9 3;have s4:=zab hx9 4;have s5:=zab hx9 5;have s6:=zab hx9 6;have s7:=zab hx9 7;have s8:=zab hx9 8;haveI:zaj (W4.heap.size+1) w3:=⟨zae hx9⟩;clear hx9 hx1 hx2 hx3 hx3b hx4 hx5 hy1 hy2 hy3 hy4;go_wp2_with fail;refine zbg hK (HSK.out _ HH.out) ?_;clear hHeld hK K;intro hHeld;refine zat 16 hHeld ?_;refine zat 17 hHeld ?_;refine zat 18 hHeld ?_;refine zaR [20] (zaU rfl (fun K hK=>?_) ?_)
    ·have HN4:=zac (CmD.done (c1:=c1) HN3.out)
     simp only at HN4;have HH:=zac (CmS.has HN16.out HN4.out HEQ.out);unfold zcx at HN4 HH;go_simp;refine zbg hK (HSK.out _ HH.out) ?_;clear hHeld hK K;intro hHeld;refine zat 21 hHeld ?_;refine wpAnyH_done zK ?_ _;go_wp2_with fail;go_meet;exact⟨_,A1,c1,rfl,rfl,HN4.out⟩
    exact AllReadyH.nil
   exact AllReadyH.nil
  exact AllReadyH.nil
 case rest=>
  clear HSC HSK HN HH HA;obtain⟨b9,A1,c1,rfl,rfl,O2,k1,k2,k3,k4,k5,k6⟩:=hcut;have hx4:=k1.box (i:=n) zO k3;have hx9:=k1.box (i:=n+2) zO k5;have x0:=zaa hx4 0;have x1:=zaa hx4 1;have x2:=zaa hx4 2;have x3:=zaa hx4 3;have x4:=zaa hx4 4;have x5:=zaa hx4 5;have x6:=zaa hx4 6;have x7:=zaa hx4 7;have x8:=zaa hx4 8;have r0:=zaa hx9 0;have r1:=zaa hx9 1;have r2:=zaa hx9 2;have r3:=zaa hx9 3;have r4:=zaa hx9 4;have r5:=zaa hx9 5;have r6:=zaa hx9 6;have r7:=zaa hx9 7;have r8:=zaa hx9 8;simp only[zC,zD,zE]at x0 x1 x2 x3 x4 x5 x6 x7 x8 r0 r1 r2 r3 r4 r5 r6 r7 r8;have f0:=zab hx4 0;have f1:=zab hx4 1;have f2:=zab hx4 2;have f3:=zab hx4 3;have f4:=zab hx4 4;have f5:=zab hx4 5;have f6:=zab hx4 6;have f7:=zab hx4 7;have f8:=zab hx4 8;haveI:zaj (w.heap.size+1) wc:=⟨zae hx4⟩;haveI:zaj (b9+1) wc:=⟨zae hx9⟩;have hws:=k1.at_ (n+1) zO;rw[k4]at hws;have HWS:Hid (zaN wc A1 tws):=zac hws.1;have K1:=zac k1;have K2:=zac k2;have K3:=zac k3;have K4:=zac k4;have K5:=zac k5;have K6:=zac k6;have hbc:=k2.blk k1 (by have:=HN16.out;omega);obtain⟨aS,cS,eS⟩:=zbq k1 (i:=p+1) (by have:=HN16.out;omega) k2.b1;rw[eS,HEQ.out.1,HSS.out]at hbc;have c0:=zaa hbc 0;simp only[zC,zD,zE]at c0;haveI:zaj (g+1) wc:=⟨zae hbc⟩;clear hx4 hx9 hws k1 k2 k3 k4 k5 k6 hbc eS;by_cases hz0:z=0
  ·obtain rfl:z=0:=hz0
   rw[show zbT 0=Value.nilIface from rfl];have HT1:=zac (HTE.out (by first|rfl|trivial));clear HTW HTE;by_cases hs:0<t1
   ·obtain⟨hrt,hq0'⟩:=HRT.out (by first|rfl|trivial) hs
    (try simp only at hq0')
    subst hq0';have HET:=zac (fun W (hW:Below wc wc W)=>zhm (⟨(q:Int),t1,t2,t3,t4,t5,t6,t7,tws⟩:TxP) A1 c1 W hrt (HWS.out.below hW));have HRT2:=zac hrt;have HCM2:Hid (zbB A k=zay (zap A k) (zfE A q (⟨(q:Int),t1,t2,t3,t4,t5,t6,t7,tws⟩:TxP) S)):=zac (by rw[HCM.out,yaj ⟨by first|rfl|trivial,by rw[←HT1.out];exact hs⟩,HT1.out]);have ds:decide (0<t1)=true:=yae hs;have HSQ:=zac hs;clear hrt HRT HCM hs HT1;go_wp2_with fail;go_at_call 146;refine(HET.out _ zB).mono ?_;rintro e w5 ⟨v',rfl,hb5,hown⟩;obtain⟨Ab,cb,rfl⟩:=zaP hown;obtain⟨O3,m1,m2,m3⟩:=zld K1.out hb5 hown;have HU0:Hid (zbF w0 w5 (n+4) O3 p g v.xs v.us (zay (zap A k) (zfE A q (⟨(q:Int),t1,t2,t3,t4,t5,t6,t7,tws⟩:TxP) 0))):=zac ⟨O3,m1,(K2.out.keep (fun j hj=>m2 _ (by have:=HN16.out;omega))).a,fun _ _ _=>rfl⟩;have HO0:Hid (O3 n=obB w.heap.size (.cells #[ii 0,ii 0,ii 0,ii 0,ii 0,ii 0,ii 0,ii 0,.slice none 0 0] 44) w0.heap.size):=zac ((m2 n zO).trans K3.out);have HO1:Hid (O3 (n+1)=zcQ A1 tws):=zac ((m2 (n+1) zO).trans K4.out);have HO2:Hid (O3 (n+2)=_):=zac ((m2 (n+2) zO).trans K5.out);have HO3:=zac m3;have HKO:Hid (∀ i,i<n→(i<p∨p+16≤i)→O3 i=O i):=zac (fun i hi hne=>(m2 i zO).trans (K6.out i hi hne));obtain⟨x5,rfl⟩:=zad hb5;clear hb5 hown m1 m2 m3 HET K1 K2 K3 K4 K5 K6;go_wp2_with fail;have hAS:(zap A k).S=S:=by rw[HEQ.out.1,HSS.out]
    have HAS:=zac hAS;have HQ2:=zac HS4.out;clear hAS;go_loopw [60] (fun i W=>∃ j:Nat,i=ii j∧j≤S∧zbF w0 W (n+4) O3 p g v.xs v.us (zay (zap A k) (zfE A q (⟨(q:Int),t1,t2,t3,t4,t5,t6,t7,tws⟩:TxP) j))) (fun i _=>S-(Go.RowKit.intOf i).toNat)
    case atStart=>exact⟨0,rfl,yay _,HU0.out⟩
    case round=>
     obtain⟨j,rfl,hj,hU⟩:=hrel;clear HU0;have HU:=zac hU;obtain⟨O4,l1,⟨v4,l2,ex,eu⟩,l3⟩:=hU;have hx9:=l1.box (i:=n+2) zO ((l3 (n+2) zO (by have:=HN16.out;omega)).trans HO2.out);have r0:=zaa hx9 0;have r1:=zaa hx9 1;have r2:=zaa hx9 2;have r3:=zaa hx9 3;have r4:=zaa hx9 4;have r5:=zaa hx9 5;have r6:=zaa hx9 6;have r7:=zaa hx9 7;have r8:=zaa hx9 8;simp only[zC,zD,zE]at r0 r1 r2 r3 r4 r5 r6 r7 r8;haveI:zaj (b9+1) wr:=⟨zae hx9⟩;by_cases hjS:j<S
     ·have hj4:(j:Int)<4:=by have:=HQ2.out.1;omega
      have hjd:decide ((j:Int)<(S:Int))=true:=zT;have hbs:=l1.at_ (n+3) zO;rw[l3 (n+3) zO (by have:=HN16.out;omega),HO3.out]at hbs;have HBS:=zac (zki hbs rfl).1;have HSD:Hid (∀ W,Below wr wr W→Calls prog 147 #[.pointer (some ⟨g,0,none⟩),(j:Int),.slice Ab (txB (⟨(q:Int),t1,t2,t3,t4,t5,t6,t7,tws⟩:TxP)).length cb] W fun e w'=>e=.returned (.tuple #[])∧zbF w0 w' (n+4) O3 p g v.xs v.us (zaJ (zay (zap A k) (zfE A q (⟨(q:Int),t1,t2,t3,t4,t5,t6,t7,tws⟩:TxP) j)) ⟨j,⟨(q:Int),t1,t2,t3,t4,t5,t6,t7,tws⟩,0,0,0,0,0⟩)):=zac (fun W hW=>by
       have hs1:=HSQ.out;have h1:=zeB l2 (l1.below hW) (by have:=HN16.out;omega) ⟨j,⟨(q:Int),t1,t2,t3,t4,t5,t6,t7,tws⟩,0,0,0,0,0⟩ ⟨by show j<(zay (zap A k) _).S;rw[(awSends_eq _ _).1,HAS.out];exact hjS,fun _=>HRT2.out,fun e=>absurd hs1 e⟩ Ab cb (by
        rw[ziZ (gm:=⟨j,⟨(q:Int),t1,t2,t3,t4,t5,t6,t7,tws⟩,0,0,0,0,0⟩) hs1];exact(HBS.out.above fun k hk=>hW.block k hk).mono hW.size)
       rw[ziZ (gm:=⟨j,⟨(q:Int),t1,t2,t3,t4,t5,t6,t7,tws⟩,0,0,0,0,0⟩) hs1,ex,eu]at h1;refine h1.mono ?_;rintro e w' ⟨q1,q2⟩;exact⟨q1,zbF.next l3 q2⟩)
      clear hx9 l1 l2 l3 ex eu hbs;by_cases hjq:j=q
      ·have e1:((j:Int)==(q:Int))=true:=by simp[hjq]
       have HNX:Hid (zfE A q (⟨(q:Int),t1,t2,t3,t4,t5,t6,t7,tws⟩:TxP) (j+1)=zfE A q (⟨(q:Int),t1,t2,t3,t4,t5,t6,t7,tws⟩:TxP) j):=zac (by rw[zeV,yad (by simpa using hjq),ybM]);have e1b:(j==q)=true:=by simp[hjq]
       clear hjq HSD HBS;go_wp2_with fail;go_roundw
       case rel=>exact⟨j+1,by go_num,zO,by rw[HNX.out];exact HU.out⟩
       case measure=>simp[Go.RowKit.intOf];omega
      ·have e1:((j:Int)==(q:Int))=false:=by simp;omega
       have e1b:(j==q)=false:=by simp[hjq]
       have HNX:Hid (zay (zap A k) (zfE A q (⟨(q:Int),t1,t2,t3,t4,t5,t6,t7,tws⟩:TxP) (j+1))=zaJ (zay (zap A k) (zfE A q (⟨(q:Int),t1,t2,t3,t4,t5,t6,t7,tws⟩:TxP) j)) ⟨j,⟨(q:Int),t1,t2,t3,t4,t5,t6,t7,tws⟩,0,0,0,0,0⟩):=zac (by rw[zeV,yaj hjq,zgx]);clear hjq HU;generalize zaJ (zay (zap A k) (zfE A q (⟨(q:Int),t1,t2,t3,t4,t5,t6,t7,tws⟩:TxP) j)) ⟨j,⟨(q:Int),t1,t2,t3,t4,t5,t6,t7,tws⟩,0,0,0,0,0⟩=AN at *;go_wp2_with fail;go_at_call 147;refine(HSD.out _ zB).mono ?_;rintro e w7 ⟨rfl,hU2⟩;have HU2:=zac hU2;clear hU2 HSD HBS;go_wp2_with fail;go_roundw
       case rel=>exact⟨j+1,by go_num,zO,by rw[HNX.out];exact HU2.out⟩
       case measure=>simp[Go.RowKit.intOf];omega
     ·obtain rfl:j=S:=by omega
      have hjd:decide ((j:Int)<(j:Int))=false:=zU;have hx4:=l1.box (i:=n) zO ((l3 n zO (by have:=HN16.out;omega)).trans HO0.out);have x0:=zaa hx4 0;have x1:=zaa hx4 1;have x2:=zaa hx4 2;have x3:=zaa hx4 3;have x4:=zaa hx4 4;have x5:=zaa hx4 5;have x6:=zaa hx4 6;have x7:=zaa hx4 7;have x8:=zaa hx4 8;have f0:=zab hx4 0;have f1:=zab hx4 1;have f2:=zab hx4 2;have f3:=zab hx4 3;have f4:=zab hx4 4;have f5:=zab hx4 5;have f6:=zab hx4 6;have f7:=zab hx4 7;have f8:=zab hx4 8;simp only[zC,zD,zE]at x0 x1 x2 x3 x4 x5 x6 x7 x8;haveI:zaj (w.heap.size+1) wr:=⟨zae hx4⟩;have HF:=zac (znh (T:=(⟨(q:Int),t1,t2,t3,t4,t5,t6,t7,tws⟩:TxP)) (v:=v) (AA:=zay (zap A k) (zfE A q (⟨(q:Int),t1,t2,t3,t4,t5,t6,t7,tws⟩:TxP) j)) l1 zO HN16.out ((l3 n zO (by have:=HN16.out;omega)).trans HO0.out) ((l3 (n+1) zO (by have:=HN16.out;omega)).trans HO1.out) ⟨v4,l2,ex,eu⟩ (fun i hi hne=>(l3 i zO hne).trans (HKO.out i hi hne)) (ii (q:Int)) (ii t1) (ii t2) (ii t3) (ii t4) (ii t5) (ii t6) (ii t7) (.slice A1 tws.length c1));unfold zcx at HF;clear hx9 hx4 l1 l2 l3 ex eu hjS hj HU;go_wp2_with fail;refine yag (v:=.tuple #[.agg #[ii (q:Int),ii t1,ii t2,ii t3,ii t4,ii t5,ii t6,ii t7,.slice A1 tws.length c1],.nilIface]) ?_ rfl ⟨A1,c1,rfl,by rw[HCM2.out];exact HF.out⟩;simp[results,results102,go_sem,x0,x1,x2,x3,x4,x5,x6,x7,x8]
   ·have ds:decide (0<t1)=false:=yah hs
    have HCM2:Hid (zbB A k=(zap A k)):=zac (by rw[HCM.out,yad (fun e=>hs (by have:=e.2;rw[←HT1.out]at this;exact this))]);have HF:=zac (znh (T:=(⟨t0,t1,t2,t3,t4,t5,t6,t7,tws⟩:TxP)) (v:=v) (AA:=(zap A k)) K1.out zO HN16.out K3.out K4.out K2.out.a K6.out (ii t0) (ii t1) (ii t2) (ii t3) (ii t4) (ii t5) (ii t6) (ii t7) (.slice A1 tws.length c1));unfold zcx at HF;clear HRT HCM hs HT1 K1 K2 K3 K4 K5 K6 HWS;go_wp2_with fail;refine yag (v:=.tuple #[.agg #[ii t0,ii t1,ii t2,ii t3,ii t4,ii t5,ii t6,ii t7,.slice A1 tws.length c1],.nilIface]) ?_ rfl ⟨A1,c1,rfl,by rw[HCM2.out];exact HF.out⟩;simp[results,results102,go_sem,x0,x1,x2,x3,x4,x5,x6,x7,x8]
  ·have he:zbT z=.iface 29 (ii z):=by unfold zbT;rw[yad hz0]
   have HCM2:Hid (zbB A k=(zap A k)):=zac (by rw[HCM.out,yad (fun e=>hz0 e.1)]);have HTZ:=HTW.out hz0;unfold txZP at HTZ;simp only[TxP.mk.injEq]at HTZ;obtain⟨rfl,rfl,rfl,rfl,rfl,rfl,rfl,rfl,rfl⟩:=HTZ;have HF:=zac ((znh (T:=⟨0,0,0,0,0,0,0,0,[]⟩) (v:=v) (AA:=(zap A k)) K1.out zO HN16.out K3.out K4.out K2.out.a K6.out (ii 0) (ii 0) (ii 0) (ii 0) (ii 0) (ii 0) (ii 0) (ii 0) (.slice none 0 0)).none HN16.out);unfold zcx at HF;rw[he];clear HRT HCM hz0 HTW HTE K1 K2 K3 K4 K5 K6 HWS;have HE0:=zac he;clear he;go_wp2_with fail;refine yag (v:=.tuple #[.agg #[ii 0,ii 0,ii 0,ii 0,ii 0,ii 0,ii 0,ii 0,.slice none 0 0],.iface 29 (ii z)]) ?_ rfl ⟨none,0,by rw[HE0.out];rfl,by rw[HCM2.out];exact HF.out⟩;simp[results,results102,go_sem,x0,x1,x2,x3,x4,x5,x6,x7,x8]
end
end Go.Proofs.YtbopfhbeegkkaabGreatDoor
