/- Part 20 of a proof: lemmas and contracts that other parts use. -/
import Derived.Test.YtbopfhbeegkkaabGreatDoorWp19
import Derived.Test.YtbopfhbeegkkaabGreatDoorWp4
import Derived.Test.YtbopfhbeegkkaabGreatDoorWp3
import Derived.Lib.SliceRun
import Derived.Deep.RegionLaw
set_option linter.unusedVariables false
set_option linter.unusedSimpArgs false
set_option maxHeartbeats 4000000
set_option maxRecDepth 20000
namespace Go.Proofs.YtbopfhbeegkkaabGreatDoor
open Go.RowKit Go.Proofs.Tryz
theorem rRun_id:∀ (f:Nat) (r:RSi),(rRun f r).id=r.id
 | 0,r=>rfl
 | f+1,r=>by
   unfold rRun;split
   ·rfl
   ·exact rRun_id f _
section
variable {w0 w:World}{n:Nat}{O:Nat→Ob}{p g:Nat}{A:AWd}{v:WV}{k u x:Nat}
theorem PWx.atS (hp:PWx w0.heap.size O p g A v) (h:Mem w0 w n O) (hn:p+16≤n){i x:Nat}(hx:v.xs[i]?=some x):(O (p+(6+i))).at_ w:=by
 have:=zaI hx;have:=hp.xl;have:=hp.ok.S;exact h.at_ _ zO
theorem PWx.atU (hp:PWx w0.heap.size O p g A v) (h:Mem w0 w n O) (hn:p+16≤n){i u:Nat}(hu:v.us[i]?=some u):(O (p+(10+i))).at_ w:=by
 have:=zaI hu;have:=hp.ul;have:=hp.ok.C;exact h.at_ _ zO
theorem PWx.below {w':World}(hp:PWx w0.heap.size O p g A v) (h:Mem w0 w n O) (hb:Below w w w'):zbF w0 w' n O p g v.xs v.us A:=zbF.below h hp hb
theorem PWx.sBegin (hp:PWx w0.heap.size O p g A v) (h:Mem w0 w n O) (hn:p+16≤n) (hu:v.us[k]?=some u) (hx:v.xs[A.pl k]?=some x):
  Calls prog 38 #[.pointer (some ⟨u,0,none⟩),.pointer (some ⟨x,0,none⟩)] w fun e w'=>e=.returned (zbT (zfP A k))∧zbF w0 w' n O p g v.xs v.us (zev A k):=by
 refine((hp.cl k u hu).begin_ (hp.atU h hn hu) x _ _ _ _ fun W hb=>(hp.si _ x hx).applied (h.at_below (by have:=zaI hx;have:=hp.xl;have:=hp.ok.S;omega) hb)).mono ?_;rintro e w' ⟨rfl,hU⟩;exact⟨rfl,zbF.cl h hn hp hu hU⟩
theorem PWx.sRead (hp:PWx w0.heap.size O p g A v) (h:Mem w0 w n O) (hn:p+16≤n) (hu:v.us[k]?=some u) (hx:v.xs[A.pl k]?=some x) (key:Int) (hk:zcr key):
  Calls prog 41 #[.pointer (some ⟨u,0,none⟩),.pointer (some ⟨x,0,none⟩),key] w fun e w'=>e=.returned (.tuple #[.string (zft A k key).1,zbT (zft A k key).2])∧Below w w w':=
 (hp.cl k u hu).read (hp.atU h hn hu) x key _ hk fun W hb=>(hp.si _ x hx).read (h.at_below (by have:=zaI hx;have:=hp.xl;have:=hp.ok.S;omega) hb) key _ _ _ _
theorem PWx.sWrite (hp:PWx w0.heap.size O p g A v) (h:Mem w0 w n O) (hn:p+16≤n) (hu:v.us[k]?=some u) (y:WrP):
  Calls prog 42 #[.pointer (some ⟨u,0,none⟩),y.val] w fun e w'=>e=.returned (zbT (zfO A k y))∧zbF w0 w' n O p g v.xs v.us (zdW A k y):=by
 refine((hp.cl k u hu).write (hp.atU h hn hu) y).mono ?_;rintro e w' ⟨rfl,hU⟩;exact⟨rfl,zbF.cl h hn hp hu hU⟩
theorem PWx.sAbort (hp:PWx w0.heap.size O p g A v) (h:Mem w0 w n O) (hn:p+16≤n) (hu:v.us[k]?=some u):
  Calls prog 46 #[.pointer (some ⟨u,0,none⟩)] w fun e w'=>e=.returned (zbT (zfQ A k))∧zbF w0 w' n O p g v.xs v.us (zew A k):=by
 refine((hp.cl k u hu).abort (hp.atU h hn hu)).mono ?_;rintro e w' ⟨rfl,hU⟩;exact⟨rfl,zbF.cl h hn hp hu hU⟩
theorem PWx.sPast (hp:PWx w0.heap.size O p g A v) (h:Mem w0 w n O) (hn:p+16≤n) (hu:v.us[k]?=some u):
  Calls prog 48 #[.pointer (some ⟨u,0,none⟩)] w fun e w'=>e=.returned (.agg #[ii (A.cl k).q0,ii (A.cl k).q1,ii (A.cl k).q2,ii (A.cl k).q3])∧Below w w w':=
 (hp.cl k u hu).past (hp.atU h hn hu)
theorem PWx.sSnap (hp:PWx w0.heap.size O p g A v) (h:Mem w0 w n O) (hn:p+16≤n) (hu:v.us[k]?=some u):
  Calls prog 49 #[.pointer (some ⟨u,0,none⟩)] w fun e w'=>e=.returned (.agg #[ii (A.cl k).n0,ii (A.cl k).n1,ii (A.cl k).n2,ii (A.cl k).n3])∧Below w w w':=
 (hp.cl k u hu).snap (hp.atU h hn hu)
theorem PWx.sOpen (hp:PWx w0.heap.size O p g A v) (h:Mem w0 w n O) (hn:p+16≤n) (hu:v.us[k]?=some u):
  Calls prog 50 #[.pointer (some ⟨u,0,none⟩)] w fun e w'=>e=.returned (.bool (A.cl k).op)∧Below w w w':=
 (hp.cl k u hu).open_ (hp.atU h hn hu)
theorem PWx.sApplied (hp:PWx w0.heap.size O p g A v) (h:Mem w0 w n O) (hn:p+16≤n) (hx:v.xs[k]?=some x):
  Calls prog 26 #[.pointer (some ⟨x,0,none⟩)] w fun e w'=>e=.returned (.agg #[ii (A.si k).p0,ii (A.si k).p1,ii (A.si k).p2,ii (A.si k).p3])∧Below w w w':=
 (hp.si k x hx).applied (hp.atS h hn hx)
theorem PWx.sWaits (hp:PWx w0.heap.size O p g A v) (h:Mem w0 w n O) (hn:p+16≤n) (hx:v.xs[k]?=some x):
  Calls prog 27 #[.pointer (some ⟨x,0,none⟩)] w fun e w'=>e=.returned (ii ((A.si k).ws.length:Nat))∧Below w w w':=
 (hp.si k x hx).waits (hp.atS h hn hx)
theorem PWx.sMany (hp:PWx w0.heap.size O p g A v) (h:Mem w0 w n O) (hn:p+16≤n) (hx:v.xs[k]?=some x):
  Calls prog 30 #[.pointer (some ⟨x,0,none⟩)] w fun e w'=>e=.returned (ii ((A.si k).held.length:Nat))∧Below w w w':=
 (hp.si k x hx).many (hp.atS h hn hx)
theorem PWx.sAll (hp:PWx w0.heap.size O p g A v) (h:Mem w0 w n O) (hn:p+16≤n) (hx:v.xs[k]?=some x):
  Calls prog 32 #[.pointer (some ⟨x,0,none⟩)] w fun e w'=>∃ A' c',e=.returned (.slice A' 8 c')∧zgX w' A' (zfG (A.si k))∧Below w w w':=
 (hp.si k x hx).all (hp.atS h hn hx)
theorem PWx.sStable (hp:PWx w0.heap.size O p g A v) (h:Mem w0 w n O) (hn:p+16≤n) (hx:v.xs[k]?=some x) (m:Int):
  Calls prog 28 #[.pointer (some ⟨x,0,none⟩),m] w fun e w'=>
   e=.returned (.agg #[ii (zbR (A.si k) m 0 (A.si k).p0),ii (zbR (A.si k) m 1 (A.si k).p1),ii (zbR (A.si k) m 2 (A.si k).p2),ii (zbR (A.si k) m 3 (A.si k).p3)])∧Below w w w':=
 (hp.si k x hx).stable (hp.atS h hn hx) m
theorem PWx.sMissing (hp:PWx w0.heap.size O p g A v) (h:Mem w0 w n O) (hn:p+16≤n) (hx:v.xs[k]?=some x) (v0 v1 v2 v3:Int):
  Calls prog 35 #[.pointer (some ⟨x,0,none⟩),.agg #[ii v0,ii v1,ii v2,ii v3]] w fun e w'=>∃ (A':Option Addr) (c':Nat) (outs:List MTx),e=.returned (.slice A' outs.length c')∧outs.map (·.t)=zdK (A.si k) v0 v1 v2 v3∧
   zd9 w' A' outs∧(∀ b o,A'=some ⟨b,o,none⟩→w.heap.size≤b∧b<w'.heap.size)∧(∀ m∈outs,zaN w' m.A m.t.ws∧∀ b o,m.A=some ⟨b,o,none⟩→w.heap.size≤b∧b<w'.heap.size)∧Below w w w':=by
 obtain⟨mb,s,lv,sv,ho,hf,h40⟩:=hp.si k x hx;have hat:=hp.atS h hn hx;rw[ho]at hat
 have hl:∀ m∈s.log,zaf m.t=true:=fun m hm=>hf.rlg m.t (by rw[←hf.rep.log];exact ybE.2 ⟨m,hm,rfl⟩)
 refine(zjH w0.heap.size x mb s lv sv v0 v1 v2 v3 w hat hl (by have:=hf.inv.log;omega)).mono ?_;rintro e w' ⟨A',c',outs,rfl,h1,h2⟩;exact⟨A',c',outs,rfl,by rw[h1,hf.rep.log];rfl,h2⟩
theorem PWx.rlg (hp:PWx w0.heap.size O p g A v){k:Nat}(hk:k<A.S):∀ t∈(A.si k).log,zaf t=true:=by
 obtain⟨x,hx⟩:=hp.xk hk;obtain⟨mb,s,lv,sv,ho,hf,h40⟩:=hp.si k x hx;exact hf.rlg
theorem PWx.ask (hp:PWx w0.heap.size O p g A v){k:Nat}(hk:k<A.S):zeL (k:Int) (A.si k).p0 (A.si k).p1 (A.si k).p2 (A.si k).p3=true:=by
 obtain⟨x,hx⟩:=hp.xk hk;obtain⟨mb,s,lv,sv,ho,hf,h40⟩:=hp.si k x hx;have h1:=hf.inv.ap;have h2:=hp.ok.S;rw[←hf.rep.p0,←hf.rep.p1,←hf.rep.p2,←hf.rep.p3];unfold zlE at h1;simp only[zeL,okN,yav,yap];omega
theorem PWx.sTake (hp:PWx w0.heap.size O p g A v) (h:Mem w0 w n O) (hn:p+16≤n) (hx:v.xs[k]?=some x) (t:TxP) (A':Option Addr) (c:Nat) (hws:zaN w A' t.ws) (hwl:t.ws.length≤1000000) (hfa:zcr t.site) (hfb:zcr t.seq):
  Calls prog 17 #[.pointer (some ⟨x,0,none⟩),MTx.val ⟨t,A',c⟩] w fun e w'=>e=.returned (zbT (zb3 (A.si k) t))∧zbF w0 w' n O p g v.xs v.us (zfs A k t):=by
 have hid:(zdO (A.si k) t).id=(k:Int):=by
  rw[←hp.ok.id k];unfold zdO;split
  ·rw[rRun_id]
  ·rfl
 refine((hp.si k x hx).take (hp.atS h hn hx) t A' c hws hwl hfa hfb).mono ?_;rintro e w' ⟨rfl,hU⟩;exact⟨rfl,zbF.si h hn hp hx hid hU⟩
theorem PWx.sKnows (hp:PWx w0.heap.size O p g A v) (h:Mem w0 w n O) (hn:p+16≤n) (hx:v.xs[k]?=some x) (f:Nat) (v0 v1 v2 v3:Int) (hf:f<4):
  Calls prog 20 #[.pointer (some ⟨x,0,none⟩),ii (f:Nat),.agg #[ii v0,ii v1,ii v2,ii v3]] w fun e w'=>e=.returned .nilIface∧zbF w0 w' n O p g v.xs v.us (zbn A k f v0 v1 v2 v3):=by
 refine((hp.si k x hx).knows (hp.atS h hn hx) f v0 v1 v2 v3 hf).mono ?_;rintro e w' ⟨rfl,hU⟩;exact⟨rfl,zbF.si h hn hp hx (hp.ok.id k) hU⟩
theorem PWx.sSweep (hp:PWx w0.heap.size O p g A v) (h:Mem w0 w n O) (hn:p+16≤n) (hx:v.xs[k]?=some x) (v0 v1 v2 v3:Int):
  Calls prog 21 #[.pointer (some ⟨x,0,none⟩),.agg #[ii v0,ii v1,ii v2,ii v3]] w fun e w'=>e=.returned (.tuple #[])∧zbF w0 w' n O p g v.xs v.us { A with si:=zb5 A.si k (zc6 (A.si k) v0 v1 v2 v3) }:=by
 refine((hp.si k x hx).sweep (hp.atS h hn hx) v0 v1 v2 v3).mono ?_;rintro e w' ⟨rfl,hU⟩;exact⟨rfl,zbF.si h hn hp hx (hp.ok.id k) hU⟩
end
structure RGm where
 g:GmP
 A:Option Addr
 c:Nat
def RGm.cells (m:RGm):List Value:=[ii (m.g.tgt:Int),ii m.g.tx.site,ii m.g.tx.seq,ii m.g.tx.wall,ii m.g.tx.count,ii m.g.tx.d0,ii m.g.tx.d1,ii m.g.tx.d2,ii m.g.tx.d3,.slice m.A m.g.tx.ws.length m.c,ii (m.g.frm:Int),ii m.g.h0,ii m.g.h1,ii m.g.h2,ii m.g.h3]
def zjh (B:Nat) (v:Value) (gs:List RGm):Ob:=
 ⟨fun w=>w.ownsRow B 199 15 v gs.length (gs.flatMap RGm.cells)∧∀ m∈gs,zaN w m.A m.g.tx.ws∧∀ b o,m.A=some ⟨b,o,none⟩→b<w.heap.size∧v.ownBlock≠some b,
  fun b=>v.ownBlock=some b,fun b=>∃ m∈gs,∃ o,m.A=some ⟨b,o,none⟩⟩
theorem zjD (B:Nat) (v:Value) (gs:List RGm):(zjh B v gs).Ok B:=
 ⟨fun w w' h hs hb=>⟨zfI h.1 fun b e=>hb b (.inl e),fun m hm=>⟨(h.2 m hm).1.keep fun b o e=>hb b (.inr ⟨m,hm,o,e⟩),fun b o e=>⟨yab ((h.2 m hm).2 b o e).1 hs,((h.2 m hm).2 b o e).2⟩⟩⟩,
  fun w b h e=>zao h.1 e,fun w b h ⟨m,hm,o,e⟩=>((h.2 m hm).2 b o e).1⟩
def zlD (l:List GmP) (gs:List RGm):Prop:=gs.map RGm.g=l
theorem zlD.len {l:List GmP}{gs:List RGm}(h:zlD l gs):gs.length=l.length:=by
 have:=yaS List.length h;simpa using this
structure RV where
 vS:Value
 vW:Value
 vC:Value
 vP:Value
 vG:Value
 xs:List Nat
 us:List Nat
 gs:List RGm
structure RWx (B:Nat) (O:Nat→Ob) (p g:Nat) (A:AWd) (v:RV):Prop where
 ok:AOk A
 xl:v.xs.length=A.S
 ul:v.us.length=A.C
 wr:zlD A.way v.gs
 b0:O (p+0)=obB g (.cells #[v.vS,v.vW,v.vC,v.vP,v.vG,ii (wrap64 (A.lost:Int))] 136) B
 b1:O (p+1)=zbi B 30 1 v.vS A.S (zfA v.xs)
 b2:O (p+2)=zbi B 3 1 v.vW A.S (zb2 A.S A.wl)
 b3:O (p+3)=zbi B 77 1 v.vC A.C (zfA v.us)
 b4:O (p+4)=zbi B 3 1 v.vP A.C (zb2 A.C fun k=>(A.pl k:Int))
 b5:O (p+5)=zjh B v.vG v.gs
 si:∀ k x,v.xs[k]?=some x→zcM B x (A.si k) (O (p+(6+k)))
 cl:∀ k u,v.us[k]?=some u→zeA B u (A.cl k) (O (p+(10+k)))
section
variable {B:Nat}{O O':Nat→Ob}{p g:Nat}{A:AWd}{v:RV}
theorem RWx.xk (h:RWx B O p g A v){k:Nat}(hk:k<A.S):∃ x,v.xs[k]?=some x:=⟨v.xs[k]'(by rw[h.xl];exact hk),yaa _⟩
theorem RWx.uk (h:RWx B O p g A v){k:Nat}(hk:k<A.C):∃ u,v.us[k]?=some u:=⟨v.us[k]'(by rw[h.ul];exact hk),yaa _⟩
theorem RWx.keep (h:RWx B O p g A v) (he:∀ j,j<16→O' (p+j)=O (p+j)):RWx B O' p g A v:=
 ⟨h.ok,h.xl,h.ul,h.wr,(he 0 zO).trans h.b0,(he 1 zO).trans h.b1,(he 2 zO).trans h.b2,(he 3 zO).trans h.b3,(he 4 zO).trans h.b4,(he 5 zO).trans h.b5,
  fun k x hx=>by have:=zaI hx;have:=h.xl;have:=h.ok.S;rw[he _ zO];exact h.si k x hx,
  fun k x hx=>by have:=zaI hx;have:=h.ul;have:=h.ok.C;rw[he _ zO];exact h.cl k x hx⟩
theorem RWx.setCl (h:RWx B O p g A v){k u:Nat}(hu:v.us[k]?=some u){d:SdP}(hd:zeA B u d (O' (p+(10+k)))) (he:∀ j,j<16→j≠10+k→O' (p+j)=O (p+j)):
  RWx B O' p g { A with cl:=zb5 A.cl k d } v:=by
 have hk:=zaI hu;have:=h.ul;have:=h.ok.C;have:=h.xl;have:=h.ok.S;refine⟨⟨h.ok.S,h.ok.C,h.ok.pl,h.ok.wl,h.ok.id,h.ok.len,h.ok.way⟩,h.xl,h.ul,h.wr,(he 0 zO zO).trans h.b0,(he 1 zO zO).trans h.b1,(he 2 zO zO).trans h.b2,(he 3 zO zO).trans h.b3,(he 4 zO zO).trans h.b4,(he 5 zO zO).trans h.b5,
  fun i x hx=>by have:=zaI hx;rw[he _ zO zO];exact h.si i x hx,fun i x hx=>?_⟩
 have hi:=zaI hx;by_cases e:i=k
 ·subst e
  rw[hu]at hx;cases hx;show zeA B u (zb5 A.cl i d i) _;rw[zbm];exact hd
 ·show zeA B x (zb5 A.cl k d i) _
  rw[zbk _ e,he _ zO zO];exact h.cl i x hx
theorem RWx.setSi (h:RWx B O p g A v){k x:Nat}(hx0:v.xs[k]?=some x){a:RSi}(hid:a.id=(k:Int)) (hd:zcM B x a (O' (p+(6+k)))) (he:∀ j,j<16→j≠6+k→O' (p+j)=O (p+j)):
  RWx B O' p g { A with si:=zb5 A.si k a } v:=by
 have hk:=zaI hx0;have:=h.ul;have:=h.ok.C;have:=h.xl;have:=h.ok.S;refine⟨⟨h.ok.S,h.ok.C,h.ok.pl,h.ok.wl,fun i=>?_,h.ok.len,h.ok.way⟩,h.xl,h.ul,h.wr,(he 0 zO zO).trans h.b0,(he 1 zO zO).trans h.b1,(he 2 zO zO).trans h.b2,(he 3 zO zO).trans h.b3,(he 4 zO zO).trans h.b4,(he 5 zO zO).trans h.b5,
  fun i y hx=>?_,fun i x hx=>by have:=zaI hx;rw[he _ zO zO];exact h.cl i x hx⟩
 ·by_cases e:i=k
  ·subst e
   show(zb5 A.si i a i).id=_;rw[zbm];exact hid
  ·show(zb5 A.si k a i).id=_
   rw[zbk _ e];exact h.ok.id i
 have hi:=zaI hx;by_cases e:i=k
 ·subst e
  rw[hx0]at hx;cases hx;show zcM B x (zb5 A.si i a i) _;rw[zbm];exact hd
 ·show zcM B y (zb5 A.si k a i) _
  rw[zbk _ e,he _ zO zO];exact h.si i y hx
theorem RWx.setWl (h:RWx B O p g A v){k:Nat}{z:Int}(hz:0≤z∧z≤1099511627776) (hd:O' (p+2)=zbi B 3 1 v.vW A.S (zb2 A.S (zb5 A.wl k z))) (he:∀ j,j<16→j≠2→O' (p+j)=O (p+j)):
  RWx B O' p g { A with wl:=zb5 A.wl k z } v:=by
 have:=h.ul;have:=h.ok.C;have:=h.xl;have:=h.ok.S;refine⟨⟨h.ok.S,h.ok.C,h.ok.pl,fun i=>?_,h.ok.id,h.ok.len,h.ok.way⟩,h.xl,h.ul,h.wr,(he 0 zO zO).trans h.b0,(he 1 zO zO).trans h.b1,hd,(he 3 zO zO).trans h.b3,(he 4 zO zO).trans h.b4,(he 5 zO zO).trans h.b5,
  fun i x hx=>by have:=zaI hx;rw[he _ zO zO];exact h.si i x hx,fun i x hx=>by have:=zaI hx;rw[he _ zO zO];exact h.cl i x hx⟩
 show 0≤zb5 A.wl k z i∧zb5 A.wl k z i≤_;by_cases e:i=k
 ·subst e;rw[zbm];exact hz
 ·rw[zbk _ e];exact h.ok.wl i
theorem RWx.setPl (h:RWx B O p g A v){k z:Nat}(hz:z<A.S) (hd:O' (p+4)=zbi B 3 1 v.vP A.C (zb2 A.C fun i=>((zb5 A.pl k z i:Nat):Int))) (he:∀ j,j<16→j≠4→O' (p+j)=O (p+j)):
  RWx B O' p g { A with pl:=zb5 A.pl k z } v:=by
 have:=h.ul;have:=h.ok.C;have:=h.xl;have:=h.ok.S;refine⟨⟨h.ok.S,h.ok.C,fun i=>?_,h.ok.wl,h.ok.id,h.ok.len,h.ok.way⟩,h.xl,h.ul,h.wr,(he 0 zO zO).trans h.b0,(he 1 zO zO).trans h.b1,(he 2 zO zO).trans h.b2,(he 3 zO zO).trans h.b3,hd,(he 5 zO zO).trans h.b5,
  fun i x hx=>by have:=zaI hx;rw[he _ zO zO];exact h.si i x hx,fun i x hx=>by have:=zaI hx;rw[he _ zO zO];exact h.cl i x hx⟩
 show zb5 A.pl k z i<A.S;by_cases e:i=k
 ·subst e;rw[zbm];exact hz
 ·rw[zbk _ e];exact h.ok.pl i
theorem RWx.setWay (h:RWx B O p g A v){way:List GmP}{lost:Nat}{vG:Value}{gs:List RGm}(hl:way.length≤300) (ho:∀ m∈way,zih A.S m) (hr:zlD way gs)
  (h0:O' (p+0)=obB g (.cells #[v.vS,v.vW,v.vC,v.vP,vG,ii (wrap64 (lost:Int))] 136) B) (h5:O' (p+5)=zjh B vG gs) (he:∀ j,j<16→j≠0→j≠5→O' (p+j)=O (p+j)):
  RWx B O' p g { A with way:=way,lost:=lost } { v with vG:=vG,gs:=gs }:=by
 have:=h.ul;have:=h.ok.C;have:=h.xl;have:=h.ok.S;exact⟨⟨h.ok.S,h.ok.C,h.ok.pl,h.ok.wl,h.ok.id,hl,ho⟩,h.xl,h.ul,hr,h0,(he 1 zO zO zO).trans h.b1,(he 2 zO zO zO).trans h.b2,(he 3 zO zO zO).trans h.b3,(he 4 zO zO zO).trans h.b4,h5,
  fun i x hx=>by have:i<v.xs.length:=zaI hx;rw[he _ zO zO zO];exact h.si i x hx,fun i x hx=>by have:i<v.us.length:=zaI hx;rw[he _ zO zO zO];exact h.cl i x hx⟩
end
def RWa (B:Nat) (O:Nat→Ob) (p g:Nat) (xs us:List Nat) (A:AWd):Prop:=∃ v,RWx B O p g A v∧v.xs=xs∧v.us=us
theorem RWx.a {B:Nat}{O:Nat→Ob}{p g:Nat}{A:AWd}{v:RV}(h:RWx B O p g A v):RWa B O p g v.xs v.us A:=⟨v,h,rfl,rfl⟩
def zbG (w0 w':World) (n:Nat) (O:Nat→Ob) (p g:Nat) (xs us:List Nat) (A:AWd):Prop:=∃ O',Mem w0 w' n O'∧RWa w0.heap.size O' p g xs us A∧∀ k,k<n→(k<p∨p+16≤k)→O' k=O k
section
variable {w0 w w' w1 w2:World}{n m:Nat}{O Ox:Nat→Ob}{p g:Nat}{xs us:List Nat}{A A1 A2:AWd}{v:RV}
theorem zbG.below (h:Mem w0 w n O) (hp:RWx w0.heap.size O p g A v) (hb:Below w w w'):zbG w0 w' n O p g v.xs v.us A:=
 ⟨O,h.below hb,hp.a,fun _ _ _=>rfl⟩
theorem zbG.then (h:zbG w0 w1 n O p g xs us A1) (hb:Below w1 w1 w2):zbG w0 w2 n O p g xs us A1:=by
 obtain⟨O1,h1,h3,h4⟩:=h;exact⟨O1,h1.below hb,h3,h4⟩
theorem zbG.less (h:zbG w0 w1 m Ox p g xs us A) (hm:n≤m) (he:∀ k,k<n→(k<p∨p+16≤k)→Ox k=O k):zbG w0 w1 n O p g xs us A:=by
 obtain⟨O1,h1,h3,h4⟩:=h;exact⟨O1,h1.less hm,h3,fun k hn hk=>(h4 k zO hk).trans (he k hn hk)⟩
theorem zbG.cl (h:Mem w0 w n O) (hn:p+16≤n) (hp:RWx w0.heap.size O p g A v){k u:Nat}(hu:v.us[k]?=some u){d:SdP}(hx:Upd w w' (O (p+(10+k))) (zeA w0.heap.size u d)):
  zbG w0 w' n O p g v.xs v.us { A with cl:=zb5 A.cl k d }:=by
 have:=zaI hu;have:=hp.ul;have:=hp.ok.C;obtain⟨O',h1,h2,h3⟩:=h.upd (i:=p+(10+k)) zO hx (fun o' h=>h.ok);exact⟨O',h1,(hp.setCl hu h2 (fun j hj hne=>h3 _ zO)).a,fun i _ hi=>h3 _ zO⟩
theorem zbG.si (h:Mem w0 w n O) (hn:p+16≤n) (hp:RWx w0.heap.size O p g A v){k x:Nat}(hu:v.xs[k]?=some x){a:RSi}(hid:a.id=(k:Int)) (hx:Upd w w' (O (p+(6+k))) (zcM w0.heap.size x a)):
  zbG w0 w' n O p g v.xs v.us { A with si:=zb5 A.si k a }:=by
 have:=zaI hu;have:=hp.xl;have:=hp.ok.S;obtain⟨O',h1,h2,h3⟩:=h.upd (i:=p+(6+k)) zO hx (fun o' h=>h.ok);exact⟨O',h1,(hp.setSi hu hid h2 (fun j hj hne=>h3 _ zO)).a,fun i _ hi=>h3 _ zO⟩
end
section
variable {w0 w:World}{n:Nat}{O:Nat→Ob}{p g:Nat}{A:AWd}{v:RV}
theorem RWx.blk (hp:RWx w0.heap.size O p g A v) (h:Mem w0 w n O) (hn:p+16≤n):w.heap[g]?=some (.cells #[v.vS,v.vW,v.vC,v.vP,v.vG,ii (wrap64 (A.lost:Int))] 136):=h.box (i:=p+0) zO hp.b0
theorem zjN {i:Nat}{vv:Value}{gs:List RGm}(h:Mem w0 w n O) (hi:i<n) (ho:O i=zjh w0.heap.size vv gs):∃ a c,vv=.slice a gs.length c:=by
 have hat:=h.at_ i hi;rw[ho]at hat
 obtain⟨a,c,rfl⟩:=zaP hat.1;exact⟨a,c,rfl⟩
end
section
variable {w0 w w' w1:World}{n:Nat}{O:Nat→Ob}
theorem Mem.stepX (h:Mem w0 w n O){i:Nat}(hi:i<n){o:Ob}(ho:o.Ok w0.heap.size) (hat:o.at_ w') (fr:zaO w w' (O i).own o.own) (hd:∀ b,o.dat b→(O i).dat b∨w.heap.size≤b∨∀ k,k<n→¬(O k).own b):
  ∃ O',Mem w0 w' n O'∧O' i=o∧∀ k,k≠i→O' k=O k:=by
 have hlt:∀ b,(O i).own b→w0.heap.size≤b:=fun b e=>((h.ok i hi).lt w b (h.at_ i hi) e).1
 have hkeep:∀ k,k<n→k≠i→(O k).at_ w':=fun k hk hne=>(h.ok k hk).same w w' (h.at_ k hk) fr.size fun b hb=>fr.block b (hb.elim (fun e=>((h.ok k hk).lt w b (h.at_ k hk) e).2) ((h.ok k hk).dlt w b (h.at_ k hk))) fun e=>by
  obtain⟨h1,h2⟩:=h.dis i k hi hk (Ne.symm hne) b e;exact hb.elim h1 h2
 refine⟨zjB O i o,⟨h.low.trans ⟨fr.os,fr.tape,fr.output,fr.size,fun k hk=>fr.block k (yab hk h.low.size) fun e=>by have:=hlt k e;omega⟩,fun k hk=>?_,fun k hk=>?_,fun j k hj hk hne b hb=>?_⟩,zaB ..,fun k hk=>zah _ hk⟩
 ·by_cases e:k=i
  ·subst e;rw[zaB];exact ho
  ·rw[zah _ e];exact h.ok k hk
 ·by_cases e:k=i
  ·subst e;rw[zaB];exact hat
  ·rw[zah _ e];exact hkeep k hk e
 ·by_cases e:j=i
  ·subst e
   rw[zaB]at hb;have hk2:k≠j:=Ne.symm hne;rw[zah _ hk2];rcases fr.own b hb with h1|h1
   ·exact h.dis j k hj hk hne b h1
   ·exact⟨fun e=>by have:=((h.ok k hk).lt w b (h.at_ k hk) e).2;omega,fun e=>by have:=(h.ok k hk).dlt w b (h.at_ k hk) e;omega⟩
  ·rw[zah _ e]at hb
   have hbl:=((h.ok j hj).lt w b (h.at_ j hj) hb).2;by_cases e2:k=i
   ·subst e2
    rw[zaB];obtain⟨h1,h2⟩:=h.dis j k hj hk hne b hb;refine⟨fun e3=>?_,fun e3=>?_⟩
    ·rcases fr.own b e3 with h3|h3
     ·exact h1 h3
     ·omega
    ·rcases hd b e3 with h3|h3|h3
     ·exact h2 h3
     ·omega
     ·exact h3 j hj hb
   ·rw[zah _ e2]
    exact h.dis j k hj hk hne b hb
end
section
variable {w w':World}{B x y:Nat}{a:RSi}{o:Ob}
theorem zcM.dno (h:zcM B y a o) (hw:o.at_ w){b:Nat}(hb:o.dat b):¬o.own b:=by
 obtain⟨r,lr,wA,wc,av,rfl,_⟩:=h;have hw2:zcp w B y r lr wA wc av:=hw;rcases hb with ⟨o2,e⟩|⟨m,o2,hm,e⟩
 ·exact(hw2.wat.2.2 b o2 e).2
 ·exact((hw2.dat m hm).2 b o2 e).2
theorem zcM.rlg (h:zcM B y a o):(∀ t∈a.log,zaf t=true)∧∀ k:Nat,k<4→zeL (k:Int) a.p0 a.p1 a.p2 a.p3=true:=by
 obtain⟨r,lr,wA,wc,av,rfl,⟨s,hf⟩,hr,h40⟩:=h;refine⟨hf.rlg,fun k hk=>?_⟩;have h1:=hf.inv.ap;rw[←hf.rep.p0,←hf.rep.p1,←hf.rep.p2,←hf.rep.p3];unfold zlE at h1;simp only[zeL,okN,yav,yap];omega
theorem zcM.know4 (h:zcM B y a o) (hw:o.at_ w) (k:Nat) (v0 v1 v2 v3:Int) (hk:k<4):Upd w ((((w.setCell ⟨y,10+k*4,none⟩ (ii (max (a.ot (k*4)) v0))).setCell ⟨y,10+(k*4+1),none⟩ (ii (max (a.ot (k*4+1)) v1))).setCell ⟨y,10+(k*4+2),none⟩ (ii (max (a.ot (k*4+2)) v2))).setCell ⟨y,10+(k*4+3),none⟩ (ii (max (a.ot (k*4+3)) v3))) o (zcM B y (zg9 a k v0 v1 v2 v3)):=by
 obtain⟨r,lr,wA,wc,av,rfl,⟨s,hf⟩,hr,h40⟩:=h;have hF:=zcM.full hf hr;have hw2:zcp w B y r lr wA wc av:=hw;have e0:a.ot=r.ot:=by rw[←hr];rfl
 have e1:s.ot=r.ot:=hF.rep.ot;have h1:=(((hw2.setc (i:=10+k*4) (.inr ⟨zO,zO⟩) (max (a.ot (k*4)) v0)).setc (i:=10+(k*4+1)) (.inr ⟨zO,zO⟩) (max (a.ot (k*4+1)) v1)).setc (i:=10+(k*4+2)) (.inr ⟨zO,zO⟩) (max (a.ot (k*4+2)) v2)).setc (i:=10+(k*4+3)) (.inr ⟨zO,zO⟩) (max (a.ot (k*4+3)) v3);have h2:=(hF.others k v0 v1 v2 v3 hk).fullA;rw[e1,←e0]at h2;have E:((((r.setc (10+k*4) (max (a.ot (k*4)) v0)).setc (10+(k*4+1)) (max (a.ot (k*4+1)) v1)).setc (10+(k*4+2)) (max (a.ot (k*4+2)) v2)).setc (10+(k*4+3)) (max (a.ot (k*4+3)) v3)).r=zg9 a k v0 v1 v2 v3:=by
  rw[←hr];unfold RsP.r RsP.setc zg9 ziU;simp only;congr 1
  all_goals first
   | (funext j
      simp only[Nat.add_left_cancel_iff]
      done)
   | (repeat rw[yad zO])
 rw[E]at h2;exact⟨obR B y _ lr wA wc av,⟨_,lr,wA,wc,av,rfl,⟨_,h2⟩,E,h40⟩,h1,(((zaO.setR _).trans (zaO.setR _)).trans (zaO.setR _)).trans (zaO.setR _),fun b e=>.inl e⟩
end
section
variable {w0 w:World}{n:Nat}{O:Nat→Ob}{p g:Nat}{A:AWd}{v:RV}{k u x:Nat}
theorem RWx.atS (hp:RWx w0.heap.size O p g A v) (h:Mem w0 w n O) (hn:p+16≤n){i x:Nat}(hx:v.xs[i]?=some x):(O (p+(6+i))).at_ w:=by
 have:=zaI hx;have:=hp.xl;have:=hp.ok.S;exact h.at_ _ zO
theorem RWx.atU (hp:RWx w0.heap.size O p g A v) (h:Mem w0 w n O) (hn:p+16≤n){i u:Nat}(hu:v.us[i]?=some u):(O (p+(10+i))).at_ w:=by
 have:=zaI hu;have:=hp.ul;have:=hp.ok.C;exact h.at_ _ zO
theorem RWx.below {w':World}(hp:RWx w0.heap.size O p g A v) (h:Mem w0 w n O) (hb:Below w w w'):zbG w0 w' n O p g v.xs v.us A:=zbG.below h hp hb
theorem RWx.sBegin (hp:RWx w0.heap.size O p g A v) (h:Mem w0 w n O) (hn:p+16≤n) (hu:v.us[k]?=some u) (hx:v.xs[A.pl k]?=some x):
  Calls prog 39 #[.pointer (some ⟨u,0,none⟩),.pointer (some ⟨x,0,none⟩)] w fun e w'=>e=.returned (ii (zfP A k))∧zbG w0 w' n O p g v.xs v.us (zev A k):=by
 have hc:=(hp.si _ x hx).cells (hp.atS h hn hx);refine((hp.cl k u hu).begin_ (hp.atU h hn hu) x _ _ _ _ hc.1 ⟨hc.2.2.1,hc.2.2.2.1,hc.2.2.2.2.1,hc.2.2.2.2.2.1⟩).mono ?_;rintro e w' ⟨rfl,hU⟩;exact⟨rfl,zbG.cl h hn hp hu hU⟩
theorem RWx.sRead (hp:RWx w0.heap.size O p g A v) (h:Mem w0 w n O) (hn:p+16≤n) (hu:v.us[k]?=some u) (hx:v.xs[A.pl k]?=some x) (key:Int) (hW:(A.cl k).W.length≤900):
  Calls prog 40 #[.pointer (some ⟨u,0,none⟩),.pointer (some ⟨x,0,none⟩),key] w fun e w'=>e=.returned (.tuple #[.string (zft A k key).1,ii (zft A k key).2])∧Below w w w':=
 (hp.cl k u hu).read (hp.atU h hn hu) x key _ zO fun W hb=>(hp.si _ x hx).read (h.at_below (by have:=zaI hx;have:=hp.xl;have:=hp.ok.S;omega) hb) key _ _ _ _
theorem RWx.sWrite (hp:RWx w0.heap.size O p g A v) (h:Mem w0 w n O) (hn:p+16≤n) (hu:v.us[k]?=some u) (y:WrP) (hW:(A.cl k).W.length≤900):
  Calls prog 43 #[.pointer (some ⟨u,0,none⟩),y.val] w fun e w'=>e=.returned (ii (zfO A k y))∧zbG w0 w' n O p g v.xs v.us (zdW A k y):=by
 refine((hp.cl k u hu).write (hp.atU h hn hu) y hW).mono ?_;rintro e w' ⟨rfl,hU⟩;exact⟨rfl,zbG.cl h hn hp hu hU⟩
theorem RWx.sAbort (hp:RWx w0.heap.size O p g A v) (h:Mem w0 w n O) (hn:p+16≤n) (hu:v.us[k]?=some u):
  Calls prog 47 #[.pointer (some ⟨u,0,none⟩)] w fun e w'=>e=.returned (ii (zfQ A k))∧zbG w0 w' n O p g v.xs v.us (zew A k):=by
 refine((hp.cl k u hu).abort (hp.atU h hn hu)).mono ?_;rintro e w' ⟨rfl,hU⟩;exact⟨rfl,zbG.cl h hn hp hu hU⟩
theorem RWx.sCells (hp:RWx w0.heap.size O p g A v) (h:Mem w0 w n O) (hn:p+16≤n) (hu:v.us[k]?=some u):
  ∃ wv,w.heap[u]?=some (.cells #[ii (A.cl k).q0,ii (A.cl k).q1,ii (A.cl k).q2,ii (A.cl k).q3,ii (A.cl k).n0,ii (A.cl k).n1,ii (A.cl k).n2,ii (A.cl k).n3,.bool (A.cl k).op,wv] 79):=
 (hp.cl k u hu).cells (hp.atU h hn hu)
theorem RWx.xCells (hp:RWx w0.heap.size O p g A v) (h:Mem w0 w n O) (hn:p+16≤n) (hx:v.xs[k]?=some x):x<w.heap.size∧w.cell? ⟨x,0,none⟩=some (ii (A.si k).id)∧w.cell? ⟨x,1,none⟩=some (ii (A.si k).p0)∧w.cell? ⟨x,2,none⟩=some (ii (A.si k).p1)∧w.cell? ⟨x,3,none⟩=some (ii (A.si k).p2)∧w.cell? ⟨x,4,none⟩=some (ii (A.si k).p3)∧
  (∃ A' c,w.cell? ⟨x,8,none⟩=some (.slice A' (A.si k).ws.length c))∧(∃ A' c,w.cell? ⟨x,9,none⟩=some (.slice A' (A.si k).held.length c))∧(∀ j,j<16→w.cell? ⟨x,10+j,none⟩=some (ii ((A.si k).ot j)))∧∀ j,w.frozen? ⟨x,j,none⟩=false:=
 (hp.si k x hx).cells (hp.atS h hn hx)
theorem RWx.sStable (hp:RWx w0.heap.size O p g A v) (h:Mem w0 w n O) (hn:p+16≤n) (hx:v.xs[k]?=some x) (m:Int):
  Calls prog 29 #[.pointer (some ⟨x,0,none⟩),m] w fun e w'=>
   e=.returned (.agg #[ii (zbR (A.si k) m 0 (A.si k).p0),ii (zbR (A.si k) m 1 (A.si k).p1),ii (zbR (A.si k) m 2 (A.si k).p2),ii (zbR (A.si k) m 3 (A.si k).p3)])∧Below w w w':=
 (hp.si k x hx).stable (hp.atS h hn hx) m
theorem RWx.sTold (hp:RWx w0.heap.size O p g A v) (h:Mem w0 w n O) (hn:p+16≤n) (hx:v.xs[k]?=some x):
  Calls prog 33 #[.pointer (some ⟨x,9,none⟩),.agg #[ii (A.si k).p0,ii (A.si k).p1,ii (A.si k).p2,ii (A.si k).p3]] w fun e w'=>∃ A' c',e=.returned (.slice A' 8 c')∧zgX w' A' (zfG (A.si k))∧Below w w w':=
 (hp.si k x hx).told (hp.atS h hn hx)
theorem RWx.sMissing (hp:RWx w0.heap.size O p g A v) (h:Mem w0 w n O) (hn:p+16≤n) (hx:v.xs[k]?=some x) (v0 v1 v2 v3:Int):
  Calls prog 36 #[.pointer (some ⟨x,0,none⟩),.agg #[ii v0,ii v1,ii v2,ii v3]] w fun e w'=>∃ (A':Option Addr) (c':Nat) (outs:List MTx),e=.returned (.slice A' outs.length c')∧outs.map (·.t)=zdK (A.si k) v0 v1 v2 v3∧
   TxsAt w' A' outs∧(∀ b o,A'=some ⟨b,o,none⟩→∀ i,i<n→¬(O i).own b)∧(∀ m∈outs,∀ b o,m.A=some ⟨b,o,none⟩→b<w.heap.size∧∀ i,i<n→¬(O i).own b)∧Below w w w':=by
 have hlt:=zaI hx;have hxl:=hp.xl;have hS:=hp.ok.S;have hat:=hp.atS h hn hx;refine((hp.si k x hx).missing hat v0 v1 v2 v3).mono ?_;rintro e w' ⟨A',c',outs,rfl,h1,h2,h3,h4,h5⟩;refine⟨A',c',outs,rfl,h1,h2,fun b o e i hi=>h.fresh hi (h4 b o e),fun m hm b o e=>?_,h5⟩;have hd:=h3 m hm b o e;refine⟨(h.ok _ zO).dlt w b hat hd,fun i hi=>?_⟩;by_cases e2:i=p+(6+k)
 ·subst e2;exact(hp.si k x hx).dno hat hd
 ·exact fun e3=>(h.dis i (p+(6+k)) hi zO e2 b e3).2 hd
theorem RWx.sTake (hp:RWx w0.heap.size O p g A v) (h:Mem w0 w n O) (hn:p+16≤n) (hx:v.xs[k]?=some x) (t:TxP) (A':Option Addr) (c:Nat) (hws:zaN w A' t.ws) (hwl:t.ws.length≤1000000):
  Calls prog 18 #[.pointer (some ⟨x,0,none⟩),MTx.val ⟨t,A',c⟩] w fun e w'=>e=.returned (ii (zb3 (A.si k) t))∧zbG w0 w' n O p g v.xs v.us (zfs A k t):=by
 have hid:(zdO (A.si k) t).id=(k:Int):=by
  rw[←hp.ok.id k];unfold zdO;split
  ·rw[rRun_id]
  ·rfl
 refine((hp.si k x hx).take (hp.atS h hn hx) t A' c hws hwl).mono ?_;rintro e w' ⟨rfl,hU⟩;exact⟨rfl,zbG.si h hn hp hx hid hU⟩
theorem RWx.sSweep (hp:RWx w0.heap.size O p g A v) (h:Mem w0 w n O) (hn:p+16≤n) (hx:v.xs[k]?=some x) (v0 v1 v2 v3:Int) (hv:v0≤(A.si k).p0∧v1≤(A.si k).p1∧v2≤(A.si k).p2∧v3≤(A.si k).p3):
  Calls prog 22 #[.pointer (some ⟨x,9,none⟩),.agg #[ii v0,ii v1,ii v2,ii v3]] w fun e w'=>e=.returned (.tuple #[])∧zbG w0 w' n O p g v.xs v.us { A with si:=zb5 A.si k (zc6 (A.si k) v0 v1 v2 v3) }:=by
 refine((hp.si k x hx).sweep (hp.atS h hn hx) v0 v1 v2 v3 hv).mono ?_;rintro e w' ⟨rfl,hU⟩;exact⟨rfl,zbG.si h hn hp hx (hp.ok.id k) hU⟩
theorem RWx.sKnow4 (hp:RWx w0.heap.size O p g A v) (h:Mem w0 w n O) (hn:p+16≤n) (hx:v.xs[k]?=some x) (f:Nat) (v0 v1 v2 v3:Int) (hf:f<4):
  zbG w0 ((((w.setCell ⟨x,10+f*4,none⟩ (ii (max ((A.si k).ot (f*4)) v0))).setCell ⟨x,10+(f*4+1),none⟩ (ii (max ((A.si k).ot (f*4+1)) v1))).setCell ⟨x,10+(f*4+2),none⟩ (ii (max ((A.si k).ot (f*4+2)) v2))).setCell ⟨x,10+(f*4+3),none⟩ (ii (max ((A.si k).ot (f*4+3)) v3))) n O p g v.xs v.us (zbn A k f v0 v1 v2 v3):=
 zbG.si h hn hp hx (hp.ok.id k) ((hp.si k x hx).know4 (hp.atS h hn hx) f v0 v1 v2 v3 hf)
end
def obz:Value:=.agg #[ii 0,.slice none 0 0]
section
variable {P:Program}
theorem zcH {g:Nat}{e:TypeId}{fz:Nat×Nat}:∀ (vs:List Value) (o:Nat) (w:World) (cur:Array Value),w.heap[g]?=some (.cells cur e fz)→
  ∃ cur',(w.setCells g o vs).heap[g]?=some (.cells cur' e fz)∧cur'.size=cur.size∧∀ j,j<cur.size→cur'[j]?=if o≤j∧j<o+vs.length then vs[j-o]? else cur[j]?
 | [],o,w,cur,h=>⟨cur,h,rfl,fun j _=>by rw[yad zS]⟩
 | v::r,o,w,cur,h=>by
   have h1:(w.setCell ⟨g,o,none⟩ v).heap[g]?=some (.cells (cur.setIfInBounds o v) e fz):=by
    simp[World.setCell,ybS,h]
   obtain⟨cur',h2,h3,h4⟩:=zcH r (o+1) _ _ h1;refine⟨cur',h2,by rw[h3];simp,fun j hj=>?_⟩;rw[h4 j (by simpa using hj)];simp only[yaq];by_cases c1:o+1≤j∧j<o+1+r.length
   ·rw[yaj c1,yaj zO,show j-o=(j-(o+1))+1 by omega];rfl
   ·rw[yad c1]
    by_cases c2:j=o
    ·subst c2
     rw[yaj zO,Nat.sub_self];simp[hj]
    ·rw[yad zO]
     simp[Array.getElem?_setIfInBounds,Ne.symm c2]
theorem zkS (w:World) (t e ty:TypeId) (ht:P.underlying t=some (.slice e)) (hv:∀ w,(zeroValue e).run P w=.ok obz w) (b o c:Nat)
  (hc:∀ j,j<2→(w.cell? ⟨b,o+j,none⟩).isSome=true) (hf:∀ j,j<2→w.frozen? ⟨b,o+j,none⟩=false):
  (Builtin.clear_ #[t] ty #[.slice (some ⟨b,o,none⟩) 1 c]).run P w=.ok (.tuple #[]) (w.setCells b o [ii 0,.slice none 0 0]):=by
 have hzc:(Builtin.zeroCells obz.cells 1).toList=[ii 0,.slice none 0 0]:=by
  unfold obz;simp[Builtin.zeroCells,Value.cells];rfl
 have hst:=run_storeCells_cells (P:=P) b o [ii 0,.slice none 0 0] 0 w (by simpa using hc) (by simpa using hf) (by intro v hv';simp at hv';rcases hv' with rfl|rfl <;> rfl);simp only[ycv]at hst;simp[Builtin.clear_,ybz ht,hv,hzc,hst]
theorem zdw {g:Nat}:∀ (vs:List Value) (o:Nat) (w:World),(w.setCells g o vs).heap.size=w.heap.size∧(∀ k,k≠g→(w.setCells g o vs).heap[k]?=w.heap[k]?)∧(w.setCells g o vs).os=w.os∧(w.setCells g o vs).tape=w.tape∧(w.setCells g o vs).output=w.output
 | [],o,w=>⟨rfl,fun _ _=>rfl,rfl,rfl,rfl⟩
 | v::r,o,w=>by
   obtain⟨h1,h2,h3,h4,h5⟩:=zdw (g:=g) r (o+1) (w.setCell ⟨g,o,none⟩ v);refine⟨h1.trans (by simp[World.setCell]),fun k hk=>(h2 k hk).trans ?_,h3,h4,h5⟩;exact ybj w ⟨g,o,none⟩ v k hk
theorem zcg (w:World) (g o:Nat) (vs:List Value):w.grownBy (w.setCells g o vs) (some g):=by
 obtain⟨h1,h2,h3,h4,h5⟩:=zdw (g:=g) vs o w;exact⟨h3,h4,h5,by rw[h1];exact yai _,fun k _ hk=>h2 k (fun e=>hk (by rw[e]))⟩
theorem own_del {w:World}{B g c n i:Nat}{e:TypeId}{xs:List Value}(h:w.ownsRow B e 2 (.slice (some ⟨g,0,none⟩) n c) n xs) (hi:i<n) (z0 z1:Value):
  ((w.setCells g (i*2) (xs.drop ((i+1)*2))).setCells g ((n-1)*2) [z0,z1]).ownsRow B e 2 (.slice (some ⟨g,0,none⟩) (n-1) c) (n-1) (xs.take (i*2)++xs.drop ((i+1)*2)):=by
 obtain⟨hl,hn|⟨g',cap,cur,hv,hB,hg,hnc,hm,hs,ht⟩⟩:=h
 ·cases hn.1
 ·simp only[yaP,yaz,yaU]at hv
  obtain⟨⟨rfl,_⟩,_,rfl⟩:=hv;obtain⟨c1,a1,a2,a3⟩:=zcH (xs.drop ((i+1)*2)) (i*2) w cur hg;obtain⟨c2,b1,b2,b3⟩:=zcH [z0,z1] ((n-1)*2) _ c1 a1;have hll:(xs.take (i*2)++xs.drop ((i+1)*2)).length=(n-1)*2:=by simp;omega
  refine⟨hll,.inr ⟨g,c,c2,rfl,hB,b1,zO,hm,by rw[b2,a2];exact hs,?_⟩⟩;apply List.ext_getElem?;intro j;by_cases hj:j<(n-1)*2
  ·rw[ybG,yaj hj,ycb,b3 j (by rw[a2];omega),yad zO,a3 j zO]
   have hx:∀ k,k<n*2→cur[k]?=xs[k]?:=fun k hk=>by rw[←ht,ybG,yaj hk,ycb]
   by_cases h1:j<i*2
   ·rw[yad zO,yaX zP,ybG,yaj h1,hx j zO]
   ·rw[yaj zP,yaC zP]
    simp only[ybp,yaL];congr 1;omega
  ·rw[List.getElem?_eq_none zP,List.getElem?_eq_none zO]
end
section
variable {α:Type}{f:α→List Value}
theorem zhk (hf:∀ a,(f a).length=2):∀ (l:List α) (i:Nat),(l.take i).flatMap f=(l.flatMap f).take (i*2)
 | [],i=>by simp
 | a::l,0=>by simp
 | a::l,i+1=>by
   simp only[yat,yaN];rw[List.take_append,yb6 (l:=f a) (by rw[hf a];omega),hf a,zhk hf l i,show(i+1)*2-2=i*2 by omega]
theorem zhl (hf:∀ a,(f a).length=2):∀ (l:List α) (i:Nat),(l.drop i).flatMap f=(l.flatMap f).drop (i*2)
 | [],i=>by simp
 | a::l,0=>by simp
 | a::l,i+1=>by
   simp only[yau,yaN];rw[List.drop_append,List.drop_of_length_le (l:=f a) (by rw[hf a];omega),hf a,zhl hf l i,show(i+1)*2-2=i*2 by omega];rfl
theorem zjO (hf:∀ a,(f a).length=2) (l:List α) (i:Nat):(l.eraseIdx i).flatMap f=(l.flatMap f).take (i*2)++(l.flatMap f).drop ((i+1)*2):=by
 rw[ybZ,yaJ,zhk hf,zhl hf]
theorem zi0 (hf:∀ a,(f a).length=2):∀ (l:List α),(l.flatMap f).length=l.length*2
 | []=>by simp
 | a::l=>by simp only[yaN,yak,yaq];rw[hf a,zi0 hf l];omega
theorem zh6 (hf:∀ a,(f a).length=2):∀ (l:List α) (i:Nat) (x:α),l[i]?=some x→∀ j,j<2→(l.flatMap f)[i*2+j]?=(f x)[j]?
 | [],i,x,h,j,hj=>by cases i <;> simp at h
 | a::l,0,x,h,j,hj=>by
   simp at h;subst h;simp only[yaN,Nat.zero_mul,yaZ];rw[yaX (by rw[hf a];omega)]
 | a::l,i+1,x,h,j,hj=>by
   simp only[yaN];rw[yaC (by rw[hf a];omega),hf a,show(i+1)*2+j-2=i*2+j by omega];exact zh6 hf l i x (by simpa using h) j hj
end
theorem zl4 {t:TxP}(h:zaf t=true):(txB t).length≤1000∧0<(txB t).length:=by
 have h2:=h;simp only[zaf,yav]at h2;obtain⟨hw,hl1,hl5⟩:=zek h2.2;obtain⟨q1,q2,q3,q4,q5,q6,q7,q8,_⟩:=zfc h2.1;have h1:=zbz [t.site.toNat,t.seq.toNat,t.wall.toNat,t.count.toNat] (by intro z hz;simp at hz;omega);have h3:=zbz [t.d0.toNat,t.d1.toNat,t.d2.toNat,t.d3.toNat] (by intro z hz;simp at hz;omega);have h4:=zbz [t.ws.length] (by intro z hz;simp at hz;omega);have h5:=zfV t.ws hw t.ws.length (yai _);rw[ybD]at h5;simp only[txB,yaq,yak,yaB]at *;omega
theorem zki {w:World}{B g:Nat}{v:Value}{bs:List UInt8}(h:w.ownsRow B 5 1 v bs.length (u8s bs)) (hg:w.heap.size=g):zbp w g v bs∧∃ A c,v=.slice A bs.length c∧bs.length≤c∧c≤maxLen:=by
 subst hg;obtain⟨hl,hn|⟨b,cap,cur,rfl,hb,hg,hc,hm,hsz,ht⟩⟩:=id h
 ·have:bs=[]:=yan hn.2
  subst this;rw[hn.1];exact⟨zm6 _ _,none,0,rfl,yai _,yay _⟩
 ·have hcell:=h.cells (g:=b) rfl
  refine⟨⟨_,cap,rfl,hc,hm,fun i x hi=>⟨b,0,rfl,zae hg,?_⟩⟩,_,cap,rfl,hc,hm⟩;have:=hcell i (.int .u8 x.toNat) (by simp[u8s,hi]);have e:(⟨b,0,none⟩:Addr).add i=⟨b,0+i,none⟩:=by unfold Addr.add;split <;> simp_all
  rw[e]at this;exact this
theorem zh9 {s a0 a1 a2 a3:Int}(h:zeL s a0 a1 a2 a3=true):(zfR s a0 a1 a2 a3).length≤1000∧0<(zfR s a0 a1 a2 a3).length:=by
 obtain⟨h1,h2,h3,h4,h5⟩:=zdP h;have e1:=zbz [s.toNat] (by intro z hz;simp at hz;omega);have e2:=zbz [a0.toNat,a1.toNat,a2.toNat,a3.toNat] (by intro z hz;simp at hz;omega);simp only[zfR,yaq,yak,yaB]at *;omega
theorem zmY {S:Nat}{g:GmP}(h:zih S g):(gmB g).length≤1000∧0<(gmB g).length:=by
 unfold gmB;split
 ·exact zl4 (h.2.1 (by assumption))
 ·exact zh9 (h.2.2 (by assumption)).2
theorem zm0 {s a0 a1 a2 a3:Int}(h:zeL s a0 a1 a2 a3=true) (w:World):
  Calls prog 151 #[s,.agg #[ii a0,ii a1,ii a2,ii a3]] w fun e w'=>∃ v,e=.returned (.tuple #[v,.nilIface])∧Fresh w w' v (zfR s a0 a1 a2 a3):=by
 obtain⟨h1,h2,h3,h4,h5⟩:=zdP h;have hr:zcq a0 a1 a2 a3=true:=by simp only[zcq,yav,yap];omega
 obtain⟨s',rfl⟩:∃ n:Nat,s=(n:Int):=⟨s.toNat,zO⟩;obtain⟨b0,rfl⟩:∃ n:Nat,a0=(n:Int):=⟨a0.toNat,zO⟩;obtain⟨b1,rfl⟩:∃ n:Nat,a1=(n:Int):=⟨a1.toNat,zO⟩;obtain⟨b2,rfl⟩:∃ n:Nat,a2=(n:Int):=⟨a2.toNat,zO⟩;obtain⟨b3,rfl⟩:∃ n:Nat,a3=(n:Int):=⟨a3.toNat,zO⟩;have:=zjQ s' b0 b1 b2 b3 w zO hr;have e:zfR s' b0 b1 b2 b3=97::zbx [s',b0,b1,b2,b3]:=by
  simp[zfR,zbx]
 rw[e];exact this
theorem bs_cells {w:World}{g c b o:Nat}{l:List UInt8}(h:zbp w g (.slice (some ⟨b,o,none⟩) l.length c) l):∀ (j:Nat) (u:Value),(u8s l)[j]?=some u→w.cell? ⟨b,o+j,none⟩=some u:=by
 obtain⟨A',c',e,h1,h2,h3⟩:=h;simp only[yaP,true_and]at e;obtain⟨rfl,rfl⟩:=e;intro j u hu;unfold u8s at hu;rw[yby]at hu;obtain⟨x,hx,rfl⟩:=ya6.1 hu;obtain⟨b',o',e,_,hc⟩:=h3 j x hx;simp only[yaz,yaU,ybN]at e;obtain⟨rfl,rfl⟩:=e;exact hc
theorem u8s_one (l:List UInt8):∀ u∈u8s l,u.oneCell'=true:=by
 intro u hu;unfold u8s at hu;obtain⟨x,_,rfl⟩:=ybE.1 hu;rfl
@[go_sem] theorem eqNilB(w : World) (a : Addr) (n c : Nat) : Sem.run prog (binOp BinOp.eql 207 (.slice (some a) n c) (.slice none 0 0)) w = .ok (.bool false) w := by kernel_rfl
theorem zlz (A:Option Addr) (c:Nat) (l:List UInt8) (w:World) (hv:zbp w w.heap.size (.slice A l.length c) l) (h0:0<l.length) (hn:l.length≤1000000):
  Calls prog 184 #[.slice A l.length c] w fun e w'=>∃ b c',e=.returned (.slice (some ⟨b,0,none⟩) l.length c')∧zbp w' w'.heap.size (.slice (some ⟨b,0,none⟩) l.length c') l∧Below w w w'∧w.heap.size≤b∧b<w'.heap.size:=by
 have HV:=zac hv;obtain⟨b,o,rfl,hb⟩:∃ b o,A=some ⟨b,o,none⟩∧b<w.heap.size:=by
  obtain⟨A',c',e,h1,h2,h3⟩:=hv;simp only[yaP,true_and]at e;obtain⟨rfl,rfl⟩:=e;obtain⟨b,o,e,hlt,_⟩:=h3 0 l[0] (yaa h0);exact⟨b,o,e,hlt⟩
 clear hv;obtain⟨i0,hi0,hz0,hz1,hz2⟩:=info5x;haveI:zaj (b+1) w:=⟨hb⟩;have hcells:=bs_cells HV.out;have HNW:Hid (∀ (W:World),Below w w W→∀ (j:Nat) (u:Value),(u8s l)[j]?=some u→W.cell? ((⟨b,o,none⟩:Addr).add j)=some u):=zac (by
  intro W hB j u hu;have e:(⟨b,o,none⟩:Addr).add j=⟨b,o+j,none⟩:=by unfold Addr.add;split <;> simp_all
  rw[e,hB.cell (p:=⟨b,o+j,none⟩) hb];exact hcells j u hu)
 have HLN:Hid ((u8s l).length=l.length*1):=zac (by rw[zkF,Nat.mul_one]);have h63:0+l.length≤maxLen:=by refine yac ?_ maxLen_ge;omega
 have hby:(0+l.length)*1≤140737488355328:=by omega
 clear hcells;go_enter func184,ntmps184;go_wp2_with (at_builtin;go_must (refine wpList_append_lies _ rfl _ _ 207 rfl w.heap.size 5 i0 (.int .u8 0) 1 1 underlying207 hi0 hz0 hz1 hz2 rfl zI (.slice (some ⟨w,0,none⟩) 0 0) 0 [] rfl ⟨rfl,.inr ⟨w,0,#[],rfl,yai _,by rw[heap_alloc,yaj rfl],yai _,by simp only[maxLen];omega,rfl,rfl⟩⟩ ⟨b,o,none⟩ l.length c (u8s l) rfl HLN.out (HNW.out _ (zal (yaf _ _))) (u8s_one l) h0 h63 hby zS _ rfl ?_));intro g1 cap1 w1 hown1 hgrow hgl hlt1
 try simp only[yaZ,ybd]at hown1
 have hb1:Below w w w1:=yaE (show Below w w (w.alloc (Obj.cells #[] 5))from zal (yaf _ _)) hgrow zS (fun j e=>by simp[Value.ownBlock]at e;omega);have HR:Hid (zbp w1 w1.heap.size (.slice (some ⟨g1,0,none⟩) l.length cap1) l∧Below w w w1∧w.heap.size≤g1∧g1<w1.heap.size):=zac ⟨(zki hown1 rfl).1,hb1,(zao hown1 rfl).1,hlt1⟩;clear hown1 hgrow hgl hlt1 hb1
 try simp only[yaZ]
 go_wp2_with fail;go_ret;exact⟨_,_,rfl,HR.out.1,HR.out.2.1,HR.out.2.2⟩
theorem zda (m:MGm):m.cells.length=2:=rfl
theorem gms_one (gs:List MGm):∀ u∈gs.flatMap MGm.cells,u.oneCell'=true:=by
 intro u hu;obtain⟨m,_,hm⟩:=yb2.1 hu;simp[MGm.cells]at hm;rcases hm with rfl|rfl <;> rfl
end Go.Proofs.YtbopfhbeegkkaabGreatDoor
