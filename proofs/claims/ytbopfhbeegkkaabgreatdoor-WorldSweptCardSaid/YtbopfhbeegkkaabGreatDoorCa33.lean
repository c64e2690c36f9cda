/- Part 33 of a proof: lemmas and contracts that other parts use. -/
import Derived.Test.YtbopfhbeegkkaabGreatDoorCa32
import Derived.Test.YtbopfhbeegkkaabGreatDoorCa29
import Derived.Test.YtbopfhbeegkkaabGreatDoorCa30
import Derived.Test.YtbopfhbeegkkaabGreatDoorCa24
import Derived.Test.YtbopfhbeegkkaabGreatDoorCa20
import Derived.Deep.DeepCutAuto
import Derived.Deep.CutBlock
set_option linter.unusedVariables false
set_option linter.unusedSimpArgs false
set_option linter.constructorNameAsVariable false
namespace Go.Proofs.YtbopfhbeegkkaabGreatDoor
open Go.RowKit
theorem obWs_none {w0 w:World} {n:Nat} {O:Nat→Ob} (h:Mem w0 w n O):∃ O',Mem w0 w (n+1) O'∧(∀ k,k<n→O' k=O k)∧O' n=obWs none []:=
 h.lend1 (obWs_ok ..) ⟨fun i x hx=>(by simp at hx),fun b o e=>(by cases e)⟩ (fun b e=>e) (fun b k hk ⟨o,e⟩=>(by cases e))
theorem SneA.commit {w0 w:World} {n:Nat} {O:Nat→Ob} (h:Mem w0 w n O) {i j x u:Nat} {a:RSi} {d:SdP} (hi:i<n) (hj:j<n) (hij:i≠j) (hr:SteA w0.heap.size x a (O i)) (hd:SneA w0.heap.size u d (O j)) (now:Int):
  Calls Tryz.prog 45 #[.pointer (some ⟨u,0,none⟩),.pointer (some ⟨x,0,none⟩),.int .i64 now] w fun e w'=>
   (dCommitE d a now≠0→e=.returned (.tuple #[txZero,errV (dCommitE d a now)])∧Below w.heap.size w w')∧
   (dCommitE d a now=0→∃ A' c',e=.returned (.tuple #[MTx.val ⟨dCommitT d a now,A',c'⟩,.nilIface])∧
     ∃ O',Mem w0 w' (n+1) O'∧O' n=obWs A' (dCommitT d a now).ws∧SteA w0.heap.size x (dCommitS d a now) (O' i)∧SneA w0.heap.size u (dCommitD d a now) (O' j)∧∀ k,k<n→k≠i→k≠j→O' k=O k):=by
 cases ho:d.op with
 | false=>
   have hE:dCommitE d a now=6:=by unfold dCommitE;rw [if_pos ho]
   obtain ⟨s,mv,hou,hs⟩:=hd
   have hat:=h.at_ j hj
   rw [hou] at hat
   refine (sCommit_shut (x:=x) hat now (by rw [hs.rep.op];exact ho)).mono ?_
   rintro e w' ⟨rfl,hb⟩
   rw [hE]
   exact ⟨fun _=>⟨rfl,hb⟩,fun e=>(by cases e)⟩
 | true=>
   by_cases hl:dCommitL d=[]
   ·have hE:dCommitE d a now=0:=by unfold dCommitE;rw [if_neg (by rw [ho];simp),if_pos hl]
    have hT:dCommitT d a now=txZP:=by unfold dCommitT;rw [if_pos hl]
    have hS:dCommitS d a now=a:=by unfold dCommitS;rw [if_pos hl]
    have hD:dCommitD d a now=sdAbort d:=by unfold dCommitD;rw [if_pos hl]
    rw [hE,hT,hS,hD]
    refine (sCommit_none (x:=x) h hj hd now ho hl).mono ?_
    rintro e w' ⟨rfl,O1,h1,h2,h3⟩
    refine ⟨fun e=>absurd rfl e,fun _=>⟨none,0,rfl,?_⟩⟩
    obtain ⟨O2,k1,k2,k3⟩:=obWs_none h1
    exact ⟨O2,k1,k3,by rw [k2 i hi,h3 i hi hij];exact hr,by rw [k2 j hj];exact h2,fun k hk e1 e2=>(k2 k hk).trans (h3 k hk e2)⟩
   ·have hE:dCommitE d a now=rCommitE a now d.n0 d.n1 d.n2 d.n3 (dCommitL d):=by unfold dCommitE;rw [if_neg (by rw [ho];simp),if_neg hl]
    have hT:dCommitT d a now=rCommitT a now d.n0 d.n1 d.n2 d.n3 (dCommitL d):=by unfold dCommitT;rw [if_neg hl]
    have hS:dCommitS d a now=rApply a (dCommitT d a now):=by unfold dCommitS;rw [if_neg hl]
    have hD:dCommitD d a now=sdAt (sdAbort d) (dCommitT d a now).site (dCommitT d a now).seq:=by unfold dCommitD;rw [if_neg hl]
    have hid:0≤a.id∧a.id<4:=by
     obtain ⟨mb,s,lv,sv,_,hf,_⟩:=hr
     rw [←hf.rep.id];exact hf.inv.id
    rw [hS,hD]
    refine (sCommit_some h hi hj hij hr hd now ho hl _ hE.symm _ hT.symm (by rw [hT];exact hid)).mono ?_
    rintro e w' ⟨g1,g2⟩
    exact ⟨g1,fun h=>by obtain ⟨b',c',h1⟩:=g2 h;exact ⟨_,c',h1⟩⟩
section
variable {w0 w:World} {n:Nat} {O:Nat→Ob} {p g:Nat} {A:AWd} {v:WV} {k u x:Nat}
noncomputable def awCT (A:AWd) (k:Nat):TxP:=if awCommitE A k=0 then awCommitT A k else txZP
theorem commit1_eq (A:AWd) (k:Nat):awCommit1 A k={ A with si:=fset A.si (A.pl k) (if awCommitE A k=0 then dCommitS (A.cl k) (awSe A k) (A.wl (A.pl k)) else awSe A k),cl:=fset A.cl k (if awCommitE A k=0 then dCommitD (A.cl k) (awSe A k) (A.wl (A.pl k)) else A.cl k) }:=by
 unfold awCommit1
 split
 ·rfl
 ·have e1:fset A.si (A.pl k) (awSe A k)=A.si:=by funext i;unfold fset;split <;> simp_all [awSe]
  have e2:fset A.cl k (A.cl k)=A.cl:=by funext i;unfold fset;split <;> simp_all
  rw [e1,e2]
theorem PWx.sCommit (hp:PWx w0.heap.size O p g A v) (h:Mem w0 w n O) (hn:p+16≤n) (hu:v.us[k]?=some u) (hx:v.xs[A.pl k]?=some x):
  Calls Tryz.prog 45 #[.pointer (some ⟨u,0,none⟩),.pointer (some ⟨x,0,none⟩),.int .i64 (A.wl (A.pl k))] w fun e w'=>
   ∃ A' c',e=.returned (.tuple #[MTx.val ⟨awCT A k,A',c'⟩,errV (awCommitE A k)])∧
     ∃ O',Mem w0 w' (n+1) O'∧O' n=obWs A' (awCT A k).ws∧PWx w0.heap.size O' p g (awCommit1 A k) v∧∀ i,i<n→(i<p∨p+16≤i)→O' i=O i:=by
 have b1:=lt_get hu;have b2:=hp.ul;have b3:=hp.ok.C;have b4:=lt_get hx;have b5:=hp.xl;have b6:=hp.ok.S
 refine (SneA.commit h (i:=p+(6+A.pl k)) (j:=p+(10+k)) (by omega) (by omega) (by omega) (hp.si _ x hx) (hp.cl k u hu) (A.wl (A.pl k))).mono ?_
 rintro e w' ⟨g1,g2⟩
 by_cases hz:dCommitE (A.cl k) (A.si (A.pl k)) (A.wl (A.pl k))=0
 ·obtain ⟨A',c',rfl,O',h1,h2,h3,h4,h5⟩:=g2 hz
  have hz2:awCommitE A k=0:=hz
  have e1:awCT A k=dCommitT (A.cl k) (A.si (A.pl k)) (A.wl (A.pl k)):=by unfold awCT;rw [if_pos hz2];rfl
  refine ⟨A',c',by rw [e1,hz2];rfl,O',h1,by rw [e1];exact h2,?_,fun i hi hne=>h5 i hi (by omega) (by omega)⟩
  unfold awCommit1
  rw [if_pos hz2]
  have hid:(dCommitS (A.cl k) (awSe A k) (A.wl (A.pl k))).id=((A.pl k:Nat):Int):=by
   unfold dCommitS
   split
   ·exact hp.ok.id _
   ·exact hp.ok.id _
  have s1:=hp.setSi (O':=fun i=>if i=p+(6+A.pl k) then O' i else O i) hx hid (by rw [if_pos rfl];exact h3) (fun j hj hne=>if_neg (by omega))
  exact s1.setCl (k:=k) (O':=O') hu h4 (fun j hj hne=>by
   by_cases e:j=6+A.pl k
   ·subst e;rw [if_pos rfl]
   ·rw [if_neg (by omega)];exact h5 _ (by omega) (by omega) (by omega))
 ·obtain ⟨rfl,hb⟩:=g1 hz
  have hz2:¬awCommitE A k=0:=hz
  have e1:awCT A k=txZP:=by unfold awCT;rw [if_neg hz2]
  obtain ⟨O2,k1,k2,k3⟩:=obWs_none (h.below hb)
  refine ⟨none,0,by rw [e1];rfl,O2,k1,by rw [e1];exact k3,?_,fun i hi _=>k2 i hi⟩
  unfold awCommit1
  rw [if_neg hz2]
  exact hp.keep fun j hj=>k2 _ (by omega)
end
theorem awTo_succ (A:AWd) (at_:Nat) (t:TxP) (j:Nat):awTo A at_ t (j+1)=awTo A at_ t j++(if j≠at_ then [⟨j,t,0,0,0,0,0⟩] else []):=by
 unfold awTo
 rw [List.range_succ,List.filter_append,List.map_append]
 by_cases e:j=at_
 ·simp [e]
 ·simp [e]
section
variable {w0 w:World} {n:Nat} {O:Nat→Ob} {p g:Nat} {A:AWd} {v:WV} {k u x:Nat}
theorem PWx.right (hp:PWx w0.heap.size O p g A v) {k:Nat} (he:awCommitE A k=0) (hs:0<(awCommitT A k).seq):rightTx (awCommitT A k)=true∧(awCommitT A k).site=(A.pl k:Int):=by
 obtain ⟨x,hx⟩:=hp.xk (hp.ok.pl k)
 obtain ⟨mb,s,lv,sv,ho,hf,h40⟩:=hp.si _ x hx
 have hl:dCommitL (A.cl k)≠[]:=fun e=>by
  unfold awCommitT dCommitT at hs
  rw [if_pos e] at hs
  simp [txZP] at hs
 have hE:=(awCommit_parts he).2 hl
 obtain ⟨e1,e2⟩:=hf.rep.commitE (A.wl (A.pl k)) (A.cl k).n0 (A.cl k).n1 (A.cl k).n2 (A.cl k).n3 (dCommitL (A.cl k))
 have hT:awCommitT A k=rCommitT (awSe A k) (A.wl (A.pl k)) (A.cl k).n0 (A.cl k).n1 (A.cl k).n2 (A.cl k).n3 (dCommitL (A.cl k)):=by unfold awCommitT dCommitT;rw [if_neg hl]
 have hc:=(commit_right hf.inv hf.top (by rw [e1];exact hE)).1
 rw [e2] at hc
 rw [hT]
 exact ⟨hc,by show (awSe A k).id=_;exact hp.ok.id _⟩
theorem obRow_push {w':World} (h:Mem w0 w n O) {bv:Value} {l:List UInt8} (hb:Below w.heap.size w w') (hr:w'.ownsRow w.heap.size 5 1 bv l.length (u8s l)):∃ O',Mem w0 w' (n+1) O'∧(∀ k,k<n→O' k=O k)∧O' n=obRow w0.heap.size 5 1 bv l.length (u8s l):=by
 have h2:w'.ownsRow w0.heap.size 5 1 bv l.length (u8s l):=own_base hr h.low.size
 exact ⟨_,h.push (o:=obRow w0.heap.size 5 1 bv l.length (u8s l)) hb (obRow_ok ..) h2 (fun b e=>(own_ge hr e).1) (fun b e=>e.elim),fun k hk=>oset_other _ (by omega),oset_same ..⟩
def CmS (w0 W:World) (n:Nat) (O:Nat→Ob) (p g:Nat) (A:AWd) (v:WV) (b4 b9:Nat) (A1:Option Addr) (c1:Nat) (T:TxP):Prop:=
 ∃ O2,Mem w0 W (n+3) O2∧PWx w0.heap.size O2 p g A v∧O2 n=obB b4 (.cells #[.int .i64 0,.int .i64 0,.int .i64 0,.int .i64 0,.int .i64 0,.int .i64 0,.int .i64 0,.int .i64 0,.slice none 0 0] 44) w0.heap.size∧O2 (n+1)=obWs A1 T.ws∧
   O2 (n+2)=obB b9 (.cells #[.int .i64 T.site,.int .i64 T.seq,.int .i64 T.wall,.int .i64 T.count,.int .i64 T.d0,.int .i64 T.d1,.int .i64 T.d2,.int .i64 T.d3,.slice A1 T.ws.length c1] 44) w0.heap.size∧∀ k,k<n→(k<p∨p+16≤k)→O2 k=O k
def CmP (w0 w':World) (n:Nat) (O:Nat→Ob) (p g:Nat) (A:AWd) (v:WV) (A1:Option Addr) (T:TxP):Prop:=
 ∃ O',Mem w0 w' (n+1) O'∧O' n=obWs A1 T.ws∧PWa w0.heap.size O' p g v.xs v.us A∧∀ i,i<n→(i<p∨p+16≤i)→O' i=O i
end
section
variable {w0 w:World} {n:Nat} {O:Nat→Ob} {p g:Nat} {A:AWd} {v:WV} {k u x:Nat}
variable {W4 W5 W6:World} {b4:Nat} {A1:Option Addr} {c1:Nat} {T:TxP} {AA:AWd}
def HasW (w0 X:World) (p g:Nat) (A:AWd) (v:WV):Prop:=∃ n1 O1 AA,Mem w0 X n1 O1∧PWx w0.heap.size O1 p g AA v∧p+16≤n1∧(AA.S=A.S∧AA.C=A.C∧AA.wl=A.wl∧AA.pl=A.pl)
def CmA (w0 W:World) (n:Nat) (O:Nat→Ob) (p g:Nat) (A:AWd) (v:WV) (b4:Nat):Prop:=
 ∃ O1,Mem w0 W (n+1) O1∧PWx w0.heap.size O1 p g A v∧O1 n=obB b4 (.cells #[.int .i64 0,.int .i64 0,.int .i64 0,.int .i64 0,.int .i64 0,.int .i64 0,.int .i64 0,.int .i64 0,.slice none 0 0] 44) w0.heap.size∧p+16≤n∧∀ k,k<n→(k<p∨p+16≤k)→O1 k=O k
def CmB (w0 W:World) (n:Nat) (O:Nat→Ob) (p g:Nat) (A:AWd) (v:WV) (b4 b9:Nat):Prop:=
 ∃ O1,Mem w0 W (n+2) O1∧PWx w0.heap.size O1 p g A v∧O1 n=obB b4 (.cells #[.int .i64 0,.int .i64 0,.int .i64 0,.int .i64 0,.int .i64 0,.int .i64 0,.int .i64 0,.int .i64 0,.slice none 0 0] 44) w0.heap.size∧O1 (n+1)=obB b9 (.cells #[.int .i64 0,.int .i64 0,.int .i64 0,.int .i64 0,.int .i64 0,.int .i64 0,.int .i64 0,.int .i64 0,.slice none 0 0] 44) w0.heap.size∧p+16≤n∧∀ k,k<n→(k<p∨p+16≤k)→O1 k=O k
def CmC (w0 W:World) (n:Nat) (O:Nat→Ob) (p g:Nat) (A:AWd) (v:WV) (b4:Nat) (A1:Option Addr) (T:TxP):Prop:=
 ∃ O1,Mem w0 W (n+2) O1∧PWx w0.heap.size O1 p g A v∧O1 n=obB b4 (.cells #[.int .i64 0,.int .i64 0,.int .i64 0,.int .i64 0,.int .i64 0,.int .i64 0,.int .i64 0,.int .i64 0,.slice none 0 0] 44) w0.heap.size∧O1 (n+1)=obWs A1 T.ws∧p+16≤n∧∀ k,k<n→(k<p∨p+16≤k)→O1 k=O k
def CmD (w0 W:World) (n:Nat) (O:Nat→Ob) (p g:Nat) (A:AWd) (v:WV) (b4 b9:Nat) (A1:Option Addr) (T:TxP):Prop:=
 ∃ O1,Mem w0 W (n+3) O1∧PWx w0.heap.size O1 p g A v∧O1 n=obB b4 (.cells #[.int .i64 0,.int .i64 0,.int .i64 0,.int .i64 0,.int .i64 0,.int .i64 0,.int .i64 0,.int .i64 0,.slice none 0 0] 44) w0.heap.size∧O1 (n+1)=obB b9 (.cells #[.int .i64 0,.int .i64 0,.int .i64 0,.int .i64 0,.int .i64 0,.int .i64 0,.int .i64 0,.int .i64 0,.slice none 0 0] 44) w0.heap.size∧O1 (n+2)=obWs A1 T.ws∧p+16≤n∧∀ k,k<n→(k<p∨p+16≤k)→O1 k=O k
theorem CmA.has (h:CmA w0 W4 n O p g A v b4):HasW w0 W4 p g A v:=by
 obtain ⟨O1,h1,h2,_,h4,_⟩:=h
 exact ⟨_,O1,A,h1,h2,by omega,rfl,rfl,rfl,rfl⟩
theorem CmA.below (h:CmA w0 W4 n O p g A v b4) (hb:Below W4.heap.size W4 W5):CmA w0 W5 n O p g A v b4:=by
 obtain ⟨O1,h1,h2⟩:=h
 exact ⟨O1,h1.below hb,h2⟩
theorem CmA.alloc (h:CmA w0 W4 n O p g A v b4):CmB w0 (W4.alloc (.cells #[.int .i64 0,.int .i64 0,.int .i64 0,.int .i64 0,.int .i64 0,.int .i64 0,.int .i64 0,.int .i64 0,.slice none 0 0] 44)) n O p g A v b4 W4.heap.size:=by
 obtain ⟨O1,h1,h2,h3,h4,h5⟩:=h
 obtain ⟨O2,k1,k2,k3⟩:=h1.new1 (.cells #[.int .i64 0,.int .i64 0,.int .i64 0,.int .i64 0,.int .i64 0,.int .i64 0,.int .i64 0,.int .i64 0,.slice none 0 0] 44)
 exact ⟨O2,k1,h2.keep (fun j hj=>k2 _ (by omega)),(k2 n (by omega)).trans h3,k3,h4,fun k hk hne=>(k2 k (by omega)).trans (h5 k hk hne)⟩
theorem CmB.has {b9:Nat} (h:CmB w0 W4 n O p g A v b4 b9):HasW w0 W4 p g A v:=by
 obtain ⟨O1,h1,h2,_,_,h4,_⟩:=h
 exact ⟨_,O1,A,h1,h2,by omega,rfl,rfl,rfl,rfl⟩
theorem CmA.commit (h:CmA w0 W4 n O p g A v b4) (hq:∀ O1,Mem w0 W4 (n+1) O1→PWx w0.heap.size O1 p g A v→∃ O',Mem w0 W5 (n+1+1) O'∧O' (n+1)=obWs A1 T.ws∧PWx w0.heap.size O' p g AA v∧∀ i,i<n+1→(i<p∨p+16≤i)→O' i=O1 i):CmC w0 W5 n O p g AA v b4 A1 T:=by
 obtain ⟨O1,h1,h2,h3,h4,h5⟩:=h
 obtain ⟨O2,k1,k2,k3,k4⟩:=hq O1 h1 h2
 exact ⟨O2,k1,k3,(k4 n (by omega) (by omega)).trans h3,k2,h4,fun k hk hne=>(k4 k (by omega) hne).trans (h5 k hk hne)⟩
theorem CmB.commit {b9:Nat} (h:CmB w0 W4 n O p g A v b4 b9) (hq:∀ O1,Mem w0 W4 (n+2) O1→PWx w0.heap.size O1 p g A v→∃ O',Mem w0 W5 (n+2+1) O'∧O' (n+2)=obWs A1 T.ws∧PWx w0.heap.size O' p g AA v∧∀ i,i<n+2→(i<p∨p+16≤i)→O' i=O1 i):CmD w0 W5 n O p g AA v b4 b9 A1 T:=by
 obtain ⟨O1,h1,h2,h3,h3b,h4,h5⟩:=h
 obtain ⟨O2,k1,k2,k3,k4⟩:=hq O1 h1 h2
 exact ⟨O2,k1,k3,(k4 n (by omega) (by omega)).trans h3,(k4 (n+1) (by omega) (by omega)).trans h3b,k2,h4,fun k hk hne=>(k4 k (by omega) hne).trans (h5 k hk hne)⟩
theorem CmC.has (h:CmC w0 W4 n O p g AA v b4 A1 T) (he:AA.S=A.S∧AA.C=A.C∧AA.wl=A.wl∧AA.pl=A.pl):HasW w0 W4 p g A v:=by
 obtain ⟨O1,h1,h2,_,_,h4,_⟩:=h
 exact ⟨_,O1,AA,h1,h2,by omega,he⟩
theorem CmC.has2 (h:CmC w0 W4 n O p g AA v b4 A1 T) (he:AA.S=A.S∧AA.C=A.C∧AA.wl=A.wl∧AA.pl=A.pl) (o:Obj):HasW w0 (W4.alloc o) p g A v:=by
 obtain ⟨O1,h1,h2,_,_,h4,_⟩:=h
 exact ⟨_,O1,AA,h1.below (blw_alloc (Below.refl _ _)),h2,by omega,he⟩
theorem CmD.has {b9:Nat} (h:CmD w0 W4 n O p g AA v b4 b9 A1 T) (he:AA.S=A.S∧AA.C=A.C∧AA.wl=A.wl∧AA.pl=A.pl):HasW w0 W4 p g A v:=by
 obtain ⟨O1,h1,h2,_,_,_,h4,_⟩:=h
 exact ⟨_,O1,AA,h1,h2,by omega,he⟩
theorem CmD.box {b9:Nat} (h:CmD w0 W4 n O p g AA v b4 b9 A1 T):W4.heap[b9]?=some (.cells #[.int .i64 0,.int .i64 0,.int .i64 0,.int .i64 0,.int .i64 0,.int .i64 0,.int .i64 0,.int .i64 0,.slice none 0 0] 44):=by
 obtain ⟨O1,h1,h2,_,h3,_⟩:=h
 exact h1.box (i:=n+1) (by omega) h3
theorem CmC.done (h:CmC w0 W4 n O p g AA v b4 A1 T):CmS w0 (W4.alloc (.cells #[.int .i64 T.site,.int .i64 T.seq,.int .i64 T.wall,.int .i64 T.count,.int .i64 T.d0,.int .i64 T.d1,.int .i64 T.d2,.int .i64 T.d3,.slice A1 T.ws.length c1] 44)) n O p g AA v b4 W4.heap.size A1 c1 T:=by
 obtain ⟨O1,h1,h2,h3,h4,h5,h6⟩:=h
 obtain ⟨O2,k1,k2,k3⟩:=h1.new1 (.cells #[.int .i64 T.site,.int .i64 T.seq,.int .i64 T.wall,.int .i64 T.count,.int .i64 T.d0,.int .i64 T.d1,.int .i64 T.d2,.int .i64 T.d3,.slice A1 T.ws.length c1] 44)
 exact ⟨O2,k1,h2.keep (fun j hj=>k2 _ (by omega)),(k2 n (by omega)).trans h3,(k2 (n+1) (by omega)).trans h4,k3,fun k hk hne=>(k2 k (by omega)).trans (h6 k hk hne)⟩
theorem CmD.done {b9:Nat} (h:CmD w0 W4 n O p g AA v b4 b9 A1 T):CmS w0 (put9 W4 b9 (.int .i64 T.site) (.int .i64 T.seq) (.int .i64 T.wall) (.int .i64 T.count) (.int .i64 T.d0) (.int .i64 T.d1) (.int .i64 T.d2) (.int .i64 T.d3) (.slice A1 T.ws.length c1)) n O p g AA v b4 b9 A1 c1 T:=by
 obtain ⟨O1,h1,h2,h3,h4,h5,h6,h7⟩:=h
 obtain ⟨O2,k1,k2,k3⟩:=h1.fill9' (i:=n+1) (by omega) h4 (.int .i64 T.site) (.int .i64 T.seq) (.int .i64 T.wall) (.int .i64 T.count) (.int .i64 T.d0) (.int .i64 T.d1) (.int .i64 T.d2) (.int .i64 T.d3) (.slice A1 T.ws.length c1)
 have k4:=k1.pick (m:=n+3) (fun k=>if k=n+1 then n+2 else if k=n+2 then n+1 else k) (fun k hk=>by (try dsimp only);split <;> (try split) <;> omega) (fun j k hj hk e=>by (try dsimp only at e);split at e <;> split at e <;> (try split at e) <;> (try split at e) <;> omega)
 have e0:∀ k,k<n+1→(fun k=>O2 (if k=n+1 then n+2 else if k=n+2 then n+1 else k)) k=O2 k:=fun k hk=>by (try dsimp only);rw [if_neg (by omega),if_neg (by omega)]
 refine ⟨_,k4,h2.keep (fun j hj=>(e0 _ (by omega)).trans (k3 _ (by omega))),(e0 n (by omega)).trans ((k3 n (by omega)).trans h3),?_,?_,fun k hk hne=>(e0 k (by omega)).trans ((k3 k (by omega)).trans (h7 k hk hne))⟩
 ·(try dsimp only);rw [if_pos rfl,k3 _ (by omega)];exact h5
 ·(try dsimp only);rw [if_neg (by omega),if_pos rfl];exact k2
theorem CmS.has {b9:Nat} (hn:p+16≤n) (h:CmS w0 W4 n O p g AA v b4 b9 A1 c1 T) (he:AA.S=A.S∧AA.C=A.C∧AA.wl=A.wl∧AA.pl=A.pl):HasW w0 W4 p g A v:=by
 obtain ⟨O1,h1,h2,_⟩:=h
 exact ⟨_,O1,AA,h1,h2,by omega,he⟩
theorem Cm_fin {m:Nat} {O2:Nat→Ob} {z0 z1 z2 z3 z4 z5 z6 z7 z8:Value} (h:Mem w0 W4 m O2) (hm:n+2≤m) (hn:p+16≤n) (h4:O2 n=obB b4 (.cells #[z0,z1,z2,z3,z4,z5,z6,z7,z8] 44) w0.heap.size) (h5:O2 (n+1)=obWs A1 T.ws) (hp:PWa w0.heap.size O2 p g v.xs v.us AA)
  (hk:∀ k,k<n→(k<p∨p+16≤k)→O2 k=O k) (u0 u1 u2 u3 u4 u5 u6 u7 u8:Value):CmP w0 (put9 W4 b4 u0 u1 u2 u3 u4 u5 u6 u7 u8) n O p g AA v A1 T:=by
 obtain ⟨O3,k1,k2,k3⟩:=h.fill9' (i:=n) (by omega) h4 u0 u1 u2 u3 u4 u5 u6 u7 u8
 have k4:=k1.pick (m:=n+1) (fun k=>if k=n then n+1 else k) (fun k hk=>by (try dsimp only);split <;> omega) (fun j k hj hk e=>by (try dsimp only at e);split at e <;> split at e <;> omega)
 have e0:∀ k,k<n→(fun k=>O3 (if k=n then n+1 else k)) k=O3 k:=fun k hk=>by (try dsimp only);rw [if_neg (by omega)]
 obtain ⟨v',hv,hx,hu⟩:=hp
 refine ⟨_,k4,?_,⟨v',hv.keep (fun j hj=>(e0 _ (by omega)).trans (k3 _ (by omega))),hx,hu⟩,fun i hi hne=>(e0 i hi).trans ((k3 i (by omega)).trans (hk i hi hne))⟩
 (try dsimp only)
 rw [if_pos rfl,k3 _ (by omega)]
 exact h5
theorem CmP.none (h:CmP w0 W4 n O p g AA v A1 T) (hn:p+16≤n):CmP w0 W4 n O p g AA v none txZP:=by
 obtain ⟨O',h1,h2,h3,h4⟩:=h
 obtain ⟨O2,k1,k2,k3⟩:=obWs_none (h1.less (m:=n) (by omega))
 obtain ⟨v',hv,hx,hu⟩:=h3
 exact ⟨O2,k1,k3,⟨v',hv.keep (fun j hj=>k2 _ (by omega)),hx,hu⟩,fun i hi hne=>(k2 i hi).trans (h4 i hi hne)⟩
theorem HasW.cells (h:HasW w0 W4 p g A v) {k q:Nat} {bW cW bP cP:Nat} (eW:v.vW=.slice (some ⟨bW,0,none⟩) A.S cW) (eP:v.vP=.slice (some ⟨bP,0,none⟩) A.C cP) (hk:k<A.C) (hq:A.pl k=q) (hqS:q<A.S):
  W4.cell? ⟨g,1,none⟩=some (.slice (some ⟨bW,0,none⟩) A.S cW)∧W4.cell? ⟨g,3,none⟩=some (.slice (some ⟨bP,0,none⟩) A.C cP)∧W4.cell? ⟨bP,k,none⟩=some (.int .i64 (q:Int))∧W4.cell? ⟨bW,q,none⟩=some (.int .i64 (A.wl q)):=by
 obtain ⟨n1,O1,AA,h1,h2,h3,e1,e2,e3,e4⟩:=h
 have hb:=h2.blk h1 h3
 rw [eW,eP] at hb
 have c1:=cell_blk hb 1;have c3:=cell_blk hb 3
 simp only [zC,zD,zE] at c1 c3
 have r2:=h2.b2
 have r4:=h2.b4
 obtain ⟨b,c,e,_,_,hr,_⟩:=row_at h1 (i:=p+2) (by omega) r2 (by omega)
 obtain ⟨b',c',e',_,_,hr',_⟩:=row_at h1 (i:=p+4) (by omega) r4 (by omega)
 rw [eW] at e;rw [eP] at e'
 simp only [Value.slice.injEq,Option.some.injEq,Addr.mk.injEq,and_true] at e e'
 obtain ⟨rfl,_⟩:=e
 obtain ⟨rfl,_⟩:=e'
 refine ⟨c1,c3,?_,?_⟩
 ·have:=hr' k _ (by omega) (intsN_get (by omega))
  rw [this,e4,hq]
 ·have:=hr q _ (by omega) (intsN_get (by omega))
  rw [this,e3]
end
section
variable {w0 w:World} {n:Nat} {O:Nat→Ob} {p g:Nat} {A:AWd} {v:WV} {k u x:Nat}
set_option maxRecDepth 200000 in
set_option maxHeartbeats 16000000 in
theorem wCommit_ok (hp:PWx w0.heap.size O p g A v) (h:Mem w0 w n O) (hn:p+16≤n) (hk:k<A.C):
  Calls Tryz.prog 102 #[.pointer (some ⟨g,0,none⟩),.int .i64 (k:Nat)] w fun e w'=>∃ A1 c1,e=.returned (.tuple #[MTx.val ⟨awCT A k,A1,c1⟩,errV (awCommitE A k)])∧CmP w0 w' n O p g (awCommit A k) v A1 (awCT A k):=by
 obtain ⟨u,hu⟩:=hp.uk hk
 obtain ⟨x,hx⟩:=hp.xk (hp.ok.pl k)
 obtain ⟨bW,cW,eW,_⟩:=row_at h (i:=p+2) (by omega) hp.b2 (by have:=hp.ok.S;omega)
 obtain ⟨bP,cP,eP,_⟩:=row_at h (i:=p+4) (by omega) hp.b4 (by omega)
 obtain ⟨q,hq⟩:∃ q,A.pl k=q:=⟨_,rfl⟩
 obtain ⟨wl,hwl⟩:∃ wl,A.wl q=wl:=⟨_,rfl⟩
 have hqS:q<A.S:=by rw [←hq];exact hp.ok.pl k
 have HC:=hidp (fun W (hW:Below w.heap.size w W)=>client_ok hp (h.below hW) hn hk hu hx)
 have HSK:=hidp (fun X (hX:HasW w0 X p g A v)=>hX.cells eW eP hk hq hqS)
 rw [hwl] at HSK
 have HA0:Hid (CmA w0 (w.alloc (.cells #[.int .i64 0,.int .i64 0,.int .i64 0,.int .i64 0,.int .i64 0,.int .i64 0,.int .i64 0,.int .i64 0,.slice none 0 0] 44)) n O p g A v w.heap.size):=hidp (by
  obtain ⟨O1,m1,m2,m3⟩:=h.new1 (.cells #[.int .i64 0,.int .i64 0,.int .i64 0,.int .i64 0,.int .i64 0,.int .i64 0,.int .i64 0,.int .i64 0,.slice none 0 0] 44)
  exact ⟨O1,m1,hp.keep (fun j hj=>m2 _ (by omega)),m3,hn,fun i hi _=>m2 i hi⟩)
 obtain ⟨T,hT⟩:∃ T,awCT A k=T:=⟨_,rfl⟩
 obtain ⟨z,hz⟩:∃ z,awCommitE A k=z:=⟨_,rfl⟩
 rw [hT,hz]
 have HSC:Hid (∀ W n1 O1,Mem w0 W n1 O1→PWx w0.heap.size O1 p g A v→p+16≤n1→Calls Tryz.prog 45 #[.pointer (some ⟨u,0,none⟩),.pointer (some ⟨x,0,none⟩),.int .i64 wl] W fun e w'=>
   ∃ A' c',e=.returned (.tuple #[MTx.val ⟨T,A',c'⟩,errV z])∧∃ O',Mem w0 w' (n1+1) O'∧O' n1=obWs A' T.ws∧PWx w0.heap.size O' p g (awCommit1 A k) v∧∀ i,i<n1→(i<p∨p+16≤i)→O' i=O1 i):=hidp (fun W n1 O1 h1 h2 h3=>by
  have:=h2.sCommit h1 h3 hu hx
  rw [hT,hz,hq,hwl] at this
  exact this)
 have HEQ:Hid ((awCommit1 A k).S=A.S∧(awCommit1 A k).C=A.C∧(awCommit1 A k).wl=A.wl∧(awCommit1 A k).pl=A.pl):=hidp (by rw [commit1_eq];exact ⟨rfl,rfl,rfl,rfl⟩)
 have HN16:=hidp hn
 have HTW:Hid (z≠0→T=txZP):=hidp (fun e=>by rw [←hT];unfold awCT;rw [if_neg (by rw [hz];exact e)])
 have HTE:Hid (z=0→T=awCommitT A k):=hidp (fun e=>by rw [←hT];unfold awCT;rw [if_pos (by rw [hz];exact e)])
 have HCM:Hid (awCommit A k=if z=0∧0<(awCommitT A k).seq then awSends (awCommit1 A k) (awTo A q (awCommitT A k) A.S) else (awCommit1 A k)):=hidp (by unfold awCommit;rw [hz,hq])
 have HRT:Hid (z=0→0<T.seq→rightTx T=true∧T.site=(q:Int)):=hidp (fun e hs=>by
  have e2:T=awCommitT A k:=by rw [←hT];unfold awCT;rw [if_pos (by rw [hz];exact e)]
  rw [e2] at hs ⊢
  have:=hp.right (hz.trans e) hs
  rw [hq] at this
  exact this)
 have HS4:Hid (A.S≤4∧q<A.S):=hidp ⟨hp.ok.S.2,hqS⟩
 have hb:=hp.blk h hn
 haveI:SzGe (g+1) w:=⟨lt_blk hb⟩
 have hk0:(0:Int)≤(k:Int):=by omega
 have hk1:(k:Int)<(A.C:Int):=by omega
 have hq0:(0:Int)≤(q:Int):=by omega
 have hq1:(q:Int)<(A.S:Int):=by omega
 clear hb hu hx eW eP hwl hqS hT hz hp h hn hk hq
 obtain ⟨S,hS⟩:∃ S,A.S=S:=⟨_,rfl⟩
 obtain ⟨C,hC⟩:∃ C,A.C=C:=⟨_,rfl⟩
 rw [hS] at hq1 HSK HCM HS4
 rw [hC] at hk1 HSK
 have HSS:=hidp hS
 clear hS hC
 obtain ⟨t0,t1,t2,t3,t4,t5,t6,t7,tws⟩:=T
 unfold MTx.val at HSC
 simp only at HSC
 go_enter Tryz.func102,Tryz.ntmps102
 go_wp2_with fail
 go_at_call 112
 refine (HC.out _ zB).mono ?_
 rintro e w1 ⟨rfl,hb1⟩
 have HA:=hidp (HA0.out.below hb1)
 clear HC HA0
 have hbq:=hb1.size
 generalize w1=W4 at *
 haveI:SzGe (w.heap.size+1) W4:=⟨by simpa using hbq⟩
 clear hbq hb1 w1
 go_upto_region 4 with fail
 have HN:=hidp (HA.out.below (Below.drew (Below.refl _ _)))
 have HH:=hidp (CmA.has HN.out)
 go_cut [8,9] (fun te tb W'=>∃ (b9:Nat) (A1:Option Addr) (c1:Nat),te=errV z∧tb=.pointer (some ⟨b9,0,none⟩)∧CmS w0 W' n O p g (awCommit1 A k) v w.heap.size b9 A1 c1 (⟨t0,t1,t2,t3,t4,t5,t6,t7,tws⟩:TxP))
 case first=>
  refine wp_region_held_drew (S:=(fun X:World=>X.cell? ⟨g,1,none⟩=some (.slice (some ⟨bW,0,none⟩) S cW)∧X.cell? ⟨g,3,none⟩=some (.slice (some ⟨bP,0,none⟩) C cP)∧X.cell? ⟨bP,k,none⟩=some (.int .i64 (q:Int))∧X.cell? ⟨bW,q,none⟩=some (.int .i64 wl))) (by kernel_rfl) ?_ (fun hHeld=>?_)
  ·exact HSK.out _ HH.out
  refine takeL 0 rfl (by kernel_rfl) (by kernel_rfl) (by kernel_rfl) (fun _ _ _ h=>h) hHeld (by rfl) (v:=?_) ?_ ?_
  rotate_left
  ·intro w hSw
   (try dsimp only at hSw)
   go_simp
   all_goals (with_reducible rfl)
  try simp only [Act.put,zF,zG,zH]
  refine takeL 1 rfl (by kernel_rfl) (by kernel_rfl) (by kernel_rfl) (fun _ _ _ h=>h) hHeld (by rfl) (v:=?_) ?_ ?_
  rotate_left
  ·intro w hSw
   (try dsimp only at hSw)
   go_simp
   all_goals (with_reducible rfl)
  try simp only [Act.put,zF,zG,zH]
  refine takeL 2 rfl (by kernel_rfl) (by kernel_rfl) (by kernel_rfl) (fun _ _ _ h=>h) hHeld (by rfl) (v:=?_) ?_ ?_
  rotate_left
  ·intro w hSw
   (try dsimp only at hSw)
   go_simp
   all_goals (with_reducible rfl)
  try simp only [Act.put,zF,zG,zH]
  refine takeL 3 rfl (by kernel_rfl) (by kernel_rfl) (by kernel_rfl) (fun _ _ _ h=>h) hHeld (by rfl) (v:=?_) ?_ ?_
  rotate_left
  ·intro w hSw
   (try dsimp only at hSw)
   go_simp
   all_goals (with_reducible rfl)
  try simp only [Act.put,zF,zG,zH]
  refine takeL 4 rfl (by kernel_rfl) (by kernel_rfl) (by kernel_rfl) (fun _ _ _ h=>h) hHeld (by rfl) (v:=?_) ?_ ?_
  rotate_left
  ·intro w hSw
   (try dsimp only at hSw)
   go_simp
   all_goals (with_reducible rfl)
  try simp only [Act.put,zF,zG,zH]
  refine takeL 5 rfl (by kernel_rfl) (by kernel_rfl) (by kernel_rfl) (fun _ _ _ h=>h) hHeld (by rfl) (v:=?_) ?_ ?_
  rotate_left
  ·intro w hSw
   (try dsimp only at hSw)
   go_simp
   all_goals (with_reducible rfl)
  try simp only [Act.put,zF,zG,zH]
  refine takeL 6 rfl (by kernel_rfl) (by kernel_rfl) (by kernel_rfl) (fun _ _ _ h=>h) hHeld (by rfl) (v:=?_) ?_ ?_
  rotate_left
  ·intro w hSw
   (try dsimp only at hSw)
   go_simp
   all_goals (with_reducible rfl)
  try simp only [Act.put,zF,zG,zH]
  refine takeL 7 rfl (by kernel_rfl) (by kernel_rfl) (by kernel_rfl) (fun _ _ _ h=>h) hHeld (by rfl) (v:=?_) ?_ ?_
  rotate_left
  ·intro w hSw
   (try dsimp only at hSw)
   go_simp
   all_goals (with_reducible rfl)
  try simp only [Act.put,zF,zG,zH]
  refine takeL 8 rfl (by kernel_rfl) (by kernel_rfl) (by kernel_rfl) (fun _ _ _ h=>h) hHeld (by rfl) (v:=?_) ?_ ?_
  rotate_left
  ·intro w hSw
   (try dsimp only at hSw)
   go_simp
   all_goals (with_reducible rfl)
  try simp only [Act.put,zF,zG,zH]
  refine takeL 9 rfl (by kernel_rfl) (by kernel_rfl) (by kernel_rfl) (fun _ _ _ h=>h) hHeld (by rfl) (v:=?_) ?_ ?_
  rotate_left
  ·intro w hSw
   (try dsimp only at hSw)
   go_simp
   all_goals (with_reducible rfl)
  try simp only [Act.put,zF,zG,zH]
  refine takeL 10 rfl (by kernel_rfl) (by kernel_rfl) (by kernel_rfl) (fun _ _ _ h=>h) hHeld (by rfl) (v:=?_) ?_ ?_
  rotate_left
  ·intro w hSw
   (try dsimp only at hSw)
   go_simp
   all_goals (with_reducible rfl)
  try simp only [Act.put,zF,zG,zH]
  refine takeL 11 rfl (by kernel_rfl) (by kernel_rfl) (by kernel_rfl) (fun _ _ _ h=>h) hHeld (by rfl) (v:=?_) ?_ ?_
  rotate_left
  ·intro w hSw
   (try dsimp only at hSw)
   go_simp
   all_goals (with_reducible rfl)
  try simp only [Act.put,zF,zG,zH]
  refine takeL 12 rfl (by kernel_rfl) (by kernel_rfl) (by kernel_rfl) (fun _ _ _ h=>h) hHeld (by rfl) (v:=?_) ?_ ?_
  rotate_left
  ·intro w hSw
   (try dsimp only at hSw)
   go_simp
   all_goals (with_reducible rfl)
  try simp only [Act.put,zF,zG,zH]
  refine takeL 13 rfl (by kernel_rfl) (by kernel_rfl) (by kernel_rfl) (fun _ _ _ h=>h) hHeld (by rfl) (v:=?_) ?_ ?_
  rotate_left
  ·intro w hSw
   (try dsimp only at hSw)
   go_simp
   all_goals (with_reducible rfl)
  try simp only [Act.put,zF,zG,zH]
  refine takeL 14 rfl (by kernel_rfl) (by kernel_rfl) (by kernel_rfl) (fun _ _ _ h=>h) hHeld (by rfl) (v:=?_) ?_ ?_
  rotate_left
  ·intro w hSw
   (try dsimp only at hSw)
   go_simp
   all_goals (with_reducible rfl)
  try simp only [Act.put,zF,zG,zH]
  refine wpAnyH_ready (rs:=[15,19]) (by kernel_rfl) (by simp) ?_
  refine consL rfl (fun K hK=>?_) ?_
  ·go_simp
   go_at_call 45
   obtain ⟨OX,hx1,hx2,hx3,hx4,hx5⟩:=HN.out
   refine (HSC.out _ _ _ hx1 hx2 (by omega)).mono ?_
   rintro e w3 ⟨A1,c1,rfl,OY,hy1,hy2,hy3,hy4⟩
   have HN2:Hid (CmC w0 w3 n O p g (awCommit1 A k) v w.heap.size A1 ⟨t0,t1,t2,t3,t4,t5,t6,t7,tws⟩):=hidp ⟨OY,hy1,hy3,(hy4 n (by omega) (by omega)).trans hx3,hy2,hx4,fun i hi hne=>(hy4 i (by omega) hne).trans (hx5 i hi hne)⟩
   have HH:=hidp (CmC.has HN2.out HEQ.out)
   clear hx1 hx2 hx3 hx4 hx5 hy1 hy2 hy3 hy4
   go_wp2_with fail
   refine hK.out _ _ ?_ (fun hNew=>?_)
   ·exact HSK.out _ HH.out
   clear hHeld
   have hHeld:=hNew
   clear hNew hK K
   try simp only [Act.put,zF,zG,zH]
   refine takeL 16 rfl (by kernel_rfl) (by kernel_rfl) (by kernel_rfl) (fun _ _ _ h=>h) hHeld (by rfl) (v:=?_) ?_ ?_
   rotate_left
   ·intro w hSw
    (try dsimp only at hSw)
    go_simp
    all_goals (with_reducible rfl)
   try simp only [Act.put,zF,zG,zH]
   refine takeL 17 rfl (by kernel_rfl) (by kernel_rfl) (by kernel_rfl) (fun _ _ _ h=>h) hHeld (by rfl) (v:=?_) ?_ ?_
   rotate_left
   ·intro w hSw
    (try dsimp only at hSw)
    go_simp
    all_goals (with_reducible rfl)
   try simp only [Act.put,zF,zG,zH]
   refine takeL 18 rfl (by kernel_rfl) (by kernel_rfl) (by kernel_rfl) (fun _ _ _ h=>h) hHeld (by rfl) (v:=?_) ?_ ?_
   rotate_left
   ·intro w hSw
    (try dsimp only at hSw)
    go_simp
    all_goals (with_reducible rfl)
   try simp only [Act.put,zF,zG,zH]
   refine wpAnyH_ready (rs:=[19]) (by kernel_rfl) (by simp) ?_
   refine consL rfl (fun K hK=>?_) ?_
   ·go_simp
    have HH:=hidp (CmC.has2 HN2.out HEQ.out (.cells #[.int .i64 0,.int .i64 0,.int .i64 0,.int .i64 0,.int .i64 0,.int .i64 0,.int .i64 0,.int .i64 0,.slice none 0 0] 44))
    refine hK.out _ _ ?_ (fun hNew=>?_)
    ·exact HSK.out _ HH.out
    clear hHeld
    have hHeld:=hNew
    clear hNew hK K
    try simp only [Act.put,zF,zG,zH]
    refine wpAnyH_ready (rs:=[20]) (by kernel_rfl) (by simp) ?_
    refine consL rfl (fun K hK=>?_) ?_
    ·go_simp
     have HN4:=hidp (CmC.done (c1:=c1) HN2.out)
     simp only at HN4
     have HH:=hidp (CmS.has HN16.out HN4.out HEQ.out)
     refine hK.out _ _ ?_ (fun hNew=>?_)
     ·exact HSK.out _ HH.out
     clear hHeld
     have hHeld:=hNew
     clear hNew hK K
     try simp only [Act.put,zF,zG,zH]
     refine takeL 21 rfl (by kernel_rfl) (by kernel_rfl) (by kernel_rfl) (fun _ _ _ h=>h) hHeld (by rfl) (v:=?_) ?_ ?_
     rotate_left
     ·intro w hSw
      (try dsimp only at hSw)
      go_simp
      all_goals (with_reducible rfl)
     try simp only [Act.put,zF,zG,zH]
     refine wpAnyH_done (by kernel_rfl) ?_ _
     go_wp2_with fail
     go_meet
     exact ⟨_,A1,c1,rfl,rfl,HN4.out⟩
    exact AllReadyH.nil
   exact AllReadyH.nil
  refine consL rfl (fun K hK=>?_) ?_
  ·go_simp
   have HN2:Hid (CmB w0 (W4.drew.alloc (.cells #[.int .i64 0,.int .i64 0,.int .i64 0,.int .i64 0,.int .i64 0,.int .i64 0,.int .i64 0,.int .i64 0,.slice none 0 0] 44)) n O p g A v w.heap.size W4.heap.size):=hidp (CmA.alloc HN.out)
   have HH:=hidp (CmB.has HN2.out)
   refine hK.out _ _ ?_ (fun hNew=>?_)
   ·exact HSK.out _ HH.out
   clear hHeld
   have hHeld:=hNew
   clear hNew hK K
   try simp only [Act.put,zF,zG,zH]
   refine wpAnyH_ready (rs:=[15]) (by kernel_rfl) (by simp) ?_
   refine consL rfl (fun K hK=>?_) ?_
   ·go_simp
    go_at_call 45
    obtain ⟨OX,hx1,hx2,hx3,hx3b,hx4,hx5⟩:=HN2.out
    refine (HSC.out _ _ _ hx1 hx2 (by omega)).mono ?_
    rintro e w3 ⟨A1,c1,rfl,OY,hy1,hy2,hy3,hy4⟩
    have HN3:Hid (CmD w0 w3 n O p g (awCommit1 A k) v w.heap.size W4.heap.size A1 ⟨t0,t1,t2,t3,t4,t5,t6,t7,tws⟩):=hidp ⟨OY,hy1,hy3,(hy4 n (by omega) (by omega)).trans hx3,(hy4 (n+1) (by omega) (by omega)).trans hx3b,hy2,hx4,fun i hi hne=>(hy4 i (by omega) hne).trans (hx5 i hi hne)⟩
    have HH:=hidp (CmD.has HN3.out HEQ.out)
    have hx9:=CmD.box HN3.out
    have r0:=cell_blk hx9 0;have r1:=cell_blk hx9 1;have r2:=cell_blk hx9 2;have r3:=cell_blk hx9 3;have r4:=cell_blk hx9 4;have r5:=cell_blk hx9 5;have r6:=cell_blk hx9 6;have r7:=cell_blk hx9 7;have r8:=cell_blk hx9 8
    simp only [zC,zD,zE] at r0 r1 r2 r3 r4 r5 r6 r7 r8
    have s0:=frozen_blk hx9 0;have s1:=frozen_blk hx9 1;have s2:=frozen_blk hx9 2;have s3:=frozen_blk hx9 3;have s4:=frozen_blk hx9 4;have s5:=frozen_blk hx9 5;have s6:=frozen_blk hx9 6;have s7:=frozen_blk hx9 7;have s8:=frozen_blk hx9 8
    haveI:SzGe (W4.heap.size+1) w3:=⟨lt_blk hx9⟩
    clear hx9 hx1 hx2 hx3 hx3b hx4 hx5 hy1 hy2 hy3 hy4
    go_wp2_with fail
    refine hK.out _ _ ?_ (fun hNew=>?_)
    ·exact HSK.out _ HH.out
    clear hHeld
    have hHeld:=hNew
    clear hNew hK K
    try simp only [Act.put,zF,zG,zH]
    refine takeL 16 rfl (by kernel_rfl) (by kernel_rfl) (by kernel_rfl) (fun _ _ _ h=>h) hHeld (by rfl) (v:=?_) ?_ ?_
    rotate_left
    ·intro w hSw
     (try dsimp only at hSw)
     go_simp
     all_goals (with_reducible rfl)
    try simp only [Act.put,zF,zG,zH]
    refine takeL 17 rfl (by kernel_rfl) (by kernel_rfl) (by kernel_rfl) (fun _ _ _ h=>h) hHeld (by rfl) (v:=?_) ?_ ?_
    rotate_left
    ·intro w hSw
     (try dsimp only at hSw)
     go_simp
     all_goals (with_reducible rfl)
    try simp only [Act.put,zF,zG,zH]
    refine takeL 18 rfl (by kernel_rfl) (by kernel_rfl) (by kernel_rfl) (fun _ _ _ h=>h) hHeld (by rfl) (v:=?_) ?_ ?_
    rotate_left
    ·intro w hSw
     (try dsimp only at hSw)
     go_simp
     all_goals (with_reducible rfl)
    try simp only [Act.put,zF,zG,zH]
    refine wpAnyH_ready (rs:=[20]) (by kernel_rfl) (by simp) ?_
    refine consL rfl (fun K hK=>?_) ?_
    ·have HN4:=hidp (CmD.done (c1:=c1) HN3.out)
     simp only at HN4
     have HH:=hidp (CmS.has HN16.out HN4.out HEQ.out)
     unfold put9 at HN4 HH
     go_simp
     refine hK.out _ _ ?_ (fun hNew=>?_)
     ·exact HSK.out _ HH.out
     clear hHeld
     have hHeld:=hNew
     clear hNew hK K
     try simp only [Act.put,zF,zG,zH]
     refine takeL 21 rfl (by kernel_rfl) (by kernel_rfl) (by kernel_rfl) (fun _ _ _ h=>h) hHeld (by rfl) (v:=?_) ?_ ?_
     rotate_left
     ·intro w hSw
      (try dsimp only at hSw)
      go_simp
      all_goals (with_reducible rfl)
     try simp only [Act.put,zF,zG,zH]
     refine wpAnyH_done (by kernel_rfl) ?_ _
     go_wp2_with fail
     go_meet
     exact ⟨_,A1,c1,rfl,rfl,HN4.out⟩
    exact AllReadyH.nil
   exact AllReadyH.nil
  exact AllReadyH.nil
 case rest=>
  clear HSC HSK HN HH HA
  obtain ⟨b9,A1,c1,rfl,rfl,O2,k1,k2,k3,k4,k5,k6⟩:=hcut
  have hx4:=k1.box (i:=n) (by omega) k3
  have hx9:=k1.box (i:=n+2) (by omega) k5
  have x0:=cell_blk hx4 0;have x1:=cell_blk hx4 1;have x2:=cell_blk hx4 2;have x3:=cell_blk hx4 3;have x4:=cell_blk hx4 4;have x5:=cell_blk hx4 5;have x6:=cell_blk hx4 6;have x7:=cell_blk hx4 7;have x8:=cell_blk hx4 8
  have r0:=cell_blk hx9 0;have r1:=cell_blk hx9 1;have r2:=cell_blk hx9 2;have r3:=cell_blk hx9 3;have r4:=cell_blk hx9 4;have r5:=cell_blk hx9 5;have r6:=cell_blk hx9 6;have r7:=cell_blk hx9 7;have r8:=cell_blk hx9 8
  simp only [zC,zD,zE] at x0 x1 x2 x3 x4 x5 x6 x7 x8 r0 r1 r2 r3 r4 r5 r6 r7 r8
  have f0:=frozen_blk hx4 0;have f1:=frozen_blk hx4 1;have f2:=frozen_blk hx4 2;have f3:=frozen_blk hx4 3;have f4:=frozen_blk hx4 4;have f5:=frozen_blk hx4 5;have f6:=frozen_blk hx4 6;have f7:=frozen_blk hx4 7;have f8:=frozen_blk hx4 8
  haveI:SzGe (w.heap.size+1) wc:=⟨lt_blk hx4⟩
  haveI:SzGe (b9+1) wc:=⟨lt_blk hx9⟩
  have hws:=k1.at_ (n+1) (by omega)
  rw [k4] at hws
  have HWS:Hid (WsAt wc A1 tws):=hidp hws.1
  have K1:=hidp k1
  have K2:=hidp k2
  have K3:=hidp k3
  have K4:=hidp k4
  have K5:=hidp k5
  have K6:=hidp k6
  have hbc:=k2.blk k1 (by have:=HN16.out;omega)
  obtain ⟨aS,cS,eS⟩:=row_form k1 (i:=p+1) (by have:=HN16.out;omega) k2.b1
  rw [eS,HEQ.out.1,HSS.out] at hbc
  have c0:=cell_blk hbc 0
  simp only [zC,zD,zE] at c0
  haveI:SzGe (g+1) wc:=⟨lt_blk hbc⟩
  clear hx4 hx9 hws k1 k2 k3 k4 k5 k6 hbc eS
  by_cases hz0:z=0
  ·obtain rfl:z=0:=hz0
   rw [show errV 0=Value.nilIface from rfl]
   have HT1:=hidp (HTE.out (by first | rfl | trivial))
   clear HTW HTE
   by_cases hs:0<t1
   ·obtain ⟨hrt,hq0'⟩:=HRT.out (by first | rfl | trivial) hs
    (try simp only at hq0')
    subst hq0'
    have HET:=hidp (fun W (hW:Below wc.heap.size wc W)=>encTx_good (⟨(q:Int),t1,t2,t3,t4,t5,t6,t7,tws⟩:TxP) A1 c1 W hrt (HWS.out.below hW))
    have HRT2:=hidp hrt
    have HCM2:Hid (awCommit A k=awSends (awCommit1 A k) (awTo A q (⟨(q:Int),t1,t2,t3,t4,t5,t6,t7,tws⟩:TxP) S)):=hidp (by rw [HCM.out,if_pos ⟨by first | rfl | trivial,by rw [←HT1.out];exact hs⟩,HT1.out])
    have ds:decide (0<t1)=true:=decide_eq_true hs
    have HSQ:=hidp hs
    clear hrt HRT HCM hs HT1
    go_wp2_with fail
    go_at_call 146
    refine (HET.out _ zB).mono ?_
    rintro e w5 ⟨v',rfl,hb5,hown⟩
    obtain ⟨Ab,cb,rfl⟩:=own_form hown
    obtain ⟨O3,m1,m2,m3⟩:=obRow_push K1.out hb5 hown
    have HU0:Hid (WUpd w0 w5 (n+4) O3 p g v.xs v.us (awSends (awCommit1 A k) (awTo A q (⟨(q:Int),t1,t2,t3,t4,t5,t6,t7,tws⟩:TxP) 0))):=hidp ⟨O3,m1,(K2.out.keep (fun j hj=>m2 _ (by have:=HN16.out;omega))).a,fun _ _ _=>rfl⟩
    have HO0:Hid (O3 n=obB w.heap.size (.cells #[.int .i64 0,.int .i64 0,.int .i64 0,.int .i64 0,.int .i64 0,.int .i64 0,.int .i64 0,.int .i64 0,.slice none 0 0] 44) w0.heap.size):=hidp ((m2 n (by omega)).trans K3.out)
    have HO1:Hid (O3 (n+1)=obWs A1 tws):=hidp ((m2 (n+1) (by omega)).trans K4.out)
    have HO2:Hid (O3 (n+2)=_):=hidp ((m2 (n+2) (by omega)).trans K5.out)
    have HO3:=hidp m3
    have HKO:Hid (∀ i,i<n→(i<p∨p+16≤i)→O3 i=O i):=hidp (fun i hi hne=>(m2 i (by omega)).trans (K6.out i hi hne))
    obtain ⟨x5,rfl⟩:=wplus_of_below hb5
    clear hb5 hown m1 m2 m3 HET K1 K2 K3 K4 K5 K6
    go_wp2_with fail
    have hAS:(awCommit1 A k).S=S:=by rw [HEQ.out.1,HSS.out]
    have HAS:=hidp hAS
    have HQ2:=hidp HS4.out
    clear hAS
    go_loopw [60] (fun i W=>∃ j:Nat,i=.int .i64 j∧j≤S∧WUpd w0 W (n+4) O3 p g v.xs v.us (awSends (awCommit1 A k) (awTo A q (⟨(q:Int),t1,t2,t3,t4,t5,t6,t7,tws⟩:TxP) j))) (fun i _=>S-(Go.RowKit.intOf i).toNat)
    case atStart=>exact ⟨0,rfl,Nat.zero_le _,HU0.out⟩
    case round=>
     obtain ⟨j,rfl,hj,hU⟩:=hrel
     clear HU0
     have HU:=hidp hU
     obtain ⟨O4,l1,⟨v4,l2,ex,eu⟩,l3⟩:=hU
     have hx9:=l1.box (i:=n+2) (by omega) ((l3 (n+2) (by omega) (by have:=HN16.out;omega)).trans HO2.out)
     have r0:=cell_blk hx9 0;have r1:=cell_blk hx9 1;have r2:=cell_blk hx9 2;have r3:=cell_blk hx9 3;have r4:=cell_blk hx9 4;have r5:=cell_blk hx9 5;have r6:=cell_blk hx9 6;have r7:=cell_blk hx9 7;have r8:=cell_blk hx9 8
     simp only [zC,zD,zE] at r0 r1 r2 r3 r4 r5 r6 r7 r8
     haveI:SzGe (b9+1) wr:=⟨lt_blk hx9⟩
     by_cases hjS:j<S
     ·have hj4:(j:Int)<4:=by have:=HQ2.out.1;omega
      have hjd:decide ((j:Int)<(S:Int))=true:=decide_eq_true (by omega)
      have hbs:=l1.at_ (n+3) (by omega)
      rw [l3 (n+3) (by omega) (by have:=HN16.out;omega),HO3.out] at hbs
      have HBS:=hidp (own_bs hbs rfl).1
      have HSD:Hid (∀ W,Below wr.heap.size wr W→Calls Tryz.prog 147 #[.pointer (some ⟨g,0,none⟩),.int .i64 (j:Int),.slice Ab (txB (⟨(q:Int),t1,t2,t3,t4,t5,t6,t7,tws⟩:TxP)).length cb] W fun e w'=>e=.returned (.tuple #[])∧WUpd w0 w' (n+4) O3 p g v.xs v.us (awSend (awSends (awCommit1 A k) (awTo A q (⟨(q:Int),t1,t2,t3,t4,t5,t6,t7,tws⟩:TxP) j)) ⟨j,⟨(q:Int),t1,t2,t3,t4,t5,t6,t7,tws⟩,0,0,0,0,0⟩)):=hidp (fun W hW=>by
       have hs1:=HSQ.out
       have h1:=wSend_any l2 (l1.below hW) (by have:=HN16.out;omega) ⟨j,⟨(q:Int),t1,t2,t3,t4,t5,t6,t7,tws⟩,0,0,0,0,0⟩ ⟨by show j<(awSends (awCommit1 A k) _).S;rw [(awSends_eq _ _).1,HAS.out];exact hjS,fun _=>HRT2.out,fun e=>absurd hs1 e⟩ Ab cb (by
        rw [gmB_tx (gm:=⟨j,⟨(q:Int),t1,t2,t3,t4,t5,t6,t7,tws⟩,0,0,0,0,0⟩) hs1]
        exact (HBS.out.above fun k hk=>hW.block k hk).mono hW.size)
       rw [gmB_tx (gm:=⟨j,⟨(q:Int),t1,t2,t3,t4,t5,t6,t7,tws⟩,0,0,0,0,0⟩) hs1,ex,eu] at h1
       refine h1.mono ?_
       rintro e w' ⟨q1,q2⟩
       exact ⟨q1,WUpd.next l3 q2⟩)
      clear hx9 l1 l2 l3 ex eu hbs
      by_cases hjq:j=q
      ·have e1:((j:Int)==(q:Int))=true:=by simp [hjq]
       have HNX:Hid (awTo A q (⟨(q:Int),t1,t2,t3,t4,t5,t6,t7,tws⟩:TxP) (j+1)=awTo A q (⟨(q:Int),t1,t2,t3,t4,t5,t6,t7,tws⟩:TxP) j):=hidp (by rw [awTo_succ,if_neg (by simpa using hjq),List.append_nil])
       have e1b:(j==q)=true:=by simp [hjq]
       clear hjq HSD HBS
       go_wp2_with fail
       go_roundw
       case rel=>exact ⟨j+1,by go_num,by omega,by rw [HNX.out];exact HU.out⟩
       case measure=>simp [Go.RowKit.intOf];omega
      ·have e1:((j:Int)==(q:Int))=false:=by simp;omega
       have e1b:(j==q)=false:=by simp [hjq]
       have HNX:Hid (awSends (awCommit1 A k) (awTo A q (⟨(q:Int),t1,t2,t3,t4,t5,t6,t7,tws⟩:TxP) (j+1))=awSend (awSends (awCommit1 A k) (awTo A q (⟨(q:Int),t1,t2,t3,t4,t5,t6,t7,tws⟩:TxP) j)) ⟨j,⟨(q:Int),t1,t2,t3,t4,t5,t6,t7,tws⟩,0,0,0,0,0⟩):=hidp (by rw [awTo_succ,if_pos hjq,awSends_app])
       clear hjq HU
       generalize awSend (awSends (awCommit1 A k) (awTo A q (⟨(q:Int),t1,t2,t3,t4,t5,t6,t7,tws⟩:TxP) j)) ⟨j,⟨(q:Int),t1,t2,t3,t4,t5,t6,t7,tws⟩,0,0,0,0,0⟩=AN at *
       go_wp2_with fail
       go_at_call 147
       refine (HSD.out _ zB).mono ?_
       rintro e w7 ⟨rfl,hU2⟩
       have HU2:=hidp hU2
       clear hU2 HSD HBS
       go_wp2_with fail
       go_roundw
       case rel=>exact ⟨j+1,by go_num,by omega,by rw [HNX.out];exact HU2.out⟩
       case measure=>simp [Go.RowKit.intOf];omega
     ·obtain rfl:j=S:=by omega
      have hjd:decide ((j:Int)<(j:Int))=false:=decide_eq_false (by omega)
      have hx4:=l1.box (i:=n) (by omega) ((l3 n (by omega) (by have:=HN16.out;omega)).trans HO0.out)
      have x0:=cell_blk hx4 0;have x1:=cell_blk hx4 1;have x2:=cell_blk hx4 2;have x3:=cell_blk hx4 3;have x4:=cell_blk hx4 4;have x5:=cell_blk hx4 5;have x6:=cell_blk hx4 6;have x7:=cell_blk hx4 7;have x8:=cell_blk hx4 8
      have f0:=frozen_blk hx4 0;have f1:=frozen_blk hx4 1;have f2:=frozen_blk hx4 2;have f3:=frozen_blk hx4 3;have f4:=frozen_blk hx4 4;have f5:=frozen_blk hx4 5;have f6:=frozen_blk hx4 6;have f7:=frozen_blk hx4 7;have f8:=frozen_blk hx4 8
      simp only [zC,zD,zE] at x0 x1 x2 x3 x4 x5 x6 x7 x8
      haveI:SzGe (w.heap.size+1) wr:=⟨lt_blk hx4⟩
      have HF:=hidp (Cm_fin (T:=(⟨(q:Int),t1,t2,t3,t4,t5,t6,t7,tws⟩:TxP)) (v:=v) (AA:=awSends (awCommit1 A k) (awTo A q (⟨(q:Int),t1,t2,t3,t4,t5,t6,t7,tws⟩:TxP) j)) l1 (by omega) HN16.out ((l3 n (by omega) (by have:=HN16.out;omega)).trans HO0.out) ((l3 (n+1) (by omega) (by have:=HN16.out;omega)).trans HO1.out) ⟨v4,l2,ex,eu⟩ (fun i hi hne=>(l3 i (by omega) hne).trans (HKO.out i hi hne)) (.int .i64 (q:Int)) (.int .i64 t1) (.int .i64 t2) (.int .i64 t3) (.int .i64 t4) (.int .i64 t5) (.int .i64 t6) (.int .i64 t7) (.slice A1 tws.length c1))
      unfold put9 at HF
      clear hx9 hx4 l1 l2 l3 ex eu hjS hj HU
      go_wp2_with fail
      refine bodyPost_ret (v:=.tuple #[.agg #[.int .i64 (q:Int),.int .i64 t1,.int .i64 t2,.int .i64 t3,.int .i64 t4,.int .i64 t5,.int .i64 t6,.int .i64 t7,.slice A1 tws.length c1],.nilIface]) ?_ rfl ⟨A1,c1,rfl,by rw [HCM2.out];exact HF.out⟩
      simp [results,Tryz.results102,go_sem,x0,x1,x2,x3,x4,x5,x6,x7,x8]
   ·have ds:decide (0<t1)=false:=decide_eq_false hs
    have HCM2:Hid (awCommit A k=(awCommit1 A k)):=hidp (by rw [HCM.out,if_neg (fun e=>hs (by have:=e.2;rw [←HT1.out] at this;exact this))])
    have HF:=hidp (Cm_fin (T:=(⟨t0,t1,t2,t3,t4,t5,t6,t7,tws⟩:TxP)) (v:=v) (AA:=(awCommit1 A k)) K1.out (by omega) HN16.out K3.out K4.out K2.out.a K6.out (.int .i64 t0) (.int .i64 t1) (.int .i64 t2) (.int .i64 t3) (.int .i64 t4) (.int .i64 t5) (.int .i64 t6) (.int .i64 t7) (.slice A1 tws.length c1))
    unfold put9 at HF
    clear HRT HCM hs HT1 K1 K2 K3 K4 K5 K6 HWS
    go_wp2_with fail
    refine bodyPost_ret (v:=.tuple #[.agg #[.int .i64 t0,.int .i64 t1,.int .i64 t2,.int .i64 t3,.int .i64 t4,.int .i64 t5,.int .i64 t6,.int .i64 t7,.slice A1 tws.length c1],.nilIface]) ?_ rfl ⟨A1,c1,rfl,by rw [HCM2.out];exact HF.out⟩
    simp [results,Tryz.results102,go_sem,x0,x1,x2,x3,x4,x5,x6,x7,x8]
  ·have he:errV z=.iface 29 (.int .i64 z):=by unfold errV;rw [if_neg hz0]
   have HCM2:Hid (awCommit A k=(awCommit1 A k)):=hidp (by rw [HCM.out,if_neg (fun e=>hz0 e.1)])
   have HTZ:=HTW.out hz0
   unfold txZP at HTZ
   simp only [TxP.mk.injEq] at HTZ
   obtain ⟨rfl,rfl,rfl,rfl,rfl,rfl,rfl,rfl,rfl⟩:=HTZ
   have HF:=hidp ((Cm_fin (T:=⟨0,0,0,0,0,0,0,0,[]⟩) (v:=v) (AA:=(awCommit1 A k)) K1.out (by omega) HN16.out K3.out K4.out K2.out.a K6.out (.int .i64 0) (.int .i64 0) (.int .i64 0) (.int .i64 0) (.int .i64 0) (.int .i64 0) (.int .i64 0) (.int .i64 0) (.slice none 0 0)).none HN16.out)
   unfold put9 at HF
   rw [he]
   clear HRT HCM hz0 HTW HTE K1 K2 K3 K4 K5 K6 HWS
   have HE0:=hidp he
   clear he
   go_wp2_with fail
   refine bodyPost_ret (v:=.tuple #[.agg #[.int .i64 0,.int .i64 0,.int .i64 0,.int .i64 0,.int .i64 0,.int .i64 0,.int .i64 0,.int .i64 0,.slice none 0 0],.iface 29 (.int .i64 z)]) ?_ rfl ⟨none,0,by rw [HE0.out];rfl,by rw [HCM2.out];exact HF.out⟩
   simp [results,Tryz.results102,go_sem,x0,x1,x2,x3,x4,x5,x6,x7,x8]
end
end Go.Proofs.YtbopfhbeegkkaabGreatDoor
