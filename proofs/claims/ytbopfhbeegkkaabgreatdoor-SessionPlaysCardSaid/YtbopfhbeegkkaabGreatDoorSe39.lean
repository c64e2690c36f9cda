/- Part 39 of a proof: lemmas and contracts that other parts use. -/
import Derived.Test.YtbopfhbeegkkaabGreatDoorSe38
set_option linter.unusedVariables false
set_option linter.unusedSimpArgs false
set_option linter.constructorNameAsVariable false
namespace Go.Proofs.YtbopfhbeegkkaabGreatDoor
open Go.RowKit
theorem obWs_none {w0 w:World} {n:Nat} {O:Nat→Ob} (h:Mem w0 w n O):∃ O',Mem w0 w (n+1) O'∧(∀ k,k<n→O' k=O k)∧O' n=obWs none []:=
 h.lend1 (obWs_ok ..) ⟨fun i x hx=>(by simp at hx),fun b o e=>(by cases e)⟩ (fun b e=>e) (fun b k hk ⟨o,e⟩=>(by cases e))
theorem SneA.commit {w0 w:World} {n:Nat} {O:Nat→Ob} (h:Mem w0 w n O) {i j x u:Nat} {a:RSi} {d:SdP} (hi:i<n) (hj:j<n) (hij:i≠j) (hr:SteA w0.heap.size x a (O i)) (hd:SneA w0.heap.size u d (O j)) (now:Int):
  Calls Tryz.prog 45 #[.pointer (some ⟨u,0,none⟩),.pointer (some ⟨x,0,none⟩),.int .i64 now] w fun e w'=>
   (dCommitE d a now≠0→e=.returned (.tuple #[txZero,errV (dCommitE d a now)])∧Below w.heap.size w w')∧
   (dCommitE d a now=0→∃ A' c',e=.returned (.tuple #[MTx.val ⟨dCommitT d a now,A',c'⟩,.nilIface])∧
     ∃ O',Mem w0 w' (n+1) O'∧O' n=obWs A' (dCommitT d a now).ws∧SteA w0.heap.size x (dCommitS d a now) (O' i)∧SneA w0.heap.size u (dCommitD d a now) (O' j)∧∀ k,k<n→k≠i→k≠j→O' k=O k):=by
 cases ho:d.op with
 | false=>
   have hE:dCommitE d a now=6:=by unfold dCommitE;rw [if_pos ho]
   obtain ⟨s,mv,hou,hs⟩:=hd
   have hat:=h.at_ j hj
   rw [hou] at hat
   refine (sCommit_shut (x:=x) hat now (by rw [hs.rep.op];exact ho)).mono ?_
   rintro e w' ⟨rfl,hb⟩
   rw [hE]
   exact ⟨fun _=>⟨rfl,hb⟩,fun e=>(by cases e)⟩
 | true=>
   by_cases hl:dCommitL d=[]
   ·have hE:dCommitE d a now=0:=by unfold dCommitE;rw [if_neg (by rw [ho];simp),if_pos hl]
    have hT:dCommitT d a now=txZP:=by unfold dCommitT;rw [if_pos hl]
    have hS:dCommitS d a now=a:=by unfold dCommitS;rw [if_pos hl]
    have hD:dCommitD d a now=sdAbort d:=by unfold dCommitD;rw [if_pos hl]
    rw [hE,hT,hS,hD]
    refine (sCommit_none (x:=x) h hj hd now ho hl).mono ?_
    rintro e w' ⟨rfl,O1,h1,h2,h3⟩
    refine ⟨fun e=>absurd rfl e,fun _=>⟨none,0,rfl,?_⟩⟩
    obtain ⟨O2,k1,k2,k3⟩:=obWs_none h1
    exact ⟨O2,k1,k3,by rw [k2 i hi,h3 i hi hij];exact hr,by rw [k2 j hj];exact h2,fun k hk e1 e2=>(k2 k hk).trans (h3 k hk e2)⟩
   ·have hE:dCommitE d a now=rCommitE a now d.n0 d.n1 d.n2 d.n3 (dCommitL d):=by unfold dCommitE;rw [if_neg (by rw [ho];simp),if_neg hl]
    have hT:dCommitT d a now=rCommitT a now d.n0 d.n1 d.n2 d.n3 (dCommitL d):=by unfold dCommitT;rw [if_neg hl]
    have hS:dCommitS d a now=rApply a (dCommitT d a now):=by unfold dCommitS;rw [if_neg hl]
    have hD:dCommitD d a now=sdAt (sdAbort d) (dCommitT d a now).site (dCommitT d a now).seq:=by unfold dCommitD;rw [if_neg hl]
    have hid:0≤a.id∧a.id<4:=by
     obtain ⟨mb,s,lv,sv,_,hf,_⟩:=hr
     rw [←hf.rep.id];exact hf.inv.id
    rw [hS,hD]
    refine (sCommit_some h hi hj hij hr hd now ho hl _ hE.symm _ hT.symm (by rw [hT];exact hid)).mono ?_
    rintro e w' ⟨g1,g2⟩
    exact ⟨g1,fun h=>by obtain ⟨b',c',h1⟩:=g2 h;exact ⟨_,c',h1⟩⟩
theorem SdeA.commit {w0 w:World} {n:Nat} {O:Nat→Ob} (h:Mem w0 w n O) {i j y v:Nat} {a:RSi} {d:SdP} (hi:i<n) (hj:j<n) (hij:i≠j) (hr:RteA w0.heap.size y a (O i)) (hd:SdeA w0.heap.size v d (O j)) (hn:d.W.length≤900) (now:Int):
  Calls Tryz.prog 44 #[.pointer (some ⟨v,0,none⟩),.pointer (some ⟨y,0,none⟩),.int .i64 now] w fun e w'=>
   (dCommitE d a now≠0→e=.returned (.tuple #[txZero,.int .i64 (dCommitE d a now)])∧Below w.heap.size w w')∧
   (dCommitE d a now=0→∃ A' c',e=.returned (.tuple #[MTx.val ⟨dCommitT d a now,A',c'⟩,.int .i64 0])∧
     ∃ O',Mem w0 w' (n+1) O'∧O' n=obWs A' (dCommitT d a now).ws∧RteA w0.heap.size y (dCommitS d a now) (O' i)∧SdeA w0.heap.size v (dCommitD d a now) (O' j)∧∀ k,k<n→k≠i→k≠j→O' k=O k):=by
 cases ho:d.op with
 | false=>
   have hE:dCommitE d a now=6:=by unfold dCommitE;rw [if_pos ho]
   obtain ⟨wv,hov,s,hs⟩:=hd
   have hat:=h.at_ j hj
   rw [hov] at hat
   refine (rSCommit_shut w0.heap.size v y d wv now w hat ho).mono ?_
   rintro e w' ⟨rfl,hb⟩
   rw [hE]
   exact ⟨fun _=>⟨rfl,hb⟩,fun e=>(by cases e)⟩
 | true=>
   by_cases hl:dCommitL d=[]
   ·have hE:dCommitE d a now=0:=by unfold dCommitE;rw [if_neg (by rw [ho];simp),if_pos hl]
    have hT:dCommitT d a now=txZP:=by unfold dCommitT;rw [if_pos hl]
    have hS:dCommitS d a now=a:=by unfold dCommitS;rw [if_pos hl]
    have hD:dCommitD d a now=sdAbort d:=by unfold dCommitD;rw [if_pos hl]
    rw [hE,hT,hS,hD]
    obtain ⟨wv,hov,s,hs⟩:=hd
    have hat:=h.at_ j hj
    rw [hov] at hat
    refine (rSCommit_none w0.heap.size v y d wv now w hat ho hn hl hs.qn.1).mono ?_
    rintro e w' ⟨rfl,hs',hf⟩
    obtain ⟨O1,h1,h2,h3⟩:=h.step1 hj (o:=obD w0.heap.size v (sdAbort d) (.slice none 0 0)) (obD_ok ..) hs' (by rw [hov];exact hf) (fun b e=>e.elim)
    refine ⟨fun e=>absurd rfl e,fun _=>⟨none,0,rfl,?_⟩⟩
    obtain ⟨O2,k1,k2,k3⟩:=obWs_none h1
    exact ⟨O2,k1,k3,by rw [k2 i hi,h3 i hij];exact hr,by rw [k2 j hj,h2];exact ⟨_,rfl,_,hs.abort⟩,fun k hk e1 e2=>(k2 k hk).trans (h3 k e2)⟩
   ·have hE:dCommitE d a now=rCommitE a now d.n0 d.n1 d.n2 d.n3 (dCommitL d):=by unfold dCommitE;rw [if_neg (by rw [ho];simp),if_neg hl]
    have hT:dCommitT d a now=rCommitT a now d.n0 d.n1 d.n2 d.n3 (dCommitL d):=by unfold dCommitT;rw [if_neg hl]
    have hS:dCommitS d a now=rApply a (dCommitT d a now):=by unfold dCommitS;rw [if_neg hl]
    have hD:dCommitD d a now=sdAt (sdAbort d) (dCommitT d a now).site (dCommitT d a now).seq:=by unfold dCommitD;rw [if_neg hl]
    have hid:0≤a.id∧a.id<4:=by
     obtain ⟨r,lr,wA,wc,av,_,⟨s,hf⟩,_,_⟩:=hr
     rw [←hf.rep.id];exact hf.inv.id
    rw [hS,hD]
    refine (dCommit_some h hi hj hij hr hd hn now ho hl _ hE.symm _ hT.symm (by rw [hT];exact hid)).mono ?_
    rintro e w' ⟨g1,g2⟩
    exact ⟨g1,fun h=>by obtain ⟨b',c',h1⟩:=g2 h;exact ⟨_,c',h1⟩⟩
structure Lp where
 x:Nat→Nat
 y:Nat→Nat
 u:Nat
 v:Nat
 p:Nat
 q:Nat
 a:Nat→RSi
 b:Nat→RSi
 d:SdP
 e:SdP
def aset (f:Nat→RSi) (k:Nat) (r:RSi):Nat→RSi:=fun i=>if i=k then r else f i
theorem aset_same (f:Nat→RSi) (k:Nat) (r:RSi):aset f k r k=r:=if_pos rfl
theorem aset_ne (f:Nat→RSi) {k i:Nat} (r:RSi) (h:i≠k):aset f k r i=f i:=if_neg h
def pp (x:Nat):Value:=.pointer (some ⟨x,0,none⟩)
structure LSt (w0 w:World) (L:Lp) (n:Nat) (O:Nat→Ob):Prop where
 mem:Mem w0 w n O
 n8:8≤n
 s:∀ k,k<2→SteA w0.heap.size (L.x k) (L.a k) (O k)
 r:∀ k,k<2→RteA w0.heap.size (L.y k) (L.b k) (O (2+k))
 sn:SneA w0.heap.size L.u L.d (O 4)
 sd:SdeA w0.heap.size L.v L.e (O 5)
 bp:O 6=obB L.p (.cells #[pp (L.x 0),pp (L.x 1)] 80) w0.heap.size
 bq:O 7=obB L.q (.cells #[pp (L.y 0),pp (L.y 1)] 81) w0.heap.size
section
variable {w0 w w':World} {L:Lp} {n:Nat} {O O':Nat→Ob}
theorem LSt.keep (h:LSt w0 w L n O) {m:Nat} (hm:Mem w0 w' m O') (hn:8≤m) (he:∀ k,k<8→O' k=O k):LSt w0 w' L m O':=
 ⟨hm,hn,fun k hk=>by rw [he k (by omega)];exact h.s k hk,fun k hk=>by rw [he _ (by omega)];exact h.r k hk,by rw [he 4 (by omega)];exact h.sn,by rw [he 5 (by omega)];exact h.sd,by rw [he 6 (by omega)];exact h.bp,by rw [he 7 (by omega)];exact h.bq⟩
theorem LSt.setD (h:LSt w0 w L n O) {m:Nat} (hm:Mem w0 w' m O') (hn:8≤m) {d:SdP} (hd:SneA w0.heap.size L.u d (O' 4)) (he:∀ k,k<8→k≠4→O' k=O k):LSt w0 w' { L with d:=d } m O':=
 ⟨hm,hn,fun k hk=>by rw [he k (by omega) (by omega)];exact h.s k hk,fun k hk=>by rw [he _ (by omega) (by omega)];exact h.r k hk,hd,by rw [he 5 (by omega) (by omega)];exact h.sd,by rw [he 6 (by omega) (by omega)];exact h.bp,by rw [he 7 (by omega) (by omega)];exact h.bq⟩
theorem LSt.setE (h:LSt w0 w L n O) {m:Nat} (hm:Mem w0 w' m O') (hn:8≤m) {e:SdP} (hd:SdeA w0.heap.size L.v e (O' 5)) (he:∀ k,k<8→k≠5→O' k=O k):LSt w0 w' { L with e:=e } m O':=
 ⟨hm,hn,fun k hk=>by rw [he k (by omega) (by omega)];exact h.s k hk,fun k hk=>by rw [he _ (by omega) (by omega)];exact h.r k hk,by rw [he 4 (by omega) (by omega)];exact h.sn,hd,by rw [he 6 (by omega) (by omega)];exact h.bp,by rw [he 7 (by omega) (by omega)];exact h.bq⟩
theorem LSt.setA (h:LSt w0 w L n O) {m:Nat} (hm:Mem w0 w' m O') (hn:8≤m) {j:Nat} {a:RSi} (hj:j<2) (hd:SteA w0.heap.size (L.x j) a (O' j)) (he:∀ k,k<8→k≠j→O' k=O k):LSt w0 w' { L with a:=aset L.a j a } m O':=by
 refine ⟨hm,hn,fun k hk=>?_,fun k hk=>by rw [he _ (by omega) (by omega)];exact h.r k hk,by rw [he 4 (by omega) (by omega)];exact h.sn,by rw [he 5 (by omega) (by omega)];exact h.sd,by rw [he 6 (by omega) (by omega)];exact h.bp,by rw [he 7 (by omega) (by omega)];exact h.bq⟩
 by_cases e:k=j
 ·subst e;simp only [aset_same];exact hd
 ·simp only [aset_ne _ _ e];rw [he k (by omega) e];exact h.s k hk
theorem LSt.setB (h:LSt w0 w L n O) {m:Nat} (hm:Mem w0 w' m O') (hn:8≤m) {j:Nat} {a:RSi} (hj:j<2) (hd:RteA w0.heap.size (L.y j) a (O' (2+j))) (he:∀ k,k<8→k≠2+j→O' k=O k):LSt w0 w' { L with b:=aset L.b j a } m O':=by
 refine ⟨hm,hn,fun k hk=>by rw [he k (by omega) (by omega)];exact h.s k hk,fun k hk=>?_,by rw [he 4 (by omega) (by omega)];exact h.sn,by rw [he 5 (by omega) (by omega)];exact h.sd,by rw [he 6 (by omega) (by omega)];exact h.bp,by rw [he 7 (by omega) (by omega)];exact h.bq⟩
 by_cases e:k=j
 ·subst e;simp only [aset_same];exact hd
 ·simp only [aset_ne _ _ e];rw [he _ (by omega) (by omega)];exact h.r k hk
end
def LE (w0 w:World) (L:Lp) (E:List Ob):Prop:=∃ O,LSt w0 w L (8+E.length) O∧∀ i o,E[i]?=some o→O (8+i)=o
section
variable {w0 w w':World} {L:Lp} {E:List Ob}
theorem LE.low (h:LE w0 w L E):Below w0.heap.size w0 w:=by obtain ⟨O,hs,_⟩:=h;exact hs.mem.low
theorem LE.below (h:LE w0 w L E) (hb:Below w.heap.size w w'):LE w0 w' L E:=by
 obtain ⟨O,hs,hE⟩:=h
 exact ⟨O,hs.keep (hs.mem.below hb) hs.n8 (fun _ _=>rfl),hE⟩
theorem LE.nil (h:LE w0 w L E):LE w0 w L []:=by
 obtain ⟨O,hs,hE⟩:=h
 exact ⟨O,hs.keep (hs.mem.less (by simp)) (by simp) (fun _ _=>rfl),fun i o e=>by simp at e⟩
theorem snoc_at {α:Type} {l:List α} {a:α} {i:Nat} {o:α} (h:(l++[a])[i]?=some o):l[i]?=some o∨(i=l.length∧o=a):=by
 rcases Nat.lt_trichotomy i l.length with h1 | h1 | h1
 ·rw [List.getElem?_append_left h1] at h;exact .inl h
 ·subst h1;simp at h;exact .inr ⟨rfl,h.symm⟩
 ·rw [List.getElem?_eq_none (by simp;omega)] at h;cases h
theorem LE.snoc {O O2:Nat→Ob} (hE:∀ i o,E[i]?=some o→O (8+i)=o) {o:Ob} (h2:∀ k,k<8+E.length→8≤k→O2 k=O k) (h3:O2 (8+E.length)=o):∀ i o',(E++[o])[i]?=some o'→O2 (8+i)=o':=fun i o' he=>by
 rcases snoc_at he with h | ⟨rfl,rfl⟩
 ·have:i<E.length:=by
   rcases Nat.lt_or_ge i E.length with h1 | h1
   ·exact h1
   ·rw [List.getElem?_eq_none h1] at h;cases h
  rw [h2 _ (by omega) (by omega)];exact hE i o' h
 ·exact h3
theorem LE.push (h:LE w0 w L E) (o:Obj):LE w0 (w.alloc o) L (E++[obB w.heap.size o w0.heap.size]):=by
 obtain ⟨O,hs,hE⟩:=h
 obtain ⟨O2,h1,h2,h3⟩:=hs.mem.new1 o
 have e:8+(E++[obB w.heap.size o w0.heap.size]).length=8+E.length+1:=by simp;omega
 exact ⟨O2,hs.keep (e ▸ h1) (by simp) (fun k hk=>h2 k (by omega)),LE.snoc hE (fun k hk _=>h2 k hk) h3⟩
theorem LE.box (h:LE w0 w L E) {i b:Nat} {o:Obj} (hi:E[i]?=some (obB b o w0.heap.size)):w.heap[b]?=some o:=by
 obtain ⟨O,hs,hE⟩:=h
 have:i<E.length:=by
  rcases Nat.lt_or_ge i E.length with h1 | h1
  ·exact h1
  ·rw [List.getElem?_eq_none h1] at hi;cases hi
 exact hs.mem.box (by omega) (hE i _ hi)
theorem LE.ws (h:LE w0 w L E) {i:Nat} {A:Option Addr} {ws:List WrP} (hi:E[i]?=some (obWs A ws)):WsAt w A ws:=by
 obtain ⟨O,hs,hE⟩:=h
 have:i<E.length:=by
  rcases Nat.lt_or_ge i E.length with h1 | h1
  ·exact h1
  ·rw [List.getElem?_eq_none h1] at hi;cases hi
 have:=hs.mem.at_ (8+i) (by omega)
 rw [hE i _ hi] at this
 exact this.1
theorem LE.bp (h:LE w0 w L E):w.heap[L.p]?=some (.cells #[pp (L.x 0),pp (L.x 1)] 80):=by
 obtain ⟨O,hs,hE⟩:=h;exact hs.mem.box (by have:=hs.n8;omega) hs.bp
theorem LE.bq (h:LE w0 w L E):w.heap[L.q]?=some (.cells #[pp (L.y 0),pp (L.y 1)] 81):=by
 obtain ⟨O,hs,hE⟩:=h;exact hs.mem.box (by have:=hs.n8;omega) hs.bq
theorem LE.bv (h:LE w0 w L E):∃ wv,w.heap[L.v]?=some (.cells #[.int .i64 L.e.q0,.int .i64 L.e.q1,.int .i64 L.e.q2,.int .i64 L.e.q3,.int .i64 L.e.n0,.int .i64 L.e.n1,.int .i64 L.e.n2,.int .i64 L.e.n3,.bool L.e.op,wv] 79):=by
 obtain ⟨O,hs,hE⟩:=h;exact hs.sd.cells (hs.mem.at_ 5 (by have:=hs.n8;omega))
theorem LE.sBegin (h:LE w0 w L E) {k:Nat} (hk:k<2):
  Calls Tryz.prog 38 #[.pointer (some ⟨L.u,0,none⟩),.pointer (some ⟨L.x k,0,none⟩)] w fun e w'=>e=.returned (errV (sdBeginE L.d (L.a k).p0 (L.a k).p1 (L.a k).p2 (L.a k).p3))∧LE w0 w' { L with d:=dBegin L.d (L.a k).p0 (L.a k).p1 (L.a k).p2 (L.a k).p3 } E:=by
 obtain ⟨O,hs,hE⟩:=h
 have hn:=hs.n8
 refine (hs.sn.begin_ (hs.mem.at_ 4 (by omega)) (L.x k) _ _ _ _ fun W hb=>(hs.s k hk).applied (hs.mem.at_below (by omega) hb)).mono ?_
 rintro e w' ⟨rfl,hu⟩
 obtain ⟨O',h1,h2,h3⟩:=hs.mem.upd (by omega) hu (fun o' h=>h.ok)
 exact ⟨rfl,O',hs.setD h1 hn h2 (fun k _ hk=>h3 k hk),fun i o e=>by rw [h3 _ (by omega)];exact hE i o e⟩
theorem LE.dBegin (h:LE w0 w L E) {k:Nat} (hk:k<2):
  Calls Tryz.prog 39 #[.pointer (some ⟨L.v,0,none⟩),.pointer (some ⟨L.y k,0,none⟩)] w fun e w'=>e=.returned (.int .i64 (sdBeginE L.e (L.b k).p0 (L.b k).p1 (L.b k).p2 (L.b k).p3))∧LE w0 w' { L with e:=dBegin L.e (L.b k).p0 (L.b k).p1 (L.b k).p2 (L.b k).p3 } E:=by
 obtain ⟨O,hs,hE⟩:=h
 have hn:=hs.n8
 have hc:=(hs.r k hk).cells (hs.mem.at_ (2+k) (by omega))
 refine (hs.sd.begin_ (hs.mem.at_ 5 (by omega)) (L.y k) _ _ _ _ hc.1 ⟨hc.2.2.1,hc.2.2.2.1,hc.2.2.2.2.1,hc.2.2.2.2.2.1⟩).mono ?_
 rintro e w' ⟨rfl,hu⟩
 obtain ⟨O',h1,h2,h3⟩:=hs.mem.upd (by omega) hu (fun o' h=>h.ok)
 exact ⟨rfl,O',hs.setE h1 hn h2 (fun k _ hk=>h3 k hk),fun i o e=>by rw [h3 _ (by omega)];exact hE i o e⟩
theorem LE.sAbort (h:LE w0 w L E):
  Calls Tryz.prog 46 #[.pointer (some ⟨L.u,0,none⟩)] w fun e w'=>e=.returned (errV (dAbortE L.d))∧LE w0 w' { L with d:=dAbort L.d } E:=by
 obtain ⟨O,hs,hE⟩:=h
 have hn:=hs.n8
 refine (hs.sn.abort (hs.mem.at_ 4 (by omega))).mono ?_
 rintro e w' ⟨rfl,hu⟩
 obtain ⟨O',h1,h2,h3⟩:=hs.mem.upd (by omega) hu (fun o' h=>h.ok)
 exact ⟨rfl,O',hs.setD h1 hn h2 (fun k _ hk=>h3 k hk),fun i o e=>by rw [h3 _ (by omega)];exact hE i o e⟩
theorem LE.dAbort (h:LE w0 w L E):
  Calls Tryz.prog 47 #[.pointer (some ⟨L.v,0,none⟩)] w fun e w'=>e=.returned (.int .i64 (dAbortE L.e))∧LE w0 w' { L with e:=dAbort L.e } E:=by
 obtain ⟨O,hs,hE⟩:=h
 have hn:=hs.n8
 refine (hs.sd.abort (hs.mem.at_ 5 (by omega))).mono ?_
 rintro e w' ⟨rfl,hu⟩
 obtain ⟨O',h1,h2,h3⟩:=hs.mem.upd (by omega) hu (fun o' h=>h.ok)
 exact ⟨rfl,O',hs.setE h1 hn h2 (fun k _ hk=>h3 k hk),fun i o e=>by rw [h3 _ (by omega)];exact hE i o e⟩
theorem LE.sWrite (h:LE w0 w L E) (t:WrP):
  Calls Tryz.prog 42 #[.pointer (some ⟨L.u,0,none⟩),t.val] w fun e w'=>e=.returned (errV (sdWriteE L.d t))∧LE w0 w' { L with d:=dWrite L.d t } E:=by
 obtain ⟨O,hs,hE⟩:=h
 have hn:=hs.n8
 refine (hs.sn.write (hs.mem.at_ 4 (by omega)) t).mono ?_
 rintro e w' ⟨rfl,hu⟩
 obtain ⟨O',h1,h2,h3⟩:=hs.mem.upd (by omega) hu (fun o' h=>h.ok)
 exact ⟨rfl,O',hs.setD h1 hn h2 (fun k _ hk=>h3 k hk),fun i o e=>by rw [h3 _ (by omega)];exact hE i o e⟩
theorem LE.dWrite (h:LE w0 w L E) (t:WrP) (hw:L.e.W.length≤900):
  Calls Tryz.prog 43 #[.pointer (some ⟨L.v,0,none⟩),t.val] w fun e w'=>e=.returned (.int .i64 (sdWriteE L.e t))∧LE w0 w' { L with e:=dWrite L.e t } E:=by
 obtain ⟨O,hs,hE⟩:=h
 have hn:=hs.n8
 refine (hs.sd.write (hs.mem.at_ 5 (by omega)) t hw).mono ?_
 rintro e w' ⟨rfl,hu⟩
 obtain ⟨O',h1,h2,h3⟩:=hs.mem.upd (by omega) hu (fun o' h=>h.ok)
 exact ⟨rfl,O',hs.setE h1 hn h2 (fun k _ hk=>h3 k hk),fun i o e=>by rw [h3 _ (by omega)];exact hE i o e⟩
theorem LE.sRead (h:LE w0 w L E) {k:Nat} (hk:k<2) (key:Int) (hw:wf64 key):
  Calls Tryz.prog 41 #[.pointer (some ⟨L.u,0,none⟩),.pointer (some ⟨L.x k,0,none⟩),.int .i64 key] w fun e w'=>
   e=.returned (.tuple #[.string (sdRead L.d.op (lastW L.d.W key) (aRead (L.a k) key L.d.n0 L.d.n1 L.d.n2 L.d.n3)).1,errV (sdRead L.d.op (lastW L.d.W key) (aRead (L.a k) key L.d.n0 L.d.n1 L.d.n2 L.d.n3)).2])∧LE w0 w' L E:=by
 obtain ⟨O,hs,hE⟩:=h
 have hn:=hs.n8
 refine (hs.sn.read (hs.mem.at_ 4 (by omega)) (L.x k) key _ hw fun W hb=>(hs.s k hk).read (hs.mem.at_below (by omega) hb) key _ _ _ _).mono ?_
 rintro e w' ⟨rfl,hb⟩
 exact ⟨rfl,LE.below ⟨O,hs,hE⟩ hb⟩
theorem LE.dRead (h:LE w0 w L E) {k:Nat} (hk:k<2) (key:Int) (hw:L.e.W.length≤900):
  Calls Tryz.prog 40 #[.pointer (some ⟨L.v,0,none⟩),.pointer (some ⟨L.y k,0,none⟩),.int .i64 key] w fun e w'=>
   e=.returned (.tuple #[.string (sdRead L.e.op (lastW L.e.W key) (aRead (L.b k) key L.e.n0 L.e.n1 L.e.n2 L.e.n3)).1,.int .i64 (sdRead L.e.op (lastW L.e.W key) (aRead (L.b k) key L.e.n0 L.e.n1 L.e.n2 L.e.n3)).2])∧LE w0 w' L E:=by
 obtain ⟨O,hs,hE⟩:=h
 have hn:=hs.n8
 refine (hs.sd.read (hs.mem.at_ 5 (by omega)) (L.y k) key _ (by omega) fun W hb=>(hs.r k hk).read (hs.mem.at_below (by omega) hb) key _ _ _ _).mono ?_
 rintro e w' ⟨rfl,hb⟩
 exact ⟨rfl,LE.below ⟨O,hs,hE⟩ hb⟩
theorem LE.take (h:LE w0 w L E) {k:Nat} (hk:k<2) (t:TxP) (A:Option Addr) (c:Nat) (hws:WsAt w A t.ws) (hwl:t.ws.length≤1000000) (hfa:wf64 t.site) (hfb:wf64 t.seq):
  Calls Tryz.prog 17 #[.pointer (some ⟨L.x k,0,none⟩),MTx.val ⟨t,A,c⟩] w fun e w'=>e=.returned (errV (rTakeE (L.a k) t))∧LE w0 w' { L with a:=aset L.a k (rTake (L.a k) t) } E:=by
 obtain ⟨O,hs,hE⟩:=h
 have hn:=hs.n8
 refine ((hs.s k hk).take (hs.mem.at_ k (by omega)) t A c hws hwl hfa hfb).mono ?_
 rintro e w' ⟨rfl,hu⟩
 obtain ⟨O',h1,h2,h3⟩:=hs.mem.upd (by omega) hu (fun o' h=>h.ok)
 exact ⟨rfl,O',hs.setA h1 hn hk h2 (fun k _ hk=>h3 k hk),fun i o e=>by rw [h3 _ (by omega)];exact hE i o e⟩
theorem LE.rtake (h:LE w0 w L E) {k:Nat} (hk:k<2) (t:TxP) (A:Option Addr) (c:Nat) (hws:WsAt w A t.ws) (hwl:t.ws.length≤1000000):
  Calls Tryz.prog 18 #[.pointer (some ⟨L.y k,0,none⟩),MTx.val ⟨t,A,c⟩] w fun e w'=>e=.returned (.int .i64 (rTakeE (L.b k) t))∧LE w0 w' { L with b:=aset L.b k (rTake (L.b k) t) } E:=by
 obtain ⟨O,hs,hE⟩:=h
 have hn:=hs.n8
 refine ((hs.r k hk).take (hs.mem.at_ (2+k) (by omega)) t A c hws hwl).mono ?_
 rintro e w' ⟨rfl,hu⟩
 obtain ⟨O',h1,h2,h3⟩:=hs.mem.upd (by omega) hu (fun o' h=>h.ok)
 exact ⟨rfl,O',hs.setB h1 hn hk h2 (fun k _ hk=>h3 k hk),fun i o e=>by rw [h3 _ (by omega)];exact hE i o e⟩
theorem LE.sCommit (h:LE w0 w L E) {k:Nat} (hk:k<2) (now:Int):
  Calls Tryz.prog 45 #[.pointer (some ⟨L.u,0,none⟩),.pointer (some ⟨L.x k,0,none⟩),.int .i64 now] w fun e w'=>
   (dCommitE L.d (L.a k) now≠0→e=.returned (.tuple #[txZero,errV (dCommitE L.d (L.a k) now)])∧LE w0 w' L E)∧
   (dCommitE L.d (L.a k) now=0→∃ A' c',e=.returned (.tuple #[MTx.val ⟨dCommitT L.d (L.a k) now,A',c'⟩,.nilIface])∧
     LE w0 w' { L with a:=aset L.a k (dCommitS L.d (L.a k) now),d:=dCommitD L.d (L.a k) now } (E++[obWs A' (dCommitT L.d (L.a k) now).ws])):=by
 obtain ⟨O,hs,hE⟩:=h
 have hn:=hs.n8
 refine (SneA.commit hs.mem (i:=k) (j:=4) (by omega) (by omega) (by omega) (hs.s k hk) hs.sn now).mono ?_
 rintro e w' ⟨g1,g2⟩
 refine ⟨fun e=>⟨(g1 e).1,LE.below ⟨O,hs,hE⟩ (g1 e).2⟩,fun e=>?_⟩
 obtain ⟨A',c',h0,O',h1,h2,h3,h4,h5⟩:=g2 e
 have e8:8+(E++[obWs A' (dCommitT L.d (L.a k) now).ws]).length=8+E.length+1:=by simp;omega
 rw [←e8] at h1
 have hm8:=h1
 refine ⟨A',c',h0,O',?_,LE.snoc hE (fun k2 hk2 hk8=>h5 k2 hk2 (by omega) (by omega)) h2⟩
 refine ⟨h1,by simp,fun i hi=>?_,fun i hi=>by rw [h5 _ (by omega) (by omega) (by omega)];exact hs.r i hi,h4,by rw [h5 5 (by omega) (by omega) (by omega)];exact hs.sd,by rw [h5 6 (by omega) (by omega) (by omega)];exact hs.bp,by rw [h5 7 (by omega) (by omega) (by omega)];exact hs.bq⟩
 by_cases ei:i=k
 ·subst ei;simp only [aset_same];exact h3
 ·simp only [aset_ne _ _ ei];rw [h5 i (by omega) ei (by omega)];exact hs.s i hi
theorem LE.dCommit (h:LE w0 w L E) {k:Nat} (hk:k<2) (hw:L.e.W.length≤900) (now:Int):
  Calls Tryz.prog 44 #[.pointer (some ⟨L.v,0,none⟩),.pointer (some ⟨L.y k,0,none⟩),.int .i64 now] w fun e w'=>
   (dCommitE L.e (L.b k) now≠0→e=.returned (.tuple #[txZero,.int .i64 (dCommitE L.e (L.b k) now)])∧LE w0 w' L E)∧
   (dCommitE L.e (L.b k) now=0→∃ A' c',e=.returned (.tuple #[MTx.val ⟨dCommitT L.e (L.b k) now,A',c'⟩,.int .i64 0])∧
     LE w0 w' { L with b:=aset L.b k (dCommitS L.e (L.b k) now),e:=dCommitD L.e (L.b k) now } (E++[obWs A' (dCommitT L.e (L.b k) now).ws])):=by
 obtain ⟨O,hs,hE⟩:=h
 have hn:=hs.n8
 refine (SdeA.commit hs.mem (i:=2+k) (j:=5) (by omega) (by omega) (by omega) (hs.r k hk) hs.sd hw now).mono ?_
 rintro e w' ⟨g1,g2⟩
 refine ⟨fun e=>⟨(g1 e).1,LE.below ⟨O,hs,hE⟩ (g1 e).2⟩,fun e=>?_⟩
 obtain ⟨A',c',h0,O',h1,h2,h3,h4,h5⟩:=g2 e
 have e8:8+(E++[obWs A' (dCommitT L.e (L.b k) now).ws]).length=8+E.length+1:=by simp;omega
 rw [←e8] at h1
 refine ⟨A',c',h0,O',?_,LE.snoc hE (fun k2 hk2 hk8=>h5 k2 hk2 (by omega) (by omega)) h2⟩
 refine ⟨h1,by simp,fun i hi=>by rw [h5 i (by omega) (by omega) (by omega)];exact hs.s i hi,fun i hi=>?_,by rw [h5 4 (by omega) (by omega) (by omega)];exact hs.sn,h4,by rw [h5 6 (by omega) (by omega) (by omega)];exact hs.bp,by rw [h5 7 (by omega) (by omega) (by omega)];exact hs.bq⟩
 by_cases ei:i=k
 ·subst ei;simp only [aset_same];exact h3
 ·simp only [aset_ne _ _ ei];rw [h5 _ (by omega) (by omega) (by omega)];exact hs.r i hi
theorem LE.past (h:LE w0 w L E):Calls Tryz.prog 48 #[.pointer (some ⟨L.u,0,none⟩)] w fun e w'=>e=.returned (.agg #[.int .i64 L.d.q0,.int .i64 L.d.q1,.int .i64 L.d.q2,.int .i64 L.d.q3])∧Below w.heap.size w w':=by
 obtain ⟨O,hs,hE⟩:=h
 exact hs.sn.past (hs.mem.at_ 4 (by have:=hs.n8;omega))
theorem LE.snap (h:LE w0 w L E):Calls Tryz.prog 49 #[.pointer (some ⟨L.u,0,none⟩)] w fun e w'=>e=.returned (.agg #[.int .i64 L.d.n0,.int .i64 L.d.n1,.int .i64 L.d.n2,.int .i64 L.d.n3])∧Below w.heap.size w w':=by
 obtain ⟨O,hs,hE⟩:=h
 exact hs.sn.snap (hs.mem.at_ 4 (by have:=hs.n8;omega))
theorem LE.open_ (h:LE w0 w L E):Calls Tryz.prog 50 #[.pointer (some ⟨L.u,0,none⟩)] w fun e w'=>e=.returned (.bool L.d.op)∧Below w.heap.size w w':=by
 obtain ⟨O,hs,hE⟩:=h
 exact hs.sn.open_ (hs.mem.at_ 4 (by have:=hs.n8;omega))
end
end Go.Proofs.YtbopfhbeegkkaabGreatDoor
