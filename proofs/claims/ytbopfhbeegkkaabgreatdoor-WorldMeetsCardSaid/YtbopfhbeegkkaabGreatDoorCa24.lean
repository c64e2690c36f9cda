/- Part 24 of a proof: lemmas and contracts that other parts use. -/
import Derived.Test.YtbopfhbeegkkaabGreatDoorCa23
set_option linter.unusedVariables false
set_option linter.unusedSimpArgs false
namespace Go.Proofs.YtbopfhbeegkkaabGreatDoor
theorem fset_self {α:Type} (f:Nat→α) (k:Nat):fset f k (f k)=f:=by
 funext i;unfold fset;split
 ·rename_i e;rw [e]
 ·rfl
def SdP.sn (d:SdP) (j:Int):Int:=atV d.n0 d.n1 d.n2 d.n3 j
def SdP.ps (d:SdP) (j:Int):Int:=atV d.q0 d.q1 d.q2 d.q3 j
def GmP.hv (g:GmP) (j:Int):Int:=atV g.h0 g.h1 g.h2 g.h3 j
def Clo (T:List TxP) (v:Int→Int):Prop:=∀ t∈T,t.seq≤v t.site→∀ j,t.dep j≤v j
def WayOk (A:AWd) (T:List TxP) (g:GmP):Prop:=g.tgt<A.S∧(0<g.tx.seq→g.tx∈T)∧(¬0<g.tx.seq→g.frm<A.S∧g.frm≠g.tgt∧∀ j,0≤g.hv j∧g.hv j≤(A.si g.frm).at j)
def ClOk (A:AWd) (T:List TxP) (b:Nat→Int→Int) (k:Nat):Prop:=
 A.pl k<A.S∧((A.cl k).op=true→(∀ j,0≤(A.cl k).sn j∧(A.cl k).sn j≤(A.si (A.pl k)).at j)∧(∀ j,b (A.pl k) j≤(A.cl k).sn j)∧Clo T (A.cl k).sn)
structure CInv (A:AWd) (T:List TxP) (b:Nat→Int→Int):Prop where
 t:TInv T
 S:1≤A.S∧A.S≤4
 si:∀ k,k<A.S→SInv T k (A.si k) (b k)∧NoRdy (A.si k)
 site:∀ t∈T,∃ k:Nat,k<A.S∧t.site=(k:Int)∧t.seq≤(A.si k).at (k:Int)
 has:∀ k:Nat,k<A.S→∀ q,1≤q→q≤(A.si k).at (k:Int)→∃ t∈T,t.site=(k:Int)∧t.seq=q
 le:∀ k,k<A.S→∀ j:Nat,j<A.S→(A.si k).at (j:Int)≤(A.si j).at (j:Int)
 out:∀ k,k<A.S→∀ j:Nat,A.S≤j→j<4→(A.si k).at (j:Int)=0
 dle:∀ t∈T,∀ j:Nat,j<A.S→t.dep (j:Int)≤(A.si j).at (j:Int)
 way:∀ g∈A.way,WayOk A T g
 wl:A.way.length≤300
 cl:∀ k,k<A.C→ClOk A T b k
theorem SInv.clo_at {T:List TxP} {k:Nat} {a:RSi} {b:Int→Int} (h:SInv T k a b):Clo T a.at:=fun t ht hq j=>h.cov t (h.mem t ht hq) j
theorem CInv.fresh {S C:Nat} (hS:1≤S∧S≤4):CInv (awNew S C) [] (fun _ _=>0):=by
 have hat:∀ (k:Nat) (j:Int),((awNew S C).si k).at j=0:=fun k j=>by
  unfold RSi.at atV awNew siNew0
  simp
 refine ⟨⟨fun t h=>(by cases h),fun t h=>(by cases h),fun t h=>(by cases h)⟩,hS,fun k hk=>⟨?_,fun t ht=>(by cases ht)⟩,fun t h=>(by cases h),fun k hk q h1 h2=>?_,fun k _ j _=>?_,fun k _ j _ _=>hat k j,fun t h=>(by cases h),fun g hg=>(by cases hg),Nat.zero_le _,fun k hk=>⟨?_,fun h=>(by cases h)⟩⟩
 ·refine ⟨rfl,by have:k<S:=hk;omega,fun t h=>(by cases h),fun t h=>(by cases h),fun t h=>(by cases h),List.nodup_nil,fun t h=>(by cases h),fun l1 t l2 h=>?_,fun t h=>(by cases h),fun t h=>(by cases h),List.nodup_nil,fun t h=>(by cases h),(show rightS 0 0=true from by decide),fun j=>?_,List.Sublist.refl _,fun p h=>(by cases h),fun j=>?_⟩
  ·have:([]:List TxP)=l1++t::l2:=h
   simp at this
  ·rw [hat];exact ⟨Int.le_refl _,by simp⟩
  ·rw [hat];exact Int.le_refl _
 ·rw [hat] at h2;omega
 ·rw [hat,hat];exact Int.le_refl _
 ·show 0<S
  omega
section
variable {A:AWd} {T:List TxP} {b:Nat→Int→Int}
theorem CInv.siteUp (h:CInv A T b) {k:Nat} (hk:k<A.S) {a':RSi} {bk:Int→Int} (hs:SInv T k a' bk) (hn:NoRdy a') (hup:∀ j,(A.si k).at j≤a'.at j)
  (hch:∀ j:Int,0≤j∧j<4→a'.at j=(A.si k).at j∨∃ t∈T,t.site=j∧a'.at j=t.seq)
  (hb:∀ c,c<A.C→A.pl c=k→(A.cl c).op=true→∀ j,bk j≤(A.cl c).sn j):CInv { A with si:=fset A.si k a' } T (fset b k bk):=by
 have hS:=h.S
 have hle:∀ j:Nat,j<A.S→a'.at (j:Int)≤(A.si j).at (j:Int):=fun j hj=>by
  rcases hch (j:Int) (by omega) with e | ⟨t,ht,e1,e2⟩
  ·rw [e];exact h.le k hk j hj
  ·obtain ⟨k',hk',e3,e4⟩:=h.site t ht
   obtain rfl:k'=j:=by omega
   rw [e2];exact e4
 have hown:a'.at (k:Int)=(A.si k).at (k:Int):=Int.le_antisymm (hle k hk) (hup k)
 have hnn:∀ j:Nat,j<A.S→(fset A.si k a' j).at (j:Int)=(A.si j).at (j:Int):=fun j hj=>by
  by_cases e:j=k
  ·subst e;rw [fset_same];exact hown
  ·rw [fset_other _ e]
 have hmono:∀ (i:Nat) (j:Int),(A.si i).at j≤(fset A.si k a' i).at j:=fun i j=>by
  by_cases e:i=k
  ·subst e;rw [fset_same];exact hup j
  ·rw [fset_other _ e];exact Int.le_refl _
 refine ⟨h.t,h.S,fun i hi=>?_,fun t ht=>?_,fun i hi q h1 h2=>?_,fun i hi j hj=>?_,fun i hi j h1 h2=>?_,fun t ht j hj=>?_,fun g hg=>?_,h.wl,fun c hc=>?_⟩
 ·show SInv T i (fset A.si k a' i) (fset b k bk i)∧NoRdy (fset A.si k a' i)
  by_cases e:i=k
  ·subst e;rw [fset_same,fset_same];exact ⟨hs,hn⟩
  ·rw [fset_other _ e,fset_other _ e];exact h.si i hi
 ·obtain ⟨i,hi,e1,e2⟩:=h.site t ht
  exact ⟨i,hi,e1,by show t.seq≤(fset A.si k a' i).at i;rw [hnn i hi];exact e2⟩
 ·have h3:q≤(fset A.si k a' i).at i:=h2
  rw [hnn i hi] at h3
  exact h.has i hi q h1 h3
 ·show (fset A.si k a' i).at j≤(fset A.si k a' j).at j
  rw [hnn j hj]
  by_cases e:i=k
  ·subst e;rw [fset_same];exact hle j hj
  ·rw [fset_other _ e];exact h.le i hi j hj
 ·show (fset A.si k a' i).at j=0
  by_cases e:i=k
  ·subst e;rw [fset_same]
   rcases hch (j:Int) (by omega) with e | ⟨t,ht,e1,e2⟩
   ·rw [e];exact h.out i hi j h1 h2
   ·obtain ⟨k',hk',e3,e4⟩:=h.site t ht
    have h1':A.S≤j:=h1
    omega
  ·rw [fset_other _ e];exact h.out i hi j h1 h2
 ·show t.dep j≤(fset A.si k a' j).at j
  rw [hnn j hj];exact h.dle t ht j hj
 ·obtain ⟨g1,g2,g3⟩:=h.way g hg
  exact ⟨g1,g2,fun e=>⟨(g3 e).1,(g3 e).2.1,fun j=>⟨((g3 e).2.2 j).1,Int.le_trans ((g3 e).2.2 j).2 (hmono _ _)⟩⟩⟩
 ·obtain ⟨c1,c2⟩:=h.cl c hc
  refine ⟨c1,fun ho=>?_⟩
  obtain ⟨c3,c4,c5⟩:=c2 ho
  refine ⟨fun j=>⟨(c3 j).1,Int.le_trans (c3 j).2 (hmono _ _)⟩,fun j=>?_,c5⟩
  show fset b k bk (A.pl c) j≤_
  by_cases e:A.pl c=k
  ·rw [e,fset_same];exact hb c hc e ho j
  ·rw [fset_other _ e];exact c4 j
theorem CInv.take (h:CInv A T b) (hl:T.length<200) {k:Nat} (hk:k<A.S) {t:TxP} (ht:t∈T):CInv (awTake A k t) T b:=by
 obtain ⟨h1,h2⟩:=h.si k hk
 obtain ⟨i1,i2,i3,_,i4⟩:=h1.take h2 h.t hl ht
 have h3:=h.siteUp hk i1 i2 i3 i4 fun c hc e ho j=>by
  have:=((h.cl c hc).2 ho).2.1 j
  rwa [e] at this
 rw [fset_self] at h3
 exact h3
theorem SInv.knows {k:Nat} {a:RSi} {bk:Int→Int} (h:SInv T k a bk) (f:Nat) (h0 h1 h2 h3:Int):SInv T k (rKnows a f h0 h1 h2 h3) bk:=
 ⟨h.id,h.k4,h.sub,h.mem,h.inn,h.nd,h.cov,h.clo,h.wsub,h.wgt,h.wnd,h.last,h.lastR,h.top,h.hsl,h.hdom,h.bap⟩
theorem CInv.knows (h:CInv A T b) {k:Nat} (hk:k<A.S) (f:Nat) (h0 h1 h2 h3:Int):CInv (awKnows A k f h0 h1 h2 h3) T b:=by
 obtain ⟨i1,i2⟩:=h.si k hk
 have h4:=h.siteUp hk (i1.knows f h0 h1 h2 h3) i2 (fun _=>Int.le_refl _) (fun _ _=>.inl rfl) fun c hc e ho j=>by
  have:=((h.cl c hc).2 ho).2.1 j
  rwa [e] at this
 rw [fset_self] at h4
 exact h4
theorem CInv.send (h:CInv A T b) {g:GmP} (hg:WayOk A T g):CInv (awSend A g) T b:=by
 unfold awSend
 split
 ·exact ⟨h.t,h.S,h.si,h.site,h.has,h.le,h.out,h.dle,h.way,h.wl,h.cl⟩
 ·refine ⟨h.t,h.S,h.si,h.site,h.has,h.le,h.out,h.dle,fun g' hg'=>?_,by simp;omega,h.cl⟩
  rcases List.mem_append.1 hg' with e | e
  ·exact h.way g' e
  ·obtain rfl:g'=g:=by simpa using e
   exact hg
theorem WayOk.send {g g':GmP} (h:WayOk A T g):WayOk (awSend A g') T g:=by
 obtain ⟨e1,e2,e3,e4,e5,e6⟩:=awSend_eq A g'
 unfold WayOk
 rw [e1,e3]
 exact h
theorem CInv.sends:∀ (l:List GmP) {A:AWd},CInv A T b→(∀ g∈l,WayOk A T g)→CInv (awSends A l) T b
 | [],A,h,_=>h
 | g::l,A,h,hg=>CInv.sends l (h.send (hg g (List.mem_cons_self ..))) fun g' hg'=>(hg g' (List.mem_cons_of_mem _ hg')).send
theorem CInv.out_ (h:CInv A T b) (i:Nat):CInv (awOut A i) T b:=
 ⟨h.t,h.S,h.si,h.site,h.has,h.le,h.out,h.dle,fun g hg=>h.way g (List.mem_of_mem_eraseIdx hg),by
   have h1:(A.way.eraseIdx i).length≤A.way.length:=by
    rw [List.length_eraseIdx];split <;> omega
   have h2:=h.wl
   show (A.way.eraseIdx i).length≤300
   omega,h.cl⟩
theorem awMiss_ok (h:CInv A T b) {k:Nat} (hk:k<A.S) {f:Nat} (hf:f<A.S) (h0 h1 h2 h3:Int):∀ g∈awMiss (A.si k) f h0 h1 h2 h3,WayOk A T g:=by
 intro g hg
 unfold awMiss aMiss at hg
 obtain ⟨t,ht,rfl⟩:=List.mem_map.1 hg
 have htT:=(h.si k hk).1.sub t (List.mem_filter.1 (List.mem_filter.1 ht).1).1
 have:=(rightTx_parts (h.t.rt t htT)).2.1
 exact ⟨hf,fun _=>htT,fun e=>absurd (show 0<t.seq by omega) e⟩
theorem CInv.comes (h:CInv A T b) (hl:T.length<200) {g:GmP} (hg:WayOk A T g):CInv (awComes A g) T b:=by
 obtain ⟨g1,g2,g3⟩:=hg
 unfold awComes
 split
 ·rename_i hs
  exact h.take hl g1 (g2 hs)
 ·rename_i hs
  obtain ⟨f1,_,f2⟩:=g3 hs
  have hk:=h.knows g1 g.frm g.h0 g.h1 g.h2 g.h3
  refine CInv.sends _ hk fun g' hg'=>?_
  have:=awMiss_ok hk g1 (f:=g.frm) f1 g.h0 g.h1 g.h2 g.h3 g' (by
   show g'∈awMiss (fset A.si g.tgt _ g.tgt) _ _ _ _ _
   rw [fset_same];exact hg')
  exact this
theorem CInv.deliver (h:CInv A T b) (hl:T.length<200) {i:Nat} (hi:i<A.way.length):CInv (awDeliver A i) T b:=by
 unfold awDeliver
 refine (h.out_ i).comes hl ?_
 have:A.way.getD i gmZ=A.way[i]:=by simp [List.getD,List.getElem?_eq_getElem hi]
 rw [this]
 exact h.way _ (List.getElem_mem hi)
theorem CInv.flow (hl:T.length<200):∀ (f:Nat) {A:AWd},CInv A T b→CInv (awFlow f A) T b
 | 0,A,h=>h
 | f+1,A,h=>by
   unfold awFlow
   split
   ·exact h
   ·rename_i g l hw
    exact CInv.flow hl f (h.deliver hl (i:=0) (by rw [hw];simp))
theorem CInv.flows (h:CInv A T b) (hl:T.length<200):CInv (awFlows A) T b:=CInv.flow hl _ h
theorem CInv.ask (h:CInv A T b) {k o:Nat} (hk:k<A.S) (ho:o<A.S) (hne:k≠o):CInv (awAsk A k o) T b:=
 h.send ⟨ho,fun e=>(by simp [awAskG,txZP] at e),fun _=>⟨hk,hne,fun j=>⟨((h.si k hk).1.top j).1,Int.le_refl _⟩⟩⟩
theorem awDeliver_SC (A:AWd) (i:Nat):(awDeliver A i).S=A.S∧(awDeliver A i).C=A.C∧(awDeliver A i).cl=A.cl∧(awDeliver A i).pl=A.pl∧(awDeliver A i).wl=A.wl:=by
 unfold awDeliver awComes
 split
 ·exact ⟨rfl,rfl,rfl,rfl,rfl⟩
 ·obtain ⟨e1,e2,e3,e4,e5,e6⟩:=awSends_eq (awMiss ((awOut A i).si (A.way.getD i gmZ).tgt) (A.way.getD i gmZ).frm (A.way.getD i gmZ).h0 (A.way.getD i gmZ).h1 (A.way.getD i gmZ).h2 (A.way.getD i gmZ).h3) (awKnows (awOut A i) (A.way.getD i gmZ).tgt (A.way.getD i gmZ).frm (A.way.getD i gmZ).h0 (A.way.getD i gmZ).h1 (A.way.getD i gmZ).h2 (A.way.getD i gmZ).h3)
  exact ⟨e1,e2,e5,e6,e4⟩
theorem awFlow_SC:∀ (f:Nat) (A:AWd),(awFlow f A).S=A.S∧(awFlow f A).C=A.C∧(awFlow f A).cl=A.cl∧(awFlow f A).pl=A.pl∧(awFlow f A).wl=A.wl
 | 0,A=>⟨rfl,rfl,rfl,rfl,rfl⟩
 | f+1,A=>by
   unfold awFlow
   split
   ·exact ⟨rfl,rfl,rfl,rfl,rfl⟩
   ·obtain ⟨h1,h2,h3,h4,h5⟩:=awFlow_SC f (awDeliver A 0)
    obtain ⟨g1,g2,g3,g4,g5⟩:=awDeliver_SC A 0
    exact ⟨h1.trans g1,h2.trans g2,h3.trans g3,h4.trans g4,h5.trans g5⟩
theorem awAsk_SC (A:AWd) (k o:Nat):(awAsk A k o).S=A.S∧(awAsk A k o).C=A.C∧(awAsk A k o).cl=A.cl∧(awAsk A k o).pl=A.pl∧(awAsk A k o).wl=A.wl:=by
 obtain ⟨e1,e2,e3,e4,e5,e6⟩:=awSend_eq A (awAskG A k o)
 exact ⟨e1,e2,e5,e6,e4⟩
theorem awCalmO_SC (k:Nat) (A:AWd):∀ o,(awCalmO k A o).S=A.S∧(awCalmO k A o).C=A.C∧(awCalmO k A o).cl=A.cl∧(awCalmO k A o).pl=A.pl∧(awCalmO k A o).wl=A.wl
 | 0=>⟨rfl,rfl,rfl,rfl,rfl⟩
 | o+1=>by
   have ih:=awCalmO_SC k A o
   unfold awCalmO
   split
   ·exact ih
   ·obtain ⟨h1,h2,h3,h4,h5⟩:=awFlow_SC (wayW (awAsk (awCalmO k A o) k o).way) (awAsk (awCalmO k A o) k o)
    obtain ⟨g1,g2,g3,g4,g5⟩:=awAsk_SC (awCalmO k A o) k o
    exact ⟨h1.trans (g1.trans ih.1),h2.trans (g2.trans ih.2.1),h3.trans (g3.trans ih.2.2.1),h4.trans (g4.trans ih.2.2.2.1),h5.trans (g5.trans ih.2.2.2.2)⟩
theorem CInv.calmO (hl:T.length<200) {k:Nat} {A:AWd} {b:Nat→Int→Int} (h:CInv A T b) (hk:k<A.S):∀ o,o≤A.S→CInv (awCalmO k A o) T b
 | 0,_=>h
 | o+1,ho=>by
   have ih:=CInv.calmO hl h hk o (by omega)
   have e:=(awCalmO_SC k A o).1
   unfold awCalmO
   split
   ·exact ih
   ·rename_i hne
    exact (ih.ask (by rw [e];exact hk) (by rw [e];omega) hne).flows hl
theorem awCalmK_SC (A:AWd):∀ k,(awCalmK A k).S=A.S∧(awCalmK A k).C=A.C∧(awCalmK A k).cl=A.cl∧(awCalmK A k).pl=A.pl∧(awCalmK A k).wl=A.wl
 | 0=>⟨rfl,rfl,rfl,rfl,rfl⟩
 | k+1=>by
   have ih:=awCalmK_SC A k
   have h:=awCalmO_SC k (awCalmK A k) A.S
   exact ⟨h.1.trans ih.1,h.2.1.trans ih.2.1,h.2.2.1.trans ih.2.2.1,h.2.2.2.1.trans ih.2.2.2.1,h.2.2.2.2.trans ih.2.2.2.2⟩
theorem CInv.calmK (hl:T.length<200) {A:AWd} {b:Nat→Int→Int} (h:CInv A T b):∀ k,k≤A.S→CInv (awCalmK A k) T b
 | 0,_=>h
 | k+1,hk=>by
   have ih:=CInv.calmK hl h k (by omega)
   have e:=(awCalmK_SC A k).1
   exact CInv.calmO hl ih (by rw [e];omega) A.S (by rw [e];exact Nat.le_refl _)
theorem awCalm_SC (A:AWd):(awCalm A).S=A.S∧(awCalm A).C=A.C∧(awCalm A).cl=A.cl∧(awCalm A).pl=A.pl∧(awCalm A).wl=A.wl:=by
 have h1:=awFlow_SC (wayW A.way) A
 have h2:=awCalmK_SC (awFlows A) A.S
 exact ⟨h2.1.trans h1.1,h2.2.1.trans h1.2.1,h2.2.2.1.trans h1.2.2.1,h2.2.2.2.1.trans h1.2.2.2.1,h2.2.2.2.2.trans h1.2.2.2.2⟩
theorem CInv.calm (h:CInv A T b) (hl:T.length<200):CInv (awCalm A) T b:=by
 have h':=h.flows hl
 have e:=(awFlow_SC (wayW A.way) A).1
 exact CInv.calmK hl h' A.S (by show A.S≤(awFlows A).S;unfold awFlows;rw [e];exact Nat.le_refl _)
theorem CInv.twice (h:CInv A T b) {i:Nat} (hi:i<A.way.length):CInv (awTwice A i) T b:=by
 unfold awTwice
 have:A.way.getD i gmZ=A.way[i]:=by simp [List.getD,List.getElem?_eq_getElem hi]
 rw [this]
 exact h.send (h.way _ (List.getElem_mem hi))
theorem CInv.goes (h:CInv A T b) (k:Nat) (z:Int):CInv (awGoes A k z) T b:=⟨h.t,h.S,h.si,h.site,h.has,h.le,h.out,h.dle,h.way,h.wl,h.cl⟩
theorem CInv.client (h:CInv A T b) {k:Nat} {d:SdP} {p:Nat} (hp:p<A.S) (hd:d.op=true→(∀ j,0≤d.sn j∧d.sn j≤(A.si p).at j)∧(∀ j,b p j≤d.sn j)∧Clo T d.sn):CInv { A with cl:=fset A.cl k d,pl:=fset A.pl k p } T b:=by
 refine ⟨h.t,h.S,h.si,h.site,h.has,h.le,h.out,h.dle,h.way,h.wl,fun c hc=>?_⟩
 unfold ClOk
 show fset A.pl k p c<A.S∧((fset A.cl k d c).op=true→(∀ j,0≤(fset A.cl k d c).sn j∧(fset A.cl k d c).sn j≤(A.si (fset A.pl k p c)).at j)∧(∀ j,b (fset A.pl k p c) j≤(fset A.cl k d c).sn j)∧Clo T (fset A.cl k d c).sn)
 by_cases e:c=k
 ·subst e;rw [fset_same,fset_same];exact ⟨hp,hd⟩
 ·rw [fset_other _ e,fset_other _ e];exact h.cl c hc
theorem CInv.cl_ (h:CInv A T b) {k:Nat} (hk:k<A.C) {d:SdP} (hd:d.op=true→(∀ j,0≤d.sn j∧d.sn j≤(A.si (A.pl k)).at j)∧(∀ j,b (A.pl k) j≤d.sn j)∧Clo T d.sn):CInv { A with cl:=fset A.cl k d } T b:=by
 have:=h.client (k:=k) (d:=d) (p:=A.pl k) (h.cl k hk).1 hd
 rw [fset_self] at this
 exact this
theorem CInv.begin_ (h:CInv A T b) {k:Nat} (hk:k<A.C):CInv (awBegin A k) T b:=by
 refine h.cl_ hk ?_
 unfold dBegin
 split
 ·intro _
  have hs:=(h.si _ (h.cl k hk).1).1
  exact ⟨fun j=>⟨(hs.top j).1,Int.le_refl _⟩,fun j=>hs.bap j,hs.clo_at⟩
 ·intro ho;exact (h.cl k hk).2 ho
theorem CInv.write (h:CInv A T b) {k:Nat} (hk:k<A.C) (x:WrP):CInv (awWrite A k x) T b:=by
 refine h.cl_ hk ?_
 unfold dWrite
 split
 ·intro ho;exact (h.cl k hk).2 ho
 ·intro ho;exact (h.cl k hk).2 ho
theorem CInv.abort (h:CInv A T b) {k:Nat} (hk:k<A.C):CInv (awAbort A k) T b:=by
 refine h.cl_ hk ?_
 unfold dAbort
 split
 ·intro ho;cases ho
 ·intro ho;exact (h.cl k hk).2 ho
theorem CInv.move (h:CInv A T b) {k:Nat} (hk:k<A.C) (tgt:Int):CInv (awMove A k tgt) T b:=by
 unfold awMove
 split
 ·rename_i he
  unfold awMoveE at he
  split at he
  ·cases he
  rename_i h1
  split at he
  ·cases he
  rename_i h2
  have:=h.client (k:=k) (d:=A.cl k) (p:=tgt.toNat) (by omega) (fun ho=>absurd ho h2)
  rw [fset_self] at this
  exact this
 ·exact h
end
section
variable {A:AWd} {T:List TxP} {b:Nat→Int→Int}
def at4 (v:Int×Int×Int×Int) (j:Int):Int:=atV v.1 v.2.1 v.2.2.1 v.2.2.2 j
theorem atV_min (a0 a1 a2 a3 b0 b1 b2 b3 j:Int):atV (min a0 b0) (min a1 b1) (min a2 b2) (min a3 b3) j=min (atV a0 a1 a2 a3 j) (atV b0 b1 b2 b3 j):=by
 unfold atV
 repeat' split
 all_goals rfl
theorem awMin_le (A:AWd) (k:Nat) (v:Int×Int×Int×Int):∀ i,(∀ j,at4 (awMin A k i v) j≤at4 v j)∧∀ c,c<i→A.pl c=k→(A.cl c).op=true→∀ j,at4 (awMin A k i v) j≤(A.cl c).sn j
 | 0=>⟨fun _=>Int.le_refl _,fun c hc=>by omega⟩
 | i+1=>by
   obtain ⟨h1,h2⟩:=awMin_le A k v i
   unfold awMin
   split
   ·rename_i hc
    have e:∀ j,at4 (min (awMin A k i v).1 (A.cl i).n0,min (awMin A k i v).2.1 (A.cl i).n1,min (awMin A k i v).2.2.1 (A.cl i).n2,min (awMin A k i v).2.2.2 (A.cl i).n3) j=min (at4 (awMin A k i v) j) ((A.cl i).sn j):=fun j=>atV_min ..
    refine ⟨fun j=>?_,fun c hci e1 e2 j=>?_⟩
    ·rw [e];have:=h1 j;omega
    ·rw [e]
     by_cases e3:c=i
     ·subst e3;omega
     ·have:=h2 c (by omega) e1 e2 j;omega
   ·rename_i hn
    refine ⟨h1,fun c hci e1 e2 j=>?_⟩
    by_cases e3:c=i
    ·subst e3;exact absurd ⟨e1,e2⟩ hn
    ·exact h2 c (by omega) e1 e2 j
theorem CInv.sweep (h:CInv A T b) {k:Nat} (hk:k<A.S):∃ b',CInv (awSweep A k) T b':=by
 obtain ⟨i1,i2⟩:=h.si k hk
 refine ⟨_,h.siteUp hk (i1.sweep h.t (awSwV A k).1 (awSwV A k).2.1 (awSwV A k).2.2.1 (awSwV A k).2.2.2) i2 (fun _=>Int.le_refl _) (fun _ _=>.inl rfl) fun c hc e ho j=>?_⟩
 have h1:=((h.cl c hc).2 ho).2.1 j
 rw [e] at h1
 have h2:=(awMin_le A k (awStab A k) A.C).2 c hc e ho j
 rw [atV_min]
 have h3:atV (awSwV A k).1 (awSwV A k).2.1 (awSwV A k).2.2.1 (awSwV A k).2.2.2 j=at4 (awMin A k A.C (awStab A k)) j:=rfl
 rw [h3]
 show max (b k j) (min (at4 (awMin A k A.C (awStab A k)) j) _)≤_
 omega
theorem dCommit_op (d:SdP) (s:RSi) (now:Int):(dCommitD d s now).op=false:=by
 unfold dCommitD
 split <;> rfl
theorem awCommit1_none {k:Nat} (he:awCommitE A k=0) (hl:dCommitL (A.cl k)=[]):awCommit1 A k={ A with cl:=fset A.cl k (sdAbort (A.cl k)) }:=by
 unfold awCommit1
 rw [if_pos he]
 unfold dCommitS dCommitD
 rw [if_pos hl,if_pos hl]
 have:fset A.si (A.pl k) (awSe A k)=A.si:=fset_self A.si (A.pl k)
 rw [this]
theorem awCommit_parts {k:Nat} (he:awCommitE A k=0):(A.cl k).op=true∧(dCommitL (A.cl k)≠[]→rCommitE (awSe A k) (A.wl (A.pl k)) (A.cl k).n0 (A.cl k).n1 (A.cl k).n2 (A.cl k).n3 (dCommitL (A.cl k))=0):=by
 unfold awCommitE dCommitE at he
 split at he
 ·cases he
 rename_i h1
 refine ⟨by simpa using h1,fun hl=>?_⟩
 rw [if_neg hl] at he
 exact he
theorem awTo_ok {A':AWd} {T':List TxP} {at_:Nat} {t:TxP} (ht:t∈T') (hq:0<t.seq):∀ g∈awTo A at_ t A'.S,WayOk A' T' g:=by
 intro g hg
 unfold awTo at hg
 obtain ⟨i,hi,rfl⟩:=List.mem_map.1 hg
 exact ⟨List.mem_range.1 (List.mem_filter.1 hi).1,fun _=>ht,fun e=>absurd hq e⟩
theorem Clo.more {v:Int→Int} (h:Clo T v) {t:TxP} (ht:v t.site<t.seq):Clo (T++[t]) v:=by
 intro u hu hq
 rcases List.mem_append.1 hu with e | e
 ·exact h u e hq
 ·obtain rfl:u=t:=by simpa using e
  omega
theorem CInv.commit1 (h:CInv A T b) {k:Nat} (hk:k<A.C) (he:awCommitE A k=0) (hl:dCommitL (A.cl k)≠[]):
  CInv (awCommit1 A k) (T++[awCommitT A k]) b∧(awCommitT A k).site=(A.pl k:Int)∧(awCommitT A k).seq=(awSe A k).at (A.pl k)+1∧0<(awCommitT A k).seq∧(awCommitT A k).ws=dCommitL (A.cl k):=by
 obtain ⟨hop,hE⟩:=awCommit_parts he
 have hE:=hE hl
 obtain ⟨hpl,hcl⟩:=h.cl k hk
 obtain ⟨c1,c2,c3⟩:=hcl hop
 obtain ⟨i1,i2⟩:=h.si _ hpl
 have hT:awCommitT A k=rCommitT (awSe A k) (A.wl (A.pl k)) (A.cl k).n0 (A.cl k).n1 (A.cl k).n2 (A.cl k).n3 (dCommitL (A.cl k)):=by
  unfold awCommitT dCommitT;rw [if_neg hl]
 have hown:∀ u∈T,u.site=(A.pl k:Int)→u.seq≤(A.si (A.pl k)).at (A.pl k):=fun u hu hs=>by
  obtain ⟨k',hk',e1,e2⟩:=h.site u hu
  obtain rfl:k'=A.pl k:=by omega
  exact e2
 obtain ⟨j1,j2,j3⟩:=i1.commit h.t hown hE
 have hid:(awSe A k).id=(A.pl k:Int):=i1.id
 obtain ⟨s1,s2,s3⟩:=commit_site (awSe A k) (A.wl (A.pl k)) (A.cl k).n0 (A.cl k).n1 (A.cl k).n2 (A.cl k).n3 (dCommitL (A.cl k))
 rw [hid] at s1 s2
 have j4:=i2.commit i1 h.t hown (fun u hu=>h.dle u hu _ hpl) s1 s2
 change TInv (T++[rCommitT (awSe A k) (A.wl (A.pl k)) (A.cl k).n0 (A.cl k).n1 (A.cl k).n2 (A.cl k).n3 (dCommitL (A.cl k))]) at j1
 change SInv (T++[rCommitT (awSe A k) (A.wl (A.pl k)) (A.cl k).n0 (A.cl k).n1 (A.cl k).n2 (A.cl k).n3 (dCommitL (A.cl k))]) (A.pl k) (rApply (awSe A k) (rCommitT (awSe A k) (A.wl (A.pl k)) (A.cl k).n0 (A.cl k).n1 (A.cl k).n2 (A.cl k).n3 (dCommitL (A.cl k)))) (b (A.pl k)) at j2
 change ∀ j,(rCommitT (awSe A k) (A.wl (A.pl k)) (A.cl k).n0 (A.cl k).n1 (A.cl k).n2 (A.cl k).n3 (dCommitL (A.cl k))).dep j≤(awSe A k).at j at j3
 change NoRdy (rApply (awSe A k) (rCommitT (awSe A k) (A.wl (A.pl k)) (A.cl k).n0 (A.cl k).n1 (A.cl k).n2 (A.cl k).n3 (dCommitL (A.cl k)))) at j4
 rw [←hT] at s1 s2 s3 j1 j2 j3 j4
 have hC:awCommit1 A k={ A with si:=fset A.si (A.pl k) (rApply (awSe A k) (awCommitT A k)),cl:=fset A.cl k (dCommitD (A.cl k) (awSe A k) (A.wl (A.pl k))) }:=by
  unfold awCommit1
  rw [if_pos he]
  unfold dCommitS
  rw [if_neg hl]
  rfl
 have hq0:0<(awCommitT A k).seq:=by
  have:=(i1.top (A.pl k)).1
  rw [s2]
  show 0<(A.si (A.pl k)).at (A.pl k)+1
  omega
 refine ⟨?_,s1,s2,hq0,s3⟩
 rw [hC]
 have hS:=h.S
 have hts:0≤(awCommitT A k).site∧(awCommitT A k).site<4:=by omega
 generalize awCommitT A k=t at *
 generalize hp:A.pl k=p at *
 have hup:∀ j,(A.si p).at j≤(rApply (awSe A k) t).at j:=fun j=>by
  have:awSe A k=A.si p:=by unfold awSe;rw [hp]
  rw [this]
  exact rApply_up hts (by rw [s1,s2,this]) j
 have hse:awSe A k=A.si p:=by unfold awSe;rw [hp]
 rw [hse] at hup s2 j2 j3 j4 ⊢
 have h4:∀ j:Nat,j<4→(rApply (A.si p) t).at (j:Int)=if j=p then t.seq else (A.si p).at (j:Int):=fun j hj=>by
  rw [rApply_at4 _ hts (by omega),s1]
  by_cases e:j=p
  ·rw [if_pos (by omega),if_pos e]
  ·rw [if_neg (by omega),if_neg e]
 have hmono:∀ (i:Nat) (j:Int),(A.si i).at j≤(fset A.si p (rApply (A.si p) t) i).at j:=fun i j=>by
  by_cases e:i=p
  ·subst e;rw [fset_same];exact hup j
  ·rw [fset_other _ e];exact Int.le_refl _
 have hother:∀ i,i<A.S→i≠p→(A.si i).at t.site<t.seq:=fun i hi hne=>by
  have h1:=h.le i hi p hpl
  rw [s1,s2];omega
 refine ⟨j1,h.S,fun i hi=>?_,fun u hu=>?_,fun i hi q h1 h2=>?_,fun i hi j hj=>?_,fun i hi j h1 h2=>?_,fun u hu j hj=>?_,fun g hg=>?_,h.wl,fun c hc=>?_⟩
 ·show SInv (T++[t]) i (fset A.si p (rApply (A.si p) t) i) (b i)∧NoRdy (fset A.si p (rApply (A.si p) t) i)
  by_cases e:i=p
  ·subst e;rw [fset_same];exact ⟨j2,j4⟩
  ·rw [fset_other _ e]
   obtain ⟨k1,k2⟩:=h.si i hi
   exact ⟨k1.more (hother i hi e),k2⟩
 ·rcases List.mem_append.1 hu with e | e
  ·obtain ⟨i,hi,e1,e2⟩:=h.site u e
   exact ⟨i,hi,e1,Int.le_trans e2 (hmono i _)⟩
  ·obtain rfl:u=t:=by simpa using e
   refine ⟨p,hpl,s1,?_⟩
   show u.seq≤(fset A.si p (rApply (A.si p) u) p).at p
   rw [fset_same,h4 p (by omega),if_pos rfl];exact Int.le_refl _
 ·have h2':q≤(fset A.si p (rApply (A.si p) t) i).at i:=h2
  by_cases e:i=p
  ·subst e
   rw [fset_same,h4 i (by omega),if_pos rfl] at h2'
   by_cases e2:q=t.seq
   ·exact ⟨t,by simp,s1,e2.symm⟩
   ·obtain ⟨u,hu,e3⟩:=h.has i hi q h1 (by omega)
    exact ⟨u,List.mem_append.2 (.inl hu),e3⟩
  ·rw [fset_other _ e] at h2'
   obtain ⟨u,hu,e3⟩:=h.has i hi q h1 h2'
   exact ⟨u,List.mem_append.2 (.inl hu),e3⟩
 ·show (fset A.si p (rApply (A.si p) t) i).at j≤(fset A.si p (rApply (A.si p) t) j).at j
  have h5:=h.le i hi j hj
  have hj':j<A.S:=hj
  by_cases e:i=p
  ·subst e
   rw [fset_same,h4 j (by omega)]
   by_cases e2:j=i
   ·subst e2;rw [if_pos rfl,fset_same,h4 j (by omega),if_pos rfl];exact Int.le_refl _
   ·rw [if_neg e2,fset_other _ e2];exact h5
  ·rw [fset_other _ e]
   exact Int.le_trans h5 (hmono j _)
 ·show (fset A.si p (rApply (A.si p) t) i).at j=0
  have h1':A.S≤j:=h1
  by_cases e:i=p
  ·subst e
   rw [fset_same,h4 j h2,if_neg (by omega)]
   exact h.out i hi j h1 h2
  ·rw [fset_other _ e];exact h.out i hi j h1 h2
 ·show u.dep j≤(fset A.si p (rApply (A.si p) t) j).at j
  rcases List.mem_append.1 hu with e | e
  ·exact Int.le_trans (h.dle u e j hj) (hmono j _)
  ·obtain rfl:u=t:=by simpa using e
   exact Int.le_trans (j3 j) (Int.le_trans (h.le p hpl j hj) (hmono j _))
 ·obtain ⟨g1,g2,g3⟩:=h.way g hg
  exact ⟨g1,fun e=>List.mem_append.2 (.inl (g2 e)),fun e=>⟨(g3 e).1,(g3 e).2.1,fun j=>⟨((g3 e).2.2 j).1,Int.le_trans ((g3 e).2.2 j).2 (hmono _ _)⟩⟩⟩
 ·unfold ClOk
  show A.pl c<A.S∧((fset A.cl k (dCommitD (A.cl k) (A.si p) (A.wl p)) c).op=true→(∀ j,0≤(fset A.cl k (dCommitD (A.cl k) (A.si p) (A.wl p)) c).sn j∧(fset A.cl k (dCommitD (A.cl k) (A.si p) (A.wl p)) c).sn j≤(fset A.si p (rApply (A.si p) t) (A.pl c)).at j)∧(∀ j,b (A.pl c) j≤(fset A.cl k (dCommitD (A.cl k) (A.si p) (A.wl p)) c).sn j)∧Clo (T++[t]) (fset A.cl k (dCommitD (A.cl k) (A.si p) (A.wl p)) c).sn)
  obtain ⟨d1,d2⟩:=h.cl c hc
  refine ⟨d1,?_⟩
  by_cases e:c=k
  ·subst e;rw [fset_same];intro ho;rw [dCommit_op] at ho;cases ho
  ·rw [fset_other _ e]
   intro ho
   obtain ⟨d3,d4,d5⟩:=d2 ho
   refine ⟨fun j=>⟨(d3 j).1,Int.le_trans (d3 j).2 (hmono _ _)⟩,d4,d5.more ?_⟩
   have h6:=(d3 t.site).2
   have h7:=h.le _ d1 p hpl
   rw [s1] at h6 ⊢
   rw [s2];omega
theorem awCommit1_eq (A:AWd) (k:Nat):(awCommit1 A k).S=A.S∧(awCommit1 A k).C=A.C:=by
 unfold awCommit1;split <;> exact ⟨rfl,rfl⟩
theorem CInv.commit (h:CInv A T b) {k:Nat} (hk:k<A.C):
  CInv (awCommit A k) (if awCommitE A k=0∧0<(awCommitT A k).seq then T++[awCommitT A k] else T) b:=by
 unfold awCommit
 by_cases he:awCommitE A k=0
 ·by_cases hl:dCommitL (A.cl k)=[]
  ·have hz:awCommitT A k=txZP:=by unfold awCommitT dCommitT;rw [if_pos hl]
   rw [if_neg (by rw [hz];simp [txZP]),if_neg (by rw [hz];simp [txZP]),awCommit1_none he hl]
   exact h.cl_ hk fun ho=>by cases ho
  ·obtain ⟨h1,h2,h3,h4,_⟩:=h.commit1 hk he hl
   rw [if_pos ⟨he,h4⟩,if_pos ⟨he,h4⟩]
   refine CInv.sends _ h1 fun g hg=>?_
   rw [←(awCommit1_eq A k).1] at hg
   exact awTo_ok (A:=A) (by simp) h4 g hg
 ·rw [if_neg (fun e=>he e.1),if_neg (fun e=>he e.1)]
  unfold awCommit1
  rw [if_neg he]
  exact h
def lastT (T:List TxP) (v0 v1 v2 v3 key:Int):VerP×Bool:=rLast v0 v1 v2 v3 key (allV T)
theorem CInv.reads (h:CInv A T b) {k:Nat} (hk:k<A.C) (ho:(A.cl k).op=true) {key:Int} (hkey:0≤key∧key<8):
  awReadV A k key=if (lastT T (A.cl k).n0 (A.cl k).n1 (A.cl k).n2 (A.cl k).n3 key).2=false∨(lastT T (A.cl k).n0 (A.cl k).n1 (A.cl k).n2 (A.cl k).n3 key).1.gone=true then (verZ,8) else ((lastT T (A.cl k).n0 (A.cl k).n1 (A.cl k).n2 (A.cl k).n3 key).1,0):=by
 obtain ⟨hpl,hcl⟩:=h.cl k hk
 obtain ⟨c1,c2,c3⟩:=hcl ho
 have hs:=(h.si _ hpl).1
 have hr:=hs.read h.t (v0:=(A.cl k).n0) (v1:=(A.cl k).n1) (v2:=(A.cl k).n2) (v3:=(A.cl k).n3) c2 (fun j=>(c1 j).2) key
 unfold awReadV aRead
 have hc:covD (awSe A k).p0 (awSe A k).p1 (awSe A k).p2 (awSe A k).p3 (A.cl k).n0 (A.cl k).n1 (A.cl k).n2 (A.cl k).n3=true:=(covD_iff ..).2 fun j=>(c1 j).2
 rw [if_pos hc]
 unfold rRead lastT
 rw [if_neg (by omega)]
 have:(awSe A k).held=(A.si (A.pl k)).held:=rfl
 rw [this,hr]
theorem CInv.told (h:CInv A T b) {k:Nat} (hk:k<A.S) {key:Int} (hkey:0≤key∧key<8):
  rRead (A.si k).p0 (A.si k).p1 (A.si k).p2 (A.si k).p3 (A.si k).held key=if (lastT T (A.si k).p0 (A.si k).p1 (A.si k).p2 (A.si k).p3 key).2=false∨(lastT T (A.si k).p0 (A.si k).p1 (A.si k).p2 (A.si k).p3 key).1.gone=true then (verZ,8) else ((lastT T (A.si k).p0 (A.si k).p1 (A.si k).p2 (A.si k).p3 key).1,0):=by
 have hs:=(h.si _ hk).1
 have hr:=hs.read h.t (v0:=(A.si k).p0) (v1:=(A.si k).p1) (v2:=(A.si k).p2) (v3:=(A.si k).p3) hs.bap (fun j=>Int.le_refl _) key
 unfold rRead lastT
 rw [if_neg (by omega),hr]
end
end Go.Proofs.YtbopfhbeegkkaabGreatDoor
