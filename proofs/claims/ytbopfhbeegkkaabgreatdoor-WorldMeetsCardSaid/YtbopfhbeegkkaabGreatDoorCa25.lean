/- Part 25 of a proof: lemmas and contracts that other parts use. -/
import Derived.Test.YtbopfhbeegkkaabGreatDoorCa24
set_option linter.unusedVariables false
set_option linter.unusedSimpArgs false
namespace Go.Proofs.YtbopfhbeegkkaabGreatDoor
theorem SInv.gets {T:List TxP} {k:Nat} {a:RSi} {b:Int→Int} (h:SInv T k a b) (hn:NoRdy a) (hT:TInv T) (hl:T.length<200) {t:TxP} (ht:t∈T) (hs:t.site≠(k:Int)) (hd:∀ j,t.dep j≤a.at j):t.seq≤(rTake a t).at t.site:=by
 have hr:=hT.rt t ht
 have hid:=h.id
 by_cases hle:t.seq≤a.at t.site
 ·exact Int.le_trans hle ((h.take hn hT hl ht).2.2.1 _)
 have hq:t.seq=a.at t.site+1:=by
  have h1:=hd t.site
  rw [rightTx_dep hr] at h1
  omega
 have hrd:rReady a t=true:=(rReady_iff _ _).2 ⟨hq,hd⟩
 have hsm:rSame a t=false:=by
  rw [Bool.eq_false_iff]
  intro hx
  unfold rSame at hx
  obtain ⟨x,hx1,hx2⟩:=List.any_eq_true.1 hx
  simp only [Bool.and_eq_true,decide_eq_true_eq] at hx2
  obtain rfl:=hT.uq x (h.wsub x hx1) t ht hx2.1 hx2.2
  have:=hn x hx1
  rw [hrd] at this;cases this
 have hlen:=h.len
 have he:rTakeE a t=0:=by
  unfold rTakeE
  rw [if_neg (by rw [hr,hid];simp [hs]),if_neg hle,if_neg (by rw [hsm];simp),if_neg]
  rintro (e | ⟨_,e⟩)
  ·omega
  ·rw [hrd] at e;cases e
 have htk:=h.take hn hT hl ht
 unfold rTake at htk ⊢
 rw [if_pos he] at htk ⊢
 have hw:SInv T k { a with ws:=a.ws++[t] } b:=by
  refine ⟨h.id,h.k4,h.sub,h.mem,h.inn,h.nd,h.cov,h.clo,fun u hu=>?_,fun u hu=>?_,?_,h.last,h.lastR,h.top,h.hsl,h.hdom,h.bap⟩
  ·rcases List.mem_append.1 hu with e | e
   ·exact h.wsub u e
   ·obtain rfl:u=t:=by simpa using e
    exact ht
  ·rcases List.mem_append.1 hu with e | e
   ·exact h.wgt u e
   ·obtain rfl:u=t:=by simpa using e
    exact Int.not_le.1 hle
  ·refine List.nodup_append.2 ⟨h.wnd,by simp,fun x hx y hy e=>?_⟩
   obtain rfl:y=t:=by simpa using hy
   subst e
   rw [Bool.eq_false_iff] at hsm
   exact hsm (by unfold rSame;rw [List.any_eq_true];exact ⟨x,hx,by simp⟩)
 obtain ⟨i1,i2,i3,i4,_⟩:=SInv.run hT hl (a.ws.length+1) hw (by simp)
 rcases i4 t (by simp) with e | e
 ·exfalso
  have h1:=i1.wgt t e
  have h2:=i2 t e
  rw [Bool.eq_false_iff] at h2
  have h3:a.at t.site≤_:=i3 t.site
  exact h2 ((rReady_iff _ _).2 ⟨by omega,fun j=>Int.le_trans (hd j) (i3 j)⟩)
 ·exact i1.inn t e
section
variable {T:List TxP} {b:Nat→Int→Int}
def Mono (A A':AWd):Prop:=∀ k j,k<A.S→(A.si k).at j≤(A'.si k).at j
theorem mono_send (A:AWd) (g:GmP) (k:Nat):(awSend A g).si k=A.si k:=by rw [(awSend_eq A g).2.2.1]
theorem CInv.take_up {A:AWd} (h:CInv A T b) (hl:T.length<200) {k:Nat} (hk:k<A.S) {t:TxP} (ht:t∈T):Mono A (awTake A k t):=by
 intro i j hi
 obtain ⟨h1,h2⟩:=h.si k hk
 show (A.si i).at j≤(fset A.si k (rTake (A.si k) t) i).at j
 by_cases e:i=k
 ·subst e;rw [fset_same];exact (h1.take h2 h.t hl ht).2.2.1 j
 ·rw [fset_other _ e];exact Int.le_refl _
theorem knows_up (A:AWd) (k f:Nat) (h0 h1 h2 h3:Int) (i:Nat) (j:Int):((awKnows A k f h0 h1 h2 h3).si i).at j=(A.si i).at j:=by
 show (fset A.si k (rKnows (A.si k) f h0 h1 h2 h3) i).at j=_
 by_cases e:i=k
 ·subst e;rw [fset_same];rfl
 ·rw [fset_other _ e]
theorem CInv.deliver_up {A:AWd} (h:CInv A T b) (hl:T.length<200) {i:Nat} (hi:i<A.way.length):Mono A (awDeliver A i):=by
 have hg:A.way.getD i gmZ=A.way[i]:=by simp [List.getD,List.getElem?_eq_getElem hi]
 have hw:=h.way _ (List.getElem_mem hi)
 unfold awDeliver awComes
 rw [hg]
 split
 ·rename_i hs
  exact CInv.take_up (h.out_ i) hl hw.1 (hw.2.1 hs)
 ·intro k j hk
  rw [(awSends_eq _ _).2.2.1,knows_up]
  exact Int.le_refl _
theorem CInv.flow_up (hl:T.length<200):∀ (f:Nat) {A:AWd},CInv A T b→Mono A (awFlow f A)
 | 0,A,h=>fun _ _ _=>Int.le_refl _
 | f+1,A,h=>by
   unfold awFlow
   split
   ·exact fun _ _ _=>Int.le_refl _
   ·rename_i g l hw
    have h0:0<A.way.length:=by rw [hw];simp
    intro k j hk
    exact Int.le_trans (h.deliver_up hl h0 k j hk) (CInv.flow_up hl f (h.deliver hl h0) k j (by rw [(awDeliver_SC A 0).1];exact hk))
theorem CInv.flow_nil (hl:T.length<200):∀ (f:Nat) {A:AWd},CInv A T b→wayW A.way≤f→(awFlow f A).way=[]
 | 0,A,h,hf=>by
   cases hw:A.way with
   | nil=>unfold awFlow;exact hw
   | cons g l=>
     rw [hw] at hf
     unfold wayW gmW at hf
     split at hf <;> omega
 | f+1,A,h,hf=>by
   unfold awFlow
   split
   ·assumption
   ·rename_i g l hw
    have h0:0<A.way.length:=by rw [hw];simp
    have hlt:=(awDeliver_less hw h.wl (fun t ht=>h.t.rt t ((h.si g.tgt (h.way g (by rw [hw];simp)).1).1.sub t ht))).1
    exact CInv.flow_nil hl f (h.deliver hl h0) (by omega)
theorem awFlow_cons {A:AWd} {g:GmP} {l:List GmP} (hw:A.way=g::l) (f:Nat):awFlow (f+1) A=awFlow f (awDeliver A 0):=by
 simp only [awFlow]
 rw [hw]
theorem awFlow_nil {A:AWd} (hw:A.way=[]) (f:Nat):awFlow f A=A:=by
 cases f with
 | zero=>rfl
 | succ f=>simp only [awFlow];rw [hw]
def gmT (k:Nat) (t:TxP):GmP:=⟨k,t,0,0,0,0,0⟩
theorem CInv.flowTx (hl:T.length<200) {k:Nat}:∀ (L:List TxP) (f:Nat) {A:AWd},CInv A T b→k<A.S→L.length≤f→A.way=L.map (gmT k)→(∀ t∈L,t∈T∧t.site≠(k:Int))→
  (∀ l1 t l2,L=l1++t::l2→∀ j:Int,0≤j∧j<4→t.dep j≤(A.si k).at j∨∃ u∈l1,u.site=j∧t.dep j≤u.seq)→
  (awFlow f A).way=[]∧∀ t∈L,t.seq≤((awFlow f A).si k).at t.site
 | [],f,A,h,hk,hf,hw,_,_=>by
   have hw':A.way=[]:=hw
   rw [awFlow_nil hw']
   exact ⟨hw',fun t ht=>(by cases ht)⟩
 | t::L,0,A,h,hk,hf,hw,_,_=>by simp at hf
 | t::L,f+1,A,h,hk,hf,hw,hs,hd=>by
   have hw':A.way=gmT k t::L.map (gmT k):=hw
   have h0:0<A.way.length:=by rw [hw'];simp
   obtain ⟨htT,hts⟩:=hs t (List.mem_cons_self ..)
   have hsq:0<t.seq:=by have:=(rightTx_parts (h.t.rt t htT)).2.1;omega
   have hdl:awDeliver A 0=awTake (awOut A 0) k t:=by
    unfold awDeliver awComes
    have:A.way.getD 0 gmZ=gmT k t:=by rw [hw'];rfl
    rw [this]
    show (if 0<t.seq then _ else _)=_
    rw [if_pos hsq];rfl
   rw [awFlow_cons hw']
   have hC:=h.deliver hl h0
   have hup:=h.deliver_up hl h0
   have hS:=(awDeliver_SC A 0).1
   have hsi:(awDeliver A 0).si k=rTake (A.si k) t:=by
    rw [hdl]
    show fset A.si k (rTake (A.si k) t) k=_
    rw [fset_same]
   obtain ⟨i1,i2⟩:=h.si k hk
   have hget:t.seq≤((awDeliver A 0).si k).at t.site:=by
    rw [hsi]
    refine i1.gets i2 h.t hl htT hts ((atV_4 ..).2 fun j hj=>?_)
    rcases hd [] t L rfl j hj with e | ⟨u,hu,_⟩
    ·exact e
    ·cases hu
   have hway:(awDeliver A 0).way=L.map (gmT k):=by
    rw [hdl]
    show A.way.eraseIdx 0=_
    rw [hw'];rfl
   obtain ⟨r1,r2⟩:=CInv.flowTx hl L f hC (by rw [hS];exact hk) (by simp at hf;omega) hway (fun u hu=>hs u (List.mem_cons_of_mem _ hu)) (fun l1 u l2 e j hj=>by
    rcases hd (t::l1) u l2 (by rw [e];rfl) j hj with e2 | ⟨x,hx,e3,e4⟩
    ·exact .inl (Int.le_trans e2 (hup k j hk))
    ·rcases List.mem_cons.1 hx with e5 | e5
     ·subst e5
      refine .inl (Int.le_trans e4 ?_)
      rw [←e3];exact hget
     ·exact .inr ⟨x,e5,e3,e4⟩)
   refine ⟨r1,fun u hu=>?_⟩
   rcases List.mem_cons.1 hu with e | e
   ·subst e
    exact Int.le_trans hget (CInv.flow_up hl f hC k _ (by rw [hS];exact hk))
   ·exact r2 u e
theorem awSends_room:∀ (l:List GmP) (A:AWd),A.way.length+l.length≤300→(awSends A l).way=A.way++l
 | [],A,_=>by simp [awSends]
 | g::l,A,h=>by
   have h':A.way.length+(l.length+1)≤300:=by simpa using h
   have e:awSend A g={ A with way:=A.way++[g] }:=by unfold awSend;rw [if_neg (by omega)]
   have h2:=awSends_room l (awSend A g) (by rw [e];simp;omega)
   show (awSends (awSend A g) l).way=_
   rw [h2,e];simp
theorem CInv.asked (hl:T.length<200) {A:AWd} (h:CInv A T b) {k o:Nat} (hk:k<A.S) (ho:o<A.S) (hne:k≠o) (hw:A.way=[]):
  (awFlows (awAsk A k o)).way=[]∧∀ j:Int,0≤j∧j<4→(A.si o).at j≤((awFlows (awAsk A k o)).si k).at j:=by
 have hA1:=h.ask hk ho hne
 have hS:=h.S
 have e1:awAsk A k o={ A with way:=[awAskG A k o] }:=by
  unfold awAsk awSend;rw [hw];rfl
 have hW:wayW (awAsk A k o).way=302:=by rw [e1];rfl
 have hwy:(awAsk A k o).way=awAskG A k o::[]:=by rw [e1]
 obtain ⟨i1,i2⟩:=h.si o ho
 have hmem:∀ t∈(aMiss (A.si o) (A.si k).p0 (A.si k).p1 (A.si k).p2 (A.si k).p3).filter (fun t=>decide (t.site≠(k:Int))),t∈(A.si o).log∧(A.si k).at t.site<t.seq∧t.site≠(k:Int):=fun t ht=>by
  obtain ⟨h1,h2⟩:=List.mem_filter.1 ht
  obtain ⟨h3,h4⟩:=List.mem_filter.1 h1
  exact ⟨h3,of_decide_eq_true h4,by simpa using h2⟩
 have hin:∀ t∈(A.si o).log,(A.si k).at t.site<t.seq→t.site≠(k:Int)→t∈(aMiss (A.si o) (A.si k).p0 (A.si k).p1 (A.si k).p2 (A.si k).p3).filter (fun t=>decide (t.site≠(k:Int))):=fun t h1 h2 h3=>
  List.mem_filter.2 ⟨List.mem_filter.2 ⟨h1,decide_eq_true h2⟩,by simpa using h3⟩
 have hsplit:∀ l1 t l2,(aMiss (A.si o) (A.si k).p0 (A.si k).p1 (A.si k).p2 (A.si k).p3).filter (fun t=>decide (t.site≠(k:Int)))=l1++t::l2→∃ m1 m2,(A.si o).log=m1++t::m2∧∀ u∈m1,(A.si k).at u.site<u.seq→u.site≠(k:Int)→u∈l1:=fun l1 t l2 hh=>by
  unfold aMiss at hh
  rw [List.filter_filter] at hh
  obtain ⟨x1,x2,e2,e3,e4⟩:=List.filter_eq_append_iff.1 hh
  obtain ⟨y1,y2,e5,e6,e7,e8⟩:=List.filter_eq_cons_iff.1 e4
  refine ⟨x1++y1,y2,by rw [e2,e5];simp,fun u hu h1 h2=>?_⟩
  have hp:(decide (u.site≠(k:Int))&&notHasT (A.si k).p0 (A.si k).p1 (A.si k).p2 (A.si k).p3 u)=true:=by
   rw [Bool.and_eq_true]
   exact ⟨by simpa using h2,decide_eq_true h1⟩
  rcases List.mem_append.1 hu with e | e
  ·rw [←e3];exact List.mem_filter.2 ⟨e,hp⟩
  ·exact absurd hp (e6 u e)
 have hLl:((aMiss (A.si o) (A.si k).p0 (A.si k).p1 (A.si k).p2 (A.si k).p3).filter (fun t=>decide (t.site≠(k:Int)))).length≤200:=by
  have h1:=List.length_filter_le (fun t=>decide (t.site≠(k:Int))) (aMiss (A.si o) (A.si k).p0 (A.si k).p1 (A.si k).p2 (A.si k).p3)
  have h2:=List.length_filter_le (notHasT (A.si k).p0 (A.si k).p1 (A.si k).p2 (A.si k).p3) (A.si o).log
  have h3:=i1.len
  unfold aMiss at h1 ⊢
  omega
 generalize hL:(aMiss (A.si o) (A.si k).p0 (A.si k).p1 (A.si k).p2 (A.si k).p3).filter (fun t=>decide (t.site≠(k:Int)))=L at *
 have hd1:awDeliver (awAsk A k o) 0=awSends (awKnows (awOut (awAsk A k o) 0) o k (A.si k).p0 (A.si k).p1 (A.si k).p2 (A.si k).p3) (L.map (gmT k)):=by
  unfold awDeliver awComes
  have:(awAsk A k o).way.getD 0 gmZ=awAskG A k o:=by rw [hwy];rfl
  rw [this]
  show (if 0<txZP.seq then _ else _)=_
  rw [if_neg (by decide)]
  have e2:(awOut (awAsk A k o) 0).si=A.si:=by rw [e1];rfl
  show awSends _ (awMiss ((awOut (awAsk A k o) 0).si o) k (A.si k).p0 (A.si k).p1 (A.si k).p2 (A.si k).p3)=_
  rw [e2]
  unfold awMiss
  rw [hL]
  rfl
 have hw2:(awDeliver (awAsk A k o) 0).way=L.map (gmT k):=by
  have e3:(awKnows (awOut (awAsk A k o) 0) o k (A.si k).p0 (A.si k).p1 (A.si k).p2 (A.si k).p3).way=[]:=by
   show (awAsk A k o).way.eraseIdx 0=[]
   rw [hwy];rfl
  rw [hd1,awSends_room _ _ (by rw [e3];simp;omega),e3];rfl
 have hat:∀ (i:Nat) (j:Int),((awDeliver (awAsk A k o) 0).si i).at j=(A.si i).at j:=fun i j=>by
  rw [hd1,(awSends_eq _ _).2.2.1,knows_up]
  have:(awOut (awAsk A k o) 0).si=A.si:=by rw [e1];rfl
  rw [this]
 have hC2:=hA1.deliver hl (i:=0) (by rw [hwy];simp)
 have hS2:(awDeliver (awAsk A k o) 0).S=A.S:=by rw [(awDeliver_SC _ _).1,(awAsk_SC A k o).1]
 have hfl:awFlows (awAsk A k o)=awFlow 301 (awDeliver (awAsk A k o) 0):=by
  unfold awFlows
  rw [hW]
  exact awFlow_cons hwy 301
 obtain ⟨r1,r2⟩:=CInv.flowTx hl (k:=k) L 301 hC2 (by rw [hS2];exact hk) (by omega) hw2 (fun t ht=>⟨i1.sub t (hmem t ht).1,(hmem t ht).2.2⟩) (fun l1 t l2 hh j hj=>by
  rw [hat]
  obtain ⟨m1,m2,e4,e5⟩:=hsplit l1 t l2 hh
  by_cases hle:t.dep j≤(A.si k).at j
  ·exact .inl hle
  ·right
   have htl:t∈(A.si o).log:=by rw [e4];simp
   have hco:=i1.cov t htl j
   have hp:=((h.si k hk).1.top j).1
   obtain ⟨jn,rfl⟩:=Int.eq_ofNat_of_zero_le hj.1
   have hjS:jn<A.S:=by
    by_cases hjs:jn<A.S
    ·exact hjs
    ·have:=h.out o ho jn (by omega) (by omega);omega
   obtain ⟨u,hu,u1,u2⟩:=h.has jn hjS (t.dep jn) (by omega) (h.dle t (i1.sub t htl) jn hjS)
   have huk:u.site≠(k:Int):=fun e=>by
    have:jn=k:=by omega
    subst this
    have:=h.dle t (i1.sub t htl) jn hk
    omega
   exact ⟨u,e5 u (i1.clo m1 t m2 e4 u hu (by rw [u1,u2];exact Int.le_refl _)) (by rw [u1,u2];omega) huk,u1,by rw [u2];exact Int.le_refl _⟩)
 rw [hfl]
 refine ⟨r1,fun j hj=>?_⟩
 have hup:=CInv.flow_up hl 301 hC2 k j (by rw [hS2];exact hk)
 rw [hat] at hup
 by_cases hle:(A.si o).at j≤(A.si k).at j
 ·exact Int.le_trans hle hup
 ·have hp:=((h.si k hk).1.top j).1
  obtain ⟨jn,rfl⟩:=Int.eq_ofNat_of_zero_le hj.1
  have hjS:jn<A.S:=by
   by_cases hjs:jn<A.S
   ·exact hjs
   ·have:=h.out o ho jn (by omega) (by omega);omega
  obtain ⟨u,hu,u1,u2⟩:=h.has jn hjS ((A.si o).at jn) (by omega) (h.le o ho jn hjS)
  have huk:u.site≠(k:Int):=fun e=>by
   have:jn=k:=by omega
   subst this
   have:=h.le o ho jn hk
   omega
  have hul:=i1.mem u hu (by rw [u1,u2];exact Int.le_refl _)
  have:=r2 u (hin u hul (by rw [u1,u2];omega) huk)
  rw [u1,u2] at this
  exact this
theorem CInv.own_eq {A A':AWd} {b':Nat→Int→Int} (h:CInv A T b) (h':CInv A' T b') (hS:A'.S=A.S) {k:Nat} (hk:k<A.S):(A.si k).at k=(A'.si k).at k:=by
 have key:∀ {A A':AWd} {b b':Nat→Int→Int},CInv A T b→CInv A' T b'→A'.S=A.S→k<A.S→(A.si k).at k≤(A'.si k).at k:=fun {A A' b b'} h h' hS hk=>by
  by_cases h1:1≤(A.si k).at k
  ·obtain ⟨t,ht,t1,t2⟩:=h.has k hk _ h1 (Int.le_refl _)
   obtain ⟨k',hk',e1,e2⟩:=h'.site t ht
   obtain rfl:k'=k:=by omega
   omega
  ·have:=((h'.si k (by omega)).1.top k).1;omega
 exact Int.le_antisymm (key h h' hS hk) (key h' h hS.symm (by omega))
theorem CInv.calmO_met (hl:T.length<200) {A:AWd} (h:CInv A T b) {k:Nat} (hk:k<A.S) (hw:A.way=[]):∀ o,o≤A.S→
  (awCalmO k A o).way=[]∧Mono A (awCalmO k A o)∧∀ j:Nat,j<o→(A.si j).at j≤((awCalmO k A o).si k).at j
 | 0,_=>⟨hw,fun _ _ _=>Int.le_refl _,fun j hj=>by omega⟩
 | o+1,ho=>by
   obtain ⟨i1,i2,i3⟩:=CInv.calmO_met hl h hk hw o (by omega)
   have hC:=CInv.calmO hl h hk o (by omega)
   have hS:=(awCalmO_SC k A o).1
   have h4:=h.S
   unfold awCalmO
   split
   ·rename_i e
    refine ⟨i1,i2,fun j hj=>?_⟩
    by_cases e2:j=o
    ·subst e2;subst e;exact i2 k k hk
    ·exact i3 j (by omega)
   ·rename_i hne
    obtain ⟨r1,r2⟩:=CInv.asked hl hC (k:=k) (o:=o) (by rw [hS];exact hk) (by rw [hS];omega) hne i1
    have hA:=hC.ask (k:=k) (o:=o) (by rw [hS];exact hk) (by rw [hS];omega) hne
    have hup:Mono (awCalmO k A o) (awFlows (awAsk (awCalmO k A o) k o)):=fun i j hi=>by
     have:=CInv.flow_up hl (wayW (awAsk (awCalmO k A o) k o).way) hA i j (by rw [(awAsk_SC _ _ _).1];exact hi)
     unfold awAsk at this
     rw [mono_send] at this
     exact this
    refine ⟨r1,fun i j hi=>Int.le_trans (i2 i j hi) (hup i j (by rw [hS];exact hi)),fun j hj=>?_⟩
    by_cases e2:j=o
    ·subst e2
     refine Int.le_trans ?_ (r2 (j:Int) (by omega))
     exact i2 j j (by omega)
    ·exact Int.le_trans (i3 j (by omega)) (hup k j (by rw [hS];exact hk))
theorem CInv.calmK_met (hl:T.length<200) {A:AWd} (h:CInv A T b) (hw:A.way=[]):∀ k,k≤A.S→
  (awCalmK A k).way=[]∧Mono A (awCalmK A k)∧∀ i:Nat,i<k→∀ j:Nat,j<A.S→(A.si j).at j≤((awCalmK A k).si i).at j
 | 0,_=>⟨hw,fun _ _ _=>Int.le_refl _,fun i hi=>by omega⟩
 | k+1,hk=>by
   obtain ⟨i1,i2,i3⟩:=CInv.calmK_met hl h hw k (by omega)
   have hC:=CInv.calmK hl h k (by omega)
   have hS:=(awCalmK_SC A k).1
   obtain ⟨r1,r2,r3⟩:=CInv.calmO_met hl hC (k:=k) (by rw [hS];omega) i1 A.S (by rw [hS];exact Nat.le_refl _)
   unfold awCalmK
   refine ⟨r1,fun i j hi=>Int.le_trans (i2 i j hi) (r2 i j (by rw [hS];exact hi)),fun i hi j hj=>?_⟩
   by_cases e:i=k
   ·subst e
    have:=r3 j hj
    rw [←h.own_eq hC hS hj] at this
    exact this
   ·exact Int.le_trans (i3 i (by omega) j hj) (r2 i j (by rw [hS];omega))
theorem CInv.met (hl:T.length<200) {A:AWd} (h:CInv A T b):(awCalm A).way=[]∧∀ i,i<A.S→(∀ j:Nat,j<A.S→((awCalm A).si i).at j=(A.si j).at j)∧((awCalm A).si i).ws=[]:=by
 have hF:=h.flows hl
 have hS:=(awFlow_SC (wayW A.way) A).1
 have hw:=CInv.flow_nil hl (wayW A.way) h (Nat.le_refl _)
 have hC:=h.calm hl
 have hCS:=(awCalm_SC A).1
 obtain ⟨r1,r2,r3⟩:=CInv.calmK_met hl hF hw A.S (by show A.S≤(awFlow (wayW A.way) A).S;rw [hS];exact Nat.le_refl _)
 have e:∀ i,i<A.S→∀ j:Nat,j<A.S→((awCalm A).si i).at j=(A.si j).at j:=fun i hi j hj=>by
  have h1:=r3 i hi j (by show j<(awFlow (wayW A.way) A).S;rw [hS];exact hj)
  rw [←h.own_eq hF hS hj] at h1
  have h2:=hC.le i (by rw [hCS];exact hi) j (by rw [hCS];exact hj)
  rw [←h.own_eq hC hCS hj] at h2
  exact Int.le_antisymm h2 h1
 refine ⟨r1,fun i hi=>⟨e i hi,?_⟩⟩
 cases hws:((awCalm A).si i).ws with
 | nil=>rfl
 | cons t l=>
   exfalso
   obtain ⟨i1,_⟩:=hC.si i (by rw [hCS];exact hi)
   have h1:=i1.wgt t (by rw [hws];simp)
   have h2:=i1.wsub t (by rw [hws];simp)
   obtain ⟨k,hk,e1,e2⟩:=hC.site t h2
   rw [e1,e i hi k (by rw [←hCS];exact hk)] at h1
   rw [←h.own_eq hC hCS (by rw [←hCS];exact hk)] at e2
   omega
end
structure Er (a c:RSi):Prop where
 id:a.id=c.id
 p0:a.p0=c.p0
 p1:a.p1=c.p1
 p2:a.p2=c.p2
 p3:a.p3=c.p3
 lw:a.lw=c.lw
 lc:a.lc=c.lc
 log:a.log=c.log
 ws:a.ws=c.ws
 ot:a.ot=c.ot
theorem Er.refl (a:RSi):Er a a:=⟨rfl,rfl,rfl,rfl,rfl,rfl,rfl,rfl,rfl,rfl⟩
theorem Er.out {a c:RSi} (h:Er a c):∃ l,a={ c with held:=l }:=by
 obtain ⟨h1,h2,h3,h4,h5,h6,h7,h8,h9,h10⟩:=h
 refine ⟨a.held,?_⟩
 cases a;cases c
 simp only at *
 subst h1;subst h2;subst h3;subst h4;subst h5;subst h6;subst h7;subst h8;subst h9;subst h10
 rfl
theorem er_held (c:RSi) (l:List PtP):Er { c with held:=l } c:=⟨rfl,rfl,rfl,rfl,rfl,rfl,rfl,rfl,rfl,rfl⟩
theorem rbGo_er (c:RSi) (L:List PtP):∀ (l:List TxP) (i:Nat) (b:Int),rbGo { c with held:=L } l i b=rbGo c l i b
 | [],i,b=>rfl
 | t::l,i,b=>by
   unfold rbGo
   rw [show rReady { c with held:=L } t=rReady c t from rfl,rbGo_er c L l,rbGo_er c L l]
theorem rBest_er (c:RSi) (L:List PtP):rBest { c with held:=L }=rBest c:=rbGo_er c L c.ws 0 (-1)
theorem rRun_er:∀ (f:Nat) {a c:RSi},Er a c→Er (rRun f a) (rRun f c)
 | 0,a,c,h=>h
 | f+1,a,c,h=>by
   obtain ⟨L,rfl⟩:=h.out
   unfold rRun
   rw [rBest_er]
   show Er (if 200≤c.log.length∨rBest c<0 then _ else _) _
   split
   ·exact er_held c L
   ·exact rRun_er f ⟨rfl,rfl,rfl,rfl,rfl,rfl,rfl,rfl,rfl,rfl⟩
theorem rTakeE_er (c:RSi) (L:List PtP) (t:TxP):rTakeE { c with held:=L } t=rTakeE c t:=rfl
theorem rTake_er {a c:RSi} (h:Er a c) (t:TxP):Er (rTake a t) (rTake c t):=by
 obtain ⟨L,rfl⟩:=h.out
 unfold rTake
 rw [rTakeE_er]
 split
 ·exact rRun_er _ ⟨rfl,rfl,rfl,rfl,rfl,rfl,rfl,rfl,rfl,rfl⟩
 ·exact er_held c L
theorem rSwept_er {a c:RSi} (h:Er a c) (v0 v1 v2 v3:Int):Er (rSwept a v0 v1 v2 v3) c:=by
 obtain ⟨L,rfl⟩:=h.out
 exact er_held c _
structure Sw (A B:AWd):Prop where
 S:A.S=B.S
 C:A.C=B.C
 wl:A.wl=B.wl
 cl:A.cl=B.cl
 pl:A.pl=B.pl
 way:A.way=B.way
 lost:A.lost=B.lost
 si:∀ k,Er (A.si k) (B.si k)
theorem Sw.refl (A:AWd):Sw A A:=⟨rfl,rfl,rfl,rfl,rfl,rfl,rfl,fun _=>Er.refl _⟩
section
variable {A B:AWd}
theorem Sw.set (h:Sw A B) (k:Nat) {a c:RSi} (he:Er a c):Sw { A with si:=fset A.si k a } { B with si:=fset B.si k c }:=
 ⟨h.S,h.C,h.wl,h.cl,h.pl,h.way,h.lost,fun i=>by
   show Er (fset A.si k a i) (fset B.si k c i)
   by_cases e:i=k
   ·subst e;rw [fset_same,fset_same];exact he
   ·rw [fset_other _ e,fset_other _ e];exact h.si i⟩
theorem Sw.send (h:Sw A B) (g:GmP):Sw (awSend A g) (awSend B g):=by
 unfold awSend
 rw [h.way,h.lost]
 split
 ·exact ⟨h.S,h.C,h.wl,h.cl,h.pl,rfl,rfl,h.si⟩
 ·exact ⟨h.S,h.C,h.wl,h.cl,h.pl,rfl,rfl,h.si⟩
theorem Sw.sends:∀ (l:List GmP) {A B:AWd},Sw A B→Sw (awSends A l) (awSends B l)
 | [],A,B,h=>h
 | g::l,A,B,h=>Sw.sends l (h.send g)
theorem Sw.se (h:Sw A B) (k:Nat):Er (awSe A k) (awSe B k):=by
 unfold awSe;rw [h.pl];exact h.si _
theorem Sw.commitE (h:Sw A B) (k:Nat):awCommitE A k=awCommitE B k∧awCommitT A k=awCommitT B k:=by
 unfold awCommitE awCommitT
 obtain ⟨L,e⟩:=(h.se k).out
 rw [e,h.cl,h.wl,h.pl]
 exact ⟨rfl,rfl⟩
theorem Sw.commit (h:Sw A B) (k:Nat):Sw (awCommit A k) (awCommit B k):=by
 obtain ⟨e1,e2⟩:=h.commitE k
 have h1:Sw (awCommit1 A k) (awCommit1 B k):=by
  unfold awCommit1
  rw [e1]
  split
  ·have he:=h.se k
   have hD:dCommitD (A.cl k) (awSe A k) (A.wl (A.pl k))=dCommitD (B.cl k) (awSe B k) (B.wl (B.pl k)):=by
    obtain ⟨L,e⟩:=he.out
    rw [e,h.cl,h.wl,h.pl];rfl
   have hS:Er (dCommitS (A.cl k) (awSe A k) (A.wl (A.pl k))) (dCommitS (B.cl k) (awSe B k) (B.wl (B.pl k))):=by
    obtain ⟨L,e⟩:=he.out
    rw [e,h.cl,h.wl,h.pl]
    unfold dCommitS
    split
    ·exact er_held _ _
    ·exact ⟨rfl,rfl,rfl,rfl,rfl,rfl,rfl,rfl,rfl,rfl⟩
   have:=h.set (A.pl k) hS
   rw [hD,h.cl]
   rw [h.cl,h.pl] at this
   rw [h.pl]
   exact ⟨this.S,this.C,this.wl,rfl,this.pl,this.way,this.lost,this.si⟩
  ·exact h
 unfold awCommit
 rw [e1,e2,h.pl,h.S]
 split
 ·exact h1.sends _
 ·exact h1
theorem Sw.begin_ (h:Sw A B) (k:Nat):Sw (awBegin A k) (awBegin B k)∧awBeginE A k=awBeginE B k:=by
 have he:=h.se k
 refine ⟨⟨h.S,h.C,h.wl,?_,h.pl,h.way,h.lost,h.si⟩,?_⟩
 ·show fset A.cl k _=fset B.cl k _
  rw [h.cl,he.p0,he.p1,he.p2,he.p3]
 ·unfold awBeginE;rw [h.cl,he.p0,he.p1,he.p2,he.p3]
theorem Sw.write (h:Sw A B) (k:Nat) (x:WrP):Sw (awWrite A k x) (awWrite B k x):=by
 refine ⟨h.S,h.C,h.wl,?_,h.pl,h.way,h.lost,h.si⟩
 show fset A.cl k _=fset B.cl k _
 rw [h.cl]
theorem Sw.abort (h:Sw A B) (k:Nat):Sw (awAbort A k) (awAbort B k):=by
 refine ⟨h.S,h.C,h.wl,?_,h.pl,h.way,h.lost,h.si⟩
 show fset A.cl k _=fset B.cl k _
 rw [h.cl]
theorem Sw.move (h:Sw A B) (k:Nat) (tgt:Int):Sw (awMove A k tgt) (awMove B k tgt):=by
 have e:awMoveE A k tgt=awMoveE B k tgt:=by unfold awMoveE;rw [h.S,h.cl]
 unfold awMove
 rw [e]
 split
 ·exact ⟨h.S,h.C,h.wl,h.cl,by show fset A.pl k _=fset B.pl k _;rw [h.pl],h.way,h.lost,h.si⟩
 ·exact h
theorem Sw.goes (h:Sw A B) (k:Nat) (z:Int):Sw (awGoes A k z) (awGoes B k z):=
 ⟨h.S,h.C,by show fset A.wl k _=fset B.wl k _;rw [h.wl],h.cl,h.pl,h.way,h.lost,h.si⟩
theorem Sw.askG (h:Sw A B) (k o:Nat):awAskG A k o=awAskG B k o:=by
 have he:=h.si k
 unfold awAskG;rw [he.p0,he.p1,he.p2,he.p3]
theorem Sw.ask (h:Sw A B) (k o:Nat):Sw (awAsk A k o) (awAsk B k o):=by
 unfold awAsk;rw [h.askG];exact h.send _
theorem Sw.out (h:Sw A B) (i:Nat):Sw (awOut A i) (awOut B i):=⟨h.S,h.C,h.wl,h.cl,h.pl,by show A.way.eraseIdx i=B.way.eraseIdx i;rw [h.way],h.lost,h.si⟩
theorem Sw.comes (h:Sw A B) (g:GmP):Sw (awComes A g) (awComes B g):=by
 unfold awComes
 split
 ·exact h.set g.tgt (rTake_er (h.si g.tgt) g.tx)
 ·have he:=h.si g.tgt
  have hm:awMiss (A.si g.tgt) g.frm g.h0 g.h1 g.h2 g.h3=awMiss (B.si g.tgt) g.frm g.h0 g.h1 g.h2 g.h3:=by
   unfold awMiss aMiss;rw [he.log]
  rw [hm]
  refine Sw.sends _ (h.set g.tgt ?_)
  obtain ⟨L,e⟩:=he.out
  rw [e]
  exact ⟨rfl,rfl,rfl,rfl,rfl,rfl,rfl,rfl,rfl,rfl⟩
theorem Sw.deliver (h:Sw A B) (i:Nat):Sw (awDeliver A i) (awDeliver B i):=by
 unfold awDeliver;rw [h.way];exact (h.out i).comes _
theorem Sw.twice (h:Sw A B) (i:Nat):Sw (awTwice A i) (awTwice B i):=by
 unfold awTwice;rw [h.way];exact h.send _
theorem Sw.flow:∀ (f:Nat) {A B:AWd},Sw A B→Sw (awFlow f A) (awFlow f B)
 | 0,A,B,h=>h
 | f+1,A,B,h=>by
   cases hw:B.way with
   | nil=>rw [awFlow_nil hw,awFlow_nil (h.way.trans hw)];exact h
   | cons g l=>rw [awFlow_cons hw,awFlow_cons (h.way.trans hw)];exact Sw.flow f (h.deliver 0)
theorem Sw.flows (h:Sw A B):Sw (awFlows A) (awFlows B):=by unfold awFlows;rw [h.way];exact h.flow _
theorem Sw.calmO (h:Sw A B) (k:Nat):∀ o,Sw (awCalmO k A o) (awCalmO k B o)
 | 0=>h
 | o+1=>by
   unfold awCalmO
   split
   ·exact Sw.calmO h k o
   ·exact ((Sw.calmO h k o).ask k o).flows
theorem Sw.calmK (h:Sw A B):∀ k,Sw (awCalmK A k) (awCalmK B k)
 | 0=>h
 | k+1=>by
   unfold awCalmK
   rw [h.S]
   exact (Sw.calmK h k).calmO k _
theorem Sw.calm (h:Sw A B):Sw (awCalm A) (awCalm B):=by
 unfold awCalm;rw [h.S];exact h.flows.calmK _
theorem Sw.sweep (h:Sw A B) (k:Nat):Sw (awSweep A k) B:=
 ⟨h.S,h.C,h.wl,h.cl,h.pl,h.way,h.lost,fun i=>by
   show Er (fset A.si k _ i) (B.si i)
   by_cases e:i=k
   ·subst e;rw [fset_same];exact rSwept_er (h.si i) _ _ _ _
   ·rw [fset_other _ e];exact h.si i⟩
end
theorem Sw.reads {A B:AWd} {T:List TxP} {b b':Nat→Int→Int} (h:Sw A B) (hA:CInv A T b) (hB:CInv B T b') {k:Nat} (hk:k<A.C) {key:Int} (hkey:0≤key∧key<8):awRead A k key=awRead B k key:=by
 unfold awRead
 cases ho:(A.cl k).op with
 | false=>rw [←h.cl,ho];rfl
 | true=>
   rw [hA.reads hk ho hkey,hB.reads (by rw [←h.C];exact hk) (by rw [←h.cl];exact ho) hkey,←h.cl,ho]
theorem Sw.told {A B:AWd} {T:List TxP} {b b':Nat→Int→Int} (h:Sw A B) (hA:CInv A T b) (hB:CInv B T b') {k:Nat} (hk:k<A.S) {key:Int} (hkey:0≤key∧key<8):
  rRead (A.si k).p0 (A.si k).p1 (A.si k).p2 (A.si k).p3 (A.si k).held key=rRead (B.si k).p0 (B.si k).p1 (B.si k).p2 (B.si k).p3 (B.si k).held key:=by
 have he:=h.si k
 rw [hA.told hk hkey,hB.told (by rw [←h.S];exact hk) hkey,he.p0,he.p1,he.p2,he.p3]
theorem allV_nodup {T:List TxP} (hT:TInv T):∀ {l:List TxP},l.Nodup→(∀ t∈l,t∈T)→(allV l).Nodup
 | [],_,_=>List.nodup_nil
 | t::l,hn,hs=>by
   obtain ⟨h1,h2⟩:=List.nodup_cons.1 hn
   have e:allV (t::l)=txV t++allV l:=by simp [allV]
   rw [e]
   refine List.nodup_append.2 ⟨?_,allV_nodup hT h2 fun u hu=>hs u (List.mem_cons_of_mem _ hu),fun p hp q hq e2=>?_⟩
   ·have hpw:=(rwGo_pair t.ws (-1) (by omega) (rightWs_go (rightTx_ws (hT.rt t (hs t (List.mem_cons_self ..)))))).2
    unfold txV
    refine List.pairwise_map.2 (hpw.imp fun {a b} hab e=>?_)
    have:=congrArg PtP.key e
    simp only at this
    omega
   ·subst e2
    obtain ⟨u,hu,hpu⟩:=allV_mem.1 hq
    have a:=txV_v hp
    have c:=txV_v hpu
    have:t=u:=hT.uq t (hs t (List.mem_cons_self ..)) u (hs u (List.mem_cons_of_mem _ hu)) (by rw [←a.2.2.1,←c.2.2.1]) (by rw [←a.2.2.2,←c.2.2.2])
    subst this
    exact h1 hu
theorem Sw.many {A B:AWd} {T:List TxP} {b:Nat→Int→Int} (h:Sw A B) (hA:CInv A T b) (hB:CInv B T (fun _ _=>0)) {k:Nat} (hk:k<A.S):(A.si k).held.length≤(B.si k).held.length:=by
 have hBk:k<B.S:=by rw [←h.S];exact hk
 obtain ⟨i1,_⟩:=hA.si k hk
 obtain ⟨j1,_⟩:=hB.si k hBk
 have h1:=i1.hsl.length_le
 rw [(h.si k).log] at h1
 refine Nat.le_trans h1 (nodup_len (allV_nodup hB.t j1.nd j1.sub) fun p hp=>?_)
 rcases j1.hdom p hp with e | ⟨q,q1,_,_,q4⟩
 ·exact e
 ·exfalso
  obtain ⟨t,ht,hqt⟩:=allV_mem.1 (j1.hsub q q1)
  have h2:=(rightTx_parts (hB.t.rt t (j1.sub t ht))).2.1
  have h3:=(txV_v hqt).2.2.2
  omega
end Go.Proofs.YtbopfhbeegkkaabGreatDoor
