/- Part 26 of a proof: lemmas and contracts that other parts use. -/
import Derived.Test.YtbopfhbeegkkaabGreatDoorCa25
import Derived.Test.YtbopfhbeegkkaabGreatDoorCa22
import Derived.Test.YtbopfhbeegkkaabGreatDoorCa6
set_option linter.unusedVariables false
set_option linter.unusedSimpArgs false
namespace Go.Proofs.YtbopfhbeegkkaabGreatDoor
open Go.RowKit
structure TaP where
 what:Int
 k:Int
 n:Int
 data:ByteArray
 gone:Bool
structure TlP where
 A:AWd
 T:List TxP
 F:Nat→Int→Option WrP
 z:Nat→Nat
def tlK (s:TlP) (a:TaP):Nat:=pickN a.k s.A.C
def tlS (s:TlP) (a:TaP):Nat:=pickN a.k s.A.S
def tlI (s:TlP) (a:TaP):Nat:=if 0<s.A.way.length then pickN a.n s.A.way.length else 0
def tlX (a:TaP):WrP:=⟨(pickN a.n 8:Int),a.data,a.gone⟩
def tlBegin (s:TlP) (k:Nat):TlP:=if awBeginE s.A k=0 then ⟨awBegin s.A k,s.T,fset s.F k (fun _=>none),fset s.z k 0⟩ else ⟨awBegin s.A k,s.T,s.F,s.z⟩
def tlWrite (s:TlP) (k:Nat) (x:WrP):TlP:=
 if awWriteE s.A k x=0 then ⟨awWrite s.A k x,s.T,fset s.F k (wput (s.F k) x.key x),fset s.z k (if (s.F k x.key).isSome then s.z k else s.z k+1)⟩ else ⟨awWrite s.A k x,s.T,s.F,s.z⟩
def tlCommit (s:TlP) (k:Nat):TlP:=⟨awCommit s.A k,if awCommitE s.A k=0∧0<(awCommitT s.A k).seq then s.T++[awCommitT s.A k] else s.T,s.F,s.z⟩
def tlTo (s:TlP) (A:AWd):TlP:=⟨A,s.T,s.F,s.z⟩
noncomputable def tlDo (s:TlP) (a:TaP) (sw:Bool):TlP:=
 if a.what=0 then tlBegin s (tlK s a)
 else if a.what=1 then s
 else if a.what=2 then tlWrite s (tlK s a) (tlX a)
 else if a.what=3 then tlCommit s (tlK s a)
 else if a.what=4 then tlTo s (awAbort s.A (tlK s a))
 else if a.what=5 then tlTo s (awMove s.A (tlK s a) (pickN a.n s.A.S:Int))
 else if a.what=6 then tlTo s (awGoes s.A (tlS s a) (pickN a.n 50:Int))
 else if a.what=7 then (if tlS s a=pickN a.n s.A.S then s else tlTo s (awAsk s.A (tlS s a) (pickN a.n s.A.S)))
 else if a.what=8 then (if 0<s.A.way.length then tlTo s (awDeliver s.A (tlI s a)) else s)
 else if a.what=9 then (if 0<s.A.way.length then tlTo s (awOut s.A (tlI s a)) else s)
 else if a.what=10 then (if 0<s.A.way.length then tlTo s (awTwice s.A (tlI s a)) else s)
 else if a.what=11 then (if sw=true then tlTo s (awSweep s.A (tlS s a)) else s)
 else if a.what=12 then tlTo s (awCalm s.A)
 else s
structure TlOk (s:TlP) (b:Nat→Int→Int):Prop where
 inv:CInv s.A s.T b
 C:1≤s.A.C
 own:∀ k,k<s.A.C→(s.A.cl k).op=true→(∀ key,s.F k key=lastW (s.A.cl k).W key)∧s.z k=(allW (s.A.cl k).W 8).length
section
variable {s:TlP} {b:Nat→Int→Int}
theorem TlOk.to (h:TlOk s b) {A:AWd} {b':Nat→Int→Int} (hi:CInv A s.T b') (hC:A.C=s.A.C) (hc:A.cl=s.A.cl):TlOk (tlTo s A) b':=
 ⟨hi,by show 1≤A.C;rw [hC];exact h.C,fun k hk ho=>by
   have hk2:k<s.A.C:=by rw [←hC];exact hk
   have e:(tlTo s A).A.cl k=s.A.cl k:=by show A.cl k=_;rw [hc]
   rw [e] at ho ⊢
   exact h.own k hk2 ho⟩
theorem TlOk.cls (h:TlOk s b) {A:AWd} {b':Nat→Int→Int} {k:Nat} (hi:CInv A s.T b') (hC:A.C=s.A.C) (hc:∀ i,i≠k→A.cl i=s.A.cl i) (ho:(A.cl k).op=true→(A.cl k).W=(s.A.cl k).W∧(s.A.cl k).op=true):TlOk (tlTo s A) b':=
 ⟨hi,by show 1≤A.C;rw [hC];exact h.C,fun i hik hop=>by
   have hk2:i<s.A.C:=by rw [←hC];exact hik
   by_cases e:i=k
   ·subst e
    obtain ⟨e1,e2⟩:=ho hop
    have:=h.own i hk2 e2
    show (∀ key,s.F i key=lastW (A.cl i).W key)∧s.z i=(allW (A.cl i).W 8).length
    rw [e1];exact this
   ·have e2:(tlTo s A).A.cl i=s.A.cl i:=hc i e
    rw [e2] at hop ⊢
    exact h.own i hk2 hop⟩
theorem TlOk.begin_ (h:TlOk s b) {k:Nat} (hk:k<s.A.C):TlOk (tlBegin s k) b:=by
 have hi:=h.inv.begin_ hk
 unfold tlBegin
 by_cases he:awBeginE s.A k=0
 ·rw [if_pos he]
  refine ⟨hi,h.C,fun i hik hop=>?_⟩
  by_cases e:i=k
  ·subst e
   show (∀ key,fset s.F i (fun _=>none) i key=lastW (fset s.A.cl i _ i).W key)∧fset s.z i 0 i=(allW (fset s.A.cl i _ i).W 8).length
   simp only [fset_same]
   have hd:(dBegin (s.A.cl i) (awSe s.A i).p0 (awSe s.A i).p1 (awSe s.A i).p2 (awSe s.A i).p3).W=[]:=by
    unfold dBegin
    rw [if_pos (show sdBeginE _ _ _ _ _=0 from he)];rfl
   rw [hd]
   exact ⟨fun key=>rfl,rfl⟩
  ·have e2:(awBegin s.A k).cl i=s.A.cl i:=fset_other _ e
   show (∀ key,fset s.F k (fun _=>none) i key=lastW ((awBegin s.A k).cl i).W key)∧fset s.z k 0 i=(allW ((awBegin s.A k).cl i).W 8).length
   rw [fset_other _ e,fset_other _ e,e2]
   have hop2:(s.A.cl i).op=true:=by rw [←e2];exact hop
   exact h.own i hik hop2
 ·rw [if_neg he]
  refine (h.cls (A:=awBegin s.A k) (k:=k) hi rfl (fun i hne=>fset_other _ hne) fun ho=>?_)
  have e2:(awBegin s.A k).cl k=s.A.cl k:=by
   show fset s.A.cl k (dBegin _ _ _ _ _) k=_
   rw [fset_same]
   unfold dBegin
   exact if_neg he
  rw [e2] at ho ⊢
  exact ⟨rfl,ho⟩
theorem TlOk.write (h:TlOk s b) {k:Nat} (hk:k<s.A.C) (x:WrP):TlOk (tlWrite s k x) b:=by
 have hi:=h.inv.write hk x
 unfold tlWrite
 by_cases he:awWriteE s.A k x=0
 ·rw [if_pos he]
  obtain ⟨h1,h2,h3,h4,h5⟩:=sdWriteE_ok he
  obtain ⟨kx,hx⟩:=Int.eq_ofNat_of_zero_le h2.1
  obtain ⟨o1,o2⟩:=h.own k hk h1
  refine ⟨hi,h.C,fun i hik hop=>?_⟩
  by_cases e:i=k
  ·subst e
   show (∀ key,fset s.F i (wput (s.F i) x.key x) i key=lastW (fset s.A.cl i (dWrite (s.A.cl i) x) i).W key)∧fset s.z i _ i=(allW (fset s.A.cl i (dWrite (s.A.cl i) x) i).W 8).length
   simp only [fset_same]
   have hd:(dWrite (s.A.cl i) x).W=(s.A.cl i).W++[x]:=by
    unfold dWrite
    rw [if_pos (show sdWriteE _ _=0 from he)]
   rw [hd]
   refine ⟨fun key=>?_,?_⟩
   ·rw [lastW_app]
    unfold wput
    by_cases e:key=x.key
    ·rw [if_pos e,if_pos e.symm]
    ·rw [if_neg e,if_neg (fun e2=>e e2.symm)];exact o1 key
   ·rw [allW_more _ x kx hx,o1,o2,hx]
    cases hl:lastW (s.A.cl i).W (kx:Int) with
    | none=>simp;omega
    | some y=>simp
  ·have e2:(awWrite s.A k x).cl i=s.A.cl i:=fset_other _ e
   show (∀ key,fset s.F k _ i key=lastW ((awWrite s.A k x).cl i).W key)∧fset s.z k _ i=(allW ((awWrite s.A k x).cl i).W 8).length
   rw [fset_other _ e,fset_other _ e,e2]
   have hop2:(s.A.cl i).op=true:=by rw [←e2];exact hop
   exact h.own i hik hop2
 ·rw [if_neg he]
  refine (h.cls (A:=awWrite s.A k x) (k:=k) hi rfl (fun i hne=>fset_other _ hne) fun ho=>?_)
  have e2:(awWrite s.A k x).cl k=s.A.cl k:=by
   show fset s.A.cl k (dWrite _ _) k=_
   rw [fset_same]
   unfold dWrite
   exact if_neg he
  rw [e2] at ho ⊢
  exact ⟨rfl,ho⟩
theorem awCommit_C (A:AWd) (k:Nat):(awCommit A k).C=A.C∧(awCommit A k).S=A.S∧∀ i,(awCommit A k).cl i=(awCommit1 A k).cl i:=by
 unfold awCommit
 split
 ·have h1:=awSends_eq (awTo A (A.pl k) (awCommitT A k) A.S) (awCommit1 A k)
  have h2:=awCommit1_eq A k
  exact ⟨h1.2.1.trans h2.2,h1.1.trans h2.1,fun i=>congrFun h1.2.2.2.2.1 i⟩
 ·have h2:=awCommit1_eq A k
  exact ⟨h2.2,h2.1,fun i=>rfl⟩
theorem TlOk.commit (h:TlOk s b) {k:Nat} (hk:k<s.A.C):TlOk (tlCommit s k) b:=by
 have hi:=h.inv.commit hk
 obtain ⟨e1,e2,e3⟩:=awCommit_C s.A k
 refine ⟨hi,by show 1≤(awCommit s.A k).C;rw [e1];exact h.C,fun i hik hop=>?_⟩
 have hik2:i<s.A.C:=by rw [←e1];exact hik
 have hop2:((awCommit1 s.A k).cl i).op=true:=by rw [←e3 i];exact hop
 show (∀ key,s.F i key=lastW ((awCommit s.A k).cl i).W key)∧s.z i=(allW ((awCommit s.A k).cl i).W 8).length
 rw [e3 i]
 unfold awCommit1 at hop2 ⊢
 by_cases he:awCommitE s.A k=0
 ·rw [if_pos he] at hop2 ⊢
  by_cases e:i=k
  ·subst e
   exfalso
   have:(fset s.A.cl i (dCommitD (s.A.cl i) (awSe s.A i) (s.A.wl (s.A.pl i))) i).op=true:=hop2
   rw [fset_same,dCommit_op] at this
   cases this
  ·have e4:fset s.A.cl k (dCommitD (s.A.cl k) (awSe s.A k) (s.A.wl (s.A.pl k))) i=s.A.cl i:=fset_other _ e
   show (∀ key,s.F i key=lastW (fset s.A.cl k _ i).W key)∧s.z i=(allW (fset s.A.cl k _ i).W 8).length
   rw [e4]
   exact h.own i hik2 (by rw [←e4];exact hop2)
 ·rw [if_neg he] at hop2 ⊢
  exact h.own i hik2 hop2
theorem TlOk.step (h:TlOk s b) (hl:s.T.length<200) (a:TaP) (sw:Bool):∃ b',TlOk (tlDo s a sw) b':=by
 have hk:tlK s a<s.A.C:=pickN_lt _ h.C
 have hs:tlS s a<s.A.S:=pickN_lt _ (by have:=h.inv.S;omega)
 have hn:pickN a.n s.A.S<s.A.S:=pickN_lt _ (by have:=h.inv.S;omega)
 unfold tlDo
 by_cases h0:a.what=0
 ·rw [if_pos h0];exact ⟨b,h.begin_ hk⟩
 rw [if_neg h0]
 by_cases h1:a.what=1
 ·rw [if_pos h1];exact ⟨b,h⟩
 rw [if_neg h1]
 by_cases h2:a.what=2
 ·rw [if_pos h2];exact ⟨b,h.write hk _⟩
 rw [if_neg h2]
 by_cases h3:a.what=3
 ·rw [if_pos h3];exact ⟨b,h.commit hk⟩
 rw [if_neg h3]
 by_cases h4:a.what=4
 ·rw [if_pos h4]
  refine ⟨b,h.cls (k:=tlK s a) (h.inv.abort hk) rfl (fun i hne=>fset_other _ hne) fun ho=>?_⟩
  exfalso
  have h2:(fset s.A.cl (tlK s a) (dAbort (s.A.cl (tlK s a))) (tlK s a)).op=true:=ho
  rw [fset_same] at h2
  unfold dAbort at h2
  split at h2
  ·cases h2
  ·rename_i h3;exact h3 h2
 rw [if_neg h4]
 by_cases h5:a.what=5
 ·rw [if_pos h5]
  refine ⟨b,h.to (h.inv.move hk _) ?_ ?_⟩ <;> (unfold awMove;split <;> rfl)
 rw [if_neg h5]
 by_cases h6:a.what=6
 ·rw [if_pos h6];exact ⟨b,h.to (h.inv.goes _ _) rfl rfl⟩
 rw [if_neg h6]
 by_cases h7:a.what=7
 ·rw [if_pos h7]
  by_cases hne:tlS s a=pickN a.n s.A.S
  ·rw [if_pos hne];exact ⟨b,h⟩
  ·rw [if_neg hne];exact ⟨b,h.to (h.inv.ask hs hn hne) (awAsk_SC _ _ _).2.1 (awAsk_SC _ _ _).2.2.1⟩
 rw [if_neg h7]
 have hI:0<s.A.way.length→tlI s a<s.A.way.length:=fun h0=>by unfold tlI;rw [if_pos h0];exact pickN_lt _ h0
 by_cases h8:a.what=8
 ·rw [if_pos h8]
  by_cases hw:0<s.A.way.length
  ·rw [if_pos hw];exact ⟨b,h.to (h.inv.deliver hl (hI hw)) (awDeliver_SC _ _).2.1 (awDeliver_SC _ _).2.2.1⟩
  ·rw [if_neg hw];exact ⟨b,h⟩
 rw [if_neg h8]
 by_cases h9:a.what=9
 ·rw [if_pos h9]
  by_cases hw:0<s.A.way.length
  ·rw [if_pos hw];exact ⟨b,h.to (h.inv.out_ _) rfl rfl⟩
  ·rw [if_neg hw];exact ⟨b,h⟩
 rw [if_neg h9]
 by_cases h10:a.what=10
 ·rw [if_pos h10]
  by_cases hw:0<s.A.way.length
  ·rw [if_pos hw];exact ⟨b,h.to (h.inv.twice (hI hw)) (awSend_eq _ _).2.1 (awSend_eq _ _).2.2.2.2.1⟩
  ·rw [if_neg hw];exact ⟨b,h⟩
 rw [if_neg h10]
 by_cases h11:a.what=11
 ·rw [if_pos h11]
  cases sw with
  | true=>
    obtain ⟨b',h1⟩:=h.inv.sweep hs
    exact ⟨b',h.to h1 rfl rfl⟩
  | false=>exact ⟨b,h⟩
 rw [if_neg h11]
 by_cases h12:a.what=12
 ·rw [if_pos h12];exact ⟨b,h.to (h.inv.calm hl) (awCalm_SC _).2.1 (awCalm_SC _).2.2.1⟩
 ·rw [if_neg h12];exact ⟨b,h⟩
structure TlSw (s t:TlP):Prop where
 A:Sw s.A t.A
 T:s.T=t.T
 F:s.F=t.F
 z:s.z=t.z
end
section
variable {w0 w w':World} {n:Nat} {O:Nat→Ob}
theorem Mem.less (h:Mem w0 w n O) {m:Nat} (hm:m≤n):Mem w0 w m O:=
 ⟨h.low,fun i hi=>h.ok i (by omega),fun i hi=>h.at_ i (by omega),fun i j hi hj=>h.dis i j (by omega) (by omega)⟩
theorem Mem.size (h:Mem w0 w n O):w0.heap.size≤w.heap.size:=h.low.size
theorem Mem.new (h:Mem w0 w n O) (o:Obj):Mem w0 (w.alloc o) (n+1) (oset O n (obB w.heap.size o w0.heap.size)):=
 h.push (blw_alloc (Below.refl _ _)) (obB_ok ..) ⟨h.size,blk_new rfl _⟩ (fun b e=>by cases e;exact Nat.le_refl _) (fun b e=>e.elim)
theorem Mem.box (h:Mem w0 w n O) {i b:Nat} {o:Obj} (hi:i<n) (he:O i=obB b o w0.heap.size):w.heap[b]?=some o:=by
 have:=h.at_ i hi
 rw [he] at this
 exact this.2
theorem Mem.grow (h:Mem w0 w n O) {i b:Nat} {o o':Obj} (hi:i<n) (he:O i=obB b o w0.heap.size) (hg:w.grownBy w' (some b)) (ho:w'.heap[b]?=some o'):Mem w0 w' n (oset O i (obB b o' w0.heap.size)):=by
 have h1:=h.at_ i hi
 rw [he] at h1
 refine h.step hi (obB_ok ..) ⟨h1.1,ho⟩ ⟨hg.os,hg.tape,hg.output,hg.size,fun k hk hn=>hg.block k hk (fun e=>hn ?_),fun k hk=>.inl ?_⟩ (fun k e=>e.elim)
 ·rw [he];exact Option.some.inj e
 ·rw [he];exact hk
theorem Mem.set (h:Mem w0 w n O) {i b:Nat} {cs:Array Value} {t:TypeId} (hi:i<n) (he:O i=obB b (.cells cs t) w0.heap.size) (k:Nat) (v:Value):
  Mem w0 (w.setCell ⟨b,k,none⟩ v) n (oset O i (obB b (.cells (cs.setIfInBounds k v) t) w0.heap.size)):=
 h.grow hi he (grown_set w b k v) (blk_set (h.box hi he) k v)
theorem Mem.fill9 (h:Mem w0 w n O) {i b:Nat} {z0 z1 z2 z3 z4 z5 z6 z7 z8:Value} {t:TypeId} (hi:i<n) (he:O i=obB b (.cells #[z0,z1,z2,z3,z4,z5,z6,z7,z8] t) w0.heap.size) (u0 u1 u2 u3 u4 u5 u6 u7 u8:Value):
  Mem w0 (put9 w b u0 u1 u2 u3 u4 u5 u6 u7 u8) n (oset O i (obB b (.cells #[u0,u1,u2,u3,u4,u5,u6,u7,u8] t) w0.heap.size)):=
 h.grow hi he (put9_grown w b u0 u1 u2 u3 u4 u5 u6 u7 u8) (put9_blk (h.box hi he))
theorem Mem.fresh (h:Mem w0 w n O) {k b:Nat} (hk:k<n) (hb:w.heap.size≤b):¬(O k).own b:=fun e=>by
 have:=((h.ok k hk).lt w b (h.at_ k hk) e).2
 omega
end
section
variable {w0 w w':World} {n:Nat} {O:Nat→Ob}
theorem Mem.new1 (h:Mem w0 w n O) (a:Obj):∃ O',Mem w0 (w.alloc a) (n+1) O'∧(∀ k,k<n→O' k=O k)∧O' n=obB w.heap.size a w0.heap.size:=
 ⟨_,h.new a,fun k hk=>oset_other _ (by omega),oset_same ..⟩
theorem Mem.new2 (h:Mem w0 w n O) (a b:Obj):∃ O',Mem w0 ((w.alloc a).alloc b) (n+2) O'∧(∀ k,k<n→O' k=O k)∧O' n=obB w.heap.size a w0.heap.size∧O' (n+1)=obB (w.heap.size+1) b w0.heap.size:=by
 have h1:=(h.new a).new b
 rw [World.size_alloc] at h1
 exact ⟨_,h1,fun k hk=>by rw [oset_other _ (by omega),oset_other _ (by omega)],by rw [oset_other _ (by omega),oset_same],oset_same ..⟩
theorem Mem.fill9' (h:Mem w0 w n O) {i b:Nat} {z0 z1 z2 z3 z4 z5 z6 z7 z8:Value} {t:TypeId} (hi:i<n) (he:O i=obB b (.cells #[z0,z1,z2,z3,z4,z5,z6,z7,z8] t) w0.heap.size) (u0 u1 u2 u3 u4 u5 u6 u7 u8:Value):
  ∃ O',Mem w0 (put9 w b u0 u1 u2 u3 u4 u5 u6 u7 u8) n O'∧O' i=obB b (.cells #[u0,u1,u2,u3,u4,u5,u6,u7,u8] t) w0.heap.size∧∀ k,k≠i→O' k=O k:=
 ⟨_,h.fill9 hi he u0 u1 u2 u3 u4 u5 u6 u7 u8,oset_same ..,fun k hk=>oset_other _ hk⟩
def obWs (A:Option Addr) (ws:List WrP):Ob:=⟨fun w=>WsAt w A ws∧∀ b o,A=some ⟨b,o,none⟩→b<w.heap.size,fun _=>False,fun b=>∃ o,A=some ⟨b,o,none⟩⟩
theorem obWs_ok (A:Option Addr) (ws:List WrP) (B:Nat):(obWs A ws).Ok B:=
 ⟨fun w w' h hs hb=>⟨h.1.keep fun b o e=>hb b (.inr ⟨o,e⟩),fun b o e=>Nat.lt_of_lt_of_le (h.2 b o e) hs⟩,fun w b h e=>e.elim,fun w b h ⟨o,e⟩=>h.2 b o e⟩
theorem Mem.lend (h:Mem w0 w n O) {o:Ob} (ho:o.Ok w0.heap.size) (ha:o.at_ w) (hn:∀ b,¬o.own b) (hd:∀ b k,k<n→o.dat b→¬(O k).own b):Mem w0 w (n+1) (oset O n o):=by
 refine ⟨h.low,fun k hk=>?_,fun k hk=>?_,fun i j hi hj hij b hb=>?_⟩
 ·by_cases e:k=n
  ·subst e;rw [oset_same];exact ho
  ·rw [oset_other _ e];exact h.ok k (by omega)
 ·by_cases e:k=n
  ·subst e;rw [oset_same];exact ha
  ·rw [oset_other _ e];exact h.at_ k (by omega)
 ·by_cases e:i=n
  ·subst e;rw [oset_same] at hb;exact absurd hb (hn b)
  ·rw [oset_other _ e] at hb
   by_cases e2:j=n
   ·subst e2
    rw [oset_same]
    exact ⟨hn b,fun e3=>hd b i (by omega) e3 hb⟩
   ·rw [oset_other _ e2]
    exact h.dis i j (by omega) (by omega) hij b hb
theorem Mem.lend1 (h:Mem w0 w n O) {o:Ob} (ho:o.Ok w0.heap.size) (ha:o.at_ w) (hn:∀ b,¬o.own b) (hd:∀ b k,k<n→o.dat b→¬(O k).own b):∃ O',Mem w0 w (n+1) O'∧(∀ k,k<n→O' k=O k)∧O' n=o:=
 ⟨_,h.lend ho ha hn hd,fun k hk=>oset_other _ (by omega),oset_same ..⟩
theorem Mem.step1 (h:Mem w0 w n O) {i:Nat} (hi:i<n) {o:Ob} (ho:o.Ok w0.heap.size) (hat:o.at_ w') (fr:SiFr w w' (O i).own o.own) (hd:∀ b,o.dat b→(O i).dat b∨w.heap.size≤b):∃ O',Mem w0 w' n O'∧O' i=o∧∀ k,k≠i→O' k=O k:=
 ⟨_,h.step hi ho hat fr hd,oset_same ..,fun k hk=>oset_other _ hk⟩
theorem Mem.pick (h:Mem w0 w n O) {m:Nat} (f:Nat→Nat) (hf:∀ k,k<m→f k<n) (hi:∀ j k,j<m→k<m→f j=f k→j=k):Mem w0 w m (fun k=>O (f k)):=
 ⟨h.low,fun k hk=>h.ok _ (hf k hk),fun k hk=>h.at_ _ (hf k hk),fun j k hj hk hne=>h.dis _ _ (hf j hj) (hf k hk) (fun e=>hne (hi j k hj hk e))⟩
end
theorem dec_ret {D:Option TxP} {w W:World} {b:Nat} {u0 u1 u2 u3 u4 u5 u6 u7 u8 x0 x1 x2 x3 x4 x5 x6 x7 x8 e:Value} {a:Act} (h:W.heap[b]?=some (.cells #[x0,x1,x2,x3,x4,x5,x6,x7,x8] 44))
  (hd:a.defers=[]) (h2:a.tmps[2]?.getD undef=.pointer (some ⟨b,0,none⟩)) (h3:a.tmps[3]?.getD undef=e)
  (hp:TxPost w D (.returned (.tuple #[.agg #[u0,u1,u2,u3,u4,u5,u6,u7,u8],e])) (put9 W b u0 u1 u2 u3 u4 u5 u6 u7 u8)):
  bodyPost Tryz.prog Tryz.f149 (TxPost w D) .ret a (put9 W b u0 u1 u2 u3 u4 u5 u6 u7 u8):=by
 have hb:=blk9 (put9_blk (u0:=u0) (u1:=u1) (u2:=u2) (u3:=u3) (u4:=u4) (u5:=u5) (u6:=u6) (u7:=u7) (u8:=u8) h)
 go_split_ands
 refine bodyPost_ret ?_ hd hp
 simp only [results,Tryz.results149]
 simp [go_sem,h2,h3, *]
theorem info43x:∃ i,Tryz.prog.info? 83=some i∧i.zero=some (.agg #[.int .i64 0,.string ⟨#[]⟩,.bool false])∧i.size=3∧i.bytes=32:=by
 obtain ⟨i,hi,h⟩:=Option.map_eq_some_iff.1 info43
 simp only [Prod.mk.injEq] at h
 exact ⟨i,hi,h.1,h.2.1,h.2.2⟩
theorem dtst_start {w w6:World} {x0 x1 x2 x3 x4 x5 x6 x7:Int} {o o2:Obj} {r:Rd}
  (ho:o=.cells #[.int .i64 0,.int .i64 0,.int .i64 0,.int .i64 0,.int .i64 0,.int .i64 0,.int .i64 0,.int .i64 0,.slice none 0 0] 44)
  (hr:RdAt w6 (w.heap.size+1) r) (hb:Below (w.heap.size+1) (w.alloc o) w6) (hlt:w.heap.size+1<w6.heap.size)
  (ho2:o2=.cells #[.int .i64 x0,.int .i64 x1,.int .i64 x2,.int .i64 x3,.int .i64 x4,.int .i64 x5,.int .i64 x6,.int .i64 x7,.slice none 0 0] 44):
  DtSt w (w6.alloc o2) (w.heap.size+1) w6.heap.size x0 x1 x2 x3 x4 x5 x6 x7 none 0 [] r:=by
 subst ho ho2
 have hz:=hb.block w.heap.size (by omega)
 rw [heap_alloc,if_pos rfl] at hz
 refine ⟨hr.above fun k hk=>by rw [heap_alloc,if_neg (by omega)],by rw [heap_alloc,if_neg (by omega)];exact hz,by rw [heap_alloc,if_pos rfl];rfl,⟨rfl,.inl ⟨rfl,rfl⟩⟩,?_,by omega,hlt⟩
 have h1:Below w.heap.size w w6:=Below.trans (blw_alloc (Below.refl _ _)) (hb.mono (by omega))
 exact h1.alloc (by omega) _
def finT (x:TxP×Rd):Option TxP:=if x.2.bad||!x.2.l.isEmpty||!rightTx x.1 then none else some x.1
theorem decTx_finT (l:List UInt8):decTx l=finT (rawTx (beginR 116 l)):=by unfold decTx finT;rfl
theorem finTx_finT (h d:Nat×Nat×Nat×Nat) (F:List WrP×Rd):finTx h d F=finT (txOf h d F.1,F.2):=by unfold finTx finT;rfl
theorem rawTx_eq (r:Rd):rawTx r=(txOf (numR4 r).1 (numR4 (numR4 r).2).1 (wrsR (numR (numR4 (numR4 r).2).2).1 [] (numR (numR4 (numR4 r).2).2).2).1,(wrsR (numR (numR4 (numR4 r).2).2).1 [] (numR (numR4 (numR4 r).2).2).2).2):=by unfold rawTx;rfl
theorem decTx_fin (l:List UInt8):decTx l=finTx (numR4 (beginR 116 l)).1 (numR4 (numR4 (beginR 116 l)).2).1 (wrsR (numR (numR4 (numR4 (beginR 116 l)).2).2).1 [] (numR (numR4 (numR4 (beginR 116 l)).2).2).2):=by
 rw [decTx_finT,finTx_finT,rawTx_eq]
end Go.Proofs.YtbopfhbeegkkaabGreatDoor
