/- Part M1 of a proof: lemmas and contracts that other parts use. -/
import Derived.Test.YtbopfhbeegkkaabGreatDoorCa25
import Derived.Test.YtbopfhbeegkkaabGreatDoorCa38
set_option linter.unusedVariables false
set_option linter.unusedSimpArgs false
set_option linter.constructorNameAsVariable false
namespace Go.Proofs.YtbopfhbeegkkaabGreatDoor
open Go.RowKit
def alS (v:Int→Int) (t:TxP):Int→Int:=fun j=>if j=t.site then max (v j) t.seq else v j
def alV (T:List TxP):Int→Int:=T.foldl alS fun _=>0
theorem alV_app (T:List TxP) (t:TxP):alV (T++[t])=alS (alV T) t:=by unfold alV;rw [List.foldl_append];rfl
theorem alG_up:∀ (T:List TxP) (v:Int→Int) (j:Int),v j≤(T.foldl alS v) j
 | [],_,_=>Int.le_refl _
 | t::T,v,j=>by
   refine Int.le_trans ?_ (alG_up T (alS v t) j)
   unfold alS
   split
   ·omega
   ·exact Int.le_refl _
theorem alG_ge:∀ (T:List TxP) (v:Int→Int) (t:TxP),t∈T→t.seq≤(T.foldl alS v) t.site
 | u::T,v,t,h=>by
   rcases List.mem_cons.1 h with e | e
   ·subst e
    refine Int.le_trans ?_ (alG_up T (alS v t) t.site)
    unfold alS
    rw [if_pos rfl]
    omega
   ·exact alG_ge T (alS v u) t e
theorem alG_is:∀ (T:List TxP) (v:Int→Int) (j:Int),(T.foldl alS v) j=v j∨∃ t∈T,t.site=j∧t.seq=(T.foldl alS v) j
 | [],_,_=>.inl rfl
 | u::T,v,j=>by
   rcases alG_is T (alS v u) j with e | ⟨t,h1,h2,h3⟩
   ·show (T.foldl alS (alS v u)) j=v j∨∃ t∈u::T,t.site=j∧t.seq=(T.foldl alS (alS v u)) j
    rw [e]
    unfold alS
    split
    ·rename_i hj
     by_cases hm:u.seq≤v j
     ·left;omega
     ·right;exact ⟨u,List.mem_cons_self ..,hj.symm,by omega⟩
    ·left;rfl
   ·exact .inr ⟨t,List.mem_cons_of_mem _ h1,h2,h3⟩
section
variable {A:AWd} {T:List TxP} {b:Nat→Int→Int}
theorem CInv.all_own (h:CInv A T b) {j:Nat} (hj:j<A.S):(A.si j).at (j:Int)=alV T (j:Int):=by
 have h0:=((h.si j hj).1.top (j:Int)).1
 refine Int.le_antisymm ?_ ?_
 ·by_cases h1:1≤(A.si j).at (j:Int)
  ·obtain ⟨t,ht,t1,t2⟩:=h.has j hj _ h1 (Int.le_refl _)
   have:=alG_ge T (fun _=>0) t ht
   rw [t1,t2] at this
   exact this
  ·have:=alG_up T (fun _=>0) (j:Int)
   have h2:(0:Int)≤alV T (j:Int):=this
   omega
 ·rcases alG_is T (fun _=>0) (j:Int) with e | ⟨t,ht,t1,t2⟩
  ·have h2:alV T (j:Int)=0:=e
   omega
  ·obtain ⟨k,hk,e1,e2⟩:=h.site t ht
   obtain rfl:k=j:=by omega
   have h2:t.seq=alV T (k:Int):=t2
   omega
theorem CInv.all_out (h:CInv A T b) {j:Nat} (hj:A.S≤j):alV T (j:Int)=0:=by
 rcases alG_is T (fun _=>0) (j:Int) with e | ⟨t,ht,t1,t2⟩
 ·exact e
 ·obtain ⟨k,hk,e1,e2⟩:=h.site t ht
  omega
theorem CInv.met2 (hl:T.length<200) (h:CInv A T b) {k:Nat} (hk:k<A.S):(∀ j:Nat,j<4→((awCalm (awCalm A)).si k).at (j:Int)=alV T (j:Int))∧((awCalm (awCalm A)).si k).ws=[]:=by
 have h1:=h.calm hl
 have hS:=(awCalm_SC A).1
 have h2:=h1.calm hl
 have hS2:=(awCalm_SC (awCalm A)).1
 obtain ⟨_,m⟩:=CInv.met hl h1
 obtain ⟨m1,m2⟩:=m k (by rw [hS];exact hk)
 refine ⟨fun j hj=>?_,m2⟩
 by_cases hjS:j<A.S
 ·rw [m1 j (by rw [hS];exact hjS)]
  exact h1.all_own (by rw [hS];exact hjS)
 ·rw [h.all_out (by omega)]
  exact h2.out k (by rw [hS2,hS];exact hk) j (by rw [hS2,hS];omega) hj
theorem CInv.met4 (hl:T.length<200) (h:CInv A T b) {k:Nat} (hk:k<A.S):((awCalm (awCalm A)).si k).p0=alV T 0∧((awCalm (awCalm A)).si k).p1=alV T 1∧((awCalm (awCalm A)).si k).p2=alV T 2∧((awCalm (awCalm A)).si k).p3=alV T 3∧((awCalm (awCalm A)).si k).ws=[]:=by
 obtain ⟨m1,m2⟩:=h.met2 hl hk
 exact ⟨m1 0 (by omega),m1 1 (by omega),m1 2 (by omega),m1 3 (by omega),m2⟩
theorem CInv.txt (h:CInv A T b) {k:Nat} (hk:k<A.S) {key:Nat} (hkey:key<8):
  (aTold (A.si k))[key]?=some (if (lsOf (lastT T (A.si k).p0 (A.si k).p1 (A.si k).p2 (A.si k).p3 (key:Int))).2=true then ⟨#[61]⟩++(lsOf (lastT T (A.si k).p0 (A.si k).p1 (A.si k).p2 (A.si k).p3 (key:Int))).1 else ⟨#[]⟩):=by
 have ht:=h.told hk (key:=(key:Int)) (by omega)
 unfold aTold toldT
 rw [List.getElem?_map,List.getElem?_range hkey]
 show some (txtOf (rRead (A.si k).p0 (A.si k).p1 (A.si k).p2 (A.si k).p3 (A.si k).held (key:Int)))=_
 rw [ht]
 generalize lastT T (A.si k).p0 (A.si k).p1 (A.si k).p2 (A.si k).p3 (key:Int)=r
 obtain ⟨v,f⟩:=r
 unfold lsOf txtOf
 cases f with
 | false=>simp
 | true=>cases hg:v.gone <;> simp [hg]
end
end Go.Proofs.YtbopfhbeegkkaabGreatDoor
