/- Part 11 of a proof: lemmas and contracts that other parts use. -/
import Derived.Test.YtbopfhbeegkkaabGreatDoorCa10
import Derived.Test.YtbopfhbeegkkaabGreatDoorCa3
import Derived.Test.YtbopfhbeegkkaabGreatDoorCa4
import Derived.Test.YtbopfhbeegkkaabGreatDoorCa6
import Derived.RegionTactic
import Derived.Deep.RegionHeld3
set_option linter.unusedVariables false
set_option linter.unusedSimpArgs false
namespace Go.Proofs.YtbopfhbeegkkaabGreatDoor
def Fit (S:Nat→List VerP) (N:Nat):Prop:=∀ k,k<8→(∀ x∈S k,0≤x.site∧x.site<4)∧(S k).length≤N
def ltV (a b:VerP):Prop:=a.w<b.w∨(a.w=b.w∧(a.c<b.c∨(a.c=b.c∧a.site<b.site)))
def sameV (a b:VerP):Prop:=a.w=b.w∧a.c=b.c∧a.site=b.site
theorem cmpV_neg (a b:VerP):cmpV a b<0↔ltV a b:=by
 unfold cmpV cmpS orI cmpI ltV
 repeat' split
 all_goals omega
theorem cmpV_zero (a b:VerP):cmpV a b=0↔sameV a b:=by
 unfold cmpV cmpS orI cmpI sameV
 repeat' split
 all_goals omega
theorem ltV_trans {a b c:VerP} (h:ltV a b) (h2:ltV b c):ltV a c:=by unfold ltV at *;omega
theorem ltV_irr {a b:VerP} (h:ltV a b) (h2:ltV b a):False:=by unfold ltV at *;omega
theorem ltV_tri (a b:VerP):ltV a b∨sameV a b∨ltV b a:=by unfold ltV sameV;omega
theorem ltV_same {a b:VerP} (h:ltV a b) (h2:sameV a b):False:=by unfold ltV sameV at *;omega
def Srt (vs:List VerP):Prop:=vs.Pairwise ltV
theorem srt_lt {vs:List VerP} (h:Srt vs) {i j:Nat} (hij:i<j) (hj:j<vs.length):ltV (vs.getD i default) (vs.getD j default):=by
 have:=List.pairwise_iff_getElem.1 h i j (by omega) hj hij
 simpa [List.getD,List.getElem?_eq_getElem (show i<vs.length by omega),List.getElem?_eq_getElem hj] using this
theorem getD_mem' {vs:List VerP} {i:Nat} (h:i<vs.length):vs.getD i default∈vs:=by
 simp [List.getD,List.getElem?_eq_getElem h]
theorem mem_getD {vs:List VerP} {x:VerP} (h:x∈vs):∃ i,i<vs.length∧vs.getD i default=x:=by
 obtain ⟨i,hi,rfl⟩:=List.getElem_of_mem h
 exact ⟨i,hi,by simp [List.getD,List.getElem?_eq_getElem hi]⟩
theorem bsGo_spec {vs:List VerP} (hs:Srt vs) (v:VerP):∀ (f lo hi:Nat),hi-lo≤f→lo≤hi→hi≤vs.length→(∀ i,i<lo→ltV (vs.getD i default) v)→(∀ i,hi≤i→i<vs.length→¬ltV (vs.getD i default) v)→
  (∀ i,i<bsGo vs v f lo hi→ltV (vs.getD i default) v)∧(∀ i,bsGo vs v f lo hi≤i→i<vs.length→¬ltV (vs.getD i default) v)
 | 0,lo,hi,hf,hl,hh,h1,h2=>by
   unfold bsGo
   exact ⟨h1,fun i hi' hl'=>h2 i (by omega) hl'⟩
 | f+1,lo,hi,hf,hl,hh,h1,h2=>by
   unfold bsGo
   split
   ·split
    ·rename_i hlt hc
     refine bsGo_spec hs v f _ hi (by omega) (by omega) hh ?_ h2
     intro i hi'
     rw [cmpV_neg] at hc
     by_cases e:i=(lo+hi) / 2
     ·subst e;exact hc
     ·exact ltV_trans (srt_lt hs (by omega) (by omega)) hc
    ·rename_i hlt hc
     refine bsGo_spec hs v f lo _ (by omega) (by omega) (by omega) h1 ?_
     intro i hi' hl'
     rw [cmpV_neg] at hc
     by_cases e:i=(lo+hi) / 2
     ·subst e;exact hc
     ·intro h;exact hc (ltV_trans (srt_lt hs (by omega) hl') h)
   ·exact ⟨h1,fun i hi' hl'=>h2 i (by omega) hl'⟩
theorem bsK_lo {vs:List VerP} (hs:Srt vs) (v:VerP):∀ i,i<bsK vs v→ltV (vs.getD i default) v:=
 (bsGo_spec hs v vs.length 0 vs.length (by omega) (by omega) (by omega) (fun i h=>by omega) (fun i h h2=>by omega)).1
theorem bsK_hi {vs:List VerP} (hs:Srt vs) (v:VerP):∀ i,bsK vs v≤i→i<vs.length→¬ltV (vs.getD i default) v:=
 (bsGo_spec hs v vs.length 0 vs.length (by omega) (by omega) (by omega) (fun i h=>by omega) (fun i h h2=>by omega)).2
theorem bsF_iff {vs:List VerP} (hs:Srt vs) (v:VerP):bsF vs v=true↔∃ x∈vs,sameV x v:=by
 unfold bsF
 rw [Bool.and_eq_true,decide_eq_true_eq,decide_eq_true_eq,cmpV_zero]
 constructor
 ·rintro ⟨h1,h2⟩
  exact ⟨_,getD_mem' h1,h2⟩
 ·rintro ⟨x,hx,hsm⟩
  obtain ⟨i,hi,rfl⟩:=mem_getD hx
  have h1:¬i<bsK vs v:=fun h=>ltV_same (bsK_lo hs v i h) hsm
  have h2:bsK vs v<vs.length:=by omega
  refine ⟨h2,?_⟩
  by_cases e:i=bsK vs v
  ·subst e;exact hsm
  ·have h3:=srt_lt hs (show bsK vs v<i by omega) hi
   exact absurd (show ltV (vs.getD (bsK vs v) default) v by unfold ltV sameV at *;omega) (bsK_hi hs v _ (Nat.le_refl _) h2)
theorem insV_mem (vs:List VerP) (v x:VerP):x∈insV vs v↔x=v∨x∈vs:=by
 unfold insV
 have:x∈vs↔x∈vs.take (bsK vs v)∨x∈vs.drop (bsK vs v):=by
  rw [←List.mem_append,List.take_append_drop]
 rw [this]
 simp only [List.mem_append,List.mem_singleton]
 constructor
 ·rintro ((h | h) | h)
  ·exact .inr (.inl h)
  ·exact .inl h
  ·exact .inr (.inr h)
 ·rintro (h | h | h)
  ·exact .inl (.inr h)
  ·exact .inl (.inl h)
  ·exact .inr h
theorem take_getD {vs:List VerP} {k:Nat} {x:VerP} (h:x∈vs.take k):∃ i,i<k∧i<vs.length∧vs.getD i default=x:=by
 obtain ⟨i,hi,rfl⟩:=List.getElem_of_mem h
 rw [List.length_take] at hi
 exact ⟨i,by omega,by omega,by simp [List.getD,List.getElem?_eq_getElem (show i<vs.length by omega)]⟩
theorem drop_getD {vs:List VerP} {k:Nat} {x:VerP} (h:x∈vs.drop k):∃ i,k≤i∧i<vs.length∧vs.getD i default=x:=by
 obtain ⟨i,hi,rfl⟩:=List.getElem_of_mem h
 rw [List.length_drop] at hi
 exact ⟨k+i,by omega,by omega,by simp [List.getD,List.getElem?_eq_getElem (show k+i<vs.length by omega)]⟩
theorem insV_srt {vs:List VerP} (hs:Srt vs) {v:VerP} (hf:bsF vs v=false):Srt (insV vs v):=by
 unfold insV Srt
 rw [List.append_assoc]
 refine List.pairwise_append.2 ⟨hs.sublist (List.take_sublist _ _),?_,?_⟩
 ·rw [List.singleton_append]
  refine List.pairwise_cons.2 ⟨?_,hs.sublist (List.drop_sublist _ _)⟩
  intro y hy
  obtain ⟨i,h1,h2,rfl⟩:=drop_getD hy
  have h3:=bsK_hi hs v i h1 h2
  rcases ltV_tri v (vs.getD i default) with h | h | h
  ·exact h
  ·have:bsF vs v=true:=(bsF_iff hs v).2 ⟨_,getD_mem' h2,by unfold sameV at *;omega⟩
   rw [this] at hf;cases hf
  ·exact absurd h h3
 ·intro x hx y hy
  obtain ⟨i,h1,h2,rfl⟩:=take_getD hx
  have h3:=bsK_lo hs v i h1
  simp only [List.singleton_append,List.mem_cons] at hy
  rcases hy with rfl | hy
  ·exact h3
  ·obtain ⟨j,h4,h5,rfl⟩:=drop_getD hy
   exact srt_lt hs (by omega) h5
theorem srt_uniq {vs:List VerP} (hs:Srt vs) {x y:VerP} (hx:x∈vs) (hy:y∈vs):x=y∨ltV x y∨ltV y x:=by
 obtain ⟨i,hi,rfl⟩:=mem_getD hx
 obtain ⟨j,hj,rfl⟩:=mem_getD hy
 by_cases e:i=j
 ·subst e;exact .inl rfl
 ·by_cases e2:i<j
  ·exact .inr (.inl (srt_lt hs e2 hj))
  ·exact .inr (.inr (srt_lt hs (by omega) hi))
theorem rfind_some {p:VerP→Bool} {vs:List VerP} (hs:Srt vs) {x:VerP}:vs.reverse.find? p=some x↔x∈vs∧p x=true∧∀ y∈vs,p y=true→y=x∨ltV y x:=by
 induction vs with
 | nil=>simp
 | cons a l ih=>
   have hs':Srt l:=(List.pairwise_cons.1 hs).2
   have ha:=(List.pairwise_cons.1 hs).1
   rw [List.reverse_cons,List.find?_append]
   have ih:=ih hs'
   cases hf:l.reverse.find? p with
   | some z=>
     rw [hf] at ih
     simp only [Option.some_or,Option.some.injEq] at ih ⊢
     constructor
     ·intro e
      obtain ⟨h1,h2,h3⟩:=ih.1 e
      refine ⟨List.mem_cons_of_mem _ h1,h2,?_⟩
      intro y hy hp
      rcases List.mem_cons.1 hy with rfl | hy
      ·exact .inr (ha x h1)
      ·exact h3 y hy hp
     ·rintro ⟨h1,h2,h3⟩
      refine ih.2 ?_
      rcases List.mem_cons.1 h1 with rfl | h1
      ·have hz:z∈l∧p z=true:=⟨List.mem_reverse.1 (List.mem_of_find?_eq_some hf),List.find?_some hf⟩
       rcases h3 z (List.mem_cons_of_mem _ hz.1) hz.2 with e | e
       ·subst e;exact absurd (ha z hz.1) (fun h=>ltV_irr h h)
       ·exact absurd e (fun h=>ltV_irr h (ha z hz.1))
      ·exact ⟨h1,h2,fun y hy=>h3 y (List.mem_cons_of_mem _ hy)⟩
   | none=>
     have hn:∀ y∈l,p y=false:=fun y hy=>by
      have:=List.find?_eq_none.1 hf y (List.mem_reverse.2 hy)
      simpa using this
     simp only [Option.none_or]
     constructor
     ·intro e
      have hpx:=List.find?_some e
      have hmx:=List.mem_of_find?_eq_some e
      simp only [List.mem_singleton] at hmx
      subst hmx
      refine ⟨by simp,hpx,?_⟩
      intro y hy hp
      rcases List.mem_cons.1 hy with rfl | hy
      ·exact .inl rfl
      ·rw [hn y hy] at hp;cases hp
     ·rintro ⟨h1,h2,h3⟩
      rcases List.mem_cons.1 h1 with rfl | h1
      ·simp [h2]
      ·rw [hn x h1] at h2;cases h2
theorem find_some {a0 a1 a2 a3:Int} {vs:List VerP} (hs:Srt vs) {x:VerP}:findV a0 a1 a2 a3 vs=some x↔x∈vs∧seenV a0 a1 a2 a3 x=true∧∀ y∈vs,seenV a0 a1 a2 a3 y=true→y=x∨ltV y x:=rfind_some hs
theorem find_none {a0 a1 a2 a3:Int} {vs:List VerP}:findV a0 a1 a2 a3 vs=none↔∀ x∈vs,seenV a0 a1 a2 a3 x=false:=by
 unfold findV
 rw [List.find?_eq_none]
 constructor
 ·intro h x hx;simpa using h x (List.mem_reverse.2 hx)
 ·intro h x hx;simpa using h x (List.mem_reverse.1 hx)
theorem lastGo_spec (a0 a1 a2 a3:Int):∀ (l:List VerP) (i z:Int),z<i→((lastGo a0 a1 a2 a3 l i z=z∧∀ x∈l,seenV a0 a1 a2 a3 x=false)∨
  (∃ j,j<l.length∧lastGo a0 a1 a2 a3 l i z=i+j∧seenV a0 a1 a2 a3 (l.getD j default)=true∧∀ k,j<k→k<l.length→seenV a0 a1 a2 a3 (l.getD k default)=false))
 | [],i,z,h=>.inl ⟨rfl,fun x hx=>by cases hx⟩
 | v::l,i,z,h=>by
   unfold lastGo
   by_cases hv:seenV a0 a1 a2 a3 v=true
   ·rw [if_pos hv]
    rcases lastGo_spec a0 a1 a2 a3 l (i+1) i (by omega) with ⟨h1,h2⟩ | ⟨j,h1,h2,h3,h4⟩
    ·refine .inr ⟨0,by simp,by rw [h1];simp,by simpa using hv,?_⟩
     intro k hk hl
     obtain ⟨k,rfl⟩:∃ k',k=k'+1:=⟨k-1,by omega⟩
     simp only [List.length_cons] at hl
     rw [List.getD_cons_succ]
     exact h2 _ (getD_mem' (by omega))
    ·refine .inr ⟨j+1,by simp;omega,by rw [h2];simp;omega,by simpa using h3,?_⟩
     intro k hk hl
     obtain ⟨k,rfl⟩:∃ k',k=k'+1:=⟨k-1,by omega⟩
     simp only [List.length_cons] at hl
     rw [List.getD_cons_succ]
     exact h4 k (by omega) (by omega)
   ·rw [if_neg hv]
    rcases lastGo_spec a0 a1 a2 a3 l (i+1) z (by omega) with ⟨h1,h2⟩ | ⟨j,h1,h2,h3,h4⟩
    ·refine .inl ⟨h1,?_⟩
     intro x hx
     rcases List.mem_cons.1 hx with rfl | hx
     ·simpa using hv
     ·exact h2 x hx
    ·refine .inr ⟨j+1,by simp;omega,by rw [h2];simp;omega,by simpa using h3,?_⟩
     intro k hk hl
     obtain ⟨k,rfl⟩:∃ k',k=k'+1:=⟨k-1,by omega⟩
     simp only [List.length_cons] at hl
     rw [List.getD_cons_succ]
     exact h4 k (by omega) (by omega)
theorem keepGo_mem (a0 a1 a2 a3 z:Int) (x:VerP):∀ (l:List VerP) (i:Int),x∈keepGo a0 a1 a2 a3 z l i↔∃ j,j<l.length∧l.getD j default=x∧(z≤i+j∨seenV a0 a1 a2 a3 x=false)
 | [],i=>by simp [keepGo]
 | v::l,i=>by
   have ih:=keepGo_mem a0 a1 a2 a3 z x l (i+1)
   have step:(∃ j,j<(v::l).length∧(v::l).getD j default=x∧(z≤i+j∨seenV a0 a1 a2 a3 x=false))↔((v=x∧(z≤i∨seenV a0 a1 a2 a3 x=false))∨x∈keepGo a0 a1 a2 a3 z l (i+1)):=by
    rw [ih]
    constructor
    ·rintro ⟨j,h1,h2,h3⟩
     cases j with
     | zero=>exact .inl ⟨by simpa using h2,by simpa using h3⟩
     | succ j=>exact .inr ⟨j,by simpa using h1,by simpa using h2,h3.imp (fun h=>by simp at h;omega) id⟩
    ·rintro (⟨h1,h2⟩ | ⟨j,h1,h2,h3⟩)
     ·exact ⟨0,by simp,by simpa using h1,by simpa using h2⟩
     ·exact ⟨j+1,by simpa using h1,by simpa using h2,h3.imp (fun h=>by simp;omega) id⟩
   rw [step,show keepGo a0 a1 a2 a3 z (v::l) i=if z≤i∨seenV a0 a1 a2 a3 v=false then v::keepGo a0 a1 a2 a3 z l (i+1) else keepGo a0 a1 a2 a3 z l (i+1) from rfl]
   split
   ·rename_i h
    rw [List.mem_cons]
    constructor
    ·rintro (rfl | h2)
     ·exact .inl ⟨rfl,h⟩
     ·exact .inr h2
    ·rintro (⟨rfl,_⟩ | h2)
     ·exact .inl rfl
     ·exact .inr h2
   ·rename_i h
    constructor
    ·exact .inr
    ·rintro (⟨rfl,h2⟩ | h2)
     ·exact absurd h2 h
     ·exact h2
theorem keepGo_sublist (a0 a1 a2 a3 z:Int):∀ (l:List VerP) (i:Int),(keepGo a0 a1 a2 a3 z l i).Sublist l
 | [],_=>by simp [keepGo]
 | v::l,i=>by
   unfold keepGo
   split
   ·exact (keepGo_sublist a0 a1 a2 a3 z l (i+1)).cons_cons _
   ·exact (keepGo_sublist a0 a1 a2 a3 z l (i+1)).cons _
theorem sweepV_srt {a0 a1 a2 a3:Int} {vs:List VerP} (h:Srt vs):Srt (sweepV a0 a1 a2 a3 vs):=h.sublist (keepGo_sublist _ _ _ _ _ _ _)
theorem sweepV_len (a0 a1 a2 a3:Int) (vs:List VerP):(sweepV a0 a1 a2 a3 vs).length≤vs.length:=keepGo_len _ _ _ _ _ _ _
theorem sweepV_sub {a0 a1 a2 a3:Int} {vs:List VerP} {x:VerP} (h:x∈sweepV a0 a1 a2 a3 vs):x∈vs:=keepGo_sub _ _ _ _ _ _ _ _ h
theorem sweepV_iff {a0 a1 a2 a3:Int} {vs:List VerP} (hs:Srt vs) (x:VerP):x∈sweepV a0 a1 a2 a3 vs↔x∈vs∧(seenV a0 a1 a2 a3 x=false∨∀ y∈vs,seenV a0 a1 a2 a3 y=true→y=x∨ltV y x):=by
 unfold sweepV
 rw [keepGo_mem]
 rcases lastGo_spec a0 a1 a2 a3 vs 0 (-1) (by omega) with ⟨h1,h2⟩ | ⟨j,h1,h2,h3,h4⟩
 ·rw [h1]
  constructor
  ·rintro ⟨k,hk,rfl,_⟩
   exact ⟨getD_mem' hk,.inl (h2 _ (getD_mem' hk))⟩
  ·rintro ⟨hx,_⟩
   obtain ⟨k,hk,rfl⟩:=mem_getD hx
   exact ⟨k,hk,rfl,.inr (h2 _ hx)⟩
 ·rw [h2]
  constructor
  ·rintro ⟨k,hk,rfl,h⟩
   refine ⟨getD_mem' hk,?_⟩
   rcases h with h | h
   ·by_cases e:k=j
    ·subst e
     refine .inr fun y hy hys=>?_
     obtain ⟨m,hm,rfl⟩:=mem_getD hy
     have:¬k<m:=fun h'=>by rw [h4 m h' hm] at hys;cases hys
     by_cases e:m=k
     ·subst e;exact .inl rfl
     ·exact .inr (srt_lt hs (by omega) hk)
    ·exact .inl (h4 k (by omega) hk)
   ·exact .inl h
  ·rintro ⟨hx,h⟩
   obtain ⟨k,hk,rfl⟩:=mem_getD hx
   refine ⟨k,hk,rfl,?_⟩
   rcases h with h | h
   ·exact .inr h
   ·rcases h _ (getD_mem' h1) h3 with e | e
    ·by_cases e2:j≤k
     ·exact .inl (by omega)
     ·have:=srt_lt hs (show k<j by omega) h1
      rw [e] at this
      exact absurd this (fun h=>ltV_irr h h)
    ·by_cases e2:j≤k
     ·exact .inl (by omega)
     ·exact absurd e (fun h=>ltV_irr h (srt_lt hs (show k<j by omega) h1))
structure PtP where
 key:Int
 v:VerP
instance : Inhabited PtP:=⟨⟨0,default⟩⟩
def sameB (p q:PtP):Bool:=p.key==q.key&&(p.v.w==q.v.w&&p.v.c==q.v.c)&&p.v.site==q.v.site
def putP (S:Nat→List VerP) (p:PtP):Nat→List VerP:=(putR S p.key p.v).2
def sweepS (a0 a1 a2 a3:Int) (S:Nat→List VerP):Nat→List VerP:=fun k=>sweepV a0 a1 a2 a3 (S k)
theorem sameB_iff (p q:PtP):sameB p q=true↔(p.key=q.key∧sameV p.v q.v):=by
 unfold sameB sameV
 simp only [Bool.and_eq_true,beq_iff_eq]
 constructor
 ·rintro ⟨⟨h1,h2,h3⟩,h4⟩;exact ⟨h1,h2,h3,h4⟩
 ·rintro ⟨h1,h2,h3,h4⟩;exact ⟨⟨h1,h2,h3⟩,h4⟩
theorem putP_len (S:Nat→List VerP) (p:PtP) (k:Nat):(putP S p k).length≤(S k).length+1:=by
 unfold putP putR
 split
 ·simp
 ·split
  ·simp
  ·split
   ·simp
   ·simp only
    split
    ·simp only [insV,List.length_append,List.length_take,List.length_drop,List.length_cons,List.length_nil];omega
    ·omega
theorem putP_site {S:Nat→List VerP} {p:PtP} {k:Nat} (h:∀ x∈S k,0≤x.site∧x.site<4):∀ x∈putP S p k,0≤x.site∧x.site<4:=by
 unfold putP putR
 split
 ·exact h
 ·split
  ·exact h
  ·rename_i hr
   split
   ·exact h
   ·intro x hx
    simp only at hx
    split at hx
    ·rcases (insV_mem _ _ _).1 hx with rfl | hx
     ·have hr:rightV p.v=true:=by simpa using hr
      unfold rightV at hr
      simp only [Bool.and_eq_true,decide_eq_true_eq] at hr
      omega
     ·exact h x hx
    ·exact h x hx
theorem Fit.put {S:Nat→List VerP} {N:Nat} (h:Fit S N) (p:PtP):Fit (putP S p) (N+1):=fun k hk=>
 ⟨putP_site (h k hk).1,Nat.le_trans (putP_len S p k) (by have:=(h k hk).2;omega)⟩
theorem Fit.mono {S:Nat→List VerP} {N M:Nat} (h:Fit S N) (hm:N≤M):Fit S M:=fun k hk=>⟨(h k hk).1,Nat.le_trans (h k hk).2 hm⟩
theorem srt_ext:∀ {us vs:List VerP},Srt us→Srt vs→(∀ x,x∈us↔x∈vs)→us=vs
 | [],[],_,_,_=>rfl
 | [],v::vs,_,_,h=>by have:=(h v).2 (by simp);cases this
 | u::us,[],_,_,h=>by have:=(h u).1 (by simp);cases this
 | u::us,v::vs,hu,hv,h=>by
   have hu1:=(List.pairwise_cons.1 hu).1
   have hv1:=(List.pairwise_cons.1 hv).1
   have e:u=v:=by
    rcases List.mem_cons.1 ((h u).1 (by simp)) with e | e
    ·exact e
    ·rcases List.mem_cons.1 ((h v).2 (by simp)) with e2 | e2
     ·exact e2.symm
     ·exact (ltV_irr (hv1 u e) (hu1 v e2)).elim
   subst e
   congr 1
   refine srt_ext (List.pairwise_cons.1 hu).2 (List.pairwise_cons.1 hv).2 fun x=>?_
   constructor
   ·intro hx
    rcases List.mem_cons.1 ((h x).1 (List.mem_cons_of_mem _ hx)) with e | e
    ·subst e;exact (ltV_irr (hu1 x hx) (hu1 x hx)).elim
    ·exact e
   ·intro hx
    rcases List.mem_cons.1 ((h x).2 (List.mem_cons_of_mem _ hx)) with e | e
    ·subst e;exact (ltV_irr (hv1 x hx) (hv1 x hx)).elim
    ·exact e
def rlGo (a0 a1 a2 a3:Int) (key:Int):List PtP→VerP→Bool→VerP×Bool
 | [],b,s=>(b,s)
 | h::l,b,s=>if h.key=key∧seenV a0 a1 a2 a3 h.v=true∧(s=false∨cmpV b h.v<0) then rlGo a0 a1 a2 a3 key l h.v true else rlGo a0 a1 a2 a3 key l b s
def rLast (a0 a1 a2 a3:Int) (key:Int) (L:List PtP):VerP×Bool:=rlGo a0 a1 a2 a3 key L verZ false
def rRead (a0 a1 a2 a3:Int) (L:List PtP) (key:Int):VerP×Int:=
 if key<0∨8≤key then (verZ,2) else if (rLast a0 a1 a2 a3 key L).2=false∨(rLast a0 a1 a2 a3 key L).1.gone=true then (verZ,8) else ((rLast a0 a1 a2 a3 key L).1,0)
def rTwice (L:List PtP) (key:Int) (v:VerP):Bool:=L.any fun h=>sameB h ⟨key,v⟩
def rPut (L:List PtP) (key:Int) (v:VerP):Int×List PtP:=
 if key<0∨8≤key then (2,L) else if rightV v=false then (1,L) else if rTwice L key v=true then (9,L) else (0,L++[⟨key,v⟩])
open Classical in
noncomputable def rKeep (a0 a1 a2 a3:Int) (L:List PtP) (h:PtP):Bool:=
 (rLast a0 a1 a2 a3 h.key L).2==false||decide ((rLast a0 a1 a2 a3 h.key L).1=h.v)||!seenV a0 a1 a2 a3 h.v
noncomputable def rSweep (a0 a1 a2 a3:Int) (L:List PtP):List PtP:=L.filter (rKeep a0 a1 a2 a3 L)
structure Rep (S:Nat→List VerP) (L:List PtP):Prop where
 key:∀ p∈L,0≤p.key∧p.key<8
 site:∀ p∈L,0≤p.v.site∧p.v.site<4
 srt:∀ k,k<8→Srt (S k)
 perm:∀ k,k<8→(S k).Perm ((L.filter fun p=>decide (p.key=(k:Int))).map (·.v))
theorem Rep.nil:Rep (fun _=>[]) []:=⟨fun p h=>(by cases h),fun p h=>(by cases h),fun _ _=>List.Pairwise.nil,fun _ _=>List.Perm.refl _⟩
theorem Rep.mem {S:Nat→List VerP} {L:List PtP} (h:Rep S L) {k:Nat} (hk:k<8) (x:VerP):x∈S k↔∃ p∈L,p.key=k∧p.v=x:=by
 rw [(h.perm k hk).mem_iff]
 simp only [List.mem_map,List.mem_filter,decide_eq_true_eq]
 constructor
 ·rintro ⟨p,⟨h1,h2⟩,h3⟩;exact ⟨p,h1,h2,h3⟩
 ·rintro ⟨p,h1,h2,h3⟩;exact ⟨p,⟨h1,h2⟩,h3⟩
theorem len_split:∀ (L:List PtP),(∀ p∈L,0≤p.key∧p.key<8)→L.length=(L.filter fun p=>decide (p.key=((0:Nat):Int))).length+(L.filter fun p=>decide (p.key=((1:Nat):Int))).length+(L.filter fun p=>decide (p.key=((2:Nat):Int))).length+(L.filter fun p=>decide (p.key=((3:Nat):Int))).length+(L.filter fun p=>decide (p.key=((4:Nat):Int))).length+(L.filter fun p=>decide (p.key=((5:Nat):Int))).length+(L.filter fun p=>decide (p.key=((6:Nat):Int))).length+(L.filter fun p=>decide (p.key=((7:Nat):Int))).length
 | [],_=>rfl
 | p::L,h=>by
   have ih:=len_split L (fun q hq=>h q (List.mem_cons_of_mem _ hq))
   obtain ⟨h1,h2⟩:=h p (by simp)
   have hc:p.key=0∨p.key=1∨p.key=2∨p.key=3∨p.key=4∨p.key=5∨p.key=6∨p.key=7:=by omega
   rcases hc with e | e | e | e | e | e | e | e <;> simp [List.filter_cons,e] at ih ⊢ <;> omega
theorem Rep.many {S:Nat→List VerP} {L:List PtP} (h:Rep S L):L.length=(S 0).length+(S 1).length+(S 2).length+(S 3).length+(S 4).length+(S 5).length+(S 6).length+(S 7).length:=by
 have e:∀ k,k<8→(S k).length=(L.filter fun p=>decide (p.key=(k:Int))).length:=fun k hk=>by
  rw [(h.perm k hk).length_eq,List.length_map]
 rw [e 0 (by omega),e 1 (by omega),e 2 (by omega),e 3 (by omega),e 4 (by omega),e 5 (by omega),e 6 (by omega),e 7 (by omega)]
 exact len_split L h.key
theorem rlGo_spec (a0 a1 a2 a3:Int) (key:Int):∀ (l:List PtP) (b:VerP) (s:Bool),
  ((rlGo a0 a1 a2 a3 key l b s).2=false→s=false∧∀ p∈l,p.key=key→seenV a0 a1 a2 a3 p.v=false)∧
  ((rlGo a0 a1 a2 a3 key l b s).2=true→((s=true∧(rlGo a0 a1 a2 a3 key l b s).1=b)∨∃ p∈l,p.key=key∧seenV a0 a1 a2 a3 p.v=true∧p.v=(rlGo a0 a1 a2 a3 key l b s).1)∧
    (s=true→¬ltV (rlGo a0 a1 a2 a3 key l b s).1 b)∧∀ p∈l,p.key=key→seenV a0 a1 a2 a3 p.v=true→¬ltV (rlGo a0 a1 a2 a3 key l b s).1 p.v)∧
  ((rlGo a0 a1 a2 a3 key l b s).2=false→(rlGo a0 a1 a2 a3 key l b s).1=b)
 | [],b,s=>by
   simp only [rlGo]
   exact ⟨fun h=>⟨h,fun p hp=>(by cases hp)⟩,fun h=>⟨.inl ⟨h,trivial⟩,fun _ h2=>ltV_irr h2 h2,fun p hp=>(by cases hp)⟩,fun _=>trivial⟩
 | p::l,b,s=>by
   unfold rlGo
   split
   ·rename_i hc
    obtain ⟨c1,c2,c3⟩:=hc
    obtain ⟨i1,i2,_⟩:=rlGo_spec a0 a1 a2 a3 key l p.v true
    refine ⟨fun h=>?_,fun h=>?_,fun h=>?_⟩
    ·cases (i1 h).1
    ·obtain ⟨j1,j2,j3⟩:=i2 h
     refine ⟨.inr ?_,?_,?_⟩
     ·rcases j1 with ⟨_,j1⟩ | ⟨q,h1,h2⟩
      ·exact ⟨p,by simp,c1,c2,j1.symm⟩
      ·exact ⟨q,List.mem_cons_of_mem _ h1,h2⟩
     ·intro hs hl
      rcases c3 with c3 | c3
      ·rw [hs] at c3;cases c3
      ·exact j2 rfl (ltV_trans hl ((cmpV_neg _ _).1 c3))
     ·intro q hq hk hs
      rcases List.mem_cons.1 hq with rfl | hq
      ·exact j2 rfl
      ·exact j3 q hq hk hs
    ·cases (i1 h).1
   ·rename_i hc
    obtain ⟨i1,i2,i3⟩:=rlGo_spec a0 a1 a2 a3 key l b s
    refine ⟨fun h=>?_,fun h=>?_,i3⟩
    ·obtain ⟨j1,j2⟩:=i1 h
     refine ⟨j1,fun q hq hk=>?_⟩
     rcases List.mem_cons.1 hq with rfl | hq
     ·rw [Bool.eq_false_iff]
      intro hs
      exact hc ⟨hk,hs,.inl j1⟩
     ·exact j2 q hq hk
    ·obtain ⟨j1,j2,j3⟩:=i2 h
     refine ⟨?_,j2,?_⟩
     ·rcases j1 with j1 | ⟨q,h1,h2⟩
      ·exact .inl j1
      ·exact .inr ⟨q,List.mem_cons_of_mem _ h1,h2⟩
     ·intro q hq hk hs
      rcases List.mem_cons.1 hq with rfl | hq
      ·intro hl
       have hst:s=true:=by
        cases hsb:s with
        | true=>rfl
        | false=>exact (hc ⟨hk,hs,.inl hsb⟩).elim
       have h2:¬ltV b q.v:=fun e=>hc ⟨hk,hs,.inr ((cmpV_neg _ _).2 e)⟩
       have h3:=j2 hst
       revert hl h2 h3
       unfold ltV
       omega
      ·exact j3 q hq hk hs
theorem Rep.last {S:Nat→List VerP} {L:List PtP} (h:Rep S L) (a0 a1 a2 a3:Int) {k:Nat} (hk:k<8):
  rLast a0 a1 a2 a3 k L=match findV a0 a1 a2 a3 (S k) with | some v=>(v,true) | none=>(verZ,false):=by
 obtain ⟨h1,h2,h3⟩:=rlGo_spec a0 a1 a2 a3 k L verZ false
 cases hr:(rlGo a0 a1 a2 a3 k L verZ false).2 with
 | false=>
   have hn:findV a0 a1 a2 a3 (S k)=none:=by
    rw [find_none]
    intro x hx
    obtain ⟨p,hp,e1,rfl⟩:=(h.mem hk x).1 hx
    exact (h1 hr).2 p hp e1
   rw [hn]
   exact Prod.ext (h3 hr) hr
 | true=>
   obtain ⟨j1,_,j3⟩:=h2 hr
   rcases j1 with ⟨e,_⟩ | ⟨p,hp,e1,e2,e3⟩
   ·cases e
   ·have hf:findV a0 a1 a2 a3 (S k)=some p.v:=by
     rw [find_some (h.srt k hk)]
     have hm:p.v∈S k:=(h.mem hk _).2 ⟨p,hp,e1,rfl⟩
     refine ⟨hm,e2,fun y hy hsy=>?_⟩
     obtain ⟨q,hq,f1,rfl⟩:=(h.mem hk y).1 hy
     have:=j3 q hq f1 hsy
     rw [←e3] at this
     rcases srt_uniq (h.srt k hk) hy hm with e | e | e
     ·exact .inl e
     ·exact .inr e
     ·exact absurd e this
    rw [hf]
    exact Prod.ext e3.symm hr
theorem Rep.read {S:Nat→List VerP} {L:List PtP} (h:Rep S L) (a0 a1 a2 a3:Int) (key:Int):rRead a0 a1 a2 a3 L key=readR a0 a1 a2 a3 S key:=by
 unfold rRead readR
 split
 ·rfl
 ·rename_i hk
  have hl:=h.last a0 a1 a2 a3 (k:=key.toNat) (by omega)
  rw [show ((key.toNat:Nat):Int)=key by omega] at hl
  rw [hl]
  cases findV a0 a1 a2 a3 (S key.toNat) with
  | none=>simp
  | some v=>simp
theorem Rep.put {S:Nat→List VerP} {L:List PtP} (h:Rep S L) (key:Int) (v:VerP):(rPut L key v).1=(putR S key v).1∧Rep (putR S key v).2 (rPut L key v).2:=by
 unfold rPut putR
 split
 ·exact ⟨rfl,h⟩
 ·rename_i hk
  split
  ·exact ⟨rfl,h⟩
  ·rename_i hr
   have hkk:key.toNat<8:=by omega
   have htw:rTwice L key v=bsF (S key.toNat) v:=by
    rw [Bool.eq_iff_iff,bsF_iff (h.srt _ hkk)]
    unfold rTwice
    rw [List.any_eq_true]
    constructor
    ·rintro ⟨p,hp,hs⟩
     obtain ⟨e1,e2⟩:=(sameB_iff _ _).1 hs
     exact ⟨p.v,(h.mem hkk _).2 ⟨p,hp,by simp only at e1;omega,rfl⟩,e2⟩
    ·rintro ⟨x,hx,hs⟩
     obtain ⟨p,hp,e1,rfl⟩:=(h.mem hkk _).1 hx
     exact ⟨p,hp,(sameB_iff _ _).2 ⟨by simp only;omega,hs⟩⟩
   rw [htw]
   split
   ·exact ⟨rfl,h⟩
   ·rename_i hf
    have hr:rightV v=true:=by simpa using hr
    have hsite:0≤v.site∧v.site<4:=by
     unfold rightV at hr
     simp only [Bool.and_eq_true,decide_eq_true_eq] at hr
     omega
    refine ⟨rfl,⟨?_,?_,?_,?_⟩⟩
    ·intro p hp
     rcases List.mem_append.1 hp with hp | hp
     ·exact h.key p hp
     ·simp only [List.mem_singleton] at hp;subst hp;simp only;omega
    ·intro p hp
     rcases List.mem_append.1 hp with hp | hp
     ·exact h.site p hp
     ·simp only [List.mem_singleton] at hp;subst hp;exact hsite
    ·intro k hk8
     simp only
     split
     ·rename_i e;subst e;exact insV_srt (h.srt _ hk8) (by simpa using hf)
     ·exact h.srt k hk8
    ·intro k hk8
     simp only
     rw [List.filter_append,List.map_append]
     split
     ·rename_i e
      subst e
      have e2:((key.toNat:Nat):Int)=key:=by omega
      have:([⟨key,v⟩]:List PtP).filter (fun p=>decide (p.key=((key.toNat:Nat):Int)))=[⟨key,v⟩]:=by simp [e2]
      rw [this]
      have hp:=h.perm key.toNat hk8
      refine List.Perm.trans ?_ (hp.append_right _)
      unfold insV
      rw [List.append_assoc]
      refine List.Perm.trans (List.perm_append_comm_assoc _ _ _) ?_
      rw [List.take_append_drop]
      exact List.perm_append_comm
     ·rename_i e
      have:([⟨key,v⟩]:List PtP).filter (fun p=>decide (p.key=(k:Int)))=[]:=by
       simp;omega
      rw [this]
      simpa using h.perm k hk8
theorem Rep.sweep {S:Nat→List VerP} {L:List PtP} (h:Rep S L) (a0 a1 a2 a3:Int):Rep (sweepS a0 a1 a2 a3 S) (rSweep a0 a1 a2 a3 L):=by
 refine ⟨fun p hp=>h.key p ((List.mem_filter.1 hp).1),fun p hp=>h.site p ((List.mem_filter.1 hp).1),fun k hk=>sweepV_srt (h.srt k hk),fun k hk=>?_⟩
 have hl:=h.last a0 a1 a2 a3 hk
 have hP:∃ P:VerP→Bool,∀ p:PtP,p.key=k→rKeep a0 a1 a2 a3 L p=P p.v:=by
  refine ⟨fun x=>rKeep a0 a1 a2 a3 L ⟨k,x⟩,fun p hp=>?_⟩
  obtain ⟨pk,pv⟩:=p
  simp only at hp
  subst hp
  rfl
 obtain ⟨P,hP⟩:=hP
 have e1:((rSweep a0 a1 a2 a3 L).filter fun p=>decide (p.key=(k:Int))).map (·.v)=(((L.filter fun p=>decide (p.key=(k:Int))).map (·.v)).filter P):=by
  unfold rSweep
  rw [List.filter_map,List.filter_filter,List.filter_filter]
  congr 1
  refine List.filter_congr fun p _=>?_
  by_cases e:p.key=k
  ·simp only [e,decide_true,Bool.true_and,Bool.and_true,Function.comp]
   exact hP p e
  ·simp [e]
 have e2:sweepS a0 a1 a2 a3 S k=(S k).filter P:=by
  refine srt_ext (sweepV_srt (h.srt k hk)) ((h.srt k hk).sublist List.filter_sublist) fun x=>?_
  rw [show sweepS a0 a1 a2 a3 S k=sweepV a0 a1 a2 a3 (S k) from rfl,sweepV_iff (h.srt k hk),List.mem_filter]
  refine and_congr_right fun hx=>?_
  rw [←hP ⟨k,x⟩ rfl]
  have hkp:rKeep a0 a1 a2 a3 L ⟨k,x⟩=((rLast a0 a1 a2 a3 k L).2==false||@decide ((rLast a0 a1 a2 a3 k L).1=x) (Classical.propDecidable _)||!seenV a0 a1 a2 a3 x):=rfl
  rw [hkp,hl]
  by_cases hs:seenV a0 a1 a2 a3 x=true
  ·cases hf:findV a0 a1 a2 a3 (S k) with
   | none=>
     rw [find_none] at hf
     rw [hf x hx] at hs;cases hs
   | some y=>
     rw [find_some (h.srt k hk)] at hf
     obtain ⟨f1,f2,f3⟩:=hf
     simp only [hs,Bool.or_eq_true,beq_iff_eq,decide_eq_true_eq,Bool.true_eq_false,Bool.not_true,Bool.false_eq_true,false_or,or_false]
     constructor
     ·intro hh
      rcases hh y f1 f2 with e | e
      ·exact e
      ·rcases f3 x hx hs with e3 | e3
       ·exact e3.symm
       ·exact (ltV_irr e e3).elim
     ·rintro rfl
      exact f3
  ·have hs:seenV a0 a1 a2 a3 x=false:=by simpa using hs
   simp [hs]
 rw [e1,e2]
 exact (h.perm k hk).filter P
end Go.Proofs.YtbopfhbeegkkaabGreatDoor
namespace Go.Proofs.YtbopfhbeegkkaabGreatDoor
open Go.RowKit
theorem grown_alloc {W w1:World} {o:Obj} {r:Option Nat} (h:(W.alloc o).grownBy w1 r):W.grownBy w1 r:=
 ⟨h.os,h.tape,h.output,Nat.le_trans (by simp) h.size,fun k hk hr=>(h.block k (by simp;omega) hr).trans (Below.heap_alloc W o k hk)⟩
theorem grown_drew {W w1:World} {r:Option Nat} (h:W.drew.grownBy w1 r):W.grownBy w1 r:=⟨h.os,h.tape,h.output,h.size,h.block⟩
def TsAt (w:World) (A:Option Addr) (ts:List ByteArray):Prop:=∀ (i:Nat) (x:ByteArray),ts[i]?=some x→∃ b o,A=some ⟨b,o,none⟩∧b<w.heap.size∧w.cell? ⟨b,o+i,none⟩=some (.string x)
theorem TsAt.below {w w':World} {A:Option Addr} {ts:List ByteArray} (h:TsAt w A ts) (hb:Below w.heap.size w w'):TsAt w' A ts:=fun i x hx=>by
 obtain ⟨b,o,hA,hlt,h0⟩:=h i x hx
 exact ⟨b,o,hA,Nat.lt_of_lt_of_le hlt hb.size,by rw [hb.cell (p:=⟨b,o+i,none⟩) hlt];exact h0⟩
def strRow (ts:List ByteArray):List Value:=ts.map fun s=>.string s
theorem own_texts {w:World} {B c:Nat} {A:Option Addr} {ts:List ByteArray} (h:w.ownsRow B 9 1 (.slice A ts.length c) ts.length (strRow ts)):TsAt w A ts:=by
 intro i x hx
 obtain ⟨hl,hn | ⟨g,cap,cur,hv,hb,hg,rest⟩⟩:=id h
 ·have:ts=[]:=List.eq_nil_of_length_eq_zero hn.2
  subst this;simp at hx
 ·simp only [Value.slice.injEq] at hv
  obtain ⟨rfl,_,rfl⟩:=hv
  have hc:=h.cells (g:=g) rfl
  have h0:(strRow ts)[i]?=some (.string x):=by simp [strRow,hx]
  have e:∀ j:Nat,(⟨g,0,none⟩:Addr).add j=⟨g,0+j,none⟩:=fun j=>by unfold Addr.add;split <;> simp_all
  have k0:=hc _ _ h0
  rw [e] at k0
  exact ⟨g,0,rfl,(Array.getElem?_eq_some_iff.1 hg).1,k0⟩
def txtOf (r:VerP×Int):ByteArray:=if r.2=0 then ⟨#[61]⟩++r.1.data else ⟨#[]⟩
def toldT (R:Nat→VerP×Int) (k:Nat):List ByteArray:=(List.range k).map fun i=>txtOf (R i)
theorem toldT_succ (R:Nat→VerP×Int) (k:Nat):toldT R (k+1)=toldT R k++[txtOf (R k)]:=by simp [toldT,List.range_succ]
theorem toldT_len (R:Nat→VerP×Int) (k:Nat):(toldT R k).length=k:=by simp [toldT]
theorem info9o:(Tryz.prog.info? 9).map (fun i=>(i.zero,i.size,i.bytes))=some (some (.string ⟨#[]⟩),1,16):=by kernel_rfl
theorem info9:∃ i,Tryz.prog.info? 9=some i∧i.zero=some (.string ⟨#[]⟩)∧i.size=1∧i.bytes=16:=by
 obtain ⟨i,hi,h⟩:=Option.map_eq_some_iff.1 info9o
 simp only [Prod.mk.injEq] at h
 exact ⟨i,hi,h.1,h.2.1,h.2.2⟩
theorem cells1 {w:World} {ab:Nat} {u0:Value} {t:TypeId} (h:w.heap[ab]?=some (.cells #[u0] t)):
  ∀ (j:Nat) (u:Value),[u0][j]?=some u→w.cell? ((⟨ab,0,none⟩:Addr).add j)=some u:=by
 intro j u hj
 have e:(⟨ab,0,none⟩:Addr).add j=⟨ab,j,none⟩:=by unfold Addr.add;split <;> simp_all
 rw [e,cell_blk h j]
 simpa using hj
def lenS (S:Nat→List VerP):Nat→Nat
 | 0=>0
 | k+1=>lenS S k+(S k).length
theorem lenS_le {S:Nat→List VerP} {N:Nat} (h:∀ k,k<8→(S k).length≤N):∀ k,k≤8→lenS S k≤k*N
 | 0,_=>by simp [lenS]
 | k+1,hk=>by
   have:=lenS_le h k (by omega)
   have:=h k (by omega)
   unfold lenS
   rw [Nat.succ_mul]
   omega
set_option maxRecDepth 20000 in
set_option maxHeartbeats 8000000 in
theorem many_any (g o B:Nat) (S:Nat→List VerP) (sv:Nat→Value) (w:World) (hst:StAt w g o B S sv) (hlen:∀ k,k<8→(S k).length≤900000):
  Calls Tryz.prog 93 #[.pointer (some ⟨g,o,none⟩)] w fun e w'=>e=.returned (.int .i64 (lenS S 8))∧Below w.heap.size w w':=by
 have HST:=hidp hst
 have hlg:=hst.lt
 have c0:=(hst.cell (k:=0) (by omega)).1;have c1:=(hst.cell (k:=1) (by omega)).1;have c2:=(hst.cell (k:=2) (by omega)).1;have c3:=(hst.cell (k:=3) (by omega)).1
 have c4:=(hst.cell (k:=4) (by omega)).1;have c5:=(hst.cell (k:=5) (by omega)).1;have c6:=(hst.cell (k:=6) (by omega)).1;have c7:=(hst.cell (k:=7) (by omega)).1
 simp only [Nat.add_zero] at c0
 have HLN:=hidp (lenS_le hlen)
 have HL1:=hidp hlen
 haveI:SzGe (g+1) w:=⟨hlg⟩
 clear hst hlen
 go_enter Tryz.func93,Tryz.ntmps93
 go_wp2_with fail
 go_loopw [3,10] (fun n i wr=>∃ k:Nat,k≤8∧i=.int .i64 k∧n=.int .i64 (lenS S k)∧Below w.heap.size w wr) (fun _ i _=>8-(intOf i).toNat)
 case atStart=>exact ⟨0,by omega,rfl,rfl,Below.refl _ _⟩
 case round=>
  obtain ⟨k,hk,rfl,rfl,hbl⟩:=hrel
  obtain ⟨x,rfl⟩:=wplus_of_below hbl
  clear hbl
  have hn:=HLN.out k hk
  by_cases hlt:k<8
  ·have hm:=HL1.out k hlt
   have hkd:decide ((k:Int)<8)=true:=decide_eq_true (by omega)
   obtain ⟨A,c,hsv⟩:=own_form (HST.out.own k hlt)
   have HN:Hid (lenS S (k+1)=lenS S k+(S k).length):=hidp rfl
   go_wp2_with fail
   go_roundw
   case rel=>exact ⟨k+1,by omega,by go_num,congrArg (Value.int IntKind.i64) (by rw [HN.out];go_num),zB⟩
   case measure=>simp [intOf];omega
  ·obtain rfl:k=8:=by omega
   have hkd:decide ((8:Int)<8)=false:=by decide
   go_wp2_with fail
   go_ret
   exact ⟨rfl,zB⟩
set_option maxRecDepth 20000 in
set_option maxHeartbeats 8000000 in
theorem all_any (g o B:Nat) (S:Nat→List VerP) (sv:Nat→Value) (a0 a1 a2 a3:Int) (R:Nat→VerP×Int) (w:World) (hst:StAt w g o B S sv) (hok:∀ k,k<8→∀ x∈S k,0≤x.site∧x.site<4) (hlen:∀ k,k<8→(S k).length≤900000) (hR:∀ k:Nat,k<8→R k=readR a0 a1 a2 a3 S k) (hd:∀ k:Nat,k<8→(R k).1.data.size≤1000000):
  Calls Tryz.prog 94 #[.pointer (some ⟨g,o,none⟩),.agg #[.int .i64 a0,.int .i64 a1,.int .i64 a2,.int .i64 a3]] w fun e w'=>∃ A' c',e=.returned (.slice A' 8 c')∧TsAt w' A' (toldT R 8)∧Below w.heap.size w w':=by
 have HRD:Hid (∀ (k:Nat) (w':World),k<8→Below w.heap.size w w'→Calls Tryz.prog 92 #[.pointer (some ⟨g,o,none⟩),.int .i64 k,.agg #[.int .i64 a0,.int .i64 a1,.int .i64 a2,.int .i64 a3]] w' fun e w''=>e=.returned (.tuple #[verV (R k).1,errV (R k).2])∧Below w'.heap.size w' w''):=hidp (by
  intro k w' hk hb
  rw [hR k hk]
  exact readS_any g o B S sv k a0 a1 a2 a3 w' (hst.below hb) hok hlen)
 have HD:=hidp hd
 clear hst hR hd
 go_enter Tryz.func94,Tryz.ntmps94
 obtain ⟨i0,hi0,hz0,hz1,hz2⟩:=info9
 have HBO:Hid (Below w.heap.size w (w.alloc (.cells #[.int .i64 a0,.int .i64 a1,.int .i64 a2,.int .i64 a3] 32))):=hidp (blw_alloc (Below.refl _ _))
 have HBX:Hid ((w.alloc (.cells #[.int .i64 a0,.int .i64 a1,.int .i64 a2,.int .i64 a3] 32)).heap[w.heap.size]?=some (.cells #[.int .i64 a0,.int .i64 a1,.int .i64 a2,.int .i64 a3] 32)):=hidp (blk_new rfl _)
 go_wp2_with fail
 generalize w.alloc (.cells #[.int .i64 a0,.int .i64 a1,.int .i64 a2,.int .i64 a3] 32)=wo at *
 go_loopw [5,9] (fun oo i W=>∃ (k:Nat) (outs:List ByteArray) (Ao:Option Addr) (co:Nat),k≤8∧i=.int .i64 k∧oo=.slice Ao outs.length co∧outs=toldT R k∧outs.length=k∧
  W.ownsRow wo.heap.size 9 1 (.slice Ao outs.length co) outs.length (strRow outs)∧Below wo.heap.size wo W) (fun _ i _=>8-(intOf i).toNat)
 case atStart=>exact ⟨0,[],none,0,by omega,rfl,rfl,rfl,rfl,⟨rfl,.inl ⟨rfl,rfl⟩⟩,Below.refl _ _⟩
 case round=>
  obtain ⟨k,outs,Ao,co,hk,rfl,rfl,hout,hol,hown,hbl⟩:=hrel
  obtain ⟨W,rfl⟩:∃ W:World,W=wr:=⟨_,rfl⟩
  have HOUT:=hidp hout
  have HOW:=hidp hown
  have HBW:=hidp hbl
  have HOL:=hidp hol
  clear hown hbl hout hol
  by_cases hlt:k<8
  ·have hbxW:W.heap[w.heap.size]?=some (.cells #[.int .i64 a0,.int .i64 a1,.int .i64 a2,.int .i64 a3] 32):=by rw [HBW.out.block _ (lt_blk HBX.out)];exact HBX.out
   have e0:=cell_blk hbxW 0;have e1:=cell_blk hbxW 1;have e2:=cell_blk hbxW 2;have e3:=cell_blk hbxW 3
   simp only [zC,zD,zE] at e0 e1 e2 e3
   haveI:SzGe (w.heap.size+1) W:=⟨lt_blk hbxW⟩
   have hkd:decide ((k:Int)<8)=true:=decide_eq_true (by omega)
   have HB0:=hidp (HBO.out.trans (HBW.out.mono HBO.out.size))
   have HL:=hidp (HRD.out k W hlt HB0.out)
   have HTS:=hidp (toldT_succ R k)
   obtain ⟨⟨⟨vw,vc,vs,vq,vd,vg⟩,z⟩,hz⟩:∃ z,R k=z:=⟨_,rfl⟩
   have hvd:=HD.out k hlt
   rw [hz] at HL HTS hvd
   simp only at hvd
   unfold verV at HL
   clear hbxW hz
   go_wp2_with fail
   go_at_call 92
   refine HL.out.mono ?_
   rintro e w' ⟨rfl,hb⟩
   obtain ⟨x,rfl⟩:=wplus_of_below hb
   clear hb HL
   by_cases hz0e:z=0
   ·subst hz0e
    have HT1:Hid (toldT R (k+1)=outs++[⟨#[61]⟩++vd]):=hidp (by rw [HTS.out,←HOUT.out];rfl)
    clear HTS
    have HCUR:=hidp (show Below W.heap.size W ((wplus W x).alloc (.cells #[.int .i64 vw,.int .i64 vc,.int .i64 vs,.int .i64 vq,.string vd,.bool vg] 59)) from zB)
    have HOC:=hidp (own_below HOW.out HCUR.out (fun k e=>(own_ge HOW.out e).2))
    have HBC:=hidp (HBW.out.trans (HCUR.out.mono HBW.out.size))
    have hsC:=HBC.out.size
    have hol:outs.length≤8:=by rw [HOL.out];omega
    have hev:errV 0=.nilIface:=rfl
    go_wp2_with (at_builtin;go_must (refine wpList_append_lies _ rfl _ _ 68 rfl wo.heap.size 9 i0 (.string ⟨#[]⟩) 1 16 Tryz.underlying68 hi0 hz0 hz1 hz2 rfl (by decide) (.slice Ao outs.length co) outs.length (strRow outs) rfl (HOC.out.alloc _) ⟨W.heap.size+x.blocks.size+1,0,none⟩ 1 1 [.string (⟨#[61]⟩++vd)] rfl rfl (cells1 (blk_new (by simp) _)) ?c1 (by decide) ?c2 ?c3 ?c4 _ rfl ?_))
    case c1=>first | rfl | (intro u hu;simp at hu;subst hu;rfl)
    case c2=>refine Nat.le_trans ?_ maxLen_ge;omega
    case c3=>omega
    case c4=>first | omega | (simp at hsC ⊢;omega)
    intro gq cap1 w1 hown1 hgrow hgl hlt1
    have HN1:Hid (w1.ownsRow wo.heap.size 9 1 (.slice (some ⟨gq,0,none⟩) (outs++[(⟨#[61]⟩++vd)]).length cap1) (outs++[(⟨#[61]⟩++vd)]).length (strRow (outs++[(⟨#[61]⟩++vd)]))):=hidp (by
     have e:(outs++[(⟨#[61]⟩++vd)]).length=outs.length+1:=by simp
     rw [e,show strRow (outs++[(⟨#[61]⟩++vd)])=strRow outs++[.string (⟨#[61]⟩++vd)] by simp [strRow]];exact hown1)
    have HB1:Hid (Below wo.heap.size wo w1):=hidp (Below.grown HBC.out (grown_alloc hgrow) HBC.out.size (fun j e=>(own_ge HOW.out e).1))
    clear hown1 hgrow hgl hlt1
    go_wp2_with fail
    go_roundw
    case rel=>exact ⟨k+1,outs++[(⟨#[61]⟩++vd)],some ⟨gq,0,none⟩,cap1,by omega,by go_num,by simp,HT1.out.symm,by simp [HOL.out],HN1.out,HB1.out⟩
    case measure=>simp [intOf];omega
   ·have HT1:Hid (toldT R (k+1)=outs++[⟨#[]⟩]):=hidp (by rw [HTS.out,←HOUT.out];simp [txtOf,hz0e])
    clear HTS
    have HCUR:=hidp (show Below W.heap.size W ((wplus W x).alloc (.cells #[.int .i64 vw,.int .i64 vc,.int .i64 vs,.int .i64 vq,.string vd,.bool vg] 59)) from zB)
    have HOC:=hidp (own_below HOW.out HCUR.out (fun k e=>(own_ge HOW.out e).2))
    have HBC:=hidp (HBW.out.trans (HCUR.out.mono HBW.out.size))
    have hsC:=HBC.out.size
    have hol:outs.length≤8:=by rw [HOL.out];omega
    have hev:errV z=.iface 29 (.int .i64 z):=by unfold errV;rw [if_neg hz0e]
    go_wp2_with (at_builtin;go_must (refine wpList_append_lies _ rfl _ _ 68 rfl wo.heap.size 9 i0 (.string ⟨#[]⟩) 1 16 Tryz.underlying68 hi0 hz0 hz1 hz2 rfl (by decide) (.slice Ao outs.length co) outs.length (strRow outs) rfl (HOC.out.alloc _) ⟨W.heap.size+x.blocks.size+1,0,none⟩ 1 1 [.string (⟨#[]⟩:ByteArray)] rfl rfl (cells1 (blk_new (by simp) _)) ?c1 (by decide) ?c2 ?c3 ?c4 _ rfl ?_))
    case c1=>first | rfl | (intro u hu;simp at hu;subst hu;rfl)
    case c2=>refine Nat.le_trans ?_ maxLen_ge;omega
    case c3=>omega
    case c4=>first | omega | (simp at hsC ⊢;omega)
    intro gq cap1 w1 hown1 hgrow hgl hlt1
    have HN1:Hid (w1.ownsRow wo.heap.size 9 1 (.slice (some ⟨gq,0,none⟩) (outs++[(⟨#[]⟩:ByteArray)]).length cap1) (outs++[(⟨#[]⟩:ByteArray)]).length (strRow (outs++[(⟨#[]⟩:ByteArray)]))):=hidp (by
     have e:(outs++[(⟨#[]⟩:ByteArray)]).length=outs.length+1:=by simp
     rw [e,show strRow (outs++[(⟨#[]⟩:ByteArray)])=strRow outs++[.string (⟨#[]⟩:ByteArray)] by simp [strRow]];exact hown1)
    have HB1:Hid (Below wo.heap.size wo w1):=hidp (Below.grown HBC.out (grown_alloc hgrow) HBC.out.size (fun j e=>(own_ge HOW.out e).1))
    clear hown1 hgrow hgl hlt1
    go_wp2_with fail
    go_roundw
    case rel=>exact ⟨k+1,outs++[(⟨#[]⟩:ByteArray)],some ⟨gq,0,none⟩,cap1,by omega,by go_num,by simp,HT1.out.symm,by simp [HOL.out],HN1.out,HB1.out⟩
    case measure=>simp [intOf];omega
  ·obtain rfl:k=8:=by omega
   have hkd:decide ((8:Int)<8)=false:=by decide
   have HT:Hid (TsAt W Ao (toldT R 8)):=hidp (by rw [←HOUT.out];exact own_texts HOW.out)
   go_wp2_with fail
   go_ret
   exact ⟨Ao,co,by rw [HOL.out];rfl,HT.out,HBO.out.trans (HBW.out.mono HBO.out.size)⟩
end Go.Proofs.YtbopfhbeegkkaabGreatDoor
