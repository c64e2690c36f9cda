/- Part 10 of a proof: lemmas and contracts that other parts use. -/
import Derived.Test.YtbopfhbeegkkaabGreatDoorSe9
set_option linter.unusedVariables false
set_option linter.unusedSimpArgs false
set_option linter.constructorNameAsVariable false
namespace Go.Proofs.YtbopfhbeegkkaabGreatDoor
def Fit (S:Nat→List VerP) (N:Nat):Prop:=∀ k,k<8→(∀ x∈S k,0≤x.site∧x.site<4)∧(S k).length≤N
def ltV (a b:VerP):Prop:=a.w<b.w∨(a.w=b.w∧(a.c<b.c∨(a.c=b.c∧a.site<b.site)))
def sameV (a b:VerP):Prop:=a.w=b.w∧a.c=b.c∧a.site=b.site
theorem cmpV_neg (a b:VerP):cmpV a b<0↔ltV a b:=by
 unfold cmpV cmpS orI cmpI ltV
 repeat' split
 all_goals omega
theorem cmpV_zero (a b:VerP):cmpV a b=0↔sameV a b:=by
 unfold cmpV cmpS orI cmpI sameV
 repeat' split
 all_goals omega
theorem ltV_trans {a b c:VerP} (h:ltV a b) (h2:ltV b c):ltV a c:=by unfold ltV at *;omega
theorem ltV_irr {a b:VerP} (h:ltV a b) (h2:ltV b a):False:=by unfold ltV at *;omega
theorem ltV_tri (a b:VerP):ltV a b∨sameV a b∨ltV b a:=by unfold ltV sameV;omega
theorem ltV_same {a b:VerP} (h:ltV a b) (h2:sameV a b):False:=by unfold ltV sameV at *;omega
def Srt (vs:List VerP):Prop:=vs.Pairwise ltV
theorem srt_lt {vs:List VerP} (h:Srt vs) {i j:Nat} (hij:i<j) (hj:j<vs.length):ltV (vs.getD i default) (vs.getD j default):=by
 have:=List.pairwise_iff_getElem.1 h i j (by omega) hj hij
 simpa [List.getD,List.getElem?_eq_getElem (show i<vs.length by omega),List.getElem?_eq_getElem hj] using this
theorem getD_mem' {vs:List VerP} {i:Nat} (h:i<vs.length):vs.getD i default∈vs:=by
 simp [List.getD,List.getElem?_eq_getElem h]
theorem mem_getD {vs:List VerP} {x:VerP} (h:x∈vs):∃ i,i<vs.length∧vs.getD i default=x:=by
 obtain ⟨i,hi,rfl⟩:=List.getElem_of_mem h
 exact ⟨i,hi,by simp [List.getD,List.getElem?_eq_getElem hi]⟩
theorem bsGo_spec {vs:List VerP} (hs:Srt vs) (v:VerP):∀ (f lo hi:Nat),hi-lo≤f→lo≤hi→hi≤vs.length→(∀ i,i<lo→ltV (vs.getD i default) v)→(∀ i,hi≤i→i<vs.length→¬ltV (vs.getD i default) v)→
  (∀ i,i<bsGo vs v f lo hi→ltV (vs.getD i default) v)∧(∀ i,bsGo vs v f lo hi≤i→i<vs.length→¬ltV (vs.getD i default) v)
 | 0,lo,hi,hf,hl,hh,h1,h2=>by
   unfold bsGo
   exact ⟨h1,fun i hi' hl'=>h2 i (by omega) hl'⟩
 | f+1,lo,hi,hf,hl,hh,h1,h2=>by
   unfold bsGo
   split
   ·split
    ·rename_i hlt hc
     refine bsGo_spec hs v f _ hi (by omega) (by omega) hh ?_ h2
     intro i hi'
     rw [cmpV_neg] at hc
     by_cases e:i=(lo+hi) / 2
     ·subst e;exact hc
     ·exact ltV_trans (srt_lt hs (by omega) (by omega)) hc
    ·rename_i hlt hc
     refine bsGo_spec hs v f lo _ (by omega) (by omega) (by omega) h1 ?_
     intro i hi' hl'
     rw [cmpV_neg] at hc
     by_cases e:i=(lo+hi) / 2
     ·subst e;exact hc
     ·intro h;exact hc (ltV_trans (srt_lt hs (by omega) hl') h)
   ·exact ⟨h1,fun i hi' hl'=>h2 i (by omega) hl'⟩
theorem bsK_lo {vs:List VerP} (hs:Srt vs) (v:VerP):∀ i,i<bsK vs v→ltV (vs.getD i default) v:=
 (bsGo_spec hs v vs.length 0 vs.length (by omega) (by omega) (by omega) (fun i h=>by omega) (fun i h h2=>by omega)).1
theorem bsK_hi {vs:List VerP} (hs:Srt vs) (v:VerP):∀ i,bsK vs v≤i→i<vs.length→¬ltV (vs.getD i default) v:=
 (bsGo_spec hs v vs.length 0 vs.length (by omega) (by omega) (by omega) (fun i h=>by omega) (fun i h h2=>by omega)).2
theorem bsF_iff {vs:List VerP} (hs:Srt vs) (v:VerP):bsF vs v=true↔∃ x∈vs,sameV x v:=by
 unfold bsF
 rw [Bool.and_eq_true,decide_eq_true_eq,decide_eq_true_eq,cmpV_zero]
 constructor
 ·rintro ⟨h1,h2⟩
  exact ⟨_,getD_mem' h1,h2⟩
 ·rintro ⟨x,hx,hsm⟩
  obtain ⟨i,hi,rfl⟩:=mem_getD hx
  have h1:¬i<bsK vs v:=fun h=>ltV_same (bsK_lo hs v i h) hsm
  have h2:bsK vs v<vs.length:=by omega
  refine ⟨h2,?_⟩
  by_cases e:i=bsK vs v
  ·subst e;exact hsm
  ·have h3:=srt_lt hs (show bsK vs v<i by omega) hi
   exact absurd (show ltV (vs.getD (bsK vs v) default) v by unfold ltV sameV at *;omega) (bsK_hi hs v _ (Nat.le_refl _) h2)
theorem insV_mem (vs:List VerP) (v x:VerP):x∈insV vs v↔x=v∨x∈vs:=by
 unfold insV
 have:x∈vs↔x∈vs.take (bsK vs v)∨x∈vs.drop (bsK vs v):=by
  rw [←List.mem_append,List.take_append_drop]
 rw [this]
 simp only [List.mem_append,List.mem_singleton]
 constructor
 ·rintro ((h | h) | h)
  ·exact .inr (.inl h)
  ·exact .inl h
  ·exact .inr (.inr h)
 ·rintro (h | h | h)
  ·exact .inl (.inr h)
  ·exact .inl (.inl h)
  ·exact .inr h
theorem take_getD {vs:List VerP} {k:Nat} {x:VerP} (h:x∈vs.take k):∃ i,i<k∧i<vs.length∧vs.getD i default=x:=by
 obtain ⟨i,hi,rfl⟩:=List.getElem_of_mem h
 rw [List.length_take] at hi
 exact ⟨i,by omega,by omega,by simp [List.getD,List.getElem?_eq_getElem (show i<vs.length by omega)]⟩
theorem drop_getD {vs:List VerP} {k:Nat} {x:VerP} (h:x∈vs.drop k):∃ i,k≤i∧i<vs.length∧vs.getD i default=x:=by
 obtain ⟨i,hi,rfl⟩:=List.getElem_of_mem h
 rw [List.length_drop] at hi
 exact ⟨k+i,by omega,by omega,by simp [List.getD,List.getElem?_eq_getElem (show k+i<vs.length by omega)]⟩
theorem insV_srt {vs:List VerP} (hs:Srt vs) {v:VerP} (hf:bsF vs v=false):Srt (insV vs v):=by
 unfold insV Srt
 rw [List.append_assoc]
 refine List.pairwise_append.2 ⟨hs.sublist (List.take_sublist _ _),?_,?_⟩
 ·rw [List.singleton_append]
  refine List.pairwise_cons.2 ⟨?_,hs.sublist (List.drop_sublist _ _)⟩
  intro y hy
  obtain ⟨i,h1,h2,rfl⟩:=drop_getD hy
  have h3:=bsK_hi hs v i h1 h2
  rcases ltV_tri v (vs.getD i default) with h | h | h
  ·exact h
  ·have:bsF vs v=true:=(bsF_iff hs v).2 ⟨_,getD_mem' h2,by unfold sameV at *;omega⟩
   rw [this] at hf;cases hf
  ·exact absurd h h3
 ·intro x hx y hy
  obtain ⟨i,h1,h2,rfl⟩:=take_getD hx
  have h3:=bsK_lo hs v i h1
  simp only [List.singleton_append,List.mem_cons] at hy
  rcases hy with rfl | hy
  ·exact h3
  ·obtain ⟨j,h4,h5,rfl⟩:=drop_getD hy
   exact srt_lt hs (by omega) h5
theorem srt_uniq {vs:List VerP} (hs:Srt vs) {x y:VerP} (hx:x∈vs) (hy:y∈vs):x=y∨ltV x y∨ltV y x:=by
 obtain ⟨i,hi,rfl⟩:=mem_getD hx
 obtain ⟨j,hj,rfl⟩:=mem_getD hy
 by_cases e:i=j
 ·subst e;exact .inl rfl
 ·by_cases e2:i<j
  ·exact .inr (.inl (srt_lt hs e2 hj))
  ·exact .inr (.inr (srt_lt hs (by omega) hi))
theorem rfind_some {p:VerP→Bool} {vs:List VerP} (hs:Srt vs) {x:VerP}:vs.reverse.find? p=some x↔x∈vs∧p x=true∧∀ y∈vs,p y=true→y=x∨ltV y x:=by
 induction vs with
 | nil=>simp
 | cons a l ih=>
   have hs':Srt l:=(List.pairwise_cons.1 hs).2
   have ha:=(List.pairwise_cons.1 hs).1
   rw [List.reverse_cons,List.find?_append]
   have ih:=ih hs'
   cases hf:l.reverse.find? p with
   | some z=>
     rw [hf] at ih
     simp only [Option.some_or,Option.some.injEq] at ih ⊢
     constructor
     ·intro e
      obtain ⟨h1,h2,h3⟩:=ih.1 e
      refine ⟨List.mem_cons_of_mem _ h1,h2,?_⟩
      intro y hy hp
      rcases List.mem_cons.1 hy with rfl | hy
      ·exact .inr (ha x h1)
      ·exact h3 y hy hp
     ·rintro ⟨h1,h2,h3⟩
      refine ih.2 ?_
      rcases List.mem_cons.1 h1 with rfl | h1
      ·have hz:z∈l∧p z=true:=⟨List.mem_reverse.1 (List.mem_of_find?_eq_some hf),List.find?_some hf⟩
       rcases h3 z (List.mem_cons_of_mem _ hz.1) hz.2 with e | e
       ·subst e;exact absurd (ha z hz.1) (fun h=>ltV_irr h h)
       ·exact absurd e (fun h=>ltV_irr h (ha z hz.1))
      ·exact ⟨h1,h2,fun y hy=>h3 y (List.mem_cons_of_mem _ hy)⟩
   | none=>
     have hn:∀ y∈l,p y=false:=fun y hy=>by
      have:=List.find?_eq_none.1 hf y (List.mem_reverse.2 hy)
      simpa using this
     simp only [Option.none_or]
     constructor
     ·intro e
      have hpx:=List.find?_some e
      have hmx:=List.mem_of_find?_eq_some e
      simp only [List.mem_singleton] at hmx
      subst hmx
      refine ⟨by simp,hpx,?_⟩
      intro y hy hp
      rcases List.mem_cons.1 hy with rfl | hy
      ·exact .inl rfl
      ·rw [hn y hy] at hp;cases hp
     ·rintro ⟨h1,h2,h3⟩
      rcases List.mem_cons.1 h1 with rfl | h1
      ·simp [h2]
      ·rw [hn x h1] at h2;cases h2
theorem find_some {a0 a1 a2 a3:Int} {vs:List VerP} (hs:Srt vs) {x:VerP}:findV a0 a1 a2 a3 vs=some x↔x∈vs∧seenV a0 a1 a2 a3 x=true∧∀ y∈vs,seenV a0 a1 a2 a3 y=true→y=x∨ltV y x:=rfind_some hs
theorem find_none {a0 a1 a2 a3:Int} {vs:List VerP}:findV a0 a1 a2 a3 vs=none↔∀ x∈vs,seenV a0 a1 a2 a3 x=false:=by
 unfold findV
 rw [List.find?_eq_none]
 constructor
 ·intro h x hx;simpa using h x (List.mem_reverse.2 hx)
 ·intro h x hx;simpa using h x (List.mem_reverse.1 hx)
structure PtP where
 key:Int
 v:VerP
instance : Inhabited PtP := ⟨⟨0, default⟩⟩
def sameB (p q:PtP):Bool:=p.key==q.key&&(p.v.w==q.v.w&&p.v.c==q.v.c)&&p.v.site==q.v.site
def putP (S:Nat→List VerP) (p:PtP):Nat→List VerP:=(putR S p.key p.v).2
theorem sameB_iff (p q:PtP):sameB p q=true↔(p.key=q.key∧sameV p.v q.v):=by
 unfold sameB sameV
 simp only [Bool.and_eq_true,beq_iff_eq]
 constructor
 ·rintro ⟨⟨h1,h2,h3⟩,h4⟩;exact ⟨h1,h2,h3,h4⟩
 ·rintro ⟨h1,h2,h3,h4⟩;exact ⟨⟨h1,h2,h3⟩,h4⟩
theorem putP_len (S:Nat→List VerP) (p:PtP) (k:Nat):(putP S p k).length≤(S k).length+1:=by
 unfold putP putR
 split
 ·simp
 ·split
  ·simp
  ·split
   ·simp
   ·simp only
    split
    ·simp only [insV,List.length_append,List.length_take,List.length_drop,List.length_cons,List.length_nil];omega
    ·omega
theorem putP_site {S:Nat→List VerP} {p:PtP} {k:Nat} (h:∀ x∈S k,0≤x.site∧x.site<4):∀ x∈putP S p k,0≤x.site∧x.site<4:=by
 unfold putP putR
 split
 ·exact h
 ·split
  ·exact h
  ·rename_i hr
   split
   ·exact h
   ·intro x hx
    simp only at hx
    split at hx
    ·rcases (insV_mem _ _ _).1 hx with rfl | hx
     ·have hr:rightV p.v=true:=by simpa using hr
      unfold rightV at hr
      simp only [Bool.and_eq_true,decide_eq_true_eq] at hr
      omega
     ·exact h x hx
    ·exact h x hx
theorem Fit.put {S:Nat→List VerP} {N:Nat} (h:Fit S N) (p:PtP):Fit (putP S p) (N+1):=fun k hk=>
 ⟨putP_site (h k hk).1,Nat.le_trans (putP_len S p k) (by have:=(h k hk).2;omega)⟩
theorem Fit.mono {S:Nat→List VerP} {N M:Nat} (h:Fit S N) (hm:N≤M):Fit S M:=fun k hk=>⟨(h k hk).1,Nat.le_trans (h k hk).2 hm⟩
def rlGo (a0 a1 a2 a3:Int) (key:Int):List PtP→VerP→Bool→VerP×Bool
 | [],b,s=>(b,s)
 | h::l,b,s=>if h.key=key∧seenV a0 a1 a2 a3 h.v=true∧(s=false∨cmpV b h.v<0) then rlGo a0 a1 a2 a3 key l h.v true else rlGo a0 a1 a2 a3 key l b s
def rLast (a0 a1 a2 a3:Int) (key:Int) (L:List PtP):VerP×Bool:=rlGo a0 a1 a2 a3 key L verZ false
def rRead (a0 a1 a2 a3:Int) (L:List PtP) (key:Int):VerP×Int:=
 if key<0∨8≤key then (verZ,2) else if (rLast a0 a1 a2 a3 key L).2=false∨(rLast a0 a1 a2 a3 key L).1.gone=true then (verZ,8) else ((rLast a0 a1 a2 a3 key L).1,0)
def rTwice (L:List PtP) (key:Int) (v:VerP):Bool:=L.any fun h=>sameB h ⟨key,v⟩
def rPut (L:List PtP) (key:Int) (v:VerP):Int×List PtP:=
 if key<0∨8≤key then (2,L) else if rightV v=false then (1,L) else if rTwice L key v=true then (9,L) else (0,L++[⟨key,v⟩])
structure Rep (S:Nat→List VerP) (L:List PtP):Prop where
 key:∀ p∈L,0≤p.key∧p.key<8
 site:∀ p∈L,0≤p.v.site∧p.v.site<4
 srt:∀ k,k<8→Srt (S k)
 perm:∀ k,k<8→(S k).Perm ((L.filter fun p=>decide (p.key=(k:Int))).map (·.v))
theorem Rep.nil:Rep (fun _=>[]) []:=⟨fun p h=>(by cases h),fun p h=>(by cases h),fun _ _=>List.Pairwise.nil,fun _ _=>List.Perm.refl _⟩
theorem Rep.mem {S:Nat→List VerP} {L:List PtP} (h:Rep S L) {k:Nat} (hk:k<8) (x:VerP):x∈S k↔∃ p∈L,p.key=k∧p.v=x:=by
 rw [(h.perm k hk).mem_iff]
 simp only [List.mem_map,List.mem_filter,decide_eq_true_eq]
 constructor
 ·rintro ⟨p,⟨h1,h2⟩,h3⟩;exact ⟨p,h1,h2,h3⟩
 ·rintro ⟨p,h1,h2,h3⟩;exact ⟨p,⟨h1,h2⟩,h3⟩
theorem len_split:∀ (L:List PtP),(∀ p∈L,0≤p.key∧p.key<8)→L.length=(L.filter fun p=>decide (p.key=((0:Nat):Int))).length+(L.filter fun p=>decide (p.key=((1:Nat):Int))).length+(L.filter fun p=>decide (p.key=((2:Nat):Int))).length+(L.filter fun p=>decide (p.key=((3:Nat):Int))).length+(L.filter fun p=>decide (p.key=((4:Nat):Int))).length+(L.filter fun p=>decide (p.key=((5:Nat):Int))).length+(L.filter fun p=>decide (p.key=((6:Nat):Int))).length+(L.filter fun p=>decide (p.key=((7:Nat):Int))).length
 | [],_=>rfl
 | p::L,h=>by
   have ih:=len_split L (fun q hq=>h q (List.mem_cons_of_mem _ hq))
   obtain ⟨h1,h2⟩:=h p (by simp)
   have hc:p.key=0∨p.key=1∨p.key=2∨p.key=3∨p.key=4∨p.key=5∨p.key=6∨p.key=7:=by omega
   rcases hc with e | e | e | e | e | e | e | e <;> simp [List.filter_cons,e] at ih ⊢ <;> omega
theorem Rep.many {S:Nat→List VerP} {L:List PtP} (h:Rep S L):L.length=(S 0).length+(S 1).length+(S 2).length+(S 3).length+(S 4).length+(S 5).length+(S 6).length+(S 7).length:=by
 have e:∀ k,k<8→(S k).length=(L.filter fun p=>decide (p.key=(k:Int))).length:=fun k hk=>by
  rw [(h.perm k hk).length_eq,List.length_map]
 rw [e 0 (by omega),e 1 (by omega),e 2 (by omega),e 3 (by omega),e 4 (by omega),e 5 (by omega),e 6 (by omega),e 7 (by omega)]
 exact len_split L h.key
theorem rlGo_spec (a0 a1 a2 a3:Int) (key:Int):∀ (l:List PtP) (b:VerP) (s:Bool),
  ((rlGo a0 a1 a2 a3 key l b s).2=false→s=false∧∀ p∈l,p.key=key→seenV a0 a1 a2 a3 p.v=false)∧
  ((rlGo a0 a1 a2 a3 key l b s).2=true→((s=true∧(rlGo a0 a1 a2 a3 key l b s).1=b)∨∃ p∈l,p.key=key∧seenV a0 a1 a2 a3 p.v=true∧p.v=(rlGo a0 a1 a2 a3 key l b s).1)∧
    (s=true→¬ltV (rlGo a0 a1 a2 a3 key l b s).1 b)∧∀ p∈l,p.key=key→seenV a0 a1 a2 a3 p.v=true→¬ltV (rlGo a0 a1 a2 a3 key l b s).1 p.v)∧
  ((rlGo a0 a1 a2 a3 key l b s).2=false→(rlGo a0 a1 a2 a3 key l b s).1=b)
 | [],b,s=>by
   simp only [rlGo]
   exact ⟨fun h=>⟨h,fun p hp=>(by cases hp)⟩,fun h=>⟨.inl ⟨h,trivial⟩,fun _ h2=>ltV_irr h2 h2,fun p hp=>(by cases hp)⟩,fun _=>trivial⟩
 | p::l,b,s=>by
   unfold rlGo
   split
   ·rename_i hc
    obtain ⟨c1,c2,c3⟩:=hc
    obtain ⟨i1,i2,_⟩:=rlGo_spec a0 a1 a2 a3 key l p.v true
    refine ⟨fun h=>?_,fun h=>?_,fun h=>?_⟩
    ·cases (i1 h).1
    ·obtain ⟨j1,j2,j3⟩:=i2 h
     refine ⟨.inr ?_,?_,?_⟩
     ·rcases j1 with ⟨_,j1⟩ | ⟨q,h1,h2⟩
      ·exact ⟨p,by simp,c1,c2,j1.symm⟩
      ·exact ⟨q,List.mem_cons_of_mem _ h1,h2⟩
     ·intro hs hl
      rcases c3 with c3 | c3
      ·rw [hs] at c3;cases c3
      ·exact j2 rfl (ltV_trans hl ((cmpV_neg _ _).1 c3))
     ·intro q hq hk hs
      rcases List.mem_cons.1 hq with rfl | hq
      ·exact j2 rfl
      ·exact j3 q hq hk hs
    ·cases (i1 h).1
   ·rename_i hc
    obtain ⟨i1,i2,i3⟩:=rlGo_spec a0 a1 a2 a3 key l b s
    refine ⟨fun h=>?_,fun h=>?_,i3⟩
    ·obtain ⟨j1,j2⟩:=i1 h
     refine ⟨j1,fun q hq hk=>?_⟩
     rcases List.mem_cons.1 hq with rfl | hq
     ·rw [Bool.eq_false_iff]
      intro hs
      exact hc ⟨hk,hs,.inl j1⟩
     ·exact j2 q hq hk
    ·obtain ⟨j1,j2,j3⟩:=i2 h
     refine ⟨?_,j2,?_⟩
     ·rcases j1 with j1 | ⟨q,h1,h2⟩
      ·exact .inl j1
      ·exact .inr ⟨q,List.mem_cons_of_mem _ h1,h2⟩
     ·intro q hq hk hs
      rcases List.mem_cons.1 hq with rfl | hq
      ·intro hl
       have hst:s=true:=by
        cases hsb:s with
        | true=>rfl
        | false=>exact (hc ⟨hk,hs,.inl hsb⟩).elim
       have h2:¬ltV b q.v:=fun e=>hc ⟨hk,hs,.inr ((cmpV_neg _ _).2 e)⟩
       have h3:=j2 hst
       revert hl h2 h3
       unfold ltV
       omega
      ·exact j3 q hq hk hs
theorem Rep.last {S:Nat→List VerP} {L:List PtP} (h:Rep S L) (a0 a1 a2 a3:Int) {k:Nat} (hk:k<8):
  rLast a0 a1 a2 a3 k L=match findV a0 a1 a2 a3 (S k) with | some v=>(v,true) | none=>(verZ,false):=by
 obtain ⟨h1,h2,h3⟩:=rlGo_spec a0 a1 a2 a3 k L verZ false
 cases hr:(rlGo a0 a1 a2 a3 k L verZ false).2 with
 | false=>
   have hn:findV a0 a1 a2 a3 (S k)=none:=by
    rw [find_none]
    intro x hx
    obtain ⟨p,hp,e1,rfl⟩:=(h.mem hk x).1 hx
    exact (h1 hr).2 p hp e1
   rw [hn]
   exact Prod.ext (h3 hr) hr
 | true=>
   obtain ⟨j1,_,j3⟩:=h2 hr
   rcases j1 with ⟨e,_⟩ | ⟨p,hp,e1,e2,e3⟩
   ·cases e
   ·have hf:findV a0 a1 a2 a3 (S k)=some p.v:=by
     rw [find_some (h.srt k hk)]
     have hm:p.v∈S k:=(h.mem hk _).2 ⟨p,hp,e1,rfl⟩
     refine ⟨hm,e2,fun y hy hsy=>?_⟩
     obtain ⟨q,hq,f1,rfl⟩:=(h.mem hk y).1 hy
     have:=j3 q hq f1 hsy
     rw [←e3] at this
     rcases srt_uniq (h.srt k hk) hy hm with e | e | e
     ·exact .inl e
     ·exact .inr e
     ·exact absurd e this
    rw [hf]
    exact Prod.ext e3.symm hr
theorem Rep.read {S:Nat→List VerP} {L:List PtP} (h:Rep S L) (a0 a1 a2 a3:Int) (key:Int):rRead a0 a1 a2 a3 L key=readR a0 a1 a2 a3 S key:=by
 unfold rRead readR
 split
 ·rfl
 ·rename_i hk
  have hl:=h.last a0 a1 a2 a3 (k:=key.toNat) (by omega)
  rw [show ((key.toNat:Nat):Int)=key by omega] at hl
  rw [hl]
  cases findV a0 a1 a2 a3 (S key.toNat) with
  | none=>simp
  | some v=>simp
theorem Rep.put {S:Nat→List VerP} {L:List PtP} (h:Rep S L) (key:Int) (v:VerP):(rPut L key v).1=(putR S key v).1∧Rep (putR S key v).2 (rPut L key v).2:=by
 unfold rPut putR
 split
 ·exact ⟨rfl,h⟩
 ·rename_i hk
  split
  ·exact ⟨rfl,h⟩
  ·rename_i hr
   have hkk:key.toNat<8:=by omega
   have htw:rTwice L key v=bsF (S key.toNat) v:=by
    rw [Bool.eq_iff_iff,bsF_iff (h.srt _ hkk)]
    unfold rTwice
    rw [List.any_eq_true]
    constructor
    ·rintro ⟨p,hp,hs⟩
     obtain ⟨e1,e2⟩:=(sameB_iff _ _).1 hs
     exact ⟨p.v,(h.mem hkk _).2 ⟨p,hp,by simp only at e1;omega,rfl⟩,e2⟩
    ·rintro ⟨x,hx,hs⟩
     obtain ⟨p,hp,e1,rfl⟩:=(h.mem hkk _).1 hx
     exact ⟨p,hp,(sameB_iff _ _).2 ⟨by simp only;omega,hs⟩⟩
   rw [htw]
   split
   ·exact ⟨rfl,h⟩
   ·rename_i hf
    have hr:rightV v=true:=by simpa using hr
    have hsite:0≤v.site∧v.site<4:=by
     unfold rightV at hr
     simp only [Bool.and_eq_true,decide_eq_true_eq] at hr
     omega
    refine ⟨rfl,⟨?_,?_,?_,?_⟩⟩
    ·intro p hp
     rcases List.mem_append.1 hp with hp | hp
     ·exact h.key p hp
     ·simp only [List.mem_singleton] at hp;subst hp;simp only;omega
    ·intro p hp
     rcases List.mem_append.1 hp with hp | hp
     ·exact h.site p hp
     ·simp only [List.mem_singleton] at hp;subst hp;exact hsite
    ·intro k hk8
     simp only
     split
     ·rename_i e;subst e;exact insV_srt (h.srt _ hk8) (by simpa using hf)
     ·exact h.srt k hk8
    ·intro k hk8
     simp only
     rw [List.filter_append,List.map_append]
     split
     ·rename_i e
      subst e
      have e2:((key.toNat:Nat):Int)=key:=by omega
      have:([⟨key,v⟩]:List PtP).filter (fun p=>decide (p.key=((key.toNat:Nat):Int)))=[⟨key,v⟩]:=by simp [e2]
      rw [this]
      have hp:=h.perm key.toNat hk8
      refine List.Perm.trans ?_ (hp.append_right _)
      unfold insV
      rw [List.append_assoc]
      refine List.Perm.trans (List.perm_append_comm_assoc _ _ _) ?_
      rw [List.take_append_drop]
      exact List.perm_append_comm
     ·rename_i e
      have:([⟨key,v⟩]:List PtP).filter (fun p=>decide (p.key=(k:Int)))=[]:=by
       simp;omega
      rw [this]
      simpa using h.perm k hk8
end Go.Proofs.YtbopfhbeegkkaabGreatDoor
