/- Part 34 of a proof: lemmas and contracts that other parts use. -/
import Derived.Test.YtbopfhbeegkkaabGreatDoorSe33
import Derived.Lib.SlKeysI
set_option linter.unusedVariables false
set_option linter.unusedSimpArgs false
set_option linter.constructorNameAsVariable false
namespace Go.Proofs.YtbopfhbeegkkaabGreatDoor
open Go.RowKit
def WsOk (W:List WrP):Prop:=∀ x∈W,(0≤x.key∧x.key≤7)∧x.data.size≤12∧(x.gone=true→x.data.toList.isEmpty=true)
theorem lastW_mem {k:Int}:∀ {l:List WrP} {x:WrP},lastW l k=some x→x∈l
 | y::l,x,h=>by
   unfold lastW at h
   split at h
   ·rename_i z hz
    cases h
    exact List.mem_cons_of_mem _ (lastW_mem hz)
   ·split at h
    ·cases h;exact List.mem_cons_self ..
    ·cases h
def sdAt (d:SdP) (i:Int) (z:Int):SdP:={ d with q0:=if i=0 then max d.q0 z else d.q0,q1:=if i=1 then max d.q1 z else d.q1,q2:=if i=2 then max d.q2 z else d.q2,q3:=if i=3 then max d.q3 z else d.q3 }
def snAt (d:SnP) (i:Int) (z:Int):SnP:={ d with q0:=if i=0 then max d.q0 z else d.q0,q1:=if i=1 then max d.q1 z else d.q1,q2:=if i=2 then max d.q2 z else d.q2,q3:=if i=3 then max d.q3 z else d.q3 }
structure SesA (s:SnP) (d:SdP):Prop where
 rep:SesRep s d
 ws:WsOk d.W
 qn:0≤d.q0∧0≤d.q1∧0≤d.q2∧0≤d.q3
theorem SesA.fresh:SesA snNew ⟨0,0,0,0,0,0,0,0,false,[]⟩:=⟨SesRep.fresh,fun x h=>(by cases h),by simp⟩
theorem SesA.abort {s:SnP} {d:SdP} (h:SesA s d):SesA (snAbort s) (sdAbort d):=by
 refine ⟨h.rep.abort,fun x hx=>(by cases hx),?_⟩
 have:=h.qn
 unfold sdAbort
 simp only
 omega
theorem SesA.begin_ {s:SnP} {d:SdP} (h:SesA s d) (p0 p1 p2 p3:Int):SesA (snBegin s p0 p1 p2 p3) (sdBegin d p0 p1 p2 p3):=
 ⟨h.rep.begin_ p0 p1 p2 p3,fun x hx=>(by cases hx),h.qn⟩
theorem sdWriteE_ok {d:SdP} {x:WrP} (he:sdWriteE d x=0):d.op=true∧(0≤x.key∧x.key≤7)∧x.data.size≤12∧(x.gone=false∨x.data.toList.isEmpty=true)∧¬(lastW d.W x.key=none∧5≤(allW d.W 8).length):=by
 unfold sdWriteE at he
 split at he
 ·cases he
 split at he
 ·cases he
 split at he
 ·cases he
 split at he
 ·cases he
 split at he
 ·cases he
 rename_i h1 h2 h3 h4 h5
 refine ⟨by simpa using h1,by omega,by omega,?_,h5⟩
 cases hg:x.gone with
 | false=>exact .inl rfl
 | true=>
   refine .inr ?_
   cases hb:emptyB x.data with
   | true=>exact hb
   | false=>exact absurd ⟨hg,hb⟩ h4
theorem SesA.write {s:SnP} {d:SdP} (h:SesA s d) {x:WrP} (he:sdWriteE d x=0):SesA (snWrite s x) { d with W:=d.W++[x] }:=by
 obtain ⟨h1,h2,h3,h4,h5⟩:=sdWriteE_ok he
 refine ⟨h.rep.write (by rw [h.rep.op];exact h1) h2,fun y hy=>?_,h.qn⟩
 rcases List.mem_append.1 hy with e | e
 ·exact h.ws y e
 ·obtain rfl:y=x:=by simpa using e
  exact ⟨h2,h3,fun hg=>h4.resolve_left (by rw [hg];simp)⟩
theorem SesA.at {s:SnP} {d:SdP} (h:SesA s d) (i z:Int):SesA (snAt s i z) (sdAt d i z):=by
 obtain ⟨⟨⟨a,b,c,e⟩,n,o,m,mn⟩,ws,qn⟩:=h
 refine ⟨⟨?_,n,o,m,mn⟩,ws,?_⟩
 ·unfold snAt sdAt;simp only [a,b,c,e,and_self]
 ·unfold sdAt
  simp only
  refine ⟨?_,?_,?_,?_⟩ <;> split <;> omega
def keys8 (f:Int→Option WrP):List Int:=(List.range 8).filterMap fun (i:Nat)=>if (f (i:Int)).isSome then some (i:Int) else none
theorem keys8_sorted (f:Int→Option WrP):(keys8 f).Pairwise (· < ·):=by
 unfold keys8
 refine List.Pairwise.filterMap _ (S:=fun a b:Int=>a<b) ?_ (List.pairwise_lt_range (n:=8))
 intro a b hab x hx y hy
 split at hx
 ·split at hy
  ·simp only [Option.mem_def,Option.some.injEq] at hx hy
   omega
  ·simp at hy
 ·simp at hx
theorem keys8_mem (f:Int→Option WrP) (k:Int):k∈keys8 f↔(0≤k∧k≤7)∧(f k).isSome=true:=by
 unfold keys8
 rw [List.mem_filterMap]
 constructor
 ·rintro ⟨i,hi,h⟩
  have hi':=List.mem_range.1 hi
  split at h
  ·obtain rfl:=Option.some.inj h
   exact ⟨by omega,by assumption⟩
  ·cases h
 ·rintro ⟨h1,h2⟩
  refine ⟨k.toNat,List.mem_range.2 (by omega),?_⟩
  have e:(k.toNat:Int)=k:=by omega
  rw [e,if_pos h2]
theorem WpAt.keys {w:World} {m sz:Nat} {f:Int→Option WrP} (h:WpAt w m f sz) (hk:∀ k,(f k).isSome=true→0≤k∧k≤7):
  ∃ D:DataW Value,w.ownsMap Tryz.prog 3 heldV m sz D∧Maps.size D=sz∧∀ ss:List Int,ss.Perm (intKeys D)→ss.mergeSort leI=keys8 f∧ss.length=(keys8 f).length:=by
 obtain ⟨D,h1,h2,h3⟩:=h
 refine ⟨D,h1,h2,fun ss hp=>?_⟩
 have hu:Tryz.prog.underlying 3=some (.int .i64):=Tryz.underlying3
 have hwf:=intKeys_wf h1 hu
 obtain ⟨es,hD,hpw,_⟩:=h1.entries keyedI
 obtain ⟨es',hD',hko⟩:=h1.keysOf
 obtain rfl:es=es':=by rw [hD] at hD';simpa using hD'
 have hs:=keys8_sorted f
 have hnd:(keys8 f).Nodup:=hs.imp (fun h=>Int.ne_of_lt h)
 have hperm:(keys8 f).Perm (intKeys D):=by
  subst hD
  refine perm_intKeys hpw (fun p hp=>by obtain ⟨v,hv⟩:=hko p hp;obtain ⟨x,_,hx,_⟩:=Maps.keyOf_i64 hu hv;exact ⟨x,hx⟩) hnd (fun x=>?_)
  rw [keys8_mem]
  constructor
  ·rintro ⟨h4,h5⟩
   rw [(h3 x ⟨by omega,by omega⟩).1];exact h5
  ·intro h4
   by_cases hx:wf64 x
   ·rw [(h3 x hx).1] at h4
    exact ⟨hk x h4,h4⟩
   ·exfalso
    rw [Maps.has_eq,List.any_eq_true] at h4
    obtain ⟨p,hp,hs⟩:=h4
    obtain ⟨v,hv⟩:=hko p hp
    obtain ⟨y,_,hy,hl⟩:=Maps.keyOf_i64 hu hv
    rw [hy] at hs
    have:y=x:=by simpa [Lit.sameKey] using hs
    subst this
    exact hx (by
     have:=hl
     simp [Lit.wf,IntKind.min,IntKind.max,IntKind.signed,IntKind.bits] at this
     unfold wf64
     omega)
 have hp2:ss.Perm (keys8 f):=hp.trans hperm.symm
 refine ⟨?_,hp2.length_eq⟩
 rw [mergeSort_of_perm_i hp2]
 exact List.mergeSort_of_pairwise (hs.imp fun {a b} h=>by simp only [decide_eq_true_eq];omega)
theorem keys8_all {s:SnP} {d:SdP} (h:SesA s d) (ho:s.op=true):(keys8 s.m).filterMap s.m=allW d.W 8:=by
 unfold keys8 allW
 rw [List.filterMap_filterMap]
 congr 1
 funext i
 have e:=h.rep.m ho (i:Int)
 cases hl:lastW d.W (i:Int) with
 | none=>rw [hl] at e;simp [e]
 | some y=>rw [hl] at e;simp [e]
theorem keys8_len {s:SnP} {d:SdP} (h:SesA s d) (ho:s.op=true):(keys8 s.m).length=s.mn:=by
 rw [h.rep.mn ho,←keys8_all h ho]
 have:∀ l:List Int,(∀ k∈l,(s.m k).isSome=true)→(l.filterMap s.m).length=l.length:=by
  intro l
  induction l with
  | nil=>intro _;rfl
  | cons k l ih=>
    intro hl
    have h1:=hl k (List.mem_cons_self ..)
    obtain ⟨x,hx⟩:=Option.isSome_iff_exists.1 h1
    simp [hx,ih fun k hk=>hl k (List.mem_cons_of_mem _ hk)]
 exact (this _ fun k hk=>((keys8_mem s.m k).1 hk).2).symm
theorem SesA.dom {s:SnP} {d:SdP} (h:SesA s d) (ho:s.op=true):∀ k,(s.m k).isSome=true→0≤k∧k≤7:=fun k hk=>by
 rw [h.rep.m ho] at hk
 obtain ⟨x,hx⟩:=Option.isSome_iff_exists.1 hk
 have:=(h.ws x (lastW_mem hx)).1
 rwa [lastW_key hx] at this
def SneA (B u:Nat) (d:SdP) (o:Ob):Prop:=∃ s mv,o=obN B u s mv∧SesA s d
def SdeA (B v:Nat) (d:SdP) (o:Ob):Prop:=∃ wv,o=obD B v d wv∧∃ s,SesA s d
theorem SneA.ok {B u:Nat} {d:SdP} {o:Ob} (h:SneA B u d o):o.Ok B:=by obtain ⟨s,mv,rfl,_⟩:=h;exact obN_ok ..
theorem SdeA.ok {B v:Nat} {d:SdP} {o:Ob} (h:SdeA B v d o):o.Ok B:=by obtain ⟨wv,rfl,_⟩:=h;exact obD_ok ..
def dBegin (d:SdP) (p0 p1 p2 p3:Int):SdP:=if sdBeginE d p0 p1 p2 p3=0 then sdBegin d p0 p1 p2 p3 else d
def dWrite (d:SdP) (x:WrP):SdP:=if sdWriteE d x=0 then { d with W:=d.W++[x] } else d
def dAbort (d:SdP):SdP:=if d.op=true then sdAbort d else d
def dAbortE (d:SdP):Int:=if d.op=true then 0 else 6
section
variable {w w':World} {B u v:Nat} {d:SdP} {o:Ob}
theorem SneA.begin_ (h:SneA B u d o) (hw:o.at_ w) (x:Nat) (p0 p1 p2 p3:Int)
  (hap:∀ W,Below w.heap.size w W→Calls Tryz.prog 26 #[.pointer (some ⟨x,0,none⟩)] W fun e w'=>e=.returned (.agg #[.int .i64 p0,.int .i64 p1,.int .i64 p2,.int .i64 p3])∧Below W.heap.size W w'):
  Calls Tryz.prog 38 #[.pointer (some ⟨u,0,none⟩),.pointer (some ⟨x,0,none⟩)] w fun e w'=>e=.returned (errV (sdBeginE d p0 p1 p2 p3))∧Upd w w' o (SneA B u (dBegin d p0 p1 p2 p3)):=by
 have h0:=h
 obtain ⟨s,mv,rfl,hs⟩:=h
 refine (sBegin_any B u x s mv p0 p1 p2 p3 w hw hap).mono ?_
 rintro e w' ⟨rfl,g1,g2⟩
 rw [hs.rep.beginE] at g1 g2 ⊢
 refine ⟨rfl,?_⟩
 unfold dBegin
 split
 ·rename_i he
  obtain ⟨mb,h1,h2⟩:=g2 he
  exact ⟨obN B u _ (some mb),⟨_,some mb,rfl,hs.begin_ p0 p1 p2 p3⟩,h1,h2,fun b e=>e.elim⟩
 ·rename_i he
  exact Upd.below (obN_ok ..) h0 hw (g1 he)
theorem SneA.abort (h:SneA B u d o) (hw:o.at_ w):Calls Tryz.prog 46 #[.pointer (some ⟨u,0,none⟩)] w fun e w'=>e=.returned (errV (dAbortE d))∧Upd w w' o (SneA B u (dAbort d)):=by
 have h0:=h
 obtain ⟨s,mv,rfl,hs⟩:=h
 refine (sAbort_any B u s mv w hw).mono ?_
 rintro e w' ⟨g1,g2⟩
 rw [hs.rep.op] at g1 g2
 unfold dAbortE dAbort
 cases ho:d.op with
 | false=>
   obtain ⟨rfl,hb⟩:=g1 ho
   exact ⟨rfl,Upd.below (obN_ok ..) h0 hw hb⟩
 | true=>
   obtain ⟨rfl,h1,h2⟩:=g2 ho
   exact ⟨rfl,obN B u _ none,⟨_,none,rfl,hs.abort⟩,h1,h2,fun b e=>e.elim⟩
theorem SneA.read (h:SneA B u d o) (hw:o.at_ w) (x:Nat) (key:Int) (V:VerP×Int) (hk:wf64 key)
  (hrd:∀ W,Below w.heap.size w W→Calls Tryz.prog 25 #[.pointer (some ⟨x,0,none⟩),.int .i64 key,.agg #[.int .i64 d.n0,.int .i64 d.n1,.int .i64 d.n2,.int .i64 d.n3]] W fun e w'=>e=.returned (.tuple #[verV V.1,errV V.2])∧Below W.heap.size W w'):
  Calls Tryz.prog 41 #[.pointer (some ⟨u,0,none⟩),.pointer (some ⟨x,0,none⟩),.int .i64 key] w fun e w'=>e=.returned (.tuple #[.string (sdRead d.op (lastW d.W key) V).1,errV (sdRead d.op (lastW d.W key) V).2])∧Below w.heap.size w w':=by
 obtain ⟨s,mv,rfl,hs⟩:=h
 have hn:=hs.rep.n
 have:=sRead_any B u x s mv key V w hw hk (by rw [hn.1,hn.2.1,hn.2.2.1,hn.2.2.2];exact hrd)
 have e:sdRead s.op (s.m key) V=sdRead d.op (lastW d.W key) V:=by
  cases ho:s.op with
  | false=>rw [←hs.rep.op,ho];rfl
  | true=>rw [←hs.rep.op,ho,hs.rep.m ho]
 rw [e] at this
 exact this
theorem SneA.write (h:SneA B u d o) (hw:o.at_ w) (x:WrP):
  Calls Tryz.prog 42 #[.pointer (some ⟨u,0,none⟩),x.val] w fun e w'=>e=.returned (errV (sdWriteE d x))∧Upd w w' o (SneA B u (dWrite d x)):=by
 have h0:=h
 obtain ⟨s,mv,rfl,hs⟩:=h
 have hE:=hs.rep.writeE x
 by_cases hbad:s.op=false∨x.key<0∨7<x.key∨12<x.data.size∨(x.gone=true∧emptyB x.data=false)
 ·refine (sWrite_err B u s mv x w hw hbad).mono ?_
  rintro e w' ⟨rfl,hne,hb⟩
  rw [hE] at hne ⊢
  refine ⟨rfl,?_⟩
  unfold dWrite
  rw [if_neg hne]
  exact Upd.below (obN_ok ..) h0 hw hb
 ·have ho:s.op=true:=by cases hh:s.op with | true=>rfl | false=>exact absurd (.inl hh) hbad
  have hk:0≤x.key∧x.key≤7:=⟨by
   by_cases h2:x.key<0
   ·exact absurd (.inr (.inl h2)) hbad
   ·omega,by
   by_cases h2:7<x.key
   ·exact absurd (.inr (.inr (.inl h2))) hbad
   ·omega⟩
  have hd:x.data.size≤12:=by
   by_cases h2:12<x.data.size
   ·exact absurd (.inr (.inr (.inr (.inl h2)))) hbad
   ·omega
  have hg:x.gone=false∨x.data.toList.isEmpty=true:=by
   cases hg:x.gone with
   | false=>exact .inl rfl
   | true=>
     cases hb:emptyB x.data with
     | true=>exact .inr hb
     | false=>exact absurd (.inr (.inr (.inr (.inr ⟨hg,hb⟩)))) hbad
  have hw2:SnAt w B u s mv:=hw
  obtain ⟨mb,rfl⟩:∃ mb,mv=some mb:=by
   cases mv with
   | none=>exact absurd rfl (hw2.opn ho)
   | some mb=>exact ⟨mb,rfl⟩
  have hmn:s.mn≤900:=by
   rw [hs.rep.mn ho]
   have:=allW_len d.W 8
   omega
  refine (sWrite_ok B u mb s x w hw ho hk hd hg hmn).mono ?_
  rintro e w' ⟨g1,g2⟩
  have hE2:snWriteE s x=if s.m x.key=none∧5≤s.mn then 12 else 0:=by
   unfold snWriteE
   rw [if_neg (by rw [ho];simp),if_neg (by omega),if_neg (by omega),if_neg ?_]
   rintro ⟨h1,h2⟩
   exact hbad (.inr (.inr (.inr (.inr ⟨h1,h2⟩))))
  by_cases hf:s.m x.key=none∧5≤s.mn
  ·obtain ⟨rfl,hb⟩:=g1 hf
   rw [if_pos hf,hE] at hE2
   unfold dWrite
   rw [hE2]
   refine ⟨rfl,?_⟩
   rw [if_neg (by omega)]
   exact Upd.below (obN_ok ..) h0 hw hb
  ·obtain ⟨rfl,h1,h2⟩:=g2 hf
   rw [if_neg hf,hE] at hE2
   unfold dWrite
   rw [hE2]
   refine ⟨rfl,?_⟩
   rw [if_pos rfl]
   exact ⟨obN B u _ (some mb),⟨_,some mb,rfl,hs.write hE2⟩,h1,h2,fun b e=>e.elim⟩
theorem SneA.past (h:SneA B u d o) (hw:o.at_ w):Calls Tryz.prog 48 #[.pointer (some ⟨u,0,none⟩)] w fun e w'=>e=.returned (.agg #[.int .i64 d.q0,.int .i64 d.q1,.int .i64 d.q2,.int .i64 d.q3])∧Below w.heap.size w w':=by
 obtain ⟨s,mv,rfl,hs⟩:=h
 have:=sPast_any (B:=B) (u:=u) (s:=s) (mv:=mv) (w:=w) hw
 rw [hs.rep.q.1,hs.rep.q.2.1,hs.rep.q.2.2.1,hs.rep.q.2.2.2] at this
 exact this
theorem SneA.snap (h:SneA B u d o) (hw:o.at_ w):Calls Tryz.prog 49 #[.pointer (some ⟨u,0,none⟩)] w fun e w'=>e=.returned (.agg #[.int .i64 d.n0,.int .i64 d.n1,.int .i64 d.n2,.int .i64 d.n3])∧Below w.heap.size w w':=by
 obtain ⟨s,mv,rfl,hs⟩:=h
 have:=sSnap_any (B:=B) (u:=u) (s:=s) (mv:=mv) (w:=w) hw
 rw [hs.rep.n.1,hs.rep.n.2.1,hs.rep.n.2.2.1,hs.rep.n.2.2.2] at this
 exact this
theorem SneA.open_ (h:SneA B u d o) (hw:o.at_ w):Calls Tryz.prog 50 #[.pointer (some ⟨u,0,none⟩)] w fun e w'=>e=.returned (.bool d.op)∧Below w.heap.size w w':=by
 obtain ⟨s,mv,rfl,hs⟩:=h
 have:=sOpen_any (B:=B) (u:=u) (s:=s) (mv:=mv) (w:=w) hw
 rw [hs.rep.op] at this
 exact this
theorem SdeA.begin_ (h:SdeA B v d o) (hw:o.at_ w) (y:Nat) (p0 p1 p2 p3:Int) (hy:y<w.heap.size)
  (hp:w.cell? ⟨y,1,none⟩=some (.int .i64 p0)∧w.cell? ⟨y,2,none⟩=some (.int .i64 p1)∧w.cell? ⟨y,3,none⟩=some (.int .i64 p2)∧w.cell? ⟨y,4,none⟩=some (.int .i64 p3)):
  Calls Tryz.prog 39 #[.pointer (some ⟨v,0,none⟩),.pointer (some ⟨y,0,none⟩)] w fun e w'=>e=.returned (.int .i64 (sdBeginE d p0 p1 p2 p3))∧Upd w w' o (SdeA B v (dBegin d p0 p1 p2 p3)):=by
 have h0:=h
 obtain ⟨wv,rfl,s,hs⟩:=h
 refine (rBegin_any B v y d wv p0 p1 p2 p3 w hw hy hp).mono ?_
 rintro e w' ⟨rfl,g1,g2⟩
 refine ⟨rfl,?_⟩
 unfold dBegin
 split
 ·rename_i he
  obtain ⟨h1,h2⟩:=g2 he
  exact ⟨obD B v _ (.slice none 0 0),⟨_,rfl,_,hs.begin_ p0 p1 p2 p3⟩,h1,h2,fun b e=>e.elim⟩
 ·rename_i he
  exact Upd.below (obD_ok ..) h0 hw (g1 he)
theorem SdeA.abort (h:SdeA B v d o) (hw:o.at_ w):Calls Tryz.prog 47 #[.pointer (some ⟨v,0,none⟩)] w fun e w'=>e=.returned (.int .i64 (dAbortE d))∧Upd w w' o (SdeA B v (dAbort d)):=by
 have h0:=h
 obtain ⟨wv,rfl,s,hs⟩:=h
 refine (rAbort_any B v d wv w hw).mono ?_
 rintro e w' ⟨g1,g2⟩
 unfold dAbortE dAbort
 cases ho:d.op with
 | false=>
   obtain ⟨rfl,hb⟩:=g1 ho
   exact ⟨rfl,Upd.below (obD_ok ..) h0 hw hb⟩
 | true=>
   obtain ⟨rfl,h1,h2⟩:=g2 ho
   exact ⟨rfl,obD B v _ (.slice none 0 0),⟨_,rfl,_,hs.abort⟩,h1,h2,fun b e=>e.elim⟩
theorem SdeA.read (h:SdeA B v d o) (hw:o.at_ w) (y:Nat) (key:Int) (V:VerP×Int) (hn:d.W.length≤100000)
  (hrd:∀ W,Below w.heap.size w W→Calls Tryz.prog 24 #[.pointer (some ⟨y,0,none⟩),.int .i64 key,.agg #[.int .i64 d.n0,.int .i64 d.n1,.int .i64 d.n2,.int .i64 d.n3]] W fun e w'=>e=.returned (.tuple #[verV V.1,.int .i64 V.2])∧Below W.heap.size W w'):
  Calls Tryz.prog 40 #[.pointer (some ⟨v,0,none⟩),.pointer (some ⟨y,0,none⟩),.int .i64 key] w fun e w'=>e=.returned (.tuple #[.string (sdRead d.op (lastW d.W key) V).1,.int .i64 (sdRead d.op (lastW d.W key) V).2])∧Below w.heap.size w w':=by
 obtain ⟨wv,rfl,s,hs⟩:=h
 exact rSRead_any B v y d wv key V w hw hn hrd
theorem SdeA.write (h:SdeA B v d o) (hw:o.at_ w) (x:WrP) (hn:d.W.length≤900):
  Calls Tryz.prog 43 #[.pointer (some ⟨v,0,none⟩),x.val] w fun e w'=>e=.returned (.int .i64 (sdWriteE d x))∧Upd w w' o (SdeA B v (dWrite d x)):=by
 have h0:=h
 obtain ⟨wv,rfl,s,hs⟩:=h
 refine (rSWrite_any B v d wv x w hw hn).mono ?_
 rintro e w' ⟨rfl,g1,g2⟩
 refine ⟨rfl,?_⟩
 unfold dWrite
 split
 ·rename_i he
  obtain ⟨wv',h1,h2⟩:=g2 he
  exact ⟨obD B v _ wv',⟨_,rfl,_,hs.write he⟩,h1,h2,fun b e=>e.elim⟩
 ·rename_i he
  exact Upd.below (obD_ok ..) h0 hw (g1 he)
theorem SdeA.cells (h:SdeA B v d o) (hw:o.at_ w):∃ wv,w.heap[v]?=some (.cells #[.int .i64 d.q0,.int .i64 d.q1,.int .i64 d.q2,.int .i64 d.q3,.int .i64 d.n0,.int .i64 d.n1,.int .i64 d.n2,.int .i64 d.n3,.bool d.op,wv] 79):=by
 obtain ⟨wv,rfl,s,hs⟩:=h
 exact ⟨wv,SdAt.blk hw⟩
end
end Go.Proofs.YtbopfhbeegkkaabGreatDoor
