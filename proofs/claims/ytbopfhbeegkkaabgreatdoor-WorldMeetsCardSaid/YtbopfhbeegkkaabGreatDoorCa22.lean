/- Part 22 of a proof: lemmas and contracts that other parts use. -/
import Derived.Test.YtbopfhbeegkkaabGreatDoorCa21
import Derived.Lib.SlKeysI
set_option linter.unusedVariables false
set_option linter.unusedSimpArgs false
namespace Go.Proofs.YtbopfhbeegkkaabGreatDoor
open Go.RowKit
def WsOk (W:List WrP):Prop:=∀ x∈W,(0≤x.key∧x.key≤7)∧x.data.size≤12∧(x.gone=true→x.data.toList.isEmpty=true)
theorem lastW_mem {k:Int}:∀ {l:List WrP} {x:WrP},lastW l k=some x→x∈l
 | y::l,x,h=>by
   unfold lastW at h
   split at h
   ·rename_i z hz
    cases h
    exact List.mem_cons_of_mem _ (lastW_mem hz)
   ·split at h
    ·cases h;exact List.mem_cons_self ..
    ·cases h
def sdAt (d:SdP) (i:Int) (z:Int):SdP:={ d with q0:=if i=0 then max d.q0 z else d.q0,q1:=if i=1 then max d.q1 z else d.q1,q2:=if i=2 then max d.q2 z else d.q2,q3:=if i=3 then max d.q3 z else d.q3 }
def snAt (d:SnP) (i:Int) (z:Int):SnP:={ d with q0:=if i=0 then max d.q0 z else d.q0,q1:=if i=1 then max d.q1 z else d.q1,q2:=if i=2 then max d.q2 z else d.q2,q3:=if i=3 then max d.q3 z else d.q3 }
structure SesA (s:SnP) (d:SdP):Prop where
 rep:SesRep s d
 ws:WsOk d.W
 qn:0≤d.q0∧0≤d.q1∧0≤d.q2∧0≤d.q3
theorem SesA.fresh:SesA snNew ⟨0,0,0,0,0,0,0,0,false,[]⟩:=⟨SesRep.fresh,fun x h=>(by cases h),by simp⟩
theorem SesA.abort {s:SnP} {d:SdP} (h:SesA s d):SesA (snAbort s) (sdAbort d):=by
 refine ⟨h.rep.abort,fun x hx=>(by cases hx),?_⟩
 have:=h.qn
 unfold sdAbort
 simp only
 omega
theorem SesA.begin_ {s:SnP} {d:SdP} (h:SesA s d) (p0 p1 p2 p3:Int):SesA (snBegin s p0 p1 p2 p3) (sdBegin d p0 p1 p2 p3):=
 ⟨h.rep.begin_ p0 p1 p2 p3,fun x hx=>(by cases hx),h.qn⟩
theorem sdWriteE_ok {d:SdP} {x:WrP} (he:sdWriteE d x=0):d.op=true∧(0≤x.key∧x.key≤7)∧x.data.size≤12∧(x.gone=false∨x.data.toList.isEmpty=true)∧¬(lastW d.W x.key=none∧5≤(allW d.W 8).length):=by
 unfold sdWriteE at he
 split at he
 ·cases he
 split at he
 ·cases he
 split at he
 ·cases he
 split at he
 ·cases he
 split at he
 ·cases he
 rename_i h1 h2 h3 h4 h5
 refine ⟨by simpa using h1,by omega,by omega,?_,h5⟩
 cases hg:x.gone with
 | false=>exact .inl rfl
 | true=>
   refine .inr ?_
   cases hb:emptyB x.data with
   | true=>exact hb
   | false=>exact absurd ⟨hg,hb⟩ h4
theorem SesA.write {s:SnP} {d:SdP} (h:SesA s d) {x:WrP} (he:sdWriteE d x=0):SesA (snWrite s x) { d with W:=d.W++[x] }:=by
 obtain ⟨h1,h2,h3,h4,h5⟩:=sdWriteE_ok he
 refine ⟨h.rep.write (by rw [h.rep.op];exact h1) h2,fun y hy=>?_,h.qn⟩
 rcases List.mem_append.1 hy with e | e
 ·exact h.ws y e
 ·obtain rfl:y=x:=by simpa using e
  exact ⟨h2,h3,fun hg=>h4.resolve_left (by rw [hg];simp)⟩
theorem SesA.at {s:SnP} {d:SdP} (h:SesA s d) (i z:Int):SesA (snAt s i z) (sdAt d i z):=by
 obtain ⟨⟨⟨a,b,c,e⟩,n,o,m,mn⟩,ws,qn⟩:=h
 refine ⟨⟨?_,n,o,m,mn⟩,ws,?_⟩
 ·unfold snAt sdAt;simp only [a,b,c,e,and_self]
 ·unfold sdAt
  simp only
  refine ⟨?_,?_,?_,?_⟩ <;> split <;> omega
def keys8 (f:Int→Option WrP):List Int:=(List.range 8).filterMap fun (i:Nat)=>if (f (i:Int)).isSome then some (i:Int) else none
theorem keys8_sorted (f:Int→Option WrP):(keys8 f).Pairwise (· < ·):=by
 unfold keys8
 refine List.Pairwise.filterMap _ (S:=fun a b:Int=>a<b) ?_ (List.pairwise_lt_range (n:=8))
 intro a b hab x hx y hy
 split at hx
 ·split at hy
  ·simp only [Option.mem_def,Option.some.injEq] at hx hy
   omega
  ·simp at hy
 ·simp at hx
theorem keys8_mem (f:Int→Option WrP) (k:Int):k∈keys8 f↔(0≤k∧k≤7)∧(f k).isSome=true:=by
 unfold keys8
 rw [List.mem_filterMap]
 constructor
 ·rintro ⟨i,hi,h⟩
  have hi':=List.mem_range.1 hi
  split at h
  ·obtain rfl:=Option.some.inj h
   exact ⟨by omega,by assumption⟩
  ·cases h
 ·rintro ⟨h1,h2⟩
  refine ⟨k.toNat,List.mem_range.2 (by omega),?_⟩
  have e:(k.toNat:Int)=k:=by omega
  rw [e,if_pos h2]
theorem WpAt.keys {w:World} {m sz:Nat} {f:Int→Option WrP} (h:WpAt w m f sz) (hk:∀ k,(f k).isSome=true→0≤k∧k≤7):
  ∃ D:DataW Value,w.ownsMap Tryz.prog 3 heldV m sz D∧Maps.size D=sz∧∀ ss:List Int,ss.Perm (intKeys D)→ss.mergeSort leI=keys8 f∧ss.length=(keys8 f).length:=by
 obtain ⟨D,h1,h2,h3⟩:=h
 refine ⟨D,h1,h2,fun ss hp=>?_⟩
 have hu:Tryz.prog.underlying 3=some (.int .i64):=Tryz.underlying3
 have hwf:=intKeys_wf h1 hu
 obtain ⟨es,hD,hpw,_⟩:=h1.entries keyedI
 obtain ⟨es',hD',hko⟩:=h1.keysOf
 obtain rfl:es=es':=by rw [hD] at hD';simpa using hD'
 have hs:=keys8_sorted f
 have hnd:(keys8 f).Nodup:=hs.imp (fun h=>Int.ne_of_lt h)
 have hperm:(keys8 f).Perm (intKeys D):=by
  subst hD
  refine perm_intKeys hpw (fun p hp=>by obtain ⟨v,hv⟩:=hko p hp;obtain ⟨x,_,hx,_⟩:=Maps.keyOf_i64 hu hv;exact ⟨x,hx⟩) hnd (fun x=>?_)
  rw [keys8_mem]
  constructor
  ·rintro ⟨h4,h5⟩
   rw [(h3 x ⟨by omega,by omega⟩).1];exact h5
  ·intro h4
   by_cases hx:wf64 x
   ·rw [(h3 x hx).1] at h4
    exact ⟨hk x h4,h4⟩
   ·exfalso
    rw [Maps.has_eq,List.any_eq_true] at h4
    obtain ⟨p,hp,hs⟩:=h4
    obtain ⟨v,hv⟩:=hko p hp
    obtain ⟨y,_,hy,hl⟩:=Maps.keyOf_i64 hu hv
    rw [hy] at hs
    have:y=x:=by simpa [Lit.sameKey] using hs
    subst this
    exact hx (by
     have:=hl
     simp [Lit.wf,IntKind.min,IntKind.max,IntKind.signed,IntKind.bits] at this
     unfold wf64
     omega)
 have hp2:ss.Perm (keys8 f):=hp.trans hperm.symm
 refine ⟨?_,hp2.length_eq⟩
 rw [mergeSort_of_perm_i hp2]
 exact List.mergeSort_of_pairwise (hs.imp fun {a b} h=>by simp only [decide_eq_true_eq];omega)
theorem keys8_all {s:SnP} {d:SdP} (h:SesA s d) (ho:s.op=true):(keys8 s.m).filterMap s.m=allW d.W 8:=by
 unfold keys8 allW
 rw [List.filterMap_filterMap]
 congr 1
 funext i
 have e:=h.rep.m ho (i:Int)
 cases hl:lastW d.W (i:Int) with
 | none=>rw [hl] at e;simp [e]
 | some y=>rw [hl] at e;simp [e]
theorem keys8_len {s:SnP} {d:SdP} (h:SesA s d) (ho:s.op=true):(keys8 s.m).length=s.mn:=by
 rw [h.rep.mn ho,←keys8_all h ho]
 have:∀ l:List Int,(∀ k∈l,(s.m k).isSome=true)→(l.filterMap s.m).length=l.length:=by
  intro l
  induction l with
  | nil=>intro _;rfl
  | cons k l ih=>
    intro hl
    have h1:=hl k (List.mem_cons_self ..)
    obtain ⟨x,hx⟩:=Option.isSome_iff_exists.1 h1
    simp [hx,ih fun k hk=>hl k (List.mem_cons_of_mem _ hk)]
 exact (this _ fun k hk=>((keys8_mem s.m k).1 hk).2).symm
theorem SesA.dom {s:SnP} {d:SdP} (h:SesA s d) (ho:s.op=true):∀ k,(s.m k).isSome=true→0≤k∧k≤7:=fun k hk=>by
 rw [h.rep.m ho] at hk
 obtain ⟨x,hx⟩:=Option.isSome_iff_exists.1 hk
 have:=(h.ws x (lastW_mem hx)).1
 rwa [lastW_key hx] at this
def SneA (B u:Nat) (d:SdP) (o:Ob):Prop:=∃ s mv,o=obN B u s mv∧SesA s d
theorem SneA.ok {B u:Nat} {d:SdP} {o:Ob} (h:SneA B u d o):o.Ok B:=by obtain ⟨s,mv,rfl,_⟩:=h;exact obN_ok ..
def dBegin (d:SdP) (p0 p1 p2 p3:Int):SdP:=if sdBeginE d p0 p1 p2 p3=0 then sdBegin d p0 p1 p2 p3 else d
def dWrite (d:SdP) (x:WrP):SdP:=if sdWriteE d x=0 then { d with W:=d.W++[x] } else d
def dAbort (d:SdP):SdP:=if d.op=true then sdAbort d else d
def dAbortE (d:SdP):Int:=if d.op=true then 0 else 6
section
variable {w w':World} {B u v:Nat} {d:SdP} {o:Ob}
theorem SneA.begin_ (h:SneA B u d o) (hw:o.at_ w) (x:Nat) (p0 p1 p2 p3:Int)
  (hap:∀ W,Below w.heap.size w W→Calls Tryz.prog 26 #[.pointer (some ⟨x,0,none⟩)] W fun e w'=>e=.returned (.agg #[.int .i64 p0,.int .i64 p1,.int .i64 p2,.int .i64 p3])∧Below W.heap.size W w'):
  Calls Tryz.prog 38 #[.pointer (some ⟨u,0,none⟩),.pointer (some ⟨x,0,none⟩)] w fun e w'=>e=.returned (errV (sdBeginE d p0 p1 p2 p3))∧Upd w w' o (SneA B u (dBegin d p0 p1 p2 p3)):=by
 have h0:=h
 obtain ⟨s,mv,rfl,hs⟩:=h
 refine (sBegin_any B u x s mv p0 p1 p2 p3 w hw hap).mono ?_
 rintro e w' ⟨rfl,g1,g2⟩
 rw [hs.rep.beginE] at g1 g2 ⊢
 refine ⟨rfl,?_⟩
 unfold dBegin
 split
 ·rename_i he
  obtain ⟨mb,h1,h2⟩:=g2 he
  exact ⟨obN B u _ (some mb),⟨_,some mb,rfl,hs.begin_ p0 p1 p2 p3⟩,h1,h2,fun b e=>e.elim⟩
 ·rename_i he
  exact Upd.below (obN_ok ..) h0 hw (g1 he)
theorem SneA.abort (h:SneA B u d o) (hw:o.at_ w):Calls Tryz.prog 46 #[.pointer (some ⟨u,0,none⟩)] w fun e w'=>e=.returned (errV (dAbortE d))∧Upd w w' o (SneA B u (dAbort d)):=by
 have h0:=h
 obtain ⟨s,mv,rfl,hs⟩:=h
 refine (sAbort_any B u s mv w hw).mono ?_
 rintro e w' ⟨g1,g2⟩
 rw [hs.rep.op] at g1 g2
 unfold dAbortE dAbort
 cases ho:d.op with
 | false=>
   obtain ⟨rfl,hb⟩:=g1 ho
   exact ⟨rfl,Upd.below (obN_ok ..) h0 hw hb⟩
 | true=>
   obtain ⟨rfl,h1,h2⟩:=g2 ho
   exact ⟨rfl,obN B u _ none,⟨_,none,rfl,hs.abort⟩,h1,h2,fun b e=>e.elim⟩
theorem SneA.read (h:SneA B u d o) (hw:o.at_ w) (x:Nat) (key:Int) (V:VerP×Int) (hk:wf64 key)
  (hrd:∀ W,Below w.heap.size w W→Calls Tryz.prog 25 #[.pointer (some ⟨x,0,none⟩),.int .i64 key,.agg #[.int .i64 d.n0,.int .i64 d.n1,.int .i64 d.n2,.int .i64 d.n3]] W fun e w'=>e=.returned (.tuple #[verV V.1,errV V.2])∧Below W.heap.size W w'):
  Calls Tryz.prog 41 #[.pointer (some ⟨u,0,none⟩),.pointer (some ⟨x,0,none⟩),.int .i64 key] w fun e w'=>e=.returned (.tuple #[.string (sdRead d.op (lastW d.W key) V).1,errV (sdRead d.op (lastW d.W key) V).2])∧Below w.heap.size w w':=by
 obtain ⟨s,mv,rfl,hs⟩:=h
 have hn:=hs.rep.n
 have:=sRead_any B u x s mv key V w hw hk (by rw [hn.1,hn.2.1,hn.2.2.1,hn.2.2.2];exact hrd)
 have e:sdRead s.op (s.m key) V=sdRead d.op (lastW d.W key) V:=by
  cases ho:s.op with
  | false=>rw [←hs.rep.op,ho];rfl
  | true=>rw [←hs.rep.op,ho,hs.rep.m ho]
 rw [e] at this
 exact this
theorem SneA.write (h:SneA B u d o) (hw:o.at_ w) (x:WrP):
  Calls Tryz.prog 42 #[.pointer (some ⟨u,0,none⟩),x.val] w fun e w'=>e=.returned (errV (sdWriteE d x))∧Upd w w' o (SneA B u (dWrite d x)):=by
 have h0:=h
 obtain ⟨s,mv,rfl,hs⟩:=h
 have hE:=hs.rep.writeE x
 by_cases hbad:s.op=false∨x.key<0∨7<x.key∨12<x.data.size∨(x.gone=true∧emptyB x.data=false)
 ·refine (sWrite_err B u s mv x w hw hbad).mono ?_
  rintro e w' ⟨rfl,hne,hb⟩
  rw [hE] at hne ⊢
  refine ⟨rfl,?_⟩
  unfold dWrite
  rw [if_neg hne]
  exact Upd.below (obN_ok ..) h0 hw hb
 ·have ho:s.op=true:=by cases hh:s.op with | true=>rfl | false=>exact absurd (.inl hh) hbad
  have hk:0≤x.key∧x.key≤7:=⟨by
   by_cases h2:x.key<0
   ·exact absurd (.inr (.inl h2)) hbad
   ·omega,by
   by_cases h2:7<x.key
   ·exact absurd (.inr (.inr (.inl h2))) hbad
   ·omega⟩
  have hd:x.data.size≤12:=by
   by_cases h2:12<x.data.size
   ·exact absurd (.inr (.inr (.inr (.inl h2)))) hbad
   ·omega
  have hg:x.gone=false∨x.data.toList.isEmpty=true:=by
   cases hg:x.gone with
   | false=>exact .inl rfl
   | true=>
     cases hb:emptyB x.data with
     | true=>exact .inr hb
     | false=>exact absurd (.inr (.inr (.inr (.inr ⟨hg,hb⟩)))) hbad
  have hw2:SnAt w B u s mv:=hw
  obtain ⟨mb,rfl⟩:∃ mb,mv=some mb:=by
   cases mv with
   | none=>exact absurd rfl (hw2.opn ho)
   | some mb=>exact ⟨mb,rfl⟩
  have hmn:s.mn≤900:=by
   rw [hs.rep.mn ho]
   have:=allW_len d.W 8
   omega
  refine (sWrite_ok B u mb s x w hw ho hk hd hg hmn).mono ?_
  rintro e w' ⟨g1,g2⟩
  have hE2:snWriteE s x=if s.m x.key=none∧5≤s.mn then 12 else 0:=by
   unfold snWriteE
   rw [if_neg (by rw [ho];simp),if_neg (by omega),if_neg (by omega),if_neg ?_]
   rintro ⟨h1,h2⟩
   exact hbad (.inr (.inr (.inr (.inr ⟨h1,h2⟩))))
  by_cases hf:s.m x.key=none∧5≤s.mn
  ·obtain ⟨rfl,hb⟩:=g1 hf
   rw [if_pos hf,hE] at hE2
   unfold dWrite
   rw [hE2]
   refine ⟨rfl,?_⟩
   rw [if_neg (by omega)]
   exact Upd.below (obN_ok ..) h0 hw hb
  ·obtain ⟨rfl,h1,h2⟩:=g2 hf
   rw [if_neg hf,hE] at hE2
   unfold dWrite
   rw [hE2]
   refine ⟨rfl,?_⟩
   rw [if_pos rfl]
   exact ⟨obN B u _ (some mb),⟨_,some mb,rfl,hs.write hE2⟩,h1,h2,fun b e=>e.elim⟩
theorem SneA.past (h:SneA B u d o) (hw:o.at_ w):Calls Tryz.prog 48 #[.pointer (some ⟨u,0,none⟩)] w fun e w'=>e=.returned (.agg #[.int .i64 d.q0,.int .i64 d.q1,.int .i64 d.q2,.int .i64 d.q3])∧Below w.heap.size w w':=by
 obtain ⟨s,mv,rfl,hs⟩:=h
 have:=sPast_any (B:=B) (u:=u) (s:=s) (mv:=mv) (w:=w) hw
 rw [hs.rep.q.1,hs.rep.q.2.1,hs.rep.q.2.2.1,hs.rep.q.2.2.2] at this
 exact this
theorem SneA.snap (h:SneA B u d o) (hw:o.at_ w):Calls Tryz.prog 49 #[.pointer (some ⟨u,0,none⟩)] w fun e w'=>e=.returned (.agg #[.int .i64 d.n0,.int .i64 d.n1,.int .i64 d.n2,.int .i64 d.n3])∧Below w.heap.size w w':=by
 obtain ⟨s,mv,rfl,hs⟩:=h
 have:=sSnap_any (B:=B) (u:=u) (s:=s) (mv:=mv) (w:=w) hw
 rw [hs.rep.n.1,hs.rep.n.2.1,hs.rep.n.2.2.1,hs.rep.n.2.2.2] at this
 exact this
theorem SneA.open_ (h:SneA B u d o) (hw:o.at_ w):Calls Tryz.prog 50 #[.pointer (some ⟨u,0,none⟩)] w fun e w'=>e=.returned (.bool d.op)∧Below w.heap.size w w':=by
 obtain ⟨s,mv,rfl,hs⟩:=h
 have:=sOpen_any (B:=B) (u:=u) (s:=s) (mv:=mv) (w:=w) hw
 rw [hs.rep.op] at this
 exact this
end
end Go.Proofs.YtbopfhbeegkkaabGreatDoor
namespace Go.Proofs.YtbopfhbeegkkaabGreatDoor
def txZP:TxP:=⟨0,0,0,0,0,0,0,0,[]⟩
structure GmP where
 tgt:Nat
 tx:TxP
 frm:Nat
 h0:Int
 h1:Int
 h2:Int
 h3:Int
structure AWd where
 S:Nat
 C:Nat
 si:Nat→RSi
 wl:Nat→Int
 cl:Nat→SdP
 pl:Nat→Nat
 way:List GmP
 lost:Nat
def fset {α:Type} (f:Nat→α) (i:Nat) (v:α):Nat→α:=fun k=>if k=i then v else f k
theorem fset_same {α:Type} (f:Nat→α) (i:Nat) (v:α):fset f i v i=v:=if_pos rfl
theorem fset_other {α:Type} {f:Nat→α} {i k:Nat} (v:α) (h:k≠i):fset f i v k=f k:=if_neg h
def siNew0 (id:Int):RSi:=⟨id,0,0,0,0,0,0,[],[],[],fun _=>0⟩
def sdNew0:SdP:=⟨0,0,0,0,0,0,0,0,false,[]⟩
def awNew (S C:Nat):AWd:=⟨S,C,fun k=>siNew0 (k:Int),fun _=>0,fun _=>sdNew0,fun _=>0,[],0⟩
def dCommitL (d:SdP):List WrP:=allW d.W 8
def dCommitE (d:SdP) (s:RSi) (now:Int):Int:=
 if d.op=false then 6 else if dCommitL d=[] then 0 else rCommitE s now d.n0 d.n1 d.n2 d.n3 (dCommitL d)
def dCommitT (d:SdP) (s:RSi) (now:Int):TxP:=if dCommitL d=[] then txZP else rCommitT s now d.n0 d.n1 d.n2 d.n3 (dCommitL d)
def dCommitS (d:SdP) (s:RSi) (now:Int):RSi:=if dCommitL d=[] then s else rApply s (dCommitT d s now)
def dCommitD (d:SdP) (s:RSi) (now:Int):SdP:=if dCommitL d=[] then sdAbort d else sdAt (sdAbort d) (dCommitT d s now).site (dCommitT d s now).seq
def awSend (A:AWd) (g:GmP):AWd:=if 300≤A.way.length then { A with lost:=A.lost+1 } else { A with way:=A.way++[g] }
def awSends (A:AWd) (l:List GmP):AWd:=l.foldl awSend A
def awTo (A:AWd) (at_:Nat) (t:TxP) (n:Nat):List GmP:=((List.range n).filter fun k=>decide (k≠at_)).map fun k=>⟨k,t,0,0,0,0,0⟩
def awSe (A:AWd) (k:Nat):RSi:=A.si (A.pl k)
def awCommitE (A:AWd) (k:Nat):Int:=dCommitE (A.cl k) (awSe A k) (A.wl (A.pl k))
def awCommitT (A:AWd) (k:Nat):TxP:=dCommitT (A.cl k) (awSe A k) (A.wl (A.pl k))
def awCommit1 (A:AWd) (k:Nat):AWd:=
 if awCommitE A k=0 then { A with si:=fset A.si (A.pl k) (dCommitS (A.cl k) (awSe A k) (A.wl (A.pl k))),cl:=fset A.cl k (dCommitD (A.cl k) (awSe A k) (A.wl (A.pl k))) } else A
def awCommit (A:AWd) (k:Nat):AWd:=
 if awCommitE A k=0∧0<(awCommitT A k).seq then awSends (awCommit1 A k) (awTo A (A.pl k) (awCommitT A k) A.S) else awCommit1 A k
def awBeginE (A:AWd) (k:Nat):Int:=sdBeginE (A.cl k) (awSe A k).p0 (awSe A k).p1 (awSe A k).p2 (awSe A k).p3
def awBegin (A:AWd) (k:Nat):AWd:={ A with cl:=fset A.cl k (dBegin (A.cl k) (awSe A k).p0 (awSe A k).p1 (awSe A k).p2 (awSe A k).p3) }
def awReadV (A:AWd) (k:Nat) (key:Int):VerP×Int:=aRead (awSe A k) key (A.cl k).n0 (A.cl k).n1 (A.cl k).n2 (A.cl k).n3
def awRead (A:AWd) (k:Nat) (key:Int):ByteArray×Int:=sdRead (A.cl k).op (lastW (A.cl k).W key) (awReadV A k key)
def awWriteE (A:AWd) (k:Nat) (x:WrP):Int:=sdWriteE (A.cl k) x
def awWrite (A:AWd) (k:Nat) (x:WrP):AWd:={ A with cl:=fset A.cl k (dWrite (A.cl k) x) }
def awAbortE (A:AWd) (k:Nat):Int:=dAbortE (A.cl k)
def awAbort (A:AWd) (k:Nat):AWd:={ A with cl:=fset A.cl k (dAbort (A.cl k)) }
def awMoveE (A:AWd) (k:Nat) (tgt:Int):Int:=if tgt<0∨(A.S:Int)≤tgt then 2 else if (A.cl k).op=true then 6 else 0
def awMove (A:AWd) (k:Nat) (tgt:Int):AWd:=if awMoveE A k tgt=0 then { A with pl:=fset A.pl k tgt.toNat } else A
def awGoes (A:AWd) (k:Nat) (by_:Int):AWd:={ A with wl:=fset A.wl k (min (A.wl k+by_) 1099511627776) }
def awAskG (A:AWd) (k other:Nat):GmP:=⟨other,txZP,k,(A.si k).p0,(A.si k).p1,(A.si k).p2,(A.si k).p3⟩
def awAsk (A:AWd) (k other:Nat):AWd:=awSend A (awAskG A k other)
def awOut (A:AWd) (i:Nat):AWd:={ A with way:=A.way.eraseIdx i }
def awTake (A:AWd) (k:Nat) (t:TxP):AWd:={ A with si:=fset A.si k (rTake (A.si k) t) }
def awKnows (A:AWd) (k frm:Nat) (h0 h1 h2 h3:Int):AWd:={ A with si:=fset A.si k (rKnows (A.si k) frm h0 h1 h2 h3) }
def awMiss (a:RSi) (frm:Nat) (h0 h1 h2 h3:Int):List GmP:=((aMiss a h0 h1 h2 h3).filter fun t=>decide (t.site≠(frm:Int))).map fun t=>⟨frm,t,0,0,0,0,0⟩
def awComes (A:AWd) (g:GmP):AWd:=
 if 0<g.tx.seq then awTake A g.tgt g.tx else awSends (awKnows A g.tgt g.frm g.h0 g.h1 g.h2 g.h3) (awMiss (A.si g.tgt) g.frm g.h0 g.h1 g.h2 g.h3)
def gmZ:GmP:=⟨0,txZP,0,0,0,0,0⟩
def awDeliver (A:AWd) (i:Nat):AWd:=awComes (awOut A i) (A.way.getD i gmZ)
def awTwice (A:AWd) (i:Nat):AWd:=awSend A (A.way.getD i gmZ)
def awMin (A:AWd) (k:Nat):Nat→Int×Int×Int×Int→Int×Int×Int×Int
 | 0,v=>v
 | i+1,v=>if A.pl i=k∧(A.cl i).op=true then
    (min (awMin A k i v).1 (A.cl i).n0,min (awMin A k i v).2.1 (A.cl i).n1,min (awMin A k i v).2.2.1 (A.cl i).n2,min (awMin A k i v).2.2.2 (A.cl i).n3) else awMin A k i v
def awStab (A:AWd) (k:Nat):Int×Int×Int×Int:=
 (aStab (A.si k) A.S 0 (A.si k).p0,aStab (A.si k) A.S 1 (A.si k).p1,aStab (A.si k) A.S 2 (A.si k).p2,aStab (A.si k) A.S 3 (A.si k).p3)
def awSwV (A:AWd) (k:Nat):Int×Int×Int×Int:=awMin A k A.C (awStab A k)
noncomputable def awSweep (A:AWd) (k:Nat):AWd:={ A with si:=fset A.si k (rSwept (A.si k) (awSwV A k).1 (awSwV A k).2.1 (awSwV A k).2.2.1 (awSwV A k).2.2.2) }
def gmW (g:GmP):Nat:=if 0<g.tx.seq then 1 else 302
def wayW:List GmP→Nat
 | []=>0
 | g::l=>gmW g+wayW l
def awFlow:Nat→AWd→AWd
 | 0,A=>A
 | f+1,A=>match A.way with
   | []=>A
   | _::_=>awFlow f (awDeliver A 0)
def awFlows (A:AWd):AWd:=awFlow (wayW A.way) A
def awCalmO (k:Nat) (A:AWd):Nat→AWd
 | 0=>A
 | o+1=>if k=o then awCalmO k A o else awFlows (awAsk (awCalmO k A o) k o)
def awCalmK (A:AWd):Nat→AWd
 | 0=>A
 | k+1=>awCalmO k (awCalmK A k) A.S
def awCalm (A:AWd):AWd:=awCalmK (awFlows A) A.S
theorem awSend_eq (A:AWd) (g:GmP):(awSend A g).S=A.S∧(awSend A g).C=A.C∧(awSend A g).si=A.si∧(awSend A g).wl=A.wl∧(awSend A g).cl=A.cl∧(awSend A g).pl=A.pl:=by
 unfold awSend;split <;> simp
theorem awSends_eq:∀ (l:List GmP) (A:AWd),(awSends A l).S=A.S∧(awSends A l).C=A.C∧(awSends A l).si=A.si∧(awSends A l).wl=A.wl∧(awSends A l).cl=A.cl∧(awSends A l).pl=A.pl
 | [],A=>⟨rfl,rfl,rfl,rfl,rfl,rfl⟩
 | g::l,A=>by
   have h1:=awSends_eq l (awSend A g)
   have h2:=awSend_eq A g
   show (awSends (awSend A g) l).S=A.S∧_
   rw [h2.1,h2.2.1,h2.2.2.1,h2.2.2.2.1,h2.2.2.2.2.1,h2.2.2.2.2.2] at h1
   exact h1
theorem awSends_app (A:AWd) (l:List GmP) (g:GmP):awSends A (l++[g])=awSend (awSends A l) g:=by
 unfold awSends;rw [List.foldl_append];rfl
theorem awSend_len (A:AWd) (g:GmP) (h:A.way.length≤300):(awSend A g).way.length≤300:=by
 unfold awSend;split
 ·exact h
 ·simp;omega
theorem awSends_len:∀ (l:List GmP) (A:AWd),A.way.length≤300→(awSends A l).way.length≤300
 | [],A,h=>h
 | g::l,A,h=>awSends_len l (awSend A g) (awSend_len A g h)
theorem wayW_app:∀ (l m:List GmP),wayW (l++m)=wayW l+wayW m
 | [],m=>by simp [wayW]
 | g::l,m=>by simp [wayW,wayW_app l m];omega
theorem wayW_tx:∀ (l:List GmP),(∀ g∈l,0<g.tx.seq)→wayW l=l.length
 | [],_=>rfl
 | g::l,h=>by
   have h1:=h g (List.mem_cons_self ..)
   simp [wayW,gmW,h1,wayW_tx l fun x hx=>h x (List.mem_cons_of_mem _ hx)];omega
theorem awSends_way:∀ (l:List GmP) (A:AWd),A.way.length≤300→∃ m,m.length≤300∧(awSends A l).way=A.way++m∧(∀ g∈m,g∈l)
 | [],A,_=>⟨[],by simp,by simp [awSends],fun g h=>(by cases h)⟩
 | g::l,A,h=>by
   obtain ⟨m,h1,h2,h3⟩:=awSends_way l (awSend A g) (awSend_len A g h)
   have hl:=awSends_len l (awSend A g) (awSend_len A g h)
   have e:awSends A (g::l)=awSends (awSend A g) l:=rfl
   rw [e,h2]
   rw [h2] at hl
   unfold awSend at hl ⊢
   split
   ·exact ⟨m,h1,rfl,fun x hx=>List.mem_cons_of_mem _ (h3 x hx)⟩
   ·rename_i hc
    rw [if_neg hc] at hl
    refine ⟨g::m,?_,by simp,fun x hx=>?_⟩
    ·simp at hl ⊢;omega
    ·rcases List.mem_cons.1 hx with e | e
     ·exact e ▸ List.mem_cons_self ..
     ·exact List.mem_cons_of_mem _ (h3 x e)
theorem awMiss_tx {a:RSi} (h:∀ t∈a.log,rightTx t=true) (frm:Nat) (h0 h1 h2 h3:Int):∀ g∈awMiss a frm h0 h1 h2 h3,0<g.tx.seq:=by
 intro g hg
 unfold awMiss aMiss at hg
 obtain ⟨t,ht,rfl⟩:=List.mem_map.1 hg
 have:=(rightTx_parts (h t (List.mem_filter.1 (List.mem_filter.1 ht).1).1)).2.1
 show 0<t.seq
 omega
theorem awDeliver_less {A:AWd} {g:GmP} {l:List GmP} (hw:A.way=g::l) (hl:A.way.length≤300) (hr:∀ t∈(A.si g.tgt).log,rightTx t=true):
  wayW (awDeliver A 0).way<wayW A.way∧(awDeliver A 0).way.length≤300:=by
 have hg:A.way.getD 0 gmZ=g:=by rw [hw];rfl
 have ho:(awOut A 0).way=l:=by unfold awOut;rw [hw];rfl
 have hll:l.length≤300:=by rw [hw] at hl;simp at hl;omega
 unfold awDeliver awComes
 rw [hg]
 split
 ·rename_i hs
  show wayW (awOut A 0).way<_∧(awOut A 0).way.length≤300
  rw [ho,hw]
  simp [wayW,gmW,hs,hll]
 ·rename_i hs
  have e1:(awKnows (awOut A 0) g.tgt g.frm g.h0 g.h1 g.h2 g.h3).way=l:=ho
  obtain ⟨m,h1,h2,h3⟩:=awSends_way (awMiss ((awOut A 0).si g.tgt) g.frm g.h0 g.h1 g.h2 g.h3) (awKnows (awOut A 0) g.tgt g.frm g.h0 g.h1 g.h2 g.h3) (by rw [e1];exact hll)
  refine ⟨?_,awSends_len _ _ (by rw [e1];exact hll)⟩
  rw [h2,e1,wayW_app,wayW_tx m fun x hx=>awMiss_tx hr _ _ _ _ _ x (h3 x hx),hw]
  simp [wayW,gmW,hs]
  omega
end Go.Proofs.YtbopfhbeegkkaabGreatDoor
