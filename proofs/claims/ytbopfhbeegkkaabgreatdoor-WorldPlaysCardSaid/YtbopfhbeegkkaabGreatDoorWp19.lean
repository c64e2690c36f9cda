/- Part 19 of a proof: lemmas and contracts that other parts use. -/
import Derived.Test.YtbopfhbeegkkaabGreatDoorWp18
import Derived.Lib.SlKeysI
import Derived.Test.YtbopfhbeegkkaabGreatDoorWp4
set_option linter.unusedVariables false
set_option linter.unusedSimpArgs false
set_option maxHeartbeats 8000000
set_option maxRecDepth 20000
namespace Go.Proofs.YtbopfhbeegkkaabGreatDoor
open Go.RowKit Go.Proofs.Tryz
def WsOk (W:List WrP):Prop:=∀ x∈W,(0≤x.key∧x.key≤7)∧x.data.size≤12∧(x.gone=true→x.data.toList.isEmpty=true)
theorem ziS {k:Int}:∀ {l:List WrP}{x:WrP},lastW l k=some x→x∈l
 | y::l,x,h=>by
   unfold lastW at h;split at h
   ·rename_i z hz
    cases h;exact yaR _ (ziS hz)
   ·split at h
    ·cases h;exact yco ..
    ·cases h
def zg5 (d:SdP) (i:Int) (z:Int):SdP:={ d with q0:=if i=0 then max d.q0 z else d.q0,q1:=if i=1 then max d.q1 z else d.q1,q2:=if i=2 then max d.q2 z else d.q2,q3:=if i=3 then max d.q3 z else d.q3 }
def snAt (d:SnP) (i:Int) (z:Int):SnP:={ d with q0:=if i=0 then max d.q0 z else d.q0,q1:=if i=1 then max d.q1 z else d.q1,q2:=if i=2 then max d.q2 z else d.q2,q3:=if i=3 then max d.q3 z else d.q3 }
structure zgM (s:SnP) (d:SdP):Prop where
 rep:zcI s d
 ws:WsOk d.W
 qn:0≤d.q0∧0≤d.q1∧0≤d.q2∧0≤d.q3
theorem zgM.fresh:zgM snNew ⟨0,0,0,0,0,0,0,0,false,[]⟩:=⟨zcI.fresh,fun x h=>(by cases h),zS⟩
theorem zgM.abort {s:SnP}{d:SdP}(h:zgM s d):zgM (zdt s) (zaG d):=by
 refine⟨h.rep.abort,fun x hx=>(by cases hx),?_⟩;have:=h.qn;unfold zaG;simp only;omega
theorem zgM.begin_ {s:SnP}{d:SdP}(h:zgM s d) (p0 p1 p2 p3:Int):zgM (zjp s p0 p1 p2 p3) (ze3 d p0 p1 p2 p3):=
 ⟨h.rep.begin_ p0 p1 p2 p3,fun x hx=>(by cases hx),h.qn⟩
theorem zjr {d:SdP}{x:WrP}(he:za8 d x=0):d.op=true∧(0≤x.key∧x.key≤7)∧x.data.size≤12∧(x.gone=false∨x.data.toList.isEmpty=true)∧¬(lastW d.W x.key=none∧5≤(zdJ d.W 8).length):=by
 unfold za8 at he;split at he
 ·cases he
 split at he
 ·cases he
 split at he
 ·cases he
 split at he
 ·cases he
 split at he
 ·cases he
 rename_i h1 h2 h3 h4 h5;refine⟨by simpa using h1,zO,zO,?_,h5⟩;cases hg:x.gone with
 | false=>exact .inl rfl
 | true=>
   refine .inr ?_;cases hb:zeh x.data with
   | true=>exact hb
   | false=>exact absurd ⟨hg,hb⟩ h4
theorem zgM.write {s:SnP}{d:SdP}(h:zgM s d){x:WrP}(he:za8 d x=0):zgM (zdL s x) { d with W:=d.W++[x] }:=by
 obtain⟨h1,h2,h3,h4,h5⟩:=zjr he;refine⟨h.rep.write (by rw[h.rep.op];exact h1) h2,fun y hy=>?_,h.qn⟩;rcases yax.1 hy with e|e
 ·exact h.ws y e
 ·obtain rfl:y=x:=by simpa using e
  exact⟨h2,h3,fun hg=>h4.resolve_left (by rw[hg];simp)⟩
theorem zgM.at {s:SnP}{d:SdP}(h:zgM s d) (i z:Int):zgM (snAt s i z) (zg5 d i z):=by
 obtain⟨⟨⟨a,b,c,e⟩,n,o,m,mn⟩,ws,qn⟩:=h;refine⟨⟨?_,n,o,m,mn⟩,ws,?_⟩
 ·unfold snAt zg5;simp only[a,b,c,e,and_self]
 ·unfold zg5
  simp only;refine⟨?_,?_,?_,?_⟩ <;> split <;> omega
def zci (f:Int→Option WrP):List Int:=(List.range 8).filterMap fun(i:Nat)=>if(f (i:Int)).isSome then some (i:Int)else none
theorem ziV (f:Int→Option WrP):(zci f).Pairwise (· < ·):=by
 unfold zci;refine List.Pairwise.filterMap _ (S:=fun a b:Int=>a<b) ?_ (List.pairwise_lt_range (n:=8));intro a b hab x hx y hy;split at hx
 ·split at hy
  ·simp only[Option.mem_def,yaz]at hx hy
   omega
  ·simp at hy
 ·simp at hx
theorem zgm (f:Int→Option WrP) (k:Int):k∈zci f↔(0≤k∧k≤7)∧(f k).isSome=true:=by
 unfold zci;rw[ycl];constructor
 ·rintro⟨i,hi,h⟩
  have hi':=ybK.1 hi;split at h
  ·obtain rfl:=yaI h
   exact⟨zO,by assumption⟩
  ·cases h
 ·rintro⟨h1,h2⟩
  refine⟨k.toNat,ybK.2 zO,?_⟩;have e:(k.toNat:Int)=k:=by omega
  rw[e,yaj h2]
theorem zeZ.keys {w:World}{m sz:Nat}{f:Int→Option WrP}(h:zeZ w m f sz) (hk:∀ k,(f k).isSome=true→0≤k∧k≤7):
  ∃ D:DataW Value,w.ownsMap prog 3 zfD m sz D∧Maps.size D=sz∧∀ ss:List Int,ss.Perm (intKeys D)→ss.mergeSort leI=zci f∧ss.length=(zci f).length:=by
 obtain⟨D,h1,h2,h3⟩:=h;refine⟨D,h1,h2,fun ss hp=>?_⟩;have hu:prog.underlying 3=some (.int .i64):=underlying3;have hwf:=intKeys_wf h1 hu;obtain⟨es,hD,hpw,_⟩:=h1.entries keyedI;obtain⟨es',hD',hko⟩:=h1.keysOf;obtain rfl:es=es':=by rw[hD]at hD';simpa using hD'
 have hs:=ziV f;have hnd:(zci f).Nodup:=hs.imp (fun h=>Int.ne_of_lt h);have hperm:(zci f).Perm (intKeys D):=by
  subst hD;refine perm_intKeys hpw (fun p hp=>by obtain⟨v,hv⟩:=hko p hp;obtain⟨x,_,hx,_⟩:=Maps.keyOf_i64 hu hv;exact⟨x,hx⟩) hnd (fun x=>?_);rw[zgm];constructor
  ·rintro⟨h4,h5⟩
   rw[(h3 x ⟨zO,zO⟩).1];exact h5
  ·intro h4
   by_cases hx:zcr x
   ·rw[(h3 x hx).1]at h4
    exact⟨hk x h4,h4⟩
   ·exfalso
    rw[Maps.has_eq,List.any_eq_true]at h4;obtain⟨p,hp,hs⟩:=h4;obtain⟨v,hv⟩:=hko p hp;obtain⟨y,_,hy,hl⟩:=Maps.keyOf_i64 hu hv;rw[hy]at hs;have:y=x:=by simpa[Lit.sameKey]using hs
    subst this;exact hx (by
     have:=hl;simp[Lit.wf,IntKind.min,IntKind.max,IntKind.signed,IntKind.bits]at this;unfold zcr;omega)
 have hp2:ss.Perm (zci f):=hp.trans hperm.symm;refine⟨?_,hp2.length_eq⟩;rw[mergeSort_of_perm_i hp2];exact List.mergeSort_of_pairwise (hs.imp fun {a b} h=>by simp only[yap];omega)
theorem zgn {s:SnP}{d:SdP}(h:zgM s d) (ho:s.op=true):(zci s.m).filterMap s.m=zdJ d.W 8:=by
 unfold zci zdJ;rw[List.filterMap_filterMap];congr 1;funext i;have e:=h.rep.m ho (i:Int);cases hl:lastW d.W (i:Int)with
 | none=>rw[hl]at e;simp[e]
 | some y=>rw[hl]at e;simp[e]
theorem ziW {s:SnP}{d:SdP}(h:zgM s d) (ho:s.op=true):(zci s.m).length=s.mn:=by
 rw[h.rep.mn ho,←zgn h ho];have:∀ l:List Int,(∀ k∈l,(s.m k).isSome=true)→(l.filterMap s.m).length=l.length:=by
  intro l
  induction l with
  | nil=>intro _;rfl
  | cons k l ih=>
    intro hl;have h1:=hl k (yco ..);obtain⟨x,hx⟩:=ybX.1 h1;simp[hx,ih fun k hk=>hl k (yaR _ hk)]
 exact(this _ fun k hk=>((zgm s.m k).1 hk).2).symm
theorem zgM.dom {s:SnP}{d:SdP}(h:zgM s d) (ho:s.op=true):∀ k,(s.m k).isSome=true→0≤k∧k≤7:=fun k hk=>by
 rw[h.rep.m ho]at hk;obtain⟨x,hx⟩:=ybX.1 hk;have:=(h.ws x (ziS hx)).1;rwa[ziT hx]at this
def zdX (B u:Nat) (d:SdP) (o:Ob):Prop:=∃ s mv,o=obN B u s mv∧zgM s d
def zeA (B v:Nat) (d:SdP) (o:Ob):Prop:=∃ wv,o=obD B v d wv∧∃ s,zgM s d
theorem zdX.ok {B u:Nat}{d:SdP}{o:Ob}(h:zdX B u d o):o.Ok B:=by obtain⟨s,mv,rfl,_⟩:=h;exact zgf ..
theorem zeA.ok {B v:Nat}{d:SdP}{o:Ob}(h:zeA B v d o):o.Ok B:=by obtain⟨wv,rfl,_⟩:=h;exact zef ..
def zhn (d:SdP) (p0 p1 p2 p3:Int):SdP:=if zcs d p0 p1 p2 p3=0 then ze3 d p0 p1 p2 p3 else d
def zfr (d:SdP) (x:WrP):SdP:=if za8 d x=0 then { d with W:=d.W++[x] }else d
def zgt (d:SdP):SdP:=if d.op=true then zaG d else d
def zgs (d:SdP):Int:=if d.op=true then 0 else 6
section
variable {w w':World}{B u v:Nat}{d:SdP}{o:Ob}
theorem zdX.begin_ (h:zdX B u d o) (hw:o.at_ w) (x:Nat) (p0 p1 p2 p3:Int)
  (hap:∀ W,Below w w W→Calls prog 26 #[.pointer (some ⟨x,0,none⟩)] W fun e w'=>e=.returned (.agg #[p0,p1,p2,p3])∧Below W W w'):
  Calls prog 38 #[.pointer (some ⟨u,0,none⟩),.pointer (some ⟨x,0,none⟩)] w fun e w'=>e=.returned (zbT (zcs d p0 p1 p2 p3))∧Upd w w' o (zdX B u (zhn d p0 p1 p2 p3)):=by
 have h0:=h;obtain⟨s,mv,rfl,hs⟩:=h;refine(zkQ B u x s mv p0 p1 p2 p3 w hw hap).mono ?_;rintro e w' ⟨rfl,g1,g2⟩;rw[hs.rep.beginE]at g1 g2 ⊢;refine⟨rfl,?_⟩;unfold zhn;split
 ·rename_i he
  obtain⟨mb,h1,h2⟩:=g2 he;exact⟨obN B u _ (some mb),⟨_,some mb,rfl,hs.begin_ p0 p1 p2 p3⟩,h1,h2,fun b e=>e.elim⟩
 ·rename_i he
  exact Upd.below (zgf ..) h0 hw (g1 he)
theorem zdX.abort (h:zdX B u d o) (hw:o.at_ w):Calls prog 46 #[.pointer (some ⟨u,0,none⟩)] w fun e w'=>e=.returned (zbT (zgs d))∧Upd w w' o (zdX B u (zgt d)):=by
 have h0:=h;obtain⟨s,mv,rfl,hs⟩:=h;refine(zkR B u s mv w hw).mono ?_;rintro e w' ⟨g1,g2⟩;rw[hs.rep.op]at g1 g2;unfold zgs zgt;cases ho:d.op with
 | false=>
   obtain⟨rfl,hb⟩:=g1 ho;exact⟨rfl,Upd.below (zgf ..) h0 hw hb⟩
 | true=>
   obtain⟨rfl,h1,h2⟩:=g2 ho;exact⟨rfl,obN B u _ none,⟨_,none,rfl,hs.abort⟩,h1,h2,fun b e=>e.elim⟩
theorem zdX.read (h:zdX B u d o) (hw:o.at_ w) (x:Nat) (key:Int) (V:zaE×Int) (hk:zcr key)
  (hrd:∀ W,Below w w W→Calls prog 25 #[.pointer (some ⟨x,0,none⟩),key,.agg #[.int .i64 d.n0,.int .i64 d.n1,.int .i64 d.n2,.int .i64 d.n3]] W fun e w'=>e=.returned (.tuple #[zbX V.1,zbT V.2])∧Below W W w'):
  Calls prog 41 #[.pointer (some ⟨u,0,none⟩),.pointer (some ⟨x,0,none⟩),key] w fun e w'=>e=.returned (.tuple #[.string (zdN d.op (lastW d.W key) V).1,zbT (zdN d.op (lastW d.W key) V).2])∧Below w w w':=by
 obtain⟨s,mv,rfl,hs⟩:=h;have hn:=hs.rep.n;have:=zme B u x s mv key V w hw hk (by rw[hn.1,hn.2.1,hn.2.2.1,hn.2.2.2];exact hrd);have e:zdN s.op (s.m key) V=zdN d.op (lastW d.W key) V:=by
  cases ho:s.op with
  | false=>rw[←hs.rep.op,ho];rfl
  | true=>rw[←hs.rep.op,ho,hs.rep.m ho]
 rw[e]at this;exact this
theorem zdX.write (h:zdX B u d o) (hw:o.at_ w) (x:WrP):
  Calls prog 42 #[.pointer (some ⟨u,0,none⟩),x.val] w fun e w'=>e=.returned (zbT (za8 d x))∧Upd w w' o (zdX B u (zfr d x)):=by
 have h0:=h;obtain⟨s,mv,rfl,hs⟩:=h;have hE:=hs.rep.writeE x;by_cases hbad:s.op=false∨x.key<0∨7<x.key∨12<x.data.size∨(x.gone=true∧zeh x.data=false)
 ·refine(zkP B u s mv x w hw hbad).mono ?_
  rintro e w' ⟨rfl,hne,hb⟩;rw[hE]at hne ⊢;refine⟨rfl,?_⟩;unfold zfr;rw[yad hne];exact Upd.below (zgf ..) h0 hw hb
 ·have ho:s.op=true:=by cases hh:s.op with|true=>rfl|false=>exact absurd (.inl hh) hbad
  have hk:0≤x.key∧x.key≤7:=⟨by
   by_cases h2:x.key<0
   ·exact absurd (.inr (.inl h2)) hbad
   ·omega,by
   by_cases h2:7<x.key
   ·exact absurd (.inr (.inr (.inl h2))) hbad
   ·omega⟩
  have hd:x.data.size≤12:=by
   by_cases h2:12<x.data.size
   ·exact absurd (.inr (.inr (.inr (.inl h2)))) hbad
   ·omega
  have hg:x.gone=false∨x.data.toList.isEmpty=true:=by
   cases hg:x.gone with
   | false=>exact .inl rfl
   | true=>
     cases hb:zeh x.data with
     | true=>exact .inr hb
     | false=>exact absurd (.inr (.inr (.inr (.inr ⟨hg,hb⟩)))) hbad
  have hw2:zc3 w B u s mv:=hw;obtain⟨mb,rfl⟩:∃ mb,mv=some mb:=by
   cases mv with
   | none=>exact absurd rfl (hw2.opn ho)
   | some mb=>exact⟨mb,rfl⟩
  have hmn:s.mn≤900:=by
   rw[hs.rep.mn ho];have:=zd8 d.W 8;omega
  refine(zmc B u mb s x w hw ho hk hd hg hmn).mono ?_;rintro e w' ⟨g1,g2⟩;have hE2:zcD s x=if s.m x.key=none∧5≤s.mn then 12 else 0:=by
   unfold zcD;rw[yad (by rw[ho];simp),yad zO,yad zO,yad ?_];rintro⟨h1,h2⟩;exact hbad (.inr (.inr (.inr (.inr ⟨h1,h2⟩))))
  by_cases hf:s.m x.key=none∧5≤s.mn
  ·obtain⟨rfl,hb⟩:=g1 hf
   rw[yaj hf,hE]at hE2;unfold zfr;rw[hE2];refine⟨rfl,?_⟩;rw[yad zO];exact Upd.below (zgf ..) h0 hw hb
  ·obtain⟨rfl,h1,h2⟩:=g2 hf
   rw[yad hf,hE]at hE2;unfold zfr;rw[hE2];refine⟨rfl,?_⟩;rw[yaj rfl];exact⟨obN B u _ (some mb),⟨_,some mb,rfl,hs.write hE2⟩,h1,h2,fun b e=>e.elim⟩
theorem zdX.past (h:zdX B u d o) (hw:o.at_ w):Calls prog 48 #[.pointer (some ⟨u,0,none⟩)] w fun e w'=>e=.returned (.agg #[d.q0,d.q1,d.q2,d.q3])∧Below w w w':=by
 obtain⟨s,mv,rfl,hs⟩:=h;have:=zmf (B:=B) (u:=u) (s:=s) (mv:=mv) (w:=w) hw;rw[hs.rep.q.1,hs.rep.q.2.1,hs.rep.q.2.2.1,hs.rep.q.2.2.2]at this;exact this
theorem zdX.snap (h:zdX B u d o) (hw:o.at_ w):Calls prog 49 #[.pointer (some ⟨u,0,none⟩)] w fun e w'=>e=.returned (.agg #[d.n0,d.n1,d.n2,d.n3])∧Below w w w':=by
 obtain⟨s,mv,rfl,hs⟩:=h;have:=zmd (B:=B) (u:=u) (s:=s) (mv:=mv) (w:=w) hw;rw[hs.rep.n.1,hs.rep.n.2.1,hs.rep.n.2.2.1,hs.rep.n.2.2.2]at this;exact this
theorem zdX.open_ (h:zdX B u d o) (hw:o.at_ w):Calls prog 50 #[.pointer (some ⟨u,0,none⟩)] w fun e w'=>e=.returned (.bool d.op)∧Below w w w':=by
 obtain⟨s,mv,rfl,hs⟩:=h;have:=zmg (B:=B) (u:=u) (s:=s) (mv:=mv) (w:=w) hw;rw[hs.rep.op]at this;exact this
theorem zeA.begin_ (h:zeA B v d o) (hw:o.at_ w) (y:Nat) (p0 p1 p2 p3:Int) (hy:y<w.heap.size)
  (hp:w.cell? ⟨y,1,none⟩=some (.int .i64 p0)∧w.cell? ⟨y,2,none⟩=some (.int .i64 p1)∧w.cell? ⟨y,3,none⟩=some (.int .i64 p2)∧w.cell? ⟨y,4,none⟩=some (.int .i64 p3)):
  Calls prog 39 #[.pointer (some ⟨v,0,none⟩),.pointer (some ⟨y,0,none⟩)] w fun e w'=>e=.returned (.int .i64 (zcs d p0 p1 p2 p3))∧Upd w w' o (zeA B v (zhn d p0 p1 p2 p3)):=by
 have h0:=h;obtain⟨wv,rfl,s,hs⟩:=h;refine(zlb B v y d wv p0 p1 p2 p3 w hw hy hp).mono ?_;rintro e w' ⟨rfl,g1,g2⟩;refine⟨rfl,?_⟩;unfold zhn;split
 ·rename_i he
  obtain⟨h1,h2⟩:=g2 he;exact⟨obD B v _ (.slice none 0 0),⟨_,rfl,_,hs.begin_ p0 p1 p2 p3⟩,h1,h2,fun b e=>e.elim⟩
 ·rename_i he
  exact Upd.below (zef ..) h0 hw (g1 he)
theorem zeA.abort (h:zeA B v d o) (hw:o.at_ w):Calls prog 47 #[.pointer (some ⟨v,0,none⟩)] w fun e w'=>e=.returned (.int .i64 (zgs d))∧Upd w w' o (zeA B v (zgt d)):=by
 have h0:=h;obtain⟨wv,rfl,s,hs⟩:=h;refine(zhb B v d wv w hw).mono ?_;rintro e w' ⟨g1,g2⟩;unfold zgs zgt;cases ho:d.op with
 | false=>
   obtain⟨rfl,hb⟩:=g1 ho;exact⟨rfl,Upd.below (zef ..) h0 hw hb⟩
 | true=>
   obtain⟨rfl,h1,h2⟩:=g2 ho;exact⟨rfl,obD B v _ (.slice none 0 0),⟨_,rfl,_,hs.abort⟩,h1,h2,fun b e=>e.elim⟩
theorem zeA.read (h:zeA B v d o) (hw:o.at_ w) (y:Nat) (key:Int) (V:zaE×Int) (hn:d.W.length≤100000)
  (hrd:∀ W,Below w w W→Calls prog 24 #[.pointer (some ⟨y,0,none⟩),key,.agg #[.int .i64 d.n0,.int .i64 d.n1,.int .i64 d.n2,.int .i64 d.n3]] W fun e w'=>e=.returned (.tuple #[zbX V.1,V.2])∧Below W W w'):
  Calls prog 40 #[.pointer (some ⟨v,0,none⟩),.pointer (some ⟨y,0,none⟩),key] w fun e w'=>e=.returned (.tuple #[.string (zdN d.op (lastW d.W key) V).1,.int .i64 (zdN d.op (lastW d.W key) V).2])∧Below w w w':=by
 obtain⟨wv,rfl,s,hs⟩:=h;exact zk7 B v y d wv key V w hw hn hrd
theorem zeA.write (h:zeA B v d o) (hw:o.at_ w) (x:WrP) (hn:d.W.length≤900):
  Calls prog 43 #[.pointer (some ⟨v,0,none⟩),x.val] w fun e w'=>e=.returned (.int .i64 (za8 d x))∧Upd w w' o (zeA B v (zfr d x)):=by
 have h0:=h;obtain⟨wv,rfl,s,hs⟩:=h;refine(zjv B v d wv x w hw hn).mono ?_;rintro e w' ⟨rfl,g1,g2⟩;refine⟨rfl,?_⟩;unfold zfr;split
 ·rename_i he
  obtain⟨wv',h1,h2⟩:=g2 he;exact⟨obD B v _ wv',⟨_,rfl,_,hs.write he⟩,h1,h2,fun b e=>e.elim⟩
 ·rename_i he
  exact Upd.below (zef ..) h0 hw (g1 he)
theorem zeA.cells (h:zeA B v d o) (hw:o.at_ w):∃ wv,w.heap[v]?=some (.cells #[d.q0,d.q1,d.q2,d.q3,d.n0,d.n1,d.n2,d.n3,.bool d.op,wv] 79):=by
 obtain⟨wv,rfl,s,hs⟩:=h;exact⟨wv,zdn.blk hw⟩
end
section
variable {w0 w w':World}{n:Nat}{O:Nat→Ob}
theorem Mem.less (h:Mem w0 w n O){m:Nat}(hm:m≤n):Mem w0 w m O:=
 ⟨h.low,fun i hi=>h.ok i zO,fun i hi=>h.at_ i zO,fun i j hi hj=>h.dis i j zO zO⟩
theorem Mem.size (h:Mem w0 w n O):w0.heap.size≤w.heap.size:=h.low.size
theorem Mem.new (h:Mem w0 w n O) (o:Obj):Mem w0 (w.alloc o) (n+1) (zjB O n (obB w.heap.size o w0.heap.size)):=
 h.push (zal (yaf _ _)) (zkj ..) ⟨h.size,zag rfl _⟩ (fun b e=>by cases e;exact yai _) (fun b e=>e.elim)
theorem Mem.box (h:Mem w0 w n O){i b:Nat}{o:Obj}(hi:i<n) (he:O i=obB b o w0.heap.size):w.heap[b]?=some o:=by
 have:=h.at_ i hi;rw[he]at this;exact this.2
theorem Mem.grow (h:Mem w0 w n O){i b:Nat}{o o':Obj}(hi:i<n) (he:O i=obB b o w0.heap.size) (hg:w.grownBy w' (some b)) (ho:w'.heap[b]?=some o'):Mem w0 w' n (zjB O i (obB b o' w0.heap.size)):=by
 have h1:=h.at_ i hi;rw[he]at h1;refine h.step hi (zkj ..) ⟨h1.1,ho⟩ ⟨hg.os,hg.tape,hg.output,hg.size,fun k hk hn=>hg.block k hk (fun e=>hn ?_),fun k hk=>.inl ?_⟩ (fun k e=>e.elim)
 ·rw[he];exact yaI e
 ·rw[he];exact hk
theorem Mem.set (h:Mem w0 w n O){i b:Nat}{cs:Array Value}{t:TypeId}(hi:i<n) (he:O i=obB b (.cells cs t) w0.heap.size) (k:Nat) (v:Value):
  Mem w0 (w.setCell ⟨b,k,none⟩ v) n (zjB O i (obB b (.cells (cs.setIfInBounds k v) t) w0.heap.size)):=
 h.grow hi he (zan w b k v) (zam (h.box hi he) k v)
theorem Mem.fill9 (h:Mem w0 w n O){i b:Nat}{z0 z1 z2 z3 z4 z5 z6 z7 z8:Value}{t:TypeId}(hi:i<n) (he:O i=obB b (.cells #[z0,z1,z2,z3,z4,z5,z6,z7,z8] t) w0.heap.size) (u0 u1 u2 u3 u4 u5 u6 u7 u8:Value):
  Mem w0 (zcx w b u0 u1 u2 u3 u4 u5 u6 u7 u8) n (zjB O i (obB b (.cells #[u0,u1,u2,u3,u4,u5,u6,u7,u8] t) w0.heap.size)):=
 h.grow hi he (zd2 w b u0 u1 u2 u3 u4 u5 u6 u7 u8) (zc7 (h.box hi he))
theorem Mem.fresh (h:Mem w0 w n O){k b:Nat}(hk:k<n) (hb:w.heap.size≤b):¬(O k).own b:=fun e=>by
 have:=((h.ok k hk).lt w b (h.at_ k hk) e).2;omega
end
section
variable {w0 w w':World}{n:Nat}{O:Nat→Ob}
theorem Mem.new1 (h:Mem w0 w n O) (a:Obj):∃ O',Mem w0 (w.alloc a) (n+1) O'∧(∀ k,k<n→O' k=O k)∧O' n=obB w.heap.size a w0.heap.size:=
 ⟨_,h.new a,fun k hk=>zah _ zO,zaB ..⟩
theorem Mem.new2 (h:Mem w0 w n O) (a b:Obj):∃ O',Mem w0 ((w.alloc a).alloc b) (n+2) O'∧(∀ k,k<n→O' k=O k)∧O' n=obB w.heap.size a w0.heap.size∧O' (n+1)=obB (w.heap.size+1) b w0.heap.size:=by
 have h1:=(h.new a).new b;rw[ya8]at h1;exact⟨_,h1,fun k hk=>by rw[zah _ zO,zah _ zO],by rw[zah _ zO,zaB],zaB ..⟩
theorem Mem.fill9' (h:Mem w0 w n O){i b:Nat}{z0 z1 z2 z3 z4 z5 z6 z7 z8:Value}{t:TypeId}(hi:i<n) (he:O i=obB b (.cells #[z0,z1,z2,z3,z4,z5,z6,z7,z8] t) w0.heap.size) (u0 u1 u2 u3 u4 u5 u6 u7 u8:Value):
  ∃ O',Mem w0 (zcx w b u0 u1 u2 u3 u4 u5 u6 u7 u8) n O'∧O' i=obB b (.cells #[u0,u1,u2,u3,u4,u5,u6,u7,u8] t) w0.heap.size∧∀ k,k≠i→O' k=O k:=
 ⟨_,h.fill9 hi he u0 u1 u2 u3 u4 u5 u6 u7 u8,zaB ..,fun k hk=>zah _ hk⟩
def zcQ (A:Option Addr) (ws:List WrP):Ob:=⟨fun w=>zaN w A ws∧∀ b o,A=some ⟨b,o,none⟩→b<w.heap.size,fun _=>False,fun b=>∃ o,A=some ⟨b,o,none⟩⟩
theorem zjC (A:Option Addr) (ws:List WrP) (B:Nat):(zcQ A ws).Ok B:=
 ⟨fun w w' h hs hb=>⟨h.1.keep fun b o e=>hb b (.inr ⟨o,e⟩),fun b o e=>yab (h.2 b o e) hs⟩,fun w b h e=>e.elim,fun w b h ⟨o,e⟩=>h.2 b o e⟩
theorem Mem.lend (h:Mem w0 w n O){o:Ob}(ho:o.Ok w0.heap.size) (ha:o.at_ w) (hn:∀ b,¬o.own b) (hd:∀ b k,k<n→o.dat b→¬(O k).own b):Mem w0 w (n+1) (zjB O n o):=by
 refine⟨h.low,fun k hk=>?_,fun k hk=>?_,fun i j hi hj hij b hb=>?_⟩
 ·by_cases e:k=n
  ·subst e;rw[zaB];exact ho
  ·rw[zah _ e];exact h.ok k zO
 ·by_cases e:k=n
  ·subst e;rw[zaB];exact ha
  ·rw[zah _ e];exact h.at_ k zO
 ·by_cases e:i=n
  ·subst e;rw[zaB]at hb;exact absurd hb (hn b)
  ·rw[zah _ e]at hb
   by_cases e2:j=n
   ·subst e2
    rw[zaB];exact⟨hn b,fun e3=>hd b i zO e3 hb⟩
   ·rw[zah _ e2]
    exact h.dis i j zO zO hij b hb
theorem Mem.lend1 (h:Mem w0 w n O){o:Ob}(ho:o.Ok w0.heap.size) (ha:o.at_ w) (hn:∀ b,¬o.own b) (hd:∀ b k,k<n→o.dat b→¬(O k).own b):∃ O',Mem w0 w (n+1) O'∧(∀ k,k<n→O' k=O k)∧O' n=o:=
 ⟨_,h.lend ho ha hn hd,fun k hk=>zah _ zO,zaB ..⟩
theorem Mem.step1 (h:Mem w0 w n O){i:Nat}(hi:i<n){o:Ob}(ho:o.Ok w0.heap.size) (hat:o.at_ w') (fr:zaO w w' (O i).own o.own) (hd:∀ b,o.dat b→(O i).dat b∨w.heap.size≤b):∃ O',Mem w0 w' n O'∧O' i=o∧∀ k,k≠i→O' k=O k:=
 ⟨_,h.step hi ho hat fr hd,zaB ..,fun k hk=>zah _ hk⟩
theorem Mem.pick (h:Mem w0 w n O){m:Nat}(f:Nat→Nat) (hf:∀ k,k<m→f k<n) (hi:∀ j k,j<m→k<m→f j=f k→j=k):Mem w0 w m (fun k=>O (f k)):=
 ⟨h.low,fun k hk=>h.ok _ (hf k hk),fun k hk=>h.at_ _ (hf k hk),fun j k hj hk hne=>h.dis _ _ (hf j hj) (hf k hk) (fun e=>hne (hi j k hj hk e))⟩
end
end Go.Proofs.YtbopfhbeegkkaabGreatDoor
namespace Go.Proofs.YtbopfhbeegkkaabGreatDoor
open Go.Proofs.Tryz
def txZP:TxP:=⟨0,0,0,0,0,0,0,0,[]⟩
structure GmP where
 tgt:Nat
 tx:TxP
 frm:Nat
 h0:Int
 h1:Int
 h2:Int
 h3:Int
structure AWd where
 S:Nat
 C:Nat
 si:Nat→RSi
 wl:Nat→Int
 cl:Nat→SdP
 pl:Nat→Nat
 way:List GmP
 lost:Nat
def zb5 {α:Type}(f:Nat→α) (i:Nat) (v:α):Nat→α:=fun k=>if k=i then v else f k
theorem zbm {α:Type}(f:Nat→α) (i:Nat) (v:α):zb5 f i v i=v:=yaj rfl
theorem zbk {α:Type}{f:Nat→α}{i k:Nat}(v:α) (h:k≠i):zb5 f i v k=f k:=yad h
def zis (id:Int):RSi:=⟨id,0,0,0,0,0,0,[],[],[],fun _=>0⟩
def sdNew0:SdP:=⟨0,0,0,0,0,0,0,0,false,[]⟩
def zdI (S C:Nat):AWd:=⟨S,C,fun k=>zis (k:Int),fun _=>0,fun _=>sdNew0,fun _=>0,[],0⟩
def zaM (d:SdP):List WrP:=zdJ d.W 8
def zbb (d:SdP) (s:RSi) (now:Int):Int:=
 if d.op=false then 6 else if zaM d=[]then 0 else za5 s now d.n0 d.n1 d.n2 d.n3 (zaM d)
def zaT (d:SdP) (s:RSi) (now:Int):TxP:=if zaM d=[]then txZP else za9 s now d.n0 d.n1 d.n2 d.n3 (zaM d)
def zbA (d:SdP) (s:RSi) (now:Int):RSi:=if zaM d=[]then s else zcc s (zaT d s now)
def zb8 (d:SdP) (s:RSi) (now:Int):SdP:=if zaM d=[]then zaG d else zg5 (zaG d) (zaT d s now).site (zaT d s now).seq
def zaJ (A:AWd) (g:GmP):AWd:=if 300≤A.way.length then { A with lost:=A.lost+1 }else { A with way:=A.way++[g] }
def zay (A:AWd) (l:List GmP):AWd:=l.foldl zaJ A
def zfE (A:AWd) (at_:Nat) (t:TxP) (n:Nat):List GmP:=((List.range n).filter fun k=>decide (k≠at_)).map fun k=>⟨k,t,0,0,0,0,0⟩
def zfF (A:AWd) (k:Nat):RSi:=A.si (A.pl k)
def zaK (A:AWd) (k:Nat):Int:=zbb (A.cl k) (zfF A k) (A.wl (A.pl k))
def zaZ (A:AWd) (k:Nat):TxP:=zaT (A.cl k) (zfF A k) (A.wl (A.pl k))
def zap (A:AWd) (k:Nat):AWd:=
 if zaK A k=0 then { A with si:=zb5 A.si (A.pl k) (zbA (A.cl k) (zfF A k) (A.wl (A.pl k))),cl:=zb5 A.cl k (zb8 (A.cl k) (zfF A k) (A.wl (A.pl k))) }else A
def zbB (A:AWd) (k:Nat):AWd:=
 if zaK A k=0∧0<(zaZ A k).seq then zay (zap A k) (zfE A (A.pl k) (zaZ A k) A.S)else zap A k
def zfP (A:AWd) (k:Nat):Int:=zcs (A.cl k) (zfF A k).p0 (zfF A k).p1 (zfF A k).p2 (zfF A k).p3
def zev (A:AWd) (k:Nat):AWd:={ A with cl:=zb5 A.cl k (zhn (A.cl k) (zfF A k).p0 (zfF A k).p1 (zfF A k).p2 (zfF A k).p3) }
def awReadV (A:AWd) (k:Nat) (key:Int):zaE×Int:=zj1 (zfF A k) key (A.cl k).n0 (A.cl k).n1 (A.cl k).n2 (A.cl k).n3
def zft (A:AWd) (k:Nat) (key:Int):ByteArray×Int:=zdN (A.cl k).op (lastW (A.cl k).W key) (awReadV A k key)
def zfO (A:AWd) (k:Nat) (x:WrP):Int:=za8 (A.cl k) x
def zdW (A:AWd) (k:Nat) (x:WrP):AWd:={ A with cl:=zb5 A.cl k (zfr (A.cl k) x) }
def zfQ (A:AWd) (k:Nat):Int:=zgs (A.cl k)
def zew (A:AWd) (k:Nat):AWd:={ A with cl:=zb5 A.cl k (zgt (A.cl k)) }
def zcv (A:AWd) (k:Nat) (tgt:Int):Int:=if tgt<0∨(A.S:Int)≤tgt then 2 else if(A.cl k).op=true then 6 else 0
def zdF (A:AWd) (k:Nat) (tgt:Int):AWd:=if zcv A k tgt=0 then { A with pl:=zb5 A.pl k tgt.toNat }else A
def zgA (A:AWd) (k:Nat) (by_:Int):AWd:={ A with wl:=zb5 A.wl k (min (A.wl k+by_) 1099511627776) }
def zdl (A:AWd) (k other:Nat):GmP:=⟨other,txZP,k,(A.si k).p0,(A.si k).p1,(A.si k).p2,(A.si k).p3⟩
def zc2 (A:AWd) (k other:Nat):AWd:=zaJ A (zdl A k other)
def zbh (A:AWd) (i:Nat):AWd:={ A with way:=A.way.eraseIdx i }
def zfs (A:AWd) (k:Nat) (t:TxP):AWd:={ A with si:=zb5 A.si k (zdO (A.si k) t) }
def zbn (A:AWd) (k frm:Nat) (h0 h1 h2 h3:Int):AWd:={ A with si:=zb5 A.si k (zg9 (A.si k) frm h0 h1 h2 h3) }
def zjc (a:RSi) (frm:Nat) (h0 h1 h2 h3:Int):List GmP:=((zdK a h0 h1 h2 h3).filter fun t=>decide (t.site≠(frm:Int))).map fun t=>⟨frm,t,0,0,0,0,0⟩
def zcl (A:AWd) (g:GmP):AWd:=
 if 0<g.tx.seq then zfs A g.tgt g.tx else zay (zbn A g.tgt g.frm g.h0 g.h1 g.h2 g.h3) (zjc (A.si g.tgt) g.frm g.h0 g.h1 g.h2 g.h3)
def gmZ:GmP:=⟨0,txZP,0,0,0,0,0⟩
def zaH (A:AWd) (i:Nat):AWd:=zcl (zbh A i) (A.way.getD i gmZ)
def zc0 (A:AWd) (i:Nat):AWd:=zaJ A (A.way.getD i gmZ)
def zby (A:AWd) (k:Nat):Nat→Int×Int×Int×Int→Int×Int×Int×Int
 | 0,v=>v
 | i+1,v=>if A.pl i=k∧(A.cl i).op=true then
    (min (zby A k i v).1 (A.cl i).n0,min (zby A k i v).2.1 (A.cl i).n1,min (zby A k i v).2.2.1 (A.cl i).n2,min (zby A k i v).2.2.2 (A.cl i).n3)else zby A k i v
def zbI (A:AWd) (k:Nat):Int×Int×Int×Int:=
 (zbR (A.si k) A.S 0 (A.si k).p0,zbR (A.si k) A.S 1 (A.si k).p1,zbR (A.si k) A.S 2 (A.si k).p2,zbR (A.si k) A.S 3 (A.si k).p3)
def awSwV (A:AWd) (k:Nat):Int×Int×Int×Int:=zby A k A.C (zbI A k)
noncomputable def zdy(A:AWd) (k:Nat):AWd:={ A with si:=zb5 A.si k (zc6 (A.si k) (awSwV A k).1 (awSwV A k).2.1 (awSwV A k).2.2.1 (awSwV A k).2.2.2) }
def gmW (g:GmP):Nat:=if 0<g.tx.seq then 1 else 302
def wayW:List GmP→Nat
 | []=>0
 | g::l=>gmW g+wayW l
def awFlow:Nat→AWd→AWd
 | 0,A=>A
 | f+1,A=>match A.way with
   | []=>A
   | _::_=>awFlow f (zaH A 0)
def zaS (A:AWd):AWd:=awFlow (wayW A.way) A
def zaV (k:Nat) (A:AWd):Nat→AWd
 | 0=>A
 | o+1=>if k=o then zaV k A o else zaS (zc2 (zaV k A o) k o)
def zbe (A:AWd):Nat→AWd
 | 0=>A
 | k+1=>zaV k (zbe A k) A.S
def zfv (A:AWd):AWd:=zbe (zaS A) A.S
theorem zgz (A:AWd) (g:GmP):(zaJ A g).S=A.S∧(zaJ A g).C=A.C∧(zaJ A g).si=A.si∧(zaJ A g).wl=A.wl∧(zaJ A g).cl=A.cl∧(zaJ A g).pl=A.pl:=by
 unfold zaJ;split <;> simp
theorem awSends_eq:∀ (l:List GmP) (A:AWd),(zay A l).S=A.S∧(zay A l).C=A.C∧(zay A l).si=A.si∧(zay A l).wl=A.wl∧(zay A l).cl=A.cl∧(zay A l).pl=A.pl
 | [],A=>⟨rfl,rfl,rfl,rfl,rfl,rfl⟩
 | g::l,A=>by
   have h1:=awSends_eq l (zaJ A g);have h2:=zgz A g;show(zay (zaJ A g) l).S=A.S∧_;rw[h2.1,h2.2.1,h2.2.2.1,h2.2.2.2.1,h2.2.2.2.2.1,h2.2.2.2.2.2]at h1;exact h1
theorem zgx (A:AWd) (l:List GmP) (g:GmP):zay A (l++[g])=zaJ (zay A l) g:=by
 unfold zay;rw[List.foldl_append];rfl
theorem zfi (A:AWd) (g:GmP) (h:A.way.length≤300):(zaJ A g).way.length≤300:=by
 unfold zaJ;split
 ·exact h
 ·simp;omega
theorem awSends_len:∀ (l:List GmP) (A:AWd),A.way.length≤300→(zay A l).way.length≤300
 | [],A,h=>h
 | g::l,A,h=>awSends_len l (zaJ A g) (zfi A g h)
theorem wayW_app:∀ (l m:List GmP),wayW (l++m)=wayW l+wayW m
 | [],m=>by simp[wayW]
 | g::l,m=>by simp[wayW,wayW_app l m];omega
theorem wayW_tx:∀ (l:List GmP),(∀ g∈l,0<g.tx.seq)→wayW l=l.length
 | [],_=>rfl
 | g::l,h=>by
   have h1:=h g (yco ..);simp[wayW,gmW,h1,wayW_tx l fun x hx=>h x (yaR _ hx)];omega
theorem awSends_way:∀ (l:List GmP) (A:AWd),A.way.length≤300→∃ m,m.length≤300∧(zay A l).way=A.way++m∧(∀ g∈m,g∈l)
 | [],A,_=>⟨[],zS,by simp[zay],fun g h=>(by cases h)⟩
 | g::l,A,h=>by
   obtain⟨m,h1,h2,h3⟩:=awSends_way l (zaJ A g) (zfi A g h);have hl:=awSends_len l (zaJ A g) (zfi A g h);have e:zay A (g::l)=zay (zaJ A g) l:=rfl;rw[e,h2];rw[h2]at hl;unfold zaJ at hl ⊢;split
   ·exact⟨m,h1,rfl,fun x hx=>yaR _ (h3 x hx)⟩
   ·rename_i hc
    rw[yad hc]at hl;refine⟨g::m,?_,zS,fun x hx=>?_⟩
    ·simp at hl ⊢;omega
    ·rcases ya1.1 hx with e|e
     ·exact e ▸ yco ..
     ·exact yaR _ (h3 x e)
theorem znc {a:RSi}(h:∀ t∈a.log,zaf t=true) (frm:Nat) (h0 h1 h2 h3:Int):∀ g∈zjc a frm h0 h1 h2 h3,0<g.tx.seq:=by
 intro g hg;unfold zjc zdK at hg;obtain⟨t,ht,rfl⟩:=ybE.1 hg;have:=(zar (h t (ybs.1 (ybs.1 ht).1).1)).2.1;show 0<t.seq;omega
theorem zei {A:AWd}{g:GmP}{l:List GmP}(hw:A.way=g::l) (hl:A.way.length≤300) (hr:∀ t∈(A.si g.tgt).log,zaf t=true):
  wayW (zaH A 0).way<wayW A.way∧(zaH A 0).way.length≤300:=by
 have hg:A.way.getD 0 gmZ=g:=by rw[hw];rfl
 have ho:(zbh A 0).way=l:=by unfold zbh;rw[hw];rfl
 have hll:l.length≤300:=by rw[hw]at hl;simp at hl;omega
 unfold zaH zcl;rw[hg];split
 ·rename_i hs
  show wayW (zbh A 0).way<_∧(zbh A 0).way.length≤300;rw[ho,hw];simp[wayW,gmW,hs,hll]
 ·rename_i hs
  have e1:(zbn (zbh A 0) g.tgt g.frm g.h0 g.h1 g.h2 g.h3).way=l:=ho;obtain⟨m,h1,h2,h3⟩:=awSends_way (zjc ((zbh A 0).si g.tgt) g.frm g.h0 g.h1 g.h2 g.h3) (zbn (zbh A 0) g.tgt g.frm g.h0 g.h1 g.h2 g.h3) (by rw[e1];exact hll);refine⟨?_,awSends_len _ _ (by rw[e1];exact hll)⟩;rw[h2,e1,wayW_app,wayW_tx m fun x hx=>znc hr _ _ _ _ _ x (h3 x hx),hw];simp[wayW,gmW,hs];omega
end Go.Proofs.YtbopfhbeegkkaabGreatDoor
namespace Go.Proofs.YtbopfhbeegkkaabGreatDoor
open Go.RowKit Go.Proofs.Tryz
theorem zgq {D:Option TxP}{w W:World}{b:Nat}{u0 u1 u2 u3 u4 u5 u6 u7 u8 x0 x1 x2 x3 x4 x5 x6 x7 x8 e:Value}{a:Act}(h:W.heap[b]?=some (.cells #[x0,x1,x2,x3,x4,x5,x6,x7,x8] 44))
  (hd:a.defers=[]) (h2:a.tmps[2]?.getD undef=.pointer (some ⟨b,0,none⟩)) (h3:a.tmps[3]?.getD undef=e)
  (hp:znf w D (.returned (.tuple #[.agg #[u0,u1,u2,u3,u4,u5,u6,u7,u8],e])) (zcx W b u0 u1 u2 u3 u4 u5 u6 u7 u8)):
  bodyPost prog Tryz.f149 (znf w D) .ret a (zcx W b u0 u1 u2 u3 u4 u5 u6 u7 u8):=by
 have hb:=zlw (zc7 (u0:=u0) (u1:=u1) (u2:=u2) (u3:=u3) (u4:=u4) (u5:=u5) (u6:=u6) (u7:=u7) (u8:=u8) h);go_split_ands;refine yag ?_ hd hp;simp only[results,results149];simp[go_sem,h2,h3, *]
theorem info43x:∃ i,prog.info? 83=some i∧i.zero=some (.agg #[ii 0,.string ⟨#[]⟩,.bool false])∧i.size=3∧i.bytes=32:=by
 obtain⟨i,hi,h⟩:=ya6.1 info43;simp only[ybc]at h;exact⟨i,hi,h.1,h.2.1,h.2.2⟩
theorem zln {w w6:World}{x0 x1 x2 x3 x4 x5 x6 x7:Int}{o o2:Obj}{r:Rd}
  (ho:o=.cells #[ii 0,ii 0,ii 0,ii 0,ii 0,ii 0,ii 0,ii 0,.slice none 0 0] 44)
  (hr:zdZ w6 (w.heap.size+1) r) (hb:Below (w.heap.size+1) (w.alloc o) w6) (hlt:w.heap.size+1<w6.heap.size)
  (ho2:o2=.cells #[x0,x1,x2,x3,x4,x5,x6,x7,.slice none 0 0] 44):
  zj3 w (w6.alloc o2) (w.heap.size+1) w6.heap.size x0 x1 x2 x3 x4 x5 x6 x7 none 0 [] r:=by
 subst ho ho2;have hz:=hb.block w.heap.size zO;rw[heap_alloc,yaj rfl]at hz;refine⟨hr.above fun k hk=>by rw[heap_alloc,yad zO],by rw[heap_alloc,yad zO];exact hz,by rw[heap_alloc,yaj rfl];rfl,⟨rfl,.inl ⟨rfl,rfl⟩⟩,?_,zO,hlt⟩;have h1:Below w w w6:=ybC (zal (yaf _ _)) (hb.mono zO);exact h1.alloc zO _
def finT (x:TxP×Rd):Option TxP:=if x.2.bad||!x.2.l.isEmpty||!zaf x.1 then none else some x.1
theorem zlq (l:List UInt8):zgr l=finT (zf5 (zbj 116 l)):=by unfold zgr finT;rfl
theorem zlm (h d:Nat×Nat×Nat×Nat) (F:List WrP×Rd):zi3 h d F=finT (txOf h d F.1,F.2):=by unfold zi3 finT;rfl
theorem rawTx_eq (r:Rd):zf5 r=(txOf (za6 r).1 (za6 (za6 r).2).1 (wrsR (zbf (za6 (za6 r).2).2).1 [] (zbf (za6 (za6 r).2).2).2).1,(wrsR (zbf (za6 (za6 r).2).2).1 [] (zbf (za6 (za6 r).2).2).2).2):=by unfold zf5;rfl
theorem zm2 (l:List UInt8):zgr l=zi3 (za6 (zbj 116 l)).1 (za6 (za6 (zbj 116 l)).2).1 (wrsR (zbf (za6 (za6 (zbj 116 l)).2).2).1 [] (zbf (za6 (za6 (zbj 116 l)).2).2).2):=by
 rw[zlq,zlm,rawTx_eq]
theorem zi5 (v:Value) (l:List UInt8) (w:World) (hv:zbp w w.heap.size v l) (hl:l.length≤1000000):
  Calls prog 149 #[v] w (znf w (zgr l)):=by
 have hbeg:=fun o=>zja v l 116 116 rfl (w.alloc o) ((hv.above fun k hk=>by rw[heap_alloc,yad zO]).mono zS) hl
 simp only[show ∀ o,(w.alloc o).heap.size=w.heap.size+1 from fun o=>by simp]at hbeg;have hlen0:=yac (zhq 116 l) hl;have hD:=zm2 l;generalize zgr l=D at *;generalize zbj 116 l=r0 at *;obtain⟨n1,r1,k1⟩:∃ a r,zbf r0=(a,r):=⟨_,_,rfl⟩;obtain⟨n2,r2,k2⟩:∃ a r,zbf r1=(a,r):=⟨_,_,rfl⟩;obtain⟨n3,r3,k3⟩:∃ a r,zbf r2=(a,r):=⟨_,_,rfl⟩;obtain⟨n4,r4,k4⟩:∃ a r,zbf r3=(a,r):=⟨_,_,rfl⟩;obtain⟨q,r5,k5⟩:∃ a r,za6 r4=(a,r):=⟨_,_,rfl⟩;obtain⟨d1,d2,d3,d4⟩:=q;obtain⟨m,r6,k6⟩:∃ a r,zbf r5=(a,r):=⟨_,_,rfl⟩;have k0:za6 r0=((n1,n2,n3,n4),r4):=by unfold za6;simp only[k1,k2,k3,k4]
 simp only[k0,k5,k6]at hD;generalize hF:wrsR m [] r6=F at *;have HD:=zac hD;have HF:=zac hF;clear hD hF k0;have hlen1:=zcA k1 hlen0;have hlen2:=zcA k2 hlen1;have hlen3:=zcA k3 hlen2;have hlen4:=zcA k4 hlen3;have hlen5:=zkE k5 hlen4;have HL:=zac (zcA k6 hlen5);have hs1:=zcd k1;have hs2:=zcd k2;have hs3:=zcd k3;have hs4:=zcd k4;have hs5:=zlZ k5;have hsm:=zcd k6;have HB:=zac hbeg;have N1:=zac fun W h=>zgg k1 (w.heap.size+1) W h hlen0
 have N2:=zac fun W h=>zgg k2 (w.heap.size+1) W h hlen1
 have N3:=zac fun W h=>zgg k3 (w.heap.size+1) W h hlen2
 have N4:=zac fun W h=>zgg k4 (w.heap.size+1) W h hlen3
 have N5:=zac fun W h=>vec_to k5 (w.heap.size+1) W h hlen4
 have N6:=zac fun W h=>zgg k6 (w.heap.size+1) W h hlen5
 clear hbeg k1 k2 k3 k4 k5 k6 hlen0 hlen1 hlen2 hlen3 hlen4 hlen5 hv hl;obtain⟨hs5,hs6,hs7,hs8⟩:=hs5;obtain⟨i0,hi,hz0,hz1,hz2⟩:=info43x;go_enter func149,ntmps149;go_wp2_with fail;go_at_call 185;refine(HB.out _).mono ?_;rintro e w1 ⟨rfl,hr,hb⟩;clear HB;go_wp2_with fail;go_at_call 186;refine(N1.out _ hr).mono ?_;rintro e w2 ⟨rfl,hr1,hg⟩;have hb1:=za7 hb hg (yai _) zS;clear hr hb hg N1;go_wp2_with fail;go_at_call 186;refine(N2.out _ hr1).mono ?_;rintro e w3 ⟨rfl,hr2,hg⟩;have hb2:=za7 hb1 hg (yai _) zS;clear hr1 hb1 hg N2;go_wp2_with fail;go_at_call 186;refine(N3.out _ hr2).mono ?_;rintro e w4 ⟨rfl,hr3,hg⟩;have hb3:=za7 hb2 hg (yai _) zS;clear hr2 hb2 hg N3;go_wp2_with fail;go_at_call 186;refine(N4.out _ hr3).mono ?_;rintro e w5 ⟨rfl,hr4,hg⟩;have hb4:=za7 hb3 hg (yai _) zS;clear hr3 hb3 hg N4;go_wp2_with fail;go_at_call 187;refine(N5.out _ hr4).mono ?_;rintro e w6 ⟨rfl,hr5,hg⟩;have hb5:=za7 hb4 hg (yai _) zS;have hlt6:=hr5.lt;clear hr4 hb4 hg N5;go_wp2_with fail;go_at_call 186;refine(N6.out _ (hr5.above fun k hk=>by rw[heap_alloc,yad zO])).mono ?_;rintro e w7 ⟨rfl,hr6,hg⟩;have ST:=zac ((zln rfl hr5 hb5 hlt6 rfl).call hr6 hg);clear hr5 hb5 hr6 hg N6 hlt6;generalize htb:w6.heap.size=tb at *;clear htb;go_wp2;go_loopw [6] (fun n wr=>∃ (k:Nat) (A:Option Addr) (c:Nat) (ws:List WrP) (r:Rd),n=ii k∧k≤1099511627776∧wrsR k ws r=F∧r.l.length≤1000000∧ws.length≤6∧(r.bad=false→ws.length≤5)∧
  zj3 w wr (w.heap.size+1) tb (n1:Int) (n2:Int) (n3:Int) (n4:Int) (d1:Int) (d2:Int) (d3:Int) (d4:Int) A c ws r) (fun n _=>(Go.RowKit.intOf n).toNat)
 case atStart=>exact⟨m,none,0,[],r6,rfl,hsm,HF.out,HL.out,zS,zS,ST.out⟩
 case round=>
  obtain⟨k,A,c,ws,r,rfl,hk,hF,hlen,h6,h5,hst⟩:=hrel;obtain⟨l1,bad⟩:=r;have HST:=zac hst;obtain⟨v1,hb,A1,c1,rfl,hc,hcm,hx⟩:=hst.rd;simp only at *;have b0:=zaa hb 0;have b1:=zaa hb 1;simp at b0 b1;clear hx hb hst ST HF;rcases k with _|k
  ·have HFv:Hid (F=(ws,⟨l1,bad⟩)):=zac (by rw[←hF];rfl)
   clear hF;rcases ybY bad with rfl|rfl
   ·
    have hDv:Hid (D=none):=zac (by rw[HD.out,HFv.out];simp[zi3]);have hz9:=zlw HST.out.z;go_split_ands;go_wp2;refine zgq HST.out.z rfl rfl rfl ?_;rw[hDv.out];exact⟨rfl,zdg HST.out.bl (yai _)⟩
   rcases l1 with _|⟨y,l1⟩
   ·
    have hR:=zel n1 n2 n3 n4 d1 d2 d3 d4 A c ws wr zO (zkg HST.out.own) ⟨zO,zO⟩;have ht9:=zlw HST.out.tx;go_split_ands;generalize hrt:zaf ⟨n1,n2,n3,n4,d1,d2,d3,d4,ws⟩=rt at *;have HR:=zac hR;have HRT:=zac hrt;clear hR hrt;cases rt
    all_goals
     go_wp2_with fail;go_at_call 82;refine(HR.out).mono ?_;rintro e w8 ⟨rfl,hb8⟩;have st8:=zac (HST.out.below hb8);clear hb8 HR
    ·
     have hDv:Hid (D=none):=zac (by rw[HD.out,HFv.out];simp[zi3,txOf,HRT.out]);have hz9:=zlw st8.out.z;go_split_ands;go_wp2;refine zgq st8.out.z rfl rfl rfl ?_;rw[hDv.out];exact⟨rfl,zdg st8.out.bl (yai _)⟩
    ·
     have hDv:Hid (D=some ⟨n1,n2,n3,n4,d1,d2,d3,d4,ws⟩):=zac (by rw[HD.out,HFv.out];simp[zi3,txOf,HRT.out]);have hz9:=zlw st8.out.z;have ht9:=zlw st8.out.tx;go_split_ands;go_wp2;refine zgq st8.out.z rfl rfl rfl ?_;rw[hDv.out];refine⟨A,c,rfl,zdg st8.out.bl (yai _),?_⟩;have hlg:=st8.out.lg;have hlt:=st8.out.lt;exact put9_own (zeK st8.out.own zO) (fun e=>by have:=(zao st8.out.own e).1;omega)
   ·
    have hDv:Hid (D=none):=zac (by rw[HD.out,HFv.out];simp[zi3]);have hz9:=zlw HST.out.z;go_split_ands;go_wp2;refine zgq HST.out.z rfl rfl rfl ?_;rw[hDv.out];exact⟨rfl,zdg HST.out.bl (yai _)⟩
  ·rcases ybY bad with rfl|rfl
   ·have HFv:Hid (F=(ws,⟨l1,true⟩)):=zac (by rw[←hF];rfl)
    clear hF;have hDv:Hid (D=none):=zac (by rw[HD.out,HFv.out];simp[zi3]);have hz9:=zlw HST.out.z;go_split_ands;go_wp2;refine zgq HST.out.z rfl rfl rfl ?_;rw[hDv.out];exact⟨rfl,zdg HST.out.bl (yai _)⟩
   ·
    have hw5:ws.length≤5:=h5 rfl;obtain⟨a1,ra,ka⟩:∃ a1 ra,zbf ⟨l1,false⟩=(a1,ra):=⟨_,_,rfl⟩;obtain⟨a2,rb,kb⟩:∃ a2 rb,zbf ra=(a2,rb):=⟨_,_,rfl⟩;obtain⟨a3,rc,kc⟩:∃ a3 rc,zea rb=(a3,rc):=⟨_,_,rfl⟩;have hlena:=zcA ka hlen;have hlenb:=zcA kb hlena;have hlenc:=zjn kc hlenb;have hsa:=zcd kb;have hF':Hid (wrsR k (ws++[⟨a1,a3,decide (a2=1)⟩]) ⟨rc.l,rc.bad||decide (1<a2)||decide (5≤ws.length)⟩=F):=zac (by
     rw[←hF];simp only[wrsR,wrR,ka,kb,kc,Bool.false_eq_true,ybf])
    clear hF;have N1:=zac fun W h=>zgg ka (w.heap.size+1) W h hlen
    have N2:=zac fun W h=>zgg kb (w.heap.size+1) W h hlena
    have N3:=zac fun W h=>text_to kc (w.heap.size+1) W h hlenb
    clear ka kb kc hlen hlena hlenb;go_wp2_with fail;go_at_call 186;refine(N1.out _ HST.out.rd).mono ?_;rintro e v1 ⟨rfl,hr1,hg1⟩;have s1:=HST.out.call hr1 hg1;have s1':=zac (s1.round (k:=a1) (dt:=⟨#[]⟩) (gn:=false) rfl);clear hr1 hg1 s1 HST N1 b0 b1;generalize hp:v1.heap.size=p at *;go_wp2_with fail;go_at_call 186;refine(N2.out _ s1'.out.st.rd).mono ?_;rintro e v2 ⟨rfl,hr2,hg2⟩;have s2:=zac (s1'.out.call hr2 hg2);clear hr2 hg2 s1' N2 hp;go_wp2_with fail;go_at_call 188;refine(N3.out _ s2.out.st.rd).mono ?_;rintro e v3 ⟨rfl,hr3,hg3⟩;have s3:=zac (s2.out.call hr3 hg3);clear hr3 hg3 s2 N3;obtain⟨lc,badc⟩:=rc;obtain⟨q,hbq,Aq,cq,rfl,hcq,hcmq,hxq⟩:=s3.out.st.rd;have g0:=zaa hbq 0;have g1:=zaa hbq 1;have gf:=zab hbq 1;have q0:=zaa s3.out.t7 0;have q1:=zaa s3.out.t7 1;have q2:=zaa s3.out.t7 2;have qf1:=zab s3.out.t7 1;have qf2:=zab s3.out.t7 2;have x8:=zaa s3.out.st.tx 8;have xf:=zab s3.out.st.tx 8;simp at g0 g1 q0 q1 q2 x8;have hp1:=s3.out.hp;have hp2:=s3.out.st.lt;have hp3:=zae s3.out.t7;clear hbq hxq;simp only at *;rcases ybY badc with rfl|rfl
    ·
     have e2:decide (a2=1)=((a2:Int)==1):=by rw[ybq];simp;omega
     have HF2:Hid (wrsR k (ws++[⟨a1,a3,((a2:Int)==1)⟩]) ⟨lc,true⟩=F):=zac (by rw[←hF'.out,e2];simp);have HLB:Hid (true=false→ws.length+1≤5):=zac (by simp;try omega);clear e2;have s4:=zac (((s3.out.set (i:=2) (u:=.bool ((a2:Int)==1)) rfl).set (i:=1) (u:=.string a3) rfl).setBad true);go_wp2_with (at_builtin;go_must (refine wpList_append_lies _ rfl _ _ 42 rfl (tb+1) 83 i0 (.agg #[ii 0,.string ⟨#[]⟩,.bool false]) 3 32 underlying42 hi hz0 hz1 hz2 rfl zI (.slice A ws.length c) ws.length (za3 ws) rfl ?c0 ⟨v3,0,none⟩ 1 1 [ii a1,.string a3,.bool ((a2:Int)==1)] rfl rfl (zfg (by simp[World.setCell])) ?c1 zI ?c2 ?c3 ?c4 _ rfl ?_))
     case c0=>exact s4.out.st.own.alloc _
     case c1=>exact⟨rfl,rfl,rfl⟩
     case c2=>simp only[maxLen];omega
     case c3=>omega
     case c4=>first|omega|(simp;omega)
     intro gq cap w9 hown hgrow hgl hlt9;have happ:=s4.out.app hown hgrow;obtain⟨y8,yf,hst9⟩:=happ;have s9:=zac hst9;clear hst9 hown hgrow hgl s4 s3;go_wp2;go_roundw
     case rel=>
      refine⟨k,some ⟨gq,0,none⟩,cap,ws++[⟨a1,a3,((a2:Int)==1)⟩],⟨lc,true⟩,yaS (Value.int IntKind.i64) zO,zO,HF2.out,hlenc,by simp;omega,fun h=>by have:=HLB.out h;simpa using this,?_⟩;have:=s9.out;simpa using this
     case measure=>simp only[Go.RowKit.intOf];omega
    ·by_cases h2:1<a2
     ·
      have e2:decide (a2=1)=((a2:Int)==1):=by rw[ybq];simp;omega
      have HF2:Hid (wrsR k (ws++[⟨a1,a3,((a2:Int)==1)⟩]) ⟨lc,true⟩=F):=zac (by rw[←hF'.out,e2];simp[h2]);have HLB:Hid (true=false→ws.length+1≤5):=zac (by simp;try omega);clear e2;have s4:=zac (((s3.out.set (i:=2) (u:=.bool ((a2:Int)==1)) rfl).set (i:=1) (u:=.string a3) rfl).setBad true);go_wp2_with (at_builtin;go_must (refine wpList_append_lies _ rfl _ _ 42 rfl (tb+1) 83 i0 (.agg #[ii 0,.string ⟨#[]⟩,.bool false]) 3 32 underlying42 hi hz0 hz1 hz2 rfl zI (.slice A ws.length c) ws.length (za3 ws) rfl ?c0 ⟨v3,0,none⟩ 1 1 [ii a1,.string a3,.bool ((a2:Int)==1)] rfl rfl (zfg (by simp[World.setCell])) ?c1 zI ?c2 ?c3 ?c4 _ rfl ?_))
      case c0=>exact s4.out.st.own.alloc _
      case c1=>exact⟨rfl,rfl,rfl⟩
      case c2=>simp only[maxLen];omega
      case c3=>omega
      case c4=>first|omega|(simp;omega)
      intro gq cap w9 hown hgrow hgl hlt9;have happ:=s4.out.app hown hgrow;obtain⟨y8,yf,hst9⟩:=happ;have s9:=zac hst9;clear hst9 hown hgrow hgl s4 s3;go_wp2;go_roundw
      case rel=>
       refine⟨k,some ⟨gq,0,none⟩,cap,ws++[⟨a1,a3,((a2:Int)==1)⟩],⟨lc,true⟩,yaS (Value.int IntKind.i64) zO,zO,HF2.out,hlenc,by simp;omega,fun h=>by have:=HLB.out h;simpa using this,?_⟩;have:=s9.out;simpa using this
      case measure=>simp only[Go.RowKit.intOf];omega
     ·
      have e2:decide (a2=1)=((a2:Int)==1):=by rw[ybq];simp;omega
      have HF2:Hid (wrsR k (ws++[⟨a1,a3,((a2:Int)==1)⟩]) ⟨lc,(decide ((1:Int)<(a2:Int))||decide ((5:Int)≤(ws.length:Int)))⟩=F):=zac (by rw[←hF'.out,e2];rw[show(false||decide (1<a2)||decide (5≤ws.length))=(decide ((1:Int)<(a2:Int))||decide ((5:Int)≤(ws.length:Int)))from by rw[ybq];simp;omega]);have HLB:Hid ((decide ((1:Int)<(a2:Int))||decide ((5:Int)≤(ws.length:Int)))=false→ws.length+1≤5):=zac (by simp;try omega);clear e2;have s4:=zac (((s3.out.set (i:=2) (u:=.bool ((a2:Int)==1)) rfl).set (i:=1) (u:=.string a3) rfl).setBad (decide ((1:Int)<(a2:Int))||decide ((5:Int)≤(ws.length:Int))));go_wp2_with (at_builtin;go_must (refine wpList_append_lies _ rfl _ _ 42 rfl (tb+1) 83 i0 (.agg #[ii 0,.string ⟨#[]⟩,.bool false]) 3 32 underlying42 hi hz0 hz1 hz2 rfl zI (.slice A ws.length c) ws.length (za3 ws) rfl ?c0 ⟨v3,0,none⟩ 1 1 [ii a1,.string a3,.bool ((a2:Int)==1)] rfl rfl (zfg (by simp[World.setCell])) ?c1 zI ?c2 ?c3 ?c4 _ rfl ?_))
      case c0=>exact s4.out.st.own.alloc _
      case c1=>exact⟨rfl,rfl,rfl⟩
      case c2=>simp only[maxLen];omega
      case c3=>omega
      case c4=>first|omega|(simp;omega)
      intro gq cap w9 hown hgrow hgl hlt9;have happ:=s4.out.app hown hgrow;obtain⟨y8,yf,hst9⟩:=happ;have s9:=zac hst9;clear hst9 hown hgrow hgl s4 s3;go_wp2;go_roundw
      case rel=>
       refine⟨k,some ⟨gq,0,none⟩,cap,ws++[⟨a1,a3,((a2:Int)==1)⟩],⟨lc,(decide ((1:Int)<(a2:Int))||decide ((5:Int)≤(ws.length:Int)))⟩,yaS (Value.int IntKind.i64) zO,zO,HF2.out,hlenc,by simp;omega,fun h=>by have:=HLB.out h;simpa using this,?_⟩;have:=s9.out;simpa using this
      case measure=>simp only[Go.RowKit.intOf];omega
def zbi (B e z:Nat) (v:Value) (n:Nat) (xs:List Value):Ob:=⟨fun w=>w.ownsRow B e z v n xs,fun b=>v.ownBlock=some b,fun _=>False⟩
theorem zfI {w w':World}{B e z n:Nat}{v:Value}{xs:List Value}(h:w.ownsRow B e z v n xs) (hb:∀ b,v.ownBlock=some b→w'.heap[b]?=w.heap[b]?):w'.ownsRow B e z v n xs:=by
 obtain⟨hl,hn|⟨g,cap,cur,hv,hB,hg,rest⟩⟩:=h
 ·exact⟨hl,.inl hn⟩
 ·exact⟨hl,.inr ⟨g,cap,cur,hv,hB,by rw[hb g (by rw[hv];rfl)];exact hg,rest⟩⟩
theorem zbK (B e z:Nat) (v:Value) (n:Nat) (xs:List Value):(zbi B e z v n xs).Ok B:=
 ⟨fun w w' h hs hb=>zfI h fun b e=>hb b (.inl e),fun w b h e=>zao h e,fun w b h e=>e.elim⟩
def obNil:Ob:=⟨fun _=>True,fun _=>False,fun _=>False⟩
theorem obNil_ok (B:Nat):obNil.Ok B:=⟨fun _ _ _ _ _=>trivial,fun w b h e=>e.elim,fun w b h e=>e.elim⟩
structure MGm where
 tgt:Nat
 A:Option Addr
 c:Nat
 l:List UInt8
def MGm.cells (m:MGm):List Value:=[ii (m.tgt:Int),.slice m.A m.l.length m.c]
def zdR (B:Nat) (v:Value) (gs:List MGm):Ob:=
 ⟨fun w=>w.ownsRow B 243 2 v gs.length (gs.flatMap MGm.cells)∧∀ m∈gs,zbp w w.heap.size (.slice m.A m.l.length m.c) m.l∧∀ b o,m.A=some ⟨b,o,none⟩→b<w.heap.size∧v.ownBlock≠some b,
  fun b=>v.ownBlock=some b,fun b=>∃ m∈gs,∃ o,m.A=some ⟨b,o,none⟩⟩
theorem zbp.same {w w':World}{A:Option Addr}{c:Nat}{l:List UInt8}(h:zbp w w.heap.size (.slice A l.length c) l) (hs:w.heap.size≤w'.heap.size) (hb:∀ b o,A=some ⟨b,o,none⟩→w'.heap[b]?=w.heap[b]?):zbp w' w'.heap.size (.slice A l.length c) l:=by
 obtain⟨A',c',e,h1,h2,h3⟩:=h;simp only[yaP,true_and]at e;obtain⟨rfl,rfl⟩:=e;refine⟨A,c,rfl,h1,h2,fun i b hi=>?_⟩;obtain⟨B,o,hA,hlt,hc⟩:=h3 i b hi;exact⟨B,o,hA,yab hlt hs,(yam (a:=⟨B,o+i,none⟩) (hb B o hA)).trans hc⟩
theorem zhW (B:Nat) (v:Value) (gs:List MGm):(zdR B v gs).Ok B:=
 ⟨fun w w' h hs hb=>⟨zfI h.1 fun b e=>hb b (.inl e),fun m hm=>⟨(h.2 m hm).1.same hs fun b o e=>hb b (.inr ⟨m,hm,o,e⟩),fun b o e=>⟨yab ((h.2 m hm).2 b o e).1 hs,((h.2 m hm).2 b o e).2⟩⟩⟩,
  fun w b h e=>zao h.1 e,fun w b h ⟨m,hm,o,e⟩=>((h.2 m hm).2 b o e).1⟩
def gmB (g:GmP):List UInt8:=if 0<g.tx.seq then txB g.tx else zfR (g.frm:Int) g.h0 g.h1 g.h2 g.h3
def zih (S:Nat) (g:GmP):Prop:=g.tgt<S∧(0<g.tx.seq→zaf g.tx=true)∧(¬0<g.tx.seq→g.frm<S∧zeL (g.frm:Int) g.h0 g.h1 g.h2 g.h3=true)
def zhu (l:List GmP) (gs:List MGm):Prop:=gs.map (fun m=>(m.tgt,m.l))=l.map fun g=>(g.tgt,gmB g)
theorem zhu.len {l:List GmP}{gs:List MGm}(h:zhu l gs):gs.length=l.length:=by
 have:=yaS List.length h;simpa using this
structure WV where
 vS:Value
 vW:Value
 vC:Value
 vP:Value
 vG:Value
 xs:List Nat
 us:List Nat
 gs:List MGm
def zfA (l:List Nat):List Value:=l.map fun x=>.pointer (some ⟨x,0,none⟩)
def zb2 (n:Nat) (f:Nat→Int):List Value:=(List.range n).map fun k=>ii (f k)
structure AOk (A:AWd):Prop where
 S:1≤A.S∧A.S≤4
 C:A.C≤6
 pl:∀ k,A.pl k<A.S
 wl:∀ k,0≤A.wl k∧A.wl k≤1099511627776
 id:∀ k,(A.si k).id=(k:Int)
 len:A.way.length≤300
 way:∀ m∈A.way,zih A.S m
structure PWx (B:Nat) (O:Nat→Ob) (p g:Nat) (A:AWd) (v:WV):Prop where
 ok:AOk A
 xl:v.xs.length=A.S
 ul:v.us.length=A.C
 wr:zhu A.way v.gs
 b0:O (p+0)=obB g (.cells #[v.vS,v.vW,v.vC,v.vP,v.vG,ii (wrap64 (A.lost:Int))] 191) B
 b1:O (p+1)=zbi B 23 1 v.vS A.S (zfA v.xs)
 b2:O (p+2)=zbi B 3 1 v.vW A.S (zb2 A.S A.wl)
 b3:O (p+3)=zbi B 75 1 v.vC A.C (zfA v.us)
 b4:O (p+4)=zbi B 3 1 v.vP A.C (zb2 A.C fun k=>(A.pl k:Int))
 b5:O (p+5)=zdR B v.vG v.gs
 si:∀ k x,v.xs[k]?=some x→zdq B x (A.si k) (O (p+(6+k)))
 cl:∀ k u,v.us[k]?=some u→zdX B u (A.cl k) (O (p+(10+k)))
section
variable {B:Nat}{O O':Nat→Ob}{p g:Nat}{A:AWd}{v:WV}
theorem PWx.xk (h:PWx B O p g A v){k:Nat}(hk:k<A.S):∃ x,v.xs[k]?=some x:=⟨v.xs[k]'(by rw[h.xl];exact hk),yaa _⟩
theorem PWx.uk (h:PWx B O p g A v){k:Nat}(hk:k<A.C):∃ u,v.us[k]?=some u:=⟨v.us[k]'(by rw[h.ul];exact hk),yaa _⟩
theorem zaI {α:Type}{l:List α}{k:Nat}{x:α}(h:l[k]?=some x):k<l.length:=(yao.1 h).1
theorem PWx.keep (h:PWx B O p g A v) (he:∀ j,j<16→O' (p+j)=O (p+j)):PWx B O' p g A v:=
 ⟨h.ok,h.xl,h.ul,h.wr,(he 0 zO).trans h.b0,(he 1 zO).trans h.b1,(he 2 zO).trans h.b2,(he 3 zO).trans h.b3,(he 4 zO).trans h.b4,(he 5 zO).trans h.b5,
  fun k x hx=>by have:=zaI hx;have:=h.xl;have:=h.ok.S;rw[he _ zO];exact h.si k x hx,
  fun k x hx=>by have:=zaI hx;have:=h.ul;have:=h.ok.C;rw[he _ zO];exact h.cl k x hx⟩
theorem PWx.setCl (h:PWx B O p g A v){k u:Nat}(hu:v.us[k]?=some u){d:SdP}(hd:zdX B u d (O' (p+(10+k)))) (he:∀ j,j<16→j≠10+k→O' (p+j)=O (p+j)):
  PWx B O' p g { A with cl:=zb5 A.cl k d } v:=by
 have hk:=zaI hu;have:=h.ul;have:=h.ok.C;have:=h.xl;have:=h.ok.S;refine⟨⟨h.ok.S,h.ok.C,h.ok.pl,h.ok.wl,h.ok.id,h.ok.len,h.ok.way⟩,h.xl,h.ul,h.wr,(he 0 zO zO).trans h.b0,(he 1 zO zO).trans h.b1,(he 2 zO zO).trans h.b2,(he 3 zO zO).trans h.b3,(he 4 zO zO).trans h.b4,(he 5 zO zO).trans h.b5,
  fun i x hx=>by have:=zaI hx;rw[he _ zO zO];exact h.si i x hx,fun i x hx=>?_⟩
 have hi:=zaI hx;by_cases e:i=k
 ·subst e
  rw[hu]at hx;cases hx;show zdX B u (zb5 A.cl i d i) _;rw[zbm];exact hd
 ·show zdX B x (zb5 A.cl k d i) _
  rw[zbk _ e,he _ zO zO];exact h.cl i x hx
theorem PWx.setSi (h:PWx B O p g A v){k x:Nat}(hx0:v.xs[k]?=some x){a:RSi}(hid:a.id=(k:Int)) (hd:zdq B x a (O' (p+(6+k)))) (he:∀ j,j<16→j≠6+k→O' (p+j)=O (p+j)):
  PWx B O' p g { A with si:=zb5 A.si k a } v:=by
 have hk:=zaI hx0;have:=h.ul;have:=h.ok.C;have:=h.xl;have:=h.ok.S;refine⟨⟨h.ok.S,h.ok.C,h.ok.pl,h.ok.wl,fun i=>?_,h.ok.len,h.ok.way⟩,h.xl,h.ul,h.wr,(he 0 zO zO).trans h.b0,(he 1 zO zO).trans h.b1,(he 2 zO zO).trans h.b2,(he 3 zO zO).trans h.b3,(he 4 zO zO).trans h.b4,(he 5 zO zO).trans h.b5,
  fun i y hx=>?_,fun i x hx=>by have:=zaI hx;rw[he _ zO zO];exact h.cl i x hx⟩
 ·by_cases e:i=k
  ·subst e
   show(zb5 A.si i a i).id=_;rw[zbm];exact hid
  ·show(zb5 A.si k a i).id=_
   rw[zbk _ e];exact h.ok.id i
 have hi:=zaI hx;by_cases e:i=k
 ·subst e
  rw[hx0]at hx;cases hx;show zdq B x (zb5 A.si i a i) _;rw[zbm];exact hd
 ·show zdq B y (zb5 A.si k a i) _
  rw[zbk _ e,he _ zO zO];exact h.si i y hx
theorem zbQ {n:Nat}{f:Nat→Int}{k:Nat}(hk:k<n):(zb2 n f)[k]?=some (ii (f k)):=by simp[zb2,hk]
theorem zbt {l:List Nat}{k x:Nat}(h:l[k]?=some x):(zfA l)[k]?=some (.pointer (some ⟨x,0,none⟩)):=by simp[zfA,h]
theorem zmW (n:Nat) (f:Nat→Int) (k:Nat) (z:Int):(zb2 n f).set k (ii z)=zb2 n (zb5 f k z):=by
 apply List.ext_getElem?;intro i;unfold zb2;rw[List.getElem?_set];by_cases hi:i<n
 ·by_cases e:k=i
  ·subst e;simp[hi,zbm]
  ·rw[yad e];simp[hi,zbk z (fun h=>e h.symm)]
 ·by_cases e:k=i
  ·subst e;simp[hi]
  ·rw[yad e];simp[hi]
theorem zeM {w0 w:World}{n i:Nat}{O:Nat→Ob}(h:Mem w0 w n O) (hi:i<n){e g c m:Nat}{f:Nat→Int}(ho:O i=zbi w0.heap.size e 1 (.slice (some ⟨g,0,none⟩) m c) m (zb2 m f)) (k:Nat) (z:Int):
  ∃ O',Mem w0 (w.setCell ⟨g,k,none⟩ (ii z)) n O'∧O' i=zbi w0.heap.size e 1 (.slice (some ⟨g,0,none⟩) m c) m (zb2 m (zb5 f k z))∧∀ j,j≠i→O' j=O j:=by
 have hat:=h.at_ i hi;rw[ho]at hat
 have hw:w.ownsRow w0.heap.size e 1 (.slice (some ⟨g,0,none⟩) m c) m (zb2 m f):=hat
 have h2:=hw.stored k (ii z);rw[zmW]at h2;have hg:=zan w g k (ii z);refine h.step1 hi (zbK ..) h2.1 ⟨hg.os,hg.tape,hg.output,hg.size,fun b hb hn=>hg.block b hb (fun e2=>hn ?_),fun b hb=>.inl ?_⟩ (fun b e=>e.elim)
 ·rw[ho];exact e2.symm
 ·rw[ho];exact hb
theorem PWx.setWl (h:PWx B O p g A v){k:Nat}{z:Int}(hz:0≤z∧z≤1099511627776) (hd:O' (p+2)=zbi B 3 1 v.vW A.S (zb2 A.S (zb5 A.wl k z))) (he:∀ j,j<16→j≠2→O' (p+j)=O (p+j)):
  PWx B O' p g { A with wl:=zb5 A.wl k z } v:=by
 have:=h.ul;have:=h.ok.C;have:=h.xl;have:=h.ok.S;refine⟨⟨h.ok.S,h.ok.C,h.ok.pl,fun i=>?_,h.ok.id,h.ok.len,h.ok.way⟩,h.xl,h.ul,h.wr,(he 0 zO zO).trans h.b0,(he 1 zO zO).trans h.b1,hd,(he 3 zO zO).trans h.b3,(he 4 zO zO).trans h.b4,(he 5 zO zO).trans h.b5,
  fun i x hx=>by have:=zaI hx;rw[he _ zO zO];exact h.si i x hx,fun i x hx=>by have:=zaI hx;rw[he _ zO zO];exact h.cl i x hx⟩
 show 0≤zb5 A.wl k z i∧zb5 A.wl k z i≤_;by_cases e:i=k
 ·subst e;rw[zbm];exact hz
 ·rw[zbk _ e];exact h.ok.wl i
theorem PWx.setPl (h:PWx B O p g A v){k z:Nat}(hz:z<A.S) (hd:O' (p+4)=zbi B 3 1 v.vP A.C (zb2 A.C fun i=>((zb5 A.pl k z i:Nat):Int))) (he:∀ j,j<16→j≠4→O' (p+j)=O (p+j)):
  PWx B O' p g { A with pl:=zb5 A.pl k z } v:=by
 have:=h.ul;have:=h.ok.C;have:=h.xl;have:=h.ok.S;refine⟨⟨h.ok.S,h.ok.C,fun i=>?_,h.ok.wl,h.ok.id,h.ok.len,h.ok.way⟩,h.xl,h.ul,h.wr,(he 0 zO zO).trans h.b0,(he 1 zO zO).trans h.b1,(he 2 zO zO).trans h.b2,(he 3 zO zO).trans h.b3,hd,(he 5 zO zO).trans h.b5,
  fun i x hx=>by have:=zaI hx;rw[he _ zO zO];exact h.si i x hx,fun i x hx=>by have:=zaI hx;rw[he _ zO zO];exact h.cl i x hx⟩
 show zb5 A.pl k z i<A.S;by_cases e:i=k
 ·subst e;rw[zbm];exact hz
 ·rw[zbk _ e];exact h.ok.pl i
theorem PWx.setWay (h:PWx B O p g A v){way:List GmP}{lost:Nat}{vG:Value}{gs:List MGm}(hl:way.length≤300) (ho:∀ m∈way,zih A.S m) (hr:zhu way gs)
  (h0:O' (p+0)=obB g (.cells #[v.vS,v.vW,v.vC,v.vP,vG,ii (wrap64 (lost:Int))] 191) B) (h5:O' (p+5)=zdR B vG gs) (he:∀ j,j<16→j≠0→j≠5→O' (p+j)=O (p+j)):
  PWx B O' p g { A with way:=way,lost:=lost } { v with vG:=vG,gs:=gs }:=by
 have:=h.ul;have:=h.ok.C;have:=h.xl;have:=h.ok.S;exact⟨⟨h.ok.S,h.ok.C,h.ok.pl,h.ok.wl,h.ok.id,hl,ho⟩,h.xl,h.ul,hr,h0,(he 1 zO zO zO).trans h.b1,(he 2 zO zO zO).trans h.b2,(he 3 zO zO zO).trans h.b3,(he 4 zO zO zO).trans h.b4,h5,
  fun i x hx=>by have:i<v.xs.length:=zaI hx;rw[he _ zO zO zO];exact h.si i x hx,fun i x hx=>by have:i<v.us.length:=zaI hx;rw[he _ zO zO zO];exact h.cl i x hx⟩
end
def PWa (B:Nat) (O:Nat→Ob) (p g:Nat) (xs us:List Nat) (A:AWd):Prop:=∃ v,PWx B O p g A v∧v.xs=xs∧v.us=us
theorem PWx.a {B:Nat}{O:Nat→Ob}{p g:Nat}{A:AWd}{v:WV}(h:PWx B O p g A v):PWa B O p g v.xs v.us A:=⟨v,h,rfl,rfl⟩
def zbF (w0 w':World) (n:Nat) (O:Nat→Ob) (p g:Nat) (xs us:List Nat) (A:AWd):Prop:=∃ O',Mem w0 w' n O'∧PWa w0.heap.size O' p g xs us A∧∀ k,k<n→(k<p∨p+16≤k)→O' k=O k
section
variable {w0 w w' w1 w2:World}{n m:Nat}{O Ox:Nat→Ob}{p g:Nat}{xs us:List Nat}{A A1 A2:AWd}{v:WV}
theorem zbF.below (h:Mem w0 w n O) (hp:PWx w0.heap.size O p g A v) (hb:Below w w w'):zbF w0 w' n O p g v.xs v.us A:=
 ⟨O,h.below hb,hp.a,fun _ _ _=>rfl⟩
theorem zbF.then (h:zbF w0 w1 n O p g xs us A1) (hb:Below w1 w1 w2):zbF w0 w2 n O p g xs us A1:=by
 obtain⟨O1,h1,h3,h4⟩:=h;exact⟨O1,h1.below hb,h3,h4⟩
theorem zbF.less (h:zbF w0 w1 m Ox p g xs us A) (hm:n≤m) (he:∀ k,k<n→(k<p∨p+16≤k)→Ox k=O k):zbF w0 w1 n O p g xs us A:=by
 obtain⟨O1,h1,h3,h4⟩:=h;exact⟨O1,h1.less hm,h3,fun k hn hk=>(h4 k zO hk).trans (he k hn hk)⟩
theorem zbF.cl (h:Mem w0 w n O) (hn:p+16≤n) (hp:PWx w0.heap.size O p g A v){k u:Nat}(hu:v.us[k]?=some u){d:SdP}(hx:Upd w w' (O (p+(10+k))) (zdX w0.heap.size u d)):
  zbF w0 w' n O p g v.xs v.us { A with cl:=zb5 A.cl k d }:=by
 have:=zaI hu;have:=hp.ul;have:=hp.ok.C;obtain⟨O',h1,h2,h3⟩:=h.upd (i:=p+(10+k)) zO hx (fun o' h=>h.ok);exact⟨O',h1,(hp.setCl hu h2 (fun j hj hne=>h3 _ zO)).a,fun i _ hi=>h3 _ zO⟩
theorem zbF.si (h:Mem w0 w n O) (hn:p+16≤n) (hp:PWx w0.heap.size O p g A v){k x:Nat}(hu:v.xs[k]?=some x){a:RSi}(hid:a.id=(k:Int)) (hx:Upd w w' (O (p+(6+k))) (zdq w0.heap.size x a)):
  zbF w0 w' n O p g v.xs v.us { A with si:=zb5 A.si k a }:=by
 have:=zaI hu;have:=hp.xl;have:=hp.ok.S;obtain⟨O',h1,h2,h3⟩:=h.upd (i:=p+(6+k)) zO hx (fun o' h=>h.ok);exact⟨O',h1,(hp.setSi hu hid h2 (fun j hj hne=>h3 _ zO)).a,fun i _ hi=>h3 _ zO⟩
end
section
variable {w0 w:World}{n:Nat}{O:Nat→Ob}{p g:Nat}{A:AWd}{v:WV}
theorem PWx.blk (hp:PWx w0.heap.size O p g A v) (h:Mem w0 w n O) (hn:p+16≤n):w.heap[g]?=some (.cells #[v.vS,v.vW,v.vC,v.vP,v.vG,ii (wrap64 (A.lost:Int))] 191):=h.box (i:=p+0) zO hp.b0
theorem zbl {i e m:Nat}{vv:Value}{xs:List Value}(h:Mem w0 w n O) (hi:i<n) (ho:O i=zbi w0.heap.size e 1 vv m xs) (hm:0<m):
  ∃ b c,vv=.slice (some ⟨b,0,none⟩) m c∧w0.heap.size≤b∧b<w.heap.size∧(∀ k x,k<m→xs[k]?=some x→w.cell? ⟨b,k,none⟩=some x)∧∀ k,w.frozen? ⟨b,k,none⟩=false:=by
 have hat:=h.at_ i hi;rw[ho]at hat
 have hw:w.ownsRow w0.heap.size e 1 vv m xs:=hat
 obtain⟨b,c,rfl,k1,k2⟩:=World.ownsRow.form hw hm;exact⟨b,c,rfl,k1,k2,fun k x hk hx=>by rw[hw.cellAt k zO];exact hx,fun k=>hw.frozenAt k⟩
theorem zbq {i e m:Nat}{vv:Value}{xs:List Value}(h:Mem w0 w n O) (hi:i<n) (ho:O i=zbi w0.heap.size e 1 vv m xs):∃ a c,vv=.slice a m c:=by
 have hat:=h.at_ i hi;rw[ho]at hat
 have hw:w.ownsRow w0.heap.size e 1 vv m xs:=hat
 obtain⟨a,c,rfl⟩:=zaP hw;exact⟨a,c,rfl⟩
theorem zd0 {i:Nat}{vv:Value}{gs:List MGm}(h:Mem w0 w n O) (hi:i<n) (ho:O i=zdR w0.heap.size vv gs):∃ a c,vv=.slice a gs.length c:=by
 have hat:=h.at_ i hi;rw[ho]at hat
 obtain⟨a,c,rfl⟩:=zaP hat.1;exact⟨a,c,rfl⟩
end
end Go.Proofs.YtbopfhbeegkkaabGreatDoor
