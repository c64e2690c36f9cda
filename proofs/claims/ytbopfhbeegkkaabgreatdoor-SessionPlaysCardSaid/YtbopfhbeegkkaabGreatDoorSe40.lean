/- Part 40 of a proof: lemmas and contracts that other parts use. -/
import Derived.Test.YtbopfhbeegkkaabGreatDoorSe39
import Derived.Test.YtbopfhbeegkkaabGreatDoorSe31
import Derived.Below
import Derived.ChangeSame
import Derived.OpenVars
import Derived.ProofKit
import Derived.OpenShut
import Derived.JoinedCond
import Derived.RowKitTokens
set_option linter.unusedVariables false
set_option linter.unusedSimpArgs false
set_option linter.constructorNameAsVariable false
namespace Go.Proofs.YtbopfhbeegkkaabGreatDoor
open Go.RowKit
def aNew (k:Nat):RSi:=⟨(k:Nat),0,0,0,0,0,0,[],[],[],fun _=>0⟩
def dNew:SdP:=⟨0,0,0,0,0,0,0,0,false,[]⟩
def z26 (k:Nat):Obj:=.cells #[.int .i64 (k:Nat),.int .i64 0,.int .i64 0,.int .i64 0,.int .i64 0,.int .i64 0,.int .i64 0,.slice none 0 0,.slice none 0 0,.slice none 0 0,.int .i64 0,.int .i64 0,.int .i64 0,.int .i64 0,.int .i64 0,.int .i64 0,.int .i64 0,.int .i64 0,.int .i64 0,.int .i64 0,.int .i64 0,.int .i64 0,.int .i64 0,.int .i64 0,.int .i64 0,.int .i64 0] 41
def z79:Obj:=.cells #[.int .i64 0,.int .i64 0,.int .i64 0,.int .i64 0,.int .i64 0,.int .i64 0,.int .i64 0,.int .i64 0,.bool false,.slice none 0 0] 79
structure LIn (w0 w:World) (u v p q:Nat) (x y:Nat→Nat) (j:Nat) (O:Nat→Ob):Prop where
 mem:Mem w0 w (4+2*j) O
 sn:SneA w0.heap.size u dNew (O 0)
 sd:SdeA w0.heap.size v dNew (O 1)
 bp:O 2=obB p (.cells #[if 0<j then pp (x 0) else .pointer none,if 1<j then pp (x 1) else .pointer none] 80) w0.heap.size
 bq:O 3=obB q (.cells #[if 0<j then pp (y 0) else .pointer none,if 1<j then pp (y 1) else .pointer none] 81) w0.heap.size
 s:∀ k,k<j→SteA w0.heap.size (x k) (aNew k) (O (4+2*k))
 r:∀ k,k<j→RteA w0.heap.size (y k) (aNew k) (O (5+2*k))
theorem Mem.nil (w:World) (O:Nat→Ob):Mem w w 0 O:=⟨Below.refl _ _,fun i h=>(by omega),fun i h=>(by omega),fun i j h=>(by omega)⟩
section
variable {w0 w w1:World} {u v p q:Nat} {x y:Nat→Nat} {j:Nat} {O:Nat→Ob}
theorem SiAt.low {B B' x mb:Nat} {id:Int} (h:SiAt w B x (siNew id) mb (.slice none 0 0) (fun _=>.slice none 0 0)) (hB:B'≤B):SiAt w B' x (siNew id) mb (.slice none 0 0) (fun _=>.slice none 0 0):=
 { h with sto:={ h.sto with own:=fun k _=>own_nil' w B' },row:=⟨rfl,.inl ⟨rfl,rfl⟩⟩,bx:=Nat.le_trans hB h.bx,bm:=Nat.le_trans hB h.bm }
theorem own_si0 {x mb b:Nat} (e:SiOwn x mb (.slice none 0 0) (fun _=>.slice none 0 0) b):b=x∨b=mb:=by
 rcases e with e | e | e | ⟨k,_,e⟩
 ·exact .inl e
 ·exact .inr e
 ·simp [Value.ownBlock] at e
 ·simp [Value.ownBlock] at e
theorem own_rs0 {y b:Nat} (e:RsOwn y (.slice none 0 0) (.slice none 0 0) b):b=y:=by
 rcases e with e | e | e
 ·exact e
 ·simp [Value.ownBlock] at e
 ·simp [Value.ownBlock] at e
theorem LIn.start (hs:SnAt w1 w.heap.size w.heap.size snNew none) (hb:Below w.heap.size w w1):
  ∃ O,LIn w (((w1.alloc z79).alloc (.cells #[.pointer none,.pointer none] 80)).alloc (.cells #[.pointer none,.pointer none] 81)) w.heap.size w1.heap.size (w1.heap.size+1) (w1.heap.size+1+1) (fun _=>0) (fun _=>0) 0 O:=by
 have h1:=(Mem.nil w (fun _=>obB 0 z79 0)).push (o:=obN w.heap.size w.heap.size snNew none) hb (obN_ok ..) hs (fun b e=>(SnAt.lt hs e).1) (fun b e=>e.elim)
 have hb2:Below w1.heap.size w1 (w1.alloc z79):=blw_alloc (Below.refl _ _)
 have hd:SdAt (w1.alloc z79) w.heap.size w1.heap.size dNew (.slice none 0 0):=⟨blk_new rfl _,⟨rfl,.inl ⟨rfl,rfl⟩⟩,hb.size,by simp [Value.ownBlock]⟩
 have h2:=h1.push (o:=obD w.heap.size w1.heap.size dNew (.slice none 0 0)) hb2 (obD_ok ..) hd (fun b e=>by
  rcases e with e | e
  ·omega
  ·simp [Value.ownBlock] at e) (fun b e=>e.elim)
 obtain ⟨O3,h3,e3,f3⟩:=h2.new1 (.cells #[.pointer none,.pointer none] 80)
 obtain ⟨O4,h4,e4,f4⟩:=h3.new1 (.cells #[.pointer none,.pointer none] 81)
 refine ⟨O4,h4,?_,?_,?_,?_,fun k hk=>(by omega),fun k hk=>(by omega)⟩
 ·rw [e4 0 (by omega),e3 0 (by omega)]
  exact ⟨_,_,rfl,SesA.fresh⟩
 ·rw [e4 1 (by omega),e3 1 (by omega)]
  exact ⟨_,rfl,_,SesA.fresh⟩
 ·rw [e4 2 (by omega),f3,World.size_alloc];rfl
 ·rw [f4,World.size_alloc,World.size_alloc];rfl
theorem LIn.step (h:LIn w0 w u v p q x y j O) (hj:j<2) {xn mb:Nat} (hs:SiAt w1 w.heap.size xn (siNew (j:Nat)) mb (.slice none 0 0) (fun _=>.slice none 0 0)) (hb:Below w.heap.size w w1):
  ∃ x' y' O',LIn w0 (((w1.alloc (z26 j)).setCell ⟨p,j,none⟩ (pp xn)).setCell ⟨q,j,none⟩ (pp w1.heap.size)) u v p q x' y' (j+1) O':=by
 have hsz:=h.mem.size
 have hid:(0:Int)≤(j:Nat)∧((j:Nat):Int)<4:=by omega
 have hbm:w.heap.size≤mb:=hs.bm
 have hbx:w.heap.size≤xn:=hs.bx
 have h1:=h.mem.push (o:=obS w0.heap.size xn mb (siNew (j:Nat)) (.slice none 0 0) (fun _=>.slice none 0 0)) hb (obS_ok ..) (hs.low hsz) (fun b e=>by rcases own_si0 e with e | e <;> omega) (fun b e=>by
  obtain ⟨m,o,hm,_⟩:=e
  rcases hm with hm | ⟨a,b,hm⟩ <;> simp [siNew] at hm)
 have hb2:Below w1.heap.size w1 (w1.alloc (z26 j)):=blw_alloc (Below.refl _ _)
 have h2:=h1.push (o:=obR w0.heap.size w1.heap.size (rNew (j:Nat)) (.slice none 0 0) none 0 (.slice none 0 0)) hb2 (obR_ok ..) (RsAt.fresh (id:=(j:Nat)) (blk_new rfl _) (by have:=hb.size;omega)) (fun b e=>by have:=own_rs0 e;omega) (fun b e=>by
  rcases e with ⟨o,e⟩ | ⟨m,o,hm,e⟩
  ·cases e
  ·rcases hm with hm | hm <;> simp [rNew] at hm)
 obtain ⟨O2,hO2⟩:∃ O2,oset (oset O (4+2*j) (obS w0.heap.size xn mb (siNew (j:Nat)) (.slice none 0 0) (fun _=>.slice none 0 0))) (4+2*j+1) (obR w0.heap.size w1.heap.size (rNew (j:Nat)) (.slice none 0 0) none 0 (.slice none 0 0))=O2:=⟨_,rfl⟩
 have k0:∀ k,k<4+2*j→O2 k=O k:=fun k hk=>by rw [←hO2,oset_other _ (by omega),oset_other _ (by omega)]
 have k1:O2 (4+2*j)=obS w0.heap.size xn mb (siNew (j:Nat)) (.slice none 0 0) (fun _=>.slice none 0 0):=by rw [←hO2,oset_other _ (by omega),oset_same]
 have k2:O2 (5+2*j)=obR w0.heap.size w1.heap.size (rNew (j:Nat)) (.slice none 0 0) none 0 (.slice none 0 0):=by rw [←hO2,show 5+2*j=4+2*j+1 from by omega,oset_same]
 rw [hO2] at h2
 have h3:=h2.set (i:=2) (by omega) ((k0 2 (by omega)).trans h.bp) j (pp xn)
 have h4:=h3.set (i:=3) (by omega) (by rw [oset_other _ (by omega)];exact (k0 3 (by omega)).trans h.bq) j (pp w1.heap.size)
 refine ⟨fun i=>if i=j then xn else x i,fun i=>if i=j then w1.heap.size else y i,_,⟨h4,?_,?_,?_,?_,fun k hk=>?_,fun k hk=>?_⟩⟩
 ·rw [oset_other _ (by omega),oset_other _ (by omega),k0 0 (by omega)];exact h.sn
 ·rw [oset_other _ (by omega),oset_other _ (by omega),k0 1 (by omega)];exact h.sd
 ·rw [oset_other _ (by omega),oset_same]
  have:j=0∨j=1:=by omega
  rcases this with rfl | rfl <;> simp
 ·rw [oset_same]
  have:j=0∨j=1:=by omega
  rcases this with rfl | rfl <;> simp
 ·rw [oset_other _ (by omega),oset_other _ (by omega)]
  by_cases e:k=j
  ·subst e
   rw [k1]
   simp only [if_pos]
   exact ⟨mb,_,_,_,rfl,FullA.fresh hid,by simp [aNew]⟩
  ·simp only [if_neg e]
   rw [k0 _ (by omega)];exact h.s k (by omega)
 ·rw [oset_other _ (by omega),oset_other _ (by omega)]
  by_cases e:k=j
  ·subst e
   rw [k2]
   simp only [if_pos]
   exact ⟨_,_,_,_,_,rfl,⟨_,FullA.fresh hid⟩,rfl,by simp [aNew]⟩
  ·simp only [if_neg e]
   rw [k0 _ (by omega)];exact h.r k (by omega)
theorem LIn.done (h:LIn w0 w u v p q x y 2 O):LE w0 w ⟨x,y,u,v,p,q,aNew,aNew,dNew,dNew⟩ []:=by
 have hp:=h.mem.pick (m:=8) (fun k=>if k<2 then 4+2*k else if k<4 then 2*k+1 else k-4) (fun k hk=>by split <;> (try split) <;> omega) (fun j k hj hk e=>by
  have ej:j=0∨j=1∨j=2∨j=3∨j=4∨j=5∨j=6∨j=7:=by omega
  have ek:k=0∨k=1∨k=2∨k=3∨k=4∨k=5∨k=6∨k=7:=by omega
  rcases ej with rfl | rfl | rfl | rfl | rfl | rfl | rfl | rfl <;> rcases ek with rfl | rfl | rfl | rfl | rfl | rfl | rfl | rfl <;> first | rfl | (simp at e))
 refine ⟨_,⟨hp,by simp,fun k hk=>?_,fun k hk=>?_,h.sn,h.sd,h.bp,h.bq⟩,fun i o e=>by simp at e⟩
 ·simp only [if_pos hk];exact h.s k hk
 ·have:2*(2+k)+1=5+2*k:=by omega
  simp only [if_neg (show ¬2+k<2 by omega),if_pos (show 2+k<4 by omega),this];exact h.r k hk
theorem LIn.blkp (h:LIn w0 w u v p q x y j O):w.heap[p]?=some (.cells #[if 0<j then pp (x 0) else .pointer none,if 1<j then pp (x 1) else .pointer none] 80):=h.mem.box (by omega) h.bp
theorem LIn.blkq (h:LIn w0 w u v p q x y j O):w.heap[q]?=some (.cells #[if 0<j then pp (y 0) else .pointer none,if 1<j then pp (y 1) else .pointer none] 81):=h.mem.box (by omega) h.bq
end
theorem one_of_two (a:Int):∃ k:Nat,k<2∧wrap64 ((IntKind.u64.wrap a).tmod 2)=(k:Int):=by
 have h0:0≤IntKind.u64.wrap a:=by
  unfold IntKind.wrap
  simp [IntKind.bits,IntKind.signed]
  omega
 generalize IntKind.u64.wrap a=z at h0
 rw [Int.tmod_eq_emod_of_nonneg h0]
 have h1:z % 2=0∨z % 2=1:=by omega
 rcases h1 with h | h
 ·exact ⟨0,by omega,by rw [h];simp [wrap64]⟩
 ·exact ⟨1,by omega,by rw [h];simp [wrap64]⟩
theorem dBegin_len (d:SdP) (p0 p1 p2 p3:Int):(dBegin d p0 p1 p2 p3).W.length≤d.W.length:=by
 unfold dBegin
 split
 ·simp [sdBegin]
 ·exact Nat.le_refl _
theorem dWrite_len (d:SdP) (x:WrP):(dWrite d x).W.length≤d.W.length+1:=by
 unfold dWrite
 split
 ·simp
 ·omega
theorem dAbort_len (d:SdP):(dAbort d).W.length≤d.W.length:=by
 unfold dAbort
 split
 ·simp [sdAbort]
 ·exact Nat.le_refl _
noncomputable def cT (d:SdP) (r:RSi) (now:Int):TxP:=if dCommitE d r now=0 then dCommitT d r now else txZP
noncomputable def cS (d:SdP) (r:RSi) (now:Int):RSi:=if dCommitE d r now=0 then dCommitS d r now else r
noncomputable def cD (d:SdP) (r:RSi) (now:Int):SdP:=if dCommitE d r now=0 then dCommitD d r now else d
theorem cD_len (d:SdP) (r:RSi) (now:Int):(cD d r now).W.length≤d.W.length:=by
 unfold cD
 split
 ·unfold dCommitD
  split <;> simp [sdAbort,sdAt]
 ·exact Nat.le_refl _
theorem allW_len0 (d:SdP):(dCommitL d).length≤100:=by
 unfold dCommitL
 have:=allW_len d.W 8
 omega
theorem aset_id (f:Nat→RSi) (k:Nat):aset f k (f k)=f:=by
 funext i
 unfold aset
 split
 ·rename_i e;rw [e]
 ·rfl
section
variable {w0 w w':World} {L:Lp} {E:List Ob}
theorem LE.lendz (h:LE w0 w L E):LE w0 w L (E++[obWs none []]):=by
 obtain ⟨O,hs,hE⟩:=h
 obtain ⟨O2,k1,k2,k3⟩:=obWs_none hs.mem
 have e8:8+(E++[obWs none []]).length=8+E.length+1:=by simp;omega
 rw [←e8] at k1
 exact ⟨O2,hs.keep k1 (by simp) (fun k hk=>k2 k (by omega)),LE.snoc hE (fun k hk _=>k2 k hk) k3⟩
theorem LE.sCommits (h:LE w0 w L E) {k:Nat} (hk:k<2) (now:Int):
  Calls Tryz.prog 45 #[.pointer (some ⟨L.u,0,none⟩),.pointer (some ⟨L.x k,0,none⟩),.int .i64 now] w fun e w'=>
   ∃ A' c',e=.returned (.tuple #[MTx.val ⟨cT L.d (L.a k) now,A',c'⟩,errV (dCommitE L.d (L.a k) now)])∧
     LE w0 w' { L with a:=aset L.a k (cS L.d (L.a k) now),d:=cD L.d (L.a k) now } (E++[obWs A' (cT L.d (L.a k) now).ws]):=by
 refine (h.sCommit hk now).mono ?_
 rintro e w' ⟨g1,g2⟩
 unfold cT cS cD
 by_cases hz:dCommitE L.d (L.a k) now=0
 ·obtain ⟨A',c',rfl,h1⟩:=g2 hz
  simp only [if_pos hz]
  exact ⟨A',c',by rw [hz];rfl,h1⟩
 ·obtain ⟨rfl,h1⟩:=g1 hz
  simp only [if_neg hz,aset_id]
  exact ⟨none,0,rfl,h1.lendz⟩
theorem LE.dCommits (h:LE w0 w L E) {k:Nat} (hk:k<2) (hw:L.e.W.length≤900) (now:Int):
  Calls Tryz.prog 44 #[.pointer (some ⟨L.v,0,none⟩),.pointer (some ⟨L.y k,0,none⟩),.int .i64 now] w fun e w'=>
   ∃ A' c',e=.returned (.tuple #[MTx.val ⟨cT L.e (L.b k) now,A',c'⟩,.int .i64 (dCommitE L.e (L.b k) now)])∧
     LE w0 w' { L with b:=aset L.b k (cS L.e (L.b k) now),e:=cD L.e (L.b k) now } (E++[obWs A' (cT L.e (L.b k) now).ws]):=by
 refine (h.dCommit hk hw now).mono ?_
 rintro e w' ⟨g1,g2⟩
 unfold cT cS cD
 by_cases hz:dCommitE L.e (L.b k) now=0
 ·obtain ⟨A',c',rfl,h1⟩:=g2 hz
  simp only [if_pos hz]
  exact ⟨A',c',by rw [hz],h1⟩
 ·obtain ⟨rfl,h1⟩:=g1 hz
  simp only [if_neg hz,aset_id]
  exact ⟨none,0,rfl,h1.lendz⟩
theorem LE.fill9 (h:LE w0 w L E) {i b:Nat} {z0 z1 z2 z3 z4 z5 z6 z7 z8:Value} {t:TypeId} (hi:E[i]?=some (obB b (.cells #[z0,z1,z2,z3,z4,z5,z6,z7,z8] t) w0.heap.size)) (u0 u1 u2 u3 u4 u5 u6 u7 u8:Value):
  LE w0 (put9 w b u0 u1 u2 u3 u4 u5 u6 u7 u8) L (E.set i (obB b (.cells #[u0,u1,u2,u3,u4,u5,u6,u7,u8] t) w0.heap.size)):=by
 obtain ⟨O,hs,hE⟩:=h
 have hl:i<E.length:=by
  rcases Nat.lt_or_ge i E.length with h1 | h1
  ·exact h1
  ·rw [List.getElem?_eq_none h1] at hi;cases hi
 obtain ⟨O2,k1,k2,k3⟩:=hs.mem.fill9' (i:=8+i) (by omega) (hE i _ hi) u0 u1 u2 u3 u4 u5 u6 u7 u8
 have e8:8+(E.set i (obB b (.cells #[u0,u1,u2,u3,u4,u5,u6,u7,u8] t) w0.heap.size)).length=8+E.length:=by simp
 rw [←e8] at k1
 refine ⟨O2,hs.keep k1 (by simp) (fun k hk=>k3 k (by omega)),fun j o hj=>?_⟩
 by_cases e:j=i
 ·subst e
  rw [List.getElem?_set_self hl] at hj
  cases hj
  exact k2
 ·rw [List.getElem?_set_ne (by omega)] at hj
  rw [k3 _ (by omega)]
  exact hE j o hj
end
section
variable {w0 w w':World} {L:Lp} {E F:List Ob}
theorem LE.boxm (h:LE w0 w L E) {b:Nat} {o:Obj} (hi:obB b o w0.heap.size∈E):w.heap[b]?=some o:=by
 obtain ⟨i,hi⟩:=List.mem_iff_getElem?.1 hi
 exact h.box hi
theorem LE.wsm (h:LE w0 w L E) {A:Option Addr} {ws:List WrP} (hi:obWs A ws∈E):WsAt w A ws:=by
 obtain ⟨i,hi⟩:=List.mem_iff_getElem?.1 hi
 exact h.ws hi
theorem LE.fill9l {b:Nat} {z0 z1 z2 z3 z4 z5 z6 z7 z8:Value} {t:TypeId} (h:LE w0 w L (E++obB b (.cells #[z0,z1,z2,z3,z4,z5,z6,z7,z8] t) w0.heap.size::F)) (u0 u1 u2 u3 u4 u5 u6 u7 u8:Value):
  LE w0 (put9 w b u0 u1 u2 u3 u4 u5 u6 u7 u8) L (E++obB b (.cells #[u0,u1,u2,u3,u4,u5,u6,u7,u8] t) w0.heap.size::F):=by
 have h1:=h.fill9 (i:=E.length) (by rw [List.getElem?_append_right (Nat.le_refl _),Nat.sub_self];rfl) u0 u1 u2 u3 u4 u5 u6 u7 u8
 rw [List.set_append_right _ _ (Nat.le_refl _),Nat.sub_self] at h1
 exact h1
end
theorem cT_len (d:SdP) (r:RSi) (now:Int):(cT d r now).ws.length≤100:=by
 unfold cT
 split
 ·unfold dCommitT
  split
  ·simp [txZP]
  ·exact allW_len0 d
 ·simp [txZP]
end Go.Proofs.YtbopfhbeegkkaabGreatDoor
namespace Go.Proofs.YtbopfhbeegkkaabGreatDoor
open Go.RowKit Go.WideShapes Go.ChangeShapes Go.WideElems Go.ChangeAt
section
variable {H:Type} {enc:TypeId×Value→H} {P:Program}
def typesRowed (P:Program) (ts:List TypeId):Bool:=ts.all fun t=>P.readableRec t&&decide (t<P.types.size)
theorem trodAll_kept (hl:laidOutB P=true) {W W':World} {sp:Nat→Bool} (hb:Below W.heap.size W W'):
  ∀ {ts:List TypeId} {vs:List Value} {ds:List (DataW H)} {ps:List MemPlace},typesRowed P ts=true→DataW.TrodAll enc P W 0 (fun _=>true) true ts vs ds ps→
    (∀ p∈ps,p.block<W.heap.size)→(∀ p∈ps,sp p.block=true)→DataW.TrodAll enc P W' 0 sp true ts vs ds ps
 | [],[],[],_,_,h,_,_=>h
 | t::ts,v::vs,d::ds,ps,ht,h,hlt,hs=>by
   obtain ⟨p,q,h1,h2,e⟩:=h
   simp only [typesRowed,List.all_cons,Bool.and_eq_true,decide_eq_true_eq] at ht
   subst e
   exact ⟨p,q,Trod_stays hl ht.1.1 ht.1.2 h1 (fun x hx=>hb.same (hlt x (by simp [hx]))) (fun x hx=>hs x (by simp [hx])),
    trodAll_kept hl hb (by simpa [typesRowed] using ht.2) h2 (fun x hx=>hlt x (by simp [hx])) (fun x hx=>hs x (by simp [hx])),rfl⟩
 | [],[],_::_,_,_,h,_,_=>h.elim
 | [],_::_,_,_,_,h,_,_=>h.elim
 | _::_,[],_,_,_,h,_,_=>h.elim
 | _::_,_::_,[],_,_,h,_,_=>h.elim
theorem trodVars_kept (hl:laidOutB P=true) {W W':World} {sp:Nat→Bool} (hb:Below W.heap.size W W'):
  ∀ {ns:List String} {gs:List (DataW H)} {ps:List MemPlace},varsRowed P ns=true→DataW.TrodVars enc P W (fun _=>true) ns gs ps→
    (∀ p∈ps,sp p.block=true)→DataW.TrodVars enc P W' sp ns gs ps
 | [],[],_,_,h,_=>h
 | [],_::_,_,_,h,_=>h.elim
 | _::_,[],_,_,h,_=>h.elim
 | n::ns,d::ds,ps,hv,h,hsp=>by
   have hlt:=h.lt
   obtain ⟨g,t,cs,fuel,p,q,h1,h2,h3,h4,hs,e⟩:=h
   simp only [varsRowed,List.all_cons,Bool.and_eq_true] at hv
   have ht:P.readableRec t=true∧t<P.types.size:=by
    have:=hv.1
    rw [h1] at this
    cases hg:P.globals[g]? with
    | none=>rw [hg] at h2;cases h2
    | some gl=>
      rw [hg] at h2
      obtain rfl:gl.type=t:=Option.some.inj h2
      simpa [hg] using this
   have hp:∀ x∈p,x.block<W.heap.size:=fun x hx=>hlt x (by rw [e];simp [hx])
   have h3':W'.var? P n=some cs:=by
    unfold World.var? at h3 ⊢
    rw [h1] at h3 ⊢
    simp only [Option.bind_some] at h3 ⊢
    have hg:g<W.heap.size:=by
     cases hh:W.heap[g]? with
     | none=>rw [hh] at h3;cases h3
     | some o=>exact (Array.getElem?_eq_some_iff.1 hh).1
    rw [hb.block g hg];exact h3
   exact ⟨g,t,cs,fuel,p,q,h1,h2,h3',DataW.trod_stays (kids_book hl ht.1) (book_sized ht.1) (fun h=>by cases h) ⟨ht.2,book_self t⟩ h4 (fun x hx=>hb.same (hp x hx)) (fun x hx=>hsp x (by rw [e];simp [hx])),
    trodVars_kept hl hb (by simpa [varsRowed] using hv.2) hs (fun x hx=>hsp x (by rw [e];simp [hx])),e⟩
theorem law_post {f:Func} {s:ChangeSpec} {W W':World} {args:Array Value} {ds gs:List (DataW H)} {before:List MemPlace} {tb:TypeId}
  (hl:laidOutB P=true) (hp:typesRowed P f.params.toList=true) (hvr:varsRowed P s.vars=true)
  (hW:DataW.Whole enc P f.params.toList s.vars false W args.toList ds gs before) (hb:Below W.heap.size W W')
  (hr:f.resultTypes=#[tb]) (hub:P.underlying tb=some .bool)
  (hres:(s.fn H (ds++gs)).results=[.lit (.bool true)]) (hargs:(s.fn H (ds++gs)).args=ds) (hvars:(s.fn H (ds++gs)).vars=gs):
  s.post enc P f false true false false W args (.bool true) W':=by
 have hlt:∀ p∈before,p.block<W.heap.size:=fun p hp=>hW.lt p hp
 have hold:∀ p∈before,(fun b=>decide (b<W.heap.size)) p.block=true:=fun p hp=>by simpa using hlt p hp
 obtain ⟨pa,pv,hA,hV,hps,hz,hn⟩:=id hW
 have hok:∀ (j:Nat) (t:TypeId) (r:Value),f.resultTypes[j]?=some t→((Value.bool true).resultList f.resultTypes.size)[j]?=some r→Value.okWide P W' .any 0 t r:=
  ok_one hr rfl (okWide_bool_mk hub _)
 have hres':∀ (b:Nat) (sp:Nat→Bool) (hd:Bool),DataW.TrodAll enc P W' b sp hd f.resultTypes.toList ((Value.bool true).resultList f.resultTypes.size) (s.fn H (ds++gs)).results []:=fun b sp hd=>by
  rw [hr,hres]
  exact trodAll_mk1 (shut_bool hub true)
 have hargs':∀ sp:Nat→Bool,(∀ p∈before,sp p.block=true)→DataW.TrodAll enc P W' 0 sp true f.params.toList args.toList (s.fn H (ds++gs)).args pa:=fun sp hsp=>by
  rw [hargs]
  exact trodAll_kept hl hb hp hA (fun x hx=>hlt x (by rw [hps];simp [hx])) (fun x hx=>hsp x (by rw [hps];simp [hx]))
 have hvars':∀ sp:Nat→Bool,(∀ p∈before,sp p.block=true)→DataW.TrodVars enc P W' sp s.vars (s.fn H (ds++gs)).vars pv:=fun sp hsp=>by
  rw [hvars]
  exact trodVars_kept hl hb hvr hV (fun x hx=>hsp x (by rw [hps];simp [hx]))
 refine ⟨ds,gs,before,[],pa,pv,hW,hres' _ _ _,hargs' _ hold,hvars' _ hold,World.keptBut_mono (fun p hp=>⟨hp,?_⟩) (hb.frame (·∈before)),fun h=>by cases h⟩
 rw [hps,List.mem_append] at hp
 exact Or.inr hp
end
end Go.Proofs.YtbopfhbeegkkaabGreatDoor
