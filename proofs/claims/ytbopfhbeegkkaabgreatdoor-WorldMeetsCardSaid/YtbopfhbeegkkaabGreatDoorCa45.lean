/- Part 45 of a proof: lemmas and contracts that other parts use. -/
import Derived.Test.YtbopfhbeegkkaabGreatDoorCa39
import Derived.Test.YtbopfhbeegkkaabGreatDoorCa40
import Derived.Test.YtbopfhbeegkkaabGreatDoorCa41
import Derived.Test.YtbopfhbeegkkaabGreatDoorCa42
import Derived.Test.YtbopfhbeegkkaabGreatDoorCa43
import Derived.Test.YtbopfhbeegkkaabGreatDoorCa44
import Derived.Test.YtbopfhbeegkkaabGreatDoorCa36
import Derived.Below
import Derived.ChangeSame
import Derived.OpenVars
import Derived.ProofKit
import Derived.OpenShut
import Derived.JoinedCond
import Derived.RowKitTokens
import Derived.Test.YtbopfhbeegkkaabGreatDoorCa3
import Derived.Deep.Slices
import Derived.Lib.SmallJoins
import Derived.Test.YtbopfhbeegkkaabGreatDoorCa12
import Derived.Test.YtbopfhbeegkkaabGreatDoorCa8
set_option linter.unusedVariables false
set_option linter.unusedSimpArgs false
set_option linter.constructorNameAsVariable false
namespace Go.Proofs.YtbopfhbeegkkaabGreatDoor
open Go.RowKit
def TaP.val (a:TaP):Value:=.agg #[.int .i64 a.what,.int .i64 a.k,.int .i64 a.n,.string a.data,.bool a.gone]
theorem tlDo_all (s:TlP) (a:TaP) (sw:Bool):(tlDo s a sw).T.length≤s.T.length+1∧(tlDo s a sw).A.C=s.A.C∧(tlDo s a sw).A.S=s.A.S:=by
 by_cases h0:a.what=0
 ·rw [tlDo_0 _ _ _ h0]
  unfold tlBegin;split <;> exact ⟨Nat.le_succ _,rfl,rfl⟩
 by_cases h1:a.what=1
 ·rw [tlDo_1 _ _ _ h1]
  exact ⟨Nat.le_succ _,rfl,rfl⟩
 by_cases h2:a.what=2
 ·rw [tlDo_2 _ _ _ h2]
  unfold tlWrite;split <;> exact ⟨Nat.le_succ _,rfl,rfl⟩
 by_cases h3:a.what=3
 ·rw [tlDo_3 _ _ _ h3]
  refine ⟨?_,(awCommit_C _ _).1,(awCommit_C _ _).2.1⟩;unfold tlCommit;show (if _ then _ else _:List TxP).length≤_;split;simp;exact Nat.le_succ _
 by_cases h4:a.what=4
 ·rw [tlDo_4 _ _ _ h4]
  exact ⟨Nat.le_succ _,rfl,rfl⟩
 by_cases h5:a.what=5
 ·rw [tlDo_5 _ _ _ h5]
  refine ⟨Nat.le_succ _,?_,?_⟩ <;> (unfold tlTo awMove;simp only;split <;> rfl)
 by_cases h6:a.what=6
 ·rw [tlDo_6 _ _ _ h6]
  exact ⟨Nat.le_succ _,rfl,rfl⟩
 by_cases h7:a.what=7
 ·rw [tlDo_7 _ _ _ h7]
  split;exact ⟨Nat.le_succ _,rfl,rfl⟩;exact ⟨Nat.le_succ _,(awAsk_SC _ _ _).2.1,(awAsk_SC _ _ _).1⟩
 by_cases h8:a.what=8
 ·rw [tlDo_8 _ _ _ h8]
  split;exact ⟨Nat.le_succ _,(awDeliver_SC _ _).2.1,(awDeliver_SC _ _).1⟩;exact ⟨Nat.le_succ _,rfl,rfl⟩
 by_cases h9:a.what=9
 ·rw [tlDo_9 _ _ _ h9]
  split;exact ⟨Nat.le_succ _,rfl,rfl⟩;exact ⟨Nat.le_succ _,rfl,rfl⟩
 by_cases h10:a.what=10
 ·rw [tlDo_10 _ _ _ h10]
  split;exact ⟨Nat.le_succ _,(awSend_eq _ _).2.1,(awSend_eq _ _).1⟩;exact ⟨Nat.le_succ _,rfl,rfl⟩
 by_cases h11:a.what=11
 ·rw [tlDo_11 _ _ _ h11]
  split;exact ⟨Nat.le_succ _,rfl,rfl⟩;exact ⟨Nat.le_succ _,rfl,rfl⟩
 by_cases h12:a.what=12
 ·rw [tlDo_12 _ _ _ h12]
  exact ⟨Nat.le_succ _,(awCalm_SC _).2.1,(awCalm_SC _).1⟩
 rw [tlDo_no s a sw (fun i l1 l2=>by omega)]
 exact ⟨Nat.le_succ _,rfl,rfl⟩
section
variable {w0 w:World} {n:Nat} {O:Nat→Ob} {p tb:Nat} {s:TlP} {t:TV} {b:Nat→Int→Int}
theorem does_any (hg:EType w) (ht:TAx w0.heap.size O p tb s t) (hm:Mem w0 w n O) (hn:p+25≤n) (hok:TlOk s b) (hT:s.T.length<200) (a:TaP) (sw:Bool):
  Calls Tryz.prog 53 #[.pointer (some ⟨tb,0,none⟩),a.val,.bool sw] w fun e w'=>e=.returned (.bool true)∧TUpd w0 w' n O p tb t.g (tlDo s a sw):=by
 obtain ⟨what,ak,an,ad,ag⟩:=a
 by_cases h0:what=0
 ·subst h0;exact does_0 hg ht hm hn hok hT ak an ad ag sw
 by_cases h1:what=1
 ·subst h1;exact does_1 hg ht hm hn hok hT ak an ad ag sw
 by_cases h2:what=2
 ·subst h2;exact does_2 hg ht hm hn hok hT ak an ad ag sw
 by_cases h3:what=3
 ·subst h3;exact does_3 hg ht hm hn hok hT ak an ad ag sw
 by_cases h4:what=4
 ·subst h4;exact does_4 hg ht hm hn hok hT ak an ad ag sw
 by_cases h5:what=5
 ·subst h5;exact does_5 hg ht hm hn hok hT ak an ad ag sw
 by_cases h6:what=6
 ·subst h6;exact does_6 hg ht hm hn hok hT ak an ad ag sw
 by_cases h7:what=7
 ·subst h7;exact does_7 hg ht hm hn hok hT ak an ad ag sw
 by_cases h8:what=8
 ·subst h8;exact does_8 hg ht hm hn hok hT ak an ad ag sw
 by_cases h9:what=9
 ·subst h9;exact does_9 hg ht hm hn hok hT ak an ad ag sw
 by_cases h10:what=10
 ·subst h10;exact does_10 hg ht hm hn hok hT ak an ad ag sw
 by_cases h11:what=11
 ·subst h11;exact does_11 hg ht hm hn hok hT ak an ad ag sw
 by_cases h12:what=12
 ·subst h12;exact does_12 hg ht hm hn hok hT ak an ad ag sw
 exact does_no hg ht hm hn hok hT what ak an (fun i l1 l2=>by omega) ad ag sw
end
def tlNew (S C:Nat):TlP:=⟨awNew S C,[],fun _ _=>none,fun _=>0⟩
theorem PWx.shift {B:Nat} {O O':Nat→Ob} {p p' g:Nat} {A:AWd} {v:WV} (h:PWx B O p g A v) (he:∀ j,j<16→O' (p'+j)=O (p+j)):PWx B O' p' g A v:=
 ⟨h.ok,h.xl,h.ul,h.wr,(he 0 (by omega)).trans h.b0,(he 1 (by omega)).trans h.b1,(he 2 (by omega)).trans h.b2,(he 3 (by omega)).trans h.b3,(he 4 (by omega)).trans h.b4,(he 5 (by omega)).trans h.b5,
  fun k x hx=>by have:=lt_get hx;have:=h.xl;have:=h.ok.S;rw [he _ (by omega)];exact h.si k x hx,
  fun k x hx=>by have:=lt_get hx;have:=h.ul;have:=h.ok.C;rw [he _ (by omega)];exact h.cl k x hx⟩
structure TNx (B:Nat) (O:Nat→Ob) (p tb S C g:Nat) (v:WV) (vO:Value) (ms:List Nat):Prop where
 w:PWx B O p g (awNew S C) v
 b:O (p+16)=obB tb (.cells #[.pointer (some ⟨g,0,none⟩),.int .i64 (S:Int),.int .i64 (C:Int),.slice none 0 0,vO] 110) B
 T:O (p+17)=obTxs B (.slice none 0 0) []
 o:O (p+18)=obRow B 169 1 vO ms.length (maps_ ms)
 m:∀ k m,ms[k]?=some m→O (p+(19+k))=obMp B m (fun _=>none) 0
 z:∀ k:Nat,ms.length≤k→k<6→O (p+(19+k))=obNil
 l:ms.length≤C
 c6:C≤6
def TNu (w0 w:World) (n:Nat) (O:Nat→Ob) (tb S C g:Nat) (vO:Value) (ms:List Nat):Prop:=
 ∃ O' v,Mem w0 w (n+25) O'∧TNx w0.heap.size O' n tb S C g v vO ms∧∀ k,k<n→O' k=O k
section
variable {w0 w w1 w2 w3:World} {n:Nat} {O O2:Nat→Ob} {tb S C g:Nat} {v:WV} {vO:Value} {ms:List Nat}
def tnF (n j:Nat):Nat:=if j<n then j else if j<n+16 then j+1 else if j=n+16 then n else j
theorem TNu.start (h:Mem w0 w (n+17) O2) (hw:PWx w0.heap.size O2 (n+1) g (awNew S C) v) (hb:O2 n=obB tb (.cells #[.pointer (some ⟨g,0,none⟩),.int .i64 (S:Int),.int .i64 (C:Int),.slice none 0 0,.slice none 0 0] 110) w0.heap.size) (hk:∀ k,k<n→O2 k=O k) (hC:C≤6):
  TNu w0 w n O tb S C g (.slice none 0 0) []:=by
 obtain ⟨O3,a1,a2,a3⟩:=h.lend1 (o:=obTxs w0.heap.size (.slice none 0 0) []) (obTxs_ok ..) ⟨⟨rfl,.inl ⟨rfl,rfl⟩⟩,fun m hm=>(by cases hm)⟩ (fun b e=>by have e2:(Value.slice none 0 0).ownBlock=some b:=e;simp [Value.ownBlock] at e2) (fun b k hk ⟨m,hm,_⟩=>(by cases hm))
 obtain ⟨O4,b1,b2,b3⟩:=a1.lend1 (o:=obRow w0.heap.size 169 1 (.slice none 0 0) 0 []) (obRow_ok ..) ⟨rfl,.inl ⟨rfl,rfl⟩⟩ (fun b e=>by have e2:(Value.slice none 0 0).ownBlock=some b:=e;simp [Value.ownBlock] at e2) (fun b k hk e=>e.elim)
 obtain ⟨O5,c1,c2,c3⟩:=b1.nils 6
 have hO:∀ k,k<n+17→O5 k=O2 k:=fun k hk=>(c2 k (by omega)).trans ((b2 k (by omega)).trans (a2 k hk))
 have m:=c1.pick (m:=n+25) (tnF n) (fun k hk=>by
  unfold tnF
  by_cases e1:k<n
  ·rw [if_pos e1];omega
  ·rw [if_neg e1]
   by_cases e2:k<n+16
   ·rw [if_pos e2];omega
   ·rw [if_neg e2]
    by_cases e3:k=n+16
    ·rw [if_pos e3];omega
    ·rw [if_neg e3];omega) (fun j k hj hk e=>by
  unfold tnF at e
  split at e <;> split at e <;> (try split at e) <;> (try split at e) <;> (try split at e) <;> (try split at e) <;> omega)
 refine ⟨_,v,m,⟨hw.shift (fun j hj=>?_),?_,?_,?_,fun k m hm=>(by simp at hm),fun k _ hk=>?_,Nat.zero_le _,hC⟩,fun k hk2=>?_⟩
 ·show O5 (tnF n (n+j))=_
  rw [show tnF n (n+j)=n+1+j from by unfold tnF;rw [if_neg (by omega),if_pos (by omega)];omega]
  exact hO _ (by omega)
 ·show O5 (tnF n (n+16))=_
  rw [show tnF n (n+16)=n from by unfold tnF;rw [if_neg (by omega),if_neg (by omega),if_pos rfl]]
  exact (hO _ (by omega)).trans hb
 ·show O5 (tnF n (n+17))=_
  rw [show tnF n (n+17)=n+17 from by unfold tnF;rw [if_neg (by omega),if_neg (by omega),if_neg (by omega)]]
  exact (c2 _ (by omega)).trans ((b2 _ (by omega)).trans a3)
 ·show O5 (tnF n (n+18))=_
  rw [show tnF n (n+18)=n+18 from by unfold tnF;rw [if_neg (by omega),if_neg (by omega),if_neg (by omega)]]
  exact (c2 _ (by omega)).trans b3
 ·show O5 (tnF n (n+(19+k)))=_
  rw [show tnF n (n+(19+k))=n+(19+k) from by unfold tnF;rw [if_neg (by omega),if_neg (by omega),if_neg (by omega)]]
  exact c3 _ (by omega) (by omega)
 ·show O5 (tnF n k)=_
  rw [show tnF n k=k from by unfold tnF;rw [if_pos hk2]]
  exact (hO _ (by omega)).trans (hk k hk2)
theorem maps_snoc (l:List Nat) (x:Nat):maps_ (l++[x])=maps_ l++[.map (some x)]:=by simp [maps_]
theorem TNu.next (h:TNu w0 w n O tb S C g vO ms) (hl:ms.length<C) {v':Value} (hb:Below (w.alloc (.map #[] 0)).heap.size (w.alloc (.map #[] 0)) w2) (hg:w2.grownBy w3 vO.ownBlock)
  (hr:w3.ownsRow w0.heap.size 169 1 v' (ms.length+1) (maps_ ms++[.map (some w.heap.size)])) (hv:v'.ownBlock=vO.ownBlock∨∀ b,v'.ownBlock=some b→(w.alloc (.map #[] 0)).heap.size≤b):
  TNu w0 (w3.setCell ⟨tb,4,none⟩ v') n O tb S C g v' (ms++[w.heap.size]):=by
 obtain ⟨O1,v,h1,h2,h3⟩:=h
 have hc6:=h2.c6
 have hbw:Below w.heap.size w (w.alloc (.map #[] 0)):=blw_alloc (Below.refl _ _)
 obtain ⟨O3,a1,a2,a3⟩:=h1.put (i:=n+(19+ms.length)) (by omega) (h2.z _ (Nat.le_refl _) (by omega)) (o:=obMp w0.heap.size w.heap.size (fun _=>none) 0) hbw (obMp_ok ..) ⟨h1.low.size,WpAt.made (blk_new rfl _)⟩ (fun b e=>by have e2:b=w.heap.size:=e;omega) (fun b e=>e.elim)
 obtain ⟨O4,b1,b2,b3⟩:=a1.row (i:=n+18) (by omega) ((a3 _ (by omega)).trans h2.o) hb hg hr hv
 have hO4:O4 (n+16)=obB tb (.cells #[.pointer (some ⟨g,0,none⟩),.int .i64 (S:Int),.int .i64 (C:Int),.slice none 0 0,vO] 110) w0.heap.size:=(b3 _ (by omega)).trans ((a3 _ (by omega)).trans h2.b)
 have m4:=b1.set (i:=n+16) (by omega) hO4 4 v'
 have hO:∀ j,j≠n+16→j≠n+18→j≠n+(19+ms.length)→oset O4 (n+16) (obB tb (.cells ((#[.pointer (some ⟨g,0,none⟩),.int .i64 (S:Int),.int .i64 (C:Int),.slice none 0 0,vO]:Array Value).setIfInBounds 4 v') 110) w0.heap.size) j=O1 j:=fun j e1 e2 e3=>(oset_other _ e1).trans ((b3 j e2).trans (a3 j e3))
 refine ⟨_,v,m4,⟨h2.w.keep (fun j hj=>hO _ (by omega) (by omega) (by omega)),?_,(hO _ (by omega) (by omega) (by omega)).trans h2.T,?_,fun k m hm=>?_,fun k hk1 hk2=>?_,by simp;omega,hc6⟩,fun k hk=>(hO _ (by omega) (by omega) (by omega)).trans (h3 k hk)⟩
 ·rw [oset_same];rfl
 ·rw [oset_other _ (by omega),b2,maps_snoc,List.length_append];rfl
 ·by_cases e:k=ms.length
  ·subst e
   rw [List.getElem?_append_right (Nat.le_refl _)] at hm
   simp at hm
   subst hm
   rw [oset_other _ (by omega),b3 _ (by omega)];exact a2
  ·have hlt:=lt_get hm
   simp at hlt
   rw [List.getElem?_append_left (by omega)] at hm
   rw [hO _ (by omega) (by omega) (by omega)]
   exact h2.m k m hm
 ·simp at hk1
  rw [hO _ (by omega) (by omega) (by omega)]
  exact h2.z k (by omega) hk2
theorem TNu.done (h:TNu w0 w n O tb S C g vO ms) (hl:ms.length=C):∃ O' t,Mem w0 w (n+25) O'∧TAx w0.heap.size O' n tb (tlNew S C) t∧t.g=g∧∀ k,k<n→O' k=O k:=by
 obtain ⟨O1,v,h1,h2,h3⟩:=h
 refine ⟨O1,⟨g,v,.slice none 0 0,vO,[],ms⟩,h1,⟨h2.w,h2.b,h2.T,rfl,?_,hl,h2.m⟩,rfl,h3⟩
 show O1 (n+18)=obRow _ 169 1 vO C _
 rw [h2.o,hl]
theorem TNu.blk (h:TNu w0 w n O tb S C g vO ms):w.heap[tb]?=some (.cells #[.pointer (some ⟨g,0,none⟩),.int .i64 (S:Int),.int .i64 (C:Int),.slice none 0 0,vO] 110):=by
 obtain ⟨O1,v,h1,h2,_⟩:=h
 exact h1.box (i:=n+16) (by omega) h2.b
theorem TNu.row (h:TNu w0 w n O tb S C g vO ms):w.ownsRow w0.heap.size 169 1 vO ms.length (maps_ ms)∧vO.ownBlock≠some tb:=by
 obtain ⟨O1,v,h1,h2,_⟩:=h
 have:=h1.at_ (n+18) (by omega)
 rw [h2.o] at this
 refine ⟨this,fun e=>?_⟩
 have h3:=(h1.dis (n+18) (n+16) (by omega) (by omega) (by omega) tb (by rw [h2.o];exact e)).1
 exact h3 (by rw [h2.b];rfl)
end
theorem info169o:(Tryz.prog.info? 169).map (fun i=>(i.zero,i.size,i.bytes))=some (some (.map none),1,8):=by kernel_rfl
theorem info169:∃ i,Tryz.prog.info? 169=some i∧i.zero=some (.map none)∧i.size=1∧i.bytes=8:=by
 obtain ⟨i,hi,h⟩:=Option.map_eq_some_iff.1 info169o
 simp only [Prod.mk.injEq] at h
 exact ⟨i,hi,h.1,h.2.1,h.2.2⟩
theorem TN_below {w0 W W':World} {m:Nat} {P:(Nat→Ob)→WV→Prop} (h:∃ O2 v,Mem w0 W m O2∧P O2 v) (hb:Below W.heap.size W W'):∃ O2 v,Mem w0 W' m O2∧P O2 v:=by
 obtain ⟨O2,v,h1,h2⟩:=h
 exact ⟨O2,v,h1.below hb,h2⟩
set_option maxRecDepth 200000 in
set_option maxHeartbeats 16000000 in
theorem tells_any {w0 w:World} {n:Nat} {O:Nat→Ob} (h:Mem w0 w n O) (sites clients:Int):
  Calls Tryz.prog 52 #[.int .i64 sites,.int .i64 clients] w fun e w'=>∃ tb,e=.returned (.pointer (some ⟨tb,0,none⟩))∧∃ O' t,Mem w0 w' (n+25) O'∧TAx w0.heap.size O' n tb (tlNew (1+pickN sites 4) (1+pickN clients 6)) t∧∀ k,k<n→O' k=O k:=by
 have HM:=hidp h
 obtain ⟨s4,hs4⟩:∃ x,pickN sites 4=x:=⟨_,rfl⟩
 obtain ⟨c6,hc6⟩:∃ x,pickN clients 6=x:=⟨_,rfl⟩
 have hs4l:s4<4:=by rw [←hs4];exact pickN_lt _ (by omega)
 have hc6l:c6<6:=by rw [←hc6];exact pickN_lt _ (by omega)
 have HP4:=hidp (fun W=>(show Calls Tryz.prog 105 #[.int .i64 sites,.int .i64 4] W (fun e w'=>e=.returned (.int .i64 (pickN sites 4:Nat))∧W=w') from pick_is sites 4 W (by omega) (by omega)))
 have HP6:=hidp (fun W=>(show Calls Tryz.prog 105 #[.int .i64 clients,.int .i64 6] W (fun e w'=>e=.returned (.int .i64 (pickN clients 6:Nat))∧W=w') from pick_is clients 6 W (by omega) (by omega)))
 rw [hs4] at HP4 ⊢;rw [hc6] at HP6 ⊢
 obtain ⟨S,hS⟩:∃ S,1+s4=S:=⟨_,rfl⟩
 obtain ⟨C,hC⟩:∃ C,1+c6=C:=⟨_,rfl⟩
 rw [hS,hC]
 have hS4:1≤S∧S≤4:=by omega
 have hC6:1≤C∧C≤6:=by omega
 have e1:IntKind.i64.wrap (1+(s4:Int))=(S:Int):=by rw [IntKind.wrap_i64];omega
 have e2:IntKind.i64.wrap (1+(c6:Int))=(C:Int):=by rw [IntKind.wrap_i64];omega
 have e3:(1:Int)+(s4:Int)=(S:Int):=by omega
 have e4:(1:Int)+(c6:Int)=(C:Int):=by omega
 have HE1:=hidp e1;have HE2:=hidp e2;have HE3:=hidp e3;have HE4:=hidp e4
 have HNW:=hidp (fun (W:World) (O1:Nat→Ob) (m:Mem w0 W (n+1) O1)=>wNew_ok m S C hS4 hC6.2)
 obtain ⟨hS41,hS42⟩:=hS4
 obtain ⟨hC61,hC62⟩:=hC6
 clear h hs4 hc6 hS hC e1 e2 e3 e4
 go_enter Tryz.func52,Tryz.ntmps52
 go_wp2_with fail
 go_at_call 105
 refine (HP4.out _).mono ?_
 rintro e wq ⟨rfl,rfl⟩
 go_wp2_with fail
 go_at_call 105
 refine (HP6.out _).mono ?_
 rintro e wq ⟨rfl,rfl⟩
 go_wp2_with fail
 rw [HE3.out,HE4.out]
 obtain ⟨O1,r1,r2,r3⟩:=HM.out.new1 (.cells #[.pointer none,.int .i64 (S:Int),.int .i64 (C:Int),.slice none 0 0,.slice none 0 0] 110)
 have HM1:=hidp r1
 have HO1:=hidp r2
 have HB1:=hidp r3
 clear r1 r2 r3
 obtain ⟨tb,htb⟩:∃ tb,w.heap.size=tb:=⟨_,rfl⟩
 rw [htb] at HB1
 generalize (w.alloc (.cells #[.pointer none,.int .i64 (S:Int),.int .i64 (C:Int),.slice none 0 0,.slice none 0 0] 110))=wa at *
 rw [htb]
 have HTBE:=hidp htb
 clear htb
 have hba:=HM1.out.box (i:=n) (by omega) HB1.out
 have c1:=cell_blk hba 1;have c2:=cell_blk hba 2
 simp only [zC,zD,zE] at c1 c2
 haveI:SzGe (tb+1) wa:=⟨lt_blk hba⟩
 clear hba
 go_upto_region 2 with fail
 go_cut [6,7] (fun z6 z7 W=>∃ g,z6=.pointer (some ⟨g,0,none⟩)∧z7=.nilIface∧∃ O2 v,Mem w0 W (n+1+16) O2∧PWx w0.heap.size O2 (n+1) g (awNew S C) v∧∀ k,k<n+1→O2 k=O1 k)
 case first=>
  go_region_held3 (fun X:World=>X.cell? ⟨tb,1,none⟩=some (.int .i64 (S:Int))∧X.cell? ⟨tb,2,none⟩=some (.int .i64 (C:Int))) ((repeat' apply And.intro) <;> simp [go_sem, *]) ((go_at_call 62;refine (HNW.out _ O1 (HM1.out.below (by repeat (first | exact Below.refl _ _ | refine blw_alloc ?_ | refine blw_plus ?_ | refine Below.drew ?_)))).mono ?_;rintro e w5 ⟨g,rfl,O2,v,q1,q2,q3⟩;have hb5:=q1.box (i:=n) (by omega) ((q3 n (by omega)).trans HB1.out);have g1:=cell_blk hb5 1;have g2:=cell_blk hb5 2;simp only [zC,zD,zE] at g1 g2;haveI:SzGe (tb+1) w5:=⟨lt_blk hb5⟩;have HQ:=hidp (show ∃ O2 v,Mem w0 w5 (n+1+16) O2∧PWx w0.heap.size O2 (n+1) g (awNew S C) v∧∀ k,k<n+1→O2 k=O1 k from ⟨O2,v,q1,q2,q3⟩);clear q1 q2 q3 hb5))
  all_goals
   go_wp2_with fail
   go_meet
   exact ⟨g,rfl,rfl,TN_below HQ.out (by repeat (first | exact Below.refl _ _ | refine blw_alloc ?_ | refine blw_plus ?_ | refine Below.drew ?_))⟩
 obtain ⟨w5,rfl⟩:∃ W:World,W=wc:=⟨_,rfl⟩
 obtain ⟨g,rfl,rfl,O2,v,q1,q2,q3⟩:=hcut
 have hO2:O2 n=obB tb (.cells #[.pointer none,.int .i64 (S:Int),.int .i64 (C:Int),.slice none 0 0,.slice none 0 0] 110) w0.heap.size:=(q3 n (by omega)).trans HB1.out
 have hb5:=q1.box (i:=n) (by omega) hO2
 have f0:w5.frozen? ⟨tb,0,none⟩=false:=frozen_blk hb5 0
 have g0:=cell_blk hb5 0
 simp only [zC,zD,zE] at g0
 haveI:SzGe (tb+1) w5:=⟨lt_blk hb5⟩
 have HP:Hid (TNu w0 (w5.setCell ⟨tb,0,none⟩ (.pointer (some ⟨g,0,none⟩))) n O tb S C g (.slice none 0 0) []):=hidp (by
  have m:=q1.set (i:=n) (by omega) hO2 0 (.pointer (some ⟨g,0,none⟩))
  exact TNu.start m (q2.keep (fun j hj=>oset_other _ (by omega))) (by rw [oset_same];rfl) (fun j hj=>(oset_other _ (by omega)).trans ((q3 j (by omega)).trans (HO1.out j hj))) hC62)
 clear q1 q2 q3 hb5 c1 c2 hO2 HNW HP4 HP6 HE1 HE2 HE3 HE4
 have hmk:=fun W=>mkMap169 W
 obtain ⟨i1,hi1,hz4,hz5,hz6⟩:=info169
 have HO1b:=hidp (fun (m:Nat)=>(show ∀ u∈([.map (some m)]:List Value),u.oneCell'=true from by intro u hu;simp at hu;subst hu;rfl))
 go_wp2_with fail
 go_loopw [8] (fun i W=>∃ (ms:List Nat) (vO:Value),i=.int .i64 (ms.length:Nat)∧TNu w0 W n O tb S C g vO ms) (fun i _=>C-(Go.RowKit.intOf i).toNat)
 case atStart=>exact ⟨[],_,rfl,HP.out⟩
 case round=>
  obtain ⟨ms,vO,rfl,hP⟩:=hrel
  have HP:=hidp hP
  have hb:=hP.blk
  have hml:ms.length≤C:=by obtain ⟨_,_,_,h2,_⟩:=hP;exact h2.l
  have hrow:=hP.row
  obtain ⟨aO,cO,eO⟩:=own_form hrow.1
  subst eO
  have HRC:=hidp hrow
  have k2:=cell_blk hb 2;have k4:=cell_blk hb 4
  simp only [zC,zD,zE] at k2 k4
  have fz:wr.frozen? ⟨tb,4,none⟩=false:=frozen_blk hb 4
  have htl:tb<wr.heap.size:=lt_blk hb
  haveI:SzGe (tb+1) wr:=⟨htl⟩
  clear hP hb hrow f0 g0
  by_cases hx:ms.length<C
  ·have hxd:decide ((ms.length:Int)<(C:Int))=true:=decide_eq_true (by omega)
   have h63:ms.length+1≤maxLen:=by refine Nat.le_trans ?_ maxLen_ge;omega
   have hby:(ms.length+1)*8≤140737488355328:=by omega
   have hlow:w0.heap.size≤wr.heap.size:=by obtain ⟨_,_,h1,_⟩:=HP.out;exact h1.low.size
   clear hx
   have HX:=hidp (show ms.length<C from by simpa using hxd)
   go_wp2_with (at_builtin;go_must (refine wpList_append_lies _ rfl _ _ 108 rfl w0.heap.size 169 i1 (.map none) 1 8 Tryz.underlying108 hi1 hz4 hz5 hz6 rfl (by decide) (.slice aO ms.length cO) ms.length (maps_ ms) rfl (own_below HRC.out.1 (by repeat (first | exact Below.refl _ _ | refine blw_alloc ?_ | refine blw_plus ?_ | refine Below.drew ?_)) (fun k e=>(own_ge HRC.out.1 e).2)) ⟨wr.heap.size+1,0,none⟩ 1 1 [.map (some wr.heap.size)] rfl rfl (World.news_of_block (cs:=#[.map (some wr.heap.size)]) (blk_new (by simp [go_sem]) _)) (HO1b.out _) (by decide) h63 hby (by simp;omega) _ rfl ?_))
   intro g1 cap1 w5 hown1 hgrow hgl1 hlt1
   have HE:=hidp (HP.out.next HX.out (blw_alloc (Below.refl _ _)) hgrow hown1 (by
    rcases hgl1 with e | e
    ·exact .inl (by rw [e];rfl)
    ·exact .inr (fun b hb=>by simp [Value.ownBlock] at hb;subst hb;rw [e];simp)))
   have hblk:=hgrow.block tb (by simp;omega) (fun e=>HRC.out.2 e.symm)
   rw [heap_alloc,if_neg (by simp;omega),heap_alloc,if_neg (by omega)] at hblk
   have q1:w5.cell? ⟨tb,4,none⟩=some (.slice aO ms.length cO):=by rw [World.cell?_of_block hblk];exact k4
   have q2:w5.frozen? ⟨tb,4,none⟩=false:=by rw [World.frozen?_of_block hblk];exact fz
   have q3:w5.cell? ⟨tb,2,none⟩=some (.int .i64 (C:Int)):=by rw [World.cell?_of_block hblk];exact k2
   have hgw5:tb<w5.heap.size:=by have:=hgrow.size;simp at this;omega
   haveI:SzGe (tb+1) w5:=⟨hgw5⟩
   clear hown1 hgrow hgl1 hblk
   go_wp2_with fail
   go_roundw
   case rel=>exact ⟨ms++[wr.heap.size],_,by simp,HE.out⟩
   case measure=>simp [Go.RowKit.intOf];omega
  ·have hce:ms.length=C:=by omega
   have HCE:=hidp hce
   have hxd:decide ((ms.length:Int)<(C:Int))=false:=decide_eq_false (by omega)
   have hxd2:decide (ms.length<C)=false:=decide_eq_false (by omega)
   have hxn:¬ms.length<C:=hx
   clear hx hml hce
   go_wp2_with fail
   go_ret
   obtain ⟨O9,t9,z1,z2,_,z4⟩:=HP.out.done HCE.out
   exact ⟨tb,rfl,O9,t9,z1,z2,z4⟩
def lvY:WrP:=⟨3,⟨#[120]⟩,false⟩
noncomputable def lv1:AWd:=awBegin (awNew 2 2) 0
noncomputable def lv2:AWd:=awWrite lv1 0 lvY
noncomputable def lv3:AWd:=awCommit lv2 0
noncomputable def lv4:AWd:=awMove lv3 1 1
noncomputable def lv5:AWd:=awDeliver lv4 0
noncomputable def lv6:AWd:=awBegin lv5 1
theorem lv_a:awBeginE (awNew 2 2) 0=0:=by decide +kernel
theorem lv_b:awWriteE lv1 0 lvY=0:=by decide +kernel
theorem lv_c:awCommitE lv2 0=0:=by decide +kernel
theorem lv_d:(awCT lv2 0).seq=1:=by decide +kernel
theorem lv_e:awMoveE lv3 1 1=0:=by decide +kernel
theorem lv_f:0<lv4.way.length:=by decide +kernel
theorem lv_g:awBeginE lv5 1=0:=by decide +kernel
theorem lv_h:(awRead lv6 1 3).2=0:=by decide +kernel
theorem lv_i:(awRead lv6 1 3).1=⟨#[120]⟩:=by decide +kernel
def LV (w:World) (g:Nat) (A:AWd) (W:World):Prop:=∃ O v,Mem w W 16 O∧PWx w.heap.size O 0 g A v
section
variable {w W W':World} {g:Nat} {A:AWd}
theorem LV.below (h:LV w g A W) (hb:Below W.heap.size W W'):LV w g A W':=by
 obtain ⟨O,v,h1,h2⟩:=h
 exact ⟨O,v,h1.below hb,h2⟩
theorem LV.low (h:LV w g A W):Below w.heap.size w W:=by
 obtain ⟨O,v,h1,_⟩:=h
 exact h1.low
theorem LV.of {O:Nat→Ob} {xs us:List Nat} (h:WUpd w W' 16 O 0 g xs us A):LV w g A W':=by
 obtain ⟨O',h1,⟨v',h2,_,_⟩,_⟩:=h
 exact ⟨O',v',h1,h2⟩
theorem LV.begin_ (h:LV w g A W) {k:Nat} (hk:k<A.C) (he:awBeginE A k=0):Calls Tryz.prog 100 #[.pointer (some ⟨g,0,none⟩),.int .i64 (k:Nat)] W fun e w'=>e=.returned .nilIface∧LV w g (awBegin A k) w':=by
 obtain ⟨O,v,h1,h2⟩:=h
 exact (wBegin_ok h2 h1 (by omega) hk).mono fun e w' ⟨e1,e2⟩=>⟨e1.trans (by first | rfl | (rw [he];rfl)),LV.of e2⟩
theorem LV.write (h:LV w g A W) {k:Nat} (hk:k<A.C) (y:WrP) (he:awWriteE A k y=0):Calls Tryz.prog 101 #[.pointer (some ⟨g,0,none⟩),.int .i64 (k:Nat),y.val] W fun e w'=>e=.returned .nilIface∧LV w g (awWrite A k y) w':=by
 obtain ⟨O,v,h1,h2⟩:=h
 exact (wWrite_ok h2 h1 (by omega) hk y).mono fun e w' ⟨e1,e2⟩=>⟨e1.trans (by first | rfl | (rw [he];rfl)),LV.of e2⟩
theorem LV.move (h:LV w g A W) {k:Nat} (hk:k<A.C) (z:Int) (he:awMoveE A k z=0):Calls Tryz.prog 103 #[.pointer (some ⟨g,0,none⟩),.int .i64 (k:Nat),.int .i64 z] W fun e w'=>e=.returned .nilIface∧LV w g (awMove A k z) w':=by
 obtain ⟨O,v,h1,h2⟩:=h
 exact (wMove_ok h2 h1 (by omega) hk z).mono fun e w' ⟨e1,e2⟩=>⟨e1.trans (by first | rfl | (rw [he];rfl)),LV.of e2⟩
theorem LV.deliver (h:LV w g A W) {i:Nat} (hi:i<A.way.length):Calls Tryz.prog 104 #[.pointer (some ⟨g,0,none⟩),.int .i64 (i:Nat)] W fun e w'=>e=.returned .nilIface∧LV w g (awDeliver A i) w':=by
 obtain ⟨O,v,h1,h2⟩:=h
 exact (wDeliver_ok h2 h1 (by omega) hi).mono fun e w' ⟨e1,e2⟩=>⟨e1.trans (by first | rfl | rfl),LV.of e2⟩
theorem LV.commit (h:LV w g A W) {k:Nat} (hk:k<A.C) (he:awCommitE A k=0):Calls Tryz.prog 102 #[.pointer (some ⟨g,0,none⟩),.int .i64 (k:Nat)] W fun e w'=>∃ A1 c1,e=.returned (.tuple #[MTx.val ⟨awCT A k,A1,c1⟩,.nilIface])∧LV w g (awCommit A k) w':=by
 obtain ⟨O,v,h1,h2⟩:=h
 refine (wCommit_ok h2 h1 (by omega) hk).mono fun e w' ⟨A1,c1,e1,O',q1,_,⟨v',q2,_,_⟩,_⟩=>⟨A1,c1,?_,O',v',q1.less (by omega),q2⟩
 rw [e1,he];rfl
theorem LV.read (h:LV w g A W) {k:Nat} (hk:k<A.C) (key:Int) (hw:wf64 key):Calls Tryz.prog 60 #[.pointer (some ⟨g,0,none⟩),.int .i64 (k:Nat),.int .i64 key] W fun e w'=>e=.returned (.tuple #[.string (awRead A k key).1,errV (awRead A k key).2])∧LV w g A w':=by
 obtain ⟨O,v,h1,h2⟩:=h
 exact (wRead_ok h2 h1 (by omega) hk key hw).mono fun e w' ⟨e1,e2⟩=>⟨e1,O,v,h1.below e2,h2⟩
theorem LV.new (W:World) {S C:Nat} (hS:1≤S∧S≤4) (hC:C≤6):Calls Tryz.prog 62 #[.int .i64 (S:Int),.int .i64 (C:Int)] W fun e w'=>∃ g,e=.returned (.tuple #[.pointer (some ⟨g,0,none⟩),.nilIface])∧LV W g (awNew S C) w':=
 (wNew_ok (Mem.nil W (fun _=>obNil)) S C hS hC).mono fun e w' ⟨g,e1,O',v,q1,q2,_⟩=>⟨g,e1,O',v,q1,q2⟩
end
set_option maxRecDepth 200000 in
set_option maxHeartbeats 16000000 in
theorem lived_any (w:World):Calls Tryz.prog 51 #[] w fun e w'=>e=.returned (.bool true)∧Below w.heap.size w w':=by
 have HA:=hidp (show ∀ (g:Nat) (W:World),LV w g (awNew 2 2) W→Calls Tryz.prog 100 #[.pointer (some ⟨g,0,none⟩),.int .i64 0] W fun e w'=>e=.returned .nilIface∧LV w g lv1 w' from fun g W h=>h.begin_ (k:=0) (by decide) lv_a)
 have HB:=hidp (show ∀ (g:Nat) (W:World),LV w g lv1 W→Calls Tryz.prog 101 #[.pointer (some ⟨g,0,none⟩),.int .i64 0,.agg #[.int .i64 3,.string ⟨#[120]⟩,.bool false]] W fun e w'=>e=.returned .nilIface∧LV w g lv2 w' from fun g W h=>h.write (k:=0) (by decide +kernel) lvY lv_b)
 have HC:=hidp (show ∀ (g:Nat) (W:World),LV w g lv2 W→Calls Tryz.prog 102 #[.pointer (some ⟨g,0,none⟩),.int .i64 0] W fun e w'=>∃ A1 c1,e=.returned (.tuple #[MTx.val ⟨awCT lv2 0,A1,c1⟩,.nilIface])∧LV w g lv3 w' from fun g W h=>h.commit (k:=0) (by decide +kernel) lv_c)
 have HD:=hidp (show ∀ (g:Nat) (W:World),LV w g lv3 W→Calls Tryz.prog 103 #[.pointer (some ⟨g,0,none⟩),.int .i64 1,.int .i64 1] W fun e w'=>e=.returned .nilIface∧LV w g lv4 w' from fun g W h=>h.move (k:=1) (by decide +kernel) 1 lv_e)
 have HE:=hidp (show ∀ (g:Nat) (W:World),LV w g lv4 W→Calls Tryz.prog 104 #[.pointer (some ⟨g,0,none⟩),.int .i64 0] W fun e w'=>e=.returned .nilIface∧LV w g lv5 w' from fun g W h=>h.deliver (i:=0) lv_f)
 have HF:=hidp (show ∀ (g:Nat) (W:World),LV w g lv5 W→Calls Tryz.prog 100 #[.pointer (some ⟨g,0,none⟩),.int .i64 1] W fun e w'=>e=.returned .nilIface∧LV w g lv6 w' from fun g W h=>h.begin_ (k:=1) (by decide +kernel) lv_g)
 have HG:=hidp (show ∀ (g:Nat) (W:World),LV w g lv6 W→Calls Tryz.prog 60 #[.pointer (some ⟨g,0,none⟩),.int .i64 1,.int .i64 3] W fun e w'=>e=.returned (.tuple #[.string ⟨#[120]⟩,.nilIface])∧LV w g lv6 w' from fun g W h=>(h.read (k:=1) (by decide +kernel) 3 (by unfold wf64;omega)).mono fun e w' ⟨e1,e2⟩=>⟨by rw [e1,lv_h,lv_i];rfl,e2⟩)
 have HN:=hidp (show Calls Tryz.prog 62 #[.int .i64 2,.int .i64 2] w fun e w'=>∃ g,e=.returned (.tuple #[.pointer (some ⟨g,0,none⟩),.nilIface])∧LV w g (awNew 2 2) w' from LV.new w (S:=2) (C:=2) (by omega) (by omega))
 have hq:=lv_d
 obtain ⟨⟨cs,cq,cw,cc,x0,x1,x2,x3,cws⟩,hT⟩:∃ T,awCT lv2 0=T:=⟨_,rfl⟩
 rw [hT] at hq HC
 obtain rfl:cq=1:=hq
 unfold MTx.val at HC
 simp only at HC
 clear hT
 go_enter Tryz.func51,Tryz.ntmps51
 go_wp2_with fail
 go_at_call 62
 refine HN.out.mono ?_
 rintro e w1 ⟨g,rfl,h1⟩
 have H1:=hidp h1
 clear h1
 go_wp2_with fail
 go_at_call 100
 refine (HA.out _ _ H1.out).mono ?_
 rintro e w2 ⟨rfl,h2⟩
 have H2:=hidp h2
 clear h2
 go_wp2_with fail
 go_at_call 101
 refine (HB.out _ _ H2.out).mono ?_
 rintro e w3 ⟨rfl,h3⟩
 have H3:=hidp h3
 clear h3
 go_wp2_with fail
 go_at_call 102
 refine (HC.out _ _ H3.out).mono ?_
 rintro e w4 ⟨A1,c1,rfl,h4⟩
 have H4:=hidp (h4.below (show Below w4.heap.size w4 (w4.alloc (.cells #[.int .i64 cs,.int .i64 1,.int .i64 cw,.int .i64 cc,.int .i64 x0,.int .i64 x1,.int .i64 x2,.int .i64 x3,.slice A1 cws.length c1] 44)) from zB))
 clear h4
 go_wp2_with fail
 go_at_call 103
 refine (HD.out _ _ H4.out).mono ?_
 rintro e w5 ⟨rfl,h5⟩
 have H5:=hidp h5
 clear h5
 go_wp2_with fail
 go_at_call 104
 refine (HE.out _ _ H5.out).mono ?_
 rintro e w6 ⟨rfl,h6⟩
 have H6:=hidp h6
 clear h6
 go_wp2_with fail
 go_at_call 100
 refine (HF.out _ _ H6.out).mono ?_
 rintro e w7 ⟨rfl,h7⟩
 have H7:=hidp h7
 clear h7
 go_wp2_with fail
 go_at_call 60
 refine (HG.out _ _ H7.out).mono ?_
 rintro e w8 ⟨rfl,h8⟩
 have H8:=hidp h8
 clear h8
 go_wp2_with fail
 go_ret
 exact ⟨rfl,H8.out.low⟩
def TSt (w:World) (tb g C i:Nat) (W:World) (s:TlP):Prop:=∃ O t b,Mem w W 25 O∧TAx w.heap.size O 0 tb s t∧t.g=g∧TlOk s b∧s.T.length≤i∧s.A.C=C
section
variable {w W W':World} {tb g C i:Nat} {s:TlP}
theorem TSt.below (h:TSt w tb g C i W s) (hb:Below W.heap.size W W'):TSt w tb g C i W' s:=by
 obtain ⟨O,t,b,h1,h2⟩:=h
 exact ⟨O,t,b,h1.below hb,h2⟩
theorem TSt.low (h:TSt w tb g C i W s):Below w.heap.size w W:=by
 obtain ⟨O,t,b,h1,_⟩:=h
 exact h1.low
theorem TSt.more (h:TSt w tb g C i W s):TSt w tb g C (i+1) W s:=by
 obtain ⟨O,t,b,h1,h2,h3,h4,h5,h6⟩:=h
 exact ⟨O,t,b,h1,h2,h3,h4,by omega,h6⟩
theorem TSt.blk (h:TSt w tb g C i W s):∃ S vT vO,W.heap[tb]?=some (.cells #[.pointer (some ⟨g,0,none⟩),.int .i64 S,.int .i64 (C:Int),vT,vO] 110):=by
 obtain ⟨O,t,b,h1,h2,rfl,_,_,rfl⟩:=h
 exact ⟨_,_,_,h2.blk h1 (by omega)⟩
theorem TSt.does (hg:EType w) (h:TSt w tb g C i W s) (hi:i<200) (a:TaP) (sw:Bool):Calls Tryz.prog 53 #[.pointer (some ⟨tb,0,none⟩),a.val,.bool sw] W fun e w'=>e=.returned (.bool true)∧TSt w tb g C (i+1) w' (tlDo s a sw):=by
 obtain ⟨O,t,b,h1,h2,rfl,h4,h5,rfl⟩:=h
 obtain ⟨b',hb'⟩:=h4.step (by omega) a sw
 obtain ⟨k1,k2,_⟩:=tlDo_all s a sw
 exact (does_any (hg.low h1.low) h2 h1 (by omega) h4 (by omega) a sw).mono fun e w' ⟨e1,O',t',q1,⟨q2,q3⟩,_⟩=>⟨e1,O',t',b',q1,q2,q3,hb',by omega,k2⟩
theorem TSt.reads (hg:EType w) (h:TSt w tb g C i W s) (hi:i<200) {k:Nat} (hk:k<C) {key:Int} (hkey:0≤key∧key<8):Calls Tryz.prog 56 #[.pointer (some ⟨tb,0,none⟩),.int .i64 (k:Nat),.int .i64 key] W fun e w'=>e=.returned (.bool true)∧TSt w tb g C i w' s:=by
 obtain ⟨O,t,b,h1,h2,h3,h4,h5,rfl⟩:=h
 exact (reads_ok (hg.low h1.low) h2 h1 (by omega) h4 (by omega) hk hkey).mono fun e w' ⟨e1,e2⟩=>⟨e1,O,t,b,h1.below e2,h2,h3,h4,h5,rfl⟩
theorem TSt.client (h:TSt w tb g C i W s) {k:Nat} (hk:k<C):Calls Tryz.prog 54 #[.pointer (some ⟨g,0,none⟩),.int .i64 (k:Nat)] W fun e w'=>e=.returned (.tuple #[.int .i64 (s.A.pl k:Int),.agg #[.int .i64 (s.A.cl k).q0,.int .i64 (s.A.cl k).q1,.int .i64 (s.A.cl k).q2,.int .i64 (s.A.cl k).q3],.agg #[.int .i64 (s.A.cl k).n0,.int .i64 (s.A.cl k).n1,.int .i64 (s.A.cl k).n2,.int .i64 (s.A.cl k).n3],.bool (s.A.cl k).op,.nilIface])∧TSt w tb g C i w' s:=by
 obtain ⟨O,t,b,h1,h2,rfl,h4,h5,rfl⟩:=h
 exact (wClient_ok h2.w h1 (by omega) hk).mono fun e w' ⟨e1,e2⟩=>⟨e1,O,t,b,h1.below e2,h2,rfl,h4,h5,rfl⟩
theorem TSt.new (sites clients:Int):Calls Tryz.prog 52 #[.int .i64 sites,.int .i64 clients] W fun e w'=>∃ tb g C s,1≤C∧C≤6∧e=.returned (.pointer (some ⟨tb,0,none⟩))∧TSt W tb g C 0 w' s:=by
 have hc:=pickN_lt clients (n:=6) (by omega)
 have hs:=pickN_lt sites (n:=4) (by omega)
 exact (tells_any (Mem.nil W (fun _=>obNil)) sites clients).mono fun e w' ⟨tb,e1,O',t,q1,q2,_⟩=>⟨tb,t.g,1+pickN clients 6,_,by omega,by omega,e1,O',t,fun _ _=>0,by simpa using q1,q2,rfl,⟨CInv.fresh (by omega),by show 1≤1+pickN clients 6;omega,fun k hk ho=>(by cases ho)⟩,Nat.le_refl _,rfl⟩
end
end Go.Proofs.YtbopfhbeegkkaabGreatDoor
namespace Go.Proofs.YtbopfhbeegkkaabGreatDoor
open Go.RowKit Go.WideShapes Go.ChangeShapes Go.WideElems Go.ChangeAt
section
variable {H:Type} {enc:TypeId×Value→H} {P:Program}
def typesRowed (P:Program) (ts:List TypeId):Bool:=ts.all fun t=>P.readableRec t&&decide (t<P.types.size)
theorem trodAll_kept (hl:laidOutB P=true) {W W':World} {sp:Nat→Bool} (hb:Below W.heap.size W W'):
  ∀ {ts:List TypeId} {vs:List Value} {ds:List (DataW H)} {ps:List MemPlace},typesRowed P ts=true→DataW.TrodAll enc P W 0 (fun _=>true) true ts vs ds ps→
    (∀ p∈ps,p.block<W.heap.size)→(∀ p∈ps,sp p.block=true)→DataW.TrodAll enc P W' 0 sp true ts vs ds ps
 | [],[],[],_,_,h,_,_=>h
 | t::ts,v::vs,d::ds,ps,ht,h,hlt,hs=>by
   obtain ⟨p,q,h1,h2,e⟩:=h
   simp only [typesRowed,List.all_cons,Bool.and_eq_true,decide_eq_true_eq] at ht
   subst e
   exact ⟨p,q,Trod_stays hl ht.1.1 ht.1.2 h1 (fun x hx=>hb.same (hlt x (by simp [hx]))) (fun x hx=>hs x (by simp [hx])),
    trodAll_kept hl hb (by simpa [typesRowed] using ht.2) h2 (fun x hx=>hlt x (by simp [hx])) (fun x hx=>hs x (by simp [hx])),rfl⟩
 | [],[],_::_,_,_,h,_,_=>h.elim
 | [],_::_,_,_,_,h,_,_=>h.elim
 | _::_,[],_,_,_,h,_,_=>h.elim
 | _::_,_::_,[],_,_,h,_,_=>h.elim
theorem trodVars_kept (hl:laidOutB P=true) {W W':World} {sp:Nat→Bool} (hb:Below W.heap.size W W'):
  ∀ {ns:List String} {gs:List (DataW H)} {ps:List MemPlace},varsRowed P ns=true→DataW.TrodVars enc P W (fun _=>true) ns gs ps→
    (∀ p∈ps,sp p.block=true)→DataW.TrodVars enc P W' sp ns gs ps
 | [],[],_,_,h,_=>h
 | [],_::_,_,_,h,_=>h.elim
 | _::_,[],_,_,h,_=>h.elim
 | n::ns,d::ds,ps,hv,h,hsp=>by
   have hlt:=h.lt
   obtain ⟨g,t,cs,fuel,p,q,h1,h2,h3,h4,hs,e⟩:=h
   simp only [varsRowed,List.all_cons,Bool.and_eq_true] at hv
   have ht:P.readableRec t=true∧t<P.types.size:=by
    have:=hv.1
    rw [h1] at this
    cases hg:P.globals[g]? with
    | none=>rw [hg] at h2;cases h2
    | some gl=>
      rw [hg] at h2
      obtain rfl:gl.type=t:=Option.some.inj h2
      simpa [hg] using this
   have hp:∀ x∈p,x.block<W.heap.size:=fun x hx=>hlt x (by rw [e];simp [hx])
   have h3':W'.var? P n=some cs:=by
    unfold World.var? at h3 ⊢
    rw [h1] at h3 ⊢
    simp only [Option.bind_some] at h3 ⊢
    have hg:g<W.heap.size:=by
     cases hh:W.heap[g]? with
     | none=>rw [hh] at h3;cases h3
     | some o=>exact (Array.getElem?_eq_some_iff.1 hh).1
    rw [hb.block g hg];exact h3
   exact ⟨g,t,cs,fuel,p,q,h1,h2,h3',DataW.trod_stays (kids_book hl ht.1) (book_sized ht.1) (fun h=>by cases h) ⟨ht.2,book_self t⟩ h4 (fun x hx=>hb.same (hp x hx)) (fun x hx=>hsp x (by rw [e];simp [hx])),
    trodVars_kept hl hb (by simpa [varsRowed] using hv.2) hs (fun x hx=>hsp x (by rw [e];simp [hx])),e⟩
theorem law_post {f:Func} {s:ChangeSpec} {W W':World} {args:Array Value} {ds gs:List (DataW H)} {before:List MemPlace} {tb:TypeId}
  (hl:laidOutB P=true) (hp:typesRowed P f.params.toList=true) (hvr:varsRowed P s.vars=true)
  (hW:DataW.Whole enc P f.params.toList s.vars false W args.toList ds gs before) (hb:Below W.heap.size W W')
  (hr:f.resultTypes=#[tb]) (hub:P.underlying tb=some .bool)
  (hres:(s.fn H (ds++gs)).results=[.lit (.bool true)]) (hargs:(s.fn H (ds++gs)).args=ds) (hvars:(s.fn H (ds++gs)).vars=gs):
  s.post enc P f false true false false W args (.bool true) W':=by
 have hlt:∀ p∈before,p.block<W.heap.size:=fun p hp=>hW.lt p hp
 have hold:∀ p∈before,(fun b=>decide (b<W.heap.size)) p.block=true:=fun p hp=>by simpa using hlt p hp
 obtain ⟨pa,pv,hA,hV,hps,hz,hn⟩:=id hW
 have hok:∀ (j:Nat) (t:TypeId) (r:Value),f.resultTypes[j]?=some t→((Value.bool true).resultList f.resultTypes.size)[j]?=some r→Value.okWide P W' .any 0 t r:=
  ok_one hr rfl (okWide_bool_mk hub _)
 have hres':∀ (b:Nat) (sp:Nat→Bool) (hd:Bool),DataW.TrodAll enc P W' b sp hd f.resultTypes.toList ((Value.bool true).resultList f.resultTypes.size) (s.fn H (ds++gs)).results []:=fun b sp hd=>by
  rw [hr,hres]
  exact trodAll_mk1 (shut_bool hub true)
 have hargs':∀ sp:Nat→Bool,(∀ p∈before,sp p.block=true)→DataW.TrodAll enc P W' 0 sp true f.params.toList args.toList (s.fn H (ds++gs)).args pa:=fun sp hsp=>by
  rw [hargs]
  exact trodAll_kept hl hb hp hA (fun x hx=>hlt x (by rw [hps];simp [hx])) (fun x hx=>hsp x (by rw [hps];simp [hx]))
 have hvars':∀ sp:Nat→Bool,(∀ p∈before,sp p.block=true)→DataW.TrodVars enc P W' sp s.vars (s.fn H (ds++gs)).vars pv:=fun sp hsp=>by
  rw [hvars]
  exact trodVars_kept hl hb hvr hV (fun x hx=>hsp x (by rw [hps];simp [hx]))
 refine ⟨ds,gs,before,[],pa,pv,hW,hres' _ _ _,hargs' _ hold,hvars' _ hold,World.keptBut_mono (fun p hp=>⟨hp,?_⟩) (hb.frame (·∈before)),fun h=>by cases h⟩
 rw [hps,List.mem_append] at hp
 exact Or.inr hp
end
section
variable {H:Type} {enc:TypeId×Value→H} {w:World} {base:Nat} {spare:Nat→Bool} {held:Bool}
theorem cells3:Tryz.prog.cellsOf 3=1:=by kernel_rfl
theorem cells4:Tryz.prog.cellsOf 4=1:=by kernel_rfl
theorem cells9:Tryz.prog.cellsOf 9=1:=by kernel_rfl
theorem cells23:Tryz.prog.cellsOf 32=4:=by kernel_rfl
theorem cells41:Tryz.prog.cellsOf 44=9:=by kernel_rfl
theorem cells43:Tryz.prog.cellsOf 83=3:=by kernel_rfl
end
structure DoP where
 what:Int
 n:Int
 a0:Int
 a1:Int
 a2:Int
 a3:Int
 t:TxP
 A:Option Addr
 c:Nat
instance : Inhabited DoP:=⟨⟨0,0,0,0,0,0,⟨0,0,0,0,0,0,0,0,[]⟩,none,0⟩⟩
structure KacP where
 what:Int
 k:Int
 n:Int
 data:ByteArray
 gone:Bool
instance : Inhabited KacP:=⟨⟨0,0,0,⟨#[]⟩,false⟩⟩
def KacsAt (w:World) (A:Option Addr) (l:List KacP):Prop:=∀ (i:Nat) (x:KacP),l[i]?=some x→(∃ b o,A=some ⟨b,o,none⟩∧b<w.heap.size∧
 w.cell? ⟨b,o+i*5,none⟩=some (.int .i64 x.what)∧w.cell? ⟨b,o+i*5+1,none⟩=some (.int .i64 x.k)∧w.cell? ⟨b,o+i*5+2,none⟩=some (.int .i64 x.n)∧w.cell? ⟨b,o+i*5+3,none⟩=some (.string x.data)∧w.cell? ⟨b,o+i*5+4,none⟩=some (.bool x.gone))∧(Lit.int .i64 x.what).wf=true∧(Lit.int .i64 x.k).wf=true∧(Lit.int .i64 x.n).wf=true∧x.data.size≤maxLen
theorem KacsAt.below {w w':World} {A:Option Addr} {l:List KacP} (h:KacsAt w A l) (hb:Below w.heap.size w w'):KacsAt w' A l:=fun i x hx=>by
 obtain ⟨⟨b,o,hA,hlt,h0,h1,h2,h3,h4⟩,i0,i1,i2,i3⟩:=h i x hx
 have e:∀ k,w'.cell? ⟨b,k,none⟩=w.cell? ⟨b,k,none⟩:=fun k=>hb.cell (p:=⟨b,k,none⟩) hlt
 exact ⟨⟨b,o,hA,Nat.lt_of_lt_of_le hlt hb.size,(e _).trans h0,(e _).trans h1,(e _).trans h2,(e _).trans h3,(e _).trans h4⟩,i0,i1,i2,i3⟩
section
variable {H:Type} {enc:TypeId×Value→H} {w:World} {base:Nat} {spare:Nat→Bool} {held:Bool}
theorem list5kac {α:Type} {cs:List α} (h:cs.length=5):∃ c0 c1 c2 c3 c4,cs=[c0,c1,c2,c3,c4]:=by
 match cs,h with
 | [c0,c1,c2,c3,c4],_=>exact ⟨c0,c1,c2,c3,c4,rfl⟩
theorem cellsKac:Tryz.prog.cellsOf 105=5:=by kernel_rfl
set_option maxRecDepth 20000 in
theorem open_kac {fuel:Nat} {cs:List Value} {x:DataW H×List MemPlace} (h:DataW.trod enc Tryz.prog w base spare held fuel 105 cs=some x):
  ∃ p:KacP,cs=[.int .i64 p.what,.int .i64 p.k,.int .i64 p.n,.string p.data,.bool p.gone]∧(Lit.int .i64 p.what).wf=true∧(Lit.int .i64 p.k).wf=true∧(Lit.int .i64 p.n).wf=true∧p.data.size≤maxLen:=by
 obtain ⟨xs,n,_,_,hl,hlen,hf⟩:=DataW.trod_struct Tryz.underlying105 h
 rw [cellsKac] at hl
 obtain ⟨c0,c1,c2,c3,c4,rfl⟩:=list5kac hl
 have get:∀ i,i<5→∃ x,xs[i]?=some x:=fun i hi=>⟨xs[i]'(by rw [hlen];simpa using hi),List.getElem?_eq_getElem _⟩
 obtain ⟨x0,g0⟩:=get 0 (by omega);obtain ⟨x1,g1⟩:=get 1 (by omega);obtain ⟨x2,g2⟩:=get 2 (by omega);obtain ⟨x3,g3⟩:=get 3 (by omega);obtain ⟨x4,g4⟩:=get 4 (by omega)
 have h0:=hf 0 _ rfl;have h1:=hf 1 _ rfl;have h2:=hf 2 _ rfl;have h3:=hf 3 _ rfl;have h4:=hf 4 _ rfl
 rw [g0] at h0;rw [g1] at h1;rw [g2] at h2;rw [g3] at h3;rw [g4] at h4
 simp [cells3,cells23,cells41,cells43,cells4,cells9] at h0 h1 h2 h3 h4
 obtain ⟨v0,e0,_,hw0⟩:=DataW.trod_int Tryz.underlying3 h0
 obtain ⟨v1,e1,_,hw1⟩:=DataW.trod_int Tryz.underlying3 h1
 obtain ⟨v2,e2,_,hw2⟩:=DataW.trod_int Tryz.underlying3 h2
 obtain ⟨v3,e3,_,hs3⟩:=DataW.trod_string Tryz.underlying9 h3
 obtain ⟨v4,e4,_⟩:=DataW.trod_bool Tryz.underlying4 h4
 simp at e0 e1 e2 e3 e4
 subst e0
 subst e1
 subst e2
 subst e3
 subst e4
 exact ⟨⟨v0,v1,v2,v3,v4⟩,rfl,hw0,hw1,hw2,hs3⟩
set_option maxRecDepth 20000 in
theorem open_kacs {r:Reach} {b0:Nat} {v:Value} {d:DataW H} {p:List MemPlace} (hv:Value.okWide Tryz.prog w r b0 101 v) (h:DataW.Trod enc Tryz.prog w base spare held 101 v d p):
  ∃ (A:Option Addr) (c:Nat) (ps:List KacP),v=.slice A ps.length c∧KacsAt w A ps∧ps.length≤maxLen:=by
 obtain ⟨a0,len0,cap0,rfl⟩:=okWide_slice Tryz.underlying101 hv
 obtain ⟨fuel,hf⟩:=h
 rcases Go.Deep.open_slice Tryz.underlying101 hf with ⟨hcs,_⟩ | ⟨a,len,cap,m,n,D,Pl,hcs,hb,hlc,hcm,hm,_,hi⟩
 ·simp [Value.cells] at hcs
  obtain ⟨rfl,rfl,rfl⟩:=hcs
  exact ⟨none,0,[],rfl,fun i x hx=>by simp at hx,Nat.zero_le _⟩
 ·simp [Value.cells] at hcs
  obtain ⟨rfl,rfl,rfl⟩:=hcs
  have hlm:len0≤m:=by rw [hm];split <;> omega
  rw [cellsKac] at hi
  have hy:∀ i,i<len0→∃ y:KacP,(w.cell? (a.add (i*5))=some (.int .i64 y.what)∧w.cell? ((a.add (i*5)).add 1)=some (.int .i64 y.k)∧w.cell? ((a.add (i*5)).add 2)=some (.int .i64 y.n)∧w.cell? ((a.add (i*5)).add 3)=some (.string y.data)∧w.cell? ((a.add (i*5)).add 4)=some (.bool y.gone))∧(Lit.int .i64 y.what).wf=true∧(Lit.int .i64 y.k).wf=true∧(Lit.int .i64 y.n).wf=true∧y.data.size≤maxLen:=by
   intro i hil
   obtain ⟨cs',h1,h2⟩:=hi i (by omega)
   obtain ⟨y,rfl,hrest⟩:=open_kac h2
   obtain ⟨_,_,hc⟩:=World.cells?_some h1
   have k0:=hc 0 (by simp)
   have e:(a.add (i*5)).add 0=a.add (i*5):=by simp [Addr.add]
   rw [e] at k0
   exact ⟨y,⟨k0,hc 1 (by simp),hc 2 (by simp),hc 3 (by simp),hc 4 (by simp)⟩,hrest⟩
  obtain ⟨Y,hY⟩:=Go.Deep.choose_lt (α:=KacP) hy
  refine ⟨some a,cap0,(List.range len0).map Y,by simp,fun i x hx=>?_,by simp;omega⟩
  have hil:i<len0:=by
   have:=(List.getElem?_eq_some_iff.1 hx).1
   simpa using this
  have hx':Y i=x:=by simpa [List.getElem?_map,List.getElem?_range hil] using hx
  subst hx'
  obtain ⟨⟨k0,k1,k2,k3,k4⟩,j1,j2,j3,j4⟩:=hY i hil
  have k00:=(hY 0 (by omega)).1.1
  have hsp:=World.cell?_spot k00
  obtain ⟨b,o,spot⟩:=a
  have hspot:spot=none:=by simpa [Addr.add] using hsp
  subst hspot
  have e:∀ (j o:Nat),(⟨b,o,none⟩:Addr).add j=⟨b,o+j,none⟩:=fun j o=>by unfold Addr.add;split <;> simp_all
  simp only [e] at k0 k1 k2 k3 k4
  exact ⟨⟨b,o,rfl,World.block_lt_of_cell? w _ k0,k0,k1,k2,k3,k4⟩,j1,j2,j3,j4⟩
end
end Go.Proofs.YtbopfhbeegkkaabGreatDoor
