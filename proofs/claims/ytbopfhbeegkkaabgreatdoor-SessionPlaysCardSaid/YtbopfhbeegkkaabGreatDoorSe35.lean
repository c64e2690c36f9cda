/- Part 35 of a proof: lemmas and contracts that other parts use. -/
import Derived.Test.YtbopfhbeegkkaabGreatDoorSe34
import Derived.Test.YtbopfhbeegkkaabGreatDoorSe26
import Derived.Test.YtbopfhbeegkkaabGreatDoorSe24
set_option linter.unusedVariables false
set_option linter.unusedSimpArgs false
set_option linter.constructorNameAsVariable false
namespace Go.Proofs.YtbopfhbeegkkaabGreatDoor
open Go.RowKit
section
variable {w0 w w':World} {n:Nat} {O:Nat→Ob}
theorem Mem.less (h:Mem w0 w n O) {m:Nat} (hm:m≤n):Mem w0 w m O:=
 ⟨h.low,fun i hi=>h.ok i (by omega),fun i hi=>h.at_ i (by omega),fun i j hi hj=>h.dis i j (by omega) (by omega)⟩
theorem Mem.size (h:Mem w0 w n O):w0.heap.size≤w.heap.size:=h.low.size
theorem Mem.new (h:Mem w0 w n O) (o:Obj):Mem w0 (w.alloc o) (n+1) (oset O n (obB w.heap.size o w0.heap.size)):=
 h.push (blw_alloc (Below.refl _ _)) (obB_ok ..) ⟨h.size,blk_new rfl _⟩ (fun b e=>by cases e;exact Nat.le_refl _) (fun b e=>e.elim)
theorem Mem.box (h:Mem w0 w n O) {i b:Nat} {o:Obj} (hi:i<n) (he:O i=obB b o w0.heap.size):w.heap[b]?=some o:=by
 have:=h.at_ i hi
 rw [he] at this
 exact this.2
theorem Mem.grow (h:Mem w0 w n O) {i b:Nat} {o o':Obj} (hi:i<n) (he:O i=obB b o w0.heap.size) (hg:w.grownBy w' (some b)) (ho:w'.heap[b]?=some o'):Mem w0 w' n (oset O i (obB b o' w0.heap.size)):=by
 have h1:=h.at_ i hi
 rw [he] at h1
 refine h.step hi (obB_ok ..) ⟨h1.1,ho⟩ ⟨hg.os,hg.tape,hg.output,hg.size,fun k hk hn=>hg.block k hk (fun e=>hn ?_),fun k hk=>.inl ?_⟩ (fun k e=>e.elim)
 ·rw [he];exact Option.some.inj e
 ·rw [he];exact hk
theorem Mem.set (h:Mem w0 w n O) {i b:Nat} {cs:Array Value} {t:TypeId} (hi:i<n) (he:O i=obB b (.cells cs t) w0.heap.size) (k:Nat) (v:Value):
  Mem w0 (w.setCell ⟨b,k,none⟩ v) n (oset O i (obB b (.cells (cs.setIfInBounds k v) t) w0.heap.size)):=
 h.grow hi he (grown_set w b k v) (blk_set (h.box hi he) k v)
theorem Mem.fill9 (h:Mem w0 w n O) {i b:Nat} {z0 z1 z2 z3 z4 z5 z6 z7 z8:Value} {t:TypeId} (hi:i<n) (he:O i=obB b (.cells #[z0,z1,z2,z3,z4,z5,z6,z7,z8] t) w0.heap.size) (u0 u1 u2 u3 u4 u5 u6 u7 u8:Value):
  Mem w0 (put9 w b u0 u1 u2 u3 u4 u5 u6 u7 u8) n (oset O i (obB b (.cells #[u0,u1,u2,u3,u4,u5,u6,u7,u8] t) w0.heap.size)):=
 h.grow hi he (put9_grown w b u0 u1 u2 u3 u4 u5 u6 u7 u8) (put9_blk (h.box hi he))
theorem Mem.fresh (h:Mem w0 w n O) {k b:Nat} (hk:k<n) (hb:w.heap.size≤b):¬(O k).own b:=fun e=>by
 have:=((h.ok k hk).lt w b (h.at_ k hk) e).2
 omega
end
section
variable {w0 w w':World} {n:Nat} {O:Nat→Ob}
theorem Mem.new1 (h:Mem w0 w n O) (a:Obj):∃ O',Mem w0 (w.alloc a) (n+1) O'∧(∀ k,k<n→O' k=O k)∧O' n=obB w.heap.size a w0.heap.size:=
 ⟨_,h.new a,fun k hk=>oset_other _ (by omega),oset_same ..⟩
theorem Mem.new2 (h:Mem w0 w n O) (a b:Obj):∃ O',Mem w0 ((w.alloc a).alloc b) (n+2) O'∧(∀ k,k<n→O' k=O k)∧O' n=obB w.heap.size a w0.heap.size∧O' (n+1)=obB (w.heap.size+1) b w0.heap.size:=by
 have h1:=(h.new a).new b
 rw [World.size_alloc] at h1
 exact ⟨_,h1,fun k hk=>by rw [oset_other _ (by omega),oset_other _ (by omega)],by rw [oset_other _ (by omega),oset_same],oset_same ..⟩
theorem Mem.fill9' (h:Mem w0 w n O) {i b:Nat} {z0 z1 z2 z3 z4 z5 z6 z7 z8:Value} {t:TypeId} (hi:i<n) (he:O i=obB b (.cells #[z0,z1,z2,z3,z4,z5,z6,z7,z8] t) w0.heap.size) (u0 u1 u2 u3 u4 u5 u6 u7 u8:Value):
  ∃ O',Mem w0 (put9 w b u0 u1 u2 u3 u4 u5 u6 u7 u8) n O'∧O' i=obB b (.cells #[u0,u1,u2,u3,u4,u5,u6,u7,u8] t) w0.heap.size∧∀ k,k≠i→O' k=O k:=
 ⟨_,h.fill9 hi he u0 u1 u2 u3 u4 u5 u6 u7 u8,oset_same ..,fun k hk=>oset_other _ hk⟩
def obWs (A:Option Addr) (ws:List WrP):Ob:=⟨fun w=>WsAt w A ws∧∀ b o,A=some ⟨b,o,none⟩→b<w.heap.size,fun _=>False,fun b=>∃ o,A=some ⟨b,o,none⟩⟩
theorem obWs_ok (A:Option Addr) (ws:List WrP) (B:Nat):(obWs A ws).Ok B:=
 ⟨fun w w' h hs hb=>⟨h.1.keep fun b o e=>hb b (.inr ⟨o,e⟩),fun b o e=>Nat.lt_of_lt_of_le (h.2 b o e) hs⟩,fun w b h e=>e.elim,fun w b h ⟨o,e⟩=>h.2 b o e⟩
theorem Mem.lend (h:Mem w0 w n O) {o:Ob} (ho:o.Ok w0.heap.size) (ha:o.at_ w) (hn:∀ b,¬o.own b) (hd:∀ b k,k<n→o.dat b→¬(O k).own b):Mem w0 w (n+1) (oset O n o):=by
 refine ⟨h.low,fun k hk=>?_,fun k hk=>?_,fun i j hi hj hij b hb=>?_⟩
 ·by_cases e:k=n
  ·subst e;rw [oset_same];exact ho
  ·rw [oset_other _ e];exact h.ok k (by omega)
 ·by_cases e:k=n
  ·subst e;rw [oset_same];exact ha
  ·rw [oset_other _ e];exact h.at_ k (by omega)
 ·by_cases e:i=n
  ·subst e;rw [oset_same] at hb;exact absurd hb (hn b)
  ·rw [oset_other _ e] at hb
   by_cases e2:j=n
   ·subst e2
    rw [oset_same]
    exact ⟨hn b,fun e3=>hd b i (by omega) e3 hb⟩
   ·rw [oset_other _ e2]
    exact h.dis i j (by omega) (by omega) hij b hb
theorem Mem.lend1 (h:Mem w0 w n O) {o:Ob} (ho:o.Ok w0.heap.size) (ha:o.at_ w) (hn:∀ b,¬o.own b) (hd:∀ b k,k<n→o.dat b→¬(O k).own b):∃ O',Mem w0 w (n+1) O'∧(∀ k,k<n→O' k=O k)∧O' n=o:=
 ⟨_,h.lend ho ha hn hd,fun k hk=>oset_other _ (by omega),oset_same ..⟩
theorem Mem.step1 (h:Mem w0 w n O) {i:Nat} (hi:i<n) {o:Ob} (ho:o.Ok w0.heap.size) (hat:o.at_ w') (fr:SiFr w w' (O i).own o.own) (hd:∀ b,o.dat b→(O i).dat b∨w.heap.size≤b):∃ O',Mem w0 w' n O'∧O' i=o∧∀ k,k≠i→O' k=O k:=
 ⟨_,h.step hi ho hat fr hd,oset_same ..,fun k hk=>oset_other _ hk⟩
theorem Mem.pick (h:Mem w0 w n O) {m:Nat} (f:Nat→Nat) (hf:∀ k,k<m→f k<n) (hi:∀ j k,j<m→k<m→f j=f k→j=k):Mem w0 w m (fun k=>O (f k)):=
 ⟨h.low,fun k hk=>h.ok _ (hf k hk),fun k hk=>h.at_ _ (hf k hk),fun j k hj hk hne=>h.dis _ _ (hf j hj) (hf k hk) (fun e=>hne (hi j k hj hk e))⟩
end
end Go.Proofs.YtbopfhbeegkkaabGreatDoor
namespace Go.Proofs.YtbopfhbeegkkaabGreatDoor
def txZP:TxP:=⟨0,0,0,0,0,0,0,0,[]⟩
def dCommitL (d:SdP):List WrP:=allW d.W 8
def dCommitE (d:SdP) (s:RSi) (now:Int):Int:=
 if d.op=false then 6 else if dCommitL d=[] then 0 else rCommitE s now d.n0 d.n1 d.n2 d.n3 (dCommitL d)
def dCommitT (d:SdP) (s:RSi) (now:Int):TxP:=if dCommitL d=[] then txZP else rCommitT s now d.n0 d.n1 d.n2 d.n3 (dCommitL d)
def dCommitS (d:SdP) (s:RSi) (now:Int):RSi:=if dCommitL d=[] then s else rApply s (dCommitT d s now)
def dCommitD (d:SdP) (s:RSi) (now:Int):SdP:=if dCommitL d=[] then sdAbort d else sdAt (sdAbort d) (dCommitT d s now).site (dCommitT d s now).seq
end Go.Proofs.YtbopfhbeegkkaabGreatDoor
namespace Go.Proofs.YtbopfhbeegkkaabGreatDoor
open Go.RowKit
set_option maxRecDepth 20000 in
set_option maxHeartbeats 8000000 in
theorem rSCommit_shut (B v y:Nat) (d:SdP) (wv:Value) (now:Int) (w:World) (h:SdAt w B v d wv) (ho:d.op=false):
  Calls Tryz.prog 44 #[.pointer (some ⟨v,0,none⟩),.pointer (some ⟨y,0,none⟩),.int .i64 now] w fun e w'=>e=.returned (.tuple #[txZero,.int .i64 6])∧Below w.heap.size w w':=by
 obtain ⟨q0,q1,q2,q3,n0,n1,n2,n3,op,W⟩:=d
 simp only at ho
 subst ho
 have hb:=h.blk
 simp only at hb
 have c8:=cell_blk hb 8
 simp only [zC,zD,zE] at c8
 haveI:SzGe (v+1) w:=⟨lt_blk hb⟩
 clear h hb
 go_enter Tryz.func44,Tryz.ntmps44
 go_wp2_with fail
 refine bodyPost_ret (v:=.tuple #[txZero,.int .i64 6]) ?_ rfl ⟨rfl,?_⟩
 ·simp [results,Tryz.results44,go_sem,txZero]
 ·exact (by repeat (first | exact Below.refl _ _ | refine blw_alloc ?_ | refine blw_plus ?_ | refine Below.drew ?_))
set_option maxRecDepth 20000 in
set_option maxHeartbeats 8000000 in
theorem rSCommit_none (B v y:Nat) (d:SdP) (wv:Value) (now:Int) (w:World) (h:SdAt w B v d wv) (ho:d.op=true) (hn:d.W.length≤900) (hl:allW d.W 8=[]) (hq:0≤d.q0):
  Calls Tryz.prog 44 #[.pointer (some ⟨v,0,none⟩),.pointer (some ⟨y,0,none⟩),.int .i64 now] w fun e w'=>e=.returned (.tuple #[txZero,.int .i64 0])∧SdAt w' B v (sdAbort d) (.slice none 0 0)∧SiFr w w' (SdOwn v wv) (SdOwn v (.slice none 0 0)):=by
 obtain ⟨A,c,rfl,hws⟩:=h.ws
 have HS:=hidp h
 have hb:=h.blk
 obtain ⟨q0,q1,q2,q3,n0,n1,n2,n3,op,W⟩:=d
 simp only at ho hb hn hl hws hq
 subst ho
 have c8:=cell_blk hb 8
 simp only [zC,zD,zE] at c8
 have HVL:=hidp (lt_blk hb)
 haveI:SzGe (v+1) w:=⟨lt_blk hb⟩
 have HAL:=hidp fun (X:World) (hB:Below w.heap.size w X)=>allW_any v A c W X ((hB.cell (p:=⟨v,9,none⟩) HVL.out).trans (cell_blk hb 9)) (Nat.lt_of_lt_of_le HVL.out hB.size) (hws.below hB) (by omega)
 rw [hl] at HAL
 have HAB:=hidp fun (X:World) (hX:SdAt X B v ⟨q0,q1,q2,q3,n0,n1,n2,n3,true,W⟩ (.slice A W.length c))=>rAbort_any B v _ _ X hX
 have hge:decide (max q0 n0<0)=false:=decide_eq_false (by omega)
 clear h hb hws hl hq
 go_enter Tryz.func44,Tryz.ntmps44
 go_wp2_with fail
 go_at_call 97
 refine (HAL.out _ (by repeat (first | exact Below.refl _ _ | refine blw_alloc ?_ | refine blw_plus ?_ | refine Below.drew ?_))).mono ?_
 rintro e w2 ⟨A2,c2,rfl,_,hb2⟩
 have HB2:Hid (Below w.heap.size w w2):=hidp ((show Below w.heap.size w ((w.alloc (.cells #[.int .i64 0,.int .i64 0,.int .i64 0,.int .i64 0,.int .i64 0,.int .i64 0,.int .i64 0,.int .i64 0,.slice none 0 0] 44)).alloc (.cells #[.int .i64 0,.int .i64 0,.int .i64 0,.int .i64 0,.int .i64 0,.int .i64 0,.int .i64 0,.int .i64 0,.slice none 0 0] 44)) from zB).trans (hb2.mono (by simp;omega)))
 have HT6:Hid (w2.heap[w.heap.size]?=some (.cells #[.int .i64 0,.int .i64 0,.int .i64 0,.int .i64 0,.int .i64 0,.int .i64 0,.int .i64 0,.int .i64 0,.slice none 0 0] 44)):=hidp ((hb2.block _ (by simp;omega)).trans (blk_alloc (blk_new rfl _) _))
 have HT8:Hid (w2.heap[w.heap.size+1]?=some (.cells #[.int .i64 0,.int .i64 0,.int .i64 0,.int .i64 0,.int .i64 0,.int .i64 0,.int .i64 0,.int .i64 0,.slice none 0 0] 44)):=hidp ((hb2.block _ (by simp)).trans (blk_new (by simp) _))
 clear hb2 HAL c8
 have d0:decide ((0:Int)<(([]:List WrP).length:Int))=false:=by decide
 simp only [List.length_nil]
 go_wp2_with fail
 go_at_call 47
 refine (HAB.out w2 (HS.out.below HB2.out)).mono ?_
 rintro e w3 ⟨_,g2⟩
 obtain ⟨rfl,hs3,hf3⟩:=g2 (by first | rfl | trivial)
 have HS3:=hidp hs3
 have HF3:=hidp hf3
 have hno:∀ k,w.heap.size≤k→¬SdOwn v (.slice A W.length c) k:=fun k hk e=>by have:=(HS.out.lt e).2;omega
 have hx6:=(hf3.block _ (lt_blk HT6.out) (hno _ (Nat.le_refl _))).trans HT6.out
 have hx8:=(hf3.block _ (lt_blk HT8.out) (hno _ (by omega))).trans HT8.out
 have hbv:=hs3.blk
 simp only [sdAbort] at hbv
 have a0:=cell_blk hbv 0
 have s0:=cell_blk hx8 0;have s1:=cell_blk hx8 1;have s2:=cell_blk hx8 2;have s3:=cell_blk hx8 3;have s4:=cell_blk hx8 4;have s5:=cell_blk hx8 5;have s6:=cell_blk hx8 6;have s7:=cell_blk hx8 7;have s8:=cell_blk hx8 8
 simp only [zC,zD,zE] at a0 s0 s1 s2 s3 s4 s5 s6 s7 s8
 have r0:=frozen_blk hx6 0;have r1:=frozen_blk hx6 1;have r2:=frozen_blk hx6 2;have r3:=frozen_blk hx6 3;have r4:=frozen_blk hx6 4;have r5:=frozen_blk hx6 5;have r6:=frozen_blk hx6 6;have r7:=frozen_blk hx6 7;have r8:=frozen_blk hx6 8
 have t0:=cell_blk hx6 0;have t1:=cell_blk hx6 1;have t2:=cell_blk hx6 2;have t3:=cell_blk hx6 3;have t4:=cell_blk hx6 4;have t5:=cell_blk hx6 5;have t6:=cell_blk hx6 6;have t7:=cell_blk hx6 7;have t8:=cell_blk hx6 8
 simp only [zC,zD,zE] at t0 t1 t2 t3 t4 t5 t6 t7 t8
 haveI:SzGe (v+1) w3:=⟨lt_blk hbv⟩
 haveI:SzGe (w.heap.size+1) w3:=⟨lt_blk hx6⟩
 haveI:SzGe (w.heap.size+1+1) w3:=⟨lt_blk hx8⟩
 have HX6:=hidp hx6
 clear hs3 hf3 hbv hx6 hx8 hno g2 HAB
 go_wp2_with fail
 refine wp_region_plus (by kernel_rfl) (by kernel_rfl) ?_
 repeat (first | go_big_quiet_skip | (go_big_quiet_want;go_big_quiet_op;first | go_big_quiet_on))
 refine wpQuiet_nil ?_
 rintro _ ⟨x4,rfl⟩
 go_wp2_with fail
 refine bodyPost_ret (v:=.tuple #[txZero,.int .i64 0]) ?_ rfl ⟨rfl,?_⟩
 ·simp [results,Tryz.results44,go_sem,txZero, *]
 ·have hvl:=HVL.out
  have hf:=((SiFr.of_below (SdOwn v (.slice A W.length c)) HB2.out).trans HF3.out)
  have hc:∀ (X:World) (i:Nat) (u:Value),(SdAt X B v (sdAbort ⟨q0,q1,q2,q3,n0,n1,n2,n3,true,W⟩) (.slice none 0 0)∧SiFr w X (SdOwn v (.slice A W.length c)) (SdOwn v (.slice none 0 0)))→(SdAt (X.setCell ⟨w.heap.size,i,none⟩ u) B v (sdAbort ⟨q0,q1,q2,q3,n0,n1,n2,n3,true,W⟩) (.slice none 0 0)∧SiFr w (X.setCell ⟨w.heap.size,i,none⟩ u) (SdOwn v (.slice A W.length c)) (SdOwn v (.slice none 0 0))):=fun X i u hx=>by
   have hg:=grown_set X w.heap.size i u
   refine ⟨hx.1.same fun b hb=>hg.block b (hx.1.lt hb).2 (fun e=>?_),⟨hx.2.os,hx.2.tape,hx.2.output,by have:=hx.2.size;simp [World.setCell];omega,fun b hb hn=>(hg.block b (Nat.lt_of_lt_of_le hb hx.2.size) (fun e=>by simp at e;omega)).trans (hx.2.block b hb hn),hx.2.own⟩⟩
   rcases hb with e2 | e2
   ·simp at e;omega
   ·simp [Value.ownBlock] at e2
  have h9:=(hc _ 8 (.slice none 0 0) (hc _ 7 (.int .i64 0) (hc _ 6 (.int .i64 0) (hc _ 5 (.int .i64 0) (hc _ 4 (.int .i64 0) (hc _ 3 (.int .i64 0) (hc _ 2 (.int .i64 0) (hc _ 1 (.int .i64 0) (hc w3 0 (.int .i64 0) ⟨HS3.out,hf⟩)))))))))
  clear HS3 HF3 hf hc HX6 a0 s0 s1 s2 s3 s4 s5 s6 s7 s8 r0 r1 r2 r3 r4 r5 r6 r7 r8 t0 t1 t2 t3 t4 t5 t6 t7 t8
  generalize ((((((((w3.setCell ⟨w.heap.size,0,none⟩ (.int .i64 0)).setCell ⟨w.heap.size,1,none⟩ (.int .i64 0)).setCell ⟨w.heap.size,2,none⟩ (.int .i64 0)).setCell ⟨w.heap.size,3,none⟩ (.int .i64 0)).setCell ⟨w.heap.size,4,none⟩ (.int .i64 0)).setCell ⟨w.heap.size,5,none⟩ (.int .i64 0)).setCell ⟨w.heap.size,6,none⟩ (.int .i64 0)).setCell ⟨w.heap.size,7,none⟩ (.int .i64 0)).setCell ⟨w.heap.size,8,none⟩ (.slice none 0 0)=W1 at *
  exact ⟨h9.1.below (by repeat (first | exact Below.refl _ _ | refine blw_alloc ?_ | refine blw_plus ?_ | refine Below.drew ?_)),h9.2.trans (SiFr.of_below _ (show Below W1.heap.size W1 (wplus W1 x4) from zB))⟩
end Go.Proofs.YtbopfhbeegkkaabGreatDoor
