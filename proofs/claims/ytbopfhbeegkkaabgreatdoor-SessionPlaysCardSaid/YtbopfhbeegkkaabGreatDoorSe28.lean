/- Part 28 of a proof: lemmas and contracts that other parts use. -/
import Derived.Test.YtbopfhbeegkkaabGreatDoorSe26
import Derived.Test.YtbopfhbeegkkaabGreatDoorSe27
import Derived.Test.YtbopfhbeegkkaabGreatDoorSe18
import Derived.Deep.RegionHeld3
set_option linter.unusedVariables false
set_option linter.unusedSimpArgs false
set_option linter.constructorNameAsVariable false
namespace Go.Proofs.YtbopfhbeegkkaabGreatDoor
open Go.RowKit
structure Ob where
 at_:World→Prop
 own:Nat→Prop
 dat:Nat→Prop
instance : Inhabited Ob := ⟨⟨fun _ => True, fun _ => False, fun _ => False⟩⟩
structure Ob.Ok (B:Nat) (o:Ob):Prop where
 same:∀ w w',o.at_ w→w.heap.size≤w'.heap.size→(∀ b,o.own b∨o.dat b→w'.heap[b]?=w.heap[b]?)→o.at_ w'
 lt:∀ w b,o.at_ w→o.own b→B≤b∧b<w.heap.size
 dlt:∀ w b,o.at_ w→o.dat b→b<w.heap.size
def oset (O:Nat→Ob) (i:Nat) (o:Ob):Nat→Ob:=fun k=>if k=i then o else O k
theorem oset_same (O:Nat→Ob) (i:Nat) (o:Ob):oset O i o i=o:=if_pos rfl
theorem oset_other {O:Nat→Ob} {i k:Nat} (o:Ob) (h:k≠i):oset O i o k=O k:=if_neg h
structure Mem (w0 w:World) (n:Nat) (O:Nat→Ob):Prop where
 low:Below w0.heap.size w0 w
 ok:∀ i,i<n→(O i).Ok w0.heap.size
 at_:∀ i,i<n→(O i).at_ w
 dis:∀ i j,i<n→j<n→i≠j→∀ b,(O i).own b→¬(O j).own b∧¬(O j).dat b
section
variable {w0 w w':World} {n:Nat} {O:Nat→Ob}
theorem Mem.below (h:Mem w0 w n O) (hb:Below w.heap.size w w'):Mem w0 w' n O:=
 ⟨h.low.trans (hb.mono h.low.size),h.ok,fun i hi=>(h.ok i hi).same w w' (h.at_ i hi) hb.size (fun b hb'=>hb.block b (hb'.elim (fun e=>((h.ok i hi).lt w b (h.at_ i hi) e).2) ((h.ok i hi).dlt w b (h.at_ i hi)))),h.dis⟩
theorem Mem.step (h:Mem w0 w n O) {i:Nat} (hi:i<n) {o:Ob} (ho:o.Ok w0.heap.size) (hat:o.at_ w') (fr:SiFr w w' (O i).own o.own) (hd:∀ b,o.dat b→(O i).dat b∨w.heap.size≤b):Mem w0 w' n (oset O i o):=by
 have hlt:∀ b,(O i).own b→w0.heap.size≤b:=fun b e=>((h.ok i hi).lt w b (h.at_ i hi) e).1
 have hkeep:∀ k,k<n→k≠i→(O k).at_ w':=fun k hk hne=>(h.ok k hk).same w w' (h.at_ k hk) fr.size fun b hb=>fr.block b (hb.elim (fun e=>((h.ok k hk).lt w b (h.at_ k hk) e).2) ((h.ok k hk).dlt w b (h.at_ k hk))) fun e=>by
  obtain ⟨h1,h2⟩:=h.dis i k hi hk (Ne.symm hne) b e
  exact hb.elim h1 h2
 refine ⟨h.low.trans ⟨fr.os,fr.tape,fr.output,fr.size,fun k hk=>fr.block k (Nat.lt_of_lt_of_le hk h.low.size) fun e=>by have:=hlt k e;omega⟩,fun k hk=>?_,fun k hk=>?_,fun j k hj hk hne b hb=>?_⟩
 ·by_cases e:k=i
  ·subst e;rw [oset_same];exact ho
  ·rw [oset_other _ e];exact h.ok k hk
 ·by_cases e:k=i
  ·subst e;rw [oset_same];exact hat
  ·rw [oset_other _ e];exact hkeep k hk e
 ·by_cases e:j=i
  ·subst e
   rw [oset_same] at hb
   have hk2:k≠j:=Ne.symm hne
   rw [oset_other _ hk2]
   rcases fr.own b hb with h1 | h1
   ·exact h.dis j k hj hk hne b h1
   ·exact ⟨fun e=>by have:=((h.ok k hk).lt w b (h.at_ k hk) e).2;omega,fun e=>by have:=(h.ok k hk).dlt w b (h.at_ k hk) e;omega⟩
  ·rw [oset_other _ e] at hb
   have hbl:=((h.ok j hj).lt w b (h.at_ j hj) hb).2
   by_cases e2:k=i
   ·subst e2
    rw [oset_same]
    obtain ⟨h1,h2⟩:=h.dis j k hj hk hne b hb
    refine ⟨fun e3=>?_,fun e3=>?_⟩
    ·rcases fr.own b e3 with h3 | h3
     ·exact h1 h3
     ·omega
    ·rcases hd b e3 with h3 | h3
     ·exact h2 h3
     ·omega
   ·rw [oset_other _ e2]
    exact h.dis j k hj hk hne b hb
theorem Mem.push (h:Mem w0 w n O) {o:Ob} (hb:Below w.heap.size w w') (ho:o.Ok w0.heap.size) (hat:o.at_ w') (hn:∀ b,o.own b→w.heap.size≤b) (hd:∀ b,o.dat b→w.heap.size≤b):Mem w0 w' (n+1) (oset O n o):=by
 have h2:=h.below hb
 refine ⟨h2.low,fun k hk=>?_,fun k hk=>?_,fun j k hj hk hne b hb'=>?_⟩
 ·by_cases e:k=n
  ·subst e;rw [oset_same];exact ho
  ·rw [oset_other _ e];exact h2.ok k (by omega)
 ·by_cases e:k=n
  ·subst e;rw [oset_same];exact hat
  ·rw [oset_other _ e];exact h2.at_ k (by omega)
 ·by_cases e:j=n
  ·subst e
   rw [oset_same] at hb'
   have hk2:k<j:=by omega
   rw [oset_other _ (by omega)]
   have:=hn b hb'
   exact ⟨fun e=>by have:=((h.ok k hk2).lt w b (h.at_ k hk2) e).2;omega,fun e=>by have:=(h.ok k hk2).dlt w b (h.at_ k hk2) e;omega⟩
  ·rw [oset_other _ e] at hb'
   have hj2:j<n:=by omega
   have hbl:=((h.ok j hj2).lt w b (h.at_ j hj2) hb').2
   by_cases e2:k=n
   ·subst e2
    rw [oset_same]
    exact ⟨fun e=>by have:=hn b e;omega,fun e=>by have:=hd b e;omega⟩
   ·rw [oset_other _ e2]
    exact h.dis j k hj2 (by omega) hne b hb'
end
def obS (B x mb:Nat) (s:SiP) (lv:Value) (sv:Nat→Value):Ob:=⟨fun w=>SiAt w B x s mb lv sv,SiOwn x mb lv sv,fun b=>∃ m o,s.has m∧m.A=some ⟨b,o,none⟩⟩
theorem obS_ok (B x mb:Nat) (s:SiP) (lv:Value) (sv:Nat→Value):(obS B x mb s lv sv).Ok B:=
 ⟨fun w w' h hs hb=>SiAt.same h hs (fun b e=>hb b (.inl e)) (fun m hm b o e=>hb b (.inr ⟨m,o,hm,e⟩)),fun w b h e=>SiAt.lt h e,fun w b h ⟨m,o,hm,e⟩=>(SiAt.dat h m hm).2 b o e |>.1⟩
def obR (B y:Nat) (r:RsP) (lr:Value) (wA:Option Addr) (wc:Nat) (av:Value):Ob:=⟨fun w=>RsAt w B y r lr wA wc av,RsOwn y lr av,fun b=>(∃ o,wA=some ⟨b,o,none⟩)∨∃ m o,r.has m∧m.A=some ⟨b,o,none⟩⟩
theorem obR_ok (B y:Nat) (r:RsP) (lr:Value) (wA:Option Addr) (wc:Nat) (av:Value):(obR B y r lr wA wc av).Ok B:=
 ⟨fun w w' h hs hb=>RsAt.same h hs (fun b e=>hb b (.inl e)) (fun b o e=>hb b (.inr (.inl ⟨o,e⟩))) (fun m hm b o e=>hb b (.inr (.inr ⟨m,o,hm,e⟩))),fun w b h e=>RsAt.lt h e,fun w b h e=>by
   rcases e with ⟨o,e⟩ | ⟨m,o,hm,e⟩
   ·exact (RsAt.wat h).2.2 b o e |>.1
   ·exact (RsAt.dat h m hm).2 b o e |>.1⟩
def obD (B v:Nat) (d:SdP) (wv:Value):Ob:=⟨fun w=>SdAt w B v d wv,SdOwn v wv,fun _=>False⟩
theorem obD_ok (B v:Nat) (d:SdP) (wv:Value):(obD B v d wv).Ok B:=
 ⟨fun w w' h hs hb=>SdAt.same h (fun b e=>hb b (.inl e)),fun w b h e=>SdAt.lt h e,fun w b h e=>e.elim⟩
def obB (b:Nat) (o:Obj) (B:Nat):Ob:=⟨fun w=>B≤b∧w.heap[b]?=some o,fun k=>k=b,fun _=>False⟩
theorem obB_ok (b:Nat) (o:Obj) (B:Nat):(obB b o B).Ok B:=
 ⟨fun w w' h hs hb=>⟨h.1,(hb b (.inl rfl)).trans h.2⟩,fun w k h e=>by cases e;exact ⟨h.1,lt_blk h.2⟩,fun w b h e=>e.elim⟩
structure SnP where
 q0:Int
 q1:Int
 q2:Int
 q3:Int
 n0:Int
 n1:Int
 n2:Int
 n3:Int
 op:Bool
 m:Int→Option WrP
 mn:Nat
def SnOwn (u:Nat) (mv:Option Nat) (b:Nat):Prop:=b=u∨mv=some b
structure SnAt (w:World) (B u:Nat) (s:SnP) (mv:Option Nat):Prop where
 blk:w.heap[u]?=some (.cells #[.int .i64 s.q0,.int .i64 s.q1,.int .i64 s.q2,.int .i64 s.q3,.int .i64 s.n0,.int .i64 s.n1,.int .i64 s.n2,.int .i64 s.n3,.bool s.op,.map mv] 171)
 mp:∀ mb,mv=some mb→WpAt w mb s.m s.mn∧B≤mb∧mb≠u
 opn:s.op=true→mv≠none
 bx:B≤u
theorem SnAt.lt {w:World} {B u:Nat} {s:SnP} {mv:Option Nat} (h:SnAt w B u s mv) {b:Nat} (hb:SnOwn u mv b):B≤b∧b<w.heap.size:=by
 rcases hb with rfl | hb
 ·exact ⟨h.bx,lt_blk h.blk⟩
 ·exact ⟨(h.mp b hb).2.1,(h.mp b hb).1.lt⟩
theorem SnAt.same {w w':World} {B u:Nat} {s:SnP} {mv:Option Nat} (h:SnAt w B u s mv) (ho:∀ b,SnOwn u mv b→w'.heap[b]?=w.heap[b]?):SnAt w' B u s mv:=
 ⟨(ho u (.inl rfl)).trans h.blk,fun mb e=>⟨(h.mp mb e).1.block (ho mb (.inr e)),(h.mp mb e).2⟩,h.opn,h.bx⟩
theorem SnAt.below {w w':World} {B u:Nat} {s:SnP} {mv:Option Nat} (h:SnAt w B u s mv) (hb:Below w.heap.size w w'):SnAt w' B u s mv:=h.same fun b hb'=>hb.block b (h.lt hb').2
def obN (B u:Nat) (s:SnP) (mv:Option Nat):Ob:=⟨fun w=>SnAt w B u s mv,SnOwn u mv,fun _=>False⟩
theorem obN_ok (B u:Nat) (s:SnP) (mv:Option Nat):(obN B u s mv).Ok B:=
 ⟨fun w w' h hs hb=>SnAt.same h (fun b e=>hb b (.inl e)),fun w b h e=>SnAt.lt h e,fun w b h e=>e.elim⟩
def snNew:SnP:=⟨0,0,0,0,0,0,0,0,false,fun _=>none,0⟩
set_option maxRecDepth 20000 in
theorem sNew_any (w:World):Calls Tryz.prog 37 #[] w fun e w'=>e=.returned (.pointer (some ⟨w.heap.size,0,none⟩))∧SnAt w' w.heap.size w.heap.size snNew none∧Below w.heap.size w w':=by
 go_enter Tryz.func37,Tryz.ntmps37
 go_wp2_with fail
 go_ret
 exact ⟨rfl,⟨blk_new rfl _,fun mb e=>(by cases e),fun e=>(by cases e),Nat.le_refl _⟩,zB⟩
section
variable {w:World} {B u:Nat} {s:SnP} {mv:Option Nat}
set_option maxRecDepth 20000 in
theorem sPast_any (h:SnAt w B u s mv):Calls Tryz.prog 48 #[.pointer (some ⟨u,0,none⟩)] w fun e w'=>e=.returned (.agg #[.int .i64 s.q0,.int .i64 s.q1,.int .i64 s.q2,.int .i64 s.q3])∧Below w.heap.size w w':=by
 have hb:=h.blk
 have c0:=cell_blk hb 0;have c1:=cell_blk hb 1;have c2:=cell_blk hb 2;have c3:=cell_blk hb 3
 simp only [zC,zD,zE] at c0 c1 c2 c3
 haveI:SzGe (u+1) w:=⟨lt_blk hb⟩
 clear h hb
 go_enter Tryz.func48,Tryz.ntmps48
 go_wp2_with fail
 refine bodyPost_ret (v:=.agg #[.int .i64 s.q0,.int .i64 s.q1,.int .i64 s.q2,.int .i64 s.q3]) ?_ rfl ⟨rfl,zB⟩
 simp [results,Tryz.results48,go_sem]
set_option maxRecDepth 20000 in
theorem sSnap_any (h:SnAt w B u s mv):Calls Tryz.prog 49 #[.pointer (some ⟨u,0,none⟩)] w fun e w'=>e=.returned (.agg #[.int .i64 s.n0,.int .i64 s.n1,.int .i64 s.n2,.int .i64 s.n3])∧Below w.heap.size w w':=by
 have hb:=h.blk
 have c4:=cell_blk hb 4;have c5:=cell_blk hb 5;have c6:=cell_blk hb 6;have c7:=cell_blk hb 7
 simp only [zC,zD,zE] at c4 c5 c6 c7
 haveI:SzGe (u+1) w:=⟨lt_blk hb⟩
 clear h hb
 go_enter Tryz.func49,Tryz.ntmps49
 go_wp2_with fail
 refine bodyPost_ret (v:=.agg #[.int .i64 s.n0,.int .i64 s.n1,.int .i64 s.n2,.int .i64 s.n3]) ?_ rfl ⟨rfl,zB⟩
 simp [results,Tryz.results49,go_sem]
set_option maxRecDepth 20000 in
theorem sOpen_any (h:SnAt w B u s mv):Calls Tryz.prog 50 #[.pointer (some ⟨u,0,none⟩)] w fun e w'=>e=.returned (.bool s.op)∧Below w.heap.size w w':=by
 have hb:=h.blk
 have c8:=cell_blk hb 8
 simp only [zC,zD,zE] at c8
 haveI:SzGe (u+1) w:=⟨lt_blk hb⟩
 clear h hb
 go_enter Tryz.func50,Tryz.ntmps50
 go_wp2_with fail
 go_ret
 exact ⟨rfl,zB⟩
end
def snBegin (s:SnP) (p0 p1 p2 p3:Int):SnP:={ s with n0:=p0,n1:=p1,n2:=p2,n3:=p3,op:=true,m:=fun _=>none,mn:=0 }
def snBeginE (s:SnP) (p0 p1 p2 p3:Int):Int:=if s.op=true then 6 else if covD p0 p1 p2 p3 s.q0 s.q1 s.q2 s.q3=false then 10 else 0
theorem SiFr.setN {w:World} {u i:Nat} {mv:Option Nat} (v:Value):SiFr w (w.setCell ⟨u,i,none⟩ v) (SnOwn u mv) (SnOwn u mv):=
 ⟨rfl,rfl,rfl,by simp [World.setCell],fun k hk hn=>(grown_set w u i v).block k hk (by simp;exact fun e=>hn (.inl e)),fun _ h=>.inl h⟩
set_option maxRecDepth 20000 in
set_option maxHeartbeats 8000000 in
theorem sBegin_any (B u x:Nat) (s:SnP) (mv:Option Nat) (p0 p1 p2 p3:Int) (w:World) (h:SnAt w B u s mv)
  (hap:∀ W,Below w.heap.size w W→Calls Tryz.prog 26 #[.pointer (some ⟨x,0,none⟩)] W fun e w'=>e=.returned (.agg #[.int .i64 p0,.int .i64 p1,.int .i64 p2,.int .i64 p3])∧Below W.heap.size W w'):
  Calls Tryz.prog 38 #[.pointer (some ⟨u,0,none⟩),.pointer (some ⟨x,0,none⟩)] w fun e w'=>e=.returned (errV (snBeginE s p0 p1 p2 p3))∧(snBeginE s p0 p1 p2 p3≠0→Below w.heap.size w w')∧
   (snBeginE s p0 p1 p2 p3=0→∃ mb,SnAt w' B u (snBegin s p0 p1 p2 p3) (some mb)∧SiFr w w' (SnOwn u mv) (SnOwn u (some mb))):=by
 have HS:=hidp h
 have hb:=h.blk
 obtain ⟨q0,q1,q2,q3,n0,n1,n2,n3,op,m,mn⟩:=s
 simp only at hb
 have c0:=cell_blk hb 0;have c1:=cell_blk hb 1;have c2:=cell_blk hb 2;have c3:=cell_blk hb 3;have c4:=cell_blk hb 4;have c5:=cell_blk hb 5;have c6:=cell_blk hb 6;have c7:=cell_blk hb 7;have c8:=cell_blk hb 8;have c9:=cell_blk hb 9
 simp only [zC,zD,zE] at c0 c1 c2 c3 c4 c5 c6 c7 c8 c9
 have z0:=frozen_blk hb 0;have z1:=frozen_blk hb 1;have z2:=frozen_blk hb 2;have z3:=frozen_blk hb 3;have z4:=frozen_blk hb 4;have z5:=frozen_blk hb 5;have z6:=frozen_blk hb 6;have z7:=frozen_blk hb 7;have z8:=frozen_blk hb 8;have z9:=frozen_blk hb 9
 haveI:SzGe (u+1) w:=⟨lt_blk hb⟩
 have HBK:=hidp hb
 have HAP:=hidp hap
 have hmm:=@run_makeMap Tryz.prog
 clear h hb hap
 have HE:Hid (snBeginE ⟨q0,q1,q2,q3,n0,n1,n2,n3,op,m,mn⟩ p0 p1 p2 p3=if op=true then 6 else if covD p0 p1 p2 p3 q0 q1 q2 q3=false then 10 else 0):=hidp rfl
 generalize snBeginE ⟨q0,q1,q2,q3,n0,n1,n2,n3,op,m,mn⟩ p0 p1 p2 p3=E at *
 cases op with
 | true=>
   have HE2:Hid (E=6):=hidp (by rw [HE.out];rfl)
   clear HE
   go_enter Tryz.func38,Tryz.ntmps38
   go_wp2_with fail
   go_ret
   exact ⟨by rw [HE2.out];rfl,fun _=>(by repeat (first | exact Below.refl _ _ | refine blw_alloc ?_ | refine blw_plus ?_ | refine Below.drew ?_)),fun e=>by rw [HE2.out] at e;cases e⟩
 | false=>
   cases hcv:covD p0 p1 p2 p3 q0 q1 q2 q3 with
   | false=>
     have HCV:=hidp fun X=>covers_is hcv X
     have HE2:Hid (E=10):=hidp (by rw [HE.out,hcv];rfl)
     clear HE hcv
     go_enter Tryz.func38,Tryz.ntmps38
     go_wp2_with fail
     refine wp_region_plus (by kernel_rfl) (by kernel_rfl) ?_
     repeat (first | go_big_quiet_skip | (go_big_quiet_want;go_big_quiet_op;first | go_big_quiet_on | (apply Exists.intro;refine ⟨fun _=>?_,?_⟩;(first | (go_at_call 26;exact Calls.plus_of (HAP.out _ (by repeat (first | exact Below.refl _ _ | refine blw_alloc ?_ | refine blw_plus ?_ | refine Below.drew ?_)))) | (go_at_call 55;exact Calls.plus_of (HCV.out _)));go_big_quiet_on)))
     refine wpQuiet_nil ?_
     rintro _ ⟨x3,rfl⟩
     go_wp2_with fail
     go_ret
     exact ⟨by rw [HE2.out];rfl,fun _=>(by repeat (first | exact Below.refl _ _ | refine blw_alloc ?_ | refine blw_plus ?_ | refine Below.drew ?_)),fun e=>by rw [HE2.out] at e;cases e⟩
   | true=>
     have HCV:=hidp fun X=>covers_is hcv X
     have HE2:Hid (E=0):=hidp (by rw [HE.out,hcv];rfl)
     clear HE hcv
     go_enter Tryz.func38,Tryz.ntmps38
     go_wp2_with fail
     refine wp_region_plus (by kernel_rfl) (by kernel_rfl) ?_
     repeat (first | go_big_quiet_skip | (go_big_quiet_want;go_big_quiet_op;first | go_big_quiet_on | (apply Exists.intro;refine ⟨fun _=>?_,?_⟩;(first | (go_at_call 26;exact Calls.plus_of (HAP.out _ (by repeat (first | exact Below.refl _ _ | refine blw_alloc ?_ | refine blw_plus ?_ | refine Below.drew ?_)))) | (go_at_call 55;exact Calls.plus_of (HCV.out _)));go_big_quiet_on)))
     refine wpQuiet_nil ?_
     rintro _ ⟨x3,rfl⟩
     go_wp2_with fail
     go_at_call 26
     refine (HAP.out _ (by repeat (first | exact Below.refl _ _ | refine blw_alloc ?_ | refine blw_plus ?_ | refine Below.drew ?_))).mono ?_
     rintro e w4 ⟨rfl,hb4⟩
     obtain ⟨x4,rfl⟩:=wplus_of_below hb4
     clear hb4
     go_wp2_with fail
     go_ret
     refine ⟨by rw [HE2.out];rfl,fun e=>absurd HE2.out e,fun _=>?_⟩
     have e1:=blk_set HBK.out 4 (.int .i64 p0)
     have e2:=blk_set e1 5 (.int .i64 p1)
     have e3:=blk_set e2 6 (.int .i64 p2)
     have e4:=blk_set e3 7 (.int .i64 p3)
     have e5:=blk_set e4 8 (.bool true)
     have e6:=blk_set e5 9 (.map (some (w.heap.size+x3.blocks.size+x4.blocks.size)))
     simp only [List.setIfInBounds_toArray,List.set_cons_zero,List.set_cons_succ] at e6
     have hc:∀ (X:World) (i:Nat) (zz:Value),SiFr X (X.setCell ⟨u,i,none⟩ zz) (SnOwn u mv) (SnOwn u mv):=fun X i zz=>SiFr.setN zz
     have hfr:=((((((hc w 4 (.int .i64 p0)).trans (hc _ 5 (.int .i64 p1))).trans (hc _ 6 (.int .i64 p2))).trans (hc _ 7 (.int .i64 p3))).trans (hc _ 8 (.bool true))).trans (hc _ 9 (.map (some (w.heap.size+x3.blocks.size+x4.blocks.size)))))
     have hsz:((((((w.setCell ⟨u,4,none⟩ (.int .i64 p0)).setCell ⟨u,5,none⟩ (.int .i64 p1)).setCell ⟨u,6,none⟩ (.int .i64 p2)).setCell ⟨u,7,none⟩ (.int .i64 p3)).setCell ⟨u,8,none⟩ (.bool true)).setCell ⟨u,9,none⟩ (.map (some (w.heap.size+x3.blocks.size+x4.blocks.size)))).heap.size=w.heap.size:=by simp [World.setCell]
     have hul:=lt_blk HBK.out
     clear HCV HBK HAP hmm c0 c1 c2 c3 c4 c5 c6 c7 c8 c9 z0 z1 z2 z3 z4 z5 z6 z7 z8 z9 e1 e2 e3 e4 e5 hc
     generalize (((((w.setCell ⟨u,4,none⟩ (.int .i64 p0)).setCell ⟨u,5,none⟩ (.int .i64 p1)).setCell ⟨u,6,none⟩ (.int .i64 p2)).setCell ⟨u,7,none⟩ (.int .i64 p3)).setCell ⟨u,8,none⟩ (.bool true)).setCell ⟨u,9,none⟩ (.map (some (w.heap.size+x3.blocks.size+x4.blocks.size)))=W1 at *
     have hbel:Below W1.heap.size W1 ((wplus (wplus W1 x3) x4).alloc (.map #[] 0)):=(by repeat (first | exact Below.refl _ _ | refine blw_alloc ?_ | refine blw_plus ?_ | refine Below.drew ?_))
     refine ⟨w.heap.size+x3.blocks.size+x4.blocks.size,⟨(hbel.block u (by omega)).trans e6,fun mb' e=>?_,fun _=>by simp,HS.out.bx⟩,?_⟩
     ·obtain rfl:=Option.some.inj e
      exact ⟨WpAt.made (blk_new (by simp [hsz]) _),by have:=HS.out.bx;omega,by omega⟩
     ·have f1:=hfr.trans (SiFr.of_below (SnOwn u mv) hbel)
      exact ⟨f1.os,f1.tape,f1.output,f1.size,f1.block,fun b hb=>by
       rcases hb with e | e
       ·exact .inl (.inl e)
       ·have:=Option.some.inj e
        exact .inr (by omega)⟩
def snAbort (s:SnP):SnP:=⟨max s.q0 s.n0,max s.q1 s.n1,max s.q2 s.n2,max s.q3 s.n3,0,0,0,0,false,fun _=>none,0⟩
set_option maxRecDepth 20000 in
set_option maxHeartbeats 8000000 in
theorem sAbort_any (B u:Nat) (s:SnP) (mv:Option Nat) (w:World) (h:SnAt w B u s mv):
  Calls Tryz.prog 46 #[.pointer (some ⟨u,0,none⟩)] w fun e w'=>(s.op=false→e=.returned (.iface 29 (.int .i64 6))∧Below w.heap.size w w')∧
   (s.op=true→e=.returned .nilIface∧SnAt w' B u (snAbort s) none∧SiFr w w' (SnOwn u mv) (SnOwn u none)):=by
 have HS:=hidp h
 have hb:=h.blk
 obtain ⟨q0,q1,q2,q3,n0,n1,n2,n3,op,m,mn⟩:=s
 simp only at hb
 have c0:=cell_blk hb 0;have c1:=cell_blk hb 1;have c2:=cell_blk hb 2;have c3:=cell_blk hb 3;have c4:=cell_blk hb 4;have c5:=cell_blk hb 5;have c6:=cell_blk hb 6;have c7:=cell_blk hb 7;have c8:=cell_blk hb 8;have c9:=cell_blk hb 9
 simp only [zC,zD,zE] at c0 c1 c2 c3 c4 c5 c6 c7 c8 c9
 have z0:=frozen_blk hb 0;have z1:=frozen_blk hb 1;have z2:=frozen_blk hb 2;have z3:=frozen_blk hb 3;have z4:=frozen_blk hb 4;have z5:=frozen_blk hb 5;have z6:=frozen_blk hb 6;have z7:=frozen_blk hb 7;have z8:=frozen_blk hb 8;have z9:=frozen_blk hb 9
 haveI:SzGe (u+1) w:=⟨lt_blk hb⟩
 have HBK:=hidp hb
 have HMX:=hidp fun X=>vMax_any q0 q1 q2 q3 n0 n1 n2 n3 X
 clear h hb
 cases op with
 | false=>
   go_enter Tryz.func46,Tryz.ntmps46
   go_wp2_with fail
   go_ret
   exact ⟨fun _=>⟨rfl,zB⟩,fun e=>(by cases e)⟩
 | true=>
   go_enter Tryz.func46,Tryz.ntmps46
   go_wp2_with fail
   go_region_with (
    go_at_call 87
    refine (HMX.out _).mono ?_
    rintro e w3 ⟨rfl,hb3⟩
    obtain ⟨x3,rfl⟩:=wplus_of_below hb3
    clear hb3)
   all_goals
    go_wp2_with fail
    go_ret
    refine ⟨fun e=>(by cases e),fun _=>⟨rfl,?_⟩⟩
    have e1:=blk_set HBK.out 0 (.int .i64 (max q0 n0))
    have e2:=blk_set e1 1 (.int .i64 (max q1 n1))
    have e3:=blk_set e2 2 (.int .i64 (max q2 n2))
    have e4:=blk_set e3 3 (.int .i64 (max q3 n3))
    have e5:=blk_set e4 8 (.bool false)
    have e6:=blk_set e5 4 (.int .i64 0)
    have e7:=blk_set e6 5 (.int .i64 0)
    have e8:=blk_set e7 6 (.int .i64 0)
    have e9:=blk_set e8 7 (.int .i64 0)
    have e10:=blk_set e9 9 (.map none)
    simp only [List.setIfInBounds_toArray,List.set_cons_zero,List.set_cons_succ] at e10
    have hc:∀ (X:World) (i:Nat) (zz:Value),SiFr X (X.setCell ⟨u,i,none⟩ zz) (SnOwn u mv) (SnOwn u mv):=fun X i zz=>SiFr.setN zz
    have hfr:=((((((((((hc w 0 (.int .i64 (max q0 n0))).trans (hc _ 1 (.int .i64 (max q1 n1)))).trans (hc _ 2 (.int .i64 (max q2 n2)))).trans (hc _ 3 (.int .i64 (max q3 n3)))).trans (hc _ 8 (.bool false))).trans (hc _ 4 (.int .i64 0))).trans (hc _ 5 (.int .i64 0))).trans (hc _ 6 (.int .i64 0))).trans (hc _ 7 (.int .i64 0))).trans (hc _ 9 (.map none)))
    have hul:=lt_blk HBK.out
    clear HMX HBK c0 c1 c2 c3 c4 c5 c6 c7 c8 c9 z0 z1 z2 z3 z4 z5 z6 z7 z8 z9 e1 e2 e3 e4 e5 e6 e7 e8 e9 hc
    have hsz:((((((((((w.setCell ⟨u,0,none⟩ (.int .i64 (max q0 n0))).setCell ⟨u,1,none⟩ (.int .i64 (max q1 n1))).setCell ⟨u,2,none⟩ (.int .i64 (max q2 n2))).setCell ⟨u,3,none⟩ (.int .i64 (max q3 n3))).setCell ⟨u,8,none⟩ (.bool false)).setCell ⟨u,4,none⟩ (.int .i64 0)).setCell ⟨u,5,none⟩ (.int .i64 0)).setCell ⟨u,6,none⟩ (.int .i64 0)).setCell ⟨u,7,none⟩ (.int .i64 0)).setCell ⟨u,9,none⟩ (.map none)).heap.size=w.heap.size:=by simp [World.setCell]
    generalize (((((((((w.setCell ⟨u,0,none⟩ (.int .i64 (max q0 n0))).setCell ⟨u,1,none⟩ (.int .i64 (max q1 n1))).setCell ⟨u,2,none⟩ (.int .i64 (max q2 n2))).setCell ⟨u,3,none⟩ (.int .i64 (max q3 n3))).setCell ⟨u,8,none⟩ (.bool false)).setCell ⟨u,4,none⟩ (.int .i64 0)).setCell ⟨u,5,none⟩ (.int .i64 0)).setCell ⟨u,6,none⟩ (.int .i64 0)).setCell ⟨u,7,none⟩ (.int .i64 0)).setCell ⟨u,9,none⟩ (.map none)=W1 at *
    have hbel:Below W1.heap.size W1 (wplus W1.drew x3):=(by repeat (first | exact Below.refl _ _ | refine blw_alloc ?_ | refine blw_plus ?_ | refine Below.drew ?_))
    refine ⟨⟨(hbel.block u (by omega)).trans e10,fun mb' e=>(by cases e),fun e=>(by cases e),HS.out.bx⟩,?_⟩
    have f1:=hfr.trans (SiFr.of_below (SnOwn u mv) hbel)
    exact ⟨f1.os,f1.tape,f1.output,f1.size,f1.block,fun b hb=>by
     rcases hb with e | e
     ·exact .inl (.inl e)
     ·cases e⟩
set_option maxRecDepth 20000 in
set_option maxHeartbeats 8000000 in
theorem sRead_any (B u x:Nat) (s:SnP) (mv:Option Nat) (key:Int) (V:VerP×Int) (w:World) (h:SnAt w B u s mv) (hk:wf64 key)
  (hrd:∀ W,Below w.heap.size w W→Calls Tryz.prog 25 #[.pointer (some ⟨x,0,none⟩),.int .i64 key,.agg #[.int .i64 s.n0,.int .i64 s.n1,.int .i64 s.n2,.int .i64 s.n3]] W fun e w'=>e=.returned (.tuple #[verV V.1,errV V.2])∧Below W.heap.size W w'):
  Calls Tryz.prog 41 #[.pointer (some ⟨u,0,none⟩),.pointer (some ⟨x,0,none⟩),.int .i64 key] w fun e w'=>e=.returned (.tuple #[.string (sdRead s.op (s.m key) V).1,errV (sdRead s.op (s.m key) V).2])∧Below w.heap.size w w':=by
 have hb:=h.blk
 have hopn:=h.opn
 have hmp:=h.mp
 obtain ⟨q0,q1,q2,q3,n0,n1,n2,n3,op,m,mn⟩:=s
 simp only at hb hrd hopn hmp
 have HRD:=hidp hrd
 have c4:=cell_blk hb 4;have c5:=cell_blk hb 5;have c6:=cell_blk hb 6;have c7:=cell_blk hb 7;have c8:=cell_blk hb 8;have c9:=cell_blk hb 9
 simp only [zC,zD,zE] at c4 c5 c6 c7 c8 c9
 haveI:SzGe (u+1) w:=⟨lt_blk hb⟩
 cases op with
 | false=>
   clear h hb hrd hopn hmp
   go_enter Tryz.func41,Tryz.ntmps41
   go_wp2_with fail
   go_ret2
   exact ⟨rfl,zB⟩
 | true=>
   obtain ⟨mb,rfl⟩:∃ mb,mv=some mb:=by
    cases mv with
    | none=>exact absurd rfl (hopn rfl)
    | some mb=>exact ⟨mb,rfl⟩
   have hlk:=(hmp mb rfl).1.look hk
   obtain ⟨L,hL⟩:∃ L,m key=L:=⟨_,rfl⟩
   rw [hL] at hlk
   simp only [hL]
   unfold WrP.val at hlk
   clear h hb hrd hopn hmp hL
   cases L with
   | some y=>
     obtain ⟨yk,yd,yg⟩:=y
     simp only [Option.getD_some,Option.isSome_some] at hlk
     cases yg with
     | true=>
       go_enter Tryz.func41,Tryz.ntmps41
       go_wp2_with fail
       go_ret2
       exact ⟨rfl,zB⟩
     | false=>
       go_enter Tryz.func41,Tryz.ntmps41
       go_wp2_with fail
       go_ret2
       exact ⟨rfl,zB⟩
   | none=>
     obtain ⟨⟨vw,vc,vs,vq,vd,vg⟩,z⟩:=V
     unfold verV at HRD
     simp only [Option.getD_none,Option.isSome_none,wrZ] at hlk HRD
     go_enter Tryz.func41,Tryz.ntmps41
     go_wp2_with fail
     go_at_call 25
     refine (HRD.out _ (by repeat (first | exact Below.refl _ _ | refine blw_alloc ?_ | refine blw_plus ?_ | refine Below.drew ?_))).mono ?_
     rintro e w3 ⟨rfl,hb3⟩
     obtain ⟨x3,rfl⟩:=wplus_of_below hb3
     clear hb3 HRD
     go_wp2_with fail
     go_ret2
     exact ⟨rfl,zB⟩
theorem blw_far {B k i:Nat} {w w':World} {v:Value} (h:Below B w w') (hk:B≤k):Below B w (w'.setCell ⟨k,i,none⟩ v):=h.setCell (p:=⟨k,i,none⟩) hk v
def snWriteE (s:SnP) (x:WrP):Int:=
 if s.op=false then 6 else if x.key<0∨7<x.key then 2 else if 12<x.data.size then 4 else if x.gone=true∧emptyB x.data=false then 1
 else if s.m x.key=none∧5≤s.mn then 12 else 0
def snWrite (s:SnP) (x:WrP):SnP:={ s with m:=wput s.m x.key x,mn:=if (s.m x.key).isSome then s.mn else s.mn+1 }
set_option maxRecDepth 20000 in
set_option maxHeartbeats 8000000 in
theorem sWrite_err (B u:Nat) (s:SnP) (mv:Option Nat) (x:WrP) (w:World) (h:SnAt w B u s mv) (he:s.op=false∨x.key<0∨7<x.key∨12<x.data.size∨(x.gone=true∧emptyB x.data=false)):
  Calls Tryz.prog 42 #[.pointer (some ⟨u,0,none⟩),x.val] w fun e w'=>e=.returned (errV (snWriteE s x))∧snWriteE s x≠0∧Below w.heap.size w w':=by
 have hb:=h.blk
 obtain ⟨q0,q1,q2,q3,n0,n1,n2,n3,op,m,mn⟩:=s
 obtain ⟨xk,xd,xg⟩:=x
 simp only at hb he
 have HE:Hid (snWriteE ⟨q0,q1,q2,q3,n0,n1,n2,n3,op,m,mn⟩ ⟨xk,xd,xg⟩=if op=false then 6 else if xk<0∨7<xk then 2 else if 12<xd.size then 4 else if xg=true∧emptyB xd=false then 1 else if m xk=none∧5≤mn then 12 else 0):=hidp rfl
 have HDN:Hid (∀ (n:Int) (w':World),n≠0→snWriteE ⟨q0,q1,q2,q3,n0,n1,n2,n3,op,m,mn⟩ ⟨xk,xd,xg⟩=n→Below w.heap.size w w'→(.returned (.iface 29 (.int .i64 n)):Ending)=.returned (errV (snWriteE ⟨q0,q1,q2,q3,n0,n1,n2,n3,op,m,mn⟩ ⟨xk,xd,xg⟩))∧snWriteE ⟨q0,q1,q2,q3,n0,n1,n2,n3,op,m,mn⟩ ⟨xk,xd,xg⟩≠0∧Below w.heap.size w w'):=hidp (fun n w' h1 h2 h3=>⟨by rw [h2];unfold errV;rw [if_neg h1],by rw [h2];exact h1,h3⟩)
 have c8:=cell_blk hb 8
 simp only [zC,zD,zE] at c8
 haveI:SzGe (u+1) w:=⟨lt_blk hb⟩
 unfold WrP.val
 clear h hb
 cases op with
 | false=>
   have HE2:=hidp (HE.out.trans (by simp:_=(6:Int)))
   go_enter Tryz.func42,Tryz.ntmps42
   go_wp2_with fail
   go_ret
   exact HDN.out 6 _ (by decide) HE2.out (by repeat (first | exact Below.refl _ _ | refine blw_alloc ?_ | refine blw_plus ?_ | refine Below.drew ?_))
 | true=>
 by_cases h0:xk<0
 ·have d0:decide (xk<0)=true:=decide_eq_true h0
  have HE2:=hidp (HE.out.trans (by rw [if_neg (by simp),if_pos (.inl h0)]:_=(2:Int)))
  clear h0 he
  go_enter Tryz.func42,Tryz.ntmps42
  go_wp2_with fail
  go_ret
  exact HDN.out 2 _ (by decide) HE2.out (by repeat (first | exact Below.refl _ _ | refine blw_alloc ?_ | refine blw_plus ?_ | refine Below.drew ?_))
 by_cases h7:7<xk
 ·have d0:decide (xk<0)=false:=decide_eq_false h0
  have d7:decide (8≤xk)=true:=decide_eq_true (by omega)
  have HE2:=hidp (HE.out.trans (by rw [if_neg (by simp),if_pos (.inr h7)]:_=(2:Int)))
  clear h0 h7 he
  go_enter Tryz.func42,Tryz.ntmps42
  go_wp2_with fail
  go_ret
  exact HDN.out 2 _ (by decide) HE2.out (by repeat (first | exact Below.refl _ _ | refine blw_alloc ?_ | refine blw_plus ?_ | refine Below.drew ?_))
 have d0:decide (xk<0)=false:=decide_eq_false h0
 have d7:decide (8≤xk)=false:=decide_eq_false (by omega)
 by_cases hd:12<xd.size
 ·have d1:decide ((12:Int)<(xd.size:Int))=true:=decide_eq_true (by omega)
  have HE2:=hidp (HE.out.trans (by rw [if_neg (by simp),if_neg (by omega),if_pos hd]:_=(4:Int)))
  clear h0 h7 hd he
  go_enter Tryz.func42,Tryz.ntmps42
  go_wp2_with fail
  go_ret
  exact HDN.out 4 _ (by decide) HE2.out (by repeat (first | exact Below.refl _ _ | refine blw_alloc ?_ | refine blw_plus ?_ | refine Below.drew ?_))
 have d1:decide ((12:Int)<(xd.size:Int))=false:=decide_eq_false (by omega)
 obtain ⟨rfl,he4⟩:xg=true∧emptyB xd=false:=by
  rcases he with e | e | e | e | e
  ·cases e
  ·exact absurd e h0
  ·exact absurd e h7
  ·exact absurd e hd
  ·exact e
 have HE2:=hidp (HE.out.trans (by rw [if_neg (by simp),if_neg (by omega),if_neg hd,if_pos ⟨rfl,he4⟩]:_=(1:Int)))
 have he2:xd.toList.isEmpty=false:=he4
 clear h0 h7 hd he4
 go_enter Tryz.func42,Tryz.ntmps42
 go_wp2_with fail
 go_ret
 exact HDN.out 1 _ (by decide) HE2.out (by repeat (first | exact Below.refl _ _ | refine blw_alloc ?_ | refine blw_plus ?_ | refine Below.drew ?_))
end Go.Proofs.YtbopfhbeegkkaabGreatDoor
