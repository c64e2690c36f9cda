/- Part 15 of a proof: lemmas and contracts that other parts use. -/
import Derived.Test.YtbopfhbeegkkaabGreatDoorWp14
import Derived.Test.YtbopfhbeegkkaabGreatDoorWp10
import Derived.Deep.RegionHeld3
import Derived.Deep.DeepCutAuto
set_option linter.unusedVariables false
set_option linter.unusedSimpArgs false
set_option maxHeartbeats 8000000
set_option maxRecDepth 20000
namespace Go.Proofs.YtbopfhbeegkkaabGreatDoor
open Go.RowKit Go.Proofs.Tryz
structure Ob where
 at_:World→Prop
 own:Nat→Prop
 dat:Nat→Prop
instance : Inhabited Ob := ⟨⟨fun _ => True, fun _ => False, fun _ => False⟩⟩
structure Ob.Ok (B:Nat) (o:Ob):Prop where
 same:∀ w w',o.at_ w→w.heap.size≤w'.heap.size→(∀ b,o.own b∨o.dat b→w'.heap[b]?=w.heap[b]?)→o.at_ w'
 lt:∀ w b,o.at_ w→o.own b→B≤b∧b<w.heap.size
 dlt:∀ w b,o.at_ w→o.dat b→b<w.heap.size
def zjB (O:Nat→Ob) (i:Nat) (o:Ob):Nat→Ob:=fun k=>if k=i then o else O k
theorem zaB (O:Nat→Ob) (i:Nat) (o:Ob):zjB O i o i=o:=yaj rfl
theorem zah {O:Nat→Ob}{i k:Nat}(o:Ob) (h:k≠i):zjB O i o k=O k:=yad h
structure Mem (w0 w:World) (n:Nat) (O:Nat→Ob):Prop where
 low:Below w0 w0 w
 ok:∀ i,i<n→(O i).Ok w0.heap.size
 at_:∀ i,i<n→(O i).at_ w
 dis:∀ i j,i<n→j<n→i≠j→∀ b,(O i).own b→¬(O j).own b∧¬(O j).dat b
section
variable {w0 w w':World}{n:Nat}{O:Nat→Ob}
theorem Mem.below (h:Mem w0 w n O) (hb:Below w w w'):Mem w0 w' n O:=
 ⟨h.low.trans (hb.mono h.low.size),h.ok,fun i hi=>(h.ok i hi).same w w' (h.at_ i hi) hb.size (fun b hb'=>hb.block b (hb'.elim (fun e=>((h.ok i hi).lt w b (h.at_ i hi) e).2) ((h.ok i hi).dlt w b (h.at_ i hi)))),h.dis⟩
theorem Mem.step (h:Mem w0 w n O){i:Nat}(hi:i<n){o:Ob}(ho:o.Ok w0.heap.size) (hat:o.at_ w') (fr:zaO w w' (O i).own o.own) (hd:∀ b,o.dat b→(O i).dat b∨w.heap.size≤b):Mem w0 w' n (zjB O i o):=by
 have hlt:∀ b,(O i).own b→w0.heap.size≤b:=fun b e=>((h.ok i hi).lt w b (h.at_ i hi) e).1
 have hkeep:∀ k,k<n→k≠i→(O k).at_ w':=fun k hk hne=>(h.ok k hk).same w w' (h.at_ k hk) fr.size fun b hb=>fr.block b (hb.elim (fun e=>((h.ok k hk).lt w b (h.at_ k hk) e).2) ((h.ok k hk).dlt w b (h.at_ k hk))) fun e=>by
  obtain⟨h1,h2⟩:=h.dis i k hi hk (Ne.symm hne) b e;exact hb.elim h1 h2
 refine⟨h.low.trans ⟨fr.os,fr.tape,fr.output,fr.size,fun k hk=>fr.block k (yab hk h.low.size) fun e=>by have:=hlt k e;omega⟩,fun k hk=>?_,fun k hk=>?_,fun j k hj hk hne b hb=>?_⟩
 ·by_cases e:k=i
  ·subst e;rw[zaB];exact ho
  ·rw[zah _ e];exact h.ok k hk
 ·by_cases e:k=i
  ·subst e;rw[zaB];exact hat
  ·rw[zah _ e];exact hkeep k hk e
 ·by_cases e:j=i
  ·subst e
   rw[zaB]at hb;have hk2:k≠j:=Ne.symm hne;rw[zah _ hk2];rcases fr.own b hb with h1|h1
   ·exact h.dis j k hj hk hne b h1
   ·exact⟨fun e=>by have:=((h.ok k hk).lt w b (h.at_ k hk) e).2;omega,fun e=>by have:=(h.ok k hk).dlt w b (h.at_ k hk) e;omega⟩
  ·rw[zah _ e]at hb
   have hbl:=((h.ok j hj).lt w b (h.at_ j hj) hb).2;by_cases e2:k=i
   ·subst e2
    rw[zaB];obtain⟨h1,h2⟩:=h.dis j k hj hk hne b hb;refine⟨fun e3=>?_,fun e3=>?_⟩
    ·rcases fr.own b e3 with h3|h3
     ·exact h1 h3
     ·omega
    ·rcases hd b e3 with h3|h3
     ·exact h2 h3
     ·omega
   ·rw[zah _ e2]
    exact h.dis j k hj hk hne b hb
theorem Mem.push (h:Mem w0 w n O){o:Ob}(hb:Below w w w') (ho:o.Ok w0.heap.size) (hat:o.at_ w') (hn:∀ b,o.own b→w.heap.size≤b) (hd:∀ b,o.dat b→w.heap.size≤b):Mem w0 w' (n+1) (zjB O n o):=by
 have h2:=h.below hb;refine⟨h2.low,fun k hk=>?_,fun k hk=>?_,fun j k hj hk hne b hb'=>?_⟩
 ·by_cases e:k=n
  ·subst e;rw[zaB];exact ho
  ·rw[zah _ e];exact h2.ok k zO
 ·by_cases e:k=n
  ·subst e;rw[zaB];exact hat
  ·rw[zah _ e];exact h2.at_ k zO
 ·by_cases e:j=n
  ·subst e
   rw[zaB]at hb';have hk2:k<j:=by omega
   rw[zah _ zO];have:=hn b hb';exact⟨fun e=>by have:=((h.ok k hk2).lt w b (h.at_ k hk2) e).2;omega,fun e=>by have:=(h.ok k hk2).dlt w b (h.at_ k hk2) e;omega⟩
  ·rw[zah _ e]at hb'
   have hj2:j<n:=by omega
   have hbl:=((h.ok j hj2).lt w b (h.at_ j hj2) hb').2;by_cases e2:k=n
   ·subst e2
    rw[zaB];exact⟨fun e=>by have:=hn b e;omega,fun e=>by have:=hd b e;omega⟩
   ·rw[zah _ e2]
    exact h.dis j k hj2 zO hne b hb'
end
def obS (B x mb:Nat) (s:SiP) (lv:Value) (sv:Nat→Value):Ob:=⟨fun w=>zbV w B x s mb lv sv,zaW x mb lv sv,fun b=>∃ m o,s.has m∧m.A=some ⟨b,o,none⟩⟩
theorem zmI (B x mb:Nat) (s:SiP) (lv:Value) (sv:Nat→Value):(obS B x mb s lv sv).Ok B:=
 ⟨fun w w' h hs hb=>zbV.same h hs (fun b e=>hb b (.inl e)) (fun m hm b o e=>hb b (.inr ⟨m,o,hm,e⟩)),fun w b h e=>zbV.lt h e,fun w b h ⟨m,o,hm,e⟩=>(zbV.dat h m hm).2 b o e |>.1⟩
def obR (B y:Nat) (r:RsP) (lr:Value) (wA:Option Addr) (wc:Nat) (av:Value):Ob:=⟨fun w=>zcp w B y r lr wA wc av,za2 y lr av,fun b=>(∃ o,wA=some ⟨b,o,none⟩)∨∃ m o,r.has m∧m.A=some ⟨b,o,none⟩⟩
theorem zmJ (B y:Nat) (r:RsP) (lr:Value) (wA:Option Addr) (wc:Nat) (av:Value):(obR B y r lr wA wc av).Ok B:=
 ⟨fun w w' h hs hb=>zcp.same h hs (fun b e=>hb b (.inl e)) (fun b o e=>hb b (.inr (.inl ⟨o,e⟩))) (fun m hm b o e=>hb b (.inr (.inr ⟨m,o,hm,e⟩))),fun w b h e=>zcp.lt h e,fun w b h e=>by
   rcases e with ⟨o,e⟩|⟨m,o,hm,e⟩
   ·exact(zcp.wat h).2.2 b o e |>.1
   ·exact(zcp.dat h m hm).2 b o e |>.1⟩
def obD (B v:Nat) (d:SdP) (wv:Value):Ob:=⟨fun w=>zdn w B v d wv,zcw v wv,fun _=>False⟩
theorem zef (B v:Nat) (d:SdP) (wv:Value):(obD B v d wv).Ok B:=
 ⟨fun w w' h hs hb=>zdn.same h (fun b e=>hb b (.inl e)),fun w b h e=>zdn.lt h e,fun w b h e=>e.elim⟩
def obB (b:Nat) (o:Obj) (B:Nat):Ob:=⟨fun w=>B≤b∧w.heap[b]?=some o,fun k=>k=b,fun _=>False⟩
theorem zkj (b:Nat) (o:Obj) (B:Nat):(obB b o B).Ok B:=
 ⟨fun w w' h hs hb=>⟨h.1,(hb b (.inl rfl)).trans h.2⟩,fun w k h e=>by cases e;exact⟨h.1,zae h.2⟩,fun w b h e=>e.elim⟩
structure SnP where
 q0:Int
 q1:Int
 q2:Int
 q3:Int
 n0:Int
 n1:Int
 n2:Int
 n3:Int
 op:Bool
 m:Int→Option WrP
 mn:Nat
def zbL (u:Nat) (mv:Option Nat) (b:Nat):Prop:=b=u∨mv=some b
structure zc3 (w:World) (B u:Nat) (s:SnP) (mv:Option Nat):Prop where
 blk:w.heap[u]?=some (.cells #[s.q0,s.q1,s.q2,s.q3,s.n0,s.n1,s.n2,s.n3,.bool s.op,.map mv] 171)
 mp:∀ mb,mv=some mb→zeZ w mb s.m s.mn∧B≤mb∧mb≠u
 opn:s.op=true→mv≠none
 bx:B≤u
theorem zc3.lt {w:World}{B u:Nat}{s:SnP}{mv:Option Nat}(h:zc3 w B u s mv){b:Nat}(hb:zbL u mv b):B≤b∧b<w.heap.size:=by
 rcases hb with rfl|hb
 ·exact⟨h.bx,zae h.blk⟩
 ·exact⟨(h.mp b hb).2.1,(h.mp b hb).1.lt⟩
theorem zc3.same {w w':World}{B u:Nat}{s:SnP}{mv:Option Nat}(h:zc3 w B u s mv) (ho:∀ b,zbL u mv b→w'.heap[b]?=w.heap[b]?):zc3 w' B u s mv:=
 ⟨(ho u (.inl rfl)).trans h.blk,fun mb e=>⟨(h.mp mb e).1.block (ho mb (.inr e)),(h.mp mb e).2⟩,h.opn,h.bx⟩
theorem zc3.below {w w':World}{B u:Nat}{s:SnP}{mv:Option Nat}(h:zc3 w B u s mv) (hb:Below w w w'):zc3 w' B u s mv:=h.same fun b hb'=>hb.block b (h.lt hb').2
def obN (B u:Nat) (s:SnP) (mv:Option Nat):Ob:=⟨fun w=>zc3 w B u s mv,zbL u mv,fun _=>False⟩
theorem zgf (B u:Nat) (s:SnP) (mv:Option Nat):(obN B u s mv).Ok B:=
 ⟨fun w w' h hs hb=>zc3.same h (fun b e=>hb b (.inl e)),fun w b h e=>zc3.lt h e,fun w b h e=>e.elim⟩
def snNew:SnP:=⟨0,0,0,0,0,0,0,0,false,fun _=>none,0⟩
theorem sNew_any (w:World):Calls prog 37 #[] w fun e w'=>e=.returned (.pointer (some ⟨w,0,none⟩))∧zc3 w' w.heap.size w.heap.size snNew none∧Below w w w':=by
 go_enter func37,ntmps37;go_wp2_with fail;go_ret;exact⟨rfl,⟨zag rfl _,fun mb e=>(by cases e),fun e=>(by cases e),yai _⟩,zB⟩
section
variable {w:World}{B u:Nat}{s:SnP}{mv:Option Nat}
theorem zmf (h:zc3 w B u s mv):Calls prog 48 #[.pointer (some ⟨u,0,none⟩)] w fun e w'=>e=.returned (.agg #[s.q0,s.q1,s.q2,s.q3])∧Below w w w':=by
 have hb:=h.blk;have c0:=zaa hb 0;have c1:=zaa hb 1;have c2:=zaa hb 2;have c3:=zaa hb 3;simp only[zC,zD,zE]at c0 c1 c2 c3;haveI:zaj (u+1) w:=⟨zae hb⟩;clear h hb;go_enter func48,ntmps48;go_wp2_with fail;refine yag (v:=.agg #[s.q0,s.q1,s.q2,s.q3]) ?_ rfl ⟨rfl,zB⟩;simp[results,results48,go_sem]
theorem zmd (h:zc3 w B u s mv):Calls prog 49 #[.pointer (some ⟨u,0,none⟩)] w fun e w'=>e=.returned (.agg #[s.n0,s.n1,s.n2,s.n3])∧Below w w w':=by
 have hb:=h.blk;have c4:=zaa hb 4;have c5:=zaa hb 5;have c6:=zaa hb 6;have c7:=zaa hb 7;simp only[zC,zD,zE]at c4 c5 c6 c7;haveI:zaj (u+1) w:=⟨zae hb⟩;clear h hb;go_enter func49,ntmps49;go_wp2_with fail;refine yag (v:=.agg #[s.n0,s.n1,s.n2,s.n3]) ?_ rfl ⟨rfl,zB⟩;simp[results,results49,go_sem]
theorem zmg (h:zc3 w B u s mv):Calls prog 50 #[.pointer (some ⟨u,0,none⟩)] w fun e w'=>e=.returned (.bool s.op)∧Below w w w':=by
 have hb:=h.blk;have c8:=zaa hb 8;simp only[zC,zD,zE]at c8;haveI:zaj (u+1) w:=⟨zae hb⟩;clear h hb;go_enter func50,ntmps50;go_wp2_with fail;go_ret;exact⟨rfl,zB⟩
end
def zjp (s:SnP) (p0 p1 p2 p3:Int):SnP:={ s with n0:=p0,n1:=p1,n2:=p2,n3:=p3,op:=true,m:=fun _=>none,mn:=0 }
def zds (s:SnP) (p0 p1 p2 p3:Int):Int:=if s.op=true then 6 else if zdp p0 p1 p2 p3 s.q0 s.q1 s.q2 s.q3=false then 10 else 0
theorem zaO.setN {w:World}{u i:Nat}{mv:Option Nat}(v:Value):zaO w (w.setCell ⟨u,i,none⟩ v) (zbL u mv) (zbL u mv):=
 ⟨rfl,rfl,rfl,by simp[World.setCell],fun k hk hn=>(zan w u i v).block k hk (by simp;exact fun e=>hn (.inl e)),fun _ h=>.inl h⟩
theorem zkQ (B u x:Nat) (s:SnP) (mv:Option Nat) (p0 p1 p2 p3:Int) (w:World) (h:zc3 w B u s mv)
  (hap:∀ W,Below w w W→Calls prog 26 #[.pointer (some ⟨x,0,none⟩)] W fun e w'=>e=.returned (.agg #[p0,p1,p2,p3])∧Below W W w'):
  Calls prog 38 #[.pointer (some ⟨u,0,none⟩),.pointer (some ⟨x,0,none⟩)] w fun e w'=>e=.returned (zbT (zds s p0 p1 p2 p3))∧(zds s p0 p1 p2 p3≠0→Below w w w')∧
   (zds s p0 p1 p2 p3=0→∃ mb,zc3 w' B u (zjp s p0 p1 p2 p3) (some mb)∧zaO w w' (zbL u mv) (zbL u (some mb))):=by
 have HS:=zac h;have hb:=h.blk;obtain⟨q0,q1,q2,q3,n0,n1,n2,n3,op,m,mn⟩:=s;simp only at hb;have c0:=zaa hb 0;have c1:=zaa hb 1;have c2:=zaa hb 2;have c3:=zaa hb 3;have c4:=zaa hb 4;have c5:=zaa hb 5;have c6:=zaa hb 6;have c7:=zaa hb 7;have c8:=zaa hb 8;have c9:=zaa hb 9;simp only[zC,zD,zE]at c0 c1 c2 c3 c4 c5 c6 c7 c8 c9;have z0:=zab hb 0;have z1:=zab hb 1;have z2:=zab hb 2;have z3:=zab hb 3;have z4:=zab hb 4;have z5:=zab hb 5;have z6:=zab hb 6;have z7:=zab hb 7;have z8:=zab hb 8;have z9:=zab hb 9;haveI:zaj (u+1) w:=⟨zae hb⟩;have HBK:=zac hb;have HAP:=zac hap;have hmm:=@run_makeMap prog;clear h hb hap;have HE:Hid (zds ⟨q0,q1,q2,q3,n0,n1,n2,n3,op,m,mn⟩ p0 p1 p2 p3=if op=true then 6 else if zdp p0 p1 p2 p3 q0 q1 q2 q3=false then 10 else 0):=zac rfl;generalize zds ⟨q0,q1,q2,q3,n0,n1,n2,n3,op,m,mn⟩ p0 p1 p2 p3=E at *;cases op with
 | true=>
   have HE2:Hid (E=6):=zac (by rw[HE.out];rfl);clear HE;go_enter func38,ntmps38;go_wp2_with fail;go_ret;exact⟨by rw[HE2.out];rfl,fun _=>zB,fun e=>by rw[HE2.out]at e;cases e⟩
 | false=>
   cases hcv:zdp p0 p1 p2 p3 q0 q1 q2 q3 with
   | false=>
     have HCV:=zac fun X=>zdT hcv X
     have HE2:Hid (E=10):=zac (by rw[HE.out,hcv];rfl);clear HE hcv;go_enter func38,ntmps38;go_wp2_with fail;refine zaA zK zK ?_
     repeat(first|go_big_quiet_skip|(go_big_quiet_want;go_big_quiet_op;first|go_big_quiet_on|(apply Exists.intro;refine⟨fun _=>?_,?_⟩;(first|(go_at_call 26;exact Calls.plus_of (HAP.out _ zB))|(go_at_call 55;exact Calls.plus_of (HCV.out _)));go_big_quiet_on)))
     refine yaM ?_;rintro _ ⟨x3,rfl⟩;go_wp2_with fail;go_ret;exact⟨by rw[HE2.out];rfl,fun _=>zB,fun e=>by rw[HE2.out]at e;cases e⟩
   | true=>
     have HCV:=zac fun X=>zdT hcv X
     have HE2:Hid (E=0):=zac (by rw[HE.out,hcv];rfl);clear HE hcv;go_enter func38,ntmps38;go_wp2_with fail;refine zaA zK zK ?_
     repeat(first|go_big_quiet_skip|(go_big_quiet_want;go_big_quiet_op;first|go_big_quiet_on|(apply Exists.intro;refine⟨fun _=>?_,?_⟩;(first|(go_at_call 26;exact Calls.plus_of (HAP.out _ zB))|(go_at_call 55;exact Calls.plus_of (HCV.out _)));go_big_quiet_on)))
     refine yaM ?_;rintro _ ⟨x3,rfl⟩;go_wp2_with fail;go_at_call 26;refine(HAP.out _ zB).mono ?_;rintro e w4 ⟨rfl,hb4⟩;obtain⟨x4,rfl⟩:=zad hb4;clear hb4;go_wp2_with fail;go_ret;refine⟨by rw[HE2.out];rfl,fun e=>absurd HE2.out e,fun _=>?_⟩;have e1:=zam HBK.out 4 (ii p0);have e2:=zam e1 5 (ii p1);have e3:=zam e2 6 (ii p2);have e4:=zam e3 7 (ii p3);have e5:=zam e4 8 (.bool true);have e6:=zam e5 9 (.map (some (w.heap.size+x3.blocks.size+x4.blocks.size)));simp only[yas,yaF,yaG]at e6;have hc:∀ (X:World) (i:Nat) (zz:Value),zaO X (X.setCell ⟨u,i,none⟩ zz) (zbL u mv) (zbL u mv):=fun X i zz=>zaO.setN zz
     have hfr:=((((((hc w 4 (ii p0)).trans (hc _ 5 (ii p1))).trans (hc _ 6 (ii p2))).trans (hc _ 7 (ii p3))).trans (hc _ 8 (.bool true))).trans (hc _ 9 (.map (some (w.heap.size+x3.blocks.size+x4.blocks.size)))));have hsz:((((((w.setCell ⟨u,4,none⟩ (ii p0)).setCell ⟨u,5,none⟩ (ii p1)).setCell ⟨u,6,none⟩ (ii p2)).setCell ⟨u,7,none⟩ (ii p3)).setCell ⟨u,8,none⟩ (.bool true)).setCell ⟨u,9,none⟩ (.map (some (w.heap.size+x3.blocks.size+x4.blocks.size)))).heap.size=w.heap.size:=by simp[World.setCell]
     have hul:=zae HBK.out;clear HCV HBK HAP hmm c0 c1 c2 c3 c4 c5 c6 c7 c8 c9 z0 z1 z2 z3 z4 z5 z6 z7 z8 z9 e1 e2 e3 e4 e5 hc;generalize (((((w.setCell ⟨u,4,none⟩ (ii p0)).setCell ⟨u,5,none⟩ (ii p1)).setCell ⟨u,6,none⟩ (ii p2)).setCell ⟨u,7,none⟩ (ii p3)).setCell ⟨u,8,none⟩ (.bool true)).setCell ⟨u,9,none⟩ (.map (some (w.heap.size+x3.blocks.size+x4.blocks.size)))=W1 at *;have hbel:Below W1 W1 ((zai (zai W1 x3) x4).alloc (.map #[] 0)):=zB;refine⟨w.heap.size+x3.blocks.size+x4.blocks.size,⟨(hbel.block u zO).trans e6,fun mb' e=>?_,fun _=>by simp,HS.out.bx⟩,?_⟩
     ·obtain rfl:=yaI e
      exact⟨zeZ.made (zag (by simp[hsz]) _),by have:=HS.out.bx;omega,zO⟩
     ·have f1:=hfr.trans (zaO.of_below (zbL u mv) hbel)
      exact⟨f1.os,f1.tape,f1.output,f1.size,f1.block,fun b hb=>by
       rcases hb with e|e
       ·exact .inl (.inl e)
       ·have:=yaI e
        exact .inr zO⟩
def zdt (s:SnP):SnP:=⟨max s.q0 s.n0,max s.q1 s.n1,max s.q2 s.n2,max s.q3 s.n3,0,0,0,0,false,fun _=>none,0⟩
theorem zkR (B u:Nat) (s:SnP) (mv:Option Nat) (w:World) (h:zc3 w B u s mv):
  Calls prog 46 #[.pointer (some ⟨u,0,none⟩)] w fun e w'=>(s.op=false→e=.returned (.iface 29 (ii 6))∧Below w w w')∧
   (s.op=true→e=.returned .nilIface∧zc3 w' B u (zdt s) none∧zaO w w' (zbL u mv) (zbL u none)):=by
 have HS:=zac h;have hb:=h.blk;obtain⟨q0,q1,q2,q3,n0,n1,n2,n3,op,m,mn⟩:=s;simp only at hb;have c0:=zaa hb 0;have c1:=zaa hb 1;have c2:=zaa hb 2;have c3:=zaa hb 3;have c4:=zaa hb 4;have c5:=zaa hb 5;have c6:=zaa hb 6;have c7:=zaa hb 7;have c8:=zaa hb 8;have c9:=zaa hb 9;simp only[zC,zD,zE]at c0 c1 c2 c3 c4 c5 c6 c7 c8 c9;have z0:=zab hb 0;have z1:=zab hb 1;have z2:=zab hb 2;have z3:=zab hb 3;have z4:=zab hb 4;have z5:=zab hb 5;have z6:=zab hb 6;have z7:=zab hb 7;have z8:=zab hb 8;have z9:=zab hb 9;haveI:zaj (u+1) w:=⟨zae hb⟩;have HBK:=zac hb;have HMX:=zac fun X=>zeC q0 q1 q2 q3 n0 n1 n2 n3 X
 clear h hb;cases op with
 | false=>
   go_enter func46,ntmps46;go_wp2_with fail;go_ret;exact⟨fun _=>⟨rfl,zB⟩,fun e=>(by cases e)⟩
 | true=>
   go_enter func46,ntmps46;go_wp2_with fail;go_region_with (
    go_at_call 87;refine(HMX.out _).mono ?_;rintro e w3 ⟨rfl,hb3⟩;obtain⟨x3,rfl⟩:=zad hb3;clear hb3)
   all_goals
    go_wp2_with fail;go_ret;refine⟨fun e=>(by cases e),fun _=>⟨rfl,?_⟩⟩;have e1:=zam HBK.out 0 (ii (max q0 n0));have e2:=zam e1 1 (ii (max q1 n1));have e3:=zam e2 2 (ii (max q2 n2));have e4:=zam e3 3 (ii (max q3 n3));have e5:=zam e4 8 (.bool false);have e6:=zam e5 4 (ii 0);have e7:=zam e6 5 (ii 0);have e8:=zam e7 6 (ii 0);have e9:=zam e8 7 (ii 0);have e10:=zam e9 9 (.map none);simp only[yas,yaF,yaG]at e10;have hc:∀ (X:World) (i:Nat) (zz:Value),zaO X (X.setCell ⟨u,i,none⟩ zz) (zbL u mv) (zbL u mv):=fun X i zz=>zaO.setN zz
    have hfr:=((((((((((hc w 0 (ii (max q0 n0))).trans (hc _ 1 (ii (max q1 n1)))).trans (hc _ 2 (ii (max q2 n2)))).trans (hc _ 3 (ii (max q3 n3)))).trans (hc _ 8 (.bool false))).trans (hc _ 4 (ii 0))).trans (hc _ 5 (ii 0))).trans (hc _ 6 (ii 0))).trans (hc _ 7 (ii 0))).trans (hc _ 9 (.map none)));have hul:=zae HBK.out;clear HMX HBK c0 c1 c2 c3 c4 c5 c6 c7 c8 c9 z0 z1 z2 z3 z4 z5 z6 z7 z8 z9 e1 e2 e3 e4 e5 e6 e7 e8 e9 hc;have hsz:((((((((((w.setCell ⟨u,0,none⟩ (ii (max q0 n0))).setCell ⟨u,1,none⟩ (ii (max q1 n1))).setCell ⟨u,2,none⟩ (ii (max q2 n2))).setCell ⟨u,3,none⟩ (ii (max q3 n3))).setCell ⟨u,8,none⟩ (.bool false)).setCell ⟨u,4,none⟩ (ii 0)).setCell ⟨u,5,none⟩ (ii 0)).setCell ⟨u,6,none⟩ (ii 0)).setCell ⟨u,7,none⟩ (ii 0)).setCell ⟨u,9,none⟩ (.map none)).heap.size=w.heap.size:=by simp[World.setCell]
    generalize (((((((((w.setCell ⟨u,0,none⟩ (ii (max q0 n0))).setCell ⟨u,1,none⟩ (ii (max q1 n1))).setCell ⟨u,2,none⟩ (ii (max q2 n2))).setCell ⟨u,3,none⟩ (ii (max q3 n3))).setCell ⟨u,8,none⟩ (.bool false)).setCell ⟨u,4,none⟩ (ii 0)).setCell ⟨u,5,none⟩ (ii 0)).setCell ⟨u,6,none⟩ (ii 0)).setCell ⟨u,7,none⟩ (ii 0)).setCell ⟨u,9,none⟩ (.map none)=W1 at *;have hbel:Below W1 W1 (zai W1.drew x3):=zB;refine⟨⟨(hbel.block u zO).trans e10,fun mb' e=>(by cases e),fun e=>(by cases e),HS.out.bx⟩,?_⟩;have f1:=hfr.trans (zaO.of_below (zbL u mv) hbel);exact⟨f1.os,f1.tape,f1.output,f1.size,f1.block,fun b hb=>by
     rcases hb with e|e
     ·exact .inl (.inl e)
     ·cases e⟩
theorem zme (B u x:Nat) (s:SnP) (mv:Option Nat) (key:Int) (V:zaE×Int) (w:World) (h:zc3 w B u s mv) (hk:zcr key)
  (hrd:∀ W,Below w w W→Calls prog 25 #[.pointer (some ⟨x,0,none⟩),key,.agg #[ii s.n0,ii s.n1,ii s.n2,ii s.n3]] W fun e w'=>e=.returned (.tuple #[zbX V.1,zbT V.2])∧Below W W w'):
  Calls prog 41 #[.pointer (some ⟨u,0,none⟩),.pointer (some ⟨x,0,none⟩),key] w fun e w'=>e=.returned (.tuple #[.string (zdN s.op (s.m key) V).1,zbT (zdN s.op (s.m key) V).2])∧Below w w w':=by
 have hb:=h.blk;have hopn:=h.opn;have hmp:=h.mp;obtain⟨q0,q1,q2,q3,n0,n1,n2,n3,op,m,mn⟩:=s;simp only at hb hrd hopn hmp;have HRD:=zac hrd;have c4:=zaa hb 4;have c5:=zaa hb 5;have c6:=zaa hb 6;have c7:=zaa hb 7;have c8:=zaa hb 8;have c9:=zaa hb 9;simp only[zC,zD,zE]at c4 c5 c6 c7 c8 c9;haveI:zaj (u+1) w:=⟨zae hb⟩;cases op with
 | false=>
   clear h hb hrd hopn hmp;go_enter func41,ntmps41;go_wp2_with fail;go_ret2;exact⟨rfl,zB⟩
 | true=>
   obtain⟨mb,rfl⟩:∃ mb,mv=some mb:=by
    cases mv with
    | none=>exact absurd rfl (hopn rfl)
    | some mb=>exact⟨mb,rfl⟩
   have hlk:=(hmp mb rfl).1.look hk;obtain⟨L,hL⟩:∃ L,m key=L:=⟨_,rfl⟩;rw[hL]at hlk;simp only[hL];unfold WrP.val at hlk;clear h hb hrd hopn hmp hL;cases L with
   | some y=>
     obtain⟨yk,yd,yg⟩:=y;simp only[yb3,ybT]at hlk;cases yg with
     | true=>
       go_enter func41,ntmps41;go_wp2_with fail;go_ret2;exact⟨rfl,zB⟩
     | false=>
       go_enter func41,ntmps41;go_wp2_with fail;go_ret2;exact⟨rfl,zB⟩
   | none=>
     obtain⟨⟨vw,vc,vs,vq,vd,vg⟩,z⟩:=V;unfold zbX at HRD;simp only[ybQ,ybF,wrZ]at hlk HRD;go_enter func41,ntmps41;go_wp2_with fail;go_at_call 25;refine(HRD.out _ zB).mono ?_;rintro e w3 ⟨rfl,hb3⟩;obtain⟨x3,rfl⟩:=zad hb3;clear hb3 HRD;go_wp2_with fail;go_ret2;exact⟨rfl,zB⟩
theorem zfh {B k i:Nat}{w w':World}{v:Value}(h:Below B w w') (hk:B≤k):Below B w (w'.setCell ⟨k,i,none⟩ v):=h.setCell (p:=⟨k,i,none⟩) hk v
def zcD (s:SnP) (x:WrP):Int:=
 if s.op=false then 6 else if x.key<0∨7<x.key then 2 else if 12<x.data.size then 4 else if x.gone=true∧zeh x.data=false then 1
 else if s.m x.key=none∧5≤s.mn then 12 else 0
def zdL (s:SnP) (x:WrP):SnP:={ s with m:=wput s.m x.key x,mn:=if(s.m x.key).isSome then s.mn else s.mn+1 }
theorem zkP (B u:Nat) (s:SnP) (mv:Option Nat) (x:WrP) (w:World) (h:zc3 w B u s mv) (he:s.op=false∨x.key<0∨7<x.key∨12<x.data.size∨(x.gone=true∧zeh x.data=false)):
  Calls prog 42 #[.pointer (some ⟨u,0,none⟩),x.val] w fun e w'=>e=.returned (zbT (zcD s x))∧zcD s x≠0∧Below w w w':=by
 have hb:=h.blk;obtain⟨q0,q1,q2,q3,n0,n1,n2,n3,op,m,mn⟩:=s;obtain⟨xk,xd,xg⟩:=x;simp only at hb he;have HE:Hid (zcD ⟨q0,q1,q2,q3,n0,n1,n2,n3,op,m,mn⟩ ⟨xk,xd,xg⟩=if op=false then 6 else if xk<0∨7<xk then 2 else if 12<xd.size then 4 else if xg=true∧zeh xd=false then 1 else if m xk=none∧5≤mn then 12 else 0):=zac rfl;have HDN:Hid (∀ (n:Int) (w':World),n≠0→zcD ⟨q0,q1,q2,q3,n0,n1,n2,n3,op,m,mn⟩ ⟨xk,xd,xg⟩=n→Below w w w'→(.returned (.iface 29 (ii n)):Ending)=.returned (zbT (zcD ⟨q0,q1,q2,q3,n0,n1,n2,n3,op,m,mn⟩ ⟨xk,xd,xg⟩))∧zcD ⟨q0,q1,q2,q3,n0,n1,n2,n3,op,m,mn⟩ ⟨xk,xd,xg⟩≠0∧Below w w w'):=zac (fun n w' h1 h2 h3=>⟨by rw[h2];unfold zbT;rw[yad h1],by rw[h2];exact h1,h3⟩);have c8:=zaa hb 8;simp only[zC,zD,zE]at c8;haveI:zaj (u+1) w:=⟨zae hb⟩;unfold WrP.val;clear h hb;cases op with
 | false=>
   have HE2:=zac (HE.out.trans (by simp:_=(6:Int)));go_enter func42,ntmps42;go_wp2_with fail;go_ret;exact HDN.out 6 _ zI HE2.out zB
 | true=>
 by_cases h0:xk<0
 ·have d0:decide (xk<0)=true:=yae h0
  have HE2:=zac (HE.out.trans (by rw[yad zS,yaj (.inl h0)]:_=(2:Int)));clear h0 he;go_enter func42,ntmps42;go_wp2_with fail;go_ret;exact HDN.out 2 _ zI HE2.out zB
 by_cases h7:7<xk
 ·have d0:decide (xk<0)=false:=yah h0
  have d7:decide (8≤xk)=true:=zT;have HE2:=zac (HE.out.trans (by rw[yad zS,yaj (.inr h7)]:_=(2:Int)));clear h0 h7 he;go_enter func42,ntmps42;go_wp2_with fail;go_ret;exact HDN.out 2 _ zI HE2.out zB
 have d0:decide (xk<0)=false:=yah h0;have d7:decide (8≤xk)=false:=zU;by_cases hd:12<xd.size
 ·have d1:decide ((12:Int)<(xd.size:Int))=true:=zT
  have HE2:=zac (HE.out.trans (by rw[yad zS,yad zO,yaj hd]:_=(4:Int)));clear h0 h7 hd he;go_enter func42,ntmps42;go_wp2_with fail;go_ret;exact HDN.out 4 _ zI HE2.out zB
 have d1:decide ((12:Int)<(xd.size:Int))=false:=zU;obtain⟨rfl,he4⟩:xg=true∧zeh xd=false:=by
  rcases he with e|e|e|e|e
  ·cases e
  ·exact absurd e h0
  ·exact absurd e h7
  ·exact absurd e hd
  ·exact e
 have HE2:=zac (HE.out.trans (by rw[yad zS,yad zO,yad hd,yaj ⟨rfl,he4⟩]:_=(1:Int)));have he2:xd.toList.isEmpty=false:=he4;clear h0 h7 hd he4;go_enter func42,ntmps42;go_wp2_with fail;go_ret;exact HDN.out 1 _ zI HE2.out zB
theorem zmc (B u mb:Nat) (s:SnP) (x:WrP) (w:World) (h:zc3 w B u s (some mb)) (ho:s.op=true) (hk:0≤x.key∧x.key≤7) (hd:x.data.size≤12) (hg:x.gone=false∨x.data.toList.isEmpty=true) (hmn:s.mn≤900):
  Calls prog 42 #[.pointer (some ⟨u,0,none⟩),x.val] w fun e w'=>(s.m x.key=none∧5≤s.mn→e=.returned (.iface 29 (ii 12))∧Below w w w')∧
   (¬(s.m x.key=none∧5≤s.mn)→e=.returned .nilIface∧zc3 w' B u (zdL s x) (some mb)∧zaO w w' (zbL u (some mb)) (zbL u (some mb))):=by
 have HS:=zac h;have hb:=h.blk;obtain⟨q0,q1,q2,q3,n0,n1,n2,n3,op,m,mn⟩:=s;obtain⟨xk,xd,xg⟩:=x;simp only at hb ho hk hd hg hmn;subst ho;have HWF:Hid (zcr xk):=zac (by unfold zcr;omega);have d0:decide (xk<0)=false:=zU;have d7:decide (8≤xk)=false:=zU;have d1:decide ((12:Int)<(xd.size:Int))=false:=zU;have HB1:Hid (Below w w (w.alloc (.cells #[xk,.string xd,.bool xg] 83))):=zac zB;have HBX:Hid ((w.alloc (.cells #[xk,.string xd,.bool xg] 83)).heap[w.heap.size]?=some (.cells #[xk,.string xd,.bool xg] 83)):=zac (zag rfl _);have HS1:=zac (h.below HB1.out);have c8:=zaa hb 8;simp only[zC,zD,zE]at c8;haveI:zaj (u+1) w:=⟨zae hb⟩;have HG:Hid (xg=false∨(xg=true∧xd.toList.isEmpty=true)):=zac (by
  cases xg with
  | false=>exact .inl rfl
  | true=>exact .inr ⟨rfl,hg.resolve_left zS⟩)
 clear h hb hk hd hg;unfold WrP.val;refine(show ∀ Q:Ending→World→Prop,Hid (∀ (e:Ending) (w':World),((m xk=none∧5≤mn→e=.returned (.iface 29 (ii 12))∧Below w w w')∧(¬(m xk=none∧5≤mn)→e=.returned .nilIface∧zc3 w' B u (zdL ⟨q0,q1,q2,q3,n0,n1,n2,n3,true,m,mn⟩ ⟨xk,xd,xg⟩) (some mb)∧zaO w w' (zbL u (some mb)) (zbL u (some mb))))→Q e w')→Calls prog 42 #[.pointer (some ⟨u,0,none⟩),.agg #[ii xk,.string xd,.bool xg]] w Q from ?_) _ (zac fun _ _ h=>h);intro Q HQ;obtain⟨L,hL⟩:∃ L,m xk=L:=⟨_,rfl⟩;have HL:=zac hL;obtain⟨lk,hlk⟩:∃ lk,((m xk).getD wrZ).key=lk:=⟨_,rfl⟩;obtain⟨ld,hld⟩:∃ ld,((m xk).getD wrZ).data=ld:=⟨_,rfl⟩;obtain⟨lg,hlg⟩:∃ lg,((m xk).getD wrZ).gone=lg:=⟨_,rfl⟩;obtain⟨lb,hlb⟩:∃ lb,(m xk).isSome=lb:=⟨_,rfl⟩;have HLB:=zac hlb;have HSK:Hid (∀ X:World,Below (w.alloc (.cells #[xk,.string xd,.bool xg] 83)).heap.size (w.alloc (.cells #[xk,.string xd,.bool xg] 83)) X→(X.cell? ⟨u,9,none⟩=some (.map (some mb))∧X.cell? ⟨w,0,none⟩=some (ii xk)∧(Instr.lookup 169 (.map (some mb)) (ii xk) true).run prog X=.ok (.tuple #[.agg #[ii lk,.string ld,.bool lg],.bool lb]) X)):=zac (fun X hX=>by
  have hs:=HS1.out.below hX;have hbx:=(hX.block _ (zae HBX.out)).trans HBX.out;refine⟨zaa hs.blk 9,zaa hbx 0,?_⟩;have:=(hs.mp mb rfl).1.look HWF.out;unfold WrP.val at this;rw[hlk,hld,hlg,hlb]at this;exact this)
 clear hL hlk hld hlg hlb;rcases HG.out with hg|⟨hg,he⟩
 ·subst hg
  go_enter func42,ntmps42;go_upto_region 9 with fail;have hu1:=zae HS1.out.blk;have hw1:=zae HBX.out;go_cut [6] (fun s6 Y=>s6=.bool lb∧Below (w.alloc (.cells #[xk,.string xd,.bool false] 83)).heap.size (w.alloc (.cells #[xk,.string xd,.bool false] 83)) Y)
  case first=>
   go_region_held3 (fun X:World=>X.cell? ⟨u,9,none⟩=some (.map (some mb))∧X.cell? ⟨w,0,none⟩=some (ii xk)∧(Instr.lookup 169 (.map (some mb)) (ii xk) true).run prog X=.ok (.tuple #[.agg #[ii lk,.string ld,.bool lg],.bool lb]) X) ((refine HSK.out _ (by repeat(first|exact yaf _ _|refine zal ?_|refine zaD ?_|refine ya2 ?_|refine zfh ?_ (yai _))))) (first|fail)
   all_goals
    go_wp2_with fail;go_meet;exact⟨rfl,(by repeat(first|exact yaf _ _|refine zal ?_|refine zaD ?_|refine ya2 ?_|refine zfh ?_ (yai _)))⟩
  case rest=>
   obtain⟨rfl,hbw⟩:=hcut;have HS2:=zac (HS1.out.below hbw);have HB2:=zac (HB1.out.trans (hbw.mono HB1.out.size));have hbx:=(hbw.block _ hw1).trans HBX.out;have hmp:=(HS2.out.mp mb rfl);have HMP:=zac hmp.1;have hub:=HS2.out.blk;have k9:=zaa hub 9;have e0:=zaa hbx 0;have e1:=zaa hbx 1;have e2:=zaa hbx 2;simp only[zC,zD,zE]at k9 e0 e1 e2;have hlen:=hmp.1.len 3;simp only at hlen;haveI:zaj (u+1) wc:=⟨zae hub⟩;haveI:zaj (w.heap.size+1) wc:=⟨zae hbx⟩;have HUB:=zac hub;have HNE:=zac hmp.2;clear hbw hbx hmp hub HSK HS1 HBX HB1;by_cases hfull:lb=false∧5≤mn
   ·obtain⟨rfl,h5⟩:=hfull
    have d5:decide ((5:Int)≤(mn:Int))=true:=zT;have HNN:Hid (m xk=none):=zac (by cases hm:m xk with|none=>rfl|some y=>rw[hm]at HLB;exact absurd HLB.out zS);go_wp2_with fail
    first|go_ret|skip
    exact HQ.out _ _ ⟨fun _=>⟨rfl,HB2.out.trans (yaH (B:=wc.heap.size) zB HB2.out.size)⟩,fun e=>absurd ⟨HNN.out,h5⟩ e⟩
   ·have HNF:Hid (¬(m xk=none∧5≤mn)):=zac (fun e=>hfull ⟨by rw[←HLB.out,e.1];rfl,e.2⟩)
    cases lb with
    | true=>
      have HFIN:=zac fun(X wu:World) (hX:Below wc wc X) (hmp:zeZ wu mb (wput m xk ⟨xk,xd,false⟩) (if(m xk).isSome then mn else mn+1)) (hg:X.grownBy wu (some mb))=>
       (show zc3 wu B u (zdL ⟨q0,q1,q2,q3,n0,n1,n2,n3,true,m,mn⟩ ⟨xk,xd,false⟩) (some mb)∧zaO w wu (zbL u (some mb)) (zbL u (some mb))from by
         have hlu:=zae HUB.out;refine⟨⟨(hg.block u (yab hlu hX.size) (fun e=>HNE.out.2 (yaI e).symm)).trans ((hX.block u hlu).trans HUB.out),fun mb' e=>?_,fun _=>by simp,HS2.out.bx⟩,?_⟩
         ·obtain rfl:=yaI e
          exact⟨hmp,HNE.out⟩
         ·have f1:=(zaO.of_below (zbL u (some mb)) HB2.out).trans (zaO.of_below (zbL u (some mb)) hX)
          exact⟨hg.os.trans f1.os,hg.tape.trans f1.tape,hg.output.trans f1.output,yac f1.size hg.size,fun k hk hn=>(hg.block k (yab hk f1.size) (fun e=>hn (.inr e.symm))).trans (f1.block k hk hn),fun b hb=>.inl hb⟩)
      go_upto_region 12 with fail;refine zb9 7 fun x3=>?_
      obtain⟨wu,hrun,hmp,hturn⟩:=(HMP.out.below (show Below wc wc (zai wc x3)from zB)).store (by simp only;omega) HWF.out ⟨xk,xd,false⟩;unfold WrP.val at hrun;go_wp2_with fail
      first|go_ret|skip
      exact HQ.out _ _ ⟨fun e=>absurd e HNF.out,fun _=>⟨rfl,HFIN.out _ wu (show Below wc wc (zai wc x3)from zB) hmp hturn.grown⟩⟩
    | false=>
      have d5:decide ((5:Int)≤(mn:Int))=false:=yah (by rintro e;exact hfull ⟨rfl,zO⟩);have HFIN:=zac fun(X wu:World) (hX:Below wc wc X) (hmp:zeZ wu mb (wput m xk ⟨xk,xd,false⟩) (if(m xk).isSome then mn else mn+1)) (hg:X.grownBy wu (some mb))=>
       (show zc3 wu B u (zdL ⟨q0,q1,q2,q3,n0,n1,n2,n3,true,m,mn⟩ ⟨xk,xd,false⟩) (some mb)∧zaO w wu (zbL u (some mb)) (zbL u (some mb))from by
         have hlu:=zae HUB.out;refine⟨⟨(hg.block u (yab hlu hX.size) (fun e=>HNE.out.2 (yaI e).symm)).trans ((hX.block u hlu).trans HUB.out),fun mb' e=>?_,fun _=>by simp,HS2.out.bx⟩,?_⟩
         ·obtain rfl:=yaI e
          exact⟨hmp,HNE.out⟩
         ·have f1:=(zaO.of_below (zbL u (some mb)) HB2.out).trans (zaO.of_below (zbL u (some mb)) hX)
          exact⟨hg.os.trans f1.os,hg.tape.trans f1.tape,hg.output.trans f1.output,yac f1.size hg.size,fun k hk hn=>(hg.block k (yab hk f1.size) (fun e=>hn (.inr e.symm))).trans (f1.block k hk hn),fun b hb=>.inl hb⟩)
      go_upto_region 12 with fail;refine zb9 7 fun x3=>?_
      obtain⟨wu,hrun,hmp,hturn⟩:=(HMP.out.below (show Below wc wc (zai wc x3)from zB)).store (by simp only;omega) HWF.out ⟨xk,xd,false⟩;unfold WrP.val at hrun;go_wp2_with fail
      first|go_ret|skip
      exact HQ.out _ _ ⟨fun e=>absurd e HNF.out,fun _=>⟨rfl,HFIN.out _ wu (show Below wc wc (zai wc x3)from zB) hmp hturn.grown⟩⟩
 ·subst hg
  go_enter func42,ntmps42;go_upto_region 9 with fail;have hu1:=zae HS1.out.blk;have hw1:=zae HBX.out;go_cut [6] (fun s6 Y=>s6=.bool lb∧Below (w.alloc (.cells #[xk,.string xd,.bool true] 83)).heap.size (w.alloc (.cells #[xk,.string xd,.bool true] 83)) Y)
  case first=>
   go_region_held3 (fun X:World=>X.cell? ⟨u,9,none⟩=some (.map (some mb))∧X.cell? ⟨w,0,none⟩=some (ii xk)∧(Instr.lookup 169 (.map (some mb)) (ii xk) true).run prog X=.ok (.tuple #[.agg #[ii lk,.string ld,.bool lg],.bool lb]) X) ((refine HSK.out _ (by repeat(first|exact yaf _ _|refine zal ?_|refine zaD ?_|refine ya2 ?_|refine zfh ?_ (yai _))))) (first|fail)
   all_goals
    go_wp2_with fail;go_meet;exact⟨rfl,(by repeat(first|exact yaf _ _|refine zal ?_|refine zaD ?_|refine ya2 ?_|refine zfh ?_ (yai _)))⟩
  case rest=>
   obtain⟨rfl,hbw⟩:=hcut;have HS2:=zac (HS1.out.below hbw);have HB2:=zac (HB1.out.trans (hbw.mono HB1.out.size));have hbx:=(hbw.block _ hw1).trans HBX.out;have hmp:=(HS2.out.mp mb rfl);have HMP:=zac hmp.1;have hub:=HS2.out.blk;have k9:=zaa hub 9;have e0:=zaa hbx 0;have e1:=zaa hbx 1;have e2:=zaa hbx 2;simp only[zC,zD,zE]at k9 e0 e1 e2;have hlen:=hmp.1.len 3;simp only at hlen;haveI:zaj (u+1) wc:=⟨zae hub⟩;haveI:zaj (w.heap.size+1) wc:=⟨zae hbx⟩;have HUB:=zac hub;have HNE:=zac hmp.2;clear hbw hbx hmp hub HSK HS1 HBX HB1;by_cases hfull:lb=false∧5≤mn
   ·obtain⟨rfl,h5⟩:=hfull
    have d5:decide ((5:Int)≤(mn:Int))=true:=zT;have HNN:Hid (m xk=none):=zac (by cases hm:m xk with|none=>rfl|some y=>rw[hm]at HLB;exact absurd HLB.out zS);go_wp2_with fail
    first|go_ret|skip
    exact HQ.out _ _ ⟨fun _=>⟨rfl,HB2.out.trans (yaH (B:=wc.heap.size) zB HB2.out.size)⟩,fun e=>absurd ⟨HNN.out,h5⟩ e⟩
   ·have HNF:Hid (¬(m xk=none∧5≤mn)):=zac (fun e=>hfull ⟨by rw[←HLB.out,e.1];rfl,e.2⟩)
    cases lb with
    | true=>
      have HFIN:=zac fun(X wu:World) (hX:Below wc wc X) (hmp:zeZ wu mb (wput m xk ⟨xk,xd,true⟩) (if(m xk).isSome then mn else mn+1)) (hg:X.grownBy wu (some mb))=>
       (show zc3 wu B u (zdL ⟨q0,q1,q2,q3,n0,n1,n2,n3,true,m,mn⟩ ⟨xk,xd,true⟩) (some mb)∧zaO w wu (zbL u (some mb)) (zbL u (some mb))from by
         have hlu:=zae HUB.out;refine⟨⟨(hg.block u (yab hlu hX.size) (fun e=>HNE.out.2 (yaI e).symm)).trans ((hX.block u hlu).trans HUB.out),fun mb' e=>?_,fun _=>by simp,HS2.out.bx⟩,?_⟩
         ·obtain rfl:=yaI e
          exact⟨hmp,HNE.out⟩
         ·have f1:=(zaO.of_below (zbL u (some mb)) HB2.out).trans (zaO.of_below (zbL u (some mb)) hX)
          exact⟨hg.os.trans f1.os,hg.tape.trans f1.tape,hg.output.trans f1.output,yac f1.size hg.size,fun k hk hn=>(hg.block k (yab hk f1.size) (fun e=>hn (.inr e.symm))).trans (f1.block k hk hn),fun b hb=>.inl hb⟩)
      go_upto_region 12 with fail;refine zb9 7 fun x3=>?_
      obtain⟨wu,hrun,hmp,hturn⟩:=(HMP.out.below (show Below wc wc (zai wc x3)from zB)).store (by simp only;omega) HWF.out ⟨xk,xd,true⟩;unfold WrP.val at hrun;go_wp2_with fail
      first|go_ret|skip
      exact HQ.out _ _ ⟨fun e=>absurd e HNF.out,fun _=>⟨rfl,HFIN.out _ wu (show Below wc wc (zai wc x3)from zB) hmp hturn.grown⟩⟩
    | false=>
      have d5:decide ((5:Int)≤(mn:Int))=false:=yah (by rintro e;exact hfull ⟨rfl,zO⟩);have HFIN:=zac fun(X wu:World) (hX:Below wc wc X) (hmp:zeZ wu mb (wput m xk ⟨xk,xd,true⟩) (if(m xk).isSome then mn else mn+1)) (hg:X.grownBy wu (some mb))=>
       (show zc3 wu B u (zdL ⟨q0,q1,q2,q3,n0,n1,n2,n3,true,m,mn⟩ ⟨xk,xd,true⟩) (some mb)∧zaO w wu (zbL u (some mb)) (zbL u (some mb))from by
         have hlu:=zae HUB.out;refine⟨⟨(hg.block u (yab hlu hX.size) (fun e=>HNE.out.2 (yaI e).symm)).trans ((hX.block u hlu).trans HUB.out),fun mb' e=>?_,fun _=>by simp,HS2.out.bx⟩,?_⟩
         ·obtain rfl:=yaI e
          exact⟨hmp,HNE.out⟩
         ·have f1:=(zaO.of_below (zbL u (some mb)) HB2.out).trans (zaO.of_below (zbL u (some mb)) hX)
          exact⟨hg.os.trans f1.os,hg.tape.trans f1.tape,hg.output.trans f1.output,yac f1.size hg.size,fun k hk hn=>(hg.block k (yab hk f1.size) (fun e=>hn (.inr e.symm))).trans (f1.block k hk hn),fun b hb=>.inl hb⟩)
      go_upto_region 12 with fail;refine zb9 7 fun x3=>?_
      obtain⟨wu,hrun,hmp,hturn⟩:=(HMP.out.below (show Below wc wc (zai wc x3)from zB)).store (by simp only;omega) HWF.out ⟨xk,xd,true⟩;unfold WrP.val at hrun;go_wp2_with fail
      first|go_ret|skip
      exact HQ.out _ _ ⟨fun e=>absurd e HNF.out,fun _=>⟨rfl,HFIN.out _ wu (show Below wc wc (zai wc x3)from zB) hmp hturn.grown⟩⟩
theorem zjd (W:List WrP) (x:WrP) (kx:Nat) (hx:x.key=(kx:Int)):∀ n,(zdJ (W++[x]) n).length=(zdJ W n).length+(if kx<n∧lastW W (kx:Int)=none then 1 else 0)
 | 0=>by simp[zdJ]
 | n+1=>by
   have ih:=zjd W x kx hx n;rw[zgF,zgF,yak,yak,ih,zeQ];by_cases e:kx=n
   ·subst e
    rw[yaj hx,yad zO];cases hl:lastW W (kx:Int)with
    | none=>simp
    | some y=>simp
   ·rw[yad (show ¬x.key=(n:Int)by rw[hx];omega)]
    have h1:(kx<n+1∧lastW W (kx:Int)=none)↔(kx<n∧lastW W (kx:Int)=none):=⟨fun h=>⟨zO,h.2⟩,fun h=>⟨zO,h.2⟩⟩;simp only[h1];omega
structure zcI (s:SnP) (d:SdP):Prop where
 q:s.q0=d.q0∧s.q1=d.q1∧s.q2=d.q2∧s.q3=d.q3
 n:s.n0=d.n0∧s.n1=d.n1∧s.n2=d.n2∧s.n3=d.n3
 op:s.op=d.op
 m:s.op=true→∀ k,s.m k=lastW d.W k
 mn:s.op=true→s.mn=(zdJ d.W 8).length
theorem zcI.fresh:zcI snNew ⟨0,0,0,0,0,0,0,0,false,[]⟩:=⟨⟨rfl,rfl,rfl,rfl⟩,⟨rfl,rfl,rfl,rfl⟩,rfl,fun h=>(by cases h),fun h=>(by cases h)⟩
theorem zcI.abort {s:SnP}{d:SdP}(h:zcI s d):zcI (zdt s) (zaG d):=by
 obtain⟨⟨a,b,c,e⟩,⟨f,g,i,j⟩,_,_,_⟩:=h;refine⟨?_,⟨rfl,rfl,rfl,rfl⟩,rfl,fun h=>(by cases h),fun h=>(by cases h)⟩;unfold zdt zaG;rw[a,b,c,e,f,g,i,j];exact⟨rfl,rfl,rfl,rfl⟩
theorem zcI.begin_ {s:SnP}{d:SdP}(h:zcI s d) (p0 p1 p2 p3:Int):zcI (zjp s p0 p1 p2 p3) (ze3 d p0 p1 p2 p3):=
 ⟨h.q,⟨rfl,rfl,rfl,rfl⟩,rfl,fun _ k=>rfl,fun _=>rfl⟩
theorem zcI.beginE {s:SnP}{d:SdP}(h:zcI s d) (p0 p1 p2 p3:Int):zds s p0 p1 p2 p3=zcs d p0 p1 p2 p3:=by
 obtain⟨⟨a,b,c,e⟩,_,o,_,_⟩:=h;unfold zds zcs;rw[a,b,c,e,o]
theorem zcI.write {s:SnP}{d:SdP}(h:zcI s d){x:WrP}(ho:s.op=true) (hk:0≤x.key∧x.key≤7):zcI (zdL s x) { d with W:=d.W++[x] }:=by
 obtain⟨kx,hx⟩:=yar hk.1;refine⟨h.q,h.n,h.op,fun _ k=>?_,fun _=>?_⟩
 ·show wput s.m x.key x k=lastW (d.W++[x]) k
  rw[zeQ];unfold wput;by_cases e:k=x.key
  ·rw[yaj e,yaj e.symm]
  ·rw[yad e,yad (fun e2=>e e2.symm)];exact h.m ho k
 ·show(if(s.m x.key).isSome then s.mn else s.mn+1)=(zdJ (d.W++[x]) 8).length
  rw[zjd d.W x kx hx,h.mn ho,h.m ho,hx];cases hl:lastW d.W (kx:Int)with
  | none=>simp;omega
  | some y=>simp
theorem zcI.writeE {s:SnP}{d:SdP}(h:zcI s d) (x:WrP):zcD s x=za8 d x:=by
 unfold zcD za8;cases ho:s.op with
 | false=>rw[←h.op,ho];rfl
 | true=>rw[←h.op,ho,h.m ho,h.mn ho]
end Go.Proofs.YtbopfhbeegkkaabGreatDoor
