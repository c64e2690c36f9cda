/- Part 14 of a proof: lemmas and contracts that other parts use. -/
import Derived.Test.YtbopfhbeegkkaabGreatDoorWp12
import Derived.Test.YtbopfhbeegkkaabGreatDoorWp13
import Derived.Test.YtbopfhbeegkkaabGreatDoorWp7
import Derived.Deep.DeepCutAuto
import Derived.Test.YtbopfhbeegkkaabGreatDoorWp9
import Derived.RegionTactic
import Derived.Lib.AppendZeros
import Derived.Test.YtbopfhbeegkkaabGreatDoorWp11
set_option linter.unusedVariables false
set_option linter.unusedSimpArgs false
set_option maxHeartbeats 8000000
set_option maxRecDepth 20000
namespace Go.Proofs.YtbopfhbeegkkaabGreatDoor
open Go.RowKit Go.Proofs.Tryz
structure SdP where
 q0:Int
 q1:Int
 q2:Int
 q3:Int
 n0:Int
 n1:Int
 n2:Int
 n3:Int
 op:Bool
 W:List WrP
def zcw (v:Nat) (wv:Value) (b:Nat):Prop:=b=v∨wv.ownBlock=some b
structure zdn (w:World) (B v:Nat) (d:SdP) (wv:Value):Prop where
 blk:w.heap[v]?=some (.cells #[d.q0,d.q1,d.q2,d.q3,d.n0,d.n1,d.n2,d.n3,.bool d.op,wv] 79)
 own:w.ownsRow B 83 3 wv d.W.length (d.W.flatMap wcs)
 bx:B≤v
 ng:wv.ownBlock≠some v
theorem zdn.lt {w:World}{B v:Nat}{d:SdP}{wv:Value}(h:zdn w B v d wv){b:Nat}(hb:zcw v wv b):B≤b∧b<w.heap.size:=by
 rcases hb with rfl|hb
 ·exact⟨h.bx,zae h.blk⟩
 ·exact zao h.own hb
theorem zdn.same {w w':World}{B v:Nat}{d:SdP}{wv:Value}(h:zdn w B v d wv) (ho:∀ b,zcw v wv b→w'.heap[b]?=w.heap[b]?):zdn w' B v d wv:=by
 refine⟨(ho v (.inl rfl)).trans h.blk,?_,h.bx,h.ng⟩;obtain⟨hl,hn|⟨g,cap,cur,hv,hb,hg,rest⟩⟩:=h.own
 ·exact⟨hl,.inl hn⟩
 ·exact⟨hl,.inr ⟨g,cap,cur,hv,hb,by rw[ho g (.inr (by rw[hv];rfl))];exact hg,rest⟩⟩
theorem zdn.below {w w':World}{B v:Nat}{d:SdP}{wv:Value}(h:zdn w B v d wv) (hb:Below w w w'):zdn w' B v d wv:=
 h.same fun b hb'=>hb.block b (h.lt hb').2
theorem zaO.setD {w:World}{v i:Nat}{wv:Value}(u:Value):zaO w (w.setCell ⟨v,i,none⟩ u) (zcw v wv) (zcw v wv):=
 ⟨rfl,rfl,rfl,by simp[World.setCell],fun k hk hn=>(zan w v i u).block k hk (by simp;exact fun e=>hn (.inl e)),fun _ h=>.inl h⟩
theorem zaO.less {w w':World}{o1 o2 o3:Nat→Prop}(h:zaO w w' o1 o2) (hs:∀ b,o3 b→o2 b):zaO w w' o1 o3:=⟨h.os,h.tape,h.output,h.size,h.block,fun b hb=>h.own b (hs b hb)⟩
def ze3 (d:SdP) (p0 p1 p2 p3:Int):SdP:={ d with n0:=p0,n1:=p1,n2:=p2,n3:=p3,op:=true,W:=[] }
def zcs (d:SdP) (p0 p1 p2 p3:Int):Int:=if d.op=true then 6 else if zdp p0 p1 p2 p3 d.q0 d.q1 d.q2 d.q3=false then 10 else 0
def zaG (d:SdP):SdP:=⟨max d.q0 d.n0,max d.q1 d.n1,max d.q2 d.n2,max d.q3 d.n3,0,0,0,0,false,[]⟩
theorem zlb (B v y:Nat) (d:SdP) (wv:Value) (p0 p1 p2 p3:Int) (w:World) (h:zdn w B v d wv) (hy:y<w.heap.size) (hp:w.cell? ⟨y,1,none⟩=some (ii p0)∧w.cell? ⟨y,2,none⟩=some (ii p1)∧w.cell? ⟨y,3,none⟩=some (ii p2)∧w.cell? ⟨y,4,none⟩=some (ii p3)):
  Calls prog 39 #[.pointer (some ⟨v,0,none⟩),.pointer (some ⟨y,0,none⟩)] w fun e w'=>e=.returned (ii (zcs d p0 p1 p2 p3))∧(zcs d p0 p1 p2 p3≠0→Below w w w')∧
   (zcs d p0 p1 p2 p3=0→zdn w' B v (ze3 d p0 p1 p2 p3) (.slice none 0 0)∧zaO w w' (zcw v wv) (zcw v (.slice none 0 0))):=by
 obtain⟨q0,q1,q2,q3,n0,n1,n2,n3,op,W⟩:=d;obtain⟨a1,a2,a3,a4⟩:=hp;have HS:=zac h;have hb:=h.blk;simp only at hb;have c0:=zaa hb 0;have c1:=zaa hb 1;have c2:=zaa hb 2;have c3:=zaa hb 3;have c8:=zaa hb 8;have c4:=zaa hb 4;have c5:=zaa hb 5;have c6:=zaa hb 6;have c7:=zaa hb 7;have c9:=zaa hb 9;simp only[zC,zD,zE]at c0 c1 c2 c3 c4 c5 c6 c7 c8 c9;have z4:=zab hb 4;have z5:=zab hb 5;have z6:=zab hb 6;have z7:=zab hb 7;have z8:=zab hb 8;have z9:=zab hb 9;haveI:zaj (v+1) w:=⟨zae hb⟩;haveI:zaj (y+1) w:=⟨hy⟩;have HBK:=zac hb;clear h hb hy;have HE:Hid (zcs ⟨q0,q1,q2,q3,n0,n1,n2,n3,op,W⟩ p0 p1 p2 p3=if op=true then 6 else if zdp p0 p1 p2 p3 q0 q1 q2 q3=false then 10 else 0):=zac rfl;generalize zcs ⟨q0,q1,q2,q3,n0,n1,n2,n3,op,W⟩ p0 p1 p2 p3=E at *;cases op with
 | true=>
   have HE2:Hid (E=6):=zac (by rw[HE.out];rfl);clear HE;go_enter func39,ntmps39;go_wp2_with fail;go_ret;exact⟨by rw[HE2.out];rfl,fun _=>zB,fun e=>by rw[HE2.out]at e;cases e⟩
 | false=>
   cases hcv:zdp p0 p1 p2 p3 q0 q1 q2 q3 with
   | false=>
     have HCV:=zac fun X=>zcn hcv X
     have HE2:Hid (E=10):=zac (by rw[HE.out,hcv];rfl);clear HE hcv;go_enter func39,ntmps39;go_wp2_with fail;refine zaz fun x3=>?_
     go_wp2_with fail;go_ret;exact⟨by rw[HE2.out];rfl,fun _=>zB,fun e=>by rw[HE2.out]at e;cases e⟩
   | true=>
     have HCV:=zac fun X=>zcn hcv X
     have HE2:Hid (E=0):=zac (by rw[HE.out,hcv];rfl);clear HE hcv;go_enter func39,ntmps39;go_wp2_with fail;refine zaz fun x3=>?_
     go_wp2_with fail;go_ret;refine⟨by rw[HE2.out];rfl,fun e=>absurd HE2.out e,fun _=>?_⟩;have h2:zdn ((((((w.setCell ⟨v,8,none⟩ (.bool true)).setCell ⟨v,4,none⟩ (ii p0)).setCell ⟨v,5,none⟩ (ii p1)).setCell ⟨v,6,none⟩ (ii p2)).setCell ⟨v,7,none⟩ (ii p3)).setCell ⟨v,9,none⟩ (.slice none 0 0)) B v (ze3 ⟨q0,q1,q2,q3,n0,n1,n2,n3,false,W⟩ p0 p1 p2 p3) (.slice none 0 0):=
      ⟨by
        have e1:=zam HBK.out 8 (.bool true);have e2:=zam e1 4 (ii p0);have e3:=zam e2 5 (ii p1);have e4:=zam e3 6 (ii p2);have e5:=zam e4 7 (ii p3);have e6:=zam e5 9 (.slice none 0 0);simp only[yas,yaF,yaG]at e6;exact e6,⟨rfl,.inl ⟨rfl,rfl⟩⟩,HS.out.bx,by simp[Value.ownBlock]⟩
     have hc:∀ (X:World) (i:Nat) (u:Value),zaO X (X.setCell ⟨v,i,none⟩ u) (zcw v wv) (zcw v wv):=fun X i u=>zaO.setD u
     have f6:=(((((hc w 8 (.bool true)).trans (hc _ 4 (ii p0))).trans (hc _ 5 (ii p1))).trans (hc _ 6 (ii p2))).trans (hc _ 7 (ii p3))).trans (hc _ 9 (.slice none 0 0));clear HCV HBK c0 c1 c2 c3 c4 c5 c6 c7 c8 c9 z4 z5 z6 z7 z8 z9 a1 a2 a3 a4;generalize (((((w.setCell ⟨v,8,none⟩ (.bool true)).setCell ⟨v,4,none⟩ (ii p0)).setCell ⟨v,5,none⟩ (ii p1)).setCell ⟨v,6,none⟩ (ii p2)).setCell ⟨v,7,none⟩ (ii p3)).setCell ⟨v,9,none⟩ (.slice none 0 0)=W1 at *;exact⟨h2.below zB,(f6.trans (zaO.of_below _ (show Below W1 W1 (zai W1 x3)from zB))).less (fun b hb=>by
      rcases hb with e|e
      ·exact .inl e
      ·simp[Value.ownBlock]at e)⟩
theorem zhb (B v:Nat) (d:SdP) (wv:Value) (w:World) (h:zdn w B v d wv):
  Calls prog 47 #[.pointer (some ⟨v,0,none⟩)] w fun e w'=>(d.op=false→e=.returned (ii 6)∧Below w w w')∧
   (d.op=true→e=.returned (ii 0)∧zdn w' B v (zaG d) (.slice none 0 0)∧zaO w w' (zcw v wv) (zcw v (.slice none 0 0))):=by
 obtain⟨q0,q1,q2,q3,n0,n1,n2,n3,op,W⟩:=d;have HS:=zac h;have hb:=h.blk;simp only at hb;have c0:=zaa hb 0;have c1:=zaa hb 1;have c2:=zaa hb 2;have c3:=zaa hb 3;have c8:=zaa hb 8;have c4:=zaa hb 4;have c5:=zaa hb 5;have c6:=zaa hb 6;have c7:=zaa hb 7;have c9:=zaa hb 9;simp only[zC,zD,zE]at c0 c1 c2 c3 c4 c5 c6 c7 c8 c9;have z0:=zab hb 0;have z1:=zab hb 1;have z2:=zab hb 2;have z3:=zab hb 3;have z4:=zab hb 4;have z5:=zab hb 5;have z6:=zab hb 6;have z7:=zab hb 7;have z8:=zab hb 8;have z9:=zab hb 9;haveI:zaj (v+1) w:=⟨zae hb⟩;have HBK:=zac hb;have HMX:=zac fun X=>zkf q0 q1 q2 q3 n0 n1 n2 n3 X
 clear h hb;cases op with
 | false=>
   go_enter func47,ntmps47;go_wp2_with fail;go_ret;exact⟨fun _=>⟨rfl,zB⟩,fun e=>by cases e⟩
 | true=>
   go_enter func47,ntmps47;go_wp2_with fail;refine zb9 10 fun x3=>?_
   go_wp2_with fail;go_ret;refine⟨fun e=>(by cases e),fun _=>⟨rfl,?_⟩⟩;have h2:zdn ((((((((((w.setCell ⟨v,0,none⟩ (ii (max q0 n0))).setCell ⟨v,1,none⟩ (ii (max q1 n1))).setCell ⟨v,2,none⟩ (ii (max q2 n2))).setCell ⟨v,3,none⟩ (ii (max q3 n3))).setCell ⟨v,8,none⟩ (.bool false)).setCell ⟨v,4,none⟩ (ii 0)).setCell ⟨v,5,none⟩ (ii 0)).setCell ⟨v,6,none⟩ (ii 0)).setCell ⟨v,7,none⟩ (ii 0)).setCell ⟨v,9,none⟩ (.slice none 0 0)) B v (zaG ⟨q0,q1,q2,q3,n0,n1,n2,n3,true,W⟩) (.slice none 0 0):=
    ⟨by
      have e1:=zam HBK.out 0 (ii (max q0 n0));have e2:=zam e1 1 (ii (max q1 n1));have e3:=zam e2 2 (ii (max q2 n2));have e4:=zam e3 3 (ii (max q3 n3));have e5:=zam e4 8 (.bool false);have e6:=zam e5 4 (ii 0);have e7:=zam e6 5 (ii 0);have e8:=zam e7 6 (ii 0);have e9:=zam e8 7 (ii 0);have e10:=zam e9 9 (.slice none 0 0);simp only[yas,yaF,yaG]at e10;exact e10,⟨rfl,.inl ⟨rfl,rfl⟩⟩,HS.out.bx,by simp[Value.ownBlock]⟩
   have hc:∀ (X:World) (i:Nat) (u:Value),zaO X (X.setCell ⟨v,i,none⟩ u) (zcw v wv) (zcw v wv):=fun X i u=>zaO.setD u
   have hfr:=((((((((((hc w 0 (ii (max q0 n0))).trans (hc _ 1 (ii (max q1 n1)))).trans (hc _ 2 (ii (max q2 n2)))).trans (hc _ 3 (ii (max q3 n3)))).trans (hc _ 8 (.bool false))).trans (hc _ 4 (ii 0))).trans (hc _ 5 (ii 0))).trans (hc _ 6 (ii 0))).trans (hc _ 7 (ii 0))).trans (hc _ 9 (.slice none 0 0)));clear HMX HBK c0 c1 c2 c3 c4 c5 c6 c7 c8 c9 z0 z1 z2 z3 z4 z5 z6 z7 z8 z9;generalize (((((((((w.setCell ⟨v,0,none⟩ (ii (max q0 n0))).setCell ⟨v,1,none⟩ (ii (max q1 n1))).setCell ⟨v,2,none⟩ (ii (max q2 n2))).setCell ⟨v,3,none⟩ (ii (max q3 n3))).setCell ⟨v,8,none⟩ (.bool false)).setCell ⟨v,4,none⟩ (ii 0)).setCell ⟨v,5,none⟩ (ii 0)).setCell ⟨v,6,none⟩ (ii 0)).setCell ⟨v,7,none⟩ (ii 0)).setCell ⟨v,9,none⟩ (.slice none 0 0)=W1 at *;exact⟨h2.below zB,(hfr.trans (zaO.of_below _ (show Below W1 W1 (zai W1 x3)from zB))).less (fun b hb=>by
    rcases hb with e|e
    ·exact .inl e
    ·simp[Value.ownBlock]at e)⟩
def zdN (op:Bool) (own:Option WrP) (V:zaE×Int):ByteArray×Int:=
 if op=false then (⟨#[]⟩,6)else match own with
  | some x=>if x.gone=true then (⟨#[]⟩,8)else (x.data,0)
  | none=>(V.1.data,V.2)
theorem zdn.ws {w:World}{B v:Nat}{d:SdP}{wv:Value}(h:zdn w B v d wv):∃ A c,wv=.slice A d.W.length c∧zaN w A d.W:=by
 obtain⟨A,c,rfl⟩:=zaP h.own;exact⟨A,c,rfl,zjy h.own⟩
theorem zk7 (B v y:Nat) (d:SdP) (wv:Value) (key:Int) (V:zaE×Int) (w:World) (h:zdn w B v d wv) (hn:d.W.length≤100000)
  (hrd:∀ W,Below w w W→Calls prog 24 #[.pointer (some ⟨y,0,none⟩),key,.agg #[ii d.n0,ii d.n1,ii d.n2,ii d.n3]] W fun e w'=>e=.returned (.tuple #[zbX V.1,V.2])∧Below W W w'):
  Calls prog 40 #[.pointer (some ⟨v,0,none⟩),.pointer (some ⟨y,0,none⟩),key] w fun e w'=>e=.returned (.tuple #[.string (zdN d.op (lastW d.W key) V).1,ii (zdN d.op (lastW d.W key) V).2])∧Below w w w':=by
 obtain⟨A,c,rfl,hws⟩:=h.ws;have hb:=h.blk;obtain⟨q0,q1,q2,q3,n0,n1,n2,n3,op,W⟩:=d;simp only at hb hn hrd hws;have HRD:=zac hrd;have c4:=zaa hb 4;have c5:=zaa hb 5;have c6:=zaa hb 6;have c7:=zaa hb 7;have c8:=zaa hb 8;have c9:=zaa hb 9;simp only[zC,zD,zE]at c4 c5 c6 c7 c8 c9;have HBK:=zac hb;have HOW:=zac (zjz v A c W key w c9 (zae hb) hws hn);unfold WrP.val at HOW;haveI:zaj (v+1) w:=⟨zae hb⟩;obtain⟨L,hL⟩:∃ L,lastW W key=L:=⟨_,rfl⟩;rw[hL]at HOW;rw[hL];clear h hb hrd hws hn hL;cases op with
 | false=>
   go_enter func40,ntmps40;go_wp2_with fail;go_ret2;exact⟨rfl,zB⟩
 | true=>
   cases L with
   | some x=>
     obtain⟨xk,xd,xg⟩:=x;simp only[yb3,ybT]at HOW;go_enter func40,ntmps40;go_wp2_with fail;go_at_call 95;refine HOW.out.mono ?_;rintro e w2 ⟨rfl,hb2⟩;obtain⟨x2,rfl⟩:=zad hb2;clear hb2 HOW;cases xg with
     | true=>
       go_wp2_with fail;go_ret2;exact⟨rfl,zB⟩
     | false=>
       go_wp2_with fail;go_ret2;exact⟨rfl,zB⟩
   | none=>
     obtain⟨⟨vw,vc,vs,vq,vd,vg⟩,z⟩:=V;unfold zbX at HRD;simp only[ybQ,ybF,wrZ]at HOW HRD;go_enter func40,ntmps40;go_wp2_with fail;go_at_call 95;refine HOW.out.mono ?_;rintro e w2 ⟨rfl,hb2⟩;obtain⟨x2,rfl⟩:=zad hb2;clear hb2 HOW;go_wp2_with fail;go_at_call 24;refine(HRD.out _ zB).mono ?_;rintro e w3 ⟨rfl,hb3⟩;obtain⟨x3,rfl⟩:=zad hb3;clear hb3 HRD;go_wp2_with fail;go_ret2;exact⟨rfl,zB⟩
def zeh (d:ByteArray):Bool:=d.toList.isEmpty
def za8 (d:SdP) (x:WrP):Int:=
 if d.op=false then 6 else if x.key<0∨7<x.key then 2 else if 12<x.data.size then 4 else if x.gone=true∧zeh x.data=false then 1
 else if lastW d.W x.key=none∧5≤(zdJ d.W 8).length then 12 else 0
theorem zjv (B v:Nat) (d:SdP) (wv:Value) (x:WrP) (w:World) (h:zdn w B v d wv) (hn:d.W.length≤900):
  Calls prog 43 #[.pointer (some ⟨v,0,none⟩),x.val] w fun e w'=>e=.returned (ii (za8 d x))∧(za8 d x≠0→Below w w w')∧
   (za8 d x=0→∃ wv',zdn w' B v { d with W:=d.W++[x] } wv'∧zaO w w' (zcw v wv) (zcw v wv')):=by
 obtain⟨A,c,rfl,hws⟩:=h.ws;have HDN:Hid (∀ (n:Int) (w':World),n≠0→za8 d x=n→Below w w w'→(.returned (ii n):Ending)=.returned (ii (za8 d x))∧(za8 d x≠0→Below w w w')∧(za8 d x=0→∃ wv',zdn w' B v { d with W:=d.W++[x] } wv'∧zaO w w' (zcw v (.slice A d.W.length c)) (zcw v wv'))):=zac (fun n w' h1 h2 h3=>⟨by rw[h2],fun _=>h3,fun e=>absurd (h2 ▸ e) h1⟩);have HE:Hid (za8 d x=if d.op=false then 6 else if x.key<0∨7<x.key then 2 else if 12<x.data.size then 4 else if x.gone=true∧zeh x.data=false then 1
 else if lastW d.W x.key=none∧5≤(zdJ d.W 8).length then 12 else 0):=zac rfl
 have HS:=zac h;have hb:=h.blk;obtain⟨q0,q1,q2,q3,n0,n1,n2,n3,op,W⟩:=d;obtain⟨xk,xd,xg⟩:=x;simp only at hb hn hws HE;have HBX:Hid ((w.alloc (.cells #[xk,.string xd,.bool xg] 83)).heap[w.heap.size]?=some (.cells #[xk,.string xd,.bool xg] 83)):=zac (zag rfl _);have HB1:Hid (Below w w (w.alloc (.cells #[xk,.string xd,.bool xg] 83))):=zac (zal (yaf _ _));have hb1:=(HB1.out.block v (zae hb)).trans hb;have HW1:=zac (hws.below HB1.out);have c8:=zaa hb 8;simp only[zC,zD,zE]at c8;have c9:=zaa hb1 9;simp only[zC,zD,zE]at c9;have HBK:=zac hb1;haveI:zaj (v+1) w:=⟨zae hb⟩;have HOWN:=zac fun(X:World) (hB:Below (w.alloc (.cells #[xk,.string xd,.bool xg] 83)).heap.size (w.alloc (.cells #[xk,.string xd,.bool xg] 83)) X)=>zjz v A c W xk X ((hB.cell (p:=⟨v,9,none⟩) (zae hb1)).trans c9) (yab (zae hb1) hB.size) (HW1.out.below hB) zO
 have HALL:=zac fun(X:World) (hB:Below (w.alloc (.cells #[xk,.string xd,.bool xg] 83)).heap.size (w.alloc (.cells #[xk,.string xd,.bool xg] 83)) X)=>zia v A c W X ((hB.cell (p:=⟨v,9,none⟩) (zae hb1)).trans c9) (yab (zae hb1) hB.size) (HW1.out.below hB) zO
 unfold WrP.val at HOWN ⊢;clear h hb hb1 hws c9;cases op with
 | false=>
   have HE2:Hid (za8 ⟨q0,q1,q2,q3,n0,n1,n2,n3,false,W⟩ ⟨xk,xd,xg⟩=6):=zac (by rw[HE.out];rfl);go_enter func43,ntmps43;go_wp2_with fail;go_ret;exact HDN.out 6 _ zI HE2.out zB
 | true=>
 by_cases hk:0≤xk∧xk≤7
 case neg=>
  have HE2:Hid (za8 ⟨q0,q1,q2,q3,n0,n1,n2,n3,true,W⟩ ⟨xk,xd,xg⟩=2):=zac (by rw[HE.out,yad zS,yaj zO]);have HIN:=zac fun X=>zb7 (b:=false) X (show decide (0≤xk∧xk≤7)=false by simpa using hk)
  clear hk;go_enter func43,ntmps43;go_wp2_with fail;go_at_call 96;refine(HIN.out _).mono ?_;rintro e w2 ⟨rfl,rfl⟩;go_wp2_with fail;go_ret;exact HDN.out 2 _ zI HE2.out zB
 have HIN:=zac fun X=>zb7 (b:=true) X (show decide (0≤xk∧xk≤7)=true by simpa using hk)
 have HN2:Hid (¬(xk<0∨7<xk)):=zac zO;clear hk;by_cases hd:12<xd.size
 ·have HE2:Hid (za8 ⟨q0,q1,q2,q3,n0,n1,n2,n3,true,W⟩ ⟨xk,xd,xg⟩=4):=zac (by rw[HE.out,yad zS,yad HN2.out,yaj hd])
  have d1:decide ((12:Int)<(xd.size:Int))=true:=zT;clear hd;go_enter func43,ntmps43;go_wp2_with fail;go_at_call 96;refine(HIN.out _).mono ?_;rintro e w2 ⟨rfl,rfl⟩;go_wp2_with fail;go_ret;exact HDN.out 4 _ zI HE2.out zB
 have d1:decide ((12:Int)<(xd.size:Int))=false:=zU;have HN3:=zac hd;clear hd;by_cases hg:xg=true∧zeh xd=false
 ·obtain⟨rfl,he⟩:=hg
  have HE2:Hid (za8 ⟨q0,q1,q2,q3,n0,n1,n2,n3,true,W⟩ ⟨xk,xd,true⟩=1):=zac (by rw[HE.out,yad zS,yad HN2.out,yad HN3.out,yaj ⟨rfl,he⟩]);have he2:xd.toList.isEmpty=false:=he;clear he;go_enter func43,ntmps43;go_wp2_with fail;go_at_call 96;refine(HIN.out _).mono ?_;rintro e w2 ⟨rfl,rfl⟩;go_wp2_with fail;go_ret;exact HDN.out 1 _ zI HE2.out zB
 have HG:Hid (xg=false∨(xg=true∧xd.toList.isEmpty=true)):=zac (by
  cases xg with
  | false=>exact .inl rfl
  | true=>refine .inr ⟨rfl,?_⟩;cases he:xd.toList.isEmpty with
    | true=>rfl
    | false=>exact absurd ⟨rfl,he⟩ hg)
 have HN4:=zac hg;clear hg;obtain⟨full,hfull⟩:∃ full:Bool,decide (lastW W xk=none∧5≤(zdJ W 8).length)=full:=⟨_,rfl⟩;have HFU:=zac hfull;clear hfull;go_enter func43,ntmps43;go_wp2_with fail;go_at_call 96;refine(HIN.out _).mono ?_;rintro e w2 ⟨rfl,rfl⟩;have e0:=zaa HBX.out 0;have e1:=zaa HBX.out 1;have e2:=zaa HBX.out 2;simp only[zC,zD,zE]at e0 e1 e2;have hvl:=zae HBK.out;have hwl:=zae HBX.out;clear HIN;generalize w.alloc (.cells #[xk,.string xd,.bool xg] 83)=W1 at *;haveI:zaj (v+1) W1:=⟨hvl⟩;haveI:zaj (w.heap.size+1) W1:=⟨hwl⟩;go_upto_region 7 with fail;go_cut [26] (fun s26 X=>s26=.bool false∧W1=X)
 case first=>
  rcases HG.out with hg|⟨hg,he⟩
  ·subst hg
   go_wp2_with fail;go_meet;exact⟨rfl,rfl⟩
  ·subst hg
   go_wp2_with fail;go_meet;exact⟨by simp[he],rfl⟩
 case rest=>
  obtain⟨rfl,rfl⟩:=hcut;go_wp2_with fail;go_at_call 95;refine(HOWN.out _ (yaf _ _)).mono ?_;rintro e w3 ⟨rfl,hb3⟩;have HB3:=zac hb3;have hs3:=hb3.size;have c9:=zaa ((hb3.block v hvl).trans HBK.out) 9;simp only[zC,zD,zE]at c9;haveI:zaj (v+1) w3:=⟨zO⟩;haveI:zaj (w.heap.size+1) w3:=⟨zO⟩;clear hb3 c9;cases hl:lastW W xk with
  | some x=>
    have HE2:Hid (za8 ⟨q0,q1,q2,q3,n0,n1,n2,n3,true,W⟩ ⟨xk,xd,xg⟩=0):=zac (by rw[HE.out,yad zS,yad HN2.out,yad HN3.out,yad HN4.out,yad (by rw[hl];simp)]);clear hl HFU;simp only[ybT,yb3];go_upto_region 12 with fail;have HBC:Hid (Below W1 W1 (w3.alloc (.cells #[x.key,.string x.data,.bool x.gone] 83))):=zac (HB3.out.trans (yaH (B:=w3.heap.size) zB HB3.out.size));clear HB3 hs3;generalize w3.alloc (.cells #[x.key,.string x.data,.bool x.gone] 83)=wc at *;have hbv:=(HBC.out.block v hvl).trans HBK.out;have hbb:=(HBC.out.block w.heap.size hwl).trans HBX.out;have HB4:=zac (HB1.out.trans (HBC.out.mono HB1.out.size));have HS4:=zac (HS.out.below HB4.out);have HOW:=zac HS4.out.own;simp only at HOW;have HBV:=zac hbv;have c9:=zaa hbv 9;have z9:=zab hbv 9;have e0:=zaa hbb 0;have e1:=zaa hbb 1;have e2:=zaa hbb 2;simp only[zC,zD,zE]at c9 e0 e1 e2;haveI:zaj (v+1) wc:=⟨zae hbv⟩;haveI:zaj (w.heap.size+1) wc:=⟨zae hbb⟩;have hB4:B≤wc.heap.size:=yac HS.out.bx (ybw (zae hbv));have hvc:=zae hbv;have hng:=HS.out.ng;clear hbv hbb HDN HE HALL HOWN HN2 HN3 HN4 HG;go_upto_region 12 with fail;go_region_law (
     refine zed _ rfl (.tmp 46) (.tmp 48) rfl B (.slice A W.length c) W.length W zM (zaF HOW.out zB (fun j e=>(zao HOW.out e).2)) (some ⟨wc,0,none⟩) 1 [(⟨xk,xd,xg⟩:WrP)] zM (zj6 (m:=⟨xk,xd,xg⟩) (show(wc.alloc (.cells #[xk,.string xd,.bool xg] 83)).heap[wc.heap.size]?=some (.cells #[xk,.string xd,.bool xg] 83)from zag rfl _)) (by show W.length+1≤1000;omega) zP rfl ?_;intro A6 c6 w6 hown6 hgrow6 hat6;have hg:wc.grownBy w6 (Value.slice A W.length c).ownBlock:=by first|exact zau (zaQ (zaQ hgrow6))|exact zau (zaQ hgrow6)|exact zaQ (zau hgrow6)|exact zaQ (zau (zaQ hgrow6))|exact zaQ (zaQ (zau hgrow6))
     have HO6:=zac hown6;have HG6:=zac hg;have HA6:Hid (((Value.slice A6 (W++[(⟨xk,xd,xg⟩:WrP)]).length c6).ownBlock=(Value.slice A W.length c).ownBlock)∨(Value.slice A6 (W++[(⟨xk,xd,xg⟩:WrP)]).length c6).ownBlock=some (wc.heap.size+1)):=zac (by
      rcases hat6 with e|e
      ·exact .inl e
      ·exact .inr (by rw[e];simp[zaq]))
     have q1:w6.cell? ⟨v,9,none⟩=some (.slice A W.length c):=by rw[yam (a:=⟨v,9,none⟩) (hg.block v hvc (fun e=>hng e.symm))];exact c9
     have q2:w6.frozen? ⟨v,9,none⟩=false:=by rw[yal (a:=⟨v,9,none⟩) (hg.block v hvc (fun e=>hng e.symm))];exact z9
     haveI hs6:zaj (v+1) w6:=⟨by have:=hg.size;omega⟩;obtain⟨n6,hn6⟩:∃ n6,(W++[(⟨xk,xd,xg⟩:WrP)]).length=n6:=⟨_,rfl⟩;have HN6:=zac hn6;rw[hn6];clear hown6 hgrow6 hat6 hg hn6)
    all_goals
     go_wp2_with fail;go_ret;refine⟨by rw[HE2.out];rfl,fun e=>absurd HE2.out e,fun _=>?_⟩;refine⟨.slice A6 n6 c6,?_⟩;have hng6:(Value.slice A6 n6 c6).ownBlock≠some v:=by
      rw[←HN6.out];rcases HA6.out with e|e
      ·rw[e];exact hng
      ·rw[e];simp;omega
     have hb6:=(HG6.out.block v hvc (fun e=>hng e.symm)).trans HBV.out;have e9:=zam hb6 9 (.slice A6 n6 c6);simp only[yas,yaF,yaG]at e9;refine⟨⟨e9,?_,HS.out.bx,hng6⟩,?_⟩
     ·have ho:=HO6.out
      rw[HN6.out]at ho;show World.ownsRow _ B 83 3 (.slice A6 n6 c6) (W++[(⟨xk,xd,xg⟩:WrP)]).length ((W++[(⟨xk,xd,xg⟩:WrP)]).flatMap wcs);rw[HN6.out];exact ho.kept (zan w6 v 9 _) (.inr hng6)
     ·have f1:zaO wc w6 (zcw v (.slice A W.length c)) (zcw v (.slice A6 n6 c6)):=⟨HG6.out.os,HG6.out.tape,HG6.out.output,HG6.out.size,fun k hk hn=>HG6.out.block k hk (fun e=>hn (.inr e.symm)),fun b hb=>by
       rcases hb with e|e
       ·exact .inl (.inl e)
       ·rw[←HN6.out]at e
        rcases HA6.out with e2|e2
        ·exact .inl (.inr (by rw[←e2];exact e))
        ·rw[e2]at e;simp at e;exact .inr zO⟩
      exact((zaO.of_below _ HB4.out).trans f1).trans (zaO.setD _)
  | none=>
    have HA8:=zac (HALL.out _ (HB3.out.trans (yaH (B:=w3.heap.size) (show Below w3 w3 (w3.alloc (.cells #[ii 0,.string ⟨#[]⟩,.bool false] 83))from zB) HB3.out.size)));by_cases h5:5≤(zdJ W 8).length
    ·have HE2:Hid (za8 ⟨q0,q1,q2,q3,n0,n1,n2,n3,true,W⟩ ⟨xk,xd,xg⟩=12):=zac (by rw[HE.out,yad zS,yad HN2.out,yad HN3.out,yad HN4.out,yaj ⟨hl,h5⟩])
     have d5:decide ((5:Int)≤((zdJ W 8).length:Int))=true:=zT;clear hl h5 HFU;simp only[ybF,ybQ,wrZ];generalize zdJ W 8=al at *;go_wp2_with fail;go_at_call 97;refine HA8.out.mono ?_;rintro e w5 ⟨A5,c5,rfl,_,hb5⟩;have HB5:=zac ((HB3.out.trans (yaH (B:=w3.heap.size) (show Below w3 w3 (w3.alloc (.cells #[ii 0,.string ⟨#[]⟩,.bool false] 83))from zB) HB3.out.size)).trans (hb5.mono (by simp;have:=HB3.out.size;omega)));clear hb5;go_wp2_with fail;go_ret;exact HDN.out 12 _ zI HE2.out (HB1.out.trans (HB5.out.mono HB1.out.size))
    ·have HE2:Hid (za8 ⟨q0,q1,q2,q3,n0,n1,n2,n3,true,W⟩ ⟨xk,xd,xg⟩=0):=zac (by rw[HE.out,yad zS,yad HN2.out,yad HN3.out,yad HN4.out,yad (fun e=>h5 e.2)])
     have d5:decide ((5:Int)≤((zdJ W 8).length:Int))=false:=zU;clear hl h5 HFU;simp only[ybF,ybQ,wrZ];generalize zdJ W 8=al at *;go_wp2_with fail;go_at_call 97;refine HA8.out.mono ?_;rintro e wc ⟨A5,c5,rfl,_,hb5⟩;have HBC:=zac ((HB3.out.trans (yaH (B:=w3.heap.size) (show Below w3 w3 (w3.alloc (.cells #[ii 0,.string ⟨#[]⟩,.bool false] 83))from zB) HB3.out.size)).trans (hb5.mono (by simp;have:=HB3.out.size;omega)));clear hb5 HB3 hs3 HA8;have hbv:=(HBC.out.block v hvl).trans HBK.out;have hbb:=(HBC.out.block w.heap.size hwl).trans HBX.out;have HB4:=zac (HB1.out.trans (HBC.out.mono HB1.out.size));have HS4:=zac (HS.out.below HB4.out);have HOW:=zac HS4.out.own;simp only at HOW;have HBV:=zac hbv;have c9:=zaa hbv 9;have z9:=zab hbv 9;have e0:=zaa hbb 0;have e1:=zaa hbb 1;have e2:=zaa hbb 2;simp only[zC,zD,zE]at c9 e0 e1 e2;haveI:zaj (v+1) wc:=⟨zae hbv⟩;haveI:zaj (w.heap.size+1) wc:=⟨zae hbb⟩;have hB4:B≤wc.heap.size:=yac HS.out.bx (ybw (zae hbv));have hvc:=zae hbv;have hng:=HS.out.ng;clear hbv hbb HDN HE HALL HOWN HN2 HN3 HN4 HG;go_upto_region 12 with fail;go_region_law (
      refine zed _ rfl (.tmp 46) (.tmp 48) rfl B (.slice A W.length c) W.length W zM (zaF HOW.out zB (fun j e=>(zao HOW.out e).2)) (some ⟨wc,0,none⟩) 1 [(⟨xk,xd,xg⟩:WrP)] zM (zj6 (m:=⟨xk,xd,xg⟩) (show(wc.alloc (.cells #[xk,.string xd,.bool xg] 83)).heap[wc.heap.size]?=some (.cells #[xk,.string xd,.bool xg] 83)from zag rfl _)) (by show W.length+1≤1000;omega) zP rfl ?_;intro A6 c6 w6 hown6 hgrow6 hat6;have hg:wc.grownBy w6 (Value.slice A W.length c).ownBlock:=by first|exact zau (zaQ (zaQ hgrow6))|exact zau (zaQ hgrow6)|exact zaQ (zau hgrow6)|exact zaQ (zau (zaQ hgrow6))|exact zaQ (zaQ (zau hgrow6))
      have HO6:=zac hown6;have HG6:=zac hg;have HA6:Hid (((Value.slice A6 (W++[(⟨xk,xd,xg⟩:WrP)]).length c6).ownBlock=(Value.slice A W.length c).ownBlock)∨(Value.slice A6 (W++[(⟨xk,xd,xg⟩:WrP)]).length c6).ownBlock=some (wc.heap.size+1)):=zac (by
       rcases hat6 with e|e
       ·exact .inl e
       ·exact .inr (by rw[e];simp[zaq]))
      have q1:w6.cell? ⟨v,9,none⟩=some (.slice A W.length c):=by rw[yam (a:=⟨v,9,none⟩) (hg.block v hvc (fun e=>hng e.symm))];exact c9
      have q2:w6.frozen? ⟨v,9,none⟩=false:=by rw[yal (a:=⟨v,9,none⟩) (hg.block v hvc (fun e=>hng e.symm))];exact z9
      haveI hs6:zaj (v+1) w6:=⟨by have:=hg.size;omega⟩;obtain⟨n6,hn6⟩:∃ n6,(W++[(⟨xk,xd,xg⟩:WrP)]).length=n6:=⟨_,rfl⟩;have HN6:=zac hn6;rw[hn6];clear hown6 hgrow6 hat6 hg hn6)
     all_goals
      go_wp2_with fail;go_ret;refine⟨by rw[HE2.out];rfl,fun e=>absurd HE2.out e,fun _=>?_⟩;refine⟨.slice A6 n6 c6,?_⟩;have hng6:(Value.slice A6 n6 c6).ownBlock≠some v:=by
       rw[←HN6.out];rcases HA6.out with e|e
       ·rw[e];exact hng
       ·rw[e];simp;omega
      have hb6:=(HG6.out.block v hvc (fun e=>hng e.symm)).trans HBV.out;have e9:=zam hb6 9 (.slice A6 n6 c6);simp only[yas,yaF,yaG]at e9;refine⟨⟨e9,?_,HS.out.bx,hng6⟩,?_⟩
      ·have ho:=HO6.out
       rw[HN6.out]at ho;show World.ownsRow _ B 83 3 (.slice A6 n6 c6) (W++[(⟨xk,xd,xg⟩:WrP)]).length ((W++[(⟨xk,xd,xg⟩:WrP)]).flatMap wcs);rw[HN6.out];exact ho.kept (zan w6 v 9 _) (.inr hng6)
      ·have f1:zaO wc w6 (zcw v (.slice A W.length c)) (zcw v (.slice A6 n6 c6)):=⟨HG6.out.os,HG6.out.tape,HG6.out.output,HG6.out.size,fun k hk hn=>HG6.out.block k hk (fun e=>hn (.inr e.symm)),fun b hb=>by
        rcases hb with e|e
        ·exact .inl (.inl e)
        ·rw[←HN6.out]at e
         rcases HA6.out with e2|e2
         ·exact .inl (.inr (by rw[←e2];exact e))
         ·rw[e2]at e;simp at e;exact .inr zO⟩
       exact((zaO.of_below _ HB4.out).trans f1).trans (zaO.setD _)
theorem zlh (L:List MTx):∀ u∈L.flatMap MTx.cells,u.oneCell'=true:=by
 intro u hu;obtain⟨m,_,hm⟩:=yb2.1 hu;simp[MTx.cells]at hm;rcases hm with rfl|rfl|rfl|rfl|rfl|rfl|rfl|rfl|rfl <;> rfl
theorem zd9.flat {w:World}{A:Option Addr}{L:List MTx}(h:zd9 w A L) (hL:0<L.length):∃ b o,A=some ⟨b,o,none⟩∧b<w.heap.size∧∀ (j:Nat) (u:Value),(L.flatMap MTx.cells)[j]?=some u→w.cell? ⟨b,o+j,none⟩=some u:=by
 obtain⟨b,o,hA,hb,_⟩:=h 0 L[0] (yaa hL);refine⟨b,o,hA,hb,fun j u hu=>?_⟩;have hj:j<L.length*9:=by
  have:=(yao.1 hu).1;rwa[zhe]at this
 have hi:j / 9<L.length:=by omega
 obtain⟨b',o',hA',_,h0,h1,h2,h3,h4,h5,h6,h7,h8⟩:=h (j / 9) L[j / 9] (yaa hi);rw[hA]at hA';simp only[yaz,yaU]at hA';obtain⟨rfl,rfl,_⟩:=hA';have hm:L[j / 9]?=some L[j / 9]:=yaa hi;have key:∀ r v,(L[j / 9]).cells[r]?=some v→j % 9=r→w.cell? ⟨b,o+j / 9*9+r,none⟩=some v→w.cell? ⟨b,o+j,none⟩=some u:=by
  intro r v hv hr hc;have h9:=mcells_at L (j / 9) _ hm r v hv;have e:j / 9*9+r=j:=by omega
  rw[e,hu]at h9;have e2:o+j / 9*9+r=o+j:=by omega
  rw[e2]at hc;rw[hc];exact h9.symm
 have hr:j % 9=0∨j % 9=1∨j % 9=2∨j % 9=3∨j % 9=4∨j % 9=5∨j % 9=6∨j % 9=7∨j % 9=8:=by omega
 rcases hr with hr|hr|hr|hr|hr|hr|hr|hr|hr
 ·exact key 0 _ rfl hr h0
 ·exact key 1 _ rfl hr h1
 ·exact key 2 _ rfl hr h2
 ·exact key 3 _ rfl hr h3
 ·exact key 4 _ rfl hr h4
 ·exact key 5 _ rfl hr h5
 ·exact key 6 _ rfl hr h6
 ·exact key 7 _ rfl hr h7
 ·exact key 8 _ rfl hr h8
theorem zhH (w:World) (ty:TypeId) (base:Nat) (v:Value) (n:Nat) (xs:List Value) (hown:w.ownsRow base 44 9 v n xs) (A:Option Addr) (c:Nat) (L:List MTx) (hx:zd9 w A L) (hn:n+L.length≤1000) (hbase:base≤w.heap.size):
  ∃ v' w',(Builtin.append_ #[35,35] ty #[v,.slice A L.length c]).run prog w=.ok v' w'∧w'.ownsRow base 44 9 v' (n+L.length) (xs++L.flatMap MTx.cells)∧w.grownBy w' v.ownBlock∧(v'.ownBlock=v.ownBlock∨v'.ownBlock=some w.heap.size):=by
 obtain⟨i0,hi0,hz0,hz1,hz2⟩:=info40;have h63:n+L.length≤maxLen:=yac hn (yac zI maxLen_ge);rcases A with _|ad
 ·have hL:L=[]:=by
   rcases ybB L.length with h|h
   ·exact yan h
   ·obtain⟨b,o,e,_⟩:=hx.flat h;cases e
  subst hL;refine⟨v,w,?_,by simpa using hown,ycm w _,.inl rfl⟩;rcases hown.2 with ⟨rfl,rfl⟩|⟨g,cap,cur,rfl,_,_,hnc,_⟩
  ·simp[Builtin.append_,ybz underlying35,sizeOf,typeInfo,hi0,Builtin.lenOf,Builtin.firstCells]
  ·simp[Builtin.append_,ybz underlying35,sizeOf,typeInfo,hi0,Builtin.lenOf,Builtin.firstCells,hnc,storeCells]
 ·have hc:∀ j u,(L.flatMap MTx.cells)[j]?=some u→w.cell? (ad.add j)=some u:=by
   intro j u hu;rcases ybB L.length with h|h
   ·rw[yan h]at hu;simp at hu
   ·obtain⟨b,o,e,_,hc⟩:=hx.flat h
    obtain rfl:ad=⟨b,o,none⟩:=by simpa using e
    have e2:(⟨b,o,none⟩:Addr).add j=⟨b,o+j,none⟩:=by unfold Addr.add;split <;> simp_all
    rw[e2];exact hc j u hu
  obtain⟨v',w',hrun,h2,h3,_,h5⟩:=run_append_own_at (P:=prog) w base 35 ty 44 i0 txZero 9 88 underlying35 hi0 hz0 hz1 hz2 rfl zI v n xs hown ad L.length c _ (zhe L) hc (zlh L) h63 zO hbase;exact⟨v',w',hrun,h2,h3,h5⟩
theorem zil (w:World){o:Oper}{a:Act}{K:Act→World→Prop}{Q:Exit→Act→World→Prop}(s x:Operand)
  (ho:o.op=.call { callee:=.builtin .append,args:=#[s,x],argTypes:=#[35,35] }) (base:Nat) (v:Value) (n:Nat) (L0:List MTx) (hs:a.eval s=v) (hown:w.ownsRow base 44 9 v n (L0.flatMap MTx.cells)) (A:Option Addr) (c:Nat) (L:List MTx) (hx:a.eval x=.slice A L.length c)
  (hxs:zd9 w A L) (hn:n+L.length≤1000) (hbase:base≤w.heap.size) (hn0:n=L0.length)
  (h:∀ A' c' w',w'.ownsRow base 44 9 (.slice A' (L0++L).length c') (L0++L).length ((L0++L).flatMap MTx.cells)→w.grownBy w' v.ownBlock→((Value.slice A' (L0++L).length c').ownBlock=v.ownBlock∨(Value.slice A' (L0++L).length c').ownBlock=some w.heap.size)→K (a.put o.dst (.slice A' (L0++L).length c')) w'):
  Oper.wp prog o a w K Q:=by
 obtain⟨v',w',hrun,h2,h3,h4⟩:=zhH w o.type base v n (L0.flatMap MTx.cells) hown A c L hxs hn hbase;have e:n+L.length=(L0++L).length:=by rw[hn0,yak]
 rw[e,←yaJ]at h2;obtain⟨A',c',rfl⟩:=zaP h2;unfold Oper.wp execOp;simp only[ho,resolve,invoke,builtin,ybJ,yb9,ybg,ybP,ybn,ybL,hs,hx,hrun];exact h A' c' w' h2 h3 h4
theorem zbv (w:World){ops:Array Oper}{o:Oper}{a:Act}{K:Act→World→Prop}{Q:Exit→Act→World→Prop}{E:Prop}(hgd:o.guard=none) (s x:Operand)
  (ho:o.op=.call { callee:=.builtin .append,args:=#[s,x],argTypes:=#[35,35] }) (base:Nat) (v:Value) (n:Nat) (L0:List MTx) (hs:a.eval s=v) (hown:w.ownsRow base 44 9 v n (L0.flatMap MTx.cells)) (A:Option Addr) (c:Nat) (L:List MTx) (hx:a.eval x=.slice A L.length c)
  (hxs:zd9 w A L) (hn:n+L.length≤1000) (hbase:base≤w.heap.size) (hn0:n=L0.length)
  (h:∀ A' c' w',w'.ownsRow base 44 9 (.slice A' (L0++L).length c') (L0++L).length ((L0++L).flatMap MTx.cells)→w.grownBy w' v.ownBlock→((Value.slice A' (L0++L).length c').ownBlock=v.ownBlock∨(Value.slice A' (L0++L).length c').ownBlock=some w.heap.size)→K (a.put o.dst (.slice A' (L0++L).length c')) w'):
  if Region.wanted o (yielded ops a.tmps)=true then Oper.wp prog o a w K Q else E:=by
 have hw:Region.wanted o (yielded ops a.tmps)=true:=by simp[Region.wanted,hgd]
 rw[yaj hw];exact zil w s x ho base v n L0 hs hown A c L hx hxs hn hbase hn0 h
theorem zhV {w:World}{B e s n c:Nat}{A:Option Addr}{xs:List Value}(h:w.ownsRow B e s (.slice A n c) n xs):n≤c:=by
 obtain⟨_,hh|⟨g,cap,cur,hv,_,_,hn,_⟩⟩:=h
 ·simp at hh;omega
 ·simp at hv;omega
theorem zd9.take {w:World}{A:Option Addr}{L:List MTx}(h:zd9 w A L) (k:Nat):zd9 w A (L.take k):=fun i m hm=>h i m (by
 rw[ybG]at hm;split at hm
 ·exact hm
 ·cases hm)
theorem zd9.drop {w:World}{b o:Nat}{L:List MTx}(h:zd9 w (some ⟨b,o,none⟩) L) (k:Nat):zd9 w (some ⟨b,o+k*9,none⟩) (L.drop k):=fun i m hm=>by
 rw[ybp]at hm;obtain⟨b',o',e,hb,h0,h1,h2,h3,h4,h5,h6,h7,h8⟩:=h _ m hm;simp only[yaz,yaU]at e;obtain⟨rfl,rfl,_⟩:=e;have q:o+(k+i)*9=o+k*9+i*9:=by omega
 rw[q]at h0 h1 h2 h3 h4 h5 h6 h7 h8;exact⟨b,o+k*9,rfl,hb,h0,h1,h2,h3,h4,h5,h6,h7,h8⟩
structure zlF (s:RsP):Prop where
 id:0≤s.id∧s.id<4
 ap:∀ a:Int,0≤s.at a∧s.at a≤1099511627776
 rt:∀ m∈s.ws,zaf m.t=true
 len:s.L.length≤1000*(s.log.length+1)
def zdS (s:RsP) (j:Nat):RsP:={ s with ws:=s.ws.take j++s.ws.drop (j+1) }
theorem dropR_r (s:RsP) (j:Nat):(zdS s j).r=zgc s.r j:=by
 unfold zdS zgc RsP.r;simp[List.map_take,List.map_drop]
theorem zeR {s:RsP}{j:Nat}{m:MTx}(h:m∈(zdS s j).ws):m∈s.ws:=by
 rcases yax.1 h with e|e
 ·exact List.mem_of_mem_take e
 ·exact ybV e
theorem zlF.drop {s:RsP}(h:zlF s) (j:Nat):zlF (zdS s j):=⟨h.id,h.ap,fun m hm=>h.rt m (zeR hm),h.len⟩
theorem zm1 {s:RsP}{j:Nat}(hj:j<s.ws.length):(zdS s j).ws.length+1=s.ws.length:=by
 unfold zdS;simp;omega
theorem zgC (s:RsP) (m:MTx):(zbE s m).ws=s.ws:=by
 unfold zbE;split <;> rfl
theorem zd7 (s:RsP) (m:MTx):(zbE s m).log=s.log++[m]:=rfl
theorem zne (s:RsP) (m:MTx):(zbE s m).id=s.id:=by
 unfold zbE;split <;> rfl
theorem applyR_L (s:RsP) (m:MTx):(zbE s m).L=zeI s.L m.t m.t.ws.length:=by
 unfold zbE;split <;> rfl
theorem zlF.apply {s:RsP}(h:zlF s){m:MTx}(hm:zaf m.t=true):zlF (zbE s m):=by
 obtain⟨h1,h2,h3,h4⟩:=zar hm;have hr:=zeW s m h1;have e0:(zbE s m).p0=if m.t.site=0 then m.t.seq else s.p0:=yaS RSi.p0 hr
 have e1:(zbE s m).p1=if m.t.site=1 then m.t.seq else s.p1:=yaS RSi.p1 hr
 have e2:(zbE s m).p2=if m.t.site=2 then m.t.seq else s.p2:=yaS RSi.p2 hr
 have e3:(zbE s m).p3=if m.t.site=3 then m.t.seq else s.p3:=yaS RSi.p3 hr
 have b0:0≤s.p0∧s.p0≤1099511627776:=h.ap 0;have b1:0≤s.p1∧s.p1≤1099511627776:=h.ap 1;have b2:0≤s.p2∧s.p2≤1099511627776:=h.ap 2;have b3:0≤s.p3∧s.p3≤1099511627776:=h.ap 3;refine⟨by rw[zne];exact h.id,fun a=>?_,fun m' hm'=>h.rt m' (by rw[zgC]at hm';exact hm'),?_⟩
 ·unfold RsP.at atV
  rw[e0,e1,e2,e3]
  repeat' split
  all_goals omega
 ·rw[applyR_L,zd7,yak]
  have:=zga s.L m.t m.t.ws.length;have:=h.len;simp only[yaq,yaB];omega
theorem zfj {s:RsP}{m m':MTx}(h:(zbE s m).has m'):s.has m'∨m'=m:=by
 rcases h with h|h
 ·rw[zd7]at h
  rcases yax.1 h with e|e
  ·exact .inl (.inl e)
  ·exact .inr (by simpa using e)
 ·rw[zgC]at h
  exact .inl (.inr h)
def zbZ (s:RsP) (i:Nat) (b:Int):Int:=rbGo s.r ((s.ws.drop i).map (·.t)) i b
theorem zjs (s:RsP):zbZ s 0 (-1)=ze7 s.r:=by unfold zbZ ze7;rw[yaA];rfl
theorem zk2 (s:RsP) (b:Int):zbZ s s.ws.length b=b:=by unfold zbZ;rw[ybt];rfl
theorem zmq {s:RsP}{i:Nat}{m:MTx}(hi:s.ws[i]?=some m){b:Int}(h:zbD s.r m.t=false):zbZ s i b=zbZ s (i+1) b:=by
 obtain⟨hlt,hm⟩:=yao.1 hi;unfold zbZ;rw[yaK hlt,hm,ybn];show(if _ then _ else _)=_;rw[yad (by rw[h];simp)]
theorem zk1 {s:RsP}{i:Nat}{m:MTx}(hi:s.ws[i]?=some m) (h:zbD s.r m.t=true):zbZ s i (-1)=zbZ s (i+1) i:=by
 obtain⟨hlt,hm⟩:=yao.1 hi;unfold zbZ;rw[yaK hlt,hm,ybn];show(if _ then _ else _)=_;rw[yaj ⟨h,.inl zO⟩]
theorem zk3 {s:RsP}{i j:Nat}{m u:MTx}(hi:s.ws[i]?=some m) (hj:s.ws[j]?=some u) (h:zbD s.r m.t=true):zbZ s i (j:Int)=zbZ s (i+1) (if m.t.site<u.t.site then (i:Int)else (j:Int)):=by
 obtain⟨hlt,hm⟩:=yao.1 hi;unfold zbZ;rw[yaK hlt,hm,ybn];have hg:(s.r.ws.getD ((j:Int)).toNat ⟨0,0,0,0,0,0,0,0,[]⟩).site=u.t.site:=by
  have e:s.r.ws[j]?=some u.t:=by unfold RsP.r;rw[yby,hj];rfl
  rw[show((j:Int)).toNat=j by omega,List.getD,e];rfl
 show(if _ then _ else _)=_;rw[hg];by_cases hc:m.t.site<u.t.site
 ·rw[yaj ⟨h,.inr hc⟩,yaj hc]
 ·rw[yad (by rintro⟨_,h2|h2⟩ <;> omega),yad hc]
def zkO (s:RsP) (t:TxP) (j:Nat):Bool:=(s.ws.take j).any fun m=>decide (m.t.site=t.site)&&decide (m.t.seq=t.seq)
theorem zmb (s:RsP) (t:TxP):zkO s t s.ws.length=zhN s.r t:=by
 unfold zkO zhN RsP.r;rw[ybD,List.any_map];rfl
theorem zkN {s:RsP}{t:TxP}{j:Nat}{m:MTx}(h:s.ws[j]?=some m):zkO s t (j+1)=(zkO s t j||(decide (m.t.site=t.site)&&decide (m.t.seq=t.seq))):=by
 unfold zkO;rw[ycd,h,List.any_append];simp
theorem zma {s:RsP}{t:TxP}{j:Nat}{m:MTx}(h:s.ws[j]?=some m) (h1:m.t.site=t.site) (h2:m.t.seq=t.seq):zhN s.r t=true:=by
 obtain⟨hlt,rfl⟩:=yao.1 h;unfold zhN RsP.r;rw[List.any_map,List.any_eq_true];exact⟨_,yaw hlt,by simp[h1,h2]⟩
def zgH (B y:Nat) (s:RsP) (lv:Value) (wA:Option Addr) (wc:Nat) (av:Value) (t:TxP) (w:World) (e:Ending) (w':World):Prop:=
 e=.returned (ii (zb3 s.r t))∧(zb3 s.r t≠0→Below w w w')∧
 (zb3 s.r t=0→∃ b c' s' lv' wA' wc' av',w.heap.size≤b∧zcp w' B y s' lv' wA' wc' av'∧zlF s'∧s'.r=rRun (s.r.ws.length+1) { s.r with ws:=s.r.ws++[t] }∧(∀ m,s'.has m→s.has m∨m=⟨t,some ⟨b,0,none⟩,c'⟩)∧
   zaO w w' (za2 y lv av) (za2 y lv' av')∧∀ q o,wA'=some ⟨q,o,none⟩→w.heap.size≤q)
theorem zlG {w:World}{q:Nat}{m:MTx}{t:TypeId}(h:w.heap[q]?=some (.cells #[m.t.site,m.t.seq,m.t.wall,m.t.count,m.t.d0,m.t.d1,m.t.d2,m.t.d3,.slice m.A m.t.ws.length m.c] t)):zd9 w (some ⟨q,0,none⟩) [m]:=by
 intro i x hx;have hi:i=0:=by
  have:=(yao.1 hx).1;simp at this;exact this
 subst hi;obtain rfl:m=x:=by simpa using hx
 exact⟨q,0,rfl,zae h,zaa h 0,zaa h 1,zaa h 2,zaa h 3,zaa h 4,zaa h 5,zaa h 6,zaa h 7,zaa h 8⟩
theorem zdB (w:World){ops:Array Oper}{o:Oper}{a:Act}{K:Act→World→Prop}{Q:Exit→Act→World→Prop}{E:Prop}(hgd:o.guard=none) (s x:Operand)
  (ho:o.op=.call { callee:=.builtin .append,args:=#[s,x],argTypes:=#[35,35] }) (base g:Nat) (hs:a.eval s=.slice (some ⟨g,0,none⟩) 0 0) (hg:w.heap[g]?=some (.cells #[] 44)) (hb:base≤g) (A:Option Addr) (c:Nat) (L:List MTx) (hx:a.eval x=.slice A L.length c)
  (hxs:zd9 w A L) (hn:L.length≤1000) (q:Nat) (Z:Obj) (hq:w.heap[q]?=some Z) (hne:q≠g)
  (h:∀ A' c' w',w'.ownsRow base 44 9 (.slice A' L.length c') L.length (L.flatMap MTx.cells)→w.grownBy w' (some g)→w'.heap[q]?=some Z→(Value.slice A' L.length c').ownBlock≠some q→K (a.put o.dst (.slice A' L.length c')) w'):
  if Region.wanted o (yielded ops a.tmps)=true then Oper.wp prog o a w K Q else E:=
 zbv w hgd s x ho base (.slice (some ⟨g,0,none⟩) 0 0) 0 [] hs (zc8 hg hb) A c L hx hxs zO (by have:=zae hg;omega) rfl fun A' c' w' h2 h3 h4=>by
  simp only[ybd]at h2 h4 ⊢;refine h A' c' w' h2 h3 ((h3.block q (zae hq) (by simp[Value.ownBlock];exact hne)).trans hq) (fun e=>?_);rcases h4 with e2|e2
  ·rw[e2]at e;simp[Value.ownBlock]at e;omega
  ·rw[e2]at e;have:=zae hq;simp at e;omega
theorem zcJ (w:World){ops:Array Oper}{o:Oper}{a:Act}{K:Act→World→Prop}{Q:Exit→Act→World→Prop}{E:Prop}(hgd:o.guard=none) (s x:Operand)
  (ho:o.op=.call { callee:=.builtin .append,args:=#[s,x],argTypes:=#[35,35] }) (base g:Nat) (hs:a.eval s=.slice (some ⟨g,0,none⟩) 0 0) (hg:w.heap[g]?=some (.cells #[] 44)) (hb:base≤g) (A:Option Addr) (c:Nat) (L:List MTx) (hx:a.eval x=.slice A L.length c)
  (hxs:zd9 w A L) (hn:L.length≤1000)
  (h:∀ A' c' w',w'.ownsRow base 44 9 (.slice A' L.length c') L.length (L.flatMap MTx.cells)→w.grownBy w' (some g)→K (a.put o.dst (.slice A' L.length c')) w'):
  if Region.wanted o (yielded ops a.tmps)=true then Oper.wp prog o a w K Q else E:=
 zbv w hgd s x ho base (.slice (some ⟨g,0,none⟩) 0 0) 0 [] hs (zc8 hg hb) A c L hx hxs zO (by have:=zae hg;omega) rfl fun A' c' w' h2 h3 h4=>by
  simp only[ybd]at h2 ⊢;exact h A' c' w' h2 h3
theorem runP_has:∀ (f:Nat) (s:SiP) (m:MTx),Inv s→(runP f s).has m→s.has m
 | 0,s,m,_,h=>h
 | f+1,s,m,hi,h=>by
   cases hn:zdh s with
   | none=>rw[zbN (.inl hn)]at h;exact h
   | some m1=>
     by_cases hl:200≤s.log.length
     ·rw[zbN (.inr hl)]at h;exact h
     ·rw[zde hn hl]at h
      obtain⟨hr,hw,_⟩:=hi.has hn;have h2:=runP_has f _ m (hi.apply hr hl) h;unfold SiP.has at *;rw[zbU,zdm]at h2;rcases h2 with h2|⟨a,b,h2⟩
      ·rcases yax.1 h2 with h3|h3
       ·exact .inl h3
       ·obtain rfl:m=m1:=by simpa using h3
        exact .inr ⟨_,_,hw⟩
      ·have:(s.unwait m1).wt=zhw s.wt m1.t.site m1.t.seq none:=rfl
       rw[this]at h2;unfold zhw at h2;split at h2
       ·cases h2
       ·exact .inr ⟨a,b,h2⟩
theorem wait_has {s:SiP}{m m':MTx}(h:(s.wait m).has m'):s.has m'∨m'=m:=by
 unfold SiP.has SiP.wait zhw at h;simp only at h;rcases h with h|⟨a,b,h⟩
 ·exact .inl (.inl h)
 ·split at h
  ·cases h;exact .inr rfl
  ·exact .inl (.inr ⟨a,b,h⟩)
theorem znd {s:SiP}{m m':MTx}(h:(zbo s m).has m'):s.has m'∨m'=m:=by
 unfold SiP.has at h;rw[zbU,zdm]at h;rcases h with h|h
 ·rcases yax.1 h with h|h
  ·exact .inl (.inl h)
  ·exact .inr (by simpa using h)
 ·exact .inl (.inr h)
def Top (s:SiP):Prop:=s.p0≤s.log.length∧s.p1≤s.log.length∧s.p2≤s.log.length∧s.p3≤s.log.length
structure ze1 (s:SiP) (r:RsP):Prop where
 rep:zdY s r.r
 inv:Inv s
 rin:zlF r
 top:Top s
 rlg:∀ m∈r.log,zaf m.t=true
theorem zmu (r:RSi) (j:Nat):(zgc r j).ws.length≤r.ws.length:=by
 unfold zgc;simp;omega
theorem rRun_len:∀ (f:Nat) (r:RSi),(rRun f r).ws.length≤r.ws.length
 | 0,r=>yai _
 | f+1,r=>by
   unfold rRun;split
   ·exact yai _
   ·refine yac (rRun_len f _) ?_
    exact zmu r _
theorem Top.at {s:SiP}(h:Top s) (a:Int):s.at a≤s.log.length:=by
 obtain⟨h0,h1,h2,h3⟩:=h;unfold SiP.at atV
 repeat' split
 all_goals assumption
theorem Top.apply {s:SiP}(h:Top s){m:MTx}(hs:0≤m.t.site∧m.t.site<4) (hq:m.t.seq=s.at m.t.site+1):Top (zbo s m):=by
 obtain⟨_,e0,e1,e2,e3,_⟩:=zeX s m hs;have ht:=h.at m.t.site;obtain⟨h0,h1,h2,h3⟩:=h;unfold Top;rw[e0,e1,e2,e3,zbU];simp only[yak,yaq,yaB];refine⟨?_,?_,?_,?_⟩ <;> split <;> omega
theorem Top.unwait {s:SiP}(h:Top s) (m:MTx):Top (s.unwait m):=h
theorem Inv.run:∀ (f:Nat){s:SiP},Inv s→Top s→Inv (runP f s)∧Top (runP f s)
 | 0,s,h,ht=>⟨h,ht⟩
 | f+1,s,h,ht=>by
   cases hn:zdh s with
   | none=>rw[zbN (.inl hn)];exact⟨h,ht⟩
   | some m1=>
     by_cases hl:200≤s.log.length
     ·rw[zbN (.inr hl)];exact⟨h,ht⟩
     ·rw[zde hn hl]
      obtain⟨hr,hw,hq⟩:=h.has hn;exact Inv.run f (h.apply hr hl) ((ht.unwait m1).apply (zar hr).1 hq)
theorem runP_right:∀ (f:Nat){s:SiP},Inv s→(∀ m∈s.log,zaf m.t=true)→∀ m∈(runP f s).log,zaf m.t=true
 | 0,s,_,h=>h
 | f+1,s,hi,h=>by
   cases hn:zdh s with
   | none=>rw[zbN (.inl hn)];exact h
   | some m1=>
     by_cases hl:200≤s.log.length
     ·rw[zbN (.inr hl)];exact h
     ·rw[zde hn hl]
      obtain⟨hr,hw,hq⟩:=hi.has hn;refine runP_right f (hi.apply hr hl) fun m hm=>?_
      rw[zbU]at hm;rcases yax.1 hm with e|e
      ·exact h m e
      ·obtain rfl:m=m1:=by simpa using e
       exact hr
theorem zfZ {s:SiP}{t:TxP}(he:takeE s t=0):zaf t=true:=by
 unfold takeE at he;split at he
 ·cases he
 ·rename_i k1
  cases hr:zaf t with
  | true=>rfl
  | false=>exact absurd (.inl hr) k1
theorem zcG {s:SiP}(hi:Inv s) (ht:Top s){now d0 d1 d2 d3:Int}{ws:List WrP}(he:commitE s now d0 d1 d2 d3 ws=0):zaf (zcj s now d0 d1 d2 d3 ws)=true∧¬200≤s.log.length:=by
 unfold commitE at he;split at he
 ·cases he
 rename_i k1;split at he
 ·cases he
 rename_i k2;split at he
 ·cases he
 rename_i k3;have hws:zaX ws=true:=by cases hr:zaX ws with|true=>rfl|false=>exact absurd hr k1
 have hd:zcq d0 d1 d2 d3=true:=by cases hr:zcq d0 d1 d2 d3 with|true=>rfl|false=>exact absurd (.inl hr) k2
 refine⟨?_,k3⟩;have hn:(0≤ze9 s.lw now∧ze9 s.lw now≤1099511627776)∧(0≤zfa s.lw s.lc now∧zfa s.lw s.lc now≤1099511627776):=by
  unfold zbP at he;split at he
  ·cases he
  rename_i j1;have hrs:zav s.lw s.lc=true:=by cases hr:zav s.lw s.lc with|true=>rfl|false=>exact absurd (.inl hr) j1
  obtain⟨b1,b2⟩:=zf3 hrs;unfold ze9 zfa;split at he
  ·rename_i j2
   rw[yaj j2,yaj j2];omega
  ·rename_i j2
   rw[yad j2,yad j2];split at he
   ·cases he
   ·omega
 simp only[zcq,yav,yap]at hd;obtain⟨⟨⟨g0,g1⟩,g2⟩,g3⟩:=hd;obtain⟨q0,q1,q2,q3⟩:=hi.ap;have hat:=ht.at s.id;have hge:=(zlE.at hi.ap s.id).1;have hl:=hi.log;have hid:=hi.id;have hp:∀ (i p d:Int),(0≤p∧p≤1099511627776)→(0≤d∧d≤1099511627776)→okN (if s.id=i then p else d)=true:=fun i p d h1 h2=>by
  unfold okN;split <;> (simp;omega)
 unfold zaf zgo zcj;simp only[yav,yap];refine⟨⟨⟨⟨⟨⟨hid,zO,zO⟩,?_⟩,?_⟩,⟨⟨hp 0 _ _ q0 g0,hp 1 _ _ q1 g1⟩,hp 2 _ _ q2 g2⟩,hp 3 _ _ q3 g3⟩,?_⟩,hws⟩
 ·unfold okN;simp;omega
 ·unfold okN;simp;omega
 ·unfold zdi SiP.at atV
  have hc:s.id=0∨s.id=1∨s.id=2∨s.id=3:=by omega
  rcases hc with hc|hc|hc|hc <;> simp[hc]
theorem Inv.applyC {s:SiP}(h:Inv s){m:MTx}(hr:zaf m.t=true) (hl:¬200≤s.log.length):Inv (zbo s m):=by
 obtain⟨r1,r2,r3,r4⟩:=zar hr;refine⟨zhc h.ap ⟨zO,zO⟩,h.id,?_,?_,zf0 h.dat _ _,?_⟩
 ·intro a b m' e
  rw[zdm]at e;exact h.wt a b m' e
 ·rw[zgE,zbU]
  refine(zeE h.fit m.t m.t.ws.length).mono ?_;simp only[yak,yaq,yaB];omega
 ·rw[zbU]
  simp only[yak,yaq,yaB];omega
theorem ze1.commit {s:SiP}{r:RsP}(h:ze1 s r){now d0 d1 d2 d3:Int}{ws:List WrP}(he:commitE s now d0 d1 d2 d3 ws=0) (A A2:Option Addr) (c c2:Nat):
  ze1 (zbo s ⟨zcj s now d0 d1 d2 d3 ws,A,c⟩) (zbE r ⟨zcj s now d0 d1 d2 d3 ws,A2,c2⟩):=by
 obtain⟨hr,hl⟩:=zcG h.inv h.top he;have hp:=(zar hr).1;refine⟨?_,h.inv.applyC hr hl,h.rin.apply hr,h.top.apply hp ?_,fun m hm=>?_⟩
 ·rw[zeW _ _ hp];exact h.rep.apply hp
 ·unfold zcj;rfl
 ·rw[zd7]at hm
  rcases yax.1 hm with e|e
  ·exact h.rlg m e
  ·obtain rfl:m=_:=by simpa using e
   exact hr
theorem ze1.knows {s:SiP}{r:RsP}(h:ze1 s r) (f:Nat→Int) (r':RsP) (e:r'.r={ r.r with ot:=f }) (hl:r'.log=r.log) (hw:r'.ws=r.ws) (hi:zlF r'):ze1 { s with ot:=f } r':=by
 obtain⟨a1,a2,a3,a4,a5,a6,a7,a8,a9,a10,a11,a12,a13,a14⟩:=h.rep;refine⟨?_,⟨h.inv.ap,h.inv.id,h.inv.wt,h.inv.fit,h.inv.dat,h.inv.log⟩,hi,h.top,fun m hm=>h.rlg m (hl ▸ hm)⟩;rw[e];exact⟨a1,a2,a3,a4,a5,a6,a7,a8,a9,a10,a11,a12,a13,rfl⟩
def zmt (id:Int):RsP:=⟨id,0,0,0,0,0,0,[],[],[],fun _=>0⟩
theorem ze1.fresh {id:Int}(h:0≤id∧id<4):ze1 (zcz id) (zmt id):=
 ⟨zdY.fresh id,⟨⟨⟨by simp[zcz],by simp[zcz]⟩,⟨by simp[zcz],by simp[zcz]⟩,⟨by simp[zcz],by simp[zcz]⟩,⟨by simp[zcz],by simp[zcz]⟩⟩,h,fun a b m e=>by simp[zcz]at e,fun k _=>⟨fun x hx=>by simp[zcz]at hx,yay _⟩,fun k _ v hv=>by simp[zcz]at hv,by simp[zcz]⟩,
   ⟨h,fun a=>by unfold RsP.at atV zmt;simp,fun m hm=>by simp[zmt]at hm,by simp[zmt]⟩,⟨by simp[zcz],by simp[zcz],by simp[zcz],by simp[zcz]⟩,fun m hm=>by simp[zmt]at hm⟩
theorem ze1.site_ok {s:SiP}{r:RsP}(h:ze1 s r):∀ p∈r.L,0≤p.v.site∧p.v.site<4:=h.rep.rep.site
theorem ze1.sweep {s:SiP}{r:RsP}(h:ze1 s r) (a0 a1 a2 a3:Int):ze1 { s with st:=fun k=>zbC a0 a1 a2 a3 (s.st k) } { r with L:=zee a0 a1 a2 a3 r.L }:=by
 obtain⟨b1,b2,b3,b4,b5,b6,b7,b8,b9,b10,b11,b12,b13,b14⟩:=h.rep;refine⟨⟨b1,b2,b3,b4,b5,b6,b7,b8,b9,b10,b11,b12,b13.sweep a0 a1 a2 a3,b14⟩,⟨h.inv.ap,h.inv.id,h.inv.wt,fun k hk=>⟨fun x hx=>(h.inv.fit k hk).1 x (zg2 hx),?_⟩,fun k hk v hv=>h.inv.dat k hk v (zg2 hv),h.inv.log⟩,⟨h.rin.id,h.rin.ap,h.rin.rt,?_⟩,h.top,h.rlg⟩
 ·exact yac (zkJ _ _ _ _ _) (h.inv.fit k hk).2
 ·refine yac ?_ h.rin.len
  show(zee a0 a1 a2 a3 r.L).length≤_;unfold zee;exact List.length_filter_le _ _
end Go.Proofs.YtbopfhbeegkkaabGreatDoor
