/- Part 25 of a proof: lemmas and contracts that other parts use. -/
import Derived.Test.YtbopfhbeegkkaabGreatDoorSe21
import Derived.Test.YtbopfhbeegkkaabGreatDoorSe24
set_option linter.unusedVariables false
set_option linter.unusedSimpArgs false
set_option linter.constructorNameAsVariable false
namespace Go.Proofs.YtbopfhbeegkkaabGreatDoor
open Go.RowKit
structure SdP where
 q0:Int
 q1:Int
 q2:Int
 q3:Int
 n0:Int
 n1:Int
 n2:Int
 n3:Int
 op:Bool
 W:List WrP
def SdOwn (v:Nat) (wv:Value) (b:Nat):Prop:=b=v∨wv.ownBlock=some b
structure SdAt (w:World) (B v:Nat) (d:SdP) (wv:Value):Prop where
 blk:w.heap[v]?=some (.cells #[.int .i64 d.q0,.int .i64 d.q1,.int .i64 d.q2,.int .i64 d.q3,.int .i64 d.n0,.int .i64 d.n1,.int .i64 d.n2,.int .i64 d.n3,.bool d.op,wv] 79)
 own:w.ownsRow B 83 3 wv d.W.length (d.W.flatMap wcs)
 bx:B≤v
 ng:wv.ownBlock≠some v
theorem SdAt.lt {w:World} {B v:Nat} {d:SdP} {wv:Value} (h:SdAt w B v d wv) {b:Nat} (hb:SdOwn v wv b):B≤b∧b<w.heap.size:=by
 rcases hb with rfl | hb
 ·exact ⟨h.bx,lt_blk h.blk⟩
 ·exact own_ge h.own hb
theorem SdAt.same {w w':World} {B v:Nat} {d:SdP} {wv:Value} (h:SdAt w B v d wv) (ho:∀ b,SdOwn v wv b→w'.heap[b]?=w.heap[b]?):SdAt w' B v d wv:=by
 refine ⟨(ho v (.inl rfl)).trans h.blk,?_,h.bx,h.ng⟩
 obtain ⟨hl,hn | ⟨g,cap,cur,hv,hb,hg,rest⟩⟩:=h.own
 ·exact ⟨hl,.inl hn⟩
 ·exact ⟨hl,.inr ⟨g,cap,cur,hv,hb,by rw [ho g (.inr (by rw [hv];rfl))];exact hg,rest⟩⟩
theorem SdAt.below {w w':World} {B v:Nat} {d:SdP} {wv:Value} (h:SdAt w B v d wv) (hb:Below w.heap.size w w'):SdAt w' B v d wv:=
 h.same fun b hb'=>hb.block b (h.lt hb').2
theorem SiFr.setD {w:World} {v i:Nat} {wv:Value} (u:Value):SiFr w (w.setCell ⟨v,i,none⟩ u) (SdOwn v wv) (SdOwn v wv):=
 ⟨rfl,rfl,rfl,by simp [World.setCell],fun k hk hn=>(grown_set w v i u).block k hk (by simp;exact fun e=>hn (.inl e)),fun _ h=>.inl h⟩
theorem SiFr.less {w w':World} {o1 o2 o3:Nat→Prop} (h:SiFr w w' o1 o2) (hs:∀ b,o3 b→o2 b):SiFr w w' o1 o3:=⟨h.os,h.tape,h.output,h.size,h.block,fun b hb=>h.own b (hs b hb)⟩
def sdBegin (d:SdP) (p0 p1 p2 p3:Int):SdP:={ d with n0:=p0,n1:=p1,n2:=p2,n3:=p3,op:=true,W:=[] }
def sdBeginE (d:SdP) (p0 p1 p2 p3:Int):Int:=if d.op=true then 6 else if covD p0 p1 p2 p3 d.q0 d.q1 d.q2 d.q3=false then 10 else 0
def sdAbort (d:SdP):SdP:=⟨max d.q0 d.n0,max d.q1 d.n1,max d.q2 d.n2,max d.q3 d.n3,0,0,0,0,false,[]⟩
set_option maxRecDepth 20000 in
set_option maxHeartbeats 8000000 in
theorem rBegin_any (B v y:Nat) (d:SdP) (wv:Value) (p0 p1 p2 p3:Int) (w:World) (h:SdAt w B v d wv) (hy:y<w.heap.size) (hp:w.cell? ⟨y,1,none⟩=some (.int .i64 p0)∧w.cell? ⟨y,2,none⟩=some (.int .i64 p1)∧w.cell? ⟨y,3,none⟩=some (.int .i64 p2)∧w.cell? ⟨y,4,none⟩=some (.int .i64 p3)):
  Calls Tryz.prog 39 #[.pointer (some ⟨v,0,none⟩),.pointer (some ⟨y,0,none⟩)] w fun e w'=>e=.returned (.int .i64 (sdBeginE d p0 p1 p2 p3))∧(sdBeginE d p0 p1 p2 p3≠0→Below w.heap.size w w')∧
   (sdBeginE d p0 p1 p2 p3=0→SdAt w' B v (sdBegin d p0 p1 p2 p3) (.slice none 0 0)∧SiFr w w' (SdOwn v wv) (SdOwn v (.slice none 0 0))):=by
 obtain ⟨q0,q1,q2,q3,n0,n1,n2,n3,op,W⟩:=d
 obtain ⟨a1,a2,a3,a4⟩:=hp
 have HS:=hidp h
 have hb:=h.blk
 simp only at hb
 have c0:=cell_blk hb 0;have c1:=cell_blk hb 1;have c2:=cell_blk hb 2;have c3:=cell_blk hb 3;have c8:=cell_blk hb 8
 have c4:=cell_blk hb 4;have c5:=cell_blk hb 5;have c6:=cell_blk hb 6;have c7:=cell_blk hb 7;have c9:=cell_blk hb 9
 simp only [zC,zD,zE] at c0 c1 c2 c3 c4 c5 c6 c7 c8 c9
 have z4:=frozen_blk hb 4;have z5:=frozen_blk hb 5;have z6:=frozen_blk hb 6;have z7:=frozen_blk hb 7;have z8:=frozen_blk hb 8;have z9:=frozen_blk hb 9
 haveI:SzGe (v+1) w:=⟨lt_blk hb⟩
 haveI:SzGe (y+1) w:=⟨hy⟩
 have HBK:=hidp hb
 clear h hb hy
 have HE:Hid (sdBeginE ⟨q0,q1,q2,q3,n0,n1,n2,n3,op,W⟩ p0 p1 p2 p3=if op=true then 6 else if covD p0 p1 p2 p3 q0 q1 q2 q3=false then 10 else 0):=hidp rfl
 generalize sdBeginE ⟨q0,q1,q2,q3,n0,n1,n2,n3,op,W⟩ p0 p1 p2 p3=E at *
 cases op with
 | true=>
   have HE2:Hid (E=6):=hidp (by rw [HE.out];rfl)
   clear HE
   go_enter Tryz.func39,Tryz.ntmps39
   go_wp2_with fail
   go_ret
   exact ⟨by rw [HE2.out];rfl,fun _=>(by repeat (first | exact Below.refl _ _ | refine blw_alloc ?_ | refine blw_plus ?_ | refine Below.drew ?_)),fun e=>by rw [HE2.out] at e;cases e⟩
 | false=>
   cases hcv:covD p0 p1 p2 p3 q0 q1 q2 q3 with
   | false=>
     have HCV:=hidp fun X=>rCovers_is hcv X
     have HE2:Hid (E=10):=hidp (by rw [HE.out,hcv];rfl)
     clear HE hcv
     go_enter Tryz.func39,Tryz.ntmps39
     go_wp2_with fail
     refine wp_region_plus (by kernel_rfl) (by kernel_rfl) ?_
     repeat (first | go_big_quiet_skip | (go_big_quiet_want;go_big_quiet_op;first | go_big_quiet_on | (apply Exists.intro;refine ⟨fun _=>?_,?_⟩;(go_at_call 73;exact Calls.plus_of (HCV.out _));go_big_quiet_on)))
     refine wpQuiet_nil ?_
     rintro _ ⟨x3,rfl⟩
     go_wp2_with fail
     go_ret
     exact ⟨by rw [HE2.out];rfl,fun _=>(by repeat (first | exact Below.refl _ _ | refine blw_alloc ?_ | refine blw_plus ?_ | refine Below.drew ?_)),fun e=>by rw [HE2.out] at e;cases e⟩
   | true=>
     have HCV:=hidp fun X=>rCovers_is hcv X
     have HE2:Hid (E=0):=hidp (by rw [HE.out,hcv];rfl)
     clear HE hcv
     go_enter Tryz.func39,Tryz.ntmps39
     go_wp2_with fail
     refine wp_region_plus (by kernel_rfl) (by kernel_rfl) ?_
     repeat (first | go_big_quiet_skip | (go_big_quiet_want;go_big_quiet_op;first | go_big_quiet_on | (apply Exists.intro;refine ⟨fun _=>?_,?_⟩;(go_at_call 73;exact Calls.plus_of (HCV.out _));go_big_quiet_on)))
     refine wpQuiet_nil ?_
     rintro _ ⟨x3,rfl⟩
     go_wp2_with fail
     go_ret
     refine ⟨by rw [HE2.out];rfl,fun e=>absurd HE2.out e,fun _=>?_⟩
     have h2:SdAt ((((((w.setCell ⟨v,8,none⟩ (.bool true)).setCell ⟨v,4,none⟩ (.int .i64 p0)).setCell ⟨v,5,none⟩ (.int .i64 p1)).setCell ⟨v,6,none⟩ (.int .i64 p2)).setCell ⟨v,7,none⟩ (.int .i64 p3)).setCell ⟨v,9,none⟩ (.slice none 0 0)) B v (sdBegin ⟨q0,q1,q2,q3,n0,n1,n2,n3,false,W⟩ p0 p1 p2 p3) (.slice none 0 0):=
      ⟨by
        have e1:=blk_set HBK.out 8 (.bool true)
        have e2:=blk_set e1 4 (.int .i64 p0)
        have e3:=blk_set e2 5 (.int .i64 p1)
        have e4:=blk_set e3 6 (.int .i64 p2)
        have e5:=blk_set e4 7 (.int .i64 p3)
        have e6:=blk_set e5 9 (.slice none 0 0)
        simp only [List.setIfInBounds_toArray,List.set_cons_zero,List.set_cons_succ] at e6
        exact e6,⟨rfl,.inl ⟨rfl,rfl⟩⟩,HS.out.bx,by simp [Value.ownBlock]⟩
     have hc:∀ (X:World) (i:Nat) (u:Value),SiFr X (X.setCell ⟨v,i,none⟩ u) (SdOwn v wv) (SdOwn v wv):=fun X i u=>SiFr.setD u
     have f6:=(((((hc w 8 (.bool true)).trans (hc _ 4 (.int .i64 p0))).trans (hc _ 5 (.int .i64 p1))).trans (hc _ 6 (.int .i64 p2))).trans (hc _ 7 (.int .i64 p3))).trans (hc _ 9 (.slice none 0 0))
     clear HCV HBK c0 c1 c2 c3 c4 c5 c6 c7 c8 c9 z4 z5 z6 z7 z8 z9 a1 a2 a3 a4
     generalize (((((w.setCell ⟨v,8,none⟩ (.bool true)).setCell ⟨v,4,none⟩ (.int .i64 p0)).setCell ⟨v,5,none⟩ (.int .i64 p1)).setCell ⟨v,6,none⟩ (.int .i64 p2)).setCell ⟨v,7,none⟩ (.int .i64 p3)).setCell ⟨v,9,none⟩ (.slice none 0 0)=W1 at *
     exact ⟨h2.below (by repeat (first | exact Below.refl _ _ | refine blw_alloc ?_ | refine blw_plus ?_ | refine Below.drew ?_)),(f6.trans (SiFr.of_below _ (show Below W1.heap.size W1 (wplus W1 x3) from zB))).less (fun b hb=>by
      rcases hb with e | e
      ·exact .inl e
      ·simp [Value.ownBlock] at e)⟩
set_option maxRecDepth 20000 in
set_option maxHeartbeats 8000000 in
theorem rAbort_any (B v:Nat) (d:SdP) (wv:Value) (w:World) (h:SdAt w B v d wv):
  Calls Tryz.prog 47 #[.pointer (some ⟨v,0,none⟩)] w fun e w'=>(d.op=false→e=.returned (.int .i64 6)∧Below w.heap.size w w')∧
   (d.op=true→e=.returned (.int .i64 0)∧SdAt w' B v (sdAbort d) (.slice none 0 0)∧SiFr w w' (SdOwn v wv) (SdOwn v (.slice none 0 0))):=by
 obtain ⟨q0,q1,q2,q3,n0,n1,n2,n3,op,W⟩:=d
 have HS:=hidp h
 have hb:=h.blk
 simp only at hb
 have c0:=cell_blk hb 0;have c1:=cell_blk hb 1;have c2:=cell_blk hb 2;have c3:=cell_blk hb 3;have c8:=cell_blk hb 8
 have c4:=cell_blk hb 4;have c5:=cell_blk hb 5;have c6:=cell_blk hb 6;have c7:=cell_blk hb 7;have c9:=cell_blk hb 9
 simp only [zC,zD,zE] at c0 c1 c2 c3 c4 c5 c6 c7 c8 c9
 have z0:=frozen_blk hb 0;have z1:=frozen_blk hb 1;have z2:=frozen_blk hb 2;have z3:=frozen_blk hb 3
 have z4:=frozen_blk hb 4;have z5:=frozen_blk hb 5;have z6:=frozen_blk hb 6;have z7:=frozen_blk hb 7;have z8:=frozen_blk hb 8;have z9:=frozen_blk hb 9
 haveI:SzGe (v+1) w:=⟨lt_blk hb⟩
 have HBK:=hidp hb
 have HMX:=hidp fun X=>rMax_any q0 q1 q2 q3 n0 n1 n2 n3 X
 clear h hb
 cases op with
 | false=>
   go_enter Tryz.func47,Tryz.ntmps47
   go_wp2_with fail
   go_ret
   exact ⟨fun _=>⟨rfl,zB⟩,fun e=>by cases e⟩
 | true=>
   go_enter Tryz.func47,Tryz.ntmps47
   go_wp2_with fail
   refine wp_region_plus_tail 10 (by kernel_rfl) (by kernel_rfl) ?_
   simp only [List.take_succ_cons,List.take_zero,List.drop_succ_cons,List.drop_zero]
   repeat (first | go_big_quiet_skip | (go_big_quiet_want;go_big_quiet_op;first | go_big_quiet_on | (apply Exists.intro;refine ⟨fun _=>?_,?_⟩;(go_at_call 19;exact Calls.plus_of (HMX.out _));go_big_quiet_on)))
   refine wpQuiet_nil ?_
   rintro _ ⟨x3,rfl⟩
   go_wp2_with fail
   go_ret
   refine ⟨fun e=>(by cases e),fun _=>⟨rfl,?_⟩⟩
   have h2:SdAt ((((((((((w.setCell ⟨v,0,none⟩ (.int .i64 (max q0 n0))).setCell ⟨v,1,none⟩ (.int .i64 (max q1 n1))).setCell ⟨v,2,none⟩ (.int .i64 (max q2 n2))).setCell ⟨v,3,none⟩ (.int .i64 (max q3 n3))).setCell ⟨v,8,none⟩ (.bool false)).setCell ⟨v,4,none⟩ (.int .i64 0)).setCell ⟨v,5,none⟩ (.int .i64 0)).setCell ⟨v,6,none⟩ (.int .i64 0)).setCell ⟨v,7,none⟩ (.int .i64 0)).setCell ⟨v,9,none⟩ (.slice none 0 0)) B v (sdAbort ⟨q0,q1,q2,q3,n0,n1,n2,n3,true,W⟩) (.slice none 0 0):=
    ⟨by
      have e1:=blk_set HBK.out 0 (.int .i64 (max q0 n0))
      have e2:=blk_set e1 1 (.int .i64 (max q1 n1))
      have e3:=blk_set e2 2 (.int .i64 (max q2 n2))
      have e4:=blk_set e3 3 (.int .i64 (max q3 n3))
      have e5:=blk_set e4 8 (.bool false)
      have e6:=blk_set e5 4 (.int .i64 0)
      have e7:=blk_set e6 5 (.int .i64 0)
      have e8:=blk_set e7 6 (.int .i64 0)
      have e9:=blk_set e8 7 (.int .i64 0)
      have e10:=blk_set e9 9 (.slice none 0 0)
      simp only [List.setIfInBounds_toArray,List.set_cons_zero,List.set_cons_succ] at e10
      exact e10,⟨rfl,.inl ⟨rfl,rfl⟩⟩,HS.out.bx,by simp [Value.ownBlock]⟩
   have hc:∀ (X:World) (i:Nat) (u:Value),SiFr X (X.setCell ⟨v,i,none⟩ u) (SdOwn v wv) (SdOwn v wv):=fun X i u=>SiFr.setD u
   have hfr:=((((((((((hc w 0 (.int .i64 (max q0 n0))).trans (hc _ 1 (.int .i64 (max q1 n1)))).trans (hc _ 2 (.int .i64 (max q2 n2)))).trans (hc _ 3 (.int .i64 (max q3 n3)))).trans (hc _ 8 (.bool false))).trans (hc _ 4 (.int .i64 0))).trans (hc _ 5 (.int .i64 0))).trans (hc _ 6 (.int .i64 0))).trans (hc _ 7 (.int .i64 0))).trans (hc _ 9 (.slice none 0 0)))
   clear HMX HBK c0 c1 c2 c3 c4 c5 c6 c7 c8 c9 z0 z1 z2 z3 z4 z5 z6 z7 z8 z9
   generalize (((((((((w.setCell ⟨v,0,none⟩ (.int .i64 (max q0 n0))).setCell ⟨v,1,none⟩ (.int .i64 (max q1 n1))).setCell ⟨v,2,none⟩ (.int .i64 (max q2 n2))).setCell ⟨v,3,none⟩ (.int .i64 (max q3 n3))).setCell ⟨v,8,none⟩ (.bool false)).setCell ⟨v,4,none⟩ (.int .i64 0)).setCell ⟨v,5,none⟩ (.int .i64 0)).setCell ⟨v,6,none⟩ (.int .i64 0)).setCell ⟨v,7,none⟩ (.int .i64 0)).setCell ⟨v,9,none⟩ (.slice none 0 0)=W1 at *
   exact ⟨h2.below (by repeat (first | exact Below.refl _ _ | refine blw_alloc ?_ | refine blw_plus ?_ | refine Below.drew ?_)),(hfr.trans (SiFr.of_below _ (show Below W1.heap.size W1 (wplus W1 x3) from zB))).less (fun b hb=>by
    rcases hb with e | e
    ·exact .inl e
    ·simp [Value.ownBlock] at e)⟩
def sdRead (op:Bool) (own:Option WrP) (V:VerP×Int):ByteArray×Int:=
 if op=false then (⟨#[]⟩,6) else match own with
  | some x=>if x.gone=true then (⟨#[]⟩,8) else (x.data,0)
  | none=>(V.1.data,V.2)
theorem SdAt.ws {w:World} {B v:Nat} {d:SdP} {wv:Value} (h:SdAt w B v d wv):∃ A c,wv=.slice A d.W.length c∧WsAt w A d.W:=by
 obtain ⟨A,c,rfl⟩:=own_form h.own
 exact ⟨A,c,rfl,own_wsx h.own⟩
set_option maxRecDepth 20000 in
set_option maxHeartbeats 8000000 in
theorem rSRead_any (B v y:Nat) (d:SdP) (wv:Value) (key:Int) (V:VerP×Int) (w:World) (h:SdAt w B v d wv) (hn:d.W.length≤100000)
  (hrd:∀ W,Below w.heap.size w W→Calls Tryz.prog 24 #[.pointer (some ⟨y,0,none⟩),.int .i64 key,.agg #[.int .i64 d.n0,.int .i64 d.n1,.int .i64 d.n2,.int .i64 d.n3]] W fun e w'=>e=.returned (.tuple #[verV V.1,.int .i64 V.2])∧Below W.heap.size W w'):
  Calls Tryz.prog 40 #[.pointer (some ⟨v,0,none⟩),.pointer (some ⟨y,0,none⟩),.int .i64 key] w fun e w'=>e=.returned (.tuple #[.string (sdRead d.op (lastW d.W key) V).1,.int .i64 (sdRead d.op (lastW d.W key) V).2])∧Below w.heap.size w w':=by
 obtain ⟨A,c,rfl,hws⟩:=h.ws
 have hb:=h.blk
 obtain ⟨q0,q1,q2,q3,n0,n1,n2,n3,op,W⟩:=d
 simp only at hb hn hrd hws
 have HRD:=hidp hrd
 have c4:=cell_blk hb 4;have c5:=cell_blk hb 5;have c6:=cell_blk hb 6;have c7:=cell_blk hb 7;have c8:=cell_blk hb 8;have c9:=cell_blk hb 9
 simp only [zC,zD,zE] at c4 c5 c6 c7 c8 c9
 have HBK:=hidp hb
 have HOW:=hidp (own_any v A c W key w c9 (lt_blk hb) hws hn)
 unfold WrP.val at HOW
 haveI:SzGe (v+1) w:=⟨lt_blk hb⟩
 obtain ⟨L,hL⟩:∃ L,lastW W key=L:=⟨_,rfl⟩
 rw [hL] at HOW
 rw [hL]
 clear h hb hrd hws hn hL
 cases op with
 | false=>
   go_enter Tryz.func40,Tryz.ntmps40
   go_wp2_with fail
   go_ret2
   exact ⟨rfl,zB⟩
 | true=>
   cases L with
   | some x=>
     obtain ⟨xk,xd,xg⟩:=x
     simp only [Option.getD_some,Option.isSome_some] at HOW
     go_enter Tryz.func40,Tryz.ntmps40
     go_wp2_with fail
     go_at_call 95
     refine HOW.out.mono ?_
     rintro e w2 ⟨rfl,hb2⟩
     obtain ⟨x2,rfl⟩:=wplus_of_below hb2
     clear hb2 HOW
     cases xg with
     | true=>
       go_wp2_with fail
       go_ret2
       exact ⟨rfl,zB⟩
     | false=>
       go_wp2_with fail
       go_ret2
       exact ⟨rfl,zB⟩
   | none=>
     obtain ⟨⟨vw,vc,vs,vq,vd,vg⟩,z⟩:=V
     unfold verV at HRD
     simp only [Option.getD_none,Option.isSome_none,wrZ] at HOW HRD
     go_enter Tryz.func40,Tryz.ntmps40
     go_wp2_with fail
     go_at_call 95
     refine HOW.out.mono ?_
     rintro e w2 ⟨rfl,hb2⟩
     obtain ⟨x2,rfl⟩:=wplus_of_below hb2
     clear hb2 HOW
     go_wp2_with fail
     go_at_call 24
     refine (HRD.out _ (by repeat (first | exact Below.refl _ _ | refine blw_alloc ?_ | refine blw_plus ?_ | refine Below.drew ?_))).mono ?_
     rintro e w3 ⟨rfl,hb3⟩
     obtain ⟨x3,rfl⟩:=wplus_of_below hb3
     clear hb3 HRD
     go_wp2_with fail
     go_ret2
     exact ⟨rfl,zB⟩
end Go.Proofs.YtbopfhbeegkkaabGreatDoor
