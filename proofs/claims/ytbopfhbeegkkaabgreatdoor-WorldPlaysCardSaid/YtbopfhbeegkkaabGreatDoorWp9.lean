/- Part 9 of a proof: lemmas and contracts that other parts use. -/
import Derived.Test.YtbopfhbeegkkaabGreatDoorWp8
import Derived.Test.YtbopfhbeegkkaabGreatDoorWp5
import Derived.Test.YtbopfhbeegkkaabGreatDoorWp2
import Derived.Test.YtbopfhbeegkkaabGreatDoorWp1
import Derived.Test.YtbopfhbeegkkaabGreatDoorWp6
import Derived.RegionTactic
import Derived.Deep.RegionHeld3
set_option linter.unusedVariables false
set_option linter.unusedSimpArgs false
set_option maxHeartbeats 16000000
set_option maxRecDepth 20000
namespace Go.Proofs.YtbopfhbeegkkaabGreatDoor
open Go.RowKit Go.Proofs.Tryz
structure SiP where
 id:Int
 p0:Int
 p1:Int
 p2:Int
 p3:Int
 lw:Int
 lc:Int
 log:List MTx
 wt:Int→Int→Option MTx
 wn:Nat
 st:Nat→List zaE
 ot:Nat→Int
def zaW (x mb:Nat) (lv:Value) (sv:Nat→Value) (b:Nat):Prop:=b=x∨b=mb∨lv.ownBlock=some b∨∃ k,k<8∧(sv k).ownBlock=some b
def SiP.has (s:SiP) (m:MTx):Prop:=m∈s.log∨∃ a b,s.wt a b=some m
structure zbV (w:World) (B x:Nat) (s:SiP) (mb:Nat) (lv:Value) (sv:Nat→Value):Prop where
 c0:w.cell? ⟨x,0,none⟩=some (ii s.id)
 c1:w.cell? ⟨x,1,none⟩=some (ii s.p0)
 c2:w.cell? ⟨x,2,none⟩=some (ii s.p1)
 c3:w.cell? ⟨x,3,none⟩=some (ii s.p2)
 c4:w.cell? ⟨x,4,none⟩=some (ii s.p3)
 c5:w.cell? ⟨x,5,none⟩=some (ii s.lw)
 c6:w.cell? ⟨x,6,none⟩=some (ii s.lc)
 c7:w.cell? ⟨x,7,none⟩=some lv
 c8:w.cell? ⟨x,8,none⟩=some (.map (some mb))
 oth:∀ k,k<16→w.cell? ⟨x,17+k,none⟩=some (ii (s.ot k))
 frz:∀ k,w.frozen? ⟨x,k,none⟩=false
 sto:ze0 w x 9 B s.st sv
 row:w.ownsRow B 44 9 lv s.log.length (s.log.flatMap MTx.cells)
 map:zfw w mb (fun a b=>(s.wt a b).map MTx.val) s.wn
 bx:B≤x
 bm:B≤mb
 dxm:mb≠x
 dxl:lv.ownBlock≠some x
 dml:lv.ownBlock≠some mb
 dms:∀ k,k<8→(sv k).ownBlock≠some mb
 dls:∀ k,k<8→∀ b,lv.ownBlock=some b→(sv k).ownBlock≠some b
 dat:∀ m,s.has m→zaN w m.A m.t.ws∧∀ b o,m.A=some ⟨b,o,none⟩→b<w.heap.size∧¬zaW x mb lv sv b
structure zaO (w w':World) (own own':Nat→Prop):Prop where
 os:w'.os=w.os
 tape:w'.tape=w.tape
 output:w'.output=w.output
 size:w.heap.size≤w'.heap.size
 block:∀ k,k<w.heap.size→¬own k→w'.heap[k]?=w.heap[k]?
 own:∀ b,own' b→own b∨w.heap.size≤b
theorem zbV.lt {w:World}{B x mb:Nat}{s:SiP}{lv:Value}{sv:Nat→Value}(h:zbV w B x s mb lv sv){b:Nat}(hb:zaW x mb lv sv b):B≤b∧b<w.heap.size:=by
 rcases hb with rfl|rfl|hb|⟨k,hk,hb⟩
 ·exact⟨h.bx,h.sto.lt⟩
 ·exact⟨h.bm,h.map.lt⟩
 ·exact zao h.row hb
 ·exact zao (h.sto.own k hk) hb
theorem zaN.keep {w w':World}{A:Option Addr}{ws:List WrP}(h:zaN w A ws) (hb:∀ b o,A=some ⟨b,o,none⟩→w'.heap[b]?=w.heap[b]?):zaN w' A ws:=h.move hb
theorem zbV.same {w w':World}{B x mb:Nat}{s:SiP}{lv:Value}{sv:Nat→Value}(h:zbV w B x s mb lv sv) (hsz:w.heap.size≤w'.heap.size) (ho:∀ b,zaW x mb lv sv b→w'.heap[b]?=w.heap[b]?)
  (hd:∀ m,s.has m→∀ b o,m.A=some ⟨b,o,none⟩→w'.heap[b]?=w.heap[b]?):zbV w' B x s mb lv sv:=by
 have hx:=ho x (.inl rfl);have hc:∀ k,w'.cell? ⟨x,k,none⟩=w.cell? ⟨x,k,none⟩:=fun k=>yam hx
 have hf:∀ k,w'.frozen? ⟨x,k,none⟩=w.frozen? ⟨x,k,none⟩:=fun k=>yal hx
 have hrow:∀ {e n z:Nat}{v:Value}{xs:List Value},w.ownsRow B e z v n xs→(∀ b,v.ownBlock=some b→w'.heap[b]?=w.heap[b]?)→w'.ownsRow B e z v n xs:=by
  intro e n z v xs h1 h2;obtain⟨hl,hn|⟨g,cap,cur,hv,hb,hg,rest⟩⟩:=h1
  ·exact⟨hl,.inl hn⟩
  ·exact⟨hl,.inr ⟨g,cap,cur,hv,hb,by rw[h2 g (by rw[hv];rfl)];exact hg,rest⟩⟩
 refine⟨(hc 0).trans h.c0,(hc 1).trans h.c1,(hc 2).trans h.c2,(hc 3).trans h.c3,(hc 4).trans h.c4,(hc 5).trans h.c5,(hc 6).trans h.c6,(hc 7).trans h.c7,(hc 8).trans h.c8,fun k hk=>(hc _).trans (h.oth k hk),fun k=>(hf k).trans (h.frz k),?_,?_,?_,h.bx,h.bm,h.dxm,h.dxl,h.dml,h.dms,h.dls,?_⟩
 ·exact⟨yab h.sto.lt hsz,fun k hk=>(hc _).trans (h.sto.cel k hk),fun k hk=>(hf _).trans (h.sto.frz k hk),fun k hk=>hrow (h.sto.own k hk) (fun b e=>ho b (.inr (.inr (.inr ⟨k,hk,e⟩)))),h.sto.ng,h.sto.dis⟩
 ·exact hrow h.row (fun b e=>ho b (.inr (.inr (.inl e))))
 ·exact h.map.block (ho mb (.inr (.inl rfl)))
 ·intro m hm
  obtain⟨h1,h2⟩:=h.dat m hm;exact⟨h1.keep (hd m hm),fun b o e=>⟨yab (h2 b o e).1 hsz,(h2 b o e).2⟩⟩
theorem zbV.below {w w':World}{B x mb:Nat}{s:SiP}{lv:Value}{sv:Nat→Value}(h:zbV w B x s mb lv sv) (hb:Below w w w'):zbV w' B x s mb lv sv:=
 h.same hb.size (fun b hb'=>hb.block b (h.lt hb').2) (fun m hm b o e=>hb.block b ((h.dat m hm).2 b o e).1)
theorem zaO.of_below {w w':World}(own:Nat→Prop) (hb:Below w w w'):zaO w w' own own:=
 ⟨hb.os,hb.tape,hb.output,hb.size,fun k hk _=>hb.block k hk,fun _ h=>.inl h⟩
theorem zaO.trans {w W W':World}{o1 o2 o3:Nat→Prop}(h:zaO w W o1 o2) (h2:zaO W W' o2 o3):zaO w W' o1 o3:=
 ⟨h2.os.trans h.os,h2.tape.trans h.tape,h2.output.trans h.output,yac h.size h2.size,
  fun k hk hn=>(h2.block k (yab hk h.size) (fun e=>(h.own k e).elim hn (fun e2=>absurd hk zO))).trans (h.block k hk hn),
  fun b hb=>(h2.own b hb).elim (h.own b) (fun e=>.inr (yac h.size e))⟩
theorem zfL (a b:Int) (w:World):
  Calls prog 139 #[a,b] w fun e w'=>e=.returned (ii (max a b))∧w=w':=by
 rcases Int.le_total a b with h|h
 ·rw[Int.max_eq_right h]
  by_cases h1:a<b
  all_goals
   go_enter func139,ntmps139;go_wp2
   all_goals go_ret
   all_goals exact⟨by simp;try omega,rfl⟩
 ·rw[Int.max_eq_left h]
  by_cases h1:b<a
  all_goals
   go_enter func139,ntmps139;go_wp2
   all_goals go_ret
   all_goals exact⟨by simp;try omega,rfl⟩
theorem zjS (a0 a1 a2 a3 b0 b1 b2 b3:Int) (w:World):
  Calls prog 138 #[.agg #[ii a0,ii a1,ii a2,ii a3],.agg #[ii b0,ii b1,ii b2,ii b3],.func (.func 139) #[] #[]] w
   fun e w'=>e=.returned (.agg #[ii (max a0 b0),ii (max a1 b1),ii (max a2 b2),ii (max a3 b3)])∧Below w w w':=by
 go_enter func138,ntmps138;go_wp2;refine ybA 5 ?_;rw[yaO];go_wp2;refine zas 10 zK zK ?_;simp only[yat,yaQ,yau,yaA]
 repeat(first|go_big_quiet_skip|(go_big_quiet_want;go_big_quiet_op;first|go_big_quiet_on|(apply Exists.intro;refine⟨fun _=>Calls.plus_same (zfL _ _ _),?_⟩;go_big_quiet_on)))
 refine yaM ?_;rintro _ ⟨x0,rfl⟩;go_wp2;rw[yaO];go_wp2;refine zas 10 zK zK ?_;simp only[yat,yaQ,yau,yaA]
 repeat(first|go_big_quiet_skip|(go_big_quiet_want;go_big_quiet_op;first|go_big_quiet_on|(apply Exists.intro;refine⟨fun _=>Calls.plus_same (zfL _ _ _),?_⟩;go_big_quiet_on)))
 refine yaM ?_;rintro _ ⟨x1,rfl⟩;go_wp2;rw[yaO];go_wp2;refine zas 10 zK zK ?_;simp only[yat,yaQ,yau,yaA]
 repeat(first|go_big_quiet_skip|(go_big_quiet_want;go_big_quiet_op;first|go_big_quiet_on|(apply Exists.intro;refine⟨fun _=>Calls.plus_same (zfL _ _ _),?_⟩;go_big_quiet_on)))
 refine yaM ?_;rintro _ ⟨x2,rfl⟩;go_wp2;rw[yaO];go_wp2;refine zas 10 zK zK ?_;simp only[yat,yaQ,yau,yaA]
 repeat(first|go_big_quiet_skip|(go_big_quiet_want;go_big_quiet_op;first|go_big_quiet_on|(apply Exists.intro;refine⟨fun _=>Calls.plus_same (zfL _ _ _),?_⟩;go_big_quiet_on)))
 refine yaM ?_;rintro _ ⟨x3,rfl⟩;go_wp2;rw[yaO];go_wp2;exact yag (v:=.agg #[ii (max a0 b0),ii (max a1 b1),ii (max a2 b2),ii (max a3 b3)]) (by simp[results,results138,go_sem]) rfl ⟨rfl,zB⟩
theorem zeC (a0 a1 a2 a3 b0 b1 b2 b3:Int) (w:World):
  Calls prog 87 #[.agg #[ii a0,ii a1,ii a2,ii a3],.agg #[ii b0,ii b1,ii b2,ii b3]] w
   fun e w'=>e=.returned (.agg #[ii (max a0 b0),ii (max a1 b1),ii (max a2 b2),ii (max a3 b3)])∧Below w w w':=by
 go_enter func87,ntmps87;go_wp2_with (go_at_call 138;refine(zjS _ _ _ _ _ _ _ _ _).mono ?_;rintro e w' ⟨rfl,hb⟩;obtain⟨x,rfl⟩:=zad hb;clear hb);exact yag (v:=.agg #[ii (max a0 b0),ii (max a1 b1),ii (max a2 b2),ii (max a3 b3)]) (by simp[results,results87,go_sem]) rfl ⟨rfl,zB⟩
def zdp (a0 a1 a2 a3 b0 b1 b2 b3:Int):Bool:=decide (b0≤a0)&&decide (b1≤a1)&&decide (b2≤a2)&&decide (b3≤a3)
theorem zh3 (a b:Int):(max a b==a)=decide (b≤a):=by
 rw[ybq];simp;omega
theorem zdj (a0 a1 a2 a3 b0 b1 b2 b3:Int) (w:World):
  Calls prog 55 #[.agg #[ii a0,ii a1,ii a2,ii a3],.agg #[ii b0,ii b1,ii b2,ii b3]] w
   fun e w'=>e=.returned (.bool (zdp a0 a1 a2 a3 b0 b1 b2 b3))∧Below w w w':=by
 have HM:=zac fun w=>zeC a0 a1 a2 a3 b0 b1 b2 b3 w
 have HE:Hid ((max a0 b0==a0&&max a1 b1==a1&&max a2 b2==a2&&max a3 b3==a3)=zdp a0 a1 a2 a3 b0 b1 b2 b3):=zac (by unfold zdp;rw[zh3,zh3,zh3,zh3]);generalize max a0 b0=m0 at *;generalize max a1 b1=m1 at *;generalize max a2 b2=m2 at *;generalize max a3 b3=m3 at *;go_enter func55,ntmps55;go_wp2_with fail;refine zaA zK zK ?_
 repeat(first|go_big_quiet_skip|(go_big_quiet_want;go_big_quiet_op;first|go_big_quiet_on|(apply Exists.intro;refine⟨fun _=>?_,?_⟩;(go_at_call 87;exact Calls.plus_of (HM.out _));go_big_quiet_on)))
 refine yaM ?_;rintro _ ⟨x3,rfl⟩;go_wp2_with fail;go_ret;exact⟨by rw[←HE.out];rfl,zB⟩
theorem zbV.vec {w:World}{B x mb:Nat}{s:SiP}{lv:Value}{sv:Nat→Value}(h:zbV w B x s mb lv sv):w.cell? ⟨x,1,none⟩=some (ii s.p0)∧w.cell? ⟨x,1+1,none⟩=some (ii s.p1)∧w.cell? ⟨x,1+2,none⟩=some (ii s.p2)∧w.cell? ⟨x,1+3,none⟩=some (ii s.p3):=⟨h.c1,h.c2,h.c3,h.c4⟩
theorem zj0 (B x mb:Nat) (s:SiP) (lv:Value) (sv:Nat→Value) (w:World) (h:zbV w B x s mb lv sv):
  Calls prog 26 #[.pointer (some ⟨x,0,none⟩)] w fun e w'=>e=.returned (.agg #[s.p0,s.p1,s.p2,s.p3])∧Below w w w':=by
 have c1:=h.c1;have c2:=h.c2;have c3:=h.c3;have c4:=h.c4;haveI:zaj (x+1) w:=⟨h.sto.lt⟩;clear h;go_enter func26,ntmps26;go_wp2_with fail;refine yag (v:=.agg #[s.p0,s.p1,s.p2,s.p3]) (by simp[results,results26,go_sem]) rfl ⟨rfl,zB⟩
theorem zlK (B x mb:Nat) (s:SiP) (lv:Value) (sv:Nat→Value) (w:World) (h:zbV w B x s mb lv sv):
  Calls prog 27 #[.pointer (some ⟨x,0,none⟩)] w fun e w'=>e=.returned (ii s.wn)∧Below w w w':=by
 have c8:=h.c8;have hl:∀ ty,(Builtin.len_ #[141] ty #[.map (some mb)]).run prog w=.ok (ii s.wn) w:=fun ty=>h.map.len ty
 haveI:zaj (x+1) w:=⟨h.sto.lt⟩;clear h;go_enter func27,ntmps27;go_wp2_with fail;go_ret;exact⟨rfl,zB⟩
theorem zkh (w:World) (n:Nat):w.ownsRow n 59 6 (.slice none 0 0) 0 []:=⟨rfl,.inl ⟨rfl,rfl⟩⟩
def zj4 (S:Nat→List zaE):Prop:=∀ k,k<8→∀ v∈S k,v.data.size≤12
theorem ziB {S:Nat→List zaE}(h:zj4 S) (a0 a1 a2 a3 key:Int):(zcO a0 a1 a2 a3 S key).1.data.size≤12:=by
 have hz:verZ.data.size≤12:=by decide
 unfold zcO;split
 ·exact hz
 ·rename_i hk
  split
  ·rename_i v hf
   split
   ·exact hz
   ·exact h key.toNat zO v (yb4.1 (ybU hf))
  ·exact hz
theorem zjq (B x mb:Nat) (s:SiP) (lv:Value) (sv:Nat→Value) (w:World) (h:zbV w B x s mb lv sv) (hf:Fit s.st 900000) (hd:zj4 s.st):
  Calls prog 32 #[.pointer (some ⟨x,0,none⟩)] w fun e w'=>∃ A' c',e=.returned (.slice A' 8 c')∧zgX w' A' (zdG (fun k=>zcO s.p0 s.p1 s.p2 s.p3 s.st k) 8)∧Below w w w':=by
 obtain⟨c1,c2,c3,c4⟩:=h.vec;have HA:=zac fun W (hb:Below w w W)=>all_any x 9 B s.st sv s.p0 s.p1 s.p2 s.p3 (fun k=>zcO s.p0 s.p1 s.p2 s.p3 s.st k) W (h.sto.below hb) (fun k hk=>(hf k hk).1) (fun k hk=>(hf k hk).2) (fun k hk=>rfl) (fun k hk=>yac (ziB hd _ _ _ _ _) zO)
 haveI:zaj (x+1) w:=⟨h.sto.lt⟩;clear h hf hd;go_enter func32,ntmps32;go_wp2_with fail;refine zb9 7 fun x3=>?_
 go_wp2_with fail;go_at_call 94;refine(HA.out _ (zax _ _)).mono ?_;rintro e w' ⟨A1,c1',rfl,hts,hb⟩;have HB:=zac ((zax w x3).trans (hb.mono zS));have HT:=zac hts;clear hts hb;go_wp2_with fail;go_ret;exact⟨A1,c1',rfl,HT.out,HB.out⟩
def zcz (id:Int):SiP:=⟨id,0,0,0,0,0,0,[],fun _ _=>none,0,fun _=>[],fun _=>0⟩
theorem zbV.fresh {w:World}{B x mb:Nat}{id:Int}(hx:w.heap[x]?=some (.cells #[id,ii 0,ii 0,ii 0,ii 0,ii 0,ii 0,.slice none 0 0,.map (some mb),.slice none 0 0,.slice none 0 0,.slice none 0 0,.slice none 0 0,.slice none 0 0,.slice none 0 0,.slice none 0 0,.slice none 0 0,ii 0,ii 0,ii 0,ii 0,ii 0,ii 0,ii 0,ii 0,ii 0,ii 0,ii 0,ii 0,ii 0,ii 0,ii 0,ii 0] 147))
  (hm:w.heap[mb]?=some (.map #[] 0)) (hB:B≤x) (hB2:B≤mb) (hne:mb≠x):zbV w B x (zcz id) mb (.slice none 0 0) (fun _=>.slice none 0 0):=by
 refine⟨zaa hx 0,zaa hx 1,zaa hx 2,zaa hx 3,zaa hx 4,zaa hx 5,zaa hx 6,zaa hx 7,zaa hx 8,?_,zab hx,⟨zae hx,?_,fun k _=>zab hx _,fun k _=>zkh w B,fun _ _=>by simp[Value.ownBlock],fun _ _ _ _ _ _ hb=>by simp[Value.ownBlock]at hb⟩,
  ⟨rfl,.inl ⟨rfl,rfl⟩⟩,zfw.made hm,hB,hB2,hne,by simp[Value.ownBlock],by simp[Value.ownBlock],fun _ _=>by simp[Value.ownBlock],fun _ _ b hb=>by simp[Value.ownBlock]at hb,?_⟩
 ·intro k hk
  have hc:k=0∨k=1∨k=2∨k=3∨k=4∨k=5∨k=6∨k=7∨k=8∨k=9∨k=10∨k=11∨k=12∨k=13∨k=14∨k=15:=by omega
  rw[zaa hx];rcases hc with rfl|rfl|rfl|rfl|rfl|rfl|rfl|rfl|rfl|rfl|rfl|rfl|rfl|rfl|rfl|rfl <;> rfl
 ·intro k hk
  have hc:k=0∨k=1∨k=2∨k=3∨k=4∨k=5∨k=6∨k=7:=by omega
  rw[zaa hx];rcases hc with rfl|rfl|rfl|rfl|rfl|rfl|rfl|rfl <;> rfl
 ·intro m hm
  rcases hm with hm|⟨a,b,hm⟩
  ·cases hm
  ·cases hm
theorem mkMap (w:World):Sem.run prog (Instr.makeMap 141 none) w=.ok (.map (some w.heap.size)) (w.alloc (.map #[] 0)):=by kernel_rfl
theorem new_any (id:Int) (w:World) (hid:0≤id∧id<4):
  Calls prog 11 #[id] w fun e w'=>e=.returned (.tuple #[.pointer (some ⟨w.heap.size+1,0,none⟩),.nilIface])∧zbV w' w.heap.size (w.heap.size+1) (zcz id) w.heap.size (.slice none 0 0) (fun _=>.slice none 0 0)∧Below w w w':=by
 have d0:decide (id<0)=false:=zU;have d1:decide (4≤id)=false:=zU;have hmk:=mkMap w;go_enter func11,ntmps11;go_wp2_with fail;go_ret2;refine⟨rfl,zbV.fresh ?_ ?_ zO (yai _) zO,zB⟩
 ·exact zag zS _
 ·exact zaC (zag rfl _) _
def SiP.setc (s:SiP) (i:Nat) (z:Int):SiP:=
 { s with p0:=if i=1 then z else s.p0,p1:=if i=2 then z else s.p1,p2:=if i=3 then z else s.p2,p3:=if i=4 then z else s.p3,lw:=if i=5 then z else s.lw,lc:=if i=6 then z else s.lc }
theorem zb1 {w:World}{x i j:Nat}{v u:Value}(h:w.cell? ⟨x,j,none⟩=some u):(w.setCell ⟨x,i,none⟩ v).cell? ⟨x,j,none⟩=some (if i=j then v else u):=by
 by_cases e:i=j
 ·subst e;rw[yaj rfl];exact ybv _ _ _ h
 ·rw[yad e,ybr _ _ _ _ (by simp only[ne_eq,yaU,not_and];omega)];exact h
theorem zaO.setc {w:World}{x mb i:Nat}{lv:Value}{sv:Nat→Value}(v:Value):zaO w (w.setCell ⟨x,i,none⟩ v) (zaW x mb lv sv) (zaW x mb lv sv):=
 ⟨rfl,rfl,rfl,by simp[World.setCell],fun k hk hn=>(zan w x i v).block k hk (by simp;exact fun e=>hn (.inl e)),fun _ h=>.inl h⟩
theorem zbV.setc {w:World}{B x mb i:Nat}{s:SiP}{lv:Value}{sv:Nat→Value}(h:zbV w B x s mb lv sv) (hi:1≤i∧i≤6) (z:Int):zbV (w.setCell ⟨x,i,none⟩ (ii z)) B x (s.setc i z) mb lv sv:=by
 have hgs:=zan w x i (ii z);have hx:∀ b,b<w.heap.size→b≠x→(w.setCell ⟨x,i,none⟩ (ii z)).heap[b]?=w.heap[b]?:=fun b hb hne=>hgs.block b hb (by simp;exact hne)
 have hf:∀ k,(w.setCell ⟨x,i,none⟩ (ii z)).frozen? ⟨x,k,none⟩=w.frozen? ⟨x,k,none⟩:=fun k=>yba ..
 have hs:(w.setCell ⟨x,i,none⟩ (ii z)).heap.size=w.heap.size:=by simp[World.setCell]
 have t:∀ {j:Nat}{a:Int},w.cell? ⟨x,j,none⟩=some (ii a)→(w.setCell ⟨x,i,none⟩ (ii z)).cell? ⟨x,j,none⟩=some (ii (if i=j then z else a)):=fun {j a} hj=>by
  rw[zb1 hj];split <;> rfl
 refine⟨?_,t h.c1,t h.c2,t h.c3,t h.c4,t h.c5,t h.c6,?_,?_,?_,fun k=>(hf k).trans (h.frz k),?_,?_,?_,h.bx,h.bm,h.dxm,h.dxl,h.dml,h.dms,h.dls,?_⟩
 ·have:=zb1 (i:=i) (v:=ii z) h.c0;rw[yad zO]at this;exact this
 ·have:=zb1 (i:=i) (v:=ii z) h.c7;rw[yad zO]at this;exact this
 ·have:=zb1 (i:=i) (v:=ii z) h.c8;rw[yad zO]at this;exact this
 ·intro k hk
  have:=zb1 (i:=i) (v:=ii z) (h.oth k hk);rw[yad zO]at this;exact this
 ·refine⟨by rw[hs];exact h.sto.lt,fun k hk=>?_,fun k hk=>(hf _).trans (h.sto.frz k hk),fun k hk=>(h.sto.own k hk).kept hgs (.inr (h.sto.ng k hk)),h.sto.ng,h.sto.dis⟩
  have:=zb1 (i:=i) (v:=ii z) (h.sto.cel k hk);rw[yad zO]at this;exact this
 ·exact h.row.kept hgs (.inr h.dxl)
 ·exact h.map.block (hx mb h.map.lt h.dxm)
 ·intro m hm
  obtain⟨h1,h2⟩:=h.dat m hm;exact⟨h1.keep fun b o e=>hx b (h2 b o e).1 (fun e2=>(h2 b o e).2 (.inl e2)),fun b o e=>⟨by rw[hs];exact(h2 b o e).1,(h2 b o e).2⟩⟩
theorem zbV.store {w w':World}{B x mb:Nat}{s:SiP}{lv:Value}{sv sv':Nat→Value}{st':Nat→List zaE}(h:zbV w B x s mb lv sv) (hst:ze0 w' x 9 B st' sv') (fr:zig w w' x 9 sv sv'):
  zbV w' B x { s with st:=st' } mb lv sv'∧zaO w w' (zaW x mb lv sv) (zaW x mb lv sv'):=by
 have hso:∀ b,zaW x mb lv sv b→b<w.heap.size:=fun b hb=>(h.lt hb).2
 have hnew:∀ b,zfH x sv' b→zfH x sv b∨w.heap.size≤b:=fr.own;have hnm:∀ k,k<8→(sv' k).ownBlock≠some mb:=by
  intro k hk e;rcases fr.own mb (.inr ⟨k,hk,e⟩)with (e2|⟨j,hj,e2⟩)|e2
  ·exact h.dxm e2
  ·exact h.dms j hj e2
  ·have:=h.map.lt;omega
 have hnl:∀ k,k<8→∀ b,lv.ownBlock=some b→(sv' k).ownBlock≠some b:=by
  intro k hk b hb e;have hbl:=(zao h.row hb).2;rcases fr.own b (.inr ⟨k,hk,e⟩)with (e2|⟨j,hj,e2⟩)|e2
  ·subst e2;exact h.dxl hb
  ·exact h.dls j hj b hb e2
  ·omega
 have hrest:∀ b,b<w.heap.size→¬zfH x sv b→w'.heap[b]?=w.heap[b]?:=fr.block;have hcell:∀ k,k<9∨17≤k→w'.cell? ⟨x,k,none⟩=w.cell? ⟨x,k,none⟩:=fun k hk=>fr.rest k zO
 have hmbs:¬zfH x sv mb:=by
  rintro(e|⟨k,hk,e⟩)
  ·exact h.dxm e
  ·exact h.dms k hk e
 have hlvs:∀ b,lv.ownBlock=some b→¬zfH x sv b:=by
  rintro b hb (e|⟨k,hk,e⟩)
  ·subst e;exact h.dxl hb
  ·exact h.dls k hk b hb e
 have hsub:∀ b,zfH x sv b→zaW x mb lv sv b:=by
  rintro b (e|e)
  ·exact .inl e
  ·exact .inr (.inr (.inr e))
 refine⟨⟨(hcell 0 zO).trans h.c0,(hcell 1 zO).trans h.c1,(hcell 2 zO).trans h.c2,(hcell 3 zO).trans h.c3,(hcell 4 zO).trans h.c4,(hcell 5 zO).trans h.c5,(hcell 6 zO).trans h.c6,(hcell 7 zO).trans h.c7,(hcell 8 zO).trans h.c8,
  fun k hk=>(hcell _ zO).trans (h.oth k hk),fun k=>(fr.frzd k).trans (h.frz k),hst,?_,h.map.block (hrest mb h.map.lt hmbs),h.bx,h.bm,h.dxm,h.dxl,h.dml,hnm,hnl,?_⟩,⟨fr.os,fr.tape,fr.output,fr.size,fun k hk hn=>hrest k hk (fun e=>hn (hsub k e)),?_⟩⟩
 ·obtain⟨hl,hn|⟨g,cap,cur,hv,hb,hg,rest⟩⟩:=h.row
  ·exact⟨hl,.inl hn⟩
  ·exact⟨hl,.inr ⟨g,cap,cur,hv,hb,by rw[hrest g (zae hg) (hlvs g (by rw[hv];rfl))];exact hg,rest⟩⟩
 ·intro m hm
  obtain⟨h1,h2⟩:=h.dat m hm;refine⟨h1.keep fun b o e=>hrest b (h2 b o e).1 (fun e2=>(h2 b o e).2 (hsub b e2)),fun b o e=>⟨yab (h2 b o e).1 fr.size,?_⟩⟩;have hb:=h2 b o e;rintro(e2|e2|e2|⟨k,hk,e2⟩)
  ·exact hb.2 (.inl e2)
  ·exact hb.2 (.inr (.inl e2))
  ·exact hb.2 (.inr (.inr (.inl e2)))
  ·rcases hnew b (.inr ⟨k,hk,e2⟩)with e3|e3
   ·exact hb.2 (hsub b e3)
   ·omega
 ·rintro b (e2|e2|e2|⟨k,hk,e2⟩)
  ·exact .inl (.inl e2)
  ·exact .inl (.inr (.inl e2))
  ·exact .inl (.inr (.inr (.inl e2)))
  ·rcases hnew b (.inr ⟨k,hk,e2⟩)with e3|e3
   ·exact .inl (hsub b e3)
   ·exact .inr e3
theorem zbV.logged {w w1:World}{B x mb:Nat}{s:SiP}{lv lv':Value}{sv:Nat→Value}{m:MTx}(h:zbV w B x s mb lv sv) (hg:w.grownBy w1 lv.ownBlock)
  (hown:w1.ownsRow B 44 9 lv' (s.log++[m]).length ((s.log++[m]).flatMap MTx.cells)) (hv:lv'.ownBlock=lv.ownBlock∨∀ b,lv'.ownBlock=some b→w.heap.size≤b)
  (hm:zaN w m.A m.t.ws∧∀ b o,m.A=some ⟨b,o,none⟩→b<w.heap.size∧¬zaW x mb lv sv b):
  zbV (w1.setCell ⟨x,7,none⟩ lv') B x { s with log:=s.log++[m] } mb lv' sv∧zaO w (w1.setCell ⟨x,7,none⟩ lv') (zaW x mb lv sv) (zaW x mb lv' sv):=by
 have hgs:=zan w1 x 7 lv';have hxb:w1.heap[x]?=w.heap[x]?:=hg.block x h.sto.lt (fun e=>h.dxl e.symm);have hc1:∀ j,w1.cell? ⟨x,j,none⟩=w.cell? ⟨x,j,none⟩:=fun j=>yam hxb
 have hf:∀ k,(w1.setCell ⟨x,7,none⟩ lv').frozen? ⟨x,k,none⟩=w.frozen? ⟨x,k,none⟩:=fun k=>(yba ..).trans (yal hxb)
 have hs:(w1.setCell ⟨x,7,none⟩ lv').heap.size=w1.heap.size:=by simp[World.setCell]
 have hbl:∀ b,b<w.heap.size→b≠x→lv.ownBlock≠some b→(w1.setCell ⟨x,7,none⟩ lv').heap[b]?=w.heap[b]?:=fun b hb h1 h2=>by
  rw[hgs.block b (by have:=hg.size;omega) (by simp;exact h1)];exact hg.block b hb (fun e=>h2 e.symm)
 have t:∀ {j:Nat}{u:Value},j≠7→w.cell? ⟨x,j,none⟩=some u→(w1.setCell ⟨x,7,none⟩ lv').cell? ⟨x,j,none⟩=some u:=fun {j u} hj hu=>by
  have:=zb1 (i:=7) (v:=lv') ((hc1 j).trans hu);rw[yad zO]at this;exact this
 have hlx:lv'.ownBlock≠some x:=by
  rcases hv with e|e
  ·rw[e];exact h.dxl
  ·intro e2;have:=e x e2;have:=h.sto.lt;omega
 have hlm:lv'.ownBlock≠some mb:=by
  rcases hv with e|e
  ·rw[e];exact h.dml
  ·intro e2;have:=e mb e2;have:=h.map.lt;omega
 have hls:∀ k,k<8→∀ b,lv'.ownBlock=some b→(sv k).ownBlock≠some b:=by
  intro k hk b hb e2;rcases hv with e|e
  ·rw[e]at hb;exact h.dls k hk b hb e2
  ·have:=e b hb;have:=(zao (h.sto.own k hk) e2).2;omega
 have hkr:∀ k,k<8→w1.ownsRow B 59 6 (sv k) (s.st k).length (zbw (s.st k)):=fun k hk=>(h.sto.own k hk).kept hg (by
  cases hb:lv.ownBlock with
  | none=>
    cases hk2:(sv k).ownBlock with
    | none=>exact .inl rfl
    | some b=>exact .inr zS
  | some b=>
    cases hk2:(sv k).ownBlock with
    | none=>exact .inl rfl
    | some b'=>exact .inr (fun e=>by simp at e;subst e;exact h.dls k hk b' hb hk2))
 have hdata:∀ m':MTx,(zaN w m'.A m'.t.ws∧∀ b o,m'.A=some ⟨b,o,none⟩→b<w.heap.size∧¬zaW x mb lv sv b)→zaN (w1.setCell ⟨x,7,none⟩ lv') m'.A m'.t.ws∧∀ b o,m'.A=some ⟨b,o,none⟩→b<(w1.setCell ⟨x,7,none⟩ lv').heap.size∧¬zaW x mb lv' sv b:=by
  rintro m' ⟨h1,h2⟩;refine⟨h1.keep fun b o e=>hbl b (h2 b o e).1 (fun e2=>(h2 b o e).2 (.inl e2)) (fun e2=>(h2 b o e).2 (.inr (.inr (.inl e2)))),fun b o e=>⟨by rw[hs];have:=hg.size;have:=(h2 b o e).1;omega,?_⟩⟩;have hb:=h2 b o e;rintro(e2|e2|e2|e2)
  ·exact hb.2 (.inl e2)
  ·exact hb.2 (.inr (.inl e2))
  ·rcases hv with e3|e3
   ·exact hb.2 (.inr (.inr (.inl (e3 ▸ e2))))
   ·have:=e3 b e2;omega
  ·exact hb.2 (.inr (.inr (.inr e2)))
 refine⟨⟨t zO h.c0,t zO h.c1,t zO h.c2,t zO h.c3,t zO h.c4,t zO h.c5,t zO h.c6,ybv _ _ _ ((hc1 7).trans h.c7),t zO h.c8,fun k hk=>t zO (h.oth k hk),fun k=>(hf k).trans (h.frz k),?_,hown.kept hgs (.inr hlx),?_,h.bx,h.bm,h.dxm,hlx,hlm,h.dms,hls,?_⟩,
  ⟨hg.os,hg.tape,hg.output,by rw[hs];exact hg.size,fun k hk hn=>hbl k hk (fun e=>hn (.inl e)) (fun e=>hn (.inr (.inr (.inl e)))),?_⟩⟩
 ·exact⟨by rw[hs];have:=hg.size;have:=h.sto.lt;omega,fun k hk=>t zO (h.sto.cel k hk),fun k hk=>(hf _).trans (h.sto.frz k hk),fun k hk=>(hkr k hk).kept hgs (.inr (h.sto.ng k hk)),h.sto.ng,h.sto.dis⟩
 ·exact h.map.block (hbl mb h.map.lt h.dxm h.dml)
 ·intro m' hm'
  rcases hm' with hm'|hm'
  ·rcases yax.1 hm' with hm'|hm'
   ·exact hdata m' (h.dat m' (.inl hm'))
   ·simp only[yaW]at hm';subst hm';exact hdata m' hm
  ·exact hdata m' (h.dat m' (.inr hm'))
 ·rintro b (e2|e2|e2|e2)
  ·exact .inl (.inl e2)
  ·exact .inl (.inr (.inl e2))
  ·rcases hv with e3|e3
   ·exact .inl (.inr (.inr (.inl (e3 ▸ e2))))
   ·exact .inr (e3 b e2)
  ·exact .inl (.inr (.inr (.inr e2)))
instance : Inhabited WrP := ⟨⟨0, ⟨#[]⟩, false⟩⟩
def verOf (t:TxP) (w:WrP):zaE:=⟨t.wall,t.count,t.site,t.seq,w.data,w.gone⟩
def zfy (st:Nat→List zaE) (t:TxP):Nat→Nat→List zaE
 | 0=>st
 | j+1=>putP (zfy st t j) ⟨(t.ws.getD j default).key,verOf t (t.ws.getD j default)⟩
theorem zeE {st:Nat→List zaE}{N:Nat}(h:Fit st N) (t:TxP):∀ j,Fit (zfy st t j) (N+j)
 | 0=>h
 | j+1=>(zeE h t j).put _
def zhf (aw ac bw bc:Int):Int:=if zc1 aw ac bw bc<0 then bw else aw
def zhg (aw ac bw bc:Int):Int:=if zc1 aw ac bw bc<0 then bc else ac
theorem later_is (aw ac bw bc:Int) (w:World):Calls prog 137 #[.agg #[ii aw,ii ac],.agg #[ii bw,ii bc]] w fun e w'=>e=.returned (.agg #[ii (zhf aw ac bw bc),ii (zhg aw ac bw bc)])∧Below w w w':=by
 have:=zmR aw ac bw bc w;unfold zhf zhg;split at this <;> rename_i h
 ·rw[yaj h,yaj h];exact this
 ·rw[yad h,yad h];exact this
def zbo (s:SiP) (m:MTx):SiP:=
 { ((({ s with st:=zfy s.st m.t m.t.ws.length }:SiP).setc (1+m.t.site.toNat) m.t.seq).setc 5 (zhf s.lw s.lc m.t.wall m.t.count)).setc 6 (zhg s.lw s.lc m.t.wall m.t.count)with log:=s.log++[m] }
theorem info40o:(prog.info? 44).map (fun i=>(i.zero,i.size,i.bytes))=some (some txZero,9,88):=by kernel_rfl
theorem info40:∃ i,prog.info? 44=some i∧i.zero=some txZero∧i.size=9∧i.bytes=88:=by
 obtain⟨i,hi,h⟩:=ya6.1 info40o;simp only[ybc]at h;exact⟨i,hi,h.1,h.2.1,h.2.2⟩
theorem zhe (l:List MTx):(l.flatMap MTx.cells).length=l.length*9:=by
 induction l with
 | nil=>rfl
 | cons x l ih=>simp only[yaN,yak,MTx.cells,yaq,yaB]at ih ⊢;omega
theorem zey (B x mb:Nat) (s:SiP) (lv:Value) (sv:Nat→Value) (m:MTx) (N:Nat) (w:World) (h:zbV w B x s mb lv sv)
  (hm:zaN w m.A m.t.ws∧∀ b o,m.A=some ⟨b,o,none⟩→b<w.heap.size∧¬zaW x mb lv sv b) (hsite:0≤m.t.site∧m.t.site<4) (hf:Fit s.st N) (hN:N≤800000) (hl:s.log.length≤100000) (hw:m.t.ws.length≤1000):
  Calls prog 80 #[.pointer (some ⟨x,0,none⟩),MTx.val m] w fun e w'=>e=.returned (.tuple #[])∧∃ lv' sv',zbV w' B x (zbo s m) mb lv' sv'∧zaO w w' (zaW x mb lv sv) (zaW x mb lv' sv'):=by
 obtain⟨⟨site,seq,wall,count,d0,d1,d2,d3,ws⟩,A,c⟩:=m;obtain⟨Al,cl,rfl⟩:=zaP h.row;simp only at hm hsite hw;obtain⟨st,rfl⟩:=yar hsite.1;have hst4:st<4:=by omega
 have hBw:Below w w (w.alloc (.cells #[(st:Int),seq,wall,count,d0,d1,d2,d3,.slice A ws.length c] 44)):=zal (yaf _ _);have HS0:=zac (h.below hBw);have HFR0:=zac (zaO.of_below (zaW x mb (.slice Al s.log.length cl) sv) hBw);have HM0:=zac (show zaN (w.alloc (.cells #[(st:Int),seq,wall,count,d0,d1,d2,d3,.slice A ws.length c] 44)) A ws∧∀ b o,A=some ⟨b,o,none⟩→b<(w.alloc (.cells #[(st:Int),seq,wall,count,d0,d1,d2,d3,.slice A ws.length c] 44)).heap.size∧¬zaW x mb (.slice Al s.log.length cl) sv b from ⟨hm.1.below hBw,fun b o e=>⟨yab (hm.2 b o e).1 hBw.size,(hm.2 b o e).2⟩⟩);have HBX:=zac (show(w.alloc (.cells #[(st:Int),seq,wall,count,d0,d1,d2,d3,.slice A ws.length c] 44)).heap[w.heap.size]?=some (.cells #[(st:Int),seq,wall,count,d0,d1,d2,d3,.slice A ws.length c] 44)from zag rfl _);have HNO:=zac (show ¬zaW x mb (.slice Al s.log.length cl) sv w.heap.size from fun e=>by have:=(h.lt e).2;omega);have HB:=zac (yac h.bx (ybw h.sto.lt));have HF:=zac hf;have hbs:(w.alloc (.cells #[(st:Int),seq,wall,count,d0,d1,d2,d3,.slice A ws.length c] 44)).heap.size=w.heap.size+1:=by simp
 have HSZ:=zac hbs;clear h hm hBw hf hbs;unfold MTx.val;go_enter func80,ntmps80;go_wp2_with fail;generalize w.alloc (.cells #[(st:Int),seq,wall,count,d0,d1,d2,d3,.slice A ws.length c] 44)=wo at *;go_loopw [9] (fun i wr=>∃ (j:Nat) (sv':Nat→Value),i=ii j∧j≤ws.length∧zbV wr B x { s with st:=zfy s.st (⟨(st:Int),seq,wall,count,d0,d1,d2,d3,ws⟩:TxP) j } mb (.slice Al s.log.length cl) sv'∧zaO wo wr (zaW x mb (.slice Al s.log.length cl) sv) (zaW x mb (.slice Al s.log.length cl) sv')) (fun i _=>ws.length-(intOf i).toNat)
 case atStart=>exact⟨0,sv,rfl,yay _,HS0.out,zaO.of_below _ (yaf _ _)⟩
 case round=>
  obtain⟨j,sv1,rfl,hj,hs,hfr⟩:=hrel;have HS:=zac hs;have HFR:=zac hfr;have hbx:wr.heap[w.heap.size]?=some (.cells #[(st:Int),seq,wall,count,d0,d1,d2,d3,.slice A ws.length c] 44):=(hfr.block _ (zae HBX.out) HNO.out).trans HBX.out;have e0:=zaa hbx 0;have e1:=zaa hbx 1;have e2:=zaa hbx 2;have e3:=zaa hbx 3;have e4:=zaa hbx 4;have e5:=zaa hbx 5;have e6:=zaa hbx 6;have e7:=zaa hbx 7;have e8:=zaa hbx 8;simp only[zC,zD,zE]at e0 e1 e2 e3 e4 e5 e6 e7 e8;haveI:zaj (w.heap.size+1) wr:=⟨zae hbx⟩;have hszr:=hfr.size;clear hs hfr hbx;by_cases hjl:j<ws.length
  ·obtain⟨hws,hwo⟩:=HM0.out
   obtain⟨b,o,rfl,hb,k0,k1,k2⟩:=hws j ws[j] (yaa hjl);have hgd:ws.getD j default=ws[j]:=by simp[List.getD,yaa hjl]
   have HX:Hid (zfy s.st (⟨(st:Int),seq,wall,count,d0,d1,d2,d3,ws⟩:TxP) (j+1)=(zgK (zfy s.st (⟨(st:Int),seq,wall,count,d0,d1,d2,d3,ws⟩:TxP) j) (ws[j]).key ⟨wall,count,(st:Int),seq,(ws[j]).data,(ws[j]).gone⟩).2):=zac (by
    show putP _ ⟨(ws.getD j default).key,_⟩=_;rw[hgd];rfl)
   have hbw:=HFR.out.block b (hwo b o rfl).1 (hwo b o rfl).2;rw[←yam hbw]at k0 k1 k2;haveI:zaj (b+1) wr:=⟨yab (hwo b o rfl).1 hszr⟩;generalize ws[j]=y at *;obtain⟨yk,yd,yg⟩:=y;simp only at k0 k1 k2;simp only at HX;have HFJ:=zac ((zeE HF.out (⟨(st:Int),seq,wall,count,d0,d1,d2,d3,ws⟩:TxP) j).mono (M:=900000) zO);have HPT:=zac fun W (hW:zbV W B x { s with st:=zfy s.st (⟨(st:Int),seq,wall,count,d0,d1,d2,d3,ws⟩:TxP) j } mb (.slice Al s.log.length cl) sv1)=>putS_any x 9 B _ sv1 yk ⟨wall,count,(st:Int),seq,yd,yg⟩ W hW.sto (fun k hk=>(HFJ.out k hk).1) (fun k hk=>(HFJ.out k hk).2) (yac hW.bx (ybw hW.sto.lt))
   clear hws hwo hgd hbw hb;go_wp2_with fail;refine zb9 16 fun x3=>?_
   go_wp2_with fail;have HCU:=zac (HS.out.below (show Below wr wr (zai (wr.alloc (.cells #[yk,.string yd,.bool yg] 83)) x3)from zB));have HFU:=zac (HFR.out.trans (zaO.of_below (zaW x mb (.slice Al s.log.length cl) sv1) (show Below wr wr (zai (wr.alloc (.cells #[yk,.string yd,.bool yg] 83)) x3)from zB)));go_at_call 136;refine(HPT.out _ HCU.out).mono ?_;rintro e w2 ⟨sv2,rfl,hst2,hfr2⟩;have HN2:=zac (HCU.out.store hst2 hfr2);clear hst2 hfr2 HPT;go_wp2_with fail;go_roundw
   case rel=>
    refine⟨j+1,sv2,by go_num,zO,?_,HFU.out.trans HN2.out.2⟩;rw[HX.out];exact HN2.out.1
   case measure=>simp[intOf];omega
  ·obtain rfl:j=ws.length:=by omega
   have hxr:=HS.out.sto.lt;haveI:zaj (x+1) wr:=⟨hxr⟩;obtain⟨zu,hzu⟩:∃ zu,wr.cell? ⟨x,1+st,none⟩=some (ii zu):=by
    obtain⟨v1,v2,v3,v4⟩:=HS.out.vec;have hc:st=0∨st=1∨st=2∨st=3:=by omega
    rcases hc with rfl|rfl|rfl|rfl
    ·exact⟨_,v1⟩
    ·exact⟨_,v2⟩
    ·exact⟨_,v3⟩
    ·exact⟨_,v4⟩
   have hzf:=HS.out.frz (1+st);go_wp2_with fail;refine zb9 7 fun x3=>?_
   go_wp2_with fail;have HS6:=zac ((HS.out.setc (i:=1+st) zO seq).below (zax _ x3));have HF6:=zac ((HFR.out.trans (zaO.setc (i:=1+st) (ii seq))).trans (zaO.of_below (zaW x mb (.slice Al s.log.length cl) sv1) (zax _ x3)));clear e0 e1 e2 e3 e4 e5 e6 e7 e8 hzu hzf;generalize zai (wr.setCell ⟨x,1+st,none⟩ (ii seq)) x3=w6 at *;obtain⟨s6,hs6⟩:∃ s6,SiP.setc ({ s with st:=zfy s.st (⟨(st:Int),seq,wall,count,d0,d1,d2,d3,ws⟩:TxP) ws.length }:SiP) (1+st) seq=s6:=⟨_,rfl⟩;have hlw:s6.lw=s.lw:=by rw[←hs6];simp[SiP.setc];omega
   have hlc:s6.lc=s.lc:=by rw[←hs6];simp[SiP.setc];omega
   have hlg:s6.log=s.log:=by rw[←hs6];rfl
   have hst6:s6.st=zfy s.st (⟨(st:Int),seq,wall,count,d0,d1,d2,d3,ws⟩:TxP) ws.length:=by rw[←hs6];rfl
   rw[hs6]at HS6;have HS6E:=zac hs6;have HLG:=zac hlg;have a5:=HS6.out.c5;have a6:=HS6.out.c6;rw[hlw]at a5;rw[hlc]at a6;have g5:=HS6.out.frz 5;have g6:=HS6.out.frz 6;have hx6:=HS6.out.sto.lt;haveI:zaj (x+1) w6:=⟨hx6⟩;clear hs6 hlw hlc hlg hst6;have HLT:=zac fun w=>later_is s.lw s.lc wall count w
   generalize hLW:zhf s.lw s.lc wall count=LW at *;generalize hLC:zhg s.lw s.lc wall count=LC at *;have HLW:=zac hLW;have HLC:=zac hLC;clear hLW hLC;have hbx6:w6.heap[w.heap.size]?=some (.cells #[(st:Int),seq,wall,count,d0,d1,d2,d3,.slice A ws.length c] 44):=(HF6.out.block _ (zae HBX.out) HNO.out).trans HBX.out;have e0:=zaa hbx6 0;have e1:=zaa hbx6 1;have e2:=zaa hbx6 2;have e3:=zaa hbx6 3;have e4:=zaa hbx6 4;have e5:=zaa hbx6 5;have e6:=zaa hbx6 6;have e7:=zaa hbx6 7;have e8:=zaa hbx6 8;simp only[zC,zD,zE]at e0 e1 e2 e3 e4 e5 e6 e7 e8;haveI:zaj (w.heap.size+1) w6:=⟨zae hbx6⟩;clear hbx6;go_wp2_with fail;refine zas 8 zK zK ?_;simp only[yat,yaQ,yau,yaA]
   repeat(first|go_big_quiet_skip|(go_big_quiet_want;go_big_quiet_op;first|go_big_quiet_on|(apply Exists.intro;refine⟨fun _=>?_,?_⟩;(go_at_call 137;exact Calls.plus_of (HLT.out _));go_big_quiet_on)))
   refine yaM ?_;rintro _ ⟨x4,rfl⟩;go_wp2_with fail;have HS7:=zac (((HS6.out.setc (i:=5) zO LW).setc (i:=6) zO LC).below (zax _ x4));have HF7:=zac (((HF6.out.trans (zaO.setc (i:=5) (ii LW))).trans (zaO.setc (i:=6) (ii LC))).trans (zaO.of_below (zaW x mb (.slice Al s.log.length cl) sv1) (zax _ x4)));clear e0 e1 e2 e3 e4 e5 e6 e7 e8 a5 a6 g5 g6;generalize zai ((w6.setCell ⟨x,5,none⟩ (ii LW)).setCell ⟨x,6,none⟩ (ii LC)) x4=w7 at *;have hM7:zaN w7 A ws∧∀ b o,A=some ⟨b,o,none⟩→b<w7.heap.size∧¬zaW x mb (.slice Al s.log.length cl) sv1 b:=by
    obtain⟨h1,h2⟩:=HM0.out;have h3:=HF7.out.size;refine⟨h1.keep fun b o e=>HF7.out.block b (h2 b o e).1 (h2 b o e).2,fun b o e=>⟨yab (h2 b o e).1 h3,fun e2=>?_⟩⟩;rcases HF7.out.own b e2 with e3|e3
    ·exact(h2 b o e).2 e3
    ·have:=(h2 b o e).1;omega
   have HM7:=zac hM7;clear hM7;have HRW:=HS7.out.row;rw[show((s6.setc 5 LW).setc 6 LC).log=s6.log from rfl,HLG.out]at HRW;have HOW:=zac HRW;clear HRW;have k7:=HS7.out.c7;have z7:=HS7.out.frz 7;have hx7:=HS7.out.sto.lt;haveI:zaj (x+1) w7:=⟨hx7⟩;have hB7:B≤w7.heap.size:=yac HS7.out.bx (ybw hx7);have hbx7:w7.heap[w.heap.size]?=some (.cells #[(st:Int),seq,wall,count,d0,d1,d2,d3,.slice A ws.length c] 44):=(HF7.out.block _ (zae HBX.out) HNO.out).trans HBX.out;have e0:=zaa hbx7 0;have e1:=zaa hbx7 1;have e2:=zaa hbx7 2;have e3:=zaa hbx7 3;have e4:=zaa hbx7 4;have e5:=zaa hbx7 5;have e6:=zaa hbx7 6;have e7:=zaa hbx7 7;have e8:=zaa hbx7 8;simp only[zC,zD,zE]at e0 e1 e2 e3 e4 e5 e6 e7 e8;haveI:zaj (w.heap.size+1) w7:=⟨zae hbx7⟩;clear hbx7;obtain⟨i0,hi0,hz0,hz1,hz2⟩:=info40;have HN1:∀ u∈([ii (st:Int),ii seq,ii wall,ii count,ii d0,ii d1,ii d2,ii d3,.slice A ws.length c]:List Value),u.oneCell'=true:=by
    intro u hu;simp at hu;rcases hu with rfl|rfl|rfl|rfl|rfl|rfl|rfl|rfl|rfl <;> rfl
   have h63:s.log.length+1≤maxLen:=by refine yac ?_ maxLen_ge;omega
   have hby:(s.log.length+1)*88≤140737488355328:=by omega
   have HROW:Hid (∀ (W:World) (v:Value) (n:Nat),W.ownsRow B 44 9 v n (s.log.flatMap MTx.cells++[ii (st:Int),ii seq,ii wall,ii count,ii d0,ii d1,ii d2,ii d3,.slice A ws.length c])→n=s.log.length+1→W.ownsRow B 44 9 v (s.log++[(⟨⟨(st:Int),seq,wall,count,d0,d1,d2,d3,ws⟩,A,c⟩:MTx)]).length ((s.log++[(⟨⟨(st:Int),seq,wall,count,d0,d1,d2,d3,ws⟩,A,c⟩:MTx)]).flatMap MTx.cells)):=zac (by
    intro W v n h hn;have hrow:s.log.flatMap MTx.cells++[ii (st:Int),ii seq,ii wall,ii count,ii d0,ii d1,ii d2,ii d3,.slice A ws.length c]=(s.log++[(⟨⟨(st:Int),seq,wall,count,d0,d1,d2,d3,ws⟩,A,c⟩:MTx)]).flatMap MTx.cells:=by rw[yaJ];rfl
    have hle:(s.log++[(⟨⟨(st:Int),seq,wall,count,d0,d1,d2,d3,ws⟩,A,c⟩:MTx)]).length=s.log.length+1:=by simp
    rw[hle,←hn,←hrow];exact h)
   go_wp2_with fail;go_region_law (
    refine step_append_lies _ rfl (.tmp 53) (.tmp 55) 35 rfl B 44 i0 txZero 9 88 underlying35 hi0 hz0 hz1 hz2 rfl zI (.slice Al s.log.length cl) s.log.length (s.log.flatMap MTx.cells) zM (zaF HOW.out zB (fun k e=>(zao HOW.out e).2)) ⟨w7,0,none⟩ 1 1 [ii (st:Int),ii seq,ii wall,ii count,ii d0,ii d1,ii d2,ii d3,.slice A ws.length c] zM rfl (World.news_of_block (cs:=#[ii (st:Int),ii seq,ii wall,ii count,ii d0,ii d1,ii d2,ii d3,.slice A ws.length c]) (by(try rw[zaq]);rw[heap_alloc,yaj (by simp[zaq])])) HN1 zI h63 hby zP _ rfl ?_;intro g1 cap1 w8 hown1 hgrow hgl hlt1;have hg:=zau (zaQ hgrow);have hlog:=zbV.logged (m:=(⟨⟨(st:Int),seq,wall,count,d0,d1,d2,d3,ws⟩,A,c⟩:MTx)) HS7.out hg (by rw[show((s6.setc 5 LW).setc 6 LC).log=s6.log from rfl,HLG.out];exact HROW.out _ _ _ hown1 rfl) (by
     rcases hgl with e|e
     ·exact .inl (by rw[e];rfl)
     ·exact .inr (by intro b hb;simp[Value.ownBlock]at hb;subst hb;rw[e];simp[zaq])) HM7.out
    have HP:=zac hlog;have q1:w8.cell? ⟨x,7,none⟩=some (.slice Al s.log.length cl):=by rw[yam (hg.block x hx7 (fun e=>HS7.out.dxl e.symm))];exact k7
    have q2:w8.frozen? ⟨x,7,none⟩=false:=by rw[yal (hg.block x hx7 (fun e=>HS7.out.dxl e.symm))];exact z7
    clear hown1 hgrow hgl hlt1 hg hlog)
   all_goals
    go_wp2_with fail;have happ:zbo s (⟨⟨(st:Int),seq,wall,count,d0,d1,d2,d3,ws⟩,A,c⟩:MTx)={ (s6.setc 5 LW).setc 6 LC with log:=s.log++[(⟨⟨(st:Int),seq,wall,count,d0,d1,d2,d3,ws⟩,A,c⟩:MTx)] }:=by
     unfold zbo;simp only[ybx];rw[HS6E.out,HLW.out,HLC.out]
    obtain⟨hp1,hp2⟩:=HP.out;rw[show((s6.setc 5 LW).setc 6 LC).log=s.log from HLG.out]at hp1;refine ybi (ya3 rfl _ _ _) rfl ⟨rfl,_,sv1,?_,(HFR0.out.trans HF7.out).trans hp2⟩;rw[happ];exact hp1
def SiP.at (s:SiP) (i:Int):Int:=atV s.p0 s.p1 s.p2 s.p3 i
def zbu (s:SiP) (k:Nat):List MTx:=(List.range k).filterMap fun(i:Nat)=>s.wt (i:Int) (s.at (i:Int)+1)
theorem zgh (s:SiP) (k:Nat):zbu s (k+1)=zbu s k++(match s.wt (k:Int) (s.at (k:Int)+1)with|some m=>[m]|none=>[]):=by
 unfold zbu;rw[ycn,List.filterMap_append];cases h:s.wt (k:Int) (s.at (k:Int)+1) <;> simp[h]
def zd9 (w:World) (A:Option Addr) (l:List MTx):Prop:=∀ (i:Nat) (m:MTx),l[i]?=some m→∃ b o,A=some ⟨b,o,none⟩∧b<w.heap.size∧w.cell? ⟨b,o+i*9,none⟩=some (ii m.t.site)∧w.cell? ⟨b,o+i*9+1,none⟩=some (ii m.t.seq)∧
 w.cell? ⟨b,o+i*9+2,none⟩=some (ii m.t.wall)∧w.cell? ⟨b,o+i*9+3,none⟩=some (ii m.t.count)∧w.cell? ⟨b,o+i*9+4,none⟩=some (ii m.t.d0)∧w.cell? ⟨b,o+i*9+5,none⟩=some (ii m.t.d1)∧
 w.cell? ⟨b,o+i*9+6,none⟩=some (ii m.t.d2)∧w.cell? ⟨b,o+i*9+7,none⟩=some (ii m.t.d3)∧w.cell? ⟨b,o+i*9+8,none⟩=some (.slice m.A m.t.ws.length m.c)
theorem zd9.below {w w':World}{A:Option Addr}{l:List MTx}(h:zd9 w A l) (hb:Below w w w'):zd9 w' A l:=fun i m hm=>by
 obtain⟨b,o,hA,hlt,h0,h1,h2,h3,h4,h5,h6,h7,h8⟩:=h i m hm;have e:∀ k,w'.cell? ⟨b,k,none⟩=w.cell? ⟨b,k,none⟩:=fun k=>hb.cell (p:=⟨b,k,none⟩) hlt
 exact⟨b,o,hA,yab hlt hb.size,by rw[e];exact h0,by rw[e];exact h1,by rw[e];exact h2,by rw[e];exact h3,by rw[e];exact h4,by rw[e];exact h5,by rw[e];exact h6,by rw[e];exact h7,by rw[e];exact h8⟩
theorem mcells_at:∀ (l:List MTx) (i:Nat) (m:MTx),l[i]?=some m→∀ r u,m.cells[r]?=some u→(l.flatMap MTx.cells)[i*9+r]?=some u
 | [],i,m,h,_,_,_=>by simp at h
 | y::l,0,m,h,r,u,hu=>by
   simp at h;subst h;have hr:r<9:=by have:=(yao.1 hu).1;simpa[MTx.cells]using this
   rw[yaN,yaX (by simp[MTx.cells];omega)];simpa using hu
 | y::l,i+1,m,h,r,u,hu=>by
   have:=mcells_at l i m (by simpa using h) r u hu;rw[yaN,yaC (by simp[MTx.cells];omega),←this];congr 1;simp[MTx.cells];omega
theorem zgd {w:World}{B c:Nat}{A:Option Addr}{l:List MTx}(h:w.ownsRow B 44 9 (.slice A l.length c) l.length (l.flatMap MTx.cells)):zd9 w A l:=by
 intro i m hm;obtain⟨hl,hn|⟨g,cap,cur,hv,hb,hg,rest⟩⟩:=id h
 ·have:l=[]:=yan hn.2
  subst this;simp at hm
 ·simp only[yaP]at hv
  obtain⟨rfl,_,rfl⟩:=hv;have hc:=h.cells (g:=g) rfl;have e:∀ j:Nat,(⟨g,0,none⟩:Addr).add j=⟨g,0+j,none⟩:=fun j=>by unfold Addr.add;split <;> simp_all
  have k:∀ r u,m.cells[r]?=some u→w.cell? ⟨g,0+(i*9+r),none⟩=some u:=fun r u hu=>by
   have:=hc _ _ (mcells_at l i m hm r u hu);rw[e]at this;exact this
  have q:∀ r,0+(i*9+r)=0+i*9+r:=fun r=>by omega
  exact⟨g,0,rfl,(yaV.1 hg).1,by have:=k 0 _ rfl;rw[q]at this;exact this,by have:=k 1 _ rfl;rw[q]at this;exact this,by have:=k 2 _ rfl;rw[q]at this;exact this,by have:=k 3 _ rfl;rw[q]at this;exact this,by have:=k 4 _ rfl;rw[q]at this;exact this,
   by have:=k 5 _ rfl;rw[q]at this;exact this,by have:=k 6 _ rfl;rw[q]at this;exact this,by have:=k 7 _ rfl;rw[q]at this;exact this,by have:=k 8 _ rfl;rw[q]at this;exact this⟩
def zlE (s:SiP):Prop:=(0≤s.p0∧s.p0≤1099511627776)∧(0≤s.p1∧s.p1≤1099511627776)∧(0≤s.p2∧s.p2≤1099511627776)∧(0≤s.p3∧s.p3≤1099511627776)
theorem zlE.at {s:SiP}(h:zlE s) (i:Int):0≤s.at i∧s.at i≤1099511627776:=by
 unfold zlE at h;unfold SiP.at atV
 repeat' split
 all_goals omega
theorem zbV.apc {w:World}{B x mb:Nat}{s:SiP}{lv:Value}{sv:Nat→Value}(h:zbV w B x s mb lv sv){k:Nat}(hk:k<4):w.cell? ⟨x,1+k,none⟩=some (ii (s.at (k:Int))):=by
 obtain⟨v1,v2,v3,v4⟩:=h.vec;have hc:k=0∨k=1∨k=2∨k=3:=by omega
 rcases hc with rfl|rfl|rfl|rfl
 ·exact v1
 ·exact v2
 ·exact v3
 ·exact v4
theorem zeN (B x mb:Nat) (s:SiP) (lv:Value) (sv:Nat→Value) (w:World) (h:zbV w B x s mb lv sv) (hp:zlE s):
  Calls prog 84 #[.pointer (some ⟨x,0,none⟩)] w fun e w'=>∃ A' c',e=.returned (.slice A' (zbu s 4).length c')∧zd9 w' A' (zbu s 4)∧Below w w w':=by
 have HS:=zac h;have HP:=zac hp;clear h hp;obtain⟨i0,hi0,hz0,hz1,hz2⟩:=info40;go_enter func84,ntmps84;go_wp2_with fail;go_loopw [3,7] (fun o i W=>∃ (k:Nat) (outs:List MTx) (Ao:Option Addr) (co:Nat),k≤4∧i=ii k∧o=.slice Ao outs.length co∧outs=zbu s k∧outs.length≤k∧
  W.ownsRow w.heap.size 44 9 (.slice Ao outs.length co) outs.length (outs.flatMap MTx.cells)∧Below w w W) (fun _ i _=>4-(intOf i).toNat)
 case atStart=>exact⟨0,[],none,0,zO,rfl,rfl,rfl,zS,⟨rfl,.inl ⟨rfl,rfl⟩⟩,yaf _ _⟩
 case round=>
  obtain⟨k,outs,Ao,co,hk,rfl,rfl,hout,hol,hown,hbl⟩:=hrel;obtain⟨W,rfl⟩:∃ W:World,W=wr:=⟨_,rfl⟩;have HOUT:=zac hout;have HOW:=zac hown;have HBW:=zac hbl;clear hown hbl hout;by_cases hlt:k<4
  ·have hkd:decide ((k:Int)<4)=true:=zT
   have HSW:=zac (HS.out.below HBW.out);have c8:=HSW.out.c8;have ca:=HSW.out.apc hlt;have hap:=HP.out.at (k:Int);haveI:zaj (x+1) W:=⟨HSW.out.sto.lt⟩;haveI:zaj (mb+1) W:=⟨HSW.out.map.lt⟩;have HTS:=zac (zgh s k);obtain⟨ap,hape⟩:∃ ap,s.at (k:Int)=ap:=⟨_,rfl⟩;rw[hape]at ca hap HTS;obtain⟨hap0,hap1⟩:=hap;have hk0:(0:Int)≤(k:Int):=by omega
   have hk4:(k:Int)<4:=by omega
   have hwr:IntKind.i64.wrap (ap+1)=ap+1:=by rw[ybm];omega
   have hwk:zcr (k:Int):=by unfold zcr;omega
   have hwa:zcr (ap+1):=by unfold zcr;omega
   have hL:∀ X:World,X.heap[mb]?=W.heap[mb]?→(Instr.lookup 141 (.map (some mb)) (.agg #[(k:Int),ii (ap+1)]) true).run prog X=.ok (.tuple #[((s.wt (k:Int) (ap+1)).map MTx.val).getD txZero,.bool ((s.wt (k:Int) (ap+1)).map MTx.val).isSome]) X:=fun X hX=>(HSW.out.map.block hX).look hwk hwa
   have hl1:=hL W.drew rfl;have hl2:=hL (W.alloc (.cells #[ii 0,ii 0,ii 0,ii 0,ii 0,ii 0,ii 0,ii 0,.slice none 0 0] 44)).drew (ybR W _ mb HSW.out.map.lt);have hl3:=hL (W.drew.alloc (.cells #[ii 0,ii 0,ii 0,ii 0,ii 0,ii 0,ii 0,ii 0,.slice none 0 0] 44)) (ybR W.drew _ mb HSW.out.map.lt);clear hL hape;cases hwt:s.wt (k:Int) (ap+1)with
   | none=>
     rw[hwt]at hl1 hl2 hl3 HTS;simp only[Option.map_none,ybQ,ybF,txZero]at hl1 hl2 hl3;have HT1:Hid (zbu s (k+1)=outs):=zac (by rw[HTS.out,←HOUT.out];simp);clear HTS hwt;go_wp2_with fail;go_region_held3 (fun X:World=>X.cell? ⟨x,8,none⟩=some (.map (some mb))∧X.cell? ⟨x,1+k,none⟩=some (ii ap)) ((repeat' apply And.intro) <;> simp[go_sem, *]) (fail)
     all_goals
      have HCUR:Below W W ((W.alloc (.cells #[ii 0,ii 0,ii 0,ii 0,ii 0,ii 0,ii 0,ii 0,.slice none 0 0] 44)).drew):=zB;go_wp2_with fail;exact⟨⟨k+1,outs,Ao,co,zO,by go_num,rfl,HT1.out.symm,zO,zaF HOW.out HCUR (fun j e=>(zao HOW.out e).2),HBW.out.trans (HCUR.mono HBW.out.size)⟩,by simp[intOf];omega⟩
   | some m=>
     rw[hwt]at hl1 hl2 hl3 HTS;obtain⟨⟨msite,mseq,mwall,mcount,md0,md1,md2,md3,mws⟩,mA,mc⟩:=m;simp only[Option.map_some,yb3,ybT,MTx.val]at hl1 hl2 hl3;have HT1:Hid (zbu s (k+1)=outs++[(⟨⟨msite,mseq,mwall,mcount,md0,md1,md2,md3,mws⟩,mA,mc⟩:MTx)]):=zac (by rw[HTS.out,←HOUT.out]);clear HTS hwt;go_wp2_with fail;go_region_held3 (fun X:World=>X.cell? ⟨x,8,none⟩=some (.map (some mb))∧X.cell? ⟨x,1+k,none⟩=some (ii ap)) ((repeat' apply And.intro) <;> simp[go_sem, *]) (fail)
     all_goals
      have HCUR:Hid (Below W W ((W.alloc (.cells #[msite,mseq,mwall,mcount,md0,md1,md2,md3,.slice mA mws.length mc] 44)).drew)):=zac zB;have HOC:=zac (zaF HOW.out HCUR.out (fun j e=>(zao HOW.out e).2));have HBC:=zac (HBW.out.trans (HCUR.out.mono HBW.out.size));have HXC:=zac (show((W.alloc (.cells #[msite,mseq,mwall,mcount,md0,md1,md2,md3,.slice mA mws.length mc] 44)).drew).heap[W.heap.size]?=some (.cells #[msite,mseq,mwall,mcount,md0,md1,md2,md3,.slice mA mws.length mc] 44)from zag rfl _);clear hl1 hl2 hl3 ca c8;generalize (W.alloc (.cells #[msite,mseq,mwall,mcount,md0,md1,md2,md3,.slice mA mws.length mc] 44)).drew=WC at *;have g0:=zaa HXC.out 0;have g1:=zaa HXC.out 1;have g2:=zaa HXC.out 2;have g3:=zaa HXC.out 3;have g4:=zaa HXC.out 4;have g5:=zaa HXC.out 5;have g6:=zaa HXC.out 6;have g7:=zaa HXC.out 7;have g8:=zaa HXC.out 8;simp only[zC,zD,zE]at g0 g1 g2 g3 g4 g5 g6 g7 g8;have hsC:=HBC.out.size;go_wp2_with (at_builtin;go_must (refine wpList_append_lies _ rfl _ _ 35 rfl w.heap.size 44 i0 txZero 9 88 underlying35 hi0 hz0 hz1 hz2 rfl zI (.slice Ao outs.length co) outs.length (outs.flatMap MTx.cells) rfl (HOC.out.alloc _) ⟨WC,0,none⟩ 1 1 [ii msite,ii mseq,ii mwall,ii mcount,ii md0,ii md1,ii md2,ii md3,.slice mA mws.length mc] rfl rfl (World.news_of_block (cs:=#[ii msite,ii mseq,ii mwall,ii mcount,ii md0,ii md1,ii md2,ii md3,.slice mA mws.length mc]) (zag rfl _)) ?c1 zI ?c2 ?c3 ?c4 _ rfl ?_))
      case c1=>first|exact⟨rfl,rfl,rfl,rfl,rfl,rfl,rfl,rfl,rfl⟩|(intro u hu;simp at hu;rcases hu with rfl|rfl|rfl|rfl|rfl|rfl|rfl|rfl|rfl <;> rfl)
      case c2=>refine yac ?_ maxLen_ge;omega
      case c3=>omega
      case c4=>first|omega|(simp;omega)
      intro gq cap1 w1 hown1 hgrow hgl hlt1;have HN1:Hid (w1.ownsRow w.heap.size 44 9 (.slice (some ⟨gq,0,none⟩) (outs++[(⟨⟨msite,mseq,mwall,mcount,md0,md1,md2,md3,mws⟩,mA,mc⟩:MTx)]).length cap1) (outs++[(⟨⟨msite,mseq,mwall,mcount,md0,md1,md2,md3,mws⟩,mA,mc⟩:MTx)]).length ((outs++[(⟨⟨msite,mseq,mwall,mcount,md0,md1,md2,md3,mws⟩,mA,mc⟩:MTx)]).flatMap MTx.cells)):=zac (by
       have e:(outs++[(⟨⟨msite,mseq,mwall,mcount,md0,md1,md2,md3,mws⟩,mA,mc⟩:MTx)]).length=outs.length+1:=by simp
       rw[e,yaJ];exact hown1)
      have HB1:Hid (Below w w w1):=zac (yaE HBC.out (zau hgrow) HBC.out.size (fun j e=>(zao HOW.out e).1));clear hown1 hgrow hgl hlt1;go_wp2_with fail;go_roundw
      case rel=>exact⟨k+1,outs++[(⟨⟨msite,mseq,mwall,mcount,md0,md1,md2,md3,mws⟩,mA,mc⟩:MTx)],some ⟨gq,0,none⟩,cap1,zO,by go_num,zS,HT1.out.symm,by simp;omega,HN1.out,HB1.out⟩
      case measure=>simp[intOf];omega
  ·obtain rfl:k=4:=by omega
   have hkd:decide ((4:Int)<4)=false:=by decide
   have HR:Hid (zd9 W Ao (zbu s 4)):=zac (by rw[←HOUT.out];exact zgd HOW.out);go_wp2_with fail;go_ret;exact⟨Ao,co,by rw[←HOUT.out];rfl,HR.out,HBW.out⟩
end Go.Proofs.YtbopfhbeegkkaabGreatDoor
