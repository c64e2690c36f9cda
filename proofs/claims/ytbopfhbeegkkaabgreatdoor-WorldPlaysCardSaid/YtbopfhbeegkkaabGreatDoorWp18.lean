/- Part 18 of a proof: lemmas and contracts that other parts use. -/
import Derived.Test.YtbopfhbeegkkaabGreatDoorWp10
import Derived.Test.YtbopfhbeegkkaabGreatDoorWp13
import Derived.Deep.DeepCutAuto
import Derived.Test.YtbopfhbeegkkaabGreatDoorWp14
import Derived.Test.YtbopfhbeegkkaabGreatDoorWp2
import Derived.Test.YtbopfhbeegkkaabGreatDoorWp16
import Derived.Test.YtbopfhbeegkkaabGreatDoorWp17
import Derived.Test.YtbopfhbeegkkaabGreatDoorWp15
set_option linter.unusedVariables false
set_option linter.unusedSimpArgs false
set_option maxHeartbeats 16000000
set_option maxRecDepth 20000
namespace Go.Proofs.YtbopfhbeegkkaabGreatDoor
open Go.RowKit Go.Proofs.Tryz
def zdE (a0 a1 a2 a3:Int) (m:MTx):Bool:=decide (atV a0 a1 a2 a3 m.t.site<m.t.seq)
def zdf (s:RsP) (key a0 a1 a2 a3:Int):zaE×Int:=if zdp s.p0 s.p1 s.p2 s.p3 a0 a1 a2 a3=true then zeb a0 a1 a2 a3 s.L key else (verZ,10)
theorem zhM (B y wc:Nat) (s:RsP) (lv av:Value) (wA:Option Addr) (key a0 a1 a2 a3:Int) (w:World) (h:zcp w B y s lv wA wc av) (hok:∀ p∈s.L,0≤p.v.site∧p.v.site<4) (hlen:s.L.length≤900000):
  Calls prog 24 #[.pointer (some ⟨y,0,none⟩),key,.agg #[ii a0,ii a1,ii a2,ii a3]] w fun e w'=>
   e=.returned (.tuple #[zbX (zdf s key a0 a1 a2 a3).1,ii (zdf s key a0 a1 a2 a3).2])∧Below w w w':=by
 obtain⟨c1,c2,c3,c4⟩:=h.vec;have HRD:=zac fun W (hB:Below w w W)=>ziF y 9 B s.L av key a0 a1 a2 a3 W (h.sto.below hB) hok hlen
 have HE:=zac (show zdf s key a0 a1 a2 a3=if zdp s.p0 s.p1 s.p2 s.p3 a0 a1 a2 a3=true then zeb a0 a1 a2 a3 s.L key else (verZ,10)from rfl);generalize zdf s key a0 a1 a2 a3=F at *;haveI:zaj (y+1) w:=⟨h.sto.lt⟩;clear h hok hlen;cases hcv:zdp s.p0 s.p1 s.p2 s.p3 a0 a1 a2 a3
 ·have HCV:=zac fun W=>zcn hcv W
  have HE2:Hid (F=(verZ,10)):=zac (by rw[HE.out,hcv];rfl);clear hcv HE;go_enter func24,ntmps24;go_wp2_with fail;refine zaz fun x3=>?_
  go_wp2_with fail;refine yag (v:=.tuple #[zbX verZ,ii 10]) ?_ rfl ⟨by rw[HE2.out],zB⟩;simp[results,results24,go_sem,zbX,verZ]
 ·have HCV:=zac fun W=>zcn hcv W
  have HE2:Hid (F=zeb a0 a1 a2 a3 s.L key):=zac (by rw[HE.out,hcv];rfl);clear hcv HE;obtain⟨⟨⟨vw,vc,vs,vq,vd,vg⟩,z⟩,hR⟩:∃ R,zeb a0 a1 a2 a3 s.L key=R:=⟨_,rfl⟩;rw[hR]at HRD HE2;unfold zbX at HRD;clear hR;go_enter func24,ntmps24;go_wp2_with fail;refine zaz fun x3=>?_
  go_wp2_with fail;refine zas 8 zK zK ?_;simp only[yat,yaQ,yau,yaA]
  repeat(first|go_big_quiet_skip|(go_big_quiet_want;go_big_quiet_op;first|go_big_quiet_on|(apply Exists.intro;refine⟨fun _=>?_,?_⟩;(go_at_call 91;exact Calls.plus_of (HRD.out _ zB));go_big_quiet_on)))
  refine yaM ?_;rintro _ ⟨x4,rfl⟩;go_wp2_with fail;refine yag (v:=.tuple #[zbX ⟨vw,vc,vs,vq,vd,vg⟩,z]) ?_ rfl ⟨by rw[HE2.out],zB⟩;simp[results,results24,go_sem,zbX]
theorem zir (B x mb:Nat) (s:SiP) (lv:Value) (sv:Nat→Value) (w:World) (h:zbV w B x s mb lv sv) (hf:Fit s.st 900000):
  Calls prog 30 #[.pointer (some ⟨x,0,none⟩)] w fun e w'=>e=.returned (ii (zmQ s.st 8))∧Below w w w':=by
 have HM:=zac (many_any x 9 B s.st sv w h.sto (fun k hk=>(hf k hk).2));clear h hf;go_enter func30,ntmps30;go_wp2_with fail;go_at_call 93;refine HM.out.mono ?_;rintro e w' ⟨rfl,hb⟩;have HB:=zac hb;clear hb;go_wp2_with fail;go_ret;exact⟨rfl,HB.out⟩
theorem zhB (B x mb:Nat) (s:SiP) (lv:Value) (sv:Nat→Value) (a0 a1 a2 a3:Int) (w:World) (h:zbV w B x s mb lv sv) (hf:Fit s.st 900000):
  Calls prog 21 #[.pointer (some ⟨x,0,none⟩),.agg #[ii a0,ii a1,ii a2,ii a3]] w fun e w'=>e=.returned (.tuple #[])∧∃ sv',zbV w' B x { s with st:=fun k=>zbC (min a0 s.p0) (min a1 s.p1) (min a2 s.p2) (min a3 s.p3) (s.st k) } mb lv sv'∧zaO w w' (zaW x mb lv sv) (zaW x mb lv sv'):=by
 obtain⟨c1,c2,c3,c4⟩:=h.vec;have HS:=zac h;have HMN:=zac fun W=>zhz a0 a1 a2 a3 s.p0 s.p1 s.p2 s.p3 W
 have HSW:=zac fun W (hB:Below w w W)=>zl7 x 9 B s.st sv (min a0 s.p0) (min a1 s.p1) (min a2 s.p2) (min a3 s.p3) W (h.sto.below hB) (fun k hk=>(hf k hk).1) (fun k hk=>(hf k hk).2) (yac (yac h.bx (ybw h.sto.lt)) hB.size)
 haveI:zaj (x+1) w:=⟨h.sto.lt⟩;clear h hf;generalize min a0 s.p0=m0 at *;generalize min a1 s.p1=m1 at *;generalize min a2 s.p2=m2 at *;generalize min a3 s.p3=m3 at *;go_enter func21,ntmps21;go_wp2_with fail;refine zb9 9 fun x3=>?_
 go_wp2_with fail;have HB:=zac (show Below w w (zai (w.alloc (.cells #[a0,a1,a2,a3] 32)) x3)from zB);go_at_call 88;refine(HSW.out _ HB.out).mono ?_;rintro e w' ⟨rfl,sv',hst,hfr⟩;have HN:=zac ((HS.out.below HB.out).store hst hfr);clear hst hfr HSW;go_wp2_with fail;refine ybi (ya3 rfl _ _ _) rfl ⟨rfl,sv',HN.out.1,(zaO.of_below _ HB.out).trans HN.out.2⟩
theorem zbV.seto {w:World}{B x mb i:Nat}{s:SiP}{lv:Value}{sv:Nat→Value}(h:zbV w B x s mb lv sv) (hi:i<16) (z:Int):zbV (w.setCell ⟨x,17+i,none⟩ (ii z)) B x { s with ot:=fun j=>if i=j then z else s.ot j } mb lv sv:=by
 have hgs:=zan w x (17+i) (ii z);have hx:∀ b,b<w.heap.size→b≠x→(w.setCell ⟨x,17+i,none⟩ (ii z)).heap[b]?=w.heap[b]?:=fun b hb hne=>hgs.block b hb (by simp;exact hne)
 have hf:∀ k,(w.setCell ⟨x,17+i,none⟩ (ii z)).frozen? ⟨x,k,none⟩=w.frozen? ⟨x,k,none⟩:=fun k=>yba ..
 have hs:(w.setCell ⟨x,17+i,none⟩ (ii z)).heap.size=w.heap.size:=by simp[World.setCell]
 have t:∀ {j:Nat}{u:Value},j<17→w.cell? ⟨x,j,none⟩=some u→(w.setCell ⟨x,17+i,none⟩ (ii z)).cell? ⟨x,j,none⟩=some u:=fun {j u} hj hu=>by
  have:=zb1 (i:=17+i) (v:=ii z) hu;rw[yad zO]at this;exact this
 refine⟨t zO h.c0,t zO h.c1,t zO h.c2,t zO h.c3,t zO h.c4,t zO h.c5,t zO h.c6,t zO h.c7,t zO h.c8,?_,fun k=>(hf k).trans (h.frz k),?_,?_,?_,h.bx,h.bm,h.dxm,h.dxl,h.dml,h.dms,h.dls,?_⟩
 ·intro k hk
  have:=zb1 (i:=17+i) (v:=ii z) (h.oth k hk);rw[this];by_cases e:i=k
  ·subst e;simp
  ·rw[yad zO]
   show _=some (Value.int .i64 (if i=k then z else s.ot k));rw[yad e]
 ·exact⟨by rw[hs];exact h.sto.lt,fun k hk=>t zO (h.sto.cel k hk),fun k hk=>(hf _).trans (h.sto.frz k hk),fun k hk=>(h.sto.own k hk).kept hgs (.inr (h.sto.ng k hk)),h.sto.ng,h.sto.dis⟩
 ·exact h.row.kept hgs (.inr h.dxl)
 ·exact h.map.block (hx mb h.map.lt h.dxm)
 ·intro m hm
  obtain⟨h1,h2⟩:=h.dat m hm;exact⟨h1.keep fun b o e=>hx b (h2 b o e).1 (fun e2=>(h2 b o e).2 (.inl e2)),fun b o e=>⟨by rw[hs];exact(h2 b o e).1,(h2 b o e).2⟩⟩
def ziU (ot:Nat→Int) (k:Nat) (a0 a1 a2 a3:Int):Nat→Int:=fun j=>
 if k*4+3=j then max (ot (k*4+3)) a3 else if k*4+2=j then max (ot (k*4+2)) a2 else if k*4+1=j then max (ot (k*4+1)) a1 else if k*4=j then max (ot (k*4)) a0 else ot j
theorem zmS (B x mb:Nat) (s:SiP) (lv:Value) (sv:Nat→Value) (k:Nat) (a0 a1 a2 a3:Int) (w:World) (h:zbV w B x s mb lv sv) (hk:k<4):
  Calls prog 20 #[.pointer (some ⟨x,0,none⟩),ii (k:Nat),.agg #[ii a0,ii a1,ii a2,ii a3]] w fun e w'=>e=.returned .nilIface∧zbV w' B x { s with ot:=ziU s.ot k a0 a1 a2 a3 } mb lv sv∧zaO w w' (zaW x mb lv sv) (zaW x mb lv sv):=by
 have d0:decide ((k:Int)<0)=false:=zU;have d1:decide (4≤(k:Int))=false:=zU;have hk0:(0:Int)≤(k:Int):=by omega
 have hk4:(k:Int)<4:=by omega
 have o0:=h.oth (k*4) zO;have o1:=h.oth (k*4+1) zO;have o2:=h.oth (k*4+2) zO;have o3:=h.oth (k*4+3) zO;rw[show 17+(k*4+1)=17+k*4+1 by omega]at o1;rw[show 17+(k*4+2)=17+k*4+2 by omega]at o2;rw[show 17+(k*4+3)=17+k*4+3 by omega]at o3;have f0:=h.frz (17+k*4);have f1:=h.frz (17+k*4+1);have f2:=h.frz (17+k*4+2);have f3:=h.frz (17+k*4+3);have HS:=zac h;have HMX:=zac fun W=>zeC (s.ot (k*4)) (s.ot (k*4+1)) (s.ot (k*4+2)) (s.ot (k*4+3)) a0 a1 a2 a3 W
 haveI:zaj (x+1) w:=⟨h.sto.lt⟩;clear h;go_enter func20,ntmps20;go_wp2_with fail;refine zas 13 zK zK ?_;simp only[yat,yaQ,yau,yaA]
 repeat(first|go_big_quiet_skip|(go_big_quiet_want;go_big_quiet_op;first|go_big_quiet_on|(apply Exists.intro;refine⟨fun _=>?_,?_⟩;(go_at_call 87;exact Calls.plus_of (HMX.out _));go_big_quiet_on)))
 refine yaM ?_;rintro _ ⟨x3,rfl⟩;go_wp2_with fail;go_ret;have h4:=(((HS.out.seto (i:=k*4) zO (max (s.ot (k*4)) a0)).seto (i:=k*4+1) zO (max (s.ot (k*4+1)) a1)).seto (i:=k*4+2) zO (max (s.ot (k*4+2)) a2)).seto (i:=k*4+3) zO (max (s.ot (k*4+3)) a3);refine⟨rfl,h4.below zB,?_⟩;have hc:∀ (W:World) (i:Nat) (v:Value),zaO W (W.setCell ⟨x,i,none⟩ v) (zaW x mb lv sv) (zaW x mb lv sv):=fun W i v=>zaO.setc (i:=i) v
 exact((((hc w (17+k*4) (ii (max (s.ot (k*4)) a0))).trans (hc _ (17+k*4+1) (ii (max (s.ot (k*4+1)) a1)))).trans (hc _ (17+k*4+2) (ii (max (s.ot (k*4+2)) a2)))).trans (hc _ (17+k*4+3) (ii (max (s.ot (k*4+3)) a3)))).trans (zaO.of_below _ zB)
def za1 (id:Int) (ot:Nat→Int) (p:Int) (c:Nat):Nat→Int
 | 0=>p
 | k+1=>if(k:Int)=id then za1 id ot p c k else min (za1 id ot p c k) (ot (k*4+c))
def zdH (n:Int):Nat:=(min (max n 0) 4).toNat
theorem zkb (n:Int):zdH n≤4:=by unfold zdH;omega
theorem zdM {w:World}{g t:Nat}{a0 a1 a2 a3:Value}(b0 b1 b2 b3:Value) (h:w.heap[g]?=some (.cells #[a0,a1,a2,a3] t)):
  ((((w.setCell ⟨g,0,none⟩ b0).setCell ⟨g,1,none⟩ b1).setCell ⟨g,2,none⟩ b2).setCell ⟨g,3,none⟩ b3).heap[g]?=some (.cells #[b0,b1,b2,b3] t)∧
  Below g w ((((w.setCell ⟨g,0,none⟩ b0).setCell ⟨g,1,none⟩ b1).setCell ⟨g,2,none⟩ b2).setCell ⟨g,3,none⟩ b3):=
 ⟨zam (zam (zam (zam h 0 b0) 1 b1) 2 b2) 3 b3,
  ((((yaf g w).setCell (p:=⟨g,0,none⟩) (yai _) b0).setCell (p:=⟨g,1,none⟩) (yai _) b1).setCell (p:=⟨g,2,none⟩) (yai _) b2).setCell (p:=⟨g,3,none⟩) (yai _) b3⟩
theorem zkL (B x mb:Nat) (s:SiP) (lv:Value) (sv:Nat→Value) (n:Int) (w:World) (h:zbV w B x s mb lv sv):
  Calls prog 28 #[.pointer (some ⟨x,0,none⟩),n] w fun e w'=>
   e=.returned (.agg #[ii (za1 s.id s.ot s.p0 0 (zdH n)),ii (za1 s.id s.ot s.p1 1 (zdH n)),ii (za1 s.id s.ot s.p2 2 (zdH n)),ii (za1 s.id s.ot s.p3 3 (zdH n))])∧Below w w w':=by
 have HS:=zac h;obtain⟨c1,c2,c3,c4⟩:=h.vec;haveI:zaj (x+1) w:=⟨h.sto.lt⟩;have hm4:=zkb n;have HM:Hid ((zdH n:Int)=min (max n 0) 4):=zac (by unfold zdH;omega);clear h;generalize zdH n=m at *;go_enter func28,ntmps28;go_upto_region 2 with fail;go_cut [13,14] (fun s13 s14 W'=>s13=ii (m:Nat)∧s14=ii 0∧(w.alloc (.cells #[ii 0,ii 0,ii 0,ii 0] 32)).alloc (.cells #[s.p0,s.p1,s.p2,s.p3] 32)=W')
 case first=>
  have hm:=HM.out;clear HM;by_cases h0:n<0
  ·obtain rfl:m=0:=by omega
   clear hm;go_wp2_with fail
   all_goals(go_meet;first|exact⟨rfl,rfl,rfl⟩|(refine⟨?_,rfl,rfl⟩;congr 1;omega))
  ·by_cases h4:4<n
   ·obtain rfl:m=4:=by omega
    clear hm;go_wp2_with fail
    all_goals(go_meet;first|exact⟨rfl,rfl,rfl⟩|(refine⟨?_,rfl,rfl⟩;congr 1;omega))
   ·obtain rfl:n=(m:Int):=by omega
    clear hm;go_wp2_with fail
    all_goals(go_meet;first|exact⟨rfl,rfl,rfl⟩|(refine⟨?_,rfl,rfl⟩;congr 1;omega))
 case rest=>
  obtain⟨rfl,rfl,rfl⟩:=hcut;have HB0:=zac (show Below w w ((w.alloc (.cells #[ii 0,ii 0,ii 0,ii 0] 32)).alloc (.cells #[s.p0,s.p1,s.p2,s.p3] 32))from zB);have HR0:=zac (show((w.alloc (.cells #[ii 0,ii 0,ii 0,ii 0] 32)).alloc (.cells #[s.p0,s.p1,s.p2,s.p3] 32)).heap[w.heap.size]?=some (.cells #[ii 0,ii 0,ii 0,ii 0] 32)from zaC (zag rfl _) _);have HV0:=zac (show((w.alloc (.cells #[ii 0,ii 0,ii 0,ii 0] 32)).alloc (.cells #[s.p0,s.p1,s.p2,s.p3] 32)).heap[w.heap.size+1]?=some (.cells #[s.p0,s.p1,s.p2,s.p3] 32)from zag zS _);clear HM c1 c2 c3 c4;generalize (w.alloc (.cells #[ii 0,ii 0,ii 0,ii 0] 32)).alloc (.cells #[s.p0,s.p1,s.p2,s.p3] 32)=wo at *;go_wp2_with fail;go_loopw [14] (fun i W=>∃ k:Nat,i=ii k∧k≤m∧Below w w W∧Hid (W.heap[w.heap.size]?=some (.cells #[ii 0,ii 0,ii 0,ii 0] 32))∧
   Hid (W.heap[w.heap.size+1]?=some (.cells #[ii (za1 s.id s.ot s.p0 0 k),ii (za1 s.id s.ot s.p1 1 k),ii (za1 s.id s.ot s.p2 2 k),ii (za1 s.id s.ot s.p3 3 k)] 32))) (fun i _=>m-(intOf i).toNat)
  case atStart=>exact⟨0,rfl,yay _,HB0.out,HR0,HV0⟩
  case round=>
   obtain⟨k,rfl,hk,hb,HR,HV⟩:=hrel;obtain⟨W,rfl⟩:∃ W:World,W=wr:=⟨_,rfl⟩;have HB:=zac hb;clear hb HB0 HR0 HV0;have HSW:=zac (HS.out.below HB.out);haveI:zaj (w.heap.size+1+1) W:=⟨zae HV.out⟩;haveI:zaj (x+1) W:=⟨HSW.out.sto.lt⟩;by_cases hkm:k<m
   ·have hkd:decide ((k:Int)<(m:Int))=true:=zT
    have c0:=HSW.out.c0;have HST:Hid (∀ (p:Int) (c:Nat),za1 s.id s.ot p c (k+1)=if(k:Int)=s.id then za1 s.id s.ot p c k else min (za1 s.id s.ot p c k) (s.ot (k*4+c))):=zac (fun p c=>rfl);by_cases hid:(k:Int)=s.id
    ·have hd:((k:Int) != s.id)=false:=by simp[hid]
     have HID:=zac hid;clear hid;go_wp2_with fail;go_roundw
     case rel=>exact⟨k+1,by go_num,zO,HB.out,HR,zac (by rw[HST.out,HST.out,HST.out,HST.out,yaj HID.out,yaj HID.out,yaj HID.out,yaj HID.out];exact HV.out)⟩
     case measure=>simp[intOf];omega
    ·have hd:((k:Int) != s.id)=true:=by simpa using hid
     have HID:=zac hid;clear hid;have hk0:(0:Int)≤(k:Int):=by omega
     have hk4:(k:Int)<4:=by omega
     have o0:=HSW.out.oth (k*4) zO;have o1:=HSW.out.oth (k*4+1) zO;have o2:=HSW.out.oth (k*4+2) zO;have o3:=HSW.out.oth (k*4+3) zO;rw[show 17+(k*4+1)=17+k*4+1 by omega]at o1;rw[show 17+(k*4+2)=17+k*4+2 by omega]at o2;rw[show 17+(k*4+3)=17+k*4+3 by omega]at o3;have HMN:=zac fun X=>zhz (za1 s.id s.ot s.p0 0 k) (za1 s.id s.ot s.p1 1 k) (za1 s.id s.ot s.p2 2 k) (za1 s.id s.ot s.p3 3 k) (s.ot (k*4)) (s.ot (k*4+1)) (s.ot (k*4+2)) (s.ot (k*4+3)) X
     have e0:=zaa HV.out 0;have e1:=zaa HV.out 1;have e2:=zaa HV.out 2;have e3:=zaa HV.out 3;simp only[zC,zD,zE]at e0 e1 e2 e3;have z0:=zab HV.out 0;have z1:=zab HV.out 1;have z2:=zab HV.out 2;have z3:=zab HV.out 3;have HS0:=zac (show za1 s.id s.ot s.p0 0 (k+1)=min (za1 s.id s.ot s.p0 0 k) (s.ot (k*4))  from by rw[HST.out,yad HID.out];try rfl);have HS1:=zac (show za1 s.id s.ot s.p1 1 (k+1)=min (za1 s.id s.ot s.p1 1 k) (s.ot (k*4+1))  from by rw[HST.out,yad HID.out];try rfl);have HS2:=zac (show za1 s.id s.ot s.p2 2 (k+1)=min (za1 s.id s.ot s.p2 2 k) (s.ot (k*4+2))  from by rw[HST.out,yad HID.out];try rfl);have HS3:=zac (show za1 s.id s.ot s.p3 3 (k+1)=min (za1 s.id s.ot s.p3 3 k) (s.ot (k*4+3))  from by rw[HST.out,yad HID.out];try rfl);generalize za1 s.id s.ot s.p0 0 k=q0 at *;generalize za1 s.id s.ot s.p1 1 k=q1 at *;generalize za1 s.id s.ot s.p2 2 k=q2 at *;generalize za1 s.id s.ot s.p3 3 k=q3 at *;go_wp2_with fail;refine zb9 8 fun x3=>?_
     go_wp2_with fail;obtain⟨p1,p2⟩:=zdM (ii (min q0 (s.ot (k*4)))) (ii (min q1 (s.ot (k*4+1)))) (ii (min q2 (s.ot (k*4+2)))) (ii (min q3 (s.ot (k*4+3)))) HV.out;go_roundw
     case rel=>exact⟨k+1,by go_num,zO,(HB.out.trans (p2.mono zO)).trans ((zax _ x3).mono (yac (by have:=zae HV.out;omega) p2.size)),zac (by rw[←HR.out];exact(zax _ x3).block _ (yab (zae HR.out) p2.size) |>.trans (p2.block _ zO)),zac (by rw[HS0.out,HS1.out,HS2.out,HS3.out];exact((zax _ x3).block _ (zae p1)).trans p1)⟩
     case measure=>simp[intOf];omega
   ·obtain rfl:k=m:=by omega
    have hkd:decide ((k:Int)<(k:Int))=false:=zU;generalize hq0:za1 s.id s.ot s.p0 0 k=q0 at *;replace hq0:=zac hq0;generalize hq1:za1 s.id s.ot s.p1 1 k=q1 at *;replace hq1:=zac hq1;generalize hq2:za1 s.id s.ot s.p2 2 k=q2 at *;replace hq2:=zac hq2;generalize hq3:za1 s.id s.ot s.p3 3 k=q3 at *;replace hq3:=zac hq3;have e0:=zaa HV.out 0;have e1:=zaa HV.out 1;have e2:=zaa HV.out 2;have e3:=zaa HV.out 3;simp only[zC,zD,zE]at e0 e1 e2 e3;have z0:=zab HR.out 0;have z1:=zab HR.out 1;have z2:=zab HR.out 2;have z3:=zab HR.out 3;have r0:=zaa HR.out 0;have r1:=zaa HR.out 1;have r2:=zaa HR.out 2;have r3:=zaa HR.out 3;simp only[zC,zD,zE]at r0 r1 r2 r3;go_wp2_with fail;obtain⟨p1,p2⟩:=zdM (ii q0) (ii q1) (ii q2) (ii q3) HR.out;generalize hW1:World.setCell _ _ (Value.int .i64 q3)=W1;rw[hW1]at p1 p2;have y0:=zaa p1 0;have y1:=zaa p1 1;have y2:=zaa p1 2;have y3:=zaa p1 3;simp only[zC,zD,zE]at y0 y1 y2 y3;refine yag (v:=.agg #[q0,q1,q2,q3]) ?_ rfl ⟨by rw[hq0.out,hq1.out,hq2.out,hq3.out],HB.out.trans p2⟩;simp[results,results28,go_sem,y0,y1,y2,y3]
theorem zju (B x wc:Nat) (s:RsP) (lv:Value) (wA:Option Addr) (av:Value) (n:Int) (w:World) (h:zcp w B x s lv wA wc av):
  Calls prog 29 #[.pointer (some ⟨x,0,none⟩),n] w fun e w'=>
   e=.returned (.agg #[ii (za1 s.id s.ot s.p0 0 (zdH n)),ii (za1 s.id s.ot s.p1 1 (zdH n)),ii (za1 s.id s.ot s.p2 2 (zdH n)),ii (za1 s.id s.ot s.p3 3 (zdH n))])∧Below w w w':=by
 have HS:=zac h;obtain⟨c1,c2,c3,c4⟩:=h.vec;haveI:zaj (x+1) w:=⟨h.sto.lt⟩;have hm4:=zkb n;have HM:Hid ((zdH n:Int)=min (max n 0) 4):=zac (by unfold zdH;omega);clear h;generalize zdH n=m at *;go_enter func29,ntmps29;go_wp2_with fail;have HB0:=zac (show Below w w ((w.alloc (.cells #[ii 0,ii 0,ii 0,ii 0] 32)).alloc (.cells #[s.p0,s.p1,s.p2,s.p3] 32))from zB);have HR0:=zac (show((w.alloc (.cells #[ii 0,ii 0,ii 0,ii 0] 32)).alloc (.cells #[s.p0,s.p1,s.p2,s.p3] 32)).heap[w.heap.size]?=some (.cells #[ii 0,ii 0,ii 0,ii 0] 32)from zaC (zag rfl _) _);have HV0:=zac (show((w.alloc (.cells #[ii 0,ii 0,ii 0,ii 0] 32)).alloc (.cells #[s.p0,s.p1,s.p2,s.p3] 32)).heap[w.heap.size+1]?=some (.cells #[s.p0,s.p1,s.p2,s.p3] 32)from zag zS _);clear c1 c2 c3 c4;generalize (w.alloc (.cells #[ii 0,ii 0,ii 0,ii 0] 32)).alloc (.cells #[s.p0,s.p1,s.p2,s.p3] 32)=wo at *;go_loopw [6] (fun i W=>∃ k:Nat,i=ii k∧k≤m∧Below w w W∧Hid (W.heap[w.heap.size]?=some (.cells #[ii 0,ii 0,ii 0,ii 0] 32))∧
  Hid (W.heap[w.heap.size+1]?=some (.cells #[ii (za1 s.id s.ot s.p0 0 k),ii (za1 s.id s.ot s.p1 1 k),ii (za1 s.id s.ot s.p2 2 k),ii (za1 s.id s.ot s.p3 3 k)] 32))) (fun i _=>m-(intOf i).toNat)
 case atStart=>exact⟨0,rfl,yay _,HB0.out,HR0,HV0⟩
 case round=>
  obtain⟨k,rfl,hk,hb,HR,HV⟩:=hrel;obtain⟨W,rfl⟩:∃ W:World,W=wr:=⟨_,rfl⟩;have HB:=zac hb;clear hb HB0 HR0 HV0;have HSW:=zac (HS.out.below HB.out);haveI:zaj (w.heap.size+1+1) W:=⟨zae HV.out⟩;haveI:zaj (x+1) W:=⟨HSW.out.sto.lt⟩;by_cases hkm:k<m
  ·have hkd:decide ((k:Int)<n)=true:=yae (by have:=HM.out;omega)
   have hkd4:decide ((k:Int)<4)=true:=zT;have c0:=HSW.out.c0;have HST:Hid (∀ (p:Int) (c:Nat),za1 s.id s.ot p c (k+1)=if(k:Int)=s.id then za1 s.id s.ot p c k else min (za1 s.id s.ot p c k) (s.ot (k*4+c))):=zac (fun p c=>rfl);by_cases hid:(k:Int)=s.id
   ·have hd:((k:Int) != s.id)=false:=by simp[hid]
    have HID:=zac hid;clear hid;go_wp2_with fail;go_roundw
    case rel=>exact⟨k+1,by go_num,zO,HB.out,HR,zac (by rw[HST.out,HST.out,HST.out,HST.out,yaj HID.out,yaj HID.out,yaj HID.out,yaj HID.out];exact HV.out)⟩
    case measure=>simp[intOf];omega
   ·have hd:((k:Int) != s.id)=true:=by simpa using hid
    have HID:=zac hid;clear hid;have hk0:(0:Int)≤(k:Int):=by omega
    have hk4:(k:Int)<4:=by omega
    have o0:=HSW.out.oth (k*4) zO;have o1:=HSW.out.oth (k*4+1) zO;have o2:=HSW.out.oth (k*4+2) zO;have o3:=HSW.out.oth (k*4+3) zO;rw[show 10+(k*4+1)=10+k*4+1 by omega]at o1;rw[show 10+(k*4+2)=10+k*4+2 by omega]at o2;rw[show 10+(k*4+3)=10+k*4+3 by omega]at o3;have HMN:=zac fun X=>zhQ (za1 s.id s.ot s.p0 0 k) (za1 s.id s.ot s.p1 1 k) (za1 s.id s.ot s.p2 2 k) (za1 s.id s.ot s.p3 3 k) (s.ot (k*4)) (s.ot (k*4+1)) (s.ot (k*4+2)) (s.ot (k*4+3)) X
    have e0:=zaa HV.out 0;have e1:=zaa HV.out 1;have e2:=zaa HV.out 2;have e3:=zaa HV.out 3;simp only[zC,zD,zE]at e0 e1 e2 e3;have z0:=zab HV.out 0;have z1:=zab HV.out 1;have z2:=zab HV.out 2;have z3:=zab HV.out 3;have HS0:=zac (show za1 s.id s.ot s.p0 0 (k+1)=min (za1 s.id s.ot s.p0 0 k) (s.ot (k*4))  from by rw[HST.out,yad HID.out];try rfl);have HS1:=zac (show za1 s.id s.ot s.p1 1 (k+1)=min (za1 s.id s.ot s.p1 1 k) (s.ot (k*4+1))  from by rw[HST.out,yad HID.out];try rfl);have HS2:=zac (show za1 s.id s.ot s.p2 2 (k+1)=min (za1 s.id s.ot s.p2 2 k) (s.ot (k*4+2))  from by rw[HST.out,yad HID.out];try rfl);have HS3:=zac (show za1 s.id s.ot s.p3 3 (k+1)=min (za1 s.id s.ot s.p3 3 k) (s.ot (k*4+3))  from by rw[HST.out,yad HID.out];try rfl);generalize za1 s.id s.ot s.p0 0 k=q0 at *;generalize za1 s.id s.ot s.p1 1 k=q1 at *;generalize za1 s.id s.ot s.p2 2 k=q2 at *;generalize za1 s.id s.ot s.p3 3 k=q3 at *;go_wp2_with fail;refine zb9 8 fun x3=>?_
    go_wp2_with fail;obtain⟨p1,p2⟩:=zdM (ii (min q0 (s.ot (k*4)))) (ii (min q1 (s.ot (k*4+1)))) (ii (min q2 (s.ot (k*4+2)))) (ii (min q3 (s.ot (k*4+3)))) HV.out;go_roundw
    case rel=>exact⟨k+1,by go_num,zO,(HB.out.trans (p2.mono zO)).trans ((zax _ x3).mono (yac (by have:=zae HV.out;omega) p2.size)),zac (by rw[←HR.out];exact(zax _ x3).block _ (yab (zae HR.out) p2.size) |>.trans (p2.block _ zO)),zac (by rw[HS0.out,HS1.out,HS2.out,HS3.out];exact((zax _ x3).block _ (zae p1)).trans p1)⟩
    case measure=>simp[intOf];omega
  ·obtain rfl:k=m:=by omega
   generalize hq0:za1 s.id s.ot s.p0 0 k=q0 at *;replace hq0:=zac hq0;generalize hq1:za1 s.id s.ot s.p1 1 k=q1 at *;replace hq1:=zac hq1;generalize hq2:za1 s.id s.ot s.p2 2 k=q2 at *;replace hq2:=zac hq2;generalize hq3:za1 s.id s.ot s.p3 3 k=q3 at *;replace hq3:=zac hq3;have e0:=zaa HV.out 0;have e1:=zaa HV.out 1;have e2:=zaa HV.out 2;have e3:=zaa HV.out 3;simp only[zC,zD,zE]at e0 e1 e2 e3;have z0:=zab HR.out 0;have z1:=zab HR.out 1;have z2:=zab HR.out 2;have z3:=zab HR.out 3;have r0:=zaa HR.out 0;have r1:=zaa HR.out 1;have r2:=zaa HR.out 2;have r3:=zaa HR.out 3;simp only[zC,zD,zE]at r0 r1 r2 r3;by_cases h4:n≤4
   ·have hkd:decide ((k:Int)<n)=false:=yah (by have:=HM.out;omega)
    clear h4;go_wp2_with fail;obtain⟨p1,p2⟩:=zdM (ii q0) (ii q1) (ii q2) (ii q3) HR.out;generalize hW1:World.setCell _ _ (Value.int .i64 q3)=W1;rw[hW1]at p1 p2;have y0:=zaa p1 0;have y1:=zaa p1 1;have y2:=zaa p1 2;have y3:=zaa p1 3;simp only[zC,zD,zE]at y0 y1 y2 y3;refine yag (v:=.agg #[q0,q1,q2,q3]) ?_ rfl ⟨by rw[hq0.out,hq1.out,hq2.out,hq3.out],HB.out.trans p2⟩;simp[results,results29,go_sem,y0,y1,y2,y3]
   ·have hkd:decide ((k:Int)<n)=true:=yae (by have:=HM.out;omega)
    have hkd4:decide ((k:Int)<4)=false:=yah (by have:=HM.out;omega);clear h4;go_wp2_with fail;obtain⟨p1,p2⟩:=zdM (ii q0) (ii q1) (ii q2) (ii q3) HR.out;generalize hW1:World.setCell _ _ (Value.int .i64 q3)=W1;rw[hW1]at p1 p2;have y0:=zaa p1 0;have y1:=zaa p1 1;have y2:=zaa p1 2;have y3:=zaa p1 3;simp only[zC,zD,zE]at y0 y1 y2 y3;refine yag (v:=.agg #[q0,q1,q2,q3]) ?_ rfl ⟨by rw[hq0.out,hq1.out,hq2.out,hq3.out],HB.out.trans p2⟩;simp[results,results29,go_sem,y0,y1,y2,y3]
def zcK (a0 a1 a2 a3:Int) (t:TxP):Bool:=decide (atV a0 a1 a2 a3 t.site<t.seq)
def Els (w:World) (B:Nat) (v:Value) (l:List MTx):Prop:=∀ m∈l,zaN w m.A m.t.ws∧∀ b o,m.A=some ⟨b,o,none⟩→B≤b∧b<w.heap.size∧v.ownBlock≠some b
theorem Els.below {w w':World}{B:Nat}{v:Value}{l:List MTx}(h:Els w B v l) (hb:Below w w w'):Els w' B v l:=fun m hm=>by
 obtain⟨h1,h2⟩:=h m hm;exact⟨h1.below hb,fun b o e=>⟨(h2 b o e).1,yab (h2 b o e).2.1 hb.size,(h2 b o e).2.2⟩⟩
theorem Els.push {w w1:World}{B g n c:Nat}{v:Value}{l:List MTx}{m:MTx}{o1:Obj}(h:Els w B v l) (hg:(w.alloc o1).grownBy w1 v.ownBlock) (hgl:v.ownBlock=some g∨g=w.heap.size+1) (hw:zaN w m.A m.t.ws)
  (hm:∀ b o,m.A=some ⟨b,o,none⟩→B≤b∧b<w.heap.size∧v.ownBlock≠some b):Els w1 B (.slice (some ⟨g,0,none⟩) n c) (l++[m]):=by
 have hall:Els w B v (l++[m]):=fun x hx=>by
  rcases yax.1 hx with hx|hx
  ·exact h x hx
  ·obtain rfl:x=m:=by simpa using hx
   exact⟨hw,hm⟩
 intro x hx;obtain⟨h1,h2⟩:=hall x hx;refine⟨h1.keep fun b o e=>(zau hg).block b (h2 b o e).2.1 (fun e2=>(h2 b o e).2.2 e2.symm),fun b o e=>⟨(h2 b o e).1,yab (h2 b o e).2.1 (zau hg).size,?_⟩⟩;intro e3;have e4:g=b:=by simpa[Value.ownBlock]using e3
 subst e4;rcases hgl with e5|e5
 ·exact(h2 _ o e).2.2 e5
 ·have:=(h2 _ o e).2.1;omega
theorem ws_lt {w:World}{b o:Nat}{ws:List WrP}(h:zaN w (some ⟨b,o,none⟩) ws) (h0:0<ws.length):b<w.heap.size:=by
 obtain⟨b',o',hA,hlt,_⟩:=h 0 ws[0] (yaa h0);cases hA;exact hlt
theorem zjH (B x mb:Nat) (s:SiP) (lv:Value) (sv:Nat→Value) (a0 a1 a2 a3:Int) (w:World) (h:zbV w B x s mb lv sv) (hr:∀ m∈s.log,zaf m.t=true) (hn:s.log.length≤1000):
  Calls prog 35 #[.pointer (some ⟨x,0,none⟩),.agg #[ii a0,ii a1,ii a2,ii a3]] w fun e w'=>∃ (A':Option Addr) (c':Nat) (outs:List MTx),e=.returned (.slice A' outs.length c')∧outs.map (·.t)=(s.log.map (·.t)).filter (zcK a0 a1 a2 a3)∧zd9 w' A' outs∧(∀ b o,A'=some ⟨b,o,none⟩→w.heap.size≤b∧b<w'.heap.size)∧(∀ m∈outs,zaN w' m.A m.t.ws∧∀ b o,m.A=some ⟨b,o,none⟩→w.heap.size≤b∧b<w'.heap.size)∧Below w w w':=by
 have hb0:Below w w (w.alloc (.cells #[a0,a1,a2,a3] 32)):=zal (yaf _ _);have HS:=zac (h.below hb0);have HB0:=zac hb0;have HBX:=zac (show(w.alloc (.cells #[a0,a1,a2,a3] 32)).heap[w.heap.size]?=some (.cells #[a0,a1,a2,a3] 32)from zag rfl _);have HR:=zac hr;obtain⟨Al,cl,hlv⟩:=zaP h.row;have HLV:=zac hlv;have HXS:Hid (zd9 (w.alloc (.cells #[a0,a1,a2,a3] 32)) Al s.log):=zac (by have:=HS.out.row;rw[hlv]at this;exact zgd this);have c7:w.cell? ⟨x,7,none⟩=some (.slice Al s.log.length cl):=by rw[←hlv];exact h.c7
 haveI:zaj (x+1) w:=⟨h.sto.lt⟩;clear h hb0 hr hlv;obtain⟨i0,hi0,hz0,hz1,hz2⟩:=info40;go_enter func35,ntmps35;go_wp2_with fail;generalize w.alloc (.cells #[a0,a1,a2,a3] 32)=wo at *;go_loopw [5,13] (fun o i W=>∃ (k:Nat) (outs:List MTx) (Ao:Option Addr) (co:Nat),k≤s.log.length∧i=ii k∧o=.slice Ao outs.length co∧Hid (outs.map (·.t)=((s.log.take k).map (·.t)).filter (zcK a0 a1 a2 a3))∧outs.length≤k∧Hid (Els W wo.heap.size (.slice Ao outs.length co) outs)∧
  W.ownsRow wo.heap.size 44 9 (.slice Ao outs.length co) outs.length (outs.flatMap MTx.cells)∧Below wo wo W) (fun _ i _=>s.log.length-(intOf i).toNat)
 case atStart=>exact⟨0,[],none,0,yay _,rfl,rfl,zac zS,zS,zac (fun m hm=>absurd hm zS),⟨rfl,.inl ⟨rfl,rfl⟩⟩,yaf _ _⟩
 case round=>
  obtain⟨k,outs,Ao,co,hk,rfl,rfl,hout,hol,hels,hown,hbl⟩:=hrel;obtain⟨W,rfl⟩:∃ W:World,W=wr:=⟨_,rfl⟩;have HOUT:=zac hout.out;have HOW:=zac hown;have HBW:=zac hbl;clear hown hbl hout;by_cases hlt:k<s.log.length
  ·have HSW:=zac (HS.out.below HBW.out)
   have hm:=s.log[k];obtain⟨b,o,rfl,hb,d0,d1,d2,d3,d4,d5,d6,d7,d8⟩:=(HXS.out.below HBW.out) k s.log[k] (yaa hlt);have HRK:=zac (HR.out s.log[k] (yaw hlt));have HDK:=zac (HSW.out.dat s.log[k] (.inl (yaw hlt)));have htk:s.log.take (k+1)=s.log.take k++[s.log[k]]:=by rw[ycd,yaa hlt];rfl
   have HTK:Hid (((s.log.take (k+1)).map (·.t)).filter (zcK a0 a1 a2 a3)=((s.log.take k).map (·.t)).filter (zcK a0 a1 a2 a3)++(if zcK a0 a1 a2 a3 s.log[k].t=true then [s.log[k].t]else [])):=zac (by
    rw[htk,ya9,yb8];congr 1;cases hq:zcK a0 a1 a2 a3 s.log[k].t <;> simp[hq])
   clear hm htk;generalize s.log[k]=m at *;obtain⟨⟨msite,mseq,mwall,mcount,md0,md1,md2,md3,mws⟩,mA,mc⟩:=m;simp only at d0 d1 d2 d3 d4 d5 d6 d7 d8;obtain⟨hp1,hp2,hp3,hp4⟩:=zar HRK.out
   try simp only at hp1 hp2 hp3 hp4
   obtain⟨st,rfl⟩:=yar hp1.1;have hst4:st<4:=by omega
   have hbx:W.heap[w.heap.size]?=some (.cells #[a0,a1,a2,a3] 32):=(HBW.out.block _ (zae HBX.out)).trans HBX.out;have hat:=zex hbx hst4;obtain⟨aS,haS⟩:∃ aS,atV a0 a1 a2 a3 (st:Int)=aS:=⟨_,rfl⟩;rw[haS]at hat
   haveI:zaj (b+1) W:=⟨hb⟩;haveI:zaj (w.heap.size+1) W:=⟨zae hbx⟩;haveI:zaj w.heap.size W:=⟨by have:=zae hbx;omega⟩;have hk0:(0:Int)≤(st:Int):=by omega
   have hk4:(st:Int)<4:=by omega
   have HNH:Hid (zcK a0 a1 a2 a3 ⟨(st:Int),mseq,mwall,mcount,md0,md1,md2,md3,mws⟩=decide (aS<mseq)):=zac (by unfold zcK;rw[←haS]);have HCL:=zac fun W' (hB:Below W W W')=>zgw ⟨(st:Int),mseq,mwall,mcount,md0,md1,md2,md3,mws⟩ mA mc W' (HDK.out.1.below hB) (by show 0<mws.length;omega) (by show mws.length≤1000;omega)
   unfold MTx.val at HCL;simp only at HCL;have HP0:Hid (0<mws.length):=zac zO;clear haS hbx hp1 hp2 hp3 hp4;by_cases hq:aS<mseq
   ·have hd1:decide (aS<mseq)=true:=yae hq
    have HT1:Hid (((s.log.take (k+1)).map (·.t)).filter (zcK a0 a1 a2 a3)=outs.map (·.t)++[(⟨(st:Int),mseq,mwall,mcount,md0,md1,md2,md3,mws⟩:TxP)]):=zac (by rw[HTK.out,HOUT.out,HNH.out,hd1];rfl);clear hq HTK;go_wp2_with fail;refine zaw fun x3=>?_
    go_wp2_with fail;go_at_call 81;refine(HCL.out _ zB).mono ?_;rintro e w5 ⟨A',c',rfl,hw5,hb5,bb,rfl,hbb⟩;have HB5a:=zac (Below.size (show Below W W (zai (W.alloc (.cells #[(st:Int),mseq,mwall,mcount,md0,md1,md2,md3,.slice mA mws.length mc] 44)) x3)from zB));have HCUR:=zac (ybC (show Below W W (zai (W.alloc (.cells #[(st:Int),mseq,mwall,mcount,md0,md1,md2,md3,.slice mA mws.length mc] 44)) x3)from zB) (hb5.mono zP));have HOC:=zac (zaF HOW.out HCUR.out (fun j e=>(zao HOW.out e).2));have HBC:=zac (HBW.out.trans (HCUR.out.mono HBW.out.size));have HLT:=zac (ws_lt hw5 HP0.out);have HW5:=zac hw5;have HBB:Hid (W.heap.size≤bb):=zac (yac (HB5a.out) hbb);clear hw5 hb5 hbb;have hsC:=HBC.out.size;go_wp2_with (at_builtin;go_must (refine wpList_append_lies _ rfl _ _ 35 rfl wo.heap.size 44 i0 txZero 9 88 underlying35 hi0 hz0 hz1 hz2 rfl zI (.slice Ao outs.length co) outs.length (outs.flatMap MTx.cells) rfl (HOC.out.alloc _) ⟨w5,0,none⟩ 1 1 [ii (st:Int),ii mseq,ii mwall,ii mcount,ii md0,ii md1,ii md2,ii md3,.slice (some ⟨bb,0,none⟩) mws.length c'] rfl rfl (World.news_of_block (cs:=#[ii (st:Int),ii mseq,ii mwall,ii mcount,ii md0,ii md1,ii md2,ii md3,.slice (some ⟨bb,0,none⟩) mws.length c']) (zag rfl _)) ?c1 zI ?c2 ?c3 ?c4 _ rfl ?_))
    case c1=>first|exact⟨rfl,rfl,rfl,rfl,rfl,rfl,rfl,rfl,rfl⟩|(intro u hu;simp at hu;rcases hu with rfl|rfl|rfl|rfl|rfl|rfl|rfl|rfl|rfl <;> rfl)
    case c2=>refine yac ?_ maxLen_ge;omega
    case c3=>omega
    case c4=>first|omega|(simp;omega)
    intro gq cap1 w1 hown1 hgrow hgl hlt1;have HN1:Hid (w1.ownsRow wo.heap.size 44 9 (.slice (some ⟨gq,0,none⟩) (outs++[(⟨⟨(st:Int),mseq,mwall,mcount,md0,md1,md2,md3,mws⟩,some ⟨bb,0,none⟩,c'⟩:MTx)]).length cap1) (outs++[(⟨⟨(st:Int),mseq,mwall,mcount,md0,md1,md2,md3,mws⟩,some ⟨bb,0,none⟩,c'⟩:MTx)]).length ((outs++[(⟨⟨(st:Int),mseq,mwall,mcount,md0,md1,md2,md3,mws⟩,some ⟨bb,0,none⟩,c'⟩:MTx)]).flatMap MTx.cells)):=zac (by
     have e:(outs++[(⟨⟨(st:Int),mseq,mwall,mcount,md0,md1,md2,md3,mws⟩,some ⟨bb,0,none⟩,c'⟩:MTx)]).length=outs.length+1:=by simp
     rw[e,yaJ];exact hown1)
    have HB1:Hid (Below wo wo w1):=zac (yaE HBC.out (zau hgrow) HBC.out.size (fun j e=>(zao HOW.out e).1));have HE1:Hid (Els w1 wo.heap.size (.slice (some ⟨gq,0,none⟩) (outs++[(⟨⟨(st:Int),mseq,mwall,mcount,md0,md1,md2,md3,mws⟩,some ⟨bb,0,none⟩,c'⟩:MTx)]).length cap1) (outs++[(⟨⟨(st:Int),mseq,mwall,mcount,md0,md1,md2,md3,mws⟩,some ⟨bb,0,none⟩,c'⟩:MTx)])):=zac ((hels.out.below HCUR.out).push hgrow hgl HW5.out (fun b o e=>by
     obtain⟨rfl,rfl⟩:bb=b∧0=o:=by simpa using e
     exact⟨yac HBW.out.size HBB.out,HLT.out,fun e2=>by have:=(zao HOW.out e2).2;have:=HBB.out;omega⟩))
    clear hown1 hgrow hgl hlt1;go_wp2_with fail;go_roundw
    case rel=>exact⟨k+1,outs++[(⟨⟨(st:Int),mseq,mwall,mcount,md0,md1,md2,md3,mws⟩,some ⟨bb,0,none⟩,c'⟩:MTx)],some ⟨gq,0,none⟩,cap1,zO,by go_num,zS,zac (by rw[HT1.out];simp),by simp;omega,HE1,HN1.out,HB1.out⟩
    case measure=>simp[intOf];omega
   ·have hd1:decide (aS<mseq)=false:=yah hq
    have HT1:Hid (((s.log.take (k+1)).map (·.t)).filter (zcK a0 a1 a2 a3)=outs.map (·.t)):=zac (by rw[HTK.out,HOUT.out,HNH.out,hd1];simp);clear hq HTK;go_wp2_with fail;refine zaw fun x3=>?_
    have HCUR:=zac (show Below W W (zai (W.alloc (.cells #[(st:Int),mseq,mwall,mcount,md0,md1,md2,md3,.slice mA mws.length mc] 44)) x3)from zB);have HOC:=zac (zaF HOW.out HCUR.out (fun j e=>(zao HOW.out e).2));have HBC:=zac (HBW.out.trans (HCUR.out.mono HBW.out.size));go_wp2_with fail;go_roundw
    case rel=>exact⟨k+1,outs,Ao,co,zO,by go_num,rfl,zac HT1.out.symm,zO,zac (hels.out.below HCUR.out),HOC.out,HBC.out⟩
    case measure=>simp[intOf];omega
  ·obtain rfl:k=s.log.length:=by omega
   have HT:Hid (outs.map (·.t)=(s.log.map (·.t)).filter (zcK a0 a1 a2 a3)):=zac (by rw[HOUT.out,ybD]);go_wp2_with fail;go_ret;have hws:w.heap.size≤wo.heap.size:=HB0.out.size;exact⟨Ao,co,outs,rfl,HT.out,zgd HOW.out,fun b o e=>⟨yac hws (zao HOW.out (by rw[e];rfl)).1,(zao HOW.out (by rw[e];rfl)).2⟩,
    fun m hm=>⟨(hels.out m hm).1,fun b o e=>⟨yac hws ((hels.out m hm).2 b o e).1,((hels.out m hm).2 b o e).2.1⟩⟩,HB0.out.trans (HBW.out.mono HB0.out.size)⟩
theorem ziH (B x wc:Nat) (s:RsP) (lv:Value) (wA:Option Addr) (av:Value) (a0 a1 a2 a3:Int) (w:World) (h:zcp w B x s lv wA wc av) (hr:∀ m∈s.log,zaf m.t=true) (hn:s.log.length≤1000):
  Calls prog 36 #[.pointer (some ⟨x,0,none⟩),.agg #[ii a0,ii a1,ii a2,ii a3]] w fun e w'=>∃ (A':Option Addr) (c':Nat),e=.returned (.slice A' (s.log.filter (zdE a0 a1 a2 a3)).length c')∧zd9 w' A' (s.log.filter (zdE a0 a1 a2 a3))∧(∀ b o,A'=some ⟨b,o,none⟩→w.heap.size≤b∧b<w'.heap.size)∧Below w w w':=by
 have hb0:Below w w (w.alloc (.cells #[a0,a1,a2,a3] 32)):=zal (yaf _ _);have HS:=zac (h.below hb0);have HB0:=zac hb0;have HBX:=zac (show(w.alloc (.cells #[a0,a1,a2,a3] 32)).heap[w.heap.size]?=some (.cells #[a0,a1,a2,a3] 32)from zag rfl _);have HR:=zac hr;obtain⟨Al,cl,hlv⟩:=zaP h.row;have HLV:=zac hlv;have HXS:Hid (zd9 (w.alloc (.cells #[a0,a1,a2,a3] 32)) Al s.log):=zac (by have:=HS.out.row;rw[hlv]at this;exact zgd this);have c7:w.cell? ⟨x,7,none⟩=some (.slice Al s.log.length cl):=by rw[←hlv];exact h.c7
 haveI:zaj (x+1) w:=⟨h.sto.lt⟩;clear h hb0 hr hlv;obtain⟨i0,hi0,hz0,hz1,hz2⟩:=info40;go_enter func36,ntmps36;go_wp2_with fail;generalize w.alloc (.cells #[a0,a1,a2,a3] 32)=wo at *;go_loopw [5,13] (fun o i W=>∃ (k:Nat) (outs:List MTx) (Ao:Option Addr) (co:Nat),k≤s.log.length∧i=ii k∧o=.slice Ao outs.length co∧Hid (outs=(s.log.take k).filter (zdE a0 a1 a2 a3))∧outs.length≤k∧
  W.ownsRow wo.heap.size 44 9 (.slice Ao outs.length co) outs.length (outs.flatMap MTx.cells)∧Below wo wo W) (fun _ i _=>s.log.length-(intOf i).toNat)
 case atStart=>exact⟨0,[],none,0,yay _,rfl,rfl,zac zS,zS,⟨rfl,.inl ⟨rfl,rfl⟩⟩,yaf _ _⟩
 case round=>
  obtain⟨k,outs,Ao,co,hk,rfl,rfl,hout,hol,hown,hbl⟩:=hrel;obtain⟨W,rfl⟩:∃ W:World,W=wr:=⟨_,rfl⟩;have HOUT:=zac hout.out;have HOW:=zac hown;have HBW:=zac hbl;clear hown hbl hout;by_cases hlt:k<s.log.length
  ·have HSW:=zac (HS.out.below HBW.out)
   have hm:=s.log[k];obtain⟨b,o,rfl,hb,d0,d1,d2,d3,d4,d5,d6,d7,d8⟩:=(HXS.out.below HBW.out) k s.log[k] (yaa hlt);have HRK:=zac (HR.out s.log[k] (yaw hlt));have HDK:=zac (HSW.out.dat s.log[k] (.inl (yaw hlt)));have htk:s.log.take (k+1)=s.log.take k++[s.log[k]]:=by rw[ycd,yaa hlt];rfl
   have HTK:Hid ((s.log.take (k+1)).filter (zdE a0 a1 a2 a3)=(s.log.take k).filter (zdE a0 a1 a2 a3)++(if zdE a0 a1 a2 a3 s.log[k]=true then [s.log[k]]else [])):=zac (by
    rw[htk,yb8];congr 1;cases hq:zdE a0 a1 a2 a3 s.log[k] <;> simp[hq])
   clear hm htk;generalize s.log[k]=m at *;obtain⟨⟨msite,mseq,mwall,mcount,md0,md1,md2,md3,mws⟩,mA,mc⟩:=m;simp only at d0 d1 d2 d3 d4 d5 d6 d7 d8;obtain⟨hp1,hp2,hp3,hp4⟩:=zar HRK.out
   try simp only at hp1 hp2 hp3 hp4
   obtain⟨st,rfl⟩:=yar hp1.1;have hst4:st<4:=by omega
   have hbx:W.heap[w.heap.size]?=some (.cells #[a0,a1,a2,a3] 32):=(HBW.out.block _ (zae HBX.out)).trans HBX.out;have hat:=zex hbx hst4;obtain⟨aS,haS⟩:∃ aS,atV a0 a1 a2 a3 (st:Int)=aS:=⟨_,rfl⟩;rw[haS]at hat
   haveI:zaj (b+1) W:=⟨hb⟩;haveI:zaj (w.heap.size+1) W:=⟨zae hbx⟩;haveI:zaj w.heap.size W:=⟨by have:=zae hbx;omega⟩;have hk0:(0:Int)≤(st:Int):=by omega
   have hk4:(st:Int)<4:=by omega
   have HNH:Hid (zdE a0 a1 a2 a3 ⟨⟨(st:Int),mseq,mwall,mcount,md0,md1,md2,md3,mws⟩,mA,mc⟩=decide (aS<mseq)):=zac (by unfold zdE;rw[←haS]);clear haS hbx hp1 hp2 hp3 hp4;by_cases hq:aS<mseq
   ·have hd1:decide (aS<mseq)=true:=yae hq
    have HT1:Hid ((s.log.take (k+1)).filter (zdE a0 a1 a2 a3)=outs++[(⟨⟨(st:Int),mseq,mwall,mcount,md0,md1,md2,md3,mws⟩,mA,mc⟩:MTx)]):=zac (by rw[HTK.out,HOUT.out,HNH.out,hd1];rfl);clear hq HTK;go_wp2_with fail;refine zaw fun x3=>?_
    have HCUR:=zac (show Below W W (zai (W.alloc (.cells #[(st:Int),mseq,mwall,mcount,md0,md1,md2,md3,.slice mA mws.length mc] 44)) x3)from zB);have HN9:=zac (show(zai (W.alloc (.cells #[(st:Int),mseq,mwall,mcount,md0,md1,md2,md3,.slice mA mws.length mc] 44)) x3).heap[W.heap.size]?=some (.cells #[(st:Int),mseq,mwall,mcount,md0,md1,md2,md3,.slice mA mws.length mc] 44)from (((zax _ x3).block _ (zae (zag rfl _))).trans (zag rfl _)));have HOC:=zac (zaF HOW.out HCUR.out (fun j e=>(zao HOW.out e).2));have HBC:=zac (HBW.out.trans (HCUR.out.mono HBW.out.size));obtain⟨t0,t1,t2,t3,t4,t5,t6,t7,t8⟩:=cell9 HN9.out;generalize (zai (W.alloc (.cells #[(st:Int),mseq,mwall,mcount,md0,md1,md2,md3,.slice mA mws.length mc] 44)) x3)=w5 at *;have hsC:=HBC.out.size;go_wp2_with (at_builtin;go_must (refine wpList_append_lies _ rfl _ _ 35 rfl wo.heap.size 44 i0 txZero 9 88 underlying35 hi0 hz0 hz1 hz2 rfl zI (.slice Ao outs.length co) outs.length (outs.flatMap MTx.cells) rfl (HOC.out.alloc _) ⟨w5,0,none⟩ 1 1 [ii (st:Int),ii mseq,ii mwall,ii mcount,ii md0,ii md1,ii md2,ii md3,.slice mA mws.length mc] rfl rfl (World.news_of_block (cs:=#[ii (st:Int),ii mseq,ii mwall,ii mcount,ii md0,ii md1,ii md2,ii md3,.slice mA mws.length mc]) (zag rfl _)) ?c1 zI ?c2 ?c3 ?c4 _ rfl ?_))
    case c1=>first|exact⟨rfl,rfl,rfl,rfl,rfl,rfl,rfl,rfl,rfl⟩|(intro u hu;simp at hu;rcases hu with rfl|rfl|rfl|rfl|rfl|rfl|rfl|rfl|rfl <;> rfl)
    case c2=>refine yac ?_ maxLen_ge;omega
    case c3=>omega
    case c4=>first|omega|(simp;omega)
    intro gq cap1 w1 hown1 hgrow hgl hlt1;have HN1:Hid (w1.ownsRow wo.heap.size 44 9 (.slice (some ⟨gq,0,none⟩) (outs++[(⟨⟨(st:Int),mseq,mwall,mcount,md0,md1,md2,md3,mws⟩,mA,mc⟩:MTx)]).length cap1) (outs++[(⟨⟨(st:Int),mseq,mwall,mcount,md0,md1,md2,md3,mws⟩,mA,mc⟩:MTx)]).length ((outs++[(⟨⟨(st:Int),mseq,mwall,mcount,md0,md1,md2,md3,mws⟩,mA,mc⟩:MTx)]).flatMap MTx.cells)):=zac (by
     have e:(outs++[(⟨⟨(st:Int),mseq,mwall,mcount,md0,md1,md2,md3,mws⟩,mA,mc⟩:MTx)]).length=outs.length+1:=by simp
     rw[e,yaJ];exact hown1)
    have HB1:Hid (Below wo wo w1):=zac (yaE HBC.out (zau hgrow) HBC.out.size (fun j e=>(zao HOW.out e).1));clear hown1 hgrow hgl hlt1;go_wp2_with fail;go_roundw
    case rel=>exact⟨k+1,outs++[(⟨⟨(st:Int),mseq,mwall,mcount,md0,md1,md2,md3,mws⟩,mA,mc⟩:MTx)],some ⟨gq,0,none⟩,cap1,zO,by go_num,zS,zac HT1.out.symm,by simp;omega,HN1.out,HB1.out⟩
    case measure=>simp[intOf];omega
   ·have hd1:decide (aS<mseq)=false:=yah hq
    have HT1:Hid ((s.log.take (k+1)).filter (zdE a0 a1 a2 a3)=outs):=zac (by rw[HTK.out,HOUT.out,HNH.out,hd1];simp);clear hq HTK;go_wp2_with fail;refine zaw fun x3=>?_
    have HCUR:=zac (show Below W W (zai (W.alloc (.cells #[(st:Int),mseq,mwall,mcount,md0,md1,md2,md3,.slice mA mws.length mc] 44)) x3)from zB);have HOC:=zac (zaF HOW.out HCUR.out (fun j e=>(zao HOW.out e).2));have HBC:=zac (HBW.out.trans (HCUR.out.mono HBW.out.size));go_wp2_with fail;go_roundw
    case rel=>exact⟨k+1,outs,Ao,co,zO,by go_num,rfl,zac HT1.out.symm,zO,HOC.out,HBC.out⟩
    case measure=>simp[intOf];omega
  ·obtain rfl:k=s.log.length:=by omega
   have HT:Hid (outs=s.log.filter (zdE a0 a1 a2 a3)):=zac (by rw[HOUT.out,ybD]);go_wp2_with fail;go_ret;have hws:w.heap.size≤wo.heap.size:=HB0.out.size;exact⟨Ao,co,by rw[←HT.out];rfl,by rw[←HT.out];exact zgd HOW.out,fun b o e=>⟨yac hws (zao HOW.out (by rw[e];rfl)).1,(zao HOW.out (by rw[e];rfl)).2⟩,HB0.out.trans (HBW.out.mono HB0.out.size)⟩
theorem zl9 (site seq wall count d0 d1 d2 d3:Int) (ws:List WrP) (A A':Option Addr) (c c':Nat) (w:World) (hn:ws.length≤1000000) (h1:zaN w A ws) (h2:zaN w A' ws):
  Calls prog 16 #[.agg #[ii site,ii seq,ii wall,ii count,ii d0,ii d1,ii d2,ii d3,.slice A ws.length c],
   .agg #[ii site,ii seq,ii wall,ii count,ii d0,ii d1,ii d2,ii d3,.slice A' ws.length c']] w
   fun e w'=>e=.returned (.bool true)∧Below w w w':=by
 have H1:=zac h1;have H2:=zac h2;clear h1 h2;go_enter func16,ntmps16;go_wp2;go_loopw [44] (fun i wr=>∃ (k:Nat) (x:zks),k≤ws.length∧i=ii k∧wr=zai ((w.alloc (.cells #[site,seq,wall,count,d0,d1,d2,d3,.slice A ws.length c] 44)).alloc (.cells #[site,seq,wall,count,d0,d1,d2,d3,.slice A' ws.length c'] 44)) x) (fun i _=>ws.length-(intOf i).toNat)
 case atStart=>exact⟨0,⟨#[],w.drawn⟩,yay _,rfl,by simp[zai];rfl⟩
 case round=>
  obtain⟨k,x,hk,rfl,rfl⟩:=hrel;by_cases hlt:k<ws.length
  ·obtain⟨b,o,rfl,hb,h0,h1,h2⟩:=H1.out k ws[k] (yaa hlt)
   obtain⟨b',o',rfl,hb',h0',h1',h2'⟩:=H2.out k ws[k] (yaa hlt);haveI:zaj (b+1) w:=⟨hb⟩;haveI:zaj (b'+1) w:=⟨hb'⟩;generalize ws[k]=y at *;obtain⟨key,data,gone⟩:=y;simp only at *;go_wp2;refine zaw fun x=>?_
   go_wp2;go_roundw
   case rel=>exact⟨k+1,_,zO,by go_num,wplus_wplus _ _ _⟩
   case measure=>simp[intOf];omega
  ·have hkk:k=ws.length:=by omega
   go_wp2;go_ret;exact⟨rfl,zB⟩
section
variable {w0 w w':World}{x y:Nat}{s s':SiP}{r r':RsP}{K:List (Nat×Obj)}
theorem zcp.fresh {w:World}{B y:Nat}{id:Int}(h:w.heap[y]?=some (.cells #[id,ii 0,ii 0,ii 0,ii 0,ii 0,ii 0,.slice none 0 0,.slice none 0 0,.slice none 0 0,ii 0,ii 0,ii 0,ii 0,ii 0,ii 0,ii 0,ii 0,ii 0,ii 0,ii 0,ii 0,ii 0,ii 0,ii 0,ii 0] 41)) (hB:B≤y):zcp w B y (zmt id) (.slice none 0 0) none 0 (.slice none 0 0):=by
 have fz:∀ k,w.frozen? ⟨y,k,none⟩=false:=fun k=>zab h k
 refine⟨zaa h 0,zaa h 1,zaa h 2,zaa h 3,zaa h 4,zaa h 5,zaa h 6,zaa h 7,zaa h 8,fun k hk=>?_,fz,⟨zae h,zaa h 9,fz _,⟨rfl,.inl ⟨rfl,rfl⟩⟩,by simp[Value.ownBlock]⟩,⟨rfl,.inl ⟨rfl,rfl⟩⟩,⟨fun i m hm=>by simp[zmt]at hm,by simp[zmt],fun b o e=>by cases e⟩,hB,by simp[Value.ownBlock],fun b e=>by simp[Value.ownBlock]at e,fun m hm=>?_⟩
 ·have hc:k=0∨k=1∨k=2∨k=3∨k=4∨k=5∨k=6∨k=7∨k=8∨k=9∨k=10∨k=11∨k=12∨k=13∨k=14∨k=15:=by omega
  rcases hc with rfl|rfl|rfl|rfl|rfl|rfl|rfl|rfl|rfl|rfl|rfl|rfl|rfl|rfl|rfl|rfl <;> exact zaa h _
 ·rcases hm with hm|hm <;> simp[zmt]at hm
theorem ze1.fit9 (h:ze1 s r):Fit s.st 900000:=h.inv.fit.mono (by have:=h.inv.log;omega)
theorem ze1.len9 (h:ze1 s r):r.L.length≤800000∧r.log.length≤200:=by
 have h1:=h.rin.len;have h2:=h.inv.log;have h3:s.log.length=r.log.length:=by rw[h.rep.len];simp[RsP.r]
 omega
theorem ze1.others (h:ze1 s r) (k:Nat) (a0 a1 a2 a3:Int) (hk:k<4):
  ze1 { s with ot:=ziU s.ot k a0 a1 a2 a3 } ((((r.setc (10+k*4) (max (s.ot (k*4)) a0)).setc (10+(k*4+1)) (max (s.ot (k*4+1)) a1)).setc (10+(k*4+2)) (max (s.ot (k*4+2)) a2)).setc (10+(k*4+3)) (max (s.ot (k*4+3)) a3)):=by
 have e:s.ot=r.ot:=h.rep.ot;refine h.knows _ _ ?_ rfl rfl ⟨h.rin.id,?_,h.rin.rt,h.rin.len⟩
 ·unfold RsP.r RsP.setc ziU
  simp only[e];have h1:∀ i,i<16→(10+i=1)=False:=fun i _=>by simp;omega
  congr 1
  all_goals first
   | (funext j
      simp only[Nat.add_left_cancel_iff]
      done)
   | (repeat rw[yad zO])
 ·intro a
  have h0:=h.rin.ap a;have e2:((((r.setc (10+k*4) (max (s.ot (k*4)) a0)).setc (10+(k*4+1)) (max (s.ot (k*4+1)) a1)).setc (10+(k*4+2)) (max (s.ot (k*4+2)) a2)).setc (10+(k*4+3)) (max (s.ot (k*4+3)) a3)).at a=r.at a:=by
   unfold RsP.at RsP.setc;simp only;congr 1
   all_goals(repeat rw[yad zO])
  rw[e2];exact h0
theorem ze1.read (hf:ze1 s r) (key a0 a1 a2 a3:Int):zdf r key a0 a1 a2 a3=zc4 s key a0 a1 a2 a3:=by
 have h:=hf.rep;have e0:s.p0=r.p0:=h.p0;have e1:s.p1=r.p1:=h.p1;have e2:s.p2=r.p2:=h.p2;have e3:s.p3=r.p3:=h.p3;unfold zdf zc4;rw[e0,e1,e2,e3,show zeb a0 a1 a2 a3 r.L key=_ from h.rep.read a0 a1 a2 a3 key]
def TxsAt (w:World) (A:Option Addr) (l:List MTx):Prop:=zd9 w A l∧(∀ b o,A=some ⟨b,o,none⟩→b<w.heap.size)∧∀ m∈l,zaN w m.A m.t.ws
end
structure zbW (s:SiP) (a:RSi):Prop where
 rep:zdY s a
 inv:Inv s
 top:Top s
 rlg:∀ t∈a.log,zaf t=true
theorem zbW.rin {s:SiP}{r:RsP}(h:zbW s r.r):zlF r:=by
 refine⟨?_,fun a=>?_,fun m hm=>?_,?_⟩
 ·have e:s.id=r.id:=h.rep.id
  rw[←e];exact h.inv.id
 ·have e:s.at a=r.at a:=h.rep.at a
  rw[←e];exact zlE.at h.inv.ap a
 ·obtain⟨m2,h1,h2⟩:=h.rep.ws m.t (ybE.2 ⟨m,hm,rfl⟩)
  rw[←h2];exact(h.inv.wt _ _ _ h1).2.2
 ·have h1:r.L.length=_:=h.rep.rep.many
  have h2:s.log.length=r.r.log.length:=h.rep.len;have h3:r.r.log.length=r.log.length:=by simp[RsP.r]
  have hk:∀ k,k<8→(s.st k).length≤5*s.log.length:=fun k hk=>(h.inv.fit k hk).2
  have:=hk 0 zO;have:=hk 1 zO;have:=hk 2 zO;have:=hk 3 zO;have:=hk 4 zO;have:=hk 5 zO;have:=hk 6 zO;have:=hk 7 zO;omega
theorem zbW.full {s:SiP}{r:RsP}(h:zbW s r.r):ze1 s r:=
 ⟨h.rep,h.inv,h.rin,h.top,fun m hm=>h.rlg m.t (ybE.2 ⟨m,hm,rfl⟩)⟩
theorem ze1.fullA {s:SiP}{r:RsP}(h:ze1 s r):zbW s r.r:=
 ⟨h.rep,h.inv,h.top,fun t ht=>by obtain⟨m,hm,rfl⟩:=ybE.1 ht;exact h.rlg m hm⟩
def mkR (a:RSi):RsP:=⟨a.id,a.p0,a.p1,a.p2,a.p3,a.lw,a.lc,a.log.map (fun t=>⟨t,none,0⟩),a.ws.map (fun t=>⟨t,none,0⟩),a.held,a.ot⟩
theorem mkR_r (a:RSi):(mkR a).r=a:=by
 unfold mkR RsP.r;cases a;simp[Function.comp_def]
theorem zbW.gh {s:SiP}{a:RSi}(h:zbW s a):ze1 s (mkR a):=zbW.full (by rw[mkR_r];exact h)
def zdO (a:RSi) (t:TxP):RSi:=if zb3 a t=0 then rRun (a.ws.length+1) { a with ws:=a.ws++[t] }else a
noncomputable def zc6(a:RSi) (v0 v1 v2 v3:Int):RSi:={ a with held:=zee (min v0 a.p0) (min v1 a.p1) (min v2 a.p2) (min v3 a.p3) a.held }
def zg9 (a:RSi) (k:Nat) (v0 v1 v2 v3:Int):RSi:={ a with ot:=ziU a.ot k v0 v1 v2 v3 }
def zj1 (a:RSi) (key v0 v1 v2 v3:Int):zaE×Int:=if zdp a.p0 a.p1 a.p2 a.p3 v0 v1 v2 v3=true then zeb v0 v1 v2 v3 a.held key else (verZ,10)
def zbR (a:RSi) (n:Int) (c:Nat) (p:Int):Int:=za1 a.id a.ot p c (zdH n)
def zfG (a:RSi):List ByteArray:=zdG (fun k=>zeb a.p0 a.p1 a.p2 a.p3 a.held k) 8
def zdK (a:RSi) (v0 v1 v2 v3:Int):List TxP:=a.log.filter (zcK v0 v1 v2 v3)
theorem zbW.fresh {id:Int}(h:0≤id∧id<4):zbW (zcz id) ⟨id,0,0,0,0,0,0,[],[],[],fun _=>0⟩:=(ze1.fresh h).fullA
theorem zbW.takes {s:SiP}{a:RSi}(h:zbW s a){t:TxP}(he:takeE s t=0) (A:Option Addr) (c:Nat):
  zbW (runP (s.wn+1) (s.wait ⟨t,A,c⟩)) (zdO a t):=by
 have e:=h.rep.takeE h.inv t;have h1:=zfZ he;unfold zdO;rw[yaj (e ▸ he)];have hrep:=h.rep.take h.inv he A c;obtain⟨i1,i2⟩:=(h.inv.wait (m:=⟨t,A,c⟩) h1).run (s.wn+1) h.top;have hl:∀ m∈s.log,zaf m.t=true:=fun m hm=>h.rlg m.t (by rw[←h.rep.log];exact ybE.2 ⟨m,hm,rfl⟩)
 refine⟨hrep,i1,i2,fun t2 ht=>?_⟩;rw[←hrep.log]at ht;obtain⟨m,hm,rfl⟩:=ybE.1 ht;exact runP_right _ (h.inv.wait (m:=⟨t,A,c⟩) h1) hl m hm
theorem zbW.commits {s:SiP}{a:RSi}(h:zbW s a){now d0 d1 d2 d3:Int}{ws:List WrP}(he:za5 a now d0 d1 d2 d3 ws=0) (A:Option Addr) (c:Nat):
  zbW (zbo s ⟨za9 a now d0 d1 d2 d3 ws,A,c⟩) (zcc a (za9 a now d0 d1 d2 d3 ws)):=by
 obtain⟨e1,e2⟩:=h.rep.commitE now d0 d1 d2 d3 ws;rw[←e1]at he;have:=(h.gh.commit he A none c 0).fullA;rw[zeW _ _ (zar (zcG h.inv h.top he).1).1,mkR_r,e2]at this;exact this
theorem zbW.sweeps {s:SiP}{a:RSi}(h:zbW s a) (v0 v1 v2 v3:Int):zbW { s with st:=fun k=>zbC (min v0 s.p0) (min v1 s.p1) (min v2 s.p2) (min v3 s.p3) (s.st k) } (zc6 a v0 v1 v2 v3):=by
 have e:zc6 a v0 v1 v2 v3=({ mkR a with L:=zee (min v0 s.p0) (min v1 s.p1) (min v2 s.p2) (min v3 s.p3) (mkR a).L }:RsP).r:=by
  rw[h.rep.p0,h.rep.p1,h.rep.p2,h.rep.p3];have:=mkR_r a;unfold zc6;unfold RsP.r at this ⊢;cases a;simp[mkR,Function.comp_def]
 rw[e];exact(h.gh.sweep (min v0 s.p0) (min v1 s.p1) (min v2 s.p2) (min v3 s.p3)).fullA
theorem zbW.knows {s:SiP}{a:RSi}(h:zbW s a) (k:Nat) (v0 v1 v2 v3:Int):zbW { s with ot:=ziU s.ot k v0 v1 v2 v3 } (zg9 a k v0 v1 v2 v3):=by
 obtain⟨a1,a2,a3,a4,a5,a6,a7,a8,a9,a10,a11,a12,a13,a14⟩:=h.rep;refine⟨⟨a1,a2,a3,a4,a5,a6,a7,a8,a9,a10,a11,a12,a13,?_⟩,⟨h.inv.ap,h.inv.id,h.inv.wt,h.inv.fit,h.inv.dat,h.inv.log⟩,h.top,h.rlg⟩;show ziU s.ot k v0 v1 v2 v3=ziU a.ot k v0 v1 v2 v3;rw[a14]
theorem zbW.reads {s:SiP}{a:RSi}(h:zbW s a) (key v0 v1 v2 v3:Int):zc4 s key v0 v1 v2 v3=zj1 a key v0 v1 v2 v3:=by
 unfold zc4 zj1;rw[h.rep.p0,h.rep.p1,h.rep.p2,h.rep.p3,h.rep.rep.read v0 v1 v2 v3 key]
theorem zbW.stabs {s:SiP}{a:RSi}(h:zbW s a) (n:Int) (c:Nat) (p:Int):za1 s.id s.ot p c (zdH n)=zbR a n c p:=by
 unfold zbR;rw[h.rep.id,h.rep.ot]
theorem zbW.told {s:SiP}{a:RSi}(h:zbW s a):zdG (fun k=>zcO s.p0 s.p1 s.p2 s.p3 s.st k) 8=zfG a:=by
 unfold zfG;congr 1;funext k;rw[h.rep.p0,h.rep.p1,h.rep.p2,h.rep.p3,h.rep.rep.read]
theorem zbW.len {s:SiP}{a:RSi}(h:zbW s a):a.held.length≤800000∧a.log.length≤200:=by
 have:=h.gh.len9;simpa[mkR]using this
theorem zkd {s:SiP}{a:RSi}(h:zbW s a) (t:TxP) (hw:a.ws.length≤40):(zdO a t).ws.length≤40:=by
 unfold zdO;split
 ·rename_i he
  by_cases h40:a.ws.length<40
  ·refine yac (rRun_len _ _) ?_
   simp;omega
  ·unfold zb3 at he
   split at he
   ·cases he
   split at he
   ·cases he
   split at he
   ·cases he
   split at he
   ·cases he
   rename_i k1 k2 k3 k4;have hrd:zbD a t=true:=by
    cases hr:zbD a t with
    | true=>rfl
    | false=>exact absurd (.inr ⟨zO,hr⟩) k4
   have hb:=zeG { a with ws:=a.ws++[t] } (a.ws++[t]) 0 (-1) zS (.inl rfl) (fun k t hk=>by omega);unfold rRun;rcases hb with ⟨_,h2⟩|⟨j,t2,h1,h2,_⟩
   ·have:=h2 t zS
    rw[show zbD { a with ws:=a.ws++[t] } t=zbD a t from rfl,hrd]at this;cases this
   ·have hbj:ze7 { a with ws:=a.ws++[t] }=(j:Int):=h1
    rw[hbj];rw[yad (by rintro(e|e);exact k4 (.inl e);omega)]
    refine yac (rRun_len _ _) ?_;show(zcc _ _).ws.length≤40;have hj:j<(a.ws++[t]).length:=(yao.1 h2).1;simp only[yak,yaq,yaB]at hj;show((a.ws++[t]).take ((j:Int)).toNat++(a.ws++[t]).drop (((j:Int)).toNat+1)).length≤40;rw[show((j:Int)).toNat=j by omega];simp;omega
 ·exact hw
def Upd (w w':World) (o:Ob) (R:Ob→Prop):Prop:=∃ o',R o'∧o'.at_ w'∧zaO w w' o.own o'.own∧∀ b,o'.dat b→o.dat b∨w.heap.size≤b
theorem Upd.below {w w':World}{o:Ob}{R:Ob→Prop}{B:Nat}(hok:o.Ok B) (hr:R o) (ha:o.at_ w) (hb:Below w w w'):Upd w w' o R:=
 ⟨o,hr,hok.same w w' ha hb.size (fun b e=>hb.block b (e.elim (fun e=>(hok.lt w b ha e).2) (hok.dlt w b ha))),zaO.of_below _ hb,fun b e=>.inl e⟩
theorem Mem.upd {w0 w w':World}{n:Nat}{O:Nat→Ob}(h:Mem w0 w n O){i:Nat}(hi:i<n){R:Ob→Prop}(hu:Upd w w' (O i) R) (hok:∀ o',R o'→o'.Ok w0.heap.size):
  ∃ O',Mem w0 w' n O'∧R (O' i)∧∀ k,k≠i→O' k=O k:=by
 obtain⟨o',h1,h2,h3,h4⟩:=hu;exact⟨zjB O i o',h.step hi (hok o' h1) h2 h3 h4,by rw[zaB];exact h1,fun k hk=>zah _ hk⟩
theorem Mem.at_below {w0 w w':World}{n:Nat}{O:Nat→Ob}(h:Mem w0 w n O){i:Nat}(hi:i<n) (hb:Below w w w'):(O i).at_ w':=(h.below hb).at_ i hi
def zdq (B x:Nat) (a:RSi) (o:Ob):Prop:=∃ mb s lv sv,o=obS B x mb s lv sv∧zbW s a∧a.ws.length≤40
def zcM (B y:Nat) (a:RSi) (o:Ob):Prop:=∃ r lr wA wc av,o=obR B y r lr wA wc av∧(∃ s,zbW s a)∧r.r=a∧a.ws.length≤40
theorem zdq.ok {B x:Nat}{a:RSi}{o:Ob}(h:zdq B x a o):o.Ok B:=by obtain⟨mb,s,lv,sv,rfl,_⟩:=h;exact zmI ..
theorem zcM.ok {B y:Nat}{a:RSi}{o:Ob}(h:zcM B y a o):o.Ok B:=by obtain⟨r,lr,wA,wc,av,rfl,_⟩:=h;exact zmJ ..
section
variable {w w':World}{B x y:Nat}{a:RSi}{o:Ob}
theorem zdq.take (h:zdq B x a o) (hw:o.at_ w) (t:TxP) (A:Option Addr) (c:Nat) (hws:zaN w A t.ws) (hwl:t.ws.length≤1000000) (hfa:zcr t.site) (hfb:zcr t.seq):
  Calls prog 17 #[.pointer (some ⟨x,0,none⟩),MTx.val ⟨t,A,c⟩] w fun e w'=>e=.returned (zbT (zb3 a t))∧Upd w w' o (zdq B x (zdO a t)):=by
 have h0:=h;obtain⟨mb,s,lv,sv,rfl,hf,h40⟩:=h;have he2:=hf.rep.takeE hf.inv t;refine(take_any B x mb s lv sv t A c w hw hf.inv (by rw[hf.rep.wn];omega) hws hwl hfa hfb).mono ?_;rintro e w' ⟨rfl,g1,g2⟩;refine⟨by rw[he2],?_⟩;by_cases he:takeE s t=0
 ·obtain⟨A',c',lv',sv',hA,hs,fr⟩:=g2 he
  refine⟨obS B x mb _ lv' sv',⟨mb,_,lv',sv',rfl,hf.takes he A' c',zkd hf t h40⟩,hs,fr,?_⟩;rintro b ⟨m,o2,hm,hb⟩;have hi:=hf.inv.wait (m:=⟨t,A',c'⟩) (zfZ he);rcases wait_has (runP_has _ _ _ hi hm)with h3|h3
  ·exact .inl ⟨m,o2,h3,hb⟩
  ·exact .inr (hA b o2 (by rw[h3]at hb;exact hb))
 ·have e2:zdO a t=a:=by unfold zdO;rw[yad (fun e=>he (he2.trans e))]
  rw[e2];exact Upd.below (zmI ..) h0 hw (g1 he)
theorem zdq.commit (h:zdq B x a o) (hw:o.at_ w) (now d0 d1 d2 d3:Int) (A:Option Addr) (c:Nat) (ws:List WrP) (hws:zaN w A ws) (hn:ws.length≤1000000):
  Calls prog 15 #[.pointer (some ⟨x,0,none⟩),now,.agg #[ii d0,ii d1,ii d2,ii d3],.slice A ws.length c] w fun e w'=>
   (za5 a now d0 d1 d2 d3 ws≠0→e=.returned (.tuple #[txZero,zbT (za5 a now d0 d1 d2 d3 ws)])∧Below w w w')∧
   (za5 a now d0 d1 d2 d3 ws=0→∃ b' c',e=.returned (.tuple #[MTx.val ⟨za9 a now d0 d1 d2 d3 ws,some ⟨b',0,none⟩,c'⟩,.nilIface])∧w.heap.size≤b'∧zaN w' (some ⟨b',0,none⟩) (za9 a now d0 d1 d2 d3 ws).ws∧
     ∃ o',zdq B x (zcc a (za9 a now d0 d1 d2 d3 ws)) o'∧o'.at_ w'∧zaO w w' o.own o'.own∧(∀ b,o'.dat b→o.dat b∨w.heap.size≤b)∧¬o'.own b'):=by
 obtain⟨mb,s,lv,sv,rfl,hf,h40⟩:=h;obtain⟨e1,e2⟩:=hf.rep.commitE now d0 d1 d2 d3 ws;refine(zlt B x mb s lv sv now d0 d1 d2 d3 A c ws w hw hf.inv hws hn).mono ?_;rintro e w' ⟨g1,g2⟩;rw[e1]at g1 g2;refine⟨g1,fun he=>?_⟩;obtain⟨A',c',A2,c2,lv',sv',rfl,hs,fr,hA2,hw',b',rfl,hb1,hb2⟩:=g2 he;rw[e2]at hs hw' ⊢;refine⟨b',c',rfl,hb1,hw',obS B x mb _ lv' sv',⟨mb,_,lv',sv',rfl,hf.commits he A2 c2,h40⟩,hs,fr,?_,hb2⟩;rintro b ⟨m,o2,hm,hb⟩;rcases znd hm with h3|h3
 ·exact .inl ⟨m,o2,h3,hb⟩
 ·exact .inr (hA2 b o2 (by rw[h3]at hb;exact hb))
theorem zdq.knows (h:zdq B x a o) (hw:o.at_ w) (k:Nat) (v0 v1 v2 v3:Int) (hk:k<4):
  Calls prog 20 #[.pointer (some ⟨x,0,none⟩),ii (k:Nat),.agg #[ii v0,ii v1,ii v2,ii v3]] w fun e w'=>e=.returned .nilIface∧Upd w w' o (zdq B x (zg9 a k v0 v1 v2 v3)):=by
 obtain⟨mb,s,lv,sv,rfl,hf,h40⟩:=h;refine(zmS B x mb s lv sv k v0 v1 v2 v3 w hw hk).mono ?_;rintro e w' ⟨rfl,hs,fr⟩;exact⟨rfl,obS B x mb _ lv sv,⟨mb,_,lv,sv,rfl,hf.knows k v0 v1 v2 v3,h40⟩,hs,fr,fun b e=>.inl e⟩
theorem zdq.sweep (h:zdq B x a o) (hw:o.at_ w) (v0 v1 v2 v3:Int):
  Calls prog 21 #[.pointer (some ⟨x,0,none⟩),.agg #[ii v0,ii v1,ii v2,ii v3]] w fun e w'=>e=.returned (.tuple #[])∧Upd w w' o (zdq B x (zc6 a v0 v1 v2 v3)):=by
 obtain⟨mb,s,lv,sv,rfl,hf,h40⟩:=h;refine(zhB B x mb s lv sv v0 v1 v2 v3 w hw hf.gh.fit9).mono ?_;rintro e w' ⟨rfl,sv',hs,fr⟩;exact⟨rfl,obS B x mb _ lv sv',⟨mb,_,lv,sv',rfl,hf.sweeps v0 v1 v2 v3,h40⟩,hs,fr,fun b e=>.inl e⟩
theorem zdq.read (h:zdq B x a o) (hw:o.at_ w) (key v0 v1 v2 v3:Int):
  Calls prog 25 #[.pointer (some ⟨x,0,none⟩),key,.agg #[ii v0,ii v1,ii v2,ii v3]] w fun e w'=>
   e=.returned (.tuple #[zbX (zj1 a key v0 v1 v2 v3).1,zbT (zj1 a key v0 v1 v2 v3).2])∧Below w w w':=by
 obtain⟨mb,s,lv,sv,rfl,hf,h40⟩:=h;have:=ziq B x mb s lv sv key v0 v1 v2 v3 w hw hf.gh.fit9;rw[hf.reads]at this;exact this
theorem zdq.applied (h:zdq B x a o) (hw:o.at_ w):Calls prog 26 #[.pointer (some ⟨x,0,none⟩)] w fun e w'=>e=.returned (.agg #[a.p0,a.p1,a.p2,a.p3])∧Below w w w':=by
 obtain⟨mb,s,lv,sv,rfl,hf,h40⟩:=h;have:=zj0 B x mb s lv sv w hw;rw[hf.rep.p0,hf.rep.p1,hf.rep.p2,hf.rep.p3]at this;exact this
theorem zdq.waits (h:zdq B x a o) (hw:o.at_ w):Calls prog 27 #[.pointer (some ⟨x,0,none⟩)] w fun e w'=>e=.returned (ii (a.ws.length:Nat))∧Below w w w':=by
 obtain⟨mb,s,lv,sv,rfl,hf,h40⟩:=h;have:=zlK B x mb s lv sv w hw;rw[hf.rep.wn]at this;exact this
theorem zdq.stable (h:zdq B x a o) (hw:o.at_ w) (n:Int):Calls prog 28 #[.pointer (some ⟨x,0,none⟩),n] w fun e w'=>
  e=.returned (.agg #[ii (zbR a n 0 a.p0),ii (zbR a n 1 a.p1),ii (zbR a n 2 a.p2),ii (zbR a n 3 a.p3)])∧Below w w w':=by
 obtain⟨mb,s,lv,sv,rfl,hf,h40⟩:=h;have:=zkL B x mb s lv sv n w hw;rw[hf.stabs,hf.stabs,hf.stabs,hf.stabs,hf.rep.p0,hf.rep.p1,hf.rep.p2,hf.rep.p3]at this;exact this
theorem zdq.many (h:zdq B x a o) (hw:o.at_ w):Calls prog 30 #[.pointer (some ⟨x,0,none⟩)] w fun e w'=>e=.returned (ii (a.held.length:Nat))∧Below w w w':=by
 obtain⟨mb,s,lv,sv,rfl,hf,h40⟩:=h;have:=zir B x mb s lv sv w hw hf.gh.fit9;have e:zmQ s.st 8=a.held.length:=by
  rw[hf.rep.rep.many];simp[zmQ]
 rw[e]at this;exact this
theorem zdq.all (h:zdq B x a o) (hw:o.at_ w):Calls prog 32 #[.pointer (some ⟨x,0,none⟩)] w fun e w'=>∃ A' c',e=.returned (.slice A' 8 c')∧zgX w' A' (zfG a)∧Below w w w':=by
 obtain⟨mb,s,lv,sv,rfl,hf,h40⟩:=h;have:=zjq B x mb s lv sv w hw hf.gh.fit9 hf.inv.dat
 rw[hf.told]at this;exact this
theorem zcM.full {s:SiP}(h:zbW s a){r:RsP}(e:r.r=a):ze1 s r:=zbW.full (by rw[e];exact h)
theorem zcM.take (h:zcM B y a o) (hw:o.at_ w) (t:TxP) (A:Option Addr) (c:Nat) (hws:zaN w A t.ws) (hwl:t.ws.length≤1000000):
  Calls prog 18 #[.pointer (some ⟨y,0,none⟩),MTx.val ⟨t,A,c⟩] w fun e w'=>e=.returned (ii (zb3 a t))∧Upd w w' o (zcM B y (zdO a t)):=by
 have h0:=h;obtain⟨r,lr,wA,wc,av,rfl,⟨s,hf⟩,hr,h40⟩:=h;have hF:=zcM.full hf hr;have hlen:r.ws.length≤900:=by
  have e:r.r.ws.length=r.ws.length:=by simp[RsP.r]
  rw[hr]at e;omega
 refine(zms B y wc r lr av wA t A c w hw hF.rin hlen hws hwl).mono ?_;rintro e w' ⟨rfl,g1,g2⟩;rw[hr]at g1 g2 ⊢;refine⟨rfl,?_⟩;by_cases he:zb3 a t=0
 ·obtain⟨b,c',r',lr',wA',wc',av',hb1,hs,hri,hre,hhas,fr,hwa⟩:=g2 he
  have e2:r'.r=zdO a t:=by unfold zdO;rw[yaj he];exact hre
  have he3:takeE s t=0:=by rw[hf.rep.takeE hf.inv t];exact he
  refine⟨obR B y r' lr' wA' wc' av',⟨r',lr',wA',wc',av',rfl,⟨_,hf.takes he3 none 0⟩,e2,zkd hf t h40⟩,hs,fr,?_⟩;rintro b2 (⟨o2,e⟩|⟨m,o2,hm,e⟩)
  ·exact .inr (hwa b2 o2 e)
  ·rcases hhas m hm with h3|h3
   ·exact .inl (.inr ⟨m,o2,h3,e⟩)
   ·rw[h3]at e
    simp only[yaz,yaU]at e;obtain⟨rfl,_⟩:=e;exact .inr hb1
 ·have e2:zdO a t=a:=by unfold zdO;rw[yad he]
  rw[e2];exact Upd.below (zmJ ..) h0 hw (g1 he)
theorem zcM.commit (h:zcM B y a o) (hw:o.at_ w) (now d0 d1 d2 d3:Int) (A:Option Addr) (c:Nat) (ws:List WrP) (hws:zaN w A ws) (hn:ws.length≤1000000):
  Calls prog 14 #[.pointer (some ⟨y,0,none⟩),now,.agg #[ii d0,ii d1,ii d2,ii d3],.slice A ws.length c] w fun e w'=>
   (za5 a now d0 d1 d2 d3 ws≠0→e=.returned (.tuple #[txZero,ii (za5 a now d0 d1 d2 d3 ws)])∧Below w w w')∧
   (za5 a now d0 d1 d2 d3 ws=0→∃ b' c',e=.returned (.tuple #[MTx.val ⟨za9 a now d0 d1 d2 d3 ws,some ⟨b',0,none⟩,c'⟩,ii 0])∧w.heap.size≤b'∧b'<w'.heap.size∧zaN w' (some ⟨b',0,none⟩) (za9 a now d0 d1 d2 d3 ws).ws∧
     ∃ o',zcM B y (zcc a (za9 a now d0 d1 d2 d3 ws)) o'∧o'.at_ w'∧zaO w w' o.own o'.own∧(∀ b,o'.dat b→o.dat b∨w.heap.size≤b)∧¬o'.own b'):=by
 obtain⟨r,lr,wA,wc,av,rfl,⟨s,hf⟩,hr,h40⟩:=h;have hF:=zcM.full hf hr;refine(zjx B y wc r lr av wA now d0 d1 d2 d3 A c ws w hw hF.rin.id hF.rin.ap hF.len9.1 hws hn).mono ?_;rintro e w' ⟨g1,g2⟩;rw[hr]at g1 g2;refine⟨g1,fun he=>?_⟩;obtain⟨b,c',lr',av',rfl,hs,fr,hb1,hb2,hw'⟩:=g2 he;obtain⟨e1,e2⟩:=hf.rep.commitE now d0 d1 d2 d3 ws;have hrt:0≤(za9 a now d0 d1 d2 d3 ws).site∧(za9 a now d0 d1 d2 d3 ws).site<4:=by
  rw[←e2];exact(zar (zcG hf.inv hf.top (by rw[e1];exact he)).1).1
 refine⟨b,c',rfl,hb1,hb2,hw',obR B y _ lr' wA wc av',⟨_,lr',wA,wc,av',rfl,⟨_,hf.commits he none 0⟩,?_,h40⟩,hs,fr,?_,fun e=>?_⟩
 ·rw[zeW _ _ hrt,hr]
 ·rintro b2 (⟨o2,e⟩|⟨m,o2,hm,e⟩)
  ·exact .inl (.inl ⟨o2,e⟩)
  ·rcases zfj hm with h3|h3
   ·exact .inl (.inr ⟨m,o2,h3,e⟩)
   ·rw[h3]at e
    simp only[yaz,yaU]at e;obtain⟨rfl,_⟩:=e;exact .inr hb1
 ·exact((zcp.dat hs _ (.inl (by rw[zd7];exact yax.2 (.inr (yaW.2 rfl))))).2 b 0 rfl).2 e
theorem zcM.read (h:zcM B y a o) (hw:o.at_ w) (key v0 v1 v2 v3:Int):
  Calls prog 24 #[.pointer (some ⟨y,0,none⟩),key,.agg #[ii v0,ii v1,ii v2,ii v3]] w fun e w'=>
   e=.returned (.tuple #[zbX (zj1 a key v0 v1 v2 v3).1,ii (zj1 a key v0 v1 v2 v3).2])∧Below w w w':=by
 obtain⟨r,lr,wA,wc,av,rfl,⟨s,hf⟩,hr,h40⟩:=h;have hF:=zcM.full hf hr;have:=zhM B y wc r lr av wA key v0 v1 v2 v3 w hw hF.site_ok (by have:=hF.len9;omega);rw[hF.read,hf.reads]at this;exact this
theorem zcM.stable (h:zcM B y a o) (hw:o.at_ w) (n:Int):Calls prog 29 #[.pointer (some ⟨y,0,none⟩),n] w fun e w'=>
  e=.returned (.agg #[ii (zbR a n 0 a.p0),ii (zbR a n 1 a.p1),ii (zbR a n 2 a.p2),ii (zbR a n 3 a.p3)])∧Below w w w':=by
 obtain⟨r,lr,wA,wc,av,rfl,⟨s,hf⟩,hr,h40⟩:=h;have:=zju B y wc r lr wA av n w hw;subst hr;exact this
theorem zcM.missing (h:zcM B y a o) (hw:o.at_ w) (v0 v1 v2 v3:Int):
  Calls prog 36 #[.pointer (some ⟨y,0,none⟩),.agg #[ii v0,ii v1,ii v2,ii v3]] w fun e w'=>∃ (A':Option Addr) (c':Nat) (outs:List MTx),e=.returned (.slice A' outs.length c')∧outs.map (·.t)=zdK a v0 v1 v2 v3∧TxsAt w' A' outs∧(∀ m∈outs,∀ b o2,m.A=some ⟨b,o2,none⟩→o.dat b)∧(∀ b o2,A'=some ⟨b,o2,none⟩→w.heap.size≤b)∧Below w w w':=by
 obtain⟨r,lr,wA,wc,av,rfl,⟨s,hf⟩,hr,h40⟩:=h;have hF:=zcM.full hf hr;refine(ziH B y wc r lr wA av v0 v1 v2 v3 w hw hF.rlg (by have:=hF.len9;omega)).mono ?_;rintro e w' ⟨A',c',rfl,h2,h3,h5⟩;refine⟨A',c',_,rfl,?_,⟨h2,fun b o e=>(h3 b o e).2,fun m hm=>?_⟩,fun m hm b o2 e=>.inr ⟨m,o2,.inl (ybs.1 hm).1,e⟩,fun b o2 e=>(h3 b o2 e).1,h5⟩
 ·subst hr
  unfold zdK RsP.r;simp only;rw[List.filter_map];rfl
 ·exact((zcp.dat hw) m (.inl (ybs.1 hm).1)).1.below h5
theorem zcM.told (h:zcM B y a o) (hw:o.at_ w):Calls prog 33 #[.pointer (some ⟨y,9,none⟩),.agg #[ii a.p0,ii a.p1,ii a.p2,ii a.p3]] w fun e w'=>∃ A' c',e=.returned (.slice A' 8 c')∧zgX w' A' (zfG a)∧Below w w w':=by
 obtain⟨r,lr,wA,wc,av,rfl,⟨s,hf⟩,hr,h40⟩:=h;have hF:=zcM.full hf hr;have hw2:zcp w B y r lr wA wc av:=hw;have:=zmr y 9 B r.L av a.p0 a.p1 a.p2 a.p3 (fun k=>zeb a.p0 a.p1 a.p2 a.p3 a.held k) w hw2.sto hF.site_ok (by have:=hF.len9;omega) (fun k _=>by subst hr;rfl) (fun k _=>by
  rw[hf.rep.rep.read];exact yac (ziB hf.inv.dat _ _ _ _ _) zO)
 exact this
theorem zcM.sweep (h:zcM B y a o) (hw:o.at_ w) (v0 v1 v2 v3:Int) (hv:v0≤a.p0∧v1≤a.p1∧v2≤a.p2∧v3≤a.p3):
  Calls prog 22 #[.pointer (some ⟨y,9,none⟩),.agg #[ii v0,ii v1,ii v2,ii v3]] w fun e w'=>e=.returned (.tuple #[])∧Upd w w' o (zcM B y (zc6 a v0 v1 v2 v3)):=by
 obtain⟨r,lr,wA,wc,av,rfl,⟨s,hf⟩,hr,h40⟩:=h;have hF:=zcM.full hf hr;have hw2:zcp w B y r lr wA wc av:=hw;have hB:B≤w.heap.size:=yac hw2.bx (ybw hw2.sto.lt);refine(zk6 y 9 B r.L av v0 v1 v2 v3 w hw2.sto hF.site_ok (by have:=hF.len9;omega) hB).mono ?_;rintro e w' ⟨rfl,av',hs,fr⟩;obtain⟨h1,h2⟩:=hw2.store hs fr;refine⟨rfl,obR B y _ lr wA wc av',⟨_,lr,wA,wc,av',rfl,⟨_,hf.sweeps v0 v1 v2 v3⟩,?_,h40⟩,h1,h2,fun b e=>.inl e⟩;subst hr;obtain⟨k0,k1,k2,k3⟩:=hv;unfold zc6;rw[yca k0,yca k1,yca k2,yca k3];rfl
theorem zcM.cells (h:zcM B y a o) (hw:o.at_ w):y<w.heap.size∧w.cell? ⟨y,0,none⟩=some (ii a.id)∧w.cell? ⟨y,1,none⟩=some (ii a.p0)∧w.cell? ⟨y,2,none⟩=some (ii a.p1)∧w.cell? ⟨y,3,none⟩=some (ii a.p2)∧w.cell? ⟨y,4,none⟩=some (ii a.p3)∧
  (∃ A c,w.cell? ⟨y,8,none⟩=some (.slice A a.ws.length c))∧(∃ A c,w.cell? ⟨y,9,none⟩=some (.slice A a.held.length c))∧(∀ k,k<16→w.cell? ⟨y,10+k,none⟩=some (ii (a.ot k)))∧∀ k,w.frozen? ⟨y,k,none⟩=false:=by
 obtain⟨r,lr,wA,wc,av,rfl,⟨s,hf⟩,hr,h40⟩:=h;have hw2:zcp w B y r lr wA wc av:=hw;subst hr;refine⟨hw2.sto.lt,hw2.c0,hw2.c1,hw2.c2,hw2.c3,hw2.c4,⟨wA,wc,?_⟩,?_,hw2.oth,hw2.frz⟩
 ·have e:r.r.ws.length=r.ws.length:=by simp[RsP.r]
  rw[e];exact hw2.c8
 ·obtain⟨A,c,rfl⟩:=zaP hw2.sto.own
  exact⟨A,c,hw2.sto.cel⟩
end
end Go.Proofs.YtbopfhbeegkkaabGreatDoor
