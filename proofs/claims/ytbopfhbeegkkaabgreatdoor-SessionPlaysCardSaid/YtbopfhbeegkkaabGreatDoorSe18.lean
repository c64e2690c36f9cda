/- Part 18 of a proof: lemmas and contracts that other parts use. -/
import Derived.Test.YtbopfhbeegkkaabGreatDoorSe17
set_option linter.unusedVariables false
set_option linter.unusedSimpArgs false
set_option linter.constructorNameAsVariable false
namespace Go.Proofs.YtbopfhbeegkkaabGreatDoor
open Go.RowKit
def commitE (s:SiP) (now d0 d1 d2 d3:Int) (ws:List WrP):Int:=
 if rightWs ws=false then 1 else if rgtB d0 d1 d2 d3=false∨covD s.p0 s.p1 s.p2 s.p3 d0 d1 d2 d3=false then 10 else if 200≤s.log.length then 12 else nextE s.lw s.lc now
def commitT (s:SiP) (now d0 d1 d2 d3:Int) (ws:List WrP):TxP:=
 ⟨s.id,s.at s.id+1,nextW s.lw now,nextC s.lw s.lc now,if s.id=0 then s.p0 else d0,if s.id=1 then s.p1 else d1,if s.id=2 then s.p2 else d2,if s.id=3 then s.p3 else d3,ws⟩
def CommitPost (B x mb:Nat) (s:SiP) (lv:Value) (sv:Nat→Value) (n:Int) (T:TxP) (w:World) (e:Ending) (w':World):Prop:=
 (n≠0→e=.returned (.tuple #[txZero,errV n])∧Below w.heap.size w w')∧
 (n=0→∃ A' c' A2 c2 lv' sv',e=.returned (.tuple #[MTx.val ⟨T,A',c'⟩,.nilIface])∧SiAt w' B x (applyP s ⟨T,A2,c2⟩) mb lv' sv'∧SiFr w w' (SiOwn x mb lv sv) (SiOwn x mb lv' sv')∧(∀ b o,A2=some ⟨b,o,none⟩→w.heap.size≤b)∧WsAt w' A' T.ws∧∃ b,A'=some ⟨b,0,none⟩∧w.heap.size≤b∧¬SiOwn x mb lv' sv' b)
theorem rightWs_is {ws:List WrP} {b:Bool} (h:rightWs ws=b) (A:Option Addr) (c:Nat) (w:World) (hn:ws.length≤1000000) (hws:WsAt w A ws):Calls Tryz.prog 76 #[.slice A ws.length c] w fun e w'=>e=.returned (.bool b)∧Below w.heap.size w w':=by
 subst h;exact rightWs_any A c ws w hn hws
theorem covers_is {a0 a1 a2 a3 b0 b1 b2 b3:Int} {b:Bool} (h:covD a0 a1 a2 a3 b0 b1 b2 b3=b) (w:World):
  Calls Tryz.prog 55 #[.agg #[.int .i64 a0,.int .i64 a1,.int .i64 a2,.int .i64 a3],.agg #[.int .i64 b0,.int .i64 b1,.int .i64 b2,.int .i64 b3]] w fun e w'=>e=.returned (.bool b)∧Below w.heap.size w w':=by
 subst h;exact covers_any a0 a1 a2 a3 b0 b1 b2 b3 w
theorem put9_grown (w:World) (b:Nat) (u0 u1 u2 u3 u4 u5 u6 u7 u8:Value):w.grownBy (put9 w b u0 u1 u2 u3 u4 u5 u6 u7 u8) (some b):=
 ((((((((grown_set _ b 0 u0).trans (grown_set _ b 1 u1)).trans (grown_set _ b 2 u2)).trans (grown_set _ b 3 u3)).trans (grown_set _ b 4 u4)).trans (grown_set _ b 5 u5)).trans (grown_set _ b 6 u6)).trans (grown_set _ b 7 u7)).trans (grown_set _ b 8 u8)
theorem put9_size (w:World) (b:Nat) (u0 u1 u2 u3 u4 u5 u6 u7 u8:Value):(put9 w b u0 u1 u2 u3 u4 u5 u6 u7 u8).heap.size=w.heap.size:=by
 unfold put9;simp [World.setCell]
theorem SiFr.box {w W W':World} {own own':Nat→Prop} {q:Nat} (h:SiFr w W own own') (hg:W.grownBy W' (some q)) (hq:w.heap.size≤q):SiFr w W' own own':=
 ⟨hg.os.trans h.os,hg.tape.trans h.tape,hg.output.trans h.output,Nat.le_trans h.size hg.size,fun k hk hn=>(hg.block k (Nat.lt_of_lt_of_le hk h.size) (by simp;omega)).trans (h.block k hk hn),h.own⟩
theorem SiFr.andBelow {w W W':World} {own own':Nat→Prop} (h:SiFr w W own own') (hb:Below W.heap.size W W'):SiFr w W' own own':=h.trans (SiFr.of_below own' hb)
set_option maxRecDepth 20000 in
set_option maxHeartbeats 16000000 in
theorem commit_good (B x mb:Nat) (s:SiP) (lv:Value) (sv:Nat→Value) (now d0 d1 d2 d3:Int) (A:Option Addr) (c:Nat) (ws:List WrP) (w:World) (h:SiAt w B x s mb lv sv) (hi:Inv s) (hws:WsAt w A ws) (hn:ws.length≤1000000)
  (hrw:rightWs ws=true) (hrv:rgtB d0 d1 d2 d3=true) (hcv:covD s.p0 s.p1 s.p2 s.p3 d0 d1 d2 d3=true) (h200:¬200≤s.log.length) (hnx:nextE s.lw s.lc now=0):
  Calls Tryz.prog 15 #[.pointer (some ⟨x,0,none⟩),.int .i64 now,.agg #[.int .i64 d0,.int .i64 d1,.int .i64 d2,.int .i64 d3],.slice A ws.length c] w
   (fun e w'=>∃ A' c' A2 c2 lv' sv',e=.returned (.tuple #[MTx.val ⟨commitT s now d0 d1 d2 d3 ws,A',c'⟩,.nilIface])∧SiAt w' B x (applyP s ⟨commitT s now d0 d1 d2 d3 ws,A2,c2⟩) mb lv' sv'∧SiFr w w' (SiOwn x mb lv sv) (SiOwn x mb lv' sv')∧(∀ b o,A2=some ⟨b,o,none⟩→w.heap.size≤b)∧WsAt w' A' (commitT s now d0 d1 d2 d3 ws).ws∧∃ b,A'=some ⟨b,0,none⟩∧w.heap.size≤b∧¬SiOwn x mb lv' sv' b):=by
 have HS:=hidp h
 have HI:=hidp hi
 have HWS:=hidp hws
 obtain ⟨Al,cl,hlv⟩:=own_form h.row
 have c7:=h.c7
 rw [hlv] at c7
 have HLV:=hidp hlv
 obtain ⟨c1,c2,c3,c4⟩:=h.vec
 have c5:=h.c5
 have c6:=h.c6
 have c0:=h.c0
 haveI:SzGe (x+1) w:=⟨h.sto.lt⟩
 have HRW:=hidp fun W (hB:Below w.heap.size w W)=>rightWs_is hrw A c W hn (HWS.out.below hB)
 have HRV:=hidp fun W=>right_is hrv W
 have HCV:=hidp fun W=>covers_is hcv W
 have hd3:decide ((200:Int)≤(s.log.length:Int))=false:=decide_eq_false (by omega)
 have HNX:=hidp fun W=>next_is s.lw s.lc now W
 have H200:=hidp h200
 have HRW2:=hidp hrw
 rw [hnx] at HNX
 have hev:errV 0=.nilIface:=rfl
 simp only [if_pos,hev] at HNX
 have hid0:=hi.id
 obtain ⟨k,hk⟩:=Int.eq_ofNat_of_zero_le hid0.1
 have hk4:(k:Int)<4:=by omega
 have hk0:(0:Int)≤(k:Int):=by omega
 rw [hk] at c0
 have ca:=h.apc (k:=k) (by omega)
 obtain ⟨ap,hape⟩:∃ ap,s.at (k:Int)=ap:=⟨_,rfl⟩
 have hap:=hi.ap.at (k:Int)
 rw [hape] at ca hap
 obtain ⟨hap0,hap1⟩:=hap
 have hwr:IntKind.i64.wrap (ap+1)=ap+1:=by rw [IntKind.wrap_i64];omega
 have HK:=hidp hk
 have HAP:=hidp hape
 generalize hNW:nextW s.lw now=NW at HNX
 generalize hNC:nextC s.lw s.lc now=NC at HNX
 have HNW:=hidp hNW
 have HNC:=hidp hNC
 clear h hi hlv hrw hrv hcv hws h200 hnx hev hid0 hk hape hNW hNC
 generalize hT:commitT s now d0 d1 d2 d3 ws=T
 have HT0:=hidp hT
 clear hT
 go_enter Tryz.func15,Tryz.ntmps15
 go_wp2_with fail
 go_at_call 76
 refine (HRW.out _ (by repeat (first | exact Below.refl _ _ | refine blw_alloc ?_ | refine blw_plus ?_ | refine Below.drew ?_))).mono ?_
 rintro e w' ⟨rfl,hb⟩
 obtain ⟨x1,rfl⟩:=wplus_of_below hb
 clear hb
 go_wp2_with fail
 refine wp_region_plus (by kernel_rfl) (by kernel_rfl) ?_
 repeat (first | go_big_quiet_skip | (go_big_quiet_want;go_big_quiet_op;first | go_big_quiet_on | (apply Exists.intro;refine ⟨fun _=>?_,?_⟩;(first | (go_at_call 77;exact Calls.plus_of (HRV.out _)) | (go_at_call 55;exact Calls.plus_of (HCV.out _)));go_big_quiet_on)))
 refine wpQuiet_nil ?_
 rintro _ ⟨x2,rfl⟩
 go_wp2_with fail
 go_at_call 78
 refine (HNX.out _).mono ?_
 rintro e w' ⟨rfl,hb⟩
 obtain ⟨x3,rfl⟩:=wplus_of_below hb
 clear hb
 go_wp2_with fail
 have HSZ:Hid ((((wplus (wplus (wplus ((w.alloc (Obj.cells #[.int .i64 d0,.int .i64 d1,.int .i64 d2,.int .i64 d3] 32)).alloc (Obj.cells #[.int .i64 0,.int .i64 0,.int .i64 0,.int .i64 0,.int .i64 0,.int .i64 0,.int .i64 0,.int .i64 0,.slice none 0 0] 44)) x1) x2) x3)).heap.size)=w.heap.size+1+1+x1.blocks.size+x2.blocks.size+x3.blocks.size):=hidp (by simp)
 have HBC:Hid (Below w.heap.size w ((wplus (wplus (wplus ((w.alloc (Obj.cells #[.int .i64 d0,.int .i64 d1,.int .i64 d2,.int .i64 d3] 32)).alloc (Obj.cells #[.int .i64 0,.int .i64 0,.int .i64 0,.int .i64 0,.int .i64 0,.int .i64 0,.int .i64 0,.int .i64 0,.slice none 0 0] 44)) x1) x2) x3).alloc (.cells #[.int .i64 NW,.int .i64 NC] 34))):=hidp (by repeat (first | exact Below.refl _ _ | refine blw_alloc ?_ | refine blw_plus ?_ | refine Below.drew ?_))
 have HQ2:Hid (((wplus (wplus (wplus ((w.alloc (Obj.cells #[.int .i64 d0,.int .i64 d1,.int .i64 d2,.int .i64 d3] 32)).alloc (Obj.cells #[.int .i64 0,.int .i64 0,.int .i64 0,.int .i64 0,.int .i64 0,.int .i64 0,.int .i64 0,.int .i64 0,.slice none 0 0] 44)) x1) x2) x3).alloc (.cells #[.int .i64 NW,.int .i64 NC] 34)).heap[w.heap.size]?=some (Obj.cells #[.int .i64 d0,.int .i64 d1,.int .i64 d2,.int .i64 d3] 32)):=hidp (by
  refine ((show Below (w.alloc (Obj.cells #[.int .i64 d0,.int .i64 d1,.int .i64 d2,.int .i64 d3] 32)).heap.size (w.alloc (Obj.cells #[.int .i64 d0,.int .i64 d1,.int .i64 d2,.int .i64 d3] 32)) _ from zB).block _ (by simp)).trans (blk_new rfl _))
 have HQ3:Hid (((wplus (wplus (wplus ((w.alloc (Obj.cells #[.int .i64 d0,.int .i64 d1,.int .i64 d2,.int .i64 d3] 32)).alloc (Obj.cells #[.int .i64 0,.int .i64 0,.int .i64 0,.int .i64 0,.int .i64 0,.int .i64 0,.int .i64 0,.int .i64 0,.slice none 0 0] 44)) x1) x2) x3).alloc (.cells #[.int .i64 NW,.int .i64 NC] 34)).heap[w.heap.size+1]?=some (Obj.cells #[.int .i64 0,.int .i64 0,.int .i64 0,.int .i64 0,.int .i64 0,.int .i64 0,.int .i64 0,.int .i64 0,.slice none 0 0] 44)):=hidp (by
  refine ((show Below ((w.alloc (Obj.cells #[.int .i64 d0,.int .i64 d1,.int .i64 d2,.int .i64 d3] 32)).alloc (Obj.cells #[.int .i64 0,.int .i64 0,.int .i64 0,.int .i64 0,.int .i64 0,.int .i64 0,.int .i64 0,.int .i64 0,.slice none 0 0] 44)).heap.size ((w.alloc (Obj.cells #[.int .i64 d0,.int .i64 d1,.int .i64 d2,.int .i64 d3] 32)).alloc (Obj.cells #[.int .i64 0,.int .i64 0,.int .i64 0,.int .i64 0,.int .i64 0,.int .i64 0,.int .i64 0,.int .i64 0,.slice none 0 0] 44)) _ from zB).block _ (by simp)).trans (blk_new (by simp) _))
 have HQ4:Hid (((wplus (wplus (wplus ((w.alloc (Obj.cells #[.int .i64 d0,.int .i64 d1,.int .i64 d2,.int .i64 d3] 32)).alloc (Obj.cells #[.int .i64 0,.int .i64 0,.int .i64 0,.int .i64 0,.int .i64 0,.int .i64 0,.int .i64 0,.int .i64 0,.slice none 0 0] 44)) x1) x2) x3).alloc (.cells #[.int .i64 NW,.int .i64 NC] 34)).heap[w.heap.size+1+1+x1.blocks.size+x2.blocks.size+x3.blocks.size]?=some (.cells #[.int .i64 NW,.int .i64 NC] 34)):=hidp (blk_new HSZ.out.symm _)
 clear c0 c1 c2 c3 c5 c6 c7 ca HRV HCV HNX hd3 HRW
 have HTB:Hid (w.heap.size+1+1≤w.heap.size+1+1+x1.blocks.size+x2.blocks.size+x3.blocks.size):=hidp (by omega)
 generalize w.heap.size+1+1+x1.blocks.size+x2.blocks.size+x3.blocks.size=tb at *
 generalize (wplus (wplus (wplus ((w.alloc (Obj.cells #[.int .i64 d0,.int .i64 d1,.int .i64 d2,.int .i64 d3] 32)).alloc (Obj.cells #[.int .i64 0,.int .i64 0,.int .i64 0,.int .i64 0,.int .i64 0,.int .i64 0,.int .i64 0,.int .i64 0,.slice none 0 0] 44)) x1) x2) x3).alloc (.cells #[.int .i64 NW,.int .i64 NC] 34)=W at *
 clear HSZ
 have HSW:=hidp (HS.out.below HBC.out)
 have c0:=HSW.out.c0
 rw [HK.out] at c0
 have ca:=HSW.out.apc (k:=k) (by omega)
 rw [HAP.out] at ca
 haveI:SzGe (x+1) W:=⟨HSW.out.sto.lt⟩
 haveI:SzGe (w.heap.size+1) W:=⟨lt_blk HQ2.out⟩
 haveI:SzGe (w.heap.size+1+1) W:=⟨lt_blk HQ3.out⟩
 haveI:SzGe (tb+1) W:=⟨lt_blk HQ4.out⟩
 obtain ⟨zu,hzu⟩:∃ zu,W.cell? ⟨w.heap.size,k,none⟩=some (.int .i64 zu):=by
  have hc:k=0∨k=1∨k=2∨k=3:=by omega
  rcases hc with rfl | rfl | rfl | rfl <;> exact ⟨_,cell_blk HQ2.out _⟩
 have hzf:=frozen_blk HQ2.out k
 have q1:=cell_blk HQ4.out 0;have q2:=cell_blk HQ4.out 1
 simp only [zC,zD,zE] at q1 q2
 go_wp2_with fail
 refine wp_region_plus_tail 13 (by kernel_rfl) (by kernel_rfl) ?_
 simp only [List.take_succ_cons,List.take_zero,List.drop_succ_cons,List.drop_zero]
 repeat (first | go_big_quiet_skip | (go_big_quiet_want;go_big_quiet_op;go_big_quiet_on))
 refine wpQuiet_nil ?_
 rintro _ ⟨x4,rfl⟩
 go_wp2_with fail
 have HBC2:Hid (Below w.heap.size w (wplus (W.setCell ⟨w.heap.size,k,none⟩ (.int .i64 ap)) x4)):=hidp (by
  have h1:Below w.heap.size w (W.setCell ⟨w.heap.size,k,none⟩ (.int .i64 ap)):=Below.grown HBC.out (grown_set W w.heap.size k _) HBC.out.size (fun j e=>by simp at e;omega)
  exact h1.trans ((below_wplus _ _).mono h1.size))
 have hgs:=grown_set W w.heap.size k (.int .i64 ap)
 have HP2:Hid ((wplus (W.setCell ⟨w.heap.size,k,none⟩ (.int .i64 ap)) x4).heap[w.heap.size]?=some (.cells #[.int .i64 (if k=0 then ap else d0),.int .i64 (if k=1 then ap else d1),.int .i64 (if k=2 then ap else d2),.int .i64 (if k=3 then ap else d3)] 32)):=hidp (by
  rw [wplus_heap_lt _ _ _ (by have:=lt_blk (blk_set HQ2.out k (.int .i64 ap));exact this),blk_set HQ2.out k (.int .i64 ap)]
  have hc:k=0∨k=1∨k=2∨k=3:=by omega
  rcases hc with rfl | rfl | rfl | rfl <;> rfl)
 have HP3:Hid ((wplus (W.setCell ⟨w.heap.size,k,none⟩ (.int .i64 ap)) x4).heap[w.heap.size+1]?=some (Obj.cells #[.int .i64 0,.int .i64 0,.int .i64 0,.int .i64 0,.int .i64 0,.int .i64 0,.int .i64 0,.int .i64 0,.slice none 0 0] 44)):=hidp (by
  have e:=(hgs.block (w.heap.size+1) (lt_blk HQ3.out) (by simp)).trans HQ3.out
  rw [wplus_heap_lt _ _ _ (lt_blk e)];exact e)
 have HP4:Hid ((wplus (W.setCell ⟨w.heap.size,k,none⟩ (.int .i64 ap)) x4).heap[tb]?=some (.cells #[.int .i64 NW,.int .i64 NC] 34)):=hidp (by
  have ht:=HTB.out
  have e:=(hgs.block tb (lt_blk HQ4.out) (by simp;omega)).trans HQ4.out
  rw [wplus_heap_lt _ _ _ (lt_blk e)];exact e)
 clear hgs hzu hzf q1 q2 c0 ca
 generalize wplus (W.setCell ⟨w.heap.size,k,none⟩ (.int .i64 ap)) x4=W2 at *
 clear HQ2 HQ3 HQ4 HSW HBC
 have HDD:Hid (commitT s now d0 d1 d2 d3 ws=⟨(k:Int),ap+1,NW,NC,if k=0 then ap else d0,if k=1 then ap else d1,if k=2 then ap else d2,if k=3 then ap else d3,ws⟩):=hidp (by
  have hk:=HK.out;have ha:=HAP.out
  unfold commitT
  rw [HNW.out,HNC.out,hk,ha]
  have hc:k=0∨k=1∨k=2∨k=3:=by omega
  rcases hc with rfl | rfl | rfl | rfl <;> simp [SiP.at,atV] at ha ⊢ <;> first | exact ha | skip)
 generalize (if k=0 then ap else d0)=f0 at *
 generalize (if k=1 then ap else d1)=f1 at *
 generalize (if k=2 then ap else d2)=f2 at *
 generalize (if k=3 then ap else d3)=f3 at *
 have HSW:=hidp (HS.out.below HBC2.out)
 have c0:=HSW.out.c0
 rw [HK.out] at c0
 have ca:=HSW.out.apc (k:=k) (by omega)
 rw [HAP.out] at ca
 haveI:SzGe (x+1) W2:=⟨HSW.out.sto.lt⟩
 haveI:SzGe (w.heap.size+1) W2:=⟨lt_blk HP2.out⟩
 haveI:SzGe (w.heap.size+1+1) W2:=⟨lt_blk HP3.out⟩
 haveI:SzGe (tb+1) W2:=⟨lt_blk HP4.out⟩
 have q1:=cell_blk HP4.out 0;have q2:=cell_blk HP4.out 1
 have g0:=cell_blk HP2.out 0;have g1:=cell_blk HP2.out 1;have g2:=cell_blk HP2.out 2;have g3:=cell_blk HP2.out 3
 simp only [zC,zD,zE] at q1 q2 g0 g1 g2 g3
 obtain ⟨hw1,hw5⟩:1≤ws.length∧ws.length≤5:=by
  have:=HRW2.out
  unfold rightWs at this
  simp only [Bool.and_eq_true,decide_eq_true_eq] at this
  exact ⟨this.1.2,this.2⟩
 have HCL:=hidp fun X (hB:Below w.heap.size w X)=>sclone_any A c ws X (HWS.out.below hB) hw1 (by omega)
 go_region_held3 (fun X:World=>X.cell? ⟨x,0,none⟩=some (.int .i64 (k:Int))∧X.cell? ⟨x,1+k,none⟩=some (.int .i64 ap)∧X.cell? ⟨tb,0,none⟩=some (.int .i64 NW)∧X.cell? ⟨tb,1,none⟩=some (.int .i64 NC)∧X.cell? ⟨w.heap.size,0,none⟩=some (.int .i64 f0)∧X.cell? ⟨w.heap.size,1,none⟩=some (.int .i64 f1)∧X.cell? ⟨w.heap.size,2,none⟩=some (.int .i64 f2)∧X.cell? ⟨w.heap.size,3,none⟩=some (.int .i64 f3)) ((repeat' apply And.intro) <;> simp [go_sem, *]) (
  (go_at_call 79
   refine (HCL.out _ (HBC2.out.trans (Below.mono (B:=W2.heap.size) (by repeat (first | exact Below.refl _ _ | refine blw_alloc ?_ | refine blw_plus ?_ | refine Below.drew ?_)) HBC2.out.size))).mono ?_
   rintro e wc ⟨A',c',rfl,hwc,hbc,bb,rfl,hbb⟩
   obtain ⟨x9,rfl⟩:=wplus_of_below hbc))
 clear q1 q2 g0 g1 g2 g3 c0 ca hwr HCL
 all_goals
  first
   | (have HBC3:Hid (Below w.heap.size w ((wplus W2.drew x9).alloc (Obj.cells #[.int .i64 (k:Int),.int .i64 (ap+1),.int .i64 NW,.int .i64 NC,.int .i64 f0,.int .i64 f1,.int .i64 f2,.int .i64 f3,.slice (some ⟨bb,0,none⟩) ws.length c'] 44))):=hidp (HBC2.out.trans (Below.mono (B:=W2.heap.size) (by repeat (first | exact Below.refl _ _ | refine blw_alloc ?_ | refine blw_plus ?_ | refine Below.drew ?_)) HBC2.out.size))
      have HT3:Hid (((wplus W2.drew x9).alloc (Obj.cells #[.int .i64 (k:Int),.int .i64 (ap+1),.int .i64 NW,.int .i64 NC,.int .i64 f0,.int .i64 f1,.int .i64 f2,.int .i64 f3,.slice (some ⟨bb,0,none⟩) ws.length c'] 44)).heap[W2.heap.size+x9.blocks.size]?=some (Obj.cells #[.int .i64 (k:Int),.int .i64 (ap+1),.int .i64 NW,.int .i64 NC,.int .i64 f0,.int .i64 f1,.int .i64 f2,.int .i64 f3,.slice (some ⟨bb,0,none⟩) ws.length c'] 44)):=hidp (blk_new (by simp) _)
      have HW3:Hid (WsAt ((wplus W2.drew x9).alloc (Obj.cells #[.int .i64 (k:Int),.int .i64 (ap+1),.int .i64 NW,.int .i64 NC,.int .i64 f0,.int .i64 f1,.int .i64 f2,.int .i64 f3,.slice (some ⟨bb,0,none⟩) ws.length c'] 44)) (some ⟨bb,0,none⟩) ws):=hidp (hwc.below (blw_alloc (Below.refl _ _)))
      have HR3:Hid (((wplus W2.drew x9).alloc (Obj.cells #[.int .i64 (k:Int),.int .i64 (ap+1),.int .i64 NW,.int .i64 NC,.int .i64 f0,.int .i64 f1,.int .i64 f2,.int .i64 f3,.slice (some ⟨bb,0,none⟩) ws.length c'] 44)).heap[w.heap.size+1]?=some (Obj.cells #[.int .i64 0,.int .i64 0,.int .i64 0,.int .i64 0,.int .i64 0,.int .i64 0,.int .i64 0,.int .i64 0,.slice none 0 0] 44)):=hidp (((show Below W2.heap.size W2 ((wplus W2.drew x9).alloc (Obj.cells #[.int .i64 (k:Int),.int .i64 (ap+1),.int .i64 NW,.int .i64 NC,.int .i64 f0,.int .i64 f1,.int .i64 f2,.int .i64 f3,.slice (some ⟨bb,0,none⟩) ws.length c'] 44)) from zB).block _ (lt_blk HP3.out)).trans HP3.out)
      have HL3:Hid (w.heap.size+1<W2.heap.size+x9.blocks.size∧w.heap.size+1<bb):=hidp (by have h1:=lt_blk HP3.out;have h2:W2.heap.size≤bb:=hbb;omega)
      clear hbc hwc hbb
      generalize (wplus W2.drew x9).alloc (Obj.cells #[.int .i64 (k:Int),.int .i64 (ap+1),.int .i64 NW,.int .i64 NC,.int .i64 f0,.int .i64 f1,.int .i64 f2,.int .i64 f3,.slice (some ⟨bb,0,none⟩) ws.length c'] 44)=W3 at *
      generalize W2.heap.size+x9.blocks.size=tq at *)
   | (have HBC3:Hid (Below w.heap.size w (wplus (W2.alloc (Obj.cells #[.int .i64 (k:Int),.int .i64 (ap+1),.int .i64 NW,.int .i64 NC,.int .i64 f0,.int .i64 f1,.int .i64 f2,.int .i64 f3,.slice (some ⟨bb,0,none⟩) ws.length c'] 44)).drew x9)):=hidp (HBC2.out.trans (Below.mono (B:=W2.heap.size) (by repeat (first | exact Below.refl _ _ | refine blw_alloc ?_ | refine blw_plus ?_ | refine Below.drew ?_)) HBC2.out.size))
      have HT3:Hid ((wplus (W2.alloc (Obj.cells #[.int .i64 (k:Int),.int .i64 (ap+1),.int .i64 NW,.int .i64 NC,.int .i64 f0,.int .i64 f1,.int .i64 f2,.int .i64 f3,.slice (some ⟨bb,0,none⟩) ws.length c'] 44)).drew x9).heap[W2.heap.size]?=some (Obj.cells #[.int .i64 (k:Int),.int .i64 (ap+1),.int .i64 NW,.int .i64 NC,.int .i64 f0,.int .i64 f1,.int .i64 f2,.int .i64 f3,.slice (some ⟨bb,0,none⟩) ws.length c'] 44)):=hidp (((show Below (W2.alloc (Obj.cells #[.int .i64 (k:Int),.int .i64 (ap+1),.int .i64 NW,.int .i64 NC,.int .i64 f0,.int .i64 f1,.int .i64 f2,.int .i64 f3,.slice (some ⟨bb,0,none⟩) ws.length c'] 44)).heap.size (W2.alloc (Obj.cells #[.int .i64 (k:Int),.int .i64 (ap+1),.int .i64 NW,.int .i64 NC,.int .i64 f0,.int .i64 f1,.int .i64 f2,.int .i64 f3,.slice (some ⟨bb,0,none⟩) ws.length c'] 44)) (wplus (W2.alloc (Obj.cells #[.int .i64 (k:Int),.int .i64 (ap+1),.int .i64 NW,.int .i64 NC,.int .i64 f0,.int .i64 f1,.int .i64 f2,.int .i64 f3,.slice (some ⟨bb,0,none⟩) ws.length c'] 44)).drew x9) from zB).block _ (by simp)).trans (blk_new rfl _))
      have HW3:Hid (WsAt (wplus (W2.alloc (Obj.cells #[.int .i64 (k:Int),.int .i64 (ap+1),.int .i64 NW,.int .i64 NC,.int .i64 f0,.int .i64 f1,.int .i64 f2,.int .i64 f3,.slice (some ⟨bb,0,none⟩) ws.length c'] 44)).drew x9) (some ⟨bb,0,none⟩) ws):=hidp (hwc.move (by
       intro b' o' e
       obtain ⟨rfl,rfl⟩:b'=bb∧o'=0:=by simp at e;exact ⟨e.1.symm,e.2.symm⟩
       simp at hbb
       rw [wplus_heap_ge _ _ _ (by simp;omega),wplus_heap_ge _ _ _ (by simp;omega)]
       simp))
      have HR3:Hid ((wplus (W2.alloc (Obj.cells #[.int .i64 (k:Int),.int .i64 (ap+1),.int .i64 NW,.int .i64 NC,.int .i64 f0,.int .i64 f1,.int .i64 f2,.int .i64 f3,.slice (some ⟨bb,0,none⟩) ws.length c'] 44)).drew x9).heap[w.heap.size+1]?=some (Obj.cells #[.int .i64 0,.int .i64 0,.int .i64 0,.int .i64 0,.int .i64 0,.int .i64 0,.int .i64 0,.int .i64 0,.slice none 0 0] 44)):=hidp (((show Below W2.heap.size W2 (wplus (W2.alloc (Obj.cells #[.int .i64 (k:Int),.int .i64 (ap+1),.int .i64 NW,.int .i64 NC,.int .i64 f0,.int .i64 f1,.int .i64 f2,.int .i64 f3,.slice (some ⟨bb,0,none⟩) ws.length c'] 44)).drew x9) from zB).block _ (lt_blk HP3.out)).trans HP3.out)
      have HL3:Hid (w.heap.size+1<W2.heap.size∧w.heap.size+1<bb):=hidp (by have h1:=lt_blk HP3.out;simp at hbb;omega)
      clear hbc hwc hbb
      generalize wplus (W2.alloc (Obj.cells #[.int .i64 (k:Int),.int .i64 (ap+1),.int .i64 NW,.int .i64 NC,.int .i64 f0,.int .i64 f1,.int .i64 f2,.int .i64 f3,.slice (some ⟨bb,0,none⟩) ws.length c'] 44)).drew x9=W3 at *
      generalize W2.heap.size=tq at *)
  have HS3:=hidp (HS.out.below HBC3.out)
  have e0:=cell_blk HT3.out 0;have e1:=cell_blk HT3.out 1;have e2:=cell_blk HT3.out 2;have e3:=cell_blk HT3.out 3;have e4:=cell_blk HT3.out 4;have e5:=cell_blk HT3.out 5;have e6:=cell_blk HT3.out 6;have e7:=cell_blk HT3.out 7;have e8:=cell_blk HT3.out 8
  simp only [zC,zD,zE] at e0 e1 e2 e3 e4 e5 e6 e7 e8
  haveI:SzGe (tq+1) W3:=⟨lt_blk HT3.out⟩
  have HM3:Hid (WsAt W3 (some ⟨bb,0,none⟩) ws∧∀ b o,(some (⟨bb,0,none⟩:Addr))=some ⟨b,o,none⟩→b<W3.heap.size∧¬SiOwn x mb lv sv b):=hidp ⟨HW3.out,fun b o e=>by
   obtain ⟨rfl,rfl⟩:b=bb∧o=0:=by simp at e;exact ⟨e.1.symm,e.2.symm⟩
   refine ⟨?_,fun e2=>?_⟩
   ·obtain ⟨b2,o2,e3,hlt,_⟩:=HW3.out 0 ws[0] (List.getElem?_eq_getElem (by omega))
    obtain ⟨rfl,rfl⟩:b2=b∧o2=0:=by simp at e3;exact ⟨e3.1.symm,e3.2.symm⟩
    exact hlt
   ·have h1:=(HS.out.lt e2).2;have h2:=HL3.out;omega⟩
  have HAPL:=hidp (applies_any B x mb s lv sv (⟨⟨(k:Int),ap+1,NW,NC,f0,f1,f2,f3,ws⟩,some ⟨bb,0,none⟩,c'⟩:MTx) 1000 W3 HS3.out HM3.out ⟨hk0,hk4⟩ (HI.out.fit.mono (by have:=HI.out.log;omega)) (by omega) (by have:=HI.out.log;omega) (by simp only;omega))
  unfold MTx.val at HAPL
  simp only at HAPL
  go_wp2_with fail
  go_at_call 80
  refine HAPL.out.mono ?_
  rintro e w4 ⟨rfl,lv',sv',hs4,fr4⟩
  have HS4:=hidp hs4
  have HF4:=hidp fr4
  clear hs4 fr4 HAPL e0 e1 e2 e3 e4 e5 e6 e7 e8
  have HNQ:Hid (∀ b,w.heap.size≤b→b<W3.heap.size→¬SiOwn x mb lv sv b∧¬SiOwn x mb lv' sv' b):=hidp (fun b h1 h2=>⟨fun e=>by have:=(HS.out.lt e).2;omega,fun e=>(HF4.out.own b e).elim (fun e2=>by have:=(HS.out.lt e2).2;omega) (fun e2=>by omega)⟩)
  have HB4:Hid (∀ b,w.heap.size≤b→b<W3.heap.size→w4.heap[b]?=W3.heap[b]?):=hidp (fun b h1 h2=>HF4.out.block b h2 (HNQ.out b h1 h2).1)
  have HT4:=hidp ((HB4.out tq (by have:=HL3.out;omega) (lt_blk HT3.out)).trans HT3.out)
  have HR4:=hidp ((HB4.out (w.heap.size+1) (by omega) (lt_blk HR3.out)).trans HR3.out)
  have HW4:=hidp (HM3.out.1.keep (fun b o e=>HF4.out.block b (HM3.out.2 b o e).1 (HM3.out.2 b o e).2))
  have e0:=cell_blk HT4.out 0;have e1:=cell_blk HT4.out 1;have e2:=cell_blk HT4.out 2;have e3:=cell_blk HT4.out 3;have e4:=cell_blk HT4.out 4;have e5:=cell_blk HT4.out 5;have e6:=cell_blk HT4.out 6;have e7:=cell_blk HT4.out 7;have e8:=cell_blk HT4.out 8
  simp only [zC,zD,zE] at e0 e1 e2 e3 e4 e5 e6 e7 e8
  have r0:=cell_blk HR4.out 0;have r1:=cell_blk HR4.out 1;have r2:=cell_blk HR4.out 2;have r3:=cell_blk HR4.out 3;have r4:=cell_blk HR4.out 4;have r5:=cell_blk HR4.out 5;have r6:=cell_blk HR4.out 6;have r7:=cell_blk HR4.out 7;have r8:=cell_blk HR4.out 8
  simp only [zC,zD,zE] at r0 r1 r2 r3 r4 r5 r6 r7 r8
  have s0:=frozen_blk HR4.out 0;have s1:=frozen_blk HR4.out 1;have s2:=frozen_blk HR4.out 2;have s3:=frozen_blk HR4.out 3;have s4:=frozen_blk HR4.out 4;have s5:=frozen_blk HR4.out 5;have s6:=frozen_blk HR4.out 6;have s7:=frozen_blk HR4.out 7;have s8:=frozen_blk HR4.out 8
  haveI:SzGe (tq+1) w4:=⟨lt_blk HT4.out⟩
  haveI:SzGe (w.heap.size+1+1) w4:=⟨lt_blk HR4.out⟩
  have HCL:=hidp (clone_any (⟨(k:Int),ap+1,NW,NC,f0,f1,f2,f3,ws⟩:TxP) (some ⟨bb,0,none⟩) c' w4 HW4.out (by simp only;omega) (by simp only;omega))
  unfold MTx.val at HCL
  simp only at HCL
  go_wp2_with fail
  go_at_call 81
  refine HCL.out.mono ?_
  rintro e w5 ⟨A5,c5,rfl,hw5,hb5,b5,rfl,hbb5⟩
  obtain ⟨x5,rfl⟩:=wplus_of_below hb5
  have HW5:=hidp hw5
  have HBB5:=hidp hbb5
  clear hw5 hb5 hbb5 HCL
  go_wp2_with fail
  have HG9:=hidp (put9_grown w4 (w.heap.size+1) (.int .i64 (k:Int)) (.int .i64 (ap+1)) (.int .i64 NW) (.int .i64 NC) (.int .i64 f0) (.int .i64 f1) (.int .i64 f2) (.int .i64 f3) (.slice (some ⟨b5,0,none⟩) ws.length c5))
  have HSZ9:=hidp (put9_size w4 (w.heap.size+1) (.int .i64 (k:Int)) (.int .i64 (ap+1)) (.int .i64 NW) (.int .i64 NC) (.int .i64 f0) (.int .i64 f1) (.int .i64 f2) (.int .i64 f3) (.slice (some ⟨b5,0,none⟩) ws.length c5))
  have HK9:=hidp (@put9_blk _ _ _ _ _ _ _ _ _ _ _ (.int .i64 (k:Int)) (.int .i64 (ap+1)) (.int .i64 NW) (.int .i64 NC) (.int .i64 f0) (.int .i64 f1) (.int .i64 f2) (.int .i64 f3) (.slice (some ⟨b5,0,none⟩) ws.length c5) _ HR4.out)
  obtain ⟨V9,hV9⟩:∃ V9,put9 w4 (w.heap.size+1) (.int .i64 (k:Int)) (.int .i64 (ap+1)) (.int .i64 NW) (.int .i64 NC) (.int .i64 f0) (.int .i64 f1) (.int .i64 f2) (.int .i64 f3) (.slice (some ⟨b5,0,none⟩) ws.length c5)=V9:=⟨_,rfl⟩
  rw [hV9] at HG9 HSZ9 HK9
  unfold put9 at hV9
  rw [hV9]
  clear hV9 r0 r1 r2 r3 r4 r5 r6 r7 r8 s0 s1 s2 s3 s4 s5 s6 s7 s8 e0 e1 e2 e3 e4 e5 e6 e7 e8
  haveI:SzGe (w.heap.size+1+1) V9:=⟨lt_blk HK9.out⟩
  have y0:=cell_blk HK9.out 0;have y1:=cell_blk HK9.out 1;have y2:=cell_blk HK9.out 2;have y3:=cell_blk HK9.out 3;have y4:=cell_blk HK9.out 4;have y5:=cell_blk HK9.out 5;have y6:=cell_blk HK9.out 6;have y7:=cell_blk HK9.out 7;have y8:=cell_blk HK9.out 8
  simp only [zC,zD,zE] at y0 y1 y2 y3 y4 y5 y6 y7 y8
  obtain rfl:=HT0.out.symm.trans HDD.out
  have hbx:=HL3.out
  have hbq:=lt_blk HR3.out
  have HS5:=hidp (HS4.out.same HG9.out.size (fun b hb=>HG9.out.block b (HS4.out.lt hb).2 (by simp;rintro rfl;exact (HNQ.out _ (by omega) hbq).2 hb)) (fun m hm b o e=>HG9.out.block b ((HS4.out.dat m hm).2 b o e).1 (by
   simp
   rintro rfl
   have hm2:s.has m∨m=⟨⟨(k:Int),ap+1,NW,NC,f0,f1,f2,f3,ws⟩,some ⟨bb,0,none⟩,c'⟩:=by
    rcases hm with hm | hm
    ·rw [applyP_log] at hm
     rcases List.mem_append.1 hm with h1 | h1
     ·exact .inl (.inl h1)
     ·exact .inr (by simpa using h1)
    ·exact .inl (.inr hm)
   rcases hm2 with h1 | rfl
   ·have:=((HS.out.dat m h1).2 _ _ e).1;omega
   ·simp at e;try omega)))
  have hb6:=HBB5.out
  refine bodyPost_ret (v:=.tuple #[MTx.val ⟨⟨(k:Int),ap+1,NW,NC,f0,f1,f2,f3,ws⟩,some ⟨b5,0,none⟩,c5⟩,.nilIface]) ?_ rfl ⟨some ⟨b5,0,none⟩,c5,some ⟨bb,0,none⟩,c',lv',sv',rfl,HS5.out.below (below_wplus _ x5),(((SiFr.of_below (SiOwn x mb lv sv) HBC3.out).trans HF4.out).box HG9.out (by omega)).andBelow (below_wplus _ x5),(fun b o e=>by have:=HL3.out;simp at e;omega),?_,b5,rfl,?_,?_⟩
  ·simp [results,Tryz.results15,go_sem,MTx.val, *]
  ·refine HW5.out.move ?_
   intro b' o' e
   obtain ⟨rfl,rfl⟩:b'=b5∧o'=0:=by simp at e;exact ⟨e.1.symm,e.2.symm⟩
   rw [wplus_heap_ge _ _ _ hb6,wplus_heap_ge _ _ _ (by rw [HSZ9.out];exact hb6),HSZ9.out]
  ·have:=HF4.out.size;have:=HBC3.out.size;omega
  ·exact fun e=>by have:=(HS4.out.lt e).2;omega
end Go.Proofs.YtbopfhbeegkkaabGreatDoor
