/- Part 24 of a proof: lemmas and contracts that other parts use. -/
import Derived.Test.YtbopfhbeegkkaabGreatDoorSe23
import Derived.Test.YtbopfhbeegkkaabGreatDoorSe19
import Derived.Deep.DeepCutAuto
set_option linter.unusedVariables false
set_option linter.unusedSimpArgs false
set_option linter.constructorNameAsVariable false
namespace Go.Proofs.YtbopfhbeegkkaabGreatDoor
open Go.RowKit
theorem rnext_is (aw ac now:Int) (w:World):Calls Tryz.prog 74 #[.agg #[.int .i64 aw,.int .i64 ac],.int .i64 now] w fun e w'=>
  e=.returned (.tuple #[if nextE aw ac now=0 then .agg #[.int .i64 (nextW aw now),.int .i64 (nextC aw ac now)] else .agg #[.int .i64 0,.int .i64 0],.int .i64 (nextE aw ac now)])∧Below w.heap.size w w':=by
 by_cases hr:rightS aw ac=true
 ·have hb:=rightS_bd hr
  by_cases h0:now<0
  ·have e:nextE aw ac now=2:=by unfold nextE;rw [if_pos (.inr (.inl h0))]
   rw [e,if_neg (by decide)];exact rnext_r2 aw ac now w hr h0
  ·by_cases h1:1099511627776<now
   ·have e:nextE aw ac now=2:=by unfold nextE;rw [if_pos (.inr (.inr h1))]
    rw [e,if_neg (by decide)];exact rnext_r3 aw ac now w hr (by omega) h1
   ·have hno:¬(rightS aw ac=false∨now<0∨1099511627776<now):=by rw [hr];simp;omega
    by_cases h:aw<now
    ·have e:nextE aw ac now=0:=by unfold nextE;rw [if_neg hno,if_pos h]
     rw [e,if_pos rfl]
     unfold nextW nextC
     rw [if_pos h,if_pos h]
     exact rnext_new aw ac now w hr (by omega) (by omega) h
    ·by_cases hf:ac=1099511627776
     ·have e:nextE aw ac now=12:=by unfold nextE;rw [if_neg hno,if_neg h,if_pos hf]
      rw [e,if_neg (by decide)]
      exact rnext_full aw ac now w hr (by omega) (by omega) (by omega) (by omega) hb.2
     ·have e:nextE aw ac now=0:=by unfold nextE;rw [if_neg hno,if_neg h,if_neg hf]
      rw [e,if_pos rfl]
      unfold nextW nextC
      rw [if_neg h,if_neg h]
      exact rnext_inc aw ac now w hr (by omega) (by omega) (by omega) (by omega) hb.2
 ·have hr:rightS aw ac=false:=by simpa using hr
  have e:nextE aw ac now=2:=by unfold nextE;rw [if_pos (.inl hr)]
  rw [e,if_neg (by decide)]
  exact rnext_r1 aw ac now w hr
def RCommitPost (B y:Nat) (s:RsP) (lv:Value) (wA:Option Addr) (wc:Nat) (av:Value) (n:Int) (T:TxP) (w:World) (e:Ending) (w':World):Prop:=
 (n≠0→e=.returned (.tuple #[txZero,.int .i64 n])∧Below w.heap.size w w')∧
 (n=0→∃ b c' lv' av',e=.returned (.tuple #[MTx.val ⟨T,some ⟨b,0,none⟩,c'⟩,.int .i64 0])∧RsAt w' B y (applyR s ⟨T,some ⟨b,0,none⟩,c'⟩) lv' wA wc av'∧SiFr w w' (RsOwn y lv av) (RsOwn y lv' av')∧w.heap.size≤b∧b<w'.heap.size∧WsAt w' (some ⟨b,0,none⟩) T.ws)
theorem rRightWs_is {ws:List WrP} {b:Bool} (h:rightWs ws=b) (A:Option Addr) (c:Nat) (w:World) (hn:ws.length≤1000000) (hws:WsAt w A ws):Calls Tryz.prog 71 #[.slice A ws.length c] w fun e w'=>e=.returned (.bool b)∧Below w.heap.size w w':=by
 subst h;exact rRightWs_any A c ws w hn hws
theorem rCovers_is {a0 a1 a2 a3 b0 b1 b2 b3:Int} {b:Bool} (h:covD a0 a1 a2 a3 b0 b1 b2 b3=b) (w:World):
  Calls Tryz.prog 73 #[.agg #[.int .i64 a0,.int .i64 a1,.int .i64 a2,.int .i64 a3],.agg #[.int .i64 b0,.int .i64 b1,.int .i64 b2,.int .i64 b3]] w fun e w'=>e=.returned (.bool b)∧Below w.heap.size w w':=by
 subst h;exact rCovers_any a0 a1 a2 a3 b0 b1 b2 b3 w
set_option maxRecDepth 20000 in
set_option maxHeartbeats 16000000 in
theorem rCommit_any (B y wc:Nat) (s:RsP) (lv av:Value) (wA:Option Addr) (now d0 d1 d2 d3:Int) (A:Option Addr) (c:Nat) (ws:List WrP) (w:World) (h:RsAt w B y s lv wA wc av)
  (hid:0≤s.id∧s.id<4) (hap:∀ a:Int,0≤s.at a∧s.at a≤1099511627776) (hN:s.L.length≤800000) (hws:WsAt w A ws) (hn:ws.length≤1000000):
  Calls Tryz.prog 14 #[.pointer (some ⟨y,0,none⟩),.int .i64 now,.agg #[.int .i64 d0,.int .i64 d1,.int .i64 d2,.int .i64 d3],.slice A ws.length c] w
   (RCommitPost B y s lv wA wc av (rCommitE s.r now d0 d1 d2 d3 ws) (rCommitT s.r now d0 d1 d2 d3 ws) w):=by
 have HDN:Hid (∀ (n:Int) (w':World),n≠0→rCommitE s.r now d0 d1 d2 d3 ws=n→Below w.heap.size w w'→RCommitPost B y s lv wA wc av (rCommitE s.r now d0 d1 d2 d3 ws) (rCommitT s.r now d0 d1 d2 d3 ws) w (.returned (.tuple #[txZero,.int .i64 n])) w'):=hidp (fun n w' h1 h2 h3=>⟨fun _=>⟨by rw [h2],h3⟩,fun e=>absurd (h2 ▸ e) h1⟩)
 have HCE:Hid (rCommitE s.r now d0 d1 d2 d3 ws=if rightWs ws=false then 1 else if rgtB d0 d1 d2 d3=false∨covD s.p0 s.p1 s.p2 s.p3 d0 d1 d2 d3=false then 10 else if 200≤s.log.length then 12 else nextE s.lw s.lc now):=hidp (by
  have e:s.r.log.length=s.log.length:=by simp [RsP.r]
  unfold rCommitE
  rw [e];rfl)
 have HS:=hidp h
 have HWS:=hidp hws
 have HN:=hidp hn
 have HNL:=hidp hN
 obtain ⟨Al,cl,hlv⟩:=own_form h.row
 have c7:=h.c7
 rw [hlv] at c7
 have HLV:=hidp hlv
 obtain ⟨c1,c2,c3,c4⟩:=h.vec
 have c5:=h.c5
 have c6:=h.c6
 have c0:=h.c0
 haveI:SzGe (y+1) w:=⟨h.sto.lt⟩
 clear h hlv
 obtain ⟨k,hk⟩:=Int.eq_ofNat_of_zero_le hid.1
 have hk4:(k:Int)<4:=by omega
 have hk0:(0:Int)≤(k:Int):=by omega
 rw [hk] at c0
 obtain ⟨ap,hape⟩:∃ ap,s.at (k:Int)=ap:=⟨_,rfl⟩
 have hap2:=hap (k:Int)
 rw [hape] at hap2
 obtain ⟨hap0,hap1⟩:=hap2
 have hwr:IntKind.i64.wrap (ap+1)=ap+1:=by rw [IntKind.wrap_i64];omega
 have HK:=hidp hk
 have HAP:=hidp hape
 clear hid hap hk hape
 cases hrw:rightWs ws
 ·have HRW:=hidp fun W (hB:Below w.heap.size w W)=>rRightWs_is hrw A c W hn (HWS.out.below hB)
  have HE:Hid (rCommitE s.r now d0 d1 d2 d3 ws=1):=hidp (by rw [HCE.out,if_pos hrw])
  clear hrw hws
  go_enter Tryz.func14,Tryz.ntmps14
  go_wp2_with fail
  go_at_call 71
  refine (HRW.out _ (by repeat (first | exact Below.refl _ _ | refine blw_alloc ?_ | refine blw_plus ?_ | refine Below.drew ?_))).mono ?_
  rintro e w' ⟨rfl,hb⟩
  obtain ⟨x1,rfl⟩:=wplus_of_below hb
  clear hb
  go_wp2_with fail
  refine bodyPost_ret (v:=.tuple #[txZero,.int .i64 1]) ?_ rfl (HDN.out 1 _ (by decide) HE.out (by repeat (first | exact Below.refl _ _ | refine blw_alloc ?_ | refine blw_plus ?_ | refine Below.drew ?_)))
  simp [results,Tryz.results14,go_sem,txZero]
 have HRW:=hidp fun W (hB:Below w.heap.size w W)=>rRightWs_is hrw A c W hn (HWS.out.below hB)
 have HRW2:=hidp hrw
 clear hrw hws
 cases hrv:rgtB d0 d1 d2 d3
 ·have HRV:=hidp fun W=>rRight_is hrv W
  have HE:Hid (rCommitE s.r now d0 d1 d2 d3 ws=10):=hidp (by rw [HCE.out,if_neg (by rw [HRW2.out];simp),if_pos (.inl hrv)])
  clear hrv
  go_enter Tryz.func14,Tryz.ntmps14
  go_wp2_with fail
  go_at_call 71
  refine (HRW.out _ (by repeat (first | exact Below.refl _ _ | refine blw_alloc ?_ | refine blw_plus ?_ | refine Below.drew ?_))).mono ?_
  rintro e w' ⟨rfl,hb⟩
  obtain ⟨x1,rfl⟩:=wplus_of_below hb
  clear hb
  go_wp2_with fail
  refine wp_region_plus (by kernel_rfl) (by kernel_rfl) ?_
  repeat (first | go_big_quiet_skip | (go_big_quiet_want;go_big_quiet_op;first | go_big_quiet_on | (apply Exists.intro;refine ⟨fun _=>?_,?_⟩;(go_at_call 72;exact Calls.plus_of (HRV.out _));go_big_quiet_on)))
  refine wpQuiet_nil ?_
  rintro _ ⟨x2,rfl⟩
  go_wp2_with fail
  refine bodyPost_ret (v:=.tuple #[txZero,.int .i64 10]) ?_ rfl (HDN.out 10 _ (by decide) HE.out (by repeat (first | exact Below.refl _ _ | refine blw_alloc ?_ | refine blw_plus ?_ | refine Below.drew ?_)))
  simp [results,Tryz.results14,go_sem,txZero]
 cases hcv:covD s.p0 s.p1 s.p2 s.p3 d0 d1 d2 d3
 ·have HRV:=hidp fun W=>rRight_is hrv W
  have HCV:=hidp fun W=>rCovers_is hcv W
  have HE:Hid (rCommitE s.r now d0 d1 d2 d3 ws=10):=hidp (by rw [HCE.out,if_neg (by rw [HRW2.out];simp),if_pos (.inr hcv)])
  clear hrv hcv
  go_enter Tryz.func14,Tryz.ntmps14
  go_wp2_with fail
  go_at_call 71
  refine (HRW.out _ (by repeat (first | exact Below.refl _ _ | refine blw_alloc ?_ | refine blw_plus ?_ | refine Below.drew ?_))).mono ?_
  rintro e w' ⟨rfl,hb⟩
  obtain ⟨x1,rfl⟩:=wplus_of_below hb
  clear hb
  go_wp2_with fail
  refine wp_region_plus (by kernel_rfl) (by kernel_rfl) ?_
  repeat (first | go_big_quiet_skip | (go_big_quiet_want;go_big_quiet_op;first | go_big_quiet_on | (apply Exists.intro;refine ⟨fun _=>?_,?_⟩;(first | (go_at_call 72;exact Calls.plus_of (HRV.out _)) | (go_at_call 73;exact Calls.plus_of (HCV.out _)));go_big_quiet_on)))
  refine wpQuiet_nil ?_
  rintro _ ⟨x2,rfl⟩
  go_wp2_with fail
  refine bodyPost_ret (v:=.tuple #[txZero,.int .i64 10]) ?_ rfl (HDN.out 10 _ (by decide) HE.out (by repeat (first | exact Below.refl _ _ | refine blw_alloc ?_ | refine blw_plus ?_ | refine Below.drew ?_)))
  simp [results,Tryz.results14,go_sem,txZero]
 have HRV:=hidp fun W=>rRight_is hrv W
 have HCV:=hidp fun W=>rCovers_is hcv W
 have HNO:Hid (¬(rgtB d0 d1 d2 d3=false∨covD s.p0 s.p1 s.p2 s.p3 d0 d1 d2 d3=false)):=hidp (by rw [hrv,hcv];simp)
 clear hrv hcv
 by_cases h200:200≤s.log.length
 ·have hd3:decide ((200:Int)≤(s.log.length:Int))=true:=decide_eq_true (by omega)
  have HE:Hid (rCommitE s.r now d0 d1 d2 d3 ws=12):=hidp (by rw [HCE.out,if_neg (by rw [HRW2.out];simp),if_neg HNO.out,if_pos h200])
  clear h200
  go_enter Tryz.func14,Tryz.ntmps14
  go_wp2_with fail
  go_at_call 71
  refine (HRW.out _ (by repeat (first | exact Below.refl _ _ | refine blw_alloc ?_ | refine blw_plus ?_ | refine Below.drew ?_))).mono ?_
  rintro e w' ⟨rfl,hb⟩
  obtain ⟨x1,rfl⟩:=wplus_of_below hb
  clear hb
  go_wp2_with fail
  refine wp_region_plus (by kernel_rfl) (by kernel_rfl) ?_
  repeat (first | go_big_quiet_skip | (go_big_quiet_want;go_big_quiet_op;first | go_big_quiet_on | (apply Exists.intro;refine ⟨fun _=>?_,?_⟩;(first | (go_at_call 72;exact Calls.plus_of (HRV.out _)) | (go_at_call 73;exact Calls.plus_of (HCV.out _)));go_big_quiet_on)))
  refine wpQuiet_nil ?_
  rintro _ ⟨x2,rfl⟩
  go_wp2_with fail
  refine bodyPost_ret (v:=.tuple #[txZero,.int .i64 12]) ?_ rfl (HDN.out 12 _ (by decide) HE.out (by repeat (first | exact Below.refl _ _ | refine blw_alloc ?_ | refine blw_plus ?_ | refine Below.drew ?_)))
  simp [results,Tryz.results14,go_sem,txZero]
 have hd3:decide ((200:Int)≤(s.log.length:Int))=false:=decide_eq_false (by omega)
 have HE0:Hid (rCommitE s.r now d0 d1 d2 d3 ws=nextE s.lw s.lc now):=hidp (by rw [HCE.out,if_neg (by rw [HRW2.out];simp),if_neg HNO.out,if_neg h200])
 have H200:=hidp h200
 clear h200
 have HNX:=hidp fun W=>rnext_is s.lw s.lc now W
 obtain ⟨en,hen⟩:∃ en,nextE s.lw s.lc now=en:=⟨_,rfl⟩
 rw [hen] at HNX HE0
 clear hen
 by_cases hn0:en=0
 case neg=>
  simp only [if_neg hn0] at HNX
  have hnd:(en != 0)=true:=by simpa using hn0
  have HN0:=hidp hn0
  clear hn0
  go_enter Tryz.func14,Tryz.ntmps14
  go_wp2_with fail
  go_at_call 71
  refine (HRW.out _ (by repeat (first | exact Below.refl _ _ | refine blw_alloc ?_ | refine blw_plus ?_ | refine Below.drew ?_))).mono ?_
  rintro e w' ⟨rfl,hb⟩
  obtain ⟨x1,rfl⟩:=wplus_of_below hb
  clear hb
  go_wp2_with fail
  refine wp_region_plus (by kernel_rfl) (by kernel_rfl) ?_
  repeat (first | go_big_quiet_skip | (go_big_quiet_want;go_big_quiet_op;first | go_big_quiet_on | (apply Exists.intro;refine ⟨fun _=>?_,?_⟩;(first | (go_at_call 72;exact Calls.plus_of (HRV.out _)) | (go_at_call 73;exact Calls.plus_of (HCV.out _)));go_big_quiet_on)))
  refine wpQuiet_nil ?_
  rintro _ ⟨x2,rfl⟩
  go_wp2_with fail
  go_at_call 74
  refine (HNX.out _).mono ?_
  rintro e w' ⟨rfl,hb⟩
  obtain ⟨x3,rfl⟩:=wplus_of_below hb
  clear hb
  go_wp2_with fail
  refine bodyPost_ret (v:=.tuple #[txZero,.int .i64 en]) ?_ rfl (HDN.out en _ HN0.out HE0.out (by repeat (first | exact Below.refl _ _ | refine blw_alloc ?_ | refine blw_plus ?_ | refine Below.drew ?_)))
  simp [results,Tryz.results14,go_sem,txZero]
 subst hn0
 simp only [if_pos] at HNX
 generalize hNW:nextW s.lw now=NW at HNX
 generalize hNC:nextC s.lw s.lc now=NC at HNX
 have HNW:=hidp hNW
 have HNC:=hidp hNC
 clear hNW hNC
 generalize hTT:rCommitT s.r now d0 d1 d2 d3 ws=TR at *
 have HTT:=hidp hTT
 clear hTT
 go_enter Tryz.func14,Tryz.ntmps14
 go_wp2_with fail
 go_at_call 71
 refine (HRW.out _ (by repeat (first | exact Below.refl _ _ | refine blw_alloc ?_ | refine blw_plus ?_ | refine Below.drew ?_))).mono ?_
 rintro e w' ⟨rfl,hb⟩
 obtain ⟨x1,rfl⟩:=wplus_of_below hb
 clear hb
 go_wp2_with fail
 refine wp_region_plus (by kernel_rfl) (by kernel_rfl) ?_
 repeat (first | go_big_quiet_skip | (go_big_quiet_want;go_big_quiet_op;first | go_big_quiet_on | (apply Exists.intro;refine ⟨fun _=>?_,?_⟩;(first | (go_at_call 72;exact Calls.plus_of (HRV.out _)) | (go_at_call 73;exact Calls.plus_of (HCV.out _)));go_big_quiet_on)))
 refine wpQuiet_nil ?_
 rintro _ ⟨x2,rfl⟩
 go_wp2_with fail
 go_at_call 74
 refine (HNX.out _).mono ?_
 rintro e w' ⟨rfl,hb⟩
 obtain ⟨x3,rfl⟩:=wplus_of_below hb
 clear hb
 go_wp2_with fail
 have HSZ:Hid ((wplus (wplus (wplus ((w.alloc (.cells #[.int .i64 d0,.int .i64 d1,.int .i64 d2,.int .i64 d3] 32)).alloc (.cells #[.int .i64 0,.int .i64 0,.int .i64 0,.int .i64 0,.int .i64 0,.int .i64 0,.int .i64 0,.int .i64 0,.slice none 0 0] 44)) x1) x2) x3).heap.size=w.heap.size+1+1+x1.blocks.size+x2.blocks.size+x3.blocks.size):=hidp (by simp)
 have HBC:Hid (Below w.heap.size w ((wplus (wplus (wplus ((w.alloc (.cells #[.int .i64 d0,.int .i64 d1,.int .i64 d2,.int .i64 d3] 32)).alloc (.cells #[.int .i64 0,.int .i64 0,.int .i64 0,.int .i64 0,.int .i64 0,.int .i64 0,.int .i64 0,.int .i64 0,.slice none 0 0] 44)) x1) x2) x3).alloc (.cells #[.int .i64 NW,.int .i64 NC] 34))):=hidp (by repeat (first | exact Below.refl _ _ | refine blw_alloc ?_ | refine blw_plus ?_ | refine Below.drew ?_))
 have HQ2:Hid (((wplus (wplus (wplus ((w.alloc (.cells #[.int .i64 d0,.int .i64 d1,.int .i64 d2,.int .i64 d3] 32)).alloc (.cells #[.int .i64 0,.int .i64 0,.int .i64 0,.int .i64 0,.int .i64 0,.int .i64 0,.int .i64 0,.int .i64 0,.slice none 0 0] 44)) x1) x2) x3).alloc (.cells #[.int .i64 NW,.int .i64 NC] 34)).heap[w.heap.size]?=some (.cells #[.int .i64 d0,.int .i64 d1,.int .i64 d2,.int .i64 d3] 32)):=hidp (by
  refine ((show Below (w.alloc (.cells #[.int .i64 d0,.int .i64 d1,.int .i64 d2,.int .i64 d3] 32)).heap.size (w.alloc (.cells #[.int .i64 d0,.int .i64 d1,.int .i64 d2,.int .i64 d3] 32)) _ from zB).block _ (by simp)).trans (blk_new rfl _))
 have HQ3:Hid (((wplus (wplus (wplus ((w.alloc (.cells #[.int .i64 d0,.int .i64 d1,.int .i64 d2,.int .i64 d3] 32)).alloc (.cells #[.int .i64 0,.int .i64 0,.int .i64 0,.int .i64 0,.int .i64 0,.int .i64 0,.int .i64 0,.int .i64 0,.slice none 0 0] 44)) x1) x2) x3).alloc (.cells #[.int .i64 NW,.int .i64 NC] 34)).heap[w.heap.size+1]?=some (.cells #[.int .i64 0,.int .i64 0,.int .i64 0,.int .i64 0,.int .i64 0,.int .i64 0,.int .i64 0,.int .i64 0,.slice none 0 0] 44)):=hidp (by
  refine ((show Below ((w.alloc (.cells #[.int .i64 d0,.int .i64 d1,.int .i64 d2,.int .i64 d3] 32)).alloc (.cells #[.int .i64 0,.int .i64 0,.int .i64 0,.int .i64 0,.int .i64 0,.int .i64 0,.int .i64 0,.int .i64 0,.slice none 0 0] 44)).heap.size ((w.alloc (.cells #[.int .i64 d0,.int .i64 d1,.int .i64 d2,.int .i64 d3] 32)).alloc (.cells #[.int .i64 0,.int .i64 0,.int .i64 0,.int .i64 0,.int .i64 0,.int .i64 0,.int .i64 0,.int .i64 0,.slice none 0 0] 44)) _ from zB).block _ (by simp)).trans (blk_new (by simp) _))
 have HQ4:Hid (((wplus (wplus (wplus ((w.alloc (.cells #[.int .i64 d0,.int .i64 d1,.int .i64 d2,.int .i64 d3] 32)).alloc (.cells #[.int .i64 0,.int .i64 0,.int .i64 0,.int .i64 0,.int .i64 0,.int .i64 0,.int .i64 0,.int .i64 0,.slice none 0 0] 44)) x1) x2) x3).alloc (.cells #[.int .i64 NW,.int .i64 NC] 34)).heap[w.heap.size+1+1+x1.blocks.size+x2.blocks.size+x3.blocks.size]?=some (.cells #[.int .i64 NW,.int .i64 NC] 34)):=hidp (blk_new (by rw [HSZ.out]) _)
 clear c0 c1 c2 c3 c5 c6 c7 HRV HCV HNX hd3 HRW
 have HTB:Hid (w.heap.size+1+1≤w.heap.size+1+1+x1.blocks.size+x2.blocks.size+x3.blocks.size):=hidp (by omega)
 generalize w.heap.size+1+1+x1.blocks.size+x2.blocks.size+x3.blocks.size=tb at *
 generalize (wplus (wplus (wplus ((w.alloc (.cells #[.int .i64 d0,.int .i64 d1,.int .i64 d2,.int .i64 d3] 32)).alloc (.cells #[.int .i64 0,.int .i64 0,.int .i64 0,.int .i64 0,.int .i64 0,.int .i64 0,.int .i64 0,.int .i64 0,.slice none 0 0] 44)) x1) x2) x3).alloc (.cells #[.int .i64 NW,.int .i64 NC] 34)=W at *
 clear HSZ
 have HSW:=hidp (HS.out.below HBC.out)
 have c0:=HSW.out.c0
 rw [HK.out] at c0
 have ca:=HSW.out.apc (k:=k) (by omega)
 rw [HAP.out] at ca
 haveI:SzGe (y+1) W:=⟨HSW.out.sto.lt⟩
 haveI:SzGe (w.heap.size+1) W:=⟨lt_blk HQ2.out⟩
 haveI:SzGe (w.heap.size+1+1) W:=⟨lt_blk HQ3.out⟩
 haveI:SzGe (tb+1) W:=⟨lt_blk HQ4.out⟩
 obtain ⟨zu,hzu⟩:∃ zu,W.cell? ⟨w.heap.size,k,none⟩=some (.int .i64 zu):=by
  have hc:k=0∨k=1∨k=2∨k=3:=by omega
  rcases hc with rfl | rfl | rfl | rfl <;> exact ⟨_,cell_blk HQ2.out _⟩
 have hzf:=frozen_blk HQ2.out k
 refine wp_region_plus (by kernel_rfl) (by kernel_rfl) ?_
 repeat (first | go_big_quiet_skip | (go_big_quiet_want;go_big_quiet_op;go_big_quiet_on))
 refine wpQuiet_nil ?_
 rintro _ ⟨x4,rfl⟩
 have HBC2:Hid (Below w.heap.size w (wplus (W.setCell ⟨w.heap.size,k,none⟩ (.int .i64 ap)) x4)):=hidp (by
  have h1:Below w.heap.size w (W.setCell ⟨w.heap.size,k,none⟩ (.int .i64 ap)):=Below.grown HBC.out (grown_set W w.heap.size k _) HBC.out.size (fun j e=>by simp at e;omega)
  exact h1.trans ((below_wplus _ _).mono h1.size))
 have hgs:=grown_set W w.heap.size k (.int .i64 ap)
 have HP2:Hid ((wplus (W.setCell ⟨w.heap.size,k,none⟩ (.int .i64 ap)) x4).heap[w.heap.size]?=some (.cells #[.int .i64 (if k=0 then ap else d0),.int .i64 (if k=1 then ap else d1),.int .i64 (if k=2 then ap else d2),.int .i64 (if k=3 then ap else d3)] 32)):=hidp (by
  rw [wplus_heap_lt _ _ _ (by have:=lt_blk (blk_set HQ2.out k (.int .i64 ap));exact this),blk_set HQ2.out k (.int .i64 ap)]
  have hc:k=0∨k=1∨k=2∨k=3:=by omega
  rcases hc with rfl | rfl | rfl | rfl <;> rfl)
 have HP3:Hid ((wplus (W.setCell ⟨w.heap.size,k,none⟩ (.int .i64 ap)) x4).heap[w.heap.size+1]?=some (.cells #[.int .i64 0,.int .i64 0,.int .i64 0,.int .i64 0,.int .i64 0,.int .i64 0,.int .i64 0,.int .i64 0,.slice none 0 0] 44)):=hidp (by
  have e:=(hgs.block (w.heap.size+1) (lt_blk HQ3.out) (by simp)).trans HQ3.out
  rw [wplus_heap_lt _ _ _ (lt_blk e)];exact e)
 have HP4:Hid ((wplus (W.setCell ⟨w.heap.size,k,none⟩ (.int .i64 ap)) x4).heap[tb]?=some (.cells #[.int .i64 NW,.int .i64 NC] 34)):=hidp (by
  have ht:=HTB.out
  have e:=(hgs.block tb (lt_blk HQ4.out) (by simp;omega)).trans HQ4.out
  rw [wplus_heap_lt _ _ _ (lt_blk e)];exact e)
 clear hgs
 have HDD:Hid (TR=⟨(k:Int),ap+1,NW,NC,if k=0 then ap else d0,if k=1 then ap else d1,if k=2 then ap else d2,if k=3 then ap else d3,ws⟩):=hidp (by
  have hk:=HK.out;have ha:=HAP.out
  rw [←HTT.out]
  unfold rCommitT
  rw [show s.r.id=s.id from rfl,hk,show s.r.at (k:Int)=ap from ha,show s.r.lw=s.lw from rfl,show s.r.lc=s.lc from rfl,HNW.out,HNC.out]
  have hc:k=0∨k=1∨k=2∨k=3:=by omega
  rcases hc with rfl | rfl | rfl | rfl <;> simp [RsP.at,atV,RsP.r] at ha ⊢ <;> first | exact ha | skip)
 generalize (if k=0 then ap else d0)=f0 at *
 generalize (if k=1 then ap else d1)=f1 at *
 generalize (if k=2 then ap else d2)=f2 at *
 generalize (if k=3 then ap else d3)=f3 at *
 go_upto_region 12 with fail
 clear hzu hzf c0 ca
 generalize wplus (W.setCell ⟨w.heap.size,k,none⟩ (.int .i64 ap)) x4=W2 at *
 clear HQ2 HQ3 HQ4 HSW HBC
 have HSW:=hidp (HS.out.below HBC2.out)
 have c0:=HSW.out.c0
 rw [HK.out] at c0
 haveI:SzGe (y+1) W2:=⟨HSW.out.sto.lt⟩
 haveI:SzGe (w.heap.size+1) W2:=⟨lt_blk HP2.out⟩
 haveI:SzGe (w.heap.size+1+1) W2:=⟨lt_blk HP3.out⟩
 haveI:SzGe (tb+1) W2:=⟨lt_blk HP4.out⟩
 have q1:=cell_blk HP4.out 0;have q2:=cell_blk HP4.out 1
 have g0:=cell_blk HP2.out 0;have g1:=cell_blk HP2.out 1;have g2:=cell_blk HP2.out 2;have g3:=cell_blk HP2.out 3
 simp only [zC,zD,zE] at q1 q2 g0 g1 g2 g3
 obtain ⟨hw1,hw5⟩:1≤ws.length∧ws.length≤5:=by
  have:=HRW2.out
  unfold rightWs at this
  simp only [Bool.and_eq_true,decide_eq_true_eq] at this
  exact ⟨this.1.2,this.2⟩
 obtain ⟨sb,so,rfl,hsb,_⟩:=HWS.out 0 ws[0] (List.getElem?_eq_getElem (by omega))
 clear hsb
 have HZ2:=hidp HBC2.out.size
 have HW1:=hidp hw1
 have HW5:Hid (ws.length≤1000):=hidp (by omega)
 go_cut [13] (fun s13 X=>∃ (q bb cc:Nat),s13=.pointer (some ⟨q,0,none⟩)∧X.heap[q]?=some (.cells #[.int .i64 (k:Int),.int .i64 (ap+1),.int .i64 NW,.int .i64 NC,.int .i64 f0,.int .i64 f1,.int .i64 f2,.int .i64 f3,.slice (some ⟨bb,0,none⟩) ws.length cc] 44)∧Below W2.heap.size W2 X∧WsAt X (some ⟨bb,0,none⟩) ws∧W2.heap.size≤bb∧bb<X.heap.size∧W2.heap.size≤q)
 case first=>
  have hyl:y<W2.heap.size:=HSW.out.sto.lt
  have htl:tb<W2.heap.size:=lt_blk HP4.out
  have hwl:w.heap.size<W2.heap.size:=lt_blk HP2.out
  go_region_held3 (fun X:World=>X.cell? ⟨y,0,none⟩=some (.int .i64 (k:Int))∧X.cell? ⟨tb,0,none⟩=some (.int .i64 NW)∧X.cell? ⟨tb,1,none⟩=some (.int .i64 NC)∧X.cell? ⟨w.heap.size,0,none⟩=some (.int .i64 f0)∧X.cell? ⟨w.heap.size,1,none⟩=some (.int .i64 f1)∧X.cell? ⟨w.heap.size,2,none⟩=some (.int .i64 f2)∧X.cell? ⟨w.heap.size,3,none⟩=some (.int .i64 f3)) ((repeat' apply And.intro) <;> simp [go_sem, *])
   (first
     | (refine step_append_ws_q _ rfl (.tmp 74) (.tmp 75) rfl (W2.heap.size+1) ?_ ?_ (some ⟨sb,so,none⟩) c ws ?_ ?_ HW1.out HW5.out W2.heap.size (.cells #[.int .i64 0,.int .i64 0,.int .i64 0,.int .i64 0,.int .i64 0,.int .i64 0,.int .i64 0,.int .i64 0,.slice none 0 0] 44) ?_ ?_ ?_
        ·(simp [Act.eval,Act.put];done)
        ·first | (refine blk_new ?_ _;simp;done) | (refine blk_alloc (blk_new ?_ _) _;simp;done)
        ·(simp [Act.eval,Act.put];done)
        ·exact HWS.out.below (HBC2.out.trans (Below.mono (B:=W2.heap.size) (by repeat (first | exact Below.refl _ _ | refine blw_alloc ?_ | refine blw_plus ?_ | refine Below.drew ?_)) HZ2.out))
        ·first | (refine blk_new ?_ _;simp;done) | (refine blk_alloc (blk_new ?_ _) _;simp;done)
        ·omega
        intro gb cc w8 hwn hgrow hgl hlt1 hz5
        have hB8:Below W2.heap.size W2 w8:=Below.grown (by repeat (first | exact Below.refl _ _ | refine blw_alloc ?_ | refine blw_plus ?_ | refine Below.drew ?_)) hgrow (by simp <;> omega) (fun j e=>by simp at e;omega)
        have hsz8:=hB8.size
        have HR8:Hid (WsAt w8 (some ⟨gb,0,none⟩) ws∧Below W2.heap.size W2 w8∧W2.heap.size≤gb∧gb<w8.heap.size):=hidp ⟨hwn,hB8,(by rcases hgl with e | e <;> (try simp at e) <;> omega),hlt1⟩
        have u0:=(hB8.cell (p:=⟨y,0,none⟩) hyl).trans c0
        have u1:=(hB8.cell (p:=⟨tb,0,none⟩) htl).trans q1
        have u2:=(hB8.cell (p:=⟨tb,1,none⟩) htl).trans q2
        have u3:=(hB8.cell (p:=⟨w.heap.size,0,none⟩) hwl).trans g0
        have u4:=(hB8.cell (p:=⟨w.heap.size,1,none⟩) hwl).trans g1
        have u5:=(hB8.cell (p:=⟨w.heap.size,2,none⟩) hwl).trans g2
        have u6:=(hB8.cell (p:=⟨w.heap.size,3,none⟩) hwl).trans g3
        have HZ8:=hidp hz5
        have HQN:Hid (gb≠W2.heap.size):=hidp (by rcases hgl with e | e <;> (try simp at e) <;> omega)
        have y0:=cell_blk hz5 0;have y1:=cell_blk hz5 1;have y2:=cell_blk hz5 2;have y3:=cell_blk hz5 3;have y4:=cell_blk hz5 4;have y5:=cell_blk hz5 5;have y6:=cell_blk hz5 6;have y7:=cell_blk hz5 7;have y8:=cell_blk hz5 8
        have v0:=frozen_blk hz5 0;have v1:=frozen_blk hz5 1;have v2:=frozen_blk hz5 2;have v3:=frozen_blk hz5 3;have v4:=frozen_blk hz5 4;have v5:=frozen_blk hz5 5;have v6:=frozen_blk hz5 6;have v7:=frozen_blk hz5 7;have v8:=frozen_blk hz5 8
        simp only [zC,zD,zE] at y0 y1 y2 y3 y4 y5 y6 y7 y8
        haveI hsz5:SzGe (W2.heap.size+1) w8:=⟨by have:=lt_blk hz5;omega⟩
        clear hz5
        haveI hs1:SzGe (y+1) w8:=⟨by omega⟩
        haveI hs2:SzGe (tb+1) w8:=⟨by omega⟩
        haveI hs3:SzGe (w.heap.size+1) w8:=⟨by omega⟩
        clear hwn hgrow hgl hlt1 hB8 hsz8)
     | (refine step_append_ws_q _ rfl (.tmp 74) (.tmp 75) rfl W2.heap.size ?_ ?_ (some ⟨sb,so,none⟩) c ws ?_ ?_ HW1.out HW5.out (W2.heap.size+1) (.cells #[.int .i64 0,.int .i64 0,.int .i64 0,.int .i64 0,.int .i64 0,.int .i64 0,.int .i64 0,.int .i64 0,.slice none 0 0] 44) ?_ ?_ ?_
        ·(simp [Act.eval,Act.put];done)
        ·first | (refine blk_new ?_ _;simp;done) | (refine blk_alloc (blk_new ?_ _) _;simp;done)
        ·(simp [Act.eval,Act.put];done)
        ·exact HWS.out.below (HBC2.out.trans (Below.mono (B:=W2.heap.size) (by repeat (first | exact Below.refl _ _ | refine blw_alloc ?_ | refine blw_plus ?_ | refine Below.drew ?_)) HZ2.out))
        ·first | (refine blk_new ?_ _;simp;done) | (refine blk_alloc (blk_new ?_ _) _;simp;done)
        ·omega
        intro gb cc w8 hwn hgrow hgl hlt1 hz5
        have hB8:Below W2.heap.size W2 w8:=Below.grown (by repeat (first | exact Below.refl _ _ | refine blw_alloc ?_ | refine blw_plus ?_ | refine Below.drew ?_)) hgrow (by simp <;> omega) (fun j e=>by simp at e;omega)
        have hsz8:=hB8.size
        have HR8:Hid (WsAt w8 (some ⟨gb,0,none⟩) ws∧Below W2.heap.size W2 w8∧W2.heap.size≤gb∧gb<w8.heap.size):=hidp ⟨hwn,hB8,(by rcases hgl with e | e <;> (try simp at e) <;> omega),hlt1⟩
        have u0:=(hB8.cell (p:=⟨y,0,none⟩) hyl).trans c0
        have u1:=(hB8.cell (p:=⟨tb,0,none⟩) htl).trans q1
        have u2:=(hB8.cell (p:=⟨tb,1,none⟩) htl).trans q2
        have u3:=(hB8.cell (p:=⟨w.heap.size,0,none⟩) hwl).trans g0
        have u4:=(hB8.cell (p:=⟨w.heap.size,1,none⟩) hwl).trans g1
        have u5:=(hB8.cell (p:=⟨w.heap.size,2,none⟩) hwl).trans g2
        have u6:=(hB8.cell (p:=⟨w.heap.size,3,none⟩) hwl).trans g3
        have HZ8:=hidp hz5
        have HQN:Hid (gb≠(W2.heap.size+1)):=hidp (by rcases hgl with e | e <;> (try simp at e) <;> omega)
        have y0:=cell_blk hz5 0;have y1:=cell_blk hz5 1;have y2:=cell_blk hz5 2;have y3:=cell_blk hz5 3;have y4:=cell_blk hz5 4;have y5:=cell_blk hz5 5;have y6:=cell_blk hz5 6;have y7:=cell_blk hz5 7;have y8:=cell_blk hz5 8
        have v0:=frozen_blk hz5 0;have v1:=frozen_blk hz5 1;have v2:=frozen_blk hz5 2;have v3:=frozen_blk hz5 3;have v4:=frozen_blk hz5 4;have v5:=frozen_blk hz5 5;have v6:=frozen_blk hz5 6;have v7:=frozen_blk hz5 7;have v8:=frozen_blk hz5 8
        simp only [zC,zD,zE] at y0 y1 y2 y3 y4 y5 y6 y7 y8
        haveI hsz5:SzGe ((W2.heap.size+1)+1) w8:=⟨by have:=lt_blk hz5;omega⟩
        clear hz5
        haveI hs1:SzGe (y+1) w8:=⟨by omega⟩
        haveI hs2:SzGe (tb+1) w8:=⟨by omega⟩
        haveI hs3:SzGe (w.heap.size+1) w8:=⟨by omega⟩
        clear hwn hgrow hgl hlt1 hB8 hsz8)
     | (refine step_append_ws _ rfl (.tmp 74) (.tmp 75) rfl W2.heap.size ?_ ?_ (some ⟨sb,so,none⟩) c ws ?_ ?_ HW1.out HW5.out ?_
        ·(simp [Act.eval,Act.put];done)
        ·first | (refine blk_new ?_ _;simp;done) | (refine blk_alloc (blk_new ?_ _) _;simp;done)
        ·(simp [Act.eval,Act.put];done)
        ·exact HWS.out.below (HBC2.out.trans (Below.mono (B:=W2.heap.size) (by repeat (first | exact Below.refl _ _ | refine blw_alloc ?_ | refine blw_plus ?_ | refine Below.drew ?_)) HZ2.out))
        intro gb cc w8 hwn hgrow hgl hlt1
        have hB8:Below W2.heap.size W2 w8:=Below.grown (by repeat (first | exact Below.refl _ _ | refine blw_alloc ?_ | refine blw_plus ?_ | refine Below.drew ?_)) hgrow (by simp <;> omega) (fun j e=>by simp at e;omega)
        have hsz8:=hB8.size
        have HR8:Hid (WsAt w8 (some ⟨gb,0,none⟩) ws∧Below W2.heap.size W2 w8∧W2.heap.size≤gb∧gb<w8.heap.size):=hidp ⟨hwn,hB8,(by rcases hgl with e | e <;> (try simp at e) <;> omega),hlt1⟩
        have u0:=(hB8.cell (p:=⟨y,0,none⟩) hyl).trans c0
        have u1:=(hB8.cell (p:=⟨tb,0,none⟩) htl).trans q1
        have u2:=(hB8.cell (p:=⟨tb,1,none⟩) htl).trans q2
        have u3:=(hB8.cell (p:=⟨w.heap.size,0,none⟩) hwl).trans g0
        have u4:=(hB8.cell (p:=⟨w.heap.size,1,none⟩) hwl).trans g1
        have u5:=(hB8.cell (p:=⟨w.heap.size,2,none⟩) hwl).trans g2
        have u6:=(hB8.cell (p:=⟨w.heap.size,3,none⟩) hwl).trans g3
        haveI hs1:SzGe (y+1) w8:=⟨by omega⟩
        haveI hs2:SzGe (tb+1) w8:=⟨by omega⟩
        haveI hs3:SzGe (w.heap.size+1) w8:=⟨by omega⟩
        clear hwn hgrow hgl hlt1 hB8 hsz8)
     | fail)
  all_goals
   go_wp2_with fail
   go_meet
   first
    | (with_reducible exact ⟨_,gb,cc,rfl,box_after HR8.out⟩)
    | exact ⟨_,gb,cc,rfl,box_before HR8.out HZ8.out (by omega) HQN.out⟩
 case rest=>
  obtain ⟨q,bb,cc,rfl,hqb,hBX,hwX,hbn,hbl,hqn⟩:=hcut
  obtain ⟨X,rfl⟩:∃ X:World,X=wc:=⟨_,rfl⟩
  have HBX:=hidp hBX
  have HQB:=hidp hqb
  have HWX:=hidp hwX
  have HBN:=hidp (show w.heap.size≤bb by have:=HZ2.out;omega)
  have HBL:=hidp hbl
  have hX0:=HBX.out.size
  have hW2X:=HZ2.out
  have HBWX:=hidp (HBC2.out.trans (HBX.out.mono HZ2.out))
  have HSX:=hidp (HS.out.below HBWX.out)
  have HNO:Hid (∀ b,w.heap.size≤b→¬RsOwn y lv av b):=hidp (fun b hb e=>by have:=(HS.out.lt e).2;omega)
  have HAL:=hidp (rApplies_any B y wc s lv av wA (⟨(⟨(k:Int),ap+1,NW,NC,f0,f1,f2,f3,ws⟩:TxP),some ⟨bb,0,none⟩,cc⟩:MTx) X HSX.out ⟨HWX.out,fun b o e=>by
   obtain ⟨rfl,_⟩:bb=b∧0=o:=by simpa using e
   exact ⟨HBL.out,HNO.out _ HBN.out⟩⟩ ⟨hk0,hk4⟩ HNL.out (by have:=H200.out;omega) (by show ws.length≤1000;exact HW5.out))
  unfold MTx.val at HAL
  simp only at HAL
  have HP3X:Hid (X.heap[w.heap.size+1]?=some (.cells #[.int .i64 0,.int .i64 0,.int .i64 0,.int .i64 0,.int .i64 0,.int .i64 0,.int .i64 0,.int .i64 0,.slice none 0 0] 44)):=hidp ((HBX.out.block _ (lt_blk HP3.out)).trans HP3.out)
  have HQ1:Hid (w.heap.size+1<q):=hidp (by have:=lt_blk HP3.out;omega)
  have HB1:Hid (w.heap.size+1<bb):=hidp (by have:=lt_blk HP3.out;omega)
  clear hqb hBX hwX hbn hbl hqn c0 q1 q2 g0 g1 g2 g3
  have e0:=cell_blk HQB.out 0;have e1:=cell_blk HQB.out 1;have e2:=cell_blk HQB.out 2;have e3:=cell_blk HQB.out 3;have e4:=cell_blk HQB.out 4;have e5:=cell_blk HQB.out 5;have e6:=cell_blk HQB.out 6;have e7:=cell_blk HQB.out 7;have e8:=cell_blk HQB.out 8
  simp only [zC,zD,zE] at e0 e1 e2 e3 e4 e5 e6 e7 e8
  haveI:SzGe (q+1) X:=⟨lt_blk HQB.out⟩
  go_wp2_with fail
  go_at_call 75
  refine HAL.out.mono ?_
  rintro e w4 ⟨rfl,lv',av',hs4,fr4⟩
  have HS4:=hidp hs4
  have HF4:=hidp fr4
  clear hs4 fr4 HAL e0 e1 e2 e3 e4 e5 e6 e7 e8
  have HNQ:Hid (∀ b,w.heap.size≤b→b<X.heap.size→¬RsOwn y lv av b∧¬RsOwn y lv' av' b):=hidp (fun b h1 h2=>⟨HNO.out b h1,fun e=>(HF4.out.own b e).elim (HNO.out b h1) (fun e2=>by omega)⟩)
  have HB4:Hid (∀ b,w.heap.size≤b→b<X.heap.size→w4.heap[b]?=X.heap[b]?):=hidp (fun b h1 h2=>HF4.out.block b h2 (HNO.out b h1))
  have HT4:=hidp ((HB4.out q (by have:=HQ1.out;omega) (lt_blk HQB.out)).trans HQB.out)
  have HR4:=hidp ((HB4.out (w.heap.size+1) (by omega) (lt_blk HP3X.out)).trans HP3X.out)
  have HW4:=hidp (HWX.out.keep (w':=w4) (fun b o e=>by
   obtain ⟨rfl,_⟩:bb=b∧0=o:=by simpa using e
   exact HB4.out _ HBN.out HBL.out))
  have e0:=cell_blk HT4.out 0;have e1:=cell_blk HT4.out 1;have e2:=cell_blk HT4.out 2;have e3:=cell_blk HT4.out 3;have e4:=cell_blk HT4.out 4;have e5:=cell_blk HT4.out 5;have e6:=cell_blk HT4.out 6;have e7:=cell_blk HT4.out 7;have e8:=cell_blk HT4.out 8
  simp only [zC,zD,zE] at e0 e1 e2 e3 e4 e5 e6 e7 e8
  have r0:=cell_blk HR4.out 0;have r1:=cell_blk HR4.out 1;have r2:=cell_blk HR4.out 2;have r3:=cell_blk HR4.out 3;have r4:=cell_blk HR4.out 4;have r5:=cell_blk HR4.out 5;have r6:=cell_blk HR4.out 6;have r7:=cell_blk HR4.out 7;have r8:=cell_blk HR4.out 8
  simp only [zC,zD,zE] at r0 r1 r2 r3 r4 r5 r6 r7 r8
  have s0:=frozen_blk HR4.out 0;have s1:=frozen_blk HR4.out 1;have s2:=frozen_blk HR4.out 2;have s3:=frozen_blk HR4.out 3;have s4:=frozen_blk HR4.out 4;have s5:=frozen_blk HR4.out 5;have s6:=frozen_blk HR4.out 6;have s7:=frozen_blk HR4.out 7;have s8:=frozen_blk HR4.out 8
  haveI:SzGe (q+1) w4:=⟨lt_blk HT4.out⟩
  haveI:SzGe (w.heap.size+1+1) w4:=⟨lt_blk HR4.out⟩
  go_wp2_with fail
  have HG9:=hidp (put9_grown w4 (w.heap.size+1) (.int .i64 (k:Int)) (.int .i64 (ap+1)) (.int .i64 NW) (.int .i64 NC) (.int .i64 f0) (.int .i64 f1) (.int .i64 f2) (.int .i64 f3) (.slice (some ⟨bb,0,none⟩) ws.length cc))
  have HSZ9:=hidp (put9_size w4 (w.heap.size+1) (.int .i64 (k:Int)) (.int .i64 (ap+1)) (.int .i64 NW) (.int .i64 NC) (.int .i64 f0) (.int .i64 f1) (.int .i64 f2) (.int .i64 f3) (.slice (some ⟨bb,0,none⟩) ws.length cc))
  have HK9:=hidp (@put9_blk _ _ _ _ _ _ _ _ _ _ _ (.int .i64 (k:Int)) (.int .i64 (ap+1)) (.int .i64 NW) (.int .i64 NC) (.int .i64 f0) (.int .i64 f1) (.int .i64 f2) (.int .i64 f3) (.slice (some ⟨bb,0,none⟩) ws.length cc) _ HR4.out)
  obtain ⟨V9,hV9⟩:∃ V9,put9 w4 (w.heap.size+1) (.int .i64 (k:Int)) (.int .i64 (ap+1)) (.int .i64 NW) (.int .i64 NC) (.int .i64 f0) (.int .i64 f1) (.int .i64 f2) (.int .i64 f3) (.slice (some ⟨bb,0,none⟩) ws.length cc)=V9:=⟨_,rfl⟩
  rw [hV9] at HG9 HSZ9 HK9
  unfold put9 at hV9
  rw [hV9]
  clear hV9 r0 r1 r2 r3 r4 r5 r6 r7 r8 s0 s1 s2 s3 s4 s5 s6 s7 s8 e0 e1 e2 e3 e4 e5 e6 e7 e8
  haveI:SzGe (w.heap.size+1+1) V9:=⟨lt_blk HK9.out⟩
  have y0:=cell_blk HK9.out 0;have y1:=cell_blk HK9.out 1;have y2:=cell_blk HK9.out 2;have y3:=cell_blk HK9.out 3;have y4:=cell_blk HK9.out 4;have y5:=cell_blk HK9.out 5;have y6:=cell_blk HK9.out 6;have y7:=cell_blk HK9.out 7;have y8:=cell_blk HK9.out 8
  simp only [zC,zD,zE] at y0 y1 y2 y3 y4 y5 y6 y7 y8
  have HTR:=HDD.out
  have hbq:=lt_blk HP3X.out
  have HS5:=hidp (HS4.out.same HG9.out.size (fun b hb=>HG9.out.block b (HS4.out.lt hb).2 (by simp;rintro rfl;exact (HNQ.out _ (by omega) hbq).2 hb)) (fun b o e=>HG9.out.block b (HS4.out.wat.2.2 b o e).1 (by
    simp
    rintro rfl
    have:=(HS.out.wat.2.2 _ o e).1
    omega)) (fun m hm b o e=>HG9.out.block b ((HS4.out.dat m hm).2 b o e).1 (by
   simp
   rintro rfl
   have hm2:s.has m∨m=⟨(⟨(k:Int),ap+1,NW,NC,f0,f1,f2,f3,ws⟩:TxP),some ⟨bb,0,none⟩,cc⟩:=by
    rcases hm with hm | hm
    ·rcases List.mem_append.1 hm with h1 | h1
     ·exact .inl (.inl h1)
     ·exact .inr (by simpa using h1)
    ·refine .inl (.inr ?_)
     revert hm
     unfold applyR
     split <;> exact fun h=>h
   rcases hm2 with h1 | rfl
   ·have:=((HS.out.dat m h1).2 _ _ e).1;omega
   ·have:=HB1.out;simp at e;try omega)))
  have HW9:=HW4.out.keep (w':=V9) (fun b o e=>by
   obtain ⟨rfl,_⟩:bb=b∧0=o:=by simpa using e
   exact HG9.out.block _ (by have:=HF4.out.size;have:=HBL.out;omega) (by simp;have:=HB1.out;omega))
  refine bodyPost_ret (v:=.tuple #[MTx.val ⟨(⟨(k:Int),ap+1,NW,NC,f0,f1,f2,f3,ws⟩:TxP),some ⟨bb,0,none⟩,cc⟩,.int .i64 0]) ?_ rfl ⟨fun hne=>absurd HE0.out hne,fun _=>⟨bb,cc,lv',av',?_,?_,((SiFr.of_below (RsOwn y lv av) HBWX.out).trans HF4.out).box HG9.out (by omega),HBN.out,?_,?_⟩⟩
  ·simp [results,Tryz.results14,go_sem,MTx.val, *]
  ·rw [HTR]
  ·rw [HTR];exact HS5.out
  ·have:=HF4.out.size;have:=HG9.out.size;have:=HBL.out;omega
  ·rw [HTR];exact HW9
end Go.Proofs.YtbopfhbeegkkaabGreatDoor
