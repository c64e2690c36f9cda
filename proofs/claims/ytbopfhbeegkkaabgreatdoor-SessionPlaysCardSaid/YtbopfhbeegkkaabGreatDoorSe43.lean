/- Part 43 of a proof: lemmas and contracts that other parts use. -/
import Derived.Test.YtbopfhbeegkkaabGreatDoorSe41
import Derived.Test.YtbopfhbeegkkaabGreatDoorSe31
import Derived.Deep.CutRange
set_option linter.unusedVariables false
set_option linter.unusedSimpArgs false
set_option linter.constructorNameAsVariable false
namespace Go.Proofs.YtbopfhbeegkkaabGreatDoor
open Go.RowKit
set_option maxRecDepth 1000000 in
set_option maxHeartbeats 32000000 in
theorem l3_commit {w wc:World} {x y:Nat→Nat} {u v p q k j bx:Nat} {a:Nat→RSi} {d:SdP} {at0 key now wk:Int} {wd:ByteArray} {wg:Bool} {site seq wall count d0 d1 d2 d3:Int} {ws:List WrP} {tA:Option Addr} {tc:Nat}
  {f0 f1 f7 f8 f9 f11 f21 f22 f23 f24 f25 f26 f27 f28 f29 f30 f31 f32 f33 f34 f35 f36 f37 f38 f39 f40 f41 f42 f43 f44 f45 f46 f47 f48 f49 f50 f51:Value} {s2 s13 s14 s15 s16 s17 s18 s19 s20 s52 s53 s54 s55 s56 s57 s58 s59 s60 s61 s62 s63 s64 s65 s66 s67 s68 s69 s70 s71 s72 s73 s74 s75 s76 s77 s78 s79 s80 s81 s82 s85 s86 s87 s88 s89 s90 s91 s92 s93 s94 s95 s96 s97 s98 s99 s100 s101 s102 s103 s104 s105 s106 s107 s108 s109 s110 s111 s112 s113 s114 s115 s116 s117 s118 s119 s120 s121 s122 s123 s124 s125 s126 s127 s128 s129 s130 s131 s132 s133 s134 s135 s136 s137 s138 s139 s140 s141 s142 s143 s144 s145 s146 s147 s148 s149 s150 s151 s152 s153 s154 s155 s156 s157 s158 s159 s160 s161 s162 s163 s164 s165 s166 s167 s168 s169 s170 s171 s172 s173 s174 s175 s176 s177 s178 s179 s180 s181 s182 s183 s184 s185 s186 s187 s188 s189 s190 s191 s192 s193 s194 s195 s196 s197 s198 s199 s200 s201 s202 s203 s204 s205 s206 s207 s208 s209 s210 s211 s212 s213 s214 s215 s216 s217 s218 s219 s220 s221 s222:Value} {K:Act→World→Prop} {Q:Exit→Act→World→Prop}
  (HG:Hid (EType w)) (HDW:Hid (d.W.length≤j)) (hn80:j<80) (HW0:Hid (WsAt w tA ws)) (HWF:Hid (wf64 site∧wf64 seq∧wf64 key)) (hw20:ws.length≤20) (hk:k<2) (hQ:∀ c (a:Act) r v W,Q (.panic c) (a.put r v) W→Q (.panic c) a W)
  (HT:Hid (LE w wc ⟨x,y,u,v,p,q,a,a,d,d⟩ [obB bx (.cells #[.int .i64 3,.int .i64 at0,.int .i64 key,.int .i64 now,.int .i64 wk,.string wd,.bool wg,.int .i64 site,.int .i64 seq,.int .i64 wall,.int .i64 count,.int .i64 d0,.int .i64 d1,.int .i64 d2,.int .i64 d3,.slice tA ws.length tc] 85) w.heap.size]))
  (hK:∀ a' w',Met (L3J w x y u v p q k j bx 3 f0 f1 f7 f8 f9 f11 f21 f22 f23 f24 f25 f26 f27 f28 f29 f30 f31 f32 f33 f34 f35 f36 f37 f38 f39 f40 f41 f42 f43 f44 f45 f46 f47 f48 f49 f50 f51) a' w'→K a' w'):
  Code.wp Tryz.prog sw4 (Exit.then K Q) ⟨#[f0,f1,s2,.pointer (some ⟨u,0,none⟩),.pointer (some ⟨v,0,none⟩),.pointer (some ⟨p,0,none⟩),.pointer (some ⟨q,0,none⟩),f7,f8,f9,.int .i64 (k:Int),f11,.pointer (some ⟨bx,0,none⟩),s13,s14,s15,s16,s17,s18,s19,s20,f21,f22,f23,f24,f25,f26,f27,f28,f29,f30,f31,f32,f33,f34,f35,f36,f37,f38,f39,f40,f41,f42,f43,f44,f45,f46,f47,f48,f49,f50,f51,s52,s53,s54,s55,s56,s57,s58,s59,s60,s61,s62,s63,s64,s65,s66,s67,s68,s69,s70,s71,s72,s73,s74,s75,s76,s77,s78,s79,s80,s81,s82,.pointer (some ⟨bx,0,none⟩),.int .i64 3,s85,s86,s87,s88,s89,s90,s91,s92,s93,s94,s95,s96,s97,s98,s99,s100,s101,s102,s103,s104,s105,s106,s107,s108,s109,s110,s111,s112,s113,s114,s115,s116,s117,s118,s119,s120,s121,s122,s123,s124,s125,s126,s127,s128,s129,s130,s131,s132,s133,s134,s135,s136,s137,s138,s139,s140,s141,s142,s143,s144,s145,s146,s147,s148,s149,s150,s151,s152,s153,s154,s155,s156,s157,s158,s159,s160,s161,s162,s163,s164,s165,s166,s167,s168,s169,s170,s171,s172,s173,s174,s175,s176,s177,s178,s179,s180,s181,s182,s183,s184,s185,s186,s187,s188,s189,s190,s191,s192,s193,s194,s195,s196,s197,s198,s199,s200,s201,s202,s203,s204,s205,s206,s207,s208,s209,s210,s211,s212,s213,s214,s215,s216,s217,s218,s219,s220,s221,s222],[]⟩ wc:=by
 have hkd:decide ((k:Int)<2)=true:=decide_eq_true (by omega)
 have hk0:(0:Int)≤(k:Int):=by omega
 have hk2:(k:Int)<2:=by omega
 have hk3:(k:Int)≤2:=by omega
 have hbx:=HT.out.box (i:=0) rfl
 have q0:=cell_blk hbx 0;have q1:=cell_blk hbx 1;have q2:=cell_blk hbx 2;have q3:=cell_blk hbx 3;have q4:=cell_blk hbx 4;have q5:=cell_blk hbx 5;have q6:=cell_blk hbx 6;have q7:=cell_blk hbx 7;have q8:=cell_blk hbx 8;have q9:=cell_blk hbx 9;have q10:=cell_blk hbx 10;have q11:=cell_blk hbx 11;have q12:=cell_blk hbx 12;have q13:=cell_blk hbx 13;have q14:=cell_blk hbx 14;have q15:=cell_blk hbx 15
 simp only [zC,zD,zE] at q0 q1 q2 q3 q4 q5 q6 q7 q8 q9 q10 q11 q12 q13 q14 q15
 haveI:SzGe (bx+1) wc:=⟨lt_blk hbx⟩
 clear hbx
 conv=>arg 2;whnf
 obtain ⟨S,hS⟩:∃ S,aset a k (cS d (a k) now)=S:=⟨_,rfl⟩
 obtain ⟨D,hD⟩:∃ D,cD d (a k) now=D:=⟨_,rfl⟩
 obtain ⟨z,hz⟩:∃ z,dCommitE d (a k) now=z:=⟨_,rfl⟩
 obtain ⟨T,hT⟩:∃ T,cT d (a k) now=T:=⟨_,rfl⟩
 have HDL:Hid (D.W.length≤d.W.length):=hidp (by rw [←hD];exact cD_len ..)
 have HTL:Hid (T.ws.length≤100):=hidp (by rw [←hT];exact cT_len ..)
 obtain ⟨t0,t1,t2,t3,t4,t5,t6,t7,tws⟩:=T
 have HP1:Hid (∀ W E,LE w W ⟨x,y,u,v,p,q,a,a,d,d⟩ E→Calls Tryz.prog 44 #[.pointer (some ⟨v,0,none⟩),.pointer (some ⟨y k,0,none⟩),.int .i64 now] W fun e w'=>∃ A' c',e=.returned (.tuple #[.agg #[.int .i64 t0,.int .i64 t1,.int .i64 t2,.int .i64 t3,.int .i64 t4,.int .i64 t5,.int .i64 t6,.int .i64 t7,.slice A' tws.length c'],.int .i64 z])∧LE w w' ⟨x,y,u,v,p,q,a,S,d,D⟩ (E++[obWs A' tws])):=hidp (by
  intro W E h
  have h1:=h.dCommits hk (by have:=HDW.out;show d.W.length≤900;omega) now
  (try simp only at h1)
  rw [hS,hD,hz,hT] at h1
  exact h1)
 have HP2:Hid (∀ W E,LE w W ⟨x,y,u,v,p,q,a,S,d,D⟩ E→Calls Tryz.prog 45 #[.pointer (some ⟨u,0,none⟩),.pointer (some ⟨x k,0,none⟩),.int .i64 now] W fun e w'=>∃ A' c',e=.returned (.tuple #[.agg #[.int .i64 t0,.int .i64 t1,.int .i64 t2,.int .i64 t3,.int .i64 t4,.int .i64 t5,.int .i64 t6,.int .i64 t7,.slice A' tws.length c'],errV z])∧LE w w' ⟨x,y,u,v,p,q,S,S,D,D⟩ (E++[obWs A' tws])):=hidp (by
  intro W E h
  have h1:=h.sCommits hk now
  (try simp only at h1)
  rw [hS,hD,hz,hT] at h1
  exact h1)
 clear hS hD hz hT
 have HSK:Hid (∀ (X:World) (aa bb:Nat→RSi) (dd ee:SdP) (E1:List Ob),LE w X ⟨x,y,u,v,p,q,aa,bb,dd,ee⟩ (obB bx (.cells #[.int .i64 3,.int .i64 at0,.int .i64 key,.int .i64 now,.int .i64 wk,.string wd,.bool wg,.int .i64 site,.int .i64 seq,.int .i64 wall,.int .i64 count,.int .i64 d0,.int .i64 d1,.int .i64 d2,.int .i64 d3,.slice tA ws.length tc] 85) w.heap.size::E1)→(X.cell? ⟨p,k,none⟩=some (.pointer (some ⟨x k,0,none⟩))∧X.cell? ⟨q,k,none⟩=some (.pointer (some ⟨y k,0,none⟩))∧X.cell? ⟨bx,3,none⟩=some (.int .i64 now))):=hidp (fun X aa bb dd ee E1 h=>by
  have hx:=h.box (i:=0) rfl
  have hp:=h.bp
  have hq:=h.bq
  simp only [pp] at hp hq
  refine ⟨?_,?_,cell_blk hx 3⟩
  ·rw [cell_blk hp]
   have:k=0∨k=1:=by omega
   rcases this with rfl | rfl <;> rfl
  ·rw [cell_blk hq]
   have:k=0∨k=1:=by omega
   rcases this with rfl | rfl <;> rfl)
 clear q0 q1 q2 q3 q4 q5 q6 q7 q8 q9 q10 q11 q12 q13 q14 q15
 have HN:=hidp (HT.out.below (Below.drew (Below.refl _ _)))
 go_upto_region 37 with fail
 go_cut [17,18,84] from 52 to 222 (fun tb tz s84 W'=>s84=.int .i64 3∧∃ (b1:Nat) (A1:Option Addr) (c1:Nat) (E1:List Ob),tb=.pointer (some ⟨b1,0,none⟩)∧tz=.int .i64 z∧LE w W' ⟨x,y,u,v,p,q,a,S,d,D⟩ (obB bx (.cells #[.int .i64 3,.int .i64 at0,.int .i64 key,.int .i64 now,.int .i64 wk,.string wd,.bool wg,.int .i64 site,.int .i64 seq,.int .i64 wall,.int .i64 count,.int .i64 d0,.int .i64 d1,.int .i64 d2,.int .i64 d3,.slice tA ws.length tc] 85) w.heap.size::E1)∧obB b1 (.cells #[.int .i64 t0,.int .i64 t1,.int .i64 t2,.int .i64 t3,.int .i64 t4,.int .i64 t5,.int .i64 t6,.int .i64 t7,.slice A1 tws.length c1] 44) w.heap.size∈E1∧obWs A1 tws∈E1)
 case first=>
  refine wp_region_held_drew (S:=(fun X:World=>X.cell? ⟨p,k,none⟩=some (.pointer (some ⟨x k,0,none⟩))∧X.cell? ⟨q,k,none⟩=some (.pointer (some ⟨y k,0,none⟩))∧X.cell? ⟨bx,3,none⟩=some (.int .i64 now))) (by kernel_rfl) ?_ (fun hHeld=>?_)
  ·exact HSK.out _ _ _ _ _ _ HN.out
  refine takeL 0 rfl (by kernel_rfl) (by kernel_rfl) (by kernel_rfl) (fun c a w h=>hQ c a _ _ w h) hHeld (by rfl) (v:=?_) ?_ ?_
  rotate_left
  ·intro w hSw
   (try dsimp only at hSw)
   go_simp
   all_goals (with_reducible rfl)
  try simp only [Act.put,zF,zG,zH]
  refine takeL 1 rfl (by kernel_rfl) (by kernel_rfl) (by kernel_rfl) (fun c a w h=>hQ c a _ _ w h) hHeld (by rfl) (v:=?_) ?_ ?_
  rotate_left
  ·intro w hSw
   (try dsimp only at hSw)
   go_simp
   all_goals (with_reducible rfl)
  try simp only [Act.put,zF,zG,zH]
  refine takeL 2 rfl (by kernel_rfl) (by kernel_rfl) (by kernel_rfl) (fun c a w h=>hQ c a _ _ w h) hHeld (by rfl) (v:=?_) ?_ ?_
  rotate_left
  ·intro w hSw
   (try dsimp only at hSw)
   go_simp
   all_goals (with_reducible rfl)
  try simp only [Act.put,zF,zG,zH]
  refine takeL 3 rfl (by kernel_rfl) (by kernel_rfl) (by kernel_rfl) (fun c a w h=>hQ c a _ _ w h) hHeld (by rfl) (v:=?_) ?_ ?_
  rotate_left
  ·intro w hSw
   (try dsimp only at hSw)
   go_simp
   all_goals (with_reducible rfl)
  try simp only [Act.put,zF,zG,zH]
  refine takeL 4 rfl (by kernel_rfl) (by kernel_rfl) (by kernel_rfl) (fun c a w h=>hQ c a _ _ w h) hHeld (by rfl) (v:=?_) ?_ ?_
  rotate_left
  ·intro w hSw
   (try dsimp only at hSw)
   go_simp
   all_goals (with_reducible rfl)
  try simp only [Act.put,zF,zG,zH]
  refine takeL 5 rfl (by kernel_rfl) (by kernel_rfl) (by kernel_rfl) (fun c a w h=>hQ c a _ _ w h) hHeld (by rfl) (v:=?_) ?_ ?_
  rotate_left
  ·intro w hSw
   (try dsimp only at hSw)
   go_simp
   all_goals (with_reducible rfl)
  try simp only [Act.put,zF,zG,zH]
  refine wpAnyH_ready (rs:=[6,10]) (by kernel_rfl) (by simp) ?_
  refine consL rfl (fun K hK=>?_) ?_
  ·go_simp
   go_at_call 44
   refine (HP1.out _ _ HN.out).mono ?_
   rintro e w3 ⟨A1,c1,rfl,hb3⟩
   have H1:=hidp hb3
   have HN:=hidp hb3
   clear hb3
   go_wp2_with fail
   refine hK.out _ _ ?_ (fun hNew=>?_)
   ·exact HSK.out _ _ _ _ _ _ HN.out
   clear hHeld
   have hHeld:=hNew
   clear hNew hK K
   try simp only [Act.put,zF,zG,zH]
   refine takeL 7 rfl (by kernel_rfl) (by kernel_rfl) (by kernel_rfl) (fun c a w h=>hQ c a _ _ w h) hHeld (by rfl) (v:=?_) ?_ ?_
   rotate_left
   ·intro w hSw
    (try dsimp only at hSw)
    go_simp
    all_goals (with_reducible rfl)
   try simp only [Act.put,zF,zG,zH]
   refine takeL 8 rfl (by kernel_rfl) (by kernel_rfl) (by kernel_rfl) (fun c a w h=>hQ c a _ _ w h) hHeld (by rfl) (v:=?_) ?_ ?_
   rotate_left
   ·intro w hSw
    (try dsimp only at hSw)
    go_simp
    all_goals (with_reducible rfl)
   try simp only [Act.put,zF,zG,zH]
   refine takeL 9 rfl (by kernel_rfl) (by kernel_rfl) (by kernel_rfl) (fun c a w h=>hQ c a _ _ w h) hHeld (by rfl) (v:=?_) ?_ ?_
   rotate_left
   ·intro w hSw
    (try dsimp only at hSw)
    go_simp
    all_goals (with_reducible rfl)
   try simp only [Act.put,zF,zG,zH]
   refine wpAnyH_ready (rs:=[10]) (by kernel_rfl) (by simp) ?_
   refine consL rfl (fun K hK=>?_) ?_
   ·go_simp
    have HN:=hidp (HN.out.push (.cells #[.int .i64 0,.int .i64 0,.int .i64 0,.int .i64 0,.int .i64 0,.int .i64 0,.int .i64 0,.int .i64 0,.slice none 0 0] 44))
    refine hK.out _ _ ?_ (fun hNew=>?_)
    ·exact HSK.out _ _ _ _ _ _ HN.out
    clear hHeld
    have hHeld:=hNew
    clear hNew hK K
    try simp only [Act.put,zF,zG,zH]
    refine wpAnyH_ready (rs:=[11]) (by kernel_rfl) (by simp) ?_
    refine consL rfl (fun K hK=>?_) ?_
    ·have HN:=hidp (H1.out.push (.cells #[.int .i64 t0,.int .i64 t1,.int .i64 t2,.int .i64 t3,.int .i64 t4,.int .i64 t5,.int .i64 t6,.int .i64 t7,.slice A1 tws.length c1] 44))
     go_simp
     refine hK.out _ _ ?_ (fun hNew=>?_)
     ·exact HSK.out _ _ _ _ _ _ HN.out
     clear hHeld
     have hHeld:=hNew
     clear hNew hK K
     try simp only [Act.put,zF,zG,zH]
     refine takeL 12 rfl (by kernel_rfl) (by kernel_rfl) (by kernel_rfl) (fun c a w h=>hQ c a _ _ w h) hHeld (by rfl) (v:=?_) ?_ ?_
     rotate_left
     ·intro w hSw
      (try dsimp only at hSw)
      go_simp
      all_goals (with_reducible rfl)
     try simp only [Act.put,zF,zG,zH]
     refine wpAnyH_done (by kernel_rfl) ?_ _
     have HR:Hid (LE w _ ⟨x,y,u,v,p,q,a,S,d,D⟩ (obB bx (.cells #[.int .i64 3,.int .i64 at0,.int .i64 key,.int .i64 now,.int .i64 wk,.string wd,.bool wg,.int .i64 site,.int .i64 seq,.int .i64 wall,.int .i64 count,.int .i64 d0,.int .i64 d1,.int .i64 d2,.int .i64 d3,.slice tA ws.length tc] 85) w.heap.size::(([]++[obWs A1 tws])++[obB w3.heap.size (.cells #[.int .i64 t0,.int .i64 t1,.int .i64 t2,.int .i64 t3,.int .i64 t4,.int .i64 t5,.int .i64 t6,.int .i64 t7,.slice A1 tws.length c1] 44) w.heap.size]))):=hidp (by have h5:=HN.out;simp only [List.cons_append,List.nil_append,List.append_assoc] at h5 ⊢;exact h5)
     go_wp2_with fail
     go_meet
     exact ⟨rfl,w3.heap.size,A1,c1,(([]++[obWs A1 tws])++[obB w3.heap.size (.cells #[.int .i64 t0,.int .i64 t1,.int .i64 t2,.int .i64 t3,.int .i64 t4,.int .i64 t5,.int .i64 t6,.int .i64 t7,.slice A1 tws.length c1] 44) w.heap.size]),rfl,rfl,HR.out,by simp,by simp⟩
    exact AllReadyH.nil
   exact AllReadyH.nil
  refine consL rfl (fun K hK=>?_) ?_
  ·go_simp
   have HN:=hidp (HN.out.push (.cells #[.int .i64 0,.int .i64 0,.int .i64 0,.int .i64 0,.int .i64 0,.int .i64 0,.int .i64 0,.int .i64 0,.slice none 0 0] 44))
   refine hK.out _ _ ?_ (fun hNew=>?_)
   ·exact HSK.out _ _ _ _ _ _ HN.out
   clear hHeld
   have hHeld:=hNew
   clear hNew hK K
   try simp only [Act.put,zF,zG,zH]
   refine wpAnyH_ready (rs:=[6]) (by kernel_rfl) (by simp) ?_
   refine consL rfl (fun K hK=>?_) ?_
   ·go_simp
    go_at_call 44
    refine (HP1.out _ _ HN.out).mono ?_
    rintro e w3 ⟨A1,c1,rfl,hb3⟩
    have hx9:=hb3.boxm (b:=wc.heap.size) (o:=(.cells #[.int .i64 0,.int .i64 0,.int .i64 0,.int .i64 0,.int .i64 0,.int .i64 0,.int .i64 0,.int .i64 0,.slice none 0 0] 44)) (by simp)
    have r0:=cell_blk hx9 0;have r1:=cell_blk hx9 1;have r2:=cell_blk hx9 2;have r3:=cell_blk hx9 3;have r4:=cell_blk hx9 4;have r5:=cell_blk hx9 5;have r6:=cell_blk hx9 6;have r7:=cell_blk hx9 7;have r8:=cell_blk hx9 8
    simp only [zC,zD,zE] at r0 r1 r2 r3 r4 r5 r6 r7 r8
    have s0:=frozen_blk hx9 0;have s1:=frozen_blk hx9 1;have s2:=frozen_blk hx9 2;have s3:=frozen_blk hx9 3;have s4:=frozen_blk hx9 4;have s5:=frozen_blk hx9 5;have s6:=frozen_blk hx9 6;have s7:=frozen_blk hx9 7;have s8:=frozen_blk hx9 8
    haveI:SzGe (wc.heap.size+1) w3:=⟨lt_blk hx9⟩
    clear hx9
    have H1:=hidp hb3
    have HN:=hidp hb3
    clear hb3
    go_wp2_with fail
    refine hK.out _ _ ?_ (fun hNew=>?_)
    ·exact HSK.out _ _ _ _ _ _ HN.out
    clear hHeld
    have hHeld:=hNew
    clear hNew hK K
    try simp only [Act.put,zF,zG,zH]
    refine takeL 7 rfl (by kernel_rfl) (by kernel_rfl) (by kernel_rfl) (fun c a w h=>hQ c a _ _ w h) hHeld (by rfl) (v:=?_) ?_ ?_
    rotate_left
    ·intro w hSw
     (try dsimp only at hSw)
     go_simp
     all_goals (with_reducible rfl)
    try simp only [Act.put,zF,zG,zH]
    refine takeL 8 rfl (by kernel_rfl) (by kernel_rfl) (by kernel_rfl) (fun c a w h=>hQ c a _ _ w h) hHeld (by rfl) (v:=?_) ?_ ?_
    rotate_left
    ·intro w hSw
     (try dsimp only at hSw)
     go_simp
     all_goals (with_reducible rfl)
    try simp only [Act.put,zF,zG,zH]
    refine takeL 9 rfl (by kernel_rfl) (by kernel_rfl) (by kernel_rfl) (fun c a w h=>hQ c a _ _ w h) hHeld (by rfl) (v:=?_) ?_ ?_
    rotate_left
    ·intro w hSw
     (try dsimp only at hSw)
     go_simp
     all_goals (with_reducible rfl)
    try simp only [Act.put,zF,zG,zH]
    refine wpAnyH_ready (rs:=[11]) (by kernel_rfl) (by simp) ?_
    refine consL rfl (fun K hK=>?_) ?_
    ·have HN:Hid (LE w (put9 w3 wc.heap.size (.int .i64 t0) (.int .i64 t1) (.int .i64 t2) (.int .i64 t3) (.int .i64 t4) (.int .i64 t5) (.int .i64 t6) (.int .i64 t7) (.slice A1 tws.length c1)) ⟨x,y,u,v,p,q,a,S,d,D⟩ ((obB bx (.cells #[.int .i64 3,.int .i64 at0,.int .i64 key,.int .i64 now,.int .i64 wk,.string wd,.bool wg,.int .i64 site,.int .i64 seq,.int .i64 wall,.int .i64 count,.int .i64 d0,.int .i64 d1,.int .i64 d2,.int .i64 d3,.slice tA ws.length tc] 85) w.heap.size::[])++(obB wc.heap.size (.cells #[.int .i64 t0,.int .i64 t1,.int .i64 t2,.int .i64 t3,.int .i64 t4,.int .i64 t5,.int .i64 t6,.int .i64 t7,.slice A1 tws.length c1] 44) w.heap.size)::[obWs A1 tws])):=hidp (by
      have h9:=H1.out
      rw [List.append_assoc] at h9
      exact h9.fill9l _ _ _ _ _ _ _ _ _)
     unfold put9 at HN
     go_simp
     refine hK.out _ _ ?_ (fun hNew=>?_)
     ·exact HSK.out _ _ _ _ _ _ HN.out
     clear hHeld
     have hHeld:=hNew
     clear hNew hK K
     try simp only [Act.put,zF,zG,zH]
     refine takeL 12 rfl (by kernel_rfl) (by kernel_rfl) (by kernel_rfl) (fun c a w h=>hQ c a _ _ w h) hHeld (by rfl) (v:=?_) ?_ ?_
     rotate_left
     ·intro w hSw
      (try dsimp only at hSw)
      go_simp
      all_goals (with_reducible rfl)
     try simp only [Act.put,zF,zG,zH]
     refine wpAnyH_done (by kernel_rfl) ?_ _
     have HR:Hid (LE w _ ⟨x,y,u,v,p,q,a,S,d,D⟩ (obB bx (.cells #[.int .i64 3,.int .i64 at0,.int .i64 key,.int .i64 now,.int .i64 wk,.string wd,.bool wg,.int .i64 site,.int .i64 seq,.int .i64 wall,.int .i64 count,.int .i64 d0,.int .i64 d1,.int .i64 d2,.int .i64 d3,.slice tA ws.length tc] 85) w.heap.size::([]++obB wc.heap.size (.cells #[.int .i64 t0,.int .i64 t1,.int .i64 t2,.int .i64 t3,.int .i64 t4,.int .i64 t5,.int .i64 t6,.int .i64 t7,.slice A1 tws.length c1] 44) w.heap.size::[obWs A1 tws]))):=hidp (by have h5:=HN.out;simp only [List.cons_append,List.nil_append,List.append_assoc] at h5 ⊢;exact h5)
     go_wp2_with fail
     go_meet
     exact ⟨rfl,wc.heap.size,A1,c1,([]++obB wc.heap.size (.cells #[.int .i64 t0,.int .i64 t1,.int .i64 t2,.int .i64 t3,.int .i64 t4,.int .i64 t5,.int .i64 t6,.int .i64 t7,.slice A1 tws.length c1] 44) w.heap.size::[obWs A1 tws]),rfl,rfl,HR.out,by simp,by simp⟩
    exact AllReadyH.nil
   exact AllReadyH.nil
  exact AllReadyH.nil
 case rest=>
  clear HT HP1 HN
  obtain ⟨rfl,b1,A1,c1,E1,rfl,rfl,hle,hm1,hm2⟩:=hcut
  have HT:=hidp hle
  have HM1:=hidp hm1
  have HM2:=hidp hm2
  clear hle hm1 hm2
  have HN:=hidp (HT.out.below (Below.drew (Below.refl _ _)))
  go_upto_region 38 with fail
  go_cut [17,18,19,20,84] from 52 to 222 (fun tb tz tb2 tz2 s84 W'=>s84=.int .i64 3∧∃ (b2:Nat) (A2:Option Addr) (c2:Nat) (E2:List Ob),tb=.pointer (some ⟨b1,0,none⟩)∧tz=.int .i64 z∧tb2=.pointer (some ⟨b2,0,none⟩)∧tz2=errV z∧LE w W' ⟨x,y,u,v,p,q,S,S,D,D⟩ (obB bx (.cells #[.int .i64 3,.int .i64 at0,.int .i64 key,.int .i64 now,.int .i64 wk,.string wd,.bool wg,.int .i64 site,.int .i64 seq,.int .i64 wall,.int .i64 count,.int .i64 d0,.int .i64 d1,.int .i64 d2,.int .i64 d3,.slice tA ws.length tc] 85) w.heap.size::E2)∧(obB b1 (.cells #[.int .i64 t0,.int .i64 t1,.int .i64 t2,.int .i64 t3,.int .i64 t4,.int .i64 t5,.int .i64 t6,.int .i64 t7,.slice A1 tws.length c1] 44) w.heap.size∈E2∧obWs A1 tws∈E2)∧obB b2 (.cells #[.int .i64 t0,.int .i64 t1,.int .i64 t2,.int .i64 t3,.int .i64 t4,.int .i64 t5,.int .i64 t6,.int .i64 t7,.slice A2 tws.length c2] 44) w.heap.size∈E2∧obWs A2 tws∈E2)
  case first=>
   refine wp_region_held_drew (S:=(fun X:World=>X.cell? ⟨p,k,none⟩=some (.pointer (some ⟨x k,0,none⟩))∧X.cell? ⟨q,k,none⟩=some (.pointer (some ⟨y k,0,none⟩))∧X.cell? ⟨bx,3,none⟩=some (.int .i64 now))) (by kernel_rfl) ?_ (fun hHeld=>?_)
   ·exact HSK.out _ _ _ _ _ _ HN.out
   refine takeL 0 rfl (by kernel_rfl) (by kernel_rfl) (by kernel_rfl) (fun c a w h=>hQ c a _ _ w h) hHeld (by rfl) (v:=?_) ?_ ?_
   rotate_left
   ·intro w hSw
    (try dsimp only at hSw)
    go_simp
    all_goals (with_reducible rfl)
   try simp only [Act.put,zF,zG,zH]
   refine takeL 1 rfl (by kernel_rfl) (by kernel_rfl) (by kernel_rfl) (fun c a w h=>hQ c a _ _ w h) hHeld (by rfl) (v:=?_) ?_ ?_
   rotate_left
   ·intro w hSw
    (try dsimp only at hSw)
    go_simp
    all_goals (with_reducible rfl)
   try simp only [Act.put,zF,zG,zH]
   refine takeL 2 rfl (by kernel_rfl) (by kernel_rfl) (by kernel_rfl) (fun c a w h=>hQ c a _ _ w h) hHeld (by rfl) (v:=?_) ?_ ?_
   rotate_left
   ·intro w hSw
    (try dsimp only at hSw)
    go_simp
    all_goals (with_reducible rfl)
   try simp only [Act.put,zF,zG,zH]
   refine takeL 3 rfl (by kernel_rfl) (by kernel_rfl) (by kernel_rfl) (fun c a w h=>hQ c a _ _ w h) hHeld (by rfl) (v:=?_) ?_ ?_
   rotate_left
   ·intro w hSw
    (try dsimp only at hSw)
    go_simp
    all_goals (with_reducible rfl)
   try simp only [Act.put,zF,zG,zH]
   refine takeL 4 rfl (by kernel_rfl) (by kernel_rfl) (by kernel_rfl) (fun c a w h=>hQ c a _ _ w h) hHeld (by rfl) (v:=?_) ?_ ?_
   rotate_left
   ·intro w hSw
    (try dsimp only at hSw)
    go_simp
    all_goals (with_reducible rfl)
   try simp only [Act.put,zF,zG,zH]
   refine takeL 5 rfl (by kernel_rfl) (by kernel_rfl) (by kernel_rfl) (fun c a w h=>hQ c a _ _ w h) hHeld (by rfl) (v:=?_) ?_ ?_
   rotate_left
   ·intro w hSw
    (try dsimp only at hSw)
    go_simp
    all_goals (with_reducible rfl)
   try simp only [Act.put,zF,zG,zH]
   refine wpAnyH_ready (rs:=[6,10]) (by kernel_rfl) (by simp) ?_
   refine consL rfl (fun K hK=>?_) ?_
   ·go_simp
    go_at_call 45
    refine (HP2.out _ _ HN.out).mono ?_
    rintro e w3 ⟨A2,c2,rfl,hb3⟩
    have H1:=hidp hb3
    have HN:=hidp hb3
    clear hb3
    go_wp2_with fail
    refine hK.out _ _ ?_ (fun hNew=>?_)
    ·exact HSK.out _ _ _ _ _ _ HN.out
    clear hHeld
    have hHeld:=hNew
    clear hNew hK K
    try simp only [Act.put,zF,zG,zH]
    refine takeL 7 rfl (by kernel_rfl) (by kernel_rfl) (by kernel_rfl) (fun c a w h=>hQ c a _ _ w h) hHeld (by rfl) (v:=?_) ?_ ?_
    rotate_left
    ·intro w hSw
     (try dsimp only at hSw)
     go_simp
     all_goals (with_reducible rfl)
    try simp only [Act.put,zF,zG,zH]
    refine takeL 8 rfl (by kernel_rfl) (by kernel_rfl) (by kernel_rfl) (fun c a w h=>hQ c a _ _ w h) hHeld (by rfl) (v:=?_) ?_ ?_
    rotate_left
    ·intro w hSw
     (try dsimp only at hSw)
     go_simp
     all_goals (with_reducible rfl)
    try simp only [Act.put,zF,zG,zH]
    refine takeL 9 rfl (by kernel_rfl) (by kernel_rfl) (by kernel_rfl) (fun c a w h=>hQ c a _ _ w h) hHeld (by rfl) (v:=?_) ?_ ?_
    rotate_left
    ·intro w hSw
     (try dsimp only at hSw)
     go_simp
     all_goals (with_reducible rfl)
    try simp only [Act.put,zF,zG,zH]
    refine wpAnyH_ready (rs:=[10]) (by kernel_rfl) (by simp) ?_
    refine consL rfl (fun K hK=>?_) ?_
    ·go_simp
     have HN:=hidp (HN.out.push (.cells #[.int .i64 0,.int .i64 0,.int .i64 0,.int .i64 0,.int .i64 0,.int .i64 0,.int .i64 0,.int .i64 0,.slice none 0 0] 44))
     refine hK.out _ _ ?_ (fun hNew=>?_)
     ·exact HSK.out _ _ _ _ _ _ HN.out
     clear hHeld
     have hHeld:=hNew
     clear hNew hK K
     try simp only [Act.put,zF,zG,zH]
     refine wpAnyH_ready (rs:=[11]) (by kernel_rfl) (by simp) ?_
     refine consL rfl (fun K hK=>?_) ?_
     ·have HN:=hidp (H1.out.push (.cells #[.int .i64 t0,.int .i64 t1,.int .i64 t2,.int .i64 t3,.int .i64 t4,.int .i64 t5,.int .i64 t6,.int .i64 t7,.slice A2 tws.length c2] 44))
      go_simp
      refine hK.out _ _ ?_ (fun hNew=>?_)
      ·exact HSK.out _ _ _ _ _ _ HN.out
      clear hHeld
      have hHeld:=hNew
      clear hNew hK K
      try simp only [Act.put,zF,zG,zH]
      refine takeL 12 rfl (by kernel_rfl) (by kernel_rfl) (by kernel_rfl) (fun c a w h=>hQ c a _ _ w h) hHeld (by rfl) (v:=?_) ?_ ?_
      rotate_left
      ·intro w hSw
       (try dsimp only at hSw)
       go_simp
       all_goals (with_reducible rfl)
      try simp only [Act.put,zF,zG,zH]
      refine wpAnyH_done (by kernel_rfl) ?_ _
      have HR:Hid (LE w _ ⟨x,y,u,v,p,q,S,S,D,D⟩ (obB bx (.cells #[.int .i64 3,.int .i64 at0,.int .i64 key,.int .i64 now,.int .i64 wk,.string wd,.bool wg,.int .i64 site,.int .i64 seq,.int .i64 wall,.int .i64 count,.int .i64 d0,.int .i64 d1,.int .i64 d2,.int .i64 d3,.slice tA ws.length tc] 85) w.heap.size::((E1++[obWs A2 tws])++[obB w3.heap.size (.cells #[.int .i64 t0,.int .i64 t1,.int .i64 t2,.int .i64 t3,.int .i64 t4,.int .i64 t5,.int .i64 t6,.int .i64 t7,.slice A2 tws.length c2] 44) w.heap.size]))):=hidp (by have h5:=HN.out;simp only [List.cons_append,List.nil_append,List.append_assoc] at h5 ⊢;exact h5)
      go_wp2_with fail
      go_meet
      exact ⟨rfl,w3.heap.size,A2,c2,((E1++[obWs A2 tws])++[obB w3.heap.size (.cells #[.int .i64 t0,.int .i64 t1,.int .i64 t2,.int .i64 t3,.int .i64 t4,.int .i64 t5,.int .i64 t6,.int .i64 t7,.slice A2 tws.length c2] 44) w.heap.size]),rfl,rfl,rfl,rfl,HR.out,⟨by have:=HM1.out;simp [this],by have:=HM2.out;simp [this]⟩,by simp,by simp⟩
     exact AllReadyH.nil
    exact AllReadyH.nil
   refine consL rfl (fun K hK=>?_) ?_
   ·go_simp
    have HN:=hidp (HN.out.push (.cells #[.int .i64 0,.int .i64 0,.int .i64 0,.int .i64 0,.int .i64 0,.int .i64 0,.int .i64 0,.int .i64 0,.slice none 0 0] 44))
    refine hK.out _ _ ?_ (fun hNew=>?_)
    ·exact HSK.out _ _ _ _ _ _ HN.out
    clear hHeld
    have hHeld:=hNew
    clear hNew hK K
    try simp only [Act.put,zF,zG,zH]
    refine wpAnyH_ready (rs:=[6]) (by kernel_rfl) (by simp) ?_
    refine consL rfl (fun K hK=>?_) ?_
    ·go_simp
     go_at_call 45
     refine (HP2.out _ _ HN.out).mono ?_
     rintro e w3 ⟨A2,c2,rfl,hb3⟩
     have hx9:=hb3.boxm (b:=wc.heap.size) (o:=(.cells #[.int .i64 0,.int .i64 0,.int .i64 0,.int .i64 0,.int .i64 0,.int .i64 0,.int .i64 0,.int .i64 0,.slice none 0 0] 44)) (by simp)
     have r0:=cell_blk hx9 0;have r1:=cell_blk hx9 1;have r2:=cell_blk hx9 2;have r3:=cell_blk hx9 3;have r4:=cell_blk hx9 4;have r5:=cell_blk hx9 5;have r6:=cell_blk hx9 6;have r7:=cell_blk hx9 7;have r8:=cell_blk hx9 8
     simp only [zC,zD,zE] at r0 r1 r2 r3 r4 r5 r6 r7 r8
     have s0:=frozen_blk hx9 0;have s1:=frozen_blk hx9 1;have s2:=frozen_blk hx9 2;have s3:=frozen_blk hx9 3;have s4:=frozen_blk hx9 4;have s5:=frozen_blk hx9 5;have s6:=frozen_blk hx9 6;have s7:=frozen_blk hx9 7;have s8:=frozen_blk hx9 8
     haveI:SzGe (wc.heap.size+1) w3:=⟨lt_blk hx9⟩
     clear hx9
     have H1:=hidp hb3
     have HN:=hidp hb3
     clear hb3
     go_wp2_with fail
     refine hK.out _ _ ?_ (fun hNew=>?_)
     ·exact HSK.out _ _ _ _ _ _ HN.out
     clear hHeld
     have hHeld:=hNew
     clear hNew hK K
     try simp only [Act.put,zF,zG,zH]
     refine takeL 7 rfl (by kernel_rfl) (by kernel_rfl) (by kernel_rfl) (fun c a w h=>hQ c a _ _ w h) hHeld (by rfl) (v:=?_) ?_ ?_
     rotate_left
     ·intro w hSw
      (try dsimp only at hSw)
      go_simp
      all_goals (with_reducible rfl)
     try simp only [Act.put,zF,zG,zH]
     refine takeL 8 rfl (by kernel_rfl) (by kernel_rfl) (by kernel_rfl) (fun c a w h=>hQ c a _ _ w h) hHeld (by rfl) (v:=?_) ?_ ?_
     rotate_left
     ·intro w hSw
      (try dsimp only at hSw)
      go_simp
      all_goals (with_reducible rfl)
     try simp only [Act.put,zF,zG,zH]
     refine takeL 9 rfl (by kernel_rfl) (by kernel_rfl) (by kernel_rfl) (fun c a w h=>hQ c a _ _ w h) hHeld (by rfl) (v:=?_) ?_ ?_
     rotate_left
     ·intro w hSw
      (try dsimp only at hSw)
      go_simp
      all_goals (with_reducible rfl)
     try simp only [Act.put,zF,zG,zH]
     refine wpAnyH_ready (rs:=[11]) (by kernel_rfl) (by simp) ?_
     refine consL rfl (fun K hK=>?_) ?_
     ·have HN:Hid (LE w (put9 w3 wc.heap.size (.int .i64 t0) (.int .i64 t1) (.int .i64 t2) (.int .i64 t3) (.int .i64 t4) (.int .i64 t5) (.int .i64 t6) (.int .i64 t7) (.slice A2 tws.length c2)) ⟨x,y,u,v,p,q,S,S,D,D⟩ ((obB bx (.cells #[.int .i64 3,.int .i64 at0,.int .i64 key,.int .i64 now,.int .i64 wk,.string wd,.bool wg,.int .i64 site,.int .i64 seq,.int .i64 wall,.int .i64 count,.int .i64 d0,.int .i64 d1,.int .i64 d2,.int .i64 d3,.slice tA ws.length tc] 85) w.heap.size::E1)++(obB wc.heap.size (.cells #[.int .i64 t0,.int .i64 t1,.int .i64 t2,.int .i64 t3,.int .i64 t4,.int .i64 t5,.int .i64 t6,.int .i64 t7,.slice A2 tws.length c2] 44) w.heap.size)::[obWs A2 tws])):=hidp (by
       have h9:=H1.out
       rw [List.append_assoc] at h9
       exact h9.fill9l _ _ _ _ _ _ _ _ _)
      unfold put9 at HN
      go_simp
      refine hK.out _ _ ?_ (fun hNew=>?_)
      ·exact HSK.out _ _ _ _ _ _ HN.out
      clear hHeld
      have hHeld:=hNew
      clear hNew hK K
      try simp only [Act.put,zF,zG,zH]
      refine takeL 12 rfl (by kernel_rfl) (by kernel_rfl) (by kernel_rfl) (fun c a w h=>hQ c a _ _ w h) hHeld (by rfl) (v:=?_) ?_ ?_
      rotate_left
      ·intro w hSw
       (try dsimp only at hSw)
       go_simp
       all_goals (with_reducible rfl)
      try simp only [Act.put,zF,zG,zH]
      refine wpAnyH_done (by kernel_rfl) ?_ _
      have HR:Hid (LE w _ ⟨x,y,u,v,p,q,S,S,D,D⟩ (obB bx (.cells #[.int .i64 3,.int .i64 at0,.int .i64 key,.int .i64 now,.int .i64 wk,.string wd,.bool wg,.int .i64 site,.int .i64 seq,.int .i64 wall,.int .i64 count,.int .i64 d0,.int .i64 d1,.int .i64 d2,.int .i64 d3,.slice tA ws.length tc] 85) w.heap.size::(E1++obB wc.heap.size (.cells #[.int .i64 t0,.int .i64 t1,.int .i64 t2,.int .i64 t3,.int .i64 t4,.int .i64 t5,.int .i64 t6,.int .i64 t7,.slice A2 tws.length c2] 44) w.heap.size::[obWs A2 tws]))):=hidp (by have h5:=HN.out;simp only [List.cons_append,List.nil_append,List.append_assoc] at h5 ⊢;exact h5)
      go_wp2_with fail
      go_meet
      exact ⟨rfl,wc.heap.size,A2,c2,(E1++obB wc.heap.size (.cells #[.int .i64 t0,.int .i64 t1,.int .i64 t2,.int .i64 t3,.int .i64 t4,.int .i64 t5,.int .i64 t6,.int .i64 t7,.slice A2 tws.length c2] 44) w.heap.size::[obWs A2 tws]),rfl,rfl,rfl,rfl,HR.out,⟨by have:=HM1.out;simp [this],by have:=HM2.out;simp [this]⟩,by simp,by simp⟩
     exact AllReadyH.nil
    exact AllReadyH.nil
   exact AllReadyH.nil
  case rest=>
   clear HT HM1 HM2 HN
   obtain ⟨rfl,b2,A2,c2,E2,rfl,rfl,rfl,rfl,hle,⟨hm1,hm2⟩,hm3,hm4⟩:=hcut
   have HT:=hidp hle
   have HW1:=hidp (hle.wsm (List.mem_cons_of_mem _ hm2))
   have HW2:=hidp (hle.wsm (List.mem_cons_of_mem _ hm4))
   have hx1:=hle.boxm (List.mem_cons_of_mem _ hm1)
   have hx2:=hle.boxm (List.mem_cons_of_mem _ hm3)
   have r0:=cell_blk hx1 0;have r1:=cell_blk hx1 1;have r2:=cell_blk hx1 2;have r3:=cell_blk hx1 3;have r4:=cell_blk hx1 4;have r5:=cell_blk hx1 5;have r6:=cell_blk hx1 6;have r7:=cell_blk hx1 7;have r8:=cell_blk hx1 8
   have s0:=cell_blk hx2 0;have s1:=cell_blk hx2 1;have s2:=cell_blk hx2 2;have s3:=cell_blk hx2 3;have s4:=cell_blk hx2 4;have s5:=cell_blk hx2 5;have s6:=cell_blk hx2 6;have s7:=cell_blk hx2 7;have s8:=cell_blk hx2 8
   simp only [zC,zD,zE] at r0 s0 r1 s1 r2 s2 r3 s3 r4 s4 r5 s5 r6 s6 r7 s7 r8 s8
   haveI:SzGe (b1+1) wc:=⟨lt_blk hx1⟩
   haveI:SzGe (b2+1) wc:=⟨lt_blk hx2⟩
   clear hle hm1 hm2 hm3 hm4 hx1 hx2
   go_wp2_with fail
   go_at_call 12
   refine (bareL_any z _ (HG.out.plus HT.out.low)).mono ?_
   rintro e w5 ⟨rfl,hb5⟩
   obtain ⟨x5,rfl⟩:=wplus_of_below hb5
   clear hb5
   go_wp2_with fail
   go_at_call 16
   refine (same_eq t0 t1 t2 t3 t4 t5 t6 t7 tws A2 A1 c2 c1 _ (by have:=HTL.out;(try simp only at this);omega) (HW2.out.below (by repeat (first | exact Below.refl _ _ | refine blw_alloc ?_ | refine blw_plus ?_ | refine Below.drew ?_))) (HW1.out.below (by repeat (first | exact Below.refl _ _ | refine blw_alloc ?_ | refine blw_plus ?_ | refine Below.drew ?_)))).mono ?_
   rintro e w6 ⟨rfl,hb6⟩
   obtain ⟨x6,rfl⟩:=wplus_of_below hb6
   clear hb6
   go_wp2_with fail
   (refine Met.intro ?_;unfold L3J;(repeat apply Exists.intro);refine ⟨?rel,rfl⟩)
   exact ⟨S,D,by have:=HDL.out;have:=HDW.out;omega,(HT.out.below (by repeat (first | exact Below.refl _ _ | refine blw_alloc ?_ | refine blw_plus ?_ | refine Below.drew ?_))).nil⟩
end Go.Proofs.YtbopfhbeegkkaabGreatDoor
