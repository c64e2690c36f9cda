/- Part 42 of a proof: lemmas and contracts that other parts use. -/
import Derived.Test.YtbopfhbeegkkaabGreatDoorSe41
set_option linter.unusedVariables false
set_option linter.unusedSimpArgs false
set_option linter.constructorNameAsVariable false
namespace Go.Proofs.YtbopfhbeegkkaabGreatDoor
open Go.RowKit
set_option maxRecDepth 1000000 in
set_option maxHeartbeats 32000000 in
theorem l3_read {w wc:World} {x y:Nat→Nat} {u v p q k j bx:Nat} {a:Nat→RSi} {d:SdP} {at0 key now wk:Int} {wd:ByteArray} {wg:Bool} {site seq wall count d0 d1 d2 d3:Int} {ws:List WrP} {tA:Option Addr} {tc:Nat}
  {f0 f1 f7 f8 f9 f11 f21 f22 f23 f24 f25 f26 f27 f28 f29 f30 f31 f32 f33 f34 f35 f36 f37 f38 f39 f40 f41 f42 f43 f44 f45 f46 f47 f48 f49 f50 f51:Value} {s2 s13 s14 s15 s16 s17 s18 s19 s20 s52 s53 s54 s55 s56 s57 s58 s59 s60 s61 s62 s63 s64 s65 s66 s67 s68 s69 s70 s71 s72 s73 s74 s75 s76 s77 s78 s79 s80 s81 s82 s85 s86 s87 s88 s89 s90 s91 s92 s93 s94 s95 s96 s97 s98 s99 s100 s101 s102 s103 s104 s105 s106 s107 s108 s109 s110 s111 s112 s113 s114 s115 s116 s117 s118 s119 s120 s121 s122 s123 s124 s125 s126 s127 s128 s129 s130 s131 s132 s133 s134 s135 s136 s137 s138 s139 s140 s141 s142 s143 s144 s145 s146 s147 s148 s149 s150 s151 s152 s153 s154 s155 s156 s157 s158 s159 s160 s161 s162 s163 s164 s165 s166 s167 s168 s169 s170 s171 s172 s173 s174 s175 s176 s177 s178 s179 s180 s181 s182 s183 s184 s185 s186 s187 s188 s189 s190 s191 s192 s193 s194 s195 s196 s197 s198 s199 s200 s201 s202 s203 s204 s205 s206 s207 s208 s209 s210 s211 s212 s213 s214 s215 s216 s217 s218 s219 s220 s221 s222:Value} {K:Act→World→Prop} {Q:Exit→Act→World→Prop}
  (HG:Hid (EType w)) (HDW:Hid (d.W.length≤j)) (hn80:j<80) (HW0:Hid (WsAt w tA ws)) (HWF:Hid (wf64 site∧wf64 seq∧wf64 key)) (hw20:ws.length≤20) (hk:k<2)
  (HT:Hid (LE w wc ⟨x,y,u,v,p,q,a,a,d,d⟩ [obB bx (.cells #[.int .i64 1,.int .i64 at0,.int .i64 key,.int .i64 now,.int .i64 wk,.string wd,.bool wg,.int .i64 site,.int .i64 seq,.int .i64 wall,.int .i64 count,.int .i64 d0,.int .i64 d1,.int .i64 d2,.int .i64 d3,.slice tA ws.length tc] 85) w.heap.size]))
  (hK:∀ a' w',Met (L3J w x y u v p q k j bx 1 f0 f1 f7 f8 f9 f11 f21 f22 f23 f24 f25 f26 f27 f28 f29 f30 f31 f32 f33 f34 f35 f36 f37 f38 f39 f40 f41 f42 f43 f44 f45 f46 f47 f48 f49 f50 f51) a' w'→K a' w'):
  Code.wp Tryz.prog sw4 (Exit.then K Q) ⟨#[f0,f1,s2,.pointer (some ⟨u,0,none⟩),.pointer (some ⟨v,0,none⟩),.pointer (some ⟨p,0,none⟩),.pointer (some ⟨q,0,none⟩),f7,f8,f9,.int .i64 (k:Int),f11,.pointer (some ⟨bx,0,none⟩),s13,s14,s15,s16,s17,s18,s19,s20,f21,f22,f23,f24,f25,f26,f27,f28,f29,f30,f31,f32,f33,f34,f35,f36,f37,f38,f39,f40,f41,f42,f43,f44,f45,f46,f47,f48,f49,f50,f51,s52,s53,s54,s55,s56,s57,s58,s59,s60,s61,s62,s63,s64,s65,s66,s67,s68,s69,s70,s71,s72,s73,s74,s75,s76,s77,s78,s79,s80,s81,s82,.pointer (some ⟨bx,0,none⟩),.int .i64 1,s85,s86,s87,s88,s89,s90,s91,s92,s93,s94,s95,s96,s97,s98,s99,s100,s101,s102,s103,s104,s105,s106,s107,s108,s109,s110,s111,s112,s113,s114,s115,s116,s117,s118,s119,s120,s121,s122,s123,s124,s125,s126,s127,s128,s129,s130,s131,s132,s133,s134,s135,s136,s137,s138,s139,s140,s141,s142,s143,s144,s145,s146,s147,s148,s149,s150,s151,s152,s153,s154,s155,s156,s157,s158,s159,s160,s161,s162,s163,s164,s165,s166,s167,s168,s169,s170,s171,s172,s173,s174,s175,s176,s177,s178,s179,s180,s181,s182,s183,s184,s185,s186,s187,s188,s189,s190,s191,s192,s193,s194,s195,s196,s197,s198,s199,s200,s201,s202,s203,s204,s205,s206,s207,s208,s209,s210,s211,s212,s213,s214,s215,s216,s217,s218,s219,s220,s221,s222],[]⟩ wc:=by
 have hkd:decide ((k:Int)<2)=true:=decide_eq_true (by omega)
 have hk0:(0:Int)≤(k:Int):=by omega
 have hk2:(k:Int)<2:=by omega
 have hk3:(k:Int)≤2:=by omega
 have hbx:=HT.out.box (i:=0) rfl
 have q0:=cell_blk hbx 0;have q1:=cell_blk hbx 1;have q2:=cell_blk hbx 2;have q3:=cell_blk hbx 3;have q4:=cell_blk hbx 4;have q5:=cell_blk hbx 5;have q6:=cell_blk hbx 6;have q7:=cell_blk hbx 7;have q8:=cell_blk hbx 8;have q9:=cell_blk hbx 9;have q10:=cell_blk hbx 10;have q11:=cell_blk hbx 11;have q12:=cell_blk hbx 12;have q13:=cell_blk hbx 13;have q14:=cell_blk hbx 14;have q15:=cell_blk hbx 15
 simp only [zC,zD,zE] at q0 q1 q2 q3 q4 q5 q6 q7 q8 q9 q10 q11 q12 q13 q14 q15
 haveI:SzGe (bx+1) wc:=⟨lt_blk hbx⟩
 clear hbx
 conv=>arg 2;whnf
 obtain ⟨⟨txt,z⟩,hR⟩:∃ R,sdRead d.op (lastW d.W key) (aRead (a k) key d.n0 d.n1 d.n2 d.n3)=R:=⟨_,rfl⟩
 have HP1:Hid (∀ W,LE w W ⟨x,y,u,v,p,q,a,a,d,d⟩ [obB bx (.cells #[.int .i64 1,.int .i64 at0,.int .i64 key,.int .i64 now,.int .i64 wk,.string wd,.bool wg,.int .i64 site,.int .i64 seq,.int .i64 wall,.int .i64 count,.int .i64 d0,.int .i64 d1,.int .i64 d2,.int .i64 d3,.slice tA ws.length tc] 85) w.heap.size]→Calls Tryz.prog 40 #[.pointer (some ⟨v,0,none⟩),.pointer (some ⟨y k,0,none⟩),.int .i64 key] W fun e w'=>e=.returned (.tuple #[.string txt,.int .i64 z])∧LE w w' ⟨x,y,u,v,p,q,a,a,d,d⟩ [obB bx (.cells #[.int .i64 1,.int .i64 at0,.int .i64 key,.int .i64 now,.int .i64 wk,.string wd,.bool wg,.int .i64 site,.int .i64 seq,.int .i64 wall,.int .i64 count,.int .i64 d0,.int .i64 d1,.int .i64 d2,.int .i64 d3,.slice tA ws.length tc] 85) w.heap.size]):=hidp (by
  intro W h
  have h1:=h.dRead hk key (by have:=HDW.out;show d.W.length≤900;omega)
  (try simp only at h1)
  rw [hR] at h1
  exact h1)
 have HP2:Hid (∀ W,LE w W ⟨x,y,u,v,p,q,a,a,d,d⟩ [obB bx (.cells #[.int .i64 1,.int .i64 at0,.int .i64 key,.int .i64 now,.int .i64 wk,.string wd,.bool wg,.int .i64 site,.int .i64 seq,.int .i64 wall,.int .i64 count,.int .i64 d0,.int .i64 d1,.int .i64 d2,.int .i64 d3,.slice tA ws.length tc] 85) w.heap.size]→Calls Tryz.prog 41 #[.pointer (some ⟨u,0,none⟩),.pointer (some ⟨x k,0,none⟩),.int .i64 key] W fun e w'=>e=.returned (.tuple #[.string txt,errV z])∧LE w w' ⟨x,y,u,v,p,q,a,a,d,d⟩ [obB bx (.cells #[.int .i64 1,.int .i64 at0,.int .i64 key,.int .i64 now,.int .i64 wk,.string wd,.bool wg,.int .i64 site,.int .i64 seq,.int .i64 wall,.int .i64 count,.int .i64 d0,.int .i64 d1,.int .i64 d2,.int .i64 d3,.slice tA ws.length tc] 85) w.heap.size]):=hidp (by
  intro W h
  have h1:=h.sRead hk key HWF.out.2.2
  (try simp only at h1)
  rw [hR] at h1
  exact h1)
 clear hR
 have HSK:Hid (∀ (X:World) (aa bb:Nat→RSi) (dd ee:SdP),LE w X ⟨x,y,u,v,p,q,aa,bb,dd,ee⟩ [obB bx (.cells #[.int .i64 1,.int .i64 at0,.int .i64 key,.int .i64 now,.int .i64 wk,.string wd,.bool wg,.int .i64 site,.int .i64 seq,.int .i64 wall,.int .i64 count,.int .i64 d0,.int .i64 d1,.int .i64 d2,.int .i64 d3,.slice tA ws.length tc] 85) w.heap.size]→(X.cell? ⟨p,k,none⟩=some (.pointer (some ⟨x k,0,none⟩))∧X.cell? ⟨q,k,none⟩=some (.pointer (some ⟨y k,0,none⟩))∧X.cell? ⟨bx,2,none⟩=some (.int .i64 key))):=hidp (fun X aa bb dd ee h=>by
  have hx:=h.box (i:=0) rfl
  have hp:=h.bp
  have hq:=h.bq
  simp only [pp] at hp hq
  refine ⟨?_,?_,cell_blk hx 2⟩
  ·rw [cell_blk hp]
   have:k=0∨k=1:=by omega
   rcases this with rfl | rfl <;> rfl
  ·rw [cell_blk hq]
   have:k=0∨k=1:=by omega
   rcases this with rfl | rfl <;> rfl)
 clear q0 q1 q2 q3 q4 q5 q6 q7 q8 q9 q10 q11 q12 q13 q14 q15
 go_upto_region 29 with fail
 go_region_held3 (fun X:World=>X.cell? ⟨p,k,none⟩=some (.pointer (some ⟨x k,0,none⟩))∧X.cell? ⟨q,k,none⟩=some (.pointer (some ⟨y k,0,none⟩))∧X.cell? ⟨bx,2,none⟩=some (.int .i64 key)) ((first | exact HSK.out _ _ _ _ _ H1.out | exact HSK.out _ _ _ _ _ (HT.out.below (by repeat (first | exact Below.refl _ _ | refine blw_alloc ?_ | refine blw_plus ?_ | refine Below.drew ?_))))) (
  first
  | (go_at_call 40
     refine (HP1.out _ (HT.out.below (by repeat (first | exact Below.refl _ _ | refine blw_alloc ?_ | refine blw_plus ?_ | refine Below.drew ?_)))).mono ?_
     rintro e w3 ⟨rfl,hb3⟩
     have H1:=hidp hb3
     clear hb3)
  | fail)
 all_goals
  go_upto_region 30 with fail
  go_region_held3 (fun X:World=>X.cell? ⟨p,k,none⟩=some (.pointer (some ⟨x k,0,none⟩))∧X.cell? ⟨q,k,none⟩=some (.pointer (some ⟨y k,0,none⟩))∧X.cell? ⟨bx,2,none⟩=some (.int .i64 key)) ((first | exact HSK.out _ _ _ _ _ H2.out | exact HSK.out _ _ _ _ _ H1.out | exact HSK.out _ _ _ _ _ (H1.out.below (by repeat (first | exact Below.refl _ _ | refine blw_alloc ?_ | refine blw_plus ?_ | refine Below.drew ?_))))) (
   first
   | (go_at_call 41
      refine (HP2.out _ (H1.out.below (by repeat (first | exact Below.refl _ _ | refine blw_alloc ?_ | refine blw_plus ?_ | refine Below.drew ?_)))).mono ?_
      rintro e w4 ⟨rfl,hb4⟩
      have H2:=hidp hb4
      clear hb4)
   | fail)
  all_goals
   go_wp2_with fail
   go_at_call 12
   refine (bareL_any z _ (HG.out.plus (H2.out.below (by repeat (first | exact Below.refl _ _ | refine blw_alloc ?_ | refine blw_plus ?_ | refine Below.drew ?_))).low)).mono ?_
   rintro e w5 ⟨rfl,hb5⟩
   have H3:=hidp ((H2.out.below (by repeat (first | exact Below.refl _ _ | refine blw_alloc ?_ | refine blw_plus ?_ | refine Below.drew ?_))).below hb5)
   clear hb5
   go_wp2_with fail
   (refine Met.intro ?_;unfold L3J;(repeat apply Exists.intro);refine ⟨?rel,rfl⟩)
   exact ⟨a,d,by have:=HDW.out;omega,(H3.out.below (by repeat (first | exact Below.refl _ _ | refine blw_alloc ?_ | refine blw_plus ?_ | refine Below.drew ?_))).nil⟩
set_option maxRecDepth 1000000 in
set_option maxHeartbeats 32000000 in
theorem l3_write {w wc:World} {x y:Nat→Nat} {u v p q k j bx:Nat} {a:Nat→RSi} {d:SdP} {at0 key now wk:Int} {wd:ByteArray} {wg:Bool} {site seq wall count d0 d1 d2 d3:Int} {ws:List WrP} {tA:Option Addr} {tc:Nat}
  {f0 f1 f7 f8 f9 f11 f21 f22 f23 f24 f25 f26 f27 f28 f29 f30 f31 f32 f33 f34 f35 f36 f37 f38 f39 f40 f41 f42 f43 f44 f45 f46 f47 f48 f49 f50 f51:Value} {s2 s13 s14 s15 s16 s17 s18 s19 s20 s52 s53 s54 s55 s56 s57 s58 s59 s60 s61 s62 s63 s64 s65 s66 s67 s68 s69 s70 s71 s72 s73 s74 s75 s76 s77 s78 s79 s80 s81 s82 s85 s86 s87 s88 s89 s90 s91 s92 s93 s94 s95 s96 s97 s98 s99 s100 s101 s102 s103 s104 s105 s106 s107 s108 s109 s110 s111 s112 s113 s114 s115 s116 s117 s118 s119 s120 s121 s122 s123 s124 s125 s126 s127 s128 s129 s130 s131 s132 s133 s134 s135 s136 s137 s138 s139 s140 s141 s142 s143 s144 s145 s146 s147 s148 s149 s150 s151 s152 s153 s154 s155 s156 s157 s158 s159 s160 s161 s162 s163 s164 s165 s166 s167 s168 s169 s170 s171 s172 s173 s174 s175 s176 s177 s178 s179 s180 s181 s182 s183 s184 s185 s186 s187 s188 s189 s190 s191 s192 s193 s194 s195 s196 s197 s198 s199 s200 s201 s202 s203 s204 s205 s206 s207 s208 s209 s210 s211 s212 s213 s214 s215 s216 s217 s218 s219 s220 s221 s222:Value} {K:Act→World→Prop} {Q:Exit→Act→World→Prop}
  (HG:Hid (EType w)) (HDW:Hid (d.W.length≤j)) (hn80:j<80) (HW0:Hid (WsAt w tA ws)) (HWF:Hid (wf64 site∧wf64 seq∧wf64 key)) (hw20:ws.length≤20) (hk:k<2)
  (HT:Hid (LE w wc ⟨x,y,u,v,p,q,a,a,d,d⟩ [obB bx (.cells #[.int .i64 2,.int .i64 at0,.int .i64 key,.int .i64 now,.int .i64 wk,.string wd,.bool wg,.int .i64 site,.int .i64 seq,.int .i64 wall,.int .i64 count,.int .i64 d0,.int .i64 d1,.int .i64 d2,.int .i64 d3,.slice tA ws.length tc] 85) w.heap.size]))
  (hK:∀ a' w',Met (L3J w x y u v p q k j bx 2 f0 f1 f7 f8 f9 f11 f21 f22 f23 f24 f25 f26 f27 f28 f29 f30 f31 f32 f33 f34 f35 f36 f37 f38 f39 f40 f41 f42 f43 f44 f45 f46 f47 f48 f49 f50 f51) a' w'→K a' w'):
  Code.wp Tryz.prog sw4 (Exit.then K Q) ⟨#[f0,f1,s2,.pointer (some ⟨u,0,none⟩),.pointer (some ⟨v,0,none⟩),.pointer (some ⟨p,0,none⟩),.pointer (some ⟨q,0,none⟩),f7,f8,f9,.int .i64 (k:Int),f11,.pointer (some ⟨bx,0,none⟩),s13,s14,s15,s16,s17,s18,s19,s20,f21,f22,f23,f24,f25,f26,f27,f28,f29,f30,f31,f32,f33,f34,f35,f36,f37,f38,f39,f40,f41,f42,f43,f44,f45,f46,f47,f48,f49,f50,f51,s52,s53,s54,s55,s56,s57,s58,s59,s60,s61,s62,s63,s64,s65,s66,s67,s68,s69,s70,s71,s72,s73,s74,s75,s76,s77,s78,s79,s80,s81,s82,.pointer (some ⟨bx,0,none⟩),.int .i64 2,s85,s86,s87,s88,s89,s90,s91,s92,s93,s94,s95,s96,s97,s98,s99,s100,s101,s102,s103,s104,s105,s106,s107,s108,s109,s110,s111,s112,s113,s114,s115,s116,s117,s118,s119,s120,s121,s122,s123,s124,s125,s126,s127,s128,s129,s130,s131,s132,s133,s134,s135,s136,s137,s138,s139,s140,s141,s142,s143,s144,s145,s146,s147,s148,s149,s150,s151,s152,s153,s154,s155,s156,s157,s158,s159,s160,s161,s162,s163,s164,s165,s166,s167,s168,s169,s170,s171,s172,s173,s174,s175,s176,s177,s178,s179,s180,s181,s182,s183,s184,s185,s186,s187,s188,s189,s190,s191,s192,s193,s194,s195,s196,s197,s198,s199,s200,s201,s202,s203,s204,s205,s206,s207,s208,s209,s210,s211,s212,s213,s214,s215,s216,s217,s218,s219,s220,s221,s222],[]⟩ wc:=by
 have hkd:decide ((k:Int)<2)=true:=decide_eq_true (by omega)
 have hk0:(0:Int)≤(k:Int):=by omega
 have hk2:(k:Int)<2:=by omega
 have hk3:(k:Int)≤2:=by omega
 have hbx:=HT.out.box (i:=0) rfl
 have q0:=cell_blk hbx 0;have q1:=cell_blk hbx 1;have q2:=cell_blk hbx 2;have q3:=cell_blk hbx 3;have q4:=cell_blk hbx 4;have q5:=cell_blk hbx 5;have q6:=cell_blk hbx 6;have q7:=cell_blk hbx 7;have q8:=cell_blk hbx 8;have q9:=cell_blk hbx 9;have q10:=cell_blk hbx 10;have q11:=cell_blk hbx 11;have q12:=cell_blk hbx 12;have q13:=cell_blk hbx 13;have q14:=cell_blk hbx 14;have q15:=cell_blk hbx 15
 simp only [zC,zD,zE] at q0 q1 q2 q3 q4 q5 q6 q7 q8 q9 q10 q11 q12 q13 q14 q15
 haveI:SzGe (bx+1) wc:=⟨lt_blk hbx⟩
 clear hbx
 conv=>arg 2;whnf
 obtain ⟨D,hD⟩:∃ D,dWrite d ⟨wk,wd,wg⟩=D:=⟨_,rfl⟩
 obtain ⟨z,hz⟩:∃ z,sdWriteE d ⟨wk,wd,wg⟩=z:=⟨_,rfl⟩
 have HDL:Hid (D.W.length≤d.W.length+1):=hidp (by rw [←hD];exact dWrite_len ..)
 have HP1:Hid (∀ W,LE w W ⟨x,y,u,v,p,q,a,a,d,d⟩ [obB bx (.cells #[.int .i64 2,.int .i64 at0,.int .i64 key,.int .i64 now,.int .i64 wk,.string wd,.bool wg,.int .i64 site,.int .i64 seq,.int .i64 wall,.int .i64 count,.int .i64 d0,.int .i64 d1,.int .i64 d2,.int .i64 d3,.slice tA ws.length tc] 85) w.heap.size]→Calls Tryz.prog 42 #[.pointer (some ⟨u,0,none⟩),.agg #[.int .i64 wk,.string wd,.bool wg]] W fun e w'=>e=.returned (errV z)∧LE w w' ⟨x,y,u,v,p,q,a,a,D,d⟩ [obB bx (.cells #[.int .i64 2,.int .i64 at0,.int .i64 key,.int .i64 now,.int .i64 wk,.string wd,.bool wg,.int .i64 site,.int .i64 seq,.int .i64 wall,.int .i64 count,.int .i64 d0,.int .i64 d1,.int .i64 d2,.int .i64 d3,.slice tA ws.length tc] 85) w.heap.size]):=hidp (by subst hz hD;exact fun W h=>h.sWrite ⟨wk,wd,wg⟩)
 have HP2:Hid (∀ W,LE w W ⟨x,y,u,v,p,q,a,a,D,d⟩ [obB bx (.cells #[.int .i64 2,.int .i64 at0,.int .i64 key,.int .i64 now,.int .i64 wk,.string wd,.bool wg,.int .i64 site,.int .i64 seq,.int .i64 wall,.int .i64 count,.int .i64 d0,.int .i64 d1,.int .i64 d2,.int .i64 d3,.slice tA ws.length tc] 85) w.heap.size]→Calls Tryz.prog 43 #[.pointer (some ⟨v,0,none⟩),.agg #[.int .i64 wk,.string wd,.bool wg]] W fun e w'=>e=.returned (.int .i64 z)∧LE w w' ⟨x,y,u,v,p,q,a,a,D,D⟩ [obB bx (.cells #[.int .i64 2,.int .i64 at0,.int .i64 key,.int .i64 now,.int .i64 wk,.string wd,.bool wg,.int .i64 site,.int .i64 seq,.int .i64 wall,.int .i64 count,.int .i64 d0,.int .i64 d1,.int .i64 d2,.int .i64 d3,.slice tA ws.length tc] 85) w.heap.size]):=hidp (by have:=HDW.out;subst hz hD;exact fun W h=>h.dWrite ⟨wk,wd,wg⟩ (by show d.W.length≤900;omega))
 clear hz hD
 have HSK:Hid (∀ (X:World) (aa bb:Nat→RSi) (dd ee:SdP),LE w X ⟨x,y,u,v,p,q,aa,bb,dd,ee⟩ [obB bx (.cells #[.int .i64 2,.int .i64 at0,.int .i64 key,.int .i64 now,.int .i64 wk,.string wd,.bool wg,.int .i64 site,.int .i64 seq,.int .i64 wall,.int .i64 count,.int .i64 d0,.int .i64 d1,.int .i64 d2,.int .i64 d3,.slice tA ws.length tc] 85) w.heap.size]→(X.cell? ⟨p,k,none⟩=some (.pointer (some ⟨x k,0,none⟩))∧X.cell? ⟨q,k,none⟩=some (.pointer (some ⟨y k,0,none⟩))∧X.cell? ⟨bx,4,none⟩=some (.int .i64 wk)∧X.cell? ⟨bx,5,none⟩=some (.string wd)∧X.cell? ⟨bx,6,none⟩=some (.bool wg))):=hidp (fun X aa bb dd ee h=>by
  have hx:=h.box (i:=0) rfl
  have hp:=h.bp
  have hq:=h.bq
  simp only [pp] at hp hq
  refine ⟨?_,?_,cell_blk hx 4,cell_blk hx 5,cell_blk hx 6⟩
  ·rw [cell_blk hp]
   have:k=0∨k=1:=by omega
   rcases this with rfl | rfl <;> rfl
  ·rw [cell_blk hq]
   have:k=0∨k=1:=by omega
   rcases this with rfl | rfl <;> rfl)
 clear q0 q1 q2 q3 q4 q5 q6 q7 q8 q9 q10 q11 q12 q13 q14 q15
 go_upto_region 34 with fail
 go_region_held3 (fun X:World=>X.cell? ⟨p,k,none⟩=some (.pointer (some ⟨x k,0,none⟩))∧X.cell? ⟨q,k,none⟩=some (.pointer (some ⟨y k,0,none⟩))∧X.cell? ⟨bx,4,none⟩=some (.int .i64 wk)∧X.cell? ⟨bx,5,none⟩=some (.string wd)∧X.cell? ⟨bx,6,none⟩=some (.bool wg)) ((first | exact HSK.out _ _ _ _ _ H3.out | exact HSK.out _ _ _ _ _ H2.out | exact HSK.out _ _ _ _ _ H1.out | exact HSK.out _ _ _ _ _ (HT.out.below (by repeat (first | exact Below.refl _ _ | refine blw_alloc ?_ | refine blw_plus ?_ | refine Below.drew ?_))))) (
  first
  | (go_at_call 42
     refine (HP1.out _ (HT.out.below (by repeat (first | exact Below.refl _ _ | refine blw_alloc ?_ | refine blw_plus ?_ | refine Below.drew ?_)))).mono ?_
     rintro e w3 ⟨rfl,hb3⟩
     have H1:=hidp hb3
     clear hb3)
  | (go_at_call 43
     refine (HP2.out _ H1.out).mono ?_
     rintro e w4 ⟨rfl,hb4⟩
     have H2:=hidp hb4
     clear hb4)
  | (go_at_call 12
     refine (bareL_any z _ (HG.out.plus H2.out.low)).mono ?_
     rintro e w5 ⟨rfl,hb5⟩
     have H3:=hidp (H2.out.below hb5)
     clear hb5)
  | fail)
 all_goals
  go_wp2_with fail
  (refine Met.intro ?_;unfold L3J;(repeat apply Exists.intro);refine ⟨?rel,rfl⟩)
  exact ⟨a,D,by have:=HDL.out;have:=HDW.out;omega,(H3.out.below (by repeat (first | exact Below.refl _ _ | refine blw_alloc ?_ | refine blw_plus ?_ | refine Below.drew ?_))).nil⟩
end Go.Proofs.YtbopfhbeegkkaabGreatDoor
