/- Part 36 of a proof: lemmas and contracts that other parts use. -/
import Derived.Test.YtbopfhbeegkkaabGreatDoorSe35
import Derived.Test.YtbopfhbeegkkaabGreatDoorSe28
set_option linter.unusedVariables false
set_option linter.unusedSimpArgs false
set_option linter.constructorNameAsVariable false
namespace Go.Proofs.YtbopfhbeegkkaabGreatDoor
open Go.RowKit
def sdq (d:SdP) (i:Nat):Int:=atV d.q0 d.q1 d.q2 d.q3 (i:Int)
theorem SdAt.atq {w:World} {B v:Nat} {d:SdP} {wv:Value} (h:SdAt w B v d wv) (i:Nat) (hi:i<4) (z:Int) (hz:sdq d i≤z):SdAt (w.setCell ⟨v,i,none⟩ (.int .i64 z)) B v (sdAt d (i:Int) z) wv:=by
 refine ⟨?_,h.own.kept (grown_set w v i _) (.inr h.ng),h.bx,h.ng⟩
 have hb:=blk_set h.blk i (.int .i64 z)
 have hc:i=0∨i=1∨i=2∨i=3:=by omega
 rw [hb]
 rcases hc with rfl | rfl | rfl | rfl <;> simp [sdq,atV] at hz <;> simp [sdAt,Int.max_eq_right hz]
theorem sdAt_no {d:SdP} {i:Nat} (hi:i<4) {z:Int} (hz:z≤sdq d i):sdAt d (i:Int) z=d:=by
 have hc:i=0∨i=1∨i=2∨i=3:=by omega
 rcases hc with rfl | rfl | rfl | rfl <;> simp [sdq,atV] at hz <;> simp [sdAt,Int.max_eq_left hz]
def t9:Obj:=.cells #[.int .i64 0,.int .i64 0,.int .i64 0,.int .i64 0,.int .i64 0,.int .i64 0,.int .i64 0,.int .i64 0,.slice none 0 0] 44
set_option maxRecDepth 20000 in
set_option maxHeartbeats 16000000 in
theorem dCommit_some {w0 w:World} {n:Nat} {O:Nat→Ob} (h:Mem w0 w n O) {i j y v:Nat} {a:RSi} {d:SdP} (hi:i<n) (hj:j<n) (hij:i≠j) (hr:RteA w0.heap.size y a (O i)) (hd:SdeA w0.heap.size v d (O j)) (hn:d.W.length≤900) (now:Int) (ho:d.op=true) (hl:dCommitL d≠[]) (E:Int) (hE:rCommitE a now d.n0 d.n1 d.n2 d.n3 (dCommitL d)=E) (T:TxP) (hT:rCommitT a now d.n0 d.n1 d.n2 d.n3 (dCommitL d)=T) (hts:0≤T.site∧T.site<4):
  Calls Tryz.prog 44 #[.pointer (some ⟨v,0,none⟩),.pointer (some ⟨y,0,none⟩),.int .i64 now] w fun e w'=>
   (E≠0→e=.returned (.tuple #[txZero,.int .i64 E])∧Below w.heap.size w w')∧
   (E=0→∃ b' c',e=.returned (.tuple #[MTx.val ⟨T,some ⟨b',0,none⟩,c'⟩,.int .i64 0])∧
     ∃ O',Mem w0 w' (n+1) O'∧O' n=obWs (some ⟨b',0,none⟩) T.ws∧RteA w0.heap.size y (rApply a T) (O' i)∧SdeA w0.heap.size v (sdAt (sdAbort d) T.site T.seq) (O' j)∧∀ k,k<n→k≠i→k≠j→O' k=O k):=by
 obtain ⟨wv,hov,sA,hsA⟩:=id hd
 have hSd:SdAt w w0.heap.size v d wv:=by have:=h.at_ j hj;rw [hov] at this;exact this
 obtain ⟨A,c,rfl,hws⟩:=hSd.ws
 have HM:=hidp h
 have HR:=hidp hr
 have HD:=hidp hd
 have HOV:=hidp hov
 have hb:=hSd.blk
 have HLL:=hidp (allW_len d.W 8)
 have HL:Hid (allW d.W 8=dCommitL d):=hidp rfl
 have HAL:=hidp fun (X:World) (hB:Below w.heap.size w X)=>allW_any v A c d.W X ((hB.cell (p:=⟨v,9,none⟩) (lt_blk hb)).trans (cell_blk hb 9)) (Nat.lt_of_lt_of_le (lt_blk hb) hB.size) (hws.below hB) (by omega)
 have HLB:=hidp (lt_blk hb)
 obtain ⟨q0,q1,q2,q3,n0,n1,n2,n3,op,W⟩:=d
 simp only at ho hn hb HL HLL hE hT HAL
 subst ho
 rw [HL.out] at HAL HLL
 generalize dCommitL ⟨q0,q1,q2,q3,n0,n1,n2,n3,true,W⟩=l at *
 have c8:=cell_blk hb 8
 simp only [zC,zD,zE] at c8
 haveI:SzGe (v+1) w:=⟨lt_blk hb⟩
 have dl:0<l.length:=Nat.pos_of_ne_zero (fun e=>hl (List.eq_nil_of_length_eq_zero e))
 obtain ⟨O2,hm1,ho2,hn0,hn1⟩:=h.new2 t9 t9
 have HM1:=hidp hm1
 have HO2:=hidp ho2
 have HN0:=hidp hn0
 have HN1:=hidp hn1
 have HI:=hidp hi
 have HJ:=hidp hj
 have HIJ:=hidp hij
 have HET:=hidp (And.intro hE hT)
 have HTS:=hidp hts
 clear h hr hd hov hb hSd hws hl hE hT hts hm1 ho2 hn0 hn1 hn hsA
 go_enter Tryz.func44,Tryz.ntmps44
 go_wp2_with fail
 go_at_call 97
 refine (HAL.out _ (by repeat (first | exact Below.refl _ _ | refine blw_alloc ?_ | refine blw_plus ?_ | refine Below.drew ?_))).mono ?_
 rintro e w2 ⟨A2,c2,rfl,hown2,hb2⟩
 have HW2:=hidp (own_wsx hown2)
 unfold t9 at HM1
 have HM2:=hidp (HM1.out.below hb2)
 have HB2:=hidp ((show Below w.heap.size w _ from zB).trans (hb2.mono (by simp;omega)))
 clear hown2 hb2 HAL c8 HM1
 have hx8:=HM2.out.box (i:=n+1) (by omega) HN1.out
 have hx6:=HM2.out.box (i:=n) (by omega) HN0.out
 have hdj:=HM2.out.at_ j (by have:=HJ.out;omega)
 rw [HO2.out j HJ.out,HOV.out] at hdj
 have hbv:w2.heap[v]?=some _:=SdAt.blk hdj
 simp only at hbv
 have c4:=cell_blk hbv 4;have c5:=cell_blk hbv 5;have c6:=cell_blk hbv 6;have c7:=cell_blk hbv 7
 simp only [zC,zD,zE] at c4 c5 c6 c7
 have hat2:=HM2.out.at_ i (by have:=HI.out;omega)
 rw [HO2.out i HI.out] at hat2
 have HRC:=hidp (HR.out.commit hat2 now n0 n1 n2 n3 A2 c2 l HW2.out (by have:=HLL.out;omega))
 rw [HET.out.1,HET.out.2] at HRC
 unfold t9 at hx8 hx6
 have z0:=frozen_blk hx8 0;have z1:=frozen_blk hx8 1;have z2:=frozen_blk hx8 2;have z3:=frozen_blk hx8 3;have z4:=frozen_blk hx8 4;have z5:=frozen_blk hx8 5;have z6:=frozen_blk hx8 6;have z7:=frozen_blk hx8 7;have z8:=frozen_blk hx8 8
 have y0:=cell_blk hx8 0;have y1:=cell_blk hx8 1;have y2:=cell_blk hx8 2;have y3:=cell_blk hx8 3;have y4:=cell_blk hx8 4;have y5:=cell_blk hx8 5;have y6:=cell_blk hx8 6;have y7:=cell_blk hx8 7;have y8:=cell_blk hx8 8
 simp only [zC,zD,zE] at y0 y1 y2 y3 y4 y5 y6 y7 y8
 have r0:=frozen_blk hx6 0;have r1:=frozen_blk hx6 1;have r2:=frozen_blk hx6 2;have r3:=frozen_blk hx6 3;have r4:=frozen_blk hx6 4;have r5:=frozen_blk hx6 5;have r6:=frozen_blk hx6 6;have r7:=frozen_blk hx6 7;have r8:=frozen_blk hx6 8
 have s0:=cell_blk hx6 0;have s1:=cell_blk hx6 1;have s2:=cell_blk hx6 2;have s3:=cell_blk hx6 3;have s4:=cell_blk hx6 4;have s5:=cell_blk hx6 5;have s6:=cell_blk hx6 6;have s7:=cell_blk hx6 7;have s8:=cell_blk hx6 8
 simp only [zC,zD,zE] at s0 s1 s2 s3 s4 s5 s6 s7 s8
 haveI:SzGe (v+1) w2:=⟨lt_blk hbv⟩
 haveI:SzGe (w.heap.size+1) w2:=⟨lt_blk hx6⟩
 haveI:SzGe (w.heap.size+1+1) w2:=⟨lt_blk hx8⟩
 have HX8:=hidp hx8
 have HX6:=hidp hx6
 clear hx8 hx6 hdj hbv hat2
 go_wp2_with fail
 go_at_call 14
 refine HRC.out.mono ?_
 rintro e w3 ⟨g1,g2⟩
 have HG1:=hidp g1
 have HG2:=hidp g2
 clear g1 g2 HRC c4 c5 c6 c7 y0 z0 r0 s0 y1 z1 r1 s1 y2 z2 r2 s2 y3 z3 r3 s3 y4 z4 r4 s4 y5 z5 r5 s5 y6 z6 r6 s6 y7 z7 r7 s7 y8 z8 r8 s8
 by_cases hE0:E=0
 case neg=>
  obtain ⟨rfl,hb3⟩:=HG1.out hE0
  have hx8:=(hb3.block _ (lt_blk HX8.out)).trans HX8.out
  have hx6:=(hb3.block _ (lt_blk HX6.out)).trans HX6.out
  have HB3:=hidp (HB2.out.trans (hb3.mono HB2.out.size))
  have z0:=frozen_blk hx8 0;have z1:=frozen_blk hx8 1;have z2:=frozen_blk hx8 2;have z3:=frozen_blk hx8 3;have z4:=frozen_blk hx8 4;have z5:=frozen_blk hx8 5;have z6:=frozen_blk hx8 6;have z7:=frozen_blk hx8 7;have z8:=frozen_blk hx8 8
  have y0:=cell_blk hx8 0;have y1:=cell_blk hx8 1;have y2:=cell_blk hx8 2;have y3:=cell_blk hx8 3;have y4:=cell_blk hx8 4;have y5:=cell_blk hx8 5;have y6:=cell_blk hx8 6;have y7:=cell_blk hx8 7;have y8:=cell_blk hx8 8
  simp only [zC,zD,zE] at y0 y1 y2 y3 y4 y5 y6 y7 y8
  have r0:=frozen_blk hx6 0;have r1:=frozen_blk hx6 1;have r2:=frozen_blk hx6 2;have r3:=frozen_blk hx6 3;have r4:=frozen_blk hx6 4;have r5:=frozen_blk hx6 5;have r6:=frozen_blk hx6 6;have r7:=frozen_blk hx6 7;have r8:=frozen_blk hx6 8
  have s0:=cell_blk hx6 0;have s1:=cell_blk hx6 1;have s2:=cell_blk hx6 2;have s3:=cell_blk hx6 3;have s4:=cell_blk hx6 4;have s5:=cell_blk hx6 5;have s6:=cell_blk hx6 6;have s7:=cell_blk hx6 7;have s8:=cell_blk hx6 8
  simp only [zC,zD,zE] at s0 s1 s2 s3 s4 s5 s6 s7 s8
  haveI:SzGe (w.heap.size+1) w3:=⟨lt_blk hx6⟩
  haveI:SzGe (w.heap.size+1+1) w3:=⟨lt_blk hx8⟩
  have dE:(E==0)=false:=by simpa using hE0
  clear hx8 hx6 hb3 HG1 HG2
  unfold txZero
  go_wp2_with fail
  refine bodyPost_ret (v:=.tuple #[txZero,.int .i64 E]) ?_ rfl ⟨fun _=>⟨rfl,?_⟩,fun e=>absurd e hE0⟩
  ·simp [results,Tryz.results44,go_sem,txZero, *]
  ·(repeat refine blw_far ?_ (by omega));exact HB3.out
 case pos=>
  subst hE0
  clear HG1
  obtain ⟨b',c',rfl,hb1,hb2,hw3,o',hs3,hat3,hfr3,hdt3,hno3⟩:=HG2.out rfl
  clear HG2
  obtain ⟨O3,hm3,ho3,hr3⟩:=HM2.out.step1 (i:=i) (w':=w3) (by have:=HI.out;omega) hs3.ok hat3 (by rw [HO2.out i HI.out];exact hfr3) (by rw [HO2.out i HI.out];exact hdt3)
  have hb2n:∀ k,k<n+2→¬(O3 k).own b':=fun k hk=>by
   by_cases e:k=i
   ·rw [e,ho3];exact hno3
   ·rw [hr3 k e];exact HM2.out.fresh hk hb1
  obtain ⟨O4,hm4,hr4,hn4⟩:=hm3.lend1 (o:=obWs (some ⟨b',0,none⟩) T.ws) (obWs_ok ..) ⟨hw3,fun b o e=>(by cases e;exact hb2)⟩ (fun b e=>e) (fun b k hk ⟨o,e⟩=>(by cases e;exact hb2n k hk))
  have HM4:=hidp hm4
  have HS4:Hid (RteA w0.heap.size y (rApply a T) (O4 i)):=hidp (by rw [hr4 i (by omega),ho3];exact hs3)
  have HJ4:Hid (O4 j=O j):=hidp (by rw [hr4 j (by omega),hr3 j (Ne.symm HIJ.out),HO2.out j HJ.out])
  have HQ4:Hid (∀ k,k<n→k≠i→O4 k=O k):=hidp (fun k hk hne=>by rw [hr4 k (by omega),hr3 k hne,HO2.out k hk])
  have HA4:Hid (O4 n=obB w.heap.size t9 w0.heap.size):=hidp (by rw [hr4 n (by omega),hr3 n (by omega)];exact HN0.out)
  have HC4:Hid (O4 (n+1)=obB (w.heap.size+1) t9 w0.heap.size):=hidp (by rw [hr4 (n+1) (by omega),hr3 (n+1) (by omega)];exact HN1.out)
  have HD4:=hidp hn4
  have HBB:=hidp (Nat.le_trans HB2.out.size hb1)
  clear hm3 ho3 hr3 hb2n hm4 hr4 hn4 hs3 hat3 hfr3 hdt3 hno3 hw3 hb1 hb2 HM2
  have hx8:=HM4.out.box (i:=n+1) (by omega) HC4.out
  unfold t9 at hx8
  have z0:=frozen_blk hx8 0;have z1:=frozen_blk hx8 1;have z2:=frozen_blk hx8 2;have z3:=frozen_blk hx8 3;have z4:=frozen_blk hx8 4;have z5:=frozen_blk hx8 5;have z6:=frozen_blk hx8 6;have z7:=frozen_blk hx8 7;have z8:=frozen_blk hx8 8
  have y0:=cell_blk hx8 0;have y1:=cell_blk hx8 1;have y2:=cell_blk hx8 2;have y3:=cell_blk hx8 3;have y4:=cell_blk hx8 4;have y5:=cell_blk hx8 5;have y6:=cell_blk hx8 6;have y7:=cell_blk hx8 7;have y8:=cell_blk hx8 8
  simp only [zC,zD,zE] at y0 y1 y2 y3 y4 y5 y6 y7 y8
  haveI:SzGe (w.heap.size+1+1) w3:=⟨lt_blk hx8⟩
  clear hx8
  obtain ⟨ts,tq,tw,tc,e0,e1,e2,e3,tws⟩:=T
  unfold MTx.val
  simp only at HTS ⊢
  go_wp2_with fail
  obtain ⟨O5,hm5,hn5,hr5⟩:=HM4.out.fill9' (i:=n+1) (by omega) HC4.out (.int .i64 ts) (.int .i64 tq) (.int .i64 tw) (.int .i64 tc) (.int .i64 e0) (.int .i64 e1) (.int .i64 e2) (.int .i64 e3) (.slice (some ⟨b',0,none⟩) tws.length c')
  have HM5:=hidp hm5
  have HC5:=hidp hn5
  have HR5:=hidp hr5
  clear hm5 hn5 hr5 y0 z0 y1 z1 y2 z2 y3 z3 y4 z4 y5 z5 y6 z6 y7 z7 y8 z8
  obtain ⟨V,hV⟩:∃ V,put9 w3 (w.heap.size+1) (.int .i64 ts) (.int .i64 tq) (.int .i64 tw) (.int .i64 tc) (.int .i64 e0) (.int .i64 e1) (.int .i64 e2) (.int .i64 e3) (.slice (some ⟨b',0,none⟩) tws.length c')=V:=⟨_,rfl⟩
  rw [hV] at HM5
  unfold put9 at hV
  rw [hV]
  clear hV
  have hdV:=HM5.out.at_ j (by omega)
  rw [HR5.out j (by have:=HJ.out;omega),HJ4.out] at hdV
  have HAB:=hidp (HD.out.abort hdV)
  clear hdV
  go_at_call 47
  refine HAB.out.mono ?_
  rintro e w5 ⟨rfl,hu⟩
  have HU:=hidp hu
  clear hu HAB
  obtain ⟨O6,hm6,hd6,hr6⟩:=HM5.out.upd (i:=j) (by have:=HJ.out;omega) (by rw [HR5.out j (by have:=HJ.out;omega),HJ4.out];exact HU.out) (fun o h=>SdeA.ok h)
  have e6:dAbort ⟨q0,q1,q2,q3,n0,n1,n2,n3,true,W⟩=sdAbort ⟨q0,q1,q2,q3,n0,n1,n2,n3,true,W⟩:=rfl
  rw [e6] at hd6
  obtain ⟨wv6,hov6,s6,hs6⟩:=hd6
  have HM6:=hidp hm6
  have HV6:=hidp hov6
  have HR6:=hidp hr6
  have HS6:=hidp hs6
  have hC6:O6 (n+1)=obB (w.heap.size+1) (.cells #[.int .i64 ts,.int .i64 tq,.int .i64 tw,.int .i64 tc,.int .i64 e0,.int .i64 e1,.int .i64 e2,.int .i64 e3,.slice (some ⟨b',0,none⟩) tws.length c'] 44) w0.heap.size:=by rw [hr6 (n+1) (by have:=HJ.out;omega)];exact HC5.out
  have hA6:O6 n=obB w.heap.size t9 w0.heap.size:=by rw [hr6 n (by have:=HJ.out;omega),HR5.out n (by omega)];exact HA4.out
  have HI6:Hid (RteA w0.heap.size y (rApply a ⟨ts,tq,tw,tc,e0,e1,e2,e3,tws⟩) (O6 i)):=hidp (by rw [hr6 i HIJ.out,HR5.out i (by have:=HI.out;omega)];exact HS4.out)
  have HQ6:Hid (∀ k,k<n→k≠i→k≠j→O6 k=O k):=hidp (fun k hk h1 h2=>by rw [hr6 k h2,HR5.out k (by omega),HQ4.out k hk h1])
  have HD6:Hid (O6 (n+2)=obWs (some ⟨b',0,none⟩) tws):=hidp (by rw [hr6 (n+2) (by have:=HJ.out;omega),HR5.out (n+2) (by omega)];exact HD4.out)
  have HA6:=hidp hA6
  have HC6:=hidp hC6
  clear hm6 hov6 hr6 hs6 HU HM5 HR5 HC5 HR6 HM4 HA4 HC4 HD4 HQ4 HJ4 HS4 e6
  have hbv:=HM6.out.at_ j (by have:=HJ.out;omega)
  rw [HV6.out] at hbv
  have HSD:=hidp (show SdAt w5 w0.heap.size v (sdAbort ⟨q0,q1,q2,q3,n0,n1,n2,n3,true,W⟩) wv6 from hbv)
  have hbk:=HSD.out.blk
  simp only [sdAbort] at hbk
  have hx8:=HM6.out.box (i:=n+1) (by omega) hC6
  have hx6:=HM6.out.box (i:=n) (by omega) hA6
  unfold t9 at hx6
  have HX6:=hidp hx6
  have y0:=cell_blk hx8 0;have y1:=cell_blk hx8 1;have y2:=cell_blk hx8 2;have y3:=cell_blk hx8 3;have y4:=cell_blk hx8 4;have y5:=cell_blk hx8 5;have y6:=cell_blk hx8 6;have y7:=cell_blk hx8 7;have y8:=cell_blk hx8 8
  simp only [zC,zD,zE] at y0 y1 y2 y3 y4 y5 y6 y7 y8
  have r0:=frozen_blk hx6 0;have r1:=frozen_blk hx6 1;have r2:=frozen_blk hx6 2;have r3:=frozen_blk hx6 3;have r4:=frozen_blk hx6 4;have r5:=frozen_blk hx6 5;have r6:=frozen_blk hx6 6;have r7:=frozen_blk hx6 7;have r8:=frozen_blk hx6 8
  have s0:=cell_blk hx6 0;have s1:=cell_blk hx6 1;have s2:=cell_blk hx6 2;have s3:=cell_blk hx6 3;have s4:=cell_blk hx6 4;have s5:=cell_blk hx6 5;have s6:=cell_blk hx6 6;have s7:=cell_blk hx6 7;have s8:=cell_blk hx6 8
  simp only [zC,zD,zE] at s0 s1 s2 s3 s4 s5 s6 s7 s8
  have d0:=cell_blk hbk 0;have d1:=cell_blk hbk 1;have d2:=cell_blk hbk 2;have d3:=cell_blk hbk 3
  simp only [zC,zD,zE] at d0 d1 d2 d3
  have f0:=frozen_blk hbk 0;have f1:=frozen_blk hbk 1;have f2:=frozen_blk hbk 2;have f3:=frozen_blk hbk 3
  haveI:SzGe (v+1) w5:=⟨lt_blk hbk⟩
  haveI:SzGe (w.heap.size+1) w5:=⟨lt_blk hx6⟩
  haveI:SzGe (w.heap.size+1+1) w5:=⟨lt_blk hx8⟩
  have HVB:Hid (v≠w.heap.size∧v≠w.heap.size+1∧v<w5.heap.size):=hidp (by have:=HLB.out;have:=lt_blk hbk;omega)
  clear hbv hbk hx8 hx6 hC6 hA6
  have hcs:ts=0∨ts=1∨ts=2∨ts=3:=by have:=HTS.out;omega
  clear HTS
  generalize hm0:max q0 n0=m0 at *
  generalize hm1:max q1 n1=m1 at *
  generalize hm2:max q2 n2=m2 at *
  generalize hm3:max q3 n3=m3 at *
  have HMM:Hid (∀ z,(z≤m0↔z≤sdq (sdAbort ⟨q0,q1,q2,q3,n0,n1,n2,n3,true,W⟩) 0)∧(z≤m1↔z≤sdq (sdAbort ⟨q0,q1,q2,q3,n0,n1,n2,n3,true,W⟩) 1)∧(z≤m2↔z≤sdq (sdAbort ⟨q0,q1,q2,q3,n0,n1,n2,n3,true,W⟩) 2)∧(z≤m3↔z≤sdq (sdAbort ⟨q0,q1,q2,q3,n0,n1,n2,n3,true,W⟩) 3)):=hidp (by
   intro z
   subst hm0 hm1 hm2 hm3
   exact ⟨Iff.rfl,Iff.rfl,Iff.rfl,Iff.rfl⟩)
  clear hm0 hm1 hm2 hm3
  have HFIN:Hid (∀ (i9:Nat) (X Y:World) (d9:SdP) (wv9:Value) (O9:Nat→Ob),ts=(i9:Int)→d9=sdAt (sdAbort ⟨q0,q1,q2,q3,n0,n1,n2,n3,true,W⟩) (i9:Int) tq→Mem w0 X (n+3) O9→O9 j=obD w0.heap.size v d9 wv9→(∀ k,k≠j→O9 k=O6 k)→Y=put9 X w.heap.size (.int .i64 ts) (.int .i64 tq) (.int .i64 tw) (.int .i64 tc) (.int .i64 e0) (.int .i64 e1) (.int .i64 e2) (.int .i64 e3) (.slice (some ⟨b',0,none⟩) tws.length c')→
    ∃ O',Mem w0 Y (n+1) O'∧O' n=obWs (some ⟨b',0,none⟩) tws∧RteA w0.heap.size y (rApply a ⟨ts,tq,tw,tc,e0,e1,e2,e3,tws⟩) (O' i)∧SdeA w0.heap.size v (sdAt (sdAbort ⟨q0,q1,q2,q3,n0,n1,n2,n3,true,W⟩) ts tq) (O' j)∧∀ k,k<n→k≠i→k≠j→O' k=O k):=hidp (by
   intro i9 X Y d9 wv9 O9 g1 g2 g3 g4 g5 g6
   subst g6
   obtain ⟨O10,k1,k2,k3⟩:=g3.fill9' (i:=n) (by omega) ((g5 n (by have:=HJ.out;omega)).trans HA6.out) (.int .i64 ts) (.int .i64 tq) (.int .i64 tw) (.int .i64 tc) (.int .i64 e0) (.int .i64 e1) (.int .i64 e2) (.int .i64 e3) (.slice (some ⟨b',0,none⟩) tws.length c')
   have hi:=HI.out;have hj:=HJ.out;have hij:=HIJ.out
   refine ⟨fun k=>O10 (if k=n then n+2 else k),k1.pick (fun k=>if k=n then n+2 else k) (fun k hk=>by split <;> omega) (fun p q hp hq e=>by split at e <;> split at e <;> omega),?_,?_,?_,fun k hk h1 h2=>?_⟩
   ·show O10 (if n=n then n+2 else n)=_
    rw [if_pos rfl,k3 _ (by omega),g5 _ (by omega)];exact HD6.out
   ·show RteA _ _ _ (O10 (if i=n then n+2 else i))
    rw [if_neg (by omega),k3 _ (by omega),g5 _ hij];exact HI6.out
   ·show SdeA _ _ _ (O10 (if j=n then n+2 else j))
    rw [if_neg (by omega),k3 _ (by omega),g4,g2,g1]
    exact ⟨wv9,rfl,_,HS6.out.at _ _⟩
   ·show O10 (if k=n then n+2 else k)=_
    rw [if_neg (by omega),k3 _ (by omega),g5 _ h2];exact HQ6.out k hk h1 h2)
  have HSO:Hid (O6 j=obD w0.heap.size v (sdAbort ⟨q0,q1,q2,q3,n0,n1,n2,n3,true,W⟩) wv6):=HV6
  rcases hcs with rfl | hcs
  ·as_aux_lemma=>
   by_cases hq:m0<tq
   ·as_aux_lemma=>
    have dq:decide (m0<tq)=true:=decide_eq_true hq
    have HGE:Hid (sdq (sdAbort ⟨q0,q1,q2,q3,n0,n1,n2,n3,true,W⟩) 0≤tq):=hidp (by
     have h1:=(HMM.out tq).1
     exact Int.le_of_lt (Int.not_le.1 (fun e=>absurd (h1.2 e) (Int.not_le.2 hq))))
    go_wp2_with fail
    refine wp_region_plus (by kernel_rfl) (by kernel_rfl) ?_
    repeat (first | go_big_quiet_skip | (go_big_quiet_want;go_big_quiet_op;first | go_big_quiet_on))
    refine wpQuiet_nil ?_
    rintro _ ⟨x4,rfl⟩
    go_wp2_with fail
    refine wp_region_plus_tail 8 (by kernel_rfl) (by kernel_rfl) ?_
    simp only [List.take_succ_cons,List.take_zero,List.drop_succ_cons,List.drop_zero]
    repeat (first | go_big_quiet_skip | (go_big_quiet_want;go_big_quiet_op;first | go_big_quiet_on))
    refine wpQuiet_nil ?_
    rintro _ ⟨x5,rfl⟩
    have hn8:¬(w.heap.size+1=v):=fun e=>HVB.out.2.1 e.symm
    have hn6:¬(w.heap.size=v):=fun e=>HVB.out.1 e.symm
    go_wp2_with fail
    refine bodyPost_ret (v:=.tuple #[MTx.val ⟨⟨0,tq,tw,tc,e0,e1,e2,e3,tws⟩,some ⟨b',0,none⟩,c'⟩,.int .i64 0]) ?r1 rfl ⟨b',⟨c',?e1⟩,?e2⟩
    case r1=>simp [results,Tryz.results44,go_sem,MTx.val, *]
    case e1=>exact rfl
    case e2=>
     obtain ⟨O7,hm7,ho7,hr7⟩:=HM6.out.step1 (i:=j) (by omega) (o:=obD w0.heap.size v (sdAt (sdAbort ⟨q0,q1,q2,q3,n0,n1,n2,n3,true,W⟩) (0:Nat) tq) wv6) (obD_ok ..) (SdAt.atq HSD.out 0 (by omega) tq HGE.out) (by rw [HSO.out];exact SiFr.setD _) (fun b e=>e.elim)
     obtain ⟨O9,k1,k2⟩:=HFIN.out 0 (w5.setCell ⟨v,0,none⟩ (.int .i64 tq)) _ _ wv6 O7 rfl rfl hm7 ho7 hr7 rfl
     unfold put9 at k1
     exact ⟨O9,(k1.below (blw_plus (Below.refl _ _))).below (blw_plus (Below.refl _ _)),k2⟩
   ·as_aux_lemma=>
    have dq:decide (m0<tq)=false:=decide_eq_false hq
    have HGE:Hid (tq≤sdq (sdAbort ⟨q0,q1,q2,q3,n0,n1,n2,n3,true,W⟩) 0):=hidp (by
     have h1:=(HMM.out tq).1
     exact h1.1 (by omega))
    go_wp2_with fail
    refine wp_region_plus (by kernel_rfl) (by kernel_rfl) ?_
    repeat (first | go_big_quiet_skip | (go_big_quiet_want;go_big_quiet_op;first | go_big_quiet_on))
    refine wpQuiet_nil ?_
    rintro _ ⟨x4,rfl⟩
    go_wp2_with fail
    refine bodyPost_ret (v:=.tuple #[MTx.val ⟨⟨0,tq,tw,tc,e0,e1,e2,e3,tws⟩,some ⟨b',0,none⟩,c'⟩,.int .i64 0]) ?r1 rfl ⟨b',⟨c',?e1⟩,?e2⟩
    case r1=>simp [results,Tryz.results44,go_sem,MTx.val, *]
    case e1=>exact rfl
    case e2=>
     obtain ⟨O9,k1,k2⟩:=HFIN.out 0 w5 _ (sdAbort ⟨q0,q1,q2,q3,n0,n1,n2,n3,true,W⟩) wv6 O6 rfl (sdAt_no (by omega) HGE.out).symm HM6.out HSO.out (fun k _=>rfl) rfl
     unfold put9 at k1
     exact ⟨O9,k1.below (blw_plus (Below.refl _ _)),k2⟩
  rcases hcs with rfl | hcs
  ·as_aux_lemma=>
   by_cases hq:m1<tq
   ·as_aux_lemma=>
    have dq:decide (m1<tq)=true:=decide_eq_true hq
    have HGE:Hid (sdq (sdAbort ⟨q0,q1,q2,q3,n0,n1,n2,n3,true,W⟩) 1≤tq):=hidp (by
     have h1:=(HMM.out tq).2.1
     exact Int.le_of_lt (Int.not_le.1 (fun e=>absurd (h1.2 e) (Int.not_le.2 hq))))
    go_wp2_with fail
    refine wp_region_plus (by kernel_rfl) (by kernel_rfl) ?_
    repeat (first | go_big_quiet_skip | (go_big_quiet_want;go_big_quiet_op;first | go_big_quiet_on))
    refine wpQuiet_nil ?_
    rintro _ ⟨x4,rfl⟩
    go_wp2_with fail
    refine wp_region_plus_tail 8 (by kernel_rfl) (by kernel_rfl) ?_
    simp only [List.take_succ_cons,List.take_zero,List.drop_succ_cons,List.drop_zero]
    repeat (first | go_big_quiet_skip | (go_big_quiet_want;go_big_quiet_op;first | go_big_quiet_on))
    refine wpQuiet_nil ?_
    rintro _ ⟨x5,rfl⟩
    have hn8:¬(w.heap.size+1=v):=fun e=>HVB.out.2.1 e.symm
    have hn6:¬(w.heap.size=v):=fun e=>HVB.out.1 e.symm
    go_wp2_with fail
    refine bodyPost_ret (v:=.tuple #[MTx.val ⟨⟨1,tq,tw,tc,e0,e1,e2,e3,tws⟩,some ⟨b',0,none⟩,c'⟩,.int .i64 0]) ?r1 rfl ⟨b',⟨c',?e1⟩,?e2⟩
    case r1=>simp [results,Tryz.results44,go_sem,MTx.val, *]
    case e1=>exact rfl
    case e2=>
     obtain ⟨O7,hm7,ho7,hr7⟩:=HM6.out.step1 (i:=j) (by omega) (o:=obD w0.heap.size v (sdAt (sdAbort ⟨q0,q1,q2,q3,n0,n1,n2,n3,true,W⟩) (1:Nat) tq) wv6) (obD_ok ..) (SdAt.atq HSD.out 1 (by omega) tq HGE.out) (by rw [HSO.out];exact SiFr.setD _) (fun b e=>e.elim)
     obtain ⟨O9,k1,k2⟩:=HFIN.out 1 (w5.setCell ⟨v,1,none⟩ (.int .i64 tq)) _ _ wv6 O7 rfl rfl hm7 ho7 hr7 rfl
     unfold put9 at k1
     exact ⟨O9,(k1.below (blw_plus (Below.refl _ _))).below (blw_plus (Below.refl _ _)),k2⟩
   ·as_aux_lemma=>
    have dq:decide (m1<tq)=false:=decide_eq_false hq
    have HGE:Hid (tq≤sdq (sdAbort ⟨q0,q1,q2,q3,n0,n1,n2,n3,true,W⟩) 1):=hidp (by
     have h1:=(HMM.out tq).2.1
     exact h1.1 (by omega))
    go_wp2_with fail
    refine wp_region_plus (by kernel_rfl) (by kernel_rfl) ?_
    repeat (first | go_big_quiet_skip | (go_big_quiet_want;go_big_quiet_op;first | go_big_quiet_on))
    refine wpQuiet_nil ?_
    rintro _ ⟨x4,rfl⟩
    go_wp2_with fail
    refine bodyPost_ret (v:=.tuple #[MTx.val ⟨⟨1,tq,tw,tc,e0,e1,e2,e3,tws⟩,some ⟨b',0,none⟩,c'⟩,.int .i64 0]) ?r1 rfl ⟨b',⟨c',?e1⟩,?e2⟩
    case r1=>simp [results,Tryz.results44,go_sem,MTx.val, *]
    case e1=>exact rfl
    case e2=>
     obtain ⟨O9,k1,k2⟩:=HFIN.out 1 w5 _ (sdAbort ⟨q0,q1,q2,q3,n0,n1,n2,n3,true,W⟩) wv6 O6 rfl (sdAt_no (by omega) HGE.out).symm HM6.out HSO.out (fun k _=>rfl) rfl
     unfold put9 at k1
     exact ⟨O9,k1.below (blw_plus (Below.refl _ _)),k2⟩
  rcases hcs with rfl | hcs
  ·as_aux_lemma=>
   by_cases hq:m2<tq
   ·as_aux_lemma=>
    have dq:decide (m2<tq)=true:=decide_eq_true hq
    have HGE:Hid (sdq (sdAbort ⟨q0,q1,q2,q3,n0,n1,n2,n3,true,W⟩) 2≤tq):=hidp (by
     have h1:=(HMM.out tq).2.2.1
     exact Int.le_of_lt (Int.not_le.1 (fun e=>absurd (h1.2 e) (Int.not_le.2 hq))))
    go_wp2_with fail
    refine wp_region_plus (by kernel_rfl) (by kernel_rfl) ?_
    repeat (first | go_big_quiet_skip | (go_big_quiet_want;go_big_quiet_op;first | go_big_quiet_on))
    refine wpQuiet_nil ?_
    rintro _ ⟨x4,rfl⟩
    go_wp2_with fail
    refine wp_region_plus_tail 8 (by kernel_rfl) (by kernel_rfl) ?_
    simp only [List.take_succ_cons,List.take_zero,List.drop_succ_cons,List.drop_zero]
    repeat (first | go_big_quiet_skip | (go_big_quiet_want;go_big_quiet_op;first | go_big_quiet_on))
    refine wpQuiet_nil ?_
    rintro _ ⟨x5,rfl⟩
    have hn8:¬(w.heap.size+1=v):=fun e=>HVB.out.2.1 e.symm
    have hn6:¬(w.heap.size=v):=fun e=>HVB.out.1 e.symm
    go_wp2_with fail
    refine bodyPost_ret (v:=.tuple #[MTx.val ⟨⟨2,tq,tw,tc,e0,e1,e2,e3,tws⟩,some ⟨b',0,none⟩,c'⟩,.int .i64 0]) ?r1 rfl ⟨b',⟨c',?e1⟩,?e2⟩
    case r1=>simp [results,Tryz.results44,go_sem,MTx.val, *]
    case e1=>exact rfl
    case e2=>
     obtain ⟨O7,hm7,ho7,hr7⟩:=HM6.out.step1 (i:=j) (by omega) (o:=obD w0.heap.size v (sdAt (sdAbort ⟨q0,q1,q2,q3,n0,n1,n2,n3,true,W⟩) (2:Nat) tq) wv6) (obD_ok ..) (SdAt.atq HSD.out 2 (by omega) tq HGE.out) (by rw [HSO.out];exact SiFr.setD _) (fun b e=>e.elim)
     obtain ⟨O9,k1,k2⟩:=HFIN.out 2 (w5.setCell ⟨v,2,none⟩ (.int .i64 tq)) _ _ wv6 O7 rfl rfl hm7 ho7 hr7 rfl
     unfold put9 at k1
     exact ⟨O9,(k1.below (blw_plus (Below.refl _ _))).below (blw_plus (Below.refl _ _)),k2⟩
   ·as_aux_lemma=>
    have dq:decide (m2<tq)=false:=decide_eq_false hq
    have HGE:Hid (tq≤sdq (sdAbort ⟨q0,q1,q2,q3,n0,n1,n2,n3,true,W⟩) 2):=hidp (by
     have h1:=(HMM.out tq).2.2.1
     exact h1.1 (by omega))
    go_wp2_with fail
    refine wp_region_plus (by kernel_rfl) (by kernel_rfl) ?_
    repeat (first | go_big_quiet_skip | (go_big_quiet_want;go_big_quiet_op;first | go_big_quiet_on))
    refine wpQuiet_nil ?_
    rintro _ ⟨x4,rfl⟩
    go_wp2_with fail
    refine bodyPost_ret (v:=.tuple #[MTx.val ⟨⟨2,tq,tw,tc,e0,e1,e2,e3,tws⟩,some ⟨b',0,none⟩,c'⟩,.int .i64 0]) ?r1 rfl ⟨b',⟨c',?e1⟩,?e2⟩
    case r1=>simp [results,Tryz.results44,go_sem,MTx.val, *]
    case e1=>exact rfl
    case e2=>
     obtain ⟨O9,k1,k2⟩:=HFIN.out 2 w5 _ (sdAbort ⟨q0,q1,q2,q3,n0,n1,n2,n3,true,W⟩) wv6 O6 rfl (sdAt_no (by omega) HGE.out).symm HM6.out HSO.out (fun k _=>rfl) rfl
     unfold put9 at k1
     exact ⟨O9,k1.below (blw_plus (Below.refl _ _)),k2⟩
  subst hcs
  ·as_aux_lemma=>
   by_cases hq:m3<tq
   ·as_aux_lemma=>
    have dq:decide (m3<tq)=true:=decide_eq_true hq
    have HGE:Hid (sdq (sdAbort ⟨q0,q1,q2,q3,n0,n1,n2,n3,true,W⟩) 3≤tq):=hidp (by
     have h1:=(HMM.out tq).2.2.2
     exact Int.le_of_lt (Int.not_le.1 (fun e=>absurd (h1.2 e) (Int.not_le.2 hq))))
    go_wp2_with fail
    refine wp_region_plus (by kernel_rfl) (by kernel_rfl) ?_
    repeat (first | go_big_quiet_skip | (go_big_quiet_want;go_big_quiet_op;first | go_big_quiet_on))
    refine wpQuiet_nil ?_
    rintro _ ⟨x4,rfl⟩
    go_wp2_with fail
    refine wp_region_plus_tail 8 (by kernel_rfl) (by kernel_rfl) ?_
    simp only [List.take_succ_cons,List.take_zero,List.drop_succ_cons,List.drop_zero]
    repeat (first | go_big_quiet_skip | (go_big_quiet_want;go_big_quiet_op;first | go_big_quiet_on))
    refine wpQuiet_nil ?_
    rintro _ ⟨x5,rfl⟩
    have hn8:¬(w.heap.size+1=v):=fun e=>HVB.out.2.1 e.symm
    have hn6:¬(w.heap.size=v):=fun e=>HVB.out.1 e.symm
    go_wp2_with fail
    refine bodyPost_ret (v:=.tuple #[MTx.val ⟨⟨3,tq,tw,tc,e0,e1,e2,e3,tws⟩,some ⟨b',0,none⟩,c'⟩,.int .i64 0]) ?r1 rfl ⟨b',⟨c',?e1⟩,?e2⟩
    case r1=>simp [results,Tryz.results44,go_sem,MTx.val, *]
    case e1=>exact rfl
    case e2=>
     obtain ⟨O7,hm7,ho7,hr7⟩:=HM6.out.step1 (i:=j) (by omega) (o:=obD w0.heap.size v (sdAt (sdAbort ⟨q0,q1,q2,q3,n0,n1,n2,n3,true,W⟩) (3:Nat) tq) wv6) (obD_ok ..) (SdAt.atq HSD.out 3 (by omega) tq HGE.out) (by rw [HSO.out];exact SiFr.setD _) (fun b e=>e.elim)
     obtain ⟨O9,k1,k2⟩:=HFIN.out 3 (w5.setCell ⟨v,3,none⟩ (.int .i64 tq)) _ _ wv6 O7 rfl rfl hm7 ho7 hr7 rfl
     unfold put9 at k1
     exact ⟨O9,(k1.below (blw_plus (Below.refl _ _))).below (blw_plus (Below.refl _ _)),k2⟩
   ·as_aux_lemma=>
    have dq:decide (m3<tq)=false:=decide_eq_false hq
    have HGE:Hid (tq≤sdq (sdAbort ⟨q0,q1,q2,q3,n0,n1,n2,n3,true,W⟩) 3):=hidp (by
     have h1:=(HMM.out tq).2.2.2
     exact h1.1 (by omega))
    go_wp2_with fail
    refine wp_region_plus (by kernel_rfl) (by kernel_rfl) ?_
    repeat (first | go_big_quiet_skip | (go_big_quiet_want;go_big_quiet_op;first | go_big_quiet_on))
    refine wpQuiet_nil ?_
    rintro _ ⟨x4,rfl⟩
    go_wp2_with fail
    refine bodyPost_ret (v:=.tuple #[MTx.val ⟨⟨3,tq,tw,tc,e0,e1,e2,e3,tws⟩,some ⟨b',0,none⟩,c'⟩,.int .i64 0]) ?r1 rfl ⟨b',⟨c',?e1⟩,?e2⟩
    case r1=>simp [results,Tryz.results44,go_sem,MTx.val, *]
    case e1=>exact rfl
    case e2=>
     obtain ⟨O9,k1,k2⟩:=HFIN.out 3 w5 _ (sdAbort ⟨q0,q1,q2,q3,n0,n1,n2,n3,true,W⟩) wv6 O6 rfl (sdAt_no (by omega) HGE.out).symm HM6.out HSO.out (fun k _=>rfl) rfl
     unfold put9 at k1
     exact ⟨O9,k1.below (blw_plus (Below.refl _ _)),k2⟩
end Go.Proofs.YtbopfhbeegkkaabGreatDoor
