/- Part 24 of a proof: lemmas and contracts that other parts use. -/
import Derived.Test.YtbopfhbeegkkaabGreatDoorWp19
import Derived.Test.YtbopfhbeegkkaabGreatDoorWp23
import Derived.Test.YtbopfhbeegkkaabGreatDoorWp15
import Derived.Shelf.SlIterI.Nil
import Derived.Shelf.SortM.Plain
import Derived.Shelf.SortM.SortNone
set_option linter.unusedVariables false
set_option linter.unusedSimpArgs false
set_option linter.constructorNameAsVariable false
set_option maxHeartbeats 16000000
set_option maxRecDepth 20000
namespace Go.Proofs.YtbopfhbeegkkaabGreatDoor
open Go.RowKit Go.Proofs.Tryz
def sdq (d:SdP) (i:Nat):Int:=atV d.q0 d.q1 d.q2 d.q3 (i:Int)
theorem zdn.atq {w:World}{B v:Nat}{d:SdP}{wv:Value}(h:zdn w B v d wv) (i:Nat) (hi:i<4) (z:Int) (hz:sdq d i≤z):zdn (w.setCell ⟨v,i,none⟩ (ii z)) B v (zg5 d (i:Int) z) wv:=by
 refine⟨?_,h.own.kept (zan w v i _) (.inr h.ng),h.bx,h.ng⟩;have hb:=zam h.blk i (ii z);have hc:i=0∨i=1∨i=2∨i=3:=by omega
 rw[hb];rcases hc with rfl|rfl|rfl|rfl <;> simp[sdq,atV]at hz <;> simp[zg5,Int.max_eq_right hz]
theorem zhD {d:SdP}{i:Nat}(hi:i<4){z:Int}(hz:z≤sdq d i):zg5 d (i:Int) z=d:=by
 have hc:i=0∨i=1∨i=2∨i=3:=by omega
 rcases hc with rfl|rfl|rfl|rfl <;> simp[sdq,atV]at hz <;> simp[zg5,Int.max_eq_left hz]
def t9:Obj:=.cells #[ii 0,ii 0,ii 0,ii 0,ii 0,ii 0,ii 0,ii 0,.slice none 0 0] 44
theorem zi6 {w0 w:World}{n:Nat}{O:Nat→Ob}(h:Mem w0 w n O){i j y v:Nat}{a:RSi}{d:SdP}(hi:i<n) (hj:j<n) (hij:i≠j) (hr:zcM w0.heap.size y a (O i)) (hd:zeA w0.heap.size v d (O j)) (hn:d.W.length≤900) (now:Int) (ho:d.op=true) (hl:zaM d≠[]) (E:Int) (hE:za5 a now d.n0 d.n1 d.n2 d.n3 (zaM d)=E) (T:TxP) (hT:za9 a now d.n0 d.n1 d.n2 d.n3 (zaM d)=T) (hts:0≤T.site∧T.site<4):
  Calls prog 44 #[.pointer (some ⟨v,0,none⟩),.pointer (some ⟨y,0,none⟩),now] w fun e w'=>
   (E≠0→e=.returned (.tuple #[txZero,E])∧Below w w w')∧
   (E=0→∃ b' c',e=.returned (.tuple #[MTx.val ⟨T,some ⟨b',0,none⟩,c'⟩,ii 0])∧
     ∃ O',Mem w0 w' (n+1) O'∧O' n=zcQ (some ⟨b',0,none⟩) T.ws∧zcM w0.heap.size y (zcc a T) (O' i)∧zeA w0.heap.size v (zg5 (zaG d) T.site T.seq) (O' j)∧∀ k,k<n→k≠i→k≠j→O' k=O k):=by
 obtain⟨wv,hov,sA,hsA⟩:=id hd;have hSd:zdn w w0.heap.size v d wv:=by have:=h.at_ j hj;rw[hov]at this;exact this
 obtain⟨A,c,rfl,hws⟩:=hSd.ws;have HM:=zac h;have HR:=zac hr;have HD:=zac hd;have HOV:=zac hov;have hb:=hSd.blk;have HLL:=zac (zd8 d.W 8);have HL:Hid (zdJ d.W 8=zaM d):=zac rfl;have HAL:=zac fun(X:World) (hB:Below w w X)=>zia v A c d.W X ((hB.cell (p:=⟨v,9,none⟩) (zae hb)).trans (zaa hb 9)) (yab (zae hb) hB.size) (hws.below hB) zO
 have HLB:=zac (zae hb);obtain⟨q0,q1,q2,q3,n0,n1,n2,n3,op,W⟩:=d;simp only at ho hn hb HL HLL hE hT HAL;subst ho;rw[HL.out]at HAL HLL;generalize zaM ⟨q0,q1,q2,q3,n0,n1,n2,n3,true,W⟩=l at *;have c8:=zaa hb 8;simp only[zC,zD,zE]at c8;haveI:zaj (v+1) w:=⟨zae hb⟩;have dl:0<l.length:=Nat.pos_of_ne_zero (fun e=>hl (yan e));obtain⟨O2,hm1,ho2,hn0,hn1⟩:=h.new2 t9 t9;have HM1:=zac hm1;have HO2:=zac ho2;have HN0:=zac hn0;have HN1:=zac hn1;have HI:=zac hi;have HJ:=zac hj;have HIJ:=zac hij;have HET:=zac (And.intro hE hT);have HTS:=zac hts;clear h hr hd hov hb hSd hws hl hE hT hts hm1 ho2 hn0 hn1 hn hsA;go_enter func44,ntmps44;go_wp2_with fail;go_at_call 97;refine(HAL.out _ zB).mono ?_;rintro e w2 ⟨A2,c2,rfl,hown2,hb2⟩;have HW2:=zac (zjy hown2);unfold t9 at HM1;have HM2:=zac (HM1.out.below hb2);have HB2:=zac ((show Below w w _ from zB).trans (hb2.mono zP));clear hown2 hb2 HAL c8 HM1;have hx8:=HM2.out.box (i:=n+1) zO HN1.out;have hx6:=HM2.out.box (i:=n) zO HN0.out;have hdj:=HM2.out.at_ j (by have:=HJ.out;omega);rw[HO2.out j HJ.out,HOV.out]at hdj;have hbv:w2.heap[v]?=some _:=zdn.blk hdj;simp only at hbv;have c4:=zaa hbv 4;have c5:=zaa hbv 5;have c6:=zaa hbv 6;have c7:=zaa hbv 7;simp only[zC,zD,zE]at c4 c5 c6 c7;have hat2:=HM2.out.at_ i (by have:=HI.out;omega);rw[HO2.out i HI.out]at hat2;have HRC:=zac (HR.out.commit hat2 now n0 n1 n2 n3 A2 c2 l HW2.out (by have:=HLL.out;omega));rw[HET.out.1,HET.out.2]at HRC;unfold t9 at hx8 hx6;have z0:=zab hx8 0;have z1:=zab hx8 1;have z2:=zab hx8 2;have z3:=zab hx8 3;have z4:=zab hx8 4;have z5:=zab hx8 5;have z6:=zab hx8 6;have z7:=zab hx8 7;have z8:=zab hx8 8;have y0:=zaa hx8 0;have y1:=zaa hx8 1;have y2:=zaa hx8 2;have y3:=zaa hx8 3;have y4:=zaa hx8 4;have y5:=zaa hx8 5;have y6:=zaa hx8 6;have y7:=zaa hx8 7;have y8:=zaa hx8 8;simp only[zC,zD,zE]at y0 y1 y2 y3 y4 y5 y6 y7 y8;have r0:=zab hx6 0;have r1:=zab hx6 1;have r2:=zab hx6 2;have r3:=zab hx6 3;have r4:=zab hx6 4;have r5:=zab hx6 5;have r6:=zab hx6 6;have r7:=zab hx6 7;have r8:=zab hx6 8;have s0:=zaa hx6 0;have s1:=zaa hx6 1;have s2:=zaa hx6 2;have s3:=zaa hx6 3;have s4:=zaa hx6 4;have s5:=zaa hx6 5;have s6:=zaa hx6 6;have s7:=zaa hx6 7;have s8:=zaa hx6 8;simp only[zC,zD,zE]at s0 s1 s2 s3 s4 s5 s6 s7 s8;haveI:zaj (v+1) w2:=⟨zae hbv⟩;haveI:zaj (w.heap.size+1) w2:=⟨zae hx6⟩;haveI:zaj (w.heap.size+1+1) w2:=⟨zae hx8⟩;have HX8:=zac hx8;have HX6:=zac hx6;clear hx8 hx6 hdj hbv hat2;go_wp2_with fail;go_at_call 14;refine HRC.out.mono ?_;rintro e w3 ⟨g1,g2⟩;have HG1:=zac g1;have HG2:=zac g2;clear g1 g2 HRC c4 c5 c6 c7 y0 z0 r0 s0 y1 z1 r1 s1 y2 z2 r2 s2 y3 z3 r3 s3 y4 z4 r4 s4 y5 z5 r5 s5 y6 z6 r6 s6 y7 z7 r7 s7 y8 z8 r8 s8;by_cases hE0:E=0
 case neg=>
  obtain⟨rfl,hb3⟩:=HG1.out hE0;have hx8:=(hb3.block _ (zae HX8.out)).trans HX8.out;have hx6:=(hb3.block _ (zae HX6.out)).trans HX6.out;have HB3:=zac (HB2.out.trans (hb3.mono HB2.out.size));have z0:=zab hx8 0;have z1:=zab hx8 1;have z2:=zab hx8 2;have z3:=zab hx8 3;have z4:=zab hx8 4;have z5:=zab hx8 5;have z6:=zab hx8 6;have z7:=zab hx8 7;have z8:=zab hx8 8;have y0:=zaa hx8 0;have y1:=zaa hx8 1;have y2:=zaa hx8 2;have y3:=zaa hx8 3;have y4:=zaa hx8 4;have y5:=zaa hx8 5;have y6:=zaa hx8 6;have y7:=zaa hx8 7;have y8:=zaa hx8 8;simp only[zC,zD,zE]at y0 y1 y2 y3 y4 y5 y6 y7 y8;have r0:=zab hx6 0;have r1:=zab hx6 1;have r2:=zab hx6 2;have r3:=zab hx6 3;have r4:=zab hx6 4;have r5:=zab hx6 5;have r6:=zab hx6 6;have r7:=zab hx6 7;have r8:=zab hx6 8;have s0:=zaa hx6 0;have s1:=zaa hx6 1;have s2:=zaa hx6 2;have s3:=zaa hx6 3;have s4:=zaa hx6 4;have s5:=zaa hx6 5;have s6:=zaa hx6 6;have s7:=zaa hx6 7;have s8:=zaa hx6 8;simp only[zC,zD,zE]at s0 s1 s2 s3 s4 s5 s6 s7 s8;haveI:zaj (w.heap.size+1) w3:=⟨zae hx6⟩;haveI:zaj (w.heap.size+1+1) w3:=⟨zae hx8⟩;have dE:(E==0)=false:=by simpa using hE0
  clear hx8 hx6 hb3 HG1 HG2;unfold txZero;go_wp2_with fail;refine yag (v:=.tuple #[txZero,E]) ?_ rfl ⟨fun _=>⟨rfl,?_⟩,fun e=>absurd e hE0⟩
  ·simp[results,results44,go_sem,txZero, *]
  ·(repeat refine zfh ?_ zO);exact HB3.out
 case pos=>
  subst hE0;clear HG1;obtain⟨b',c',rfl,hb1,hb2,hw3,o',hs3,hat3,hfr3,hdt3,hno3⟩:=HG2.out rfl;clear HG2;obtain⟨O3,hm3,ho3,hr3⟩:=HM2.out.step1 (i:=i) (w':=w3) (by have:=HI.out;omega) hs3.ok hat3 (by rw[HO2.out i HI.out];exact hfr3) (by rw[HO2.out i HI.out];exact hdt3);have hb2n:∀ k,k<n+2→¬(O3 k).own b':=fun k hk=>by
   by_cases e:k=i
   ·rw[e,ho3];exact hno3
   ·rw[hr3 k e];exact HM2.out.fresh hk hb1
  obtain⟨O4,hm4,hr4,hn4⟩:=hm3.lend1 (o:=zcQ (some ⟨b',0,none⟩) T.ws) (zjC ..) ⟨hw3,fun b o e=>(by cases e;exact hb2)⟩ (fun b e=>e) (fun b k hk ⟨o,e⟩=>(by cases e;exact hb2n k hk));have HM4:=zac hm4;have HS4:Hid (zcM w0.heap.size y (zcc a T) (O4 i)):=zac (by rw[hr4 i zO,ho3];exact hs3);have HJ4:Hid (O4 j=O j):=zac (by rw[hr4 j zO,hr3 j (Ne.symm HIJ.out),HO2.out j HJ.out]);have HQ4:Hid (∀ k,k<n→k≠i→O4 k=O k):=zac (fun k hk hne=>by rw[hr4 k zO,hr3 k hne,HO2.out k hk]);have HA4:Hid (O4 n=obB w.heap.size t9 w0.heap.size):=zac (by rw[hr4 n zO,hr3 n zO];exact HN0.out);have HC4:Hid (O4 (n+1)=obB (w.heap.size+1) t9 w0.heap.size):=zac (by rw[hr4 (n+1) zO,hr3 (n+1) zO];exact HN1.out);have HD4:=zac hn4;have HBB:=zac (yac HB2.out.size hb1);clear hm3 ho3 hr3 hb2n hm4 hr4 hn4 hs3 hat3 hfr3 hdt3 hno3 hw3 hb1 hb2 HM2;have hx8:=HM4.out.box (i:=n+1) zO HC4.out;unfold t9 at hx8;have z0:=zab hx8 0;have z1:=zab hx8 1;have z2:=zab hx8 2;have z3:=zab hx8 3;have z4:=zab hx8 4;have z5:=zab hx8 5;have z6:=zab hx8 6;have z7:=zab hx8 7;have z8:=zab hx8 8;have y0:=zaa hx8 0;have y1:=zaa hx8 1;have y2:=zaa hx8 2;have y3:=zaa hx8 3;have y4:=zaa hx8 4;have y5:=zaa hx8 5;have y6:=zaa hx8 6;have y7:=zaa hx8 7;have y8:=zaa hx8 8;simp only[zC,zD,zE]at y0 y1 y2 y3 y4 y5 y6 y7 y8;haveI:zaj (w.heap.size+1+1) w3:=⟨zae hx8⟩;clear hx8;obtain⟨ts,tq,tw,tc,e0,e1,e2,e3,tws⟩:=T;unfold MTx.val;simp only at HTS ⊢;go_wp2_with fail;obtain⟨O5,hm5,hn5,hr5⟩:=HM4.out.fill9' (i:=n+1) zO HC4.out (ii ts) (ii tq) (ii tw) (ii tc) (ii e0) (ii e1) (ii e2) (ii e3) (.slice (some ⟨b',0,none⟩) tws.length c');have HM5:=zac hm5;have HC5:=zac hn5;have HR5:=zac hr5;clear hm5 hn5 hr5 y0 z0 y1 z1 y2 z2 y3 z3 y4 z4 y5 z5 y6 z6 y7 z7 y8 z8;obtain⟨V,hV⟩:∃ V,zcx w3 (w.heap.size+1) (ii ts) (ii tq) (ii tw) (ii tc) (ii e0) (ii e1) (ii e2) (ii e3) (.slice (some ⟨b',0,none⟩) tws.length c')=V:=⟨_,rfl⟩;rw[hV]at HM5;unfold zcx at hV;rw[hV];clear hV;have hdV:=HM5.out.at_ j zO;rw[HR5.out j (by have:=HJ.out;omega),HJ4.out]at hdV;have HAB:=zac (HD.out.abort hdV);clear hdV;go_at_call 47;refine HAB.out.mono ?_;rintro e w5 ⟨rfl,hu⟩;have HU:=zac hu;clear hu HAB;obtain⟨O6,hm6,hd6,hr6⟩:=HM5.out.upd (i:=j) (by have:=HJ.out;omega) (by rw[HR5.out j (by have:=HJ.out;omega),HJ4.out];exact HU.out) (fun o h=>zeA.ok h);have e6:zgt ⟨q0,q1,q2,q3,n0,n1,n2,n3,true,W⟩=zaG ⟨q0,q1,q2,q3,n0,n1,n2,n3,true,W⟩:=rfl;rw[e6]at hd6;obtain⟨wv6,hov6,s6,hs6⟩:=hd6;have HM6:=zac hm6;have HV6:=zac hov6;have HR6:=zac hr6;have HS6:=zac hs6;have hC6:O6 (n+1)=obB (w.heap.size+1) (.cells #[ts,tq,tw,tc,e0,e1,e2,e3,.slice (some ⟨b',0,none⟩) tws.length c'] 44) w0.heap.size:=by rw[hr6 (n+1) (by have:=HJ.out;omega)];exact HC5.out
  have hA6:O6 n=obB w.heap.size t9 w0.heap.size:=by rw[hr6 n (by have:=HJ.out;omega),HR5.out n zO];exact HA4.out
  have HI6:Hid (zcM w0.heap.size y (zcc a ⟨ts,tq,tw,tc,e0,e1,e2,e3,tws⟩) (O6 i)):=zac (by rw[hr6 i HIJ.out,HR5.out i (by have:=HI.out;omega)];exact HS4.out);have HQ6:Hid (∀ k,k<n→k≠i→k≠j→O6 k=O k):=zac (fun k hk h1 h2=>by rw[hr6 k h2,HR5.out k zO,HQ4.out k hk h1]);have HD6:Hid (O6 (n+2)=zcQ (some ⟨b',0,none⟩) tws):=zac (by rw[hr6 (n+2) (by have:=HJ.out;omega),HR5.out (n+2) zO];exact HD4.out);have HA6:=zac hA6;have HC6:=zac hC6;clear hm6 hov6 hr6 hs6 HU HM5 HR5 HC5 HR6 HM4 HA4 HC4 HD4 HQ4 HJ4 HS4 e6;have hbv:=HM6.out.at_ j (by have:=HJ.out;omega);rw[HV6.out]at hbv;have HSD:=zac (show zdn w5 w0.heap.size v (zaG ⟨q0,q1,q2,q3,n0,n1,n2,n3,true,W⟩) wv6 from hbv);have hbk:=HSD.out.blk;simp only[zaG]at hbk;have hx8:=HM6.out.box (i:=n+1) zO hC6;have hx6:=HM6.out.box (i:=n) zO hA6;unfold t9 at hx6;have HX6:=zac hx6;have y0:=zaa hx8 0;have y1:=zaa hx8 1;have y2:=zaa hx8 2;have y3:=zaa hx8 3;have y4:=zaa hx8 4;have y5:=zaa hx8 5;have y6:=zaa hx8 6;have y7:=zaa hx8 7;have y8:=zaa hx8 8;simp only[zC,zD,zE]at y0 y1 y2 y3 y4 y5 y6 y7 y8;have r0:=zab hx6 0;have r1:=zab hx6 1;have r2:=zab hx6 2;have r3:=zab hx6 3;have r4:=zab hx6 4;have r5:=zab hx6 5;have r6:=zab hx6 6;have r7:=zab hx6 7;have r8:=zab hx6 8;have s0:=zaa hx6 0;have s1:=zaa hx6 1;have s2:=zaa hx6 2;have s3:=zaa hx6 3;have s4:=zaa hx6 4;have s5:=zaa hx6 5;have s6:=zaa hx6 6;have s7:=zaa hx6 7;have s8:=zaa hx6 8;simp only[zC,zD,zE]at s0 s1 s2 s3 s4 s5 s6 s7 s8;have d0:=zaa hbk 0;have d1:=zaa hbk 1;have d2:=zaa hbk 2;have d3:=zaa hbk 3;simp only[zC,zD,zE]at d0 d1 d2 d3;have f0:=zab hbk 0;have f1:=zab hbk 1;have f2:=zab hbk 2;have f3:=zab hbk 3;haveI:zaj (v+1) w5:=⟨zae hbk⟩;haveI:zaj (w.heap.size+1) w5:=⟨zae hx6⟩;haveI:zaj (w.heap.size+1+1) w5:=⟨zae hx8⟩;have HVB:Hid (v≠w.heap.size∧v≠w.heap.size+1∧v<w5.heap.size):=zac (by have:=HLB.out;have:=zae hbk;omega);clear hbv hbk hx8 hx6 hC6 hA6;have hcs:ts=0∨ts=1∨ts=2∨ts=3:=by have:=HTS.out;omega
  clear HTS;generalize hm0:max q0 n0=m0 at *;generalize hm1:max q1 n1=m1 at *;generalize hm2:max q2 n2=m2 at *;generalize hm3:max q3 n3=m3 at *;have HMM:Hid (∀ z,(z≤m0↔z≤sdq (zaG ⟨q0,q1,q2,q3,n0,n1,n2,n3,true,W⟩) 0)∧(z≤m1↔z≤sdq (zaG ⟨q0,q1,q2,q3,n0,n1,n2,n3,true,W⟩) 1)∧(z≤m2↔z≤sdq (zaG ⟨q0,q1,q2,q3,n0,n1,n2,n3,true,W⟩) 2)∧(z≤m3↔z≤sdq (zaG ⟨q0,q1,q2,q3,n0,n1,n2,n3,true,W⟩) 3)):=zac (by
   intro z;subst hm0 hm1 hm2 hm3;exact⟨Iff.rfl,Iff.rfl,Iff.rfl,Iff.rfl⟩)
  clear hm0 hm1 hm2 hm3;have HFIN:Hid (∀ (i9:Nat) (X Y:World) (d9:SdP) (wv9:Value) (O9:Nat→Ob),ts=(i9:Int)→d9=zg5 (zaG ⟨q0,q1,q2,q3,n0,n1,n2,n3,true,W⟩) (i9:Int) tq→Mem w0 X (n+3) O9→O9 j=obD w0.heap.size v d9 wv9→(∀ k,k≠j→O9 k=O6 k)→Y=zcx X w.heap.size (ii ts) (ii tq) (ii tw) (ii tc) (ii e0) (ii e1) (ii e2) (ii e3) (.slice (some ⟨b',0,none⟩) tws.length c')→
    ∃ O',Mem w0 Y (n+1) O'∧O' n=zcQ (some ⟨b',0,none⟩) tws∧zcM w0.heap.size y (zcc a ⟨ts,tq,tw,tc,e0,e1,e2,e3,tws⟩) (O' i)∧zeA w0.heap.size v (zg5 (zaG ⟨q0,q1,q2,q3,n0,n1,n2,n3,true,W⟩) ts tq) (O' j)∧∀ k,k<n→k≠i→k≠j→O' k=O k):=zac (by
   intro i9 X Y d9 wv9 O9 g1 g2 g3 g4 g5 g6;subst g6;obtain⟨O10,k1,k2,k3⟩:=g3.fill9' (i:=n) zO ((g5 n (by have:=HJ.out;omega)).trans HA6.out) (ii ts) (ii tq) (ii tw) (ii tc) (ii e0) (ii e1) (ii e2) (ii e3) (.slice (some ⟨b',0,none⟩) tws.length c');have hi:=HI.out;have hj:=HJ.out;have hij:=HIJ.out;refine⟨fun k=>O10 (if k=n then n+2 else k),k1.pick (fun k=>if k=n then n+2 else k) (fun k hk=>by split <;> omega) (fun p q hp hq e=>by split at e <;> split at e <;> omega),?_,?_,?_,fun k hk h1 h2=>?_⟩
   ·show O10 (if n=n then n+2 else n)=_
    rw[yaj rfl,k3 _ zO,g5 _ zO];exact HD6.out
   ·show zcM _ _ _ (O10 (if i=n then n+2 else i))
    rw[yad zO,k3 _ zO,g5 _ hij];exact HI6.out
   ·show zeA _ _ _ (O10 (if j=n then n+2 else j))
    rw[yad zO,k3 _ zO,g4,g2,g1];exact⟨wv9,rfl,_,HS6.out.at _ _⟩
   ·show O10 (if k=n then n+2 else k)=_
    rw[yad zO,k3 _ zO,g5 _ h2];exact HQ6.out k hk h1 h2)
  have HSO:Hid (O6 j=obD w0.heap.size v (zaG ⟨q0,q1,q2,q3,n0,n1,n2,n3,true,W⟩) wv6):=HV6;rcases hcs with rfl|hcs
  ·as_aux_lemma=>
   by_cases hq:m0<tq
   ·as_aux_lemma=>
    have dq:decide (m0<tq)=true:=yae hq;have HGE:Hid (sdq (zaG ⟨q0,q1,q2,q3,n0,n1,n2,n3,true,W⟩) 0≤tq):=zac (by
     have h1:=(HMM.out tq).1;exact Int.le_of_lt (ycr.1 (fun e=>absurd (h1.2 e) (ycr.2 hq))))
    go_wp2_with fail;refine zaw fun x4=>?_
    go_wp2_with fail;refine zb9 8 fun x5=>?_
    have hn8:¬(w.heap.size+1=v):=fun e=>HVB.out.2.1 e.symm
    have hn6:¬(w.heap.size=v):=fun e=>HVB.out.1 e.symm
    go_wp2_with fail;refine yag (v:=.tuple #[MTx.val ⟨⟨0,tq,tw,tc,e0,e1,e2,e3,tws⟩,some ⟨b',0,none⟩,c'⟩,ii 0]) ?r1 rfl ⟨b',⟨c',?e1⟩,?e2⟩
    case r1=>simp[results,results44,go_sem,MTx.val, *]
    case e1=>exact rfl
    case e2=>
     obtain⟨O7,hm7,ho7,hr7⟩:=HM6.out.step1 (i:=j) zO (o:=obD w0.heap.size v (zg5 (zaG ⟨q0,q1,q2,q3,n0,n1,n2,n3,true,W⟩) (0:Nat) tq) wv6) (zef ..) (zdn.atq HSD.out 0 zO tq HGE.out) (by rw[HSO.out];exact zaO.setD _) (fun b e=>e.elim);obtain⟨O9,k1,k2⟩:=HFIN.out 0 (w5.setCell ⟨v,0,none⟩ (ii tq)) _ _ wv6 O7 rfl rfl hm7 ho7 hr7 rfl;unfold zcx at k1;exact⟨O9,(k1.below (zaD (yaf _ _))).below (zaD (yaf _ _)),k2⟩
   ·as_aux_lemma=>
    have dq:decide (m0<tq)=false:=yah hq;have HGE:Hid (tq≤sdq (zaG ⟨q0,q1,q2,q3,n0,n1,n2,n3,true,W⟩) 0):=zac (by
     have h1:=(HMM.out tq).1;exact h1.1 zO)
    go_wp2_with fail;refine zaw fun x4=>?_
    go_wp2_with fail;refine yag (v:=.tuple #[MTx.val ⟨⟨0,tq,tw,tc,e0,e1,e2,e3,tws⟩,some ⟨b',0,none⟩,c'⟩,ii 0]) ?r1 rfl ⟨b',⟨c',?e1⟩,?e2⟩
    case r1=>simp[results,results44,go_sem,MTx.val, *]
    case e1=>exact rfl
    case e2=>
     obtain⟨O9,k1,k2⟩:=HFIN.out 0 w5 _ (zaG ⟨q0,q1,q2,q3,n0,n1,n2,n3,true,W⟩) wv6 O6 rfl (zhD zO HGE.out).symm HM6.out HSO.out (fun k _=>rfl) rfl;unfold zcx at k1;exact⟨O9,k1.below (zaD (yaf _ _)),k2⟩
  rcases hcs with rfl|hcs
  ·as_aux_lemma=>
   by_cases hq:m1<tq
   ·as_aux_lemma=>
    have dq:decide (m1<tq)=true:=yae hq;have HGE:Hid (sdq (zaG ⟨q0,q1,q2,q3,n0,n1,n2,n3,true,W⟩) 1≤tq):=zac (by
     have h1:=(HMM.out tq).2.1;exact Int.le_of_lt (ycr.1 (fun e=>absurd (h1.2 e) (ycr.2 hq))))
    go_wp2_with fail;refine zaw fun x4=>?_
    go_wp2_with fail;refine zb9 8 fun x5=>?_
    have hn8:¬(w.heap.size+1=v):=fun e=>HVB.out.2.1 e.symm
    have hn6:¬(w.heap.size=v):=fun e=>HVB.out.1 e.symm
    go_wp2_with fail;refine yag (v:=.tuple #[MTx.val ⟨⟨1,tq,tw,tc,e0,e1,e2,e3,tws⟩,some ⟨b',0,none⟩,c'⟩,ii 0]) ?r1 rfl ⟨b',⟨c',?e1⟩,?e2⟩
    case r1=>simp[results,results44,go_sem,MTx.val, *]
    case e1=>exact rfl
    case e2=>
     obtain⟨O7,hm7,ho7,hr7⟩:=HM6.out.step1 (i:=j) zO (o:=obD w0.heap.size v (zg5 (zaG ⟨q0,q1,q2,q3,n0,n1,n2,n3,true,W⟩) (1:Nat) tq) wv6) (zef ..) (zdn.atq HSD.out 1 zO tq HGE.out) (by rw[HSO.out];exact zaO.setD _) (fun b e=>e.elim);obtain⟨O9,k1,k2⟩:=HFIN.out 1 (w5.setCell ⟨v,1,none⟩ (ii tq)) _ _ wv6 O7 rfl rfl hm7 ho7 hr7 rfl;unfold zcx at k1;exact⟨O9,(k1.below (zaD (yaf _ _))).below (zaD (yaf _ _)),k2⟩
   ·as_aux_lemma=>
    have dq:decide (m1<tq)=false:=yah hq;have HGE:Hid (tq≤sdq (zaG ⟨q0,q1,q2,q3,n0,n1,n2,n3,true,W⟩) 1):=zac (by
     have h1:=(HMM.out tq).2.1;exact h1.1 zO)
    go_wp2_with fail;refine zaw fun x4=>?_
    go_wp2_with fail;refine yag (v:=.tuple #[MTx.val ⟨⟨1,tq,tw,tc,e0,e1,e2,e3,tws⟩,some ⟨b',0,none⟩,c'⟩,ii 0]) ?r1 rfl ⟨b',⟨c',?e1⟩,?e2⟩
    case r1=>simp[results,results44,go_sem,MTx.val, *]
    case e1=>exact rfl
    case e2=>
     obtain⟨O9,k1,k2⟩:=HFIN.out 1 w5 _ (zaG ⟨q0,q1,q2,q3,n0,n1,n2,n3,true,W⟩) wv6 O6 rfl (zhD zO HGE.out).symm HM6.out HSO.out (fun k _=>rfl) rfl;unfold zcx at k1;exact⟨O9,k1.below (zaD (yaf _ _)),k2⟩
  rcases hcs with rfl|hcs
  ·as_aux_lemma=>
   by_cases hq:m2<tq
   ·as_aux_lemma=>
    have dq:decide (m2<tq)=true:=yae hq;have HGE:Hid (sdq (zaG ⟨q0,q1,q2,q3,n0,n1,n2,n3,true,W⟩) 2≤tq):=zac (by
     have h1:=(HMM.out tq).2.2.1;exact Int.le_of_lt (ycr.1 (fun e=>absurd (h1.2 e) (ycr.2 hq))))
    go_wp2_with fail;refine zaw fun x4=>?_
    go_wp2_with fail;refine zb9 8 fun x5=>?_
    have hn8:¬(w.heap.size+1=v):=fun e=>HVB.out.2.1 e.symm
    have hn6:¬(w.heap.size=v):=fun e=>HVB.out.1 e.symm
    go_wp2_with fail;refine yag (v:=.tuple #[MTx.val ⟨⟨2,tq,tw,tc,e0,e1,e2,e3,tws⟩,some ⟨b',0,none⟩,c'⟩,ii 0]) ?r1 rfl ⟨b',⟨c',?e1⟩,?e2⟩
    case r1=>simp[results,results44,go_sem,MTx.val, *]
    case e1=>exact rfl
    case e2=>
     obtain⟨O7,hm7,ho7,hr7⟩:=HM6.out.step1 (i:=j) zO (o:=obD w0.heap.size v (zg5 (zaG ⟨q0,q1,q2,q3,n0,n1,n2,n3,true,W⟩) (2:Nat) tq) wv6) (zef ..) (zdn.atq HSD.out 2 zO tq HGE.out) (by rw[HSO.out];exact zaO.setD _) (fun b e=>e.elim);obtain⟨O9,k1,k2⟩:=HFIN.out 2 (w5.setCell ⟨v,2,none⟩ (ii tq)) _ _ wv6 O7 rfl rfl hm7 ho7 hr7 rfl;unfold zcx at k1;exact⟨O9,(k1.below (zaD (yaf _ _))).below (zaD (yaf _ _)),k2⟩
   ·as_aux_lemma=>
    have dq:decide (m2<tq)=false:=yah hq;have HGE:Hid (tq≤sdq (zaG ⟨q0,q1,q2,q3,n0,n1,n2,n3,true,W⟩) 2):=zac (by
     have h1:=(HMM.out tq).2.2.1;exact h1.1 zO)
    go_wp2_with fail;refine zaw fun x4=>?_
    go_wp2_with fail;refine yag (v:=.tuple #[MTx.val ⟨⟨2,tq,tw,tc,e0,e1,e2,e3,tws⟩,some ⟨b',0,none⟩,c'⟩,ii 0]) ?r1 rfl ⟨b',⟨c',?e1⟩,?e2⟩
    case r1=>simp[results,results44,go_sem,MTx.val, *]
    case e1=>exact rfl
    case e2=>
     obtain⟨O9,k1,k2⟩:=HFIN.out 2 w5 _ (zaG ⟨q0,q1,q2,q3,n0,n1,n2,n3,true,W⟩) wv6 O6 rfl (zhD zO HGE.out).symm HM6.out HSO.out (fun k _=>rfl) rfl;unfold zcx at k1;exact⟨O9,k1.below (zaD (yaf _ _)),k2⟩
  subst hcs
  ·as_aux_lemma=>
   by_cases hq:m3<tq
   ·as_aux_lemma=>
    have dq:decide (m3<tq)=true:=yae hq;have HGE:Hid (sdq (zaG ⟨q0,q1,q2,q3,n0,n1,n2,n3,true,W⟩) 3≤tq):=zac (by
     have h1:=(HMM.out tq).2.2.2;exact Int.le_of_lt (ycr.1 (fun e=>absurd (h1.2 e) (ycr.2 hq))))
    go_wp2_with fail;refine zaw fun x4=>?_
    go_wp2_with fail;refine zb9 8 fun x5=>?_
    have hn8:¬(w.heap.size+1=v):=fun e=>HVB.out.2.1 e.symm
    have hn6:¬(w.heap.size=v):=fun e=>HVB.out.1 e.symm
    go_wp2_with fail;refine yag (v:=.tuple #[MTx.val ⟨⟨3,tq,tw,tc,e0,e1,e2,e3,tws⟩,some ⟨b',0,none⟩,c'⟩,ii 0]) ?r1 rfl ⟨b',⟨c',?e1⟩,?e2⟩
    case r1=>simp[results,results44,go_sem,MTx.val, *]
    case e1=>exact rfl
    case e2=>
     obtain⟨O7,hm7,ho7,hr7⟩:=HM6.out.step1 (i:=j) zO (o:=obD w0.heap.size v (zg5 (zaG ⟨q0,q1,q2,q3,n0,n1,n2,n3,true,W⟩) (3:Nat) tq) wv6) (zef ..) (zdn.atq HSD.out 3 zO tq HGE.out) (by rw[HSO.out];exact zaO.setD _) (fun b e=>e.elim);obtain⟨O9,k1,k2⟩:=HFIN.out 3 (w5.setCell ⟨v,3,none⟩ (ii tq)) _ _ wv6 O7 rfl rfl hm7 ho7 hr7 rfl;unfold zcx at k1;exact⟨O9,(k1.below (zaD (yaf _ _))).below (zaD (yaf _ _)),k2⟩
   ·as_aux_lemma=>
    have dq:decide (m3<tq)=false:=yah hq;have HGE:Hid (tq≤sdq (zaG ⟨q0,q1,q2,q3,n0,n1,n2,n3,true,W⟩) 3):=zac (by
     have h1:=(HMM.out tq).2.2.2;exact h1.1 zO)
    go_wp2_with fail;refine zaw fun x4=>?_
    go_wp2_with fail;refine yag (v:=.tuple #[MTx.val ⟨⟨3,tq,tw,tc,e0,e1,e2,e3,tws⟩,some ⟨b',0,none⟩,c'⟩,ii 0]) ?r1 rfl ⟨b',⟨c',?e1⟩,?e2⟩
    case r1=>simp[results,results44,go_sem,MTx.val, *]
    case e1=>exact rfl
    case e2=>
     obtain⟨O9,k1,k2⟩:=HFIN.out 3 w5 _ (zaG ⟨q0,q1,q2,q3,n0,n1,n2,n3,true,W⟩) wv6 O6 rfl (zhD zO HGE.out).symm HM6.out HSO.out (fun k _=>rfl) rfl;unfold zcx at k1;exact⟨O9,k1.below (zaD (yaf _ _)),k2⟩
end Go.Proofs.YtbopfhbeegkkaabGreatDoor
namespace Go.Proofs.YtbopfhbeegkkaabGreatDoor
open Go.RowKit Go.Maps Go.Sort Go.Shelf Go.Proofs.Tryz
def keysA_ren:Go.Shelf.Ren:=⟨fun | 7=>99 | 10=>145|n=>n,fun | 23=>169 | 26=>3 | 3=>83 | 28=>178 | 0=>0 | 27=>177 | 33=>238 | 4=>4|n=>n,fun|n=>n⟩
theorem keysA:Go.Proofs.SlLaysZI.n7 prog keysA_ren:={
 mixed:=by kernel_rfl
 f7:=⟨Tryz.f99.name,zI,func99.trans (yaS some zK)⟩
 f10:=⟨Tryz.f145.name,zI,func145.trans (yaS some zK)⟩
 t0:=underlying0
 a0:=isAgg0
 z0:=sizeOf0
 v0:=zeroValue0
 t4:=underlying4
 a4:=isAgg4
 z4:=sizeOf4
 v4:=zeroValue4
 t23:=underlying169
 a23:=isAgg169
 z23:=sizeOf169
 v23:=zeroValue169
 t26:=underlying3
 a26:=isAgg3
 z26:=sizeOf3
 v26:=zeroValue3
 t27:=underlying177
 a27:=isAgg177
 z27:=sizeOf177
 v27:=zeroValue177
 t28:=underlying178
 a28:=isAgg178
 z28:=sizeOf178
 v28:=zeroValue178
 t33:=underlying238
 a33:=isAgg238
 z33:=sizeOf238
 v33:=zeroValue238 }
def sortedA_ren:Go.Shelf.Ren:=⟨fun | 6=>98 | 8=>143 | 9=>144 | 11=>180 | 13=>182 | 12=>181 | 23=>235 | 24=>236 | 14=>226 | 15=>227 | 16=>228 | 17=>229 | 18=>230 | 19=>231 | 20=>232 | 21=>233 | 22=>234 | 25=>249 | 26=>250 | 27=>251 | 28=>252 | 29=>253 | 30=>189 | 31=>278|n=>n,fun | 26=>3 | 28=>178 | 24=>132 | 0=>0 | 3=>3 | 37=>86 | 48=>328 | 50=>330 | 4=>4 | 40=>322 | 39=>321 | 45=>275 | 5=>5 | 9=>9 | 51=>335 | 55=>339 | 57=>363 | 58=>364 | 33=>238|n=>n,fun|n=>n⟩
theorem sortedA:Go.Proofs.SlLaysZI.n6 prog sortedA_ren:={
 mixed:=by kernel_rfl
 f6:=⟨Tryz.f98.name,zI,func98.trans (yaS some zK)⟩
 f8:=⟨Tryz.f143.name,zI,func143.trans (yaS some zK)⟩
 f11:=⟨Tryz.f180.name,zI,func180.trans (yaS some zK)⟩
 t0:=underlying0
 a0:=isAgg0
 z0:=sizeOf0
 v0:=zeroValue0
 t24:=underlying132
 a24:=isAgg132
 z24:=sizeOf132
 v24:=zeroValue132
 t26:=underlying3
 a26:=isAgg3
 z26:=sizeOf3
 v26:=zeroValue3
 t28:=underlying178
 a28:=isAgg178
 z28:=sizeOf178
 v28:=zeroValue178
 i26:=by kernel_rfl }
def sortA_ren:Go.Shelf.Ren:=⟨fun | 5=>144 | 8=>182 | 7=>181 | 19=>235 | 20=>236 | 10=>226 | 11=>227 | 12=>228 | 13=>229 | 14=>230 | 15=>231 | 16=>232 | 17=>233 | 18=>234 | 30=>249 | 31=>250 | 32=>251 | 33=>252 | 34=>253 | 35=>189 | 40=>278|n=>n,fun | 23=>132 | 25=>3 | 3=>3 | 32=>86 | 22=>132 | 0=>0 | 44=>328 | 46=>330 | 4=>4 | 36=>322 | 35=>321 | 41=>275 | 5=>5 | 9=>9 | 53=>335 | 57=>339 | 63=>363 | 64=>364|n=>n,fun|n=>n⟩
theorem sortA:Go.Proofs.SlLaysM.n5 prog sortA_ren:={
 mixed:=by kernel_rfl
 f5:=⟨Tryz.f144.name,zI,func144.trans (yaS some zK)⟩
 f7:=⟨Tryz.f181.name,zI,func181.trans (yaS some zK)⟩
 f8:=func182.trans (yaS some zK)
 f10:=⟨Tryz.f226.name,zI,func226.trans (yaS some zK)⟩
 f11:=⟨Tryz.f227.name,zI,func227.trans (yaS some zK)⟩
 f12:=⟨Tryz.f228.name,zI,func228.trans (yaS some zK)⟩
 f13:=⟨Tryz.f229.name,zI,func229.trans (yaS some zK)⟩
 f14:=⟨Tryz.f230.name,zI,func230.trans (yaS some zK)⟩
 f15:=⟨Tryz.f231.name,zI,func231.trans (yaS some zK)⟩
 f16:=⟨Tryz.f232.name,zI,func232.trans (yaS some zK)⟩
 f17:=⟨Tryz.f233.name,zI,func233.trans (yaS some zK)⟩
 f18:=⟨Tryz.f234.name,zI,func234.trans (yaS some zK)⟩
 f19:=func235.trans (yaS some zK)
 f20:=func236.trans (yaS some zK)
 f30:=⟨Tryz.f249.name,zI,func249.trans (yaS some zK)⟩
 f31:=func250.trans (yaS some zK)
 f32:=func251.trans (yaS some zK)
 f33:=⟨Tryz.f252.name,zI,func252.trans (yaS some zK)⟩
 f34:=⟨Tryz.f253.name,zI,func253.trans (yaS some zK)⟩
 f35:=⟨Tryz.f189.name,zI,func189.trans (yaS some zK)⟩
 f40:=⟨Tryz.f278.name,zI,func278.trans (yaS some zK)⟩
 t0:=underlying0
 a0:=isAgg0
 z0:=sizeOf0
 v0:=zeroValue0
 t3:=underlying3
 a3:=isAgg3
 z3:=sizeOf3
 v3:=zeroValue3
 t4:=underlying4
 a4:=isAgg4
 z4:=sizeOf4
 v4:=zeroValue4
 t5:=underlying5
 a5:=isAgg5
 z5:=sizeOf5
 v5:=zeroValue5
 t9:=underlying9
 a9:=isAgg9
 z9:=sizeOf9
 v9:=zeroValue9
 t22:=underlying132
 a22:=isAgg132
 z22:=sizeOf132
 v22:=zeroValue132
 t23:=underlying132
 a23:=isAgg132
 z23:=sizeOf132
 v23:=zeroValue132
 t25:=underlying3
 a25:=isAgg3
 z25:=sizeOf3
 v25:=zeroValue3
 t32:=underlying86
 a32:=isAgg86
 z32:=sizeOf86
 v32:=zeroValue86
 t35:=underlying321
 a35:=isAgg321
 z35:=sizeOf321
 v35:=zeroValue321
 t36:=underlying322
 a36:=isAgg322
 z36:=sizeOf322
 v36:=zeroValue322
 t41:=underlying275
 a41:=isAgg275
 z41:=sizeOf275
 v41:=zeroValue275
 t44:=underlying328
 a44:=isAgg328
 z44:=sizeOf328
 v44:=zeroValue328
 t46:=underlying330
 a46:=isAgg330
 z46:=sizeOf330
 v46:=zeroValue330
 t53:=underlying335
 a53:=isAgg335
 z53:=sizeOf335
 v53:=zeroValue335
 t57:=underlying339
 a57:=isAgg339
 z57:=sizeOf339
 v57:=zeroValue339
 t63:=underlying363
 a63:=isAgg363
 z63:=sizeOf363
 v63:=zeroValue363
 t64:=underlying364
 a64:=isAgg364
 z64:=sizeOf364
 v64:=zeroValue364 }
theorem sortsA (m:Nat):AnyZI.SortsIn prog sortedA_ren Fence.wide m:=
 ⟨fun blk off cap ss W hH hblk hsz=>callsIn_wide.2 (AnyM.slices_Sort_int sortA blk off cap ss W hH hblk hsz),
  fun p cap W=>callsIn_wide.2 (AnyM.slices_Sort_int_none sortA p cap W)⟩
theorem zmV (mb:Option Nat) (w:World):Calls prog 99 #[.map mb] w fun e w'=>e=.returned (.func (.func 145) #[] #[.pointer (some ⟨w,0,none⟩)])∧w'=w.alloc (.cells #[.map mb] 169):=
 (callsIn_wide (n:=5)).1 (AnyZI.keys_in keysA Fence.wide 5 trivial rfl mb w)
theorem zjo {w:World}{b sz:Nat}{f:Int→Option WrP}(h:zeZ w b f sz) (hsz:sz≤1000) (hd:∀ k,(f k).isSome=true→0≤k∧k≤7):
  Calls prog 98 #[.func (.func 145) #[] #[.pointer (some ⟨w,0,none⟩)]] (w.alloc (.cells #[.map (some b)] 169)) fun e w'=>∃ v,e=.returned v∧w'.ownsRow w.heap.size 3 1 v (zci f).length ((zci f).map encZ)∧Below w w w':=by
 obtain⟨D,hown,hDs,hks⟩:=h.keys hd;have hbl:=hown.lt;have hmax:Maps.size D≤maxLen:=by rw[hDs];exact yac hsz (yac zI maxLen_ge)
 have hbytes:Maps.size D*8≤140737488355328:=by rw[hDs];omega
 have hseq:SeqGives Fence.wide 2 prog 145 #[.pointer (some ⟨w,0,none⟩)] encZ (fun ss=>ss.Perm (intKeys D)) (Maps.size D) (w.alloc (.cells #[.map (some b)] 169)):=
  AnyZI.keys_gives (ρ:=keysA_ren) { keysA with } Fence.wide _ trivial rfl zO w.heap.size b sz D _ zS zS (by
   obtain⟨es,clock,hb,Ft,hs,hD⟩:=hown;exact⟨es,clock,(ybR _ _ b hbl).trans hb,Ft,hs,hD⟩)
 have cS:=AnyZI.sorted_in sortedA Fence.wide 5 trivial trivial trivial trivial rfl zO (sortsA _) (enters_of func144 zK rfl) 145 #[.pointer (some ⟨w,0,none⟩)] trivial (enters_of func145 zK rfl) _ _ hmax hbytes _ hseq;change CallsIn _ _ prog 98 _ _ _ at cS;refine((callsIn_wide (n:=5)).1 cS).mono ?_;rintro e w' ⟨v,ss,rfl,hS,hrow,hnil,hb⟩;obtain⟨e1,e2⟩:=hks ss hS;have hrow2:=ownsRow_base_a (base':=w.heap.size) hrow zS;have e3:ss.mergeSort (fun x y=>decide (x≤y))=zci f:=e1;rw[e3,e2]at hrow2;exact⟨v,rfl,hrow2,((yaf _ w).alloc (yai _) _).trans (hb.mono zS)⟩
end Go.Proofs.YtbopfhbeegkkaabGreatDoor
namespace Go.Proofs.YtbopfhbeegkkaabGreatDoor
open Go.RowKit Go.Proofs.Tryz
theorem zeZ.look1 {w:World}{m sz:Nat}{f:Int→Option WrP}(h:zeZ w m f sz){k:Int}(hk:zcr k){x:WrP}(hx:f k=some x):
  (Instr.lookup 169 (.map (some m)) (.int .i64 k) false).run prog w=.ok x.val w:=by
 obtain⟨D,h1,h2,h3⟩:=h;obtain⟨v,ps,hrun,hv⟩:=h1.lookup keyedI map169 (zero83 w) (zd:=.held wrZ.val) (zp:=[]) rfl (zkl hk);obtain⟨e1,e2⟩:=h3 k hk;rw[hrun];simp only[zfD,yaz,ybc]at hv;have:=e2 (.held wrZ.val);rw[←hv.1,hx]at this;simp only[yci]at this;rw[this]
def zhT (w:World) (u:Nat) (z0 z1 z2 z3:Int):World:=
 (((((((((w.setCell ⟨u,0,none⟩ (.int .i64 z0)).setCell ⟨u,1,none⟩ (.int .i64 z1)).setCell ⟨u,2,none⟩ (.int .i64 z2)).setCell ⟨u,3,none⟩ (.int .i64 z3)).setCell ⟨u,8,none⟩ (.bool false)).setCell ⟨u,4,none⟩ (.int .i64 0)).setCell ⟨u,5,none⟩ (.int .i64 0)).setCell ⟨u,6,none⟩ (.int .i64 0)).setCell ⟨u,7,none⟩ (.int .i64 0)).setCell ⟨u,9,none⟩ (.map none)
theorem zc3.close {w:World}{B u:Nat}{s:SnP}{mv:Option Nat}(h:zc3 w B u s mv) (z0 z1 z2 z3:Int):
  zc3 (zhT w u z0 z1 z2 z3) B u ⟨z0,z1,z2,z3,0,0,0,0,false,fun _=>none,0⟩ none∧zaO w (zhT w u z0 z1 z2 z3) (zbL u mv) (zbL u none):=by
 have e1:=zam h.blk 0 (.int .i64 z0);have e2:=zam e1 1 (.int .i64 z1);have e3:=zam e2 2 (.int .i64 z2);have e4:=zam e3 3 (.int .i64 z3);have e5:=zam e4 8 (.bool false);have e6:=zam e5 4 (.int .i64 0);have e7:=zam e6 5 (.int .i64 0);have e8:=zam e7 6 (.int .i64 0);have e9:=zam e8 7 (.int .i64 0);have e10:=zam e9 9 (.map none);simp only[yas,yaF,yaG]at e10;have hc:∀ (X:World) (i:Nat) (zz:Value),zaO X (X.setCell ⟨u,i,none⟩ zz) (zbL u mv) (zbL u mv):=fun X i zz=>zaO.setN zz
 have hfr:=((((((((((hc w 0 (.int .i64 z0)).trans (hc _ 1 (.int .i64 z1))).trans (hc _ 2 (.int .i64 z2))).trans (hc _ 3 (.int .i64 z3))).trans (hc _ 8 (.bool false))).trans (hc _ 4 (.int .i64 0))).trans (hc _ 5 (.int .i64 0))).trans (hc _ 6 (.int .i64 0))).trans (hc _ 7 (.int .i64 0))).trans (hc _ 9 (.map none)));refine⟨⟨e10,fun mb e=>(by cases e),fun e=>(by cases e),h.bx⟩,hfr.less fun b hb=>?_⟩;rcases hb with e|e
 ·exact .inl e
 ·cases e
theorem ziM {w0 w:World}{n:Nat}{O:Nat→Ob}(h:Mem w0 w n O){j u:Nat}(hj:j<n){s:SnP}{mv:Option Nat}(he:O j=obN w0.heap.size u s mv) (z0 z1 z2 z3:Int):
  ∃ O',Mem w0 (zhT w u z0 z1 z2 z3) n O'∧O' j=obN w0.heap.size u ⟨z0,z1,z2,z3,0,0,0,0,false,fun _=>none,0⟩ none∧∀ k,k≠j→O' k=O k:=by
 have hat:=h.at_ j hj;rw[he]at hat
 obtain⟨h1,h2⟩:=zc3.close hat z0 z1 z2 z3;exact h.step1 hj (o:=obN w0.heap.size u ⟨z0,z1,z2,z3,0,0,0,0,false,fun _=>none,0⟩ none) (zgf ..) h1 (by rw[he];exact h2) (fun b e=>e.elim)
theorem obs_a {w0 X Y:World}{n:Nat}{O:Nat→Ob}(h:Mem w0 X n O) (hb:Below X X Y) (o:Obj):∃ O',Mem w0 (Y.alloc o) (n+1) O'∧(∀ k,k<n→O' k=O k)∧O' n=obB Y.heap.size o w0.heap.size:=(h.below hb).new1 o
theorem obs_b {w0 X Y:World}{n:Nat}{O:Nat→Ob}(h:Mem w0 X n O) (o:Obj) (hb:Below (X.alloc o).heap.size (X.alloc o) Y):∃ O',Mem w0 Y (n+1) O'∧(∀ k,k<n→O' k=O k)∧O' n=obB X.heap.size o w0.heap.size:=by
 obtain⟨O',h1,h2,h3⟩:=h.new1 o;exact⟨O',h1.below hb,h2,h3⟩
theorem ziw {w:World}{B u x:Nat}{s:SnP}{mv:Option Nat}(h:zc3 w B u s mv) (now:Int) (ho:s.op=false):
  Calls prog 45 #[.pointer (some ⟨u,0,none⟩),.pointer (some ⟨x,0,none⟩),now] w fun e w'=>e=.returned (.tuple #[txZero,.iface 29 (.int .i64 6)])∧Below w w w':=by
 obtain⟨q0,q1,q2,q3,n0,n1,n2,n3,op,m,mn⟩:=s;simp only at ho;subst ho;have hb:=h.blk;simp only at hb;have c8:=zaa hb 8;simp only[zC,zD,zE]at c8;haveI:zaj (u+1) w:=⟨zae hb⟩;clear h hb;go_enter func45,ntmps45;go_wp2_with fail;refine yag (v:=.tuple #[txZero,.iface 29 (.int .i64 6)]) ?_ rfl ⟨rfl,?_⟩
 ·simp[results,results45,go_sem,txZero]
 ·exact zB
theorem zix {w0 w:World}{n:Nat}{O:Nat→Ob}(h:Mem w0 w n O){j x u:Nat}{d:SdP}(hj:j<n) (hd:zdX w0.heap.size u d (O j)) (now:Int) (ho:d.op=true) (hl:zaM d=[]):
  Calls prog 45 #[.pointer (some ⟨u,0,none⟩),.pointer (some ⟨x,0,none⟩),now] w fun e w'=>e=.returned (.tuple #[txZero,.nilIface])∧
   ∃ O',Mem w0 w' n O'∧zdX w0.heap.size u (zaG d) (O' j)∧∀ k,k<n→k≠j→O' k=O k:=by
 have hl':zdJ d.W 8=[]:=hl;obtain⟨s,mv,hou,hsA⟩:=id hd;have hSn:zc3 w w0.heap.size u s mv:=by have:=h.at_ j hj;rw[hou]at this;exact this
 have hsop:s.op=true:=by rw[hsA.rep.op];exact ho
 obtain⟨mb,rfl⟩:∃ mb,mv=some mb:=by
  cases mv with
  | none=>exact absurd rfl (hSn.opn hsop)
  | some mb=>exact⟨mb,rfl⟩
 have HKA:=zac (zgn hsA hsop);have HKL:=zac (ziW hsA hsop);have HDM:=zac (hsA.dom hsop);have hq:=hsA.rep.q;have hn:=hsA.rep.n;have hmn:=hsA.rep.mn hsop;have hll:=zd8 d.W 8;have HSA:=zac hsA;obtain⟨q0,q1,q2,q3,n0,n1,n2,n3,op,m,mn⟩:=s;obtain⟨q0',q1',q2',q3',n0',n1',n2',n3',op',W⟩:=d;simp only at hsop ho hq hn hmn hll;obtain⟨rfl,rfl,rfl,rfl⟩:=hq;obtain⟨rfl,rfl,rfl,rfl⟩:=hn;subst hsop ho;have hb:=hSn.blk;simp only at hb;have hmp:=(hSn.mp mb rfl).1;simp only at hmp;have c0:=zaa hb 0;have c1:=zaa hb 1;have c2:=zaa hb 2;have c3:=zaa hb 3;have c4:=zaa hb 4;have c5:=zaa hb 5;have c6:=zaa hb 6;have c7:=zaa hb 7;have c8:=zaa hb 8;have c9:=zaa hb 9;simp only[zC,zD,zE]at c0 c1 c2 c3 c4 c5 c6 c7 c8 c9;haveI:zaj (u+1) w:=⟨zae hb⟩;have HM:=zac h;have HOU:=zac hou;have HBK:=zac hb;have HLB:=zac (zae hb);have HMP:=zac hmp;have HMX:=zac fun X=>zeC q0 q1 q2 q3 n0 n1 n2 n3 X
 have HJ:=zac hj;have hmn0:mn=0:=by rw[hmn,show zdJ W 8=[]from hl'];rfl
 subst hmn0;clear h hd hou hb hSn hsA hmp hl hl' hmn hll hj;go_enter func45,ntmps45;go_upto_region 3 with fail;obtain⟨O1,hm1,ho1,hn1⟩:=HM.out.new1 t9;have HM1:=zac hm1;have HO1:=zac ho1;have HN1:=zac hn1;clear hm1 ho1 hn1;go_cut [8] (fun s8 Y=>∃ b8,s8=.pointer (some ⟨b8,0,none⟩)∧∃ O2,Mem w0 Y (n+2) O2∧(∀ k,k<n→O2 k=O k)∧O2 n=obB w.heap.size t9 w0.heap.size∧O2 (n+1)=obB b8 (.cells #[.int .i64 (max q0 n0),.int .i64 (max q1 n1),.int .i64 (max q2 n2),.int .i64 (max q3 n3)] 32) w0.heap.size∧Below w w Y)
 case first=>
  go_region_with (
   go_at_call 87;refine(HMX.out _).mono ?_;rintro e w3 ⟨rfl,hb3⟩;obtain⟨x3,rfl⟩:=zad hb3;clear hb3)
  all_goals
   go_wp2_with fail;go_meet
   first
    | (obtain⟨O2,k1,k2,k3⟩:=obs_a HM1.out (show Below (w.alloc t9).heap.size (w.alloc t9) (zai (w.alloc t9).drew x3)from zaD (ya2 (yaf _ _))) (.cells #[.int .i64 (max q0 n0),.int .i64 (max q1 n1),.int .i64 (max q2 n2),.int .i64 (max q3 n3)] 32)
       refine⟨_,rfl,O2,k1,fun k hk=>(k2 k zO).trans (HO1.out k hk),(k2 n zO).trans HN1.out,?_,?_⟩
       ·rw[k3];simp
       ·exact zal (zaD (ya2 (zal (yaf _ _)))))
    | (obtain⟨O2,k1,k2,k3⟩:=obs_b HM1.out (.cells #[.int .i64 (max q0 n0),.int .i64 (max q1 n1),.int .i64 (max q2 n2),.int .i64 (max q3 n3)] 32) (show Below ((w.alloc t9).alloc (.cells #[.int .i64 (max q0 n0),.int .i64 (max q1 n1),.int .i64 (max q2 n2),.int .i64 (max q3 n3)] 32)).heap.size ((w.alloc t9).alloc (.cells #[.int .i64 (max q0 n0),.int .i64 (max q1 n1),.int .i64 (max q2 n2),.int .i64 (max q3 n3)] 32)) (zai ((w.alloc t9).alloc (.cells #[.int .i64 (max q0 n0),.int .i64 (max q1 n1),.int .i64 (max q2 n2),.int .i64 (max q3 n3)] 32)).drew x3)from zaD (ya2 (yaf _ _)))
       refine⟨_,rfl,O2,k1,fun k hk=>(k2 k zO).trans (HO1.out k hk),(k2 n zO).trans HN1.out,?_,?_⟩
       ·rw[k3];simp
       ·exact zaD (ya2 (zal (zal (yaf _ _)))))
    | fail
 case rest=>
  obtain⟨b8,rfl,O2,hm2,ho2,hA2,hC2,hb2⟩:=hcut;have HM2:=zac hm2;have HO2:=zac ho2;have HA2:=zac hA2;have HC2:=zac hC2;have HB2:=zac hb2;clear hm2 ho2 hA2 hC2 hb2 HM1 HO1 HN1 HMX c0 c1 c2 c3 c4 c5 c6 c7 c8 c9;have hat:=HM2.out.at_ j (by have:=HJ.out;omega);rw[HO2.out j HJ.out,HOU.out]at hat
  have HSN:=zac (show zc3 wc w0.heap.size u _ (some mb)from hat);have hbk:=HSN.out.blk;have hmp:=(HSN.out.mp mb rfl).1;simp only at hbk hmp;have HMP:=zac hmp;have hlen:=(hmp.below (show Below wc wc (wc.alloc t9)from zal (yaf _ _))).len 3;unfold t9 at hlen;have hx8:=HM2.out.box (i:=n+1) zO HC2.out;have hx6:=HM2.out.box (i:=n) zO HA2.out;unfold t9 at hx6;have c0:=zaa hbk 0;have c1:=zaa hbk 1;have c2:=zaa hbk 2;have c3:=zaa hbk 3;have c4:=zaa hbk 4;have c5:=zaa hbk 5;have c6:=zaa hbk 6;have c7:=zaa hbk 7;have c8:=zaa hbk 8;have c9:=zaa hbk 9;simp only[zC,zD,zE]at c0 c1 c2 c3 c4 c5 c6 c7 c8 c9;have z0:=zab hbk 0;have z1:=zab hbk 1;have z2:=zab hbk 2;have z3:=zab hbk 3;have z4:=zab hbk 4;have z5:=zab hbk 5;have z6:=zab hbk 6;have z7:=zab hbk 7;have z8:=zab hbk 8;have z9:=zab hbk 9;have y0:=zaa hx8 0;have y1:=zaa hx8 1;have y2:=zaa hx8 2;have y3:=zaa hx8 3;simp only[zC,zD,zE]at y0 y1 y2 y3;have f0:=zab hx8 0;have f1:=zab hx8 1;have f2:=zab hx8 2;have f3:=zab hx8 3;have r0:=zab hx6 0;have r1:=zab hx6 1;have r2:=zab hx6 2;have r3:=zab hx6 3;have r4:=zab hx6 4;have r5:=zab hx6 5;have r6:=zab hx6 6;have r7:=zab hx6 7;have r8:=zab hx6 8;have s0:=zaa hx6 0;have s1:=zaa hx6 1;have s2:=zaa hx6 2;have s3:=zaa hx6 3;have s4:=zaa hx6 4;have s5:=zaa hx6 5;have s6:=zaa hx6 6;have s7:=zaa hx6 7;have s8:=zaa hx6 8;simp only[zC,zD,zE]at s0 s1 s2 s3 s4 s5 s6 s7 s8;have HX8c:=zac hx8;have HX6c:=zac hx6;have hluc:=zae hbk;haveI:zaj (u+1) wc:=⟨zae hbk⟩;haveI:zaj (w.heap.size+1) wc:=⟨zae hx6⟩;haveI:zaj (b8+1) wc:=⟨zae hx8⟩;have hn8u:¬(b8=u):=fun e=>(HM2.out.dis j (n+1) (by have:=HJ.out;omega) zO (by have:=HJ.out;omega) u (by rw[HO2.out j HJ.out,HOU.out];exact .inl rfl)).1 (by rw[HC2.out];exact e.symm)
  have hn8u':¬(u=b8):=fun e=>hn8u e.symm
  have hn86:¬(b8=w.heap.size):=fun e=>(HM2.out.dis n (n+1) zO zO zO w.heap.size (by rw[HA2.out];exact rfl)).1 (by rw[HC2.out];exact e.symm)
  have hn86':¬(w.heap.size=b8):=fun e=>hn86 e.symm
  have hn6:¬(w.heap.size=u):=fun e=>by have:=HLB.out;omega
  have hn6':¬(u=w.heap.size):=fun e=>hn6 e.symm
  clear hat hbk hmp hx8 hx6;go_wp2_with fail;refine yag (v:=.tuple #[txZero,.nilIface]) ?r1 rfl ⟨?e1,?e2⟩
  case r1=>simp[results,results45,go_sem,txZero, *]
  case e1=>exact rfl
  case e2=>
   obtain⟨O3,k1,k2,k3⟩:=ziM HM2.out (j:=j) (by have:=HJ.out;omega) ((HO2.out j HJ.out).trans HOU.out) (max q0 n0) (max q1 n1) (max q2 n2) (max q3 n3);obtain⟨O4,l1,l2,l3⟩:=k1.fill9' (i:=n) zO ((k3 n (by have:=HJ.out;omega)).trans HA2.out) (.int .i64 0) (.int .i64 0) (.int .i64 0) (.int .i64 0) (.int .i64 0) (.int .i64 0) (.int .i64 0) (.int .i64 0) (.slice none 0 0);have l4:=(l1.below (w':=(zcx _ _ _ _ _ _ _ _ _ _ _).alloc t9) (zal (yaf _ _))).less (show n≤n+2 by omega);unfold zcx zhT t9 at l4;exact⟨O4,l4,⟨_,none,(l3 j (by have:=HJ.out;omega)).trans k2,HSA.out.abort⟩,fun k hk hne=>(l3 k zO).trans ((k3 k hne).trans (HO2.out k hk))⟩
end Go.Proofs.YtbopfhbeegkkaabGreatDoor
