/- Part 25 of a proof: lemmas and contracts that other parts use. -/
import Derived.Test.YtbopfhbeegkkaabGreatDoorWp24
import Derived.Test.YtbopfhbeegkkaabGreatDoorWp20
import Derived.Test.YtbopfhbeegkkaabGreatDoorWp19
import Derived.Test.YtbopfhbeegkkaabGreatDoorWp22
import Derived.Test.YtbopfhbeegkkaabGreatDoorWp16
import Derived.Test.YtbopfhbeegkkaabGreatDoorWp23
set_option linter.unusedVariables false
set_option linter.unusedSimpArgs false
set_option linter.constructorNameAsVariable false
set_option maxHeartbeats 16000000
set_option maxRecDepth 20000
namespace Go.Proofs.YtbopfhbeegkkaabGreatDoor
open Go.RowKit Go.Proofs.Tryz
theorem ziv {w0 w:World}{n:Nat}{O:Nat→Ob}(h:Mem w0 w n O){i j x u:Nat}{a:RSi}{d:SdP}(hi:i<n) (hj:j<n) (hij:i≠j) (hr:zdq w0.heap.size x a (O i)) (hd:zdX w0.heap.size u d (O j)) (now:Int) (ho:d.op=true) (hl:zaM d≠[]) (E:Int) (hE:za5 a now d.n0 d.n1 d.n2 d.n3 (zaM d)=E) (T:TxP) (hT:za9 a now d.n0 d.n1 d.n2 d.n3 (zaM d)=T) (hts:0≤T.site∧T.site<4):
  Calls prog 45 #[.pointer (some ⟨u,0,none⟩),.pointer (some ⟨x,0,none⟩),now] w fun e w'=>
   (E≠0→e=.returned (.tuple #[txZero,zbT E])∧Below w w w')∧
   (E=0→∃ b' c',e=.returned (.tuple #[MTx.val ⟨T,some ⟨b',0,none⟩,c'⟩,.nilIface])∧
     ∃ O',Mem w0 w' (n+1) O'∧O' n=zcQ (some ⟨b',0,none⟩) T.ws∧zdq w0.heap.size x (zcc a T) (O' i)∧zdX w0.heap.size u (zg5 (zaG d) T.site T.seq) (O' j)∧∀ k,k<n→k≠i→k≠j→O' k=O k):=by
 have HR:=zac hr;obtain⟨s,mv,hou,hsA⟩:=id hd;have hSn:zc3 w w0.heap.size u s mv:=by have:=h.at_ j hj;rw[hou]at this;exact this
 have hsop:s.op=true:=by rw[hsA.rep.op];exact ho
 obtain⟨mb,rfl⟩:∃ mb,mv=some mb:=by
  cases mv with
  | none=>exact absurd rfl (hSn.opn hsop)
  | some mb=>exact⟨mb,rfl⟩
 have HKA:=zac (zgn hsA hsop);have HKL:=zac (ziW hsA hsop);have HDM:=zac (hsA.dom hsop);have hq:=hsA.rep.q;have hn:=hsA.rep.n;have hmn:=hsA.rep.mn hsop;have hll:=zd8 d.W 8;have HSA:=zac hsA;obtain⟨q0,q1,q2,q3,n0,n1,n2,n3,op,m,mn⟩:=s;obtain⟨q0',q1',q2',q3',n0',n1',n2',n3',op',W⟩:=d;simp only at hsop ho hq hn hmn hll;obtain⟨rfl,rfl,rfl,rfl⟩:=hq;obtain⟨rfl,rfl,rfl,rfl⟩:=hn;subst hsop ho;have hb:=hSn.blk;simp only at hb;have hmp:=(hSn.mp mb rfl).1;simp only at hmp;have c0:=zaa hb 0;have c1:=zaa hb 1;have c2:=zaa hb 2;have c3:=zaa hb 3;have c4:=zaa hb 4;have c5:=zaa hb 5;have c6:=zaa hb 6;have c7:=zaa hb 7;have c8:=zaa hb 8;have c9:=zaa hb 9;simp only[zC,zD,zE]at c0 c1 c2 c3 c4 c5 c6 c7 c8 c9;haveI:zaj (u+1) w:=⟨zae hb⟩;have HM:=zac h;have HOU:=zac hou;have HBK:=zac hb;have HLB:=zac (zae hb);have HMP:=zac hmp;have HMX:=zac fun X=>zeC q0 q1 q2 q3 n0 n1 n2 n3 X
 have HJ:=zac hj;have HAL:=zac (show(zci m).filterMap m=zaM ⟨q0,q1,q2,q3,n0,n1,n2,n3,true,W⟩from HKA.out);have dl:0<mn:=by
  refine Nat.pos_of_ne_zero fun e=>hl ?_
  rw[←HAL.out,yan (HKL.out.trans e)];rfl
 have hm8:mn≤8:=by rw[hmn];exact hll
 simp only at hE hT;have HET:=zac (And.intro hE hT);have HTS:=zac hts;have HLN:=zac hl;clear h hr hd hou hb hSn hsA hmp hl hmn hll hE hT hts HKA;generalize zaM ⟨q0,q1,q2,q3,n0,n1,n2,n3,true,W⟩=l at *;go_enter func45,ntmps45;go_upto_region 3 with fail;obtain⟨O1,hm1,ho1,hn1⟩:=HM.out.new1 t9;have HM1:=zac hm1;have HO1:=zac ho1;have HN1:=zac hn1;clear hm1 ho1 hn1;go_cut [8] (fun s8 Y=>∃ b8,s8=.pointer (some ⟨b8,0,none⟩)∧∃ O2,Mem w0 Y (n+2) O2∧(∀ k,k<n→O2 k=O k)∧O2 n=obB w.heap.size t9 w0.heap.size∧O2 (n+1)=obB b8 (.cells #[ii (max q0 n0),ii (max q1 n1),ii (max q2 n2),ii (max q3 n3)] 32) w0.heap.size∧Below w w Y)
 case first=>
  go_region_with (
   go_at_call 87;refine(HMX.out _).mono ?_;rintro e w3 ⟨rfl,hb3⟩;obtain⟨x3,rfl⟩:=zad hb3;clear hb3)
  all_goals
   go_wp2_with fail;go_meet
   first
    | (obtain⟨O2,k1,k2,k3⟩:=obs_a HM1.out (show Below (w.alloc t9).heap.size (w.alloc t9) (zai (w.alloc t9).drew x3)from zaD (ya2 (yaf _ _))) (.cells #[ii (max q0 n0),ii (max q1 n1),ii (max q2 n2),ii (max q3 n3)] 32)
       refine⟨_,rfl,O2,k1,fun k hk=>(k2 k zO).trans (HO1.out k hk),(k2 n zO).trans HN1.out,?_,?_⟩
       ·rw[k3];simp
       ·exact zal (zaD (ya2 (zal (yaf _ _)))))
    | (obtain⟨O2,k1,k2,k3⟩:=obs_b HM1.out (.cells #[ii (max q0 n0),ii (max q1 n1),ii (max q2 n2),ii (max q3 n3)] 32) (show Below ((w.alloc t9).alloc (.cells #[ii (max q0 n0),ii (max q1 n1),ii (max q2 n2),ii (max q3 n3)] 32)).heap.size ((w.alloc t9).alloc (.cells #[ii (max q0 n0),ii (max q1 n1),ii (max q2 n2),ii (max q3 n3)] 32)) (zai ((w.alloc t9).alloc (.cells #[ii (max q0 n0),ii (max q1 n1),ii (max q2 n2),ii (max q3 n3)] 32)).drew x3)from zaD (ya2 (yaf _ _)))
       refine⟨_,rfl,O2,k1,fun k hk=>(k2 k zO).trans (HO1.out k hk),(k2 n zO).trans HN1.out,?_,?_⟩
       ·rw[k3];simp
       ·exact zaD (ya2 (zal (zal (yaf _ _)))))
    | fail
 case rest=>
  obtain⟨b8,rfl,O2,hm2,ho2,hA2,hC2,hb2⟩:=hcut;have HM2:=zac hm2;have HO2:=zac ho2;have HA2:=zac hA2;have HC2:=zac hC2;have HB2:=zac hb2;clear hm2 ho2 hA2 hC2 hb2 HM1 HO1 HN1 HMX c0 c1 c2 c3 c4 c5 c6 c7 c8 c9;have hat:=HM2.out.at_ j (by have:=HJ.out;omega);rw[HO2.out j HJ.out,HOU.out]at hat
  have HSN:=zac (show zc3 wc w0.heap.size u _ (some mb)from hat);have hbk:=HSN.out.blk;have hmp:=(HSN.out.mp mb rfl).1;simp only at hbk hmp;have HMP:=zac hmp;have hlen:=(hmp.below (show Below wc wc (wc.alloc t9)from zal (yaf _ _))).len 3;unfold t9 at hlen;have hx8:=HM2.out.box (i:=n+1) zO HC2.out;have hx6:=HM2.out.box (i:=n) zO HA2.out;unfold t9 at hx6;have c0:=zaa hbk 0;have c1:=zaa hbk 1;have c2:=zaa hbk 2;have c3:=zaa hbk 3;have c4:=zaa hbk 4;have c5:=zaa hbk 5;have c6:=zaa hbk 6;have c7:=zaa hbk 7;have c8:=zaa hbk 8;have c9:=zaa hbk 9;simp only[zC,zD,zE]at c0 c1 c2 c3 c4 c5 c6 c7 c8 c9;have z0:=zab hbk 0;have z1:=zab hbk 1;have z2:=zab hbk 2;have z3:=zab hbk 3;have z4:=zab hbk 4;have z5:=zab hbk 5;have z6:=zab hbk 6;have z7:=zab hbk 7;have z8:=zab hbk 8;have z9:=zab hbk 9;have y0:=zaa hx8 0;have y1:=zaa hx8 1;have y2:=zaa hx8 2;have y3:=zaa hx8 3;simp only[zC,zD,zE]at y0 y1 y2 y3;have f0:=zab hx8 0;have f1:=zab hx8 1;have f2:=zab hx8 2;have f3:=zab hx8 3;have r0:=zab hx6 0;have r1:=zab hx6 1;have r2:=zab hx6 2;have r3:=zab hx6 3;have r4:=zab hx6 4;have r5:=zab hx6 5;have r6:=zab hx6 6;have r7:=zab hx6 7;have r8:=zab hx6 8;have s0:=zaa hx6 0;have s1:=zaa hx6 1;have s2:=zaa hx6 2;have s3:=zaa hx6 3;have s4:=zaa hx6 4;have s5:=zaa hx6 5;have s6:=zaa hx6 6;have s7:=zaa hx6 7;have s8:=zaa hx6 8;simp only[zC,zD,zE]at s0 s1 s2 s3 s4 s5 s6 s7 s8;have HX8c:=zac hx8;have HX6c:=zac hx6;have hluc:=zae hbk;haveI:zaj (u+1) wc:=⟨zae hbk⟩;haveI:zaj (w.heap.size+1) wc:=⟨zae hx6⟩;haveI:zaj (b8+1) wc:=⟨zae hx8⟩;have hn8u:¬(b8=u):=fun e=>(HM2.out.dis j (n+1) (by have:=HJ.out;omega) zO (by have:=HJ.out;omega) u (by rw[HO2.out j HJ.out,HOU.out];exact .inl rfl)).1 (by rw[HC2.out];exact e.symm)
  have hn8u':¬(u=b8):=fun e=>hn8u e.symm
  have hn86:¬(b8=w.heap.size):=fun e=>(HM2.out.dis n (n+1) zO zO zO w.heap.size (by rw[HA2.out];exact rfl)).1 (by rw[HC2.out];exact e.symm)
  have hn86':¬(w.heap.size=b8):=fun e=>hn86 e.symm
  have hn6:¬(w.heap.size=u):=fun e=>by have:=HLB.out;omega
  have hn6':¬(u=w.heap.size):=fun e=>hn6 e.symm
  clear hat hbk hmp hx8 hx6;have hsc:=zjo (w:=wc.alloc t9) (HMP.out.below (show Below wc wc (wc.alloc t9)from zal (yaf _ _))) zO HDM.out;rw[ya8]at hsc;have HSC:=zac hsc;have HKC:=zac (zmV (some mb) (wc.alloc t9));obtain⟨O3,hm3,ho3,hn3⟩:=HM2.out.new1 t9;have HM3:=zac hm3;have HO3:=zac ho3;have HN3:=zac hn3;clear hsc hm3 ho3 hn3;unfold t9 at HKC HSC;go_wp2_with fail;go_at_call 99;refine HKC.out.mono ?_;rintro e w4 ⟨rfl,rfl⟩;rw[ya8];go_wp2_with fail;go_at_call 98;refine HSC.out.mono ?_;rintro e w5 ⟨vk,rfl,hrow,hb5⟩;obtain⟨Ak,ck,rfl⟩:=zaP hrow;have HM5:=zac (HM3.out.below (hb5.mono (by rw[ya8];exact yai _)));have HROW:=zac hrow;have HB5:=zac (HB2.out.trans ((show Below wc wc (wc.alloc t9)from zal (yaf _ _)).trans (hb5.mono (Nat.le_succ _)) |>.mono HB2.out.size));clear hrow hb5 HSC HKC c0 c1 c2 c3 c4 c5 c6 c7 c8 c9 z0 z1 z2 z3 z4 z5 z6 z7 z8 z9 y0 y1 y2 y3 f0 f1 f2 f3 r0 r1 r2 r3 r4 r5 r6 r7 r8 s0 s1 s2 s3 s4 s5 s6 s7 s8 hlen HMP HSN;go_wp2_with fail;have HKS:=zac (zgm m);have HAT5:Hid (∀ X:World,Below w5 w5 X→zc3 X w0.heap.size u ⟨q0,q1,q2,q3,n0,n1,n2,n3,true,m,mn⟩ (some mb)):=zac (fun X hb=>by
   have:=(HM5.out.below hb).at_ j (by have:=HJ.out;omega);rw[HO3.out j (by have:=HJ.out;omega),HO2.out j HJ.out,HOU.out]at this;exact this)
  go_loopw [10,43] (fun o i X=>∃ (k:Nat) (Ao:Option Addr) (co:Nat),k≤(zci m).length∧i=ii k∧o=.slice Ao (((zci m).take k).filterMap m).length co∧X.ownsRow w5.heap.size 83 3 (.slice Ao (((zci m).take k).filterMap m).length co) (((zci m).take k).filterMap m).length ((((zci m).take k).filterMap m).flatMap wcs)∧Below w5 w5 X) (fun _ i _=>(zci m).length-(Go.RowKit.intOf i).toNat)
  case atStart=>exact⟨0,none,0,yay _,rfl,rfl,⟨rfl,.inl ⟨rfl,rfl⟩⟩,yaf _ _⟩
  case round=>
   obtain⟨k,Ao,co,hk,rfl,rfl,hown,hbl⟩:=hrel;obtain⟨X,rfl⟩:∃ X:World,X=wr:=⟨_,rfl⟩;have HOW:=zac hown;have HBW:=zac hbl;clear hown hbl;have hsn:=HAT5.out X HBW.out;have hbk:=hsn.blk;have hmp:=(hsn.mp mb rfl).1;simp only at hbk hmp;have c0:=zaa hbk 0;have c1:=zaa hbk 1;have c2:=zaa hbk 2;have c3:=zaa hbk 3;have c4:=zaa hbk 4;have c5:=zaa hbk 5;have c6:=zaa hbk 6;have c7:=zaa hbk 7;have c8:=zaa hbk 8;have c9:=zaa hbk 9;simp only[zC,zD,zE]at c0 c1 c2 c3 c4 c5 c6 c7 c8 c9;haveI:zaj (u+1) X:=⟨zae hbk⟩;have HMPX:=zac hmp;clear hsn hbk hmp;have hk9:k≤8:=by have:=HKL.out;omega
   by_cases hkl:k<(zci m).length
   ·have hkey:=yaw hkl
    obtain⟨kk,hkk⟩:∃ kk,(zci m)[k]=kk:=⟨_,rfl⟩;rw[hkk]at hkey;obtain⟨hk7,hsome⟩:=(HKS.out kk).1 hkey;obtain⟨xw,hxw⟩:=ybX.1 hsome;have HSUC:Hid (((zci m).take (k+1)).filterMap m=((zci m).take k).filterMap m++[xw]):=zac (by
     rw[ycd,yaa hkl,hkk];simp[hxw])
    have hq:(zci m)[k]?=some kk:=by rw[yaa hkl,hkk]
    have hlk:=HMPX.out.look1 (k:=kk) ⟨zO,zO⟩ hxw;have hol:(((zci m).take k).filterMap m).length≤8:=yac (ybW _ _) (by rw[yaL];have:=HKL.out;omega);obtain⟨g,hAk⟩:∃ g,Ak=some ⟨g,0,none⟩:=by
     rcases HROW.out.2 with ⟨_,h0⟩|⟨g,cap,cur,hv,_⟩
     ·omega
     ·exact⟨g,(Value.slice.inj hv).1⟩
    subst hAk;have hgl:=(zao HROW.out (k:=g) rfl).2;have hkc:X.cell? ⟨g,k,none⟩=some (ii kk):=by
     have:=HROW.out.cells (g:=g) rfl k (ii kk) (by rw[yby,hq];rfl);rw[show(⟨g,0,none⟩:Addr).add k=⟨g,0+k,none⟩by unfold Addr.add;split <;> simp_all,yaZ]at this;exact(HBW.out.cell (p:=⟨g,k,none⟩) hgl).trans this
    obtain⟨xk,xd,xg⟩:=xw;unfold WrP.val at hlk;simp only at hlk;have HXW:=zac hxw;generalize hO:((zci m).take k).filterMap m=outs at *;have HOE:=zac hO;clear hO hkk hkey hsome hxw hq hk7;have hsz:=HBW.out.size;go_wp2_with (at_builtin;go_must (refine zdA _ rfl (.tmp 47) (.tmp 54) rfl w5.heap.size (.slice Ao outs.length co) outs.length outs rfl (HOW.out.alloc _) (some ⟨X,0,none⟩) 1 [⟨xk,xd,xg⟩] ?c1 (zj6 (m:=⟨xk,xd,xg⟩) (zag rfl _)) ?c2 ?c3 rfl ?_))
    case c1=>first|rfl|simp[Act.eval,Act.put]
    case c2=>show outs.length+1≤1000;omega
    case c3=>first|omega|(simp;omega)
    intro A6 c6 w6 hown6 hgrow6 hat6;have HN6:=zac hown6;have HB6:Hid (Below w5 w5 w6):=zac (yaE HBW.out (zau hgrow6) HBW.out.size (fun j e=>(zao HOW.out e).1));clear hown6 hgrow6 hat6;go_wp2_with fail;go_roundw
    case rel=>exact⟨k+1,A6,c6,zO,by go_num,by rw[HSUC.out] <;> simp,by rw[HSUC.out];have h1:=HN6.out;simpa[yaJ]using h1,HB6.out⟩
    case measure=>simp[Go.RowKit.intOf] <;> omega
   ·have he:((zci m).take k).filterMap m=l:=by rw[yb6 zO];exact HAL.out
    rw[he]at HOW ⊢;have HWX:=zac (zjy HOW.out);have HL8:Hid (l.length≤8):=zac (by rw[←HAL.out];exact yac (ybW _ _) (by have:=HKL.out;omega));have HMX5:=zac (HM5.out.below HBW.out);have HBX:=zac (HB5.out.trans (HBW.out.mono HB5.out.size));clear he HKS HOW HMPX;have hx8:=HMX5.out.box (i:=n+1) zO ((HO3.out (n+1) zO).trans HC2.out);have hx6:=HMX5.out.box (i:=n) zO ((HO3.out n zO).trans HA2.out);have hx9:=HMX5.out.box (i:=n+2) zO HN3.out;unfold t9 at hx6 hx9;have y0:=zaa hx9 0;have y1:=zaa hx9 1;have y2:=zaa hx9 2;have y3:=zaa hx9 3;have y4:=zaa hx9 4;have y5:=zaa hx9 5;have y6:=zaa hx9 6;have y7:=zaa hx9 7;have y8:=zaa hx9 8;simp only[zC,zD,zE]at y0 y1 y2 y3 y4 y5 y6 y7 y8;have z0:=zab hx9 0;have z1:=zab hx9 1;have z2:=zab hx9 2;have z3:=zab hx9 3;have z4:=zab hx9 4;have z5:=zab hx9 5;have z6:=zab hx9 6;have z7:=zab hx9 7;have z8:=zab hx9 8;have r0:=zab hx6 0;have r1:=zab hx6 1;have r2:=zab hx6 2;have r3:=zab hx6 3;have r4:=zab hx6 4;have r5:=zab hx6 5;have r6:=zab hx6 6;have r7:=zab hx6 7;have r8:=zab hx6 8;have s0:=zaa hx6 0;have s1:=zaa hx6 1;have s2:=zaa hx6 2;have s3:=zaa hx6 3;have s4:=zaa hx6 4;have s5:=zaa hx6 5;have s6:=zaa hx6 6;have s7:=zaa hx6 7;have s8:=zaa hx6 8;simp only[zC,zD,zE]at s0 s1 s2 s3 s4 s5 s6 s7 s8;haveI:zaj (w.heap.size+1) X:=⟨zae hx6⟩;haveI:zaj (wc.heap.size+1) X:=⟨zae hx9⟩;have hatX:=HMX5.out.at_ i zO;rw[HO3.out i zO,HO2.out i hi]at hatX;have HRC:=zac (HR.out.commit hatX now n0 n1 n2 n3 Ao co l HWX.out (by have:=HL8.out;omega));rw[HET.out.1,HET.out.2]at HRC;have HX9:=zac hx9;have HX6:=zac hx6;have HX8:=zac hx8;clear hx8 hx6 hx9 hatX;have hnl:¬(k<(zci m).length):=hkl;have hl6:=(zae HX6c.out);have hl8:=(zae HX8c.out);have hn69:¬(w.heap.size=wc.heap.size):=by omega
    have hn96:¬(wc.heap.size=w.heap.size):=by omega
    have hn89:¬(b8=wc.heap.size):=by omega
    have hn98:¬(wc.heap.size=b8):=by omega
    have hn9u:¬(wc.heap.size=u):=by omega
    have hnu9:¬(u=wc.heap.size):=by omega
    go_wp2_with fail;go_at_call 15;refine HRC.out.mono ?_;rintro e w6 ⟨g1,g2⟩;have HG1:=zac g1;have HG2:=zac g2;clear g1 g2 HRC c0 c1 c2 c3 c4 c5 c6 c7 c8 c9 y0 y1 y2 y3 y4 y5 y6 y7 y8 z0 z1 z2 z3 z4 z5 z6 z7 z8 r0 r1 r2 r3 r4 r5 r6 r7 r8 s0 s1 s2 s3 s4 s5 s6 s7 s8;by_cases hE0:E=0
    case neg=>
     obtain⟨rfl,hb3⟩:=HG1.out hE0;have hev:zbT E=.iface 29 (ii E):=by unfold zbT;rw[yad hE0]
     rw[hev];have hx9:=(hb3.block _ (zae HX9.out)).trans HX9.out;have hx6:=(hb3.block _ (zae HX6.out)).trans HX6.out;have HB3:=zac (HBX.out.trans (hb3.mono HBX.out.size));have y0:=zaa hx9 0;have y1:=zaa hx9 1;have y2:=zaa hx9 2;have y3:=zaa hx9 3;have y4:=zaa hx9 4;have y5:=zaa hx9 5;have y6:=zaa hx9 6;have y7:=zaa hx9 7;have y8:=zaa hx9 8;simp only[zC,zD,zE]at y0 y1 y2 y3 y4 y5 y6 y7 y8;have z0:=zab hx9 0;have z1:=zab hx9 1;have z2:=zab hx9 2;have z3:=zab hx9 3;have z4:=zab hx9 4;have z5:=zab hx9 5;have z6:=zab hx9 6;have z7:=zab hx9 7;have z8:=zab hx9 8;have r0:=zab hx6 0;have r1:=zab hx6 1;have r2:=zab hx6 2;have r3:=zab hx6 3;have r4:=zab hx6 4;have r5:=zab hx6 5;have r6:=zab hx6 6;have r7:=zab hx6 7;have r8:=zab hx6 8;have s0:=zaa hx6 0;have s1:=zaa hx6 1;have s2:=zaa hx6 2;have s3:=zaa hx6 3;have s4:=zaa hx6 4;have s5:=zaa hx6 5;have s6:=zaa hx6 6;have s7:=zaa hx6 7;have s8:=zaa hx6 8;simp only[zC,zD,zE]at s0 s1 s2 s3 s4 s5 s6 s7 s8;haveI:zaj (w.heap.size+1) w6:=⟨zae hx6⟩;haveI:zaj (wc.heap.size+1) w6:=⟨zae hx9⟩;have hle9:w.heap.size≤wc.heap.size:=HB2.out.size;clear hx9 hx6 hb3 HG1 HG2;unfold txZero;go_wp2_with fail;refine yag (v:=.tuple #[txZero,.iface 29 (ii E)]) ?_ rfl ⟨fun _=>⟨by rw[hev],?_⟩,fun e=>absurd e hE0⟩
     ·simp[results,results45,go_sem,txZero, *]
     ·(repeat refine zfh ?_ zO);exact HB3.out
    case pos=>
     subst hE0;clear HG1;obtain⟨b',c',rfl,hb1,hw3,o',hs3,hat3,hfr3,hdt3,hno3⟩:=HG2.out rfl;clear HG2;have hb2:b'<w6.heap.size:=by
      have hTw:T.ws=l:=by rw[←HET.out.2];rfl
      obtain⟨x0,l0,hl0⟩:=List.exists_cons_of_ne_nil HLN.out;obtain⟨b,o,e,hlt,_⟩:=hw3 0 x0 (by rw[hTw,hl0];rfl);cases e;exact hlt
     obtain⟨O5,hm5,ho5,hr5⟩:=HMX5.out.step1 (i:=i) (w':=w6) zO (zdq.ok hs3) hat3 (by rw[HO3.out i zO,HO2.out i hi];exact hfr3) (by rw[HO3.out i zO,HO2.out i hi];exact hdt3);have hb2n:∀ k,k<n+3→¬(O5 k).own b':=fun k hk=>by
      by_cases e:k=i
      ·rw[e,ho5];exact hno3
      ·rw[hr5 k e];exact HMX5.out.fresh hk hb1
     obtain⟨O6,hm6,hr6,hn6⟩:=hm5.lend1 (o:=zcQ (some ⟨b',0,none⟩) T.ws) (zjC ..) ⟨hw3,fun b o e=>(by cases e;exact hb2)⟩ (fun b e=>e) (fun b k hk ⟨o,e⟩=>(by cases e;exact hb2n k hk));have HM6:=zac hm6;have HS6:Hid (zdq w0.heap.size x (zcc a T) (O6 i)):=zac (by rw[hr6 i zO,ho5];exact hs3);have HJ6:Hid (O6 j=O j):=zac (by rw[hr6 j zO,hr5 j (Ne.symm hij),HO3.out j zO,HO2.out j hj]);have HQ6:Hid (∀ k,k<n→k≠i→O6 k=O k):=zac (fun k hk hne=>by rw[hr6 k zO,hr5 k hne,HO3.out k zO,HO2.out k hk]);have HA6:Hid (O6 n=obB w.heap.size t9 w0.heap.size):=zac (by rw[hr6 n zO,hr5 n zO,HO3.out n zO];exact HA2.out);have HC6:Hid (O6 (n+1)=obB b8 (.cells #[ii (max q0 n0),ii (max q1 n1),ii (max q2 n2),ii (max q3 n3)] 32) w0.heap.size):=zac (by rw[hr6 (n+1) zO,hr5 (n+1) zO,HO3.out (n+1) zO];exact HC2.out);have HE6:Hid (O6 (n+2)=obB wc.heap.size t9 w0.heap.size):=zac (by rw[hr6 (n+2) zO,hr5 (n+2) zO];exact HN3.out);have HD6:=zac hn6;clear hm5 ho5 hr5 hb2n hm6 hr6 hn6 hs3 hat3 hfr3 hdt3 hno3 hw3 hb1 hb2 HMX5 HM5 HM3 HM2 HO3 HO2 HN3 HA2 HC2 HROW HWX HAT5 HX9 HX6 HX8;obtain⟨ts,tq,tw,tc,e0,e1,e2,e3,tws⟩:=T;have hx9:=HM6.out.box (i:=n+2) zO HE6.out;unfold t9 at hx9;have z0:=zab hx9 0;have z1:=zab hx9 1;have z2:=zab hx9 2;have z3:=zab hx9 3;have z4:=zab hx9 4;have z5:=zab hx9 5;have z6:=zab hx9 6;have z7:=zab hx9 7;have z8:=zab hx9 8;have y0:=zaa hx9 0;have y1:=zaa hx9 1;have y2:=zaa hx9 2;have y3:=zaa hx9 3;have y4:=zaa hx9 4;have y5:=zaa hx9 5;have y6:=zaa hx9 6;have y7:=zaa hx9 7;have y8:=zaa hx9 8;simp only[zC,zD,zE]at y0 y1 y2 y3 y4 y5 y6 y7 y8;haveI:zaj (wc.heap.size+1) w6:=⟨zae hx9⟩;clear hx9;have hev:zbT 0=.nilIface:=rfl;unfold MTx.val;simp only at HTS ⊢;go_upto_region 16 with fail;obtain⟨O7,hm7,hn7,hr7⟩:=HM6.out.fill9' (i:=n+2) zO HE6.out (ii ts) (ii tq) (ii tw) (ii tc) (ii e0) (ii e1) (ii e2) (ii e3) (.slice (some ⟨b',0,none⟩) tws.length c');have HM7:=zac hm7;have HN7:=zac hn7;have HR7:=zac hr7;clear hm7 hn7 hr7 y0 y1 y2 y3 y4 y5 y6 y7 y8 z0 z1 z2 z3 z4 z5 z6 z7 z8;obtain⟨V,hV⟩:∃ V,zcx w6 wc.heap.size (ii ts) (ii tq) (ii tw) (ii tc) (ii e0) (ii e1) (ii e2) (ii e3) (.slice (some ⟨b',0,none⟩) tws.length c')=V:=⟨_,rfl⟩;rw[hV]at HM7;unfold zcx at hV;rw[hV];clear hV;have hatV:=HM7.out.at_ j zO;rw[HR7.out j zO,HJ6.out,HOU.out]at hatV;have HSV:=zac (show zc3 V w0.heap.size u ⟨q0,q1,q2,q3,n0,n1,n2,n3,true,m,mn⟩ (some mb)from hatV);have hbk:=HSV.out.blk;simp only at hbk;have hx9:=HM7.out.box (i:=n+2) zO HN7.out;have hx8:=HM7.out.box (i:=n+1) zO ((HR7.out (n+1) zO).trans HC6.out);have hx6:=HM7.out.box (i:=n) zO ((HR7.out n zO).trans HA6.out);unfold t9 at hx6;have c0:=zaa hbk 0;have c1:=zaa hbk 1;have c2:=zaa hbk 2;have c3:=zaa hbk 3;have c4:=zaa hbk 4;have c5:=zaa hbk 5;have c6:=zaa hbk 6;have c7:=zaa hbk 7;have c8:=zaa hbk 8;have c9:=zaa hbk 9;simp only[zC,zD,zE]at c0 c1 c2 c3 c4 c5 c6 c7 c8 c9;have z0:=zab hbk 0;have z1:=zab hbk 1;have z2:=zab hbk 2;have z3:=zab hbk 3;have z4:=zab hbk 4;have z5:=zab hbk 5;have z6:=zab hbk 6;have z7:=zab hbk 7;have z8:=zab hbk 8;have z9:=zab hbk 9;have y0:=zaa hx9 0;have y1:=zaa hx9 1;have y2:=zaa hx9 2;have y3:=zaa hx9 3;have y4:=zaa hx9 4;have y5:=zaa hx9 5;have y6:=zaa hx9 6;have y7:=zaa hx9 7;have y8:=zaa hx9 8;simp only[zC,zD,zE]at y0 y1 y2 y3 y4 y5 y6 y7 y8;have p0:=zaa hx8 0;have p1:=zaa hx8 1;have p2:=zaa hx8 2;have p3:=zaa hx8 3;simp only[zC,zD,zE]at p0 p1 p2 p3;have f0:=zab hx8 0;have f1:=zab hx8 1;have f2:=zab hx8 2;have f3:=zab hx8 3;have r0:=zab hx6 0;have r1:=zab hx6 1;have r2:=zab hx6 2;have r3:=zab hx6 3;have r4:=zab hx6 4;have r5:=zab hx6 5;have r6:=zab hx6 6;have r7:=zab hx6 7;have r8:=zab hx6 8
     have s0:=zaa hx6 0;have s1:=zaa hx6 1;have s2:=zaa hx6 2;have s3:=zaa hx6 3;have s4:=zaa hx6 4;have s5:=zaa hx6 5;have s6:=zaa hx6 6;have s7:=zaa hx6 7;have s8:=zaa hx6 8;simp only[zC,zD,zE]at s0 s1 s2 s3 s4 s5 s6 s7 s8;haveI:zaj (u+1) V:=⟨zae hbk⟩;haveI:zaj (w.heap.size+1) V:=⟨zae hx6⟩;haveI:zaj (b8+1) V:=⟨zae hx8⟩;haveI:zaj (wc.heap.size+1) V:=⟨zae hx9⟩;clear hatV hbk hx9 hx8 hx6;have hcs:ts=0∨ts=1∨ts=2∨ts=3:=by have:=HTS.out;omega
     clear HTS;have HFIN:Hid (∀ (i9:Nat) (zz:Value) (z0 z1 z2 z3:Int) (Y:World),(⟨z0,z1,z2,z3,0,0,0,0,false,fun _=>none,0⟩:SnP)=snAt (zdt ⟨q0,q1,q2,q3,n0,n1,n2,n3,true,m,mn⟩) ts tq→
       Y=zcx (zhT (V.setCell ⟨b8,i9,none⟩ zz) u z0 z1 z2 z3) w.heap.size (ii ts) (ii tq) (ii tw) (ii tc) (ii e0) (ii e1) (ii e2) (ii e3) (.slice (some ⟨b',0,none⟩) tws.length c')→
       ∃ O',Mem w0 Y (n+1) O'∧O' n=zcQ (some ⟨b',0,none⟩) tws∧zdq w0.heap.size x (zcc a ⟨ts,tq,tw,tc,e0,e1,e2,e3,tws⟩) (O' i)∧zdX w0.heap.size u (zg5 (zaG ⟨q0,q1,q2,q3,n0,n1,n2,n3,true,W⟩) ts tq) (O' j)∧∀ k,k<n→k≠i→k≠j→O' k=O k):=zac (by
      intro i9 zz z0 z1 z2 z3 Y g1 g2;subst g2;have k0:=HM7.out.set (i:=n+1) zO ((HR7.out (n+1) zO).trans HC6.out) i9 zz;obtain⟨O8,k1,k2,k3⟩:=ziM k0 (j:=j) zO (by rw[zah _ zO,HR7.out j zO,HJ6.out];exact HOU.out) z0 z1 z2 z3;obtain⟨O9,l1,l2,l3⟩:=k1.fill9' (i:=n) zO (by rw[k3 n zO,zah _ zO,HR7.out n zO];exact HA6.out) (ii ts) (ii tq) (ii tw) (ii tc) (ii e0) (ii e1) (ii e2) (ii e3) (.slice (some ⟨b',0,none⟩) tws.length c');refine⟨fun k=>O9 (if k=n then n+3 else k),l1.pick (fun k=>if k=n then n+3 else k) (fun k hk=>by split <;> omega) (fun p q hp hq e=>by split at e <;> split at e <;> omega),?_,?_,?_,fun k hk h1 h2=>?_⟩
      ·show O9 (if n=n then n+3 else n)=_
       rw[yaj rfl,l3 _ zO,k3 _ zO,zah _ zO,HR7.out _ zO];exact HD6.out
      ·show zdq _ _ _ (O9 (if i=n then n+3 else i))
       rw[yad zO,l3 _ zO,k3 _ hij,zah _ zO,HR7.out _ zO];exact HS6.out
      ·show zdX _ _ _ (O9 (if j=n then n+3 else j))
       rw[yad zO,l3 _ zO,k2,g1];exact⟨_,none,rfl,HSA.out.abort.at _ _⟩
      ·show O9 (if k=n then n+3 else k)=_
       rw[yad zO,l3 _ zO,k3 _ h2,zah _ zO,HR7.out _ zO];exact HQ6.out k hk h1)
     rcases hcs with rfl|hcs
     ·as_aux_lemma=>
      refine zb9 10 fun x4=>?_
      go_wp2_with fail;refine yag (v:=.tuple #[MTx.val ⟨⟨0,tq,tw,tc,e0,e1,e2,e3,tws⟩,some ⟨b',0,none⟩,c'⟩,.nilIface]) ?r1 rfl ⟨b',⟨c',?e1⟩,?e2⟩
      case r1=>simp[results,results45,go_sem,MTx.val, *]
      case e1=>exact rfl
      case e2=>
       obtain⟨O9,k1,k2⟩:=HFIN.out 0 (ii (max q0 (max n0 tq))) (max q0 (max n0 tq)) (max q1 n1) (max q2 n2) (max q3 n3) _ (by simp[snAt,zdt]) rfl;unfold zcx zhT at k1;exact⟨O9,k1.below (zaD (yaf _ _)),k2⟩
     rcases hcs with rfl|hcs
     ·as_aux_lemma=>
      refine zb9 10 fun x4=>?_
      go_wp2_with fail;refine yag (v:=.tuple #[MTx.val ⟨⟨1,tq,tw,tc,e0,e1,e2,e3,tws⟩,some ⟨b',0,none⟩,c'⟩,.nilIface]) ?r1 rfl ⟨b',⟨c',?e1⟩,?e2⟩
      case r1=>simp[results,results45,go_sem,MTx.val, *]
      case e1=>exact rfl
      case e2=>
       obtain⟨O9,k1,k2⟩:=HFIN.out 1 (ii (max q1 (max n1 tq))) (max q0 n0) (max q1 (max n1 tq)) (max q2 n2) (max q3 n3) _ (by simp[snAt,zdt]) rfl;unfold zcx zhT at k1;exact⟨O9,k1.below (zaD (yaf _ _)),k2⟩
     rcases hcs with rfl|hcs
     ·as_aux_lemma=>
      refine zb9 10 fun x4=>?_
      go_wp2_with fail;refine yag (v:=.tuple #[MTx.val ⟨⟨2,tq,tw,tc,e0,e1,e2,e3,tws⟩,some ⟨b',0,none⟩,c'⟩,.nilIface]) ?r1 rfl ⟨b',⟨c',?e1⟩,?e2⟩
      case r1=>simp[results,results45,go_sem,MTx.val, *]
      case e1=>exact rfl
      case e2=>
       obtain⟨O9,k1,k2⟩:=HFIN.out 2 (ii (max q2 (max n2 tq))) (max q0 n0) (max q1 n1) (max q2 (max n2 tq)) (max q3 n3) _ (by simp[snAt,zdt]) rfl;unfold zcx zhT at k1;exact⟨O9,k1.below (zaD (yaf _ _)),k2⟩
     subst hcs
     ·as_aux_lemma=>
      refine zb9 10 fun x4=>?_
      go_wp2_with fail;refine yag (v:=.tuple #[MTx.val ⟨⟨3,tq,tw,tc,e0,e1,e2,e3,tws⟩,some ⟨b',0,none⟩,c'⟩,.nilIface]) ?r1 rfl ⟨b',⟨c',?e1⟩,?e2⟩
      case r1=>simp[results,results45,go_sem,MTx.val, *]
      case e1=>exact rfl
      case e2=>
       obtain⟨O9,k1,k2⟩:=HFIN.out 3 (ii (max q3 (max n3 tq))) (max q0 n0) (max q1 n1) (max q2 n2) (max q3 (max n3 tq)) _ (by simp[snAt,zdt]) rfl;unfold zcx zhT at k1;exact⟨O9,k1.below (zaD (yaf _ _)),k2⟩
theorem zdQ {w0 w:World}{n:Nat}{O:Nat→Ob}(h:Mem w0 w n O):∃ O',Mem w0 w (n+1) O'∧(∀ k,k<n→O' k=O k)∧O' n=zcQ none []:=
 h.lend1 (zjC ..) ⟨fun i x hx=>(by simp at hx),fun b o e=>(by cases e)⟩ (fun b e=>e) (fun b k hk ⟨o,e⟩=>(by cases e))
theorem zdX.commit {w0 w:World}{n:Nat}{O:Nat→Ob}(h:Mem w0 w n O){i j x u:Nat}{a:RSi}{d:SdP}(hi:i<n) (hj:j<n) (hij:i≠j) (hr:zdq w0.heap.size x a (O i)) (hd:zdX w0.heap.size u d (O j)) (now:Int):
  Calls prog 45 #[.pointer (some ⟨u,0,none⟩),.pointer (some ⟨x,0,none⟩),now] w fun e w'=>
   (zbb d a now≠0→e=.returned (.tuple #[txZero,zbT (zbb d a now)])∧Below w w w')∧
   (zbb d a now=0→∃ A' c',e=.returned (.tuple #[MTx.val ⟨zaT d a now,A',c'⟩,.nilIface])∧
     ∃ O',Mem w0 w' (n+1) O'∧O' n=zcQ A' (zaT d a now).ws∧zdq w0.heap.size x (zbA d a now) (O' i)∧zdX w0.heap.size u (zb8 d a now) (O' j)∧∀ k,k<n→k≠i→k≠j→O' k=O k):=by
 cases ho:d.op with
 | false=>
   have hE:zbb d a now=6:=by unfold zbb;rw[yaj ho]
   obtain⟨s,mv,hou,hs⟩:=hd;have hat:=h.at_ j hj;rw[hou]at hat
   refine(ziw (x:=x) hat now (by rw[hs.rep.op];exact ho)).mono ?_;rintro e w' ⟨rfl,hb⟩;rw[hE];exact⟨fun _=>⟨rfl,hb⟩,fun e=>(by cases e)⟩
 | true=>
   by_cases hl:zaM d=[]
   ·have hE:zbb d a now=0:=by unfold zbb;rw[yad (by rw[ho];simp),yaj hl]
    have hT:zaT d a now=txZP:=by unfold zaT;rw[yaj hl]
    have hS:zbA d a now=a:=by unfold zbA;rw[yaj hl]
    have hD:zb8 d a now=zaG d:=by unfold zb8;rw[yaj hl]
    rw[hE,hT,hS,hD];refine(zix (x:=x) h hj hd now ho hl).mono ?_;rintro e w' ⟨rfl,O1,h1,h2,h3⟩;refine⟨fun e=>absurd rfl e,fun _=>⟨none,0,rfl,?_⟩⟩;obtain⟨O2,k1,k2,k3⟩:=zdQ h1;exact⟨O2,k1,k3,by rw[k2 i hi,h3 i hi hij];exact hr,by rw[k2 j hj];exact h2,fun k hk e1 e2=>(k2 k hk).trans (h3 k hk e2)⟩
   ·have hE:zbb d a now=za5 a now d.n0 d.n1 d.n2 d.n3 (zaM d):=by unfold zbb;rw[yad (by rw[ho];simp),yad hl]
    have hT:zaT d a now=za9 a now d.n0 d.n1 d.n2 d.n3 (zaM d):=by unfold zaT;rw[yad hl]
    have hS:zbA d a now=zcc a (zaT d a now):=by unfold zbA;rw[yad hl]
    have hD:zb8 d a now=zg5 (zaG d) (zaT d a now).site (zaT d a now).seq:=by unfold zb8;rw[yad hl]
    have hid:0≤a.id∧a.id<4:=by
     obtain⟨mb,s,lv,sv,_,hf,_⟩:=hr;rw[←hf.rep.id];exact hf.inv.id
    rw[hS,hD];refine(ziv h hi hj hij hr hd now ho hl _ hE.symm _ hT.symm (by rw[hT];exact hid)).mono ?_;rintro e w' ⟨g1,g2⟩;exact⟨g1,fun h=>by obtain⟨b',c',h1⟩:=g2 h;exact⟨_,c',h1⟩⟩
theorem zeA.commit {w0 w:World}{n:Nat}{O:Nat→Ob}(h:Mem w0 w n O){i j y v:Nat}{a:RSi}{d:SdP}(hi:i<n) (hj:j<n) (hij:i≠j) (hr:zcM w0.heap.size y a (O i)) (hd:zeA w0.heap.size v d (O j)) (hn:d.W.length≤900) (now:Int):
  Calls prog 44 #[.pointer (some ⟨v,0,none⟩),.pointer (some ⟨y,0,none⟩),now] w fun e w'=>
   (zbb d a now≠0→e=.returned (.tuple #[txZero,ii (zbb d a now)])∧Below w w w')∧
   (zbb d a now=0→∃ A' c',e=.returned (.tuple #[MTx.val ⟨zaT d a now,A',c'⟩,ii 0])∧
     ∃ O',Mem w0 w' (n+1) O'∧O' n=zcQ A' (zaT d a now).ws∧zcM w0.heap.size y (zbA d a now) (O' i)∧zeA w0.heap.size v (zb8 d a now) (O' j)∧∀ k,k<n→k≠i→k≠j→O' k=O k):=by
 cases ho:d.op with
 | false=>
   have hE:zbb d a now=6:=by unfold zbb;rw[yaj ho]
   obtain⟨wv,hov,s,hs⟩:=hd;have hat:=h.at_ j hj;rw[hov]at hat
   refine(zhO w0.heap.size v y d wv now w hat ho).mono ?_;rintro e w' ⟨rfl,hb⟩;rw[hE];exact⟨fun _=>⟨rfl,hb⟩,fun e=>(by cases e)⟩
 | true=>
   by_cases hl:zaM d=[]
   ·have hE:zbb d a now=0:=by unfold zbb;rw[yad (by rw[ho];simp),yaj hl]
    have hT:zaT d a now=txZP:=by unfold zaT;rw[yaj hl]
    have hS:zbA d a now=a:=by unfold zbA;rw[yaj hl]
    have hD:zb8 d a now=zaG d:=by unfold zb8;rw[yaj hl]
    rw[hE,hT,hS,hD];obtain⟨wv,hov,s,hs⟩:=hd;have hat:=h.at_ j hj;rw[hov]at hat
    refine(zhP w0.heap.size v y d wv now w hat ho hn hl hs.qn.1).mono ?_;rintro e w' ⟨rfl,hs',hf⟩;obtain⟨O1,h1,h2,h3⟩:=h.step1 hj (o:=obD w0.heap.size v (zaG d) (.slice none 0 0)) (zef ..) hs' (by rw[hov];exact hf) (fun b e=>e.elim);refine⟨fun e=>absurd rfl e,fun _=>⟨none,0,rfl,?_⟩⟩;obtain⟨O2,k1,k2,k3⟩:=zdQ h1;exact⟨O2,k1,k3,by rw[k2 i hi,h3 i hij];exact hr,by rw[k2 j hj,h2];exact⟨_,rfl,_,hs.abort⟩,fun k hk e1 e2=>(k2 k hk).trans (h3 k e2)⟩
   ·have hE:zbb d a now=za5 a now d.n0 d.n1 d.n2 d.n3 (zaM d):=by unfold zbb;rw[yad (by rw[ho];simp),yad hl]
    have hT:zaT d a now=za9 a now d.n0 d.n1 d.n2 d.n3 (zaM d):=by unfold zaT;rw[yad hl]
    have hS:zbA d a now=zcc a (zaT d a now):=by unfold zbA;rw[yad hl]
    have hD:zb8 d a now=zg5 (zaG d) (zaT d a now).site (zaT d a now).seq:=by unfold zb8;rw[yad hl]
    have hid:0≤a.id∧a.id<4:=by
     obtain⟨r,lr,wA,wc,av,_,⟨s,hf⟩,_,_⟩:=hr;rw[←hf.rep.id];exact hf.inv.id
    rw[hS,hD];refine(zi6 h hi hj hij hr hd hn now ho hl _ hE.symm _ hT.symm (by rw[hT];exact hid)).mono ?_;rintro e w' ⟨g1,g2⟩;exact⟨g1,fun h=>by obtain⟨b',c',h1⟩:=g2 h;exact⟨_,c',h1⟩⟩
section
variable {w0 w:World}{n:Nat}{O:Nat→Ob}{p g:Nat}{A:AWd}{v:WV}{k u x:Nat}
noncomputable def zdk(A:AWd) (k:Nat):TxP:=if zaK A k=0 then zaZ A k else txZP
theorem zlu (A:AWd) (k:Nat):zap A k={ A with si:=zb5 A.si (A.pl k) (if zaK A k=0 then zbA (A.cl k) (zfF A k) (A.wl (A.pl k))else zfF A k),cl:=zb5 A.cl k (if zaK A k=0 then zb8 (A.cl k) (zfF A k) (A.wl (A.pl k))else A.cl k) }:=by
 unfold zap;split
 ·rfl
 ·have e1:zb5 A.si (A.pl k) (zfF A k)=A.si:=by funext i;unfold zb5;split <;> simp_all[zfF]
  have e2:zb5 A.cl k (A.cl k)=A.cl:=by funext i;unfold zb5;split <;> simp_all
  rw[e1,e2]
theorem PWx.sCommit (hp:PWx w0.heap.size O p g A v) (h:Mem w0 w n O) (hn:p+16≤n) (hu:v.us[k]?=some u) (hx:v.xs[A.pl k]?=some x):
  Calls prog 45 #[.pointer (some ⟨u,0,none⟩),.pointer (some ⟨x,0,none⟩),ii (A.wl (A.pl k))] w fun e w'=>
   ∃ A' c',e=.returned (.tuple #[MTx.val ⟨zdk A k,A',c'⟩,zbT (zaK A k)])∧
     ∃ O',Mem w0 w' (n+1) O'∧O' n=zcQ A' (zdk A k).ws∧PWx w0.heap.size O' p g (zap A k) v∧∀ i,i<n→(i<p∨p+16≤i)→O' i=O i:=by
 have b1:=zaI hu;have b2:=hp.ul;have b3:=hp.ok.C;have b4:=zaI hx;have b5:=hp.xl;have b6:=hp.ok.S;refine(zdX.commit h (i:=p+(6+A.pl k)) (j:=p+(10+k)) zO zO zO (hp.si _ x hx) (hp.cl k u hu) (A.wl (A.pl k))).mono ?_;rintro e w' ⟨g1,g2⟩;by_cases hz:zbb (A.cl k) (A.si (A.pl k)) (A.wl (A.pl k))=0
 ·obtain⟨A',c',rfl,O',h1,h2,h3,h4,h5⟩:=g2 hz
  have hz2:zaK A k=0:=hz;have e1:zdk A k=zaT (A.cl k) (A.si (A.pl k)) (A.wl (A.pl k)):=by unfold zdk;rw[yaj hz2];rfl
  refine⟨A',c',by rw[e1,hz2];rfl,O',h1,by rw[e1];exact h2,?_,fun i hi hne=>h5 i hi zO zO⟩;unfold zap;rw[yaj hz2];have hid:(zbA (A.cl k) (zfF A k) (A.wl (A.pl k))).id=((A.pl k:Nat):Int):=by
   unfold zbA;split
   ·exact hp.ok.id _
   ·exact hp.ok.id _
  have s1:=hp.setSi (O':=fun i=>if i=p+(6+A.pl k)then O' i else O i) hx hid (by rw[yaj rfl];exact h3) (fun j hj hne=>yad zO);exact s1.setCl (k:=k) (O':=O') hu h4 (fun j hj hne=>by
   by_cases e:j=6+A.pl k
   ·subst e;rw[yaj rfl]
   ·rw[yad zO];exact h5 _ zO zO zO)
 ·obtain⟨rfl,hb⟩:=g1 hz
  have hz2:¬zaK A k=0:=hz;have e1:zdk A k=txZP:=by unfold zdk;rw[yad hz2]
  obtain⟨O2,k1,k2,k3⟩:=zdQ (h.below hb);refine⟨none,0,by rw[e1];rfl,O2,k1,by rw[e1];exact k3,?_,fun i hi _=>k2 i hi⟩;unfold zap;rw[yad hz2];exact hp.keep fun j hj=>k2 _ zO
end
end Go.Proofs.YtbopfhbeegkkaabGreatDoor
namespace Go.Proofs.YtbopfhbeegkkaabGreatDoor
open Go.Proofs.Tryz
section
variable {A:AWd}{T:List TxP}{b:Nat→Int→Int}
theorem zfu (A:AWd) (i:Nat):(zaH A i).S=A.S∧(zaH A i).C=A.C∧(zaH A i).cl=A.cl∧(zaH A i).pl=A.pl∧(zaH A i).wl=A.wl:=by
 unfold zaH zcl;split
 ·exact⟨rfl,rfl,rfl,rfl,rfl⟩
 ·obtain⟨e1,e2,e3,e4,e5,e6⟩:=awSends_eq (zjc ((zbh A i).si (A.way.getD i gmZ).tgt) (A.way.getD i gmZ).frm (A.way.getD i gmZ).h0 (A.way.getD i gmZ).h1 (A.way.getD i gmZ).h2 (A.way.getD i gmZ).h3) (zbn (zbh A i) (A.way.getD i gmZ).tgt (A.way.getD i gmZ).frm (A.way.getD i gmZ).h0 (A.way.getD i gmZ).h1 (A.way.getD i gmZ).h2 (A.way.getD i gmZ).h3)
  exact⟨e1,e2,e5,e6,e4⟩
theorem awFlow_SC:∀ (f:Nat) (A:AWd),(awFlow f A).S=A.S∧(awFlow f A).C=A.C∧(awFlow f A).cl=A.cl∧(awFlow f A).pl=A.pl∧(awFlow f A).wl=A.wl
 | 0,A=>⟨rfl,rfl,rfl,rfl,rfl⟩
 | f+1,A=>by
   unfold awFlow;split
   ·exact⟨rfl,rfl,rfl,rfl,rfl⟩
   ·obtain⟨h1,h2,h3,h4,h5⟩:=awFlow_SC f (zaH A 0)
    obtain⟨g1,g2,g3,g4,g5⟩:=zfu A 0;exact⟨h1.trans g1,h2.trans g2,h3.trans g3,h4.trans g4,h5.trans g5⟩
theorem awAsk_SC (A:AWd) (k o:Nat):(zc2 A k o).S=A.S∧(zc2 A k o).C=A.C∧(zc2 A k o).cl=A.cl∧(zc2 A k o).pl=A.pl∧(zc2 A k o).wl=A.wl:=by
 obtain⟨e1,e2,e3,e4,e5,e6⟩:=zgz A (zdl A k o);exact⟨e1,e2,e5,e6,e4⟩
theorem zd5 (k:Nat) (A:AWd):∀ o,(zaV k A o).S=A.S∧(zaV k A o).C=A.C∧(zaV k A o).cl=A.cl∧(zaV k A o).pl=A.pl∧(zaV k A o).wl=A.wl
 | 0=>⟨rfl,rfl,rfl,rfl,rfl⟩
 | o+1=>by
   have ih:=zd5 k A o;unfold zaV;split
   ·exact ih
   ·obtain⟨h1,h2,h3,h4,h5⟩:=awFlow_SC (wayW (zc2 (zaV k A o) k o).way) (zc2 (zaV k A o) k o)
    obtain⟨g1,g2,g3,g4,g5⟩:=awAsk_SC (zaV k A o) k o;exact⟨h1.trans (g1.trans ih.1),h2.trans (g2.trans ih.2.1),h3.trans (g3.trans ih.2.2.1),h4.trans (g4.trans ih.2.2.2.1),h5.trans (g5.trans ih.2.2.2.2)⟩
theorem zd6 (A:AWd):∀ k,(zbe A k).S=A.S∧(zbe A k).C=A.C∧(zbe A k).cl=A.cl∧(zbe A k).pl=A.pl∧(zbe A k).wl=A.wl
 | 0=>⟨rfl,rfl,rfl,rfl,rfl⟩
 | k+1=>by
   have ih:=zd6 A k;have h:=zd5 k (zbe A k) A.S;exact⟨h.1.trans ih.1,h.2.1.trans ih.2.1,h.2.2.1.trans ih.2.2.1,h.2.2.2.1.trans ih.2.2.2.1,h.2.2.2.2.trans ih.2.2.2.2⟩
end
section
variable {A:AWd}{T:List TxP}{b:Nat→Int→Int}
theorem zej {k:Nat}(he:zaK A k=0):(A.cl k).op=true∧(zaM (A.cl k)≠[]→za5 (zfF A k) (A.wl (A.pl k)) (A.cl k).n0 (A.cl k).n1 (A.cl k).n2 (A.cl k).n3 (zaM (A.cl k))=0):=by
 unfold zaK zbb at he;split at he
 ·cases he
 rename_i h1;refine⟨by simpa using h1,fun hl=>?_⟩;rw[yad hl]at he;exact he
end
end Go.Proofs.YtbopfhbeegkkaabGreatDoor
namespace Go.Proofs.YtbopfhbeegkkaabGreatDoor
open Go.RowKit Go.Proofs.Tryz
theorem zeV (A:AWd) (at_:Nat) (t:TxP) (j:Nat):zfE A at_ t (j+1)=zfE A at_ t j++(if j≠at_ then [⟨j,t,0,0,0,0,0⟩]else []):=by
 unfold zfE;rw[ycn,yb8,ya9];by_cases e:j=at_
 ·simp[e]
 ·simp[e]
section
variable {w0 w:World}{n:Nat}{O:Nat→Ob}{p g:Nat}{A:AWd}{v:WV}{k u x:Nat}
theorem PWx.right (hp:PWx w0.heap.size O p g A v){k:Nat}(he:zaK A k=0) (hs:0<(zaZ A k).seq):zaf (zaZ A k)=true∧(zaZ A k).site=(A.pl k:Int):=by
 obtain⟨x,hx⟩:=hp.xk (hp.ok.pl k);obtain⟨mb,s,lv,sv,ho,hf,h40⟩:=hp.si _ x hx;have hl:zaM (A.cl k)≠[]:=fun e=>by
  unfold zaZ zaT at hs;rw[yaj e]at hs;simp[txZP]at hs
 have hE:=(zej he).2 hl;obtain⟨e1,e2⟩:=hf.rep.commitE (A.wl (A.pl k)) (A.cl k).n0 (A.cl k).n1 (A.cl k).n2 (A.cl k).n3 (zaM (A.cl k));have hT:zaZ A k=za9 (zfF A k) (A.wl (A.pl k)) (A.cl k).n0 (A.cl k).n1 (A.cl k).n2 (A.cl k).n3 (zaM (A.cl k)):=by unfold zaZ zaT;rw[yad hl]
 have hc:=(zcG hf.inv hf.top (by rw[e1];exact hE)).1;rw[e2]at hc;rw[hT];exact⟨hc,by show(zfF A k).id=_;exact hp.ok.id _⟩
theorem zld {w':World}(h:Mem w0 w n O){bv:Value}{l:List UInt8}(hb:Below w w w') (hr:w'.ownsRow w.heap.size 5 1 bv l.length (u8s l)):∃ O',Mem w0 w' (n+1) O'∧(∀ k,k<n→O' k=O k)∧O' n=zbi w0.heap.size 5 1 bv l.length (u8s l):=by
 have h2:w'.ownsRow w0.heap.size 5 1 bv l.length (u8s l):=zeK hr h.low.size;exact⟨_,h.push (o:=zbi w0.heap.size 5 1 bv l.length (u8s l)) hb (zbK ..) h2 (fun b e=>(zao hr e).1) (fun b e=>e.elim),fun k hk=>zah _ zO,zaB ..⟩
def CmS (w0 W:World) (n:Nat) (O:Nat→Ob) (p g:Nat) (A:AWd) (v:WV) (b4 b9:Nat) (A1:Option Addr) (c1:Nat) (T:TxP):Prop:=
 ∃ O2,Mem w0 W (n+3) O2∧PWx w0.heap.size O2 p g A v∧O2 n=obB b4 (.cells #[ii 0,ii 0,ii 0,ii 0,ii 0,ii 0,ii 0,ii 0,.slice none 0 0] 44) w0.heap.size∧O2 (n+1)=zcQ A1 T.ws∧
   O2 (n+2)=obB b9 (.cells #[T.site,T.seq,T.wall,T.count,T.d0,T.d1,T.d2,T.d3,.slice A1 T.ws.length c1] 44) w0.heap.size∧∀ k,k<n→(k<p∨p+16≤k)→O2 k=O k
def CmP (w0 w':World) (n:Nat) (O:Nat→Ob) (p g:Nat) (A:AWd) (v:WV) (A1:Option Addr) (T:TxP):Prop:=
 ∃ O',Mem w0 w' (n+1) O'∧O' n=zcQ A1 T.ws∧PWa w0.heap.size O' p g v.xs v.us A∧∀ i,i<n→(i<p∨p+16≤i)→O' i=O i
end
section
variable {w0 w w':World}{E:List Ob}
theorem ze2 {α:Type}{l:List α}{a:α}{i:Nat}{o:α}(h:(l++[a])[i]?=some o):l[i]?=some o∨(i=l.length∧o=a):=by
 rcases Nat.lt_trichotomy i l.length with h1|h1|h1
 ·rw[yaX h1]at h;exact .inl h
 ·subst h1;simp at h;exact .inr ⟨rfl,h.symm⟩
 ·rw[List.getElem?_eq_none zP]at h;cases h
end
section
variable {w0 w:World}{n:Nat}{O:Nat→Ob}{p g:Nat}{A:AWd}{v:RV}{k u x:Nat}
theorem RWx.sCommit (hp:RWx w0.heap.size O p g A v) (h:Mem w0 w n O) (hn:p+16≤n) (hu:v.us[k]?=some u) (hx:v.xs[A.pl k]?=some x) (hW:(A.cl k).W.length≤900):
  Calls prog 44 #[.pointer (some ⟨u,0,none⟩),.pointer (some ⟨x,0,none⟩),ii (A.wl (A.pl k))] w fun e w'=>
   ∃ A' c',e=.returned (.tuple #[MTx.val ⟨zdk A k,A',c'⟩,ii (zaK A k)])∧
     ∃ O',Mem w0 w' (n+1) O'∧O' n=zcQ A' (zdk A k).ws∧RWx w0.heap.size O' p g (zap A k) v∧∀ i,i<n→(i<p∨p+16≤i)→O' i=O i:=by
 have b1:=zaI hu;have b2:=hp.ul;have b3:=hp.ok.C;have b4:=zaI hx;have b5:=hp.xl;have b6:=hp.ok.S;refine(zeA.commit h (i:=p+(6+A.pl k)) (j:=p+(10+k)) zO zO zO (hp.si _ x hx) (hp.cl k u hu) hW (A.wl (A.pl k))).mono ?_;rintro e w' ⟨g1,g2⟩;by_cases hz:zbb (A.cl k) (A.si (A.pl k)) (A.wl (A.pl k))=0
 ·obtain⟨A',c',rfl,O',h1,h2,h3,h4,h5⟩:=g2 hz
  have hz2:zaK A k=0:=hz;have e1:zdk A k=zaT (A.cl k) (A.si (A.pl k)) (A.wl (A.pl k)):=by unfold zdk;rw[yaj hz2];rfl
  refine⟨A',c',by rw[e1,hz2],O',h1,by rw[e1];exact h2,?_,fun i hi hne=>h5 i hi zO zO⟩;unfold zap;rw[yaj hz2];have hid:(zbA (A.cl k) (zfF A k) (A.wl (A.pl k))).id=((A.pl k:Nat):Int):=by
   unfold zbA;split
   ·exact hp.ok.id _
   ·exact hp.ok.id _
  have s1:=hp.setSi (O':=fun i=>if i=p+(6+A.pl k)then O' i else O i) hx hid (by rw[yaj rfl];exact h3) (fun j hj hne=>yad zO);exact s1.setCl (k:=k) (O':=O') hu h4 (fun j hj hne=>by
   by_cases e:j=6+A.pl k
   ·subst e;rw[yaj rfl]
   ·rw[yad zO];exact h5 _ zO zO zO)
 ·obtain⟨rfl,hb⟩:=g1 hz
  have hz2:¬zaK A k=0:=hz;have e1:zdk A k=txZP:=by unfold zdk;rw[yad hz2]
  obtain⟨O2,k1,k2,k3⟩:=zdQ (h.below hb);refine⟨none,0,by rw[e1];rfl,O2,k1,by rw[e1];exact k3,?_,fun i hi _=>k2 i hi⟩;unfold zap;rw[yad hz2];exact hp.keep fun j hj=>k2 _ zO
theorem RWx.right (hp:RWx w0.heap.size O p g A v){k:Nat}(he:zaK A k=0) (hs:0<(zaZ A k).seq):zaf (zaZ A k)=true∧(zaZ A k).site=(A.pl k:Int):=by
 obtain⟨x,hx⟩:=hp.xk (hp.ok.pl k);obtain⟨r,lr,wA,wc,av,_,⟨s,hf⟩,hr,h40⟩:=hp.si _ x hx;have hl:zaM (A.cl k)≠[]:=fun e=>by
  unfold zaZ zaT at hs;rw[yaj e]at hs;simp[txZP]at hs
 have hE:=(zej he).2 hl;obtain⟨e1,e2⟩:=hf.rep.commitE (A.wl (A.pl k)) (A.cl k).n0 (A.cl k).n1 (A.cl k).n2 (A.cl k).n3 (zaM (A.cl k));have hT:zaZ A k=za9 (zfF A k) (A.wl (A.pl k)) (A.cl k).n0 (A.cl k).n1 (A.cl k).n2 (A.cl k).n3 (zaM (A.cl k)):=by unfold zaZ zaT;rw[yad hl]
 have hc:=(zcG hf.inv hf.top (by rw[e1];exact hE)).1;rw[e2]at hc;rw[hT];exact⟨hc,by show(zfF A k).id=_;exact hp.ok.id _⟩
end
def REx (w0 w:World) (n:Nat) (O:Nat→Ob) (p g:Nat) (V:RV→Prop) (A:AWd) (E:List Ob):Prop:=
 ∃ O1 v1,Mem w0 w (n+E.length) O1∧RWx w0.heap.size O1 p g A v1∧(V v1∧p+16≤n)∧(∀ i o,E[i]?=some o→O1 (n+i)=o)∧∀ k,k<n→(k<p∨p+16≤k)→O1 k=O k
section
variable {w0 w w':World}{n:Nat}{O:Nat→Ob}{p g:Nat}{V V2:RV→Prop}{xs us:List Nat}{A:AWd}{E F:List Ob}{v:RV}{k:Nat}
theorem REx.of (hp:RWx w0.heap.size O p g A v) (h:Mem w0 w n O) (hn:p+16≤n):REx w0 w n O p g (fun v1=>v1=v) A []:=⟨O,v,h,hp,⟨rfl,hn⟩,(fun i o e=>by simp at e),fun _ _ _=>rfl⟩
theorem REx.weak (h:REx w0 w n O p g V A E) (hV:∀ v1,V v1→V2 v1):REx w0 w n O p g V2 A E:=by
 obtain⟨O1,v1,h1,h2,⟨hv,hn⟩,h4⟩:=h;exact⟨O1,v1,h1,h2,⟨hV v1 hv,hn⟩,h4⟩
theorem REx.below (h:REx w0 w n O p g V A E) (hb:Below w w w'):REx w0 w' n O p g V A E:=by
 obtain⟨O1,v1,h1,h2⟩:=h;exact⟨O1,v1,h1.below hb,h2⟩
theorem REx.app {o:Ob}{A':AWd}{O1 O2:Nat→Ob}{v2:RV}(h:∀ i o,E[i]?=some o→O1 (n+i)=o) (hq:∀ k,k<n→(k<p∨p+16≤k)→O1 k=O k) (h1:Mem w0 w' (n+E.length+1) O2) (h2:RWx w0.heap.size O2 p g A' v2) (hv:V v2∧p+16≤n) (h3:O2 (n+E.length)=o)
  (h4:∀ k,k<n+E.length→(k<p∨p+16≤k)→O2 k=O1 k):REx w0 w' n O p g V A' (E++[o]):=by
 have e:n+(E++[o]).length=n+E.length+1:=by simp;omega
 refine⟨O2,v2,e ▸ h1,h2,hv,fun i o' hi=>?_,fun k hk hne=>(h4 k zO hne).trans (hq k hk hne)⟩;rcases ze2 hi with h5|⟨rfl,rfl⟩
 ·have:i<E.length:=(yao.1 h5).1
  rw[h4 _ zO (.inr zO)];exact h i o' h5
 ·exact h3
theorem REx.push (h:REx w0 w n O p g V A E) (o:Obj):REx w0 (w.alloc o) n O p g V A (E++[obB w.heap.size o w0.heap.size]):=by
 obtain⟨O1,v1,h1,h2,h3,h4,h5⟩:=h;obtain⟨O2,k1,k2,k3⟩:=h1.new1 o;exact REx.app h4 h5 k1 (h2.keep fun j hj=>k2 _ (by have:=h3.2;omega)) h3 k3 (fun k hk _=>k2 k hk)
theorem REx.box (h:REx w0 w n O p g V A E){b:Nat}{o:Obj}(hi:obB b o w0.heap.size∈E):w.heap[b]?=some o:=by
 obtain⟨O1,v1,h1,h2,h3,h4,h5⟩:=h;obtain⟨i,hi⟩:=ycc.1 hi;have:i<E.length:=(yao.1 hi).1;exact h1.box zO (h4 i _ hi)
theorem REx.fill9 {b:Nat}{z0 z1 z2 z3 z4 z5 z6 z7 z8:Value}{t:TypeId}(h:REx w0 w n O p g V A (E++obB b (.cells #[z0,z1,z2,z3,z4,z5,z6,z7,z8] t) w0.heap.size::F)) (u0 u1 u2 u3 u4 u5 u6 u7 u8:Value):
  REx w0 (zcx w b u0 u1 u2 u3 u4 u5 u6 u7 u8) n O p g V A (E++obB b (.cells #[u0,u1,u2,u3,u4,u5,u6,u7,u8] t) w0.heap.size::F):=by
 obtain⟨O1,v1,h1,h2,h3,h4,h5⟩:=h;have hi:(E++obB b (.cells #[z0,z1,z2,z3,z4,z5,z6,z7,z8] t) w0.heap.size::F)[E.length]?=some (obB b (.cells #[z0,z1,z2,z3,z4,z5,z6,z7,z8] t) w0.heap.size):=by rw[yaC (yai _),Nat.sub_self];rfl
 obtain⟨O2,k1,k2,k3⟩:=h1.fill9' (i:=n+E.length) zS (h4 _ _ hi) u0 u1 u2 u3 u4 u5 u6 u7 u8;have e8:n+(E++obB b (.cells #[u0,u1,u2,u3,u4,u5,u6,u7,u8] t) w0.heap.size::F).length=n+(E++obB b (.cells #[z0,z1,z2,z3,z4,z5,z6,z7,z8] t) w0.heap.size::F).length:=by simp
 rw[←e8]at k1;refine⟨O2,v1,k1,h2.keep (fun j hj=>k3 _ (by have:=h3.2;omega)),h3,fun j o hj=>?_,fun k hk hne=>(k3 k zO).trans (h5 k hk hne)⟩;by_cases e:j=E.length
 ·subst e
  rw[yaC (yai _),Nat.sub_self]at hj;cases hj;exact k2
 ·rw[k3 _ zO]
  refine h4 j o ?_;rcases Nat.lt_or_ge j E.length with h6|h6
  ·rw[yaX h6]at hj ⊢;exact hj
  ·rw[yaC h6]at hj ⊢
   rw[show j-E.length=(j-E.length-1)+1 by omega]at hj ⊢;exact hj
theorem REx.pick {F:List Ob}(h:REx w0 w n O p g V A E) (f:Nat→Nat) (hf:∀ i o,F[i]?=some o→E[f i]?=some o) (hi:∀ i j,i<F.length→j<F.length→f i=f j→i=j):REx w0 w n O p g V A F:=by
 obtain⟨O1,v1,h1,h2,h3,h4,h5⟩:=h;have hlt:∀ i,i<F.length→f i<E.length:=fun i hi=>(yao.1 (hf i _ (yaa hi))).1
 have k:=h1.pick (m:=n+F.length) (fun k=>if k<n then k else n+f (k-n)) (fun k hk=>by
  (try dsimp only)
  split
  ·omega
  ·have:=hlt (k-n) zO;omega) (fun j k hj hk e=>by
  (try dsimp only at e)
  split at e <;> split at e
  ·exact e
  ·omega
  ·omega
  ·have:=hi (j-n) (k-n) zO zO zO;omega)
 refine⟨_,v1,k,h2.keep (fun j hj=>?_),h3,fun i o hio=>?_,fun k hk hne=>?_⟩
 ·(try dsimp only);rw[yaj (by have:=h3.2;omega)]
 ·(try dsimp only);rw[yad zO,Nat.add_sub_cancel_left];exact h4 _ _ (hf i o hio)
 ·(try dsimp only);rw[yaj hk];exact h5 k hk hne
theorem REx.commit (h:REx w0 w n O p g V A E){k u x:Nat}(hu:∀ v1,V v1→v1.us[k]?=some u∧v1.xs[A.pl k]?=some x) (hW:(A.cl k).W.length≤900):
  Calls prog 44 #[.pointer (some ⟨u,0,none⟩),.pointer (some ⟨x,0,none⟩),ii (A.wl (A.pl k))] w fun e w'=>
   ∃ A' c',e=.returned (.tuple #[MTx.val ⟨zdk A k,A',c'⟩,ii (zaK A k)])∧REx w0 w' n O p g V (zap A k) (E++[zcQ A' (zdk A k).ws]):=by
 obtain⟨O1,v1,h1,h2,⟨hv,hn⟩,h4,h5⟩:=h;refine(h2.sCommit h1 zO (k:=k) (u:=u) (x:=x) (hu v1 hv).1 (hu v1 hv).2 hW).mono ?_;rintro e w' ⟨A',c',rfl,O2,k1,k2,k3,k4⟩;exact⟨A',c',rfl,REx.app h4 h5 k1 k3 ⟨hv,hn⟩ k2 k4⟩
theorem REx.send (h:REx w0 w n O p g (fun v1=>v1.xs=xs∧v1.us=us) A E) (m:RGm) (hgm:zih A.S m.g) (hm:zcQ m.A m.g.tx.ws∈E):
  Calls prog 158 #[.pointer (some ⟨g,0,none⟩),.agg m.cells.toArray] w fun e w'=>e=.returned (.tuple #[])∧REx w0 w' n O p g (fun v1=>v1.xs=xs∧v1.us=us) (zaJ A m.g) E:=by
 obtain⟨O1,v1,h1,h2,⟨⟨ex,eu⟩,hn⟩,h4,h5⟩:=h;obtain⟨i,hi⟩:=ycc.1 hm;have hil:i<E.length:=(yao.1 hi).1;have hat:=h1.at_ (n+i) zO;rw[h4 i _ hi]at hat
 refine(zeH h2 h1 zO m hgm hat.1 (fun b o e=>⟨hat.2 b o e,fun k hk hown=>?_⟩)).mono ?_
 ·by_cases e3:k=n+i
  ·subst e3;rw[h4 i _ hi]at hown;exact hown
  ·exact(h1.dis k (n+i) hk zO e3 b hown).2 (by rw[h4 i _ hi];exact⟨o,e⟩)
 ·rintro e w' ⟨rfl,O2,k1,⟨v2,k2,ex2,eu2⟩,k3⟩
  exact⟨rfl,O2,v2,k1,k2,⟨⟨ex2.trans ex,eu2.trans eu⟩,hn⟩,fun i o e=>(k3 _ (by have:=(yao.1 e).1;omega) (.inr zO)).trans (h4 i o e),fun k hk hne=>(k3 k zO hne).trans (h5 k hk hne)⟩
def zku (g:Nat) (v:RV) (k q u x:Nat) (A:AWd) (X:World):Prop:=
 ∃ bS cS bW cW bC cC bP cP,v.vS=.slice (some ⟨bS,0,none⟩) A.S cS∧v.vW=.slice (some ⟨bW,0,none⟩) A.S cW∧v.vC=.slice (some ⟨bC,0,none⟩) A.C cC∧v.vP=.slice (some ⟨bP,0,none⟩) A.C cP∧g<X.heap.size∧bS<X.heap.size∧bW<X.heap.size∧bC<X.heap.size∧bP<X.heap.size∧
   X.cell? ⟨g,0,none⟩=some v.vS∧X.cell? ⟨g,1,none⟩=some v.vW∧X.cell? ⟨g,2,none⟩=some v.vC∧X.cell? ⟨g,3,none⟩=some v.vP∧
   X.cell? ⟨bS,q,none⟩=some (.pointer (some ⟨x,0,none⟩))∧X.cell? ⟨bW,q,none⟩=some (ii (A.wl q))∧X.cell? ⟨bC,k,none⟩=some (.pointer (some ⟨u,0,none⟩))∧X.cell? ⟨bP,k,none⟩=some (ii (q:Int))
theorem REx.cells {AA:AWd}(h:REx w0 w n O p g (fun v1=>v1=v) AA E){k q u x:Nat}(hu:v.us[k]?=some u) (hx:v.xs[q]?=some x) (hk:k<A.C) (hq:A.pl k=q) (he:AA.S=A.S∧AA.C=A.C∧AA.wl=A.wl∧AA.pl=A.pl):zku g v k q u x A w:=by
 obtain⟨O1,v1,h1,h2,⟨rfl,hn⟩,h4,h5⟩:=h;obtain⟨e1,e2,e3,e4⟩:=he;have hqS:q<AA.S:=by rw[←hq,←e4];exact h2.ok.pl k
 have hb:=h2.blk h1 zO;obtain⟨bS,cS,eS,_,lS,kS,_⟩:=zbl h1 (i:=p+1) zO h2.b1 zO;obtain⟨bW,cW,eW,_,lW,kW,_⟩:=zbl h1 (i:=p+2) zO h2.b2 zO;obtain⟨bC,cC,eC,_,lC,kC,_⟩:=zbl h1 (i:=p+3) zO h2.b3 zO;obtain⟨bP,cP,eP,_,lP,kP,_⟩:=zbl h1 (i:=p+4) zO h2.b4 zO;have z3:=kP k _ zO (zbQ zO);have z4:=kW q _ hqS (zbQ hqS);rw[e3]at z4;rw[e4,hq]at z3;rw[e1]at eS eW;rw[e2]at eC eP;exact⟨bS,cS,bW,cW,bC,cC,bP,cP,eS,eW,eC,eP,zae hb,lS,lW,lC,lP,zaa hb 0,zaa hb 1,zaa hb 2,zaa hb 3,kS q _ hqS (zbt hx),z4,kC k _ zO (zbt hu),z3⟩
end
end Go.Proofs.YtbopfhbeegkkaabGreatDoor
