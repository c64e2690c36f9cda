/- Part 38 of a proof: lemmas and contracts that other parts use. -/
import Derived.Test.YtbopfhbeegkkaabGreatDoorSe37
set_option linter.unusedVariables false
set_option linter.unusedSimpArgs false
set_option linter.constructorNameAsVariable false
namespace Go.Proofs.YtbopfhbeegkkaabGreatDoor
open Go.RowKit
set_option maxRecDepth 20000 in
set_option maxHeartbeats 16000000 in
theorem sCommit_some {w0 w:World} {n:Nat} {O:Nat→Ob} (h:Mem w0 w n O) {i j x u:Nat} {a:RSi} {d:SdP} (hi:i<n) (hj:j<n) (hij:i≠j) (hr:SteA w0.heap.size x a (O i)) (hd:SneA w0.heap.size u d (O j)) (now:Int) (ho:d.op=true) (hl:dCommitL d≠[]) (E:Int) (hE:rCommitE a now d.n0 d.n1 d.n2 d.n3 (dCommitL d)=E) (T:TxP) (hT:rCommitT a now d.n0 d.n1 d.n2 d.n3 (dCommitL d)=T) (hts:0≤T.site∧T.site<4):
  Calls Tryz.prog 45 #[.pointer (some ⟨u,0,none⟩),.pointer (some ⟨x,0,none⟩),.int .i64 now] w fun e w'=>
   (E≠0→e=.returned (.tuple #[txZero,errV E])∧Below w.heap.size w w')∧
   (E=0→∃ b' c',e=.returned (.tuple #[MTx.val ⟨T,some ⟨b',0,none⟩,c'⟩,.nilIface])∧
     ∃ O',Mem w0 w' (n+1) O'∧O' n=obWs (some ⟨b',0,none⟩) T.ws∧SteA w0.heap.size x (rApply a T) (O' i)∧SneA w0.heap.size u (sdAt (sdAbort d) T.site T.seq) (O' j)∧∀ k,k<n→k≠i→k≠j→O' k=O k):=by
 have HR:=hidp hr
 obtain ⟨s,mv,hou,hsA⟩:=id hd
 have hSn:SnAt w w0.heap.size u s mv:=by have:=h.at_ j hj;rw [hou] at this;exact this
 have hsop:s.op=true:=by rw [hsA.rep.op];exact ho
 obtain ⟨mb,rfl⟩:∃ mb,mv=some mb:=by
  cases mv with
  | none=>exact absurd rfl (hSn.opn hsop)
  | some mb=>exact ⟨mb,rfl⟩
 have HKA:=hidp (keys8_all hsA hsop)
 have HKL:=hidp (keys8_len hsA hsop)
 have HDM:=hidp (hsA.dom hsop)
 have hq:=hsA.rep.q
 have hn:=hsA.rep.n
 have hmn:=hsA.rep.mn hsop
 have hll:=allW_len d.W 8
 have HSA:=hidp hsA
 obtain ⟨q0,q1,q2,q3,n0,n1,n2,n3,op,m,mn⟩:=s
 obtain ⟨q0',q1',q2',q3',n0',n1',n2',n3',op',W⟩:=d
 simp only at hsop ho hq hn hmn hll
 obtain ⟨rfl,rfl,rfl,rfl⟩:=hq
 obtain ⟨rfl,rfl,rfl,rfl⟩:=hn
 subst hsop ho
 have hb:=hSn.blk
 simp only at hb
 have hmp:=(hSn.mp mb rfl).1
 simp only at hmp
 have c0:=cell_blk hb 0;have c1:=cell_blk hb 1;have c2:=cell_blk hb 2;have c3:=cell_blk hb 3;have c4:=cell_blk hb 4;have c5:=cell_blk hb 5;have c6:=cell_blk hb 6;have c7:=cell_blk hb 7;have c8:=cell_blk hb 8;have c9:=cell_blk hb 9
 simp only [zC,zD,zE] at c0 c1 c2 c3 c4 c5 c6 c7 c8 c9
 haveI:SzGe (u+1) w:=⟨lt_blk hb⟩
 have HM:=hidp h
 have HOU:=hidp hou
 have HBK:=hidp hb
 have HLB:=hidp (lt_blk hb)
 have HMP:=hidp hmp
 have HMX:=hidp fun X=>vMax_any q0 q1 q2 q3 n0 n1 n2 n3 X
 have HJ:=hidp hj
 have HAL:=hidp (show (keys8 m).filterMap m=dCommitL ⟨q0,q1,q2,q3,n0,n1,n2,n3,true,W⟩ from HKA.out)
 have dl:0<mn:=by
  refine Nat.pos_of_ne_zero fun e=>hl ?_
  rw [←HAL.out,List.eq_nil_of_length_eq_zero (HKL.out.trans e)];rfl
 have hm8:mn≤8:=by rw [hmn];exact hll
 simp only at hE hT
 have HET:=hidp (And.intro hE hT)
 have HTS:=hidp hts
 have HLN:=hidp hl
 clear h hr hd hou hb hSn hsA hmp hl hmn hll hE hT hts HKA
 generalize dCommitL ⟨q0,q1,q2,q3,n0,n1,n2,n3,true,W⟩=l at *
 go_enter Tryz.func45,Tryz.ntmps45
 go_upto_region 3 with fail
 obtain ⟨O1,hm1,ho1,hn1⟩:=HM.out.new1 t9
 have HM1:=hidp hm1
 have HO1:=hidp ho1
 have HN1:=hidp hn1
 clear hm1 ho1 hn1
 go_cut [8] (fun s8 Y=>∃ b8,s8=.pointer (some ⟨b8,0,none⟩)∧∃ O2,Mem w0 Y (n+2) O2∧(∀ k,k<n→O2 k=O k)∧O2 n=obB w.heap.size t9 w0.heap.size∧O2 (n+1)=obB b8 (.cells #[.int .i64 (max q0 n0),.int .i64 (max q1 n1),.int .i64 (max q2 n2),.int .i64 (max q3 n3)] 32) w0.heap.size∧Below w.heap.size w Y)
 case first=>
  go_region_with (
   go_at_call 87
   refine (HMX.out _).mono ?_
   rintro e w3 ⟨rfl,hb3⟩
   obtain ⟨x3,rfl⟩:=wplus_of_below hb3
   clear hb3)
  all_goals
   go_wp2_with fail
   go_meet
   first
    | (obtain ⟨O2,k1,k2,k3⟩:=obs_a HM1.out (show Below (w.alloc t9).heap.size (w.alloc t9) (wplus (w.alloc t9).drew x3) from blw_plus (Below.drew (Below.refl _ _))) (.cells #[.int .i64 (max q0 n0),.int .i64 (max q1 n1),.int .i64 (max q2 n2),.int .i64 (max q3 n3)] 32)
       refine ⟨_,rfl,O2,k1,fun k hk=>(k2 k (by omega)).trans (HO1.out k hk),(k2 n (by omega)).trans HN1.out,?_,?_⟩
       ·rw [k3];simp
       ·exact blw_alloc (blw_plus (Below.drew (blw_alloc (Below.refl _ _)))))
    | (obtain ⟨O2,k1,k2,k3⟩:=obs_b HM1.out (.cells #[.int .i64 (max q0 n0),.int .i64 (max q1 n1),.int .i64 (max q2 n2),.int .i64 (max q3 n3)] 32) (show Below ((w.alloc t9).alloc (.cells #[.int .i64 (max q0 n0),.int .i64 (max q1 n1),.int .i64 (max q2 n2),.int .i64 (max q3 n3)] 32)).heap.size ((w.alloc t9).alloc (.cells #[.int .i64 (max q0 n0),.int .i64 (max q1 n1),.int .i64 (max q2 n2),.int .i64 (max q3 n3)] 32)) (wplus ((w.alloc t9).alloc (.cells #[.int .i64 (max q0 n0),.int .i64 (max q1 n1),.int .i64 (max q2 n2),.int .i64 (max q3 n3)] 32)).drew x3) from blw_plus (Below.drew (Below.refl _ _)))
       refine ⟨_,rfl,O2,k1,fun k hk=>(k2 k (by omega)).trans (HO1.out k hk),(k2 n (by omega)).trans HN1.out,?_,?_⟩
       ·rw [k3];simp
       ·exact blw_plus (Below.drew (blw_alloc (blw_alloc (Below.refl _ _)))))
    | fail
 case rest=>
  obtain ⟨b8,rfl,O2,hm2,ho2,hA2,hC2,hb2⟩:=hcut
  have HM2:=hidp hm2
  have HO2:=hidp ho2
  have HA2:=hidp hA2
  have HC2:=hidp hC2
  have HB2:=hidp hb2
  clear hm2 ho2 hA2 hC2 hb2 HM1 HO1 HN1 HMX c0 c1 c2 c3 c4 c5 c6 c7 c8 c9
  have hat:=HM2.out.at_ j (by have:=HJ.out;omega)
  rw [HO2.out j HJ.out,HOU.out] at hat
  have HSN:=hidp (show SnAt wc w0.heap.size u _ (some mb) from hat)
  have hbk:=HSN.out.blk
  have hmp:=(HSN.out.mp mb rfl).1
  simp only at hbk hmp
  have HMP:=hidp hmp
  have hlen:=(hmp.below (show Below wc.heap.size wc (wc.alloc t9) from blw_alloc (Below.refl _ _))).len 3
  unfold t9 at hlen
  have hx8:=HM2.out.box (i:=n+1) (by omega) HC2.out
  have hx6:=HM2.out.box (i:=n) (by omega) HA2.out
  unfold t9 at hx6
  have c0:=cell_blk hbk 0;have c1:=cell_blk hbk 1;have c2:=cell_blk hbk 2;have c3:=cell_blk hbk 3;have c4:=cell_blk hbk 4;have c5:=cell_blk hbk 5;have c6:=cell_blk hbk 6;have c7:=cell_blk hbk 7;have c8:=cell_blk hbk 8;have c9:=cell_blk hbk 9
  simp only [zC,zD,zE] at c0 c1 c2 c3 c4 c5 c6 c7 c8 c9
  have z0:=frozen_blk hbk 0;have z1:=frozen_blk hbk 1;have z2:=frozen_blk hbk 2;have z3:=frozen_blk hbk 3;have z4:=frozen_blk hbk 4;have z5:=frozen_blk hbk 5;have z6:=frozen_blk hbk 6;have z7:=frozen_blk hbk 7;have z8:=frozen_blk hbk 8;have z9:=frozen_blk hbk 9
  have y0:=cell_blk hx8 0;have y1:=cell_blk hx8 1;have y2:=cell_blk hx8 2;have y3:=cell_blk hx8 3
  simp only [zC,zD,zE] at y0 y1 y2 y3
  have f0:=frozen_blk hx8 0;have f1:=frozen_blk hx8 1;have f2:=frozen_blk hx8 2;have f3:=frozen_blk hx8 3
  have r0:=frozen_blk hx6 0;have r1:=frozen_blk hx6 1;have r2:=frozen_blk hx6 2;have r3:=frozen_blk hx6 3;have r4:=frozen_blk hx6 4;have r5:=frozen_blk hx6 5;have r6:=frozen_blk hx6 6;have r7:=frozen_blk hx6 7;have r8:=frozen_blk hx6 8
  have s0:=cell_blk hx6 0;have s1:=cell_blk hx6 1;have s2:=cell_blk hx6 2;have s3:=cell_blk hx6 3;have s4:=cell_blk hx6 4;have s5:=cell_blk hx6 5;have s6:=cell_blk hx6 6;have s7:=cell_blk hx6 7;have s8:=cell_blk hx6 8
  simp only [zC,zD,zE] at s0 s1 s2 s3 s4 s5 s6 s7 s8
  have HX8c:=hidp hx8
  have HX6c:=hidp hx6
  have hluc:=lt_blk hbk
  haveI:SzGe (u+1) wc:=⟨lt_blk hbk⟩
  haveI:SzGe (w.heap.size+1) wc:=⟨lt_blk hx6⟩
  haveI:SzGe (b8+1) wc:=⟨lt_blk hx8⟩
  have hn8u:¬(b8=u):=fun e=>(HM2.out.dis j (n+1) (by have:=HJ.out;omega) (by omega) (by have:=HJ.out;omega) u (by rw [HO2.out j HJ.out,HOU.out];exact .inl rfl)).1 (by rw [HC2.out];exact e.symm)
  have hn8u':¬(u=b8):=fun e=>hn8u e.symm
  have hn86:¬(b8=w.heap.size):=fun e=>(HM2.out.dis n (n+1) (by omega) (by omega) (by omega) w.heap.size (by rw [HA2.out];exact rfl)).1 (by rw [HC2.out];exact e.symm)
  have hn86':¬(w.heap.size=b8):=fun e=>hn86 e.symm
  have hn6:¬(w.heap.size=u):=fun e=>by have:=HLB.out;omega
  have hn6':¬(u=w.heap.size):=fun e=>hn6 e.symm
  clear hat hbk hmp hx8 hx6
  have hsc:=sorted_call (w:=wc.alloc t9) (HMP.out.below (show Below wc.heap.size wc (wc.alloc t9) from blw_alloc (Below.refl _ _))) (by omega) HDM.out
  rw [World.size_alloc] at hsc
  have HSC:=hidp hsc
  have HKC:=hidp (keys_call (some mb) (wc.alloc t9))
  obtain ⟨O3,hm3,ho3,hn3⟩:=HM2.out.new1 t9
  have HM3:=hidp hm3
  have HO3:=hidp ho3
  have HN3:=hidp hn3
  clear hsc hm3 ho3 hn3
  unfold t9 at HKC HSC
  go_wp2_with fail
  go_at_call 99
  refine HKC.out.mono ?_
  rintro e w4 ⟨rfl,rfl⟩
  rw [World.size_alloc]
  go_wp2_with fail
  go_at_call 98
  refine HSC.out.mono ?_
  rintro e w5 ⟨vk,rfl,hrow,hb5⟩
  obtain ⟨Ak,ck,rfl⟩:=own_form hrow
  have HM5:=hidp (HM3.out.below (hb5.mono (by rw [World.size_alloc];exact Nat.le_refl _)))
  have HROW:=hidp hrow
  have HB5:=hidp (HB2.out.trans ((show Below wc.heap.size wc (wc.alloc t9) from blw_alloc (Below.refl _ _)).trans (hb5.mono (Nat.le_succ _)) |>.mono HB2.out.size))
  clear hrow hb5 HSC HKC c0 c1 c2 c3 c4 c5 c6 c7 c8 c9 z0 z1 z2 z3 z4 z5 z6 z7 z8 z9 y0 y1 y2 y3 f0 f1 f2 f3 r0 r1 r2 r3 r4 r5 r6 r7 r8 s0 s1 s2 s3 s4 s5 s6 s7 s8 hlen HMP HSN
  go_wp2_with fail
  have HKS:=hidp (keys8_mem m)
  have HAT5:Hid (∀ X:World,Below w5.heap.size w5 X→SnAt X w0.heap.size u ⟨q0,q1,q2,q3,n0,n1,n2,n3,true,m,mn⟩ (some mb)):=hidp (fun X hb=>by
   have:=(HM5.out.below hb).at_ j (by have:=HJ.out;omega)
   rw [HO3.out j (by have:=HJ.out;omega),HO2.out j HJ.out,HOU.out] at this
   exact this)
  go_loopw [10,43] (fun o i X=>∃ (k:Nat) (Ao:Option Addr) (co:Nat),k≤(keys8 m).length∧i=.int .i64 k∧o=.slice Ao (((keys8 m).take k).filterMap m).length co∧X.ownsRow w5.heap.size 83 3 (.slice Ao (((keys8 m).take k).filterMap m).length co) (((keys8 m).take k).filterMap m).length ((((keys8 m).take k).filterMap m).flatMap wcs)∧Below w5.heap.size w5 X) (fun _ i _=>(keys8 m).length-(intOf i).toNat)
  case atStart=>exact ⟨0,none,0,Nat.zero_le _,rfl,rfl,⟨rfl,.inl ⟨rfl,rfl⟩⟩,Below.refl _ _⟩
  case round=>
   obtain ⟨k,Ao,co,hk,rfl,rfl,hown,hbl⟩:=hrel
   obtain ⟨X,rfl⟩:∃ X:World,X=wr:=⟨_,rfl⟩
   have HOW:=hidp hown
   have HBW:=hidp hbl
   clear hown hbl
   have hsn:=HAT5.out X HBW.out
   have hbk:=hsn.blk
   have hmp:=(hsn.mp mb rfl).1
   simp only at hbk hmp
   have c0:=cell_blk hbk 0;have c1:=cell_blk hbk 1;have c2:=cell_blk hbk 2;have c3:=cell_blk hbk 3;have c4:=cell_blk hbk 4;have c5:=cell_blk hbk 5;have c6:=cell_blk hbk 6;have c7:=cell_blk hbk 7;have c8:=cell_blk hbk 8;have c9:=cell_blk hbk 9
   simp only [zC,zD,zE] at c0 c1 c2 c3 c4 c5 c6 c7 c8 c9
   haveI:SzGe (u+1) X:=⟨lt_blk hbk⟩
   have HMPX:=hidp hmp
   clear hsn hbk hmp
   have hk9:k≤8:=by have:=HKL.out;omega
   by_cases hkl:k<(keys8 m).length
   ·have hkey:=List.getElem_mem hkl
    obtain ⟨kk,hkk⟩:∃ kk,(keys8 m)[k]=kk:=⟨_,rfl⟩
    rw [hkk] at hkey
    obtain ⟨hk7,hsome⟩:=(HKS.out kk).1 hkey
    obtain ⟨xw,hxw⟩:=Option.isSome_iff_exists.1 hsome
    have HSUC:Hid (((keys8 m).take (k+1)).filterMap m=((keys8 m).take k).filterMap m++[xw]):=hidp (by
     rw [List.take_add_one,List.getElem?_eq_getElem hkl,hkk]
     simp [hxw])
    have hq:(keys8 m)[k]?=some kk:=by rw [List.getElem?_eq_getElem hkl,hkk]
    have hlk:=HMPX.out.look1 (k:=kk) ⟨by omega,by omega⟩ hxw
    have hol:(((keys8 m).take k).filterMap m).length≤8:=Nat.le_trans (List.length_filterMap_le _ _) (by rw [List.length_take];have:=HKL.out;omega)
    obtain ⟨g,hAk⟩:∃ g,Ak=some ⟨g,0,none⟩:=by
     rcases HROW.out.2 with ⟨_,h0⟩ | ⟨g,cap,cur,hv,_⟩
     ·omega
     ·exact ⟨g,(Value.slice.inj hv).1⟩
    subst hAk
    have hgl:=(own_ge HROW.out (k:=g) rfl).2
    have hkc:X.cell? ⟨g,k,none⟩=some (.int .i64 kk):=by
     have:=HROW.out.cells (g:=g) rfl k (.int .i64 kk) (by rw [List.getElem?_map,hq];rfl)
     rw [show (⟨g,0,none⟩:Addr).add k=⟨g,0+k,none⟩ by unfold Addr.add;split <;> simp_all,Nat.zero_add] at this
     exact (HBW.out.cell (p:=⟨g,k,none⟩) hgl).trans this
    obtain ⟨xk,xd,xg⟩:=xw
    unfold WrP.val at hlk
    simp only at hlk
    have HXW:=hidp hxw
    generalize hO:((keys8 m).take k).filterMap m=outs at *
    have HOE:=hidp hO
    clear hO hkk hkey hsome hxw hq hk7
    have hsz:=HBW.out.size
    go_wp2_with (at_builtin;go_must (refine wpList_append_wr _ rfl (.tmp 47) (.tmp 54) rfl w5.heap.size (.slice Ao outs.length co) outs.length outs rfl (HOW.out.alloc _) (some ⟨X.heap.size,0,none⟩) 1 [⟨xk,xd,xg⟩] ?c1 (ws_one (m:=⟨xk,xd,xg⟩) (blk_new rfl _)) ?c2 ?c3 rfl ?_))
    case c1=>first | rfl | simp [Act.eval,Act.put]
    case c2=>show outs.length+1≤1000;omega
    case c3=>first | omega | (simp;omega)
    intro A6 c6 w6 hown6 hgrow6 hat6
    have HN6:=hidp hown6
    have HB6:Hid (Below w5.heap.size w5 w6):=hidp (Below.grown HBW.out (grown_alloc hgrow6) HBW.out.size (fun j e=>(own_ge HOW.out e).1))
    clear hown6 hgrow6 hat6
    go_wp2_with fail
    go_roundw
    case rel=>exact ⟨k+1,A6,c6,by omega,by go_num,by rw [HSUC.out] <;> simp,by rw [HSUC.out];have h1:=HN6.out;simpa [List.flatMap_append] using h1,HB6.out⟩
    case measure=>simp [intOf] <;> omega
   ·have he:((keys8 m).take k).filterMap m=l:=by rw [List.take_of_length_le (by omega)];exact HAL.out
    rw [he] at HOW ⊢
    have HWX:=hidp (own_wsx HOW.out)
    have HL8:Hid (l.length≤8):=hidp (by rw [←HAL.out];exact Nat.le_trans (List.length_filterMap_le _ _) (by have:=HKL.out;omega))
    have HMX5:=hidp (HM5.out.below HBW.out)
    have HBX:=hidp (HB5.out.trans (HBW.out.mono HB5.out.size))
    clear he HKS HOW HMPX
    have hx8:=HMX5.out.box (i:=n+1) (by omega) ((HO3.out (n+1) (by omega)).trans HC2.out)
    have hx6:=HMX5.out.box (i:=n) (by omega) ((HO3.out n (by omega)).trans HA2.out)
    have hx9:=HMX5.out.box (i:=n+2) (by omega) HN3.out
    unfold t9 at hx6 hx9
    have y0:=cell_blk hx9 0;have y1:=cell_blk hx9 1;have y2:=cell_blk hx9 2;have y3:=cell_blk hx9 3;have y4:=cell_blk hx9 4;have y5:=cell_blk hx9 5;have y6:=cell_blk hx9 6;have y7:=cell_blk hx9 7;have y8:=cell_blk hx9 8
    simp only [zC,zD,zE] at y0 y1 y2 y3 y4 y5 y6 y7 y8
    have z0:=frozen_blk hx9 0;have z1:=frozen_blk hx9 1;have z2:=frozen_blk hx9 2;have z3:=frozen_blk hx9 3;have z4:=frozen_blk hx9 4;have z5:=frozen_blk hx9 5;have z6:=frozen_blk hx9 6;have z7:=frozen_blk hx9 7;have z8:=frozen_blk hx9 8
    have r0:=frozen_blk hx6 0;have r1:=frozen_blk hx6 1;have r2:=frozen_blk hx6 2;have r3:=frozen_blk hx6 3;have r4:=frozen_blk hx6 4;have r5:=frozen_blk hx6 5;have r6:=frozen_blk hx6 6;have r7:=frozen_blk hx6 7;have r8:=frozen_blk hx6 8
    have s0:=cell_blk hx6 0;have s1:=cell_blk hx6 1;have s2:=cell_blk hx6 2;have s3:=cell_blk hx6 3;have s4:=cell_blk hx6 4;have s5:=cell_blk hx6 5;have s6:=cell_blk hx6 6;have s7:=cell_blk hx6 7;have s8:=cell_blk hx6 8
    simp only [zC,zD,zE] at s0 s1 s2 s3 s4 s5 s6 s7 s8
    haveI:SzGe (w.heap.size+1) X:=⟨lt_blk hx6⟩
    haveI:SzGe (wc.heap.size+1) X:=⟨lt_blk hx9⟩
    have hatX:=HMX5.out.at_ i (by omega)
    rw [HO3.out i (by omega),HO2.out i hi] at hatX
    have HRC:=hidp (HR.out.commit hatX now n0 n1 n2 n3 Ao co l HWX.out (by have:=HL8.out;omega))
    rw [HET.out.1,HET.out.2] at HRC
    have HX9:=hidp hx9
    have HX6:=hidp hx6
    have HX8:=hidp hx8
    clear hx8 hx6 hx9 hatX
    have hnl:¬(k<(keys8 m).length):=hkl
    have hl6:=(lt_blk HX6c.out)
    have hl8:=(lt_blk HX8c.out)
    have hn69:¬(w.heap.size=wc.heap.size):=by omega
    have hn96:¬(wc.heap.size=w.heap.size):=by omega
    have hn89:¬(b8=wc.heap.size):=by omega
    have hn98:¬(wc.heap.size=b8):=by omega
    have hn9u:¬(wc.heap.size=u):=by omega
    have hnu9:¬(u=wc.heap.size):=by omega
    go_wp2_with fail
    go_at_call 15
    refine HRC.out.mono ?_
    rintro e w6 ⟨g1,g2⟩
    have HG1:=hidp g1
    have HG2:=hidp g2
    clear g1 g2 HRC c0 c1 c2 c3 c4 c5 c6 c7 c8 c9 y0 y1 y2 y3 y4 y5 y6 y7 y8 z0 z1 z2 z3 z4 z5 z6 z7 z8 r0 r1 r2 r3 r4 r5 r6 r7 r8 s0 s1 s2 s3 s4 s5 s6 s7 s8
    by_cases hE0:E=0
    case neg=>
     obtain ⟨rfl,hb3⟩:=HG1.out hE0
     have hev:errV E=.iface 29 (.int .i64 E):=by unfold errV;rw [if_neg hE0]
     rw [hev]
     have hx9:=(hb3.block _ (lt_blk HX9.out)).trans HX9.out
     have hx6:=(hb3.block _ (lt_blk HX6.out)).trans HX6.out
     have HB3:=hidp (HBX.out.trans (hb3.mono HBX.out.size))
     have y0:=cell_blk hx9 0;have y1:=cell_blk hx9 1;have y2:=cell_blk hx9 2;have y3:=cell_blk hx9 3;have y4:=cell_blk hx9 4;have y5:=cell_blk hx9 5;have y6:=cell_blk hx9 6;have y7:=cell_blk hx9 7;have y8:=cell_blk hx9 8
     simp only [zC,zD,zE] at y0 y1 y2 y3 y4 y5 y6 y7 y8
     have z0:=frozen_blk hx9 0;have z1:=frozen_blk hx9 1;have z2:=frozen_blk hx9 2;have z3:=frozen_blk hx9 3;have z4:=frozen_blk hx9 4;have z5:=frozen_blk hx9 5;have z6:=frozen_blk hx9 6;have z7:=frozen_blk hx9 7;have z8:=frozen_blk hx9 8
     have r0:=frozen_blk hx6 0;have r1:=frozen_blk hx6 1;have r2:=frozen_blk hx6 2;have r3:=frozen_blk hx6 3;have r4:=frozen_blk hx6 4;have r5:=frozen_blk hx6 5;have r6:=frozen_blk hx6 6;have r7:=frozen_blk hx6 7;have r8:=frozen_blk hx6 8
     have s0:=cell_blk hx6 0;have s1:=cell_blk hx6 1;have s2:=cell_blk hx6 2;have s3:=cell_blk hx6 3;have s4:=cell_blk hx6 4;have s5:=cell_blk hx6 5;have s6:=cell_blk hx6 6;have s7:=cell_blk hx6 7;have s8:=cell_blk hx6 8
     simp only [zC,zD,zE] at s0 s1 s2 s3 s4 s5 s6 s7 s8
     haveI:SzGe (w.heap.size+1) w6:=⟨lt_blk hx6⟩
     haveI:SzGe (wc.heap.size+1) w6:=⟨lt_blk hx9⟩
     have hle9:w.heap.size≤wc.heap.size:=HB2.out.size
     clear hx9 hx6 hb3 HG1 HG2
     unfold txZero
     go_wp2_with fail
     refine bodyPost_ret (v:=.tuple #[txZero,.iface 29 (.int .i64 E)]) ?_ rfl ⟨fun _=>⟨by rw [hev],?_⟩,fun e=>absurd e hE0⟩
     ·simp [results,Tryz.results45,go_sem,txZero, *]
     ·(repeat refine blw_far ?_ (by omega));exact HB3.out
    case pos=>
     subst hE0
     clear HG1
     obtain ⟨b',c',rfl,hb1,hw3,o',hs3,hat3,hfr3,hdt3,hno3⟩:=HG2.out rfl
     clear HG2
     have hb2:b'<w6.heap.size:=by
      have hTw:T.ws=l:=by rw [←HET.out.2];rfl
      obtain ⟨x0,l0,hl0⟩:=List.exists_cons_of_ne_nil HLN.out
      obtain ⟨b,o,e,hlt,_⟩:=hw3 0 x0 (by rw [hTw,hl0];rfl)
      cases e;exact hlt
     obtain ⟨O5,hm5,ho5,hr5⟩:=HMX5.out.step1 (i:=i) (w':=w6) (by omega) (SteA.ok hs3) hat3 (by rw [HO3.out i (by omega),HO2.out i hi];exact hfr3) (by rw [HO3.out i (by omega),HO2.out i hi];exact hdt3)
     have hb2n:∀ k,k<n+3→¬(O5 k).own b':=fun k hk=>by
      by_cases e:k=i
      ·rw [e,ho5];exact hno3
      ·rw [hr5 k e];exact HMX5.out.fresh hk hb1
     obtain ⟨O6,hm6,hr6,hn6⟩:=hm5.lend1 (o:=obWs (some ⟨b',0,none⟩) T.ws) (obWs_ok ..) ⟨hw3,fun b o e=>(by cases e;exact hb2)⟩ (fun b e=>e) (fun b k hk ⟨o,e⟩=>(by cases e;exact hb2n k hk))
     have HM6:=hidp hm6
     have HS6:Hid (SteA w0.heap.size x (rApply a T) (O6 i)):=hidp (by rw [hr6 i (by omega),ho5];exact hs3)
     have HJ6:Hid (O6 j=O j):=hidp (by rw [hr6 j (by omega),hr5 j (Ne.symm hij),HO3.out j (by omega),HO2.out j hj])
     have HQ6:Hid (∀ k,k<n→k≠i→O6 k=O k):=hidp (fun k hk hne=>by rw [hr6 k (by omega),hr5 k hne,HO3.out k (by omega),HO2.out k hk])
     have HA6:Hid (O6 n=obB w.heap.size t9 w0.heap.size):=hidp (by rw [hr6 n (by omega),hr5 n (by omega),HO3.out n (by omega)];exact HA2.out)
     have HC6:Hid (O6 (n+1)=obB b8 (.cells #[.int .i64 (max q0 n0),.int .i64 (max q1 n1),.int .i64 (max q2 n2),.int .i64 (max q3 n3)] 32) w0.heap.size):=hidp (by rw [hr6 (n+1) (by omega),hr5 (n+1) (by omega),HO3.out (n+1) (by omega)];exact HC2.out)
     have HE6:Hid (O6 (n+2)=obB wc.heap.size t9 w0.heap.size):=hidp (by rw [hr6 (n+2) (by omega),hr5 (n+2) (by omega)];exact HN3.out)
     have HD6:=hidp hn6
     clear hm5 ho5 hr5 hb2n hm6 hr6 hn6 hs3 hat3 hfr3 hdt3 hno3 hw3 hb1 hb2 HMX5 HM5 HM3 HM2 HO3 HO2 HN3 HA2 HC2 HROW HWX HAT5 HX9 HX6 HX8
     obtain ⟨ts,tq,tw,tc,e0,e1,e2,e3,tws⟩:=T
     have hx9:=HM6.out.box (i:=n+2) (by omega) HE6.out
     unfold t9 at hx9
     have z0:=frozen_blk hx9 0;have z1:=frozen_blk hx9 1;have z2:=frozen_blk hx9 2;have z3:=frozen_blk hx9 3;have z4:=frozen_blk hx9 4;have z5:=frozen_blk hx9 5;have z6:=frozen_blk hx9 6;have z7:=frozen_blk hx9 7;have z8:=frozen_blk hx9 8
     have y0:=cell_blk hx9 0;have y1:=cell_blk hx9 1;have y2:=cell_blk hx9 2;have y3:=cell_blk hx9 3;have y4:=cell_blk hx9 4;have y5:=cell_blk hx9 5;have y6:=cell_blk hx9 6;have y7:=cell_blk hx9 7;have y8:=cell_blk hx9 8
     simp only [zC,zD,zE] at y0 y1 y2 y3 y4 y5 y6 y7 y8
     haveI:SzGe (wc.heap.size+1) w6:=⟨lt_blk hx9⟩
     clear hx9
     have hev:errV 0=.nilIface:=rfl
     unfold MTx.val
     simp only at HTS ⊢
     go_upto_region 16 with fail
     obtain ⟨O7,hm7,hn7,hr7⟩:=HM6.out.fill9' (i:=n+2) (by omega) HE6.out (.int .i64 ts) (.int .i64 tq) (.int .i64 tw) (.int .i64 tc) (.int .i64 e0) (.int .i64 e1) (.int .i64 e2) (.int .i64 e3) (.slice (some ⟨b',0,none⟩) tws.length c')
     have HM7:=hidp hm7
     have HN7:=hidp hn7
     have HR7:=hidp hr7
     clear hm7 hn7 hr7 y0 y1 y2 y3 y4 y5 y6 y7 y8 z0 z1 z2 z3 z4 z5 z6 z7 z8
     obtain ⟨V,hV⟩:∃ V,put9 w6 wc.heap.size (.int .i64 ts) (.int .i64 tq) (.int .i64 tw) (.int .i64 tc) (.int .i64 e0) (.int .i64 e1) (.int .i64 e2) (.int .i64 e3) (.slice (some ⟨b',0,none⟩) tws.length c')=V:=⟨_,rfl⟩
     rw [hV] at HM7
     unfold put9 at hV
     rw [hV]
     clear hV
     have hatV:=HM7.out.at_ j (by omega)
     rw [HR7.out j (by omega),HJ6.out,HOU.out] at hatV
     have HSV:=hidp (show SnAt V w0.heap.size u ⟨q0,q1,q2,q3,n0,n1,n2,n3,true,m,mn⟩ (some mb) from hatV)
     have hbk:=HSV.out.blk
     simp only at hbk
     have hx9:=HM7.out.box (i:=n+2) (by omega) HN7.out
     have hx8:=HM7.out.box (i:=n+1) (by omega) ((HR7.out (n+1) (by omega)).trans HC6.out)
     have hx6:=HM7.out.box (i:=n) (by omega) ((HR7.out n (by omega)).trans HA6.out)
     unfold t9 at hx6
     have c0:=cell_blk hbk 0;have c1:=cell_blk hbk 1;have c2:=cell_blk hbk 2;have c3:=cell_blk hbk 3;have c4:=cell_blk hbk 4;have c5:=cell_blk hbk 5;have c6:=cell_blk hbk 6;have c7:=cell_blk hbk 7;have c8:=cell_blk hbk 8;have c9:=cell_blk hbk 9
     simp only [zC,zD,zE] at c0 c1 c2 c3 c4 c5 c6 c7 c8 c9
     have z0:=frozen_blk hbk 0;have z1:=frozen_blk hbk 1;have z2:=frozen_blk hbk 2;have z3:=frozen_blk hbk 3;have z4:=frozen_blk hbk 4;have z5:=frozen_blk hbk 5;have z6:=frozen_blk hbk 6;have z7:=frozen_blk hbk 7;have z8:=frozen_blk hbk 8;have z9:=frozen_blk hbk 9
     have y0:=cell_blk hx9 0;have y1:=cell_blk hx9 1;have y2:=cell_blk hx9 2;have y3:=cell_blk hx9 3;have y4:=cell_blk hx9 4;have y5:=cell_blk hx9 5;have y6:=cell_blk hx9 6;have y7:=cell_blk hx9 7;have y8:=cell_blk hx9 8
     simp only [zC,zD,zE] at y0 y1 y2 y3 y4 y5 y6 y7 y8
     have p0:=cell_blk hx8 0;have p1:=cell_blk hx8 1;have p2:=cell_blk hx8 2;have p3:=cell_blk hx8 3
     simp only [zC,zD,zE] at p0 p1 p2 p3
     have f0:=frozen_blk hx8 0;have f1:=frozen_blk hx8 1;have f2:=frozen_blk hx8 2;have f3:=frozen_blk hx8 3
     have r0:=frozen_blk hx6 0;have r1:=frozen_blk hx6 1;have r2:=frozen_blk hx6 2;have r3:=frozen_blk hx6 3;have r4:=frozen_blk hx6 4;have r5:=frozen_blk hx6 5;have r6:=frozen_blk hx6 6;have r7:=frozen_blk hx6 7;have r8:=frozen_blk hx6 8
     have s0:=cell_blk hx6 0;have s1:=cell_blk hx6 1;have s2:=cell_blk hx6 2;have s3:=cell_blk hx6 3;have s4:=cell_blk hx6 4;have s5:=cell_blk hx6 5;have s6:=cell_blk hx6 6;have s7:=cell_blk hx6 7;have s8:=cell_blk hx6 8
     simp only [zC,zD,zE] at s0 s1 s2 s3 s4 s5 s6 s7 s8
     haveI:SzGe (u+1) V:=⟨lt_blk hbk⟩
     haveI:SzGe (w.heap.size+1) V:=⟨lt_blk hx6⟩
     haveI:SzGe (b8+1) V:=⟨lt_blk hx8⟩
     haveI:SzGe (wc.heap.size+1) V:=⟨lt_blk hx9⟩
     clear hatV hbk hx9 hx8 hx6
     have hcs:ts=0∨ts=1∨ts=2∨ts=3:=by have:=HTS.out;omega
     clear HTS
     have HFIN:Hid (∀ (i9:Nat) (zz:Value) (z0 z1 z2 z3:Int) (Y:World),(⟨z0,z1,z2,z3,0,0,0,0,false,fun _=>none,0⟩:SnP)=snAt (snAbort ⟨q0,q1,q2,q3,n0,n1,n2,n3,true,m,mn⟩) ts tq→
       Y=put9 (put10 (V.setCell ⟨b8,i9,none⟩ zz) u z0 z1 z2 z3) w.heap.size (.int .i64 ts) (.int .i64 tq) (.int .i64 tw) (.int .i64 tc) (.int .i64 e0) (.int .i64 e1) (.int .i64 e2) (.int .i64 e3) (.slice (some ⟨b',0,none⟩) tws.length c')→
       ∃ O',Mem w0 Y (n+1) O'∧O' n=obWs (some ⟨b',0,none⟩) tws∧SteA w0.heap.size x (rApply a ⟨ts,tq,tw,tc,e0,e1,e2,e3,tws⟩) (O' i)∧SneA w0.heap.size u (sdAt (sdAbort ⟨q0,q1,q2,q3,n0,n1,n2,n3,true,W⟩) ts tq) (O' j)∧∀ k,k<n→k≠i→k≠j→O' k=O k):=hidp (by
      intro i9 zz z0 z1 z2 z3 Y g1 g2
      subst g2
      have k0:=HM7.out.set (i:=n+1) (by omega) ((HR7.out (n+1) (by omega)).trans HC6.out) i9 zz
      obtain ⟨O8,k1,k2,k3⟩:=obN_close k0 (j:=j) (by omega) (by rw [oset_other _ (by omega),HR7.out j (by omega),HJ6.out];exact HOU.out) z0 z1 z2 z3
      obtain ⟨O9,l1,l2,l3⟩:=k1.fill9' (i:=n) (by omega) (by rw [k3 n (by omega),oset_other _ (by omega),HR7.out n (by omega)];exact HA6.out) (.int .i64 ts) (.int .i64 tq) (.int .i64 tw) (.int .i64 tc) (.int .i64 e0) (.int .i64 e1) (.int .i64 e2) (.int .i64 e3) (.slice (some ⟨b',0,none⟩) tws.length c')
      refine ⟨fun k=>O9 (if k=n then n+3 else k),l1.pick (fun k=>if k=n then n+3 else k) (fun k hk=>by split <;> omega) (fun p q hp hq e=>by split at e <;> split at e <;> omega),?_,?_,?_,fun k hk h1 h2=>?_⟩
      ·show O9 (if n=n then n+3 else n)=_
       rw [if_pos rfl,l3 _ (by omega),k3 _ (by omega),oset_other _ (by omega),HR7.out _ (by omega)];exact HD6.out
      ·show SteA _ _ _ (O9 (if i=n then n+3 else i))
       rw [if_neg (by omega),l3 _ (by omega),k3 _ hij,oset_other _ (by omega),HR7.out _ (by omega)];exact HS6.out
      ·show SneA _ _ _ (O9 (if j=n then n+3 else j))
       rw [if_neg (by omega),l3 _ (by omega),k2,g1]
       exact ⟨_,none,rfl,HSA.out.abort.at _ _⟩
      ·show O9 (if k=n then n+3 else k)=_
       rw [if_neg (by omega),l3 _ (by omega),k3 _ h2,oset_other _ (by omega),HR7.out _ (by omega)];exact HQ6.out k hk h1)
     rcases hcs with rfl | hcs
     ·as_aux_lemma=>
      refine wp_region_plus_tail 10 (by kernel_rfl) (by kernel_rfl) ?_
      simp only [List.take_succ_cons,List.take_zero,List.drop_succ_cons,List.drop_zero]
      repeat (first | go_big_quiet_skip | (go_big_quiet_want;go_big_quiet_op;first | go_big_quiet_on))
      refine wpQuiet_nil ?_
      rintro _ ⟨x4,rfl⟩
      go_wp2_with fail
      refine bodyPost_ret (v:=.tuple #[MTx.val ⟨⟨0,tq,tw,tc,e0,e1,e2,e3,tws⟩,some ⟨b',0,none⟩,c'⟩,.nilIface]) ?r1 rfl ⟨b',⟨c',?e1⟩,?e2⟩
      case r1=>simp [results,Tryz.results45,go_sem,MTx.val, *]
      case e1=>exact rfl
      case e2=>
       obtain ⟨O9,k1,k2⟩:=HFIN.out 0 (.int .i64 (max q0 (max n0 tq))) (max q0 (max n0 tq)) (max q1 n1) (max q2 n2) (max q3 n3) _ (by simp [snAt,snAbort]) rfl
       unfold put9 put10 at k1
       exact ⟨O9,k1.below (blw_plus (Below.refl _ _)),k2⟩
     rcases hcs with rfl | hcs
     ·as_aux_lemma=>
      refine wp_region_plus_tail 10 (by kernel_rfl) (by kernel_rfl) ?_
      simp only [List.take_succ_cons,List.take_zero,List.drop_succ_cons,List.drop_zero]
      repeat (first | go_big_quiet_skip | (go_big_quiet_want;go_big_quiet_op;first | go_big_quiet_on))
      refine wpQuiet_nil ?_
      rintro _ ⟨x4,rfl⟩
      go_wp2_with fail
      refine bodyPost_ret (v:=.tuple #[MTx.val ⟨⟨1,tq,tw,tc,e0,e1,e2,e3,tws⟩,some ⟨b',0,none⟩,c'⟩,.nilIface]) ?r1 rfl ⟨b',⟨c',?e1⟩,?e2⟩
      case r1=>simp [results,Tryz.results45,go_sem,MTx.val, *]
      case e1=>exact rfl
      case e2=>
       obtain ⟨O9,k1,k2⟩:=HFIN.out 1 (.int .i64 (max q1 (max n1 tq))) (max q0 n0) (max q1 (max n1 tq)) (max q2 n2) (max q3 n3) _ (by simp [snAt,snAbort]) rfl
       unfold put9 put10 at k1
       exact ⟨O9,k1.below (blw_plus (Below.refl _ _)),k2⟩
     rcases hcs with rfl | hcs
     ·as_aux_lemma=>
      refine wp_region_plus_tail 10 (by kernel_rfl) (by kernel_rfl) ?_
      simp only [List.take_succ_cons,List.take_zero,List.drop_succ_cons,List.drop_zero]
      repeat (first | go_big_quiet_skip | (go_big_quiet_want;go_big_quiet_op;first | go_big_quiet_on))
      refine wpQuiet_nil ?_
      rintro _ ⟨x4,rfl⟩
      go_wp2_with fail
      refine bodyPost_ret (v:=.tuple #[MTx.val ⟨⟨2,tq,tw,tc,e0,e1,e2,e3,tws⟩,some ⟨b',0,none⟩,c'⟩,.nilIface]) ?r1 rfl ⟨b',⟨c',?e1⟩,?e2⟩
      case r1=>simp [results,Tryz.results45,go_sem,MTx.val, *]
      case e1=>exact rfl
      case e2=>
       obtain ⟨O9,k1,k2⟩:=HFIN.out 2 (.int .i64 (max q2 (max n2 tq))) (max q0 n0) (max q1 n1) (max q2 (max n2 tq)) (max q3 n3) _ (by simp [snAt,snAbort]) rfl
       unfold put9 put10 at k1
       exact ⟨O9,k1.below (blw_plus (Below.refl _ _)),k2⟩
     subst hcs
     ·as_aux_lemma=>
      refine wp_region_plus_tail 10 (by kernel_rfl) (by kernel_rfl) ?_
      simp only [List.take_succ_cons,List.take_zero,List.drop_succ_cons,List.drop_zero]
      repeat (first | go_big_quiet_skip | (go_big_quiet_want;go_big_quiet_op;first | go_big_quiet_on))
      refine wpQuiet_nil ?_
      rintro _ ⟨x4,rfl⟩
      go_wp2_with fail
      refine bodyPost_ret (v:=.tuple #[MTx.val ⟨⟨3,tq,tw,tc,e0,e1,e2,e3,tws⟩,some ⟨b',0,none⟩,c'⟩,.nilIface]) ?r1 rfl ⟨b',⟨c',?e1⟩,?e2⟩
      case r1=>simp [results,Tryz.results45,go_sem,MTx.val, *]
      case e1=>exact rfl
      case e2=>
       obtain ⟨O9,k1,k2⟩:=HFIN.out 3 (.int .i64 (max q3 (max n3 tq))) (max q0 n0) (max q1 n1) (max q2 n2) (max q3 (max n3 tq)) _ (by simp [snAt,snAbort]) rfl
       unfold put9 put10 at k1
       exact ⟨O9,k1.below (blw_plus (Below.refl _ _)),k2⟩
end Go.Proofs.YtbopfhbeegkkaabGreatDoor
