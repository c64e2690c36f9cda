/- Part 45 of a proof: lemmas and contracts that other parts use. -/
import Derived.Test.YtbopfhbeegkkaabGreatDoorSe41
import Derived.Test.YtbopfhbeegkkaabGreatDoorSe42
import Derived.Test.YtbopfhbeegkkaabGreatDoorSe43
import Derived.Test.YtbopfhbeegkkaabGreatDoorSe44
import Derived.Test.YtbopfhbeegkkaabGreatDoorSe11
import Derived.Deep.DeepCutAuto
import Derived.Deep.CutBlock
set_option linter.unusedVariables false
set_option linter.unusedSimpArgs false
set_option linter.constructorNameAsVariable false
namespace Go.Proofs.YtbopfhbeegkkaabGreatDoor
open Go.RowKit
set_option maxRecDepth 20000 in
set_option maxHeartbeats 32000000 in
theorem sessionPlays_any (A:Option Addr) (c:Nat) (ls:List TurnP) (w:World) (hg:EType w) (hps:TurnsAt w A ls) (hlen:ls.length≤maxLen):
  Calls Tryz.prog 4 #[.slice A ls.length c] w fun e w'=>e=.returned (.bool true)∧Below w.heap.size w w':=by
 have HG:=hidp hg
 have HPS:=hidp hps
 have HLM:=hidp hlen
 clear hg hps hlen
 by_cases h80:80<ls.length
 ·clear HLM
  have hd0:decide ((80:Int)<(ls.length:Int))=true:=decide_eq_true (by omega)
  go_enter Tryz.func4,Tryz.ntmps4
  go_wp2_with fail
  go_ret
  exact ⟨rfl,zB⟩
 have hd0:decide ((80:Int)<(ls.length:Int))=false:=decide_eq_false (by omega)
 have hn:ls.length≤80:=by omega
 clear HLM h80
 have HNW:=hidp (sNew_any w)
 go_enter Tryz.func4,Tryz.ntmps4
 go_wp2_with fail
 go_at_call 37
 refine HNW.out.mono ?_
 rintro e w1 ⟨rfl,hs,hb⟩
 have h0:=LIn.start hs hb
 simp only [z79] at h0
 have H0:=hidp h0
 clear hs hb HNW h0
 go_wp2_with fail
 generalize ((w1.alloc (.cells #[.int .i64 0,.int .i64 0,.int .i64 0,.int .i64 0,.int .i64 0,.int .i64 0,.int .i64 0,.int .i64 0,.bool false,.slice none 0 0] 79)).alloc (.cells #[.pointer none,.pointer none] 80)).alloc (.cells #[.pointer none,.pointer none] 81)=W0 at *
 generalize w1.heap.size+1+1=q at *
 generalize w1.heap.size+1=p at *
 generalize w1.heap.size=v at *
 generalize w.heap.size=u at H0 ⊢
 clear w1
 go_loopw [7] (fun i W=>∃ (j:Nat) (x y:Nat→Nat) (O:Nat→Ob),i=.int .i64 j∧j≤2∧LIn w W u v p q x y j O) (fun i _=>2-(intOf i).toNat)
 case atStart=>obtain ⟨O,h⟩:=H0.out;exact ⟨0,_,_,O,rfl,by omega,h⟩
 case round=>
  obtain ⟨j,x,y,O,rfl,hj,hl⟩:=hrel
  clear H0
  have HL:=hidp hl
  clear hl
  have hjc:j=0∨j=1∨j=2:=by omega
  rcases hjc with rfl | rfl | rfl
  ·have HNW:=hidp (new_any 0 wr (by omega))
   have hbp:=HL.out.blkp
   have hbq:=HL.out.blkq
   simp only [pp,if_pos,if_neg,show ¬(0<0) from by omega,show ¬(1<0) from by omega,show (0<1) from by omega,show ¬(1<1) from by omega,if_true,if_false] at hbp hbq
   have HBP:=hidp hbp
   have HBQ:=hidp hbq
   clear hbp hbq
   go_wp2_with fail
   go_at_call 11
   refine HNW.out.mono ?_
   rintro e w1 ⟨rfl,hs,hb⟩
   have h1:=HL.out.step (by omega) hs hb
   have hbp:=HBP.out
   have hbq:=HBQ.out
   rw [←hb.block _ (lt_blk hbp)] at hbp
   rw [←hb.block _ (lt_blk hbq)] at hbq
   have hpq:¬(p=q):=fun e=>by subst e;rw [hbp] at hbq;simp at hbq
   have hqp:¬(q=p):=fun e=>hpq e.symm
   have hp2:=lt_blk hbp
   have hq2:=lt_blk hbq
   haveI:SzGe (p+1) w1:=⟨hp2⟩
   haveI:SzGe (q+1) w1:=⟨hq2⟩
   have cp:=cell_blk hbp 0
   have cq:=cell_blk hbq 0
   have fp:=frozen_blk hbp 0
   have fq:=frozen_blk hbq 0
   simp only [zC,zD,zE] at cp cq
   simp only [z26,pp,alloc_setCell] at h1
   clear hbp hbq
   have H1:=hidp h1
   clear h1 hs hb HNW HBP HBQ HL hp2 hq2
   go_wp2_with fail
   go_roundw
   case rel=>obtain ⟨x',y',O',h⟩:=H1.out;exact ⟨1,x',y',O',by go_num,by omega,h⟩
   case measure=>simp [intOf]
  ·have HNW:=hidp (new_any 1 wr (by omega))
   have hbp:=HL.out.blkp
   have hbq:=HL.out.blkq
   simp only [pp,if_pos,if_neg,show ¬(0<0) from by omega,show ¬(1<0) from by omega,show (0<1) from by omega,show ¬(1<1) from by omega,if_true,if_false] at hbp hbq
   have HBP:=hidp hbp
   have HBQ:=hidp hbq
   clear hbp hbq
   go_wp2_with fail
   go_at_call 11
   refine HNW.out.mono ?_
   rintro e w1 ⟨rfl,hs,hb⟩
   have h1:=HL.out.step (by omega) hs hb
   have hbp:=HBP.out
   have hbq:=HBQ.out
   rw [←hb.block _ (lt_blk hbp)] at hbp
   rw [←hb.block _ (lt_blk hbq)] at hbq
   have hpq:¬(p=q):=fun e=>by subst e;rw [hbp] at hbq;simp at hbq
   have hqp:¬(q=p):=fun e=>hpq e.symm
   have hp2:=lt_blk hbp
   have hq2:=lt_blk hbq
   haveI:SzGe (p+1) w1:=⟨hp2⟩
   haveI:SzGe (q+1) w1:=⟨hq2⟩
   have cp:=cell_blk hbp 1
   have cq:=cell_blk hbq 1
   have fp:=frozen_blk hbp 1
   have fq:=frozen_blk hbq 1
   simp only [zC,zD,zE] at cp cq
   simp only [z26,pp,alloc_setCell] at h1
   clear hbp hbq
   have H1:=hidp h1
   clear h1 hs hb HNW HBP HBQ HL hp2 hq2
   go_wp2_with fail
   go_roundw
   case rel=>obtain ⟨x',y',O',h⟩:=H1.out;exact ⟨2,x',y',O',by go_num,by omega,h⟩
   case measure=>simp [intOf]
  ·
   have HT:=hidp HL.out.done
   clear HL hj
   go_wp2_with fail
   go_loopw [10,11] (fun kk i W=>∃ (k j:Nat) (a:Nat→RSi) (d:SdP),kk=.int .i64 k∧i=.int .i64 j∧k<2∧j≤ls.length∧d.W.length≤j∧LE w W ⟨x,y,u,v,p,q,a,a,d,d⟩ []) (fun _ i _=>ls.length-(intOf i).toNat)
   case atStart=>exact ⟨0,0,_,_,rfl,rfl,by omega,Nat.zero_le _,by simp [dNew],HT.out⟩
   case round=>
    obtain ⟨k,j,a,d,rfl,rfl,hk,hj,hdw,hle⟩:=hrel
    have HT0:=hidp hle
    have HDW:=hidp hdw
    clear hle HT hdw
    by_cases hjl:j<ls.length
    ·have hjd:decide ((j:Int)<(ls.length:Int))=true:=decide_eq_true (by omega)
     have hj0:=HPS.out j ls[j] (List.getElem?_eq_getElem hjl)
     have HW0:=hidp hj0.2.2.2.2.2.2.1
     clear hj0
     obtain ⟨⟨b,o,rfl,hb,k0,k1,k2,k3,k4,k5,k6,k7,k8,k9,k10,k11,k12,k13,k14,k15⟩,hf1,hf2,hf3,hf4,hwd,hws,hwl,hf5,hf6,_⟩:=HPS.out.below HT0.out.low j ls[j] (List.getElem?_eq_getElem hjl)
     generalize ls[j]=xx at *
     obtain ⟨wh,at0,key,now,⟨wk,wd,wg⟩,⟨site,seq,wall,count,d0,d1,d2,d3,ws⟩,tA,tc⟩:=xx
     simp only at k0 k1 k2 k3 k4 k5 k6 k7 k8 k9 k10 k11 k12 k13 k14 k15 HW0 hws hwl hwd hf1 hf2 hf3 hf4 hf5 hf6
     have HWF:=hidp (show wf64 site∧wf64 seq∧wf64 key from ⟨wf64_of hf5,wf64_of hf6,wf64_of hf3⟩)
     haveI:SzGe (b+1) wr:=⟨hb⟩
     clear hws hf1 hf2 hf3 hf4 hf5 hf6
     go_upto_region 20 with fail
     go_cut [12] (fun tb W'=>∃ bx,tb=.pointer (some ⟨bx,0,none⟩)∧LE w W' ⟨x,y,u,v,p,q,a,a,d,d⟩ [obB bx (.cells #[.int .i64 wh,.int .i64 at0,.int .i64 key,.int .i64 now,.int .i64 wk,.string wd,.bool wg,.int .i64 site,.int .i64 seq,.int .i64 wall,.int .i64 count,.int .i64 d0,.int .i64 d1,.int .i64 d2,.int .i64 d3,.slice tA ws.length tc] 85) w.heap.size])
     case first=>
      have hrg:wr.rangeAt b (o+j*16) [.int .i64 wh,.int .i64 at0,.int .i64 key,.int .i64 now,.int .i64 wk,.string wd,.bool wg,.int .i64 site,.int .i64 seq,.int .i64 wall,.int .i64 count,.int .i64 d0,.int .i64 d1,.int .i64 d2,.int .i64 d3,.slice tA ws.length tc]:=by intro i v hv;rcases i with _ | _ | _ | _ | _ | _ | _ | _ | _ | _ | _ | _ | _ | _ | _ | _ | i <;> simp at hv <;> subst hv <;> assumption
      clear k0 k1 k2 k3 k4 k5 k6 k7 k8 k9 k10 k11 k12 k13 k14 k15
      go_wp2_with (refine wpList_load_mid rfl 85 (.tmp 60) rfl b (o+j*16) (by simp [Act.eval]) [.int .i64 wh,.int .i64 at0,.int .i64 key,.int .i64 now,.int .i64 wk,.string wd,.bool wg,.int .i64 site,.int .i64 seq,.int .i64 wall,.int .i64 count,.int .i64 d0,.int .i64 d1,.int .i64 d2,.int .i64 d3,.slice tA ws.length tc] _ hrg Tryz.underlying85 rfl (by as_aux_lemma=>kernel_rfl) ?_)
      go_meet
      exact ⟨_,rfl,HT0.out.push (.cells #[.int .i64 wh,.int .i64 at0,.int .i64 key,.int .i64 now,.int .i64 wk,.string wd,.bool wg,.int .i64 site,.int .i64 seq,.int .i64 wall,.int .i64 count,.int .i64 d0,.int .i64 d1,.int .i64 d2,.int .i64 d3,.slice tA ws.length tc] 85)⟩
     obtain ⟨W1,rfl⟩:∃ W:World,W=wc:=⟨_,rfl⟩
     obtain ⟨bx,rfl,hle1⟩:=hcut
     have HT1:=hidp hle1
     clear k0 k1 k2 k3 k4 k5 k6 k7 k8 k9 k10 k11 k12 k13 k14 k15 HT0 hle1
     have hbx:=HT1.out.box (i:=0) rfl
     have q0:=cell_blk hbx 0;have q1:=cell_blk hbx 1;have q2:=cell_blk hbx 2;have q3:=cell_blk hbx 3;have q4:=cell_blk hbx 4;have q5:=cell_blk hbx 5;have q6:=cell_blk hbx 6;have q7:=cell_blk hbx 7;have q8:=cell_blk hbx 8;have q9:=cell_blk hbx 9;have q10:=cell_blk hbx 10;have q11:=cell_blk hbx 11;have q12:=cell_blk hbx 12;have q13:=cell_blk hbx 13;have q14:=cell_blk hbx 14;have q15:=cell_blk hbx 15
     simp only [zC,zD,zE] at q0 q1 q2 q3 q4 q5 q6 q7 q8 q9 q10 q11 q12 q13 q14 q15
     haveI:SzGe (bx+1) W1:=⟨lt_blk hbx⟩
     clear hbx
     have hwd0:wd.size≤9223372036854775807:=by simp only [maxLen] at hwd;omega
     have hrg:W1.rangeAt bx 7 [.int .i64 site,.int .i64 seq,.int .i64 wall,.int .i64 count,.int .i64 d0,.int .i64 d1,.int .i64 d2,.int .i64 d3,.slice tA ws.length tc]:=by intro i v hv;rcases i with _ | _ | _ | _ | _ | _ | _ | _ | _ | i <;> simp at hv <;> subst hv <;> assumption
     go_wp2_with (refine wpList_load_mid rfl 44 (.tmp 62) rfl bx 7 (by simp [Act.eval]) [.int .i64 site,.int .i64 seq,.int .i64 wall,.int .i64 count,.int .i64 d0,.int .i64 d1,.int .i64 d2,.int .i64 d3,.slice tA ws.length tc] _ hrg Tryz.underlying44 rfl (by as_aux_lemma=>kernel_rfl) ?_)
     clear hrg
     go_at_call 13
     refine (few_any site seq wall count d0 d1 d2 d3 tA tc ws _ (by simp only [maxLen] at hwl;omega) (HW0.out.below HT1.out.low)).mono ?_
     rintro e w2 ⟨bb,rfl,hbb,hb2⟩
     have HT2:=hidp (HT1.out.below hb2)
     have HBB:=hidp hbb
     clear hb2 hbb HT1
     have hbx:=HT2.out.box (i:=0) rfl
     clear q0 q1 q2 q3 q4 q5 q6 q7 q8 q9 q10 q11 q12 q13 q14 q15
     have q0:=cell_blk hbx 0;have q1:=cell_blk hbx 1;have q2:=cell_blk hbx 2;have q3:=cell_blk hbx 3;have q4:=cell_blk hbx 4;have q5:=cell_blk hbx 5;have q6:=cell_blk hbx 6;have q7:=cell_blk hbx 7;have q8:=cell_blk hbx 8;have q9:=cell_blk hbx 9;have q10:=cell_blk hbx 10;have q11:=cell_blk hbx 11;have q12:=cell_blk hbx 12;have q13:=cell_blk hbx 13;have q14:=cell_blk hbx 14;have q15:=cell_blk hbx 15
     simp only [zC,zD,zE] at q0 q1 q2 q3 q4 q5 q6 q7 q8 q9 q10 q11 q12 q13 q14 q15
     haveI:SzGe (bx+1) w2:=⟨lt_blk hbx⟩
     clear hbx
     cases bb
     ·go_wp2_with fail
      go_roundw
      case rel=>(repeat (first | apply Exists.intro));refine And.comm.mp ⟨rfl,?_⟩;exact ⟨k,j+1,a,d,rfl,by go_num,hk,by omega,by have:=HDW.out;omega,HT2.out.nil.below (by repeat (first | exact Below.refl _ _ | refine blw_alloc ?_ | refine blw_plus ?_ | refine Below.drew ?_))⟩
      case measure=>simp [intOf];omega
     have hw20:ws.length≤20:=HBB.out rfl
     clear HBB hwl
     by_cases hdt:100<wd.size
     ·have hdd:decide ((100:Int)<(wd.size:Int))=true:=decide_eq_true (by omega)
      go_wp2_with fail
      go_roundw
      case rel=>(repeat (first | apply Exists.intro));refine And.comm.mp ⟨rfl,?_⟩;exact ⟨k,j+1,a,d,rfl,by go_num,hk,by omega,by have:=HDW.out;omega,HT2.out.nil.below (by repeat (first | exact Below.refl _ _ | refine blw_alloc ?_ | refine blw_plus ?_ | refine Below.drew ?_))⟩
      case measure=>simp [intOf];omega
     have hdd:decide ((100:Int)<(wd.size:Int))=false:=decide_eq_false (by omega)
     clear hdt hwd hwd0
     obtain ⟨wv,hv⟩:=HT2.out.bv
     simp only at hv
     have v8:=cell_blk hv 8
     simp only [zC,zD,zE] at v8
     haveI:SzGe (v+1) w2:=⟨lt_blk hv⟩
     clear hv
     go_upto_if 77 with fail
     clear v8
     go_cut [10] (fun kk W'=>∃ (k':Nat),kk=.int .i64 k'∧k'<2∧LE w W' ⟨x,y,u,v,p,q,a,a,d,d⟩ [obB bx (.cells #[.int .i64 wh,.int .i64 at0,.int .i64 key,.int .i64 now,.int .i64 wk,.string wd,.bool wg,.int .i64 site,.int .i64 seq,.int .i64 wall,.int .i64 count,.int .i64 d0,.int .i64 d1,.int .i64 d2,.int .i64 d3,.slice tA ws.length tc] 85) w.heap.size])
     case first=>
      cases hop:d.op with
      | true=>
        go_wp2_with fail
        go_meet
        exact ⟨k,rfl,hk,HT2.out.below (by repeat (first | exact Below.refl _ _ | refine blw_alloc ?_ | refine blw_plus ?_ | refine Below.drew ?_))⟩
      | false=>
        go_wp2_with fail
        go_meet
        obtain ⟨k',hk',e⟩:=one_of_two at0
        exact ⟨k',by rw [e],hk',HT2.out.below (by repeat (first | exact Below.refl _ _ | refine blw_alloc ?_ | refine blw_plus ?_ | refine Below.drew ?_))⟩
     case rest=>
      clear hk
      obtain ⟨k,rfl,hk,hle⟩:=hcut
      clear HT2 q0 q1 q2 q3 q4 q5 q6 q7 q8 q9 q10 q11 q12 q13 q14 q15
      have HT:=hidp hle
      clear hle
      have hkd:decide ((k:Int)<2)=true:=decide_eq_true (by omega)
      have hk0:(0:Int)≤(k:Int):=by omega
      have hk2:(k:Int)<2:=by omega
      have hk3:(k:Int)≤2:=by omega
      have hbx:=HT.out.box (i:=0) rfl
      have q0:=cell_blk hbx 0;have q1:=cell_blk hbx 1;have q2:=cell_blk hbx 2;have q3:=cell_blk hbx 3;have q4:=cell_blk hbx 4;have q5:=cell_blk hbx 5;have q6:=cell_blk hbx 6;have q7:=cell_blk hbx 7;have q8:=cell_blk hbx 8;have q9:=cell_blk hbx 9;have q10:=cell_blk hbx 10;have q11:=cell_blk hbx 11;have q12:=cell_blk hbx 12;have q13:=cell_blk hbx 13;have q14:=cell_blk hbx 14;have q15:=cell_blk hbx 15
      simp only [zC,zD,zE] at q0 q1 q2 q3 q4 q5 q6 q7 q8 q9 q10 q11 q12 q13 q14 q15
      haveI:SzGe (bx+1) wc:=⟨lt_blk hbx⟩
      clear hbx
      go_upto_block 4 with fail
      go_cut [] (fun W'=>∃ (a':Nat→RSi) (d':SdP),d'.W.length≤j+1∧LE w W' ⟨x,y,u,v,p,q,a',a',d',d'⟩ [])
      case first=>
       rename_i J K1 hJ hMet
       clear q0 q1 q2 q3 q4 q5 q6 q7 q8 q9 q10 q11 q12 q13 q14 q15
       by_cases hw0:wh=0
       ·subst hw0
        exact l3_begin HG HDW (by omega) HW0 HWF hw20 hk HT (fun a' w' h=>hMet a' w' (hJ a' w' h))
       have hx0:(wh==0)=false:=by simpa using hw0
       clear hw0
       by_cases hw1:wh=1
       ·subst hw1
        exact l3_read HG HDW (by omega) HW0 HWF hw20 hk HT (fun a' w' h=>hMet a' w' (hJ a' w' h))
       have hx1:(wh==1)=false:=by simpa using hw1
       clear hw1
       by_cases hw2:wh=2
       ·subst hw2
        exact l3_write HG HDW (by omega) HW0 HWF hw20 hk HT (fun a' w' h=>hMet a' w' (hJ a' w' h))
       have hx2:(wh==2)=false:=by simpa using hw2
       clear hw2
       by_cases hw3:wh=3
       ·subst hw3
        exact l3_commit HG HDW (by omega) HW0 HWF hw20 hk (by intro c a r v W h;cases r <;> exact h) HT (fun a' w' h=>hMet a' w' (hJ a' w' h))
       have hx3:(wh==3)=false:=by simpa using hw3
       clear hw3
       by_cases hw4:wh=4
       ·subst hw4
        exact l3_abort HG HDW (by omega) HW0 HWF hw20 hk HT (fun a' w' h=>hMet a' w' (hJ a' w' h))
       have hx4:(wh==4)=false:=by simpa using hw4
       clear hw4
       by_cases hw5:wh=5
       ·subst hw5
        exact l3_take HG HDW (by omega) HW0 HWF hw20 hk HT (fun a' w' h=>hMet a' w' (hJ a' w' h))
       have hx5:(wh==5)=false:=by simpa using hw5
       clear hw5
       exact l3_else HG HDW (by omega) HW0 HWF hw20 hk hx0 hx1 hx2 hx3 hx4 hx5 HT (fun a' w' h=>hMet a' w' (hJ a' w' h))
      case rest=>
       obtain ⟨a,d,hdw,hle⟩:=hcut
       clear HDW HT q0 q1 q2 q3 q4 q5 q6 q7 q8 q9 q10 q11 q12 q13 q14 q15
       have HDW:=hidp hdw
       have HT:=hidp hle
       clear hdw hle
       obtain ⟨wv,hv⟩:=HT.out.bv
       simp only at hv
       have v0:=cell_blk hv 0;have v1:=cell_blk hv 1;have v2:=cell_blk hv 2;have v3:=cell_blk hv 3;have v4:=cell_blk hv 4;have v5:=cell_blk hv 5;have v6:=cell_blk hv 6;have v7:=cell_blk hv 7;have v8:=cell_blk hv 8
       simp only [zC,zD,zE] at v0 v1 v2 v3 v4 v5 v6 v7 v8
       haveI:SzGe (v+1) wc:=⟨lt_blk hv⟩
       clear hv
       have HPA:Hid (∀ W,Below wc.heap.size wc W→Calls Tryz.prog 48 #[.pointer (some ⟨u,0,none⟩)] W fun e w'=>e=.returned (.agg #[.int .i64 d.q0,.int .i64 d.q1,.int .i64 d.q2,.int .i64 d.q3])∧Below W.heap.size W w'):=hidp (fun W h=>(HT.out.below h).past)
       have HSN:Hid (∀ W,Below wc.heap.size wc W→Calls Tryz.prog 49 #[.pointer (some ⟨u,0,none⟩)] W fun e w'=>e=.returned (.agg #[.int .i64 d.n0,.int .i64 d.n1,.int .i64 d.n2,.int .i64 d.n3])∧Below W.heap.size W w'):=hidp (fun W h=>(HT.out.below h).snap)
       have HOP:Hid (∀ W,Below wc.heap.size wc W→Calls Tryz.prog 50 #[.pointer (some ⟨u,0,none⟩)] W fun e w'=>e=.returned (.bool d.op)∧Below W.heap.size W w'):=hidp (fun W h=>(HT.out.below h).open_)
       generalize d.q0=e0 at v0 HPA
       generalize d.q1=e1 at v1 HPA
       generalize d.q2=e2 at v2 HPA
       generalize d.q3=e3 at v3 HPA
       generalize d.n0=e4 at v4 HSN
       generalize d.n1=e5 at v5 HSN
       generalize d.n2=e6 at v6 HSN
       generalize d.n3=e7 at v7 HSN
       generalize d.op=op at v8 HOP
       go_upto_region 47 with fail
       refine wp_region_plus (by kernel_rfl) (by kernel_rfl) ?_
       repeat (first | go_big_quiet_skip | (go_big_quiet_want;go_big_quiet_op;first | go_big_quiet_on | (apply Exists.intro;refine ⟨fun _=>?_,?_⟩;(first | (go_at_call 48;exact Calls.plus_of (HPA.out _ (by repeat (first | exact Below.refl _ _ | refine blw_alloc ?_ | refine blw_plus ?_ | refine Below.drew ?_)))) | (go_at_call 49;exact Calls.plus_of (HSN.out _ (by repeat (first | exact Below.refl _ _ | refine blw_alloc ?_ | refine blw_plus ?_ | refine Below.drew ?_)))) | (go_at_call 50;exact Calls.plus_of (HOP.out _ (by repeat (first | exact Below.refl _ _ | refine blw_alloc ?_ | refine blw_plus ?_ | refine Below.drew ?_)))));go_big_quiet_on)))
       refine wpQuiet_nil ?_
       rintro _ ⟨x9,rfl⟩
       go_wp2_with fail
       go_roundw
       case rel=>(repeat (first | apply Exists.intro));refine And.comm.mp ⟨rfl,?_⟩;exact ⟨k,j+1,a,d,rfl,by go_num,hk,by omega,HDW.out,HT.out.below (by repeat (first | exact Below.refl _ _ | refine blw_alloc ?_ | refine blw_plus ?_ | refine Below.drew ?_))⟩
       case measure=>simp [intOf];omega
    ·obtain rfl:j=ls.length:=by omega
     have hjd:decide ((ls.length:Int)<(ls.length:Int))=false:=decide_eq_false (by omega)
     go_wp2_with fail
     go_ret
     exact ⟨rfl,HT0.out.low.trans (Below.mono (B:=wr.heap.size) (by repeat (first | exact Below.refl _ _ | refine blw_alloc ?_ | refine blw_plus ?_ | refine Below.drew ?_)) HT0.out.low.size)⟩
end Go.Proofs.YtbopfhbeegkkaabGreatDoor
