/- Part 26 of a proof: lemmas and contracts that other parts use. -/
import Derived.Test.YtbopfhbeegkkaabGreatDoorSe25
import Derived.Test.YtbopfhbeegkkaabGreatDoorSe11
import Derived.Deep.DeepCutAuto
set_option linter.unusedVariables false
set_option linter.unusedSimpArgs false
set_option linter.constructorNameAsVariable false
namespace Go.Proofs.YtbopfhbeegkkaabGreatDoor
open Go.RowKit
def emptyB (d:ByteArray):Bool:=d.toList.isEmpty
def sdWriteE (d:SdP) (x:WrP):Int:=
 if d.op=false then 6 else if x.key<0∨7<x.key then 2 else if 12<x.data.size then 4 else if x.gone=true∧emptyB x.data=false then 1
 else if lastW d.W x.key=none∧5≤(allW d.W 8).length then 12 else 0
set_option maxRecDepth 20000 in
set_option maxHeartbeats 8000000 in
theorem rSWrite_any (B v:Nat) (d:SdP) (wv:Value) (x:WrP) (w:World) (h:SdAt w B v d wv) (hn:d.W.length≤900):
  Calls Tryz.prog 43 #[.pointer (some ⟨v,0,none⟩),x.val] w fun e w'=>e=.returned (.int .i64 (sdWriteE d x))∧(sdWriteE d x≠0→Below w.heap.size w w')∧
   (sdWriteE d x=0→∃ wv',SdAt w' B v { d with W:=d.W++[x] } wv'∧SiFr w w' (SdOwn v wv) (SdOwn v wv')):=by
 obtain ⟨A,c,rfl,hws⟩:=h.ws
 have HDN:Hid (∀ (n:Int) (w':World),n≠0→sdWriteE d x=n→Below w.heap.size w w'→(.returned (.int .i64 n):Ending)=.returned (.int .i64 (sdWriteE d x))∧(sdWriteE d x≠0→Below w.heap.size w w')∧(sdWriteE d x=0→∃ wv',SdAt w' B v { d with W:=d.W++[x] } wv'∧SiFr w w' (SdOwn v (.slice A d.W.length c)) (SdOwn v wv'))):=hidp (fun n w' h1 h2 h3=>⟨by rw [h2],fun _=>h3,fun e=>absurd (h2 ▸ e) h1⟩)
 have HE:Hid (sdWriteE d x=if d.op=false then 6 else if x.key<0∨7<x.key then 2 else if 12<x.data.size then 4 else if x.gone=true∧emptyB x.data=false then 1
 else if lastW d.W x.key=none∧5≤(allW d.W 8).length then 12 else 0):=hidp rfl
 have HS:=hidp h
 have hb:=h.blk
 obtain ⟨q0,q1,q2,q3,n0,n1,n2,n3,op,W⟩:=d
 obtain ⟨xk,xd,xg⟩:=x
 simp only at hb hn hws HE
 have HBX:Hid ((w.alloc (.cells #[.int .i64 xk,.string xd,.bool xg] 83)).heap[w.heap.size]?=some (.cells #[.int .i64 xk,.string xd,.bool xg] 83)):=hidp (blk_new rfl _)
 have HB1:Hid (Below w.heap.size w (w.alloc (.cells #[.int .i64 xk,.string xd,.bool xg] 83))):=hidp (blw_alloc (Below.refl _ _))
 have hb1:=(HB1.out.block v (lt_blk hb)).trans hb
 have HW1:=hidp (hws.below HB1.out)
 have c8:=cell_blk hb 8
 simp only [zC,zD,zE] at c8
 have c9:=cell_blk hb1 9
 simp only [zC,zD,zE] at c9
 have HBK:=hidp hb1
 haveI:SzGe (v+1) w:=⟨lt_blk hb⟩
 have HOWN:=hidp fun (X:World) (hB:Below (w.alloc (.cells #[.int .i64 xk,.string xd,.bool xg] 83)).heap.size (w.alloc (.cells #[.int .i64 xk,.string xd,.bool xg] 83)) X)=>own_any v A c W xk X ((hB.cell (p:=⟨v,9,none⟩) (lt_blk hb1)).trans c9) (Nat.lt_of_lt_of_le (lt_blk hb1) hB.size) (HW1.out.below hB) (by omega)
 have HALL:=hidp fun (X:World) (hB:Below (w.alloc (.cells #[.int .i64 xk,.string xd,.bool xg] 83)).heap.size (w.alloc (.cells #[.int .i64 xk,.string xd,.bool xg] 83)) X)=>allW_any v A c W X ((hB.cell (p:=⟨v,9,none⟩) (lt_blk hb1)).trans c9) (Nat.lt_of_lt_of_le (lt_blk hb1) hB.size) (HW1.out.below hB) (by omega)
 unfold WrP.val at HOWN ⊢
 clear h hb hb1 hws c9
 cases op with
 | false=>
   have HE2:Hid (sdWriteE ⟨q0,q1,q2,q3,n0,n1,n2,n3,false,W⟩ ⟨xk,xd,xg⟩=6):=hidp (by rw [HE.out];rfl)
   go_enter Tryz.func43,Tryz.ntmps43
   go_wp2_with fail
   go_ret
   exact HDN.out 6 _ (by decide) HE2.out (by repeat (first | exact Below.refl _ _ | refine blw_alloc ?_ | refine blw_plus ?_ | refine Below.drew ?_))
 | true=>
 by_cases hk:0≤xk∧xk≤7
 case neg=>
  have HE2:Hid (sdWriteE ⟨q0,q1,q2,q3,n0,n1,n2,n3,true,W⟩ ⟨xk,xd,xg⟩=2):=hidp (by rw [HE.out,if_neg (by simp),if_pos (by omega)])
  have HIN:=hidp fun X=>in_is (b:=false) X (show decide (0≤xk∧xk≤7)=false by simpa using hk)
  clear hk
  go_enter Tryz.func43,Tryz.ntmps43
  go_wp2_with fail
  go_at_call 96
  refine (HIN.out _).mono ?_
  rintro e w2 ⟨rfl,rfl⟩
  go_wp2_with fail
  go_ret
  exact HDN.out 2 _ (by decide) HE2.out (by repeat (first | exact Below.refl _ _ | refine blw_alloc ?_ | refine blw_plus ?_ | refine Below.drew ?_))
 have HIN:=hidp fun X=>in_is (b:=true) X (show decide (0≤xk∧xk≤7)=true by simpa using hk)
 have HN2:Hid (¬(xk<0∨7<xk)):=hidp (by omega)
 clear hk
 by_cases hd:12<xd.size
 ·have HE2:Hid (sdWriteE ⟨q0,q1,q2,q3,n0,n1,n2,n3,true,W⟩ ⟨xk,xd,xg⟩=4):=hidp (by rw [HE.out,if_neg (by simp),if_neg HN2.out,if_pos hd])
  have d1:decide ((12:Int)<(xd.size:Int))=true:=decide_eq_true (by omega)
  clear hd
  go_enter Tryz.func43,Tryz.ntmps43
  go_wp2_with fail
  go_at_call 96
  refine (HIN.out _).mono ?_
  rintro e w2 ⟨rfl,rfl⟩
  go_wp2_with fail
  go_ret
  exact HDN.out 4 _ (by decide) HE2.out (by repeat (first | exact Below.refl _ _ | refine blw_alloc ?_ | refine blw_plus ?_ | refine Below.drew ?_))
 have d1:decide ((12:Int)<(xd.size:Int))=false:=decide_eq_false (by omega)
 have HN3:=hidp hd
 clear hd
 by_cases hg:xg=true∧emptyB xd=false
 ·obtain ⟨rfl,he⟩:=hg
  have HE2:Hid (sdWriteE ⟨q0,q1,q2,q3,n0,n1,n2,n3,true,W⟩ ⟨xk,xd,true⟩=1):=hidp (by rw [HE.out,if_neg (by simp),if_neg HN2.out,if_neg HN3.out,if_pos ⟨rfl,he⟩])
  have he2:xd.toList.isEmpty=false:=he
  clear he
  go_enter Tryz.func43,Tryz.ntmps43
  go_wp2_with fail
  go_at_call 96
  refine (HIN.out _).mono ?_
  rintro e w2 ⟨rfl,rfl⟩
  go_wp2_with fail
  go_ret
  exact HDN.out 1 _ (by decide) HE2.out (by repeat (first | exact Below.refl _ _ | refine blw_alloc ?_ | refine blw_plus ?_ | refine Below.drew ?_))
 have HG:Hid (xg=false∨(xg=true∧xd.toList.isEmpty=true)):=hidp (by
  cases xg with
  | false=>exact .inl rfl
  | true=>refine .inr ⟨rfl,?_⟩;cases he:xd.toList.isEmpty with
    | true=>rfl
    | false=>exact absurd ⟨rfl,he⟩ hg)
 have HN4:=hidp hg
 clear hg
 obtain ⟨full,hfull⟩:∃ full:Bool,decide (lastW W xk=none∧5≤(allW W 8).length)=full:=⟨_,rfl⟩
 have HFU:=hidp hfull
 clear hfull
 go_enter Tryz.func43,Tryz.ntmps43
 go_wp2_with fail
 go_at_call 96
 refine (HIN.out _).mono ?_
 rintro e w2 ⟨rfl,rfl⟩
 have e0:=cell_blk HBX.out 0;have e1:=cell_blk HBX.out 1;have e2:=cell_blk HBX.out 2
 simp only [zC,zD,zE] at e0 e1 e2
 have hvl:=lt_blk HBK.out
 have hwl:=lt_blk HBX.out
 clear HIN
 generalize w.alloc (.cells #[.int .i64 xk,.string xd,.bool xg] 83)=W1 at *
 haveI:SzGe (v+1) W1:=⟨hvl⟩
 haveI:SzGe (w.heap.size+1) W1:=⟨hwl⟩
 go_upto_region 7 with fail
 go_cut [26] (fun s26 X=>s26=.bool false∧W1=X)
 case first=>
  rcases HG.out with hg | ⟨hg,he⟩
  ·subst hg
   go_wp2_with fail
   go_meet
   exact ⟨rfl,rfl⟩
  ·subst hg
   go_wp2_with fail
   go_meet
   exact ⟨by simp [he],rfl⟩
 case rest=>
  obtain ⟨rfl,rfl⟩:=hcut
  go_wp2_with fail
  go_at_call 95
  refine (HOWN.out _ (Below.refl _ _)).mono ?_
  rintro e w3 ⟨rfl,hb3⟩
  have HB3:=hidp hb3
  have hs3:=hb3.size
  have c9:=cell_blk ((hb3.block v hvl).trans HBK.out) 9
  simp only [zC,zD,zE] at c9
  haveI:SzGe (v+1) w3:=⟨by omega⟩
  haveI:SzGe (w.heap.size+1) w3:=⟨by omega⟩
  clear hb3 c9
  cases hl:lastW W xk with
  | some x=>
    have HE2:Hid (sdWriteE ⟨q0,q1,q2,q3,n0,n1,n2,n3,true,W⟩ ⟨xk,xd,xg⟩=0):=hidp (by rw [HE.out,if_neg (by simp),if_neg HN2.out,if_neg HN3.out,if_neg HN4.out,if_neg (by rw [hl];simp)])
    clear hl HFU
    simp only [Option.isSome_some,Option.getD_some]
    go_upto_region 12 with fail
    have HBC:Hid (Below W1.heap.size W1 (w3.alloc (.cells #[.int .i64 x.key,.string x.data,.bool x.gone] 83))):=hidp (HB3.out.trans (Below.mono (B:=w3.heap.size) (by repeat (first | exact Below.refl _ _ | refine blw_alloc ?_ | refine blw_plus ?_ | refine Below.drew ?_)) HB3.out.size))
    clear HB3 hs3
    generalize w3.alloc (.cells #[.int .i64 x.key,.string x.data,.bool x.gone] 83)=wc at *
    have hbv:=(HBC.out.block v hvl).trans HBK.out
    have hbb:=(HBC.out.block w.heap.size hwl).trans HBX.out
    have HB4:=hidp (HB1.out.trans (HBC.out.mono HB1.out.size))
    have HS4:=hidp (HS.out.below HB4.out)
    have HOW:=hidp HS4.out.own
    simp only at HOW
    have HBV:=hidp hbv
    have c9:=cell_blk hbv 9
    have z9:=frozen_blk hbv 9
    have e0:=cell_blk hbb 0;have e1:=cell_blk hbb 1;have e2:=cell_blk hbb 2
    simp only [zC,zD,zE] at c9 e0 e1 e2
    haveI:SzGe (v+1) wc:=⟨lt_blk hbv⟩
    haveI:SzGe (w.heap.size+1) wc:=⟨lt_blk hbb⟩
    have hB4:B≤wc.heap.size:=Nat.le_trans HS.out.bx (Nat.le_of_lt (lt_blk hbv))
    have hvc:=lt_blk hbv
    have hng:=HS.out.ng
    clear hbv hbb HDN HE HALL HOWN HN2 HN3 HN4 HG
    go_upto_region 12 with fail
    go_region_law (
     refine step_append_wr _ rfl (.tmp 46) (.tmp 48) rfl B (.slice A W.length c) W.length W (by simp [Act.eval,Act.put]) (own_below HOW.out (by repeat (first | exact Below.refl _ _ | refine blw_alloc ?_ | refine blw_plus ?_ | refine Below.drew ?_)) (fun j e=>(own_ge HOW.out e).2)) (some ⟨wc.heap.size,0,none⟩) 1 [(⟨xk,xd,xg⟩:WrP)] (by simp [Act.eval,Act.put]) (ws_one (m:=⟨xk,xd,xg⟩) (show (wc.alloc (.cells #[.int .i64 xk,.string xd,.bool xg] 83)).heap[wc.heap.size]?=some (.cells #[.int .i64 xk,.string xd,.bool xg] 83) from blk_new rfl _)) (by show W.length+1≤1000;omega) (by simp;omega) rfl ?_
     intro A6 c6 w6 hown6 hgrow6 hat6
     have hg:wc.grownBy w6 (Value.slice A W.length c).ownBlock:=by first | exact grown_alloc (grown_drew (grown_drew hgrow6)) | exact grown_alloc (grown_drew hgrow6) | exact grown_drew (grown_alloc hgrow6) | exact grown_drew (grown_alloc (grown_drew hgrow6)) | exact grown_drew (grown_drew (grown_alloc hgrow6))
     have HO6:=hidp hown6
     have HG6:=hidp hg
     have HA6:Hid (((Value.slice A6 (W++[(⟨xk,xd,xg⟩:WrP)]).length c6).ownBlock=(Value.slice A W.length c).ownBlock)∨(Value.slice A6 (W++[(⟨xk,xd,xg⟩:WrP)]).length c6).ownBlock=some (wc.heap.size+1)):=hidp (by
      rcases hat6 with e | e
      ·exact .inl e
      ·exact .inr (by rw [e];simp [heap_drew]))
     have q1:w6.cell? ⟨v,9,none⟩=some (.slice A W.length c):=by rw [World.cell?_of_block (a:=⟨v,9,none⟩) (hg.block v hvc (fun e=>hng e.symm))];exact c9
     have q2:w6.frozen? ⟨v,9,none⟩=false:=by rw [World.frozen?_of_block (a:=⟨v,9,none⟩) (hg.block v hvc (fun e=>hng e.symm))];exact z9
     haveI hs6:SzGe (v+1) w6:=⟨by have:=hg.size;omega⟩
     obtain ⟨n6,hn6⟩:∃ n6,(W++[(⟨xk,xd,xg⟩:WrP)]).length=n6:=⟨_,rfl⟩
     have HN6:=hidp hn6
     rw [hn6]
     clear hown6 hgrow6 hat6 hg hn6)
    all_goals
     go_wp2_with fail
     go_ret
     refine ⟨by rw [HE2.out];rfl,fun e=>absurd HE2.out e,fun _=>?_⟩
     refine ⟨.slice A6 n6 c6,?_⟩
     have hng6:(Value.slice A6 n6 c6).ownBlock≠some v:=by
      rw [←HN6.out]
      rcases HA6.out with e | e
      ·rw [e];exact hng
      ·rw [e];simp;omega
     have hb6:=(HG6.out.block v hvc (fun e=>hng e.symm)).trans HBV.out
     have e9:=blk_set hb6 9 (.slice A6 n6 c6)
     simp only [List.setIfInBounds_toArray,List.set_cons_zero,List.set_cons_succ] at e9
     refine ⟨⟨e9,?_,HS.out.bx,hng6⟩,?_⟩
     ·have ho:=HO6.out
      rw [HN6.out] at ho
      show World.ownsRow _ B 83 3 (.slice A6 n6 c6) (W++[(⟨xk,xd,xg⟩:WrP)]).length ((W++[(⟨xk,xd,xg⟩:WrP)]).flatMap wcs)
      rw [HN6.out]
      exact ho.kept (grown_set w6 v 9 _) (.inr hng6)
     ·have f1:SiFr wc w6 (SdOwn v (.slice A W.length c)) (SdOwn v (.slice A6 n6 c6)):=⟨HG6.out.os,HG6.out.tape,HG6.out.output,HG6.out.size,fun k hk hn=>HG6.out.block k hk (fun e=>hn (.inr e.symm)),fun b hb=>by
       rcases hb with e | e
       ·exact .inl (.inl e)
       ·rw [←HN6.out] at e
        rcases HA6.out with e2 | e2
        ·exact .inl (.inr (by rw [←e2];exact e))
        ·rw [e2] at e;simp at e;exact .inr (by omega)⟩
      exact ((SiFr.of_below _ HB4.out).trans f1).trans (SiFr.setD _)
  | none=>
    have HA8:=hidp (HALL.out _ (HB3.out.trans (Below.mono (B:=w3.heap.size) (show Below w3.heap.size w3 (w3.alloc (.cells #[.int .i64 0,.string ⟨#[]⟩,.bool false] 83)) from zB) HB3.out.size)))
    by_cases h5:5≤(allW W 8).length
    ·have HE2:Hid (sdWriteE ⟨q0,q1,q2,q3,n0,n1,n2,n3,true,W⟩ ⟨xk,xd,xg⟩=12):=hidp (by rw [HE.out,if_neg (by simp),if_neg HN2.out,if_neg HN3.out,if_neg HN4.out,if_pos ⟨hl,h5⟩])
     have d5:decide ((5:Int)≤((allW W 8).length:Int))=true:=decide_eq_true (by omega)
     clear hl h5 HFU
     simp only [Option.isSome_none,Option.getD_none,wrZ]
     generalize allW W 8=al at *
     go_wp2_with fail
     go_at_call 97
     refine HA8.out.mono ?_
     rintro e w5 ⟨A5,c5,rfl,_,hb5⟩
     have HB5:=hidp ((HB3.out.trans (Below.mono (B:=w3.heap.size) (show Below w3.heap.size w3 (w3.alloc (.cells #[.int .i64 0,.string ⟨#[]⟩,.bool false] 83)) from zB) HB3.out.size)).trans (hb5.mono (by simp;have:=HB3.out.size;omega)))
     clear hb5
     go_wp2_with fail
     go_ret
     exact HDN.out 12 _ (by decide) HE2.out (HB1.out.trans (HB5.out.mono HB1.out.size))
    ·have HE2:Hid (sdWriteE ⟨q0,q1,q2,q3,n0,n1,n2,n3,true,W⟩ ⟨xk,xd,xg⟩=0):=hidp (by rw [HE.out,if_neg (by simp),if_neg HN2.out,if_neg HN3.out,if_neg HN4.out,if_neg (fun e=>h5 e.2)])
     have d5:decide ((5:Int)≤((allW W 8).length:Int))=false:=decide_eq_false (by omega)
     clear hl h5 HFU
     simp only [Option.isSome_none,Option.getD_none,wrZ]
     generalize allW W 8=al at *
     go_wp2_with fail
     go_at_call 97
     refine HA8.out.mono ?_
     rintro e wc ⟨A5,c5,rfl,_,hb5⟩
     have HBC:=hidp ((HB3.out.trans (Below.mono (B:=w3.heap.size) (show Below w3.heap.size w3 (w3.alloc (.cells #[.int .i64 0,.string ⟨#[]⟩,.bool false] 83)) from zB) HB3.out.size)).trans (hb5.mono (by simp;have:=HB3.out.size;omega)))
     clear hb5 HB3 hs3 HA8
     have hbv:=(HBC.out.block v hvl).trans HBK.out
     have hbb:=(HBC.out.block w.heap.size hwl).trans HBX.out
     have HB4:=hidp (HB1.out.trans (HBC.out.mono HB1.out.size))
     have HS4:=hidp (HS.out.below HB4.out)
     have HOW:=hidp HS4.out.own
     simp only at HOW
     have HBV:=hidp hbv
     have c9:=cell_blk hbv 9
     have z9:=frozen_blk hbv 9
     have e0:=cell_blk hbb 0;have e1:=cell_blk hbb 1;have e2:=cell_blk hbb 2
     simp only [zC,zD,zE] at c9 e0 e1 e2
     haveI:SzGe (v+1) wc:=⟨lt_blk hbv⟩
     haveI:SzGe (w.heap.size+1) wc:=⟨lt_blk hbb⟩
     have hB4:B≤wc.heap.size:=Nat.le_trans HS.out.bx (Nat.le_of_lt (lt_blk hbv))
     have hvc:=lt_blk hbv
     have hng:=HS.out.ng
     clear hbv hbb HDN HE HALL HOWN HN2 HN3 HN4 HG
     go_upto_region 12 with fail
     go_region_law (
      refine step_append_wr _ rfl (.tmp 46) (.tmp 48) rfl B (.slice A W.length c) W.length W (by simp [Act.eval,Act.put]) (own_below HOW.out (by repeat (first | exact Below.refl _ _ | refine blw_alloc ?_ | refine blw_plus ?_ | refine Below.drew ?_)) (fun j e=>(own_ge HOW.out e).2)) (some ⟨wc.heap.size,0,none⟩) 1 [(⟨xk,xd,xg⟩:WrP)] (by simp [Act.eval,Act.put]) (ws_one (m:=⟨xk,xd,xg⟩) (show (wc.alloc (.cells #[.int .i64 xk,.string xd,.bool xg] 83)).heap[wc.heap.size]?=some (.cells #[.int .i64 xk,.string xd,.bool xg] 83) from blk_new rfl _)) (by show W.length+1≤1000;omega) (by simp;omega) rfl ?_
      intro A6 c6 w6 hown6 hgrow6 hat6
      have hg:wc.grownBy w6 (Value.slice A W.length c).ownBlock:=by first | exact grown_alloc (grown_drew (grown_drew hgrow6)) | exact grown_alloc (grown_drew hgrow6) | exact grown_drew (grown_alloc hgrow6) | exact grown_drew (grown_alloc (grown_drew hgrow6)) | exact grown_drew (grown_drew (grown_alloc hgrow6))
      have HO6:=hidp hown6
      have HG6:=hidp hg
      have HA6:Hid (((Value.slice A6 (W++[(⟨xk,xd,xg⟩:WrP)]).length c6).ownBlock=(Value.slice A W.length c).ownBlock)∨(Value.slice A6 (W++[(⟨xk,xd,xg⟩:WrP)]).length c6).ownBlock=some (wc.heap.size+1)):=hidp (by
       rcases hat6 with e | e
       ·exact .inl e
       ·exact .inr (by rw [e];simp [heap_drew]))
      have q1:w6.cell? ⟨v,9,none⟩=some (.slice A W.length c):=by rw [World.cell?_of_block (a:=⟨v,9,none⟩) (hg.block v hvc (fun e=>hng e.symm))];exact c9
      have q2:w6.frozen? ⟨v,9,none⟩=false:=by rw [World.frozen?_of_block (a:=⟨v,9,none⟩) (hg.block v hvc (fun e=>hng e.symm))];exact z9
      haveI hs6:SzGe (v+1) w6:=⟨by have:=hg.size;omega⟩
      obtain ⟨n6,hn6⟩:∃ n6,(W++[(⟨xk,xd,xg⟩:WrP)]).length=n6:=⟨_,rfl⟩
      have HN6:=hidp hn6
      rw [hn6]
      clear hown6 hgrow6 hat6 hg hn6)
     all_goals
      go_wp2_with fail
      go_ret
      refine ⟨by rw [HE2.out];rfl,fun e=>absurd HE2.out e,fun _=>?_⟩
      refine ⟨.slice A6 n6 c6,?_⟩
      have hng6:(Value.slice A6 n6 c6).ownBlock≠some v:=by
       rw [←HN6.out]
       rcases HA6.out with e | e
       ·rw [e];exact hng
       ·rw [e];simp;omega
      have hb6:=(HG6.out.block v hvc (fun e=>hng e.symm)).trans HBV.out
      have e9:=blk_set hb6 9 (.slice A6 n6 c6)
      simp only [List.setIfInBounds_toArray,List.set_cons_zero,List.set_cons_succ] at e9
      refine ⟨⟨e9,?_,HS.out.bx,hng6⟩,?_⟩
      ·have ho:=HO6.out
       rw [HN6.out] at ho
       show World.ownsRow _ B 83 3 (.slice A6 n6 c6) (W++[(⟨xk,xd,xg⟩:WrP)]).length ((W++[(⟨xk,xd,xg⟩:WrP)]).flatMap wcs)
       rw [HN6.out]
       exact ho.kept (grown_set w6 v 9 _) (.inr hng6)
      ·have f1:SiFr wc w6 (SdOwn v (.slice A W.length c)) (SdOwn v (.slice A6 n6 c6)):=⟨HG6.out.os,HG6.out.tape,HG6.out.output,HG6.out.size,fun k hk hn=>HG6.out.block k hk (fun e=>hn (.inr e.symm)),fun b hb=>by
        rcases hb with e | e
        ·exact .inl (.inl e)
        ·rw [←HN6.out] at e
         rcases HA6.out with e2 | e2
         ·exact .inl (.inr (by rw [←e2];exact e))
         ·rw [e2] at e;simp at e;exact .inr (by omega)⟩
       exact ((SiFr.of_below _ HB4.out).trans f1).trans (SiFr.setD _)
end Go.Proofs.YtbopfhbeegkkaabGreatDoor
