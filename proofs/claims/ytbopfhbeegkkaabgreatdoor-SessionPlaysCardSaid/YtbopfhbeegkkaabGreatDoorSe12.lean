/- Part 12 of a proof: lemmas and contracts that other parts use. -/
import Derived.Test.YtbopfhbeegkkaabGreatDoorSe11
set_option linter.unusedVariables false
set_option linter.unusedSimpArgs false
set_option linter.constructorNameAsVariable false
namespace Go.Proofs.YtbopfhbeegkkaabGreatDoor
open Go.RowKit
def ver6 (W:World) (b:Nat) (v:VerP):World:=
 (((((W.setCell ⟨b,0,none⟩ (.int .i64 v.w)).setCell ⟨b,1,none⟩ (.int .i64 v.c)).setCell ⟨b,2,none⟩ (.int .i64 v.site)).setCell ⟨b,3,none⟩ (.int .i64 v.seq)).setCell ⟨b,4,none⟩ (.string v.data)).setCell ⟨b,5,none⟩ (.bool v.gone)
theorem ver6_spec {W:World} {b:Nat} {u:VerP} (v:VerP) (h:W.heap[b]?=some (.cells #[.int .i64 u.w,.int .i64 u.c,.int .i64 u.site,.int .i64 u.seq,.string u.data,.bool u.gone] 59)):
  (ver6 W b v).heap[b]?=some (.cells #[.int .i64 v.w,.int .i64 v.c,.int .i64 v.site,.int .i64 v.seq,.string v.data,.bool v.gone] 59)∧Below b W (ver6 W b v)∧(∀ k,k≠b→(ver6 W b v).heap[k]?=W.heap[k]?)∧(ver6 W b v).heap.size=W.heap.size:=by
 have h0:=blk_set h 0 (.int .i64 v.w)
 have h1:=blk_set h0 1 (.int .i64 v.c)
 have h2:=blk_set h1 2 (.int .i64 v.site)
 have h3:=blk_set h2 3 (.int .i64 v.seq)
 have h4:=blk_set h3 4 (.string v.data)
 have h5:=blk_set h4 5 (.bool v.gone)
 refine ⟨h5,?_,?_,?_⟩
 ·exact ((((((Below.refl b W).setCell (p:=⟨b,0,none⟩) (by simp) _).setCell (p:=⟨b,1,none⟩) (by simp) _).setCell (p:=⟨b,2,none⟩) (by simp) _).setCell (p:=⟨b,3,none⟩) (by simp) _).setCell (p:=⟨b,4,none⟩) (by simp) _).setCell (p:=⟨b,5,none⟩) (by simp) _
 ·intro k hk
  have g:∀ (X:World) (o:Nat) (v:Value),(X.setCell ⟨b,o,none⟩ v).heap[k]?=X.heap[k]?:=fun X o v=>by
   simp only [World.setCell]
   rw [Array.getElem?_modify,if_neg (by omega)]
  unfold ver6
  rw [g,g,g,g,g,g]
 ·simp [ver6,World.setCell]
structure LsSt (w wr:World) (n:Nat) (a0 a1 a2 a3:Int) (b:VerP):Prop where
 bx:wr.heap[n]?=some (.cells #[.int .i64 a0,.int .i64 a1,.int .i64 a2,.int .i64 a3] 32)
 res:wr.heap[n+1]?=some (.cells #[.int .i64 0,.int .i64 0,.int .i64 0,.int .i64 0,.string ⟨#[]⟩,.bool false] 59)
 best:wr.heap[n+1+1]?=some (.cells #[.int .i64 b.w,.int .i64 b.c,.int .i64 b.site,.int .i64 b.seq,.string b.data,.bool b.gone] 59)
 low:Below n w wr
theorem LsSt.below {w wr wr':World} {n:Nat} {a0 a1 a2 a3:Int} {b:VerP} (h:LsSt w wr n a0 a1 a2 a3 b) (hb:Below wr.heap.size wr wr'):LsSt w wr' n a0 a1 a2 a3 b:=
 ⟨(hb.block _ (lt_blk h.bx)).trans h.bx,(hb.block _ (lt_blk h.res)).trans h.res,(hb.block _ (lt_blk h.best)).trans h.best,h.low.trans (hb.mono (by have:=lt_blk h.bx;omega))⟩
theorem LsSt.set {w wr:World} {n:Nat} {a0 a1 a2 a3:Int} {b:VerP} (h:LsSt w wr n a0 a1 a2 a3 b) (v:VerP):LsSt w (ver6 wr (n+1+1) v) n a0 a1 a2 a3 v:=by
 obtain ⟨h1,h2,h3,h4⟩:=ver6_spec v h.best
 exact ⟨(h3 n (by omega)).trans h.bx,(h3 (n+1) (by omega)).trans h.res,h1,h.low.trans (h2.mono (by omega))⟩
set_option maxRecDepth 20000 in
set_option maxHeartbeats 8000000 in
theorem rLast_any (r o B:Nat) (L:List PtP) (v:Value) (key a0 a1 a2 a3:Int) (w:World) (hst:RfAt w r o B L v) (hok:∀ p∈L,0≤p.v.site∧p.v.site<4) (hlen:L.length≤900000):
  Calls Tryz.prog 90 #[.pointer (some ⟨r,o,none⟩),.int .i64 key,.agg #[.int .i64 a0,.int .i64 a1,.int .i64 a2,.int .i64 a3]] w fun e w'=>
   e=.returned (.tuple #[verV (rLast a0 a1 a2 a3 key L).1,.bool (rLast a0 a1 a2 a3 key L).2])∧Below w.heap.size w w':=by
 obtain ⟨A,c,rfl⟩:=own_form hst.own
 have HPS:=hidp (own_puts hst.own)
 have HOK:=hidp hok
 obtain ⟨hc1,hc2⟩:=hst.cell
 have hlr:=hst.lt
 haveI:SzGe (r+1) w:=⟨hlr⟩
 clear hst hok
 obtain ⟨F,hF⟩:∃ F,rLast a0 a1 a2 a3 key L=F:=⟨_,rfl⟩
 have HF:=hidp hF
 rw [hF]
 clear hF
 have HL0:=hidp (show LsSt w (((w.alloc (.cells #[.int .i64 a0,.int .i64 a1,.int .i64 a2,.int .i64 a3] 32)).alloc (.cells #[.int .i64 0,.int .i64 0,.int .i64 0,.int .i64 0,.string ⟨#[]⟩,.bool false] 59)).alloc (.cells #[.int .i64 0,.int .i64 0,.int .i64 0,.int .i64 0,.string ⟨#[]⟩,.bool false] 59)) w.heap.size a0 a1 a2 a3 verZ from
  ⟨blk_alloc (blk_alloc (blk_new rfl _) _) _,blk_alloc (blk_new (by simp) _) _,blk_new (by simp) _,zB⟩)
 go_enter Tryz.func90,Tryz.ntmps90
 go_wp2_with fail
 go_loopw [9,17] (fun s i wr=>∃ (j:Nat) (best:VerP) (sm:Bool),i=.int .i64 j∧s=.bool sm∧j≤L.length∧LsSt w wr w.heap.size a0 a1 a2 a3 best∧rlGo a0 a1 a2 a3 key (L.drop j) best sm=F) (fun _ i _=>L.length-(intOf i).toNat)
 case atStart=>exact ⟨0,verZ,false,rfl,rfl,Nat.zero_le _,HL0.out,by rw [List.drop_zero];exact HF.out⟩
 case round=>
  obtain ⟨j,best,sm,rfl,rfl,hj,hst,hgo⟩:=hrel
  have HST:=hidp hst
  have HGO:=hidp hgo
  clear hst hgo
  by_cases hjl:j<L.length
  ·obtain ⟨b,o,rfl,hb,hc⟩:=HPS.out j L[j] (List.getElem?_eq_getElem hjl)
   have hys:=HOK.out L[j] (List.getElem_mem hjl)
   have hdrop:L.drop j=L[j]::L.drop (j+1):=List.drop_eq_getElem_cons hjl
   have hgo:=HGO.out
   rw [hdrop] at hgo
   generalize L[j]=p at *
   obtain ⟨pk,⟨pw,pc,ps,pq,pd,pg⟩⟩:=p
   simp only at hys
   obtain ⟨st,rfl⟩:=Int.eq_ofNat_of_zero_le hys.1
   have hst4:st<4:=by omega
   obtain ⟨d0,d1,d2,d3,d4,d5,d6⟩:=hc.below HST.out.low hb
   have hat:=at_cell HST.out.bx hst4
   obtain ⟨aS,haS⟩:∃ aS,atV a0 a1 a2 a3 (st:Int)=aS:=⟨_,rfl⟩
   rw [haS] at hat
   have hsn:seenV a0 a1 a2 a3 ⟨pw,pc,(st:Int),pq,pd,pg⟩=decide (pq≤aS):=by unfold seenV;rw [←haS]
   have hgo2:(if pk=key∧decide (pq≤aS)=true∧(sm=false∨cmpV best ⟨pw,pc,(st:Int),pq,pd,pg⟩<0) then rlGo a0 a1 a2 a3 key (L.drop (j+1)) ⟨pw,pc,(st:Int),pq,pd,pg⟩ true else rlGo a0 a1 a2 a3 key (L.drop (j+1)) best sm)=F:=by
    rw [←hgo,←hsn];rfl
   have HG2:=hidp hgo2
   have HW:=hidp HST.out.low
   haveI:SzGe (b+1) wr:=⟨Nat.le_trans hb HW.out.size⟩
   haveI:SzGe (w.heap.size+1) wr:=⟨lt_blk HST.out.bx⟩
   have hlb:=lt_blk HST.out.best
   haveI:SzGe (w.heap.size+1+1) wr:=⟨by omega⟩
   haveI:SzGe (w.heap.size+1+1+1) wr:=⟨hlb⟩
   have b0:=cell_blk HST.out.best 0;have b1:=cell_blk HST.out.best 1;have b2:=cell_blk HST.out.best 2;have b3:=cell_blk HST.out.best 3;have b4:=cell_blk HST.out.best 4;have b5:=cell_blk HST.out.best 5
   simp only [zC,zD,zE] at b0 b1 b2 b3 b4 b5
   have z0:=frozen_blk HST.out.best 0;have z1:=frozen_blk HST.out.best 1;have z2:=frozen_blk HST.out.best 2;have z3:=frozen_blk HST.out.best 3;have z4:=frozen_blk HST.out.best 4;have z5:=frozen_blk HST.out.best 5
   clear hgo hgo2 hsn haS hdrop hc hys HGO HL0
   by_cases hk:pk=key
   ·have hd1:(pk==key)=true:=by simp [hk]
    have HK:=hidp hk
    clear hk
    by_cases hs:pq≤aS
    ·have hd2:decide (pq≤aS)=true:=decide_eq_true hs
     have HS:=hidp hs
     clear hs
     cases sm
     ·have HG3:Hid (rlGo a0 a1 a2 a3 key (L.drop (j+1)) ⟨pw,pc,(st:Int),pq,pd,pg⟩ true=F):=hidp (by rw [←HG2.out,if_pos (⟨HK.out,decide_eq_true HS.out,.inl rfl⟩)])
      clear HG2
      go_wp2_with fail
      refine wp_region_plus (by kernel_rfl) (by kernel_rfl) ?_
      repeat (first | go_big_quiet_skip | (go_big_quiet_want;go_big_quiet_op;first | go_big_quiet_on | (apply Exists.intro;refine ⟨fun _=>?_,?_⟩;(go_at_call 141;exact Calls.plus_of (HBF.out _));go_big_quiet_on)))
      refine wpQuiet_nil ?_
      rintro _ ⟨x3,rfl⟩
      go_wp2_with fail
      go_roundw
      case rel=>
       refine ⟨j+1,⟨pw,pc,(st:Int),pq,pd,pg⟩,true,by go_num,rfl,by omega,LsSt.below (HST.out.set ⟨pw,pc,(st:Int),pq,pd,pg⟩) ?_,HG3.out⟩
       show Below _ (ver6 wr (w.heap.size+1+1) ⟨pw,pc,(st:Int),pq,pd,pg⟩) (wplus ((ver6 wr (w.heap.size+1+1) ⟨pw,pc,(st:Int),pq,pd,pg⟩).alloc _) x3)
       generalize ver6 wr (w.heap.size+1+1) ⟨pw,pc,(st:Int),pq,pd,pg⟩=X
       exact (by repeat (first | exact Below.refl _ _ | refine blw_alloc ?_ | refine blw_plus ?_ | refine Below.drew ?_))
      case measure=>simp [intOf];omega
     ·have HBF:=hidp fun W=>before_any best ⟨pw,pc,(st:Int),pq,pd,pg⟩ W
      unfold verV at HBF
      by_cases hc:cmpV best ⟨pw,pc,(st:Int),pq,pd,pg⟩<0
      ·have HCV:=hidp hc
       rw [decide_eq_true hc] at HBF
       clear hc
       have HG3:Hid (rlGo a0 a1 a2 a3 key (L.drop (j+1)) ⟨pw,pc,(st:Int),pq,pd,pg⟩ true=F):=hidp (by rw [←HG2.out,if_pos (⟨HK.out,decide_eq_true HS.out,.inr HCV.out⟩)])
       clear HG2
       go_wp2_with fail
       refine wp_region_plus (by kernel_rfl) (by kernel_rfl) ?_
       repeat (first | go_big_quiet_skip | (go_big_quiet_want;go_big_quiet_op;first | go_big_quiet_on | (apply Exists.intro;refine ⟨fun _=>?_,?_⟩;(go_at_call 141;exact Calls.plus_of (HBF.out _));go_big_quiet_on)))
       refine wpQuiet_nil ?_
       rintro _ ⟨x3,rfl⟩
       go_wp2_with fail
       go_roundw
       case rel=>
        refine ⟨j+1,⟨pw,pc,(st:Int),pq,pd,pg⟩,true,by go_num,rfl,by omega,LsSt.below (HST.out.set ⟨pw,pc,(st:Int),pq,pd,pg⟩) ?_,HG3.out⟩
        show Below _ (ver6 wr (w.heap.size+1+1) ⟨pw,pc,(st:Int),pq,pd,pg⟩) (wplus ((ver6 wr (w.heap.size+1+1) ⟨pw,pc,(st:Int),pq,pd,pg⟩).alloc _) x3)
        generalize ver6 wr (w.heap.size+1+1) ⟨pw,pc,(st:Int),pq,pd,pg⟩=X
        exact (by repeat (first | exact Below.refl _ _ | refine blw_alloc ?_ | refine blw_plus ?_ | refine Below.drew ?_))
       case measure=>simp [intOf];omega
      ·have HCV:=hidp hc
       rw [decide_eq_false hc] at HBF
       clear hc
       have HG3:Hid (rlGo a0 a1 a2 a3 key (L.drop (j+1)) best true=F):=hidp (by rw [←HG2.out,if_neg (by rintro ⟨_,_,h⟩;exact h.elim (fun e=>by cases e) HCV.out)])
       clear HG2
       go_wp2_with fail
       refine wp_region_plus (by kernel_rfl) (by kernel_rfl) ?_
       repeat (first | go_big_quiet_skip | (go_big_quiet_want;go_big_quiet_op;first | go_big_quiet_on | (apply Exists.intro;refine ⟨fun _=>?_,?_⟩;(go_at_call 141;exact Calls.plus_of (HBF.out _));go_big_quiet_on)))
       refine wpQuiet_nil ?_
       rintro _ ⟨x3,rfl⟩
       go_wp2_with fail
       go_roundw
       case rel=>exact ⟨j+1,best,true,by go_num,rfl,by omega,HST.out.below (by repeat (first | exact Below.refl _ _ | refine blw_alloc ?_ | refine blw_plus ?_ | refine Below.drew ?_)),HG3.out⟩
       case measure=>simp [intOf];omega
    ·have hd2:decide (pq≤aS)=false:=decide_eq_false hs
     have HS:=hidp hs
     clear hs
     have HG3:Hid (rlGo a0 a1 a2 a3 key (L.drop (j+1)) best sm=F):=hidp (by rw [←HG2.out,if_neg (by rintro ⟨_,h,_⟩;exact HS.out (of_decide_eq_true h))])
     clear HG2
     go_wp2_with fail
     refine wp_region_plus (by kernel_rfl) (by kernel_rfl) ?_
     repeat (first | go_big_quiet_skip | (go_big_quiet_want;go_big_quiet_op;first | go_big_quiet_on | (apply Exists.intro;refine ⟨fun _=>?_,?_⟩;(go_at_call 141;exact Calls.plus_of (HBF.out _));go_big_quiet_on)))
     refine wpQuiet_nil ?_
     rintro _ ⟨x3,rfl⟩
     go_wp2_with fail
     go_roundw
     case rel=>exact ⟨j+1,best,sm,by go_num,rfl,by omega,HST.out.below (by repeat (first | exact Below.refl _ _ | refine blw_alloc ?_ | refine blw_plus ?_ | refine Below.drew ?_)),HG3.out⟩
     case measure=>simp [intOf];omega
   ·have hd1:(pk==key)=false:=by simpa using hk
    have HK:=hidp hk
    clear hk
    have HG3:Hid (rlGo a0 a1 a2 a3 key (L.drop (j+1)) best sm=F):=hidp (by rw [←HG2.out,if_neg (by rintro ⟨h,_⟩;exact HK.out h)])
    clear HG2
    go_wp2_with fail
    refine wp_region_plus (by kernel_rfl) (by kernel_rfl) ?_
    repeat (first | go_big_quiet_skip | (go_big_quiet_want;go_big_quiet_op;first | go_big_quiet_on | (apply Exists.intro;refine ⟨fun _=>?_,?_⟩;(go_at_call 141;exact Calls.plus_of (HBF.out _));go_big_quiet_on)))
    refine wpQuiet_nil ?_
    rintro _ ⟨x3,rfl⟩
    go_wp2_with fail
    go_roundw
    case rel=>exact ⟨j+1,best,sm,by go_num,rfl,by omega,HST.out.below (by repeat (first | exact Below.refl _ _ | refine blw_alloc ?_ | refine blw_plus ?_ | refine Below.drew ?_)),HG3.out⟩
    case measure=>simp [intOf];omega
  ·obtain rfl:j=L.length:=by omega
   have hgo:=HGO.out
   rw [List.drop_length] at hgo
   obtain rfl:(best,sm)=F:=hgo
   have hbs:=lt_blk HST.out.best
   have b0:=cell_blk HST.out.best 0;have b1:=cell_blk HST.out.best 1;have b2:=cell_blk HST.out.best 2;have b3:=cell_blk HST.out.best 3;have b4:=cell_blk HST.out.best 4;have b5:=cell_blk HST.out.best 5
   simp only [zC,zD,zE] at b0 b1 b2 b3 b4 b5
   have z0:=frozen_blk HST.out.res 0;have z1:=frozen_blk HST.out.res 1;have z2:=frozen_blk HST.out.res 2;have z3:=frozen_blk HST.out.res 3;have z4:=frozen_blk HST.out.res 4;have z5:=frozen_blk HST.out.res 5
   have r0:=cell_blk HST.out.res 0;have r1:=cell_blk HST.out.res 1;have r2:=cell_blk HST.out.res 2;have r3:=cell_blk HST.out.res 3;have r4:=cell_blk HST.out.res 4;have r5:=cell_blk HST.out.res 5
   simp only [zC,zD,zE] at r0 r1 r2 r3 r4 r5
   haveI:SzGe (w.heap.size+1+1+1) wr:=⟨hbs⟩
   haveI:SzGe (w.heap.size+1+1) wr:=⟨by omega⟩
   have HLW:=hidp HST.out.low
   clear HL0 HGO hj hjl
   go_wp2_with fail
   obtain ⟨p1,p2,_,_⟩:=ver6_spec (u:=verZ) best HST.out.res
   generalize hW1:World.setCell _ _ (Value.bool best.gone)=W1
   replace hW1:ver6 wr (w.heap.size+1) best=W1:=hW1
   rw [hW1] at p1 p2
   have q0:=cell_blk p1 0;have q1:=cell_blk p1 1;have q2:=cell_blk p1 2;have q3:=cell_blk p1 3;have q4:=cell_blk p1 4;have q5:=cell_blk p1 5
   simp only [zC,zD,zE] at q0 q1 q2 q3 q4 q5
   refine bodyPost_ret (v:=.tuple #[verV best,.bool sm]) ?_ rfl ⟨rfl,HLW.out.trans (p2.mono (by omega))⟩
   simp [results,Tryz.results90,go_sem,q0,q1,q2,q3,q4,q5,verV]
set_option maxRecDepth 20000 in
set_option maxHeartbeats 8000000 in
theorem rRead_any (r o B:Nat) (L:List PtP) (v:Value) (key a0 a1 a2 a3:Int) (w:World) (hst:RfAt w r o B L v) (hok:∀ p∈L,0≤p.v.site∧p.v.site<4) (hlen:L.length≤900000):
  Calls Tryz.prog 91 #[.pointer (some ⟨r,o,none⟩),.int .i64 key,.agg #[.int .i64 a0,.int .i64 a1,.int .i64 a2,.int .i64 a3]] w fun e w'=>
   e=.returned (.tuple #[verV (rRead a0 a1 a2 a3 L key).1,.int .i64 (rRead a0 a1 a2 a3 L key).2])∧Below w.heap.size w w':=by
 obtain ⟨F,hF⟩:∃ F,rRead a0 a1 a2 a3 L key=F:=⟨_,rfl⟩
 rw [hF]
 have HF:=hidp hF
 clear hF
 have HL:=hidp fun w' (hb:Below w.heap.size w w')=>rLast_any r o B L v key a0 a1 a2 a3 w' (hst.below hb) hok hlen
 clear hst hok hlen
 by_cases hk:0≤key∧key≤7
 ·obtain ⟨⟨⟨bw,bc,bs,bq,bd,bg⟩,sm⟩,hR⟩:∃ R,rLast a0 a1 a2 a3 key L=R:=⟨_,rfl⟩
  rw [hR] at HL
  have hF2:=HF.out
  unfold rRead at hF2
  rw [if_neg (by omega),hR] at hF2
  have HI:=hidp fun w=>in_is (n:=key) (lo:=0) (hi:=7) (b:=true) w (decide_eq_true hk)
  unfold verV at HL
  have HF2:=hidp hF2
  clear hF2 hR HF hk
  cases sm
  case false=>
   have HF3:Hid ((verZ,(8:Int))=F):=hidp (by have:=HF2.out;simpa using this)
   clear HF2
   go_enter Tryz.func91,Tryz.ntmps91
   go_wp2_with (first | (go_at_call 96;refine (HI.out _).mono ?_;rintro e w' ⟨rfl,rfl⟩) | (go_at_call 90;go_must (refine (HL.out _ (by repeat (first | exact Below.refl _ _ | refine blw_alloc ?_ | refine blw_plus ?_ | refine Below.drew ?_))).mono ?_;rintro e w' ⟨rfl,hb⟩;obtain ⟨x,rfl⟩:=wplus_of_below hb;clear hb)))
   refine bodyPost_ret (v:=.tuple #[verV verZ,.int .i64 8]) ?_ rfl ⟨by rw [←HF3.out],zB⟩
   simp [results,Tryz.results91,go_sem,verV,verZ]
  case true=>
   cases bg
   case true=>
    have HF3:Hid ((verZ,(8:Int))=F):=hidp (by have:=HF2.out;simpa using this)
    clear HF2
    go_enter Tryz.func91,Tryz.ntmps91
    go_wp2_with (first | (go_at_call 96;refine (HI.out _).mono ?_;rintro e w' ⟨rfl,rfl⟩) | (go_at_call 90;go_must (refine (HL.out _ (by repeat (first | exact Below.refl _ _ | refine blw_alloc ?_ | refine blw_plus ?_ | refine Below.drew ?_))).mono ?_;rintro e w' ⟨rfl,hb⟩;obtain ⟨x,rfl⟩:=wplus_of_below hb;clear hb)))
    refine bodyPost_ret (v:=.tuple #[verV verZ,.int .i64 8]) ?_ rfl ⟨by rw [←HF3.out],zB⟩
    simp [results,Tryz.results91,go_sem,verV,verZ]
   case false=>
    have HF3:Hid (((⟨bw,bc,bs,bq,bd,false⟩:VerP),(0:Int))=F):=hidp (by have:=HF2.out;simpa using this)
    clear HF2
    go_enter Tryz.func91,Tryz.ntmps91
    go_wp2_with (first | (go_at_call 96;refine (HI.out _).mono ?_;rintro e w' ⟨rfl,rfl⟩) | (go_at_call 90;go_must (refine (HL.out _ (by repeat (first | exact Below.refl _ _ | refine blw_alloc ?_ | refine blw_plus ?_ | refine Below.drew ?_))).mono ?_;rintro e w' ⟨rfl,hb⟩;obtain ⟨x,rfl⟩:=wplus_of_below hb;clear hb)))
    refine bodyPost_ret (v:=.tuple #[verV ⟨bw,bc,bs,bq,bd,false⟩,.int .i64 0]) ?_ rfl ⟨by rw [←HF3.out],zB⟩
    simp [results,Tryz.results91,go_sem,verV,verZ]
 ·have HI:=hidp fun w=>in_is (n:=key) (lo:=0) (hi:=7) (b:=false) w (decide_eq_false hk)
  have HF3:Hid ((verZ,(2:Int))=F):=hidp (by have:=HF.out;unfold rRead at this;rw [if_pos (by omega)] at this;exact this)
  clear HF HL
  go_enter Tryz.func91,Tryz.ntmps91
  go_wp2_with (go_at_call 96;refine (HI.out _).mono ?_;rintro e w' ⟨rfl,rfl⟩)
  refine bodyPost_ret (v:=.tuple #[verV verZ,.int .i64 2]) ?_ rfl ⟨by rw [←HF3.out],zB⟩
  simp [results,Tryz.results91,go_sem,verV,verZ]
end Go.Proofs.YtbopfhbeegkkaabGreatDoor
