/- Part 29 of a proof: lemmas and contracts that other parts use. -/
import Derived.Test.YtbopfhbeegkkaabGreatDoorSe28
import Derived.Deep.DeepCutAuto
set_option linter.unusedVariables false
set_option linter.unusedSimpArgs false
set_option linter.constructorNameAsVariable false
namespace Go.Proofs.YtbopfhbeegkkaabGreatDoor
open Go.RowKit
set_option maxRecDepth 20000 in
set_option maxHeartbeats 8000000 in
theorem sWrite_ok (B u mb:Nat) (s:SnP) (x:WrP) (w:World) (h:SnAt w B u s (some mb)) (ho:s.op=true) (hk:0≤x.key∧x.key≤7) (hd:x.data.size≤12) (hg:x.gone=false∨x.data.toList.isEmpty=true) (hmn:s.mn≤900):
  Calls Tryz.prog 42 #[.pointer (some ⟨u,0,none⟩),x.val] w fun e w'=>(s.m x.key=none∧5≤s.mn→e=.returned (.iface 29 (.int .i64 12))∧Below w.heap.size w w')∧
   (¬(s.m x.key=none∧5≤s.mn)→e=.returned .nilIface∧SnAt w' B u (snWrite s x) (some mb)∧SiFr w w' (SnOwn u (some mb)) (SnOwn u (some mb))):=by
 have HS:=hidp h
 have hb:=h.blk
 obtain ⟨q0,q1,q2,q3,n0,n1,n2,n3,op,m,mn⟩:=s
 obtain ⟨xk,xd,xg⟩:=x
 simp only at hb ho hk hd hg hmn
 subst ho
 have HWF:Hid (wf64 xk):=hidp (by unfold wf64;omega)
 have d0:decide (xk<0)=false:=decide_eq_false (by omega)
 have d7:decide (8≤xk)=false:=decide_eq_false (by omega)
 have d1:decide ((12:Int)<(xd.size:Int))=false:=decide_eq_false (by omega)
 have HB1:Hid (Below w.heap.size w (w.alloc (.cells #[.int .i64 xk,.string xd,.bool xg] 83))):=hidp (by repeat (first | exact Below.refl _ _ | refine blw_alloc ?_ | refine blw_plus ?_ | refine Below.drew ?_))
 have HBX:Hid ((w.alloc (.cells #[.int .i64 xk,.string xd,.bool xg] 83)).heap[w.heap.size]?=some (.cells #[.int .i64 xk,.string xd,.bool xg] 83)):=hidp (blk_new rfl _)
 have HS1:=hidp (h.below HB1.out)
 have c8:=cell_blk hb 8
 simp only [zC,zD,zE] at c8
 haveI:SzGe (u+1) w:=⟨lt_blk hb⟩
 have HG:Hid (xg=false∨(xg=true∧xd.toList.isEmpty=true)):=hidp (by
  cases xg with
  | false=>exact .inl rfl
  | true=>exact .inr ⟨rfl,hg.resolve_left (by simp)⟩)
 clear h hb hk hd hg
 unfold WrP.val
 refine (show ∀ Q:Ending→World→Prop,Hid (∀ (e:Ending) (w':World),((m xk=none∧5≤mn→e=.returned (.iface 29 (.int .i64 12))∧Below w.heap.size w w')∧(¬(m xk=none∧5≤mn)→e=.returned .nilIface∧SnAt w' B u (snWrite ⟨q0,q1,q2,q3,n0,n1,n2,n3,true,m,mn⟩ ⟨xk,xd,xg⟩) (some mb)∧SiFr w w' (SnOwn u (some mb)) (SnOwn u (some mb))))→Q e w')→Calls Tryz.prog 42 #[.pointer (some ⟨u,0,none⟩),.agg #[.int .i64 xk,.string xd,.bool xg]] w Q from ?_) _ (hidp fun _ _ h=>h)
 intro Q HQ
 obtain ⟨L,hL⟩:∃ L,m xk=L:=⟨_,rfl⟩
 have HL:=hidp hL
 obtain ⟨lk,hlk⟩:∃ lk,((m xk).getD wrZ).key=lk:=⟨_,rfl⟩
 obtain ⟨ld,hld⟩:∃ ld,((m xk).getD wrZ).data=ld:=⟨_,rfl⟩
 obtain ⟨lg,hlg⟩:∃ lg,((m xk).getD wrZ).gone=lg:=⟨_,rfl⟩
 obtain ⟨lb,hlb⟩:∃ lb,(m xk).isSome=lb:=⟨_,rfl⟩
 have HLB:=hidp hlb
 have HSK:Hid (∀ X:World,Below (w.alloc (.cells #[.int .i64 xk,.string xd,.bool xg] 83)).heap.size (w.alloc (.cells #[.int .i64 xk,.string xd,.bool xg] 83)) X→(X.cell? ⟨u,9,none⟩=some (.map (some mb))∧X.cell? ⟨w.heap.size,0,none⟩=some (.int .i64 xk)∧(Instr.lookup 169 (.map (some mb)) (.int .i64 xk) true).run Tryz.prog X=.ok (.tuple #[.agg #[.int .i64 lk,.string ld,.bool lg],.bool lb]) X)):=hidp (fun X hX=>by
  have hs:=HS1.out.below hX
  have hbx:=(hX.block _ (lt_blk HBX.out)).trans HBX.out
  refine ⟨cell_blk hs.blk 9,cell_blk hbx 0,?_⟩
  have:=(hs.mp mb rfl).1.look HWF.out
  unfold WrP.val at this
  rw [hlk,hld,hlg,hlb] at this
  exact this)
 clear hL hlk hld hlg hlb
 rcases HG.out with hg | ⟨hg,he⟩
 ·subst hg
  go_enter Tryz.func42,Tryz.ntmps42
  go_upto_region 9 with fail
  have hu1:=lt_blk HS1.out.blk
  have hw1:=lt_blk HBX.out
  go_cut [6] (fun s6 Y=>s6=.bool lb∧Below (w.alloc (.cells #[.int .i64 xk,.string xd,.bool false] 83)).heap.size (w.alloc (.cells #[.int .i64 xk,.string xd,.bool false] 83)) Y)
  case first=>
   go_region_held3 (fun X:World=>X.cell? ⟨u,9,none⟩=some (.map (some mb))∧X.cell? ⟨w.heap.size,0,none⟩=some (.int .i64 xk)∧(Instr.lookup 169 (.map (some mb)) (.int .i64 xk) true).run Tryz.prog X=.ok (.tuple #[.agg #[.int .i64 lk,.string ld,.bool lg],.bool lb]) X) ((refine HSK.out _ (by repeat (first | exact Below.refl _ _ | refine blw_alloc ?_ | refine blw_plus ?_ | refine Below.drew ?_ | refine blw_far ?_ (Nat.le_refl _))))) (first | fail)
   all_goals
    go_wp2_with fail
    go_meet
    exact ⟨rfl,(by repeat (first | exact Below.refl _ _ | refine blw_alloc ?_ | refine blw_plus ?_ | refine Below.drew ?_ | refine blw_far ?_ (Nat.le_refl _)))⟩
  case rest=>
   obtain ⟨rfl,hbw⟩:=hcut
   have HS2:=hidp (HS1.out.below hbw)
   have HB2:=hidp (HB1.out.trans (hbw.mono HB1.out.size))
   have hbx:=(hbw.block _ hw1).trans HBX.out
   have hmp:=(HS2.out.mp mb rfl)
   have HMP:=hidp hmp.1
   have hub:=HS2.out.blk
   have k9:=cell_blk hub 9
   have e0:=cell_blk hbx 0;have e1:=cell_blk hbx 1;have e2:=cell_blk hbx 2
   simp only [zC,zD,zE] at k9 e0 e1 e2
   have hlen:=hmp.1.len 3
   simp only at hlen
   haveI:SzGe (u+1) wc:=⟨lt_blk hub⟩
   haveI:SzGe (w.heap.size+1) wc:=⟨lt_blk hbx⟩
   have HUB:=hidp hub
   have HNE:=hidp hmp.2
   clear hbw hbx hmp hub HSK HS1 HBX HB1
   by_cases hfull:lb=false∧5≤mn
   ·obtain ⟨rfl,h5⟩:=hfull
    have d5:decide ((5:Int)≤(mn:Int))=true:=decide_eq_true (by omega)
    have HNN:Hid (m xk=none):=hidp (by cases hm:m xk with | none=>rfl | some y=>rw [hm] at HLB;exact absurd HLB.out (by simp))
    go_wp2_with fail
    first | go_ret | skip
    exact HQ.out _ _ ⟨fun _=>⟨rfl,HB2.out.trans (Below.mono (B:=wc.heap.size) (by repeat (first | exact Below.refl _ _ | refine blw_alloc ?_ | refine blw_plus ?_ | refine Below.drew ?_)) HB2.out.size)⟩,fun e=>absurd ⟨HNN.out,h5⟩ e⟩
   ·have HNF:Hid (¬(m xk=none∧5≤mn)):=hidp (fun e=>hfull ⟨by rw [←HLB.out,e.1];rfl,e.2⟩)
    cases lb with
    | true=>
      have HFIN:=hidp fun (X wu:World) (hX:Below wc.heap.size wc X) (hmp:WpAt wu mb (wput m xk ⟨xk,xd,false⟩) (if (m xk).isSome then mn else mn+1)) (hg:X.grownBy wu (some mb))=>
       (show SnAt wu B u (snWrite ⟨q0,q1,q2,q3,n0,n1,n2,n3,true,m,mn⟩ ⟨xk,xd,false⟩) (some mb)∧SiFr w wu (SnOwn u (some mb)) (SnOwn u (some mb)) from by
         have hlu:=lt_blk HUB.out
         refine ⟨⟨(hg.block u (Nat.lt_of_lt_of_le hlu hX.size) (fun e=>HNE.out.2 (Option.some.inj e).symm)).trans ((hX.block u hlu).trans HUB.out),fun mb' e=>?_,fun _=>by simp,HS2.out.bx⟩,?_⟩
         ·obtain rfl:=Option.some.inj e
          exact ⟨hmp,HNE.out⟩
         ·have f1:=(SiFr.of_below (SnOwn u (some mb)) HB2.out).trans (SiFr.of_below (SnOwn u (some mb)) hX)
          exact ⟨hg.os.trans f1.os,hg.tape.trans f1.tape,hg.output.trans f1.output,Nat.le_trans f1.size hg.size,fun k hk hn=>(hg.block k (Nat.lt_of_lt_of_le hk f1.size) (fun e=>hn (.inr e.symm))).trans (f1.block k hk hn),fun b hb=>.inl hb⟩)
      go_upto_region 12 with fail
      refine wp_region_plus_tail 7 (by kernel_rfl) (by kernel_rfl) ?_
      simp only [List.take_succ_cons,List.take_zero,List.drop_succ_cons,List.drop_zero]
      repeat (first | go_big_quiet_skip | (go_big_quiet_want;go_big_quiet_op;first | go_big_quiet_on))
      refine wpQuiet_nil ?_
      rintro _ ⟨x3,rfl⟩
      obtain ⟨wu,hrun,hmp,hturn⟩:=(HMP.out.below (show Below wc.heap.size wc (wplus wc x3) from zB)).store (by simp only;omega) HWF.out ⟨xk,xd,false⟩
      unfold WrP.val at hrun
      go_wp2_with fail
      first | go_ret | skip
      exact HQ.out _ _ ⟨fun e=>absurd e HNF.out,fun _=>⟨rfl,HFIN.out _ wu (show Below wc.heap.size wc (wplus wc x3) from zB) hmp hturn.grown⟩⟩
    | false=>
      have d5:decide ((5:Int)≤(mn:Int))=false:=decide_eq_false (by rintro e;exact hfull ⟨rfl,by omega⟩)
      have HFIN:=hidp fun (X wu:World) (hX:Below wc.heap.size wc X) (hmp:WpAt wu mb (wput m xk ⟨xk,xd,false⟩) (if (m xk).isSome then mn else mn+1)) (hg:X.grownBy wu (some mb))=>
       (show SnAt wu B u (snWrite ⟨q0,q1,q2,q3,n0,n1,n2,n3,true,m,mn⟩ ⟨xk,xd,false⟩) (some mb)∧SiFr w wu (SnOwn u (some mb)) (SnOwn u (some mb)) from by
         have hlu:=lt_blk HUB.out
         refine ⟨⟨(hg.block u (Nat.lt_of_lt_of_le hlu hX.size) (fun e=>HNE.out.2 (Option.some.inj e).symm)).trans ((hX.block u hlu).trans HUB.out),fun mb' e=>?_,fun _=>by simp,HS2.out.bx⟩,?_⟩
         ·obtain rfl:=Option.some.inj e
          exact ⟨hmp,HNE.out⟩
         ·have f1:=(SiFr.of_below (SnOwn u (some mb)) HB2.out).trans (SiFr.of_below (SnOwn u (some mb)) hX)
          exact ⟨hg.os.trans f1.os,hg.tape.trans f1.tape,hg.output.trans f1.output,Nat.le_trans f1.size hg.size,fun k hk hn=>(hg.block k (Nat.lt_of_lt_of_le hk f1.size) (fun e=>hn (.inr e.symm))).trans (f1.block k hk hn),fun b hb=>.inl hb⟩)
      go_upto_region 12 with fail
      refine wp_region_plus_tail 7 (by kernel_rfl) (by kernel_rfl) ?_
      simp only [List.take_succ_cons,List.take_zero,List.drop_succ_cons,List.drop_zero]
      repeat (first | go_big_quiet_skip | (go_big_quiet_want;go_big_quiet_op;first | go_big_quiet_on))
      refine wpQuiet_nil ?_
      rintro _ ⟨x3,rfl⟩
      obtain ⟨wu,hrun,hmp,hturn⟩:=(HMP.out.below (show Below wc.heap.size wc (wplus wc x3) from zB)).store (by simp only;omega) HWF.out ⟨xk,xd,false⟩
      unfold WrP.val at hrun
      go_wp2_with fail
      first | go_ret | skip
      exact HQ.out _ _ ⟨fun e=>absurd e HNF.out,fun _=>⟨rfl,HFIN.out _ wu (show Below wc.heap.size wc (wplus wc x3) from zB) hmp hturn.grown⟩⟩
 ·subst hg
  go_enter Tryz.func42,Tryz.ntmps42
  go_upto_region 9 with fail
  have hu1:=lt_blk HS1.out.blk
  have hw1:=lt_blk HBX.out
  go_cut [6] (fun s6 Y=>s6=.bool lb∧Below (w.alloc (.cells #[.int .i64 xk,.string xd,.bool true] 83)).heap.size (w.alloc (.cells #[.int .i64 xk,.string xd,.bool true] 83)) Y)
  case first=>
   go_region_held3 (fun X:World=>X.cell? ⟨u,9,none⟩=some (.map (some mb))∧X.cell? ⟨w.heap.size,0,none⟩=some (.int .i64 xk)∧(Instr.lookup 169 (.map (some mb)) (.int .i64 xk) true).run Tryz.prog X=.ok (.tuple #[.agg #[.int .i64 lk,.string ld,.bool lg],.bool lb]) X) ((refine HSK.out _ (by repeat (first | exact Below.refl _ _ | refine blw_alloc ?_ | refine blw_plus ?_ | refine Below.drew ?_ | refine blw_far ?_ (Nat.le_refl _))))) (first | fail)
   all_goals
    go_wp2_with fail
    go_meet
    exact ⟨rfl,(by repeat (first | exact Below.refl _ _ | refine blw_alloc ?_ | refine blw_plus ?_ | refine Below.drew ?_ | refine blw_far ?_ (Nat.le_refl _)))⟩
  case rest=>
   obtain ⟨rfl,hbw⟩:=hcut
   have HS2:=hidp (HS1.out.below hbw)
   have HB2:=hidp (HB1.out.trans (hbw.mono HB1.out.size))
   have hbx:=(hbw.block _ hw1).trans HBX.out
   have hmp:=(HS2.out.mp mb rfl)
   have HMP:=hidp hmp.1
   have hub:=HS2.out.blk
   have k9:=cell_blk hub 9
   have e0:=cell_blk hbx 0;have e1:=cell_blk hbx 1;have e2:=cell_blk hbx 2
   simp only [zC,zD,zE] at k9 e0 e1 e2
   have hlen:=hmp.1.len 3
   simp only at hlen
   haveI:SzGe (u+1) wc:=⟨lt_blk hub⟩
   haveI:SzGe (w.heap.size+1) wc:=⟨lt_blk hbx⟩
   have HUB:=hidp hub
   have HNE:=hidp hmp.2
   clear hbw hbx hmp hub HSK HS1 HBX HB1
   by_cases hfull:lb=false∧5≤mn
   ·obtain ⟨rfl,h5⟩:=hfull
    have d5:decide ((5:Int)≤(mn:Int))=true:=decide_eq_true (by omega)
    have HNN:Hid (m xk=none):=hidp (by cases hm:m xk with | none=>rfl | some y=>rw [hm] at HLB;exact absurd HLB.out (by simp))
    go_wp2_with fail
    first | go_ret | skip
    exact HQ.out _ _ ⟨fun _=>⟨rfl,HB2.out.trans (Below.mono (B:=wc.heap.size) (by repeat (first | exact Below.refl _ _ | refine blw_alloc ?_ | refine blw_plus ?_ | refine Below.drew ?_)) HB2.out.size)⟩,fun e=>absurd ⟨HNN.out,h5⟩ e⟩
   ·have HNF:Hid (¬(m xk=none∧5≤mn)):=hidp (fun e=>hfull ⟨by rw [←HLB.out,e.1];rfl,e.2⟩)
    cases lb with
    | true=>
      have HFIN:=hidp fun (X wu:World) (hX:Below wc.heap.size wc X) (hmp:WpAt wu mb (wput m xk ⟨xk,xd,true⟩) (if (m xk).isSome then mn else mn+1)) (hg:X.grownBy wu (some mb))=>
       (show SnAt wu B u (snWrite ⟨q0,q1,q2,q3,n0,n1,n2,n3,true,m,mn⟩ ⟨xk,xd,true⟩) (some mb)∧SiFr w wu (SnOwn u (some mb)) (SnOwn u (some mb)) from by
         have hlu:=lt_blk HUB.out
         refine ⟨⟨(hg.block u (Nat.lt_of_lt_of_le hlu hX.size) (fun e=>HNE.out.2 (Option.some.inj e).symm)).trans ((hX.block u hlu).trans HUB.out),fun mb' e=>?_,fun _=>by simp,HS2.out.bx⟩,?_⟩
         ·obtain rfl:=Option.some.inj e
          exact ⟨hmp,HNE.out⟩
         ·have f1:=(SiFr.of_below (SnOwn u (some mb)) HB2.out).trans (SiFr.of_below (SnOwn u (some mb)) hX)
          exact ⟨hg.os.trans f1.os,hg.tape.trans f1.tape,hg.output.trans f1.output,Nat.le_trans f1.size hg.size,fun k hk hn=>(hg.block k (Nat.lt_of_lt_of_le hk f1.size) (fun e=>hn (.inr e.symm))).trans (f1.block k hk hn),fun b hb=>.inl hb⟩)
      go_upto_region 12 with fail
      refine wp_region_plus_tail 7 (by kernel_rfl) (by kernel_rfl) ?_
      simp only [List.take_succ_cons,List.take_zero,List.drop_succ_cons,List.drop_zero]
      repeat (first | go_big_quiet_skip | (go_big_quiet_want;go_big_quiet_op;first | go_big_quiet_on))
      refine wpQuiet_nil ?_
      rintro _ ⟨x3,rfl⟩
      obtain ⟨wu,hrun,hmp,hturn⟩:=(HMP.out.below (show Below wc.heap.size wc (wplus wc x3) from zB)).store (by simp only;omega) HWF.out ⟨xk,xd,true⟩
      unfold WrP.val at hrun
      go_wp2_with fail
      first | go_ret | skip
      exact HQ.out _ _ ⟨fun e=>absurd e HNF.out,fun _=>⟨rfl,HFIN.out _ wu (show Below wc.heap.size wc (wplus wc x3) from zB) hmp hturn.grown⟩⟩
    | false=>
      have d5:decide ((5:Int)≤(mn:Int))=false:=decide_eq_false (by rintro e;exact hfull ⟨rfl,by omega⟩)
      have HFIN:=hidp fun (X wu:World) (hX:Below wc.heap.size wc X) (hmp:WpAt wu mb (wput m xk ⟨xk,xd,true⟩) (if (m xk).isSome then mn else mn+1)) (hg:X.grownBy wu (some mb))=>
       (show SnAt wu B u (snWrite ⟨q0,q1,q2,q3,n0,n1,n2,n3,true,m,mn⟩ ⟨xk,xd,true⟩) (some mb)∧SiFr w wu (SnOwn u (some mb)) (SnOwn u (some mb)) from by
         have hlu:=lt_blk HUB.out
         refine ⟨⟨(hg.block u (Nat.lt_of_lt_of_le hlu hX.size) (fun e=>HNE.out.2 (Option.some.inj e).symm)).trans ((hX.block u hlu).trans HUB.out),fun mb' e=>?_,fun _=>by simp,HS2.out.bx⟩,?_⟩
         ·obtain rfl:=Option.some.inj e
          exact ⟨hmp,HNE.out⟩
         ·have f1:=(SiFr.of_below (SnOwn u (some mb)) HB2.out).trans (SiFr.of_below (SnOwn u (some mb)) hX)
          exact ⟨hg.os.trans f1.os,hg.tape.trans f1.tape,hg.output.trans f1.output,Nat.le_trans f1.size hg.size,fun k hk hn=>(hg.block k (Nat.lt_of_lt_of_le hk f1.size) (fun e=>hn (.inr e.symm))).trans (f1.block k hk hn),fun b hb=>.inl hb⟩)
      go_upto_region 12 with fail
      refine wp_region_plus_tail 7 (by kernel_rfl) (by kernel_rfl) ?_
      simp only [List.take_succ_cons,List.take_zero,List.drop_succ_cons,List.drop_zero]
      repeat (first | go_big_quiet_skip | (go_big_quiet_want;go_big_quiet_op;first | go_big_quiet_on))
      refine wpQuiet_nil ?_
      rintro _ ⟨x3,rfl⟩
      obtain ⟨wu,hrun,hmp,hturn⟩:=(HMP.out.below (show Below wc.heap.size wc (wplus wc x3) from zB)).store (by simp only;omega) HWF.out ⟨xk,xd,true⟩
      unfold WrP.val at hrun
      go_wp2_with fail
      first | go_ret | skip
      exact HQ.out _ _ ⟨fun e=>absurd e HNF.out,fun _=>⟨rfl,HFIN.out _ wu (show Below wc.heap.size wc (wplus wc x3) from zB) hmp hturn.grown⟩⟩
theorem allW_more (W:List WrP) (x:WrP) (kx:Nat) (hx:x.key=(kx:Int)):∀ n,(allW (W++[x]) n).length=(allW W n).length+(if kx<n∧lastW W (kx:Int)=none then 1 else 0)
 | 0=>by simp [allW]
 | n+1=>by
   have ih:=allW_more W x kx hx n
   rw [allW_succ,allW_succ,List.length_append,List.length_append,ih,lastW_app]
   by_cases e:kx=n
   ·subst e
    rw [if_pos hx,if_neg (by omega)]
    cases hl:lastW W (kx:Int) with
    | none=>simp
    | some y=>simp
   ·rw [if_neg (show ¬x.key=(n:Int) by rw [hx];omega)]
    have h1:(kx<n+1∧lastW W (kx:Int)=none)↔(kx<n∧lastW W (kx:Int)=none):=⟨fun h=>⟨by omega,h.2⟩,fun h=>⟨by omega,h.2⟩⟩
    simp only [h1]
    omega
structure SesRep (s:SnP) (d:SdP):Prop where
 q:s.q0=d.q0∧s.q1=d.q1∧s.q2=d.q2∧s.q3=d.q3
 n:s.n0=d.n0∧s.n1=d.n1∧s.n2=d.n2∧s.n3=d.n3
 op:s.op=d.op
 m:s.op=true→∀ k,s.m k=lastW d.W k
 mn:s.op=true→s.mn=(allW d.W 8).length
theorem SesRep.fresh:SesRep snNew ⟨0,0,0,0,0,0,0,0,false,[]⟩:=⟨⟨rfl,rfl,rfl,rfl⟩,⟨rfl,rfl,rfl,rfl⟩,rfl,fun h=>(by cases h),fun h=>(by cases h)⟩
theorem SesRep.abort {s:SnP} {d:SdP} (h:SesRep s d):SesRep (snAbort s) (sdAbort d):=by
 obtain ⟨⟨a,b,c,e⟩,⟨f,g,i,j⟩,_,_,_⟩:=h
 refine ⟨?_,⟨rfl,rfl,rfl,rfl⟩,rfl,fun h=>(by cases h),fun h=>(by cases h)⟩
 unfold snAbort sdAbort
 rw [a,b,c,e,f,g,i,j]
 exact ⟨rfl,rfl,rfl,rfl⟩
theorem SesRep.begin_ {s:SnP} {d:SdP} (h:SesRep s d) (p0 p1 p2 p3:Int):SesRep (snBegin s p0 p1 p2 p3) (sdBegin d p0 p1 p2 p3):=
 ⟨h.q,⟨rfl,rfl,rfl,rfl⟩,rfl,fun _ k=>rfl,fun _=>rfl⟩
theorem SesRep.beginE {s:SnP} {d:SdP} (h:SesRep s d) (p0 p1 p2 p3:Int):snBeginE s p0 p1 p2 p3=sdBeginE d p0 p1 p2 p3:=by
 obtain ⟨⟨a,b,c,e⟩,_,o,_,_⟩:=h
 unfold snBeginE sdBeginE
 rw [a,b,c,e,o]
theorem SesRep.write {s:SnP} {d:SdP} (h:SesRep s d) {x:WrP} (ho:s.op=true) (hk:0≤x.key∧x.key≤7):SesRep (snWrite s x) { d with W:=d.W++[x] }:=by
 obtain ⟨kx,hx⟩:=Int.eq_ofNat_of_zero_le hk.1
 refine ⟨h.q,h.n,h.op,fun _ k=>?_,fun _=>?_⟩
 ·show wput s.m x.key x k=lastW (d.W++[x]) k
  rw [lastW_app]
  unfold wput
  by_cases e:k=x.key
  ·rw [if_pos e,if_pos e.symm]
  ·rw [if_neg e,if_neg (fun e2=>e e2.symm)];exact h.m ho k
 ·show (if (s.m x.key).isSome then s.mn else s.mn+1)=(allW (d.W++[x]) 8).length
  rw [allW_more d.W x kx hx,h.mn ho,h.m ho,hx]
  cases hl:lastW d.W (kx:Int) with
  | none=>simp;omega
  | some y=>simp
theorem SesRep.writeE {s:SnP} {d:SdP} (h:SesRep s d) (x:WrP):snWriteE s x=sdWriteE d x:=by
 unfold snWriteE sdWriteE
 cases ho:s.op with
 | false=>rw [←h.op,ho];rfl
 | true=>rw [←h.op,ho,h.m ho,h.mn ho]
end Go.Proofs.YtbopfhbeegkkaabGreatDoor
