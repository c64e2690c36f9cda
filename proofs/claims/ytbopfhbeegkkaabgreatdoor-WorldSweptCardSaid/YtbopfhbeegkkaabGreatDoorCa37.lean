/- Part 37 of a proof: lemmas and contracts that other parts use. -/
import Derived.Test.YtbopfhbeegkkaabGreatDoorCa36
set_option linter.unusedVariables false
set_option linter.unusedSimpArgs false
set_option linter.constructorNameAsVariable false
namespace Go.Proofs.YtbopfhbeegkkaabGreatDoor
open Go.RowKit
def LsE (T:List TxP) (r:VerP×Bool) (e:Ending):Prop:=∃ (bs:Int) (d:ByteArray) (g:Bool),e=.returned (.tuple #[.string d,.bool (!g)])∧LsR T r bs d g
theorem LsE.is {T:List TxP} {r:VerP×Bool} {e:Ending} (h:LsE T r e):e=.returned (.tuple #[.string (if r.2 then r.1.data else ⟨#[]⟩),.bool (r.2&&!r.1.gone)]):=by
 obtain ⟨bs,d,g,rfl,h1,h2⟩:=h
 cases hr:r.2 with
 | false=>obtain ⟨_,rfl,rfl⟩:=h1 hr;rfl
 | true=>obtain ⟨j,t,_,_,_,_,_,rfl,rfl⟩:=h2 hr;rfl
theorem lsR_take {T:List TxP} {i:Nat} {t:TxP} (h:T[i]?=some t) (w:WrP):LsR T (verOf t w,true) (i:Int) w.data w.gone:=⟨fun e=>(by cases e),fun _=>⟨i,t,rfl,h,rfl,rfl,rfl,rfl,rfl⟩⟩
set_option maxRecDepth 200000 in
set_option maxHeartbeats 16000000 in
theorem last_any (ts:List MTx) (tb:Nat) (vg vS vC vO:Value) (Al:Option Addr) (cl:Nat) (v0 v1 v2 v3 key:Int) (w:World) (hb:w.heap[tb]?=some (.cells #[vg,vS,vC,.slice Al ts.length cl,vO] 110)) (hx:XsAt w Al ts) (hd:∀ m∈ts,WsAt w m.A m.t.ws) (hr:∀ m∈ts,rightTx m.t=true) (hn:ts.length≤1000):
  Calls Tryz.prog 59 #[.pointer (some ⟨tb,0,none⟩),.int .i64 key,.agg #[.int .i64 v0,.int .i64 v1,.int .i64 v2,.int .i64 v3]] w fun e w'=>LsE (ts.map (·.t)) (lsAt (ts.map (·.t)) v0 v1 v2 v3 key ts.length) e∧Below w.heap.size w w':=by
 have hb0:Below w.heap.size w (w.alloc (.cells #[.int .i64 v0,.int .i64 v1,.int .i64 v2,.int .i64 v3] 32)):=blw_alloc (Below.refl _ _)
 have HB0:=hidp hb0
 have HTB:=hidp ((hb0.block _ (lt_blk hb)).trans hb)
 have HBX:=hidp (show (w.alloc (.cells #[.int .i64 v0,.int .i64 v1,.int .i64 v2,.int .i64 v3] 32)).heap[w.heap.size]?=some (.cells #[.int .i64 v0,.int .i64 v1,.int .i64 v2,.int .i64 v3] 32) from blk_new rfl _)
 have HXS:=hidp (hx.below hb0)
 have HD:=hidp (fun m hm=>(hd m hm).below hb0)
 have HR:=hidp hr
 haveI:SzGe (tb+1) w:=⟨lt_blk hb⟩
 clear hb0 hb hx hd hr
 go_enter Tryz.func59,Tryz.ntmps59
 go_wp2_with fail
 generalize w.alloc (.cells #[.int .i64 v0,.int .i64 v1,.int .i64 v2,.int .i64 v3] 32)=wo at *
 go_loopw [8,9,10,11] (fun b d g i W=>∃ (k:Nat) (bs:Int) (dt:ByteArray) (gn:Bool),k≤ts.length∧i=.int .i64 k∧b=.int .i64 bs∧d=.string dt∧g=.bool gn∧Hid (LsR (ts.map (·.t)) (lsAt (ts.map (·.t)) v0 v1 v2 v3 key k) bs dt gn)∧Below wo.heap.size wo W) (fun _ _ _ i _=>ts.length-(Go.RowKit.intOf i).toNat)
 case atStart=>exact ⟨0,-1,⟨#[]⟩,true,Nat.zero_le _,rfl,rfl,rfl,rfl,hidp (lsR_start _ _ _ _ _ _),Below.refl _ _⟩
 case round=>
  obtain ⟨k,bs,dt,gn,hk,rfl,rfl,rfl,rfl,HLS,hbl⟩:=hrel
  obtain ⟨W,rfl⟩:∃ W:World,W=wr:=⟨_,rfl⟩
  have HBW:=hidp hbl
  have htw:=(hbl.block _ (lt_blk HTB.out)).trans HTB.out
  have c3:W.cell? ⟨tb,3,none⟩=some (.slice Al ts.length cl):=by rw [cell_blk htw 3];rfl
  haveI:SzGe (tb+1) W:=⟨lt_blk htw⟩
  clear hbl htw
  by_cases hlt:k<ts.length
  ·obtain ⟨b,o,rfl,hb,d0,d1,d2,d3,d4,d5,d6,d7,d8⟩:=(HXS.out.below HBW.out) k ts[k] (List.getElem?_eq_getElem hlt)
   have HRK:=hidp (HR.out ts[k] (List.getElem_mem hlt))
   have HDK:=hidp ((HD.out ts[k] (List.getElem_mem hlt)).below HBW.out)
   have HTG:Hid ((ts.map (·.t))[k]?=some ts[k].t):=hidp (by rw [List.getElem?_map,List.getElem?_eq_getElem hlt];rfl)
   generalize ts[k]=m at *
   obtain ⟨⟨msite,mseq,mwall,mcount,md0,md1,md2,md3,mws⟩,mA,mc⟩:=m
   simp only at d0 d1 d2 d3 d4 d5 d6 d7 d8 HTG HDK
   obtain ⟨hp1,hp2,hp3,hp4⟩:=rightTx_parts HRK.out
   try simp only at hp1 hp2 hp3 hp4
   obtain ⟨st,rfl⟩:=Int.eq_ofNat_of_zero_le hp1.1
   have hst4:st<4:=by omega
   have hml:mws.length≤5:=hp4
   have hbx:W.heap[w.heap.size]?=some (.cells #[.int .i64 v0,.int .i64 v1,.int .i64 v2,.int .i64 v3] 32):=(HBW.out.block _ (lt_blk HBX.out)).trans HBX.out
   have hat:=at_cell hbx hst4
   obtain ⟨aS,haS⟩:∃ aS,atV v0 v1 v2 v3 (st:Int)=aS:=⟨_,rfl⟩
   rw [haS] at hat
   have HAS:=hidp haS
   haveI:SzGe (b+1) W:=⟨hb⟩
   haveI:SzGe (w.heap.size+1) W:=⟨lt_blk hbx⟩
   have hk0:(0:Int)≤(st:Int):=by omega
   have hk4:(st:Int)<4:=by omega
   clear haS hbx hp1 hp2 hp3 hp4
   by_cases hq:aS<mseq
   ·have hd1:decide (aS<mseq)=true:=decide_eq_true hq
    have HNS:=hidp (lsAt_skip (v0:=v0) (v1:=v1) (v2:=v2) (v3:=v3) (key:=key) HTG.out (by show ¬mseq≤atV v0 v1 v2 v3 (st:Int);rw [HAS.out];omega))
    clear hq
    go_wp2_with fail
    refine wp_region_plus (by kernel_rfl) (by kernel_rfl) ?_
    repeat (first | go_big_quiet_skip | (go_big_quiet_want;go_big_quiet_op;go_big_quiet_on))
    refine wpQuiet_nil ?_
    rintro _ ⟨x3,rfl⟩
    go_wp2_with fail
    go_roundw
    case rel=>exact ⟨k+1,bs,dt,gn,by omega,by go_num,rfl,rfl,rfl,hidp (by rw [HNS.out];exact HLS.out),HBW.out.trans (Below.mono (by repeat (first | exact Below.refl _ _ | refine blw_alloc ?_ | refine blw_plus ?_ | refine Below.drew ?_)) HBW.out.size)⟩
    case measure=>simp [Go.RowKit.intOf];omega
   ·have hd1:decide (aS<mseq)=false:=decide_eq_false hq
    have HSE:=hidp (show (⟨(st:Int),mseq,mwall,mcount,md0,md1,md2,md3,mws⟩:TxP).seq≤atV v0 v1 v2 v3 (⟨(st:Int),mseq,mwall,mcount,md0,md1,md2,md3,mws⟩:TxP).site from by show mseq≤atV v0 v1 v2 v3 (st:Int);rw [HAS.out];omega)
    clear hq
    go_wp2_with fail
    refine wp_region_plus (by kernel_rfl) (by kernel_rfl) ?_
    repeat (first | go_big_quiet_skip | (go_big_quiet_want;go_big_quiet_op;go_big_quiet_on))
    refine wpQuiet_nil ?_
    rintro _ ⟨x3,rfl⟩
    go_wp2_with fail
    have HBI:=hidp (show Below W.heap.size W (wplus (W.alloc (.cells #[.int .i64 (st:Int),.int .i64 mseq,.int .i64 mwall,.int .i64 mcount,.int .i64 md0,.int .i64 md1,.int .i64 md2,.int .i64 md3,.slice mA mws.length mc] 44)) x3) from zB)
    have HN9:=hidp (show (wplus (W.alloc (.cells #[.int .i64 (st:Int),.int .i64 mseq,.int .i64 mwall,.int .i64 mcount,.int .i64 md0,.int .i64 md1,.int .i64 md2,.int .i64 md3,.slice mA mws.length mc] 44)) x3).heap[W.heap.size]?=some (.cells #[.int .i64 (st:Int),.int .i64 mseq,.int .i64 mwall,.int .i64 mcount,.int .i64 md0,.int .i64 md1,.int .i64 md2,.int .i64 md3,.slice mA mws.length mc] 44) from (((below_wplus _ x3).block _ (lt_blk (blk_new rfl _))).trans (blk_new rfl _)))
    clear c3 d0 d1 d2 d3 d4 d5 d6 d7 d8 hat
    generalize (wplus (W.alloc (.cells #[.int .i64 (st:Int),.int .i64 mseq,.int .i64 mwall,.int .i64 mcount,.int .i64 md0,.int .i64 md1,.int .i64 md2,.int .i64 md3,.slice mA mws.length mc] 44)) x3)=wi at *
    go_loopw [8,9,10,13] (fun b d g i W2=>∃ (j:Nat) (bs:Int) (dt:ByteArray) (gn:Bool),j≤mws.length∧i=.int .i64 j∧b=.int .i64 bs∧d=.string dt∧g=.bool gn∧Hid (LsR (ts.map (·.t)) (lsIn (ts.map (·.t)) v0 v1 v2 v3 key k ⟨(st:Int),mseq,mwall,mcount,md0,md1,md2,md3,mws⟩ j) bs dt gn)∧Below wi.heap.size wi W2) (fun _ _ _ i _=>mws.length-(Go.RowKit.intOf i).toNat)
    case atStart=>exact ⟨0,bs,dt,gn,Nat.zero_le _,rfl,rfl,rfl,rfl,hidp (by rw [lsIn_zero];exact HLS.out),Below.refl _ _⟩
    case round=>
     obtain ⟨j,bj,dj,gj,hj,rfl,rfl,rfl,rfl,HJ,hbl2⟩:=hrel
     obtain ⟨W2,rfl⟩:∃ W2:World,W2=wr:=⟨_,rfl⟩
     have HBJ:=hidp hbl2
     have HB2:=hidp (HBI.out.trans (hbl2.mono HBI.out.size))
     have hx9:=(hbl2.block _ (lt_blk HN9.out)).trans HN9.out
     obtain ⟨t0,t1,t2,t3,t4,t5,t6,t7,t8⟩:=cell9 hx9
     haveI:SzGe (W.heap.size+1) W2:=⟨lt_blk hx9⟩
     have htw:=(HB2.out.block _ (Nat.lt_of_lt_of_le (lt_blk HTB.out) HBW.out.size)).trans ((HBW.out.block _ (lt_blk HTB.out)).trans HTB.out)
     have c3:W2.cell? ⟨tb,3,none⟩=some (.slice (some ⟨b,o,none⟩) ts.length cl):=by rw [cell_blk htw 3];rfl
     haveI:SzGe (tb+1) W2:=⟨lt_blk htw⟩
     clear hbl2 hx9 htw
     by_cases hjl:j<mws.length
     ·obtain ⟨bw,ow,hAw,hbw,y0,y1,y2⟩:=(HDK.out.below HB2.out) j mws[j] (List.getElem?_eq_getElem hjl)
      have HNX:=hidp (lsIn_next (T:=(ts.map (·.t))) (i:=k) (key:=key) (t:=⟨(st:Int),mseq,mwall,mcount,md0,md1,md2,md3,mws⟩) (w:=mws[j]) (List.getElem?_eq_getElem hjl:(⟨(st:Int),mseq,mwall,mcount,md0,md1,md2,md3,mws⟩:TxP).ws[j]?=some mws[j]) HSE.out)
      generalize mws[j]=xw at *
      obtain ⟨xk,xd,xg⟩:=xw
      simp only at y0 y1 y2
      haveI:SzGe (bw+1) W2:=⟨hbw⟩
      obtain rfl:=hAw
      by_cases hkq:xk=key
      ·subst hkq
       obtain ⟨r,hrr⟩:∃ r,lsIn (ts.map (·.t)) v0 v1 v2 v3 xk k ⟨(st:Int),mseq,mwall,mcount,md0,md1,md2,md3,mws⟩ j=r:=⟨_,rfl⟩
       rw [hrr] at HNX HJ
       clear hrr
       cases hr2:r.2 with
       | false=>
         obtain ⟨rfl,rfl,rfl⟩:=HJ.out.no hr2
         have HCO:Hid (xk=xk∧(r.2=false∨cmpV r.1 (verOf ⟨(st:Int),mseq,mwall,mcount,md0,md1,md2,md3,mws⟩ ⟨xk,xd,xg⟩)<0)):=hidp ⟨rfl,.inl hr2⟩
         have hdn:decide ((-1:Int)<0)=true:=rfl
         clear hr2
         have HN2:=hidp (HNX.out.trans (if_pos HCO.out))
         clear HNX HCO
         go_wp2_with fail
         refine wp_region_plus (by kernel_rfl) (by kernel_rfl) ?_
         repeat (first | go_big_quiet_skip | (go_big_quiet_want;go_big_quiet_op;first | go_big_quiet_on | (apply Exists.intro;refine ⟨fun _=>?_,?_⟩;(go_at_call 114;exact Calls.plus_of (HC.out _));go_big_quiet_on)))
         refine wpQuiet_nil ?_
         rintro _ ⟨x5,rfl⟩
         go_wp2_with fail
         refine wp_region_plus (by kernel_rfl) (by kernel_rfl) ?_
         repeat (first | go_big_quiet_skip | (go_big_quiet_want;go_big_quiet_op;go_big_quiet_on))
         refine wpQuiet_nil ?_
         rintro _ ⟨x6,rfl⟩
         go_wp2_with fail
         go_roundw
         case rel=>exact ⟨j+1,(k:Int),xd,xg,by omega,by go_num,rfl,rfl,rfl,hidp (by rw [HN2.out];exact lsR_take HTG.out _),HBJ.out.trans (Below.mono (by repeat (first | exact Below.refl _ _ | refine blw_alloc ?_ | refine blw_plus ?_ | refine Below.drew ?_)) HBJ.out.size)⟩
         case measure=>simp [Go.RowKit.intOf];omega
       | true=>
         obtain ⟨jb,tq,rfl,htq,e1,e2,e3,rfl,rfl⟩:=HJ.out.yes hr2
         have hjb:jb<ts.length:=by have:=lt_get htq;simpa using this
         obtain ⟨b',o',hA',hb',f0,f1,f2,f3,_,_,_,_,_⟩:=((HXS.out.below HBW.out).below HB2.out) jb ts[jb] (List.getElem?_eq_getElem hjb)
         rw [show ts[jb].t=tq from by rw [List.getElem?_map,List.getElem?_eq_getElem hjb] at htq;exact Option.some.inj htq] at f0 f1 f2 f3
         simp only [Option.some.injEq,Addr.mk.injEq] at hA'
         obtain ⟨rfl,rfl,_⟩:=hA'
         haveI:SzGe (b+1) W2:=⟨hb'⟩
         have HCV:Hid (cmpV r.1 (verOf ⟨(st:Int),mseq,mwall,mcount,md0,md1,md2,md3,mws⟩ ⟨xk,xd,xg⟩)=if cmpS tq.wall tq.count mwall mcount≠0 then cmpS tq.wall tq.count mwall mcount else tq.site-(st:Int)):=hidp (by unfold cmpV;rw [←e1,←e2,←e3];rfl)
         have HC:=hidp fun w=>compare_any tq.wall tq.count mwall mcount w
         have HZ:=hidp (cmpS_zero_iff tq.wall tq.count mwall mcount)
         have HR2:=hidp hr2
         clear e1 e2 e3 htq hr2
         obtain ⟨qs,qw,qc,hqs,hqw,hqc⟩:∃ qs qw qc,tq.site=qs∧tq.wall=qw∧tq.count=qc:=⟨_,_,_,rfl,rfl,rfl⟩
         rw [hqs] at f0 HCV
         rw [hqw] at f2 HCV HC HZ
         rw [hqc] at f3 HCV HC HZ
         clear hqs hqw hqc
         generalize cmpS qw qc mwall mcount=z at *
         have hdj:decide ((jb:Int)<0)=false:=decide_eq_false (by omega)
         by_cases hz:z<0
         ·have HCO:Hid (xk=xk∧(r.2=false∨cmpV r.1 (verOf ⟨(st:Int),mseq,mwall,mcount,md0,md1,md2,md3,mws⟩ ⟨xk,xd,xg⟩)<0)):=hidp ⟨rfl,.inr (by rw [HCV.out,if_pos (by omega)];exact hz)⟩
          have hdz:decide (z<0)=true:=decide_eq_true hz
          clear hz
          have HN2:=hidp (HNX.out.trans (if_pos HCO.out))
          clear HNX HCO
          go_wp2_with fail
          refine wp_region_plus (by kernel_rfl) (by kernel_rfl) ?_
          repeat (first | go_big_quiet_skip | (go_big_quiet_want;go_big_quiet_op;first | go_big_quiet_on | (apply Exists.intro;refine ⟨fun _=>?_,?_⟩;(go_at_call 114;exact Calls.plus_of (HC.out _));go_big_quiet_on)))
          refine wpQuiet_nil ?_
          rintro _ ⟨x5,rfl⟩
          go_wp2_with fail
          refine wp_region_plus (by kernel_rfl) (by kernel_rfl) ?_
          repeat (first | go_big_quiet_skip | (go_big_quiet_want;go_big_quiet_op;go_big_quiet_on))
          refine wpQuiet_nil ?_
          rintro _ ⟨x6,rfl⟩
          go_wp2_with fail
          go_roundw
          case rel=>exact ⟨j+1,(k:Int),xd,xg,by omega,by go_num,rfl,rfl,rfl,hidp (by rw [HN2.out];exact lsR_take HTG.out _),HBJ.out.trans (Below.mono (by repeat (first | exact Below.refl _ _ | refine blw_alloc ?_ | refine blw_plus ?_ | refine Below.drew ?_)) HBJ.out.size)⟩
          case measure=>simp [Go.RowKit.intOf];omega
         ·have hdz:decide (z<0)=false:=decide_eq_false hz
          by_cases he:qw=mwall∧qc=mcount
          ·have hz0:z=0:=HZ.out.2 he
           obtain ⟨rfl,rfl⟩:=he
           by_cases hs:qs<(st:Int)
           ·have HCO:Hid (xk=xk∧(r.2=false∨cmpV r.1 (verOf ⟨(st:Int),mseq,qw,qc,md0,md1,md2,md3,mws⟩ ⟨xk,xd,xg⟩)<0)):=hidp ⟨rfl,.inr (by rw [HCV.out,if_neg (by omega)];omega)⟩
            have hds:decide (qs<(st:Int))=true:=decide_eq_true hs
            clear hs hz hz0
            have HN2:=hidp (HNX.out.trans (if_pos HCO.out))
            clear HNX HCO
            go_wp2_with fail
            refine wp_region_plus (by kernel_rfl) (by kernel_rfl) ?_
            repeat (first | go_big_quiet_skip | (go_big_quiet_want;go_big_quiet_op;first | go_big_quiet_on | (apply Exists.intro;refine ⟨fun _=>?_,?_⟩;(go_at_call 114;exact Calls.plus_of (HC.out _));go_big_quiet_on)))
            refine wpQuiet_nil ?_
            rintro _ ⟨x5,rfl⟩
            go_wp2_with fail
            refine wp_region_plus (by kernel_rfl) (by kernel_rfl) ?_
            repeat (first | go_big_quiet_skip | (go_big_quiet_want;go_big_quiet_op;go_big_quiet_on))
            refine wpQuiet_nil ?_
            rintro _ ⟨x6,rfl⟩
            go_wp2_with fail
            go_roundw
            case rel=>exact ⟨j+1,(k:Int),xd,xg,by omega,by go_num,rfl,rfl,rfl,hidp (by rw [HN2.out];exact lsR_take HTG.out _),HBJ.out.trans (Below.mono (by repeat (first | exact Below.refl _ _ | refine blw_alloc ?_ | refine blw_plus ?_ | refine Below.drew ?_)) HBJ.out.size)⟩
            case measure=>simp [Go.RowKit.intOf];omega
           ·have HCO:Hid (¬(xk=xk∧(r.2=false∨cmpV r.1 (verOf ⟨(st:Int),mseq,qw,qc,md0,md1,md2,md3,mws⟩ ⟨xk,xd,xg⟩)<0))):=hidp (fun ⟨_,h⟩=>by rw [HR2.out,HCV.out,if_neg (by omega)] at h;rcases h with h | h;exact absurd h (by simp);omega)
            have hds:decide (qs<(st:Int))=false:=decide_eq_false hs
            clear hs hz hz0
            have HN2:=hidp (HNX.out.trans (if_neg HCO.out))
            clear HNX HCO
            go_wp2_with fail
            refine wp_region_plus (by kernel_rfl) (by kernel_rfl) ?_
            repeat (first | go_big_quiet_skip | (go_big_quiet_want;go_big_quiet_op;first | go_big_quiet_on | (apply Exists.intro;refine ⟨fun _=>?_,?_⟩;(go_at_call 114;exact Calls.plus_of (HC.out _));go_big_quiet_on)))
            refine wpQuiet_nil ?_
            rintro _ ⟨x5,rfl⟩
            go_wp2_with fail
            go_roundw
            case rel=>exact ⟨j+1,_,_,_,by omega,by go_num,rfl,rfl,rfl,hidp (by rw [HN2.out];exact HJ.out),HBJ.out.trans (Below.mono (by repeat (first | exact Below.refl _ _ | refine blw_alloc ?_ | refine blw_plus ?_ | refine Below.drew ?_)) HBJ.out.size)⟩
            case measure=>simp [Go.RowKit.intOf];omega
          ·have hz0:z≠0:=fun e=>he (HZ.out.1 e)
           have HCO:Hid (¬(xk=xk∧(r.2=false∨cmpV r.1 (verOf ⟨(st:Int),mseq,mwall,mcount,md0,md1,md2,md3,mws⟩ ⟨xk,xd,xg⟩)<0))):=hidp (fun ⟨_,h⟩=>by rw [HR2.out,HCV.out,if_pos hz0] at h;rcases h with h | h;exact absurd h (by simp);omega)
           have hbq:(qw==mwall&&qc==mcount)=false:=by rw [Bool.eq_false_iff];intro e;simp at e;exact he e
           clear he hz hz0
           have HN2:=hidp (HNX.out.trans (if_neg HCO.out))
           clear HNX HCO
           go_wp2_with fail
           refine wp_region_plus (by kernel_rfl) (by kernel_rfl) ?_
           repeat (first | go_big_quiet_skip | (go_big_quiet_want;go_big_quiet_op;first | go_big_quiet_on | (apply Exists.intro;refine ⟨fun _=>?_,?_⟩;(go_at_call 114;exact Calls.plus_of (HC.out _));go_big_quiet_on)))
           refine wpQuiet_nil ?_
           rintro _ ⟨x5,rfl⟩
           go_wp2_with fail
           go_roundw
           case rel=>exact ⟨j+1,_,_,_,by omega,by go_num,rfl,rfl,rfl,hidp (by rw [HN2.out];exact HJ.out),HBJ.out.trans (Below.mono (by repeat (first | exact Below.refl _ _ | refine blw_alloc ?_ | refine blw_plus ?_ | refine Below.drew ?_)) HBJ.out.size)⟩
           case measure=>simp [Go.RowKit.intOf];omega
      ·have HCO:Hid (¬(xk=key∧((lsIn (ts.map (·.t)) v0 v1 v2 v3 key k ⟨(st:Int),mseq,mwall,mcount,md0,md1,md2,md3,mws⟩ j).2=false∨cmpV (lsIn (ts.map (·.t)) v0 v1 v2 v3 key k ⟨(st:Int),mseq,mwall,mcount,md0,md1,md2,md3,mws⟩ j).1 (verOf ⟨(st:Int),mseq,mwall,mcount,md0,md1,md2,md3,mws⟩ ⟨xk,xd,xg⟩)<0))):=hidp (fun e=>hkq e.1)
       go_wp2_with fail
       go_roundw
       case rel=>exact ⟨j+1,_,_,_,by omega,by go_num,rfl,rfl,rfl,hidp (by rw [HNX.out,if_neg HCO.out];exact HJ.out),HBJ.out.trans (Below.mono (by repeat (first | exact Below.refl _ _ | refine blw_alloc ?_ | refine blw_plus ?_ | refine Below.drew ?_)) HBJ.out.size)⟩
       case measure=>simp [Go.RowKit.intOf];omega
     ·obtain rfl:j=mws.length:=by omega
      have HNA:=hidp (lsAt_next (v0:=v0) (v1:=v1) (v2:=v2) (v3:=v3) (key:=key) HTG.out)
      go_wp2_with fail
      go_roundw
      case rel=>exact ⟨k+1,bj,dj,gj,by omega,by go_num,rfl,rfl,rfl,hidp (by rw [HNA.out];exact HJ.out),HBW.out.trans (HB2.out.mono HBW.out.size)⟩
      case measure=>simp [Go.RowKit.intOf];omega
  ·obtain rfl:k=ts.length:=by omega
   go_wp2_with fail
   go_ret2
   exact ⟨⟨bs,dt,gn,rfl,HLS.out⟩,HB0.out.trans (HBW.out.mono HB0.out.size)⟩
end Go.Proofs.YtbopfhbeegkkaabGreatDoor
