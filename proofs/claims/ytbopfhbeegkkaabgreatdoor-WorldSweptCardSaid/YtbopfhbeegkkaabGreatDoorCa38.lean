/- Part 38 of a proof: lemmas and contracts that other parts use. -/
import Derived.Test.YtbopfhbeegkkaabGreatDoorCa36
import Derived.Test.YtbopfhbeegkkaabGreatDoorCa37
set_option linter.unusedVariables false
set_option linter.unusedSimpArgs false
set_option linter.constructorNameAsVariable false
namespace Go.Proofs.YtbopfhbeegkkaabGreatDoor
open Go.RowKit
theorem lsAt_all (T:List TxP) (v0 v1 v2 v3 key:Int):lsAt T v0 v1 v2 v3 key T.length=lastT T v0 v1 v2 v3 key:=by
 unfold lsAt lastT rLast
 rw [List.take_length]
def lsOf (r:VerP×Bool):ByteArray×Bool:=(if r.2 then r.1.data else ⟨#[]⟩,r.2&&!r.1.gone)
def tlLast (s:TlP) (k:Nat) (key:Int):VerP×Bool:=lastT s.T (s.A.cl k).n0 (s.A.cl k).n1 (s.A.cl k).n2 (s.A.cl k).n3 key
def tlWant (s:TlP) (k:Nat) (key:Int):ByteArray×Bool:=match s.F k key with
 | some x=>(x.data,!x.gone)
 | none=>lsOf (tlLast s k key)
theorem TlOk.reads {s:TlP} {b:Nat→Int→Int} (h:TlOk s b) {k:Nat} (hk:k<s.A.C) (ho:(s.A.cl k).op=true) {key:Int} (hkey:0≤key∧key<8):
  awRead s.A k key=if (tlWant s k key).2=true then ((tlWant s k key).1,0) else (⟨#[]⟩,8):=by
 have hr:=h.inv.reads hk ho hkey
 have hw:=(h.own k hk ho).1 key
 unfold awRead tlWant sdRead
 rw [ho,hw,hr]
 rw [if_neg (by simp)]
 cases hl:lastW (s.A.cl k).W key with
 | some x=>cases hg:x.gone <;> simp [hg]
 | none=>
   unfold tlLast lsOf
   generalize lastT s.T (s.A.cl k).n0 (s.A.cl k).n1 (s.A.cl k).n2 (s.A.cl k).n3 key=r
   cases h2:r.2 with
   | false=>simp [verZ]
   | true=>cases hg:r.1.gone <;> simp [hg,verZ]
theorem TlOk.readN {s:TlP} {k:Nat} (ho:(s.A.cl k).op=false) (key:Int):awRead s.A k key=(⟨#[]⟩,6):=by
 unfold awRead sdRead
 rw [ho,if_pos rfl]
def clCov (d' d:SdP):Prop:=covD d'.q0 d'.q1 d'.q2 d'.q3 d.q0 d.q1 d.q2 d.q3=true
theorem clCov.refl (d:SdP):clCov d d:=by unfold clCov covD;simp
theorem cov_begin (d:SdP) (p0 p1 p2 p3:Int):clCov (dBegin d p0 p1 p2 p3) d:=by
 unfold dBegin
 split
 ·exact clCov.refl d
 ·exact clCov.refl d
theorem begin_sees {d:SdP} {p0 p1 p2 p3:Int} (he:sdBeginE d p0 p1 p2 p3=0):covD (dBegin d p0 p1 p2 p3).n0 (dBegin d p0 p1 p2 p3).n1 (dBegin d p0 p1 p2 p3).n2 (dBegin d p0 p1 p2 p3).n3 d.q0 d.q1 d.q2 d.q3=true:=by
 unfold dBegin
 rw [if_pos he]
 unfold sdBeginE at he
 show covD p0 p1 p2 p3 d.q0 d.q1 d.q2 d.q3=true
 cases hc:covD p0 p1 p2 p3 d.q0 d.q1 d.q2 d.q3 with
 | true=>rfl
 | false=>rw [hc] at he;split at he <;> simp at he
theorem cov_write (d:SdP) (x:WrP):clCov (dWrite d x) d:=by
 unfold dWrite
 split
 ·exact clCov.refl d
 ·exact clCov.refl d
theorem cov_ab (d:SdP):clCov (sdAbort d) d:=by
 unfold clCov covD sdAbort
 simp only [Bool.and_eq_true,decide_eq_true_eq]
 omega
theorem cov_abort (d:SdP):clCov (dAbort d) d:=by
 unfold dAbort
 split
 ·exact cov_ab d
 ·exact clCov.refl d
theorem cov_at {d d':SdP} (h:clCov d' d) (i z:Int):clCov (sdAt d' i z) d:=by
 unfold clCov covD sdAt at *
 simp only [Bool.and_eq_true,decide_eq_true_eq] at *
 refine ⟨⟨⟨?_,?_⟩,?_⟩,?_⟩ <;> split <;> omega
theorem cov_commit (d:SdP) (a:RSi) (now:Int):clCov (dCommitD d a now) d:=by
 unfold dCommitD
 split
 ·exact cov_ab d
 ·exact cov_at (cov_ab d) _ _
theorem at_has (d:SdP) {i:Nat} (hi:i<4) (z:Int):z≤(sdAt d (i:Int) z).ps (i:Int):=by
 have hc:i=0∨i=1∨i=2∨i=3:=by omega
 unfold SdP.ps atV sdAt
 rcases hc with rfl | rfl | rfl | rfl <;> simp <;> omega
theorem TlOk.did {s:TlP} {b:Nat→Int→Int} (h:TlOk s b) {k:Nat} (hk:k<s.A.C) (he:awCommitE s.A k=0) (hq:0<(awCommitT s.A k).seq):
  ∃ i:Nat,i<4∧(awCommitT s.A k).site=(i:Int)∧(awCommitT s.A k).seq≤((awCommit s.A k).cl k).ps (i:Int)∧(awCommitT s.A k).ws.length=s.z k:=by
 obtain ⟨hpl,_⟩:=h.inv.cl k hk
 have hs:=(h.inv.si _ hpl).1
 have hop:=(awCommit_parts he).1
 have hl:dCommitL (s.A.cl k)≠[]:=fun e=>by
  have:awCommitT s.A k=txZP:=by unfold awCommitT dCommitT;rw [if_pos e]
  rw [this] at hq
  exact absurd hq (by simp [txZP])
 have hT:awCommitT s.A k=rCommitT (awSe s.A k) (s.A.wl (s.A.pl k)) (s.A.cl k).n0 (s.A.cl k).n1 (s.A.cl k).n2 (s.A.cl k).n3 (dCommitL (s.A.cl k)):=by
  unfold awCommitT dCommitT
  rw [if_neg hl]
 have hsite:(awCommitT s.A k).site=(s.A.pl k:Int):=by rw [hT];exact hs.id
 refine ⟨s.A.pl k,hs.k4,hsite,?_,?_⟩
 ·rw [(awCommit_C s.A k).2.2 k]
  unfold awCommit1
  rw [if_pos he]
  show _≤(fset s.A.cl k (dCommitD (s.A.cl k) (awSe s.A k) (s.A.wl (s.A.pl k))) k).ps _
  rw [fset_same]
  unfold dCommitD
  rw [if_neg hl]
  have e2:dCommitT (s.A.cl k) (awSe s.A k) (s.A.wl (s.A.pl k))=awCommitT s.A k:=rfl
  rw [e2,hsite]
  exact at_has _ hs.k4 _
 ·rw [hT]
  show (dCommitL (s.A.cl k)).length=_
  rw [(h.own k hk hop).2];rfl
theorem cov_commitA (A:AWd) (k i:Nat):clCov ((awCommit A k).cl i) (A.cl i):=by
 rw [(awCommit_C A k).2.2 i]
 unfold awCommit1
 split
 ·show clCov (fset A.cl k _ i) _
  by_cases e:i=k
  ·subst e;rw [fset_same];exact cov_commit _ _ _
  ·rw [fset_other _ e];exact clCov.refl _
 ·exact clCov.refl _
theorem cov_set {A:AWd} {d:SdP} {k:Nat} (h:clCov d (A.cl k)) (i:Nat):clCov (fset A.cl k d i) (A.cl i):=by
 by_cases e:i=k
 ·subst e;rw [fset_same];exact h
 ·rw [fset_other _ e];exact clCov.refl _
theorem EType.low {w w':World} (h:EType w) (hb:Below w.heap.size w w'):EType w':=by
 unfold EType at *
 rw [hb.cell (p:=⟨0,0,none⟩) (World.block_lt_of_cell? w _ h)]
 exact h
section
variable {w0 w:World} {n:Nat} {O:Nat→Ob} {p tb:Nat} {s:TlP} {t:TV} {b:Nat→Int→Int} {k:Nat}
theorem tlast_any (ht:TAx w0.heap.size O p tb s t) (hm:Mem w0 w n O) (hn:p+25≤n) (hok:TlOk s b) (hT:s.T.length≤1000) (v0 v1 v2 v3 key:Int):
  Calls Tryz.prog 59 #[.pointer (some ⟨tb,0,none⟩),.int .i64 key,.agg #[.int .i64 v0,.int .i64 v1,.int .i64 v2,.int .i64 v3]] w fun e w'=>e=.returned (.tuple #[.string (lsOf (lastT s.T v0 v1 v2 v3 key)).1,.bool (lsOf (lastT s.T v0 v1 v2 v3 key)).2])∧Below w.heap.size w w':=by
 have hb:=ht.blk hm hn
 obtain ⟨hrow,_⟩:=ht.rowT hm hn
 obtain ⟨Al,cl,e⟩:=own_form hrow.1
 have hx:=hrow.1
 rw [e] at hx
 have hl:t.ts.length=s.T.length:=by rw [←ht.eT,List.length_map]
 have h:=last_any t.ts tb _ _ _ _ Al cl v0 v1 v2 v3 key w (by rw [←e];exact hb) (own_xs hx) (fun m hm=>(hrow.2 m hm).1) (fun m hm=>hok.inv.t.rt _ (by rw [←ht.eT];exact List.mem_map_of_mem hm)) (by omega)
 refine h.mono ?_
 rintro e w1 ⟨h1,h2⟩
 rw [ht.eT] at h1
 have e3:lsAt s.T v0 v1 v2 v3 key t.ts.length=lastT s.T v0 v1 v2 v3 key:=by rw [hl,lsAt_all]
 rw [e3] at h1
 exact ⟨h1.is,h2⟩
set_option maxRecDepth 200000 in
set_option maxHeartbeats 16000000 in
theorem reads_ok (hg:EType w) (ht:TAx w0.heap.size O p tb s t) (hm:Mem w0 w n O) (hn:p+25≤n) (hok:TlOk s b) (hT:s.T.length≤1000) (hk:k<s.A.C) {key:Int} (hkey:0≤key∧key<8):
  Calls Tryz.prog 56 #[.pointer (some ⟨tb,0,none⟩),.int .i64 (k:Nat),.int .i64 key] w fun e w'=>e=.returned (.bool true)∧Below w.heap.size w w':=by
 have hC6:s.A.C≤6:=ht.w.ok.C
 have hwf:wf64 key:=by unfold wf64;omega
 have HG:=hidp hg
 have HCL:=hidp (fun W (hW:Below w.heap.size w W)=>wClient_ok ht.w (hm.below hW) (by omega) hk)
 have HRD:=hidp (fun W (hW:Below w.heap.size w W)=>wRead_ok ht.w (hm.below hW) (by omega) hk key hwf)
 have HLA:=hidp (fun W (hW:Below w.heap.size w W)=>tlast_any ht (hm.below hW) hn hok hT (s.A.cl k).n0 (s.A.cl k).n1 (s.A.cl k).n2 (s.A.cl k).n3 key)
 have HBK:=hidp (fun W (hW:Below w.heap.size w W)=>ht.blk (hm.below hW) hn)
 obtain ⟨bo,co,mb,eO,hlo,hmc,_,hmp,_,_,_⟩:=ht.map hm hn hk
 have HMP:=hidp hmp
 have HMC:=hidp hmc
 have HRN:=hidp (TlOk.readN (s:=s) (k:=k) · key)
 have HRT:=hidp (fun ho=>hok.reads hk ho hkey)
 have HW:=hidp (show tlWant s k key=(match s.F k key with | some x=>(x.data,!x.gone) | none=>lsOf (lastT s.T (s.A.cl k).n0 (s.A.cl k).n1 (s.A.cl k).n2 (s.A.cl k).n3 key)) from rfl)
 rw [eO] at HBK
 have hb:=HBK.out _ (Below.refl _ _)
 have c0:=cell_blk hb 0
 simp only [zC,zD,zE] at c0
 haveI:SzGe (tb+1) w:=⟨lt_blk hb⟩
 have HLO:=hidp hlo
 have hk0:(0:Int)≤(k:Int):=by omega
 have hk1:(k:Int)<(s.A.C:Int):=by omega
 have hk6:(k:Int)<6:=by omega
 clear hm ht hok hg hb hmp hmc hlo eO
 generalize lastT s.T (s.A.cl k).n0 (s.A.cl k).n1 (s.A.cl k).n2 (s.A.cl k).n3 key=ll at *
 generalize awRead s.A k key=rr at *
 generalize tlWant s k key=tw at *
 generalize s.F k=fk at *
 generalize s.z k=zk at *
 generalize s.A.pl k=q at *
 generalize (s.A.cl k).q0=e0 at *
 generalize (s.A.cl k).q1=e1 at *
 generalize (s.A.cl k).q2=e2 at *
 generalize (s.A.cl k).q3=e3 at *
 generalize (s.A.cl k).n0=e4 at *
 generalize (s.A.cl k).n1=e5 at *
 generalize (s.A.cl k).n2=e6 at *
 generalize (s.A.cl k).n3=e7 at *
 generalize s.A.C=C at *
 go_enter Tryz.func56,Tryz.ntmps56
 go_wp2_with fail
 go_at_call 54
 refine (HCL.out _ (Below.refl _ _)).mono ?_
 rintro e w1 ⟨rfl,hb1⟩
 have HB1:=hidp hb1
 have hbb:=HBK.out _ hb1
 have c0:=cell_blk hbb 0
 have c4:=cell_blk hbb 4
 simp only [zC,zD,zE] at c0 c4
 haveI:SzGe (tb+1) w1:=⟨lt_blk hbb⟩
 clear hb1 HCL hbb
 have HB2:=hidp (HB1.out.trans (Below.mono (show Below w1.heap.size w1 ((w1.alloc (.cells #[.int .i64 e0,.int .i64 e1,.int .i64 e2,.int .i64 e3] 32)).alloc (.cells #[.int .i64 e4,.int .i64 e5,.int .i64 e6,.int .i64 e7] 32)) from zB) HB1.out.size))
 have HV2:=hidp (show ((w1.alloc (.cells #[.int .i64 e0,.int .i64 e1,.int .i64 e2,.int .i64 e3] 32)).alloc (.cells #[.int .i64 e4,.int .i64 e5,.int .i64 e6,.int .i64 e7] 32)).heap[w1.heap.size+1]?=some (.cells #[.int .i64 e4,.int .i64 e5,.int .i64 e6,.int .i64 e7] 32) from (blk_new (by simp [go_sem]) _))
 cases hop:(s.A.cl k).op with
 | false=>
   have hrr:=HRN.out hop
   subst hrr
   go_wp2_with fail
   generalize ((w1.alloc (.cells #[.int .i64 e0,.int .i64 e1,.int .i64 e2,.int .i64 e3] 32)).alloc (.cells #[.int .i64 e4,.int .i64 e5,.int .i64 e6,.int .i64 e7] 32))=w2 at *
   go_at_call 60
   refine (HRD.out _ HB2.out).mono ?_
   rintro e w3 ⟨rfl,hb3⟩
   have HB3:=hidp (HB2.out.trans (hb3.mono HB2.out.size))
   clear hb3
   go_wp2_with fail
   go_at_call 61
   refine (tell_any 6 _ (EType.low HG.out HB3.out)).mono ?_
   rintro e w6 ⟨rfl,hb6⟩
   have HB6:=hidp (HB3.out.trans (hb6.mono HB3.out.size))
   clear hb6
   go_wp2_with fail
   go_ret
   exact ⟨rfl,HB6.out⟩
 | true=>
   have hrr:=HRT.out hop
   generalize lsOf ll=lv at *
   obtain ⟨ld,lk⟩:=lv
   clear HRT HRN
   cases hf:fk key with
   | none=>
     have htw:tw=(ld,lk):=by rw [HW.out,hf]
     subst htw
     cases lk with
     | false=>
       rw [if_neg (by simp)] at hrr
       subst hrr
       have HLK:=hidp (fun W (hW:Below w.heap.size w W)=>(HMP.out.block (hW.block _ HMP.out.lt)).look hwf)
       rw [hf] at HLK
       go_wp2_with fail
       generalize ((w1.alloc (.cells #[.int .i64 e0,.int .i64 e1,.int .i64 e2,.int .i64 e3] 32)).alloc (.cells #[.int .i64 e4,.int .i64 e5,.int .i64 e6,.int .i64 e7] 32))=w2 at *
       go_at_call 60
       refine (HRD.out _ HB2.out).mono ?_
       rintro e w3 ⟨rfl,hb3⟩
       have HB3:=hidp (HB2.out.trans (hb3.mono HB2.out.size))
       have hv3:=(hb3.block _ (lt_blk HV2.out)).trans HV2.out
       haveI:SzGe (w1.heap.size+1+1) w3:=⟨lt_blk hv3⟩
       have v0:=cell_blk hv3 0;have v1:=cell_blk hv3 1;have v2:=cell_blk hv3 2;have v3:=cell_blk hv3 3
       simp only [zC,zD,zE] at v0 v1 v2 v3
       clear hb3 hv3
       go_wp2_with fail
       go_at_call 59
       refine (HLA.out _ HB3.out).mono ?_
       rintro e w4 ⟨rfl,hb4⟩
       have HB4:=hidp (HB3.out.trans (hb4.mono HB3.out.size))
       clear hb4 v0 v1 v2 v3
       have hbb:=HBK.out _ HB4.out
       have c4:=cell_blk hbb 4
       simp only [zC,zD,zE] at c4
       haveI:SzGe (tb+1) w4:=⟨lt_blk hbb⟩
       have hmc4:w4.cell? ⟨bo,k,none⟩=some (.map (some mb)):=by rw [HB4.out.cell (p:=⟨bo,k,none⟩) HLO.out];exact HMC.out
       haveI:SzGe (bo+1) w4:=⟨Nat.lt_of_lt_of_le HLO.out HB4.out.size⟩
       have hlk:=HLK.out _ HB4.out
       simp only [Option.getD_none,Option.getD_some,Option.isSome_none,Option.isSome_some,wrZ,WrP.val] at hlk
       clear HLK hbb
       go_wp2_with fail
       have HB5:=hidp (HB4.out.trans (Below.mono (show Below w4.heap.size w4 (w4.alloc (.cells #[.int .i64 0,.string ⟨#[]⟩,.bool false] 83)) from zB) HB4.out.size))
       go_at_call 61
       refine (tell_any 8 _ (EType.low HG.out HB5.out)).mono ?_
       rintro e w6 ⟨rfl,hb6⟩
       have HB6:=hidp (HB5.out.trans (hb6.mono HB5.out.size))
       clear hb6
       go_wp2_with fail
       go_ret
       exact ⟨rfl,HB6.out⟩
     | true=>
       rw [if_pos rfl] at hrr
       subst hrr
       rw [show errV ((ld,(0:Int)).2)=.nilIface from rfl] at HRD
       have HLK:=hidp (fun W (hW:Below w.heap.size w W)=>(HMP.out.block (hW.block _ HMP.out.lt)).look hwf)
       rw [hf] at HLK
       go_wp2_with fail
       generalize ((w1.alloc (.cells #[.int .i64 e0,.int .i64 e1,.int .i64 e2,.int .i64 e3] 32)).alloc (.cells #[.int .i64 e4,.int .i64 e5,.int .i64 e6,.int .i64 e7] 32))=w2 at *
       go_at_call 60
       refine (HRD.out _ HB2.out).mono ?_
       rintro e w3 ⟨rfl,hb3⟩
       have HB3:=hidp (HB2.out.trans (hb3.mono HB2.out.size))
       have hv3:=(hb3.block _ (lt_blk HV2.out)).trans HV2.out
       haveI:SzGe (w1.heap.size+1+1) w3:=⟨lt_blk hv3⟩
       have v0:=cell_blk hv3 0;have v1:=cell_blk hv3 1;have v2:=cell_blk hv3 2;have v3:=cell_blk hv3 3
       simp only [zC,zD,zE] at v0 v1 v2 v3
       clear hb3 hv3
       go_wp2_with fail
       go_at_call 59
       refine (HLA.out _ HB3.out).mono ?_
       rintro e w4 ⟨rfl,hb4⟩
       have HB4:=hidp (HB3.out.trans (hb4.mono HB3.out.size))
       clear hb4 v0 v1 v2 v3
       have hbb:=HBK.out _ HB4.out
       have c4:=cell_blk hbb 4
       simp only [zC,zD,zE] at c4
       haveI:SzGe (tb+1) w4:=⟨lt_blk hbb⟩
       have hmc4:w4.cell? ⟨bo,k,none⟩=some (.map (some mb)):=by rw [HB4.out.cell (p:=⟨bo,k,none⟩) HLO.out];exact HMC.out
       haveI:SzGe (bo+1) w4:=⟨Nat.lt_of_lt_of_le HLO.out HB4.out.size⟩
       have hlk:=HLK.out _ HB4.out
       simp only [Option.getD_none,Option.getD_some,Option.isSome_none,Option.isSome_some,wrZ,WrP.val] at hlk
       clear HLK hbb
       go_wp2_with fail
       have HB5:=hidp (HB4.out.trans (Below.mono (show Below w4.heap.size w4 (w4.alloc (.cells #[.int .i64 0,.string ⟨#[]⟩,.bool false] 83)) from zB) HB4.out.size))
       go_ret
       exact ⟨rfl,HB5.out⟩
   | some x=>
     obtain ⟨xk,xd,xg⟩:=x
     have htw:tw=(xd,!xg):=by rw [HW.out,hf]
     subst htw
     cases xg with
     | true=>
       rw [if_neg (by simp)] at hrr
       subst hrr
       have HLK:=hidp (fun W (hW:Below w.heap.size w W)=>(HMP.out.block (hW.block _ HMP.out.lt)).look hwf)
       rw [hf] at HLK
       go_wp2_with fail
       generalize ((w1.alloc (.cells #[.int .i64 e0,.int .i64 e1,.int .i64 e2,.int .i64 e3] 32)).alloc (.cells #[.int .i64 e4,.int .i64 e5,.int .i64 e6,.int .i64 e7] 32))=w2 at *
       go_at_call 60
       refine (HRD.out _ HB2.out).mono ?_
       rintro e w3 ⟨rfl,hb3⟩
       have HB3:=hidp (HB2.out.trans (hb3.mono HB2.out.size))
       have hv3:=(hb3.block _ (lt_blk HV2.out)).trans HV2.out
       haveI:SzGe (w1.heap.size+1+1) w3:=⟨lt_blk hv3⟩
       have v0:=cell_blk hv3 0;have v1:=cell_blk hv3 1;have v2:=cell_blk hv3 2;have v3:=cell_blk hv3 3
       simp only [zC,zD,zE] at v0 v1 v2 v3
       clear hb3 hv3
       go_wp2_with fail
       go_at_call 59
       refine (HLA.out _ HB3.out).mono ?_
       rintro e w4 ⟨rfl,hb4⟩
       have HB4:=hidp (HB3.out.trans (hb4.mono HB3.out.size))
       clear hb4 v0 v1 v2 v3
       have hbb:=HBK.out _ HB4.out
       have c4:=cell_blk hbb 4
       simp only [zC,zD,zE] at c4
       haveI:SzGe (tb+1) w4:=⟨lt_blk hbb⟩
       have hmc4:w4.cell? ⟨bo,k,none⟩=some (.map (some mb)):=by rw [HB4.out.cell (p:=⟨bo,k,none⟩) HLO.out];exact HMC.out
       haveI:SzGe (bo+1) w4:=⟨Nat.lt_of_lt_of_le HLO.out HB4.out.size⟩
       have hlk:=HLK.out _ HB4.out
       simp only [Option.getD_none,Option.getD_some,Option.isSome_none,Option.isSome_some,wrZ,WrP.val] at hlk
       clear HLK hbb
       go_wp2_with fail
       refine wp_region_plus (by kernel_rfl) (by kernel_rfl) ?_
       repeat (first | go_big_quiet_skip | (go_big_quiet_want;go_big_quiet_op;go_big_quiet_on))
       refine wpQuiet_nil ?_
       rintro _ ⟨x5,rfl⟩
       have HB5:=hidp (HB4.out.trans (Below.mono (show Below w4.heap.size w4 (wplus (w4.alloc (.cells #[.int .i64 xk,.string xd,.bool true] 83)) x5) from zB) HB4.out.size))
       go_wp2_with fail
       go_at_call 61
       refine (tell_any 8 _ (EType.low HG.out HB5.out)).mono ?_
       rintro e w6 ⟨rfl,hb6⟩
       have HB6:=hidp (HB5.out.trans (hb6.mono HB5.out.size))
       clear hb6
       go_wp2_with fail
       go_ret
       exact ⟨rfl,HB6.out⟩
     | false=>
       rw [if_pos (by simp)] at hrr
       subst hrr
       rw [show errV ((xd,(0:Int)).2)=.nilIface from rfl] at HRD
       have HLK:=hidp (fun W (hW:Below w.heap.size w W)=>(HMP.out.block (hW.block _ HMP.out.lt)).look hwf)
       rw [hf] at HLK
       go_wp2_with fail
       generalize ((w1.alloc (.cells #[.int .i64 e0,.int .i64 e1,.int .i64 e2,.int .i64 e3] 32)).alloc (.cells #[.int .i64 e4,.int .i64 e5,.int .i64 e6,.int .i64 e7] 32))=w2 at *
       go_at_call 60
       refine (HRD.out _ HB2.out).mono ?_
       rintro e w3 ⟨rfl,hb3⟩
       have HB3:=hidp (HB2.out.trans (hb3.mono HB2.out.size))
       have hv3:=(hb3.block _ (lt_blk HV2.out)).trans HV2.out
       haveI:SzGe (w1.heap.size+1+1) w3:=⟨lt_blk hv3⟩
       have v0:=cell_blk hv3 0;have v1:=cell_blk hv3 1;have v2:=cell_blk hv3 2;have v3:=cell_blk hv3 3
       simp only [zC,zD,zE] at v0 v1 v2 v3
       clear hb3 hv3
       go_wp2_with fail
       go_at_call 59
       refine (HLA.out _ HB3.out).mono ?_
       rintro e w4 ⟨rfl,hb4⟩
       have HB4:=hidp (HB3.out.trans (hb4.mono HB3.out.size))
       clear hb4 v0 v1 v2 v3
       have hbb:=HBK.out _ HB4.out
       have c4:=cell_blk hbb 4
       simp only [zC,zD,zE] at c4
       haveI:SzGe (tb+1) w4:=⟨lt_blk hbb⟩
       have hmc4:w4.cell? ⟨bo,k,none⟩=some (.map (some mb)):=by rw [HB4.out.cell (p:=⟨bo,k,none⟩) HLO.out];exact HMC.out
       haveI:SzGe (bo+1) w4:=⟨Nat.lt_of_lt_of_le HLO.out HB4.out.size⟩
       have hlk:=HLK.out _ HB4.out
       simp only [Option.getD_none,Option.getD_some,Option.isSome_none,Option.isSome_some,wrZ,WrP.val] at hlk
       clear HLK hbb
       go_wp2_with fail
       refine wp_region_plus (by kernel_rfl) (by kernel_rfl) ?_
       repeat (first | go_big_quiet_skip | (go_big_quiet_want;go_big_quiet_op;go_big_quiet_on))
       refine wpQuiet_nil ?_
       rintro _ ⟨x5,rfl⟩
       have HB5:=hidp (HB4.out.trans (Below.mono (show Below w4.heap.size w4 (wplus (w4.alloc (.cells #[.int .i64 xk,.string xd,.bool false] 83)) x5) from zB) HB4.out.size))
       go_wp2_with fail
       go_ret
       exact ⟨rfl,HB5.out⟩
end
section
variable {w0 w:World} {n:Nat} {O:Nat→Ob} {p tb:Nat} {s:TlP} {t:TV} {b:Nat→Int→Int}
theorem covers_of {d' d:SdP} (h:clCov d' d) (W:World):Calls Tryz.prog 55 #[.agg #[.int .i64 d'.q0,.int .i64 d'.q1,.int .i64 d'.q2,.int .i64 d'.q3],.agg #[.int .i64 d.q0,.int .i64 d.q1,.int .i64 d.q2,.int .i64 d.q3]] W fun e w'=>e=.returned (.bool true)∧Below W.heap.size W w':=by
 have:=covers_any d'.q0 d'.q1 d'.q2 d'.q3 d.q0 d.q1 d.q2 d.q3 W
 unfold clCov at h
 rw [h] at this
 exact this
theorem TUpd.client {g k:Nat} (h:TUpd w0 w n O p tb g s) (hn:p+25≤n) (hk:k<s.A.C):Calls Tryz.prog 54 #[.pointer (some ⟨g,0,none⟩),.int .i64 (k:Nat)] w fun e w'=>e=.returned (.tuple #[.int .i64 (s.A.pl k:Int),.agg #[.int .i64 (s.A.cl k).q0,.int .i64 (s.A.cl k).q1,.int .i64 (s.A.cl k).q2,.int .i64 (s.A.cl k).q3],.agg #[.int .i64 (s.A.cl k).n0,.int .i64 (s.A.cl k).n1,.int .i64 (s.A.cl k).n2,.int .i64 (s.A.cl k).n3],.bool (s.A.cl k).op,.nilIface])∧Below w.heap.size w w':=by
 obtain ⟨O',t,h1,⟨h2,rfl⟩,_⟩:=h
 exact wClient_ok h2.w h1 (by omega) hk
theorem tlDo_0 (s:TlP) (a:TaP) (sw:Bool) (h:a.what=0):tlDo s a sw=tlBegin s (tlK s a):=by
 unfold tlDo
 rw [if_pos h]
theorem tlDo_1 (s:TlP) (a:TaP) (sw:Bool) (h:a.what=1):tlDo s a sw=s:=by
 unfold tlDo
 rw [if_neg (by rw [h];decide),if_pos h]
theorem tlDo_2 (s:TlP) (a:TaP) (sw:Bool) (h:a.what=2):tlDo s a sw=tlWrite s (tlK s a) (tlX a):=by
 unfold tlDo
 rw [if_neg (by rw [h];decide),if_neg (by rw [h];decide),if_pos h]
theorem tlDo_3 (s:TlP) (a:TaP) (sw:Bool) (h:a.what=3):tlDo s a sw=tlCommit s (tlK s a):=by
 unfold tlDo
 rw [if_neg (by rw [h];decide),if_neg (by rw [h];decide),if_neg (by rw [h];decide),if_pos h]
theorem tlDo_4 (s:TlP) (a:TaP) (sw:Bool) (h:a.what=4):tlDo s a sw=tlTo s (awAbort s.A (tlK s a)):=by
 unfold tlDo
 rw [if_neg (by rw [h];decide),if_neg (by rw [h];decide),if_neg (by rw [h];decide),if_neg (by rw [h];decide),if_pos h]
theorem tlDo_5 (s:TlP) (a:TaP) (sw:Bool) (h:a.what=5):tlDo s a sw=tlTo s (awMove s.A (tlK s a) (pickN a.n s.A.S:Int)):=by
 unfold tlDo
 rw [if_neg (by rw [h];decide),if_neg (by rw [h];decide),if_neg (by rw [h];decide),if_neg (by rw [h];decide),if_neg (by rw [h];decide),if_pos h]
theorem tlDo_6 (s:TlP) (a:TaP) (sw:Bool) (h:a.what=6):tlDo s a sw=tlTo s (awGoes s.A (tlS s a) (pickN a.n 50:Int)):=by
 unfold tlDo
 rw [if_neg (by rw [h];decide),if_neg (by rw [h];decide),if_neg (by rw [h];decide),if_neg (by rw [h];decide),if_neg (by rw [h];decide),if_neg (by rw [h];decide),if_pos h]
theorem tlDo_7 (s:TlP) (a:TaP) (sw:Bool) (h:a.what=7):tlDo s a sw=(if tlS s a=pickN a.n s.A.S then s else tlTo s (awAsk s.A (tlS s a) (pickN a.n s.A.S))):=by
 unfold tlDo
 rw [if_neg (by rw [h];decide),if_neg (by rw [h];decide),if_neg (by rw [h];decide),if_neg (by rw [h];decide),if_neg (by rw [h];decide),if_neg (by rw [h];decide),if_neg (by rw [h];decide),if_pos h]
theorem tlDo_8 (s:TlP) (a:TaP) (sw:Bool) (h:a.what=8):tlDo s a sw=(if 0<s.A.way.length then tlTo s (awDeliver s.A (tlI s a)) else s):=by
 unfold tlDo
 rw [if_neg (by rw [h];decide),if_neg (by rw [h];decide),if_neg (by rw [h];decide),if_neg (by rw [h];decide),if_neg (by rw [h];decide),if_neg (by rw [h];decide),if_neg (by rw [h];decide),if_neg (by rw [h];decide),if_pos h]
theorem tlDo_9 (s:TlP) (a:TaP) (sw:Bool) (h:a.what=9):tlDo s a sw=(if 0<s.A.way.length then tlTo s (awOut s.A (tlI s a)) else s):=by
 unfold tlDo
 rw [if_neg (by rw [h];decide),if_neg (by rw [h];decide),if_neg (by rw [h];decide),if_neg (by rw [h];decide),if_neg (by rw [h];decide),if_neg (by rw [h];decide),if_neg (by rw [h];decide),if_neg (by rw [h];decide),if_neg (by rw [h];decide),if_pos h]
theorem tlDo_10 (s:TlP) (a:TaP) (sw:Bool) (h:a.what=10):tlDo s a sw=(if 0<s.A.way.length then tlTo s (awTwice s.A (tlI s a)) else s):=by
 unfold tlDo
 rw [if_neg (by rw [h];decide),if_neg (by rw [h];decide),if_neg (by rw [h];decide),if_neg (by rw [h];decide),if_neg (by rw [h];decide),if_neg (by rw [h];decide),if_neg (by rw [h];decide),if_neg (by rw [h];decide),if_neg (by rw [h];decide),if_neg (by rw [h];decide),if_pos h]
theorem tlDo_11 (s:TlP) (a:TaP) (sw:Bool) (h:a.what=11):tlDo s a sw=(if sw=true then tlTo s (awSweep s.A (tlS s a)) else s):=by
 unfold tlDo
 rw [if_neg (by rw [h];decide),if_neg (by rw [h];decide),if_neg (by rw [h];decide),if_neg (by rw [h];decide),if_neg (by rw [h];decide),if_neg (by rw [h];decide),if_neg (by rw [h];decide),if_neg (by rw [h];decide),if_neg (by rw [h];decide),if_neg (by rw [h];decide),if_neg (by rw [h];decide),if_pos h]
theorem tlDo_12 (s:TlP) (a:TaP) (sw:Bool) (h:a.what=12):tlDo s a sw=tlTo s (awCalm s.A):=by
 unfold tlDo
 rw [if_neg (by rw [h];decide),if_neg (by rw [h];decide),if_neg (by rw [h];decide),if_neg (by rw [h];decide),if_neg (by rw [h];decide),if_neg (by rw [h];decide),if_neg (by rw [h];decide),if_neg (by rw [h];decide),if_neg (by rw [h];decide),if_neg (by rw [h];decide),if_neg (by rw [h];decide),if_neg (by rw [h];decide),if_pos h]
set_option maxRecDepth 200000 in
set_option maxHeartbeats 16000000 in
theorem does_4 (hg:EType w) (ht:TAx w0.heap.size O p tb s t) (hm:Mem w0 w n O) (hn:p+25≤n) (hok:TlOk s b) (hT:s.T.length<200) (ak an:Int) (ad:ByteArray) (ag sw:Bool):
  Calls Tryz.prog 53 #[.pointer (some ⟨tb,0,none⟩),.agg #[.int .i64 4,.int .i64 ak,.int .i64 an,.string ad,.bool ag],.bool sw] w fun e w'=>e=.returned (.bool true)∧TUpd w0 w' n O p tb t.g (tlDo s ⟨4,ak,an,ad,ag⟩ sw):=by
 have hC1:1≤s.A.C:=hok.C
 have hC6:s.A.C≤6:=ht.w.ok.C
 obtain ⟨hS1,hS4⟩:=hok.inv.S
 have hL3:s.A.way.length≤300:=hok.inv.wl
 obtain ⟨k,hkk⟩:∃ k,pickN ak s.A.C=k:=⟨_,rfl⟩
 have hk:k<s.A.C:=by rw [←hkk];exact pickN_lt _ hC1
 obtain ⟨iI,hI⟩:∃ i,(if 0<s.A.way.length then pickN an s.A.way.length else 0)=i:=⟨_,rfl⟩
 obtain ⟨d,hd⟩:∃ d,s.A.cl k=d:=⟨_,rfl⟩
 have HPK:=hidp (fun W=>pick_is ak s.A.C W hC1 (by omega))
 have HPN:=hidp (fun W (h0:0<s.A.way.length)=>pick_is an s.A.way.length W h0 (by omega))
 obtain ⟨kS,hkS⟩:∃ x,pickN ak s.A.S=x:=⟨_,rfl⟩
 obtain ⟨nS,hnS⟩:∃ x,pickN an s.A.S=x:=⟨_,rfl⟩
 obtain ⟨n5,hn5⟩:∃ x,pickN an 50=x:=⟨_,rfl⟩
 obtain ⟨n8,hn8⟩:∃ x,pickN an 8=x:=⟨_,rfl⟩
 have hkSl:kS<s.A.S:=by rw [←hkS];exact pickN_lt _ (by omega)
 have hnSl:nS<s.A.S:=by rw [←hnS];exact pickN_lt _ (by omega)
 have hn5l:n5<50:=by rw [←hn5];exact pickN_lt _ (by omega)
 have hn8l:n8<8:=by rw [←hn8];exact pickN_lt _ (by omega)
 have HP1:=hidp (fun W=>pick_is ak s.A.S W (by omega) (by omega))
 have HP2:=hidp (fun W=>pick_is an s.A.S W (by omega) (by omega))
 have HP5:=hidp (fun W=>(show Calls Tryz.prog 105 #[.int .i64 an,.int .i64 50] W (fun e w'=>e=.returned (.int .i64 (pickN an 50:Nat))∧W=w') from pick_is an 50 W (by omega) (by omega)))
 have HP8:=hidp (fun W=>(show Calls Tryz.prog 105 #[.int .i64 an,.int .i64 8] W (fun e w'=>e=.returned (.int .i64 (pickN an 8:Nat))∧W=w') from pick_is an 8 W (by omega) (by omega)))
 rw [hkS] at HP1;rw [hnS] at HP2;rw [hn5] at HP5;rw [hn8] at HP8
 rw [hkk] at HPK
 have HI:=hidp hI
 have HMA:=hidp (fun W (hW:Below w.heap.size w W)=>wMany_any ht.w (hm.below hW) (by omega))
 have HCL:=hidp (fun W (hW:Below w.heap.size w W)=>wClient_ok ht.w (hm.below hW) (by omega) hk)
 rw [hd] at HCL
 have HM:=hidp hm
 have HT:=hidp ht
 have HOK:=hidp hok
 have HKK:=hidp hkk
 have HDD:=hidp hd
 have HGE:=hidp hg
 have hbk:=ht.blk hm hn
 have c0:=cell_blk hbk 0;have c1:=cell_blk hbk 1;have c2:=cell_blk hbk 2
 simp only [zC,zD,zE] at c0 c1 c2
 have HBK:=hidp hbk
 haveI:SzGe (tb+1) w:=⟨lt_blk hbk⟩
 obtain ⟨g,hgg⟩:∃ g,t.g=g:=⟨_,rfl⟩
 rw [hgg] at c0 HMA HCL HBK
 have HGG:=hidp hgg
 obtain ⟨s',hs'⟩:∃ s',tlTo s (awAbort s.A k)=s':=⟨_,rfl⟩
 have HS':=hidp hs'
 have HC2:Hid (s'.A.C=s.A.C):=hidp (by rw [←hs'];exact rfl)
 obtain ⟨d',hd'⟩:∃ d',s'.A.cl k=d':=⟨_,rfl⟩
 have HD2:=hidp hd'
 have HCO:=hidp (covers_of (show clCov d' d from by rw [←hd',←hs',←hd];exact cov_set (cov_abort _) k))
 have HEND:Hid (∀ W,TUpd w0 W n O p tb g s'→TUpd w0 W n O p tb t.g (tlDo s (⟨4,ak,an,ad,ag⟩:TaP) sw)):=hidp (fun W hW=>by rw [(show tlDo s (⟨4,ak,an,ad,ag⟩:TaP) sw=s' from (by rw [tlDo_4 _ _ _ rfl];show tlTo s (awAbort s.A (tlK s _))=_;unfold tlK;rw [hkk];exact hs')),hgg];exact hW)
 clear hs' hd'
 clear hm ht hok hkk hd hg hbk hI hgg hkS hnS hn5 hn8
 generalize hLL:s.A.way.length=L at *
 generalize hCC:s.A.C=C at *
 generalize hSS:s.A.S=S at *
 have HLL:=hidp hLL
 have HCC:=hidp hCC
 have HSS:=hidp hSS
 clear hLL hCC hSS
 go_enter Tryz.func53,Tryz.ntmps53
 go_wp2_with fail
 have HBA:=hidp (show (w.alloc (.cells #[.int .i64 4,.int .i64 ak,.int .i64 an,.string ad,.bool ag] 105)).heap[w.heap.size]?=some (.cells #[.int .i64 4,.int .i64 ak,.int .i64 an,.string ad,.bool ag] 105) from blk_new rfl _)
 have HB0:=hidp (show Below w.heap.size w (w.alloc (.cells #[.int .i64 4,.int .i64 ak,.int .i64 an,.string ad,.bool ag] 105)) from zB)
 refine wp_region_plus (by kernel_rfl) (by kernel_rfl) ?_
 repeat (first | go_big_quiet_skip | (go_big_quiet_want;go_big_quiet_op;first | go_big_quiet_on | (apply Exists.intro;refine ⟨fun _=>?_,?_⟩;(go_at_call 105;exact Calls.plus_same (HPK.out _));go_big_quiet_on)))
 refine wpQuiet_nil ?_
 rintro _ ⟨x1,rfl⟩
 have HA1:=hidp (show (wplus (w.alloc (.cells #[.int .i64 4,.int .i64 ak,.int .i64 an,.string ad,.bool ag] 105)) x1).heap[w.heap.size]?=some (.cells #[.int .i64 4,.int .i64 ak,.int .i64 an,.string ad,.bool ag] 105) from ((below_wplus _ x1).block _ (lt_blk HBA.out)).trans HBA.out)
 have HB1:=hidp (show Below w.heap.size w (wplus (w.alloc (.cells #[.int .i64 4,.int .i64 ak,.int .i64 an,.string ad,.bool ag] 105)) x1) from zB)
 clear HBA HB0
 generalize (wplus (w.alloc (.cells #[.int .i64 4,.int .i64 ak,.int .i64 an,.string ad,.bool ag] 105)) x1)=wa at *
 haveI:SzGe (w.heap.size+1) wa:=⟨lt_blk HA1.out⟩
 go_wp2_with fail
 go_at_call 66
 refine (HMA.out _ HB1.out).mono ?_
 rintro e wm ⟨rfl,hbm⟩
 have HBM:=hidp (show Below wa.heap.size wa wm from hbm)
 clear hbm HMA
 go_upto_if 47 with fail
 go_cut [9] (fun i W=>i=.int .i64 (iI:Int)∧Below wa.heap.size wa W)
 case first=>
  by_cases h0:0<L
  ·have e1:=HI.out
   rw [if_pos h0] at e1
   have d0:decide ((0:Int)<(L:Int))=true:=decide_eq_true (by omega)
   have ha:=(HBM.out.block _ (lt_blk HA1.out)).trans HA1.out
   have a2:=cell_blk ha 2
   simp only [zC,zD,zE] at a2
   haveI:SzGe (w.heap.size+1) wm:=⟨lt_blk ha⟩
   have HPN2:=hidp (fun W=>HPN.out W h0)
   rw [e1] at HPN2
   clear e1 ha HPN
   go_wp2_with fail
   go_at_call 105
   refine (HPN2.out _).mono ?_
   rintro e wn ⟨rfl,rfl⟩
   go_wp2_with fail
   go_meet
   exact ⟨rfl,HBM.out⟩
  ·have e1:=HI.out
   rw [if_neg h0] at e1
   have e1:=e1.symm
   subst e1
   have d0:decide ((0:Int)<(L:Int))=false:=decide_eq_false (by omega)
   clear HPN
   go_wp2_with fail
   go_meet
   exact ⟨rfl,HBM.out⟩
 case rest=>
  obtain ⟨rfl,hbc⟩:=hcut
  have HAC:=hidp (show Below wa.heap.size wa wc from hbc)
  have HBC:=hidp (HB1.out.trans (hbc.mono HB1.out.size))
  clear hbc HPN
  go_wp2_with fail
  go_at_call 54
  refine (HCL.out _ HBC.out).mono ?_
  rintro e wd ⟨rfl,hbd⟩
  have HBD:=hidp (HBC.out.trans (hbd.mono HBC.out.size))
  have HAD:=hidp (HAC.out.trans (hbd.mono HAC.out.size))
  obtain ⟨O2,m1,m2,m3,m4⟩:=(HM.out.below HBD.out).new2 (.cells #[.int .i64 d.q0,.int .i64 d.q1,.int .i64 d.q2,.int .i64 d.q3] 32) (.cells #[.int .i64 d.n0,.int .i64 d.n1,.int .i64 d.n2,.int .i64 d.n3] 32)
  have HM2:=hidp m1
  have HT2:=hidp (HT.out.keep (O':=O2) (fun j hj=>m2 (p+j) (by omega)))
  have HO2:=hidp (show ∀ i,i<n→(i<p∨p+25≤i)→O2 i=O i from fun i hi _=>m2 i hi)
  have HQ2:=hidp m3
  have HBX:=hidp (HBD.out.trans (Below.mono (show Below wd.heap.size wd ((wd.alloc (.cells #[.int .i64 d.q0,.int .i64 d.q1,.int .i64 d.q2,.int .i64 d.q3] 32)).alloc (.cells #[.int .i64 d.n0,.int .i64 d.n1,.int .i64 d.n2,.int .i64 d.n3] 32)) from zB) HBD.out.size))
  have HAX:=hidp (HAD.out.trans (Below.mono (show Below wd.heap.size wd ((wd.alloc (.cells #[.int .i64 d.q0,.int .i64 d.q1,.int .i64 d.q2,.int .i64 d.q3] 32)).alloc (.cells #[.int .i64 d.n0,.int .i64 d.n1,.int .i64 d.n2,.int .i64 d.n3] 32)) from zB) HAD.out.size))
  obtain ⟨bq,hbq⟩:∃ bq,wd.heap.size=bq:=⟨_,rfl⟩
  have HBQ:=hidp hbq
  clear hbd m1 m2 m3 m4 hbq HBD HAD HCL
  go_upto_region 9 with fail
  rw [HBQ.out] at HQ2
  generalize ((wd.alloc (.cells #[.int .i64 d.q0,.int .i64 d.q1,.int .i64 d.q2,.int .i64 d.q3] 32)).alloc (.cells #[.int .i64 d.n0,.int .i64 d.n1,.int .i64 d.n2,.int .i64 d.n3] 32))=wx at *
  rw [HBQ.out]
  have hax:=(HAX.out.block _ (lt_blk HA1.out)).trans HA1.out
  have a0:=cell_blk hax 0;have a1:=cell_blk hax 1;have a2:=cell_blk hax 2;have a3:=cell_blk hax 3;have a4:=cell_blk hax 4
  simp only [zC,zD,zE] at a0 a1 a2 a3 a4
  have hbx:=(HBX.out.block _ (lt_blk HBK.out)).trans HBK.out
  have c0:=cell_blk hbx 0;have c1:=cell_blk hbx 1;have c2:=cell_blk hbx 2
  simp only [zC,zD,zE] at c0 c1 c2
  haveI:SzGe (w.heap.size+1) wx:=⟨lt_blk hax⟩
  haveI:SzGe (tb+1) wx:=⟨lt_blk hbx⟩
  have hkC:k<s.A.C:=by rw [HCC.out];exact hk
  clear hax hbx
  have HOP:Hid (Calls Tryz.prog 106 #[.pointer (some ⟨g,0,none⟩),.int .i64 (k:Nat)] wx fun e w'=>∃ z,e=.returned z∧TUpd w0 w' (n+2) O2 p tb g s'):=hidp (by
   rw [←HGG.out,←HS'.out]
   exact (wAbort_ok HT2.out.w HM2.out (by omega) hkC).mono fun e w' ⟨h1,h2⟩=>⟨_,h1,HT2.out.world (by omega) rfl rfl h2⟩)
  go_wp2_with fail
  go_at_call 106
  refine HOP.out.mono ?_
  rintro e w5 ⟨z5,rfl,hU⟩
  have HU:=hidp hU
  clear hU HOP
  have HTC:=hidp (TUpd.client HU.out (by omega) (k:=k) (by rw [HC2.out];first | exact hk | exact hkC))
  rw [HD2.out] at HTC
  go_wp2_with fail
  go_at_call 54
  refine HTC.out.mono ?_
  rintro e w6 ⟨rfl,hb6⟩
  have HU6:=hidp (HU.out.then hb6)
  have hq6:=HU6.out.box (i:=n) (by omega) (by omega) HQ2.out
  have v0:=cell_blk hq6 0;have v1:=cell_blk hq6 1;have v2:=cell_blk hq6 2;have v3:=cell_blk hq6 3
  simp only [zC,zD,zE] at v0 v1 v2 v3
  haveI:SzGe (bq+1) w6:=⟨lt_blk hq6⟩
  clear hb6 hq6 HU
  go_wp2_with fail
  go_at_call 55
  refine (HCO.out _).mono ?_
  rintro e w7 ⟨rfl,hb7⟩
  have HU7:=hidp (HU6.out.then (Below.trans (show Below w6.heap.size w6 ((w6.alloc (.cells #[.int .i64 d'.q0,.int .i64 d'.q1,.int .i64 d'.q2,.int .i64 d'.q3] 32)).alloc (.cells #[.int .i64 d'.n0,.int .i64 d'.n1,.int .i64 d'.n2,.int .i64 d'.n3] 32)) from zB) (hb7.mono (Below.size (show Below w6.heap.size w6 ((w6.alloc (.cells #[.int .i64 d'.q0,.int .i64 d'.q1,.int .i64 d'.q2,.int .i64 d'.q3] 32)).alloc (.cells #[.int .i64 d'.n0,.int .i64 d'.n1,.int .i64 d'.n2,.int .i64 d'.n3] 32)) from zB)))))
  clear hb7
  go_wp2_with fail
  go_ret
  exact ⟨rfl,HEND.out _ (HU7.out.less (by omega) HO2.out)⟩
end
end Go.Proofs.YtbopfhbeegkkaabGreatDoor
