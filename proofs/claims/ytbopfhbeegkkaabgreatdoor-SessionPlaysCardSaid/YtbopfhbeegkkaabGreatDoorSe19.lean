/- Part 19 of a proof: lemmas and contracts that other parts use. -/
import Derived.Test.YtbopfhbeegkkaabGreatDoorSe18
import Derived.Test.YtbopfhbeegkkaabGreatDoorSe10
set_option linter.unusedVariables false
set_option linter.unusedSimpArgs false
set_option linter.constructorNameAsVariable false
namespace Go.Proofs.YtbopfhbeegkkaabGreatDoor
open Go.RowKit
set_option maxRecDepth 20000 in
set_option maxHeartbeats 16000000 in
theorem commit_any (B x mb:Nat) (s:SiP) (lv:Value) (sv:Nat→Value) (now d0 d1 d2 d3:Int) (A:Option Addr) (c:Nat) (ws:List WrP) (w:World) (h:SiAt w B x s mb lv sv) (hi:Inv s) (hws:WsAt w A ws) (hn:ws.length≤1000000):
  Calls Tryz.prog 15 #[.pointer (some ⟨x,0,none⟩),.int .i64 now,.agg #[.int .i64 d0,.int .i64 d1,.int .i64 d2,.int .i64 d3],.slice A ws.length c] w
   (CommitPost B x mb s lv sv (commitE s now d0 d1 d2 d3 ws) (commitT s now d0 d1 d2 d3 ws) w):=by
 have HDN:Hid (∀ (n:Int) (w':World),n≠0→commitE s now d0 d1 d2 d3 ws=n→Below w.heap.size w w'→CommitPost B x mb s lv sv (commitE s now d0 d1 d2 d3 ws) (commitT s now d0 d1 d2 d3 ws) w (.returned (.tuple #[txZero,errV n])) w'):=hidp (fun n w' h1 h2 h3=>⟨fun _=>⟨by rw [h2],h3⟩,fun e=>absurd (h2 ▸ e) h1⟩)
 have HCE:Hid (commitE s now d0 d1 d2 d3 ws=if rightWs ws=false then 1 else if rgtB d0 d1 d2 d3=false∨covD s.p0 s.p1 s.p2 s.p3 d0 d1 d2 d3=false then 10 else if 200≤s.log.length then 12 else nextE s.lw s.lc now):=hidp rfl
 have HS:=hidp h
 have HI:=hidp hi
 have HWS:=hidp hws
 have HN:=hidp hn
 obtain ⟨Al,cl,hlv⟩:=own_form h.row
 have c7:=h.c7
 rw [hlv] at c7
 have HLV:=hidp hlv
 obtain ⟨c1,c2,c3,c4⟩:=h.vec
 have c5:=h.c5
 have c6:=h.c6
 have c0:=h.c0
 haveI:SzGe (x+1) w:=⟨h.sto.lt⟩
 clear h hi hlv
 cases hrw:rightWs ws
 ·have HRW:=hidp fun W (hB:Below w.heap.size w W)=>rightWs_is hrw A c W hn (HWS.out.below hB)
  have HE:Hid (commitE s now d0 d1 d2 d3 ws=1):=hidp (by rw [HCE.out,if_pos hrw])
  clear hrw hws
  go_enter Tryz.func15,Tryz.ntmps15
  go_wp2_with fail
  go_at_call 76
  refine (HRW.out _ (by repeat (first | exact Below.refl _ _ | refine blw_alloc ?_ | refine blw_plus ?_ | refine Below.drew ?_))).mono ?_
  rintro e w' ⟨rfl,hb⟩
  obtain ⟨x1,rfl⟩:=wplus_of_below hb
  clear hb
  go_wp2_with fail
  refine bodyPost_ret (v:=.tuple #[txZero,errV 1]) ?_ rfl (HDN.out 1 _ (by decide) HE.out (by repeat (first | exact Below.refl _ _ | refine blw_alloc ?_ | refine blw_plus ?_ | refine Below.drew ?_)))
  simp [results,Tryz.results15,go_sem,txZero]
  rfl
 have HRW:=hidp fun W (hB:Below w.heap.size w W)=>rightWs_is hrw A c W hn (HWS.out.below hB)
 have HRW2:=hidp hrw
 clear hrw hws
 cases hrv:rgtB d0 d1 d2 d3
 ·have HRV:=hidp fun W=>right_is hrv W
  have HCV:=hidp True.intro
  have HE:Hid (commitE s now d0 d1 d2 d3 ws=10):=hidp (by rw [HCE.out,if_neg (by rw [HRW2.out];simp),if_pos (.inl hrv)])
  clear hrv
  go_enter Tryz.func15,Tryz.ntmps15
  go_wp2_with fail
  go_at_call 76
  refine (HRW.out _ (by repeat (first | exact Below.refl _ _ | refine blw_alloc ?_ | refine blw_plus ?_ | refine Below.drew ?_))).mono ?_
  rintro e w' ⟨rfl,hb⟩
  obtain ⟨x1,rfl⟩:=wplus_of_below hb
  clear hb
  go_wp2_with fail
  refine wp_region_plus (by kernel_rfl) (by kernel_rfl) ?_
  repeat (first | go_big_quiet_skip | (go_big_quiet_want;go_big_quiet_op;first | go_big_quiet_on | (apply Exists.intro;refine ⟨fun _=>?_,?_⟩;(go_at_call 77;exact Calls.plus_of (HRV.out _));go_big_quiet_on)))
  refine wpQuiet_nil ?_
  rintro _ ⟨x2,rfl⟩
  go_wp2_with fail
  refine bodyPost_ret (v:=.tuple #[txZero,errV 10]) ?_ rfl (HDN.out 10 _ (by decide) HE.out (by repeat (first | exact Below.refl _ _ | refine blw_alloc ?_ | refine blw_plus ?_ | refine Below.drew ?_)))
  simp [results,Tryz.results15,go_sem,txZero]
  rfl
 cases hcv:covD s.p0 s.p1 s.p2 s.p3 d0 d1 d2 d3
 ·have HRV:=hidp fun W=>right_is hrv W
  have HCV:=hidp fun W=>covers_is hcv W
  have HE:Hid (commitE s now d0 d1 d2 d3 ws=10):=hidp (by rw [HCE.out,if_neg (by rw [HRW2.out];simp),if_pos (.inr hcv)])
  clear hrv hcv
  go_enter Tryz.func15,Tryz.ntmps15
  go_wp2_with fail
  go_at_call 76
  refine (HRW.out _ (by repeat (first | exact Below.refl _ _ | refine blw_alloc ?_ | refine blw_plus ?_ | refine Below.drew ?_))).mono ?_
  rintro e w' ⟨rfl,hb⟩
  obtain ⟨x1,rfl⟩:=wplus_of_below hb
  clear hb
  go_wp2_with fail
  refine wp_region_plus (by kernel_rfl) (by kernel_rfl) ?_
  repeat (first | go_big_quiet_skip | (go_big_quiet_want;go_big_quiet_op;first | go_big_quiet_on | (apply Exists.intro;refine ⟨fun _=>?_,?_⟩;(first | (go_at_call 77;exact Calls.plus_of (HRV.out _)) | (go_at_call 55;exact Calls.plus_of (HCV.out _)));go_big_quiet_on)))
  refine wpQuiet_nil ?_
  rintro _ ⟨x2,rfl⟩
  go_wp2_with fail
  refine bodyPost_ret (v:=.tuple #[txZero,errV 10]) ?_ rfl (HDN.out 10 _ (by decide) HE.out (by repeat (first | exact Below.refl _ _ | refine blw_alloc ?_ | refine blw_plus ?_ | refine Below.drew ?_)))
  simp [results,Tryz.results15,go_sem,txZero]
  rfl
 have HRV:=hidp fun W=>right_is hrv W
 have HCV:=hidp fun W=>covers_is hcv W
 have HRV2:=hidp hrv
 have HCV2:=hidp hcv
 have HNO:Hid (¬(rgtB d0 d1 d2 d3=false∨covD s.p0 s.p1 s.p2 s.p3 d0 d1 d2 d3=false)):=hidp (by rw [hrv,hcv];simp)
 clear hrv hcv
 by_cases h200:200≤s.log.length
 ·have hd3:decide ((200:Int)≤(s.log.length:Int))=true:=decide_eq_true (by omega)
  have HE:Hid (commitE s now d0 d1 d2 d3 ws=12):=hidp (by rw [HCE.out,if_neg (by rw [HRW2.out];simp),if_neg HNO.out,if_pos h200])
  clear h200
  go_enter Tryz.func15,Tryz.ntmps15
  go_wp2_with fail
  go_at_call 76
  refine (HRW.out _ (by repeat (first | exact Below.refl _ _ | refine blw_alloc ?_ | refine blw_plus ?_ | refine Below.drew ?_))).mono ?_
  rintro e w' ⟨rfl,hb⟩
  obtain ⟨x1,rfl⟩:=wplus_of_below hb
  clear hb
  go_wp2_with fail
  refine wp_region_plus (by kernel_rfl) (by kernel_rfl) ?_
  repeat (first | go_big_quiet_skip | (go_big_quiet_want;go_big_quiet_op;first | go_big_quiet_on | (apply Exists.intro;refine ⟨fun _=>?_,?_⟩;(first | (go_at_call 77;exact Calls.plus_of (HRV.out _)) | (go_at_call 55;exact Calls.plus_of (HCV.out _)));go_big_quiet_on)))
  refine wpQuiet_nil ?_
  rintro _ ⟨x2,rfl⟩
  go_wp2_with fail
  refine bodyPost_ret (v:=.tuple #[txZero,errV 12]) ?_ rfl (HDN.out 12 _ (by decide) HE.out (by repeat (first | exact Below.refl _ _ | refine blw_alloc ?_ | refine blw_plus ?_ | refine Below.drew ?_)))
  simp [results,Tryz.results15,go_sem,txZero]
  rfl
 have hd3:decide ((200:Int)≤(s.log.length:Int))=false:=decide_eq_false (by omega)
 have HE0:Hid (commitE s now d0 d1 d2 d3 ws=nextE s.lw s.lc now):=hidp (by rw [HCE.out,if_neg (by rw [HRW2.out];simp),if_neg HNO.out,if_neg h200])
 have H200:=hidp h200
 clear h200
 have HNX:=hidp fun W=>next_is s.lw s.lc now W
 obtain ⟨en,hen⟩:∃ en,nextE s.lw s.lc now=en:=⟨_,rfl⟩
 rw [hen] at HNX HE0
 have HEN:=hidp hen
 clear hen
 by_cases hn0:en=0
 ·refine (commit_good B x mb s lv sv now d0 d1 d2 d3 A c ws w HS.out HI.out HWS.out HN.out HRW2.out HRV2.out HCV2.out H200.out (HEN.out.trans hn0)).mono ?_
  intro e w' hp
  refine ⟨fun hne=>absurd (HE0.out.trans hn0) hne,fun _=>hp⟩
 ·have HE:=HE0
  have hev:errV en=.iface 29 (.int .i64 en):=by unfold errV;rw [if_neg hn0]
  simp only [if_neg hn0,hev] at HNX
  have HN0:=hidp hn0
  clear hn0
  go_enter Tryz.func15,Tryz.ntmps15
  go_wp2_with fail
  go_at_call 76
  refine (HRW.out _ (by repeat (first | exact Below.refl _ _ | refine blw_alloc ?_ | refine blw_plus ?_ | refine Below.drew ?_))).mono ?_
  rintro e w' ⟨rfl,hb⟩
  obtain ⟨x1,rfl⟩:=wplus_of_below hb
  clear hb
  go_wp2_with fail
  refine wp_region_plus (by kernel_rfl) (by kernel_rfl) ?_
  repeat (first | go_big_quiet_skip | (go_big_quiet_want;go_big_quiet_op;first | go_big_quiet_on | (apply Exists.intro;refine ⟨fun _=>?_,?_⟩;(first | (go_at_call 77;exact Calls.plus_of (HRV.out _)) | (go_at_call 55;exact Calls.plus_of (HCV.out _)));go_big_quiet_on)))
  refine wpQuiet_nil ?_
  rintro _ ⟨x2,rfl⟩
  go_wp2_with fail
  go_at_call 78
  refine (HNX.out _).mono ?_
  rintro e w' ⟨rfl,hb⟩
  obtain ⟨x3,rfl⟩:=wplus_of_below hb
  clear hb
  go_wp2_with fail
  refine bodyPost_ret (v:=.tuple #[txZero,errV en]) ?_ rfl (HDN.out en _ HN0.out HE.out (by repeat (first | exact Below.refl _ _ | refine blw_alloc ?_ | refine blw_plus ?_ | refine Below.drew ?_)))
  rw [hev]
  simp [results,Tryz.results15,go_sem,txZero]
end Go.Proofs.YtbopfhbeegkkaabGreatDoor
namespace Go.Proofs.YtbopfhbeegkkaabGreatDoor
structure RSi where
 id:Int
 p0:Int
 p1:Int
 p2:Int
 p3:Int
 lw:Int
 lc:Int
 log:List TxP
 ws:List TxP
 held:List PtP
 ot:Nat→Int
def RSi.at (r:RSi) (a:Int):Int:=atV r.p0 r.p1 r.p2 r.p3 a
def RSi.cov (r:RSi) (t:TxP):Bool:=covD r.p0 r.p1 r.p2 r.p3 t.d0 t.d1 t.d2 t.d3
def rPuts (L:List PtP) (t:TxP):Nat→List PtP
 | 0=>L
 | j+1=>(rPut (rPuts L t j) (t.ws.getD j default).key (verOf t (t.ws.getD j default))).2
def rApply (r:RSi) (t:TxP):RSi:=
 ⟨r.id,if t.site=0 then t.seq else r.p0,if t.site=1 then t.seq else r.p1,if t.site=2 then t.seq else r.p2,if t.site=3 then t.seq else r.p3,
   if 0<cmpS t.wall t.count r.lw r.lc then t.wall else r.lw,if 0<cmpS t.wall t.count r.lw r.lc then t.count else r.lc,r.log++[t],r.ws,rPuts r.held t t.ws.length,r.ot⟩
def rReady (r:RSi) (t:TxP):Bool:=decide (t.seq=r.at t.site+1)&&r.cov t
def rbGo (r:RSi):List TxP→Nat→Int→Int
 | [],_,b=>b
 | t::l,i,b=>if rReady r t=true∧(b<0∨t.site<(r.ws.getD b.toNat ⟨0,0,0,0,0,0,0,0,[]⟩).site) then rbGo r l (i+1) i else rbGo r l (i+1) b
def rBest (r:RSi):Int:=rbGo r r.ws 0 (-1)
def rDrop (r:RSi) (j:Nat):RSi:={ r with ws:=r.ws.take j++r.ws.drop (j+1) }
def rRun:Nat→RSi→RSi
 | 0,r=>r
 | f+1,r=>if 200≤r.log.length∨rBest r<0 then r else rRun f (rApply (rDrop r (rBest r).toNat) (r.ws.getD (rBest r).toNat ⟨0,0,0,0,0,0,0,0,[]⟩))
def rSame (r:RSi) (t:TxP):Bool:=r.ws.any fun x=>decide (x.site=t.site)&&decide (x.seq=t.seq)
def rTakeE (r:RSi) (t:TxP):Int:=
 if rightTx t=false∨t.site=r.id then 1 else if t.seq≤r.at t.site then 9 else if rSame r t=true then 9
 else if 200≤r.log.length∨(40≤r.ws.length∧rReady r t=false) then 12 else 0
def rCommitE (r:RSi) (now d0 d1 d2 d3:Int) (ws:List WrP):Int:=
 if rightWs ws=false then 1 else if rgtB d0 d1 d2 d3=false∨covD r.p0 r.p1 r.p2 r.p3 d0 d1 d2 d3=false then 10 else if 200≤r.log.length then 12 else nextE r.lw r.lc now
def rCommitT (r:RSi) (now d0 d1 d2 d3:Int) (ws:List WrP):TxP:=
 ⟨r.id,r.at r.id+1,nextW r.lw now,nextC r.lw r.lc now,if r.id=0 then r.p0 else d0,if r.id=1 then r.p1 else d1,if r.id=2 then r.p2 else d2,if r.id=3 then r.p3 else d3,ws⟩
structure SRep (s:SiP) (r:RSi):Prop where
 id:s.id=r.id
 p0:s.p0=r.p0
 p1:s.p1=r.p1
 p2:s.p2=r.p2
 p3:s.p3=r.p3
 lw:s.lw=r.lw
 lc:s.lc=r.lc
 log:s.log.map (·.t)=r.log
 wt:∀ a b m,s.wt a b=some m→m.t∈r.ws
 ws:∀ t∈r.ws,∃ m,s.wt t.site t.seq=some m∧m.t=t
 nd:r.ws.Nodup
 wn:s.wn=r.ws.length
 rep:Rep s.st r.held
 ot:s.ot=r.ot
theorem SRep.at {s:SiP} {r:RSi} (h:SRep s r) (a:Int):s.at a=r.at a:=by unfold SiP.at RSi.at;rw [h.p0,h.p1,h.p2,h.p3]
theorem SRep.cov {s:SiP} {r:RSi} (h:SRep s r) (m:MTx):covM s m=r.cov m.t:=by unfold covM RSi.cov;rw [h.p0,h.p1,h.p2,h.p3]
theorem SRep.len {s:SiP} {r:RSi} (h:SRep s r):s.log.length=r.log.length:=by rw [←h.log,List.length_map]
theorem SRep.fresh (id:Int):SRep (siNew id) ⟨id,0,0,0,0,0,0,[],[],[],fun _=>0⟩:=
 ⟨rfl,rfl,rfl,rfl,rfl,rfl,rfl,rfl,fun a b m e=>by simp [siNew] at e,fun t h=>by simp at h,List.nodup_nil,rfl,Rep.nil,rfl⟩
theorem rPuts_rep {st:Nat→List VerP} {L:List PtP} (h:Rep st L) (t:TxP):∀ j,Rep (stPut st t j) (rPuts L t j)
 | 0=>h
 | j+1=>((rPuts_rep h t j).put _ _).2
theorem cmpS_flip (a b c d:Int):(0<cmpS a b c d)↔cmpS c d a b<0:=by
 unfold cmpS orI cmpI
 repeat' split
 all_goals omega
theorem applyP_fields (s:SiP) (m:MTx) (hs:0≤m.t.site∧m.t.site<4):(applyP s m).id=s.id∧(applyP s m).p0=(if m.t.site=0 then m.t.seq else s.p0)∧(applyP s m).p1=(if m.t.site=1 then m.t.seq else s.p1)∧
  (applyP s m).p2=(if m.t.site=2 then m.t.seq else s.p2)∧(applyP s m).p3=(if m.t.site=3 then m.t.seq else s.p3)∧(applyP s m).lw=laterW s.lw s.lc m.t.wall m.t.count∧(applyP s m).lc=laterC s.lw s.lc m.t.wall m.t.count∧(applyP s m).ot=s.ot:=by
 have h1:m.t.site=0∨m.t.site=1∨m.t.site=2∨m.t.site=3:=by omega
 unfold applyP SiP.setc
 rcases h1 with h1 | h1 | h1 | h1 <;> simp [h1]
theorem SRep.apply {s:SiP} {r:RSi} (h:SRep s r) {m:MTx} (hs:0≤m.t.site∧m.t.site<4):SRep (applyP s m) (rApply r m.t):=by
 obtain ⟨f1,f2,f3,f4,f5,f6,f7,f8⟩:=applyP_fields s m hs
 refine ⟨f1.trans h.id,?_,?_,?_,?_,?_,?_,?_,?_,?_,h.nd,?_,?_,f8.trans h.ot⟩
 ·rw [f2,h.p0];rfl
 ·rw [f3,h.p1];rfl
 ·rw [f4,h.p2];rfl
 ·rw [f5,h.p3];rfl
 ·rw [f6];unfold laterW rApply;simp only [cmpS_flip,h.lw,h.lc]
 ·rw [f7];unfold laterC rApply;simp only [cmpS_flip,h.lw,h.lc]
 ·rw [applyP_log,List.map_append,h.log];rfl
 ·rw [applyP_wt];exact h.wt
 ·rw [applyP_wt];exact h.ws
 ·rw [applyP_wn];exact h.wn
 ·rw [applyP_st];exact rPuts_rep h.rep m.t _
theorem nextsL_least (s:SiP):∀ (k:Nat) (m:MTx),(nextsL s k).find? (covM s)=some m→
  ∃ j:Nat,j<k∧s.wt (j:Int) (s.at (j:Int)+1)=some m∧covM s m=true∧∀ i:Nat,i<k→∀ m',s.wt (i:Int) (s.at (i:Int)+1)=some m'→covM s m'=true→j≤i
 | 0,m,h=>by simp [nextsL] at h
 | k+1,m,h=>by
   rw [nextsL_succ,List.find?_append] at h
   cases hp:(nextsL s k).find? (covM s) with
   | some m1=>
     rw [hp] at h
     obtain rfl:m1=m:=by simpa using h
     obtain ⟨j,h1,h2,h3,h4⟩:=nextsL_least s k m1 hp
     exact ⟨j,by omega,h2,h3,fun i hi m' e c=>by
      by_cases e2:i<k
      ·exact h4 i e2 m' e c
      ·omega⟩
   | none=>
     rw [hp] at h
     cases hw:s.wt (k:Int) (s.at (k:Int)+1) with
     | none=>rw [hw] at h;simp at h
     | some m2=>
       rw [hw] at h
       have hh:covM s m2=true∧m2=m:=by
        by_cases hc:covM s m2=true
        ·simp [hc] at h;exact ⟨hc,h⟩
        ·simp [hc] at h
       obtain ⟨hc,rfl⟩:=hh
       refine ⟨k,by omega,hw,hc,fun i hi m' e c=>?_⟩
       by_cases e2:i<k
       ·have hmem:m'∈nextsL s k:=by
         unfold nextsL
         exact List.mem_filterMap.2 ⟨i,List.mem_range.2 e2,e⟩
        have:=List.find?_eq_none.1 hp m' hmem
        rw [c] at this
        exact absurd rfl this
       ·omega
theorem rbGo_spec (r:RSi):∀ (l:List TxP) (i:Nat) (b:Int),r.ws.drop i=l→(b=-1∨∃ j:Nat,b=(j:Int)∧j<i∧∃ t,r.ws[j]?=some t∧rReady r t=true)→
  (∀ (k:Nat) (t:TxP),k<i→r.ws[k]?=some t→rReady r t=true→∃ j:Nat,b=(j:Int)∧∃ u,r.ws[j]?=some u∧u.site≤t.site)→
  (rbGo r l i b=-1∧∀ t∈r.ws,rReady r t=false)∨∃ (j:Nat) (t:TxP),rbGo r l i b=(j:Int)∧r.ws[j]?=some t∧rReady r t=true∧∀ u∈r.ws,rReady r u=true→t.site≤u.site
 | [],i,b,hl,hb,hm=>by
   have hlen:r.ws.length≤i:=by
    have:=congrArg List.length hl
    simp at this;omega
   have hat:∀ u∈r.ws,∃ k:Nat,k<i∧r.ws[k]?=some u:=fun u hu=>by
    obtain ⟨k,hk,rfl⟩:=List.getElem_of_mem hu
    exact ⟨k,by omega,List.getElem?_eq_getElem hk⟩
   show (b=-1∧_)∨∃ j t,b=_∧_
   rcases hb with rfl | ⟨j,rfl,hj,t,h1,h2⟩
   ·refine .inl ⟨rfl,fun t ht=>?_⟩
    obtain ⟨k,hk,e⟩:=hat t ht
    rw [Bool.eq_false_iff]
    intro hr
    obtain ⟨j,e2,_⟩:=hm k t hk e hr
    omega
   ·refine .inr ⟨j,t,rfl,h1,h2,fun u hu hr=>?_⟩
    obtain ⟨k,hk,e⟩:=hat u hu
    obtain ⟨j',e2,u',h3,h4⟩:=hm k u hk e hr
    obtain rfl:j=j':=by omega
    rw [h1] at h3
    cases h3;exact h4
 | t::l,i,b,hl,hb,hm=>by
   have hti:r.ws[i]?=some t:=by
    have:=congrArg (fun x=>x[0]?) hl
    simpa using this
   have hl2:r.ws.drop (i+1)=l:=by
    have:r.ws.drop (i+1)=(r.ws.drop i).drop 1:=by rw [List.drop_drop]
    rw [this,hl];rfl
   unfold rbGo
   split
   ·rename_i hc
    refine rbGo_spec r l (i+1) i hl2 (.inr ⟨i,rfl,by omega,t,hti,hc.1⟩) ?_
    intro k u hk e hr
    refine ⟨i,rfl,t,hti,?_⟩
    by_cases e2:k=i
    ·subst e2;rw [hti] at e;cases e;exact Int.le_refl _
    ·obtain ⟨j,rfl,v,h1,h2⟩:=hm k u (by omega) e hr
     rcases hc.2 with h3 | h3
     ·omega
     ·have e3:r.ws.getD ((j:Int)).toNat ⟨0,0,0,0,0,0,0,0,[]⟩=v:=by
       rw [show ((j:Int)).toNat=j by omega,List.getD,h1];rfl
      rw [e3] at h3;omega
   ·rename_i hc
    refine rbGo_spec r l (i+1) b hl2 ?_ ?_
    ·rcases hb with hb | ⟨j,h1,h2,h3⟩
     ·exact .inl hb
     ·exact .inr ⟨j,h1,by omega,h3⟩
    ·intro k u hk e hr
     by_cases e2:k=i
     ·subst e2
      rw [hti] at e;cases e
      rcases hb with rfl | ⟨j,rfl,hj,v,h1,h2⟩
      ·exact absurd ⟨hr,.inl (by omega)⟩ hc
      ·refine ⟨j,rfl,v,h1,?_⟩
       have e3:r.ws.getD ((j:Int)).toNat ⟨0,0,0,0,0,0,0,0,[]⟩=v:=by
        rw [show ((j:Int)).toNat=j by omega,List.getD,h1];rfl
       by_cases hlt:t.site<v.site
       ·exact absurd ⟨hr,.inr (by rw [e3];exact hlt)⟩ hc
       ·omega
     ·exact hm k u (by omega) e hr
theorem SRep.next {s:SiP} {r:RSi} (h:SRep s r) (hi:Inv s):(nextOf s=none∧rBest r=-1)∨∃ (j:Nat) (m:MTx),nextOf s=some m∧rBest r=(j:Int)∧r.ws[j]?=some m.t:=by
 have hb:=rbGo_spec r r.ws 0 (-1) (by simp) (.inl rfl) (fun k t hk=>by omega)
 have hrd:∀ t∈r.ws,rReady r t=true→∃ m,m.t=t∧s.wt (t.site.toNat:Int) (s.at (t.site.toNat:Int)+1)=some m∧covM s m=true∧t.site.toNat<4∧(t.site.toNat:Int)=t.site:=fun t ht hr=>by
  obtain ⟨m,hm,e⟩:=h.ws t ht
  obtain ⟨i1,i2,i3⟩:=hi.wt _ _ _ hm
  have hsite:=(rightTx_parts i3).1
  unfold rReady at hr
  simp only [Bool.and_eq_true,decide_eq_true_eq] at hr
  have e4:(t.site.toNat:Int)=t.site:=by omega
  refine ⟨m,e,?_,by rw [h.cov,e];exact hr.2,by omega,e4⟩
  rw [e4,h.at,←hr.1];exact hm
 cases hn:nextOf s with
 | none=>
   rcases hb with ⟨h1,_⟩ | ⟨j,t,h1,h2,h3,h4⟩
   ·exact .inl ⟨rfl,h1⟩
   ·exfalso
    obtain ⟨m,e1,e2,e3,e4,_⟩:=hrd t (List.mem_of_getElem? h2) h3
    have hmem:m∈nextsL s 4:=by
     unfold nextsL
     exact List.mem_filterMap.2 ⟨t.site.toNat,List.mem_range.2 e4,e2⟩
    have:=List.find?_eq_none.1 hn m hmem
    rw [e3] at this
    exact absurd rfl this
 | some m=>
   obtain ⟨j0,k1,k2,k3,k4⟩:=nextsL_least s 4 m hn
   obtain ⟨i1,i2,i3⟩:=hi.wt _ _ _ k2
   have hmr:m.t∈r.ws:=h.wt _ _ _ k2
   have hready:rReady r m.t=true:=by
    unfold rReady
    rw [←h.cov,k3,i2,i1,h.at]
    simp
   rcases hb with ⟨_,h2⟩ | ⟨j,t,h1,h2,h3,h4⟩
   ·have:=h2 m.t hmr;rw [hready] at this;cases this
   ·refine .inr ⟨j,m,rfl,h1,?_⟩
    have hle:=h4 m.t hmr hready
    obtain ⟨m',e1,e2,e3,e4,e5⟩:=hrd t (List.mem_of_getElem? h2) h3
    have:=k4 _ e4 m' e2 e3
    have e6:t.site.toNat=j0:=by omega
    rw [e6] at e2
    rw [k2] at e2
    cases e2
    rw [h2,e1]
theorem SRep.unwait {s:SiP} {r:RSi} (h:SRep s r) (hi:Inv s) {j:Nat} {m:MTx} (hm:s.wt m.t.site m.t.seq=some m) (hj:r.ws[j]?=some m.t):SRep (s.unwait m) (rDrop r j)∧(rDrop r j).ws.length+1=r.ws.length:=by
 obtain ⟨hlt,he⟩:=List.getElem?_eq_some_iff.1 hj
 have hL:r.ws=r.ws.take j++m.t::r.ws.drop (j+1):=by
  rw [←he,List.getElem_cons_drop,List.take_append_drop]
 have hnd:=h.nd
 rw [hL,List.nodup_append] at hnd
 obtain ⟨n1,n2,n3⟩:=hnd
 obtain ⟨n4,n5⟩:=List.nodup_cons.1 n2
 have hin:∀ x,x∈(rDrop r j).ws↔x∈r.ws∧x≠m.t:=fun x=>by
  show x∈r.ws.take j++r.ws.drop (j+1)↔_
  constructor
  ·intro hx
   rcases List.mem_append.1 hx with e | e
   ·exact ⟨by rw [hL];exact List.mem_append_left _ e,n3 x e m.t (by simp)⟩
   ·exact ⟨by rw [hL];exact List.mem_append_right _ (List.mem_cons_of_mem _ e),fun e2=>n4 (e2 ▸ e)⟩
  ·rintro ⟨hx,hne⟩
   rw [hL] at hx
   rcases List.mem_append.1 hx with e | e
   ·exact List.mem_append_left _ e
   ·rcases List.mem_cons.1 e with e | e
    ·exact absurd e hne
    ·exact List.mem_append_right _ e
 have hlen:(rDrop r j).ws.length+1=r.ws.length:=by
  show (r.ws.take j++r.ws.drop (j+1)).length+1=_
  simp only [List.length_append,List.length_take,List.length_drop];omega
 refine ⟨⟨h.id,h.p0,h.p1,h.p2,h.p3,h.lw,h.lc,h.log,fun a b m' e=>?_,fun t ht=>?_,?_,?_,h.rep,h.ot⟩,hlen⟩
 ·have e':wset s.wt m.t.site m.t.seq none a b=some m':=e
  unfold wset at e'
  split at e'
  ·cases e'
  ·rename_i hne
   refine (hin _).2 ⟨h.wt _ _ _ e',fun e2=>hne ?_⟩
   obtain ⟨i1,i2,_⟩:=hi.wt _ _ _ e'
   rw [←i1,←i2,e2];exact ⟨rfl,rfl⟩
 ·obtain ⟨h1,h2⟩:=(hin t).1 ht
  obtain ⟨m',h3,h4⟩:=h.ws t h1
  refine ⟨m',?_,h4⟩
  show wset s.wt m.t.site m.t.seq none t.site t.seq=some m'
  unfold wset
  rw [if_neg]
  ·exact h3
  ·rintro ⟨e1,e2⟩
   rw [e1,e2,hm] at h3
   cases h3
   exact h2 h4.symm
 ·show (r.ws.take j++r.ws.drop (j+1)).Nodup
  rw [List.nodup_append]
  exact ⟨n1,n5,fun a ha b hb=>n3 a ha b (List.mem_cons_of_mem _ hb)⟩
 ·have:(s.unwait m).wn=s.wn-1:=by
   unfold SiP.unwait
   rw [hm];rfl
  rw [this,h.wn];omega
theorem rRun_stop {r:RSi} (h:200≤r.log.length∨rBest r<0):∀ f,rRun f r=r
 | 0=>rfl
 | f+1=>by unfold rRun;rw [if_pos h]
theorem rRun_step {r:RSi} {j:Nat} {t:TxP} (h:r.log.length<200) (hb:rBest r=(j:Int)) (hj:r.ws[j]?=some t) (f:Nat):rRun (f+1) r=rRun f (rApply (rDrop r j) t):=by
 show (if _ then _ else _)=_
 rw [if_neg (by omega),hb,show ((j:Int)).toNat=j by omega,List.getD,hj];rfl
theorem SRep.run:∀ (n:Nat) {s:SiP} {r:RSi},SRep s r→Inv s→r.ws.length=n→SRep (runP n s) (rRun n r)
 | 0,s,r,h,_,_=>h
 | n+1,s,r,h,hi,hn=>by
   by_cases hl:200≤s.log.length
   ·rw [runP_stop (.inr hl),rRun_stop (.inl (by rw [←h.len];exact hl))];exact h
   ·rcases h.next hi with ⟨h1,h2⟩ | ⟨j,m,h1,h2,h3⟩
    ·rw [runP_stop (.inl h1),rRun_stop (.inr (by omega))];exact h
    ·obtain ⟨hr,hw,hq⟩:=hi.has h1
     obtain ⟨k1,k2⟩:=h.unwait hi hw h3
     rw [runP_step h1 hl,rRun_step (by rw [←h.len];omega) h2 h3]
     exact SRep.run n (k1.apply (rightTx_parts hr).1) (hi.apply hr hl) (by show (rDrop r j).ws.length=n;omega)
theorem SRep.same {s:SiP} {r:RSi} (h:SRep s r) (hi:Inv s) (t:TxP):rSame r t=(s.wt t.site t.seq).isSome:=by
 unfold rSame
 rw [Bool.eq_iff_iff,List.any_eq_true]
 simp only [Bool.and_eq_true,decide_eq_true_eq]
 constructor
 ·rintro ⟨x,hx,e1,e2⟩
  obtain ⟨m,hm,_⟩:=h.ws x hx
  rw [←e1,←e2,hm];rfl
 ·intro he
  obtain ⟨m,hm⟩:=Option.isSome_iff_exists.1 he
  obtain ⟨i1,i2,_⟩:=hi.wt _ _ _ hm
  exact ⟨m.t,h.wt _ _ _ hm,i1,i2⟩
theorem SRep.takeE {s:SiP} {r:RSi} (h:SRep s r) (hi:Inv s) (t:TxP):takeE s t=rTakeE r t:=by
 unfold Go.Proofs.YtbopfhbeegkkaabGreatDoor.takeE rTakeE rReady RSi.cov
 rw [h.same hi,h.at,h.id,h.len,h.wn,h.p0,h.p1,h.p2,h.p3]
 by_cases h1:rightTx t=false∨t.site=r.id
 ·rw [if_pos h1,if_pos h1]
 ·rw [if_neg h1,if_neg h1]
  by_cases h2:t.seq≤r.at t.site
  ·rw [if_pos (.inl h2),if_pos h2]
  ·rw [if_neg h2]
   by_cases h3:(s.wt t.site t.seq).isSome=true
   ·rw [if_pos (.inr h3),if_pos h3]
   ·rw [if_neg (by rintro (e | e) <;> contradiction),if_neg h3]
    have e:(decide (t.seq=r.at t.site+1)&&covD r.p0 r.p1 r.p2 r.p3 t.d0 t.d1 t.d2 t.d3)=false↔t.seq≠r.at t.site+1∨covD r.p0 r.p1 r.p2 r.p3 t.d0 t.d1 t.d2 t.d3=false:=by
     rw [Bool.and_eq_false_iff,decide_eq_false_iff_not]
    simp only [e]
theorem SRep.wait {s:SiP} {r:RSi} (h:SRep s r) {t:TxP} (hw:s.wt t.site t.seq=none) (A:Option Addr) (c:Nat):SRep (s.wait ⟨t,A,c⟩) { r with ws:=r.ws++[t] }:=by
 have hnot:t ∉ r.ws:=fun hm=>by
  obtain ⟨m,h1,_⟩:=h.ws t hm
  rw [hw] at h1;cases h1
 refine ⟨h.id,h.p0,h.p1,h.p2,h.p3,h.lw,h.lc,h.log,fun a b m e=>?_,fun u hu=>?_,?_,?_,h.rep,h.ot⟩
 ·have e':wset s.wt t.site t.seq (some ⟨t,A,c⟩) a b=some m:=e
  unfold wset at e'
  split at e'
  ·cases e';exact List.mem_append_right _ (by simp)
  ·exact List.mem_append_left _ (h.wt _ _ _ e')
 ·show ∃ m,wset s.wt t.site t.seq (some ⟨t,A,c⟩) u.site u.seq=some m∧m.t=u
  unfold wset
  rcases List.mem_append.1 hu with e | e
  ·obtain ⟨m,h1,h2⟩:=h.ws u e
   refine ⟨m,?_,h2⟩
   rw [if_neg]
   ·exact h1
   ·rintro ⟨e1,e2⟩
    rw [e1,e2,hw] at h1;cases h1
  ·obtain rfl:u=t:=by simpa using e
   exact ⟨⟨u,A,c⟩,by rw [if_pos ⟨rfl,rfl⟩],rfl⟩
 ·show (r.ws++[t]).Nodup
  rw [List.nodup_append]
  exact ⟨h.nd,by simp,fun a ha b hb e=>by
   obtain rfl:b=t:=by simpa using hb
   exact hnot (e ▸ ha)⟩
 ·show (if (s.wt t.site t.seq).isSome then s.wn else s.wn+1)=(r.ws++[t]).length
  rw [hw,h.wn];simp
theorem SRep.take {s:SiP} {r:RSi} (h:SRep s r) (hi:Inv s) {t:TxP} (he:Go.Proofs.YtbopfhbeegkkaabGreatDoor.takeE s t=0) (A:Option Addr) (c:Nat):
  SRep (runP (s.wn+1) (s.wait ⟨t,A,c⟩)) (rRun (r.ws.length+1) { r with ws:=r.ws++[t] }):=by
 obtain ⟨h1,h2⟩:rightTx t=true∧s.wt t.site t.seq=none:=by
  unfold Go.Proofs.YtbopfhbeegkkaabGreatDoor.takeE at he
  split at he
  ·cases he
  ·rename_i k1
   split at he
   ·cases he
   ·rename_i k2
    refine ⟨?_,?_⟩
    ·cases hr:rightTx t with
     | true=>rfl
     | false=>exact absurd (.inl hr) k1
    ·cases hw:s.wt t.site t.seq with
     | none=>rfl
     | some m=>exact absurd (.inr (by rw [hw];rfl)) k2
 have:=(h.wait h2 A c).run (r.ws.length+1) (hi.wait (m:=⟨t,A,c⟩) h1) (by simp)
 rw [h.wn];exact this
theorem SRep.commitE {s:SiP} {r:RSi} (h:SRep s r) (now d0 d1 d2 d3:Int) (ws:List WrP):commitE s now d0 d1 d2 d3 ws=rCommitE r now d0 d1 d2 d3 ws∧commitT s now d0 d1 d2 d3 ws=rCommitT r now d0 d1 d2 d3 ws:=by
 unfold Go.Proofs.YtbopfhbeegkkaabGreatDoor.commitE rCommitE commitT rCommitT
 rw [h.at,h.id,h.len,h.p0,h.p1,h.p2,h.p3,h.lw,h.lc]
 exact ⟨rfl,rfl⟩
end Go.Proofs.YtbopfhbeegkkaabGreatDoor
