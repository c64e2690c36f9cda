/- Part 11 of a proof: lemmas and contracts that other parts use. -/
import Derived.Test.YtbopfhbeegkkaabGreatDoorWp10
import Derived.Test.YtbopfhbeegkkaabGreatDoorWp7
import Derived.Test.YtbopfhbeegkkaabGreatDoorWp9
import Derived.Test.YtbopfhbeegkkaabGreatDoorWp8
set_option linter.unusedVariables false
set_option linter.unusedSimpArgs false
set_option maxHeartbeats 16000000
set_option maxRecDepth 20000
namespace Go.Proofs.YtbopfhbeegkkaabGreatDoor
open Go.RowKit Go.Proofs.Tryz
theorem zlt (B x mb:Nat) (s:SiP) (lv:Value) (sv:Nat→Value) (now d0 d1 d2 d3:Int) (A:Option Addr) (c:Nat) (ws:List WrP) (w:World) (h:zbV w B x s mb lv sv) (hi:Inv s) (hws:zaN w A ws) (hn:ws.length≤1000000):
  Calls prog 15 #[.pointer (some ⟨x,0,none⟩),now,.agg #[ii d0,ii d1,ii d2,ii d3],.slice A ws.length c] w
   (zhv B x mb s lv sv (commitE s now d0 d1 d2 d3 ws) (zcj s now d0 d1 d2 d3 ws) w):=by
 have HDN:Hid (∀ (n:Int) (w':World),n≠0→commitE s now d0 d1 d2 d3 ws=n→Below w w w'→zhv B x mb s lv sv (commitE s now d0 d1 d2 d3 ws) (zcj s now d0 d1 d2 d3 ws) w (.returned (.tuple #[txZero,zbT n])) w'):=zac (fun n w' h1 h2 h3=>⟨fun _=>⟨by rw[h2],h3⟩,fun e=>absurd (h2 ▸ e) h1⟩);have HCE:Hid (commitE s now d0 d1 d2 d3 ws=if zaX ws=false then 1 else if zcq d0 d1 d2 d3=false∨zdp s.p0 s.p1 s.p2 s.p3 d0 d1 d2 d3=false then 10 else if 200≤s.log.length then 12 else zbP s.lw s.lc now):=zac rfl;have HS:=zac h;have HI:=zac hi;have HWS:=zac hws;have HN:=zac hn;obtain⟨Al,cl,hlv⟩:=zaP h.row;have c7:=h.c7;rw[hlv]at c7;have HLV:=zac hlv;obtain⟨c1,c2,c3,c4⟩:=h.vec;have c5:=h.c5;have c6:=h.c6;have c0:=h.c0;haveI:zaj (x+1) w:=⟨h.sto.lt⟩;clear h hi hlv;cases hrw:zaX ws
 ·have HRW:=zac fun W (hB:Below w w W)=>ze5 hrw A c W hn (HWS.out.below hB)
  have HE:Hid (commitE s now d0 d1 d2 d3 ws=1):=zac (by rw[HCE.out,yaj hrw]);clear hrw hws;go_enter func15,ntmps15;go_wp2_with fail;go_at_call 76;refine(HRW.out _ zB).mono ?_;rintro e w' ⟨rfl,hb⟩;obtain⟨x1,rfl⟩:=zad hb;clear hb;go_wp2_with fail;refine yag (v:=.tuple #[txZero,zbT 1]) ?_ rfl (HDN.out 1 _ zI HE.out zB);simp[results,results15,go_sem,txZero];rfl
 have HRW:=zac fun W (hB:Below w w W)=>ze5 hrw A c W hn (HWS.out.below hB)
 have HRW2:=zac hrw;clear hrw hws;cases hrv:zcq d0 d1 d2 d3
 ·have HRV:=zac fun W=>zbY hrv W
  have HCV:=zac True.intro;have HE:Hid (commitE s now d0 d1 d2 d3 ws=10):=zac (by rw[HCE.out,yad (by rw[HRW2.out];simp),yaj (.inl hrv)]);clear hrv;go_enter func15,ntmps15;go_wp2_with fail;go_at_call 76;refine(HRW.out _ zB).mono ?_;rintro e w' ⟨rfl,hb⟩;obtain⟨x1,rfl⟩:=zad hb;clear hb;go_wp2_with fail;refine zaz fun x2=>?_
  go_wp2_with fail;refine yag (v:=.tuple #[txZero,zbT 10]) ?_ rfl (HDN.out 10 _ zI HE.out zB);simp[results,results15,go_sem,txZero];rfl
 cases hcv:zdp s.p0 s.p1 s.p2 s.p3 d0 d1 d2 d3
 ·have HRV:=zac fun W=>zbY hrv W
  have HCV:=zac fun W=>zdT hcv W
  have HE:Hid (commitE s now d0 d1 d2 d3 ws=10):=zac (by rw[HCE.out,yad (by rw[HRW2.out];simp),yaj (.inr hcv)]);clear hrv hcv;go_enter func15,ntmps15;go_wp2_with fail;go_at_call 76;refine(HRW.out _ zB).mono ?_;rintro e w' ⟨rfl,hb⟩;obtain⟨x1,rfl⟩:=zad hb;clear hb;go_wp2_with fail;refine zaz fun x2=>?_
  go_wp2_with fail;refine yag (v:=.tuple #[txZero,zbT 10]) ?_ rfl (HDN.out 10 _ zI HE.out zB);simp[results,results15,go_sem,txZero];rfl
 have HRV:=zac fun W=>zbY hrv W
 have HCV:=zac fun W=>zdT hcv W
 have HRV2:=zac hrv;have HCV2:=zac hcv;have HNO:Hid (¬(zcq d0 d1 d2 d3=false∨zdp s.p0 s.p1 s.p2 s.p3 d0 d1 d2 d3=false)):=zac (by rw[hrv,hcv];simp);clear hrv hcv;by_cases h200:200≤s.log.length
 ·have hd3:decide ((200:Int)≤(s.log.length:Int))=true:=zT
  have HE:Hid (commitE s now d0 d1 d2 d3 ws=12):=zac (by rw[HCE.out,yad (by rw[HRW2.out];simp),yad HNO.out,yaj h200]);clear h200;go_enter func15,ntmps15;go_wp2_with fail;go_at_call 76;refine(HRW.out _ zB).mono ?_;rintro e w' ⟨rfl,hb⟩;obtain⟨x1,rfl⟩:=zad hb;clear hb;go_wp2_with fail;refine zaz fun x2=>?_
  go_wp2_with fail;refine yag (v:=.tuple #[txZero,zbT 12]) ?_ rfl (HDN.out 12 _ zI HE.out zB);simp[results,results15,go_sem,txZero];rfl
 have hd3:decide ((200:Int)≤(s.log.length:Int))=false:=zU;have HE0:Hid (commitE s now d0 d1 d2 d3 ws=zbP s.lw s.lc now):=zac (by rw[HCE.out,yad (by rw[HRW2.out];simp),yad HNO.out,yad h200]);have H200:=zac h200;clear h200;have HNX:=zac fun W=>zmL s.lw s.lc now W
 obtain⟨en,hen⟩:∃ en,zbP s.lw s.lc now=en:=⟨_,rfl⟩;rw[hen]at HNX HE0;have HEN:=zac hen;clear hen;by_cases hn0:en=0
 ·refine(zjW B x mb s lv sv now d0 d1 d2 d3 A c ws w HS.out HI.out HWS.out HN.out HRW2.out HRV2.out HCV2.out H200.out (HEN.out.trans hn0)).mono ?_
  intro e w' hp;refine⟨fun hne=>absurd (HE0.out.trans hn0) hne,fun _=>hp⟩
 ·have HE:=HE0
  have hev:zbT en=.iface 29 (ii en):=by unfold zbT;rw[yad hn0]
  simp only[yad hn0,hev]at HNX;have HN0:=zac hn0;clear hn0;go_enter func15,ntmps15;go_wp2_with fail;go_at_call 76;refine(HRW.out _ zB).mono ?_;rintro e w' ⟨rfl,hb⟩;obtain⟨x1,rfl⟩:=zad hb;clear hb;go_wp2_with fail;refine zaz fun x2=>?_
  go_wp2_with fail;go_at_call 78;refine(HNX.out _).mono ?_;rintro e w' ⟨rfl,hb⟩;obtain⟨x3,rfl⟩:=zad hb;clear hb;go_wp2_with fail;refine yag (v:=.tuple #[txZero,zbT en]) ?_ rfl (HDN.out en _ HN0.out HE.out zB);rw[hev];simp[results,results15,go_sem,txZero]
end Go.Proofs.YtbopfhbeegkkaabGreatDoor
namespace Go.Proofs.YtbopfhbeegkkaabGreatDoor
open Go.Proofs.Tryz
structure RSi where
 id:Int
 p0:Int
 p1:Int
 p2:Int
 p3:Int
 lw:Int
 lc:Int
 log:List TxP
 ws:List TxP
 held:List PtP
 ot:Nat→Int
def RSi.at (r:RSi) (a:Int):Int:=atV r.p0 r.p1 r.p2 r.p3 a
def RSi.cov (r:RSi) (t:TxP):Bool:=zdp r.p0 r.p1 r.p2 r.p3 t.d0 t.d1 t.d2 t.d3
def zeI (L:List PtP) (t:TxP):Nat→List PtP
 | 0=>L
 | j+1=>(zgP (zeI L t j) (t.ws.getD j default).key (verOf t (t.ws.getD j default))).2
def zcc (r:RSi) (t:TxP):RSi:=
 ⟨r.id,if t.site=0 then t.seq else r.p0,if t.site=1 then t.seq else r.p1,if t.site=2 then t.seq else r.p2,if t.site=3 then t.seq else r.p3,
   if 0<zc1 t.wall t.count r.lw r.lc then t.wall else r.lw,if 0<zc1 t.wall t.count r.lw r.lc then t.count else r.lc,r.log++[t],r.ws,zeI r.held t t.ws.length,r.ot⟩
def zbD (r:RSi) (t:TxP):Bool:=decide (t.seq=r.at t.site+1)&&r.cov t
def rbGo (r:RSi):List TxP→Nat→Int→Int
 | [],_,b=>b
 | t::l,i,b=>if zbD r t=true∧(b<0∨t.site<(r.ws.getD b.toNat ⟨0,0,0,0,0,0,0,0,[]⟩).site)then rbGo r l (i+1) i else rbGo r l (i+1) b
def ze7 (r:RSi):Int:=rbGo r r.ws 0 (-1)
def zgc (r:RSi) (j:Nat):RSi:={ r with ws:=r.ws.take j++r.ws.drop (j+1) }
def rRun:Nat→RSi→RSi
 | 0,r=>r
 | f+1,r=>if 200≤r.log.length∨ze7 r<0 then r else rRun f (zcc (zgc r (ze7 r).toNat) (r.ws.getD (ze7 r).toNat ⟨0,0,0,0,0,0,0,0,[]⟩))
def zhN (r:RSi) (t:TxP):Bool:=r.ws.any fun x=>decide (x.site=t.site)&&decide (x.seq=t.seq)
def zb3 (r:RSi) (t:TxP):Int:=
 if zaf t=false∨t.site=r.id then 1 else if t.seq≤r.at t.site then 9 else if zhN r t=true then 9
 else if 200≤r.log.length∨(40≤r.ws.length∧zbD r t=false)then 12 else 0
def za5 (r:RSi) (now d0 d1 d2 d3:Int) (ws:List WrP):Int:=
 if zaX ws=false then 1 else if zcq d0 d1 d2 d3=false∨zdp r.p0 r.p1 r.p2 r.p3 d0 d1 d2 d3=false then 10 else if 200≤r.log.length then 12 else zbP r.lw r.lc now
def za9 (r:RSi) (now d0 d1 d2 d3:Int) (ws:List WrP):TxP:=
 ⟨r.id,r.at r.id+1,ze9 r.lw now,zfa r.lw r.lc now,if r.id=0 then r.p0 else d0,if r.id=1 then r.p1 else d1,if r.id=2 then r.p2 else d2,if r.id=3 then r.p3 else d3,ws⟩
structure zdY (s:SiP) (r:RSi):Prop where
 id:s.id=r.id
 p0:s.p0=r.p0
 p1:s.p1=r.p1
 p2:s.p2=r.p2
 p3:s.p3=r.p3
 lw:s.lw=r.lw
 lc:s.lc=r.lc
 log:s.log.map (·.t)=r.log
 wt:∀ a b m,s.wt a b=some m→m.t∈r.ws
 ws:∀ t∈r.ws,∃ m,s.wt t.site t.seq=some m∧m.t=t
 nd:r.ws.Nodup
 wn:s.wn=r.ws.length
 rep:Rep s.st r.held
 ot:s.ot=r.ot
theorem zdY.at {s:SiP}{r:RSi}(h:zdY s r) (a:Int):s.at a=r.at a:=by unfold SiP.at RSi.at;rw[h.p0,h.p1,h.p2,h.p3]
theorem zdY.cov {s:SiP}{r:RSi}(h:zdY s r) (m:MTx):zgL s m=r.cov m.t:=by unfold zgL RSi.cov;rw[h.p0,h.p1,h.p2,h.p3]
theorem zdY.len {s:SiP}{r:RSi}(h:zdY s r):s.log.length=r.log.length:=by rw[←h.log,List.length_map]
theorem zdY.fresh (id:Int):zdY (zcz id) ⟨id,0,0,0,0,0,0,[],[],[],fun _=>0⟩:=
 ⟨rfl,rfl,rfl,rfl,rfl,rfl,rfl,rfl,fun a b m e=>by simp[zcz]at e,fun t h=>by simp at h,List.nodup_nil,rfl,Rep.nil,rfl⟩
theorem ziG {st:Nat→List zaE}{L:List PtP}(h:Rep st L) (t:TxP):∀ j,Rep (zfy st t j) (zeI L t j)
 | 0=>h
 | j+1=>((ziG h t j).put _ _).2
theorem zi9 (a b c d:Int):(0<zc1 a b c d)↔zc1 c d a b<0:=by
 unfold zc1 orI zho
 repeat' split
 all_goals omega
theorem zeX (s:SiP) (m:MTx) (hs:0≤m.t.site∧m.t.site<4):(zbo s m).id=s.id∧(zbo s m).p0=(if m.t.site=0 then m.t.seq else s.p0)∧(zbo s m).p1=(if m.t.site=1 then m.t.seq else s.p1)∧
  (zbo s m).p2=(if m.t.site=2 then m.t.seq else s.p2)∧(zbo s m).p3=(if m.t.site=3 then m.t.seq else s.p3)∧(zbo s m).lw=zhf s.lw s.lc m.t.wall m.t.count∧(zbo s m).lc=zhg s.lw s.lc m.t.wall m.t.count∧(zbo s m).ot=s.ot:=by
 have h1:m.t.site=0∨m.t.site=1∨m.t.site=2∨m.t.site=3:=by omega
 unfold zbo SiP.setc;rcases h1 with h1|h1|h1|h1 <;> simp[h1]
theorem zdY.apply {s:SiP}{r:RSi}(h:zdY s r){m:MTx}(hs:0≤m.t.site∧m.t.site<4):zdY (zbo s m) (zcc r m.t):=by
 obtain⟨f1,f2,f3,f4,f5,f6,f7,f8⟩:=zeX s m hs;refine⟨f1.trans h.id,?_,?_,?_,?_,?_,?_,?_,?_,?_,h.nd,?_,?_,f8.trans h.ot⟩
 ·rw[f2,h.p0];rfl
 ·rw[f3,h.p1];rfl
 ·rw[f4,h.p2];rfl
 ·rw[f5,h.p3];rfl
 ·rw[f6];unfold zhf zcc;simp only[zi9,h.lw,h.lc]
 ·rw[f7];unfold zhg zcc;simp only[zi9,h.lw,h.lc]
 ·rw[zbU,ya9,h.log];rfl
 ·rw[zdm];exact h.wt
 ·rw[zdm];exact h.ws
 ·rw[zgD];exact h.wn
 ·rw[zgE];exact ziG h.rep m.t _
theorem zfq (s:SiP):∀ (k:Nat) (m:MTx),(zbu s k).find? (zgL s)=some m→
  ∃ j:Nat,j<k∧s.wt (j:Int) (s.at (j:Int)+1)=some m∧zgL s m=true∧∀ i:Nat,i<k→∀ m',s.wt (i:Int) (s.at (i:Int)+1)=some m'→zgL s m'=true→j≤i
 | 0,m,h=>by simp[zbu]at h
 | k+1,m,h=>by
   rw[zgh,List.find?_append]at h;cases hp:(zbu s k).find? (zgL s)with
   | some m1=>
     rw[hp]at h;obtain rfl:m1=m:=by simpa using h
     obtain⟨j,h1,h2,h3,h4⟩:=zfq s k m1 hp;exact⟨j,zO,h2,h3,fun i hi m' e c=>by
      by_cases e2:i<k
      ·exact h4 i e2 m' e c
      ·omega⟩
   | none=>
     rw[hp]at h;cases hw:s.wt (k:Int) (s.at (k:Int)+1)with
     | none=>rw[hw]at h;simp at h
     | some m2=>
       rw[hw]at h;have hh:zgL s m2=true∧m2=m:=by
        by_cases hc:zgL s m2=true
        ·simp[hc]at h;exact⟨hc,h⟩
        ·simp[hc]at h
       obtain⟨hc,rfl⟩:=hh;refine⟨k,zO,hw,hc,fun i hi m' e c=>?_⟩;by_cases e2:i<k
       ·have hmem:m'∈zbu s k:=by
         unfold zbu;exact ycl.2 ⟨i,ybK.2 e2,e⟩
        have:=yb7.1 hp m' hmem;rw[c]at this;exact absurd rfl this
       ·omega
theorem zeG (r:RSi):∀ (l:List TxP) (i:Nat) (b:Int),r.ws.drop i=l→(b=-1∨∃ j:Nat,b=(j:Int)∧j<i∧∃ t,r.ws[j]?=some t∧zbD r t=true)→
  (∀ (k:Nat) (t:TxP),k<i→r.ws[k]?=some t→zbD r t=true→∃ j:Nat,b=(j:Int)∧∃ u,r.ws[j]?=some u∧u.site≤t.site)→
  (rbGo r l i b=-1∧∀ t∈r.ws,zbD r t=false)∨∃ (j:Nat) (t:TxP),rbGo r l i b=(j:Int)∧r.ws[j]?=some t∧zbD r t=true∧∀ u∈r.ws,zbD r u=true→t.site≤u.site
 | [],i,b,hl,hb,hm=>by
   have hlen:r.ws.length≤i:=by
    have:=yaS List.length hl;simp at this;omega
   have hat:∀ u∈r.ws,∃ k:Nat,k<i∧r.ws[k]?=some u:=fun u hu=>by
    obtain⟨k,hk,rfl⟩:=yb0 hu;exact⟨k,zO,yaa hk⟩
   show(b=-1∧_)∨∃ j t,b=_∧_;rcases hb with rfl|⟨j,rfl,hj,t,h1,h2⟩
   ·refine .inl ⟨rfl,fun t ht=>?_⟩
    obtain⟨k,hk,e⟩:=hat t ht;rw[Bool.eq_false_iff];intro hr;obtain⟨j,e2,_⟩:=hm k t hk e hr;omega
   ·refine .inr ⟨j,t,rfl,h1,h2,fun u hu hr=>?_⟩
    obtain⟨k,hk,e⟩:=hat u hu;obtain⟨j',e2,u',h3,h4⟩:=hm k u hk e hr;obtain rfl:j=j':=by omega
    rw[h1]at h3;cases h3;exact h4
 | t::l,i,b,hl,hb,hm=>by
   have hti:r.ws[i]?=some t:=by
    have:=yaS (fun x=>x[0]?) hl;simpa using this
   have hl2:r.ws.drop (i+1)=l:=by
    have:r.ws.drop (i+1)=(r.ws.drop i).drop 1:=by rw[List.drop_drop]
    rw[this,hl];rfl
   unfold rbGo;split
   ·rename_i hc
    refine zeG r l (i+1) i hl2 (.inr ⟨i,rfl,zO,t,hti,hc.1⟩) ?_;intro k u hk e hr;refine⟨i,rfl,t,hti,?_⟩;by_cases e2:k=i
    ·subst e2;rw[hti]at e;cases e;exact Int.le_refl _
    ·obtain⟨j,rfl,v,h1,h2⟩:=hm k u zO e hr
     rcases hc.2 with h3|h3
     ·omega
     ·have e3:r.ws.getD ((j:Int)).toNat ⟨0,0,0,0,0,0,0,0,[]⟩=v:=by
       rw[show((j:Int)).toNat=j by omega,List.getD,h1];rfl
      rw[e3]at h3;omega
   ·rename_i hc
    refine zeG r l (i+1) b hl2 ?_ ?_
    ·rcases hb with hb|⟨j,h1,h2,h3⟩
     ·exact .inl hb
     ·exact .inr ⟨j,h1,zO,h3⟩
    ·intro k u hk e hr
     by_cases e2:k=i
     ·subst e2
      rw[hti]at e;cases e;rcases hb with rfl|⟨j,rfl,hj,v,h1,h2⟩
      ·exact absurd ⟨hr,.inl zO⟩ hc
      ·refine⟨j,rfl,v,h1,?_⟩
       have e3:r.ws.getD ((j:Int)).toNat ⟨0,0,0,0,0,0,0,0,[]⟩=v:=by
        rw[show((j:Int)).toNat=j by omega,List.getD,h1];rfl
       by_cases hlt:t.site<v.site
       ·exact absurd ⟨hr,.inr (by rw[e3];exact hlt)⟩ hc
       ·omega
     ·exact hm k u zO e hr
theorem zdY.next {s:SiP}{r:RSi}(h:zdY s r) (hi:Inv s):(zdh s=none∧ze7 r=-1)∨∃ (j:Nat) (m:MTx),zdh s=some m∧ze7 r=(j:Int)∧r.ws[j]?=some m.t:=by
 have hb:=zeG r r.ws 0 (-1) zS (.inl rfl) (fun k t hk=>by omega);have hrd:∀ t∈r.ws,zbD r t=true→∃ m,m.t=t∧s.wt (t.site.toNat:Int) (s.at (t.site.toNat:Int)+1)=some m∧zgL s m=true∧t.site.toNat<4∧(t.site.toNat:Int)=t.site:=fun t ht hr=>by
  obtain⟨m,hm,e⟩:=h.ws t ht;obtain⟨i1,i2,i3⟩:=hi.wt _ _ _ hm;have hsite:=(zar i3).1;unfold zbD at hr;simp only[yav,yap]at hr;have e4:(t.site.toNat:Int)=t.site:=by omega
  refine⟨m,e,?_,by rw[h.cov,e];exact hr.2,zO,e4⟩;rw[e4,h.at,←hr.1];exact hm
 cases hn:zdh s with
 | none=>
   rcases hb with ⟨h1,_⟩|⟨j,t,h1,h2,h3,h4⟩
   ·exact .inl ⟨rfl,h1⟩
   ·exfalso
    obtain⟨m,e1,e2,e3,e4,_⟩:=hrd t (ybo h2) h3;have hmem:m∈zbu s 4:=by
     unfold zbu;exact ycl.2 ⟨t.site.toNat,ybK.2 e4,e2⟩
    have:=yb7.1 hn m hmem;rw[e3]at this;exact absurd rfl this
 | some m=>
   obtain⟨j0,k1,k2,k3,k4⟩:=zfq s 4 m hn;obtain⟨i1,i2,i3⟩:=hi.wt _ _ _ k2;have hmr:m.t∈r.ws:=h.wt _ _ _ k2;have hready:zbD r m.t=true:=by
    unfold zbD;rw[←h.cov,k3,i2,i1,h.at];simp
   rcases hb with ⟨_,h2⟩|⟨j,t,h1,h2,h3,h4⟩
   ·have:=h2 m.t hmr;rw[hready]at this;cases this
   ·refine .inr ⟨j,m,rfl,h1,?_⟩
    have hle:=h4 m.t hmr hready;obtain⟨m',e1,e2,e3,e4,e5⟩:=hrd t (ybo h2) h3;have:=k4 _ e4 m' e2 e3;have e6:t.site.toNat=j0:=by omega
    rw[e6]at e2;rw[k2]at e2;cases e2;rw[h2,e1]
theorem zdY.unwait {s:SiP}{r:RSi}(h:zdY s r) (hi:Inv s){j:Nat}{m:MTx}(hm:s.wt m.t.site m.t.seq=some m) (hj:r.ws[j]?=some m.t):zdY (s.unwait m) (zgc r j)∧(zgc r j).ws.length+1=r.ws.length:=by
 obtain⟨hlt,he⟩:=yao.1 hj;have hL:r.ws=r.ws.take j++m.t::r.ws.drop (j+1):=by
  rw[←he,List.getElem_cons_drop,ybl]
 have hnd:=h.nd;rw[hL,List.nodup_append]at hnd;obtain⟨n1,n2,n3⟩:=hnd;obtain⟨n4,n5⟩:=List.nodup_cons.1 n2;have hin:∀ x,x∈(zgc r j).ws↔x∈r.ws∧x≠m.t:=fun x=>by
  show x∈r.ws.take j++r.ws.drop (j+1)↔_;constructor
  ·intro hx
   rcases yax.1 hx with e|e
   ·exact⟨by rw[hL];exact List.mem_append_left _ e,n3 x e m.t zS⟩
   ·exact⟨by rw[hL];exact List.mem_append_right _ (yaR _ e),fun e2=>n4 (e2 ▸ e)⟩
  ·rintro⟨hx,hne⟩
   rw[hL]at hx;rcases yax.1 hx with e|e
   ·exact List.mem_append_left _ e
   ·rcases ya1.1 e with e|e
    ·exact absurd e hne
    ·exact List.mem_append_right _ e
 have hlen:(zgc r j).ws.length+1=r.ws.length:=by
  show(r.ws.take j++r.ws.drop (j+1)).length+1=_;simp only[yak,yaL,yaT];omega
 refine⟨⟨h.id,h.p0,h.p1,h.p2,h.p3,h.lw,h.lc,h.log,fun a b m' e=>?_,fun t ht=>?_,?_,?_,h.rep,h.ot⟩,hlen⟩
 ·have e':zhw s.wt m.t.site m.t.seq none a b=some m':=e
  unfold zhw at e';split at e'
  ·cases e'
  ·rename_i hne
   refine(hin _).2 ⟨h.wt _ _ _ e',fun e2=>hne ?_⟩;obtain⟨i1,i2,_⟩:=hi.wt _ _ _ e';rw[←i1,←i2,e2];exact⟨rfl,rfl⟩
 ·obtain⟨h1,h2⟩:=(hin t).1 ht
  obtain⟨m',h3,h4⟩:=h.ws t h1;refine⟨m',?_,h4⟩;show zhw s.wt m.t.site m.t.seq none t.site t.seq=some m';unfold zhw;rw[yad]
  ·exact h3
  ·rintro⟨e1,e2⟩
   rw[e1,e2,hm]at h3;cases h3;exact h2 h4.symm
 ·show(r.ws.take j++r.ws.drop (j+1)).Nodup
  rw[List.nodup_append];exact⟨n1,n5,fun a ha b hb=>n3 a ha b (yaR _ hb)⟩
 ·have:(s.unwait m).wn=s.wn-1:=by
   unfold SiP.unwait;rw[hm];rfl
  rw[this,h.wn];omega
theorem zf7 {r:RSi}(h:200≤r.log.length∨ze7 r<0):∀ f,rRun f r=r
 | 0=>rfl
 | f+1=>by unfold rRun;rw[yaj h]
theorem ziD {r:RSi}{j:Nat}{t:TxP}(h:r.log.length<200) (hb:ze7 r=(j:Int)) (hj:r.ws[j]?=some t) (f:Nat):rRun (f+1) r=rRun f (zcc (zgc r j) t):=by
 show(if _ then _ else _)=_;rw[yad zO,hb,show((j:Int)).toNat=j by omega,List.getD,hj];rfl
theorem zdY.run:∀ (n:Nat){s:SiP}{r:RSi},zdY s r→Inv s→r.ws.length=n→zdY (runP n s) (rRun n r)
 | 0,s,r,h,_,_=>h
 | n+1,s,r,h,hi,hn=>by
   by_cases hl:200≤s.log.length
   ·rw[zbN (.inr hl),zf7 (.inl (by rw[←h.len];exact hl))];exact h
   ·rcases h.next hi with ⟨h1,h2⟩|⟨j,m,h1,h2,h3⟩
    ·rw[zbN (.inl h1),zf7 (.inr zO)];exact h
    ·obtain⟨hr,hw,hq⟩:=hi.has h1
     obtain⟨k1,k2⟩:=h.unwait hi hw h3;rw[zde h1 hl,ziD (by rw[←h.len];omega) h2 h3];exact zdY.run n (k1.apply (zar hr).1) (hi.apply hr hl) (by show(zgc r j).ws.length=n;omega)
theorem zdY.same {s:SiP}{r:RSi}(h:zdY s r) (hi:Inv s) (t:TxP):zhN r t=(s.wt t.site t.seq).isSome:=by
 unfold zhN;rw[ybq,List.any_eq_true];simp only[yav,yap];constructor
 ·rintro⟨x,hx,e1,e2⟩
  obtain⟨m,hm,_⟩:=h.ws x hx;rw[←e1,←e2,hm];rfl
 ·intro he
  obtain⟨m,hm⟩:=ybX.1 he;obtain⟨i1,i2,_⟩:=hi.wt _ _ _ hm;exact⟨m.t,h.wt _ _ _ hm,i1,i2⟩
theorem zdY.takeE {s:SiP}{r:RSi}(h:zdY s r) (hi:Inv s) (t:TxP):takeE s t=zb3 r t:=by
 unfold Go.Proofs.YtbopfhbeegkkaabGreatDoor.takeE zb3 zbD RSi.cov;rw[h.same hi,h.at,h.id,h.len,h.wn,h.p0,h.p1,h.p2,h.p3];by_cases h1:zaf t=false∨t.site=r.id
 ·rw[yaj h1,yaj h1]
 ·rw[yad h1,yad h1]
  by_cases h2:t.seq≤r.at t.site
  ·rw[yaj (.inl h2),yaj h2]
  ·rw[yad h2]
   by_cases h3:(s.wt t.site t.seq).isSome=true
   ·rw[yaj (.inr h3),yaj h3]
   ·rw[yad (by rintro(e|e) <;> contradiction),yad h3]
    have e:(decide (t.seq=r.at t.site+1)&&zdp r.p0 r.p1 r.p2 r.p3 t.d0 t.d1 t.d2 t.d3)=false↔t.seq≠r.at t.site+1∨zdp r.p0 r.p1 r.p2 r.p3 t.d0 t.d1 t.d2 t.d3=false:=by
     rw[Bool.and_eq_false_iff,yaD]
    simp only[e]
theorem zdY.wait {s:SiP}{r:RSi}(h:zdY s r){t:TxP}(hw:s.wt t.site t.seq=none) (A:Option Addr) (c:Nat):zdY (s.wait ⟨t,A,c⟩) { r with ws:=r.ws++[t] }:=by
 have hnot:t ∉ r.ws:=fun hm=>by
  obtain⟨m,h1,_⟩:=h.ws t hm;rw[hw]at h1;cases h1
 refine⟨h.id,h.p0,h.p1,h.p2,h.p3,h.lw,h.lc,h.log,fun a b m e=>?_,fun u hu=>?_,?_,?_,h.rep,h.ot⟩
 ·have e':zhw s.wt t.site t.seq (some ⟨t,A,c⟩) a b=some m:=e
  unfold zhw at e';split at e'
  ·cases e';exact List.mem_append_right _ zS
  ·exact List.mem_append_left _ (h.wt _ _ _ e')
 ·show ∃ m,zhw s.wt t.site t.seq (some ⟨t,A,c⟩) u.site u.seq=some m∧m.t=u
  unfold zhw;rcases yax.1 hu with e|e
  ·obtain⟨m,h1,h2⟩:=h.ws u e
   refine⟨m,?_,h2⟩;rw[yad]
   ·exact h1
   ·rintro⟨e1,e2⟩
    rw[e1,e2,hw]at h1;cases h1
  ·obtain rfl:u=t:=by simpa using e
   exact⟨⟨u,A,c⟩,by rw[yaj ⟨rfl,rfl⟩],rfl⟩
 ·show(r.ws++[t]).Nodup
  rw[List.nodup_append];exact⟨h.nd,zS,fun a ha b hb e=>by
   obtain rfl:b=t:=by simpa using hb
   exact hnot (e ▸ ha)⟩
 ·show(if(s.wt t.site t.seq).isSome then s.wn else s.wn+1)=(r.ws++[t]).length
  rw[hw,h.wn];simp
theorem zdY.take {s:SiP}{r:RSi}(h:zdY s r) (hi:Inv s){t:TxP}(he:Go.Proofs.YtbopfhbeegkkaabGreatDoor.takeE s t=0) (A:Option Addr) (c:Nat):
  zdY (runP (s.wn+1) (s.wait ⟨t,A,c⟩)) (rRun (r.ws.length+1) { r with ws:=r.ws++[t] }):=by
 obtain⟨h1,h2⟩:zaf t=true∧s.wt t.site t.seq=none:=by
  unfold Go.Proofs.YtbopfhbeegkkaabGreatDoor.takeE at he;split at he
  ·cases he
  ·rename_i k1
   split at he
   ·cases he
   ·rename_i k2
    refine⟨?_,?_⟩
    ·cases hr:zaf t with
     | true=>rfl
     | false=>exact absurd (.inl hr) k1
    ·cases hw:s.wt t.site t.seq with
     | none=>rfl
     | some m=>exact absurd (.inr (by rw[hw];rfl)) k2
 have:=(h.wait h2 A c).run (r.ws.length+1) (hi.wait (m:=⟨t,A,c⟩) h1) zS;rw[h.wn];exact this
theorem zdY.commitE {s:SiP}{r:RSi}(h:zdY s r) (now d0 d1 d2 d3:Int) (ws:List WrP):commitE s now d0 d1 d2 d3 ws=za5 r now d0 d1 d2 d3 ws∧zcj s now d0 d1 d2 d3 ws=za9 r now d0 d1 d2 d3 ws:=by
 unfold Go.Proofs.YtbopfhbeegkkaabGreatDoor.commitE za5 zcj za9;rw[h.at,h.id,h.len,h.p0,h.p1,h.p2,h.p3,h.lw,h.lc];exact⟨rfl,rfl⟩
end Go.Proofs.YtbopfhbeegkkaabGreatDoor
namespace Go.Proofs.YtbopfhbeegkkaabGreatDoor
open Go.RowKit Go.Proofs.Tryz
theorem zfK (a b:Int) (w:World):
  Calls prog 140 #[a,b] w fun e w'=>e=.returned (ii (min a b))∧w=w':=by
 rcases Int.le_total a b with h|h
 ·rw[yca h]
  by_cases h1:a<b
  all_goals
   go_enter func140,ntmps140;go_wp2
   all_goals go_ret
   all_goals exact⟨by simp;try omega,rfl⟩
 ·rw[Int.min_eq_right h]
  by_cases h1:b<a
  all_goals
   go_enter func140,ntmps140;go_wp2
   all_goals go_ret
   all_goals exact⟨by simp;try omega,rfl⟩
theorem zjR (a0 a1 a2 a3 b0 b1 b2 b3:Int) (w:World):
  Calls prog 138 #[.agg #[ii a0,ii a1,ii a2,ii a3],.agg #[ii b0,ii b1,ii b2,ii b3],.func (.func 140) #[] #[]] w
   fun e w'=>e=.returned (.agg #[ii (min a0 b0),ii (min a1 b1),ii (min a2 b2),ii (min a3 b3)])∧Below w w w':=by
 go_enter func138,ntmps138;go_wp2;refine ybA 5 ?_;rw[yaO];go_wp2;refine zas 10 zK zK ?_;simp only[yat,yaQ,yau,yaA]
 repeat(first|go_big_quiet_skip|(go_big_quiet_want;go_big_quiet_op;first|go_big_quiet_on|(apply Exists.intro;refine⟨fun _=>Calls.plus_same (zfK _ _ _),?_⟩;go_big_quiet_on)))
 refine yaM ?_;rintro _ ⟨x0,rfl⟩;go_wp2;rw[yaO];go_wp2;refine zas 10 zK zK ?_;simp only[yat,yaQ,yau,yaA]
 repeat(first|go_big_quiet_skip|(go_big_quiet_want;go_big_quiet_op;first|go_big_quiet_on|(apply Exists.intro;refine⟨fun _=>Calls.plus_same (zfK _ _ _),?_⟩;go_big_quiet_on)))
 refine yaM ?_;rintro _ ⟨x1,rfl⟩;go_wp2;rw[yaO];go_wp2;refine zas 10 zK zK ?_;simp only[yat,yaQ,yau,yaA]
 repeat(first|go_big_quiet_skip|(go_big_quiet_want;go_big_quiet_op;first|go_big_quiet_on|(apply Exists.intro;refine⟨fun _=>Calls.plus_same (zfK _ _ _),?_⟩;go_big_quiet_on)))
 refine yaM ?_;rintro _ ⟨x2,rfl⟩;go_wp2;rw[yaO];go_wp2;refine zas 10 zK zK ?_;simp only[yat,yaQ,yau,yaA]
 repeat(first|go_big_quiet_skip|(go_big_quiet_want;go_big_quiet_op;first|go_big_quiet_on|(apply Exists.intro;refine⟨fun _=>Calls.plus_same (zfK _ _ _),?_⟩;go_big_quiet_on)))
 refine yaM ?_;rintro _ ⟨x3,rfl⟩;go_wp2;rw[yaO];go_wp2;exact yag (v:=.agg #[ii (min a0 b0),ii (min a1 b1),ii (min a2 b2),ii (min a3 b3)]) (by simp[results,results138,go_sem]) rfl ⟨rfl,zB⟩
theorem zhz (a0 a1 a2 a3 b0 b1 b2 b3:Int) (w:World):
  Calls prog 89 #[.agg #[ii a0,ii a1,ii a2,ii a3],.agg #[ii b0,ii b1,ii b2,ii b3]] w
   fun e w'=>e=.returned (.agg #[ii (min a0 b0),ii (min a1 b1),ii (min a2 b2),ii (min a3 b3)])∧Below w w w':=by
 go_enter func89,ntmps89;go_wp2_with (go_at_call 138;refine(zjR _ _ _ _ _ _ _ _ _).mono ?_;rintro e w' ⟨rfl,hb⟩;obtain⟨x,rfl⟩:=zad hb;clear hb);exact yag (v:=.agg #[ii (min a0 b0),ii (min a1 b1),ii (min a2 b2),ii (min a3 b3)]) (by simp[results,results89,go_sem]) rfl ⟨rfl,zB⟩
def zij (k j:Nat) (a b:Int):Int:=if j<k then max a b else a
def Rmax (w:World) (a0 a1 a2 a3 b0 b1 b2 b3:Int) (k:Nat) (wr:World):Prop:=∃ x,wr=zai (((w.alloc (.cells #[ii (zij k 0 a0 b0),ii (zij k 1 a1 b1),ii (zij k 2 a2 b2),ii (zij k 3 a3 b3)] 32)).alloc (.cells #[b0,b1,b2,b3] 32)).alloc (.cells #[ii 0,ii 0,ii 0,ii 0] 32)) x
theorem zkf (a0 a1 a2 a3 b0 b1 b2 b3:Int) (w:World):
  Calls prog 19 #[.agg #[ii a0,ii a1,ii a2,ii a3],.agg #[ii b0,ii b1,ii b2,ii b3]] w
   fun e w'=>e=.returned (.agg #[ii (max a0 b0),ii (max a1 b1),ii (max a2 b2),ii (max a3 b3)])∧Below w w w':=by
 go_enter func19,ntmps19;go_wp2;go_loopw [6] (fun u wr=>∃ k:Nat,k≤4∧u=ii k∧Rmax w a0 a1 a2 a3 b0 b1 b2 b3 k wr) (fun u _=>4-(intOf u).toNat)
 case atStart=>exact⟨0,zO,rfl,⟨#[],w.drawn⟩,by simp[zai,zij];rfl⟩
 case round=>
  obtain⟨k,hk,rfl,x,rfl⟩:=hrel;obtain rfl|rfl|rfl|rfl|rfl:k=0∨k=1∨k=2∨k=3∨k=4:=by omega
  ·simp only[zij,Nat.reduceLT,ybk,ybf]
   go_wp2;refine zaw fun x1=>?_
   by_cases h:a0<b0
   ·go_wp2
    go_roundw
    case rel=>exact⟨1,zO,rfl,⟨_,by rw[wplus_wplus];simp only[zij,Nat.reduceLT,ybk,ybf,show max a0 b0=b0 by omega];rfl⟩⟩
    case measure=>simp[intOf]
   ·go_wp2
    go_roundw
    case rel=>exact⟨1,zO,rfl,⟨_,by rw[wplus_wplus];simp only[zij,Nat.reduceLT,ybk,ybf,show max a0 b0=a0 by omega];rfl⟩⟩
    case measure=>simp[intOf]
  ·simp only[zij,Nat.reduceLT,ybk,ybf]
   go_wp2;refine zaw fun x1=>?_
   by_cases h:a1<b1
   ·go_wp2
    go_roundw
    case rel=>exact⟨2,zO,rfl,⟨_,by rw[wplus_wplus];simp only[zij,Nat.reduceLT,ybk,ybf,show max a1 b1=b1 by omega];rfl⟩⟩
    case measure=>simp[intOf]
   ·go_wp2
    go_roundw
    case rel=>exact⟨2,zO,rfl,⟨_,by rw[wplus_wplus];simp only[zij,Nat.reduceLT,ybk,ybf,show max a1 b1=a1 by omega];rfl⟩⟩
    case measure=>simp[intOf]
  ·simp only[zij,Nat.reduceLT,ybk,ybf]
   go_wp2;refine zaw fun x1=>?_
   by_cases h:a2<b2
   ·go_wp2
    go_roundw
    case rel=>exact⟨3,zO,rfl,⟨_,by rw[wplus_wplus];simp only[zij,Nat.reduceLT,ybk,ybf,show max a2 b2=b2 by omega];rfl⟩⟩
    case measure=>simp[intOf]
   ·go_wp2
    go_roundw
    case rel=>exact⟨3,zO,rfl,⟨_,by rw[wplus_wplus];simp only[zij,Nat.reduceLT,ybk,ybf,show max a2 b2=a2 by omega];rfl⟩⟩
    case measure=>simp[intOf]
  ·simp only[zij,Nat.reduceLT,ybk,ybf]
   go_wp2;refine zaw fun x1=>?_
   by_cases h:a3<b3
   ·go_wp2
    go_roundw
    case rel=>exact⟨4,zO,rfl,⟨_,by rw[wplus_wplus];simp only[zij,Nat.reduceLT,ybk,ybf,show max a3 b3=b3 by omega];rfl⟩⟩
    case measure=>simp[intOf]
   ·go_wp2
    go_roundw
    case rel=>exact⟨4,zO,rfl,⟨_,by rw[wplus_wplus];simp only[zij,Nat.reduceLT,ybk,ybf,show max a3 b3=a3 by omega];rfl⟩⟩
    case measure=>simp[intOf]
  ·simp only[zij,Nat.reduceLT,ybk,ybf]
   go_wp2;exact yag (v:=.agg #[ii (max a0 b0),ii (max a1 b1),ii (max a2 b2),ii (max a3 b3)]) (by simp[results,results19,go_sem]) rfl ⟨rfl,zB⟩
def zii (k j:Nat) (a b:Int):Int:=if j<k then min a b else a
def Rmin (w:World) (a0 a1 a2 a3 b0 b1 b2 b3:Int) (k:Nat) (wr:World):Prop:=∃ x,wr=zai (((w.alloc (.cells #[ii (zii k 0 a0 b0),ii (zii k 1 a1 b1),ii (zii k 2 a2 b2),ii (zii k 3 a3 b3)] 32)).alloc (.cells #[b0,b1,b2,b3] 32)).alloc (.cells #[ii 0,ii 0,ii 0,ii 0] 32)) x
theorem zhQ (a0 a1 a2 a3 b0 b1 b2 b3:Int) (w:World):
  Calls prog 23 #[.agg #[ii a0,ii a1,ii a2,ii a3],.agg #[ii b0,ii b1,ii b2,ii b3]] w
   fun e w'=>e=.returned (.agg #[ii (min a0 b0),ii (min a1 b1),ii (min a2 b2),ii (min a3 b3)])∧Below w w w':=by
 go_enter func23,ntmps23;go_wp2;go_loopw [6] (fun u wr=>∃ k:Nat,k≤4∧u=ii k∧Rmin w a0 a1 a2 a3 b0 b1 b2 b3 k wr) (fun u _=>4-(intOf u).toNat)
 case atStart=>exact⟨0,zO,rfl,⟨#[],w.drawn⟩,by simp[zai,zii];rfl⟩
 case round=>
  obtain⟨k,hk,rfl,x,rfl⟩:=hrel;obtain rfl|rfl|rfl|rfl|rfl:k=0∨k=1∨k=2∨k=3∨k=4:=by omega
  ·simp only[zii,Nat.reduceLT,ybk,ybf]
   go_wp2;refine zaw fun x1=>?_
   by_cases h:b0<a0
   ·go_wp2
    go_roundw
    case rel=>exact⟨1,zO,rfl,⟨_,by rw[wplus_wplus];simp only[zii,Nat.reduceLT,ybk,ybf,show min a0 b0=b0 by omega];rfl⟩⟩
    case measure=>simp[intOf]
   ·go_wp2
    go_roundw
    case rel=>exact⟨1,zO,rfl,⟨_,by rw[wplus_wplus];simp only[zii,Nat.reduceLT,ybk,ybf,show min a0 b0=a0 by omega];rfl⟩⟩
    case measure=>simp[intOf]
  ·simp only[zii,Nat.reduceLT,ybk,ybf]
   go_wp2;refine zaw fun x1=>?_
   by_cases h:b1<a1
   ·go_wp2
    go_roundw
    case rel=>exact⟨2,zO,rfl,⟨_,by rw[wplus_wplus];simp only[zii,Nat.reduceLT,ybk,ybf,show min a1 b1=b1 by omega];rfl⟩⟩
    case measure=>simp[intOf]
   ·go_wp2
    go_roundw
    case rel=>exact⟨2,zO,rfl,⟨_,by rw[wplus_wplus];simp only[zii,Nat.reduceLT,ybk,ybf,show min a1 b1=a1 by omega];rfl⟩⟩
    case measure=>simp[intOf]
  ·simp only[zii,Nat.reduceLT,ybk,ybf]
   go_wp2;refine zaw fun x1=>?_
   by_cases h:b2<a2
   ·go_wp2
    go_roundw
    case rel=>exact⟨3,zO,rfl,⟨_,by rw[wplus_wplus];simp only[zii,Nat.reduceLT,ybk,ybf,show min a2 b2=b2 by omega];rfl⟩⟩
    case measure=>simp[intOf]
   ·go_wp2
    go_roundw
    case rel=>exact⟨3,zO,rfl,⟨_,by rw[wplus_wplus];simp only[zii,Nat.reduceLT,ybk,ybf,show min a2 b2=a2 by omega];rfl⟩⟩
    case measure=>simp[intOf]
  ·simp only[zii,Nat.reduceLT,ybk,ybf]
   go_wp2;refine zaw fun x1=>?_
   by_cases h:b3<a3
   ·go_wp2
    go_roundw
    case rel=>exact⟨4,zO,rfl,⟨_,by rw[wplus_wplus];simp only[zii,Nat.reduceLT,ybk,ybf,show min a3 b3=b3 by omega];rfl⟩⟩
    case measure=>simp[intOf]
   ·go_wp2
    go_roundw
    case rel=>exact⟨4,zO,rfl,⟨_,by rw[wplus_wplus];simp only[zii,Nat.reduceLT,ybk,ybf,show min a3 b3=a3 by omega];rfl⟩⟩
    case measure=>simp[intOf]
  ·simp only[zii,Nat.reduceLT,ybk,ybf]
   go_wp2;exact yag (v:=.agg #[ii (min a0 b0),ii (min a1 b1),ii (min a2 b2),ii (min a3 b3)]) (by simp[results,results23,go_sem]) rfl ⟨rfl,zB⟩
def covB (a0 a1 a2 a3 b0 b1 b2 b3:Int):Bool:=decide (b0≤a0)&&decide (b1≤a1)&&decide (b2≤a2)&&decide (b3≤a3)
def Plus (W wr:World):Prop:=∃ x,wr=zai W x
theorem zjw (a0 a1 a2 a3 b0 b1 b2 b3:Int) (w:World):
  Calls prog 73 #[.agg #[ii a0,ii a1,ii a2,ii a3],.agg #[ii b0,ii b1,ii b2,ii b3]] w
   fun e w'=>e=.returned (.bool (covB a0 a1 a2 a3 b0 b1 b2 b3))∧Below w w w':=by
 go_enter func73,ntmps73;go_wp2;go_loopw [6] (fun u wr=>∃ k:Nat,k≤4∧u=ii k∧(0<k→b0≤a0)∧(1<k→b1≤a1)∧(2<k→b2≤a2)∧(3<k→b3≤a3)∧Plus ((w.alloc (.cells #[a0,a1,a2,a3] 32)).alloc (.cells #[b0,b1,b2,b3] 32)) wr) (fun u _=>4-(intOf u).toNat)
 case atStart=>exact⟨0,zO,rfl,zO,zO,zO,zO,⟨#[],w.drawn⟩,by simp[zai];rfl⟩
 case round=>
  obtain⟨k,hk,rfl,h0,h1,h2,h3,x,rfl⟩:=hrel;obtain rfl|rfl|rfl|rfl|rfl:k=0∨k=1∨k=2∨k=3∨k=4:=by omega
  ·clear h0 h1 h2 h3
   go_wp2;refine zaw fun x1=>?_
   by_cases h:a0<b0
   ·go_wp2
    go_ret;exact⟨by simp[covB];omega,zB⟩
   ·go_wp2
    go_roundw
    case rel=>exact⟨1,zO,rfl,zO,zO,zO,zO,⟨_,wplus_wplus _ _ _⟩⟩
    case measure=>simp[intOf]
  ·have h0:=h0 zO
   clear h1 h2 h3;go_wp2;refine zaw fun x1=>?_
   by_cases h:a1<b1
   ·go_wp2
    go_ret;exact⟨by simp[covB];omega,zB⟩
   ·go_wp2
    go_roundw
    case rel=>exact⟨2,zO,rfl,zO,zO,zO,zO,⟨_,wplus_wplus _ _ _⟩⟩
    case measure=>simp[intOf]
  ·have h0:=h0 zO;have h1:=h1 zO
   clear h2 h3;go_wp2;refine zaw fun x1=>?_
   by_cases h:a2<b2
   ·go_wp2
    go_ret;exact⟨by simp[covB];omega,zB⟩
   ·go_wp2
    go_roundw
    case rel=>exact⟨3,zO,rfl,zO,zO,zO,zO,⟨_,wplus_wplus _ _ _⟩⟩
    case measure=>simp[intOf]
  ·have h0:=h0 zO;have h1:=h1 zO;have h2:=h2 zO
   clear h3;go_wp2;refine zaw fun x1=>?_
   by_cases h:a3<b3
   ·go_wp2
    go_ret;exact⟨by simp[covB];omega,zB⟩
   ·go_wp2
    go_roundw
    case rel=>exact⟨4,zO,rfl,zO,zO,zO,zO,⟨_,wplus_wplus _ _ _⟩⟩
    case measure=>simp[intOf]
  ·have h0:=h0 zO;have h1:=h1 zO;have h2:=h2 zO;have h3:=h3 zO
   go_wp2;go_ret;exact⟨by simp[covB];omega,zB⟩
structure RsP where
 id:Int
 p0:Int
 p1:Int
 p2:Int
 p3:Int
 lw:Int
 lc:Int
 log:List MTx
 ws:List MTx
 L:List PtP
 ot:Nat→Int
def RsP.r (s:RsP):RSi:=⟨s.id,s.p0,s.p1,s.p2,s.p3,s.lw,s.lc,s.log.map (·.t),s.ws.map (·.t),s.L,s.ot⟩
def za2 (y:Nat) (lv av:Value) (b:Nat):Prop:=b=y∨lv.ownBlock=some b∨av.ownBlock=some b
def RsP.has (s:RsP) (m:MTx):Prop:=m∈s.log∨m∈s.ws
structure zcp (w:World) (B y:Nat) (s:RsP) (lv:Value) (wA:Option Addr) (wc:Nat) (av:Value):Prop where
 c0:w.cell? ⟨y,0,none⟩=some (ii s.id)
 c1:w.cell? ⟨y,1,none⟩=some (ii s.p0)
 c2:w.cell? ⟨y,2,none⟩=some (ii s.p1)
 c3:w.cell? ⟨y,3,none⟩=some (ii s.p2)
 c4:w.cell? ⟨y,4,none⟩=some (ii s.p3)
 c5:w.cell? ⟨y,5,none⟩=some (ii s.lw)
 c6:w.cell? ⟨y,6,none⟩=some (ii s.lc)
 c7:w.cell? ⟨y,7,none⟩=some lv
 c8:w.cell? ⟨y,8,none⟩=some (.slice wA s.ws.length wc)
 oth:∀ k,k<16→w.cell? ⟨y,10+k,none⟩=some (ii (s.ot k))
 frz:∀ k,w.frozen? ⟨y,k,none⟩=false
 sto:zgY w y 9 B s.L av
 row:w.ownsRow B 44 9 lv s.log.length (s.log.flatMap MTx.cells)
 wat:zd9 w wA s.ws∧s.ws.length≤wc∧∀ b o,wA=some ⟨b,o,none⟩→b<w.heap.size∧¬za2 y lv av b
 bx:B≤y
 dxl:lv.ownBlock≠some y
 dla:∀ b,lv.ownBlock=some b→av.ownBlock≠some b
 dat:∀ m,s.has m→zaN w m.A m.t.ws∧∀ b o,m.A=some ⟨b,o,none⟩→b<w.heap.size∧¬za2 y lv av b
theorem zcp.lt {w:World}{B y wc:Nat}{s:RsP}{lv av:Value}{wA:Option Addr}(h:zcp w B y s lv wA wc av){b:Nat}(hb:za2 y lv av b):B≤b∧b<w.heap.size:=by
 rcases hb with rfl|hb|hb
 ·exact⟨h.bx,h.sto.lt⟩
 ·exact zao h.row hb
 ·exact zao h.sto.own hb
theorem zd9.keep {w w':World}{A:Option Addr}{l:List MTx}(h:zd9 w A l) (hsz:w.heap.size≤w'.heap.size) (hb:∀ b o,A=some ⟨b,o,none⟩→w'.heap[b]?=w.heap[b]?):zd9 w' A l:=fun i m hm=>by
 obtain⟨b,o,hA,hlt,rest⟩:=h i m hm;have e:∀ k,w'.cell? ⟨b,k,none⟩=w.cell? ⟨b,k,none⟩:=fun k=>yam (a:=⟨b,k,none⟩) (hb b o hA)
 simp only[←e]at rest;exact⟨b,o,hA,yab hlt hsz,rest⟩
theorem zcp.same {w w':World}{B y wc:Nat}{s:RsP}{lv av:Value}{wA:Option Addr}(h:zcp w B y s lv wA wc av) (hsz:w.heap.size≤w'.heap.size) (ho:∀ b,za2 y lv av b→w'.heap[b]?=w.heap[b]?)
  (hw:∀ b o,wA=some ⟨b,o,none⟩→w'.heap[b]?=w.heap[b]?) (hd:∀ m,s.has m→∀ b o,m.A=some ⟨b,o,none⟩→w'.heap[b]?=w.heap[b]?):zcp w' B y s lv wA wc av:=by
 have hx:=ho y (.inl rfl);have hc:∀ k,w'.cell? ⟨y,k,none⟩=w.cell? ⟨y,k,none⟩:=fun k=>yam hx
 have hf:∀ k,w'.frozen? ⟨y,k,none⟩=w.frozen? ⟨y,k,none⟩:=fun k=>yal hx
 have hrow:∀ {e n z:Nat}{v:Value}{xs:List Value},w.ownsRow B e z v n xs→(∀ b,v.ownBlock=some b→w'.heap[b]?=w.heap[b]?)→w'.ownsRow B e z v n xs:=by
  intro e n z v xs h1 h2;obtain⟨hl,hn|⟨g,cap,cur,hv,hb,hg,rest⟩⟩:=h1
  ·exact⟨hl,.inl hn⟩
  ·exact⟨hl,.inr ⟨g,cap,cur,hv,hb,by rw[h2 g (by rw[hv];rfl)];exact hg,rest⟩⟩
 refine⟨(hc 0).trans h.c0,(hc 1).trans h.c1,(hc 2).trans h.c2,(hc 3).trans h.c3,(hc 4).trans h.c4,(hc 5).trans h.c5,(hc 6).trans h.c6,(hc 7).trans h.c7,(hc 8).trans h.c8,fun k hk=>(hc _).trans (h.oth k hk),fun k=>(hf k).trans (h.frz k),?_,hrow h.row (fun b e=>ho b (.inr (.inl e))),?_,h.bx,h.dxl,h.dla,?_⟩
 ·exact⟨yab h.sto.lt hsz,(hc _).trans h.sto.cel,(hf _).trans h.sto.frz,hrow h.sto.own (fun b e=>ho b (.inr (.inr e))),h.sto.ng⟩
 ·exact⟨h.wat.1.keep hsz hw,h.wat.2.1,fun b o e=>⟨yab (h.wat.2.2 b o e).1 hsz,(h.wat.2.2 b o e).2⟩⟩
 ·intro m hm
  obtain⟨h1,h2⟩:=h.dat m hm;exact⟨h1.keep (hd m hm),fun b o e=>⟨yab (h2 b o e).1 hsz,(h2 b o e).2⟩⟩
theorem zcp.below {w w':World}{B y wc:Nat}{s:RsP}{lv av:Value}{wA:Option Addr}(h:zcp w B y s lv wA wc av) (hb:Below w w w'):zcp w' B y s lv wA wc av:=
 h.same hb.size (fun b hb'=>hb.block b (h.lt hb').2) (fun b o e=>hb.block b (h.wat.2.2 b o e).1) (fun m hm b o e=>hb.block b ((h.dat m hm).2 b o e).1)
theorem zcp.vec {w:World}{B y wc:Nat}{s:RsP}{lv av:Value}{wA:Option Addr}(h:zcp w B y s lv wA wc av):w.cell? ⟨y,1,none⟩=some (ii s.p0)∧w.cell? ⟨y,1+1,none⟩=some (ii s.p1)∧w.cell? ⟨y,1+2,none⟩=some (ii s.p2)∧w.cell? ⟨y,1+3,none⟩=some (ii s.p3):=⟨h.c1,h.c2,h.c3,h.c4⟩
def RsP.at (s:RsP) (i:Int):Int:=atV s.p0 s.p1 s.p2 s.p3 i
theorem zcp.apc {w:World}{B y wc:Nat}{s:RsP}{lv av:Value}{wA:Option Addr}(h:zcp w B y s lv wA wc av){k:Nat}(hk:k<4):w.cell? ⟨y,1+k,none⟩=some (ii (s.at (k:Int))):=by
 obtain⟨v1,v2,v3,v4⟩:=h.vec;have hc:k=0∨k=1∨k=2∨k=3:=by omega
 rcases hc with rfl|rfl|rfl|rfl
 ·exact v1
 ·exact v2
 ·exact v3
 ·exact v4
def RsP.setc (s:RsP) (i:Nat) (z:Int):RsP:=
 { s with p0:=if i=1 then z else s.p0,p1:=if i=2 then z else s.p1,p2:=if i=3 then z else s.p2,p3:=if i=4 then z else s.p3,lw:=if i=5 then z else s.lw,lc:=if i=6 then z else s.lc,ot:=fun k=>if i=10+k then z else s.ot k }
theorem zaO.setR {w:World}{y i:Nat}{lv av:Value}(v:Value):zaO w (w.setCell ⟨y,i,none⟩ v) (za2 y lv av) (za2 y lv av):=
 ⟨rfl,rfl,rfl,by simp[World.setCell],fun k hk hn=>(zan w y i v).block k hk (by simp;exact fun e=>hn (.inl e)),fun _ h=>.inl h⟩
theorem zcp.setc {w:World}{B y wc i:Nat}{s:RsP}{lv av:Value}{wA:Option Addr}(h:zcp w B y s lv wA wc av) (hi:(1≤i∧i≤6)∨(10≤i∧i<26)) (z:Int):zcp (w.setCell ⟨y,i,none⟩ (ii z)) B y (s.setc i z) lv wA wc av:=by
 have hgs:=zan w y i (ii z);have hx:∀ b,b<w.heap.size→b≠y→(w.setCell ⟨y,i,none⟩ (ii z)).heap[b]?=w.heap[b]?:=fun b hb hne=>hgs.block b hb (by simp;exact hne)
 have hf:∀ k,(w.setCell ⟨y,i,none⟩ (ii z)).frozen? ⟨y,k,none⟩=w.frozen? ⟨y,k,none⟩:=fun k=>yba ..
 have hs:(w.setCell ⟨y,i,none⟩ (ii z)).heap.size=w.heap.size:=by simp[World.setCell]
 have t:∀ {j:Nat}{a:Int},w.cell? ⟨y,j,none⟩=some (ii a)→(w.setCell ⟨y,i,none⟩ (ii z)).cell? ⟨y,j,none⟩=some (ii (if i=j then z else a)):=fun {j a} hj=>by
  rw[zb1 hj];split <;> rfl
 refine⟨?_,t h.c1,t h.c2,t h.c3,t h.c4,t h.c5,t h.c6,?_,?_,fun k hk=>t (h.oth k hk),fun k=>(hf k).trans (h.frz k),?_,?_,?_,h.bx,h.dxl,h.dla,?_⟩
 ·have:=zb1 (i:=i) (v:=ii z) h.c0;rw[yad zO]at this;exact this
 ·have:=zb1 (i:=i) (v:=ii z) h.c7;rw[yad zO]at this;exact this
 ·have:=zb1 (i:=i) (v:=ii z) h.c8;rw[yad zO]at this;exact this
 ·refine⟨by rw[hs];exact h.sto.lt,?_,(hf _).trans h.sto.frz,h.sto.own.kept hgs (.inr h.sto.ng),h.sto.ng⟩
  have:=zb1 (i:=i) (v:=ii z) h.sto.cel;rw[yad zO]at this;exact this
 ·exact h.row.kept hgs (.inr h.dxl)
 ·obtain⟨h1,h2,h3⟩:=h.wat
  exact⟨h1.keep (by rw[hs];exact yai _) (fun b o e=>hx b (h3 b o e).1 (fun e2=>(h3 b o e).2 (.inl e2))),h2,fun b o e=>⟨by rw[hs];exact(h3 b o e).1,(h3 b o e).2⟩⟩
 ·intro m hm
  obtain⟨h1,h2⟩:=h.dat m hm;exact⟨h1.keep fun b o e=>hx b (h2 b o e).1 (fun e2=>(h2 b o e).2 (.inl e2)),fun b o e=>⟨by rw[hs];exact(h2 b o e).1,(h2 b o e).2⟩⟩
theorem zcp.store {w w':World}{B y wc:Nat}{s:RsP}{lv av av':Value}{wA:Option Addr}{L':List PtP}(h:zcp w B y s lv wA wc av) (hst:zgY w' y 9 B L' av') (fr:zng w w' y 9 av av'):
  zcp w' B y { s with L:=L' } lv wA wc av'∧zaO w w' (za2 y lv av) (za2 y lv av'):=by
 have hnew:∀ b,av'.ownBlock=some b→av.ownBlock=some b∨w.heap.size≤b:=fun b e=>by
  rcases fr.own b (.inr e)with (e2|e2)|e2
  ·subst e2;exact absurd e hst.ng
  ·exact .inl e2
  ·exact .inr e2
 have hno:∀ b,b<w.heap.size→¬za2 y lv av b→w'.heap[b]?=w.heap[b]?:=fun b h1 h2=>fr.block b h1 (fun e=>h2 (e.elim .inl (fun e=>.inr (.inr e))))
 have hno':∀ b,b<w.heap.size→¬za2 y lv av b→¬za2 y lv av' b:=fun b h1 h2 e=>by
  rcases e with e|e|e
  ·exact h2 (.inl e)
  ·exact h2 (.inr (.inl e))
  ·rcases hnew b e with e2|e2
   ·exact h2 (.inr (.inr e2))
   ·omega
 have hlv:∀ b,lv.ownBlock=some b→w'.heap[b]?=w.heap[b]?:=fun b e=>fr.block b (zao h.row e).2 (fun e2=>by
  rcases e2 with e2|e2
  ·subst e2;exact h.dxl e
  ·exact h.dla b e e2)
 have hc:∀ k,k≠9→w'.cell? ⟨y,k,none⟩=w.cell? ⟨y,k,none⟩:=fr.rest;refine⟨⟨(hc 0 zO).trans h.c0,(hc 1 zO).trans h.c1,(hc 2 zO).trans h.c2,(hc 3 zO).trans h.c3,(hc 4 zO).trans h.c4,(hc 5 zO).trans h.c5,(hc 6 zO).trans h.c6,(hc 7 zO).trans h.c7,(hc 8 zO).trans h.c8,fun k hk=>(hc _ zO).trans (h.oth k hk),
  fun k=>(fr.frzd k).trans (h.frz k),hst,?_,?_,h.bx,h.dxl,fun b e e2=>?_,fun m hm=>?_⟩,⟨fr.os,fr.tape,fr.output,fr.size,hno,fun b e=>?_⟩⟩
 ·obtain⟨hl,hn|⟨g,cap,cur,hv,hb,hg,rest⟩⟩:=h.row
  ·exact⟨hl,.inl hn⟩
  ·exact⟨hl,.inr ⟨g,cap,cur,hv,hb,by rw[hlv g (by rw[hv];rfl)];exact hg,rest⟩⟩
 ·obtain⟨h1,h2,h3⟩:=h.wat
  exact⟨h1.keep fr.size (fun b o e=>hno b (h3 b o e).1 (h3 b o e).2),h2,fun b o e=>⟨yab (h3 b o e).1 fr.size,hno' b (h3 b o e).1 (h3 b o e).2⟩⟩
 ·rcases hnew b e2 with e3|e3
  ·exact h.dla b e e3
  ·have:=(zao h.row e).2;omega
 ·obtain⟨h1,h2⟩:=h.dat m hm
  exact⟨h1.keep fun b o e=>hno b (h2 b o e).1 (h2 b o e).2,fun b o e=>⟨yab (h2 b o e).1 fr.size,hno' b (h2 b o e).1 (h2 b o e).2⟩⟩
 ·rcases e with e|e|e
  ·exact .inl (.inl e)
  ·exact .inl (.inr (.inl e))
  ·rcases hnew b e with e2|e2
   ·exact .inl (.inr (.inr e2))
   ·exact .inr e2
theorem zcp.logged {w w1:World}{B y wc:Nat}{s:RsP}{lv lv' av:Value}{wA:Option Addr}{m:MTx}(h:zcp w B y s lv wA wc av) (hg:w.grownBy w1 lv.ownBlock)
  (hown:w1.ownsRow B 44 9 lv' (s.log++[m]).length ((s.log++[m]).flatMap MTx.cells)) (hv:lv'.ownBlock=lv.ownBlock∨∀ b,lv'.ownBlock=some b→w.heap.size≤b)
  (hm:zaN w m.A m.t.ws∧∀ b o,m.A=some ⟨b,o,none⟩→b<w.heap.size∧¬za2 y lv av b):
  zcp (w1.setCell ⟨y,7,none⟩ lv') B y { s with log:=s.log++[m] } lv' wA wc av∧zaO w (w1.setCell ⟨y,7,none⟩ lv') (za2 y lv av) (za2 y lv' av):=by
 have hy:=h.sto.lt;have hgs:=zan w1 y 7 lv';have hsz:=hg.size;have hs:(w1.setCell ⟨y,7,none⟩ lv').heap.size=w1.heap.size:=by simp[World.setCell]
 have hyb:w1.heap[y]?=w.heap[y]?:=hg.block y hy (fun e=>h.dxl e.symm);have hc1:∀ k,w1.cell? ⟨y,k,none⟩=w.cell? ⟨y,k,none⟩:=fun k=>yam hyb
 have hf1:∀ k,w1.frozen? ⟨y,k,none⟩=w.frozen? ⟨y,k,none⟩:=fun k=>yal hyb
 have hf2:∀ k,(w1.setCell ⟨y,7,none⟩ lv').frozen? ⟨y,k,none⟩=w1.frozen? ⟨y,k,none⟩:=fun k=>yba ..
 have hc2:∀ k,k≠7→(w1.setCell ⟨y,7,none⟩ lv').cell? ⟨y,k,none⟩=w.cell? ⟨y,k,none⟩:=fun k hk=>by
  rw[ybr _ _ _ _ (by simp only[ne_eq,yaU,not_and];omega)];exact hc1 k
 have hlvy:lv'.ownBlock≠some y:=by
  rcases hv with e|e
  ·rw[e];exact h.dxl
  ·intro e2;have:=e y e2;omega
 have hnew:∀ b,lv'.ownBlock=some b→lv.ownBlock=some b∨w.heap.size≤b:=fun b e=>by
  rcases hv with e2|e2
  ·exact .inl (e2 ▸ e)
  ·exact .inr (e2 b e)
 have hno:∀ b,b<w.heap.size→¬za2 y lv av b→(w1.setCell ⟨y,7,none⟩ lv').heap[b]?=w.heap[b]?:=fun b h1 h2=>
  (hgs.block b zO (by simp;exact fun e=>h2 (.inl e))).trans (hg.block b h1 (fun e=>h2 (.inr (.inl e.symm))))
 have hno':∀ b,b<w.heap.size→¬za2 y lv av b→¬za2 y lv' av b:=fun b h1 h2 e=>by
  rcases e with e|e|e
  ·exact h2 (.inl e)
  ·rcases hnew b e with e2|e2
   ·exact h2 (.inr (.inl e2))
   ·omega
  ·exact h2 (.inr (.inr e))
 refine⟨⟨(hc2 0 zO).trans h.c0,(hc2 1 zO).trans h.c1,(hc2 2 zO).trans h.c2,(hc2 3 zO).trans h.c3,(hc2 4 zO).trans h.c4,(hc2 5 zO).trans h.c5,(hc2 6 zO).trans h.c6,ybv _ _ _ ((hc1 7).trans h.c7),(hc2 8 zO).trans h.c8,fun k hk=>(hc2 _ zO).trans (h.oth k hk),
  fun k=>(hf2 k).trans ((hf1 k).trans (h.frz k)),?_,hown.kept hgs (.inr hlvy),?_,h.bx,hlvy,fun b e e2=>?_,fun m' hm'=>?_⟩,⟨hg.os,hg.tape,hg.output,by rw[hs];exact hsz,hno,fun b e=>?_⟩⟩
 ·refine⟨by rw[hs];omega,(hc2 9 zO).trans h.sto.cel,(hf2 9).trans ((hf1 9).trans h.sto.frz),?_,h.sto.ng⟩
  obtain⟨hl,hn|⟨g,cap,cur,hv2,hb,hg2,rest⟩⟩:=h.sto.own
  ·exact⟨hl,.inl hn⟩
  ·refine⟨hl,.inr ⟨g,cap,cur,hv2,hb,?_,rest⟩⟩
   have e1:av.ownBlock=some g:=by rw[hv2];rfl
   rw[hgs.block g (by have:=zae hg2;omega) (by simp;rintro rfl;exact h.sto.ng e1),hg.block g (zae hg2) (fun e=>h.dla g e.symm e1)];exact hg2
 ·obtain⟨h1,h2,h3⟩:=h.wat
  exact⟨h1.keep (by rw[hs];exact hsz) (fun b o e=>hno b (h3 b o e).1 (h3 b o e).2),h2,fun b o e=>⟨by rw[hs];have:=(h3 b o e).1;omega,hno' b (h3 b o e).1 (h3 b o e).2⟩⟩
 ·rcases hnew b e with e3|e3
  ·exact h.dla b e3 e2
  ·have:=(zao h.sto.own e2).2;omega
 ·have hm2:zaN w m'.A m'.t.ws∧∀ b o,m'.A=some ⟨b,o,none⟩→b<w.heap.size∧¬za2 y lv av b:=by
   rcases hm' with h1|h1
   ·rcases yax.1 h1 with h2|h2
    ·exact h.dat m' (.inl h2)
    ·obtain rfl:m'=m:=by simpa using h2
     exact hm
   ·exact h.dat m' (.inr h1)
  obtain⟨h1,h2⟩:=hm2;exact⟨h1.keep fun b o e=>hno b (h2 b o e).1 (h2 b o e).2,fun b o e=>⟨by rw[hs];have:=(h2 b o e).1;omega,hno' b (h2 b o e).1 (h2 b o e).2⟩⟩
 ·rcases e with e|e|e
  ·exact .inl (.inl e)
  ·rcases hnew b e with e2|e2
   ·exact .inl (.inr (.inl e2))
   ·exact .inr e2
  ·exact .inl (.inr (.inr e))
theorem zcp.waits {w:World}{B y wc wc':Nat}{s:RsP}{lv av:Value}{wA wA':Option Addr}{ws':List MTx}(h:zcp w B y s lv wA wc av) (hx:zd9 w wA' ws') (hc:ws'.length≤wc') (hb:∀ b o,wA'=some ⟨b,o,none⟩→b<w.heap.size∧¬za2 y lv av b)
  (hd:∀ m∈ws',zaN w m.A m.t.ws∧∀ b o,m.A=some ⟨b,o,none⟩→b<w.heap.size∧¬za2 y lv av b):
  zcp (w.setCell ⟨y,8,none⟩ (.slice wA' ws'.length wc')) B y { s with ws:=ws' } lv wA' wc' av:=by
 have hgs:=zan w y 8 (.slice wA' ws'.length wc');have hx':∀ b,b<w.heap.size→b≠y→(w.setCell ⟨y,8,none⟩ (.slice wA' ws'.length wc')).heap[b]?=w.heap[b]?:=fun b hb hne=>hgs.block b hb (by simp;exact hne)
 have hf:∀ k,(w.setCell ⟨y,8,none⟩ (.slice wA' ws'.length wc')).frozen? ⟨y,k,none⟩=w.frozen? ⟨y,k,none⟩:=fun k=>yba ..
 have hs:(w.setCell ⟨y,8,none⟩ (.slice wA' ws'.length wc')).heap.size=w.heap.size:=by simp[World.setCell]
 have t:∀ {j:Nat}{u:Value},j≠8→w.cell? ⟨y,j,none⟩=some u→(w.setCell ⟨y,8,none⟩ (.slice wA' ws'.length wc')).cell? ⟨y,j,none⟩=some u:=fun {j u} hj hu=>by
  rw[ybr _ _ _ _ (by simp only[ne_eq,yaU,not_and];omega)];exact hu
 refine⟨t zO h.c0,t zO h.c1,t zO h.c2,t zO h.c3,t zO h.c4,t zO h.c5,t zO h.c6,t zO h.c7,ybv _ _ _ h.c8,fun k hk=>t zO (h.oth k hk),fun k=>(hf k).trans (h.frz k),?_,h.row.kept hgs (.inr h.dxl),?_,h.bx,h.dxl,h.dla,fun m hm=>?_⟩
 ·exact⟨by rw[hs];exact h.sto.lt,t zO h.sto.cel,(hf _).trans h.sto.frz,h.sto.own.kept hgs (.inr h.sto.ng),h.sto.ng⟩
 ·exact⟨hx.keep (by rw[hs];exact yai _) (fun b o e=>hx' b (hb b o e).1 (fun e2=>(hb b o e).2 (.inl e2))),hc,fun b o e=>⟨by rw[hs];exact(hb b o e).1,(hb b o e).2⟩⟩
 ·have h12:zaN w m.A m.t.ws∧∀ b o,m.A=some ⟨b,o,none⟩→b<w.heap.size∧¬za2 y lv av b:=by
   rcases hm with hm|hm
   ·exact h.dat m (.inl hm)
   ·exact hd m hm
  obtain⟨h1,h2⟩:=h12;exact⟨h1.keep fun b o e=>hx' b (h2 b o e).1 (fun e2=>(h2 b o e).2 (.inl e2)),fun b o e=>⟨by rw[hs];exact(h2 b o e).1,(h2 b o e).2⟩⟩
end Go.Proofs.YtbopfhbeegkkaabGreatDoor
