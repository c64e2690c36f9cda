/- Part 23 of a proof: lemmas and contracts that other parts use. -/
import Derived.Test.YtbopfhbeegkkaabGreatDoorCa22
set_option linter.unusedVariables false
set_option linter.unusedSimpArgs false
namespace Go.Proofs.YtbopfhbeegkkaabGreatDoor
theorem covD_iff (a0 a1 a2 a3 b0 b1 b2 b3:Int):covD a0 a1 a2 a3 b0 b1 b2 b3=true↔∀ j,atV b0 b1 b2 b3 j≤atV a0 a1 a2 a3 j:=by
 unfold covD
 simp only [Bool.and_eq_true,decide_eq_true_eq]
 constructor
 ·rintro ⟨⟨⟨h0,h1⟩,h2⟩,h3⟩ j
  unfold atV
  repeat' split
  all_goals assumption
 ·intro h
  exact ⟨⟨⟨h 0,h 1⟩,h 2⟩,h 3⟩
def TxP.dep (t:TxP) (j:Int):Int:=atV t.d0 t.d1 t.d2 t.d3 j
theorem RSi.cov_iff (a:RSi) (t:TxP):a.cov t=true↔∀ j,t.dep j≤a.at j:=covD_iff ..
theorem rReady_iff (a:RSi) (t:TxP):rReady a t=true↔t.seq=a.at t.site+1∧∀ j,t.dep j≤a.at j:=by
 unfold rReady
 rw [Bool.and_eq_true,decide_eq_true_eq,RSi.cov_iff]
theorem rightTx_dep {t:TxP} (h:rightTx t=true):t.dep t.site=t.seq-1:=by
 unfold rightTx headTx at h
 simp only [Bool.and_eq_true,decide_eq_true_eq] at h
 exact h.1.2
theorem atV_ne {a0 a1 a2 a3:Int} {i:Int} (hi:0≤i∧i<4) (z j:Int):atV (if i=0 then z else a0) (if i=1 then z else a1) (if i=2 then z else a2) (if i=3 then z else a3) j=if (j=i∨(i=3∧¬(j=0∨j=1∨j=2))) then z else atV a0 a1 a2 a3 j:=by
 unfold atV
 have hc:i=0∨i=1∨i=2∨i=3:=by omega
 rcases hc with rfl | rfl | rfl | rfl <;> (repeat' split) <;> first | rfl | omega | (simp_all;done) | (simp_all;omega)
theorem rApply_at (a:RSi) {t:TxP} (ht:0≤t.site∧t.site<4) (j:Int):(rApply a t).at j=if (j=t.site∨(t.site=3∧¬(j=0∨j=1∨j=2))) then t.seq else a.at j:=by
 unfold RSi.at rApply
 exact atV_ne ht t.seq j
theorem rApply_at4 (a:RSi) {t:TxP} (ht:0≤t.site∧t.site<4) {j:Int} (hj:0≤j∧j<4):(rApply a t).at j=if j=t.site then t.seq else a.at j:=by
 rw [rApply_at a ht]
 have h:(j=t.site∨(t.site=3∧¬(j=0∨j=1∨j=2)))↔j=t.site:=by omega
 simp only [h]
def ltT (w c:Int) (t:TxP):Prop:=w<t.wall∨(w=t.wall∧c<t.count)
theorem ltT_cmp (w c:Int) (t:TxP):0<cmpS t.wall t.count w c↔ltT w c t:=by
 unfold cmpS orI cmpI ltT
 repeat' split
 all_goals omega
def txV (t:TxP):List PtP:=t.ws.map fun w=>⟨w.key,verOf t w⟩
def allV (l:List TxP):List PtP:=l.flatMap txV
theorem allV_app (l m:List TxP):allV (l++m)=allV l++allV m:=by unfold allV;rw [List.flatMap_append]
theorem allV_one (t:TxP):allV [t]=txV t:=by simp [allV]
theorem allV_mem {l:List TxP} {p:PtP}:p∈allV l↔∃ t∈l,p∈txV t:=by unfold allV;rw [List.mem_flatMap]
theorem txV_mem {t:TxP} {p:PtP} (h:p∈txV t):∃ w∈t.ws,p=⟨w.key,verOf t w⟩:=by
 unfold txV at h
 obtain ⟨w,hw,rfl⟩:=List.mem_map.1 h
 exact ⟨w,hw,rfl⟩
theorem txV_v {t:TxP} {p:PtP} (h:p∈txV t):p.v.w=t.wall∧p.v.c=t.count∧p.v.site=t.site∧p.v.seq=t.seq:=by
 obtain ⟨w,_,rfl⟩:=txV_mem h
 exact ⟨rfl,rfl,rfl,rfl⟩
theorem rwGo_pair:∀ (ws:List WrP) (last:Int),-1≤last→rwGo last ws=true→(∀ w∈ws,last<w.key)∧ws.Pairwise fun a b=>a.key<b.key
 | [],_,_,_=>⟨fun w h=>(by cases h),List.Pairwise.nil⟩
 | w::ws,last,hl,h=>by
   unfold rwGo at h
   split at h
   ·cases h
   ·rename_i hb
    obtain ⟨b1,b2,b3⟩:=badW_no hb
    obtain ⟨h1,h2⟩:=rwGo_pair ws w.key (by omega) h
    refine ⟨fun x hx=>?_,List.pairwise_cons.2 ⟨h1,h2⟩⟩
    rcases List.mem_cons.1 hx with rfl | hx
    ·exact b1
    ·have:=h1 x hx;omega
theorem rightWs_go {ws:List WrP} (h:rightWs ws=true):rwGo (-1) ws=true:=by
 unfold rightWs at h
 simp only [Bool.and_eq_true] at h
 exact h.1.1
theorem rightTx_ws {t:TxP} (h:rightTx t=true):rightWs t.ws=true:=by
 unfold rightTx at h
 simp only [Bool.and_eq_true] at h
 exact h.2
theorem txV_uniq {t:TxP} (hr:rightTx t=true) {p q:PtP} (hp:p∈txV t) (hq:q∈txV t) (hk:p.key=q.key):p=q:=by
 obtain ⟨w,hw,rfl⟩:=txV_mem hp
 obtain ⟨u,hu,rfl⟩:=txV_mem hq
 have hpw:=(rwGo_pair t.ws (-1) (by omega) (rightWs_go (rightTx_ws hr))).2
 have:w=u:=by
  obtain ⟨i,hi,rfl⟩:=List.getElem_of_mem hw
  obtain ⟨j,hj,rfl⟩:=List.getElem_of_mem hu
  have hk':t.ws[i].key=t.ws[j].key:=hk
  rcases Nat.lt_trichotomy i j with h | h | h
  ·have:=List.pairwise_iff_getElem.1 hpw i j hi hj h;omega
  ·subst h;rfl
  ·have:=List.pairwise_iff_getElem.1 hpw j i hj hi h;omega
 rw [this]
theorem badW_gone {last:Int} {w:WrP} (h:badW last w≠true):w.gone=true→w.data.size=0:=by
 intro hg
 by_cases hd:w.data.size=0
 ·exact hd
 ·exact absurd (show badW last w=true by unfold badW;simp [hg,hd]) h
theorem rwGo_gone:∀ (ws:List WrP) (last:Int),rwGo last ws=true→∀ w∈ws,w.gone=true→w.data.size=0
 | [],_,_,w,h=>(by cases h)
 | w::ws,last,h,x,hx=>by
   unfold rwGo at h
   split at h
   ·cases h
   ·rename_i hb
    rcases List.mem_cons.1 hx with rfl | hx
    ·exact badW_gone hb
    ·exact rwGo_gone ws w.key h x hx
theorem rightV_of {t:TxP} (h:rightTx t=true) {p:PtP} (hp:p∈txV t):rightV p.v=true∧0≤p.key∧p.key<8:=by
 obtain ⟨w,hw,rfl⟩:=txV_mem hp
 have h1:=rightTx_parts h
 have h2:=rwGo_all t.ws (-1) (by omega) (rightWs_go (rightTx_ws h)) w hw
 have h3:=rwGo_gone t.ws (-1) (rightWs_go (rightTx_ws h)) w hw
 have h4:okN t.wall=true∧okN t.count=true:=by
  unfold rightTx headTx at h
  simp only [Bool.and_eq_true] at h
  exact ⟨h.1.1.1.1.2,h.1.1.1.2⟩
 unfold okN at h4
 simp only [decide_eq_true_eq] at h4
 refine ⟨?_,h2.1⟩
 unfold rightV rightS verOf
 simp only [Bool.and_eq_true,decide_eq_true_eq,Bool.or_eq_true,Bool.not_eq_true']
 refine ⟨⟨⟨⟨⟨⟨⟨⟨⟨by omega,by omega⟩,by omega⟩,by omega⟩,by omega⟩,by omega⟩,by omega⟩,by omega⟩,by omega⟩,?_⟩
 cases hg:w.gone with
 | false=>exact .inl rfl
 | true=>exact .inr (h3 hg)
theorem rPuts_all {L:List PtP} {t:TxP} (hr:rightTx t=true) (hn:∀ p∈L,∀ q∈txV t,p.key=q.key→¬sameV p.v q.v):∀ j,j≤t.ws.length→rPuts L t j=L++(txV t).take j
 | 0,_=>by simp [rPuts]
 | j+1,hj=>by
   have ih:=rPuts_all hr hn j (by omega)
   have hjl:j<t.ws.length:=by omega
   have hg:t.ws.getD j default=t.ws[j]:=by simp [List.getD,List.getElem?_eq_getElem hjl]
   have hm:(txV t)[j]?=some ⟨t.ws[j].key,verOf t t.ws[j]⟩:=by
    unfold txV;rw [List.getElem?_map,List.getElem?_eq_getElem hjl];rfl
   have hmem:(⟨t.ws[j].key,verOf t t.ws[j]⟩:PtP)∈txV t:=List.mem_of_getElem? hm
   obtain ⟨r1,r2⟩:=rightV_of hr hmem
   have htw:rTwice (L++(txV t).take j) t.ws[j].key (verOf t t.ws[j])=false:=by
    unfold rTwice
    rw [Bool.eq_false_iff]
    intro h
    obtain ⟨p,hp,hs⟩:=List.any_eq_true.1 h
    obtain ⟨hk,hv⟩:=(sameB_iff _ _).1 hs
    rcases List.mem_append.1 hp with hp | hp
    ·exact hn p hp _ hmem hk hv
    ·obtain ⟨i,hi,he⟩:=List.getElem_of_mem hp
     rw [List.getElem_take] at he
     have hij:i<j:=by simp at hi;omega
     have hil:i<(txV t).length:=by simp at hi;omega
     have hpw:=(rwGo_pair t.ws (-1) (by omega) (rightWs_go (rightTx_ws hr))).2
     have e2:p.key=t.ws[i].key:=by rw [←he];unfold txV;simp
     have:=List.pairwise_iff_getElem.1 hpw i j (by omega) hjl hij
     simp only at hk
     omega
   show (rPut (rPuts L t j) (t.ws.getD j default).key (verOf t (t.ws.getD j default))).2=_
   rw [ih,hg]
   unfold rPut
   rw [if_neg (by simp only at r2;omega),if_neg (by rw [r1];simp),if_neg (by rw [htw];simp),List.take_add_one,hm]
   simp
theorem rPuts_full {L:List PtP} {t:TxP} (hr:rightTx t=true) (hn:∀ p∈L,∀ q∈txV t,p.key=q.key→¬sameV p.v q.v):rPuts L t t.ws.length=L++txV t:=by
 rw [rPuts_all hr hn _ (Nat.le_refl _)]
 have:(txV t).length=t.ws.length:=by unfold txV;simp
 rw [←this,List.take_length]
structure TInv (T:List TxP):Prop where
 rt:∀ t∈T,rightTx t=true
 uq:∀ t∈T,∀ u∈T,t.site=u.site→t.seq=u.seq→t=u
 st:∀ t∈T,∀ u∈T,t.site=u.site→t.seq<u.seq→ltT t.wall t.count u
theorem TInv.same {T:List TxP} (h:TInv T) {t u:TxP} (ht:t∈T) (hu:u∈T) (h1:t.site=u.site) (h2:t.wall=u.wall) (h3:t.count=u.count):t=u:=by
 rcases Int.lt_trichotomy t.seq u.seq with e | e | e
 ·have:=h.st t ht u hu h1 e;unfold ltT at this;omega
 ·exact h.uq t ht u hu h1 e
 ·have:=h.st u hu t ht h1.symm e;unfold ltT at this;omega
theorem TInv.uv {T:List TxP} (h:TInv T) {p q:PtP} (hp:p∈allV T) (hq:q∈allV T) (hk:p.key=q.key) (hs:sameV p.v q.v):p=q:=by
 obtain ⟨t,ht,hpt⟩:=allV_mem.1 hp
 obtain ⟨u,hu,hqu⟩:=allV_mem.1 hq
 have a:=txV_v hpt
 have b:=txV_v hqu
 obtain ⟨s1,s2,s3⟩:=hs
 obtain rfl:t=u:=h.same ht hu (by rw [←a.2.2.1,←b.2.2.1,s3]) (by rw [←a.1,←b.1,s1]) (by rw [←a.2.1,←b.2.1,s2])
 exact txV_uniq (h.rt t ht) hpt hqu hk
structure SInv (T:List TxP) (k:Nat) (a:RSi) (b:Int→Int):Prop where
 id:a.id=(k:Int)
 k4:k<4
 sub:∀ t∈a.log,t∈T
 mem:∀ t∈T,t.seq≤a.at t.site→t∈a.log
 inn:∀ t∈a.log,t.seq≤a.at t.site
 nd:a.log.Nodup
 cov:∀ t∈a.log,∀ j,t.dep j≤a.at j
 clo:∀ l1 t l2,a.log=l1++t::l2→∀ u∈T,u.seq≤t.dep u.site→u∈l1
 wsub:∀ t∈a.ws,t∈T
 wgt:∀ t∈a.ws,a.at t.site<t.seq
 wnd:a.ws.Nodup
 last:∀ t∈a.log,¬ltT a.lw a.lc t
 lastR:rightS a.lw a.lc=true
 top:∀ j,0≤a.at j∧a.at j≤a.log.length
 hsl:a.held.Sublist (allV a.log)
 hdom:∀ p∈allV a.log,p∈a.held∨∃ q∈a.held,q.key=p.key∧ltV p.v q.v∧q.v.seq≤b q.v.site
 bap:∀ j,b j≤a.at j
theorem SInv.hsub {T:List TxP} {k:Nat} {a:RSi} {b:Int→Int} (h:SInv T k a b):∀ p∈a.held,p∈allV a.log:=fun _ hp=>h.hsl.subset hp
def NoRdy (a:RSi):Prop:=∀ t∈a.ws,rReady a t=false
theorem rApply_log (a:RSi) (t:TxP):(rApply a t).log=a.log++[t]:=rfl
theorem rApply_held (a:RSi) (t:TxP):(rApply a t).held=rPuts a.held t t.ws.length:=rfl
theorem rApply_ws (a:RSi) (t:TxP):(rApply a t).ws=a.ws:=rfl
theorem rightS_of {t:TxP} (h:rightTx t=true):rightS t.wall t.count=true:=by
 unfold rightTx headTx okN at h
 simp only [Bool.and_eq_true,decide_eq_true_eq] at h
 unfold rightS
 simp only [Bool.and_eq_true,decide_eq_true_eq]
 omega
theorem SInv.apply {T T':List TxP} {k:Nat} {a:RSi} {b:Int→Int} (h:SInv T k a b) (hT:TInv T') (hsub:∀ t∈T,t∈T') {t:TxP} (ht:t∈T') (hq:t.seq=a.at t.site+1) (hc:∀ j,t.dep j≤a.at j)
  (hnew:∀ u∈T',u∈T∨u=t) (hws:∀ u∈a.ws,u.site=t.site→u.seq≠t.seq):SInv T' k (rApply a t) b:=by
 have hr:=hT.rt t ht
 obtain ⟨hs,hq1,_⟩:=rightTx_parts hr
 have hat:∀ j,a.at j≤(rApply a t).at j:=fun j=>by
  rw [rApply_at a hs]
  split
  ·rename_i hj
   rcases hj with rfl | ⟨e,hj⟩
   ·omega
   ·have:a.at j=a.at t.site:=by rw [e];unfold RSi.at atV;rw [if_neg (by omega),if_neg (by omega),if_neg (by omega),if_neg (by omega),if_neg (by omega),if_neg (by omega)]
    omega
  ·exact Int.le_refl _
 have hat4:∀ u:TxP,u∈T'→(rApply a t).at u.site=if u.site=t.site then t.seq else a.at u.site:=fun u hu=>rApply_at4 a hs (rightTx_parts (hT.rt u hu)).1
 have htn:t ∉ a.log:=fun e=>by have:=h.inn t e;omega
 have hnv:∀ p∈allV a.log,∀ q∈txV t,p.key=q.key→¬sameV p.v q.v:=fun p hp q hqv _ hsm=>by
  obtain ⟨u,hu,hpu⟩:=allV_mem.1 hp
  have e1:=txV_v hpu
  have e2:=txV_v hqv
  obtain ⟨s1,s2,s3⟩:=hsm
  have:u=t:=hT.same (hsub u (h.sub u hu)) ht (by rw [←e1.2.2.1,←e2.2.2.1,s3]) (by rw [←e1.1,←e2.1,s1]) (by rw [←e1.2.1,←e2.2.1,s2])
  exact htn (this ▸ hu)
 have hheld:(rApply a t).held=a.held++txV t:=by
  rw [rApply_held]
  exact rPuts_full hr fun p hp q hqv hk=>hnv p (h.hsub p hp) q hqv hk
 refine ⟨h.id,h.k4,?_,?_,?_,?_,?_,?_,fun u hu=>hsub u (h.wsub u hu),?_,h.wnd,?_,?_,?_,?_,?_,fun j=>Int.le_trans (h.bap j) (hat j)⟩
 ·intro u hu
  rw [rApply_log] at hu
  rcases List.mem_append.1 hu with e | e
  ·exact hsub u (h.sub u e)
  ·obtain rfl:u=t:=by simpa using e
   exact ht
 ·intro u hu hle
  rw [rApply_log]
  rw [hat4 u hu] at hle
  by_cases e:u=t
  ·subst e;simp
  ·refine List.mem_append.2 (.inl ?_)
   have hu2:u∈T:=(hnew u hu).resolve_right e
   split at hle
   ·rename_i hss
    refine h.mem u hu2 ?_
    by_cases e2:u.seq=t.seq
    ·exact absurd (hT.uq u hu t ht hss e2) e
    ·rw [hss];omega
   ·exact h.mem u hu2 hle
 ·intro u hu
  rw [rApply_log] at hu
  rcases List.mem_append.1 hu with e | e
  ·exact Int.le_trans (h.inn u e) (hat _)
  ·obtain rfl:u=t:=by simpa using e
   rw [hat4 u ht,if_pos rfl];exact Int.le_refl _
 ·rw [rApply_log]
  exact List.nodup_append.2 ⟨h.nd,by simp,fun x hx y hy=>by
   obtain rfl:y=t:=by simpa using hy
   exact fun e=>htn (e ▸ hx)⟩
 ·intro u hu j
  rw [rApply_log] at hu
  rcases List.mem_append.1 hu with e | e
  ·exact Int.le_trans (h.cov u e j) (hat j)
  ·obtain rfl:u=t:=by simpa using e
   exact Int.le_trans (hc j) (hat j)
 ·intro l1 u l2 hl v hv hle
  rw [rApply_log] at hl
  rcases List.append_eq_append_iff.1 hl with ⟨m,e1,e2⟩ | ⟨m,e1,e2⟩
  ·
   cases m with
   | nil=>
     simp only [List.nil_append,List.cons.injEq] at e2
     obtain ⟨rfl,_⟩:=e2
     simp only [List.append_nil] at e1
     rw [e1]
     have hvt:v≠t:=fun e=>by
      subst e
      have:=hc v.site
      omega
     exact h.mem v ((hnew v hv).resolve_right hvt) (Int.le_trans hle (hc _))
   | cons x m=>
     simp at e2
  ·cases m with
   | nil=>
     simp only [List.nil_append,List.cons.injEq] at e2
     obtain ⟨rfl,_⟩:=e2
     simp only [List.append_nil] at e1
     rw [←e1]
     have hvt:v≠u:=fun e=>by
      subst e
      have:=hc v.site
      omega
     exact h.mem v ((hnew v hv).resolve_right hvt) (Int.le_trans hle (hc _))
   | cons x m=>
     simp only [List.cons_append,List.cons.injEq] at e2
     obtain ⟨rfl,e2⟩:=e2
     have hu:u∈a.log:=by rw [e1];simp
     have hvt:v≠t:=fun e=>by
      subst e
      have:=h.cov u hu v.site
      omega
     exact h.clo l1 u m e1 v ((hnew v hv).resolve_right hvt) hle
 ·intro u hu
  have hgt:=h.wgt u hu
  rw [hat4 u (hsub u (h.wsub u hu))]
  split
  ·rename_i hss
   have:=hws u hu hss
   rw [hss] at hgt;omega
  ·exact hgt
 ·intro u hu
  rw [rApply_log] at hu
  have hl:((rApply a t).lw=t.wall∧(rApply a t).lc=t.count∧ltT a.lw a.lc t)∨((rApply a t).lw=a.lw∧(rApply a t).lc=a.lc∧¬ltT a.lw a.lc t):=by
   unfold rApply
   by_cases hp:0<cmpS t.wall t.count a.lw a.lc
   ·simp only [hp,if_true]
    exact .inl ⟨trivial,trivial,(ltT_cmp _ _ _).1 hp⟩
   ·simp only [hp,if_false]
    exact .inr ⟨trivial,trivial,fun e=>hp ((ltT_cmp _ _ _).2 e)⟩
  rcases hl with ⟨l1,l2,l3⟩ | ⟨l1,l2,l3⟩
  ·rw [l1,l2]
   rcases List.mem_append.1 hu with e | e
   ·have:=h.last u e
    unfold ltT at *;omega
   ·obtain rfl:u=t:=by simpa using e
    unfold ltT;omega
  ·rw [l1,l2]
   rcases List.mem_append.1 hu with e | e
   ·exact h.last u e
   ·obtain rfl:u=t:=by simpa using e
    exact l3
 ·unfold rApply
  simp only
  split
  ·exact rightS_of hr
  ·exact h.lastR
 ·intro j
  have h1:=h.top j
  have h2:=h.top t.site
  rw [rApply_at a hs,rApply_log]
  simp only [List.length_append,List.length_cons,List.length_nil]
  split <;> omega
 ·rw [hheld,rApply_log,allV_app,allV_one]
  exact h.hsl.append (List.Sublist.refl _)
 ·intro p hp
  rw [rApply_log,allV_app,allV_one] at hp
  rw [hheld]
  rcases List.mem_append.1 hp with e | e
  ·rcases h.hdom p e with h1 | ⟨q,h1,h2⟩
   ·exact .inl (List.mem_append.2 (.inl h1))
   ·exact .inr ⟨q,List.mem_append.2 (.inl h1),h2⟩
  ·exact .inl (List.mem_append.2 (.inr e))
theorem nodup_len {α:Type} {l m:List α} (hn:l.Nodup) (hs:∀ x∈l,x∈m):l.length≤m.length:=by
 induction l generalizing m with
 | nil=>simp
 | cons x l ih=>
   obtain ⟨h1,h2⟩:=List.nodup_cons.1 hn
   have hx:=hs x (List.mem_cons_self ..)
   obtain ⟨m1,m2,rfl⟩:=List.append_of_mem hx
   have:=ih (m:=m1++m2) h2 (fun y hy=>by
    have h3:=hs y (List.mem_cons_of_mem _ hy)
    rcases List.mem_append.1 h3 with e | e
    ·exact List.mem_append.2 (.inl e)
    ·rcases List.mem_cons.1 e with e | e
     ·subst e;exact absurd hy h1
     ·exact List.mem_append.2 (.inr e))
   simp at this ⊢
   omega
theorem SInv.len {T:List TxP} {k:Nat} {a:RSi} {b:Int→Int} (h:SInv T k a b):a.log.length≤T.length:=nodup_len h.nd h.sub
theorem rBest_spec (a:RSi):(rBest a=-1∧NoRdy a)∨∃ (j:Nat) (t:TxP),rBest a=(j:Int)∧a.ws[j]?=some t∧rReady a t=true:=by
 rcases rbGo_spec a a.ws 0 (-1) (by simp) (.inl rfl) (fun k t hk=>by omega) with ⟨h1,h2⟩ | ⟨j,t,h1,h2,h3,_⟩
 ·exact .inl ⟨h1,h2⟩
 ·exact .inr ⟨j,t,h1,h2,h3⟩
theorem mem_drop1 {l:List TxP} {j:Nat} {t:TxP} (hj:l[j]?=some t) (hn:l.Nodup) (x:TxP):x∈l.take j++l.drop (j+1)↔x∈l∧x≠t:=by
 obtain ⟨hlt,he⟩:=List.getElem?_eq_some_iff.1 hj
 have hL:l=l.take j++t::l.drop (j+1):=by rw [←he,List.getElem_cons_drop,List.take_append_drop]
 have hn2:=hn
 rw [hL,List.nodup_append] at hn2
 obtain ⟨n1,n2,n3⟩:=hn2
 obtain ⟨n4,_⟩:=List.nodup_cons.1 n2
 constructor
 ·intro hx
  rcases List.mem_append.1 hx with e | e
  ·exact ⟨List.mem_of_mem_take e,n3 x e t (List.mem_cons_self ..)⟩
  ·exact ⟨List.mem_of_mem_drop e,fun h=>n4 (h ▸ e)⟩
 ·rintro ⟨hx,hne⟩
  rw [hL] at hx
  rcases List.mem_append.1 hx with e | e
  ·exact List.mem_append.2 (.inl e)
  ·rcases List.mem_cons.1 e with e | e
   ·exact absurd e hne
   ·exact List.mem_append.2 (.inr e)
theorem nodup_drop1 {l:List TxP} (hn:l.Nodup) (j:Nat):(l.take j++l.drop (j+1)).Nodup:=by
 have h:(l.take j++l.drop (j+1)).Sublist l:=by
  conv=>rhs;rw [←List.take_append_drop j l]
  refine List.Sublist.append (List.Sublist.refl _) ?_
  rw [show l.drop (j+1)=(l.drop j).drop 1 by rw [List.drop_drop]]
  exact List.drop_sublist _ _
 exact h.nodup hn
theorem SInv.drop {T:List TxP} {k:Nat} {a:RSi} {b:Int→Int} (h:SInv T k a b) (j:Nat):SInv T k (rDrop a j) b:=by
 have hm:∀ t∈(rDrop a j).ws,t∈a.ws:=fun t ht=>by
  rcases List.mem_append.1 ht with e | e
  ·exact List.mem_of_mem_take e
  ·exact List.mem_of_mem_drop e
 exact ⟨h.id,h.k4,h.sub,h.mem,h.inn,h.nd,h.cov,h.clo,fun t ht=>h.wsub t (hm t ht),fun t ht=>h.wgt t (hm t ht),nodup_drop1 h.wnd j,h.last,h.lastR,h.top,h.hsl,h.hdom,h.bap⟩
theorem rApply_up {a:RSi} {t:TxP} (hs:0≤t.site∧t.site<4) (hq:t.seq=a.at t.site+1) (j:Int):a.at j≤(rApply a t).at j:=by
 rw [rApply_at a hs]
 split
 ·rename_i hj
  rcases hj with rfl | ⟨e,hj⟩
  ·omega
  ·have:a.at j=a.at t.site:=by rw [e];unfold RSi.at atV;rw [if_neg (by omega),if_neg (by omega),if_neg (by omega),if_neg (by omega),if_neg (by omega),if_neg (by omega)]
   omega
 ·exact Int.le_refl _
theorem SInv.run {T:List TxP} {k:Nat} {b:Int→Int} (hT:TInv T) (hl:T.length<200):∀ (f:Nat) {a:RSi},SInv T k a b→a.ws.length≤f→
  SInv T k (rRun f a) b∧NoRdy (rRun f a)∧(∀ j,a.at j≤(rRun f a).at j)∧(∀ t∈a.ws,t∈(rRun f a).ws∨t∈(rRun f a).log)∧(∀ t∈(rRun f a).ws,t∈a.ws)∧(rRun f a).ot=a.ot∧∀ j,0≤j∧j<4→(rRun f a).at j=a.at j∨∃ t∈T,t.site=j∧(rRun f a).at j=t.seq
 | 0,a,h,hf=>by
   have h0:a.ws=[]:=List.eq_nil_of_length_eq_zero (by omega)
   exact ⟨h,fun t ht=>(by rw [show (rRun 0 a).ws=[] from h0] at ht;cases ht),fun _=>Int.le_refl _,fun t ht=>.inl ht,fun t ht=>ht,rfl,fun j _=>.inl rfl⟩
 | f+1,a,h,hf=>by
   have hlen:=h.len
   unfold rRun
   rcases rBest_spec a with ⟨h1,h2⟩ | ⟨j,t,h1,h2,h3⟩
   ·rw [if_pos (.inr (by rw [h1];decide))]
    exact ⟨h,h2,fun _=>Int.le_refl _,fun t ht=>.inl ht,fun t ht=>ht,rfl,fun j _=>.inl rfl⟩
   ·rw [h1,if_neg (by omega)]
    have hg:a.ws.getD ((j:Int)).toNat ⟨0,0,0,0,0,0,0,0,[]⟩=t:=by
     rw [show ((j:Int)).toNat=j by omega,List.getD,h2];rfl
    rw [hg,show ((j:Int)).toNat=j by omega]
    obtain ⟨q1,q2⟩:=(rReady_iff a t).1 h3
    have htw:t∈a.ws:=List.mem_of_getElem? h2
    have htT:=h.wsub t htw
    have hs:=(rightTx_parts (hT.rt t htT)).1
    have hap:SInv T k (rApply (rDrop a j) t) b:=by
     refine (h.drop j).apply hT (fun u hu=>hu) htT q1 q2 (fun u hu=>.inl hu) fun u hu hss e=>?_
     obtain ⟨g1,g2⟩:=(mem_drop1 h2 h.wnd u).1 hu
     exact g2 (hT.uq u (h.wsub u g1) t htT hss e)
    have hjl:j<a.ws.length:=(List.getElem?_eq_some_iff.1 h2).1
    have hwl:(rApply (rDrop a j) t).ws.length≤f:=by
     rw [rApply_ws]
     show (a.ws.take j++a.ws.drop (j+1)).length≤f
     simp;omega
    obtain ⟨i1,i2,i3,i4,i5,i6,i7⟩:=SInv.run hT hl f hap hwl
    refine ⟨i1,i2,fun i=>Int.le_trans (rApply_up (a:=rDrop a j) hs q1 i) (i3 i),fun u hu=>?_,fun u hu=>?_,i6,fun i hi=>?_⟩
    ·by_cases e:u=t
     ·subst e
      refine .inr (i1.mem u htT (Int.le_trans ?_ (i3 _)))
      rw [rApply_at4 _ hs hs,if_pos rfl];exact Int.le_refl _
     ·exact i4 u ((mem_drop1 h2 h.wnd u).2 ⟨hu,e⟩)
    ·exact ((mem_drop1 h2 h.wnd u).1 (i5 u hu)).1
    ·rcases i7 i hi with e | e
     ·rw [e,rApply_at4 _ hs hi]
      by_cases e2:i=t.site
      ·rw [if_pos e2];exact .inr ⟨t,htT,e2.symm,rfl⟩
      ·rw [if_neg e2];exact .inl rfl
     ·exact .inr e
theorem SInv.take {T:List TxP} {k:Nat} {a:RSi} {b:Int→Int} (h:SInv T k a b) (hn:NoRdy a) (hT:TInv T) (hl:T.length<200) {t:TxP} (ht:t∈T):
  SInv T k (rTake a t) b∧NoRdy (rTake a t)∧(∀ j,a.at j≤(rTake a t).at j)∧(rTake a t).ot=a.ot∧∀ j,0≤j∧j<4→(rTake a t).at j=a.at j∨∃ u∈T,u.site=j∧(rTake a t).at j=u.seq:=by
 unfold rTake
 split
 ·rename_i he
  unfold rTakeE at he
  split at he
  ·cases he
  split at he
  ·cases he
  split at he
  ·cases he
  rename_i k1 k2 k3
  have hw:SInv T k { a with ws:=a.ws++[t] } b:=by
   refine ⟨h.id,h.k4,h.sub,h.mem,h.inn,h.nd,h.cov,h.clo,fun u hu=>?_,fun u hu=>?_,?_,h.last,h.lastR,h.top,h.hsl,h.hdom,h.bap⟩
   ·rcases List.mem_append.1 hu with e | e
    ·exact h.wsub u e
    ·obtain rfl:u=t:=by simpa using e
     exact ht
   ·rcases List.mem_append.1 hu with e | e
    ·exact h.wgt u e
    ·obtain rfl:u=t:=by simpa using e
     exact Int.not_le.1 k2
   ·refine List.nodup_append.2 ⟨h.wnd,by simp,fun x hx y hy e=>?_⟩
    obtain rfl:y=t:=by simpa using hy
    subst e
    exact k3 (by unfold rSame;rw [List.any_eq_true];exact ⟨x,hx,by simp⟩)
  obtain ⟨i1,i2,i3,i4,i5,i6,i7⟩:=SInv.run hT hl (a.ws.length+1) hw (by simp)
  exact ⟨i1,i2,i3,i6,i7⟩
 ·exact ⟨h,hn,fun _=>Int.le_refl _,rfl,fun j _=>.inl rfl⟩
theorem atV_4 (a0 a1 a2 a3 b0 b1 b2 b3:Int):(∀ j,atV b0 b1 b2 b3 j≤atV a0 a1 a2 a3 j)↔∀ j,0≤j∧j<4→atV b0 b1 b2 b3 j≤atV a0 a1 a2 a3 j:=by
 constructor
 ·exact fun h j _=>h j
 ·intro h j
  have h0:=h 0 (by omega);have h1:=h 1 (by omega);have h2:=h 2 (by omega);have h3:=h 3 (by omega)
  unfold atV at *
  simp at h0 h1 h2 h3
  repeat' split
  all_goals assumption
theorem commit_site (a:RSi) (now d0 d1 d2 d3:Int) (ws:List WrP):(rCommitT a now d0 d1 d2 d3 ws).site=a.id∧(rCommitT a now d0 d1 d2 d3 ws).seq=a.at a.id+1∧(rCommitT a now d0 d1 d2 d3 ws).ws=ws:=⟨rfl,rfl,rfl⟩
theorem commit_dep {a:RSi} (hid:0≤a.id∧a.id<4) (now d0 d1 d2 d3:Int) (ws:List WrP) {j:Int} (hj:0≤j∧j<4):(rCommitT a now d0 d1 d2 d3 ws).dep j=if j=a.id then a.at j else atV d0 d1 d2 d3 j:=by
 unfold TxP.dep rCommitT RSi.at atV
 have hc:j=0∨j=1∨j=2∨j=3:=by omega
 have hi:a.id=0∨a.id=1∨a.id=2∨a.id=3:=by omega
 rcases hc with rfl | rfl | rfl | rfl <;> rcases hi with e | e | e | e <;> simp [e]
theorem commit_parts {a:RSi} {now d0 d1 d2 d3:Int} {ws:List WrP} (he:rCommitE a now d0 d1 d2 d3 ws=0):rightWs ws=true∧rgtB d0 d1 d2 d3=true∧covD a.p0 a.p1 a.p2 a.p3 d0 d1 d2 d3=true∧¬200≤a.log.length∧nextE a.lw a.lc now=0:=by
 unfold rCommitE at he
 split at he
 ·cases he
 rename_i k1
 split at he
 ·cases he
 rename_i k2
 split at he
 ·cases he
 rename_i k3
 refine ⟨by simpa using k1,?_,?_,k3,he⟩
 ·cases h:rgtB d0 d1 d2 d3 with
  | true=>rfl
  | false=>exact absurd (.inl h) k2
 ·cases h:covD a.p0 a.p1 a.p2 a.p3 d0 d1 d2 d3 with
  | true=>rfl
  | false=>exact absurd (.inr h) k2
theorem next_ok {w c now:Int} (he:nextE w c now=0):rightS (nextW w now) (nextC w c now)=true∧(w<nextW w now∨(w=nextW w now∧c<nextC w c now)):=by
 unfold nextE at he
 split at he
 ·cases he
 rename_i j1
 have hrs:rightS w c=true:=by cases hr:rightS w c with | true=>rfl | false=>exact absurd (.inl hr) j1
 obtain ⟨b1,b2⟩:=rightS_bd hrs
 unfold nextW nextC
 split at he
 ·rename_i j2
  rw [if_pos j2,if_pos j2]
  refine ⟨?_,by omega⟩
  unfold rightS
  simp only [Bool.and_eq_true,decide_eq_true_eq]
  omega
 ·rename_i j2
  rw [if_neg j2,if_neg j2]
  split at he
  ·cases he
  ·refine ⟨?_,by omega⟩
   unfold rightS
   simp only [Bool.and_eq_true,decide_eq_true_eq]
   omega
theorem commit_rt {T:List TxP} {k:Nat} {a:RSi} {b:Int→Int} (h:SInv T k a b) {now d0 d1 d2 d3:Int} {ws:List WrP} (he:rCommitE a now d0 d1 d2 d3 ws=0):rightTx (rCommitT a now d0 d1 d2 d3 ws)=true:=by
 obtain ⟨h1,h2,h3,h4,h5⟩:=commit_parts he
 obtain ⟨n1,_⟩:=next_ok h5
 obtain ⟨b1,b2⟩:=rightS_bd n1
 have hid:=h.id
 have hk:=h.k4
 have q0:=h.top 0;have q1:=h.top 1;have q2:=h.top 2;have q3:=h.top 3;have qi:=h.top a.id
 have e0:a.at 0=a.p0:=rfl
 have e1:a.at 1=a.p1:=rfl
 have e2:a.at 2=a.p2:=rfl
 have e3:a.at 3=a.p3:=rfl
 rw [e0] at q0;rw [e1] at q1;rw [e2] at q2;rw [e3] at q3
 simp only [rgtB,Bool.and_eq_true,decide_eq_true_eq] at h2
 obtain ⟨⟨⟨g0,g1⟩,g2⟩,g3⟩:=h2
 have hp:∀ (i p d:Int),(0≤p∧p≤1099511627776)→(0≤d∧d≤1099511627776)→okN (if a.id=i then p else d)=true:=fun i p d h1 h2=>by
  unfold okN
  split <;> (simp;omega)
 unfold rightTx headTx rCommitT
 simp only [Bool.and_eq_true,decide_eq_true_eq]
 refine ⟨⟨⟨⟨⟨⟨by omega,by omega,by omega⟩,?_⟩,?_⟩,⟨⟨hp 0 _ _ (by omega) g0,hp 1 _ _ (by omega) g1⟩,hp 2 _ _ (by omega) g2⟩,hp 3 _ _ (by omega) g3⟩,?_⟩,h1⟩
 ·unfold okN;simp;omega
 ·unfold okN;simp;omega
 ·unfold depAt RSi.at atV
  have hc:a.id=0∨a.id=1∨a.id=2∨a.id=3:=by omega
  rcases hc with hc | hc | hc | hc <;> simp [hc]
theorem SInv.more {T:List TxP} {k:Nat} {a:RSi} {b:Int→Int} (h:SInv T k a b) {t:TxP} (hq:a.at t.site<t.seq):SInv (T++[t]) k a b:=by
 refine ⟨h.id,h.k4,fun u hu=>List.mem_append.2 (.inl (h.sub u hu)),fun u hu hle=>?_,h.inn,h.nd,h.cov,fun l1 u l2 hl v hv hle=>?_,fun u hu=>List.mem_append.2 (.inl (h.wsub u hu)),h.wgt,h.wnd,h.last,h.lastR,h.top,h.hsl,h.hdom,h.bap⟩
 ·rcases List.mem_append.1 hu with e | e
  ·exact h.mem u e hle
  ·obtain rfl:u=t:=by simpa using e
   omega
 ·rcases List.mem_append.1 hv with e | e
  ·exact h.clo l1 u l2 hl v e hle
  ·obtain rfl:v=t:=by simpa using e
   have:=h.cov u (by rw [hl];simp) v.site
   omega
theorem SInv.commit {T:List TxP} {k:Nat} {a:RSi} {b:Int→Int} (h:SInv T k a b) (hT:TInv T) (hown:∀ u∈T,u.site=(k:Int)→u.seq≤a.at k) {now d0 d1 d2 d3:Int} {ws:List WrP} (he:rCommitE a now d0 d1 d2 d3 ws=0):
  TInv (T++[rCommitT a now d0 d1 d2 d3 ws])∧SInv (T++[rCommitT a now d0 d1 d2 d3 ws]) k (rApply a (rCommitT a now d0 d1 d2 d3 ws)) b∧(∀ j,(rCommitT a now d0 d1 d2 d3 ws).dep j≤a.at j):=by
 have hrt:=commit_rt h he
 obtain ⟨h1,h2,h3,h4,h5⟩:=commit_parts he
 obtain ⟨_,n2⟩:=next_ok h5
 have hid:=h.id
 have hk:=h.k4
 obtain ⟨s1,s2,s3⟩:=commit_site a now d0 d1 d2 d3 ws
 have hdep:∀ j,(rCommitT a now d0 d1 d2 d3 ws).dep j≤a.at j:=by
  refine (atV_4 ..).2 fun j hj=>?_
  have:=commit_dep (a:=a) (by omega) now d0 d1 d2 d3 ws hj
  unfold TxP.dep at this
  rw [this]
  split
  ·exact Int.le_refl _
  ·exact (covD_iff ..).1 h3 j
 have hlt:∀ u∈T,u.site=(k:Int)→ltT u.wall u.count (rCommitT a now d0 d1 d2 d3 ws):=fun u hu hs=>by
  have hl:=h.last u (h.mem u hu (by rw [hs];exact hown u hu hs))
  show u.wall<nextW a.lw now∨(u.wall=nextW a.lw now∧u.count<nextC a.lw a.lc now)
  unfold ltT at hl
  omega
 have hsq:∀ u∈T,u.site=(k:Int)→u.seq<(rCommitT a now d0 d1 d2 d3 ws).seq:=fun u hu hs=>by
  have:=hown u hu hs
  rw [s2,hid];omega
 generalize hti:rCommitT a now d0 d1 d2 d3 ws=t at *
 have hT':TInv (T++[t]):=by
  refine ⟨fun u hu=>?_,fun u hu v hv hs hq=>?_,fun u hu v hv hs hq=>?_⟩
  ·rcases List.mem_append.1 hu with e | e
   ·exact hT.rt u e
   ·obtain rfl:u=t:=by simpa using e
    exact hrt
  ·rcases List.mem_append.1 hu with e | e
   ·rcases List.mem_append.1 hv with e2 | e2
    ·exact hT.uq u e v e2 hs hq
    ·obtain rfl:v=t:=by simpa using e2
     have:=hsq u e (by rw [hs,s1,hid]);omega
   ·obtain rfl:u=t:=by simpa using e
    rcases List.mem_append.1 hv with e2 | e2
    ·have:=hsq v e2 (by rw [←hs,s1,hid]);omega
    ·obtain rfl:v=u:=by simpa using e2
     rfl
  ·rcases List.mem_append.1 hu with e | e
   ·rcases List.mem_append.1 hv with e2 | e2
    ·exact hT.st u e v e2 hs hq
    ·obtain rfl:v=t:=by simpa using e2
     exact hlt u e (by rw [hs,s1,hid])
   ·obtain rfl:u=t:=by simpa using e
    rcases List.mem_append.1 hv with e2 | e2
    ·have:=hsq v e2 (by rw [←hs,s1,hid]);omega
    ·obtain rfl:v=u:=by simpa using e2
     omega
 refine ⟨hT',h.apply hT' (fun u hu=>List.mem_append.2 (.inl hu)) (by simp) (by rw [s1,s2]) hdep (fun u hu=>?_) (fun u hu hs=>?_),hdep⟩
 ·rcases List.mem_append.1 hu with e | e
  ·exact .inl e
  ·exact .inr (by simpa using e)
 ·have:=hsq u (h.wsub u hu) (by rw [hs,s1,hid]);omega
theorem NoRdy.commit {T:List TxP} {k:Nat} {a:RSi} {b:Int→Int} (h:SInv T k a b) (hn:NoRdy a) (hT:TInv T) (hown:∀ u∈T,u.site=(k:Int)→u.seq≤a.at k) (hdl:∀ u∈T,u.dep k≤a.at k) {t:TxP} (hs:t.site=(k:Int)) (hq:t.seq=a.at k+1):NoRdy (rApply a t):=by
 intro u hu
 rw [Bool.eq_false_iff]
 intro hr
 obtain ⟨h1,h2⟩:=(rReady_iff _ _).1 hr
 have hk:=h.k4
 have huT:=h.wsub u hu
 have hus:=(rightTx_parts (hT.rt u huT)).1
 have hts:0≤t.site∧t.site<4:=by omega
 have hne:u.site≠(k:Int):=fun e=>by
  have h3:=hown u huT e
  have h4:=h.wgt u hu
  rw [e] at h4;omega
 have h3:=hn u hu
 rw [Bool.eq_false_iff] at h3
 refine h3 ((rReady_iff _ _).2 ⟨?_,?_⟩)
 ·rw [h1,rApply_at4 a hts hus,if_neg (by rw [hs];exact hne)]
 ·refine (atV_4 ..).2 fun j hj=>?_
  have h4:=h2 j
  rw [rApply_at4 a hts hj] at h4
  by_cases e:j=t.site
  ·rw [e,hs];exact hdl u huT
  ·rw [if_neg e] at h4;exact h4
theorem seenV_iff (v0 v1 v2 v3:Int) (v:VerP):seenV v0 v1 v2 v3 v=true↔v.seq≤atV v0 v1 v2 v3 v.site:=by unfold seenV;rw [decide_eq_true_eq]
theorem SInv.sweep {T:List TxP} {k:Nat} {a:RSi} {b:Int→Int} (h:SInv T k a b) (hT:TInv T) (v0 v1 v2 v3:Int):SInv T k (rSwept a v0 v1 v2 v3) (fun j=>max (b j) (atV (min v0 a.p0) (min v1 a.p1) (min v2 a.p2) (min v3 a.p3) j)):=by
 have hle:∀ j,atV (min v0 a.p0) (min v1 a.p1) (min v2 a.p2) (min v3 a.p3) j≤a.at j:=fun j=>by
  unfold RSi.at atV
  repeat' split
  all_goals omega
 generalize hs:(fun j=>atV (min v0 a.p0) (min v1 a.p1) (min v2 a.p2) (min v3 a.p3) j)=s at *
 unfold rSwept
 generalize min v0 a.p0=s0 at *
 generalize min v1 a.p1=s1 at *
 generalize min v2 a.p2=s2 at *
 generalize min v3 a.p3=s3 at *
 have hin:∀ p∈rSweep s0 s1 s2 s3 a.held,p∈a.held:=fun p hp=>(List.mem_filter.1 hp).1
 have hallT:∀ p∈a.held,p∈allV T:=fun p hp=>by
  obtain ⟨t,ht,hpt⟩:=allV_mem.1 (h.hsub p hp)
  exact allV_mem.2 ⟨t,h.sub t ht,hpt⟩
 have hgo:∀ p∈a.held,p∈rSweep s0 s1 s2 s3 a.held∨∃ q∈rSweep s0 s1 s2 s3 a.held,q.key=p.key∧ltV p.v q.v∧q.v.seq≤atV s0 s1 s2 s3 q.v.site:=fun p hp=>by
  by_cases hk:rKeep s0 s1 s2 s3 a.held p=true
  ·exact .inl (List.mem_filter.2 ⟨hp,hk⟩)
  ·right
   unfold rKeep at hk
   simp only [Bool.or_eq_true,beq_iff_eq,decide_eq_true_eq,Bool.not_eq_true',not_or,Bool.not_eq_false] at hk
   obtain ⟨⟨k1,k2⟩,k3⟩:=hk
   obtain ⟨_,j2,_⟩:=rlGo_spec s0 s1 s2 s3 p.key a.held verZ false
   obtain ⟨m1,_,m3⟩:=j2 k1
   rcases m1 with ⟨m1,_⟩ | ⟨q,q1,q2,q3,q4⟩
   ·cases m1
   have hnl:=m3 p hp rfl k3
   refine ⟨q,List.mem_filter.2 ⟨q1,?_⟩,q2,?_,(seenV_iff ..).1 q3⟩
   ·unfold rKeep
    rw [q2]
    have:(rLast s0 s1 s2 s3 p.key a.held).1=q.v:=q4.symm
    rw [this]
    simp
   ·have e:(rlGo s0 s1 s2 s3 p.key a.held verZ false).1=q.v:=q4.symm
    rw [e] at hnl
    rcases ltV_tri p.v q.v with h1 | h1 | h1
    ·exact h1
    ·exact absurd (show (rLast s0 s1 s2 s3 p.key a.held).1=p.v by
      have:p=q:=hT.uv (hallT p hp) (hallT q q1) q2.symm h1
      exact e.trans (congrArg PtP.v this).symm) k2
    ·exact absurd h1 hnl
 refine ⟨h.id,h.k4,h.sub,h.mem,h.inn,h.nd,h.cov,h.clo,h.wsub,h.wgt,h.wnd,h.last,h.lastR,h.top,List.Sublist.trans List.filter_sublist h.hsl,fun p hp=>?_,fun j=>?_⟩
 ·have hmx:∀ q:PtP,b q.v.site≤max (b q.v.site) (atV s0 s1 s2 s3 q.v.site)∧atV s0 s1 s2 s3 q.v.site≤max (b q.v.site) (atV s0 s1 s2 s3 q.v.site):=fun q=>⟨by omega,by omega⟩
  rcases h.hdom p hp with h1 | ⟨q,h1,h2,h3,h4⟩
  ·rcases hgo p h1 with h5 | ⟨q,h5,h6,h7,h8⟩
   ·exact .inl h5
   ·exact .inr ⟨q,h5,h6,h7,Int.le_trans h8 (hmx q).2⟩
  ·rcases hgo q h1 with h5 | ⟨q',h5,h6,h7,h8⟩
   ·exact .inr ⟨q,h5,h2,h3,Int.le_trans h4 (hmx q).1⟩
   ·exact .inr ⟨q',h5,h6.trans h2,ltV_trans h3 h7,Int.le_trans h8 (hmx q').2⟩
 ·have h1:=h.bap j
  have h2:=hle j
  show max (b j) (atV s0 s1 s2 s3 j)≤a.at j
  omega
theorem SInv.read {T:List TxP} {k:Nat} {a:RSi} {b:Int→Int} (h:SInv T k a b) (hT:TInv T) {v0 v1 v2 v3:Int} (hb:∀ j,b j≤atV v0 v1 v2 v3 j) (ha:∀ j,atV v0 v1 v2 v3 j≤a.at j) (key:Int):
  rLast v0 v1 v2 v3 key a.held=rLast v0 v1 v2 v3 key (allV T):=by
 have hallT:∀ p∈a.held,p∈allV T:=fun p hp=>by
  obtain ⟨t,ht,hpt⟩:=allV_mem.1 (h.hsub p hp)
  exact allV_mem.2 ⟨t,h.sub t ht,hpt⟩
 have hlog:∀ p∈allV T,seenV v0 v1 v2 v3 p.v=true→p∈allV a.log:=fun p hp hs=>by
  obtain ⟨t,ht,hpt⟩:=allV_mem.1 hp
  have hv:=txV_v hpt
  have h1:=(seenV_iff ..).1 hs
  rw [hv.2.2.1,hv.2.2.2] at h1
  exact allV_mem.2 ⟨t,h.mem t ht (Int.le_trans h1 (ha _)),hpt⟩
 have hdom:∀ p∈allV T,seenV v0 v1 v2 v3 p.v=true→p∈a.held∨∃ q∈a.held,q.key=p.key∧ltV p.v q.v∧seenV v0 v1 v2 v3 q.v=true:=fun p hp hs=>by
  rcases h.hdom p (hlog p hp hs) with h1 | ⟨q,h1,h2,h3,h4⟩
  ·exact .inl h1
  ·exact .inr ⟨q,h1,h2,h3,(seenV_iff ..).2 (Int.le_trans h4 (hb _))⟩
 obtain ⟨x1,x2,x3⟩:=rlGo_spec v0 v1 v2 v3 key a.held verZ false
 obtain ⟨y1,y2,y3⟩:=rlGo_spec v0 v1 v2 v3 key (allV T) verZ false
 have e1:rlGo v0 v1 v2 v3 key a.held verZ false=rLast v0 v1 v2 v3 key a.held:=rfl
 have e2:rlGo v0 v1 v2 v3 key (allV T) verZ false=rLast v0 v1 v2 v3 key (allV T):=rfl
 rw [e1] at x1 x2 x3
 rw [e2] at y1 y2 y3
 generalize rLast v0 v1 v2 v3 key a.held=X at *
 generalize rLast v0 v1 v2 v3 key (allV T)=Y at *
 obtain ⟨xv,xf⟩:=X
 obtain ⟨yv,yf⟩:=Y
 simp only at *
 cases xf with
 | false=>
   cases yf with
   | false=>rw [x3 rfl,y3 rfl]
   | true=>
     obtain ⟨m1,_,_⟩:=y2 rfl
     rcases m1 with ⟨m1,_⟩ | ⟨q,q1,q2,q3,_⟩
     ·cases m1
     ·rcases hdom q q1 q3 with h1 | ⟨r,r1,r2,_,r4⟩
      ·have:=(x1 rfl).2 q h1 q2;rw [q3] at this;cases this
      ·have:=(x1 rfl).2 r r1 (r2.trans q2);rw [r4] at this;cases this
 | true=>
   obtain ⟨m1,_,m3⟩:=x2 rfl
   rcases m1 with ⟨m1,_⟩ | ⟨p,p1,p2,p3,p4⟩
   ·cases m1
   cases yf with
   | false=>have:=(y1 rfl).2 p (hallT p p1) p2;rw [p3] at this;cases this
   | true=>
     obtain ⟨n1,_,n3⟩:=y2 rfl
     rcases n1 with ⟨n1,_⟩ | ⟨q,q1,q2,q3,q4⟩
     ·cases n1
     have g1:=n3 p (hallT p p1) p2 p3
     rw [p4] at g1
     have g2:¬ltV xv yv:=by
      rcases hdom q q1 q3 with h1 | ⟨r,r1,r2,r3,r4⟩
      ·have:=m3 q h1 q2 q3;rwa [q4] at this
      ·have:=n3 r (hallT r r1) (r2.trans q2) r4
       rw [q4] at r3
       exact absurd r3 this
     have hs:sameV p.v q.v:=by
      rw [p4,q4]
      rcases ltV_tri xv yv with h1 | h1 | h1
      ·exact absurd h1 g2
      ·exact h1
      ·exact absurd h1 g1
     have:p=q:=hT.uv (hallT p p1) q1 (p2.trans q2.symm) hs
     rw [←p4,←q4,this]
end Go.Proofs.YtbopfhbeegkkaabGreatDoor
