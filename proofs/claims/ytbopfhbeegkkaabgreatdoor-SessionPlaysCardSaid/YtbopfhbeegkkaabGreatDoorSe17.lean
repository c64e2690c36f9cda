/- Part 17 of a proof: lemmas and contracts that other parts use. -/
import Derived.Test.YtbopfhbeegkkaabGreatDoorSe16
import Derived.Test.YtbopfhbeegkkaabGreatDoorSe4
set_option linter.unusedVariables false
set_option linter.unusedSimpArgs false
set_option linter.constructorNameAsVariable false
namespace Go.Proofs.YtbopfhbeegkkaabGreatDoor
open Go.RowKit
def covM (s:SiP) (m:MTx):Bool:=covD s.p0 s.p1 s.p2 s.p3 m.t.d0 m.t.d1 m.t.d2 m.t.d3
def idxGo (p:MTx→Bool):List MTx→Nat→Int
 | [],_=>-1
 | m::l,i=>if p m=true then (i:Int) else idxGo p l (i+1)
set_option maxRecDepth 20000 in
set_option maxHeartbeats 4000000 in
theorem covers1_any (B x mb pb:Nat) (s:SiP) (lv:Value) (sv:Nat→Value) (m:MTx) (w:World) (h:SiAt w B x s mb lv sv) (hp:w.cell? ⟨pb,0,none⟩=some (.pointer (some ⟨x,0,none⟩))) (hpl:pb<w.heap.size):
  Calls Tryz.prog 85 #[MTx.val m,.pointer (some ⟨pb,0,none⟩)] w fun e w'=>e=.returned (.bool (covM s m))∧Below w.heap.size w w':=by
 obtain ⟨c1,c2,c3,c4⟩:=h.vec
 haveI:SzGe (x+1) w:=⟨h.sto.lt⟩
 haveI:SzGe (pb+1) w:=⟨hpl⟩
 have HC:=hidp fun W=>covers_any s.p0 s.p1 s.p2 s.p3 m.t.d0 m.t.d1 m.t.d2 m.t.d3 W
 have HE:=hidp (show covM s m=covD s.p0 s.p1 s.p2 s.p3 m.t.d0 m.t.d1 m.t.d2 m.t.d3 from rfl)
 generalize covD s.p0 s.p1 s.p2 s.p3 m.t.d0 m.t.d1 m.t.d2 m.t.d3=R at *
 unfold MTx.val
 clear h
 go_enter Tryz.func85,Tryz.ntmps85
 go_wp2_with fail
 refine wp_region_plus_tail 6 (by kernel_rfl) (by kernel_rfl) ?_
 simp only [List.take_succ_cons,List.take_zero,List.drop_succ_cons,List.drop_zero]
 repeat (first | go_big_quiet_skip | (go_big_quiet_want;go_big_quiet_op;go_big_quiet_on))
 refine wpQuiet_nil ?_
 rintro _ ⟨x3,rfl⟩
 go_wp2_with fail
 go_at_call 55
 refine (HC.out _).mono ?_
 rintro e w' ⟨rfl,hb⟩
 obtain ⟨x4,rfl⟩:=wplus_of_below hb
 clear hb
 go_wp2_with fail
 go_ret
 exact ⟨by rw [HE.out];rfl,zB⟩
set_option maxRecDepth 20000 in
set_option maxHeartbeats 4000000 in
theorem index_any (B x mb pb:Nat) (s:SiP) (lv:Value) (sv:Nat→Value) (A:Option Addr) (c:Nat) (l:List MTx) (w:World) (h:SiAt w B x s mb lv sv) (hp:w.cell? ⟨pb,0,none⟩=some (.pointer (some ⟨x,0,none⟩))) (hpl:pb<w.heap.size) (hl:XsAt w A l) (hn:l.length≤1000):
  Calls Tryz.prog 83 #[.slice A l.length c,.func (.func 85) #[] #[.pointer (some ⟨pb,0,none⟩)]] w fun e w'=>e=.returned (.int .i64 (idxGo (covM s) l 0))∧Below w.heap.size w w':=by
 have HX:=hidp hl
 have HC:=hidp fun (m:MTx) W (hb:Below w.heap.size w W)=>covers1_any B x mb pb s lv sv m W (h.below hb) ((hb.cell (p:=⟨pb,0,none⟩) hpl).trans hp) (Nat.lt_of_lt_of_le hpl hb.size)
 clear h hp hl
 go_enter Tryz.func83,Tryz.ntmps83
 go_wp2_with fail
 go_loopw [8] (fun i wr=>∃ j:Nat,j≤l.length∧i=.int .i64 j∧idxGo (covM s) (l.drop j) j=idxGo (covM s) l 0∧Below w.heap.size w wr) (fun i _=>l.length-(intOf i).toNat)
 case atStart=>exact ⟨0,Nat.zero_le _,rfl,by rw [List.drop_zero],Below.refl _ _⟩
 case round=>
  obtain ⟨j,hj,rfl,hgo,hbl⟩:=hrel
  obtain ⟨x0,rfl⟩:=wplus_of_below hbl
  clear hbl
  by_cases hjl:j<l.length
  ·obtain ⟨b,o,rfl,hb,d0,d1,d2,d3,d4,d5,d6,d7,d8⟩:=HX.out j l[j] (List.getElem?_eq_getElem hjl)
   have hdrop:l.drop j=l[j]::l.drop (j+1):=List.drop_eq_getElem_cons hjl
   rw [hdrop] at hgo
   have hgo2:(if covM s l[j]=true then (j:Int) else idxGo (covM s) (l.drop (j+1)) (j+1))=idxGo (covM s) l 0:=by rw [←hgo];rfl
   have HG:=hidp hgo2
   have HCJ:=hidp fun W hb=>HC.out l[j] W hb
   clear hgo hgo2 hdrop
   generalize hcv:covM s l[j]=R at *
   generalize l[j]=m at *
   obtain ⟨⟨msite,mseq,mwall,mcount,md0,md1,md2,md3,mws⟩,mA,mc⟩:=m
   simp only at d0 d1 d2 d3 d4 d5 d6 d7 d8
   unfold MTx.val at HCJ
   haveI:SzGe (b+1) w:=⟨hb⟩
   clear hcv
   go_wp2_with fail
   go_at_call 85
   refine (HCJ.out _ (below_wplus _ _)).mono ?_
   rintro e w' ⟨rfl,hb2⟩
   obtain ⟨x4,rfl⟩:=wplus_of_below hb2
   clear hb2
   cases R
   ·go_wp2_with fail
    go_roundw
    case rel=>exact ⟨j+1,by omega,by go_num,by rw [←HG.out];rfl,zB⟩
    case measure=>simp [intOf];omega
   ·go_wp2_with fail
    go_ret
    exact ⟨by rw [←HG.out];rfl,zB⟩
  ·obtain rfl:j=l.length:=by omega
   rw [List.drop_length] at hgo
   have HG:=hidp hgo
   clear hgo hj hjl
   go_wp2_with fail
   go_ret
   exact ⟨by rw [←HG.out];rfl,zB⟩
def wset (f:Int→Int→Option MTx) (a b:Int) (v:Option MTx):Int→Int→Option MTx:=fun a' b'=>if a'=a∧b'=b then v else f a' b'
theorem wset_val (f:Int→Int→Option MTx) (a b:Int) (v:Option MTx):(fun a' b'=>(wset f a b v a' b').map MTx.val)=mput (fun a' b'=>(f a' b').map MTx.val) a b (v.map MTx.val):=by
 funext a' b'
 unfold wset mput
 split <;> rfl
def SiP.wait (s:SiP) (m:MTx):SiP:={ s with wt:=wset s.wt m.t.site m.t.seq (some m),wn:=if (s.wt m.t.site m.t.seq).isSome then s.wn else s.wn+1 }
def SiP.unwait (s:SiP) (m:MTx):SiP:={ s with wt:=wset s.wt m.t.site m.t.seq none,wn:=if (s.wt m.t.site m.t.seq).isSome then s.wn-1 else s.wn }
def nextOf (s:SiP):Option MTx:=(nextsL s 4).find? (covM s)
def runP:Nat→SiP→SiP
 | 0,s=>s
 | f+1,s=>match nextOf s with
   | none=>s
   | some m=>if 200≤s.log.length then s else runP f (applyP (s.unwait m) m)
def takeE (s:SiP) (t:TxP):Int:=
 if rightTx t=false∨t.site=s.id then 1 else if t.seq≤s.at t.site∨(s.wt t.site t.seq).isSome=true then 9
 else if 200≤s.log.length∨(40≤s.wn∧(t.seq≠s.at t.site+1∨covD s.p0 s.p1 s.p2 s.p3 t.d0 t.d1 t.d2 t.d3=false)) then 12 else 0
structure Inv (s:SiP):Prop where
 ap:okAp s
 id:0≤s.id∧s.id<4
 wt:∀ a b m,s.wt a b=some m→m.t.site=a∧m.t.seq=b∧rightTx m.t=true
 fit:Fit s.st (5*s.log.length)
 dat:DatOk s.st
 log:s.log.length≤200
theorem rightTx_parts {t:TxP} (h:rightTx t=true):(0≤t.site∧t.site<4)∧(1≤t.seq∧t.seq≤1099511627776)∧1≤t.ws.length∧t.ws.length≤5:=by
 unfold rightTx headTx rightWs at h
 simp only [Bool.and_eq_true,decide_eq_true_eq] at h
 exact ⟨h.1.1.1.1.1.1,h.1.1.1.1.1.2,h.2.1.2,h.2.2⟩
theorem idx_find (p:MTx→Bool):∀ (l:List MTx) (i:Nat),(l.find? p=none∧idxGo p l i=-1)∨∃ j m,l.find? p=some m∧l[j]?=some m∧idxGo p l i=((i+j:Nat):Int)
 | [],i=>.inl ⟨rfl,rfl⟩
 | m::l,i=>by
   unfold idxGo
   by_cases h:p m=true
   ·rw [if_pos h]
    exact .inr ⟨0,m,by simp [h],rfl,by simp⟩
   ·rw [if_neg h]
    have h':p m=false:=by simpa using h
    rcases idx_find p l (i+1) with ⟨h1,h2⟩ | ⟨j,m',h1,h2,h3⟩
    ·exact .inl ⟨by simp [h',h1],h2⟩
    ·exact .inr ⟨j+1,m',by simp [h',h1],by simpa using h2,by rw [h3];congr 1;omega⟩
theorem nextsL_mem {s:SiP} {k:Nat} {m:MTx} (h:m∈nextsL s k):∃ i:Nat,i<k∧s.wt (i:Int) (s.at (i:Int)+1)=some m:=by
 unfold nextsL at h
 obtain ⟨i,hi,he⟩:=List.mem_filterMap.1 h
 exact ⟨i,List.mem_range.1 hi,he⟩
theorem nextsL_len (s:SiP) (k:Nat):(nextsL s k).length≤k:=by
 unfold nextsL
 exact Nat.le_trans (List.length_filterMap_le _ _) (by simp)
theorem nextOf_some {s:SiP} {m:MTx} (h:nextOf s=some m):∃ i:Nat,i<4∧s.wt (i:Int) (s.at (i:Int)+1)=some m∧covM s m=true:=by
 unfold nextOf at h
 obtain ⟨i,hi,he⟩:=nextsL_mem (List.mem_of_find?_eq_some h)
 exact ⟨i,hi,he,List.find?_some h⟩
theorem Inv.has {s:SiP} (h:Inv s) {m:MTx} (hn:nextOf s=some m):rightTx m.t=true∧s.wt m.t.site m.t.seq=some m∧m.t.seq=s.at m.t.site+1:=by
 obtain ⟨i,hi,he,_⟩:=nextOf_some hn
 obtain ⟨h1,h2,h3⟩:=h.wt _ _ _ he
 exact ⟨h3,by rw [h1,h2];exact he,by rw [h2,h1]⟩
theorem putP_dat {S:Nat→List VerP} {p:PtP} (h:DatOk S):DatOk (putP S p):=by
 intro k hk v hv
 unfold putP putR at hv
 split at hv
 ·exact h k hk v hv
 ·split at hv
  ·exact h k hk v hv
  ·rename_i hr
   split at hv
   ·exact h k hk v hv
   ·simp only at hv
    split at hv
    ·rcases (insV_mem _ _ _).1 hv with rfl | hv
     ·have hr:rightV p.v=true:=by simpa using hr
      unfold rightV at hr
      simp only [Bool.and_eq_true,decide_eq_true_eq] at hr
      exact hr.1.2
     ·exact h k hk v hv
    ·exact h k hk v hv
theorem stPut_dat {st:Nat→List VerP} (h:DatOk st) (t:TxP):∀ j,DatOk (stPut st t j)
 | 0=>h
 | j+1=>putP_dat (stPut_dat h t j)
theorem SiAt.waitsTo {w w':World} {B x mb n:Nat} {s:SiP} {lv:Value} {sv:Nat→Value} {f:Int→Int→Option MTx} (h:SiAt w B x s mb lv sv) (hg:w.grownBy w' (some mb)) (hm:MpAt w' mb (fun a b=>(f a b).map MTx.val) n)
  (hd:∀ m,(∃ a b,f a b=some m)→WsAt w m.A m.t.ws∧∀ b o,m.A=some ⟨b,o,none⟩→b<w.heap.size∧¬SiOwn x mb lv sv b):
  SiAt w' B x { s with wt:=f,wn:=n } mb lv sv∧SiFr w w' (SiOwn x mb lv sv) (SiOwn x mb lv sv):=by
 have hb:∀ b,b<w.heap.size→b≠mb→w'.heap[b]?=w.heap[b]?:=fun b hb hne=>hg.block b hb (by simp;exact hne)
 have hx:=hb x h.sto.lt (fun e=>h.dxm e.symm)
 have hc:∀ k,w'.cell? ⟨x,k,none⟩=w.cell? ⟨x,k,none⟩:=fun k=>World.cell?_of_block hx
 have hf:∀ k,w'.frozen? ⟨x,k,none⟩=w.frozen? ⟨x,k,none⟩:=fun k=>World.frozen?_of_block hx
 have hrow:∀ {e n z:Nat} {v:Value} {xs:List Value},w.ownsRow B e z v n xs→v.ownBlock≠some mb→w'.ownsRow B e z v n xs:=fun h1 h2=>h1.kept hg (by
  rename_i v xs
  cases hv:v.ownBlock with
  | none=>exact .inl rfl
  | some b=>exact .inr (fun e=>h2 (hv.trans e)))
 have hdata:∀ m:MTx,(WsAt w m.A m.t.ws∧∀ b o,m.A=some ⟨b,o,none⟩→b<w.heap.size∧¬SiOwn x mb lv sv b)→WsAt w' m.A m.t.ws∧∀ b o,m.A=some ⟨b,o,none⟩→b<w'.heap.size∧¬SiOwn x mb lv sv b:=fun m hm'=>
  ⟨hm'.1.keep fun b o e=>hb b (hm'.2 b o e).1 (fun e2=>(hm'.2 b o e).2 (.inr (.inl e2))),fun b o e=>⟨Nat.lt_of_lt_of_le (hm'.2 b o e).1 hg.size,(hm'.2 b o e).2⟩⟩
 refine ⟨⟨(hc 0).trans h.c0,(hc 1).trans h.c1,(hc 2).trans h.c2,(hc 3).trans h.c3,(hc 4).trans h.c4,(hc 5).trans h.c5,(hc 6).trans h.c6,(hc 7).trans h.c7,(hc 8).trans h.c8,fun k hk=>(hc _).trans (h.oth k hk),fun k=>(hf k).trans (h.frz k),?_,hrow h.row h.dml,hm,h.bx,h.bm,h.dxm,h.dxl,h.dml,h.dms,h.dls,?_⟩,
  ⟨hg.os,hg.tape,hg.output,hg.size,fun k hk hn=>hb k hk (fun e=>hn (.inr (.inl e))),fun _ h=>.inl h⟩⟩
 ·exact ⟨Nat.lt_of_lt_of_le h.sto.lt hg.size,fun k hk=>(hc _).trans (h.sto.cel k hk),fun k hk=>(hf _).trans (h.sto.frz k hk),fun k hk=>hrow (h.sto.own k hk) (h.dms k hk),h.sto.ng,h.sto.dis⟩
 ·intro m hm'
  rcases hm' with hm' | hm'
  ·exact hdata m (h.dat m (.inl hm'))
  ·exact hdata m (hd m hm')
theorem SiAt.wait {w w':World} {B x mb n:Nat} {s:SiP} {lv:Value} {sv:Nat→Value} {m:MTx} (h:SiAt w B x s mb lv sv) (hg:w.grownBy w' (some mb)) (hm:MpAt w' mb (mput (fun a b=>(s.wt a b).map MTx.val) m.t.site m.t.seq (some m.val)) n)
  (hn:n=(s.wait m).wn) (hd:WsAt w m.A m.t.ws∧∀ b o,m.A=some ⟨b,o,none⟩→b<w.heap.size∧¬SiOwn x mb lv sv b):SiAt w' B x (s.wait m) mb lv sv∧SiFr w w' (SiOwn x mb lv sv) (SiOwn x mb lv sv):=by
 subst hn
 refine h.waitsTo hg (by have:=wset_val s.wt m.t.site m.t.seq (some m);rw [this];exact hm) ?_
 rintro m' ⟨a,b,e⟩
 unfold wset at e
 split at e
 ·cases e;exact hd
 ·exact h.dat m' (.inr ⟨a,b,e⟩)
theorem SiAt.unwait {w w':World} {B x mb n:Nat} {s:SiP} {lv:Value} {sv:Nat→Value} {m:MTx} (h:SiAt w B x s mb lv sv) (hg:w.grownBy w' (some mb)) (hm:MpAt w' mb (mput (fun a b=>(s.wt a b).map MTx.val) m.t.site m.t.seq none) n)
  (hn:n=(s.unwait m).wn):SiAt w' B x (s.unwait m) mb lv sv∧SiFr w w' (SiOwn x mb lv sv) (SiOwn x mb lv sv):=by
 subst hn
 refine h.waitsTo hg (by have:=wset_val s.wt m.t.site m.t.seq none;rw [this];exact hm) ?_
 rintro m' ⟨a,b,e⟩
 unfold wset at e
 split at e
 ·cases e
 ·exact h.dat m' (.inr ⟨a,b,e⟩)
def mSize (w:World) (mb:Nat):Nat:=match w.heap[mb]? with | some (.map es _)=>es.size | _=>0
theorem MpAt.msize {w:World} {m sz:Nat} {f:Int→Int→Option Value} (h:MpAt w m f sz):mSize w m=sz:=by
 obtain ⟨D,⟨es,clock,hb,F,hs,hD⟩,h2,h3⟩:=h
 unfold mSize
 rw [hb,←h2,hD]
 simp [Maps.size,length_sorted]
theorem applyP_wt (s:SiP) (m:MTx):(applyP s m).wt=s.wt:=rfl
theorem applyP_wn (s:SiP) (m:MTx):(applyP s m).wn=s.wn:=rfl
theorem applyP_log (s:SiP) (m:MTx):(applyP s m).log=s.log++[m]:=rfl
theorem applyP_st (s:SiP) (m:MTx):(applyP s m).st=stPut s.st m.t m.t.ws.length:=rfl
theorem Inv.wait {s:SiP} (h:Inv s) {m:MTx} (hr:rightTx m.t=true):Inv (s.wait m):=
 ⟨h.ap,h.id,fun a b m' e=>by
   unfold SiP.wait wset at e
   simp only at e
   split at e
   ·rename_i hab
    cases e
    exact ⟨hab.1.symm,hab.2.symm,hr⟩
   ·exact h.wt a b m' e,h.fit,h.dat,h.log⟩
theorem okAp_apply {s:SiP} {m:MTx} (h:okAp s) (hq:0≤m.t.seq∧m.t.seq≤1099511627776):okAp (applyP s m):=by
 unfold okAp at *
 unfold applyP SiP.setc
 simp only
 repeat' split
 all_goals omega
theorem Inv.apply {s:SiP} (h:Inv s) {m:MTx} (hr:rightTx m.t=true) (hl:¬200≤s.log.length):Inv (applyP (s.unwait m) m):=by
 obtain ⟨r1,r2,r3,r4⟩:=rightTx_parts hr
 refine ⟨okAp_apply (s:=s.unwait m) h.ap ⟨by omega,by omega⟩,h.id,?_,?_,stPut_dat h.dat _ _,?_⟩
 ·intro a b m' e
  rw [applyP_wt] at e
  unfold SiP.unwait wset at e
  simp only at e
  split at e
  ·cases e
  ·exact h.wt a b m' e
 ·rw [applyP_st,applyP_log]
  refine (stPut_fit h.fit m.t m.t.ws.length).mono ?_
  simp only [List.length_append,List.length_cons,List.length_nil]
  show 5*s.log.length+_≤5*(s.log.length+1)
  omega
 ·rw [applyP_log]
  simp only [List.length_append,List.length_cons,List.length_nil]
  show s.log.length+1≤200
  omega
theorem runP_step {s:SiP} {m:MTx} {f:Nat} (hn:nextOf s=some m) (hl:¬200≤s.log.length):runP (f+1) s=runP f (applyP (s.unwait m) m):=by
 conv=>lhs;unfold runP
 rw [hn]
 simp only [if_neg hl]
theorem runP_stop {s:SiP} (h:nextOf s=none∨200≤s.log.length):∀ f,runP f s=s
 | 0=>rfl
 | f+1=>by
   unfold runP
   rcases h with h | h
   ·rw [h]
   ·cases nextOf s with
    | none=>rfl
    | some m=>simp [h]
def siteRead (s:SiP) (key a0 a1 a2 a3:Int):VerP×Int:=if covD s.p0 s.p1 s.p2 s.p3 a0 a1 a2 a3=true then readR a0 a1 a2 a3 s.st key else (verZ,10)
set_option maxRecDepth 20000 in
set_option maxHeartbeats 8000000 in
theorem siteRead_any (B x mb:Nat) (s:SiP) (lv:Value) (sv:Nat→Value) (key a0 a1 a2 a3:Int) (w:World) (h:SiAt w B x s mb lv sv) (hf:Fit s.st 900000):
  Calls Tryz.prog 25 #[.pointer (some ⟨x,0,none⟩),.int .i64 key,.agg #[.int .i64 a0,.int .i64 a1,.int .i64 a2,.int .i64 a3]] w fun e w'=>
   e=.returned (.tuple #[verV (siteRead s key a0 a1 a2 a3).1,errV (siteRead s key a0 a1 a2 a3).2])∧Below w.heap.size w w':=by
 obtain ⟨c1,c2,c3,c4⟩:=h.vec
 have HCV:=hidp fun W=>covers_any s.p0 s.p1 s.p2 s.p3 a0 a1 a2 a3 W
 have HRD:=hidp fun W (hB:Below w.heap.size w W)=>readS_any x 9 B s.st sv key a0 a1 a2 a3 W (h.sto.below hB) (fun k hk=>(hf k hk).1) (fun k hk=>(hf k hk).2)
 have HE:=hidp (show siteRead s key a0 a1 a2 a3=if covD s.p0 s.p1 s.p2 s.p3 a0 a1 a2 a3=true then readR a0 a1 a2 a3 s.st key else (verZ,10) from rfl)
 generalize siteRead s key a0 a1 a2 a3=F at *
 haveI:SzGe (x+1) w:=⟨h.sto.lt⟩
 clear h hf
 cases hcv:covD s.p0 s.p1 s.p2 s.p3 a0 a1 a2 a3
 ·rw [hcv] at HCV HE
  have HE2:Hid (F=(verZ,10)):=hidp (by rw [HE.out];rfl)
  clear hcv HE
  go_enter Tryz.func25,Tryz.ntmps25
  go_wp2_with fail
  refine wp_region_plus (by kernel_rfl) (by kernel_rfl) ?_
  repeat (first | go_big_quiet_skip | (go_big_quiet_want;go_big_quiet_op;first | go_big_quiet_on | (apply Exists.intro;refine ⟨fun _=>?_,?_⟩;(go_at_call 55;exact Calls.plus_of (HCV.out _));go_big_quiet_on)))
  refine wpQuiet_nil ?_
  rintro _ ⟨x3,rfl⟩
  go_wp2_with fail
  refine bodyPost_ret (v:=.tuple #[verV verZ,errV 10]) ?_ rfl ⟨by rw [HE2.out],zB⟩
  simp [results,Tryz.results25,go_sem,verV,verZ]
  rfl
 ·rw [hcv] at HCV HE
  have HE2:Hid (F=readR a0 a1 a2 a3 s.st key):=hidp (by rw [HE.out];rfl)
  clear hcv HE
  obtain ⟨⟨⟨vw,vc,vs,vq,vd,vg⟩,z⟩,hR⟩:∃ R,readR a0 a1 a2 a3 s.st key=R:=⟨_,rfl⟩
  rw [hR] at HRD HE2
  unfold verV at HRD
  clear hR
  go_enter Tryz.func25,Tryz.ntmps25
  go_wp2_with fail
  refine wp_region_plus (by kernel_rfl) (by kernel_rfl) ?_
  repeat (first | go_big_quiet_skip | (go_big_quiet_want;go_big_quiet_op;first | go_big_quiet_on | (apply Exists.intro;refine ⟨fun _=>?_,?_⟩;(go_at_call 55;exact Calls.plus_of (HCV.out _));go_big_quiet_on)))
  refine wpQuiet_nil ?_
  rintro _ ⟨x3,rfl⟩
  go_wp2_with fail
  refine wp_region_plus_tail 8 (by kernel_rfl) (by kernel_rfl) ?_
  simp only [List.take_succ_cons,List.take_zero,List.drop_succ_cons,List.drop_zero]
  repeat (first | go_big_quiet_skip | (go_big_quiet_want;go_big_quiet_op;first | go_big_quiet_on | (apply Exists.intro;refine ⟨fun _=>?_,?_⟩;(go_at_call 92;exact Calls.plus_of (HRD.out _ (by repeat (first | exact Below.refl _ _ | refine blw_alloc ?_ | refine blw_plus ?_ | refine Below.drew ?_))));go_big_quiet_on)))
  refine wpQuiet_nil ?_
  rintro _ ⟨x4,rfl⟩
  go_wp2_with fail
  refine bodyPost_ret (v:=.tuple #[verV ⟨vw,vc,vs,vq,vd,vg⟩,errV z]) ?_ rfl ⟨by rw [HE2.out],zB⟩
  simp [results,Tryz.results25,go_sem,verV]
def nextE (aw ac now:Int):Int:=if rightS aw ac=false∨now<0∨1099511627776<now then 2 else if aw<now then 0 else if ac=1099511627776 then 12 else 0
def nextW (aw now:Int):Int:=if aw<now then now else aw
def nextC (aw ac now:Int):Int:=if aw<now then 0 else ac+1
theorem rightS_bd {aw ac:Int} (h:rightS aw ac=true):(0≤aw∧aw≤1099511627776)∧0≤ac∧ac≤1099511627776:=by
 simpa [rightS,and_assoc] using h
theorem next_is (aw ac now:Int) (w:World):Calls Tryz.prog 78 #[.agg #[.int .i64 aw,.int .i64 ac],.int .i64 now] w fun e w'=>
  e=.returned (.tuple #[if nextE aw ac now=0 then .agg #[.int .i64 (nextW aw now),.int .i64 (nextC aw ac now)] else .agg #[.int .i64 0,.int .i64 0],errV (nextE aw ac now)])∧Below w.heap.size w w':=by
 by_cases hr:rightS aw ac=true
 ·have hb:=rightS_bd hr
  by_cases h0:now<0
  ·have e:nextE aw ac now=2:=by unfold nextE;rw [if_pos (.inr (.inl h0))]
   rw [e,if_neg (by decide)];exact next_r2 aw ac now w hr h0
  ·by_cases h1:1099511627776<now
   ·have e:nextE aw ac now=2:=by unfold nextE;rw [if_pos (.inr (.inr h1))]
    rw [e,if_neg (by decide)];exact next_r3 aw ac now w hr (by omega) h1
   ·have hno:¬(rightS aw ac=false∨now<0∨1099511627776<now):=by rw [hr];simp;omega
    by_cases h:aw<now
    ·have e:nextE aw ac now=0:=by unfold nextE;rw [if_neg hno,if_pos h]
     rw [e,if_pos rfl]
     unfold nextW nextC
     rw [if_pos h,if_pos h]
     exact next_new aw ac now w hr (by omega) (by omega) h
    ·by_cases hf:ac=1099511627776
     ·have e:nextE aw ac now=12:=by unfold nextE;rw [if_neg hno,if_neg h,if_pos hf]
      rw [e,if_neg (by decide)]
      exact next_full aw ac now w hr (by omega) (by omega) (by omega) (by simp [hf])
     ·have e:nextE aw ac now=0:=by unfold nextE;rw [if_neg hno,if_neg h,if_neg hf]
      rw [e,if_pos rfl]
      unfold nextW nextC
      rw [if_neg h,if_neg h]
      exact next_inc aw ac now w hr (by omega) (by omega) (by omega) (by simp [hf]) hb.2
 ·have hr:rightS aw ac=false:=by simpa using hr
  have e:nextE aw ac now=2:=by unfold nextE;rw [if_pos (.inl hr)]
  rw [e,if_neg (by decide)]
  exact next_r1 aw ac now w hr
end Go.Proofs.YtbopfhbeegkkaabGreatDoor
