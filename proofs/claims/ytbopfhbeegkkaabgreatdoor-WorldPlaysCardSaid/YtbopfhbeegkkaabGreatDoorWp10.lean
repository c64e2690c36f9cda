/- Part 10 of a proof: lemmas and contracts that other parts use. -/
import Derived.Test.YtbopfhbeegkkaabGreatDoorWp9
import Derived.Test.YtbopfhbeegkkaabGreatDoorWp3
set_option linter.unusedVariables false
set_option linter.unusedSimpArgs false
set_option maxHeartbeats 16000000
set_option maxRecDepth 20000
namespace Go.Proofs.YtbopfhbeegkkaabGreatDoor
open Go.RowKit Go.Proofs.Tryz
def zgL (s:SiP) (m:MTx):Bool:=zdp s.p0 s.p1 s.p2 s.p3 m.t.d0 m.t.d1 m.t.d2 m.t.d3
def zh5 (p:MTx→Bool):List MTx→Nat→Int
 | [],_=>-1
 | m::l,i=>if p m=true then (i:Int)else zh5 p l (i+1)
theorem zjV (B x mb pb:Nat) (s:SiP) (lv:Value) (sv:Nat→Value) (m:MTx) (w:World) (h:zbV w B x s mb lv sv) (hp:w.cell? ⟨pb,0,none⟩=some (.pointer (some ⟨x,0,none⟩))) (hpl:pb<w.heap.size):
  Calls prog 85 #[MTx.val m,.pointer (some ⟨pb,0,none⟩)] w fun e w'=>e=.returned (.bool (zgL s m))∧Below w w w':=by
 obtain⟨c1,c2,c3,c4⟩:=h.vec;haveI:zaj (x+1) w:=⟨h.sto.lt⟩;haveI:zaj (pb+1) w:=⟨hpl⟩;have HC:=zac fun W=>zdj s.p0 s.p1 s.p2 s.p3 m.t.d0 m.t.d1 m.t.d2 m.t.d3 W
 have HE:=zac (show zgL s m=zdp s.p0 s.p1 s.p2 s.p3 m.t.d0 m.t.d1 m.t.d2 m.t.d3 from rfl);generalize zdp s.p0 s.p1 s.p2 s.p3 m.t.d0 m.t.d1 m.t.d2 m.t.d3=R at *;unfold MTx.val;clear h;go_enter func85,ntmps85;go_wp2_with fail;refine zb9 6 fun x3=>?_
 go_wp2_with fail;go_at_call 55;refine(HC.out _).mono ?_;rintro e w' ⟨rfl,hb⟩;obtain⟨x4,rfl⟩:=zad hb;clear hb;go_wp2_with fail;go_ret;exact⟨by rw[HE.out];rfl,zB⟩
theorem ziX (B x mb pb:Nat) (s:SiP) (lv:Value) (sv:Nat→Value) (A:Option Addr) (c:Nat) (l:List MTx) (w:World) (h:zbV w B x s mb lv sv) (hp:w.cell? ⟨pb,0,none⟩=some (.pointer (some ⟨x,0,none⟩))) (hpl:pb<w.heap.size) (hl:zd9 w A l) (hn:l.length≤1000):
  Calls prog 83 #[.slice A l.length c,.func (.func 85) #[] #[.pointer (some ⟨pb,0,none⟩)]] w fun e w'=>e=.returned (ii (zh5 (zgL s) l 0))∧Below w w w':=by
 have HX:=zac hl;have HC:=zac fun(m:MTx) W (hb:Below w w W)=>zjV B x mb pb s lv sv m W (h.below hb) ((hb.cell (p:=⟨pb,0,none⟩) hpl).trans hp) (yab hpl hb.size)
 clear h hp hl;go_enter func83,ntmps83;go_wp2_with fail;go_loopw [8] (fun i wr=>∃ j:Nat,j≤l.length∧i=ii j∧zh5 (zgL s) (l.drop j) j=zh5 (zgL s) l 0∧Below w w wr) (fun i _=>l.length-(intOf i).toNat)
 case atStart=>exact⟨0,yay _,rfl,by rw[yaA],yaf _ _⟩
 case round=>
  obtain⟨j,hj,rfl,hgo,hbl⟩:=hrel;obtain⟨x0,rfl⟩:=zad hbl;clear hbl;by_cases hjl:j<l.length
  ·obtain⟨b,o,rfl,hb,d0,d1,d2,d3,d4,d5,d6,d7,d8⟩:=HX.out j l[j] (yaa hjl)
   have hdrop:l.drop j=l[j]::l.drop (j+1):=yaK hjl;rw[hdrop]at hgo;have hgo2:(if zgL s l[j]=true then (j:Int)else zh5 (zgL s) (l.drop (j+1)) (j+1))=zh5 (zgL s) l 0:=by rw[←hgo];rfl
   have HG:=zac hgo2;have HCJ:=zac fun W hb=>HC.out l[j] W hb
   clear hgo hgo2 hdrop;generalize hcv:zgL s l[j]=R at *;generalize l[j]=m at *;obtain⟨⟨msite,mseq,mwall,mcount,md0,md1,md2,md3,mws⟩,mA,mc⟩:=m;simp only at d0 d1 d2 d3 d4 d5 d6 d7 d8;unfold MTx.val at HCJ;haveI:zaj (b+1) w:=⟨hb⟩;clear hcv;go_wp2_with fail;go_at_call 85;refine(HCJ.out _ (zax _ _)).mono ?_;rintro e w' ⟨rfl,hb2⟩;obtain⟨x4,rfl⟩:=zad hb2;clear hb2;cases R
   ·go_wp2_with fail
    go_roundw
    case rel=>exact⟨j+1,zO,by go_num,by rw[←HG.out];rfl,zB⟩
    case measure=>simp[intOf];omega
   ·go_wp2_with fail
    go_ret;exact⟨by rw[←HG.out];rfl,zB⟩
  ·obtain rfl:j=l.length:=by omega
   rw[ybt]at hgo;have HG:=zac hgo;clear hgo hj hjl;go_wp2_with fail;go_ret;exact⟨by rw[←HG.out];rfl,zB⟩
def zhw (f:Int→Int→Option MTx) (a b:Int) (v:Option MTx):Int→Int→Option MTx:=fun a' b'=>if a'=a∧b'=b then v else f a' b'
theorem zj5 (f:Int→Int→Option MTx) (a b:Int) (v:Option MTx):(fun a' b'=>(zhw f a b v a' b').map MTx.val)=mput (fun a' b'=>(f a' b').map MTx.val) a b (v.map MTx.val):=by
 funext a' b';unfold zhw mput;split <;> rfl
def SiP.wait (s:SiP) (m:MTx):SiP:={ s with wt:=zhw s.wt m.t.site m.t.seq (some m),wn:=if(s.wt m.t.site m.t.seq).isSome then s.wn else s.wn+1 }
def SiP.unwait (s:SiP) (m:MTx):SiP:={ s with wt:=zhw s.wt m.t.site m.t.seq none,wn:=if(s.wt m.t.site m.t.seq).isSome then s.wn-1 else s.wn }
def zdh (s:SiP):Option MTx:=(zbu s 4).find? (zgL s)
def runP:Nat→SiP→SiP
 | 0,s=>s
 | f+1,s=>match zdh s with
   | none=>s
   | some m=>if 200≤s.log.length then s else runP f (zbo (s.unwait m) m)
def takeE (s:SiP) (t:TxP):Int:=
 if zaf t=false∨t.site=s.id then 1 else if t.seq≤s.at t.site∨(s.wt t.site t.seq).isSome=true then 9
 else if 200≤s.log.length∨(40≤s.wn∧(t.seq≠s.at t.site+1∨zdp s.p0 s.p1 s.p2 s.p3 t.d0 t.d1 t.d2 t.d3=false))then 12 else 0
structure Inv (s:SiP):Prop where
 ap:zlE s
 id:0≤s.id∧s.id<4
 wt:∀ a b m,s.wt a b=some m→m.t.site=a∧m.t.seq=b∧zaf m.t=true
 fit:Fit s.st (5*s.log.length)
 dat:zj4 s.st
 log:s.log.length≤200
theorem zar {t:TxP}(h:zaf t=true):(0≤t.site∧t.site<4)∧(1≤t.seq∧t.seq≤1099511627776)∧1≤t.ws.length∧t.ws.length≤5:=by
 unfold zaf zgo zaX at h;simp only[yav,yap]at h;exact⟨h.1.1.1.1.1.1,h.1.1.1.1.1.2,h.2.1.2,h.2.2⟩
theorem zh4 (p:MTx→Bool):∀ (l:List MTx) (i:Nat),(l.find? p=none∧zh5 p l i=-1)∨∃ j m,l.find? p=some m∧l[j]?=some m∧zh5 p l i=((i+j:Nat):Int)
 | [],i=>.inl ⟨rfl,rfl⟩
 | m::l,i=>by
   unfold zh5;by_cases h:p m=true
   ·rw[yaj h]
    exact .inr ⟨0,m,by simp[h],rfl,zS⟩
   ·rw[yad h]
    have h':p m=false:=by simpa using h
    rcases zh4 p l (i+1)with ⟨h1,h2⟩|⟨j,m',h1,h2,h3⟩
    ·exact .inl ⟨by simp[h',h1],h2⟩
    ·exact .inr ⟨j+1,m',by simp[h',h1],by simpa using h2,by rw[h3];congr 1;omega⟩
theorem zle {s:SiP}{k:Nat}{m:MTx}(h:m∈zbu s k):∃ i:Nat,i<k∧s.wt (i:Int) (s.at (i:Int)+1)=some m:=by
 unfold zbu at h;obtain⟨i,hi,he⟩:=ycl.1 h;exact⟨i,ybK.1 hi,he⟩
theorem zcR (s:SiP) (k:Nat):(zbu s k).length≤k:=by
 unfold zbu;exact yac (ybW _ _) zS
theorem zjE {s:SiP}{m:MTx}(h:zdh s=some m):∃ i:Nat,i<4∧s.wt (i:Int) (s.at (i:Int)+1)=some m∧zgL s m=true:=by
 unfold zdh at h;obtain⟨i,hi,he⟩:=zle (ybU h);exact⟨i,hi,he,List.find?_some h⟩
theorem Inv.has {s:SiP}(h:Inv s){m:MTx}(hn:zdh s=some m):zaf m.t=true∧s.wt m.t.site m.t.seq=some m∧m.t.seq=s.at m.t.site+1:=by
 obtain⟨i,hi,he,_⟩:=zjE hn;obtain⟨h1,h2,h3⟩:=h.wt _ _ _ he;exact⟨h3,by rw[h1,h2];exact he,by rw[h2,h1]⟩
theorem putP_dat {S:Nat→List zaE}{p:PtP}(h:zj4 S):zj4 (putP S p):=by
 intro k hk v hv;unfold putP zgK at hv;split at hv
 ·exact h k hk v hv
 ·split at hv
  ·exact h k hk v hv
  ·rename_i hr
   split at hv
   ·exact h k hk v hv
   ·simp only at hv
    split at hv
    ·rcases(zkm _ _ _).1 hv with rfl|hv
     ·have hr:zba p.v=true:=by simpa using hr
      unfold zba at hr;simp only[yav,yap]at hr;exact hr.1.2
     ·exact h k hk v hv
    ·exact h k hk v hv
theorem zf0 {st:Nat→List zaE}(h:zj4 st) (t:TxP):∀ j,zj4 (zfy st t j)
 | 0=>h
 | j+1=>putP_dat (zf0 h t j)
theorem zbV.waitsTo {w w':World}{B x mb n:Nat}{s:SiP}{lv:Value}{sv:Nat→Value}{f:Int→Int→Option MTx}(h:zbV w B x s mb lv sv) (hg:w.grownBy w' (some mb)) (hm:zfw w' mb (fun a b=>(f a b).map MTx.val) n)
  (hd:∀ m,(∃ a b,f a b=some m)→zaN w m.A m.t.ws∧∀ b o,m.A=some ⟨b,o,none⟩→b<w.heap.size∧¬zaW x mb lv sv b):
  zbV w' B x { s with wt:=f,wn:=n } mb lv sv∧zaO w w' (zaW x mb lv sv) (zaW x mb lv sv):=by
 have hb:∀ b,b<w.heap.size→b≠mb→w'.heap[b]?=w.heap[b]?:=fun b hb hne=>hg.block b hb (by simp;exact hne)
 have hx:=hb x h.sto.lt (fun e=>h.dxm e.symm);have hc:∀ k,w'.cell? ⟨x,k,none⟩=w.cell? ⟨x,k,none⟩:=fun k=>yam hx
 have hf:∀ k,w'.frozen? ⟨x,k,none⟩=w.frozen? ⟨x,k,none⟩:=fun k=>yal hx
 have hrow:∀ {e n z:Nat}{v:Value}{xs:List Value},w.ownsRow B e z v n xs→v.ownBlock≠some mb→w'.ownsRow B e z v n xs:=fun h1 h2=>h1.kept hg (by
  rename_i v xs;cases hv:v.ownBlock with
  | none=>exact .inl rfl
  | some b=>exact .inr (fun e=>h2 (hv.trans e)))
 have hdata:∀ m:MTx,(zaN w m.A m.t.ws∧∀ b o,m.A=some ⟨b,o,none⟩→b<w.heap.size∧¬zaW x mb lv sv b)→zaN w' m.A m.t.ws∧∀ b o,m.A=some ⟨b,o,none⟩→b<w'.heap.size∧¬zaW x mb lv sv b:=fun m hm'=>
  ⟨hm'.1.keep fun b o e=>hb b (hm'.2 b o e).1 (fun e2=>(hm'.2 b o e).2 (.inr (.inl e2))),fun b o e=>⟨yab (hm'.2 b o e).1 hg.size,(hm'.2 b o e).2⟩⟩
 refine⟨⟨(hc 0).trans h.c0,(hc 1).trans h.c1,(hc 2).trans h.c2,(hc 3).trans h.c3,(hc 4).trans h.c4,(hc 5).trans h.c5,(hc 6).trans h.c6,(hc 7).trans h.c7,(hc 8).trans h.c8,fun k hk=>(hc _).trans (h.oth k hk),fun k=>(hf k).trans (h.frz k),?_,hrow h.row h.dml,hm,h.bx,h.bm,h.dxm,h.dxl,h.dml,h.dms,h.dls,?_⟩,
  ⟨hg.os,hg.tape,hg.output,hg.size,fun k hk hn=>hb k hk (fun e=>hn (.inr (.inl e))),fun _ h=>.inl h⟩⟩
 ·exact⟨yab h.sto.lt hg.size,fun k hk=>(hc _).trans (h.sto.cel k hk),fun k hk=>(hf _).trans (h.sto.frz k hk),fun k hk=>hrow (h.sto.own k hk) (h.dms k hk),h.sto.ng,h.sto.dis⟩
 ·intro m hm'
  rcases hm' with hm'|hm'
  ·exact hdata m (h.dat m (.inl hm'))
  ·exact hdata m (hd m hm')
theorem zbV.wait {w w':World}{B x mb n:Nat}{s:SiP}{lv:Value}{sv:Nat→Value}{m:MTx}(h:zbV w B x s mb lv sv) (hg:w.grownBy w' (some mb)) (hm:zfw w' mb (mput (fun a b=>(s.wt a b).map MTx.val) m.t.site m.t.seq (some m.val)) n)
  (hn:n=(s.wait m).wn) (hd:zaN w m.A m.t.ws∧∀ b o,m.A=some ⟨b,o,none⟩→b<w.heap.size∧¬zaW x mb lv sv b):zbV w' B x (s.wait m) mb lv sv∧zaO w w' (zaW x mb lv sv) (zaW x mb lv sv):=by
 subst hn;refine h.waitsTo hg (by have:=zj5 s.wt m.t.site m.t.seq (some m);rw[this];exact hm) ?_;rintro m' ⟨a,b,e⟩;unfold zhw at e;split at e
 ·cases e;exact hd
 ·exact h.dat m' (.inr ⟨a,b,e⟩)
theorem zbV.unwait {w w':World}{B x mb n:Nat}{s:SiP}{lv:Value}{sv:Nat→Value}{m:MTx}(h:zbV w B x s mb lv sv) (hg:w.grownBy w' (some mb)) (hm:zfw w' mb (mput (fun a b=>(s.wt a b).map MTx.val) m.t.site m.t.seq none) n)
  (hn:n=(s.unwait m).wn):zbV w' B x (s.unwait m) mb lv sv∧zaO w w' (zaW x mb lv sv) (zaW x mb lv sv):=by
 subst hn;refine h.waitsTo hg (by have:=zj5 s.wt m.t.site m.t.seq none;rw[this];exact hm) ?_;rintro m' ⟨a,b,e⟩;unfold zhw at e;split at e
 ·cases e
 ·exact h.dat m' (.inr ⟨a,b,e⟩)
def mSize (w:World) (mb:Nat):Nat:=match w.heap[mb]? with|some (.map es _)=>es.size|_=>0
theorem zfw.msize {w:World}{m sz:Nat}{f:Int→Int→Option Value}(h:zfw w m f sz):mSize w m=sz:=by
 obtain⟨D,⟨es,clock,hb,F,hs,hD⟩,h2,h3⟩:=h;unfold mSize;rw[hb,←h2,hD];simp[Maps.size,length_sorted]
theorem zdm (s:SiP) (m:MTx):(zbo s m).wt=s.wt:=rfl
theorem zgD (s:SiP) (m:MTx):(zbo s m).wn=s.wn:=rfl
theorem zbU (s:SiP) (m:MTx):(zbo s m).log=s.log++[m]:=rfl
theorem zgE (s:SiP) (m:MTx):(zbo s m).st=zfy s.st m.t m.t.ws.length:=rfl
theorem Inv.wait {s:SiP}(h:Inv s){m:MTx}(hr:zaf m.t=true):Inv (s.wait m):=
 ⟨h.ap,h.id,fun a b m' e=>by
   unfold SiP.wait zhw at e;simp only at e;split at e
   ·rename_i hab
    cases e;exact⟨hab.1.symm,hab.2.symm,hr⟩
   ·exact h.wt a b m' e,h.fit,h.dat,h.log⟩
theorem zhc {s:SiP}{m:MTx}(h:zlE s) (hq:0≤m.t.seq∧m.t.seq≤1099511627776):zlE (zbo s m):=by
 unfold zlE at *;unfold zbo SiP.setc;simp only
 repeat' split
 all_goals omega
theorem Inv.apply {s:SiP}(h:Inv s){m:MTx}(hr:zaf m.t=true) (hl:¬200≤s.log.length):Inv (zbo (s.unwait m) m):=by
 obtain⟨r1,r2,r3,r4⟩:=zar hr;refine⟨zhc (s:=s.unwait m) h.ap ⟨zO,zO⟩,h.id,?_,?_,zf0 h.dat _ _,?_⟩
 ·intro a b m' e
  rw[zdm]at e;unfold SiP.unwait zhw at e;simp only at e;split at e
  ·cases e
  ·exact h.wt a b m' e
 ·rw[zgE,zbU]
  refine(zeE h.fit m.t m.t.ws.length).mono ?_;simp only[yak,yaq,yaB];show 5*s.log.length+_≤5*(s.log.length+1);omega
 ·rw[zbU]
  simp only[yak,yaq,yaB];show s.log.length+1≤200;omega
theorem zde {s:SiP}{m:MTx}{f:Nat}(hn:zdh s=some m) (hl:¬200≤s.log.length):runP (f+1) s=runP f (zbo (s.unwait m) m):=by
 conv=>lhs;unfold runP
 rw[hn];simp only[yad hl]
theorem zbN {s:SiP}(h:zdh s=none∨200≤s.log.length):∀ f,runP f s=s
 | 0=>rfl
 | f+1=>by
   unfold runP;rcases h with h|h
   ·rw[h]
   ·cases zdh s with
    | none=>rfl
    | some m=>simp[h]
def zc4 (s:SiP) (key a0 a1 a2 a3:Int):zaE×Int:=if zdp s.p0 s.p1 s.p2 s.p3 a0 a1 a2 a3=true then zcO a0 a1 a2 a3 s.st key else (verZ,10)
theorem ziq (B x mb:Nat) (s:SiP) (lv:Value) (sv:Nat→Value) (key a0 a1 a2 a3:Int) (w:World) (h:zbV w B x s mb lv sv) (hf:Fit s.st 900000):
  Calls prog 25 #[.pointer (some ⟨x,0,none⟩),key,.agg #[ii a0,ii a1,ii a2,ii a3]] w fun e w'=>
   e=.returned (.tuple #[zbX (zc4 s key a0 a1 a2 a3).1,zbT (zc4 s key a0 a1 a2 a3).2])∧Below w w w':=by
 obtain⟨c1,c2,c3,c4⟩:=h.vec;have HCV:=zac fun W=>zdj s.p0 s.p1 s.p2 s.p3 a0 a1 a2 a3 W
 have HRD:=zac fun W (hB:Below w w W)=>ziC x 9 B s.st sv key a0 a1 a2 a3 W (h.sto.below hB) (fun k hk=>(hf k hk).1) (fun k hk=>(hf k hk).2)
 have HE:=zac (show zc4 s key a0 a1 a2 a3=if zdp s.p0 s.p1 s.p2 s.p3 a0 a1 a2 a3=true then zcO a0 a1 a2 a3 s.st key else (verZ,10)from rfl);generalize zc4 s key a0 a1 a2 a3=F at *;haveI:zaj (x+1) w:=⟨h.sto.lt⟩;clear h hf;cases hcv:zdp s.p0 s.p1 s.p2 s.p3 a0 a1 a2 a3
 ·rw[hcv]at HCV HE
  have HE2:Hid (F=(verZ,10)):=zac (by rw[HE.out];rfl);clear hcv HE;go_enter func25,ntmps25;go_wp2_with fail;refine zaz fun x3=>?_
  go_wp2_with fail;refine yag (v:=.tuple #[zbX verZ,zbT 10]) ?_ rfl ⟨by rw[HE2.out],zB⟩;simp[results,results25,go_sem,zbX,verZ];rfl
 ·rw[hcv]at HCV HE
  have HE2:Hid (F=zcO a0 a1 a2 a3 s.st key):=zac (by rw[HE.out];rfl);clear hcv HE;obtain⟨⟨⟨vw,vc,vs,vq,vd,vg⟩,z⟩,hR⟩:∃ R,zcO a0 a1 a2 a3 s.st key=R:=⟨_,rfl⟩;rw[hR]at HRD HE2;unfold zbX at HRD;clear hR;go_enter func25,ntmps25;go_wp2_with fail;refine zaz fun x3=>?_
  go_wp2_with fail;refine zas 8 zK zK ?_;simp only[yat,yaQ,yau,yaA]
  repeat(first|go_big_quiet_skip|(go_big_quiet_want;go_big_quiet_op;first|go_big_quiet_on|(apply Exists.intro;refine⟨fun _=>?_,?_⟩;(go_at_call 92;exact Calls.plus_of (HRD.out _ zB));go_big_quiet_on)))
  refine yaM ?_;rintro _ ⟨x4,rfl⟩;go_wp2_with fail;refine yag (v:=.tuple #[zbX ⟨vw,vc,vs,vq,vd,vg⟩,zbT z]) ?_ rfl ⟨by rw[HE2.out],zB⟩;simp[results,results25,go_sem,zbX]
def zbP (aw ac now:Int):Int:=if zav aw ac=false∨now<0∨1099511627776<now then 2 else if aw<now then 0 else if ac=1099511627776 then 12 else 0
def ze9 (aw now:Int):Int:=if aw<now then now else aw
def zfa (aw ac now:Int):Int:=if aw<now then 0 else ac+1
theorem zf3 {aw ac:Int}(h:zav aw ac=true):(0≤aw∧aw≤1099511627776)∧0≤ac∧ac≤1099511627776:=by
 simpa[zav,and_assoc]using h
theorem zmL (aw ac now:Int) (w:World):Calls prog 78 #[.agg #[ii aw,ii ac],now] w fun e w'=>
  e=.returned (.tuple #[if zbP aw ac now=0 then .agg #[ii (ze9 aw now),ii (zfa aw ac now)]else .agg #[ii 0,ii 0],zbT (zbP aw ac now)])∧Below w w w':=by
 by_cases hr:zav aw ac=true
 ·have hb:=zf3 hr
  by_cases h0:now<0
  ·have e:zbP aw ac now=2:=by unfold zbP;rw[yaj (.inr (.inl h0))]
   rw[e,yad zI];exact next_r2 aw ac now w hr h0
  ·by_cases h1:1099511627776<now
   ·have e:zbP aw ac now=2:=by unfold zbP;rw[yaj (.inr (.inr h1))]
    rw[e,yad zI];exact next_r3 aw ac now w hr zO h1
   ·have hno:¬(zav aw ac=false∨now<0∨1099511627776<now):=by rw[hr];simp;omega
    by_cases h:aw<now
    ·have e:zbP aw ac now=0:=by unfold zbP;rw[yad hno,yaj h]
     rw[e,yaj rfl];unfold ze9 zfa;rw[yaj h,yaj h];exact next_new aw ac now w hr zO zO h
    ·by_cases hf:ac=1099511627776
     ·have e:zbP aw ac now=12:=by unfold zbP;rw[yad hno,yad h,yaj hf]
      rw[e,yad zI];exact zmM aw ac now w hr zO zO zO (by simp[hf])
     ·have e:zbP aw ac now=0:=by unfold zbP;rw[yad hno,yad h,yad hf]
      rw[e,yaj rfl];unfold ze9 zfa;rw[yad h,yad h];exact next_inc aw ac now w hr zO zO zO (by simp[hf]) hb.2
 ·have hr:zav aw ac=false:=by simpa using hr
  have e:zbP aw ac now=2:=by unfold zbP;rw[yaj (.inl hr)]
  rw[e,yad zI];exact next_r1 aw ac now w hr
def commitE (s:SiP) (now d0 d1 d2 d3:Int) (ws:List WrP):Int:=
 if zaX ws=false then 1 else if zcq d0 d1 d2 d3=false∨zdp s.p0 s.p1 s.p2 s.p3 d0 d1 d2 d3=false then 10 else if 200≤s.log.length then 12 else zbP s.lw s.lc now
def zcj (s:SiP) (now d0 d1 d2 d3:Int) (ws:List WrP):TxP:=
 ⟨s.id,s.at s.id+1,ze9 s.lw now,zfa s.lw s.lc now,if s.id=0 then s.p0 else d0,if s.id=1 then s.p1 else d1,if s.id=2 then s.p2 else d2,if s.id=3 then s.p3 else d3,ws⟩
def zhv (B x mb:Nat) (s:SiP) (lv:Value) (sv:Nat→Value) (n:Int) (T:TxP) (w:World) (e:Ending) (w':World):Prop:=
 (n≠0→e=.returned (.tuple #[txZero,zbT n])∧Below w w w')∧
 (n=0→∃ A' c' A2 c2 lv' sv',e=.returned (.tuple #[MTx.val ⟨T,A',c'⟩,.nilIface])∧zbV w' B x (zbo s ⟨T,A2,c2⟩) mb lv' sv'∧zaO w w' (zaW x mb lv sv) (zaW x mb lv' sv')∧(∀ b o,A2=some ⟨b,o,none⟩→w.heap.size≤b)∧zaN w' A' T.ws∧∃ b,A'=some ⟨b,0,none⟩∧w.heap.size≤b∧¬zaW x mb lv' sv' b)
theorem ze5 {ws:List WrP}{b:Bool}(h:zaX ws=b) (A:Option Addr) (c:Nat) (w:World) (hn:ws.length≤1000000) (hws:zaN w A ws):Calls prog 76 #[.slice A ws.length c] w fun e w'=>e=.returned (.bool b)∧Below w w w':=by
 subst h;exact zcS A c ws w hn hws
theorem zdT {a0 a1 a2 a3 b0 b1 b2 b3:Int}{b:Bool}(h:zdp a0 a1 a2 a3 b0 b1 b2 b3=b) (w:World):
  Calls prog 55 #[.agg #[ii a0,ii a1,ii a2,ii a3],.agg #[ii b0,ii b1,ii b2,ii b3]] w fun e w'=>e=.returned (.bool b)∧Below w w w':=by
 subst h;exact zdj a0 a1 a2 a3 b0 b1 b2 b3 w
theorem zd2 (w:World) (b:Nat) (u0 u1 u2 u3 u4 u5 u6 u7 u8:Value):w.grownBy (zcx w b u0 u1 u2 u3 u4 u5 u6 u7 u8) (some b):=
 ((((((((zan _ b 0 u0).trans (zan _ b 1 u1)).trans (zan _ b 2 u2)).trans (zan _ b 3 u3)).trans (zan _ b 4 u4)).trans (zan _ b 5 u5)).trans (zan _ b 6 u6)).trans (zan _ b 7 u7)).trans (zan _ b 8 u8)
theorem ziJ (w:World) (b:Nat) (u0 u1 u2 u3 u4 u5 u6 u7 u8:Value):(zcx w b u0 u1 u2 u3 u4 u5 u6 u7 u8).heap.size=w.heap.size:=by
 unfold zcx;simp[World.setCell]
theorem zaO.box {w W W':World}{own own':Nat→Prop}{q:Nat}(h:zaO w W own own') (hg:W.grownBy W' (some q)) (hq:w.heap.size≤q):zaO w W' own own':=
 ⟨hg.os.trans h.os,hg.tape.trans h.tape,hg.output.trans h.output,yac h.size hg.size,fun k hk hn=>(hg.block k (yab hk h.size) zP).trans (h.block k hk hn),h.own⟩
theorem zaO.andBelow {w W W':World}{own own':Nat→Prop}(h:zaO w W own own') (hb:Below W W W'):zaO w W' own own':=h.trans (zaO.of_below own' hb)
theorem zjW (B x mb:Nat) (s:SiP) (lv:Value) (sv:Nat→Value) (now d0 d1 d2 d3:Int) (A:Option Addr) (c:Nat) (ws:List WrP) (w:World) (h:zbV w B x s mb lv sv) (hi:Inv s) (hws:zaN w A ws) (hn:ws.length≤1000000)
  (hrw:zaX ws=true) (hrv:zcq d0 d1 d2 d3=true) (hcv:zdp s.p0 s.p1 s.p2 s.p3 d0 d1 d2 d3=true) (h200:¬200≤s.log.length) (hnx:zbP s.lw s.lc now=0):
  Calls prog 15 #[.pointer (some ⟨x,0,none⟩),now,.agg #[ii d0,ii d1,ii d2,ii d3],.slice A ws.length c] w
   (fun e w'=>∃ A' c' A2 c2 lv' sv',e=.returned (.tuple #[MTx.val ⟨zcj s now d0 d1 d2 d3 ws,A',c'⟩,.nilIface])∧zbV w' B x (zbo s ⟨zcj s now d0 d1 d2 d3 ws,A2,c2⟩) mb lv' sv'∧zaO w w' (zaW x mb lv sv) (zaW x mb lv' sv')∧(∀ b o,A2=some ⟨b,o,none⟩→w.heap.size≤b)∧zaN w' A' (zcj s now d0 d1 d2 d3 ws).ws∧∃ b,A'=some ⟨b,0,none⟩∧w.heap.size≤b∧¬zaW x mb lv' sv' b):=by
 have HS:=zac h;have HI:=zac hi;have HWS:=zac hws;obtain⟨Al,cl,hlv⟩:=zaP h.row;have c7:=h.c7;rw[hlv]at c7;have HLV:=zac hlv;obtain⟨c1,c2,c3,c4⟩:=h.vec;have c5:=h.c5;have c6:=h.c6;have c0:=h.c0;haveI:zaj (x+1) w:=⟨h.sto.lt⟩;have HRW:=zac fun W (hB:Below w w W)=>ze5 hrw A c W hn (HWS.out.below hB)
 have HRV:=zac fun W=>zbY hrv W
 have HCV:=zac fun W=>zdT hcv W
 have hd3:decide ((200:Int)≤(s.log.length:Int))=false:=zU;have HNX:=zac fun W=>zmL s.lw s.lc now W
 have H200:=zac h200;have HRW2:=zac hrw;rw[hnx]at HNX;have hev:zbT 0=.nilIface:=rfl;simp only[yaj,hev]at HNX;have hid0:=hi.id;obtain⟨k,hk⟩:=yar hid0.1;have hk4:(k:Int)<4:=by omega
 have hk0:(0:Int)≤(k:Int):=by omega
 rw[hk]at c0;have ca:=h.apc (k:=k) zO;obtain⟨ap,hape⟩:∃ ap,s.at (k:Int)=ap:=⟨_,rfl⟩;have hap:=hi.ap.at (k:Int);rw[hape]at ca hap;obtain⟨hap0,hap1⟩:=hap;have hwr:IntKind.i64.wrap (ap+1)=ap+1:=by rw[ybm];omega
 have HK:=zac hk;have HAP:=zac hape;generalize hNW:ze9 s.lw now=NW at HNX;generalize hNC:zfa s.lw s.lc now=NC at HNX;have HNW:=zac hNW;have HNC:=zac hNC;clear h hi hlv hrw hrv hcv hws h200 hnx hev hid0 hk hape hNW hNC;generalize hT:zcj s now d0 d1 d2 d3 ws=T;have HT0:=zac hT;clear hT;go_enter func15,ntmps15;go_wp2_with fail;go_at_call 76;refine(HRW.out _ zB).mono ?_;rintro e w' ⟨rfl,hb⟩;obtain⟨x1,rfl⟩:=zad hb;clear hb;go_wp2_with fail;refine zaz fun x2=>?_
 go_wp2_with fail;go_at_call 78;refine(HNX.out _).mono ?_;rintro e w' ⟨rfl,hb⟩;obtain⟨x3,rfl⟩:=zad hb;clear hb;go_wp2_with fail;have HSZ:Hid ((((zai (zai (zai ((w.alloc (Obj.cells #[d0,d1,d2,d3] 32)).alloc (Obj.cells #[ii 0,ii 0,ii 0,ii 0,ii 0,ii 0,ii 0,ii 0,.slice none 0 0] 44)) x1) x2) x3)).heap.size)=w.heap.size+1+1+x1.blocks.size+x2.blocks.size+x3.blocks.size):=zac zS;have HBC:Hid (Below w w ((zai (zai (zai ((w.alloc (Obj.cells #[d0,d1,d2,d3] 32)).alloc (Obj.cells #[ii 0,ii 0,ii 0,ii 0,ii 0,ii 0,ii 0,ii 0,.slice none 0 0] 44)) x1) x2) x3).alloc (.cells #[NW,NC] 34))):=zac zB;have HQ2:Hid (((zai (zai (zai ((w.alloc (Obj.cells #[d0,d1,d2,d3] 32)).alloc (Obj.cells #[ii 0,ii 0,ii 0,ii 0,ii 0,ii 0,ii 0,ii 0,.slice none 0 0] 44)) x1) x2) x3).alloc (.cells #[NW,NC] 34)).heap[w.heap.size]?=some (Obj.cells #[d0,d1,d2,d3] 32)):=zac (by
  refine((show Below (w.alloc (Obj.cells #[d0,d1,d2,d3] 32)).heap.size (w.alloc (Obj.cells #[d0,d1,d2,d3] 32)) _ from zB).block _ zS).trans (zag rfl _))
 have HQ3:Hid (((zai (zai (zai ((w.alloc (Obj.cells #[d0,d1,d2,d3] 32)).alloc (Obj.cells #[ii 0,ii 0,ii 0,ii 0,ii 0,ii 0,ii 0,ii 0,.slice none 0 0] 44)) x1) x2) x3).alloc (.cells #[NW,NC] 34)).heap[w.heap.size+1]?=some (Obj.cells #[ii 0,ii 0,ii 0,ii 0,ii 0,ii 0,ii 0,ii 0,.slice none 0 0] 44)):=zac (by
  refine((show Below ((w.alloc (Obj.cells #[d0,d1,d2,d3] 32)).alloc (Obj.cells #[ii 0,ii 0,ii 0,ii 0,ii 0,ii 0,ii 0,ii 0,.slice none 0 0] 44)).heap.size ((w.alloc (Obj.cells #[d0,d1,d2,d3] 32)).alloc (Obj.cells #[ii 0,ii 0,ii 0,ii 0,ii 0,ii 0,ii 0,ii 0,.slice none 0 0] 44)) _ from zB).block _ zS).trans (zag zS _))
 have HQ4:Hid (((zai (zai (zai ((w.alloc (Obj.cells #[d0,d1,d2,d3] 32)).alloc (Obj.cells #[ii 0,ii 0,ii 0,ii 0,ii 0,ii 0,ii 0,ii 0,.slice none 0 0] 44)) x1) x2) x3).alloc (.cells #[NW,NC] 34)).heap[w.heap.size+1+1+x1.blocks.size+x2.blocks.size+x3.blocks.size]?=some (.cells #[NW,NC] 34)):=zac (zag HSZ.out.symm _);clear c0 c1 c2 c3 c5 c6 c7 ca HRV HCV HNX hd3 HRW;have HTB:Hid (w.heap.size+1+1≤w.heap.size+1+1+x1.blocks.size+x2.blocks.size+x3.blocks.size):=zac zO;generalize w.heap.size+1+1+x1.blocks.size+x2.blocks.size+x3.blocks.size=tb at *;generalize (zai (zai (zai ((w.alloc (Obj.cells #[d0,d1,d2,d3] 32)).alloc (Obj.cells #[ii 0,ii 0,ii 0,ii 0,ii 0,ii 0,ii 0,ii 0,.slice none 0 0] 44)) x1) x2) x3).alloc (.cells #[NW,NC] 34)=W at *;clear HSZ;have HSW:=zac (HS.out.below HBC.out);have c0:=HSW.out.c0;rw[HK.out]at c0;have ca:=HSW.out.apc (k:=k) zO;rw[HAP.out]at ca;haveI:zaj (x+1) W:=⟨HSW.out.sto.lt⟩;haveI:zaj (w.heap.size+1) W:=⟨zae HQ2.out⟩;haveI:zaj (w.heap.size+1+1) W:=⟨zae HQ3.out⟩;haveI:zaj (tb+1) W:=⟨zae HQ4.out⟩;obtain⟨zu,hzu⟩:∃ zu,W.cell? ⟨w,k,none⟩=some (ii zu):=by
  have hc:k=0∨k=1∨k=2∨k=3:=by omega
  rcases hc with rfl|rfl|rfl|rfl <;> exact⟨_,zaa HQ2.out _⟩
 have hzf:=zab HQ2.out k;have q1:=zaa HQ4.out 0;have q2:=zaa HQ4.out 1;simp only[zC,zD,zE]at q1 q2;go_wp2_with fail;refine zb9 13 fun x4=>?_
 go_wp2_with fail;have HBC2:Hid (Below w w (zai (W.setCell ⟨w,k,none⟩ (ii ap)) x4)):=zac (by
  have h1:Below w w (W.setCell ⟨w,k,none⟩ (ii ap)):=yaE HBC.out (zan W w.heap.size k _) HBC.out.size (fun j e=>by simp at e;omega);exact h1.trans ((zax _ _).mono h1.size))
 have hgs:=zan W w.heap.size k (ii ap);have HP2:Hid ((zai (W.setCell ⟨w,k,none⟩ (ii ap)) x4).heap[w.heap.size]?=some (.cells #[ii (if k=0 then ap else d0),ii (if k=1 then ap else d1),ii (if k=2 then ap else d2),ii (if k=3 then ap else d3)] 32)):=zac (by
  rw[zak _ _ _ (by have:=zae (zam HQ2.out k (ii ap));exact this),zam HQ2.out k (ii ap)];have hc:k=0∨k=1∨k=2∨k=3:=by omega
  rcases hc with rfl|rfl|rfl|rfl <;> rfl)
 have HP3:Hid ((zai (W.setCell ⟨w,k,none⟩ (ii ap)) x4).heap[w.heap.size+1]?=some (Obj.cells #[ii 0,ii 0,ii 0,ii 0,ii 0,ii 0,ii 0,ii 0,.slice none 0 0] 44)):=zac (by
  have e:=(hgs.block (w.heap.size+1) (zae HQ3.out) zS).trans HQ3.out;rw[zak _ _ _ (zae e)];exact e)
 have HP4:Hid ((zai (W.setCell ⟨w,k,none⟩ (ii ap)) x4).heap[tb]?=some (.cells #[NW,NC] 34)):=zac (by
  have ht:=HTB.out;have e:=(hgs.block tb (zae HQ4.out) zP).trans HQ4.out;rw[zak _ _ _ (zae e)];exact e)
 clear hgs hzu hzf q1 q2 c0 ca;generalize zai (W.setCell ⟨w,k,none⟩ (ii ap)) x4=W2 at *;clear HQ2 HQ3 HQ4 HSW HBC;have HDD:Hid (zcj s now d0 d1 d2 d3 ws=⟨(k:Int),ap+1,NW,NC,if k=0 then ap else d0,if k=1 then ap else d1,if k=2 then ap else d2,if k=3 then ap else d3,ws⟩):=zac (by
  have hk:=HK.out;have ha:=HAP.out;unfold zcj;rw[HNW.out,HNC.out,hk,ha];have hc:k=0∨k=1∨k=2∨k=3:=by omega
  rcases hc with rfl|rfl|rfl|rfl <;> simp[SiP.at,atV]at ha ⊢ <;> first|exact ha|skip)
 generalize (if k=0 then ap else d0)=f0 at *;generalize (if k=1 then ap else d1)=f1 at *;generalize (if k=2 then ap else d2)=f2 at *;generalize (if k=3 then ap else d3)=f3 at *;have HSW:=zac (HS.out.below HBC2.out);have c0:=HSW.out.c0;rw[HK.out]at c0;have ca:=HSW.out.apc (k:=k) zO;rw[HAP.out]at ca;haveI:zaj (x+1) W2:=⟨HSW.out.sto.lt⟩;haveI:zaj (w.heap.size+1) W2:=⟨zae HP2.out⟩;haveI:zaj (w.heap.size+1+1) W2:=⟨zae HP3.out⟩;haveI:zaj (tb+1) W2:=⟨zae HP4.out⟩;have q1:=zaa HP4.out 0;have q2:=zaa HP4.out 1;have g0:=zaa HP2.out 0;have g1:=zaa HP2.out 1;have g2:=zaa HP2.out 2;have g3:=zaa HP2.out 3;simp only[zC,zD,zE]at q1 q2 g0 g1 g2 g3;obtain⟨hw1,hw5⟩:1≤ws.length∧ws.length≤5:=by
  have:=HRW2.out;unfold zaX at this;simp only[yav,yap]at this;exact⟨this.1.2,this.2⟩
 have HCL:=zac fun X (hB:Below w w X)=>zg6 A c ws X (HWS.out.below hB) hw1 zO
 go_region_held3 (fun X:World=>X.cell? ⟨x,0,none⟩=some (ii (k:Int))∧X.cell? ⟨x,1+k,none⟩=some (ii ap)∧X.cell? ⟨tb,0,none⟩=some (ii NW)∧X.cell? ⟨tb,1,none⟩=some (ii NC)∧X.cell? ⟨w,0,none⟩=some (ii f0)∧X.cell? ⟨w,1,none⟩=some (ii f1)∧X.cell? ⟨w,2,none⟩=some (ii f2)∧X.cell? ⟨w,3,none⟩=some (ii f3)) ((repeat' apply And.intro) <;> simp[go_sem, *]) (
  (go_at_call 79
   refine(HCL.out _ (HBC2.out.trans (yaH (B:=W2.heap.size) zB HBC2.out.size))).mono ?_;rintro e wc ⟨A',c',rfl,hwc,hbc,bb,rfl,hbb⟩;obtain⟨x9,rfl⟩:=zad hbc))
 clear q1 q2 g0 g1 g2 g3 c0 ca hwr HCL
 all_goals
  first
   | (have HBC3:Hid (Below w w ((zai W2.drew x9).alloc (Obj.cells #[(k:Int),ii (ap+1),NW,NC,f0,f1,f2,f3,.slice (some ⟨bb,0,none⟩) ws.length c'] 44))):=zac (HBC2.out.trans (yaH (B:=W2.heap.size) zB HBC2.out.size))
      have HT3:Hid (((zai W2.drew x9).alloc (Obj.cells #[(k:Int),ii (ap+1),NW,NC,f0,f1,f2,f3,.slice (some ⟨bb,0,none⟩) ws.length c'] 44)).heap[W2.heap.size+x9.blocks.size]?=some (Obj.cells #[(k:Int),ii (ap+1),NW,NC,f0,f1,f2,f3,.slice (some ⟨bb,0,none⟩) ws.length c'] 44)):=zac (zag zS _);have HW3:Hid (zaN ((zai W2.drew x9).alloc (Obj.cells #[(k:Int),ii (ap+1),NW,NC,f0,f1,f2,f3,.slice (some ⟨bb,0,none⟩) ws.length c'] 44)) (some ⟨bb,0,none⟩) ws):=zac (hwc.below (zal (yaf _ _)));have HR3:Hid (((zai W2.drew x9).alloc (Obj.cells #[(k:Int),ii (ap+1),NW,NC,f0,f1,f2,f3,.slice (some ⟨bb,0,none⟩) ws.length c'] 44)).heap[w.heap.size+1]?=some (Obj.cells #[ii 0,ii 0,ii 0,ii 0,ii 0,ii 0,ii 0,ii 0,.slice none 0 0] 44)):=zac (((show Below W2 W2 ((zai W2.drew x9).alloc (Obj.cells #[(k:Int),ii (ap+1),NW,NC,f0,f1,f2,f3,.slice (some ⟨bb,0,none⟩) ws.length c'] 44))from zB).block _ (zae HP3.out)).trans HP3.out);have HL3:Hid (w.heap.size+1<W2.heap.size+x9.blocks.size∧w.heap.size+1<bb):=zac (by have h1:=zae HP3.out;have h2:W2.heap.size≤bb:=hbb;omega);clear hbc hwc hbb;generalize (zai W2.drew x9).alloc (Obj.cells #[(k:Int),ii (ap+1),NW,NC,f0,f1,f2,f3,.slice (some ⟨bb,0,none⟩) ws.length c'] 44)=W3 at *;generalize W2.heap.size+x9.blocks.size=tq at *)
   | (have HBC3:Hid (Below w w (zai (W2.alloc (Obj.cells #[(k:Int),ii (ap+1),NW,NC,f0,f1,f2,f3,.slice (some ⟨bb,0,none⟩) ws.length c'] 44)).drew x9)):=zac (HBC2.out.trans (yaH (B:=W2.heap.size) zB HBC2.out.size))
      have HT3:Hid ((zai (W2.alloc (Obj.cells #[(k:Int),ii (ap+1),NW,NC,f0,f1,f2,f3,.slice (some ⟨bb,0,none⟩) ws.length c'] 44)).drew x9).heap[W2.heap.size]?=some (Obj.cells #[(k:Int),ii (ap+1),NW,NC,f0,f1,f2,f3,.slice (some ⟨bb,0,none⟩) ws.length c'] 44)):=zac (((show Below (W2.alloc (Obj.cells #[(k:Int),ii (ap+1),NW,NC,f0,f1,f2,f3,.slice (some ⟨bb,0,none⟩) ws.length c'] 44)).heap.size (W2.alloc (Obj.cells #[(k:Int),ii (ap+1),NW,NC,f0,f1,f2,f3,.slice (some ⟨bb,0,none⟩) ws.length c'] 44)) (zai (W2.alloc (Obj.cells #[(k:Int),ii (ap+1),NW,NC,f0,f1,f2,f3,.slice (some ⟨bb,0,none⟩) ws.length c'] 44)).drew x9)from zB).block _ zS).trans (zag rfl _));have HW3:Hid (zaN (zai (W2.alloc (Obj.cells #[(k:Int),ii (ap+1),NW,NC,f0,f1,f2,f3,.slice (some ⟨bb,0,none⟩) ws.length c'] 44)).drew x9) (some ⟨bb,0,none⟩) ws):=zac (hwc.move (by
       intro b' o' e;obtain⟨rfl,rfl⟩:b'=bb∧o'=0:=by simp at e;exact⟨e.1.symm,e.2.symm⟩
       simp at hbb;rw[zbs _ _ _ zP,zbs _ _ _ zP];simp))
      have HR3:Hid ((zai (W2.alloc (Obj.cells #[(k:Int),ii (ap+1),NW,NC,f0,f1,f2,f3,.slice (some ⟨bb,0,none⟩) ws.length c'] 44)).drew x9).heap[w.heap.size+1]?=some (Obj.cells #[ii 0,ii 0,ii 0,ii 0,ii 0,ii 0,ii 0,ii 0,.slice none 0 0] 44)):=zac (((show Below W2 W2 (zai (W2.alloc (Obj.cells #[(k:Int),ii (ap+1),NW,NC,f0,f1,f2,f3,.slice (some ⟨bb,0,none⟩) ws.length c'] 44)).drew x9)from zB).block _ (zae HP3.out)).trans HP3.out);have HL3:Hid (w.heap.size+1<W2.heap.size∧w.heap.size+1<bb):=zac (by have h1:=zae HP3.out;simp at hbb;omega);clear hbc hwc hbb;generalize zai (W2.alloc (Obj.cells #[(k:Int),ii (ap+1),NW,NC,f0,f1,f2,f3,.slice (some ⟨bb,0,none⟩) ws.length c'] 44)).drew x9=W3 at *;generalize W2.heap.size=tq at *)
  have HS3:=zac (HS.out.below HBC3.out);have e0:=zaa HT3.out 0;have e1:=zaa HT3.out 1;have e2:=zaa HT3.out 2;have e3:=zaa HT3.out 3;have e4:=zaa HT3.out 4;have e5:=zaa HT3.out 5;have e6:=zaa HT3.out 6;have e7:=zaa HT3.out 7;have e8:=zaa HT3.out 8;simp only[zC,zD,zE]at e0 e1 e2 e3 e4 e5 e6 e7 e8;haveI:zaj (tq+1) W3:=⟨zae HT3.out⟩;have HM3:Hid (zaN W3 (some ⟨bb,0,none⟩) ws∧∀ b o,(some (⟨bb,0,none⟩:Addr))=some ⟨b,o,none⟩→b<W3.heap.size∧¬zaW x mb lv sv b):=zac ⟨HW3.out,fun b o e=>by
   obtain⟨rfl,rfl⟩:b=bb∧o=0:=by simp at e;exact⟨e.1.symm,e.2.symm⟩
   refine⟨?_,fun e2=>?_⟩
   ·obtain⟨b2,o2,e3,hlt,_⟩:=HW3.out 0 ws[0] (yaa zO)
    obtain⟨rfl,rfl⟩:b2=b∧o2=0:=by simp at e3;exact⟨e3.1.symm,e3.2.symm⟩
    exact hlt
   ·have h1:=(HS.out.lt e2).2;have h2:=HL3.out;omega⟩
  have HAPL:=zac (zey B x mb s lv sv (⟨⟨(k:Int),ap+1,NW,NC,f0,f1,f2,f3,ws⟩,some ⟨bb,0,none⟩,c'⟩:MTx) 1000 W3 HS3.out HM3.out ⟨hk0,hk4⟩ (HI.out.fit.mono (by have:=HI.out.log;omega)) zO (by have:=HI.out.log;omega) (by simp only;omega));unfold MTx.val at HAPL;simp only at HAPL;go_wp2_with fail;go_at_call 80;refine HAPL.out.mono ?_;rintro e w4 ⟨rfl,lv',sv',hs4,fr4⟩;have HS4:=zac hs4;have HF4:=zac fr4;clear hs4 fr4 HAPL e0 e1 e2 e3 e4 e5 e6 e7 e8;have HNQ:Hid (∀ b,w.heap.size≤b→b<W3.heap.size→¬zaW x mb lv sv b∧¬zaW x mb lv' sv' b):=zac (fun b h1 h2=>⟨fun e=>by have:=(HS.out.lt e).2;omega,fun e=>(HF4.out.own b e).elim (fun e2=>by have:=(HS.out.lt e2).2;omega) (fun e2=>by omega)⟩);have HB4:Hid (∀ b,w.heap.size≤b→b<W3.heap.size→w4.heap[b]?=W3.heap[b]?):=zac (fun b h1 h2=>HF4.out.block b h2 (HNQ.out b h1 h2).1);have HT4:=zac ((HB4.out tq (by have:=HL3.out;omega) (zae HT3.out)).trans HT3.out);have HR4:=zac ((HB4.out (w.heap.size+1) zO (zae HR3.out)).trans HR3.out);have HW4:=zac (HM3.out.1.keep (fun b o e=>HF4.out.block b (HM3.out.2 b o e).1 (HM3.out.2 b o e).2));have e0:=zaa HT4.out 0;have e1:=zaa HT4.out 1;have e2:=zaa HT4.out 2;have e3:=zaa HT4.out 3;have e4:=zaa HT4.out 4;have e5:=zaa HT4.out 5;have e6:=zaa HT4.out 6;have e7:=zaa HT4.out 7;have e8:=zaa HT4.out 8;simp only[zC,zD,zE]at e0 e1 e2 e3 e4 e5 e6 e7 e8;have r0:=zaa HR4.out 0;have r1:=zaa HR4.out 1;have r2:=zaa HR4.out 2;have r3:=zaa HR4.out 3;have r4:=zaa HR4.out 4;have r5:=zaa HR4.out 5;have r6:=zaa HR4.out 6;have r7:=zaa HR4.out 7;have r8:=zaa HR4.out 8;simp only[zC,zD,zE]at r0 r1 r2 r3 r4 r5 r6 r7 r8;have s0:=zab HR4.out 0;have s1:=zab HR4.out 1;have s2:=zab HR4.out 2;have s3:=zab HR4.out 3;have s4:=zab HR4.out 4;have s5:=zab HR4.out 5;have s6:=zab HR4.out 6;have s7:=zab HR4.out 7;have s8:=zab HR4.out 8;haveI:zaj (tq+1) w4:=⟨zae HT4.out⟩;haveI:zaj (w.heap.size+1+1) w4:=⟨zae HR4.out⟩;have HCL:=zac (zgw (⟨(k:Int),ap+1,NW,NC,f0,f1,f2,f3,ws⟩:TxP) (some ⟨bb,0,none⟩) c' w4 HW4.out (by simp only;omega) (by simp only;omega));unfold MTx.val at HCL;simp only at HCL;go_wp2_with fail;go_at_call 81;refine HCL.out.mono ?_;rintro e w5 ⟨A5,c5,rfl,hw5,hb5,b5,rfl,hbb5⟩;obtain⟨x5,rfl⟩:=zad hb5;have HW5:=zac hw5;have HBB5:=zac hbb5;clear hw5 hb5 hbb5 HCL;go_wp2_with fail;have HG9:=zac (zd2 w4 (w.heap.size+1) (ii (k:Int)) (ii (ap+1)) (ii NW) (ii NC) (ii f0) (ii f1) (ii f2) (ii f3) (.slice (some ⟨b5,0,none⟩) ws.length c5));have HSZ9:=zac (ziJ w4 (w.heap.size+1) (ii (k:Int)) (ii (ap+1)) (ii NW) (ii NC) (ii f0) (ii f1) (ii f2) (ii f3) (.slice (some ⟨b5,0,none⟩) ws.length c5));have HK9:=zac (@zc7 _ _ _ _ _ _ _ _ _ _ _ (ii (k:Int)) (ii (ap+1)) (ii NW) (ii NC) (ii f0) (ii f1) (ii f2) (ii f3) (.slice (some ⟨b5,0,none⟩) ws.length c5) _ HR4.out);obtain⟨V9,hV9⟩:∃ V9,zcx w4 (w.heap.size+1) (ii (k:Int)) (ii (ap+1)) (ii NW) (ii NC) (ii f0) (ii f1) (ii f2) (ii f3) (.slice (some ⟨b5,0,none⟩) ws.length c5)=V9:=⟨_,rfl⟩;rw[hV9]at HG9 HSZ9 HK9;unfold zcx at hV9;rw[hV9];clear hV9 r0 r1 r2 r3 r4 r5 r6 r7 r8 s0 s1 s2 s3 s4 s5 s6 s7 s8 e0 e1 e2 e3 e4 e5 e6 e7 e8;haveI:zaj (w.heap.size+1+1) V9:=⟨zae HK9.out⟩;have y0:=zaa HK9.out 0;have y1:=zaa HK9.out 1;have y2:=zaa HK9.out 2;have y3:=zaa HK9.out 3;have y4:=zaa HK9.out 4;have y5:=zaa HK9.out 5;have y6:=zaa HK9.out 6;have y7:=zaa HK9.out 7;have y8:=zaa HK9.out 8;simp only[zC,zD,zE]at y0 y1 y2 y3 y4 y5 y6 y7 y8;obtain rfl:=HT0.out.symm.trans HDD.out;have hbx:=HL3.out;have hbq:=zae HR3.out;have HS5:=zac (HS4.out.same HG9.out.size (fun b hb=>HG9.out.block b (HS4.out.lt hb).2 (by simp;rintro rfl;exact(HNQ.out _ zO hbq).2 hb)) (fun m hm b o e=>HG9.out.block b ((HS4.out.dat m hm).2 b o e).1 (by
   simp;rintro rfl;have hm2:s.has m∨m=⟨⟨(k:Int),ap+1,NW,NC,f0,f1,f2,f3,ws⟩,some ⟨bb,0,none⟩,c'⟩:=by
    rcases hm with hm|hm
    ·rw[zbU]at hm
     rcases yax.1 hm with h1|h1
     ·exact .inl (.inl h1)
     ·exact .inr (by simpa using h1)
    ·exact .inl (.inr hm)
   rcases hm2 with h1|rfl
   ·have:=((HS.out.dat m h1).2 _ _ e).1;omega
   ·simp at e;try omega)))
  have hb6:=HBB5.out;refine yag (v:=.tuple #[MTx.val ⟨⟨(k:Int),ap+1,NW,NC,f0,f1,f2,f3,ws⟩,some ⟨b5,0,none⟩,c5⟩,.nilIface]) ?_ rfl ⟨some ⟨b5,0,none⟩,c5,some ⟨bb,0,none⟩,c',lv',sv',rfl,HS5.out.below (zax _ x5),(((zaO.of_below (zaW x mb lv sv) HBC3.out).trans HF4.out).box HG9.out zO).andBelow (zax _ x5),(fun b o e=>by have:=HL3.out;simp at e;omega),?_,b5,rfl,?_,?_⟩
  ·simp[results,results15,go_sem,MTx.val, *]
  ·refine HW5.out.move ?_
   intro b' o' e;obtain⟨rfl,rfl⟩:b'=b5∧o'=0:=by simp at e;exact⟨e.1.symm,e.2.symm⟩
   rw[zbs _ _ _ hb6,zbs _ _ _ (by rw[HSZ9.out];exact hb6),HSZ9.out]
  ·have:=HF4.out.size;have:=HBC3.out.size;omega
  ·exact fun e=>by have:=(HS4.out.lt e).2;omega
end Go.Proofs.YtbopfhbeegkkaabGreatDoor
