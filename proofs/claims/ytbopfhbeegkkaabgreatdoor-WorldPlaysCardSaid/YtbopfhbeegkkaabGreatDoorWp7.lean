/- Part 7 of a proof: lemmas and contracts that other parts use. -/
import Derived.Test.YtbopfhbeegkkaabGreatDoorWp6
import Derived.Test.YtbopfhbeegkkaabGreatDoorWp3
import Derived.Test.YtbopfhbeegkkaabGreatDoorWp4
import Derived.RegionTactic
import Derived.Deep.RegionHeld3
set_option linter.unusedVariables false
set_option linter.unusedSimpArgs false
set_option maxHeartbeats 8000000
set_option maxRecDepth 20000
namespace Go.Proofs.YtbopfhbeegkkaabGreatDoor
open Go.Proofs.Tryz
def zgJ (a0 a1 a2 a3:Int) (key:Int):List PtP→zaE→Bool→zaE×Bool
 | [],b,s=>(b,s)
 | h::l,b,s=>if h.key=key∧zbJ a0 a1 a2 a3 h.v=true∧(s=false∨zgv b h.v<0)then zgJ a0 a1 a2 a3 key l h.v true else zgJ a0 a1 a2 a3 key l b s
def zen (a0 a1 a2 a3:Int) (key:Int) (L:List PtP):zaE×Bool:=zgJ a0 a1 a2 a3 key L verZ false
def zeb (a0 a1 a2 a3:Int) (L:List PtP) (key:Int):zaE×Int:=
 if key<0∨8≤key then (verZ,2)else if(zen a0 a1 a2 a3 key L).2=false∨(zen a0 a1 a2 a3 key L).1.gone=true then (verZ,8)else ((zen a0 a1 a2 a3 key L).1,0)
def zkc (L:List PtP) (key:Int) (v:zaE):Bool:=L.any fun h=>zhF h ⟨key,v⟩
def zgP (L:List PtP) (key:Int) (v:zaE):Int×List PtP:=
 if key<0∨8≤key then (2,L)else if zba v=false then (1,L)else if zkc L key v=true then (9,L)else (0,L++[⟨key,v⟩])
open Classical in
noncomputable def zgb(a0 a1 a2 a3:Int) (L:List PtP) (h:PtP):Bool:=
 (zen a0 a1 a2 a3 h.key L).2==false||decide ((zen a0 a1 a2 a3 h.key L).1=h.v)||!zbJ a0 a1 a2 a3 h.v
noncomputable def zee(a0 a1 a2 a3:Int) (L:List PtP):List PtP:=L.filter (zgb a0 a1 a2 a3 L)
structure Rep (S:Nat→List zaE) (L:List PtP):Prop where
 key:∀ p∈L,0≤p.key∧p.key<8
 site:∀ p∈L,0≤p.v.site∧p.v.site<4
 srt:∀ k,k<8→Srt (S k)
 perm:∀ k,k<8→(S k).Perm ((L.filter fun p=>decide (p.key=(k:Int))).map (·.v))
theorem Rep.nil:Rep (fun _=>[]) []:=⟨fun p h=>(by cases h),fun p h=>(by cases h),fun _ _=>List.Pairwise.nil,fun _ _=>List.Perm.refl _⟩
theorem Rep.mem {S:Nat→List zaE}{L:List PtP}(h:Rep S L){k:Nat}(hk:k<8) (x:zaE):x∈S k↔∃ p∈L,p.key=k∧p.v=x:=by
 rw[(h.perm k hk).mem_iff];simp only[ybE,ybs,yap];constructor
 ·rintro⟨p,⟨h1,h2⟩,h3⟩;exact⟨p,h1,h2,h3⟩
 ·rintro⟨p,h1,h2,h3⟩;exact⟨p,⟨h1,h2⟩,h3⟩
theorem len_split:∀ (L:List PtP),(∀ p∈L,0≤p.key∧p.key<8)→L.length=(L.filter fun p=>decide (p.key=((0:Nat):Int))).length+(L.filter fun p=>decide (p.key=((1:Nat):Int))).length+(L.filter fun p=>decide (p.key=((2:Nat):Int))).length+(L.filter fun p=>decide (p.key=((3:Nat):Int))).length+(L.filter fun p=>decide (p.key=((4:Nat):Int))).length+(L.filter fun p=>decide (p.key=((5:Nat):Int))).length+(L.filter fun p=>decide (p.key=((6:Nat):Int))).length+(L.filter fun p=>decide (p.key=((7:Nat):Int))).length
 | [],_=>rfl
 | p::L,h=>by
   have ih:=len_split L (fun q hq=>h q (yaR _ hq));obtain⟨h1,h2⟩:=h p zS;have hc:p.key=0∨p.key=1∨p.key=2∨p.key=3∨p.key=4∨p.key=5∨p.key=6∨p.key=7:=by omega
   rcases hc with e|e|e|e|e|e|e|e <;> simp[List.filter_cons,e]at ih ⊢ <;> omega
theorem Rep.many {S:Nat→List zaE}{L:List PtP}(h:Rep S L):L.length=(S 0).length+(S 1).length+(S 2).length+(S 3).length+(S 4).length+(S 5).length+(S 6).length+(S 7).length:=by
 have e:∀ k,k<8→(S k).length=(L.filter fun p=>decide (p.key=(k:Int))).length:=fun k hk=>by
  rw[(h.perm k hk).length_eq,List.length_map]
 rw[e 0 zO,e 1 zO,e 2 zO,e 3 zO,e 4 zO,e 5 zO,e 6 zO,e 7 zO];exact len_split L h.key
theorem zf2 (a0 a1 a2 a3:Int) (key:Int):∀ (l:List PtP) (b:zaE) (s:Bool),
  ((zgJ a0 a1 a2 a3 key l b s).2=false→s=false∧∀ p∈l,p.key=key→zbJ a0 a1 a2 a3 p.v=false)∧
  ((zgJ a0 a1 a2 a3 key l b s).2=true→((s=true∧(zgJ a0 a1 a2 a3 key l b s).1=b)∨∃ p∈l,p.key=key∧zbJ a0 a1 a2 a3 p.v=true∧p.v=(zgJ a0 a1 a2 a3 key l b s).1)∧
    (s=true→¬ltV (zgJ a0 a1 a2 a3 key l b s).1 b)∧∀ p∈l,p.key=key→zbJ a0 a1 a2 a3 p.v=true→¬ltV (zgJ a0 a1 a2 a3 key l b s).1 p.v)∧
  ((zgJ a0 a1 a2 a3 key l b s).2=false→(zgJ a0 a1 a2 a3 key l b s).1=b)
 | [],b,s=>by
   simp only[zgJ];exact⟨fun h=>⟨h,fun p hp=>(by cases hp)⟩,fun h=>⟨.inl ⟨h,trivial⟩,fun _ h2=>zdv h2 h2,fun p hp=>(by cases hp)⟩,fun _=>trivial⟩
 | p::l,b,s=>by
   unfold zgJ;split
   ·rename_i hc
    obtain⟨c1,c2,c3⟩:=hc;obtain⟨i1,i2,_⟩:=zf2 a0 a1 a2 a3 key l p.v true;refine⟨fun h=>?_,fun h=>?_,fun h=>?_⟩
    ·cases (i1 h).1
    ·obtain⟨j1,j2,j3⟩:=i2 h
     refine⟨.inr ?_,?_,?_⟩
     ·rcases j1 with ⟨_,j1⟩|⟨q,h1,h2⟩
      ·exact⟨p,zS,c1,c2,j1.symm⟩
      ·exact⟨q,yaR _ h1,h2⟩
     ·intro hs hl
      rcases c3 with c3|c3
      ·rw[hs]at c3;cases c3
      ·exact j2 rfl (zgk hl ((zfM _ _).1 c3))
     ·intro q hq hk hs
      rcases ya1.1 hq with rfl|hq
      ·exact j2 rfl
      ·exact j3 q hq hk hs
    ·cases (i1 h).1
   ·rename_i hc
    obtain⟨i1,i2,i3⟩:=zf2 a0 a1 a2 a3 key l b s;refine⟨fun h=>?_,fun h=>?_,i3⟩
    ·obtain⟨j1,j2⟩:=i1 h
     refine⟨j1,fun q hq hk=>?_⟩;rcases ya1.1 hq with rfl|hq
     ·rw[Bool.eq_false_iff]
      intro hs;exact hc ⟨hk,hs,.inl j1⟩
     ·exact j2 q hq hk
    ·obtain⟨j1,j2,j3⟩:=i2 h
     refine⟨?_,j2,?_⟩
     ·rcases j1 with j1|⟨q,h1,h2⟩
      ·exact .inl j1
      ·exact .inr ⟨q,yaR _ h1,h2⟩
     ·intro q hq hk hs
      rcases ya1.1 hq with rfl|hq
      ·intro hl
       have hst:s=true:=by
        cases hsb:s with
        | true=>rfl
        | false=>exact(hc ⟨hk,hs,.inl hsb⟩).elim
       have h2:¬ltV b q.v:=fun e=>hc ⟨hk,hs,.inr ((zfM _ _).2 e)⟩
       have h3:=j2 hst
       revert hl h2 h3
       unfold ltV;omega
      ·exact j3 q hq hk hs
theorem Rep.last {S:Nat→List zaE}{L:List PtP}(h:Rep S L) (a0 a1 a2 a3:Int){k:Nat}(hk:k<8):
  zen a0 a1 a2 a3 k L=match zgp a0 a1 a2 a3 (S k)with|some v=>(v,true)|none=>(verZ,false):=by
 obtain⟨h1,h2,h3⟩:=zf2 a0 a1 a2 a3 k L verZ false;cases hr:(zgJ a0 a1 a2 a3 k L verZ false).2 with
 | false=>
   have hn:zgp a0 a1 a2 a3 (S k)=none:=by
    rw[zi2];intro x hx;obtain⟨p,hp,e1,rfl⟩:=(h.mem hk x).1 hx;exact(h1 hr).2 p hp e1
   rw[hn];exact Prod.ext (h3 hr) hr
 | true=>
   obtain⟨j1,_,j3⟩:=h2 hr;rcases j1 with ⟨e,_⟩|⟨p,hp,e1,e2,e3⟩
   ·cases e
   ·have hf:zgp a0 a1 a2 a3 (S k)=some p.v:=by
     rw[zi1 (h.srt k hk)];have hm:p.v∈S k:=(h.mem hk _).2 ⟨p,hp,e1,rfl⟩;refine⟨hm,e2,fun y hy hsy=>?_⟩;obtain⟨q,hq,f1,rfl⟩:=(h.mem hk y).1 hy;have:=j3 q hq f1 hsy;rw[←e3]at this;rcases srt_uniq (h.srt k hk) hy hm with e|e|e
     ·exact .inl e
     ·exact .inr e
     ·exact absurd e this
    rw[hf];exact Prod.ext e3.symm hr
theorem Rep.read {S:Nat→List zaE}{L:List PtP}(h:Rep S L) (a0 a1 a2 a3:Int) (key:Int):zeb a0 a1 a2 a3 L key=zcO a0 a1 a2 a3 S key:=by
 unfold zeb zcO;split
 ·rfl
 ·rename_i hk
  have hl:=h.last a0 a1 a2 a3 (k:=key.toNat) zO;rw[show((key.toNat:Nat):Int)=key by omega]at hl;rw[hl];cases zgp a0 a1 a2 a3 (S key.toNat)with
  | none=>simp
  | some v=>simp
theorem Rep.put {S:Nat→List zaE}{L:List PtP}(h:Rep S L) (key:Int) (v:zaE):(zgP L key v).1=(zgK S key v).1∧Rep (zgK S key v).2 (zgP L key v).2:=by
 unfold zgP zgK;split
 ·exact⟨rfl,h⟩
 ·rename_i hk
  split
  ·exact⟨rfl,h⟩
  ·rename_i hr
   have hkk:key.toNat<8:=by omega
   have htw:zkc L key v=bsF (S key.toNat) v:=by
    rw[ybq,zm8 (h.srt _ hkk)];unfold zkc;rw[List.any_eq_true];constructor
    ·rintro⟨p,hp,hs⟩
     obtain⟨e1,e2⟩:=(ziu _ _).1 hs;exact⟨p.v,(h.mem hkk _).2 ⟨p,hp,by simp only at e1;omega,rfl⟩,e2⟩
    ·rintro⟨x,hx,hs⟩
     obtain⟨p,hp,e1,rfl⟩:=(h.mem hkk _).1 hx;exact⟨p,hp,(ziu _ _).2 ⟨by simp only;omega,hs⟩⟩
   rw[htw];split
   ·exact⟨rfl,h⟩
   ·rename_i hf
    have hr:zba v=true:=by simpa using hr
    have hsite:0≤v.site∧v.site<4:=by
     unfold zba at hr;simp only[yav,yap]at hr;omega
    refine⟨rfl,⟨?_,?_,?_,?_⟩⟩
    ·intro p hp
     rcases yax.1 hp with hp|hp
     ·exact h.key p hp
     ·simp only[yaW]at hp;subst hp;simp only;omega
    ·intro p hp
     rcases yax.1 hp with hp|hp
     ·exact h.site p hp
     ·simp only[yaW]at hp;subst hp;exact hsite
    ·intro k hk8
     simp only;split
     ·rename_i e;subst e;exact insV_srt (h.srt _ hk8) (by simpa using hf)
     ·exact h.srt k hk8
    ·intro k hk8
     simp only;rw[yb8,ya9];split
     ·rename_i e
      subst e;have e2:((key.toNat:Nat):Int)=key:=by omega
      have:([⟨key,v⟩]:List PtP).filter (fun p=>decide (p.key=((key.toNat:Nat):Int)))=[⟨key,v⟩]:=by simp[e2]
      rw[this];have hp:=h.perm key.toNat hk8;refine List.Perm.trans ?_ (hp.append_right _);unfold zjK;rw[ybh];refine List.Perm.trans (List.perm_append_comm_assoc _ _ _) ?_;rw[ybl];exact List.perm_append_comm
     ·rename_i e
      have:([⟨key,v⟩]:List PtP).filter (fun p=>decide (p.key=(k:Int)))=[]:=by
       simp;omega
      rw[this];simpa using h.perm k hk8
theorem Rep.sweep {S:Nat→List zaE}{L:List PtP}(h:Rep S L) (a0 a1 a2 a3:Int):Rep (zl8 a0 a1 a2 a3 S) (zee a0 a1 a2 a3 L):=by
 refine⟨fun p hp=>h.key p ((ybs.1 hp).1),fun p hp=>h.site p ((ybs.1 hp).1),fun k hk=>zg3 (h.srt k hk),fun k hk=>?_⟩;have hl:=h.last a0 a1 a2 a3 hk;have hP:∃ P:zaE→Bool,∀ p:PtP,p.key=k→zgb a0 a1 a2 a3 L p=P p.v:=by
  refine⟨fun x=>zgb a0 a1 a2 a3 L ⟨k,x⟩,fun p hp=>?_⟩;obtain⟨pk,pv⟩:=p;simp only at hp;subst hp;rfl
 obtain⟨P,hP⟩:=hP;have e1:((zee a0 a1 a2 a3 L).filter fun p=>decide (p.key=(k:Int))).map (·.v)=(((L.filter fun p=>decide (p.key=(k:Int))).map (·.v)).filter P):=by
  unfold zee;rw[List.filter_map,List.filter_filter,List.filter_filter];congr 1;refine List.filter_congr fun p _=>?_
  by_cases e:p.key=k
  ·simp only[e,decide_true,Bool.true_and,Bool.and_true,Function.comp]
   exact hP p e
  ·simp[e]
 have e2:zl8 a0 a1 a2 a3 S k=(S k).filter P:=by
  refine srt_ext (zg3 (h.srt k hk)) ((h.srt k hk).sublist List.filter_sublist) fun x=>?_
  rw[show zl8 a0 a1 a2 a3 S k=zbC a0 a1 a2 a3 (S k)from rfl,zkK (h.srt k hk),ybs];refine and_congr_right fun hx=>?_
  rw[←hP ⟨k,x⟩ rfl];have hkp:zgb a0 a1 a2 a3 L ⟨k,x⟩=((zen a0 a1 a2 a3 k L).2==false||@decide ((zen a0 a1 a2 a3 k L).1=x) (Classical.propDecidable _)||!zbJ a0 a1 a2 a3 x):=rfl;rw[hkp,hl];by_cases hs:zbJ a0 a1 a2 a3 x=true
  ·cases hf:zgp a0 a1 a2 a3 (S k)with
   | none=>
     rw[zi2]at hf;rw[hf x hx]at hs;cases hs
   | some y=>
     rw[zi1 (h.srt k hk)]at hf;obtain⟨f1,f2,f3⟩:=hf;simp only[hs,Bool.or_eq_true,beq_iff_eq,yap,Bool.true_eq_false,Bool.not_true,Bool.false_eq_true,false_or,or_false];constructor
     ·intro hh
      rcases hh y f1 f2 with e|e
      ·exact e
      ·rcases f3 x hx hs with e3|e3
       ·exact e3.symm
       ·exact(zdv e e3).elim
     ·rintro rfl
      exact f3
  ·have hs:zbJ a0 a1 a2 a3 x=false:=by simpa using hs
   simp[hs]
 rw[e1,e2];exact(h.perm k hk).filter P
end Go.Proofs.YtbopfhbeegkkaabGreatDoor
namespace Go.Proofs.YtbopfhbeegkkaabGreatDoor
open Go.RowKit Go.Proofs.Tryz
theorem zb7 {n lo hi:Int}{b:Bool}(w:World) (h:decide (lo≤n∧n≤hi)=b):
  Calls prog 96 #[n,lo,hi] w fun e w'=>e=.returned (.bool b)∧w=w':=by
 subst h;by_cases h:lo≤n∧n≤hi
 ·rw[yae h];exact zce n lo hi w h.1 h.2
 ·rw[yah h];exact zcL n lo hi w zO
theorem zcE (A:Option Addr) (c:Nat) (ws:List WrP) (w:World) (hn:ws.length≤1000000) (hws:zaN w A ws):
  Calls prog 71 #[.slice A ws.length c] w fun e w'=>e=.returned (.bool (zaX ws))∧Below w w w':=by
 have HWS:=zac hws;clear hws;go_enter func71,ntmps71;go_wp2;go_loopw [7] (fun i wr=>∃ (k:Nat) (z:Int),k≤ws.length∧i=ii k∧-1≤z∧Below w w wr∧rwGo (-1) ws=rwGo z (ws.drop k)∧((k=0∧z=-1)∨(0<k∧∃ u,ws[k-1]?=some u∧u.key=z∧0≤z))) (fun i _=>ws.length-(intOf i).toNat)
 case atStart=>exact⟨0,-1,yay _,rfl,zO,yaf _ _,rfl,.inl ⟨rfl,rfl⟩⟩
 case round=>
  obtain⟨k,z,hk,rfl,hz,hbl,hrw,hprev⟩:=hrel;obtain⟨x,rfl⟩:=zad hbl;clear hbl;have HRW:=zac hrw;clear hrw;by_cases hlt:k<ws.length
  ·obtain⟨b,o,rfl,hb,h0,h1,h2⟩:=HWS.out k ws[k] (yaa hlt)
   haveI:zaj (b+1) w:=⟨hb⟩;obtain⟨y,hy⟩:∃ y,ws[k]=y:=⟨_,rfl⟩;rw[hy]at h0 h1 h2;have hdrop:ws.drop k=y::ws.drop (k+1):=by rw[yaK hlt,hy]
   have hbad:zfN z y=true→zaX ws=false:=fun h=>by
    rw[zaX,HRW.out,hdrop];simp[rwGo,h]
   have hgood:zfN z y=false→rwGo (-1) ws=rwGo y.key (ws.drop (k+1)):=fun h=>by
    rw[HRW.out,hdrop];simp[rwGo,h]
   have hprev':Hid (0≤y.key→((k+1=0∧y.key=-1)∨(0<k+1∧∃ u,ws[k+1-1]?=some u∧u.key=y.key∧0≤y.key))):=zac fun h=>.inr ⟨zO,y,by simp[yaa hlt,hy],rfl,h⟩
   have HB:=zac hbad;have HG:=zac hgood;clear hbad hgood hdrop hy;by_cases c0:0≤y.key∧y.key≤7
   ·have HI:=zac fun w=>zb7 w (yae c0)
    obtain⟨c0,c0'⟩:=c0;have hprev':=hprev'.out c0;rcases ybB k with rfl|hkp
    ·have hz1:z=-1:=by omega
     subst hz1;clear hprev;simp only[Nat.zero_mul,ycv]at h0 h1 h2;have _:decide ((0:Int)<((0:Nat):Int))=false:=rfl;by_cases c3:12<y.data.size
     ·have HF:=zac (HB.out (by simp[zfN,c3]))
      have _:decide ((12:Int)<(y.data.size:Int))=true:=zT;go_wp2;refine zaz fun x=>?_
      go_wp2;go_ret;exact⟨by rw[HF.out];rfl,zB⟩
     have _:decide ((12:Int)<(y.data.size:Int))=false:=zU;obtain⟨key,data,gone⟩:=y;simp only at *;cases gone
     ·have HF:=zac (HG.out (by simp[zfN];omega))
      go_wp2;refine zaz fun x=>?_
      go_wp2;go_roundw
      case rel=>exact⟨0+1,key,zO,by go_num,zO,zB,HF.out,hprev'⟩
      case measure=>simp[intOf];omega
     ·by_cases c4:data.toList=[]
      ·have hs:data.size=0:=by rw[zck,←ya0,c4];rfl
       have HF:=zac (HG.out (by simp[zfN,hs];omega));have c5:(!data.toList.isEmpty)=false:=by rw[c4];rfl
       clear hs;go_wp2;refine zaz fun x=>?_
       go_wp2;go_roundw
       case rel=>exact⟨0+1,key,zO,by go_num,zO,zB,HF.out,hprev'⟩
       case measure=>simp[intOf];omega
      ·have hs:data.size≠0:=by rw[zck,←ya0];intro h;exact c4 (yan h)
       have HF:=zac (HB.out (by simp[zfN,hs]));have c5:(!data.toList.isEmpty)=true:=by simpa using c4
       clear hs;go_wp2;refine zaz fun x=>?_
       go_wp2;go_ret;exact⟨by rw[HF.out];rfl,zB⟩
    ·obtain⟨_,u,hu,hue,hz0⟩:0<k∧∃ u,ws[k-1]?=some u∧u.key=z∧0≤z:=by
      rcases hprev with h|h
      ·omega
      ·exact h
     obtain⟨b',o',e',hb',g0,_,_⟩:=HWS.out (k-1) u hu;cases e';rw[hue]at g0;clear hprev hu;have _:decide ((0:Int)<(k:Int))=true:=zT;by_cases c1:y.key≤z
     ·have HF:=zac (HB.out (by simp[zfN,c1]))
      have _:decide (y.key≤z)=true:=zT;go_wp2;refine zaz fun x=>?_
      go_wp2;go_ret;exact⟨by rw[HF.out];rfl,zB⟩
     have _:decide (y.key≤z)=false:=zU;by_cases c3:12<y.data.size
     ·have HF:=zac (HB.out (by simp[zfN,c3]))
      have _:decide ((12:Int)<(y.data.size:Int))=true:=zT;go_wp2;refine zaz fun x=>?_
      go_wp2;go_ret;exact⟨by rw[HF.out];rfl,zB⟩
     have _:decide ((12:Int)<(y.data.size:Int))=false:=zU;obtain⟨key,data,gone⟩:=y;simp only at *;cases gone
     ·have HF:=zac (HG.out (by simp[zfN];omega))
      go_wp2;refine zaz fun x=>?_
      go_wp2;go_roundw
      case rel=>exact⟨k+1,key,zO,by go_num,zO,zB,HF.out,hprev'⟩
      case measure=>simp[intOf];omega
     ·by_cases c4:data.toList=[]
      ·have hs:data.size=0:=by rw[zck,←ya0,c4];rfl
       have HF:=zac (HG.out (by simp[zfN,hs];omega));have c5:(!data.toList.isEmpty)=false:=by rw[c4];rfl
       clear hs;go_wp2;refine zaz fun x=>?_
       go_wp2;go_roundw
       case rel=>exact⟨k+1,key,zO,by go_num,zO,zB,HF.out,hprev'⟩
       case measure=>simp[intOf];omega
      ·have hs:data.size≠0:=by rw[zck,←ya0];intro h;exact c4 (yan h)
       have HF:=zac (HB.out (by simp[zfN,hs]));have c5:(!data.toList.isEmpty)=true:=by simpa using c4
       clear hs;go_wp2;refine zaz fun x=>?_
       go_wp2;go_ret;exact⟨by rw[HF.out];rfl,zB⟩
   ·have HI:=zac fun w=>zb7 w (yah c0)
    have HF:=zac (HB.out (by simp[zfN];omega));clear hprev';go_wp2;refine zaz fun x=>?_
    go_wp2;go_ret;exact⟨by rw[HF.out];rfl,zB⟩
  ·have hkk:k=ws.length:=by omega
   have hfin:zaX ws=decide (1≤(ws.length:Int)∧(ws.length:Int)≤5):=by
    have h1:=HRW.out;rw[hkk,ybt]at h1;rw[zaX,h1,ybq];simp[rwGo];omega
   have HI:=zac fun w=>zb7 (n:=(ws.length:Int)) (lo:=1) (hi:=5) w hfin.symm
   clear hfin hkk HRW hprev;go_wp2_with (go_at_call 96;refine(HI.out _).mono ?_;rintro e w' ⟨rfl,rfl⟩);go_ret;exact⟨rfl,zB⟩
def PtC (w:World) (b o:Nat) (x:PtP):Prop:=w.cell? ⟨b,o,none⟩=some (ii x.key)∧w.cell? ⟨b,o+1,none⟩=some (ii x.v.w)∧w.cell? ⟨b,o+2,none⟩=some (ii x.v.c)∧w.cell? ⟨b,o+3,none⟩=some (ii x.v.site)∧
 w.cell? ⟨b,o+4,none⟩=some (ii x.v.seq)∧w.cell? ⟨b,o+5,none⟩=some (.string x.v.data)∧w.cell? ⟨b,o+6,none⟩=some (.bool x.v.gone)
theorem PtC.below {n:Nat}{w w':World}{b o:Nat}{x:PtP}(h:PtC w b o x) (hb:Below n w w') (hlt:b<n):PtC w' b o x:=by
 obtain⟨h0,h1,h2,h3,h4,h5,h6⟩:=h;have e:∀ k,w'.cell? ⟨b,k,none⟩=w.cell? ⟨b,k,none⟩:=fun k=>hb.cell (p:=⟨b,k,none⟩) hlt
 unfold PtC;exact⟨by rw[e];exact h0,by rw[e];exact h1,by rw[e];exact h2,by rw[e];exact h3,by rw[e];exact h4,by rw[e];exact h5,by rw[e];exact h6⟩
def PtsAt (w:World) (A:Option Addr) (ps:List PtP):Prop:=∀ (i:Nat) (x:PtP),ps[i]?=some x→∃ b o,A=some ⟨b,o,none⟩∧b<w.heap.size∧PtC w b (o+i*7) x
def zhS (p:PtP):List Value:=[ii p.key,ii p.v.w,ii p.v.c,ii p.v.site,ii p.v.seq,.string p.v.data,.bool p.v.gone]
def zaY (L:List PtP):List Value:=L.flatMap zhS
theorem zcf (a b:List PtP):zaY (a++b)=zaY a++zaY b:=by simp[zaY]
theorem heldRow_at:∀ (l:List PtP) (i:Nat) (x:PtP),l[i]?=some x→(zaY l)[i*7]?=some (ii x.key)∧(zaY l)[i*7+1]?=some (ii x.v.w)∧(zaY l)[i*7+2]?=some (ii x.v.c)∧(zaY l)[i*7+3]?=some (ii x.v.site)∧
  (zaY l)[i*7+4]?=some (ii x.v.seq)∧(zaY l)[i*7+5]?=some (.string x.v.data)∧(zaY l)[i*7+6]?=some (.bool x.v.gone)
 | [],i,x,h=>by simp at h
 | y::l,0,x,h=>by simp at h;subst h;simp[zaY,zhS]
 | y::l,i+1,x,h=>by
   have:=heldRow_at l i x (by simpa using h);have e:∀ j,(zaY (y::l))[j+7]?=(zaY l)[j]?:=fun j=>by simp[zaY,zhS,yaC]
   rw[show(i+1)*7=i*7+7 by omega,show i*7+7+1=(i*7+1)+7 by omega,show i*7+7+2=(i*7+2)+7 by omega,show i*7+7+3=(i*7+3)+7 by omega,show i*7+7+4=(i*7+4)+7 by omega,show i*7+7+5=(i*7+5)+7 by omega,show i*7+7+6=(i*7+6)+7 by omega,e,e,e,e,e,e,e];exact this
theorem zhU {w:World}{B c:Nat}{A:Option Addr}{ps:List PtP}(h:w.ownsRow B 166 7 (.slice A ps.length c) ps.length (zaY ps)):PtsAt w A ps:=by
 intro i x hx;obtain⟨hl,hn|⟨g,cap,cur,hv,hb,hg,rest⟩⟩:=id h
 ·have:ps=[]:=yan hn.2
  subst this;simp at hx
 ·simp only[yaP]at hv
  obtain⟨rfl,_,rfl⟩:=hv;have hc:=h.cells (g:=g) rfl;obtain⟨h0,h1,h2,h3,h4,h5,h6⟩:=heldRow_at ps i x hx;have e:∀ j:Nat,(⟨g,0,none⟩:Addr).add j=⟨g,0+j,none⟩:=fun j=>by unfold Addr.add;split <;> simp_all
  have k0:=hc _ _ h0;have k1:=hc _ _ h1;have k2:=hc _ _ h2;have k3:=hc _ _ h3;have k4:=hc _ _ h4;have k5:=hc _ _ h5;have k6:=hc _ _ h6;rw[e]at k0 k1 k2 k3 k4 k5 k6;exact⟨g,0,rfl,(yaV.1 hg).1,by unfold PtC;exact⟨k0,k1,k2,k3,k4,k5,k6⟩⟩
structure zgY (w:World) (r o B:Nat) (L:List PtP) (v:Value):Prop where
 lt:r<w.heap.size
 cel:w.cell? ⟨r,o,none⟩=some v
 frz:w.frozen? ⟨r,o,none⟩=false
 own:w.ownsRow B 166 7 v L.length (zaY L)
 ng:v.ownBlock≠some r
def RfOwn (r:Nat) (v:Value) (b:Nat):Prop:=b=r∨v.ownBlock=some b
structure zng (w w':World) (r o:Nat) (v v':Value):Prop where
 os:w'.os=w.os
 tape:w'.tape=w.tape
 output:w'.output=w.output
 size:w.heap.size≤w'.heap.size
 block:∀ k,k<w.heap.size→¬RfOwn r v k→w'.heap[k]?=w.heap[k]?
 own:∀ b,RfOwn r v' b→RfOwn r v b∨w.heap.size≤b
 rest:∀ k,k≠o→w'.cell? ⟨r,k,none⟩=w.cell? ⟨r,k,none⟩
 frzd:∀ k,w'.frozen? ⟨r,k,none⟩=w.frozen? ⟨r,k,none⟩
theorem zgY.below {w w':World}{r o B:Nat}{L:List PtP}{v:Value}(h:zgY w r o B L v) (hb:Below w w w'):zgY w' r o B L v:=
 ⟨yab h.lt hb.size,(hb.cell (p:=⟨r,o,none⟩) h.lt).trans h.cel,(yal (hb.block r h.lt)).trans h.frz,zaF h.own hb fun b e=>(zao h.own e).2,h.ng⟩
theorem zng.of_below {w w':World}{r:Nat}(hlr:r<w.heap.size) (o:Nat) (v:Value) (hb:Below w w w'):zng w w' r o v v:=
 ⟨hb.os,hb.tape,hb.output,hb.size,fun k hk _=>hb.block k hk,fun _ h=>.inl h,fun k _=>hb.cell (p:=⟨r,k,none⟩) hlr,fun k=>yal (hb.block r hlr)⟩
theorem zng.from {w W W':World}{r o:Nat}{v v':Value}(hlr:r<w.heap.size) (hb:Below w w W) (h:zng W W' r o v v'):zng w W' r o v v':=
 ⟨h.os.trans hb.os,h.tape.trans hb.tape,h.output.trans hb.output,yac hb.size h.size,fun k hk hn=>(h.block k (yab hk hb.size) hn).trans (hb.block k hk),fun b h'=>(h.own b h').imp id (fun e=>yac hb.size e),
  fun k hk=>(h.rest k hk).trans (hb.cell (p:=⟨r,k,none⟩) hlr),fun k=>(h.frzd k).trans (yal (hb.block r hlr))⟩
theorem zgY.cell {w:World}{r o B:Nat}{L:List PtP}{v:Value}(h:zgY w r o B L v):w.cell? ⟨r,o,none⟩=some v∧w.frozen? ⟨r,o,none⟩=false:=
 ⟨h.cel,h.frz⟩
theorem zgY.upd {w w1:World}{r o B:Nat}{L L':List PtP}{v v':Value}(h:zgY w r o B L v) (hg:w.grownBy w1 v.ownBlock)
  (hown:w1.ownsRow B 166 7 v' L'.length (zaY L')) (hv:v'.ownBlock=v.ownBlock∨∀ b,v'.ownBlock=some b→w.heap.size≤b):
  zgY (w1.setCell ⟨r,o,none⟩ v') r o B L' v'∧zng w (w1.setCell ⟨r,o,none⟩ v') r o v v':=by
 have hlg:=h.lt;have hgb:w1.heap[r]?=w.heap[r]?:=hg.block r hlg (fun e=>h.ng e.symm);have hc1:∀ k,w1.cell? ⟨r,k,none⟩=w.cell? ⟨r,k,none⟩:=fun k=>yam hgb
 have hf1:∀ k,w1.frozen? ⟨r,k,none⟩=w.frozen? ⟨r,k,none⟩:=fun k=>yal hgb
 have hgs:=zan w1 r o v';have hvg:v'.ownBlock≠some r:=by
  rcases hv with e|e
  ·rw[e];exact h.ng
  ·intro e2;have:=e r e2;omega
 have hf2:∀ k,(w1.setCell ⟨r,o,none⟩ v').frozen? ⟨r,k,none⟩=w1.frozen? ⟨r,k,none⟩:=fun k=>yba ..
 refine⟨⟨by have:=hg.size;simp[World.setCell];omega,ybv _ _ _ ((hc1 o).trans h.cel),(hf2 o).trans ((hf1 o).trans h.frz),hown.kept hgs (.inr hvg),hvg⟩,⟨hg.os,hg.tape,hg.output,by simpa[World.setCell]using hg.size,?_,?_,?_,fun k=>(hf2 k).trans (hf1 k)⟩⟩
 ·intro b hb hno
  have h1:b≠r:=fun e=>hno (.inl e)
  have h2:v.ownBlock≠some b:=fun e=>hno (.inr e)
  rw[hgs.block b (by have:=hg.size;omega) (by simp;exact h1)];exact hg.block b hb (fun e=>h2 e.symm)
 ·rintro b (rfl|hb)
  ·exact .inl (.inl rfl)
  ·rcases hv with e2|e2
   ·rw[e2]at hb;exact .inl (.inr hb)
   ·exact .inr (e2 b hb)
 ·intro k hk
  rw[ybr _ _ _ _ (by simp only[ne_eq,yaU,not_and];omega)];exact hc1 k
theorem znb (a b:zaE):(if zc1 a.w a.c b.w b.c≠0 then decide (zc1 a.w a.c b.w b.c<0)else decide (a.site<b.site))=decide (zgv a b<0):=by
 unfold zgv;split
 ·rfl
 ·simp only[decide_eq_decide];omega
theorem zly (a b:zaE) (w:World):Calls prog 141 #[zbX a,zbX b] w fun e w'=>e=.returned (.bool (decide (zgv a b<0)))∧Below w w w':=by
 unfold zbX;have HC:=zac fun w=>zfo a.w a.c b.w b.c w
 have HE:=zac (znb a b);by_cases h:zc1 a.w a.c b.w b.c=0
 ·have HF:Hid (decide (zgv a b<0)=decide (a.site<b.site)):=zac (by rw[←HE.out,yad (by simpa using h)])
  rw[h]at HC;clear h HE;go_enter func141,ntmps141;go_wp2_with (go_at_call 134;refine(HC.out _).mono ?_;rintro e w' ⟨rfl,hb⟩;obtain⟨x,rfl⟩:=zad hb;clear hb);go_ret;exact⟨by rw[HF.out];rfl,zB⟩
 ·have HF:Hid (decide (zgv a b<0)=decide (zc1 a.w a.c b.w b.c<0)):=zac (by rw[←HE.out,yaj h])
  have hne:(zc1 a.w a.c b.w b.c != 0)=true:=by simpa using h
  clear HE;generalize zc1 a.w a.c b.w b.c=z at *;go_enter func141,ntmps141;go_wp2_with (go_at_call 134;refine(HC.out _).mono ?_;rintro e w' ⟨rfl,hb⟩;obtain⟨x,rfl⟩:=zad hb;clear hb);go_ret;exact⟨by rw[HF.out];rfl,zB⟩
theorem zcZ (n:Int) (w:World) (hg:za4 w):Calls prog 12 #[zbT n,n] w fun e w'=>e=.returned (.bool true)∧Below w w w':=by
 unfold zbT;split
 ·rename_i h
  subst h;exact zcY w
 ·exact za0 n w hg
def zka (W:World) (b:Nat) (v:zaE):World:=
 (((((W.setCell ⟨b,0,none⟩ (ii v.w)).setCell ⟨b,1,none⟩ (ii v.c)).setCell ⟨b,2,none⟩ (ii v.site)).setCell ⟨b,3,none⟩ (ii v.seq)).setCell ⟨b,4,none⟩ (.string v.data)).setCell ⟨b,5,none⟩ (.bool v.gone)
theorem zio {W:World}{b:Nat}{u:zaE}(v:zaE) (h:W.heap[b]?=some (.cells #[u.w,u.c,u.site,u.seq,.string u.data,.bool u.gone] 59)):
  (zka W b v).heap[b]?=some (.cells #[v.w,v.c,v.site,v.seq,.string v.data,.bool v.gone] 59)∧Below b W (zka W b v)∧(∀ k,k≠b→(zka W b v).heap[k]?=W.heap[k]?)∧(zka W b v).heap.size=W.heap.size:=by
 have h0:=zam h 0 (ii v.w);have h1:=zam h0 1 (ii v.c);have h2:=zam h1 2 (ii v.site);have h3:=zam h2 3 (ii v.seq);have h4:=zam h3 4 (.string v.data);have h5:=zam h4 5 (.bool v.gone);refine⟨h5,?_,?_,?_⟩
 ·exact((((((yaf b W).setCell (p:=⟨b,0,none⟩) zS _).setCell (p:=⟨b,1,none⟩) zS _).setCell (p:=⟨b,2,none⟩) zS _).setCell (p:=⟨b,3,none⟩) zS _).setCell (p:=⟨b,4,none⟩) zS _).setCell (p:=⟨b,5,none⟩) zS _
 ·intro k hk
  have g:∀ (X:World) (o:Nat) (v:Value),(X.setCell ⟨b,o,none⟩ v).heap[k]?=X.heap[k]?:=fun X o v=>by
   simp only[World.setCell];rw[ybS,yad zO]
  unfold zka;rw[g,g,g,g,g,g]
 ·simp[zka,World.setCell]
structure LsSt (w wr:World) (n:Nat) (a0 a1 a2 a3:Int) (b:zaE):Prop where
 bx:wr.heap[n]?=some (.cells #[a0,a1,a2,a3] 32)
 res:wr.heap[n+1]?=some (.cells #[ii 0,ii 0,ii 0,ii 0,.string ⟨#[]⟩,.bool false] 59)
 best:wr.heap[n+1+1]?=some (.cells #[b.w,b.c,b.site,b.seq,.string b.data,.bool b.gone] 59)
 low:Below n w wr
theorem LsSt.below {w wr wr':World}{n:Nat}{a0 a1 a2 a3:Int}{b:zaE}(h:LsSt w wr n a0 a1 a2 a3 b) (hb:Below wr wr wr'):LsSt w wr' n a0 a1 a2 a3 b:=
 ⟨(hb.block _ (zae h.bx)).trans h.bx,(hb.block _ (zae h.res)).trans h.res,(hb.block _ (zae h.best)).trans h.best,h.low.trans (hb.mono (by have:=zae h.bx;omega))⟩
theorem LsSt.set {w wr:World}{n:Nat}{a0 a1 a2 a3:Int}{b:zaE}(h:LsSt w wr n a0 a1 a2 a3 b) (v:zaE):LsSt w (zka wr (n+1+1) v) n a0 a1 a2 a3 v:=by
 obtain⟨h1,h2,h3,h4⟩:=zio v h.best;exact⟨(h3 n zO).trans h.bx,(h3 (n+1) zO).trans h.res,h1,h.low.trans (h2.mono zO)⟩
theorem ziI (r o B:Nat) (L:List PtP) (v:Value) (key a0 a1 a2 a3:Int) (w:World) (hst:zgY w r o B L v) (hok:∀ p∈L,0≤p.v.site∧p.v.site<4) (hlen:L.length≤900000):
  Calls prog 90 #[.pointer (some ⟨r,o,none⟩),key,.agg #[ii a0,ii a1,ii a2,ii a3]] w fun e w'=>
   e=.returned (.tuple #[zbX (zen a0 a1 a2 a3 key L).1,.bool (zen a0 a1 a2 a3 key L).2])∧Below w w w':=by
 obtain⟨A,c,rfl⟩:=zaP hst.own;have HPS:=zac (zhU hst.own);have HOK:=zac hok;obtain⟨hc1,hc2⟩:=hst.cell;have hlr:=hst.lt;haveI:zaj (r+1) w:=⟨hlr⟩;clear hst hok;obtain⟨F,hF⟩:∃ F,zen a0 a1 a2 a3 key L=F:=⟨_,rfl⟩;have HF:=zac hF;rw[hF];clear hF;have HL0:=zac (show LsSt w (((w.alloc (.cells #[a0,a1,a2,a3] 32)).alloc (.cells #[ii 0,ii 0,ii 0,ii 0,.string ⟨#[]⟩,.bool false] 59)).alloc (.cells #[ii 0,ii 0,ii 0,ii 0,.string ⟨#[]⟩,.bool false] 59)) w.heap.size a0 a1 a2 a3 verZ from
  ⟨zaC (zaC (zag rfl _) _) _,zaC (zag zS _) _,zag zS _,zB⟩)
 go_enter func90,ntmps90;go_wp2_with fail;go_loopw [9,17] (fun s i wr=>∃ (j:Nat) (best:zaE) (sm:Bool),i=ii j∧s=.bool sm∧j≤L.length∧LsSt w wr w.heap.size a0 a1 a2 a3 best∧zgJ a0 a1 a2 a3 key (L.drop j) best sm=F) (fun _ i _=>L.length-(intOf i).toNat)
 case atStart=>exact⟨0,verZ,false,rfl,rfl,yay _,HL0.out,by rw[yaA];exact HF.out⟩
 case round=>
  obtain⟨j,best,sm,rfl,rfl,hj,hst,hgo⟩:=hrel;have HST:=zac hst;have HGO:=zac hgo;clear hst hgo;by_cases hjl:j<L.length
  ·obtain⟨b,o,rfl,hb,hc⟩:=HPS.out j L[j] (yaa hjl)
   have hys:=HOK.out L[j] (yaw hjl);have hdrop:L.drop j=L[j]::L.drop (j+1):=yaK hjl;have hgo:=HGO.out;rw[hdrop]at hgo;generalize L[j]=p at *;obtain⟨pk,⟨pw,pc,ps,pq,pd,pg⟩⟩:=p;simp only at hys;obtain⟨st,rfl⟩:=yar hys.1;have hst4:st<4:=by omega
   obtain⟨d0,d1,d2,d3,d4,d5,d6⟩:=hc.below HST.out.low hb;have hat:=zex HST.out.bx hst4;obtain⟨aS,haS⟩:∃ aS,atV a0 a1 a2 a3 (st:Int)=aS:=⟨_,rfl⟩;rw[haS]at hat
   have hsn:zbJ a0 a1 a2 a3 ⟨pw,pc,(st:Int),pq,pd,pg⟩=decide (pq≤aS):=by unfold zbJ;rw[←haS]
   have hgo2:(if pk=key∧decide (pq≤aS)=true∧(sm=false∨zgv best ⟨pw,pc,(st:Int),pq,pd,pg⟩<0)then zgJ a0 a1 a2 a3 key (L.drop (j+1)) ⟨pw,pc,(st:Int),pq,pd,pg⟩ true else zgJ a0 a1 a2 a3 key (L.drop (j+1)) best sm)=F:=by
    rw[←hgo,←hsn];rfl
   have HG2:=zac hgo2;have HW:=zac HST.out.low;haveI:zaj (b+1) wr:=⟨yac hb HW.out.size⟩;haveI:zaj (w.heap.size+1) wr:=⟨zae HST.out.bx⟩;have hlb:=zae HST.out.best;haveI:zaj (w.heap.size+1+1) wr:=⟨zO⟩;haveI:zaj (w.heap.size+1+1+1) wr:=⟨hlb⟩;have b0:=zaa HST.out.best 0;have b1:=zaa HST.out.best 1;have b2:=zaa HST.out.best 2;have b3:=zaa HST.out.best 3;have b4:=zaa HST.out.best 4;have b5:=zaa HST.out.best 5;simp only[zC,zD,zE]at b0 b1 b2 b3 b4 b5;have z0:=zab HST.out.best 0;have z1:=zab HST.out.best 1;have z2:=zab HST.out.best 2;have z3:=zab HST.out.best 3;have z4:=zab HST.out.best 4;have z5:=zab HST.out.best 5;clear hgo hgo2 hsn haS hdrop hc hys HGO HL0;by_cases hk:pk=key
   ·have hd1:(pk==key)=true:=by simp[hk]
    have HK:=zac hk;clear hk;by_cases hs:pq≤aS
    ·have hd2:decide (pq≤aS)=true:=yae hs
     have HS:=zac hs;clear hs;cases sm
     ·have HG3:Hid (zgJ a0 a1 a2 a3 key (L.drop (j+1)) ⟨pw,pc,(st:Int),pq,pd,pg⟩ true=F):=zac (by rw[←HG2.out,yaj (⟨HK.out,yae HS.out,.inl rfl⟩)])
      clear HG2;go_wp2_with fail;refine zaz fun x3=>?_
      go_wp2_with fail;go_roundw
      case rel=>
       refine⟨j+1,⟨pw,pc,(st:Int),pq,pd,pg⟩,true,by go_num,rfl,zO,LsSt.below (HST.out.set ⟨pw,pc,(st:Int),pq,pd,pg⟩) ?_,HG3.out⟩;show Below _ (zka wr (w.heap.size+1+1) ⟨pw,pc,(st:Int),pq,pd,pg⟩) (zai ((zka wr (w.heap.size+1+1) ⟨pw,pc,(st:Int),pq,pd,pg⟩).alloc _) x3);generalize zka wr (w.heap.size+1+1) ⟨pw,pc,(st:Int),pq,pd,pg⟩=X;exact zB
      case measure=>simp[intOf];omega
     ·have HBF:=zac fun W=>zly best ⟨pw,pc,(st:Int),pq,pd,pg⟩ W
      unfold zbX at HBF;by_cases hc:zgv best ⟨pw,pc,(st:Int),pq,pd,pg⟩<0
      ·have HCV:=zac hc
       rw[yae hc]at HBF;clear hc;have HG3:Hid (zgJ a0 a1 a2 a3 key (L.drop (j+1)) ⟨pw,pc,(st:Int),pq,pd,pg⟩ true=F):=zac (by rw[←HG2.out,yaj (⟨HK.out,yae HS.out,.inr HCV.out⟩)]);clear HG2;go_wp2_with fail;refine zaz fun x3=>?_
       go_wp2_with fail;go_roundw
       case rel=>
        refine⟨j+1,⟨pw,pc,(st:Int),pq,pd,pg⟩,true,by go_num,rfl,zO,LsSt.below (HST.out.set ⟨pw,pc,(st:Int),pq,pd,pg⟩) ?_,HG3.out⟩;show Below _ (zka wr (w.heap.size+1+1) ⟨pw,pc,(st:Int),pq,pd,pg⟩) (zai ((zka wr (w.heap.size+1+1) ⟨pw,pc,(st:Int),pq,pd,pg⟩).alloc _) x3);generalize zka wr (w.heap.size+1+1) ⟨pw,pc,(st:Int),pq,pd,pg⟩=X;exact zB
       case measure=>simp[intOf];omega
      ·have HCV:=zac hc
       rw[yah hc]at HBF;clear hc;have HG3:Hid (zgJ a0 a1 a2 a3 key (L.drop (j+1)) best true=F):=zac (by rw[←HG2.out,yad (by rintro⟨_,_,h⟩;exact h.elim (fun e=>by cases e) HCV.out)]);clear HG2;go_wp2_with fail;refine zaz fun x3=>?_
       go_wp2_with fail;go_roundw
       case rel=>exact⟨j+1,best,true,by go_num,rfl,zO,HST.out.below zB,HG3.out⟩
       case measure=>simp[intOf];omega
    ·have hd2:decide (pq≤aS)=false:=yah hs
     have HS:=zac hs;clear hs;have HG3:Hid (zgJ a0 a1 a2 a3 key (L.drop (j+1)) best sm=F):=zac (by rw[←HG2.out,yad (by rintro⟨_,h,_⟩;exact HS.out (of_decide_eq_true h))]);clear HG2;go_wp2_with fail;refine zaz fun x3=>?_
     go_wp2_with fail;go_roundw
     case rel=>exact⟨j+1,best,sm,by go_num,rfl,zO,HST.out.below zB,HG3.out⟩
     case measure=>simp[intOf];omega
   ·have hd1:(pk==key)=false:=by simpa using hk
    have HK:=zac hk;clear hk;have HG3:Hid (zgJ a0 a1 a2 a3 key (L.drop (j+1)) best sm=F):=zac (by rw[←HG2.out,yad (by rintro⟨h,_⟩;exact HK.out h)]);clear HG2;go_wp2_with fail;refine zaz fun x3=>?_
    go_wp2_with fail;go_roundw
    case rel=>exact⟨j+1,best,sm,by go_num,rfl,zO,HST.out.below zB,HG3.out⟩
    case measure=>simp[intOf];omega
  ·obtain rfl:j=L.length:=by omega
   have hgo:=HGO.out;rw[ybt]at hgo;obtain rfl:(best,sm)=F:=hgo;have hbs:=zae HST.out.best;have b0:=zaa HST.out.best 0;have b1:=zaa HST.out.best 1;have b2:=zaa HST.out.best 2;have b3:=zaa HST.out.best 3;have b4:=zaa HST.out.best 4;have b5:=zaa HST.out.best 5;simp only[zC,zD,zE]at b0 b1 b2 b3 b4 b5;have z0:=zab HST.out.res 0;have z1:=zab HST.out.res 1;have z2:=zab HST.out.res 2;have z3:=zab HST.out.res 3;have z4:=zab HST.out.res 4;have z5:=zab HST.out.res 5;have r0:=zaa HST.out.res 0;have r1:=zaa HST.out.res 1;have r2:=zaa HST.out.res 2;have r3:=zaa HST.out.res 3;have r4:=zaa HST.out.res 4;have r5:=zaa HST.out.res 5;simp only[zC,zD,zE]at r0 r1 r2 r3 r4 r5;haveI:zaj (w.heap.size+1+1+1) wr:=⟨hbs⟩;haveI:zaj (w.heap.size+1+1) wr:=⟨zO⟩;have HLW:=zac HST.out.low;clear HL0 HGO hj hjl;go_wp2_with fail;obtain⟨p1,p2,_,_⟩:=zio (u:=verZ) best HST.out.res;generalize hW1:World.setCell _ _ (Value.bool best.gone)=W1;replace hW1:zka wr (w.heap.size+1) best=W1:=hW1;rw[hW1]at p1 p2;have q0:=zaa p1 0;have q1:=zaa p1 1;have q2:=zaa p1 2;have q3:=zaa p1 3;have q4:=zaa p1 4;have q5:=zaa p1 5;simp only[zC,zD,zE]at q0 q1 q2 q3 q4 q5;refine yag (v:=.tuple #[zbX best,.bool sm]) ?_ rfl ⟨rfl,HLW.out.trans (p2.mono zO)⟩;simp[results,results90,go_sem,q0,q1,q2,q3,q4,q5,zbX]
theorem ziF (r o B:Nat) (L:List PtP) (v:Value) (key a0 a1 a2 a3:Int) (w:World) (hst:zgY w r o B L v) (hok:∀ p∈L,0≤p.v.site∧p.v.site<4) (hlen:L.length≤900000):
  Calls prog 91 #[.pointer (some ⟨r,o,none⟩),key,.agg #[ii a0,ii a1,ii a2,ii a3]] w fun e w'=>
   e=.returned (.tuple #[zbX (zeb a0 a1 a2 a3 L key).1,ii (zeb a0 a1 a2 a3 L key).2])∧Below w w w':=by
 obtain⟨F,hF⟩:∃ F,zeb a0 a1 a2 a3 L key=F:=⟨_,rfl⟩;rw[hF];have HF:=zac hF;clear hF;have HL:=zac fun w' (hb:Below w w w')=>ziI r o B L v key a0 a1 a2 a3 w' (hst.below hb) hok hlen
 clear hst hok hlen;by_cases hk:0≤key∧key≤7
 ·obtain⟨⟨⟨bw,bc,bs,bq,bd,bg⟩,sm⟩,hR⟩:∃ R,zen a0 a1 a2 a3 key L=R:=⟨_,rfl⟩
  rw[hR]at HL;have hF2:=HF.out;unfold zeb at hF2;rw[yad zO,hR]at hF2;have HI:=zac fun w=>zb7 (n:=key) (lo:=0) (hi:=7) (b:=true) w (yae hk)
  unfold zbX at HL;have HF2:=zac hF2;clear hF2 hR HF hk;cases sm
  case false=>
   have HF3:Hid ((verZ,(8:Int))=F):=zac (by have:=HF2.out;simpa using this);clear HF2;go_enter func91,ntmps91;go_wp2_with (first|(go_at_call 96;refine(HI.out _).mono ?_;rintro e w' ⟨rfl,rfl⟩)|(go_at_call 90;go_must (refine(HL.out _ zB).mono ?_;rintro e w' ⟨rfl,hb⟩;obtain⟨x,rfl⟩:=zad hb;clear hb)));refine yag (v:=.tuple #[zbX verZ,ii 8]) ?_ rfl ⟨by rw[←HF3.out],zB⟩;simp[results,results91,go_sem,zbX,verZ]
  case true=>
   cases bg
   case true=>
    have HF3:Hid ((verZ,(8:Int))=F):=zac (by have:=HF2.out;simpa using this);clear HF2;go_enter func91,ntmps91;go_wp2_with (first|(go_at_call 96;refine(HI.out _).mono ?_;rintro e w' ⟨rfl,rfl⟩)|(go_at_call 90;go_must (refine(HL.out _ zB).mono ?_;rintro e w' ⟨rfl,hb⟩;obtain⟨x,rfl⟩:=zad hb;clear hb)));refine yag (v:=.tuple #[zbX verZ,ii 8]) ?_ rfl ⟨by rw[←HF3.out],zB⟩;simp[results,results91,go_sem,zbX,verZ]
   case false=>
    have HF3:Hid (((⟨bw,bc,bs,bq,bd,false⟩:zaE),(0:Int))=F):=zac (by have:=HF2.out;simpa using this);clear HF2;go_enter func91,ntmps91;go_wp2_with (first|(go_at_call 96;refine(HI.out _).mono ?_;rintro e w' ⟨rfl,rfl⟩)|(go_at_call 90;go_must (refine(HL.out _ zB).mono ?_;rintro e w' ⟨rfl,hb⟩;obtain⟨x,rfl⟩:=zad hb;clear hb)));refine yag (v:=.tuple #[zbX ⟨bw,bc,bs,bq,bd,false⟩,ii 0]) ?_ rfl ⟨by rw[←HF3.out],zB⟩;simp[results,results91,go_sem,zbX,verZ]
 ·have HI:=zac fun w=>zb7 (n:=key) (lo:=0) (hi:=7) (b:=false) w (yah hk)
  have HF3:Hid ((verZ,(2:Int))=F):=zac (by have:=HF.out;unfold zeb at this;rw[yaj zO]at this;exact this);clear HF HL;go_enter func91,ntmps91;go_wp2_with (go_at_call 96;refine(HI.out _).mono ?_;rintro e w' ⟨rfl,rfl⟩);refine yag (v:=.tuple #[zbX verZ,ii 2]) ?_ rfl ⟨by rw[←HF3.out],zB⟩;simp[results,results91,go_sem,zbX,verZ]
theorem info141o:(prog.info? 166).map (fun i=>(i.zero,i.size,i.bytes))=some (some (.agg #[ii 0,ii 0,ii 0,ii 0,ii 0,.string ⟨#[]⟩,.bool false]),7,64):=by kernel_rfl
theorem info141:∃ i,prog.info? 166=some i∧i.zero=some (.agg #[ii 0,ii 0,ii 0,ii 0,ii 0,.string ⟨#[]⟩,.bool false])∧i.size=7∧i.bytes=64:=by
 obtain⟨i,hi,h⟩:=ya6.1 info141o;simp only[ybc]at h;exact⟨i,hi,h.1,h.2.1,h.2.2⟩
theorem cells7 {w:World}{ab:Nat}{u0 u1 u2 u3 u4 u5 u6:Value}{t:TypeId}(h:w.heap[ab]?=some (.cells #[u0,u1,u2,u3,u4,u5,u6] t)):
  ∀ (j:Nat) (u:Value),[u0,u1,u2,u3,u4,u5,u6][j]?=some u→w.cell? ((⟨ab,0,none⟩:Addr).add j)=some u:=by
 intro j u hj;have e:(⟨ab,0,none⟩:Addr).add j=⟨ab,j,none⟩:=by unfold Addr.add;split <;> simp_all
 rw[e,zaa h j];simpa using hj
theorem zmD {a b d:Bool}(h:a=false) (h2:(a||b)=d):b=d:=by subst h;simpa using h2
theorem zau {W w1:World}{o:Obj}{r:Option Nat}(h:(W.alloc o).grownBy w1 r):W.grownBy w1 r:=
 ⟨h.os,h.tape,h.output,yac zS h.size,fun k hk hr=>(h.block k zP hr).trans (ybR W o k hk)⟩
theorem zff {W:World}{x0 x1 x2 x3 x4 x5 x6:Value}{n:Nat}{t:TypeId}(hn:n=W.heap.size):
  ∀ (j:Nat) (u:Value),[x0,x1,x2,x3,x4,x5,x6][j]?=some u→(W.alloc (.cells #[x0,x1,x2,x3,x4,x5,x6] t)).cell? ((⟨n,0,none⟩:Addr).add j)=some u:=
 cells7 (zag hn _)
theorem zaQ {W w1:World}{r:Option Nat}(h:W.drew.grownBy w1 r):W.grownBy w1 r:=⟨h.os,h.tape,h.output,h.size,h.block⟩
def zkt (r o B:Nat) (v:Value) (res:Int×List PtP) (w:World) (e:Ending) (w':World):Prop:=
 ∃ v',e=.returned (ii res.1)∧zgY w' r o B res.2 v'∧zng w w' r o v v'
theorem rPut_any (r o B:Nat) (L:List PtP) (v0:Value) (key:Int) (v:zaE) (w:World) (hst:zgY w r o B L v0) (hlen:L.length≤900000) (hB:B≤w.heap.size):
  Calls prog 133 #[.pointer (some ⟨r,o,none⟩),key,zbX v] w (zkt r o B v0 (zgP L key v) w):=by
 have HST:=zac hst;have hlr:=hst.lt;have hdone:∀ (n:Int) (w':World),zgP L key v=(n,L)→Below w w w'→zkt r o B v0 (zgP L key v) w (.returned (ii n)) w':=by
  intro n w' h hb;rw[h];exact⟨v0,rfl,hst.below hb,zng.of_below hlr o v0 hb⟩
 have HDN:=zac hdone;clear hdone hst;unfold zbX;by_cases hk:0≤key∧key≤7
 case neg=>
  have HR:Hid (zgP L key v=(2,L)):=zac (by unfold zgP;rw[yaj zO]);have HI:=zac fun w=>zb7 (n:=key) (lo:=0) (hi:=7) (b:=false) w (yah hk)
  clear hk;go_enter func133,ntmps133;go_wp2_with (go_at_call 96;refine(HI.out _).mono ?_;rintro e w' ⟨rfl,rfl⟩);go_ret;exact HDN.out _ _ HR.out zB
 have HI:=zac fun w=>zb7 (n:=key) (lo:=0) (hi:=7) (b:=true) w (yae hk)
 have HK:=zac hk;clear hk;have HSi:∀ b,decide (0≤v.site∧v.site≤3)=b→Hid (∀ w,Calls prog 96 #[v.site,ii 0,ii 3] w fun e w'=>e=.returned (.bool b)∧w=w'):=fun b h=>zac fun w=>zb7 w h
 have HSq:∀ b,decide (1≤v.seq∧v.seq≤1099511627776)=b→Hid (∀ w,Calls prog 96 #[v.seq,ii 1,ii 1099511627776] w fun e w'=>e=.returned (.bool b)∧w=w'):=fun b h=>zac fun w=>zb7 w h
 have HR1:zba v=false→Hid (zgP L key v=(1,L)):=fun h=>zac (by unfold zgP;have:=HK.out;rw[yad zO,yaj h])
 have HS0:∀ b,zav v.w v.c=b→Hid (∀ w,Calls prog 132 #[.agg #[ii v.w,ii v.c]] w fun e w'=>e=.returned (.bool b)∧Below w w w'):=fun b h=>zac (by intro w;rw[←h];exact zb4 v.w v.c w)
 by_cases h0:zav v.w v.c=true
 case neg=>
  have h0:zav v.w v.c=false:=by simpa using h0
  have HR:=HR1 (by simp[zba,h0]);have H0:=HS0 false h0;clear h0;clear HR1 HSi HSq HS0;go_enter func133,ntmps133;go_wp2_with fail;go_at_call 96;refine(HI.out _).mono ?_;rintro e w' ⟨rfl,rfl⟩;go_wp2_with fail;go_at_call 132;refine(H0.out _).mono ?_;rintro e w' ⟨rfl,hb⟩;obtain⟨x,rfl⟩:=zad hb;clear hb;go_wp2_with fail;go_ret;exact HDN.out _ _ HR.out zB
 have H0:=HS0 true h0;by_cases h1:0≤v.site∧v.site≤3
 case neg=>
  have HR:=HR1 (by simp[zba];omega);have HA:=HSi false (yah h1);clear h0 h1;clear HR1 HSi HSq HS0;go_enter func133,ntmps133;go_wp2_with fail;go_at_call 96;refine(HI.out _).mono ?_;rintro e w' ⟨rfl,rfl⟩;go_wp2_with fail;go_at_call 132;refine(H0.out _).mono ?_;rintro e w' ⟨rfl,hb⟩;obtain⟨x,rfl⟩:=zad hb;clear hb;go_wp2_with fail;go_at_call 96;refine(HA.out _).mono ?_;rintro e w' ⟨rfl,rfl⟩;go_wp2_with fail;go_ret;exact HDN.out _ _ HR.out zB
 have HA:=HSi true (yae h1);by_cases h2:1≤v.seq∧v.seq≤1099511627776
 case neg=>
  have HR:=HR1 (by simp[zba];omega);have HQ:=HSq false (yah h2);clear h0 h1 h2;clear HR1 HSi HSq HS0;go_enter func133,ntmps133;go_wp2_with fail;go_at_call 96;refine(HI.out _).mono ?_;rintro e w' ⟨rfl,rfl⟩;go_wp2_with fail;go_at_call 132;refine(H0.out _).mono ?_;rintro e w' ⟨rfl,hb⟩;obtain⟨x,rfl⟩:=zad hb;clear hb;go_wp2_with fail;go_at_call 96;refine(HA.out _).mono ?_;rintro e w' ⟨rfl,rfl⟩;go_wp2_with fail;go_at_call 96;refine(HQ.out _).mono ?_;rintro e w' ⟨rfl,rfl⟩;go_wp2_with fail;go_ret;exact HDN.out _ _ HR.out zB
 have HQ:=HSq true (yae h2);by_cases h3:12<v.data.size
 case pos=>
  have HR:=HR1 (by simp[zba];omega);clear h0 h1 h2;clear HR1 HSi HSq HS0;go_enter func133,ntmps133;go_wp2_with fail;go_at_call 96;refine(HI.out _).mono ?_;rintro e w' ⟨rfl,rfl⟩;go_wp2_with fail;go_at_call 132;refine(H0.out _).mono ?_;rintro e w' ⟨rfl,hb⟩;obtain⟨x,rfl⟩:=zad hb;clear hb;go_wp2_with fail;go_at_call 96;refine(HA.out _).mono ?_;rintro e w' ⟨rfl,rfl⟩;go_wp2_with fail;go_at_call 96;refine(HQ.out _).mono ?_;rintro e w' ⟨rfl,rfl⟩;go_wp2_with fail;go_ret;exact HDN.out _ _ HR.out zB
 have HR2:(v.gone=false∨v.data.size=0)→Hid (zba v=true):=fun h=>zac (by
  unfold zba;rcases h with h|h <;> simp[h0,h] <;> omega)
 obtain⟨vw,vc,site,seq,data,gone⟩:=v;simp only at *;clear h0 h1 h2;have HG:(gone=true∧data.toList≠[])∨(gone=false∨data.toList=[]):=by
  cases gone
  ·exact .inr (.inl rfl)
  ·by_cases h:data.toList=[]
   ·exact .inr (.inr h)
   ·exact .inl ⟨rfl,h⟩
 rcases HG with ⟨rfl,hne⟩|hok
 ·have hs:data.size≠0:=by rw[zck,←ya0];intro h;exact hne (yan h)
  have HR:=HR1 (by simp[zba,hs]);have c5:data.toList.isEmpty=false:=by simpa using hne
  clear hs hne HR2;clear HR1 HSi HSq HS0;go_enter func133,ntmps133;go_wp2_with fail;go_at_call 96;refine(HI.out _).mono ?_;rintro e w' ⟨rfl,rfl⟩;go_wp2_with fail;go_at_call 132;refine(H0.out _).mono ?_;rintro e w' ⟨rfl,hb⟩;obtain⟨x,rfl⟩:=zad hb;clear hb;go_wp2_with fail;go_at_call 96;refine(HA.out _).mono ?_;rintro e w' ⟨rfl,rfl⟩;go_wp2_with fail;go_at_call 96;refine(HQ.out _).mono ?_;rintro e w' ⟨rfl,rfl⟩;go_wp2_with fail;go_ret;exact HDN.out _ _ HR.out zB
 ·have HRT:=HR2 (hok.imp id (fun h=>by rw[zck,←ya0,h];rfl))
  obtain⟨D,hD⟩:∃ D,zkc L key ⟨vw,vc,site,seq,data,gone⟩=D:=⟨_,rfl⟩;have HR9:D=true→Hid (zgP L key ⟨vw,vc,site,seq,data,gone⟩=(9,L)):=fun h=>zac (by unfold zgP;have:=HK.out;rw[yad zO,yad (by rw[HRT.out];simp),yaj (by rw[hD,h])])
  have HR0:D=false→Hid (zgP L key ⟨vw,vc,site,seq,data,gone⟩=(0,L++[⟨key,⟨vw,vc,site,seq,data,gone⟩⟩])):=fun h=>zac (by unfold zgP;have:=HK.out;rw[yad zO,yad (by rw[HRT.out];simp),yad (by rw[hD,h];simp)])
  have HD:=zac hD;obtain⟨A,c,rfl⟩:=zaP HST.out.own;have HPS:=zac (zhU HST.out.own);have hcell:=HST.out.cell;obtain⟨hc1,hc2⟩:=hcell;haveI:zaj (r+1) w:=⟨hlr⟩;have c5:gone=false∨(gone=true∧data.toList.isEmpty=true):=by
   cases gone
   ·exact .inl rfl
   ·exact .inr ⟨rfl,hok.elim (fun e=>by cases e) (fun h=>by rw[h];rfl)⟩
  clear hD HR1 HR2 HRT HSi HSq HS0 hok;generalize zgP L key ⟨vw,vc,site,seq,data,gone⟩=RES at *;rcases c5 with rfl|⟨rfl,c5⟩
  ·go_enter func133,ntmps133
   go_wp2_with fail;go_at_call 96;refine(HI.out _).mono ?_;rintro e w' ⟨rfl,rfl⟩;go_wp2_with fail;go_at_call 132;refine(H0.out _).mono ?_;rintro e w' ⟨rfl,hb⟩;obtain⟨x,rfl⟩:=zad hb;clear hb;go_wp2_with fail;go_at_call 96;refine(HA.out _).mono ?_;rintro e w' ⟨rfl,rfl⟩;go_wp2_with fail;go_at_call 96;refine(HQ.out _).mono ?_;rintro e w' ⟨rfl,rfl⟩;go_wp2_with fail;go_loopw [48] (fun i wr=>∃ j:Nat,i=ii j∧j≤L.length∧((L.drop j).any fun h=>zhF h ⟨key,⟨vw,vc,site,seq,data,false⟩⟩)=D∧Below (w.alloc (.cells #[vw,vc,site,seq,.string data,.bool false] 59)).heap.size (w.alloc (.cells #[vw,vc,site,seq,.string data,.bool false] 59)) wr) (fun i _=>L.length-(intOf i).toNat)
   case atStart=>exact⟨0,rfl,yay _,by rw[yaA];exact HD.out,zB⟩
   case round=>
    obtain⟨j,rfl,hj,hany,hbl⟩:=hrel;obtain⟨x,rfl⟩:=zad hbl;clear hbl;by_cases hjl:j<L.length
    ·obtain⟨b,o,rfl,hb,hc⟩:=HPS.out j L[j] (yaa hjl)
     have hdrop:L.drop j=L[j]::L.drop (j+1):=yaK hjl;rw[hdrop,List.any_cons]at hany;generalize L[j]=p at *;obtain⟨pk,⟨pw,pc,ps,pq,pd,pg⟩⟩:=p;have HAN:=zac hany;obtain⟨d0,d1,d2,d3,d4,d5,d6⟩:=hc;simp only at d0 d1 d2 d3 d4 d5 d6;haveI:zaj (b+1) w:=⟨hb⟩;clear hany hdrop;go_wp2_with fail
     all_goals first
      | (go_ret
         refine HDN.out _ _ (HR9 ?_).out zB;rw[←HAN.out];simp[zhF, *])
      | (refine⟨⟨j+1,by go_num,zO,(zmD ?_ HAN.out),zB⟩,by simp[intOf];omega⟩
         simp[zhF, *])
    ·obtain rfl:j=L.length:=by omega
     rw[ybt]at hany;have HR:=HR0 hany.symm;clear hany hj hjl HR9 HR0 HD;have HB3:Hid (Below w w (zai (w.alloc (.cells #[vw,vc,site,seq,.string data,.bool false] 59)) x)):=zac zB;have HC3:Hid ((zai (w.alloc (.cells #[vw,vc,site,seq,.string data,.bool false] 59)) x).heap[w.heap.size]?=some (.cells #[vw,vc,site,seq,.string data,.bool false] 59)):=zac ((zak _ x _ zS).trans (zag rfl _));generalize zai (w.alloc (.cells #[vw,vc,site,seq,.string data,.bool false] 59)) x=W3 at *;have HS3:=zac (HST.out.below HB3.out);obtain⟨k1,k2⟩:=HS3.out.cell;haveI:zaj (r+1) W3:=⟨HS3.out.lt⟩;haveI:zaj (w.heap.size+1) W3:=⟨zae HC3.out⟩;have e0:=zaa HC3.out 0;have e1:=zaa HC3.out 1;have e2:=zaa HC3.out 2;have e3:=zaa HC3.out 3;have e4:=zaa HC3.out 4;have e5:=zaa HC3.out 5;simp only[zC,zD,zE]at e0 e1 e2 e3 e4 e5;have hB3:=HB3.out.size;obtain⟨i0,hi0,hz0,hz1,hz2⟩:=info141;have HOW:=zac HS3.out.own;go_wp2_with fail;have HROW:Hid (∀ (W:World) (v:Value) (n:Nat),W.ownsRow B 166 7 v n (zaY L++[ii key,ii vw,ii vc,ii site,ii seq,.string data,.bool false])→n=L.length+1→W.ownsRow B 166 7 v (L++[(⟨key,⟨vw,vc,site,seq,data,false⟩⟩:PtP)]).length (zaY (L++[⟨key,⟨vw,vc,site,seq,data,false⟩⟩]))):=zac (by
      intro W v n h hn;have hrow:zaY L++[ii key,ii vw,ii vc,ii site,ii seq,.string data,.bool false]=zaY (L++[⟨key,⟨vw,vc,site,seq,data,false⟩⟩]):=by rw[zcf];rfl
      have hle:(L++[(⟨key,⟨vw,vc,site,seq,data,false⟩⟩:PtP)]).length=L.length+1:=by simp
      rw[hle,←hn,←hrow];exact h)
     have HN1:∀ u∈([ii key,ii vw,ii vc,ii site,ii seq,.string data,.bool false]:List Value),u.oneCell'=true:=by
      intro u hu;simp at hu;rcases hu with rfl|rfl|rfl|rfl|rfl|rfl|rfl <;> rfl
     have h63:L.length+1≤maxLen:=by refine yac ?_ maxLen_ge;omega
     have hby:(L.length+1)*64≤140737488355328:=by omega
     go_region_law (
      refine step_append_lies _ rfl (.tmp 77) (.tmp 81) 36 rfl B 166 i0 (.agg #[ii 0,ii 0,ii 0,ii 0,ii 0,.string ⟨#[]⟩,.bool false]) 7 64 underlying36 hi0 hz0 hz1 hz2 rfl zI (.slice A L.length c) L.length (zaY L) zM (zaF HOW.out zB (fun k e=>(zao HOW.out e).2)) ⟨W3,0,none⟩ 1 1 [ii key,ii vw,ii vc,ii site,ii seq,.string data,.bool false] zM rfl (World.news_of_block (cs:=#[ii key,ii vw,ii vc,ii site,ii seq,.string data,.bool false]) (by(try rw[zaq]);rw[heap_alloc,yaj (by simp[zaq])])) HN1 zI h63 hby zP _ rfl ?_;intro g1 cap1 w1 hown1 hgrow hgl hlt1;have hg:=zau (zaQ hgrow);have hup:=zgY.upd HS3.out hg (HROW.out _ _ _ hown1 rfl) (by
       rcases hgl with e|e
       ·exact .inl (by rw[e];rfl)
       ·exact .inr (by intro b hb;simp[Value.ownBlock]at hb;subst hb;rw[e];simp[zaq]))
      have HP:Hid (zkt r o B (.slice A L.length c) RES w (.returned (ii 0)) (w1.setCell ⟨r,o,none⟩ (.slice (some ⟨g1,0,none⟩) (L.length+1) cap1))):=zac (by
       rw[HR.out];exact⟨_,rfl,hup.1,hup.2.from hlr HB3.out⟩)
      have q1:w1.cell? ⟨r,o,none⟩=some (.slice A L.length c):=by rw[yam (hg.block r (HS3.out.lt) (fun e=>HS3.out.ng e.symm))];exact k1
      have q2:w1.frozen? ⟨r,o,none⟩=false:=by rw[yal (hg.block r (HS3.out.lt) (fun e=>HS3.out.ng e.symm))];exact k2
      clear hown1 hgrow hgl hlt1 hg hup)
     all_goals
      go_wp2_with fail;go_ret;exact HP.out
  ·go_enter func133,ntmps133
   go_wp2_with fail;go_at_call 96;refine(HI.out _).mono ?_;rintro e w' ⟨rfl,rfl⟩;go_wp2_with fail;go_at_call 132;refine(H0.out _).mono ?_;rintro e w' ⟨rfl,hb⟩;obtain⟨x,rfl⟩:=zad hb;clear hb;go_wp2_with fail;go_at_call 96;refine(HA.out _).mono ?_;rintro e w' ⟨rfl,rfl⟩;go_wp2_with fail;go_at_call 96;refine(HQ.out _).mono ?_;rintro e w' ⟨rfl,rfl⟩;go_wp2_with fail;go_loopw [48] (fun i wr=>∃ j:Nat,i=ii j∧j≤L.length∧((L.drop j).any fun h=>zhF h ⟨key,⟨vw,vc,site,seq,data,true⟩⟩)=D∧Below (w.alloc (.cells #[vw,vc,site,seq,.string data,.bool true] 59)).heap.size (w.alloc (.cells #[vw,vc,site,seq,.string data,.bool true] 59)) wr) (fun i _=>L.length-(intOf i).toNat)
   case atStart=>exact⟨0,rfl,yay _,by rw[yaA];exact HD.out,zB⟩
   case round=>
    obtain⟨j,rfl,hj,hany,hbl⟩:=hrel;obtain⟨x,rfl⟩:=zad hbl;clear hbl;by_cases hjl:j<L.length
    ·obtain⟨b,o,rfl,hb,hc⟩:=HPS.out j L[j] (yaa hjl)
     have hdrop:L.drop j=L[j]::L.drop (j+1):=yaK hjl;rw[hdrop,List.any_cons]at hany;generalize L[j]=p at *;obtain⟨pk,⟨pw,pc,ps,pq,pd,pg⟩⟩:=p;have HAN:=zac hany;obtain⟨d0,d1,d2,d3,d4,d5,d6⟩:=hc;simp only at d0 d1 d2 d3 d4 d5 d6;haveI:zaj (b+1) w:=⟨hb⟩;clear hany hdrop;go_wp2_with fail
     all_goals first
      | (go_ret
         refine HDN.out _ _ (HR9 ?_).out zB;rw[←HAN.out];simp[zhF, *])
      | (refine⟨⟨j+1,by go_num,zO,(zmD ?_ HAN.out),zB⟩,by simp[intOf];omega⟩
         simp[zhF, *])
    ·obtain rfl:j=L.length:=by omega
     rw[ybt]at hany;have HR:=HR0 hany.symm;clear hany hj hjl HR9 HR0 HD;have HB3:Hid (Below w w (zai (w.alloc (.cells #[vw,vc,site,seq,.string data,.bool true] 59)) x)):=zac zB;have HC3:Hid ((zai (w.alloc (.cells #[vw,vc,site,seq,.string data,.bool true] 59)) x).heap[w.heap.size]?=some (.cells #[vw,vc,site,seq,.string data,.bool true] 59)):=zac ((zak _ x _ zS).trans (zag rfl _));generalize zai (w.alloc (.cells #[vw,vc,site,seq,.string data,.bool true] 59)) x=W3 at *;have HS3:=zac (HST.out.below HB3.out);obtain⟨k1,k2⟩:=HS3.out.cell;haveI:zaj (r+1) W3:=⟨HS3.out.lt⟩;haveI:zaj (w.heap.size+1) W3:=⟨zae HC3.out⟩;have e0:=zaa HC3.out 0;have e1:=zaa HC3.out 1;have e2:=zaa HC3.out 2;have e3:=zaa HC3.out 3;have e4:=zaa HC3.out 4;have e5:=zaa HC3.out 5;simp only[zC,zD,zE]at e0 e1 e2 e3 e4 e5;have hB3:=HB3.out.size;obtain⟨i0,hi0,hz0,hz1,hz2⟩:=info141;have HOW:=zac HS3.out.own;go_wp2_with fail;have HROW:Hid (∀ (W:World) (v:Value) (n:Nat),W.ownsRow B 166 7 v n (zaY L++[ii key,ii vw,ii vc,ii site,ii seq,.string data,.bool true])→n=L.length+1→W.ownsRow B 166 7 v (L++[(⟨key,⟨vw,vc,site,seq,data,true⟩⟩:PtP)]).length (zaY (L++[⟨key,⟨vw,vc,site,seq,data,true⟩⟩]))):=zac (by
      intro W v n h hn;have hrow:zaY L++[ii key,ii vw,ii vc,ii site,ii seq,.string data,.bool true]=zaY (L++[⟨key,⟨vw,vc,site,seq,data,true⟩⟩]):=by rw[zcf];rfl
      have hle:(L++[(⟨key,⟨vw,vc,site,seq,data,true⟩⟩:PtP)]).length=L.length+1:=by simp
      rw[hle,←hn,←hrow];exact h)
     have HN1:∀ u∈([ii key,ii vw,ii vc,ii site,ii seq,.string data,.bool true]:List Value),u.oneCell'=true:=by
      intro u hu;simp at hu;rcases hu with rfl|rfl|rfl|rfl|rfl|rfl|rfl <;> rfl
     have h63:L.length+1≤maxLen:=by refine yac ?_ maxLen_ge;omega
     have hby:(L.length+1)*64≤140737488355328:=by omega
     go_region_law (
      refine step_append_lies _ rfl (.tmp 77) (.tmp 81) 36 rfl B 166 i0 (.agg #[ii 0,ii 0,ii 0,ii 0,ii 0,.string ⟨#[]⟩,.bool false]) 7 64 underlying36 hi0 hz0 hz1 hz2 rfl zI (.slice A L.length c) L.length (zaY L) zM (zaF HOW.out zB (fun k e=>(zao HOW.out e).2)) ⟨W3,0,none⟩ 1 1 [ii key,ii vw,ii vc,ii site,ii seq,.string data,.bool true] zM rfl (World.news_of_block (cs:=#[ii key,ii vw,ii vc,ii site,ii seq,.string data,.bool true]) (by(try rw[zaq]);rw[heap_alloc,yaj (by simp[zaq])])) HN1 zI h63 hby zP _ rfl ?_;intro g1 cap1 w1 hown1 hgrow hgl hlt1;have hg:=zau (zaQ hgrow);have hup:=zgY.upd HS3.out hg (HROW.out _ _ _ hown1 rfl) (by
       rcases hgl with e|e
       ·exact .inl (by rw[e];rfl)
       ·exact .inr (by intro b hb;simp[Value.ownBlock]at hb;subst hb;rw[e];simp[zaq]))
      have HP:Hid (zkt r o B (.slice A L.length c) RES w (.returned (ii 0)) (w1.setCell ⟨r,o,none⟩ (.slice (some ⟨g1,0,none⟩) (L.length+1) cap1))):=zac (by
       rw[HR.out];exact⟨_,rfl,hup.1,hup.2.from hlr HB3.out⟩)
      have q1:w1.cell? ⟨r,o,none⟩=some (.slice A L.length c):=by rw[yam (hg.block r (HS3.out.lt) (fun e=>HS3.out.ng e.symm))];exact k1
      have q2:w1.frozen? ⟨r,o,none⟩=false:=by rw[yal (hg.block r (HS3.out.lt) (fun e=>HS3.out.ng e.symm))];exact k2
      clear hown1 hgrow hgl hlt1 hg hup)
     all_goals
      go_wp2_with fail;go_ret;exact HP.out
end Go.Proofs.YtbopfhbeegkkaabGreatDoor
