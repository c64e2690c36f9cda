/- Part 6 of a proof: lemmas and contracts that other parts use. -/
import Derived.Test.YtbopfhbeegkkaabGreatDoorWp5
import Derived.RangeFuncNested
import Derived.RangeFuncBound
import Derived.RangeFuncCalls
import Derived.Shelf.RegionOpen
set_option linter.unusedVariables false
set_option linter.unusedSimpArgs false
set_option maxHeartbeats 4000000
set_option maxRecDepth 100000
namespace Go.Proofs.YtbopfhbeegkkaabGreatDoor
open Go.RowKit Go.Shelf Go.Proofs.Tryz
attribute [local go_sem] Oper.semAt_some
def verZ:zaE:=⟨0,0,0,0,⟨#[]⟩,false⟩
def zgp (a0 a1 a2 a3:Int) (vs:List zaE):Option zaE:=vs.reverse.find? (zbJ a0 a1 a2 a3)
def zcO (a0 a1 a2 a3:Int) (S:Nat→List zaE) (key:Int):zaE×Int:=
 if key<0∨8≤key then (verZ,2)else match zgp a0 a1 a2 a3 (S key.toNat)with
  | some v=>if v.gone=true then (verZ,8)else (v,0)
  | none=>(verZ,8)
theorem zl2 (p:zaE→Bool) (vs:List zaE) (k:Nat) (hk:k<vs.length) (h:∀ x∈zdV vs k,p (vs.getD x default)=false) (hx:p (vs.getD (vs.length-1-k) default)=true):vs.reverse.find? p=some (vs.getD (vs.length-1-k) default):=by
 rw[List.find?_eq_some_iff_getElem];refine⟨hx,k,by simpa using hk,?_,?_⟩
 ·rw[List.getElem_reverse,ybO,yaa zO];rfl
 ·intro j hj
  have hjl:vs.length-1-j<vs.length:=by omega
  have:=h (vs.length-1-j) (by simp only[zdV,ybE,ybK];exact⟨j,hj,rfl⟩);rw[ybO,yaa hjl]at this;rw[List.getElem_reverse];simpa using this
theorem zl1 (p:zaE→Bool) (vs:List zaE) (h:∀ x∈zdV vs vs.length,p (vs.getD x default)=false):vs.reverse.find? p=none:=by
 rw[yb7];intro y hy;obtain⟨i,hi,rfl⟩:=yb0 (yb4.1 hy);have:=h i (by simp only[zdV,ybE,ybK];exact⟨vs.length-1-i,zO,zO⟩);rw[ybO,yaa hi]at this;simpa using this
theorem zet {β:Type}(B:Nat) (cs:Array Value) (t:TypeId):Own (fun(_:β) (W:World)=>W.heap[B]?=some (.cells cs t)):=fun s X Y row hs hg hrow=>
 (hg.block B (zae hs) (fun e'=>by obtain⟨o,ho,hc⟩:=hrow B e'.symm;rw[hs]at ho;cases ho;cases hc)).trans hs
theorem zag {W:World}{n:Nat}(hn:n=W.heap.size) (o:Obj):(W.alloc o).heap[n]?=some o:=by subst hn;exact World.alloc_heap_new W o
theorem zaC {W:World}{B:Nat}{o:Obj}(h:W.heap[B]?=some o) (o':Obj):(W.alloc o').heap[B]?=some o:=(ybR W o' B (zae h)).trans h
def resW (W:World) (b:Nat) (v0 v1 v2 v3 v4 v5 u:Value):World:=
 ((((((W.setCell ⟨b+1,0,none⟩ v0).setCell ⟨b+1,1,none⟩ v1).setCell ⟨b+1,2,none⟩ v2).setCell ⟨b+1,3,none⟩ v3).setCell ⟨b+1,4,none⟩ v4).setCell ⟨b+1,5,none⟩ v5).setCell ⟨b+1+1,0,none⟩ u
theorem zf4 {W:World}{b:Nat}{x0 x1 x2 x3 x4 x5 x6:Value}(v0 v1 v2 v3 v4 v5 u:Value) (c1:W.heap[b+1]?=some (.cells #[x0,x1,x2,x3,x4,x5] 59)) (c2:W.heap[b+1+1]?=some (.cells #[x6] 25)):
  (resW W b v0 v1 v2 v3 v4 v5 u).heap[b+1]?=some (.cells #[v0,v1,v2,v3,v4,v5] 59)∧(resW W b v0 v1 v2 v3 v4 v5 u).heap[b+1+1]?=some (.cells #[u] 25)∧Below b W (resW W b v0 v1 v2 v3 v4 v5 u)∧KeepsOthers W (resW W b v0 v1 v2 v3 v4 v5 u):=by
 have h0:=zam c1 0 v0;have h1:=zam h0 1 v1;have h2:=zam h1 2 v2;have h3:=zam h2 3 v3;have h4:=zam h3 4 v4;have h5:=zam h4 5 v5;have hb5:Below b W ((((((W.setCell ⟨b+1,0,none⟩ v0).setCell ⟨b+1,1,none⟩ v1).setCell ⟨b+1,2,none⟩ v2).setCell ⟨b+1,3,none⟩ v3).setCell ⟨b+1,4,none⟩ v4).setCell ⟨b+1,5,none⟩ v5):=
  ((((((yaf b W).setCell (p:=⟨b+1,0,none⟩) zS _).setCell (p:=⟨b+1,1,none⟩) zS _).setCell (p:=⟨b+1,2,none⟩) zS _).setCell (p:=⟨b+1,3,none⟩) zS _).setCell (p:=⟨b+1,4,none⟩) zS _).setCell (p:=⟨b+1,5,none⟩) zS _
 have g:∀ (X:World) (k:Nat) (v:Value),b+1+1<X.heap.size→(X.setCell ⟨b+1,k,none⟩ v).heap[b+1+1]?=X.heap[b+1+1]?:=fun X k v hl=>(zan X (b+1) k v).block (b+1+1) hl zS
 have c6:((((((W.setCell ⟨b+1,0,none⟩ v0).setCell ⟨b+1,1,none⟩ v1).setCell ⟨b+1,2,none⟩ v2).setCell ⟨b+1,3,none⟩ v3).setCell ⟨b+1,4,none⟩ v4).setCell ⟨b+1,5,none⟩ v5).heap[b+1+1]?=some (.cells #[x6] 25):=by
  have hl:=zae c2;rw[g _ _ _ (by simpa using hl),g _ _ _ (by simpa using hl),g _ _ _ (by simpa using hl),g _ _ _ (by simpa using hl),g _ _ _ (by simpa using hl),g _ _ _ hl];exact c2
 refine⟨?_,?_,hb5.setCell (p:=⟨b+1+1,0,none⟩) zP _,?_⟩
 ·unfold resW
  rw[(zan _ (b+1+1) 0 u).block (b+1) (by have:=zae c1;simpa using this) zS];exact h5
 ·exact zam c6 0 u
 ·exact((((((KeepsOthers.setCell _ _ _).trans (KeepsOthers.setCell _ _ _)).trans (KeepsOthers.setCell _ _ _)).trans (KeepsOthers.setCell _ _ _)).trans (KeepsOthers.setCell _ _ _)).trans (KeepsOthers.setCell _ _ _)).trans (KeepsOthers.setCell _ _ _)
theorem zhR {W:World}{D B:Nat}{o:Obj}(o':Obj) (h:W.heap[B]?=some o) (hne:B≠D):(W.putObj D o').heap[B]?=some o:=
 ((grownBy_putObj' W D o').block B (zae h) zP).trans h
theorem readS_in (g o B k:Nat) (S:Nat→List zaE) (sv:Nat→Value) (a0 a1 a2 a3:Int) (w:World) (hst:ze0 w g o B S sv) (hk:k<8) (hok:∀ x∈S k,0≤x.site∧x.site<4) (hlen:(S k).length≤900000):
  CallsIn Fence.wide 5 prog 92 #[.pointer (some ⟨g,o,none⟩),k,.agg #[ii a0,ii a1,ii a2,ii a3]] w fun e w'=>
   e=.returned (.tuple #[zbX (zcO a0 a1 a2 a3 S k).1,zbT (zcO a0 a1 a2 a3 S k).2])∧Below w w w':=by
 have hlg:=hst.lt;obtain⟨hc1,hc2⟩:=hst.cell hk;obtain⟨A,c,hsv⟩:=zaP (hst.own k hk);rw[hsv]at hc1;haveI:zaj (g+1) w:=⟨hlg⟩;refine callsIn_of_wp_marks func92 rfl trivial ?_;simp only[ntmps92,ycs,yaq,yaB,Nat.reduceAdd,Nat.reduceSub,ycg,ych,yct,ycj,ybd,ybI];gi_wp2_with fail;refine⟨trivial,(zjY Fence.wide 4 trivial rfl A (S k).length c _).mono ?_⟩;rintro e _ ⟨rfl,rfl⟩;gi_wp2_with fail;generalize HW4:World.alloc _ (Obj.cells #[.slice A (S k).length c] 142)=w4;have b0:w4.heap[w.heap.size]?=some (.cells #[a0,a1,a2,a3] 32):=by rw[←HW4];exact zaC (zaC (zaC (zag rfl _) _) _) _
 have b1:w4.heap[w.heap.size+1]?=some (.cells #[ii 0,ii 0,ii 0,ii 0,.string ⟨#[]⟩,.bool false] 59):=by rw[←HW4];exact zaC (zaC (zag zS _) _) _
 have b2:w4.heap[w.heap.size+2]?=some (.cells #[.nilIface] 25):=by rw[←HW4];exact zaC (zag zS _) _
 have b3:w4.heap[w.heap.size+3]?=some (.cells #[.slice A (S k).length c] 142):=by rw[←HW4];exact zag zS _
 have hbw:Below w w w4:=by rw[←HW4];exact((((yaf _ w).alloc (yai _) _).alloc zS _).alloc zP _).alloc zP _
 have hl4:w4.heap.size=w.heap.size+4:=by simp[←HW4]
 have hin:∀ x:Nat,0≤((S k).getD x default).site∧((S k).getD x default).site<4:=by
  intro x;rw[ybO];cases hx:(S k)[x]? with
  | none=>exact⟨zI,zI⟩
  | some y=>exact hok y (ybo hx)
 obtain⟨n₀,hn₀⟩:∃ n,n=w4.heap.size:=⟨_,rfl⟩;clear HW4;refine wpIn_rangeFunc_ownH (n:=5) rfl zI (gf:=179) (lb:=#[.pointer (some ⟨w.heap.size+3,0,none⟩)]) rfl trivial (enters_of func179 zK rfl)
  (zlB Fence.wide 4 trivial rfl zI (w.heap.size+3) w4.heap.size A c (S k) zO w4 zO (yai _) (zaa b3 0) ?_ ?_) belowK_t (belowK_b (yai _)) (yaf _ _) (fun _=>rfl)
  (fun pre W=>((((∀ x∈pre,zbJ a0 a1 a2 a3 ((S k).getD x default)=false)∧W.heap[w.heap.size]?=some (.cells #[a0,a1,a2,a3] 32))∧
    W.heap[w.heap.size+1]?=some (.cells #[ii 0,ii 0,ii 0,ii 0,.string ⟨#[]⟩,.bool false] 59))∧W.heap[w.heap.size+2]?=some (.cells #[.nilIface] 25)∧W.heap[w.heap.size+3]?=some (.cells #[.slice A (S k).length c] 142))∧Below w w W)
  (fun(c':Code) pre W=>(∃ pre0 x,c'=Code.ret∧pre=pre0++[x]∧(∀ y∈pre0,zbJ a0 a1 a2 a3 ((S k).getD y default)=false)∧zbJ a0 a1 a2 a3 ((S k).getD x default)=true∧
    (W.heap[w.heap.size+1]?=some (.cells (zcC (if((S k).getD x default).gone=true then verZ else (S k).getD x default)).toArray 59)∧
    W.heap[w.heap.size+2]?=some (.cells #[if((S k).getD x default).gone=true then zbT 8 else zbT 0] 25))∧Below w w W))
  ?_ ?_ ⟨⟨⟨⟨zS,b0⟩,b1⟩,b2,b3⟩,hbw⟩ (fun x a' W=>∃ Bx,W.heap[Bx]?=some (.cells (zcC ((S k).getD x default)).toArray 59)∧a'={ tmps:=#[.pointer (some ⟨g,o,none⟩),ii k,.agg #[a0,a1,a2,a3],undef,undef,.pointer (some ⟨w,0,none⟩),.pointer (some ⟨w.heap.size+1,0,none⟩),.pointer (some ⟨w.heap.size+1+1,0,none⟩),undef,.pointer (some ⟨Bx,0,none⟩),ii k,.bool (decide ((k:Int)<0)),.bool (decide ((k:Int)<0)),ii k,.bool (decide (8≤(k:Int))),.bool (decide ((k:Int)<0)||decide (8≤(k:Int))),undef,undef,.pointer (some ⟨g,o,none⟩),ii k,.pointer (some ⟨g,o,none⟩),.pointer (some ⟨g,o,none⟩),.pointer (some ⟨g,o+k,none⟩),.slice A (S k).length c,.func (.func 179) #[] #[.pointer (some ⟨w.heap.size+1+1+1,0,none⟩)],ii (x:Int),zbX ((S k).getD x default),undef,undef,undef,undef,undef,undef,undef,undef,undef,undef,undef,undef,undef,undef],defers:=[] }) ?_ ?assign ?body ?done ?stop
 ·exact(zmB (hsv ▸ hst.own k hk)).below hbw
 ·have ho:=hst.own k hk
  rw[hsv]at ho;rcases ho with ⟨_,(hh|⟨gb,cap,cur,hv,_,hg2,_⟩)⟩
  ·left
   simp only[yaP]at hh;exact⟨hh.1.1,hh.1.2.2,yan hh.2⟩
  ·right
   simp only[yaP]at hv;exact⟨gb,0,hv.1,by have:=zae hg2;omega⟩
 ·exact OwnFrom.and (OwnFrom.and (OwnFrom.and (OwnFrom.and (ownFrom_pure _ _) (Own.from (zet _ _ _) _)) (Own.from (zet _ _ _) _)) (OwnFrom.and (Own.from (zet _ _ _) _) (Own.from (zet _ _ _) _))) (ownFrom_below (yai _) zO)
 ·rintro c' pre X Y row ⟨pre0,x,e1,e2,e3,e4,⟨e5,e6⟩,e7⟩ hg hr
  exact⟨pre0,x,e1,e2,e3,e4,⟨Own.from (zet (β:=Unit) _ _ _) _ () X Y row e5 hg hr,Own.from (zet (β:=Unit) _ _ _) _ () X Y row e6 hg hr⟩,ownFrom_below (β:=Unit) (yai _) zO () X Y row e7 hg hr⟩
 ·rintro x a' _ X Y row ⟨Bx,e1,e2⟩ hg hr
  exact⟨Bx,Own.from (zet (β:=Unit) _ _ _) _ () X Y row e1 hg hr,e2⟩
 case assign=>
  rintro l pre x W K ⟨⟨⟨⟨hp,c0⟩,c1⟩,c2,c3⟩,hB⟩ hK;obtain⟨y,hy⟩:∃ y,(S k).getD x default=y:=⟨_,rfl⟩;simp only[hy]at hK ⊢;have HK:=zac hK;clear hK;unfold zbX;gi_wp2;exact HK.out _ _ ((KeepsOthers.alloc _ _).from _) ((yaf _ W).alloc (by have:=zae c3;omega) _) ⟨⟨⟨⟨hp,zaC c0 _⟩,zaC c1 _⟩,zaC c2 _,zaC c3 _⟩,hB.alloc hB.size _⟩ ⟨W,World.alloc_heap_new _ _,rfl⟩
 case body=>
  rintro l pre x a' W hl ⟨r,hr⟩ ⟨⟨⟨⟨hp,c0⟩,c1⟩,c2,c3⟩,hB⟩ ⟨Bx,bX,rfl⟩ hlt;obtain⟨y,hy⟩:∃ y,(S k).getD x default=y:=⟨_,rfl⟩;have hi:=hin x;simp only[hy]at bX hi ⊢;obtain⟨hi1,hi2⟩:=hi;obtain⟨s,hs⟩:∃ s:Nat,y.site=s:=⟨y.site.toNat,zO⟩;have hs4:s<4:=by omega
  have hat:=zex c0 hs4;unfold zbX;have bX':W.heap[Bx]?=some (.cells #[y.w,y.c,y.site,y.seq,.string y.data,.bool y.gone] 59):=bX;have d2:W.cell? ⟨Bx,2,none⟩=some (ii y.site):=zaa bX' 2;have d3:W.cell? ⟨Bx,3,none⟩=some (ii y.seq):=zaa bX' 3;have d5:W.cell? ⟨Bx,5,none⟩=some (.bool y.gone):=zaa bX' 5;rw[hs]at d2;have hse:zbJ a0 a1 a2 a3 y=decide (y.seq≤atV a0 a1 a2 a3 (s:Int)):=by unfold zbJ;rw[hs]
  have e0:W.cell? ⟨w.heap.size+1,0,none⟩=some (ii 0):=zaa c1 0;have e1:W.cell? ⟨w.heap.size+1,1,none⟩=some (ii 0):=zaa c1 1;have e2:W.cell? ⟨w.heap.size+1,2,none⟩=some (ii 0):=zaa c1 2;have e3:W.cell? ⟨w.heap.size+1,3,none⟩=some (ii 0):=zaa c1 3;have e4:W.cell? ⟨w.heap.size+1,4,none⟩=some (.string ⟨#[]⟩):=zaa c1 4;have e5:W.cell? ⟨w.heap.size+1,5,none⟩=some (.bool false):=zaa c1 5;have e6:W.cell? ⟨w.heap.size+1+1,0,none⟩=some .nilIface:=zaa c2 0;have f0:W.frozen? ⟨w.heap.size+1,0,none⟩=false:=zab c1 0;have f1:W.frozen? ⟨w.heap.size+1,1,none⟩=false:=zab c1 1;have f2:W.frozen? ⟨w.heap.size+1,2,none⟩=false:=zab c1 2;have f3:W.frozen? ⟨w.heap.size+1,3,none⟩=false:=zab c1 3;have f4:W.frozen? ⟨w.heap.size+1,4,none⟩=false:=zab c1 4;have f5:W.frozen? ⟨w.heap.size+1,5,none⟩=false:=zab c1 5;have f6:W.frozen? ⟨w.heap.size+1+1,0,none⟩=false:=zab c2 0;have x0:W.cell? ⟨Bx,0,none⟩=some (ii y.w):=zaa bX' 0;have x1:W.cell? ⟨Bx,1,none⟩=some (ii y.c):=zaa bX' 1;have x4:W.cell? ⟨Bx,4,none⟩=some (.string y.data):=zaa bX' 4;gi_wp2_with fail;have hn2:=hB.size;refine Code.wpIn_mono (Q:=fun e a' W'=>e=.normal∧a'={ tmps:=([.pointer (some ⟨g,o,none⟩),ii k,.agg #[a0,a1,a2,a3],undef,undef,.pointer (some ⟨w,0,none⟩),.pointer (some ⟨w.heap.size+1,0,none⟩),.pointer (some ⟨w.heap.size+1+1,0,none⟩),undef,.pointer (some ⟨Bx,0,none⟩),ii k,.bool (decide ((k:Int)<0)),.bool (decide ((k:Int)<0)),ii k,.bool (decide (8≤(k:Int))),.bool (decide ((k:Int)<0)||decide (8≤(k:Int))),undef,undef,.pointer (some ⟨g,o,none⟩),ii k,.pointer (some ⟨g,o,none⟩),.pointer (some ⟨g,o,none⟩),.pointer (some ⟨g,o+k,none⟩),.slice A (S k).length c,.func (.func 179) #[] #[.pointer (some ⟨w.heap.size+1+1+1,0,none⟩)],ii (x:Int),.agg #[y.w,y.c,s,y.seq,.string y.data,.bool y.gone],.pointer (some ⟨Bx,3,none⟩),ii y.seq,.pointer (some ⟨Bx,2,none⟩),ii s,.pointer (some ⟨w,s,none⟩),ii (atV a0 a1 a2 a3 s),.bool (decide (y.seq≤atV a0 a1 a2 a3 s)),undef,undef,undef,undef,undef,undef,undef]:List Value).toArray,defers:=[] }∧W'=W.drew) ?_ ?_
  case refine_2=>gi_region <;> exact⟨rfl,rfl,rfl⟩
  ·rintro _ _ _ ⟨rfl,rfl,rfl⟩
   rcases hd:decide (y.seq≤atV a0 a1 a2 a3 (s:Int))with _|_
   ·gi_wp2_with fail
    refine⟨(KeepsOthers.drew _).from _,(yaf _ _).drew,⟨⟨⟨?_,c0⟩,c1⟩,c2,c3⟩,hB.drew⟩;intro z hz;rcases yax.1 hz with h|h
    ·exact hp z h
    ·simp only[yaW]at h
     subst h;rw[hy,hse,hd]
   ·rcases hgo:y.gone with _|_
    ·rw[hgo]at d5
     gi_wp2_with fail;obtain⟨r1,r2,r3,r4⟩:=zf4 (ii y.w) (ii y.c) (ii s) (ii y.seq) (.string y.data) (.bool false) .nilIface c1 c2;generalize hW1:World.setCell _ _ Value.nilIface=W1;replace hW1:resW W w.heap.size (ii y.w) (ii y.c) (ii s) (ii y.seq) (.string y.data) (.bool false) .nilIface=W1:=hW1;rw[hW1]at r1 r2 r3 r4;clear hW1;refine⟨(r4.trans (KeepsOthers.drew _)).from _,pre,x,rfl,rfl,hp,?_,⟨?_,?_⟩,(hB.trans r3).drew⟩
     ·rw[hy,hse,hd]
     ·rw[hy,hgo,yad zI]
      have:(zcC y).toArray=#[ii y.w,ii y.c,ii s,ii y.seq,.string y.data,.bool false]:=by simp[zcC,hs,hgo]
      rw[this];exact r1
     ·rw[hy,hgo]
      exact r2
    ·rw[hgo]at d5
     gi_wp2_with fail;obtain⟨r1,r2,r3,r4⟩:=zf4 (ii 0) (ii 0) (ii 0) (ii 0) (.string ⟨#[]⟩) (.bool false) (.iface 29 (ii 8)) c1 c2;generalize hW1:World.setCell _ _ (Value.iface 29 (ii 8))=W1;replace hW1:resW W w.heap.size (ii 0) (ii 0) (ii 0) (ii 0) (.string ⟨#[]⟩) (.bool false) (.iface 29 (ii 8))=W1:=hW1;rw[hW1]at r1 r2 r3 r4;clear hW1;refine⟨(r4.trans (KeepsOthers.drew _)).from _,pre,x,rfl,rfl,hp,?_,⟨?_,?_⟩,(hB.trans r3).drew⟩
     ·rw[hy,hse,hd]
     ·rw[hy,hgo,yaj rfl]
      exact r1
     ·rw[hy,hgo]
      exact r2
 case done=>
  rintro D xs W hD rfl ⟨⟨⟨⟨hp,c0⟩,c1⟩,c2,c3⟩,hB⟩ hK;have hre:zcO a0 a1 a2 a3 S (k:Int)=(verZ,8):=by
   unfold zcO;rw[yad zO,ybx,zgp,zl1 _ _ hp]
  have HRE:=zac hre;have e0:W.cell? ⟨w.heap.size+1,0,none⟩=some (ii 0):=zaa c1 0;have e1:W.cell? ⟨w.heap.size+1,1,none⟩=some (ii 0):=zaa c1 1;have e2:W.cell? ⟨w.heap.size+1,2,none⟩=some (ii 0):=zaa c1 2;have e3:W.cell? ⟨w.heap.size+1,3,none⟩=some (ii 0):=zaa c1 3;have e4:W.cell? ⟨w.heap.size+1,4,none⟩=some (.string ⟨#[]⟩):=zaa c1 4;have e5:W.cell? ⟨w.heap.size+1,5,none⟩=some (.bool false):=zaa c1 5;have e6:W.cell? ⟨w.heap.size+1+1,0,none⟩=some .nilIface:=zaa c2 0;have f0:W.frozen? ⟨w.heap.size+1,0,none⟩=false:=zab c1 0;have f1:W.frozen? ⟨w.heap.size+1,1,none⟩=false:=zab c1 1;have f2:W.frozen? ⟨w.heap.size+1,2,none⟩=false:=zab c1 2;have f3:W.frozen? ⟨w.heap.size+1,3,none⟩=false:=zab c1 3;have f4:W.frozen? ⟨w.heap.size+1,4,none⟩=false:=zab c1 4;have f5:W.frozen? ⟨w.heap.size+1,5,none⟩=false:=zab c1 5;have f6:W.frozen? ⟨w.heap.size+1+1,0,none⟩=false:=zab c2 0;clear hre;have hwD:=hB.size;gi_wp2_with fail;obtain⟨r1,r2,r3,r4⟩:=zf4 (ii 0) (ii 0) (ii 0) (ii 0) (.string ⟨#[]⟩) (.bool false) (.iface 29 (ii 8)) c1 c2;generalize hW1:World.setCell _ _ (Value.iface 29 (ii 8))=W1;replace hW1:resW W w.heap.size (ii 0) (ii 0) (ii 0) (ii 0) (.string ⟨#[]⟩) (.bool false) (.iface 29 (ii 8))=W1:=hW1;rw[hW1]at r1 r2 r3 r4;have hK':=r4.same D _ hK rfl;refine⟨zS,.inl ⟨_,_,rfl,run_takeDeferred hK',?_⟩⟩;have p1:=zhR (D:=D) (.deferred none) r1 zO;have p2:=zhR (D:=D) (.deferred none) r2 zO;have q0:=zaa p1 0;have q1:=zaa p1 1;have q2:=zaa p1 2;have q3:=zaa p1 3;have q4:=zaa p1 4;have q5:=zaa p1 5;have q6:=zaa p2 0;refine⟨.tuple #[zbX verZ,zbT 8],?_,by rw[HRE.out],(hB.trans r3).trans (belowK_b (w:=w) (yai _) W1 D _ _ zO hK' rfl rfl)⟩;simp[results,Tryz.f92,go_sem,q0,q1,q2,q3,q4,q5,q6];exact⟨rfl,rfl⟩
 case stop=>
  rintro D c' pre W hD ⟨k1,hk1,hpre⟩ ⟨pre0,x,rfl,rfl,hp0,hx,⟨c1,c2⟩,hB⟩ hK;gi_wp2_with fail;refine⟨zS,.inl ⟨_,_,rfl,run_takeDeferred hK,?_⟩⟩;obtain⟨z,hz⟩:∃ z,(if((S k).getD x default).gone=true then verZ else (S k).getD x default)=z:=⟨_,rfl⟩;have hwD:=hB.size;have hre:zcO a0 a1 a2 a3 S (k:Int)=(z,if((S k).getD x default).gone=true then 8 else 0):=by
   have hk1l:zdV (S k) k1=pre0++[x]:=hpre.symm;have hl:=zdU (S k) k1;rw[hk1l]at hl;simp only[yak,List.length_singleton]at hl;subst hl;rw[zhr]at hk1l;have e1:=List.append_inj hk1l (by rw[zdU]);have hx1:(S k).length-1-pre0.length=x:=by simpa using e1.2
   rw[←e1.1]at hp0;unfold zcO zgp;rw[yad zO,ybx,zl2 _ _ _ zO hp0 (by rw[hx1];exact hx),hx1,←hz];simp only[];split <;> rfl
  have c2':W.heap[w.heap.size+1+1]?=some (.cells #[zbT (if((S k).getD x default).gone=true then 8 else 0)] 25):=by
   rw[c2];split <;> rfl
  rw[hz]at c1;have HRE:=zac hre;clear hre hx hz;generalize (if((S k).getD x default).gone=true then (8:Int)else 0)=er at *;have p1:=zhR (D:=D) (.deferred none) c1 zO;have p2:=zhR (D:=D) (.deferred none) c2' zO;have q0:World.cell? _ ⟨_,0,none⟩=some (ii z.w):=zaa p1 0;have q1:World.cell? _ ⟨_,1,none⟩=some (ii z.c):=zaa p1 1;have q2:World.cell? _ ⟨_,2,none⟩=some (ii z.site):=zaa p1 2;have q3:World.cell? _ ⟨_,3,none⟩=some (ii z.seq):=zaa p1 3;have q4:World.cell? _ ⟨_,4,none⟩=some (.string z.data):=zaa p1 4;have q5:World.cell? _ ⟨_,5,none⟩=some (.bool z.gone):=zaa p1 5;have q6:=zaa p2 0;refine⟨.tuple #[zbX z,zbT er],?_,by rw[HRE.out],hB.trans (belowK_b (w:=w) (yai _) W D _ _ zO hK rfl rfl)⟩;simp[results,Tryz.f92,go_sem,q0,q1,q2,q3,q4,q5,q6];rfl
theorem zml (g o:Nat) (S:Nat→List zaE) (key a0 a1 a2 a3:Int) (w:World) (hk:key<0∨8≤key):
  Calls prog 92 #[.pointer (some ⟨g,o,none⟩),key,.agg #[ii a0,ii a1,ii a2,ii a3]] w fun e w'=>
   e=.returned (.tuple #[zbX (zcO a0 a1 a2 a3 S key).1,zbT (zcO a0 a1 a2 a3 S key).2])∧Below w w w':=by
 have hre:zcO a0 a1 a2 a3 S key=(verZ,2):=by unfold zcO;rw[yaj zO]
 have HRE:=zac hre;clear hre;by_cases h0:key<0
 ·have d0:decide (key<0)=true:=yae h0
  have HK:=zac hk;clear h0 hk;go_enter func92,ntmps92;go_wp2_with fail;have p1:(((w.alloc (.cells #[a0,a1,a2,a3] 32)).alloc (.cells #[ii 0,ii 0,ii 0,ii 0,.string ⟨#[]⟩,.bool false] 59)).alloc (.cells #[.iface 29 (ii 2)] 25)).heap[w.heap.size+1]?=some (.cells #[ii 0,ii 0,ii 0,ii 0,.string ⟨#[]⟩,.bool false] 59):=zaC (zag zS _) _;have p2:(((w.alloc (.cells #[a0,a1,a2,a3] 32)).alloc (.cells #[ii 0,ii 0,ii 0,ii 0,.string ⟨#[]⟩,.bool false] 59)).alloc (.cells #[.iface 29 (ii 2)] 25)).heap[w.heap.size+1+1]?=some (.cells #[.iface 29 (ii 2)] 25):=zag zS _;have q0:=zaa p1 0;have q1:=zaa p1 1;have q2:=zaa p1 2;have q3:=zaa p1 3;have q4:=zaa p1 4;have q5:=zaa p1 5;have q6:=zaa p2 0;refine yag (v:=.tuple #[zbX verZ,zbT 2]) (by simp only[results,Tryz.f92];simp[go_sem,q0,q1,q2,q3,q4,q5,q6];exact⟨rfl,rfl⟩) rfl ?_;exact⟨by rw[HRE.out],((((yaf _ w).alloc (yai _) _).alloc zS _).alloc zP _)⟩
 ·have d0:decide (key<0)=false:=yah h0
  have d1:decide (8≤key)=true:=zT;clear h0 hk;go_enter func92,ntmps92;go_wp2_with fail;have p1:(((w.alloc (.cells #[a0,a1,a2,a3] 32)).alloc (.cells #[ii 0,ii 0,ii 0,ii 0,.string ⟨#[]⟩,.bool false] 59)).alloc (.cells #[.iface 29 (ii 2)] 25)).heap[w.heap.size+1]?=some (.cells #[ii 0,ii 0,ii 0,ii 0,.string ⟨#[]⟩,.bool false] 59):=zaC (zag zS _) _;have p2:(((w.alloc (.cells #[a0,a1,a2,a3] 32)).alloc (.cells #[ii 0,ii 0,ii 0,ii 0,.string ⟨#[]⟩,.bool false] 59)).alloc (.cells #[.iface 29 (ii 2)] 25)).heap[w.heap.size+1+1]?=some (.cells #[.iface 29 (ii 2)] 25):=zag zS _;have q0:=zaa p1 0;have q1:=zaa p1 1;have q2:=zaa p1 2;have q3:=zaa p1 3;have q4:=zaa p1 4;have q5:=zaa p1 5;have q6:=zaa p2 0;refine yag (v:=.tuple #[zbX verZ,zbT 2]) (by simp only[results,Tryz.f92];simp[go_sem,q0,q1,q2,q3,q4,q5,q6];exact⟨rfl,rfl⟩) rfl ?_;exact⟨by rw[HRE.out],((((yaf _ w).alloc (yai _) _).alloc zS _).alloc zP _)⟩
theorem ziC (g o B:Nat) (S:Nat→List zaE) (sv:Nat→Value) (key a0 a1 a2 a3:Int) (w:World) (hst:ze0 w g o B S sv) (hok:∀ k,k<8→∀ x∈S k,0≤x.site∧x.site<4) (hlen:∀ k,k<8→(S k).length≤900000):
  Calls prog 92 #[.pointer (some ⟨g,o,none⟩),key,.agg #[ii a0,ii a1,ii a2,ii a3]] w fun e w'=>
   e=.returned (.tuple #[zbX (zcO a0 a1 a2 a3 S key).1,zbT (zcO a0 a1 a2 a3 S key).2])∧Below w w w':=by
 by_cases hk:key<0∨8≤key
 ·exact zml g o S key a0 a1 a2 a3 w hk
 ·obtain⟨k,rfl⟩:∃ k:Nat,key=k:=⟨key.toNat,zO⟩
  exact callsIn_wide.1 (readS_in g o B k S sv a0 a1 a2 a3 w hst zO (hok k zO) (hlen k zO))
end Go.Proofs.YtbopfhbeegkkaabGreatDoor
namespace Go.Proofs.YtbopfhbeegkkaabGreatDoor
open Go.Proofs.Tryz
def Fit (S:Nat→List zaE) (N:Nat):Prop:=∀ k,k<8→(∀ x∈S k,0≤x.site∧x.site<4)∧(S k).length≤N
def ltV (a b:zaE):Prop:=a.w<b.w∨(a.w=b.w∧(a.c<b.c∨(a.c=b.c∧a.site<b.site)))
def zf1 (a b:zaE):Prop:=a.w=b.w∧a.c=b.c∧a.site=b.site
theorem zfM (a b:zaE):zgv a b<0↔ltV a b:=by
 unfold zgv zc1 orI zho ltV
 repeat' split
 all_goals omega
theorem zm3 (a b:zaE):zgv a b=0↔zf1 a b:=by
 unfold zgv zc1 orI zho zf1
 repeat' split
 all_goals omega
theorem zgk {a b c:zaE}(h:ltV a b) (h2:ltV b c):ltV a c:=by unfold ltV at *;omega
theorem zdv {a b:zaE}(h:ltV a b) (h2:ltV b a):False:=by unfold ltV at *;omega
theorem ltV_tri (a b:zaE):ltV a b∨zf1 a b∨ltV b a:=by unfold ltV zf1;omega
theorem ltV_same {a b:zaE}(h:ltV a b) (h2:zf1 a b):False:=by unfold ltV zf1 at *;omega
def Srt (vs:List zaE):Prop:=vs.Pairwise ltV
theorem zeF {vs:List zaE}(h:Srt vs){i j:Nat}(hij:i<j) (hj:j<vs.length):ltV (vs.getD i default) (vs.getD j default):=by
 have:=List.pairwise_iff_getElem.1 h i j zO hj hij;simpa[List.getD,yaa (show i<vs.length by omega),yaa hj]using this
theorem zcW {vs:List zaE}{i:Nat}(h:i<vs.length):vs.getD i default∈vs:=by
 simp[List.getD,yaa h]
theorem zd3 {vs:List zaE}{x:zaE}(h:x∈vs):∃ i,i<vs.length∧vs.getD i default=x:=by
 obtain⟨i,hi,rfl⟩:=yb0 h;exact⟨i,hi,by simp[List.getD,yaa hi]⟩
theorem zeT {vs:List zaE}(hs:Srt vs) (v:zaE):∀ (f lo hi:Nat),hi-lo≤f→lo≤hi→hi≤vs.length→(∀ i,i<lo→ltV (vs.getD i default) v)→(∀ i,hi≤i→i<vs.length→¬ltV (vs.getD i default) v)→
  (∀ i,i<zik vs v f lo hi→ltV (vs.getD i default) v)∧(∀ i,zik vs v f lo hi≤i→i<vs.length→¬ltV (vs.getD i default) v)
 | 0,lo,hi,hf,hl,hh,h1,h2=>by
   unfold zik;exact⟨h1,fun i hi' hl'=>h2 i zO hl'⟩
 | f+1,lo,hi,hf,hl,hh,h1,h2=>by
   unfold zik;split
   ·split
    ·rename_i hlt hc
     refine zeT hs v f _ hi zO zO hh ?_ h2;intro i hi';rw[zfM]at hc;by_cases e:i=(lo+hi) / 2
     ·subst e;exact hc
     ·exact zgk (zeF hs zO zO) hc
    ·rename_i hlt hc
     refine zeT hs v f lo _ zO zO zO h1 ?_;intro i hi' hl';rw[zfM]at hc;by_cases e:i=(lo+hi) / 2
     ·subst e;exact hc
     ·intro h;exact hc (zgk (zeF hs zO hl') h)
   ·exact⟨h1,fun i hi' hl'=>h2 i zO hl'⟩
theorem bsK_lo {vs:List zaE}(hs:Srt vs) (v:zaE):∀ i,i<bsK vs v→ltV (vs.getD i default) v:=
 (zeT hs v vs.length 0 vs.length zO zO zO (fun i h=>by omega) (fun i h h2=>by omega)).1
theorem bsK_hi {vs:List zaE}(hs:Srt vs) (v:zaE):∀ i,bsK vs v≤i→i<vs.length→¬ltV (vs.getD i default) v:=
 (zeT hs v vs.length 0 vs.length zO zO zO (fun i h=>by omega) (fun i h h2=>by omega)).2
theorem zm8 {vs:List zaE}(hs:Srt vs) (v:zaE):bsF vs v=true↔∃ x∈vs,zf1 x v:=by
 unfold bsF;rw[yav,yap,yap,zm3];constructor
 ·rintro⟨h1,h2⟩
  exact⟨_,zcW h1,h2⟩
 ·rintro⟨x,hx,hsm⟩
  obtain⟨i,hi,rfl⟩:=zd3 hx;have h1:¬i<bsK vs v:=fun h=>ltV_same (bsK_lo hs v i h) hsm
  have h2:bsK vs v<vs.length:=by omega
  refine⟨h2,?_⟩;by_cases e:i=bsK vs v
  ·subst e;exact hsm
  ·have h3:=zeF hs (show bsK vs v<i by omega) hi
   exact absurd (show ltV (vs.getD (bsK vs v) default) v by unfold ltV zf1 at *;omega) (bsK_hi hs v _ (yai _) h2)
theorem zkm (vs:List zaE) (v x:zaE):x∈zjK vs v↔x=v∨x∈vs:=by
 unfold zjK;have:x∈vs↔x∈vs.take (bsK vs v)∨x∈vs.drop (bsK vs v):=by
  rw[←yax,ybl]
 rw[this];simp only[yax,yaW];constructor
 ·rintro((h|h)|h)
  ·exact .inr (.inl h)
  ·exact .inl h
  ·exact .inr (.inr h)
 ·rintro(h|h|h)
  ·exact .inl (.inr h)
  ·exact .inl (.inl h)
  ·exact .inr h
theorem zl6 {vs:List zaE}{k:Nat}{x:zaE}(h:x∈vs.take k):∃ i,i<k∧i<vs.length∧vs.getD i default=x:=by
 obtain⟨i,hi,rfl⟩:=yb0 h;rw[yaL]at hi;exact⟨i,zO,zO,by simp[List.getD,yaa (show i<vs.length by omega)]⟩
theorem zi4 {vs:List zaE}{k:Nat}{x:zaE}(h:x∈vs.drop k):∃ i,k≤i∧i<vs.length∧vs.getD i default=x:=by
 obtain⟨i,hi,rfl⟩:=yb0 h;rw[yaT]at hi;exact⟨k+i,zO,zO,by simp[List.getD,yaa (show k+i<vs.length by omega)]⟩
theorem insV_srt {vs:List zaE}(hs:Srt vs){v:zaE}(hf:bsF vs v=false):Srt (zjK vs v):=by
 unfold zjK Srt;rw[ybh];refine List.pairwise_append.2 ⟨hs.sublist (List.take_sublist _ _),?_,?_⟩
 ·rw[List.singleton_append]
  refine ybH.2 ⟨?_,hs.sublist (List.drop_sublist _ _)⟩;intro y hy;obtain⟨i,h1,h2,rfl⟩:=zi4 hy;have h3:=bsK_hi hs v i h1 h2;rcases ltV_tri v (vs.getD i default)with h|h|h
  ·exact h
  ·have:bsF vs v=true:=(zm8 hs v).2 ⟨_,zcW h2,by unfold zf1 at *;omega⟩
   rw[this]at hf;cases hf
  ·exact absurd h h3
 ·intro x hx y hy
  obtain⟨i,h1,h2,rfl⟩:=zl6 hx;have h3:=bsK_lo hs v i h1;simp only[List.singleton_append,ya1]at hy;rcases hy with rfl|hy
  ·exact h3
  ·obtain⟨j,h4,h5,rfl⟩:=zi4 hy
   exact zeF hs zO h5
theorem srt_uniq {vs:List zaE}(hs:Srt vs){x y:zaE}(hx:x∈vs) (hy:y∈vs):x=y∨ltV x y∨ltV y x:=by
 obtain⟨i,hi,rfl⟩:=zd3 hx;obtain⟨j,hj,rfl⟩:=zd3 hy;by_cases e:i=j
 ·subst e;exact .inl rfl
 ·by_cases e2:i<j
  ·exact .inr (.inl (zeF hs e2 hj))
  ·exact .inr (.inr (zeF hs zO hi))
theorem zkZ {p:zaE→Bool}{vs:List zaE}(hs:Srt vs){x:zaE}:vs.reverse.find? p=some x↔x∈vs∧p x=true∧∀ y∈vs,p y=true→y=x∨ltV y x:=by
 induction vs with
 | nil=>simp
 | cons a l ih=>
   have hs':Srt l:=(ybH.1 hs).2;have ha:=(ybH.1 hs).1;rw[List.reverse_cons,List.find?_append];have ih:=ih hs';cases hf:l.reverse.find? p with
   | some z=>
     rw[hf]at ih;simp only[Option.some_or,yaz]at ih ⊢;constructor
     ·intro e
      obtain⟨h1,h2,h3⟩:=ih.1 e;refine⟨yaR _ h1,h2,?_⟩;intro y hy hp;rcases ya1.1 hy with rfl|hy
      ·exact .inr (ha x h1)
      ·exact h3 y hy hp
     ·rintro⟨h1,h2,h3⟩
      refine ih.2 ?_;rcases ya1.1 h1 with rfl|h1
      ·have hz:z∈l∧p z=true:=⟨yb4.1 (ybU hf),List.find?_some hf⟩
       rcases h3 z (yaR _ hz.1) hz.2 with e|e
       ·subst e;exact absurd (ha z hz.1) (fun h=>zdv h h)
       ·exact absurd e (fun h=>zdv h (ha z hz.1))
      ·exact⟨h1,h2,fun y hy=>h3 y (yaR _ hy)⟩
   | none=>
     have hn:∀ y∈l,p y=false:=fun y hy=>by
      have:=yb7.1 hf y (yb4.2 hy);simpa using this
     simp only[Option.none_or];constructor
     ·intro e
      have hpx:=List.find?_some e;have hmx:=ybU e;simp only[yaW]at hmx;subst hmx;refine⟨zS,hpx,?_⟩;intro y hy hp;rcases ya1.1 hy with rfl|hy
      ·exact .inl rfl
      ·rw[hn y hy]at hp;cases hp
     ·rintro⟨h1,h2,h3⟩
      rcases ya1.1 h1 with rfl|h1
      ·simp[h2]
      ·rw[hn x h1]at h2;cases h2
theorem zi1 {a0 a1 a2 a3:Int}{vs:List zaE}(hs:Srt vs){x:zaE}:zgp a0 a1 a2 a3 vs=some x↔x∈vs∧zbJ a0 a1 a2 a3 x=true∧∀ y∈vs,zbJ a0 a1 a2 a3 y=true→y=x∨ltV y x:=zkZ hs
theorem zi2 {a0 a1 a2 a3:Int}{vs:List zaE}:zgp a0 a1 a2 a3 vs=none↔∀ x∈vs,zbJ a0 a1 a2 a3 x=false:=by
 unfold zgp;rw[yb7];constructor
 ·intro h x hx;simpa using h x (yb4.2 hx)
 ·intro h x hx;simpa using h x (yb4.1 hx)
theorem zer (a0 a1 a2 a3:Int):∀ (l:List zaE) (i z:Int),z<i→((zeg a0 a1 a2 a3 l i z=z∧∀ x∈l,zbJ a0 a1 a2 a3 x=false)∨
  (∃ j,j<l.length∧zeg a0 a1 a2 a3 l i z=i+j∧zbJ a0 a1 a2 a3 (l.getD j default)=true∧∀ k,j<k→k<l.length→zbJ a0 a1 a2 a3 (l.getD k default)=false))
 | [],i,z,h=>.inl ⟨rfl,fun x hx=>by cases hx⟩
 | v::l,i,z,h=>by
   unfold zeg;by_cases hv:zbJ a0 a1 a2 a3 v=true
   ·rw[yaj hv]
    rcases zer a0 a1 a2 a3 l (i+1) i zO with ⟨h1,h2⟩|⟨j,h1,h2,h3,h4⟩
    ·refine .inr ⟨0,zS,by rw[h1];simp,by simpa using hv,?_⟩
     intro k hk hl;obtain⟨k,rfl⟩:∃ k',k=k'+1:=⟨k-1,zO⟩;simp only[yaq]at hl;rw[List.getD_cons_succ];exact h2 _ (zcW zO)
    ·refine .inr ⟨j+1,by simp;omega,by rw[h2];simp;omega,by simpa using h3,?_⟩
     intro k hk hl;obtain⟨k,rfl⟩:∃ k',k=k'+1:=⟨k-1,zO⟩;simp only[yaq]at hl;rw[List.getD_cons_succ];exact h4 k zO zO
   ·rw[yad hv]
    rcases zer a0 a1 a2 a3 l (i+1) z zO with ⟨h1,h2⟩|⟨j,h1,h2,h3,h4⟩
    ·refine .inl ⟨h1,?_⟩
     intro x hx;rcases ya1.1 hx with rfl|hx
     ·simpa using hv
     ·exact h2 x hx
    ·refine .inr ⟨j+1,by simp;omega,by rw[h2];simp;omega,by simpa using h3,?_⟩
     intro k hk hl;obtain⟨k,rfl⟩:∃ k',k=k'+1:=⟨k-1,zO⟩;simp only[yaq]at hl;rw[List.getD_cons_succ];exact h4 k zO zO
theorem zhh (a0 a1 a2 a3 z:Int) (x:zaE):∀ (l:List zaE) (i:Int),x∈zbH a0 a1 a2 a3 z l i↔∃ j,j<l.length∧l.getD j default=x∧(z≤i+j∨zbJ a0 a1 a2 a3 x=false)
 | [],i=>by simp[zbH]
 | v::l,i=>by
   have ih:=zhh a0 a1 a2 a3 z x l (i+1);have step:(∃ j,j<(v::l).length∧(v::l).getD j default=x∧(z≤i+j∨zbJ a0 a1 a2 a3 x=false))↔((v=x∧(z≤i∨zbJ a0 a1 a2 a3 x=false))∨x∈zbH a0 a1 a2 a3 z l (i+1)):=by
    rw[ih];constructor
    ·rintro⟨j,h1,h2,h3⟩
     cases j with
     | zero=>exact .inl ⟨by simpa using h2,by simpa using h3⟩
     | succ j=>exact .inr ⟨j,by simpa using h1,by simpa using h2,h3.imp (fun h=>by simp at h;omega) id⟩
    ·rintro(⟨h1,h2⟩|⟨j,h1,h2,h3⟩)
     ·exact⟨0,zS,by simpa using h1,by simpa using h2⟩
     ·exact⟨j+1,by simpa using h1,by simpa using h2,h3.imp (fun h=>by simp;omega) id⟩
   rw[step,show zbH a0 a1 a2 a3 z (v::l) i=if z≤i∨zbJ a0 a1 a2 a3 v=false then v::zbH a0 a1 a2 a3 z l (i+1)else zbH a0 a1 a2 a3 z l (i+1)from rfl];split
   ·rename_i h
    rw[ya1];constructor
    ·rintro(rfl|h2)
     ·exact .inl ⟨rfl,h⟩
     ·exact .inr h2
    ·rintro(⟨rfl,_⟩|h2)
     ·exact .inl rfl
     ·exact .inr h2
   ·rename_i h
    constructor
    ·exact .inr
    ·rintro(⟨rfl,h2⟩|h2)
     ·exact absurd h2 h
     ·exact h2
theorem zdc (a0 a1 a2 a3 z:Int):∀ (l:List zaE) (i:Int),(zbH a0 a1 a2 a3 z l i).Sublist l
 | [],_=>by simp[zbH]
 | v::l,i=>by
   unfold zbH;split
   ·exact(zdc a0 a1 a2 a3 z l (i+1)).cons_cons _
   ·exact(zdc a0 a1 a2 a3 z l (i+1)).cons _
theorem zg3 {a0 a1 a2 a3:Int}{vs:List zaE}(h:Srt vs):Srt (zbC a0 a1 a2 a3 vs):=h.sublist (zdc _ _ _ _ _ _ _)
theorem zkJ (a0 a1 a2 a3:Int) (vs:List zaE):(zbC a0 a1 a2 a3 vs).length≤vs.length:=zhi _ _ _ _ _ _ _
theorem zg2 {a0 a1 a2 a3:Int}{vs:List zaE}{x:zaE}(h:x∈zbC a0 a1 a2 a3 vs):x∈vs:=zfb _ _ _ _ _ _ _ _ h
theorem zkK {a0 a1 a2 a3:Int}{vs:List zaE}(hs:Srt vs) (x:zaE):x∈zbC a0 a1 a2 a3 vs↔x∈vs∧(zbJ a0 a1 a2 a3 x=false∨∀ y∈vs,zbJ a0 a1 a2 a3 y=true→y=x∨ltV y x):=by
 unfold zbC;rw[zhh];rcases zer a0 a1 a2 a3 vs 0 (-1) zO with ⟨h1,h2⟩|⟨j,h1,h2,h3,h4⟩
 ·rw[h1]
  constructor
  ·rintro⟨k,hk,rfl,_⟩
   exact⟨zcW hk,.inl (h2 _ (zcW hk))⟩
  ·rintro⟨hx,_⟩
   obtain⟨k,hk,rfl⟩:=zd3 hx;exact⟨k,hk,rfl,.inr (h2 _ hx)⟩
 ·rw[h2]
  constructor
  ·rintro⟨k,hk,rfl,h⟩
   refine⟨zcW hk,?_⟩;rcases h with h|h
   ·by_cases e:k=j
    ·subst e
     refine .inr fun y hy hys=>?_
     obtain⟨m,hm,rfl⟩:=zd3 hy;have:¬k<m:=fun h'=>by rw[h4 m h' hm]at hys;cases hys
     by_cases e:m=k
     ·subst e;exact .inl rfl
     ·exact .inr (zeF hs zO hk)
    ·exact .inl (h4 k zO hk)
   ·exact .inl h
  ·rintro⟨hx,h⟩
   obtain⟨k,hk,rfl⟩:=zd3 hx;refine⟨k,hk,rfl,?_⟩;rcases h with h|h
   ·exact .inr h
   ·rcases h _ (zcW h1) h3 with e|e
    ·by_cases e2:j≤k
     ·exact .inl zO
     ·have:=zeF hs (show k<j by omega) h1
      rw[e]at this;exact absurd this (fun h=>zdv h h)
    ·by_cases e2:j≤k
     ·exact .inl zO
     ·exact absurd e (fun h=>zdv h (zeF hs (show k<j by omega) h1))
structure PtP where
 key:Int
 v:zaE
instance : Inhabited PtP := ⟨⟨0, default⟩⟩
def zhF (p q:PtP):Bool:=p.key==q.key&&(p.v.w==q.v.w&&p.v.c==q.v.c)&&p.v.site==q.v.site
def putP (S:Nat→List zaE) (p:PtP):Nat→List zaE:=(zgK S p.key p.v).2
def zl8 (a0 a1 a2 a3:Int) (S:Nat→List zaE):Nat→List zaE:=fun k=>zbC a0 a1 a2 a3 (S k)
theorem ziu (p q:PtP):zhF p q=true↔(p.key=q.key∧zf1 p.v q.v):=by
 unfold zhF zf1;simp only[yav,beq_iff_eq];constructor
 ·rintro⟨⟨h1,h2,h3⟩,h4⟩;exact⟨h1,h2,h3,h4⟩
 ·rintro⟨h1,h2,h3,h4⟩;exact⟨⟨h1,h2,h3⟩,h4⟩
theorem putP_len (S:Nat→List zaE) (p:PtP) (k:Nat):(putP S p k).length≤(S k).length+1:=by
 unfold putP zgK;split
 ·simp
 ·split
  ·simp
  ·split
   ·simp
   ·simp only
    split
    ·simp only[zjK,yak,yaL,yaT,yaq,yaB];omega
    ·omega
theorem zmz {S:Nat→List zaE}{p:PtP}{k:Nat}(h:∀ x∈S k,0≤x.site∧x.site<4):∀ x∈putP S p k,0≤x.site∧x.site<4:=by
 unfold putP zgK;split
 ·exact h
 ·split
  ·exact h
  ·rename_i hr
   split
   ·exact h
   ·intro x hx
    simp only at hx;split at hx
    ·rcases(zkm _ _ _).1 hx with rfl|hx
     ·have hr:zba p.v=true:=by simpa using hr
      unfold zba at hr;simp only[yav,yap]at hr;omega
     ·exact h x hx
    ·exact h x hx
theorem Fit.put {S:Nat→List zaE}{N:Nat}(h:Fit S N) (p:PtP):Fit (putP S p) (N+1):=fun k hk=>
 ⟨zmz (h k hk).1,yac (putP_len S p k) (by have:=(h k hk).2;omega)⟩
theorem Fit.mono {S:Nat→List zaE}{N M:Nat}(h:Fit S N) (hm:N≤M):Fit S M:=fun k hk=>⟨(h k hk).1,yac (h k hk).2 hm⟩
theorem srt_ext:∀ {us vs:List zaE},Srt us→Srt vs→(∀ x,x∈us↔x∈vs)→us=vs
 | [],[],_,_,_=>rfl
 | [],v::vs,_,_,h=>by have:=(h v).2 zS;cases this
 | u::us,[],_,_,h=>by have:=(h u).1 zS;cases this
 | u::us,v::vs,hu,hv,h=>by
   have hu1:=(ybH.1 hu).1;have hv1:=(ybH.1 hv).1;have e:u=v:=by
    rcases ya1.1 ((h u).1 zS)with e|e
    ·exact e
    ·rcases ya1.1 ((h v).2 zS)with e2|e2
     ·exact e2.symm
     ·exact(zdv (hv1 u e) (hu1 v e2)).elim
   subst e;congr 1;refine srt_ext (ybH.1 hu).2 (ybH.1 hv).2 fun x=>?_
   constructor
   ·intro hx
    rcases ya1.1 ((h x).1 (yaR _ hx))with e|e
    ·subst e;exact(zdv (hu1 x hx) (hu1 x hx)).elim
    ·exact e
   ·intro hx
    rcases ya1.1 ((h x).2 (yaR _ hx))with e|e
    ·subst e;exact(zdv (hv1 x hx) (hv1 x hx)).elim
    ·exact e
end Go.Proofs.YtbopfhbeegkkaabGreatDoor
