/- Part 4 of a proof: lemmas and contracts that other parts use. -/
import Derived.Test.YtbopfhbeegkkaabGreatDoorWp3
import Derived.Deep.AppendLies
import Derived.Test.YtbopfhbeegkkaabGreatDoorWp2
import Derived.Lib.AppendStr
import Derived.Laws.CopyRow
import Derived.Laws.IdiomCopy
import Derived.Lib.AppendZerosOnto
import Derived.Lib.Overlaps
import Derived.Deep.RegionLaw
import Derived.Laws.Externs
set_option linter.unusedVariables false
set_option linter.unusedSimpArgs false
set_option maxHeartbeats 8000000
set_option maxRecDepth 20000
namespace Go.Proofs.YtbopfhbeegkkaabGreatDoor
open Go.RowKit Go.Proofs.Tryz
theorem zgg {r r':Rd}{n:Nat}(h:zbf r=(n,r')) (g:Nat) (W:World) (hr:zdZ W g r) (hl:r.l.length≤1000000):
  Calls prog 186 #[.pointer (some ⟨g,0,none⟩)] W fun e w'=>e=.returned (ii n)∧zdZ w' g r'∧W.grownBy w' (some g):=by
 have:=zep g r W hr hl;rw[h]at this;exact this
theorem text_to {r r':Rd}{b:ByteArray}(h:zea r=(b,r')) (g:Nat) (W:World) (hr:zdZ W g r) (hl:r.l.length≤1000000):
  Calls prog 188 #[.pointer (some ⟨g,0,none⟩)] W fun e w'=>e=.returned (.string b)∧zdZ w' g r'∧W.grownBy w' (some g):=by
 have:=text_any g r W hr hl;rw[h]at this;exact this
theorem vec_to {r r':Rd}{a b c d:Nat}(h:za6 r=((a,b,c,d),r')) (g:Nat) (W:World) (hr:zdZ W g r) (hl:r.l.length≤1000000):
  Calls prog 187 #[.pointer (some ⟨g,0,none⟩)] W fun e w'=>e=.returned (.agg #[a,b,c,d])∧zdZ w' g r'∧W.grownBy w' (some g):=by
 have:=zl0 g r W hr hl;rw[h]at this;exact this
theorem zcA {r r':Rd}{n:Nat}(h:zbf r=(n,r')) (hl:r.l.length≤1000000):r'.l.length≤1000000:=by
 have:=zcu r;rw[h]at this;exact yac this hl
theorem zjn {r r':Rd}{b:ByteArray}(h:zea r=(b,r')) (hl:r.l.length≤1000000):r'.l.length≤1000000:=by
 have h1:=zcu r;unfold zea at h;split at h <;> (cases h;simp only[yaT] ; omega)
theorem zkE {r r':Rd}{q:Nat×Nat×Nat×Nat}(h:za6 r=(q,r')) (hl:r.l.length≤1000000):r'.l.length≤1000000:=by
 have:=zmK r;rw[h]at this;exact yac this hl
theorem zcd {r r':Rd}{n:Nat}(h:zbf r=(n,r')):n≤1099511627776:=by
 unfold zbf at h;cases e:zcU r.l with
 | none=>rw[e]at h;cases h;omega
 | some x=>
   obtain⟨k,l⟩:=x;rw[e]at h;cases h;exact(ze6 e).2
theorem zlZ {r r':Rd}{a b c d:Nat}(h:za6 r=((a,b,c,d),r')):a≤1099511627776∧b≤1099511627776∧c≤1099511627776∧d≤1099511627776:=by
 unfold za6 at h;simp only[ybc]at h;obtain⟨⟨rfl,rfl,rfl,rfl⟩,_⟩:=h;exact⟨zcd rfl,zcd rfl,zcd rfl,zcd rfl⟩
def zi3 (h d:Nat×Nat×Nat×Nat) (F:List WrP×Rd):Option TxP:=
 if F.2.bad||!F.2.l.isEmpty||!zaf (txOf h d F.1)then none else some (txOf h d F.1)
theorem zlw {W:World}{b:Nat}{x0 x1 x2 x3 x4 x5 x6 x7 x8:Value}{t:TypeId}(h:W.heap[b]?=some (.cells #[x0,x1,x2,x3,x4,x5,x6,x7,x8] t)):
  W.cell? ⟨b,0,none⟩=some x0∧W.cell? ⟨b,1,none⟩=some x1∧W.cell? ⟨b,2,none⟩=some x2∧W.cell? ⟨b,3,none⟩=some x3∧W.cell? ⟨b,4,none⟩=some x4∧
  W.cell? ⟨b,5,none⟩=some x5∧W.cell? ⟨b,6,none⟩=some x6∧W.cell? ⟨b,7,none⟩=some x7∧W.cell? ⟨b,8,none⟩=some x8∧
  W.frozen? ⟨b,0,none⟩=false∧W.frozen? ⟨b,1,none⟩=false∧W.frozen? ⟨b,2,none⟩=false∧W.frozen? ⟨b,3,none⟩=false∧W.frozen? ⟨b,4,none⟩=false∧
  W.frozen? ⟨b,5,none⟩=false∧W.frozen? ⟨b,6,none⟩=false∧W.frozen? ⟨b,7,none⟩=false∧W.frozen? ⟨b,8,none⟩=false:=
 ⟨zaa h 0,zaa h 1,zaa h 2,zaa h 3,zaa h 4,zaa h 5,zaa h 6,zaa h 7,zaa h 8,
  zab h 0,zab h 1,zab h 2,zab h 3,zab h 4,zab h 5,zab h 6,zab h 7,zab h 8⟩
def zcx (W:World) (b:Nat) (u0 u1 u2 u3 u4 u5 u6 u7 u8:Value):World:=
 ((((((((W.setCell ⟨b,0,none⟩ u0).setCell ⟨b,1,none⟩ u1).setCell ⟨b,2,none⟩ u2).setCell ⟨b,3,none⟩ u3).setCell ⟨b,4,none⟩ u4).setCell ⟨b,5,none⟩ u5).setCell ⟨b,6,none⟩ u6).setCell ⟨b,7,none⟩ u7).setCell ⟨b,8,none⟩ u8
theorem zc7 {W:World}{b:Nat}{x0 x1 x2 x3 x4 x5 x6 x7 x8 u0 u1 u2 u3 u4 u5 u6 u7 u8:Value}{t:TypeId}(h:W.heap[b]?=some (.cells #[x0,x1,x2,x3,x4,x5,x6,x7,x8] t)):
  (zcx W b u0 u1 u2 u3 u4 u5 u6 u7 u8).heap[b]?=some (.cells #[u0,u1,u2,u3,u4,u5,u6,u7,u8] t):=by
 have h0:=zam h 0 u0;simp only[yas,yaF,yaG]at h0;have h1:=zam h0 1 u1;simp only[yas,yaF,yaG]at h1;have h2:=zam h1 2 u2;simp only[yas,yaF,yaG]at h2;have h3:=zam h2 3 u3;simp only[yas,yaF,yaG]at h3;have h4:=zam h3 4 u4;simp only[yas,yaF,yaG]at h4;have h5:=zam h4 5 u5;simp only[yas,yaF,yaG]at h5;have h6:=zam h5 6 u6;simp only[yas,yaF,yaG]at h6;have h7:=zam h6 7 u7;simp only[yas,yaF,yaG]at h7;have h8:=zam h7 8 u8;simp only[yas,yaF,yaG]at h8;exact h8
theorem zbd {n b i:Nat}{u:Value}{w W:World}(h:Below n w W) (hn:n≤b):Below n w (W.setCell ⟨b,i,none⟩ u):=Below.setCell h (by simpa using hn) _
theorem zdg {n b:Nat}{w W:World}{u0 u1 u2 u3 u4 u5 u6 u7 u8:Value}(h:Below n w W) (hn:n≤b):Below n w (zcx W b u0 u1 u2 u3 u4 u5 u6 u7 u8):=
 zbd (zbd (zbd (zbd (zbd (zbd (zbd (zbd (zbd h hn) hn) hn) hn) hn) hn) hn) hn) hn
theorem zdu {w:World}{B e s n b i:Nat}{v u:Value}{xs:List Value}(h:w.ownsRow B e s v n xs) (hb:v.ownBlock≠some b):(w.setCell ⟨b,i,none⟩ u).ownsRow B e s v n xs:=
 h.kept (zan w b i u) (.inr hb)
theorem put9_own {W:World}{B e s n b:Nat}{v u0 u1 u2 u3 u4 u5 u6 u7 u8:Value}{xs:List Value}(h:W.ownsRow B e s v n xs) (hb:v.ownBlock≠some b):
  (zcx W b u0 u1 u2 u3 u4 u5 u6 u7 u8).ownsRow B e s v n xs:=
 zdu (zdu (zdu (zdu (zdu (zdu (zdu (zdu (zdu h hb) hb) hb) hb) hb) hb) hb) hb) hb
theorem zeK {w:World}{B B' e s n:Nat}{v:Value}{xs:List Value}(h:w.ownsRow B e s v n xs) (hb:B'≤B):w.ownsRow B' e s v n xs:=by
 obtain⟨hl,hn|⟨g,cap,cur,hv,hb',hg,rest⟩⟩:=h
 ·exact⟨hl,.inl hn⟩
 ·exact⟨hl,.inr ⟨g,cap,cur,hv,yac hb hb',hg,rest⟩⟩
theorem zaF {w w':World}{n B e s m:Nat}{v:Value}{xs:List Value}(h:w.ownsRow B e s v m xs) (hb:Below n w w') (hn:∀ k,v.ownBlock=some k→k<n):w'.ownsRow B e s v m xs:=by
 obtain⟨hl,hh|⟨g,cap,cur,hv,hb',hg,rest⟩⟩:=h
 ·exact⟨hl,.inl hh⟩
 ·refine⟨hl,.inr ⟨g,cap,cur,hv,hb',?_,rest⟩⟩
  rw[hb.block g (hn g (by rw[hv];rfl))];exact hg
theorem zj3.below {w W W':World}{g tb:Nat}{x0 x1 x2 x3 x4 x5 x6 x7:Int}{A:Option Addr}{c:Nat}{ws:List WrP}{r:Rd}(st:zj3 w W g tb x0 x1 x2 x3 x4 x5 x6 x7 A c ws r)
  (hb:Below W W W'):zj3 w W' g tb x0 x1 x2 x3 x4 x5 x6 x7 A c ws r:=by
 have h1:=zae st.z;have h2:=zae st.tx;have h3:=st.lt;refine⟨st.rd.above fun k hk=>hb.block k zO,by rw[hb.block _ h1];exact st.z,by rw[hb.block _ h2];exact st.tx,zaF st.own hb fun k hk=>(zao st.own hk).2,st.bl.trans (hb.mono (ybw h1)),st.lg,st.lt⟩
def znf (w:World) (D:Option TxP) (e:Ending) (w':World):Prop:=
 match D with
 | none=>e=.returned (.tuple #[.agg #[ii 0,ii 0,ii 0,ii 0,ii 0,ii 0,ii 0,ii 0,.slice none 0 0],.iface 29 (ii 3)])∧Below w w w'
 | some t=>∃ A c,e=.returned (.tuple #[.agg #[ii t.site,ii t.seq,ii t.wall,ii t.count,ii t.d0,ii t.d1,ii t.d2,ii t.d3,.slice A t.ws.length c],.nilIface])∧
    Below w w w'∧w'.ownsRow w.heap.size 83 3 (.slice A t.ws.length c) t.ws.length (za3 t.ws)
theorem zfg {W:World}{x0 x1 x2:Value}{n:Nat}(hn:n=W.heap.size):
  ∀ (j:Nat) (u:Value),[x0,x1,x2][j]?=some u→(W.alloc (.cells #[x0,x1,x2] 83)).cell? ((⟨n,0,none⟩:Addr).add j)=some u:=by
 subst hn;intro j u hj;have e:(⟨W,0,none⟩:Addr).add j=⟨W,j,none⟩:=by unfold Addr.add;split <;> simp_all
 rw[e,zaa (cs:=#[x0,x1,x2]) (t:=83) (by rw[heap_alloc,yaj rfl]) j];simpa using hj
instance : Inhabited zaE := ⟨⟨0, 0, 0, 0, ⟨#[]⟩, false⟩⟩
def VsAt (w:World) (A:Option Addr) (vs:List zaE):Prop:=∀ (i:Nat) (x:zaE),vs[i]?=some x→∃ b o,A=some ⟨b,o,none⟩∧b<w.heap.size∧
 w.cell? ⟨b,o+i*6,none⟩=some (ii x.w)∧w.cell? ⟨b,o+i*6+1,none⟩=some (ii x.c)∧w.cell? ⟨b,o+i*6+2,none⟩=some (ii x.site)∧
 w.cell? ⟨b,o+i*6+3,none⟩=some (ii x.seq)∧w.cell? ⟨b,o+i*6+4,none⟩=some (.string x.data)∧w.cell? ⟨b,o+i*6+5,none⟩=some (.bool x.gone)
theorem VsAt.below {w w':World}{A:Option Addr}{vs:List zaE}(h:VsAt w A vs) (hb:Below w w w'):VsAt w' A vs:=fun i x hx=>by
 obtain⟨b,o,hA,hlt,h0,h1,h2,h3,h4,h5⟩:=h i x hx;have e:∀ k,w'.cell? ⟨b,k,none⟩=w.cell? ⟨b,k,none⟩:=fun k=>hb.cell (p:=⟨b,k,none⟩) hlt
 exact⟨b,o,hA,yab hlt hb.size,by rw[e];exact h0,by rw[e];exact h1,by rw[e];exact h2,by rw[e];exact h3,by rw[e];exact h4,by rw[e];exact h5⟩
def zik (vs:List zaE) (v:zaE):Nat→Nat→Nat→Nat
 | 0,lo,_=>lo
 | f+1,lo,hi=>if lo<hi then (if zgv (vs.getD ((lo+hi) / 2) default) v<0 then zik vs v f ((lo+hi) / 2+1) hi else zik vs v f lo ((lo+hi) / 2))else lo
theorem bsGo_end (vs:List zaE) (v:zaE):∀ (f lo hi:Nat),¬lo<hi→zik vs v f lo hi=lo
 | 0,_,_,_=>rfl
 | f+1,lo,hi,h=>by unfold zik;rw[yad h]
theorem zjX (vs:List zaE) (v:zaE):∀ (f lo hi:Nat),lo≤hi→lo≤zik vs v f lo hi∧zik vs v f lo hi≤hi
 | 0,lo,hi,h=>⟨yai _,h⟩
 | f+1,lo,hi,h=>by
   unfold zik;split
   ·split
    ·have:=zjX vs v f ((lo+hi) / 2+1) hi zO;omega
    ·have:=zjX vs v f lo ((lo+hi) / 2) zO;omega
   ·omega
def bsK (vs:List zaE) (v:zaE):Nat:=zik vs v vs.length 0 vs.length
def bsF (vs:List zaE) (v:zaE):Bool:=decide (bsK vs v<vs.length)&&decide (zgv (vs.getD (bsK vs v) default) v=0)
theorem zkM (vs:List zaE) (v:zaE) (A:Option Addr) (c:Nat) (w:World) (hn:vs.length≤1000000) (hvs:VsAt w A vs) (hs:∀ x∈vs,0≤x.site∧x.site<4) (hv:0≤v.site∧v.site<4):
  Calls prog 176 #[.slice A vs.length c,zbX v,.func (.func 177) #[] #[]] w fun e w'=>e=.returned (.tuple #[ii (bsK vs v),.bool (bsF vs v)])∧Below w w w':=by
 have HV:=zac hvs;have HS:=zac hs;have HSV:=zac hv;clear hvs hs hv;unfold zbX;go_enter func176,ntmps176;go_wp2;go_loopw [9,10] (fun i j wr=>∃ (lo hi f:Nat),i=ii lo∧j=ii hi∧lo≤hi∧hi≤vs.length∧hi-lo≤f∧zik vs v f lo hi=bsK vs v∧Below (w.alloc (.cells #[v.w,v.c,v.site,v.seq,.string v.data,.bool v.gone] 59)).heap.size (w.alloc (.cells #[v.w,v.c,v.site,v.seq,.string v.data,.bool v.gone] 59)) wr) (fun i j _=>((intOf j).toNat-(intOf i).toNat))
 case atStart=>exact⟨0,vs.length,vs.length,rfl,rfl,yay _,yai _,zO,rfl,yaf _ _⟩
 case round=>
  obtain⟨lo,hi,f,rfl,rfl,h1,h2,h3,hB,hbl⟩:=hrel;obtain⟨x,rfl⟩:=zad hbl;clear hbl;have HB:=zac hB;clear hB;by_cases hlt:lo<hi
  ·obtain⟨f,rfl⟩:∃ f',f=f'+1:=⟨f-1,zO⟩
   obtain⟨m,hm⟩:∃ m,(lo+hi) / 2=m:=⟨_,rfl⟩;have hml:m<hi:=by omega
   have hmg:lo≤m:=by omega
   have hmi:((lo:Int)+(hi:Int)) / 2=(m:Int):=by omega
   have hmv:m<vs.length:=by omega
   obtain⟨b,o,rfl,hb,c0,c1,c2,c3,c4,c5⟩:=HV.out m vs[m] (yaa hmv);obtain⟨y,hy⟩:∃ y,vs[m]=y:=⟨_,rfl⟩;have hys:=HS.out vs[m] (yaw hmv);rw[hy]at c0 c1 c2 c3 c4 c5 hys;have hgd:vs.getD m default=y:=by simp[List.getD,yaa hmv,hy]
   have hB2:bsK vs v=if zgv y v<0 then zik vs v f (m+1) hi else zik vs v f lo m:=by
    rw[←HB.out];conv=>lhs;unfold zik
    rw[yaj hlt,hm,hgd]
   have HB2:=zac hB2;have HC:=zac fun w=>zkp y v w hys HSV.out
   unfold zbX at HC;generalize zgv y v=z at *;haveI:zaj (b+1) w:=⟨hb⟩;clear hB2 hgd hy hm HB hys;go_wp2;by_cases hz:z<0
   ·have hd:decide (z<0)=true:=by simpa using hz
    have HB3:Hid (zik vs v f (m+1) hi=bsK vs v):=zac (by rw[HB2.out,yaj hz]);clear HB2;refine zaz fun x3=>?_
    go_wp2;go_roundw
    case rel=>exact⟨m+1,hi,f,yaS (Value.int IntKind.i64) zO,rfl,zO,h2,zO,HB3.out,zB⟩
    case measure=>simp only[intOf];omega
   ·have hd:decide (z<0)=false:=by simpa using hz
    have HB3:Hid (zik vs v f lo m=bsK vs v):=zac (by rw[HB2.out,yad hz]);clear HB2;refine zaz fun x3=>?_
    go_wp2;go_roundw
    case rel=>exact⟨lo,m,f,rfl,rfl,hmg,zO,zO,HB3.out,zB⟩
    case measure=>simp only[intOf];omega
  ·have hk:bsK vs v=lo:=by rw[←HB.out,bsGo_end vs v f lo hi hlt]
   have HK:=zac hk;clear hk HB;by_cases hln:lo<vs.length
   ·obtain⟨b,o,rfl,hb,c0,c1,c2,c3,c4,c5⟩:=HV.out lo vs[lo] (yaa hln)
    obtain⟨y,hy⟩:∃ y,vs[lo]=y:=⟨_,rfl⟩;have hys:=HS.out vs[lo] (yaw hln);rw[hy]at c0 c1 c2 c3 c4 c5 hys;have hgd:vs.getD lo default=y:=by simp[List.getD,yaa hln,hy]
    have HC:=zac fun w=>zkp y v w hys HSV.out
    have HF:Hid (bsF vs v=decide (zgv y v=0)):=zac (by unfold bsF;rw[HK.out,hgd,yae hln,Bool.true_and]);unfold zbX at HC;generalize zgv y v=z at *;haveI:zaj (b+1) w:=⟨hb⟩;have hd:decide ((lo:Int)<(vs.length:Int))=true:=zT;clear hgd hy hys;go_wp2;refine zaz fun x3=>?_
    go_wp2;go_ret2;refine⟨?_,zB⟩;rw[HK.out,HF.out,show decide (z=0)=(z==0)from by rw[ybq];simp];rfl
   ·have HF:Hid (bsF vs v=false):=zac (by unfold bsF;rw[HK.out,yah hln,Bool.false_and])
    have hd:decide ((lo:Int)<(vs.length:Int))=false:=zU;go_wp2;refine zaw fun x3=>?_
    go_wp2;go_ret2;refine⟨?_,zB⟩;rw[HK.out,HF.out];rfl
theorem own_wr {w:World}{B:Nat}{v:Value}{L:List UInt8}{key:Nat}{data:ByteArray}{gone:Bool}
  (h:w.ownsRow B 5 1 v (L.length+(zbx [key,zcy gone,data.size]).length+data.size) (u8s (L++zbx [key,zcy gone,data.size])++Go.Lib.strCells data)):
  w.ownsRow B 5 1 v (L++wrB ⟨(key:Int),data,gone⟩).length (u8s (L++wrB ⟨(key:Int),data,gone⟩)):=by
 have e:L++wrB ⟨(key:Int),data,gone⟩=(L++zbx [key,zcy gone,data.size])++data.data.toList:=by simp[wrB]
 rw[e,zkG,yak,yak,←zck];exact h
theorem maxLen_ge:140737488355328≤maxLen:=by simp only[maxLen];omega
theorem info5x:∃ i,prog.info? 5=some i∧i.zero=some (.int .u8 0)∧i.size=1∧i.bytes=1:=by
 obtain⟨i,hi,h⟩:=ya6.1 info5;simp only[ybc]at h;exact⟨i,hi,h.1,h.2.1,h.2.2⟩
theorem zkX {t:TxP}{b:Bool}(h:zaf t=b) (A:Option Addr) (c:Nat) (w:World) (hn:t.ws.length≤1000000) (hws:zaN w A t.ws) (hseq:-9223372036854775808≤t.seq∧t.seq≤9223372036854775807):
  Calls prog 82 #[.agg #[ii t.site,ii t.seq,ii t.wall,ii t.count,ii t.d0,ii t.d1,ii t.d2,ii t.d3,.slice A t.ws.length c]] w
   fun e w'=>e=.returned (.bool b)∧Below w w w':=by
 subst h;exact zel t.site t.seq t.wall t.count t.d0 t.d1 t.d2 t.d3 A c t.ws w hn hws hseq
theorem zaN.alloc {w:World}{A:Option Addr}{ws:List WrP}(h:zaN w A ws) (o:Obj):zaN (w.alloc o) A ws:=h.below (zal (yaf _ _))
structure zdo (w W:World) (cs:Array Value) (v:Value) (bs:List UInt8):Prop where
 own:W.ownsRow (w.heap.size+1) 5 1 v bs.length (u8s bs)
 box:W.heap[w.heap.size]?=some (.cells cs 44)
 bl:Below w w W
theorem zdo.alloc {w W:World}{cs:Array Value}{v:Value}{bs:List UInt8}(h:zdo w W cs v bs) (o:Obj):zdo w (W.alloc o) cs v bs:=by
 have h1:=zae h.box;exact⟨h.own.alloc o,by rw[heap_alloc,yad zO];exact h.box,h.bl.alloc zO o⟩
theorem zdo.grown {w W W':World}{cs:Array Value}{v v':Value}{bs bs':List UInt8}(h:zdo w W cs v bs) (hg:W.grownBy W' v.ownBlock) (hown:W'.ownsRow (w.heap.size+1) 5 1 v' bs'.length (u8s bs')):zdo w W' cs v' bs':=by
 have h1:=zae h.box;have hne:∀ k,v.ownBlock=some k→w.heap.size+1≤k:=fun k e=>(zao h.own e).1
 refine⟨hown,by rw[hg.block _ h1 (fun e=>by have:=hne _ e.symm;omega)];exact h.box,yaE h.bl hg zO (fun k e=>by have:=hne k e;omega)⟩
theorem zdo.put {w W W':World}{cs:Array Value}{v v':Value}{bs bs':List UInt8}(h:zdo w W cs v bs) (hb:Buf (w.heap.size+1) W v W' v' bs'):zdo w W' cs v' bs':=
 h.grown hb.grown hb.own
theorem zdo.sz {w W:World}{cs:Array Value}{v:Value}{bs:List UInt8}(h:zdo w W cs v bs):w.heap.size<W.heap.size:=zae h.box
theorem zdo.ne {w W:World}{cs:Array Value}{v:Value}{bs:List UInt8}(h:zdo w W cs v bs){k:Nat}(hk:W.heap.size≤k):v.ownBlock≠some k:=fun e=>by have:=(zao h.own e).2;omega
theorem zdo.ne0 {w W:World}{cs:Array Value}{v:Value}{bs:List UInt8}(h:zdo w W cs v bs):v.ownBlock≠some w.heap.size:=fun e=>by have:=(zao h.own e).1;omega
theorem zbz (zs:List Nat) (hz:∀ z∈zs,z≤1099511627776):(zbx zs).length≤6*zs.length:=by
 induction zs with
 | nil=>simp[zbx]
 | cons z zs ih=>
   have h1:=ih (fun x hx=>hz x (by simp[hx]));have h2:=zfJ z 6 (by have:=hz z zS;omega) zO;simp only[zbx,yaN,yak,yaq]at h1 ⊢;omega
theorem zjP {w W:World}{cs:Array Value}{o:Obj}{x:Int}(hb:W.heap[w.heap.size]?=some (.cells cs 44)) (hbl:Below w w W) (ho:o=.cells #[.int .u8 x] 5) (hx:x=116):
  zdo w (W.alloc o) cs (.slice (some ⟨W,0,none⟩) 1 1) [116]:=by
 subst ho hx;have h1:=zae hb;exact⟨zmC (c:=116) (x:=116) zO (by rw[heap_alloc,yaj rfl]) rfl,by rw[heap_alloc,yad zO];exact hb,hbl.alloc zO _⟩
theorem zfV (ws:List WrP) (h:∀ w∈ws,(0≤w.key∧w.key<8)∧w.data.size≤12):∀ k,k≤ws.length→((ws.take k).flatMap wrB).length≤30*k:=by
 intro k
 induction k with
 | zero=>intro _;simp
 | succ k ih=>
   intro hk;have h1:=ih zO;rw[ya5 zO];have hw:=h ws[k] (yaw zO);have h2:=zbz [ws[k].key.toNat,zcy ws[k].gone,ws[k].data.size] (by intro z hz;have:=zkn ws[k].gone;simp at hz;omega);have h3:=zck ws[k].data;simp only[yaJ,yak,yaN,List.flatMap_nil,ybM,wrB]at h1 ⊢;simp only[yaq,yaB]at h2;omega
theorem zhm (t:TxP) (A:Option Addr) (c:Nat) (w:World) (h:zaf t=true) (hws:zaN w A t.ws):
  Calls prog 146 #[.agg #[ii t.site,ii t.seq,ii t.wall,ii t.count,ii t.d0,ii t.d1,ii t.d2,ii t.d3,.slice A t.ws.length c]] w
   fun e w'=>∃ v,e=.returned (.tuple #[v,.nilIface])∧Fresh w w' v (txB t):=by
 have h2:=h;simp only[zaf,yav]at h2;obtain⟨hw,hl1,hl5⟩:=zek h2.2;obtain⟨q1,q2,q3,q4,q5,q6,q7,q8,_⟩:=zfc h2.1;have HR:=zac (fun o=>zkX h A c (w.alloc o) zO (hws.alloc o) ⟨zO,zO⟩);clear h h2;obtain⟨site,seq,wall,count,d0,d1,d2,d3,ws⟩:=t;simp only at *;obtain⟨s,rfl⟩:=yar q1.1;obtain⟨q,rfl⟩:=yar (show 0≤seq by omega);obtain⟨wl,rfl⟩:=yar q3.1;obtain⟨ct,rfl⟩:=yar q4.1;obtain⟨e0,rfl⟩:=yar q5.1;obtain⟨e1,rfl⟩:=yar q6.1;obtain⟨e2,rfl⟩:=yar q7.1;obtain⟨e3,rfl⟩:=yar q8.1;obtain⟨i0,hi,hz0,hz1,hz2⟩:=info5x;have HW:=zac hw;have HWS:=zac hws;clear hw hws;go_enter func146,ntmps146;go_wp2_with fail;go_at_call 82
 with_reducible refine(HR.out _).mono ?_
 rintro e w1 ⟨rfl,hb⟩;have hbox:=hb.block w.heap.size zS;rw[heap_alloc,yaj rfl]at hbox;have hc:=zlw hbox;go_split_ands;haveI:zaj (w.heap.size+1) w1:=⟨zae hbox⟩;have HS:=zac (fun(o:Obj) (h:o=.cells #[.int .u8 116] 5)=>zjP hbox (ybC (zal (yaf _ _)) (hb.mono zS)) h rfl);clear hb hbox HR;go_wp2_with fail;go_at_call 183;refine(zeo (w.heap.size+1) _ [116] [s,q,wl,ct] _ 0 4 4 _ rfl ?_ ((HS.out _ rfl).alloc _).own ?_ ?_ ?_ ((HS.out _ rfl).ne zS)).mono ?_
 ·have:=(HS.out _ rfl).sz;simp at this ⊢;omega
 ·intro z hz;simp at hz;omega
 ·simp
 ·intro i z hi
  rcases i with _|_|_|_|i <;> simp at hi <;> subst hi <;> rw[zaa (by rw[heap_alloc,yaj zS])] <;> rfl
 rintro e w2 ⟨v2,rfl,hb2⟩;have st2:=zac (((HS.out _ rfl).alloc _).put hb2);clear hb2 HS;have hc:=zlw st2.out.box;have hlt2:=st2.out.sz;haveI:zaj (w.heap.size+1) w2:=⟨hlt2⟩;go_split_ands;go_wp2_with fail;go_at_call 183;refine(zeo (w.heap.size+1) _ _ [e0,e1,e2,e3] w.heap.size 4 4 4 _ rfl ?_ st2.out.own ?_ ?_ ?_ st2.out.ne0).mono ?_
 ·omega
 ·intro z hz;simp at hz;omega
 ·have:=zbz [s,q,wl,ct] (by intro z hz;simp at hz;omega);simp at this ⊢;omega
 ·intro i z hi
  rcases i with _|_|_|_|i <;> simp at hi <;> subst hi <;> assumption
 rintro e w3 ⟨v3,rfl,hb3⟩;have st3:=zac (st2.out.put hb3);clear hb3 st2;have hc:=zlw st3.out.box;have hlt3:=st3.out.sz;haveI:zaj (w.heap.size+1) w3:=⟨hlt3⟩;go_split_ands;go_wp2_with fail;go_at_call 183;refine(zeo (w.heap.size+1) _ _ [ws.length] _ 0 1 1 _ rfl ?_ (st3.out.alloc _).own ?_ ?_ ?_ (st3.out.ne (yai _))).mono ?_
 ·simp;omega
 ·intro z hz;simp at hz;omega
 ·have:=zbz [s,q,wl,ct] (by intro z hz;simp at hz;omega);have:=zbz [e0,e1,e2,e3] (by intro z hz;simp at hz;omega);simp at *;omega
 ·intro i z hi
  rcases i with _|i <;> simp at hi <;> subst hi <;> rw[zaa (by rw[heap_alloc,yaj zS])] <;> rfl
 rintro e w4 ⟨v4,rfl,hb4⟩;have st4:=zac ((st3.out.alloc _).put hb4);clear hb4 st3;have hc:=zlw st4.out.box;have hlt4:=st4.out.sz;haveI:zaj (w.heap.size+1) w4:=⟨hlt4⟩;go_split_ands;obtain⟨L0,hL0⟩:∃ L0,116::(zbx [s,q,wl,ct]++zbx [e0,e1,e2,e3]++zbx [ws.length])=L0:=⟨_,rfl⟩;have HL0:Hid (L0.length≤100):=zac (by
  have:=zbz [s,q,wl,ct] (by intro z hz;simp at hz;omega);have:=zbz [e0,e1,e2,e3] (by intro z hz;simp at hz;omega);have:=zbz [ws.length] (by intro z hz;simp at hz;omega);rw[←hL0];simp at *;omega)
 have st5:Hid (zdo w w4 _ v4 L0):=zac (by rw[←hL0];have:=st4.out;simpa using this);have HFIN:Hid (txB ⟨s,q,wl,ct,e0,e1,e2,e3,ws⟩=L0++ws.flatMap wrB):=zac (by rw[←hL0];simp[txB]);clear hL0 st4;go_wp2;go_loopw [4,38] (fun b i wr=>∃ (k:Nat) (L:List UInt8),k≤ws.length∧i=ii k∧L=L0++(ws.take k).flatMap wrB∧zdo w wr #[ii s,ii q,ii wl,ii ct,ii e0,ii e1,ii e2,ii e3,.slice A ws.length c] b L) (fun _ i _=>ws.length-(intOf i).toNat)
 case atStart=>exact⟨0,L0,yay _,rfl,zS,st5.out⟩
 case round=>
  obtain⟨k,L,hk,rfl,hL,st⟩:=hrel;have hlen:L.length≤100+30*k:=by
   rw[hL,yak];have:=HL0.out;have:=zfV ws HW.out k hk;omega
  have HLe:=zac hL;clear hL;by_cases hlt:k<ws.length
  ·obtain⟨b,o,rfl,hb,h0,h1,h2⟩:=(HWS.out.below st.bl) k ws[k] (yaa hlt)
   have hwk:=HW.out ws[k] (yaw hlt);obtain⟨y,hy⟩:∃ y,ws[k]=y:=⟨_,rfl⟩;have HY:=zac hy;rw[hy]at h0 h1 h2 hwk;clear hy;obtain⟨key,data,gone⟩:=y;simp only at *;obtain⟨key,rfl⟩:=yar hwk.1.1;have hszr:=st.sz;haveI:zaj (b+1) wr:=⟨hb⟩;cases gone
   ·
    go_wp2_with fail;go_at_call 183;refine(zeo (w.heap.size+1) _ _ [key,zcy false,data.size] _ 0 3 3 _ rfl ?_ ((st.alloc _).alloc _).own ?_ ?_ ?_ ((st.alloc (.cells #[key,.string data,.bool false] 83)).ne zS)).mono ?_
    ·simp;omega
    ·intro z hz;simp[zcy]at hz;omega
    ·simp;omega
    ·intro i z hi
     rcases i with _|_|_|i <;> simp at hi <;> subst hi <;> rw[zaa (by rw[heap_alloc,yaj zS])] <;> rfl
    rintro e w6 ⟨v6,rfl,hb6⟩;have st6:=((st.alloc _).alloc _).put hb6;have hx1:w6.cell? ⟨wr,1,none⟩=some (.string data):=by
     rw[hb6.cell zP (st.ne (yai _)),zfk,zaa (by rw[heap_alloc,yaj rfl])];rfl
    clear hb6;go_wp2_with (at_builtin;go_must (refine Go.Lib.wpList_append_own_string _ rfl _ _ 207 9 rfl (w.heap.size+1) 5 i0 underlying207 underlying9 hi hz0 hz1 hz2 v6 _ _ rfl st6.own data rfl ?c2 ?c3 ?c4 ?_))
    case c2=>have:=zbz [key,zcy false,data.size] (by intro z hz;simp[zcy]at hz;omega);refine yac ?_ maxLen_ge;simp only[yak,yaq,yaB]at this ⊢;omega
    case c3=>have:=zbz [key,zcy false,data.size] (by intro z hz;simp[zcy]at hz;omega);simp only[yak,yaq,yaB]at this ⊢;omega
    case c4=>have:=st6.sz;omega
    intro v7 w7 hown7 hgrow7 _;have st7:=zac (zdo.grown (bs':=L++wrB ⟨(key:Int),data,false⟩) st6 hgrow7 (own_wr hown7));clear hown7 hgrow7 st6;go_wp2;go_roundw
    case rel=>
     refine⟨k+1,_,zO,by go_num,?_,st7.out⟩;rw[ya5 hlt,HLe.out,HY.out];simp
    case measure=>simp[intOf];omega
   ·
    go_wp2_with fail;go_at_call 183;refine(zeo (w.heap.size+1) _ _ [key,zcy true,data.size] _ 0 3 3 _ rfl ?_ ((st.alloc _).alloc _).own ?_ ?_ ?_ ((st.alloc (.cells #[key,.string data,.bool true] 83)).ne zS)).mono ?_
    ·simp;omega
    ·intro z hz;simp[zcy]at hz;omega
    ·simp;omega
    ·intro i z hi
     rcases i with _|_|_|i <;> simp at hi <;> subst hi <;> rw[zaa (by rw[heap_alloc,yaj zS])] <;> rfl
    rintro e w6 ⟨v6,rfl,hb6⟩;have st6:=((st.alloc _).alloc _).put hb6;have hx1:w6.cell? ⟨wr,1,none⟩=some (.string data):=by
     rw[hb6.cell zP (st.ne (yai _)),zfk,zaa (by rw[heap_alloc,yaj rfl])];rfl
    clear hb6;go_wp2_with (at_builtin;go_must (refine Go.Lib.wpList_append_own_string _ rfl _ _ 207 9 rfl (w.heap.size+1) 5 i0 underlying207 underlying9 hi hz0 hz1 hz2 v6 _ _ rfl st6.own data rfl ?c2 ?c3 ?c4 ?_))
    case c2=>have:=zbz [key,zcy true,data.size] (by intro z hz;simp[zcy]at hz;omega);refine yac ?_ maxLen_ge;simp only[yak,yaq,yaB]at this ⊢;omega
    case c3=>have:=zbz [key,zcy true,data.size] (by intro z hz;simp[zcy]at hz;omega);simp only[yak,yaq,yaB]at this ⊢;omega
    case c4=>have:=st6.sz;omega
    intro v7 w7 hown7 hgrow7 _;have st7:=zac (zdo.grown (bs':=L++wrB ⟨(key:Int),data,true⟩) st6 hgrow7 (own_wr hown7));clear hown7 hgrow7 st6;go_wp2;go_roundw
    case rel=>
     refine⟨k+1,_,zO,by go_num,?_,st7.out⟩;rw[ya5 hlt,HLe.out,HY.out];simp
    case measure=>simp[intOf];omega
  ·have hkk:k=ws.length:=by omega
   have hc:=zlw st.box;go_split_ands;go_wp2;go_ret2;refine⟨_,rfl,st.bl,?_⟩;have h:=zeK st.own (Nat.le_succ _);have hL:=HLe.out;rw[hkk,ybD]at hL;rw[HFIN.out,←hL];exact h
theorem zcN {P:Program}(w:World) (dT sT ty elem:TypeId) (g o dLen dCap:Nat) (a:Addr) (sLen sCap sz n:Nat) (cur:Array Value) (t:TypeId) (cs:List Value)
  (hu:P.underlying dT=some (.slice elem)) (hs:(P.info? elem).map (·.size)=some sz)
  (hg:w.heap[g]?=some (.cells cur t (0,0))) (hn:Nat.min sLen dLen=n) (hcs:cs.length=n*sz)
  (hsrc:∀ j v,cs[j]?=some v→w.cell? (a.add j)=some v) (hfit:o+cs.length≤cur.size) (h1:∀ v∈cs,v.oneCell'=true):
  (Builtin.copy_ #[dT,sT] ty #[.slice (some ⟨g,o,none⟩) dLen dCap,.slice (some a) sLen sCap]).run P w=
    .ok (goInt n) (w.setRow g (cur.toList.take o++cs++cur.toList.drop (o+cs.length)).toArray):=by
 have hl:=run_loadCells_list (P:=P) w a cs hsrc;have hst:=run_storeCells_at P g o t cs 0 cur w hg (by simpa using hfit) h1;cases hq:P.info? elem with
 | none=>simp[hq]at hs
 | some i=>
   have hi:i.size=sz:=by simpa[hq]using hs
   simp[Builtin.copy_,ybz hu,Builtin.lenOf,Builtin.firstCells,sizeOf,typeInfo,hq,hi,hn,←hcs,hl,hst]
theorem info71:(prog.info? 59).map (fun i=>(i.zero,i.size,i.bytes))=some (some (.agg #[ii 0,ii 0,ii 0,ii 0,.string ⟨#[]⟩,.bool false]),6,56):=by kernel_rfl
theorem info71x:∃ i,prog.info? 59=some i∧i.zero=some (.agg #[ii 0,ii 0,ii 0,ii 0,.string ⟨#[]⟩,.bool false])∧i.size=6∧i.bytes=56:=by
 obtain⟨i,hi,h⟩:=ya6.1 info71;simp only[ybc]at h;exact⟨i,hi,h.1,h.2.1,h.2.2⟩
def zez (B:Nat) (v0:Value) (n:Nat) (ys:List Value) (w:World) (e:Ending) (w':World):Prop:=
 ∃ v',e=.returned v'∧w'.ownsRow B 59 6 v' (n+1) ys∧w.grownBy w' v0.ownBlock∧(v'.ownBlock=v0.ownBlock∨∀ k,v'.ownBlock=some k→w.heap.size≤k)
theorem zkq {w:World}{ab:Nat}{u0 u1 u2 u3 u4 u5:Value}(h:w.heap[ab]?=some (.cells #[u0,u1,u2,u3,u4,u5] 59)):
  ∀ (j:Nat) (u:Value),[u0,u1,u2,u3,u4,u5][j]?=some u→w.cell? ((⟨ab,0,none⟩:Addr).add j)=some u:=by
 intro j u hj;have e:(⟨ab,0,none⟩:Addr).add j=⟨ab,j,none⟩:=by unfold Addr.add;split <;> simp_all
 rw[e,zaa h j];simpa using hj
theorem zlj (B:Nat) (v0:Value) (n:Nat) (xs:List Value) (u0 u1 u2 u3 u4 u5:Value) (ab:Nat) (w:World) (hB:B≤w.heap.size) (hown:w.ownsRow B 59 6 v0 n xs) (hn:n≤1000000)
  (hab:w.heap[ab]?=some (.cells #[u0,u1,u2,u3,u4,u5] 59)) (h1:∀ u∈[u0,u1,u2,u3,u4,u5],u.oneCell'=true):
  Calls prog 178 #[v0,n,.slice (some ⟨ab,0,none⟩) 1 1] w (zez B v0 n (xs++[u0,u1,u2,u3,u4,u5]) w):=by
 obtain⟨i0,hi,hz0,hz1,hz2⟩:=info71x;have HO:=zac hown;have HA:=zac hab;have H1:=zac h1;obtain⟨A,c,rfl,hc⟩:∃ A c,v0=.slice A n c∧n≤c:=by
  obtain⟨_,hh|⟨g,cap,cur,hv,_,_,hc,_⟩⟩:=hown
  ·exact⟨none,0,by rw[hh.1,hh.2],zO⟩
  ·exact⟨_,cap,hv,hc⟩
 clear hown hab h1;by_cases hcn:c=n
 all_goals
  first|subst hcn|skip
  go_enter func178,ntmps178;go_wp2_with (at_builtin;go_must (refine wpList_append_lies _ rfl _ _ 142 rfl B 59 i0 (.agg #[ii 0,ii 0,ii 0,ii 0,.string ⟨#[]⟩,.bool false]) 6 56 underlying142 hi hz0 hz1 hz2 rfl zI _ _ xs rfl HO.out ⟨ab,0,none⟩ 1 1 [u0,u1,u2,u3,u4,u5] rfl rfl (zkq HA.out) H1.out zI ?c2 ?c3 hB _ rfl ?_))
  case c2=>refine yac ?_ maxLen_ge;omega
  case c3=>omega
  intro g1 cap1 w1 hown1 hgrow hgl hlt1;have HP:Hid (zez B (.slice A _ _) _ (xs++[u0,u1,u2,u3,u4,u5]) w (.returned (.slice (some ⟨g1,0,none⟩) _ cap1)) w1):=zac ⟨_,rfl,hown1,hgrow,by
   rcases hgl with h|h
   ·left;rw[h];rfl
   ·right;intro k hk;simp[Value.ownBlock]at hk;omega⟩
  clear hown1 hgrow hgl hlt1;go_wp2;go_ret;exact HP.out
theorem size71 (w:World):(sizeOf 59).run prog w=.ok 6 w:=by kernel_rfl
theorem sz71:(prog.info? 59).map (·.size)=some 6:=by
 obtain⟨i,hi,_,h,_⟩:=info71x;rw[hi];simp[h]
theorem zjA (w:World) (ab g o lb cb:Nat) (tA tB:TypeId) (csA csB:Array Value) (hA:w.heap[ab]?=some (.cells csA tA)) (hB:w.heap[g]?=some (.cells csB tB)) (hne:ab≠g) (hs:csB.size≠0):
  (callFunc 224 #[.slice (some ⟨ab,0,none⟩) 1 1,.slice (some ⟨g,o,none⟩) lb cb]).run prog w=.ok (.value (.bool false)) w:=by
 rw[ya4 func224 zK zK zK (e:=Extern.SlicesOverlaps.overlaps #[142,142] #[4]) zK,
  Lib.run_overlaps_apart w 142 4 59 underlying142 6 size71 ⟨ab,0,none⟩ ⟨g,o,none⟩ 1 1 lb cb hne tA tB csA.size csB.size (by simp[World.shape?,hA]) (by simp[World.shape?,hB]) hs (zab hA 0) (zab hA _)]
 rfl
theorem zg4 {P:Program}{ops:Array Oper}{o:Oper}{a:Act}{w:World}{K:Act→World→Prop}{Q:Exit→Act→World→Prop}{E:Prop}
  (hg:o.guard=none) (d x:Operand) (dT sT:TypeId) (hop:o.op=Op.call { callee:=Callee.builtin Builtin.copy,args:=#[d,x],argTypes:=#[dT,sT] })
  (v u:Value) (hd:a.eval d=v) (hx:a.eval x=u){v':Value}{w':World}(hr:(Builtin.copy_ #[dT,sT] o.type #[v,u]).run P w=.ok v' w') (hK:K (a.put o.dst v') w'):
  if Region.wanted o (yielded ops a.tmps)=true then Oper.wp P o a w K Q else E:=by
 have hw:Region.wanted o (yielded ops a.tmps)=true:=by simp[Region.wanted,hg]
 rw[yaj hw];unfold Oper.wp execOp;simp only[hop,resolve,invoke,builtin,ybJ,yb9,ybg,ybP,ybn,ybL,hd,hx,hr];exact hK
theorem ziY (w:World) (g:Nat) (cs:Array Value):w.grownBy (w.setRow g cs) (some g):=
 ⟨rfl,rfl,rfl,zS,fun k _ hne=>setRow_other w g k cs (fun e=>hne (by rw[e]))⟩
theorem ins_list {α:Type}(cl news:List α) (a m k:Nat) (ham:a≤m) (hl:m+k≤cl.length) (hk:news.length=k):
  let l1:=cl.take (a+k)++(cl.take m).drop a++cl.drop (a+k+(m-a))
  ((l1.take a++news++l1.drop (a+k)).take (m+k)=(cl.take m).take a++news++(cl.take m).drop a)∧(l1.take a++news++l1.drop (a+k)).length=cl.length∧l1.length=cl.length:=by
 intro l1;have hq:((cl.take m).drop a).length=m-a:=by simp;omega
 have hl1:l1.length=cl.length:=by simp only[l1,yak,hq,yaL,yaT];omega
 have h1:l1.take a=cl.take a:=by
  simp only[l1,ybh];rw[List.take_append_of_le_length zP,List.take_take];congr 1;omega
 have h2:l1.drop (a+k)=(cl.take m).drop a++cl.drop (a+k+(m-a)):=by
  simp only[l1,ybh];exact List.drop_left' zP
 have h3:(cl.take m).take a=cl.take a:=by rw[List.take_take];congr 1;omega
 refine⟨?_,?_,hl1⟩
 ·rw[h1,h2,h3,←ybh]
  exact ycq (by simp only[yak,hq,hk,yaL];omega)
 ·rw[h1,yak,yak,hk,yaT,hl1,yaL];omega
theorem zjI (B:Nat) (g n i cap:Nat) (cur:Array Value) (xs:List Value) (u0 u1 u2 u3 u4 u5:Value) (ab:Nat) (w:World) (hg:w.heap[g]?=some (.cells cur 59)) (hBg:B≤g) (hcur:cur.size=cap*6) (htake:cur.toList.take (n*6)=xs)
  (hi:i<n) (hroom:n+1≤cap) (hcm:cap≤9223372036854775807) (hab:w.heap[ab]?=some (.cells #[u0,u1,u2,u3,u4,u5] 59)) (hne:ab≠g) (h1:∀ u∈[u0,u1,u2,u3,u4,u5],u.oneCell'=true) (hx1:∀ u∈xs,u.oneCell'=true):
  Calls prog 178 #[.slice (some ⟨g,0,none⟩) n cap,i,.slice (some ⟨ab,0,none⟩) 1 1] w (zez B (.slice (some ⟨g,0,none⟩) n cap) n (xs.take (i*6)++[u0,u1,u2,u3,u4,u5]++xs.drop (i*6)) w):=by
 have hov:=fun o lb cb=>zjA w ab g o lb cb 59 59 _ cur hab hg hne zO
 have HG:=zac hg;have HA:=zac hab;have HT:=zac htake;have H1:=zac h1;have HX:=zac hx1;have hci:¬(cap=i):=by omega
 have hci1:¬(cap=i+1):=by omega
 clear hg hab htake h1 hx1;go_enter func178,ntmps178;go_wp2;obtain⟨cur1,hc1⟩:∃ cur1,(cur.toList.take ((i+1)*6)++xs.drop (i*6)++cur.toList.drop ((i+1)*6+(xs.drop (i*6)).length)).toArray=cur1:=⟨_,rfl⟩;have hxl:xs.length=n*6:=by rw[←HT.out,yaL,yaY,hcur];omega
 have hdl:(xs.drop (i*6)).length=(n-i)*6:=by rw[yaT,hxl];omega
 have hcell:∀ (j:Nat) (v:Value),(xs.drop (i*6))[j]?=some v→w.drew.cell? ((⟨g,i*6,none⟩:Addr).add j)=some v:=fun j v hj=>by
  have e:(⟨g,i*6,none⟩:Addr).add j=⟨g,i*6+j,none⟩:=by unfold Addr.add;split <;> simp_all
  rw[e];show w.cell? _=_;rw[zaa HG.out,ybp]at *;rw[←HT.out,ybG]at hj;split at hj
  ·rw[←ycb];exact hj
  ·cases hj
 have hcp:∀ ty o dL dC s sL sC,o=(i+1)*6→s=i*6→Nat.min sL dL=n-i→(Builtin.copy_ #[142,142] ty #[.slice (some ⟨g,o,none⟩) dL dC,.slice (some ⟨g,s,none⟩) sL sC]).run prog w.drew=.ok (goInt ((n-i:Nat):Int)) (w.drew.setRow g cur1):=by
  rintro ty o dL dC s sL sC rfl rfl hm;rw[←hc1];exact zcN w.drew 142 142 ty 59 g ((i+1)*6) dL dC ⟨g,i*6,none⟩ sL sC 6 (n-i) cur 59 (xs.drop (i*6)) underlying142 sz71 HG.out hm hdl hcell (by rw[hdl,hcur];omega) (fun u hu=>HX.out u (ybV hu))
 have HCP:=zac hcp;have HC1:=zac hc1;have HDL:=zac hdl;clear hcell hc1 hcp hdl;have hw1:IntKind.i64.wrap ((i:Int)+1)=(i:Int)+1:=by rw[ybm];omega
 have hb1:(0:Int)≤(i:Int)+1:=by omega
 have htn:((i:Int)+1).toNat=i+1:=by omega
 have hb3:(i:Int)+1≤(n:Int)+1:=by omega
 have hb5:(i:Int)≤(n:Int)+1:=by omega
 go_region_law (refine zg4 rfl (.tmp 73) (.tmp 76) 142 142 rfl (.slice (some ⟨g,(i+1)*6,none⟩) (n+1-(i+1)) (cap-(i+1))) (.slice (some ⟨g,i*6,none⟩) (n+1-i) (cap-i)) zM zM (HCP.out 3 _ _ _ _ _ _ rfl rfl (by simp only[Nat.min_def];split <;> omega)) ?_);have hcl1:cur1.toList=cur.toList.take (i*6+6)++(cur.toList.take (n*6)).drop (i*6)++cur.toList.drop (i*6+6+(n*6-i*6)):=by
  rw[←HC1.out,HDL.out,HT.out];simp only[List.toList_toArray];rw[show(i+1)*6=i*6+6 by omega,show(n-i)*6=n*6-i*6 by omega]
 have hil:=ins_list cur.toList [u0,u1,u2,u3,u4,u5] (i*6) (n*6) 6 zO (by rw[yaY,hcur];omega) rfl;simp only at hil;rw[←hcl1,HT.out]at hil;obtain⟨hi1,hi2,hi3⟩:=hil;have hg1:(w.drew.setRow g cur1).heap[g]?=some (.cells cur1 59):=setRow_heap _ _ _ _ _ _ HG.out;have hsz1:cur1.size=cap*6:=by rw[←yaY,hi3,yaY,hcur]
 have hab1:(w.drew.setRow g cur1).heap[ab]?=some (.cells #[u0,u1,u2,u3,u4,u5] 59):=(setRow_other _ _ _ _ hne).trans HA.out;obtain⟨cur2,hc2⟩:∃ cur2,(cur1.toList.take (i*6)++[u0,u1,u2,u3,u4,u5]++cur1.toList.drop (i*6+[u0,u1,u2,u3,u4,u5].length)).toArray=cur2:=⟨_,rfl⟩;have hcp2:∀ ty dL dC sL sC,Nat.min sL dL=1→(Builtin.copy_ #[142,142] ty #[.slice (some ⟨g,i*6,none⟩) dL dC,.slice (some ⟨ab,0,none⟩) sL sC]).run prog (w.drew.setRow g cur1)=.ok (goInt ((1:Nat):Int)) ((w.drew.setRow g cur1).setRow g cur2):=by
  intro ty dL dC sL sC hm;rw[←hc2];exact zcN _ 142 142 ty 59 g (i*6) dL dC ⟨ab,0,none⟩ sL sC 6 1 cur1 59 [u0,u1,u2,u3,u4,u5] underlying142 sz71 hg1 hm rfl (zkq hab1) (by rw[hsz1];simp;omega) H1.out
 have HCP2:=zac hcp2;have HP:Hid (zez B (.slice (some ⟨g,0,none⟩) n cap) n (xs.take (i*6)++[u0,u1,u2,u3,u4,u5]++xs.drop (i*6)) w (.returned (.slice (some ⟨g,0,none⟩) (n+1) cap)) ((w.drew.setRow g cur1).setRow g cur2)):=zac (by
  refine⟨_,rfl,⟨?_,.inr ⟨g,cap,cur2,rfl,hBg,setRow_heap _ _ _ _ _ _ hg1,hroom,by simpa[maxLen]using hcm,?_,?_⟩⟩,?_,.inl rfl⟩
  ·simp only[yak,yaL,yaT,yaq,yaB,hxl];omega
  ·rw[←hc2,←hcur,←yaY,←yaY (xs:=cur)]
   simpa using hi2
  ·rw[←hc2]
   have e:(n+1)*6=n*6+6:=by omega
   rw[e];simpa using hi1
  ·have hd:w.grownBy w.drew (some g):=⟨rfl,rfl,rfl,yai _,fun _ _ _=>rfl⟩
   exact zch (zch hd (ziY w.drew g cur1) (.inl rfl)) (ziY _ g cur2) (.inl rfl))
 clear hcl1 hi1 hi2 hi3 hg1 hsz1 hab1 hc2 hcp2 HC1 HDL HCP hxl
 all_goals
  go_wp2_with fail;rw[HCP2.out 3 (n+1-i) (cap-i) 1 1 (by simp only[Nat.min_def];split <;> omega)];go_wp2;go_ret;exact HP.out
theorem zmX {α:Type}(cl news q:List α) (a k:Nat) (hl:a+k+q.length≤cl.length) (hk:news.length=k):
  let l1:=cl.take a++news++cl.drop (a+k)
  ((l1.take (a+k)++q++l1.drop (a+k+q.length)).take (a+k+q.length)=cl.take a++news++q)∧(l1.take (a+k)++q++l1.drop (a+k+q.length)).length=cl.length∧l1.length=cl.length:=by
 intro l1;have hl1:l1.length=cl.length:=by simp only[l1,yak,yaL,yaT,hk];omega
 have h1:l1.take (a+k)=cl.take a++news:=ycq (by simp only[yak,yaL,hk];omega);refine⟨?_,?_,hl1⟩
 ·rw[h1]
  exact ycq (by simp only[yak,yaL,hk];omega)
 ·rw[h1];simp only[yak,yaL,yaT,hk,hl1];omega
theorem zjJ (B:Nat) (g n i:Nat) (cur:Array Value) (xs:List Value) (u0 u1 u2 u3 u4 u5:Value) (ab:Nat) (w:World) (hg:w.heap[g]?=some (.cells cur 59)) (hB:B≤w.heap.size) (hcur:cur.size=n*6) (htake:cur.toList.take (n*6)=xs)
  (hi:i<n) (hn:n≤1000000) (hab:w.heap[ab]?=some (.cells #[u0,u1,u2,u3,u4,u5] 59)) (h1:∀ u∈[u0,u1,u2,u3,u4,u5],u.oneCell'=true) (hx1:∀ u∈xs,u.oneCell'=true):
  Calls prog 178 #[.slice (some ⟨g,0,none⟩) n n,i,.slice (some ⟨ab,0,none⟩) 1 1] w (zez B (.slice (some ⟨g,0,none⟩) n n) n (xs.take (i*6)++[u0,u1,u2,u3,u4,u5]++xs.drop (i*6)) w):=by
 obtain⟨i0,hi0,hz0,hz1,hz2⟩:=info71x;have hltg:=zae hg;have hlta:=zae hab;have hxs:cur.toList=xs:=by rw[←htake,yb6 (by rw[yaY,hcur];exact yai _)]
 have hxl:xs.length=n*6:=by rw[←hxs,yaY,hcur]
 obtain⟨G,hG⟩:∃ G,grownCap w (n+1) n 59=G:=⟨_,rfl⟩;have hge:n+1≤G:=by rw[←hG];exact grownCap_ge w (n+1) n 59
 have hGm:G≤maxLen:=by rw[←hG];exact grownCap_le_maxLen w (n+1) n 59 (yac zO maxLen_ge)
 obtain⟨zs,hzs,hzl⟩:∃ zs:List Value,(Builtin.zeroCells (Value.agg #[ii 0,ii 0,ii 0,ii 0,.string ⟨#[]⟩,.bool false]).cells (n+1-i)++Builtin.zeroCells (Value.agg #[ii 0,ii 0,ii 0,ii 0,.string ⟨#[]⟩,.bool false]).cells (G-(n+1))).toList=zs∧zs.length=(G-i)*6:=⟨_,rfl,by
  have h6:(Value.agg #[ii 0,ii 0,ii 0,ii 0,.string ⟨#[]⟩,.bool false]).cells.size=6:=rfl;simp only[yaY,Array.size_append,size_zeroCells,h6];omega⟩
 obtain⟨c0,hc0⟩:∃ c0:Array Value,(xs.take (i*6)++zs).toArray=c0:=⟨_,rfl⟩;have hsrc:∀ (o:Nat) (W:World),W.heap[g]?=some (.cells cur 59)→∀ (j:Nat) (v:Value),(xs.drop o)[j]?=some v→W.cell? ((⟨g,o,none⟩:Addr).add j)=some v:=fun o W hW j v hj=>by
  have e:(⟨g,o,none⟩:Addr).add j=⟨g,o+j,none⟩:=by unfold Addr.add;split <;> simp_all
  rw[e,zaa hW,←ycb,hxs];rwa[ybp]at hj
 have hap:∀ ty,(Builtin.append_ #[142,3] ty #[.slice (some ⟨g,0,none⟩) i n,ii ((n:Int)+1-(i:Int))]).run prog w=.ok (.slice (some ⟨w,0,none⟩) (n+1) G) (w.drew.alloc (.cells c0 59)):=by
  intro ty;have e:((n:Int)+1-(i:Int))=((n+1-i:Nat):Int):=by omega
  have hold:(Builtin.firstCells i0.size i (.slice (some ⟨g,0,none⟩) i n)).run prog w.drew=.ok (xs.take (i*6)).toArray w.drew:=by
   have hl:(xs.take (i*6)).length=i*6:=by rw[yaL,hxl];omega
   have:=run_loadCells_list (P:=prog) w.drew ⟨g,0,none⟩ (xs.take (i*6)) (fun j v hj=>by
    rw[ybG]at hj;split at hj
    ·have:=hsrc 0 w.drew hg j v (by rwa[yaA]);exact this
    ·cases hj)
   rw[hl]at this;simp only[Builtin.firstCells,hz1];exact this
  have hr:=Go.Lib.run_append_grow_zeros (P:=prog) w 142 3 ty 59 i0 (.agg #[ii 0,ii 0,ii 0,ii 0,.string ⟨#[]⟩,.bool false]) .i64 .i64 underlying142 underlying3 hi0 hz0 (some ⟨g,0,none⟩) i n (xs.take (i*6)) hold (n+1-i) zO zO zO zO (by rw[hz2];omega)
   (growslice_fits zO (by rw[hz2];omega))
  rw[e,hr];have e2:i+(n+1-i)=n+1:=by omega
  rw[e2,hG];congr 3;rw[←hc0,←hzs];apply Array.toList_inj.1;simp
 have hc0l:c0.toList=xs.take (i*6)++zs:=by rw[←hc0]
 have hc0s:c0.toList.length=G*6:=by rw[hc0l,yak,yaL,hxl,hzl];omega
 have hgW:(w.drew.alloc (.cells c0 59)).heap[g]?=some (.cells cur 59):=by rw[heap_alloc,yad (by show ¬g=w.heap.size;omega)];exact hg
 have haW:(w.drew.alloc (.cells c0 59)).heap[ab]?=some (.cells #[u0,u1,u2,u3,u4,u5] 59):=by rw[heap_alloc,yad (by show ¬ab=w.heap.size;omega)];exact hab
 have hhW:(w.drew.alloc (.cells c0 59)).heap[w.heap.size]?=some (.cells c0 59):=by rw[heap_alloc,yaj (show w.heap.size=w.drew.heap.size from rfl)]
 obtain⟨c1,hc1⟩:∃ c1:Array Value,(c0.toList.take (i*6)++[u0,u1,u2,u3,u4,u5]++c0.toList.drop (i*6+[u0,u1,u2,u3,u4,u5].length)).toArray=c1:=⟨_,rfl⟩;have hcpA:∀ ty dL dC sL sC,Nat.min sL dL=1→(Builtin.copy_ #[142,142] ty #[.slice (some ⟨w,i*6,none⟩) dL dC,.slice (some ⟨ab,0,none⟩) sL sC]).run prog (w.drew.alloc (.cells c0 59))=.ok (goInt ((1:Nat):Int)) ((w.drew.alloc (.cells c0 59)).setRow w.heap.size c1):=by
  intro ty dL dC sL sC hm;rw[←hc1];exact zcN _ 142 142 ty 59 w.heap.size (i*6) dL dC ⟨ab,0,none⟩ sL sC 6 1 c0 59 [u0,u1,u2,u3,u4,u5] underlying142 sz71 hhW hm rfl (zkq haW) (by rw[←yaY,hc0s];simp;omega) h1
 have hc1l:c1.toList=c0.toList.take (i*6)++[u0,u1,u2,u3,u4,u5]++c0.toList.drop (i*6+6):=by rw[←hc1];rfl
 have hql:(xs.drop (i*6)).length=(n-i)*6:=by rw[yaT,hxl];omega
 have hil:=zmX c0.toList [u0,u1,u2,u3,u4,u5] (xs.drop (i*6)) (i*6) 6 (by rw[hql,hc0s];omega) rfl;simp only at hil;rw[←hc1l]at hil;obtain⟨hi1,hi2,hi3⟩:=hil;have hgW2:((w.drew.alloc (.cells c0 59)).setRow w.heap.size c1).drew.heap[g]?=some (.cells cur 59):=(setRow_other _ _ _ _ zO).trans hgW;have hhW2:((w.drew.alloc (.cells c0 59)).setRow w.heap.size c1).drew.heap[w.heap.size]?=some (.cells c1 59):=setRow_heap _ _ _ _ _ _ hhW;obtain⟨c2,hc2⟩:∃ c2:Array Value,(c1.toList.take ((i+1)*6)++xs.drop (i*6)++c1.toList.drop ((i+1)*6+(xs.drop (i*6)).length)).toArray=c2:=⟨_,rfl⟩;have hcpB:∀ ty o dL dC s sL sC,o=(i+1)*6→s=i*6→Nat.min sL dL=n-i→(Builtin.copy_ #[142,142] ty #[.slice (some ⟨w,o,none⟩) dL dC,.slice (some ⟨g,s,none⟩) sL sC]).run prog ((w.drew.alloc (.cells c0 59)).setRow w.heap.size c1).drew=.ok (goInt ((n-i:Nat):Int)) (((w.drew.alloc (.cells c0 59)).setRow w.heap.size c1).drew.setRow w.heap.size c2):=by
  rintro ty o dL dC s sL sC rfl rfl hm;rw[←hc2];exact zcN _ 142 142 ty 59 w.heap.size ((i+1)*6) dL dC ⟨g,i*6,none⟩ sL sC 6 (n-i) c1 59 (xs.drop (i*6)) underlying142 sz71 hhW2 hm hql (hsrc (i*6) _ hgW2) (by rw[hql,←yaY,hi3,hc0s];omega) (fun u hu=>hx1 u (ybV hu))
 have HP:Hid (zez B (.slice (some ⟨g,0,none⟩) n n) n (xs.take (i*6)++[u0,u1,u2,u3,u4,u5]++xs.drop (i*6)) w (.returned (.slice (some ⟨w,0,none⟩) (n+1) G)) (((w.drew.alloc (.cells c0 59)).setRow w.heap.size c1).drew.setRow w.heap.size c2)):=zac (by
  refine⟨_,rfl,⟨?_,.inr ⟨w,G,c2,rfl,hB,setRow_heap _ _ _ _ _ _ hhW2,hge,hGm,?_,?_⟩⟩,?_,.inr (fun k hk=>by simp[Value.ownBlock]at hk;omega)⟩
  ·simp only[yak,yaL,yaT,yaq,yaB,hxl];omega
  ·rw[←yaY,←hc2,←hc0s,show(i+1)*6=i*6+6 by omega]
   exact hi2
  ·rw[←hc2,show(i+1)*6=i*6+6 by omega,show(n+1)*6=i*6+6+(xs.drop (i*6)).length by rw[hql];omega]
   simp only[List.toList_toArray];rw[hi1,hc0l,ycq (by rw[yaL,hxl];omega)]
  ·refine⟨rfl,rfl,rfl,zS,fun k hk _=>?_⟩
   have hk':k≠w.heap.size:=by omega
   rw[setRow_other _ _ _ _ hk'];show((w.drew.alloc (.cells c0 59)).setRow w.heap.size c1).heap[k]?=_;rw[setRow_other _ _ _ _ hk',heap_alloc,yad (by show ¬k=w.heap.size;omega)];rfl)
 have HAP:=zac hap;have HCA:Hid (∀ ty dL dC sL sC,Nat.min sL dL=1→(Builtin.copy_ #[142,142] ty #[.slice (some ⟨w,i*6,none⟩) dL dC,.slice (some ⟨ab,0,none⟩) sL sC]).run prog ((w.alloc (.cells c0 59)).drew)=.ok (goInt ((1:Nat):Int)) (((w.alloc (.cells c0 59)).drew).setRow w.heap.size c1)):=zac hcpA;have HCB:Hid (∀ ty o dL dC s sL sC,o=(i+1)*6→s=i*6→Nat.min sL dL=n-i→(Builtin.copy_ #[142,142] ty #[.slice (some ⟨w,o,none⟩) dL dC,.slice (some ⟨g,s,none⟩) sL sC]).run prog (((w.alloc (.cells c0 59)).drew).setRow w.heap.size c1).drew=.ok (goInt ((n-i:Nat):Int)) ((((w.alloc (.cells c0 59)).drew).setRow w.heap.size c1).drew.setRow w.heap.size c2)):=zac hcpB;have hGi:¬(G=i):=by omega
 have hGi1:¬(G=i+1):=by omega
 have hni:¬(n=i):=by omega
 have hGb:G≤9223372036854775807:=by simpa[maxLen]using hGm
 have hgb:w.heap.size≠g:=by omega
 clear hap hcpA hcpB hc0 hc0l hc0s hgW haW hhW hc1 hc1l hql hi1 hi2 hi3 hgW2 hhW2 hc2 hsrc hzs hzl hG hxs hxl hcur htake hg hab h1 hx1 hi0 hz0 hz1 hz2 hGm;go_enter func178,ntmps178;go_wp2_with (at_builtin;refine Go.Lib.wpList_append_run _ rfl _ _ 142 3 rfl _ _ rfl rfl _ _ (HAP.out _) ?_);rw[HCA.out 3 (n+1-i) (G-i) 1 1 (by simp only[Nat.min_def];split <;> omega)];have hw1:IntKind.i64.wrap ((i:Int)+1)=(i:Int)+1:=by rw[ybm];omega
 have hb1:(0:Int)≤(i:Int)+1:=by omega
 have htn:((i:Int)+1).toNat=i+1:=by omega
 have hb3:(i:Int)+1≤(n:Int)+1:=by omega
 have hb5:(i:Int)≤(n:Int):=by omega
 go_wp2;go_region_law (refine zg4 rfl (.tmp 50) (.tmp 53) 142 142 rfl (.slice (some ⟨w,(i+1)*6,none⟩) (n+1-(i+1)) (G-(i+1))) (.slice (some ⟨g,i*6,none⟩) (n-i) (n-i)) zM zM (HCB.out 3 _ _ _ _ _ _ rfl rfl (by simp only[Nat.min_def];split <;> omega)) ?_)
 all_goals
  go_wp2;go_ret;exact HP.out
theorem zlk (B:Nat) (v0:Value) (n i:Nat) (xs:List Value) (u0 u1 u2 u3 u4 u5:Value) (ab:Nat) (w:World) (hB:B≤w.heap.size) (hown:w.ownsRow B 59 6 v0 n xs) (hi:i≤n) (hn:n≤1000000)
  (hab:w.heap[ab]?=some (.cells #[u0,u1,u2,u3,u4,u5] 59)) (hne:v0.ownBlock≠some ab) (h1:∀ u∈[u0,u1,u2,u3,u4,u5],u.oneCell'=true) (hx1:∀ u∈xs,u.oneCell'=true):
  Calls prog 178 #[v0,i,.slice (some ⟨ab,0,none⟩) 1 1] w (zez B v0 n (xs.take (i*6)++[u0,u1,u2,u3,u4,u5]++xs.drop (i*6)) w):=by
 by_cases hin:i=n
 ·subst hin
  have hl:=hown.1;rw[yb6 zO,List.drop_eq_nil_of_le zO,ybM];exact zlj B v0 i xs u0 u1 u2 u3 u4 u5 ab w hB hown hn hab h1
 ·have hlt:i<n:=by omega
  obtain⟨hl,hh|⟨g,cap,cur,rfl,hBg,hg,hc,hm,hsz,ht⟩⟩:=hown
  ·omega
  ·have hne':ab≠g:=fun e=>hne (by rw[e];rfl)
   by_cases hr:n+1≤cap
   ·exact zjI B g n i cap cur xs u0 u1 u2 u3 u4 u5 ab w hg hBg hsz ht hlt hr (by simpa[maxLen]using hm) hab hne' h1 hx1
   ·obtain rfl:cap=n:=by omega
    exact zjJ B g cap i cur xs u0 u1 u2 u3 u4 u5 ab w hg hB hsz ht hlt hn hab h1 hx1
end Go.Proofs.YtbopfhbeegkkaabGreatDoor
