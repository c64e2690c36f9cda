/- Part 12 of a proof: lemmas and contracts that other parts use. -/
import Derived.Test.YtbopfhbeegkkaabGreatDoorWp5
import Derived.Test.YtbopfhbeegkkaabGreatDoorWp11
import Derived.RegionTactic
import Derived.Test.YtbopfhbeegkkaabGreatDoorWp8
import Derived.Lib.AppendZeros
import Derived.Deep.RegionHeld3
set_option linter.unusedVariables false
set_option linter.unusedSimpArgs false
set_option maxHeartbeats 16000000
set_option maxRecDepth 20000
namespace Go.Proofs.YtbopfhbeegkkaabGreatDoor
open Go.RowKit Go.Proofs.Tryz
def lastW:List WrP→Int→Option WrP
 | [],_=>none
 | x::l,k=>match lastW l k with
   | some y=>some y
   | none=>if x.key=k then some x else none
theorem zeQ (k:Int) (x:WrP):∀ l,lastW (l++[x]) k=if x.key=k then some x else lastW l k
 | []=>by simp[lastW]
 | y::l=>by
   have e:lastW (y::(l++[x])) k=match lastW (l++[x]) k with
    | some z=>some z
    | none=>if y.key=k then some y else none:=rfl
   have e2:lastW (y::l) k=match lastW l k with
    | some z=>some z
    | none=>if y.key=k then some y else none:=rfl
   rw[ybI,e,e2,zeQ k x l];by_cases hx:x.key=k
   ·rw[yaj hx,yaj hx]
   ·rw[yad hx,yad hx]
theorem zli {l:List WrP}{j:Nat}{x:WrP}(h:l[j]?=some x) (k:Int):lastW (l.take (j+1)) k=if x.key=k then some x else lastW (l.take j) k:=by
 rw[ycd,h];exact zeQ k x _
theorem ziT {k:Int}:∀ {l:List WrP}{x:WrP},lastW l k=some x→x.key=k
 | y::l,x,h=>by
   unfold lastW at h;split at h
   ·rename_i z hz
    cases h;exact ziT hz
   ·split at h
    ·cases h;assumption
    ·cases h
theorem zjz (v:Nat) (A:Option Addr) (c:Nat) (W:List WrP) (key:Int) (w:World) (hc:w.cell? ⟨v,9,none⟩=some (.slice A W.length c)) (hv:v<w.heap.size) (hW:zaN w A W) (hn:W.length≤100000):
  Calls prog 95 #[.pointer (some ⟨v,0,none⟩),key] w fun e w'=>e=.returned (.tuple #[((lastW W key).getD wrZ).val,.bool (lastW W key).isSome])∧Below w w w':=by
 have hb0:Below w w (w.alloc (.cells #[ii 0,.string ⟨#[]⟩,.bool false] 83)):=zal (yaf _ _);have HB0:=zac hb0;have HC:=zac ((hb0.cell (p:=⟨v,9,none⟩) hv).trans hc);have HW:=zac (hW.below hb0);have HBX:=zac (show(w.alloc (.cells #[ii 0,.string ⟨#[]⟩,.bool false] 83)).heap[w.heap.size]?=some (.cells #[ii 0,.string ⟨#[]⟩,.bool false] 83)from zag rfl _);obtain⟨R,hR⟩:∃ R,lastW W key=R:=⟨_,rfl⟩;have HR:=zac hR;rw[hR];have HV:=zac hv;haveI:zaj (v+1) w:=⟨hv⟩;clear hb0 hW hR hv;go_enter func95,ntmps95;go_wp2_with fail;have HZ:=zac HB0.out.size;clear hc;generalize w.alloc (.cells #[ii 0,.string ⟨#[]⟩,.bool false] 83)=W0 at *;go_loopw [6] (fun i wr=>∃ j:Nat,i=ii ((j:Int)-1)∧j≤W.length∧lastW (W.take j) key=R∧Below W0 W0 wr) (fun i _=>(intOf i+1).toNat)
 case atStart=>exact⟨W.length,by first|rfl|go_num,yai _,by rw[ybD];exact HR.out,yaf _ _⟩
 case round=>
  obtain⟨j,rfl,hj,hlast,hbj⟩:=hrel;have HBJ:=zac hbj;have HLS:=zac hlast;have c9:=(hbj.cell (p:=⟨v,9,none⟩) (by have:=HZ.out;have:=HV.out;show v<W0.heap.size;omega)).trans HC.out;have HWJ:=zac (HW.out.below hbj);have hbx:=(hbj.block _ (zae HBX.out)).trans HBX.out;have f0:=zaa hbx 0;have f1:=zaa hbx 1;have f2:=zaa hbx 2;simp only[zC,zD,zE]at f0 f1 f2;have z0:=zab hbx 0;have z1:=zab hbx 1;have z2:=zab hbx 2;haveI:zaj (v+1) wr:=⟨by have:=HZ.out;have:=HV.out;have:=hbj.size;omega⟩;haveI:zaj (w.heap.size+1) wr:=⟨zae hbx⟩;clear hbj hlast hbx;by_cases h0:0<j
  ·obtain⟨i,rfl⟩:∃ i,j=i+1:=⟨j-1,zO⟩
   have hji:((i+1:Nat):Int)-1=(i:Int):=by omega
   rw[hji];have hd:decide (0≤(i:Int))=true:=zT;have hil:i<W.length:=by omega
   have hi0:(0:Int)≤(i:Int):=by omega
   have hiW:(i:Int)<(W.length:Int):=by omega
   have hx:W[i]?=some W[i]:=yaa hil;have HT:=zac (zli hx key);obtain⟨gb,go,rfl,hgb,k0,k1,k2⟩:=HWJ.out i _ hx;clear hx hji;generalize W[i]=x at *;obtain⟨xk,xd,xg⟩:=x;simp only at k0 k1 k2 HT;haveI:zaj (gb+1) wr:=⟨hgb⟩;by_cases hk:xk=key
   ·have hd1:(xk==key)=true:=by simp[hk]
    have HE:Hid (R=some ⟨xk,xd,xg⟩):=zac (by rw[←HLS.out,HT.out,yaj hk]);clear hk;go_wp2_with fail;obtain rfl:=HE.out;have HBW:Below w w wr:=HB0.out.trans (HBJ.out.mono HZ.out);refine yag (v:=.tuple #[WrP.val ⟨xk,xd,xg⟩,.bool true]) ?_ rfl ⟨rfl,?_⟩
    ·simp[results,results95,go_sem,WrP.val, *]
    ·exact((HBW.setCell (p:=⟨w,0,none⟩) (yai _) _).setCell (p:=⟨w,1,none⟩) (yai _) _).setCell (p:=⟨w,2,none⟩) (yai _) _
   ·have hd1:(xk==key)=false:=by simpa using hk
    have HE:Hid (lastW (W.take i) key=R):=zac (by rw[←HLS.out,HT.out,yad hk]);clear hk;go_wp2_with fail;go_roundw
    case rel=>exact⟨i,(by first|rfl|go_num),zO,HE.out,HBJ.out.trans (yaH (B:=wr.heap.size) zB HBJ.out.size)⟩
    case measure=>simp[intOf] <;> omega
  ·obtain rfl:j=0:=by omega
   have hd:decide (0≤(((0:Nat):Int)-1))=false:=by decide
   have HE:Hid (R=none):=zac (by rw[←HLS.out];rfl);go_wp2_with fail;obtain rfl:=HE.out;have HBW:Below w w wr:=HB0.out.trans (HBJ.out.mono HZ.out);refine yag (v:=.tuple #[WrP.val wrZ,.bool false]) ?_ rfl ⟨rfl,?_⟩
   ·simp[results,results95,go_sem,WrP.val,wrZ, *]
   ·first
     | exact((HBW.setCell (p:=⟨w,0,none⟩) (yai _) _).setCell (p:=⟨w,1,none⟩) (yai _) _).setCell (p:=⟨w,2,none⟩) (yai _) _
     | exact HBW
def wcs (w:WrP):List Value:=[ii w.key,.string w.data,.bool w.gone]
theorem zlJ (l:List WrP):(l.flatMap wcs).length=l.length*3:=by
 induction l with
 | nil=>rfl
 | cons x l ih=>rw[yaN,yak,ih,yaq];simp[wcs];omega
theorem wcs_one (L:List WrP):∀ u∈L.flatMap wcs,u.oneCell'=true:=by
 intro u hu;obtain⟨m,_,hm⟩:=yb2.1 hu;simp[wcs]at hm;rcases hm with rfl|rfl|rfl <;> rfl
theorem wcs_at:∀ (l:List WrP) (i:Nat) (m:WrP),l[i]?=some m→∀ r u,(wcs m)[r]?=some u→(l.flatMap wcs)[i*3+r]?=some u
 | [],i,m,h,_,_,_=>by simp at h
 | y::l,0,m,h,r,u,hu=>by
   simp at h;subst h;have hr:r<3:=by have:=(yao.1 hu).1;simpa[wcs]using this
   rw[yaN,yaX (by simp[wcs];omega)];simpa using hu
 | y::l,i+1,m,h,r,u,hu=>by
   have:=wcs_at l i m (by simpa using h) r u hu;rw[yaN,yaC (by simp[wcs];omega),←this];congr 1;simp[wcs];omega
theorem zjy {w:World}{B c:Nat}{A:Option Addr}{l:List WrP}(h:w.ownsRow B 83 3 (.slice A l.length c) l.length (l.flatMap wcs)):zaN w A l:=by
 intro i m hm;obtain⟨hl,hn|⟨g,cap,cur,hv,hb,hg,rest⟩⟩:=id h
 ·have:l=[]:=yan hn.2
  subst this;simp at hm
 ·simp only[yaP]at hv
  obtain⟨rfl,_,rfl⟩:=hv;have hc:=h.cells (g:=g) rfl;have e:∀ j:Nat,(⟨g,0,none⟩:Addr).add j=⟨g,0+j,none⟩:=fun j=>by unfold Addr.add;split <;> simp_all
  have k:∀ r u,(wcs m)[r]?=some u→w.cell? ⟨g,0+(i*3+r),none⟩=some u:=fun r u hu=>by
   have:=hc _ _ (wcs_at l i m hm r u hu);rw[e]at this;exact this
  have q:∀ r,0+(i*3+r)=0+i*3+r:=fun r=>by omega
  exact⟨g,0,rfl,(yaV.1 hg).1,by have:=k 0 _ rfl;rw[q]at this;exact this,by have:=k 1 _ rfl;rw[q]at this;exact this,by have:=k 2 _ rfl;rw[q]at this;exact this⟩
theorem zlH {w:World}{A:Option Addr}{L:List WrP}(h:zaN w A L) (hL:0<L.length):∃ b o,A=some ⟨b,o,none⟩∧b<w.heap.size∧∀ (j:Nat) (u:Value),(L.flatMap wcs)[j]?=some u→w.cell? ⟨b,o+j,none⟩=some u:=by
 obtain⟨b,o,hA,hb,_⟩:=h 0 L[0] (yaa hL);refine⟨b,o,hA,hb,fun j u hu=>?_⟩;have hj:j<L.length*3:=by
  have:=(yao.1 hu).1;rwa[zlJ]at this
 have hi:j / 3<L.length:=by omega
 obtain⟨b',o',hA',_,h0,h1,h2⟩:=h (j / 3) L[j / 3] (yaa hi);rw[hA]at hA';simp only[yaz,yaU]at hA';obtain⟨rfl,rfl,_⟩:=hA';have hm:L[j / 3]?=some L[j / 3]:=yaa hi;have key:∀ r v,(wcs (L[j / 3]))[r]?=some v→j % 3=r→w.cell? ⟨b,o+j / 3*3+r,none⟩=some v→w.cell? ⟨b,o+j,none⟩=some u:=by
  intro r v hv hr hc;have h9:=wcs_at L (j / 3) _ hm r v hv;have e:j / 3*3+r=j:=by omega
  rw[e,hu]at h9;have e2:o+j / 3*3+r=o+j:=by omega
  rw[e2]at hc;rw[hc];exact h9.symm
 have hr:j % 3=0∨j % 3=1∨j % 3=2:=by omega
 rcases hr with hr|hr|hr
 ·exact key 0 _ rfl hr h0
 ·exact key 1 _ rfl hr h1
 ·exact key 2 _ rfl hr h2
theorem zhJ (w:World) (ty:TypeId) (base:Nat) (v:Value) (n:Nat) (xs:List Value) (hown:w.ownsRow base 83 3 v n xs) (A:Option Addr) (c:Nat) (L:List WrP) (hx:zaN w A L) (hn:n+L.length≤1000) (hbase:base≤w.heap.size):
  ∃ v' w',(Builtin.append_ #[42,42] ty #[v,.slice A L.length c]).run prog w=.ok v' w'∧w'.ownsRow base 83 3 v' (n+L.length) (xs++L.flatMap wcs)∧w.grownBy w' v.ownBlock∧(v'.ownBlock=v.ownBlock∨v'.ownBlock=some w.heap.size):=by
 obtain⟨i0,hi0,hz0,hz1,hz2⟩:=info115;have h63:n+L.length≤maxLen:=yac hn (yac zI maxLen_ge);rcases A with _|ad
 ·have hL:L=[]:=by
   rcases ybB L.length with h|h
   ·exact yan h
   ·obtain⟨b,o,e,_⟩:=zlH hx h;cases e
  subst hL;refine⟨v,w,?_,by simpa using hown,ycm w _,.inl rfl⟩;rcases hown.2 with ⟨rfl,rfl⟩|⟨g,cap,cur,rfl,_,_,hnc,_⟩
  ·simp[Builtin.append_,ybz underlying42,sizeOf,typeInfo,hi0,Builtin.lenOf,Builtin.firstCells]
  ·simp[Builtin.append_,ybz underlying42,sizeOf,typeInfo,hi0,Builtin.lenOf,Builtin.firstCells,hnc,storeCells]
 ·have hc:∀ j u,(L.flatMap wcs)[j]?=some u→w.cell? (ad.add j)=some u:=by
   intro j u hu;rcases ybB L.length with h|h
   ·rw[yan h]at hu;simp at hu
   ·obtain⟨b,o,e,_,hc⟩:=zlH hx h
    obtain rfl:ad=⟨b,o,none⟩:=by simpa using e
    have e2:(⟨b,o,none⟩:Addr).add j=⟨b,o+j,none⟩:=by unfold Addr.add;split <;> simp_all
    rw[e2];exact hc j u hu
  obtain⟨v',w',hrun,h2,h3,_,h5⟩:=run_append_own_at (P:=prog) w base 42 ty 83 i0 (.agg #[ii 0,.string ⟨#[]⟩,.bool false]) 3 32 underlying42 hi0 hz0 hz1 hz2 rfl zI v n xs hown ad L.length c _ (zlJ L) hc (wcs_one L) h63 zO hbase;exact⟨v',w',hrun,h2,h3,h5⟩
theorem zfm (w:World){o:Oper}{a:Act}{K:Act→World→Prop}{Q:Exit→Act→World→Prop}(s x:Operand)
  (ho:o.op=.call { callee:=.builtin .append,args:=#[s,x],argTypes:=#[42,42] }) (base:Nat) (v:Value) (n:Nat) (L0:List WrP) (hs:a.eval s=v) (hown:w.ownsRow base 83 3 v n (L0.flatMap wcs)) (A:Option Addr) (c:Nat) (L:List WrP) (hx:a.eval x=.slice A L.length c)
  (hxs:zaN w A L) (hn:n+L.length≤1000) (hbase:base≤w.heap.size) (hn0:n=L0.length)
  (h:∀ A' c' w',w'.ownsRow base 83 3 (.slice A' (L0++L).length c') (L0++L).length ((L0++L).flatMap wcs)→w.grownBy w' v.ownBlock→((Value.slice A' (L0++L).length c').ownBlock=v.ownBlock∨(Value.slice A' (L0++L).length c').ownBlock=some w.heap.size)→K (a.put o.dst (.slice A' (L0++L).length c')) w'):
  Oper.wp prog o a w K Q:=by
 obtain⟨v',w',hrun,h2,h3,h4⟩:=zhJ w o.type base v n (L0.flatMap wcs) hown A c L hxs hn hbase;have e:n+L.length=(L0++L).length:=by rw[hn0,yak]
 rw[e,←yaJ]at h2;obtain⟨A',c',rfl⟩:=zaP h2;unfold Oper.wp execOp;simp only[ho,resolve,invoke,builtin,ybJ,yb9,ybg,ybP,ybn,ybL,hs,hx,hrun];exact h A' c' w' h2 h3 h4
theorem zdA (w:World){ops:Array Oper}{rest:List Oper}{o:Oper}{a:Act}{Q:Exit→Act→World→Prop}(hgd:o.guard=none) (s x:Operand)
  (ho:o.op=.call { callee:=.builtin .append,args:=#[s,x],argTypes:=#[42,42] }) (base:Nat) (v:Value) (n:Nat) (L0:List WrP) (hs:a.eval s=v) (hown:w.ownsRow base 83 3 v n (L0.flatMap wcs)) (A:Option Addr) (c:Nat) (L:List WrP) (hx:a.eval x=.slice A L.length c)
  (hxs:zaN w A L) (hn:n+L.length≤1000) (hbase:base≤w.heap.size) (hn0:n=L0.length)
  (h:∀ A' c' w',w'.ownsRow base 83 3 (.slice A' (L0++L).length c') (L0++L).length ((L0++L).flatMap wcs)→w.grownBy w' v.ownBlock→((Value.slice A' (L0++L).length c').ownBlock=v.ownBlock∨(Value.slice A' (L0++L).length c').ownBlock=some w.heap.size)→wpList prog ops Q rest (a.put o.dst (.slice A' (L0++L).length c')) w'):
  wpList prog ops Q (o::rest) a w:=
 wpList_plain hgd fun _ hK=>zfm w s x ho base v n L0 hs hown A c L hx hxs hn hbase hn0 fun A' c' w' h2 h3 h4=>hK _ _ (h A' c' w' h2 h3 h4)
theorem zed (w:World){ops:Array Oper}{o:Oper}{a:Act}{K:Act→World→Prop}{Q:Exit→Act→World→Prop}{E:Prop}(hgd:o.guard=none) (s x:Operand)
  (ho:o.op=.call { callee:=.builtin .append,args:=#[s,x],argTypes:=#[42,42] }) (base:Nat) (v:Value) (n:Nat) (L0:List WrP) (hs:a.eval s=v) (hown:w.ownsRow base 83 3 v n (L0.flatMap wcs)) (A:Option Addr) (c:Nat) (L:List WrP) (hx:a.eval x=.slice A L.length c)
  (hxs:zaN w A L) (hn:n+L.length≤1000) (hbase:base≤w.heap.size) (hn0:n=L0.length)
  (h:∀ A' c' w',w'.ownsRow base 83 3 (.slice A' (L0++L).length c') (L0++L).length ((L0++L).flatMap wcs)→w.grownBy w' v.ownBlock→((Value.slice A' (L0++L).length c').ownBlock=v.ownBlock∨(Value.slice A' (L0++L).length c').ownBlock=some w.heap.size)→K (a.put o.dst (.slice A' (L0++L).length c')) w'):
  if Region.wanted o (yielded ops a.tmps)=true then Oper.wp prog o a w K Q else E:=by
 have hw:Region.wanted o (yielded ops a.tmps)=true:=by simp[Region.wanted,hgd]
 rw[yaj hw];exact zfm w s x ho base v n L0 hs hown A c L hx hxs hn hbase hn0 h
theorem zj6 {w:World}{q:Nat}{m:WrP}{t:TypeId}(h:w.heap[q]?=some (.cells #[m.key,.string m.data,.bool m.gone] t)):zaN w (some ⟨q,0,none⟩) [m]:=by
 intro i x hx;have hi:i=0:=by
  have:=(yao.1 hx).1;simp at this;exact this
 subst hi;obtain rfl:m=x:=by simpa using hx
 exact⟨q,0,rfl,zae h,zaa h 0,zaa h 1,zaa h 2⟩
def zdJ (W:List WrP) (k:Nat):List WrP:=(List.range k).filterMap fun(i:Nat)=>lastW W (i:Int)
theorem zgF (W:List WrP) (k:Nat):zdJ W (k+1)=zdJ W k++(match lastW W (k:Int)with|some x=>[x]|none=>[]):=by
 unfold zdJ;rw[ycn,List.filterMap_append];cases h:lastW W (k:Int) <;> simp[h]
theorem zd8 (W:List WrP) (k:Nat):(zdJ W k).length≤k:=by
 unfold zdJ;refine yac (ybW _ _) ?_;simp
theorem zia (v:Nat) (A:Option Addr) (c:Nat) (W:List WrP) (w:World) (hc:w.cell? ⟨v,9,none⟩=some (.slice A W.length c)) (hv:v<w.heap.size) (hW:zaN w A W) (hn:W.length≤100000):
  Calls prog 97 #[.pointer (some ⟨v,0,none⟩)] w fun e w'=>∃ A' c',e=.returned (.slice A' (zdJ W 8).length c')∧w'.ownsRow w.heap.size 83 3 (.slice A' (zdJ W 8).length c') (zdJ W 8).length ((zdJ W 8).flatMap wcs)∧Below w w w':=by
 have HC:=zac hc;have HV:=zac hv;have HW:=zac hW;have HOWN:=zac fun(W1:World) (key:Int) (hB:Below w w W1)=>zjz v A c W key W1 ((hB.cell (p:=⟨v,9,none⟩) HV.out).trans HC.out) (yab HV.out hB.size) (HW.out.below hB) hn
 unfold WrP.val at HOWN;clear hc hv hW;go_enter func97,ntmps97;go_wp2_with fail;go_loopw [3,7] (fun o i X=>∃ (k:Nat) (Ao:Option Addr) (co:Nat),k≤8∧i=ii k∧o=.slice Ao (zdJ W k).length co∧X.ownsRow w.heap.size 83 3 (.slice Ao (zdJ W k).length co) (zdJ W k).length ((zdJ W k).flatMap wcs)∧Below w w X) (fun _ i _=>8-(intOf i).toNat)
 case atStart=>exact⟨0,none,0,zO,rfl,rfl,⟨rfl,.inl ⟨rfl,rfl⟩⟩,yaf _ _⟩
 case round=>
  obtain⟨k,Ao,co,hk,rfl,rfl,hown,hbl⟩:=hrel;obtain⟨X,rfl⟩:∃ X:World,X=wr:=⟨_,rfl⟩;have HOW:=zac hown;have HBW:=zac hbl;have hol:=zd8 W k;have HSC:=zac (zgF W k);clear hown hbl;generalize hO:zdJ W k=outs at *;have HOE:=zac hO;clear hO;by_cases hk8:k<8
  ·have hd:decide ((k:Int)<8)=true:=zT
   go_wp2_with fail;go_at_call 95;refine(HOWN.out X (k:Int) HBW.out).mono ?_;rintro e w5 ⟨rfl,hb5⟩;have HB5:=zac (HBW.out.trans (hb5.mono HBW.out.size));have HO5:=zac (zaF HOW.out hb5 (fun j e=>(zao HOW.out e).2));clear hb5;have hs5:=HB5.out.size;cases hl:lastW W (k:Int)with
   | none=>
     have HS1:Hid (zdJ W (k+1)=outs):=zac (by rw[HSC.out,hl];simp);clear hl;simp only[ybQ,ybF,wrZ];go_wp2_with fail;go_roundw
     case rel=>exact⟨k+1,Ao,co,zO,by go_num,by rw[HS1.out],by rw[HS1.out];exact HO5.out.alloc _,HB5.out.trans (yaH (B:=w5.heap.size) zB HB5.out.size)⟩
     case measure=>simp[intOf] <;> omega
   | some m=>
     have HS1:Hid (zdJ W (k+1)=outs++[m]):=zac (by rw[HSC.out,hl]);clear hl;obtain⟨mk,md,mg⟩:=m;simp only[yb3,ybT];go_wp2_with (at_builtin;go_must (refine zdA _ rfl (.tmp 17) (.tmp 19) rfl w.heap.size (.slice Ao outs.length co) outs.length outs rfl ((HO5.out.alloc _).alloc _) (some ⟨w5.heap.size+1,0,none⟩) 1 [⟨mk,md,mg⟩] ?c1 (zj6 (m:=⟨mk,md,mg⟩) (zag zS _)) ?c2 ?c3 rfl ?_))
     case c1=>first|rfl|simp[Act.eval,Act.put]
     case c2=>show outs.length+1≤1000;omega
     case c3=>first|omega|(simp;omega)
     intro A6 c6 w6 hown6 hgrow6 hat6;have HN6:=zac hown6;have HB6:Hid (Below w w w6):=zac (yaE HB5.out (zau (zau hgrow6)) HB5.out.size (fun j e=>(zao HOW.out e).1));clear hown6 hgrow6 hat6;go_wp2_with fail;go_roundw
     case rel=>exact⟨k+1,A6,c6,zO,by go_num,by rw[HS1.out] <;> simp,by rw[HS1.out];have h1:=HN6.out;simpa[yaJ]using h1,HB6.out⟩
     case measure=>simp[intOf] <;> omega
  ·obtain rfl:k=8:=by omega
   have hd:decide (((8:Nat):Int)<8)=false:=by decide
   go_wp2_with fail;go_ret;rw[HOE.out];exact⟨Ao,co,rfl,HOW.out,HBW.out⟩
def zbE (s:RsP) (m:MTx):RsP:=
 { (if 0<zc1 m.t.wall m.t.count s.lw s.lc then ((({ s with L:=zeI s.L m.t m.t.ws.length }:RsP).setc (1+m.t.site.toNat) m.t.seq).setc 5 m.t.wall).setc 6 m.t.count
    else (({ s with L:=zeI s.L m.t m.t.ws.length }:RsP).setc (1+m.t.site.toNat) m.t.seq))with log:=s.log++[m] }
theorem rPut_len (L:List PtP) (k:Int) (v:zaE):(zgP L k v).2.length≤L.length+1:=by
 unfold zgP
 repeat' split
 all_goals simp
theorem zga (L:List PtP) (t:TxP):∀ j,(zeI L t j).length≤L.length+j
 | 0=>yai _
 | j+1=>by
   have h1:=zga L t j;have h2:=rPut_len (zeI L t j) (t.ws.getD j default).key (verOf t (t.ws.getD j default));show(zgP _ _ _).2.length≤_;omega
theorem zeW (s:RsP) (m:MTx) (hs:0≤m.t.site∧m.t.site<4):(zbE s m).r=zcc s.r m.t:=by
 have hc:m.t.site=0∨m.t.site=1∨m.t.site=2∨m.t.site=3:=by omega
 unfold zbE zcc RsP.r;by_cases h:0<zc1 m.t.wall m.t.count s.lw s.lc
 ·simp only[h,ybk,RsP.setc]
  rcases hc with hc|hc|hc|hc <;> simp[hc] <;> (funext k;omega)
 ·simp only[h,ybf,RsP.setc]
  rcases hc with hc|hc|hc|hc <;> simp[hc] <;> (funext k;omega)
theorem zfp (B y wc:Nat) (s:RsP) (lv av:Value) (wA:Option Addr) (m:MTx) (w:World) (h:zcp w B y s lv wA wc av)
  (hm:zaN w m.A m.t.ws∧∀ b o,m.A=some ⟨b,o,none⟩→b<w.heap.size∧¬za2 y lv av b) (hsite:0≤m.t.site∧m.t.site<4) (hN:s.L.length≤800000) (hl:s.log.length≤100000) (hw:m.t.ws.length≤1000):
  Calls prog 75 #[.pointer (some ⟨y,0,none⟩),MTx.val m] w fun e w'=>e=.returned (.tuple #[])∧∃ lv' av',zcp w' B y (zbE s m) lv' wA wc av'∧zaO w w' (za2 y lv av) (za2 y lv' av'):=by
 obtain⟨⟨site,seq,wall,count,d0,d1,d2,d3,ws⟩,A,c⟩:=m;obtain⟨Al,cl,rfl⟩:=zaP h.row;simp only at hm hsite hw;obtain⟨st,rfl⟩:=yar hsite.1;have hst4:st<4:=by omega
 have hBw:Below w w (w.alloc (.cells #[(st:Int),seq,wall,count,d0,d1,d2,d3,.slice A ws.length c] 44)):=zal (yaf _ _);have HS0:=zac (h.below hBw);have HFR0:=zac (zaO.of_below (za2 y (.slice Al s.log.length cl) av) hBw);have HM0:=zac (show zaN (w.alloc (.cells #[(st:Int),seq,wall,count,d0,d1,d2,d3,.slice A ws.length c] 44)) A ws∧∀ b o,A=some ⟨b,o,none⟩→b<(w.alloc (.cells #[(st:Int),seq,wall,count,d0,d1,d2,d3,.slice A ws.length c] 44)).heap.size∧¬za2 y (.slice Al s.log.length cl) av b from ⟨hm.1.below hBw,fun b o e=>⟨yab (hm.2 b o e).1 hBw.size,(hm.2 b o e).2⟩⟩);have HBX:=zac (show(w.alloc (.cells #[(st:Int),seq,wall,count,d0,d1,d2,d3,.slice A ws.length c] 44)).heap[w.heap.size]?=some (.cells #[(st:Int),seq,wall,count,d0,d1,d2,d3,.slice A ws.length c] 44)from zag rfl _);have HNO:=zac (show ¬za2 y (.slice Al s.log.length cl) av w.heap.size from fun e=>by have:=(h.lt e).2;omega);have HB:=zac (yac h.bx (ybw h.sto.lt));have HPL:Hid (∀ j,(zeI s.L (⟨(st:Int),seq,wall,count,d0,d1,d2,d3,ws⟩:TxP) j).length≤s.L.length+j):=zac (zga s.L (⟨(st:Int),seq,wall,count,d0,d1,d2,d3,ws⟩:TxP));have hbs:(w.alloc (.cells #[(st:Int),seq,wall,count,d0,d1,d2,d3,.slice A ws.length c] 44)).heap.size=w.heap.size+1:=by simp
 have HSZ:=zac hbs;clear h hm hBw hbs;unfold MTx.val;go_enter func75,ntmps75;go_wp2_with fail;generalize w.alloc (.cells #[(st:Int),seq,wall,count,d0,d1,d2,d3,.slice A ws.length c] 44)=wo at *;go_loopw [9] (fun i wr=>∃ (j:Nat) (av':Value),i=ii j∧j≤ws.length∧zcp wr B y { s with L:=zeI s.L (⟨(st:Int),seq,wall,count,d0,d1,d2,d3,ws⟩:TxP) j } (.slice Al s.log.length cl) wA wc av'∧zaO wo wr (za2 y (.slice Al s.log.length cl) av) (za2 y (.slice Al s.log.length cl) av')) (fun i _=>ws.length-(intOf i).toNat)
 case atStart=>exact⟨0,av,rfl,yay _,HS0.out,zaO.of_below _ (yaf _ _)⟩
 case round=>
  obtain⟨j,av1,rfl,hj,hs,hfr⟩:=hrel;have HS:=zac hs;have HFR:=zac hfr;have hbx:wr.heap[w.heap.size]?=some (.cells #[(st:Int),seq,wall,count,d0,d1,d2,d3,.slice A ws.length c] 44):=(hfr.block _ (zae HBX.out) HNO.out).trans HBX.out;have e0:=zaa hbx 0;have e1:=zaa hbx 1;have e2:=zaa hbx 2;have e3:=zaa hbx 3;have e4:=zaa hbx 4;have e5:=zaa hbx 5;have e6:=zaa hbx 6;have e7:=zaa hbx 7;have e8:=zaa hbx 8;simp only[zC,zD,zE]at e0 e1 e2 e3 e4 e5 e6 e7 e8;haveI:zaj (w.heap.size+1) wr:=⟨zae hbx⟩;have hszr:=hfr.size;clear hs hfr hbx;by_cases hjl:j<ws.length
  ·have hjd:decide ((j:Int)<(ws.length:Int))=true:=zT
   obtain⟨hws,hwo⟩:=HM0.out;obtain⟨b,o,rfl,hb,k0,k1,k2⟩:=hws j ws[j] (yaa hjl);have hgd:ws.getD j default=ws[j]:=by simp[List.getD,yaa hjl]
   have HX:Hid (zeI s.L (⟨(st:Int),seq,wall,count,d0,d1,d2,d3,ws⟩:TxP) (j+1)=(zgP (zeI s.L (⟨(st:Int),seq,wall,count,d0,d1,d2,d3,ws⟩:TxP) j) (ws[j]).key ⟨wall,count,(st:Int),seq,(ws[j]).data,(ws[j]).gone⟩).2):=zac (by
    show(zgP _ (ws.getD j default).key _).2=_;rw[hgd];rfl)
   have hbw:=HFR.out.block b (hwo b o rfl).1 (hwo b o rfl).2;rw[←yam hbw]at k0 k1 k2;haveI:zaj (b+1) wr:=⟨yab (hwo b o rfl).1 hszr⟩;generalize ws[j]=y1 at *;obtain⟨yk,yd,yg⟩:=y1;simp only at k0 k1 k2;simp only at HX;have HPT:=zac fun W (hW:zcp W B y { s with L:=zeI s.L (⟨(st:Int),seq,wall,count,d0,d1,d2,d3,ws⟩:TxP) j } (.slice Al s.log.length cl) wA wc av1)=>rPut_any y 9 B _ av1 yk ⟨wall,count,(st:Int),seq,yd,yg⟩ W hW.sto (yac (HPL.out j) zO) (yac hW.bx (ybw hW.sto.lt))
   clear hws hwo hgd hbw hb;go_wp2_with fail;refine zb9 16 fun x3=>?_
   go_wp2_with fail;have HCU:=zac (HS.out.below (show Below wr wr (zai (wr.alloc (.cells #[yk,.string yd,.bool yg] 83)) x3)from zB));have HFU:=zac (HFR.out.trans (zaO.of_below (za2 y (.slice Al s.log.length cl) av1) (show Below wr wr (zai (wr.alloc (.cells #[yk,.string yd,.bool yg] 83)) x3)from zB)));go_at_call 133;refine(HPT.out _ HCU.out).mono ?_;rintro e w2 ⟨av2,rfl,hst2,hfr2⟩;have HN2:=zac (HCU.out.store hst2 hfr2);clear hst2 hfr2 HPT;go_wp2_with fail;go_roundw
   case rel=>
    refine⟨j+1,av2,by go_num,zO,?_,HFU.out.trans HN2.out.2⟩;rw[HX.out];exact HN2.out.1
   case measure=>simp[intOf];omega
  ·obtain rfl:j=ws.length:=by omega
   have hjd:decide ((ws.length:Int)<(ws.length:Int))=false:=zU;have hyr:=HS.out.sto.lt;haveI:zaj (y+1) wr:=⟨hyr⟩;obtain⟨zu,hzu⟩:∃ zu,wr.cell? ⟨y,1+st,none⟩=some (ii zu):=⟨_,HS.out.apc hst4⟩;have hzf:=HS.out.frz (1+st);have hst0:(0:Int)≤(st:Int):=by omega
   have hst5:(st:Int)<4:=by omega
   go_wp2_with fail;refine zb9 8 fun x3=>?_
   go_wp2_with fail;have HS6:=zac ((HS.out.setc (i:=1+st) (.inl zO) seq).below (zax _ x3));have HF6:=zac ((HFR.out.trans (zaO.setR (i:=1+st) (ii seq))).trans (zaO.of_below (za2 y (.slice Al s.log.length cl) av1) (zax _ x3)));clear e0 e1 e2 e3 e4 e5 e6 e7 e8 hzu hzf;generalize zai (wr.setCell ⟨y,1+st,none⟩ (ii seq)) x3=w6 at *;obtain⟨s6,hs6⟩:∃ s6,RsP.setc ({ s with L:=zeI s.L (⟨(st:Int),seq,wall,count,d0,d1,d2,d3,ws⟩:TxP) ws.length }:RsP) (1+st) seq=s6:=⟨_,rfl⟩;have hlw:s6.lw=s.lw:=by rw[←hs6];simp[RsP.setc];omega
   have hlc:s6.lc=s.lc:=by rw[←hs6];simp[RsP.setc];omega
   have hlg:s6.log=s.log:=by rw[←hs6];rfl
   rw[hs6]at HS6;have HS6E:=zac hs6;have HLG:=zac hlg;have a5:=HS6.out.c5;have a6:=HS6.out.c6;rw[hlw]at a5;rw[hlc]at a6;have g5:=HS6.out.frz 5;have g6:=HS6.out.frz 6;have hx6:=HS6.out.sto.lt;haveI:zaj (y+1) w6:=⟨hx6⟩;clear hs6 hlw hlc hlg;have HCM:=zac fun w=>zfo wall count s.lw s.lc w
   have HAP:=zac (show zbE s (⟨⟨(st:Int),seq,wall,count,d0,d1,d2,d3,ws⟩,A,c⟩:MTx)={ (if 0<zc1 wall count s.lw s.lc then (s6.setc 5 wall).setc 6 count else s6)with log:=s.log++[(⟨⟨(st:Int),seq,wall,count,d0,d1,d2,d3,ws⟩,A,c⟩:MTx)] }from by
    unfold zbE;simp only[ybx];rw[HS6E.out])
   have hbx6:w6.heap[w.heap.size]?=some (.cells #[(st:Int),seq,wall,count,d0,d1,d2,d3,.slice A ws.length c] 44):=(HF6.out.block _ (zae HBX.out) HNO.out).trans HBX.out;have e0:=zaa hbx6 0;have e1:=zaa hbx6 1;have e2:=zaa hbx6 2;have e3:=zaa hbx6 3;have e4:=zaa hbx6 4;have e5:=zaa hbx6 5;have e6:=zaa hbx6 6;have e7:=zaa hbx6 7;have e8:=zaa hbx6 8;simp only[zC,zD,zE]at e0 e1 e2 e3 e4 e5 e6 e7 e8;haveI:zaj (w.heap.size+1) w6:=⟨zae hbx6⟩;clear hbx6;have hM6:∀ {wz:World},zaO wo wz (za2 y (.slice Al s.log.length cl) av) (za2 y (.slice Al s.log.length cl) av1)→Hid (zaN wz A ws∧∀ b o,A=some ⟨b,o,none⟩→b<wz.heap.size∧¬za2 y (.slice Al s.log.length cl) av1 b):=fun {wz} hF=>zac (by
    obtain⟨h1,h2⟩:=HM0.out;have h3:=hF.size;refine⟨h1.keep fun b o e=>hF.block b (h2 b o e).1 (h2 b o e).2,fun b o e=>⟨yab (h2 b o e).1 h3,fun e2=>?_⟩⟩;rcases hF.own b e2 with e3|e3
    ·exact(h2 b o e).2 e3
    ·have:=(h2 b o e).1;omega)
   have HM6:=zac fun wz hF=>@hM6 wz hF
   clear hM6;by_cases hcm:0<zc1 wall count s.lw s.lc
   ·rw[yaj hcm]at HAP
    have hcd:decide (0<zc1 wall count s.lw s.lc)=true:=yae hcm;generalize zc1 wall count s.lw s.lc=cz at *;clear hcm;go_wp2_with fail;refine zaA zK zK ?_
    repeat(first|go_big_quiet_skip|(go_big_quiet_want;go_big_quiet_op;first|go_big_quiet_on|(apply Exists.intro;refine⟨fun _=>?_,?_⟩;(go_at_call 134;exact Calls.plus_of (HCM.out _));go_big_quiet_on)))
    refine yaM ?_;rintro _ ⟨x4,rfl⟩;go_wp2_with fail;have HS7:=zac ((((HS6.out).setc (i:=5) (.inl zO) wall).setc (i:=6) (.inl zO) count).below (zax _ x4));have HF7:=zac (((HF6.out.trans (zaO.setR (i:=5) (ii wall))).trans (zaO.setR (i:=6) (ii count))).trans (zaO.of_below (za2 y (.slice Al s.log.length cl) av1) (zax _ x4)));have HB7:Hid ((zai ((w6.setCell ⟨y,5,none⟩ (ii wall)).setCell ⟨y,6,none⟩ (ii count)) x4).heap[w.heap.size]?=some (.cells #[(st:Int),seq,wall,count,d0,d1,d2,d3,.slice A ws.length c] 44)):=zac ((HF7.out.block _ (zae HBX.out) HNO.out).trans HBX.out);have HMZ:=zac (HM6.out _ HF7.out).out;have HL7:Hid (((s6.setc 5 wall).setc 6 count).log=s.log):=zac HLG.out;clear e0 e1 e2 e3 e4 e5 e6 e7 e8 a5 a6 g5 g6;generalize zai ((w6.setCell ⟨y,5,none⟩ (ii wall)).setCell ⟨y,6,none⟩ (ii count)) x4=w7 at *;have HM7:=zac HMZ;clear HMZ;have HOW:=zac HS7.out.row;rw[show((s6.setc 5 wall).setc 6 count).log=s.log from HL7.out]at HOW;have k7:=HS7.out.c7;have z7:=HS7.out.frz 7;have hy7:=HS7.out.sto.lt;haveI:zaj (y+1) w7:=⟨hy7⟩;have hB7:B≤w7.heap.size:=yac HS7.out.bx (ybw hy7);have hbx7:=HB7.out;have e0:=zaa hbx7 0;have e1:=zaa hbx7 1;have e2:=zaa hbx7 2;have e3:=zaa hbx7 3;have e4:=zaa hbx7 4;have e5:=zaa hbx7 5;have e6:=zaa hbx7 6;have e7:=zaa hbx7 7;have e8:=zaa hbx7 8;simp only[zC,zD,zE]at e0 e1 e2 e3 e4 e5 e6 e7 e8;haveI:zaj (w.heap.size+1) w7:=⟨zae hbx7⟩;clear hbx7;obtain⟨i0,hi0,hz0,hz1,hz2⟩:=info40;have HN1:∀ u∈([ii (st:Int),ii seq,ii wall,ii count,ii d0,ii d1,ii d2,ii d3,.slice A ws.length c]:List Value),u.oneCell'=true:=by
     intro u hu;simp at hu;rcases hu with rfl|rfl|rfl|rfl|rfl|rfl|rfl|rfl|rfl <;> rfl
    have h63:s.log.length+1≤maxLen:=by refine yac ?_ maxLen_ge;omega
    have hby:(s.log.length+1)*88≤140737488355328:=by omega
    have HROW:Hid (∀ (W:World) (v:Value) (n:Nat),W.ownsRow B 44 9 v n (s.log.flatMap MTx.cells++[ii (st:Int),ii seq,ii wall,ii count,ii d0,ii d1,ii d2,ii d3,.slice A ws.length c])→n=s.log.length+1→W.ownsRow B 44 9 v (s.log++[(⟨⟨(st:Int),seq,wall,count,d0,d1,d2,d3,ws⟩,A,c⟩:MTx)]).length ((s.log++[(⟨⟨(st:Int),seq,wall,count,d0,d1,d2,d3,ws⟩,A,c⟩:MTx)]).flatMap MTx.cells)):=zac (by
     intro W v n h hn;have hrow:s.log.flatMap MTx.cells++[ii (st:Int),ii seq,ii wall,ii count,ii d0,ii d1,ii d2,ii d3,.slice A ws.length c]=(s.log++[(⟨⟨(st:Int),seq,wall,count,d0,d1,d2,d3,ws⟩,A,c⟩:MTx)]).flatMap MTx.cells:=by rw[yaJ];rfl
     have hle:(s.log++[(⟨⟨(st:Int),seq,wall,count,d0,d1,d2,d3,ws⟩,A,c⟩:MTx)]).length=s.log.length+1:=by simp
     rw[hle,←hn,←hrow];exact h)
    go_wp2_with fail;go_region_law (
     refine step_append_lies _ rfl (.tmp 56) (.tmp 58) 35 rfl B 44 i0 txZero 9 88 underlying35 hi0 hz0 hz1 hz2 rfl zI (.slice Al s.log.length cl) s.log.length (s.log.flatMap MTx.cells) zM (zaF HOW.out zB (fun k e=>(zao HOW.out e).2)) ⟨w7,0,none⟩ 1 1 [ii (st:Int),ii seq,ii wall,ii count,ii d0,ii d1,ii d2,ii d3,.slice A ws.length c] zM rfl (World.news_of_block (cs:=#[ii (st:Int),ii seq,ii wall,ii count,ii d0,ii d1,ii d2,ii d3,.slice A ws.length c]) (by(try rw[zaq]);rw[heap_alloc,yaj (by simp[zaq])])) HN1 zI h63 hby zP _ rfl ?_;intro g1 cap1 w8 hown1 hgrow hgl hlt1;have hg:=zau (zaQ hgrow);have hlog:=zcp.logged (m:=(⟨⟨(st:Int),seq,wall,count,d0,d1,d2,d3,ws⟩,A,c⟩:MTx)) HS7.out hg (by rw[show((s6.setc 5 wall).setc 6 count).log=s.log from HL7.out];exact HROW.out _ _ _ hown1 rfl) (by
      rcases hgl with e|e
      ·exact .inl (by rw[e];rfl)
      ·exact .inr (by intro b hb;simp[Value.ownBlock]at hb;subst hb;rw[e];simp[zaq])) HM7.out
     have HP:=zac hlog;have q1:w8.cell? ⟨y,7,none⟩=some (.slice Al s.log.length cl):=by rw[yam (hg.block y hy7 (fun e=>HS7.out.dxl e.symm))];exact k7
     have q2:w8.frozen? ⟨y,7,none⟩=false:=by rw[yal (hg.block y hy7 (fun e=>HS7.out.dxl e.symm))];exact z7
     clear hown1 hgrow hgl hlt1 hg hlog)
    all_goals
     go_wp2_with fail;obtain⟨hp1,hp2⟩:=HP.out;rw[show((s6.setc 5 wall).setc 6 count).log=s.log from HL7.out]at hp1;refine ybi (ya3 rfl _ _ _) rfl ⟨rfl,_,av1,?_,(HFR0.out.trans HF7.out).trans hp2⟩;rw[HAP.out];exact hp1
   ·rw[yad hcm]at HAP
    have hcd:decide (0<zc1 wall count s.lw s.lc)=false:=yah hcm;generalize zc1 wall count s.lw s.lc=cz at *;clear hcm;go_wp2_with fail;refine zaA zK zK ?_
    repeat(first|go_big_quiet_skip|(go_big_quiet_want;go_big_quiet_op;first|go_big_quiet_on|(apply Exists.intro;refine⟨fun _=>?_,?_⟩;(go_at_call 134;exact Calls.plus_of (HCM.out _));go_big_quiet_on)))
    refine yaM ?_;rintro _ ⟨x4,rfl⟩;have HS7:=zac (HS6.out.below (zax _ x4));have HF7:=zac (HF6.out.trans (zaO.of_below (za2 y (.slice Al s.log.length cl) av1) (zax _ x4)));have HB7:Hid ((zai w6 x4).heap[w.heap.size]?=some (.cells #[(st:Int),seq,wall,count,d0,d1,d2,d3,.slice A ws.length c] 44)):=zac ((HF7.out.block _ (zae HBX.out) HNO.out).trans HBX.out);have HMZ:=zac (HM6.out _ HF7.out).out;clear e0 e1 e2 e3 e4 e5 e6 e7 e8 a5 a6 g5 g6;generalize zai w6 x4=w7 at *;have HM7:=zac HMZ;clear HMZ;have HOW:=zac HS7.out.row;rw[show s6.log=s.log from HLG.out]at HOW;have k7:=HS7.out.c7;have z7:=HS7.out.frz 7;have hy7:=HS7.out.sto.lt;haveI:zaj (y+1) w7:=⟨hy7⟩;have hB7:B≤w7.heap.size:=yac HS7.out.bx (ybw hy7);have hbx7:=HB7.out;have e0:=zaa hbx7 0;have e1:=zaa hbx7 1;have e2:=zaa hbx7 2;have e3:=zaa hbx7 3;have e4:=zaa hbx7 4;have e5:=zaa hbx7 5;have e6:=zaa hbx7 6;have e7:=zaa hbx7 7;have e8:=zaa hbx7 8;simp only[zC,zD,zE]at e0 e1 e2 e3 e4 e5 e6 e7 e8;haveI:zaj (w.heap.size+1) w7:=⟨zae hbx7⟩;clear hbx7;obtain⟨i0,hi0,hz0,hz1,hz2⟩:=info40;have HN1:∀ u∈([ii (st:Int),ii seq,ii wall,ii count,ii d0,ii d1,ii d2,ii d3,.slice A ws.length c]:List Value),u.oneCell'=true:=by
     intro u hu;simp at hu;rcases hu with rfl|rfl|rfl|rfl|rfl|rfl|rfl|rfl|rfl <;> rfl
    have h63:s.log.length+1≤maxLen:=by refine yac ?_ maxLen_ge;omega
    have hby:(s.log.length+1)*88≤140737488355328:=by omega
    have HROW:Hid (∀ (W:World) (v:Value) (n:Nat),W.ownsRow B 44 9 v n (s.log.flatMap MTx.cells++[ii (st:Int),ii seq,ii wall,ii count,ii d0,ii d1,ii d2,ii d3,.slice A ws.length c])→n=s.log.length+1→W.ownsRow B 44 9 v (s.log++[(⟨⟨(st:Int),seq,wall,count,d0,d1,d2,d3,ws⟩,A,c⟩:MTx)]).length ((s.log++[(⟨⟨(st:Int),seq,wall,count,d0,d1,d2,d3,ws⟩,A,c⟩:MTx)]).flatMap MTx.cells)):=zac (by
     intro W v n h hn;have hrow:s.log.flatMap MTx.cells++[ii (st:Int),ii seq,ii wall,ii count,ii d0,ii d1,ii d2,ii d3,.slice A ws.length c]=(s.log++[(⟨⟨(st:Int),seq,wall,count,d0,d1,d2,d3,ws⟩,A,c⟩:MTx)]).flatMap MTx.cells:=by rw[yaJ];rfl
     have hle:(s.log++[(⟨⟨(st:Int),seq,wall,count,d0,d1,d2,d3,ws⟩,A,c⟩:MTx)]).length=s.log.length+1:=by simp
     rw[hle,←hn,←hrow];exact h)
    go_wp2_with fail;go_region_law (
     refine step_append_lies _ rfl (.tmp 56) (.tmp 58) 35 rfl B 44 i0 txZero 9 88 underlying35 hi0 hz0 hz1 hz2 rfl zI (.slice Al s.log.length cl) s.log.length (s.log.flatMap MTx.cells) zM (zaF HOW.out zB (fun k e=>(zao HOW.out e).2)) ⟨w7,0,none⟩ 1 1 [ii (st:Int),ii seq,ii wall,ii count,ii d0,ii d1,ii d2,ii d3,.slice A ws.length c] zM rfl (World.news_of_block (cs:=#[ii (st:Int),ii seq,ii wall,ii count,ii d0,ii d1,ii d2,ii d3,.slice A ws.length c]) (by(try rw[zaq]);rw[heap_alloc,yaj (by simp[zaq])])) HN1 zI h63 hby zP _ rfl ?_;intro g1 cap1 w8 hown1 hgrow hgl hlt1;have hg:=zau (zaQ hgrow);have hlog:=zcp.logged (m:=(⟨⟨(st:Int),seq,wall,count,d0,d1,d2,d3,ws⟩,A,c⟩:MTx)) HS7.out hg (by rw[show s6.log=s.log from HLG.out];exact HROW.out _ _ _ hown1 rfl) (by
      rcases hgl with e|e
      ·exact .inl (by rw[e];rfl)
      ·exact .inr (by intro b hb;simp[Value.ownBlock]at hb;subst hb;rw[e];simp[zaq])) HM7.out
     have HP:=zac hlog;have q1:w8.cell? ⟨y,7,none⟩=some (.slice Al s.log.length cl):=by rw[yam (hg.block y hy7 (fun e=>HS7.out.dxl e.symm))];exact k7
     have q2:w8.frozen? ⟨y,7,none⟩=false:=by rw[yal (hg.block y hy7 (fun e=>HS7.out.dxl e.symm))];exact z7
     clear hown1 hgrow hgl hlt1 hg hlog)
    all_goals
     go_wp2_with fail;obtain⟨hp1,hp2⟩:=HP.out;rw[show s6.log=s.log from HLG.out]at hp1;refine ybi (ya3 rfl _ _ _) rfl ⟨rfl,_,av1,?_,(HFR0.out.trans HF7.out).trans hp2⟩;rw[HAP.out];exact hp1
end Go.Proofs.YtbopfhbeegkkaabGreatDoor
