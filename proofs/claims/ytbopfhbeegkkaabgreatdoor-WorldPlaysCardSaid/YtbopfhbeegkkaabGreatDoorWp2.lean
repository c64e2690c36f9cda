/- Part 2 of a proof: lemmas and contracts that other parts use. -/
import Derived.Test.YtbopfhbeegkkaabGreatDoorWp1
import Derived.Test.YtbopfhbeegkkaabGreatDoorRows
import Derived.Deep.AppendLies
import Derived.Outline
set_option linter.unusedVariables false
set_option linter.unusedSimpArgs false
set_option maxHeartbeats 2000000
set_option maxRecDepth 100000
namespace Go.Proofs.YtbopfhbeegkkaabGreatDoor
open Go.RowKit Go.Proofs.Tryz
theorem zce (n lo hi:Int) (w:World) (h1:lo≤n) (h2:n≤hi):
  Calls prog 96 #[n,lo,hi] w fun e w'=>e=.returned (.bool true)∧w=w':=by
 go_enter func96,ntmps96;go_wp2;go_ret;exact⟨zS,rfl⟩
theorem zcL (n lo hi:Int) (w:World) (h:n<lo∨hi<n):
  Calls prog 96 #[n,lo,hi] w fun e w'=>e=.returned (.bool false)∧w=w':=by
 by_cases h1:n<lo
 ·clear h
  go_enter func96,ntmps96;go_wp2;go_ret;exact⟨zS,rfl⟩
 ·have h2:hi<n:=by omega
  clear h;go_enter func96,ntmps96;go_wp2;go_ret;exact⟨by simp;omega,rfl⟩
theorem zb4 (aw ac:Int) (w:World):Calls prog 132 #[.agg #[ii aw,ii ac]] w fun e w'=>e=.returned (.bool (zav aw ac))∧Below w w w':=by
 by_cases ha:aw<0
 ·have e1:zav aw ac=false:=by simp[zav];omega
  rw[e1];clear e1;go_enter func132,ntmps132;go_wp2_with ((go_at_call 96;first|(with_reducible refine(zce _ _ _ _ zO zO).mono ?_)|(with_reducible refine(zcL _ _ _ _ zO).mono ?_));(rintro e w' ⟨rfl,rfl⟩));go_ret;exact⟨by first|rfl|(simp;omega),zB⟩
 by_cases hb:1099511627776<aw
 ·have e1:zav aw ac=false:=by simp[zav];omega
  rw[e1];clear e1;go_enter func132,ntmps132;go_wp2_with ((go_at_call 96;first|(with_reducible refine(zce _ _ _ _ zO zO).mono ?_)|(with_reducible refine(zcL _ _ _ _ zO).mono ?_));(rintro e w' ⟨rfl,rfl⟩));go_ret;exact⟨by first|rfl|(simp;omega),zB⟩
 by_cases hc:ac<0
 ·have e1:zav aw ac=false:=by simp[zav];omega
  rw[e1];clear e1;go_enter func132,ntmps132;go_wp2_with ((go_at_call 96;first|(with_reducible refine(zce _ _ _ _ zO zO).mono ?_)|(with_reducible refine(zcL _ _ _ _ zO).mono ?_));(rintro e w' ⟨rfl,rfl⟩));go_ret;exact⟨by first|rfl|(simp;omega),zB⟩
 by_cases hd:1099511627776<ac
 ·have e1:zav aw ac=false:=by simp[zav];omega
  rw[e1];clear e1;go_enter func132,ntmps132;go_wp2_with ((go_at_call 96;first|(with_reducible refine(zce _ _ _ _ zO zO).mono ?_)|(with_reducible refine(zcL _ _ _ _ zO).mono ?_));(rintro e w' ⟨rfl,rfl⟩));go_ret;exact⟨by first|rfl|(simp;omega),zB⟩
 have e1:zav aw ac=true:=by simp[zav];omega
 rw[e1];clear e1;go_enter func132,ntmps132;go_wp2_with ((go_at_call 96;first|(with_reducible refine(zce _ _ _ _ zO zO).mono ?_)|(with_reducible refine(zcL _ _ _ _ zO).mono ?_));(rintro e w' ⟨rfl,rfl⟩));go_ret;exact⟨by first|rfl|(simp;omega),zB⟩
theorem zfo (aw ac bw bc:Int) (w:World):Calls prog 134 #[.agg #[ii aw,ii ac],.agg #[ii bw,ii bc]] w fun e w'=>e=.returned (ii (zc1 aw ac bw bc))∧Below w w w':=by
 by_cases h0:zc1 aw ac bw bc=0
 ·rw[h0]
  obtain⟨rfl,rfl⟩:=(zeS aw ac bw bc).1 h0;clear h0;go_enter func134,ntmps134;go_wp2;go_ret;exact⟨rfl,zB⟩
 ·have hne:(aw==bw&&ac==bc)=false:=by
   rw[Bool.eq_false_iff];intro h;simp at h;exact h0 ((zeS aw ac bw bc).2 h)
  have hbd:=cmpS_bd aw ac bw bc;by_cases h1:zc1 aw ac bw bc<0
  ·have e1:zc1 aw ac bw bc=-1:=by omega
   rw[e1];have hc:=(zi8 aw ac bw bc).1 h1;clear h0 h1 e1 hbd;by_cases hl:aw<bw
   ·go_enter func134,ntmps134
    go_wp2;go_ret;exact⟨rfl,zB⟩
   ·have hb1:(aw==bw)=true:=by simp;omega
    have hb2:ac<bc:=by omega
    have hd:decide (ac<bc)=true:=by simp;omega
    clear hc;go_enter func134,ntmps134;go_wp2;go_ret;exact⟨rfl,zB⟩
  ·have e1:zc1 aw ac bw bc=1:=by omega
   rw[e1];have hc:=(zi7 aw ac bw bc).1 zO;clear h0 h1 e1 hbd;by_cases hl:bw<aw
   ·have hb1:(aw==bw)=false:=by simp;omega
    have hb2:¬aw<bw:=by omega
    have hd:decide (aw<bw)=false:=by simp;omega
    clear hc;go_enter func134,ntmps134;go_wp2;go_ret;exact⟨rfl,zB⟩
   ·have hb0:aw=bw:=by omega
    subst hb0;have hb2:¬ac<bc:=by omega
    have hd:decide (ac<bc)=false:=by simp;omega
    have hn2:(ac==bc)=false:=by simp;omega
    clear hc hne;go_enter func134,ntmps134;go_wp2;go_ret;exact⟨rfl,zB⟩
theorem rnext_r1 (aw ac now:Int) (w:World) (hr:zav aw ac=false):
  Calls prog 74 #[.agg #[ii aw,ii ac],now] w fun e w'=>e=.returned (.tuple #[.agg #[ii 0,ii 0],ii 2])∧Below w w w':=by
 go_enter func74,ntmps74;go_wp2_with (first|(go_at_call 132;with_reducible refine(zb4 _ _ _).mono ?_;(rintro e w' ⟨rfl,hb⟩;obtain⟨x,rfl⟩:=zad hb;clear hb))|((go_at_call 96;first|(with_reducible refine(zce _ _ _ _ zO zO).mono ?_)|(with_reducible refine(zcL _ _ _ _ zO).mono ?_));(rintro e w' ⟨rfl,rfl⟩)));exact yag (v:=.tuple #[.agg #[ii 0,ii 0],ii 2]) (by simp[results,results74,go_sem]) rfl ⟨rfl,zB⟩
theorem rnext_r2 (aw ac now:Int) (w:World) (hr:zav aw ac=true) (h:now<0):
  Calls prog 74 #[.agg #[ii aw,ii ac],now] w fun e w'=>e=.returned (.tuple #[.agg #[ii 0,ii 0],ii 2])∧Below w w w':=by
 go_enter func74,ntmps74;go_wp2_with (first|(go_at_call 132;with_reducible refine(zb4 _ _ _).mono ?_;(rintro e w' ⟨rfl,hb⟩;obtain⟨x,rfl⟩:=zad hb;clear hb))|((go_at_call 96;first|(with_reducible refine(zce _ _ _ _ zO zO).mono ?_)|(with_reducible refine(zcL _ _ _ _ zO).mono ?_));(rintro e w' ⟨rfl,rfl⟩)));exact yag (v:=.tuple #[.agg #[ii 0,ii 0],ii 2]) (by simp[results,results74,go_sem]) rfl ⟨rfl,zB⟩
theorem rnext_r3 (aw ac now:Int) (w:World) (hr:zav aw ac=true) (h0:0≤now) (h:1099511627776<now):
  Calls prog 74 #[.agg #[ii aw,ii ac],now] w fun e w'=>e=.returned (.tuple #[.agg #[ii 0,ii 0],ii 2])∧Below w w w':=by
 go_enter func74,ntmps74;go_wp2_with (first|(go_at_call 132;with_reducible refine(zb4 _ _ _).mono ?_;(rintro e w' ⟨rfl,hb⟩;obtain⟨x,rfl⟩:=zad hb;clear hb))|((go_at_call 96;first|(with_reducible refine(zce _ _ _ _ zO zO).mono ?_)|(with_reducible refine(zcL _ _ _ _ zO).mono ?_));(rintro e w' ⟨rfl,rfl⟩)));exact yag (v:=.tuple #[.agg #[ii 0,ii 0],ii 2]) (by simp[results,results74,go_sem]) rfl ⟨rfl,zB⟩
theorem zmi (aw ac now:Int) (w:World) (hr:zav aw ac=true) (h0:0≤now) (h1:now≤1099511627776) (h:aw<now):
  Calls prog 74 #[.agg #[ii aw,ii ac],now] w fun e w'=>e=.returned (.tuple #[.agg #[ii now,ii 0],ii 0])∧Below w w w':=by
 go_enter func74,ntmps74;go_wp2_with (first|(go_at_call 132;with_reducible refine(zb4 _ _ _).mono ?_;(rintro e w' ⟨rfl,hb⟩;obtain⟨x,rfl⟩:=zad hb;clear hb))|((go_at_call 96;first|(with_reducible refine(zce _ _ _ _ zO zO).mono ?_)|(with_reducible refine(zcL _ _ _ _ zO).mono ?_));(rintro e w' ⟨rfl,rfl⟩)));exact yag (v:=.tuple #[.agg #[ii now,ii 0],ii 0]) (by simp[results,results74,go_sem]) rfl ⟨rfl,zB⟩
theorem zkV (aw ac now:Int) (w:World) (hr:zav aw ac=true) (h0:0≤now) (h1:now≤1099511627776) (h:now≤aw) (hf:1099511627776<ac+1) (hb:0≤ac∧ac≤1099511627776):
  Calls prog 74 #[.agg #[ii aw,ii ac],now] w fun e w'=>e=.returned (.tuple #[.agg #[ii 0,ii 0],ii 12])∧Below w w w':=by
 go_enter func74,ntmps74;go_wp2_with (first|(go_at_call 132;with_reducible refine(zb4 _ _ _).mono ?_;(rintro e w' ⟨rfl,hb⟩;obtain⟨x,rfl⟩:=zad hb;clear hb))|((go_at_call 96;first|(with_reducible refine(zce _ _ _ _ zO zO).mono ?_)|(with_reducible refine(zcL _ _ _ _ zO).mono ?_));(rintro e w' ⟨rfl,rfl⟩)));exact yag (v:=.tuple #[.agg #[ii 0,ii 0],ii 12]) (by simp[results,results74,go_sem]) rfl ⟨rfl,zB⟩
theorem zmj (aw ac now:Int) (w:World) (hr:zav aw ac=true) (h0:0≤now) (h1:now≤1099511627776) (h:now≤aw) (hf:ac+1≤1099511627776) (hb:0≤ac∧ac≤1099511627776):
  Calls prog 74 #[.agg #[ii aw,ii ac],now] w fun e w'=>e=.returned (.tuple #[.agg #[ii aw,ii (ac+1)],ii 0])∧Below w w w':=by
 go_enter func74,ntmps74;go_wp2_with (first|(go_at_call 132;with_reducible refine(zb4 _ _ _).mono ?_;(rintro e w' ⟨rfl,hb⟩;obtain⟨x,rfl⟩:=zad hb;clear hb))|((go_at_call 96;first|(with_reducible refine(zce _ _ _ _ zO zO).mono ?_)|(with_reducible refine(zcL _ _ _ _ zO).mono ?_));(rintro e w' ⟨rfl,rfl⟩)));exact yag (v:=.tuple #[.agg #[ii aw,ii (ac+1)],ii 0]) (by simp[results,results74,go_sem]) rfl ⟨rfl,zB⟩
theorem zcY (w:World):Calls prog 12 #[.nilIface,ii 0] w fun e w'=>e=.returned (.bool true)∧Below w w w':=by
 go_enter func12,ntmps12;go_wp2_with (go_at_call 70;refine(bare_nil _).mono ?_;rintro e w' ⟨rfl,rfl⟩);go_ret;exact⟨rfl,yaf _ _⟩
theorem za0 (n:Int) (w:World) (hg:za4 w):Calls prog 12 #[.iface 29 (ii n),n] w fun e w'=>e=.returned (.bool true)∧Below w w w':=by
 go_enter func12,ntmps12;go_wp2_with fail;refine(zlA n _ hg).mono ?_;rintro e w' ⟨rfl,hb⟩;obtain⟨x,rfl⟩:=zad hb;clear hb;go_wp2;go_ret;exact⟨rfl,zB⟩
end Go.Proofs.YtbopfhbeegkkaabGreatDoor
namespace Go.Proofs.YtbopfhbeegkkaabGreatDoor
open Go.Proofs.Tryz
def ze8 (n:Nat):List UInt8:=if h:n<128 then [n.toUInt8]else (n % 128+128).toUInt8::ze8 (n / 128)
termination_by n
decreasing_by omega
def zbx (l:List Nat):List UInt8:=l.flatMap ze8
theorem zhX {n:Nat}(h:n<128):ze8 n=[n.toUInt8]:=by rw[ze8];simp[h]
theorem zhY {n:Nat}(h:¬n<128):ze8 n=(n % 128+128).toUInt8::ze8 (n / 128):=by rw[ze8];simp[h]
theorem zfJ (n:Nat):∀ k,n<128 ^ k→1≤k→(ze8 n).length≤k:=by
 induction n using Nat.strongRecOn with
 | _ n ih=>
   intro k hk h1;by_cases h:n<128
   ·rw[zhX h];simpa using h1
   ·rw[zhY h]
    have hk2:2≤k:=by
     rcases k with _|_|k
     ·omega
     ·simp at hk;omega
     ·omega
    obtain⟨j,rfl⟩:∃ j,k=j+1:=⟨k-1,by omega⟩;have:=ih (n / 128) (by omega) j (by rw[Nat.div_lt_iff_lt_mul (by decide)];rw[Nat.pow_succ]at hk;exact hk) (by omega);simp;omega
def zem (i n:Nat):List UInt8→Option (Nat×List UInt8)
 | []=>none
 | b::bs=>
   if 5<i∨1099511627776<n+b.toNat % 128*128 ^ i∨(b.toNat=0∧0<i)then none
   else if b.toNat<128 then some (n+b.toNat % 128*128 ^ i,bs)else zem (i+1) (n+b.toNat % 128*128 ^ i) bs
def zcU (l:List UInt8):Option (Nat×List UInt8):=zem 0 0 l
theorem zmp {s:List UInt8}:∀ (p:List UInt8) (i n m:Nat) (r:List UInt8),zem i n p=some (m,r)→zem i n (p++s)=some (m,r++s)
 | [],_,_,_,_,h=>by simp[zem]at h
 | b::p,i,n,m,r,h=>by
   simp only[zem,ybI]at h ⊢;by_cases h1:5<i∨1099511627776<n+b.toNat % 128*128 ^ i∨(b.toNat=0∧0<i)
   ·rw[yaj h1]at h;cases h
   ·rw[yad h1]at h ⊢
    by_cases h2:b.toNat<128
    ·rw[yaj h2]at h ⊢
     simp only[yaz,ybc]at h ⊢;exact⟨h.1,by rw[h.2]⟩
    ·rw[yad h2]at h ⊢
     exact zmp p _ _ _ _ h
theorem rdGo_len:∀ (p:List UInt8) (i n m:Nat) (r:List UInt8),zem i n p=some (m,r)→m≤1099511627776∧∃ k,1≤k∧k≤p.length∧i+k≤6∧r=p.drop k
 | [],_,_,_,_,h=>by simp[zem]at h
 | b::p,i,n,m,r,h=>by
   simp only[zem]at h;by_cases h1:5<i∨1099511627776<n+b.toNat % 128*128 ^ i∨(b.toNat=0∧0<i)
   ·rw[yaj h1]at h;cases h
   ·rw[yad h1]at h
    by_cases h2:b.toNat<128
    ·rw[yaj h2]at h
     simp only[yaz,ybc]at h;refine⟨by omega,1,by omega,by simp,by omega,by rw[←h.2];rfl⟩
    ·rw[yad h2]at h
     obtain⟨hm,k,hk1,hk2,hk3,hk4⟩:=rdGo_len p _ _ _ _ h;exact⟨hm,k+1,by omega,by simpa using hk2,by omega,by simpa using hk4⟩
theorem zmA (i z:Nat) (h:z*128 ^ i≤1099511627776) (hz:i=0∨0<z):i≤5:=by
 rcases Nat.lt_or_ge 5 i with h5|h5
 ·exfalso
  have h6:128 ^ 6≤128 ^ i:=Nat.pow_le_pow_right (by decide) h5;have h7:1*128 ^ i≤z*128 ^ i:=Nat.mul_le_mul_right _ (by omega);have:(128:Nat) ^ 6=4398046511104:=by decide
  omega
 ·exact h5
theorem zmo (r:List UInt8):∀ (z i n:Nat),n+z*128 ^ i≤1099511627776→(i=0∨0<z)→zem i n (ze8 z++r)=some (n+z*128 ^ i,r):=by
 intro z
 induction z using Nat.strongRecOn with
 | _ z ih=>
   intro i n hn hz;have hi:=zmA i z (by omega) hz;by_cases h:z<128
   ·rw[zhX h]
    have hb:z.toUInt8.toNat=z:=by simp;omega
    simp only[ybI,ybd,zem,hb,Nat.mod_eq_of_lt h];rw[yad (by omega),yaj h]
   ·rw[zhY h]
    have hb:(z % 128+128).toUInt8.toNat=z % 128+128:=by simp;omega
    have hm:(z % 128+128) % 128=z % 128:=by omega
    simp only[ybI,zem,hb,hm];have e:z*128 ^ i=z % 128*128 ^ i+z / 128*128 ^ (i+1):=by
     have h1:z / 128*128 ^ (i+1)=z / 128*128*128 ^ i:=by rw[Nat.pow_succ,Nat.mul_comm (128 ^ i),Nat.mul_assoc]
     rw[h1,←Nat.add_mul];congr 1;omega
    rw[yad (by omega),yad (by omega)];rw[ih (z / 128) (by omega) (i+1) _ (by omega) (.inr (by omega))];congr 2;omega
theorem zk0 (z:Nat) (r:List UInt8) (h:z≤1099511627776):zcU (ze8 z++r)=some (z,r):=by
 have:=zmo r z 0 0 (by simpa using h) (.inl rfl);simpa[zcU]using this
structure WrP where
 key:Int
 data:ByteArray
 gone:Bool
structure TxP where
 site:Int
 seq:Int
 wall:Int
 count:Int
 d0:Int
 d1:Int
 d2:Int
 d3:Int
 ws:List WrP
def okN (z:Int):Bool:=decide (0≤z∧z≤1099511627776)
def zfN (last:Int) (w:WrP):Bool:=decide (w.key≤last)||decide (8≤w.key)||decide (12<w.data.size)||(w.gone&&decide (w.data.size≠0))
def rwGo:Int→List WrP→Bool
 | _,[]=>true
 | last,w::ws=>if zfN last w=true then false else rwGo w.key ws
def zaX (l:List WrP):Bool:=rwGo (-1) l&&decide (1≤l.length)&&decide (l.length≤5)
def zdi (t:TxP):Int:=if t.site=0 then t.d0 else if t.site=1 then t.d1 else if t.site=2 then t.d2 else t.d3
def zgo (t:TxP):Bool:=decide (0≤t.site∧t.site<4)&&decide (1≤t.seq∧t.seq≤1099511627776)&&okN t.wall&&okN t.count&&(okN t.d0&&okN t.d1&&okN t.d2&&okN t.d3)&&decide (zdi t=t.seq-1)
def zaf (t:TxP):Bool:=zgo t&&zaX t.ws
def zcy (b:Bool):Nat:=if b then 1 else 0
def wrB (w:WrP):List UInt8:=zbx [w.key.toNat,zcy w.gone,w.data.size]++w.data.data.toList
def txB (t:TxP):List UInt8:=
 116::(zbx [t.site.toNat,t.seq.toNat,t.wall.toNat,t.count.toNat]++zbx [t.d0.toNat,t.d1.toNat,t.d2.toNat,t.d3.toNat]++zbx [t.ws.length]++t.ws.flatMap wrB)
def zfR (s a0 a1 a2 a3:Int):List UInt8:=97::(zbx [s.toNat]++zbx [a0.toNat,a1.toNat,a2.toNat,a3.toNat])
structure Rd where
 l:List UInt8
 bad:Bool
def zbf (r:Rd):Nat×Rd:=match zcU r.l with
 | some (n,l)=>(n,⟨l,r.bad⟩)
 | none=>(0,⟨r.l,true⟩)
def zea (r:Rd):ByteArray×Rd:=
 if(zbf r).2.l.length<(zbf r).1 then (⟨#[]⟩,⟨(zbf r).2.l,true⟩)
 else (⟨((zbf r).2.l.take (zbf r).1).toArray⟩,⟨(zbf r).2.l.drop (zbf r).1,(zbf r).2.bad⟩)
def zbj (c:UInt8) (b:List UInt8):Rd:=match b with
 | []=>⟨[],true⟩
 | x::l=>if x=c then ⟨l,false⟩else ⟨[],true⟩
def wrR (r:Rd):WrP×Nat×Rd:=
 ((⟨(zbf r).1,(zea (zbf (zbf r).2).2).1,decide ((zbf (zbf r).2).1=1)⟩:WrP),(zbf (zbf r).2).1,(zea (zbf (zbf r).2).2).2)
def wrsR:Nat→List WrP→Rd→List WrP×Rd
 | 0,ws,r=>(ws,r)
 | n+1,ws,r=>if r.bad then (ws,r)else
   wrsR n (ws++[(wrR r).1]) ⟨(wrR r).2.2.l,(wrR r).2.2.bad||decide (1<(wrR r).2.1)||decide (5≤ws.length)⟩
def za6 (r:Rd):(Nat×Nat×Nat×Nat)×Rd:=
 (((zbf r).1,(zbf (zbf r).2).1,(zbf (zbf (zbf r).2).2).1,(zbf (zbf (zbf (zbf r).2).2).2).1),(zbf (zbf (zbf (zbf r).2).2).2).2)
def txOf (h d:Nat×Nat×Nat×Nat) (ws:List WrP):TxP:=⟨h.1,h.2.1,h.2.2.1,h.2.2.2,d.1,d.2.1,d.2.2.1,d.2.2.2,ws⟩
def zf5 (r:Rd):TxP×Rd:=
 (txOf (za6 r).1 (za6 (za6 r).2).1 (wrsR (zbf (za6 (za6 r).2).2).1 [] (zbf (za6 (za6 r).2).2).2).1,(wrsR (zbf (za6 (za6 r).2).2).1 [] (zbf (za6 (za6 r).2).2).2).2)
def zgr (b:List UInt8):Option TxP:=
 if(zf5 (zbj 116 b)).2.bad||!(zf5 (zbj 116 b)).2.l.isEmpty||!zaf (zf5 (zbj 116 b)).1 then none else some (zf5 (zbj 116 b)).1
def zg8 (r:Rd):(Nat×(Nat×Nat×Nat×Nat))×Rd:=(((zbf r).1,(za6 (zbf r).2).1),(za6 (zbf r).2).2)
def zko (b:List UInt8):Option (Nat×(Nat×Nat×Nat×Nat)):=
 if(zg8 (zbj 97 b)).2.bad||!(zg8 (zbj 97 b)).2.l.isEmpty||decide (4≤(zg8 (zbj 97 b)).1.1)then none else some (zg8 (zbj 97 b)).1
theorem zct (z:Nat) (s:List UInt8) (b:Bool) (h:z≤1099511627776):zbf ⟨ze8 z++s,b⟩=(z,⟨s,b⟩):=by
 unfold zbf;rw[zk0 z s h]
theorem zeq (x y z u:Nat) (s:List UInt8) (b:Bool) (hx:x≤1099511627776) (hy:y≤1099511627776) (hz:z≤1099511627776) (hu:u≤1099511627776):
  za6 ⟨zbx [x,y,z,u]++s,b⟩=((x,y,z,u),⟨s,b⟩):=by
 have e:zbx [x,y,z,u]++s=ze8 x++(ze8 y++(ze8 z++(ze8 u++s))):=by simp[zbx]
 unfold za6;simp only[e,zct x _ b hx,zct y _ b hy,zct z _ b hz,zct u _ b hu]
theorem zck (x:ByteArray):x.size=x.data.toList.length:=by rw[yaY];rfl
theorem textR_B (d:ByteArray) (s:List UInt8) (b:Bool) (h:d.size≤1099511627776):zea ⟨ze8 d.size++(d.data.toList++s),b⟩=(d,⟨s,b⟩):=by
 unfold zea;rw[zct _ _ _ h];have hl:(d.data.toList++s).length=d.size+s.length:=by rw[yak,zck]
 simp only[hl];rw[yad (by omega),zck,List.take_left,List.drop_left]
theorem wrR_B (w:WrP) (s:List UInt8) (b:Bool) (hk:0≤w.key∧w.key<8) (hd:w.data.size≤12):wrR ⟨wrB w++s,b⟩=(w,zcy w.gone,⟨s,b⟩):=by
 have e:wrB w++s=ze8 w.key.toNat++(ze8 (zcy w.gone)++(ze8 w.data.size++(w.data.data.toList++s))):=by simp[wrB,zbx]
 have hg:zcy w.gone≤1099511627776:=by unfold zcy;split <;> omega
 unfold wrR;rw[e,zct w.key.toNat _ b (by omega)];simp only;rw[zct (zcy w.gone) _ b hg];simp only;rw[textR_B w.data s b (by omega)];obtain⟨k,d,g⟩:=w;simp only at hk ⊢;have h1:decide (zcy g=1)=g:=by cases g <;> simp[zcy]
 rw[h1];have h2:((k.toNat:Nat):Int)=k:=by omega
 rw[h2]
theorem zkn (b:Bool):zcy b≤1:=by cases b <;> simp[zcy]
theorem wrsR_B (s:List UInt8):∀ (ws l:List WrP),(∀ w∈ws,(0≤w.key∧w.key<8)∧w.data.size≤12)→l.length+ws.length≤5→wrsR ws.length l ⟨ws.flatMap wrB++s,false⟩=(l++ws,⟨s,false⟩)
 | [],l,_,_=>by simp[wrsR]
 | w::ws,l,h,hl=>by
   have hw:=h w (by simp);have e:(w::ws).flatMap wrB++s=wrB w++(ws.flatMap wrB++s):=by simp
   simp only[yaq]at hl ⊢;have hg:=zkn w.gone;simp only[wrsR,e,wrR_B w _ false hw.1 hw.2];have h5:(false||decide (1<zcy w.gone)||decide (5≤l.length))=false:=by simp;omega
   rw[h5,wrsR_B s ws _ (fun x hx=>h x (by simp[hx])) (by simp;omega)];simp
theorem badW_no {last:Int}{w:WrP}(h:zfN last w≠true):last<w.key∧w.key<8∧w.data.size≤12:=by
 simp[zfN]at h;omega
theorem rwGo_all:∀ (ws:List WrP) (last:Int),-1≤last→rwGo last ws=true→∀ w∈ws,(0≤w.key∧w.key<8)∧w.data.size≤12
 | [],_,_,_,w,hw=>by cases hw
 | x::ws,last,hl,h,w,hw=>by
   simp only[rwGo]at h;by_cases hb:zfN last x=true
   ·rw[yaj hb]at h;cases h
   ·rw[yad hb]at h
    have h1:=badW_no hb;rcases ya1.1 hw with rfl|hw
    ·omega
    ·exact rwGo_all ws x.key (by omega) h w hw
theorem zek {l:List WrP}(h:zaX l=true):(∀ w∈l,(0≤w.key∧w.key<8)∧w.data.size≤12)∧1≤l.length∧l.length≤5:=by
 simp only[zaX,yav,yap]at h;exact⟨rwGo_all l _ (by omega) h.1.1,h.1.2,h.2⟩
theorem zfc {t:TxP}(h:zgo t=true):(0≤t.site∧t.site<4)∧(1≤t.seq∧t.seq≤1099511627776)∧(0≤t.wall∧t.wall≤1099511627776)∧(0≤t.count∧t.count≤1099511627776)∧
  (0≤t.d0∧t.d0≤1099511627776)∧(0≤t.d1∧t.d1≤1099511627776)∧(0≤t.d2∧t.d2≤1099511627776)∧(0≤t.d3∧t.d3≤1099511627776)∧zdi t=t.seq-1:=by
 simp only[zgo,okN,yav,yap]at h;obtain⟨⟨⟨⟨⟨h1,h2⟩,h3⟩,h4⟩,⟨⟨h5,h6⟩,h7⟩,h8⟩,h9⟩:=h;exact⟨h1,h2,h3,h4,h5,h6,h7,h8,h9⟩
theorem rawTx_B (t:TxP) (s:List UInt8) (h:zaf t=true):zf5 ⟨(txB t).drop 1++s,false⟩=(t,⟨s,false⟩):=by
 simp only[zaf,yav]at h;obtain⟨hw,hl1,hl5⟩:=zek h.2;obtain⟨h1,h2,h3,h4,h5,h6,h7,h8,_⟩:=zfc h.1;have e:(txB t).drop 1++s=zbx [t.site.toNat,t.seq.toNat,t.wall.toNat,t.count.toNat]++(zbx [t.d0.toNat,t.d1.toNat,t.d2.toNat,t.d3.toNat]++(ze8 t.ws.length++(t.ws.flatMap wrB++s))):=by
  simp[txB,zbx]
 rw[e];unfold zf5;simp only[zeq t.site.toNat t.seq.toNat t.wall.toNat t.count.toNat _ false (by omega) (by omega) (by omega) (by omega),zeq t.d0.toNat t.d1.toNat t.d2.toNat t.d3.toNat _ false (by omega) (by omega) (by omega) (by omega),
  zct t.ws.length _ false (by omega),wrsR_B s t.ws [] hw (by simpa using hl5)]
 obtain⟨a,b,c,d,e0,e1,e2,e3,ws⟩:=t;simp only[txOf,ybd]at *;rw[ybu (by omega),ybu (by omega),ybu (by omega),ybu (by omega),ybu (by omega),ybu (by omega),ybu (by omega),ybu (by omega)]
theorem begin_tx (t:TxP) (s:List UInt8):zbj 116 (txB t++s)=⟨(txB t).drop 1++s,false⟩:=rfl
theorem decTx_B (t:TxP) (h:zaf t=true):zgr (txB t)=some t:=by
 have e:=begin_tx t [];rw[ybM]at e;unfold zgr;rw[e,rawTx_B t [] h];simp[h]
theorem rdGo_back:∀ (l:List UInt8) (i n m:Nat) (r:List UInt8),zem i n l=some (m,r)→∃ z,m=n+z*128 ^ i∧l=ze8 z++r∧(i=0∨0<z)
 | [],_,_,_,_,h=>by simp[zem]at h
 | b::l,i,n,m,r,h=>by
   simp only[zem]at h;by_cases h1:5<i∨1099511627776<n+b.toNat % 128*128 ^ i∨(b.toNat=0∧0<i)
   ·rw[yaj h1]at h;cases h
   ·rw[yad h1]at h
    by_cases h2:b.toNat<128
    ·rw[yaj h2]at h
     simp only[yaz,ybc]at h;refine⟨b.toNat,?_,?_,?_⟩
     ·rw[←h.1,Nat.mod_eq_of_lt h2]
     ·rw[zhX h2,h.2];simp
     ·omega
    ·rw[yad h2]at h
     obtain⟨z,hm,hl,hz⟩:=rdGo_back l _ _ _ _ h;have hz:0<z:=by omega
     have hb:=b.toNat_lt;refine⟨b.toNat % 128+128*z,?_,?_,.inr (by omega)⟩
     ·rw[hm,Nat.pow_succ,Nat.add_mul]
      have:128*z*128 ^ i=z*(128 ^ i*128):=by rw[Nat.mul_comm (128 ^ i) 128,←Nat.mul_assoc,Nat.mul_comm 128 z]
      omega
     ·rw[zhY (by omega)]
      have e1:(b.toNat % 128+128*z) / 128=z:=by omega
      have e2:((b.toNat % 128+128*z) % 128+128).toUInt8=b:=by
       apply UInt8.toNat_inj.1;simp;omega
      rw[e1,e2,hl];rfl
theorem ze6 {l r:List UInt8}{m:Nat}(h:zcU l=some (m,r)):l=ze8 m++r∧m≤1099511627776:=by
 obtain⟨z,hm,hl,_⟩:=rdGo_back _ _ _ _ _ h;obtain⟨h2,_⟩:=rdGo_len _ _ _ _ _ h;refine⟨?_,h2⟩;have:m=z:=by simpa using hm
 rw[this];exact hl
theorem zcF {r:Rd}(h:(zbf r).2.bad=false):r.bad=false∧r.l=ze8 (zbf r).1++(zbf r).2.l∧(zbf r).1≤1099511627776:=by
 unfold zbf at h ⊢;cases e:zcU r.l with
 | none=>rw[e]at h;cases h
 | some x=>
   obtain⟨n,l⟩:=x;rw[e]at h;have:=ze6 e;exact⟨h,this⟩
theorem zhd {r:Rd}(h:(za6 r).2.bad=false):r.bad=false∧r.l=zbx [(za6 r).1.1,(za6 r).1.2.1,(za6 r).1.2.2.1,(za6 r).1.2.2.2]++(za6 r).2.l∧
  (za6 r).1.1≤1099511627776∧(za6 r).1.2.1≤1099511627776∧(za6 r).1.2.2.1≤1099511627776∧(za6 r).1.2.2.2≤1099511627776:=by
 unfold za6 at h ⊢;simp only at h ⊢;obtain⟨h4,l4,m4⟩:=zcF h;obtain⟨h3,l3,m3⟩:=zcF h4;obtain⟨h2,l2,m2⟩:=zcF h3;obtain⟨h1,l1,m1⟩:=zcF h2;refine⟨h1,?_,m1,m2,m3,m4⟩;rw[l1,l2,l3,l4];simp[zbx]
theorem zkH {r:Rd}(h:(zea r).2.bad=false):r.bad=false∧r.l=ze8 (zea r).1.size++((zea r).1.data.toList++(zea r).2.l):=by
 unfold zea at h ⊢;by_cases hl:(zbf r).2.l.length<(zbf r).1
 ·rw[yaj hl]at h;cases h
 ·rw[yad hl]at h ⊢
  simp only at h ⊢;obtain⟨h1,l1,_⟩:=zcF h;refine⟨h1,?_⟩;rw[zck];simp only[ybl,yaL,Nat.min_eq_left (Nat.not_lt.1 hl)];exact l1
theorem wrR_back {r:Rd}(h:(wrR r).2.2.bad=false) (hg:(wrR r).2.1≤1):r.bad=false∧r.l=wrB (wrR r).1++(wrR r).2.2.l:=by
 unfold wrR at h hg ⊢;simp only at h hg ⊢;obtain⟨h3,l3⟩:=zkH h;obtain⟨h2,l2,_⟩:=zcF h3;obtain⟨h1,l1,_⟩:=zcF h2;refine⟨h1,?_⟩;rw[l1,l2,l3];have e:zcy (decide ((zbf (zbf r).2).1=1))=(zbf (zbf r).2).1:=by
  have:(zbf (zbf r).2).1=0∨(zbf (zbf r).2).1=1:=by omega
  rcases this with e|e <;> rw[e] <;> rfl
 simp only[wrB,zbx,yaN,List.flatMap_nil,e,ybx,ybM,ybh]
theorem wrsR_back:∀ (n:Nat) (l:List WrP) (r:Rd),(wrsR n l r).2.bad=false→r.bad=false∧∃ ws,(wrsR n l r).1=l++ws∧ws.length=n∧r.l=ws.flatMap wrB++(wrsR n l r).2.l
 | 0,l,r,h=>⟨h,[],by simp[wrsR],rfl,by simp[wrsR]⟩
 | n+1,l,r,h=>by
   simp only[wrsR]at h ⊢;cases hb:r.bad with
   | true=>rw[hb,yaj rfl]at h;rw[hb]at h;cases h
   | false=>
     rw[hb,yad (by simp)]at h;rw[yad (by simp)];obtain⟨h1,ws,e1,e2,e3⟩:=wrsR_back n _ _ h;simp only[Bool.or_eq_false_iff,yaD]at h1;obtain⟨_,l1⟩:=wrR_back h1.1.1 (by omega);refine⟨rfl,(wrR r).1::ws,?_,by simp[e2],?_⟩
     ·rw[e1];simp
     ·simp only at e3
      rw[l1,yaN,ybh];exact yaS _ e3
theorem zlx {c:UInt8}{b:List UInt8}(h:(zbj c b).bad=false):b=c::(zbj c b).l:=by
 unfold zbj at h ⊢;cases b with
 | nil=>cases h
 | cons x l=>
   simp only at h ⊢;by_cases e:x=c
   ·rw[yaj e,e]
   ·rw[yad e]at h;cases h
theorem zlr {p:List UInt8}{t:TxP}(h:zgr p=some t):zaf t=true∧txB t=p:=by
 unfold zgr at h;split at h
 ·cases h
 ·rename_i hc
  simp only[Bool.or_eq_true,not_or,Bool.not_eq_true,Bool.not_eq_true',Bool.not_eq_false]at hc;obtain⟨⟨hb,hl⟩,hr⟩:=hc;simp only[yaz]at h;rw[h]at hr;refine⟨by simpa using hr,?_⟩;have hl:(zf5 (zbj 116 p)).2.l=[]:=by simpa using hl
  generalize hr0:zbj 116 p=r at *;have hb':=hb;unfold zf5 at hb' h hl;simp only at hb' h hl;obtain⟨h3,ws,e1,e2,e3⟩:=wrsR_back _ _ _ hb';obtain⟨h2,l2,_⟩:=zcF h3;obtain⟨h1,l1,_⟩:=zhd h2;obtain⟨h0,l0,_⟩:=zhd h1;have hp:=zlx (c:=116) (b:=p) (by rw[hr0];exact h0);rw[hr0]at hp;rw[hp,l0,l1,l2,e3,hl,←h];simp only[e1,ybd,txB,txOf,ybx,e2,ybh,ybM];simp[zbx]
theorem zl3 (s a0 a1 a2 a3:Int):zgr (zfR s a0 a1 a2 a3)=none:=by
 cases e:zgr (zfR s a0 a1 a2 a3)with
 | none=>rfl
 | some t=>have:=(zlr e).2;simp[txB,zfR]at this
def zeL (s a0 a1 a2 a3:Int):Bool:=decide (0≤s∧s<4)&&(okN a0&&okN a1&&okN a2&&okN a3)
theorem zdP {s a0 a1 a2 a3:Int}(h:zeL s a0 a1 a2 a3=true):(0≤s∧s<4)∧(0≤a0∧a0≤1099511627776)∧(0≤a1∧a1≤1099511627776)∧(0≤a2∧a2≤1099511627776)∧(0≤a3∧a3≤1099511627776):=by
 simp only[zeL,okN,yav,yap]at h;obtain⟨h1,⟨⟨h2,h3⟩,h4⟩,h5⟩:=h;exact⟨h1,h2,h3,h4,h5⟩
theorem rawAsk_B (s a0 a1 a2 a3:Int) (l:List UInt8) (h:zeL s a0 a1 a2 a3=true):zg8 ⟨(zfR s a0 a1 a2 a3).drop 1++l,false⟩=((s.toNat,a0.toNat,a1.toNat,a2.toNat,a3.toNat),⟨l,false⟩):=by
 obtain⟨h1,h2,h3,h4,h5⟩:=zdP h;have e:(zfR s a0 a1 a2 a3).drop 1++l=ze8 s.toNat++(zbx [a0.toNat,a1.toNat,a2.toNat,a3.toNat]++l):=by simp[zfR,zbx]
 unfold zg8;simp only[e,zct s.toNat _ false (by omega),zeq a0.toNat a1.toNat a2.toNat a3.toNat _ false (by omega) (by omega) (by omega) (by omega)]
theorem zna (s a0 a1 a2 a3:Int) (l:List UInt8):zbj 97 (zfR s a0 a1 a2 a3++l)=⟨(zfR s a0 a1 a2 a3).drop 1++l,false⟩:=rfl
theorem decAsk_B (s a0 a1 a2 a3:Int) (h:zeL s a0 a1 a2 a3=true):zko (zfR s a0 a1 a2 a3)=some (s.toNat,a0.toNat,a1.toNat,a2.toNat,a3.toNat):=by
 have e:=zna s a0 a1 a2 a3 [];rw[ybM]at e;obtain⟨h1,_⟩:=zdP h;unfold zko;rw[e,rawAsk_B _ _ _ _ _ _ h];simp;omega
end Go.Proofs.YtbopfhbeegkkaabGreatDoor
namespace Go.Proofs.YtbopfhbeegkkaabGreatDoor
open Go.RowKit Go.Proofs.Tryz
structure zaE where
 w:Int
 c:Int
 site:Int
 seq:Int
 data:ByteArray
 gone:Bool
def zcC (v:zaE):List Value:=[ii v.w,ii v.c,ii v.site,ii v.seq,.string v.data,.bool v.gone]
def zbX (v:zaE):Value:=.agg #[v.w,v.c,v.site,v.seq,.string v.data,.bool v.gone]
def zba (v:zaE):Bool:=zav v.w v.c&&decide (0≤v.site)&&decide (v.site<4)&&decide (1≤v.seq)&&decide (v.seq≤1099511627776)&&decide (v.data.size≤12)&&(!v.gone||decide (v.data.size=0))
def zgv (a b:zaE):Int:=if zc1 a.w a.c b.w b.c≠0 then zc1 a.w a.c b.w b.c else a.site-b.site
theorem zg7 {aw ac:Int}{b:Bool}(h:zav aw ac=b) (w:World):Calls prog 135 #[.agg #[ii aw,ii ac]] w fun e w'=>e=.returned (.bool b)∧Below w w w':=by
 subst h;exact zcm aw ac w
theorem zkW (v:zaE) (w:World):Calls prog 175 #[zbX v] w fun e w'=>e=.returned (.bool (zba v))∧Below w w w':=by
 unfold zbX;rcases h0:zav v.w v.c with _|_
 ·have HS:=zac fun w=>zg7 h0 w
  have HF:Hid (zba v=false):=zac (by simp[zba,h0]);clear h0;go_enter func175,ntmps175;go_wp2_with (go_at_call 135;refine(HS.out _).mono ?_;rintro e w' ⟨rfl,hb⟩;obtain⟨x,rfl⟩:=zad hb;clear hb);go_ret;exact⟨by rw[HF.out];rfl,zB⟩
 have HS:=zac fun w=>zg7 h0 w
 by_cases h1:v.site<0
 ·have HF:Hid (zba v=false):=zac (by simp[zba];omega)
  clear h0;go_enter func175,ntmps175;go_wp2_with (go_at_call 135;refine(HS.out _).mono ?_;rintro e w' ⟨rfl,hb⟩;obtain⟨x,rfl⟩:=zad hb;clear hb);go_ret;exact⟨by rw[HF.out];rfl,zB⟩
 by_cases h2:4≤v.site
 ·have HF:Hid (zba v=false):=zac (by simp[zba];omega)
  clear h0;go_enter func175,ntmps175;go_wp2_with (go_at_call 135;refine(HS.out _).mono ?_;rintro e w' ⟨rfl,hb⟩;obtain⟨x,rfl⟩:=zad hb;clear hb);go_ret;exact⟨by rw[HF.out];rfl,zB⟩
 by_cases h3:v.seq<1
 ·have HF:Hid (zba v=false):=zac (by simp[zba];omega)
  clear h0;go_enter func175,ntmps175;go_wp2_with (go_at_call 135;refine(HS.out _).mono ?_;rintro e w' ⟨rfl,hb⟩;obtain⟨x,rfl⟩:=zad hb;clear hb);go_ret;exact⟨by rw[HF.out];rfl,zB⟩
 by_cases h4:1099511627776<v.seq
 ·have HF:Hid (zba v=false):=zac (by simp[zba];omega)
  clear h0;go_enter func175,ntmps175;go_wp2_with (go_at_call 135;refine(HS.out _).mono ?_;rintro e w' ⟨rfl,hb⟩;obtain⟨x,rfl⟩:=zad hb;clear hb);go_ret;exact⟨by rw[HF.out];rfl,zB⟩
 by_cases h5:12<v.data.size
 ·have HF:Hid (zba v=false):=zac (by simp[zba];omega)
  clear h0;go_enter func175,ntmps175;go_wp2_with (go_at_call 135;refine(HS.out _).mono ?_;rintro e w' ⟨rfl,hb⟩;obtain⟨x,rfl⟩:=zad hb;clear hb);go_ret;exact⟨by rw[HF.out];rfl,zB⟩
 obtain⟨vw,vc,site,seq,data,gone⟩:=v;simp only at *;cases gone
 ·have HF:Hid (zba ⟨vw,vc,site,seq,data,false⟩=true):=zac (by simp[zba,h0];omega)
  clear h0;go_enter func175,ntmps175;go_wp2_with (go_at_call 135;refine(HS.out _).mono ?_;rintro e w' ⟨rfl,hb⟩;obtain⟨x,rfl⟩:=zad hb;clear hb);go_ret;exact⟨by rw[HF.out];rfl,zB⟩
 by_cases c4:data.toList=[]
 ·have hs:data.size=0:=by rw[zck,←ya0,c4];rfl
  have HF:Hid (zba ⟨vw,vc,site,seq,data,true⟩=true):=zac (by simp[zba,h0,hs];omega);have c5:data.toList.isEmpty=true:=by rw[c4];rfl
  clear h0 hs;go_enter func175,ntmps175;go_wp2_with (go_at_call 135;refine(HS.out _).mono ?_;rintro e w' ⟨rfl,hb⟩;obtain⟨x,rfl⟩:=zad hb;clear hb);go_ret;exact⟨by rw[HF.out];rfl,zB⟩
 ·have hs:data.size≠0:=by rw[zck,←ya0];intro h;exact c4 (yan h)
  have HF:Hid (zba ⟨vw,vc,site,seq,data,true⟩=false):=zac (by simp[zba,hs]);have c5:data.toList.isEmpty=false:=by simpa using c4
  clear h0 hs;go_enter func175,ntmps175;go_wp2_with (go_at_call 135;refine(HS.out _).mono ?_;rintro e w' ⟨rfl,hb⟩;obtain⟨x,rfl⟩:=zad hb;clear hb);go_ret;exact⟨by rw[HF.out];rfl,zB⟩
theorem zkp (a b:zaE) (w:World) (ha:0≤a.site∧a.site<4) (hb:0≤b.site∧b.site<4):
  Calls prog 177 #[zbX a,zbX b] w fun e w'=>e=.returned (ii (zgv a b))∧Below w w w':=by
 unfold zbX;have HC:=zac fun w=>zgu a.w a.c b.w b.c w
 by_cases h:zc1 a.w a.c b.w b.c=0
 ·have HF:Hid (zgv a b=a.site-b.site):=zac (by unfold zgv;rw[yad (by simpa using h)])
  rw[h]at HC;clear h;obtain⟨ha1,ha2⟩:=ha;obtain⟨hb1,hb2⟩:=hb;go_enter func177,ntmps177;go_wp2_with (go_at_call 114;refine(HC.out _).mono ?_;rintro e w' ⟨rfl,hb⟩;obtain⟨x,rfl⟩:=zad hb;clear hb);go_ret;exact⟨by rw[HF.out];rfl,zB⟩
 ·have HF:Hid (zgv a b=zc1 a.w a.c b.w b.c):=zac (by unfold zgv;rw[yaj h])
  have hne:(zc1 a.w a.c b.w b.c != 0)=true:=by simpa using h
  generalize zc1 a.w a.c b.w b.c=z at *;go_enter func177,ntmps177;go_wp2_with (go_at_call 114;refine(HC.out _).mono ?_;rintro e w' ⟨rfl,hb⟩;obtain⟨x,rfl⟩:=zad hb;clear hb);go_ret;exact⟨by rw[HF.out];rfl,zB⟩
theorem info5:(prog.info? 5).map (fun i=>(i.zero,i.size,i.bytes))=some (some (.int .u8 0),1,1):=by kernel_rfl
def u8s (l:List UInt8):List Value:=l.map fun c=>.int .u8 (c.toNat:Int)
theorem zkG (a b:List UInt8):u8s (a++b)=u8s a++u8s b:=by simp[u8s]
theorem zkF (a:List UInt8):(u8s a).length=a.length:=by simp[u8s]
structure Buf (B:Nat) (w0:World) (v0:Value) (w:World) (v:Value) (bs:List UInt8):Prop where
 own:w.ownsRow B 5 1 v bs.length (u8s bs)
 grown:w0.grownBy w v0.ownBlock
 blk:v.ownBlock=v0.ownBlock∨∀ k,v.ownBlock=some k→w0.heap.size≤k
theorem zch {a b c:World}{r s:Option Nat}(h:a.grownBy b r) (k:b.grownBy c s) (hs:s=r∨∀ j,s=some j→a.heap.size≤j):a.grownBy c r:=
 ⟨k.os.trans h.os,k.tape.trans h.tape,k.output.trans h.output,yac h.size k.size,fun i hi hne=>by
   have h1:=h.block i hi hne;rw[←h1];refine k.block i (yab hi h.size) (fun e=>?_);rcases hs with hs|hs
   ·exact hne (e.trans hs)
   ·have:=hs i e.symm;omega⟩
theorem Buf.step {B:Nat}{w0 w w1:World}{v0 v:Value}{bs:List UInt8}{o:Obj}{x:Int}{g cap:Nat}{H:Nat}(c:UInt8) (h:Buf B w0 v0 w v bs) (hx:x=(c.toNat:Int))
  (hown:w1.ownsRow B 5 1 (.slice (some ⟨g,0,none⟩) (bs.length+1) cap) (bs.length+1) (u8s bs++[.int .u8 x])) (hg:(w.alloc o).grownBy w1 v.ownBlock) (hH:(w.alloc o).heap.size=H)
  (hl:v.ownBlock=some g∨g=H):Buf B w0 v0 w1 (.slice (some ⟨g,0,none⟩) (bs.length+1) cap) (bs++[c]):=by
 have hs:w0.heap.size≤w.heap.size:=h.grown.size;refine⟨?_,?_,?_⟩
 ·subst hx;simpa[u8s]using hown
 ·refine zch (h.grown) ?_ h.blk
  exact zch (yb1 w o v.ownBlock) hg (.inl rfl)
 ·rcases hl with hl|hl
  ·rcases h.blk with hb|hb
   ·left;rw[←hb,hl];rfl
   ·right;intro k hk;exact hb k (by rw[hl];exact hk)
  ·right;intro k hk
   have:k=g:=by simpa[Value.ownBlock]using hk.symm
   rw[this,hl,←hH];simp;omega
theorem or128:∀ x:Fin 256,bits BinOp.or IntKind.u8 (x.val:Int) 128=((x.val % 128+128:Nat):Int):=by decide +kernel
theorem zmE (m:Nat):bits BinOp.or IntKind.u8 ((m:Int) % 256) 128=(((m % 128+128).toUInt8.toNat:Nat):Int):=by
 have h:=or128 ⟨m % 256,Nat.mod_lt _ zI⟩;simp only at h;have e:((m:Int) % 256)=((m % 256:Nat):Int):=by omega
 rw[e,h,Nat.mod_mod_of_dvd _ zI];simp;omega
theorem put_any (B:Nat) (v:Value) (bs:List UInt8) (zs:List Nat) (lb lo c:Nat) (w:World) (hB:B≤w.heap.size)
  (hown:w.ownsRow B 5 1 v bs.length (u8s bs)) (hz:∀ z∈zs,z<4398046511104) (hbs:bs.length+6*zs.length≤1000000)
  (hl:∀ (i:Nat) (z:Nat),zs[i]?=some z→w.cell? ⟨lb,lo+i,none⟩=some (ii (z:Int))) (hne:v.ownBlock≠some lb):
  Calls prog 183 #[v,.slice (some ⟨lb,lo,none⟩) zs.length c] w fun e w'=>∃ v',e=.returned v'∧Buf B w v w' v' (bs++zbx zs):=by
 obtain⟨i0,hi,hz0,hz1,hz2⟩:=yb5 info5;have hbuf0:Buf B w v w v bs:=⟨hown,ycm _ _,.inl rfl⟩;have HBUF0:=zac hbuf0;have hlen:∀ k,k≤zs.length→(zbx (zs.take k)).length≤6*k:=by
  intro k
  induction k with
  | zero=>intro _;simp[zbx]
  | succ k ih=>
    intro hk;have h1:=ih zO;rw[ya5 zO];simp only[zbx,yaJ,yak,yaN,List.flatMap_nil,ybM]at h1 ⊢;have:=zfJ (zs[k]) 6 (hz _ (yaw zO)) zO;omega
 have hcells:∀ (wr:World) (b:Value) (L:List UInt8),Buf B w v wr b L→∀ (k:Nat) (h:k<zs.length),wr.cell? ⟨lb,lo+k,none⟩=some (ii ((zs[k]:Nat):Int)):=by
  intro wr b L hb k h;have h1:=hl k zs[k] (yaa h);have hlt:=ybb w _ h1;rw[yam (w:=w) (hb.grown.block lb hlt (fun e=>hne e.symm))];exact h1
 have HLEN:=zac hlen;have HC:=zac hcells;clear hbuf0 hl hown hne hlen hcells;have HZ:=zac hz;clear hz;go_enter func183,ntmps183;go_wp2;go_loopw [0,9] (fun b i wr=>∃ (k:Nat) (L:List UInt8),k≤zs.length∧i=ii k∧L=bs++zbx (zs.take k)∧Buf B w v wr b L) (fun _ i _=>zs.length-(intOf i).toNat)
 case atStart=>exact⟨0,bs,yay _,rfl,by simp[zbx],HBUF0.out⟩
 case round=>
  obtain⟨k,L,hk,rfl,hLe,hbuf⟩:=hrel;have HBUF:=zac hbuf;have HLE:=zac hLe;clear hbuf hLe;by_cases hlt:k<zs.length
  ·have hcell:=HC.out wr _ _ HBUF.out k hlt
   go_wp2;obtain⟨wo,rfl⟩:∃ wo:World,wo=wr:=⟨_,rfl⟩;have HZK:=zac (HZ.out _ (yaw hlt));generalize hzz:zs[k]=z at *;have HZZ:=zac hzz;clear hzz hcell;go_loopw [0,6] (fun b n wr=>∃ (m:Nat) (L':List UInt8),n=ii m∧L'++ze8 m=L++ze8 z∧Buf B w v wr b L') (fun _ n _=>(intOf n).toNat)
   case atStart=>exact⟨z,L,rfl,rfl,HBUF.out⟩
   case round=>
    obtain⟨m,L',rfl,hLm,hb⟩:=hrel;have hL:L'.length≤1000000:=by
     have h1:=yaS List.length hLm;have h2:=zfJ z 6 HZK.out zO;have h3:=yaS List.length HLE.out;have h4:=HLEN.out k hk;simp only[yak]at h1 h3;omega
    have HB:=zac hb;have HM:=zac hLm;have HL:=zac hL;clear hb hLm hL;by_cases hm:128≤m
    ·go_wp2_with (at_builtin;go_must (refine wpList_append_lies _ rfl _ _ 207 rfl B 5 i0 (.int .u8 0) 1 1 underlying207 hi hz0 hz1 hz2 rfl zI _ _ _ rfl (HB.out.own.alloc _) ⟨wr,0,none⟩ 1 1 [_] rfl rfl (cell_one_new _ _ _) ?c1 zI ?c2 ?c3 ?c4 _ rfl ?_))
     case c1=>simp[Value.oneCell']
     case c2=>have:=HL.out;simp only[maxLen];omega
     case c3=>have:=HL.out;omega
     case c4=>have:=HB.out.grown.size;simp;omega
     intro g cap w1 hown1 hgrow hgl hlt1;have hb1:=Buf.step (m % 128+128).toUInt8 HB.out (zmE m) hown1 hgrow rfl (by simpa using hgl);have HB1:=zac hb1;clear hb1 hown1 hgrow hgl hlt1;go_wp2;go_roundw
     case rel=>
      refine⟨m / 128,_,?_,?_,HB1.out⟩
      ·exact yaS (Value.int IntKind.i64) zO
      ·rw[ybh,←HM.out,zhY (n:=m) zO];rfl
     case measure=>simp only[intOf];omega
    ·go_wp2_with (at_builtin;go_must (refine wpList_append_lies _ rfl _ _ 207 rfl B 5 i0 (.int .u8 0) 1 1 underlying207 hi hz0 hz1 hz2 rfl zI _ _ _ rfl (HB.out.own.alloc _) ⟨wr,0,none⟩ 1 1 [_] rfl rfl (cell_one_new _ _ _) ?c1 zI ?c2 ?c3 ?c4 _ rfl ?_))
     case c1=>simp[Value.oneCell']
     case c2=>have:=HL.out;simp only[maxLen];omega
     case c3=>have:=HL.out;omega
     case c4=>have:=HB.out.grown.size;simp;omega
     intro g cap w1 hown1 hgrow hgl hlt1;have hb1:=Buf.step m.toUInt8 HB.out zP hown1 hgrow rfl (by simpa using hgl);have HB1:=zac hb1;clear hb1 hown1 hgrow hgl hlt1;go_wp2;go_roundw
     case rel=>
      refine⟨k+1,_,zO,by go_num,?_,HB1.out⟩;rw[ya5 hlt,HZZ.out];have h1:=HM.out;rw[zhX (n:=m) zO,HLE.out]at h1;simpa[zbx]using h1
     case measure=>simp[intOf];omega
  ·go_wp2
   go_ret;have hk':k=zs.length:=by omega
   refine⟨_,rfl,?_⟩;have h1:=HBUF.out;rw[HLE.out,hk',ybD]at h1;exact h1
def zaN (w:World) (A:Option Addr) (ws:List WrP):Prop:=∀ (i:Nat) (x:WrP),ws[i]?=some x→∃ b o,A=some ⟨b,o,none⟩∧b<w.heap.size∧w.cell? ⟨b,o+i*3,none⟩=some (ii x.key)∧w.cell? ⟨b,o+i*3+1,none⟩=some (.string x.data)∧w.cell? ⟨b,o+i*3+2,none⟩=some (.bool x.gone)
theorem zaN.below {w w':World}{A:Option Addr}{ws:List WrP}(h:zaN w A ws) (hb:Below w w w'):zaN w' A ws:=fun i x hx=>by
 obtain⟨b,o,hA,hlt,h0,h1,h2⟩:=h i x hx;refine⟨b,o,hA,yab hlt hb.size,?_,?_,?_⟩
 ·rw[hb.cell (p:=⟨b,o+i*3,none⟩) hlt];exact h0
 ·rw[hb.cell (p:=⟨b,o+i*3+1,none⟩) hlt];exact h1
 ·rw[hb.cell (p:=⟨b,o+i*3+2,none⟩) hlt];exact h2
theorem zcS (A:Option Addr) (c:Nat) (ws:List WrP) (w:World) (hn:ws.length≤1000000) (hws:zaN w A ws):
  Calls prog 76 #[.slice A ws.length c] w fun e w'=>e=.returned (.bool (zaX ws))∧Below w w w':=by
 have HWS:=zac hws;clear hws;go_enter func76,ntmps76;go_wp2;go_loopw [3,8] (fun l i wr=>∃ (k:Nat) (z:Int),k≤ws.length∧i=ii k∧l=ii z∧-1≤z∧Below w w wr∧rwGo (-1) ws=rwGo z (ws.drop k)) (fun _ i _=>ws.length-(intOf i).toNat)
 case atStart=>exact⟨0,-1,yay _,rfl,rfl,zO,yaf _ _,rfl⟩
 case round=>
  obtain⟨k,z,hk,rfl,rfl,hz,hbl,hrw⟩:=hrel;obtain⟨x,rfl⟩:=zad hbl;clear hbl;have HRW:=zac hrw;clear hrw;by_cases hlt:k<ws.length
  ·obtain⟨b,o,rfl,hb,h0,h1,h2⟩:=HWS.out k ws[k] (yaa hlt)
   haveI:zaj (b+1) w:=⟨hb⟩;generalize hx:ws[k]=y at h0 h1 h2;have HX:=zac hx;clear hx;have hdrop:ws.drop k=y::ws.drop (k+1):=by rw[yaK hlt,HX.out]
   have hbad:zfN z y=true→zaX ws=false:=fun h=>by
    rw[zaX,HRW.out,hdrop];simp[rwGo,h]
   have hgood:zfN z y=false→rwGo (-1) ws=rwGo y.key (ws.drop (k+1)):=fun h=>by
    rw[HRW.out,hdrop];simp[rwGo,h]
   have HB:=zac hbad;have HG:=zac hgood;clear hbad hgood hdrop;by_cases c1:y.key≤z
   ·have HF:=zac (HB.out (by simp[zfN,c1]))
    go_wp2;go_ret;exact⟨by rw[HF.out];rfl,zB⟩
   by_cases c2:8≤y.key
   ·have HF:=zac (HB.out (by simp[zfN,c2]))
    go_wp2;go_ret;exact⟨by rw[HF.out];rfl,zB⟩
   by_cases c3:12<y.data.size
   ·have HF:=zac (HB.out (by simp[zfN,c3]))
    go_wp2;go_ret;exact⟨by rw[HF.out];rfl,zB⟩
   obtain⟨key,data,gone⟩:=y;simp only at *;cases gone
   ·have HF:=zac (HG.out (by simp[zfN];omega))
    go_wp2;go_roundw
    case rel=>exact⟨k+1,key,zO,by go_num,rfl,zO,zB,HF.out⟩
    case measure=>simp[intOf];omega
   ·by_cases c4:data.toList=[]
    ·have hs:data.size=0:=by rw[zck,←ya0,c4];rfl
     have HF:=zac (HG.out (by simp[zfN,hs];omega));clear hs;go_wp2;go_roundw
     case rel=>exact⟨k+1,key,zO,by go_num,rfl,zO,zB,HF.out⟩
     case measure=>simp[intOf];omega
    ·have hs:data.size≠0:=by rw[zck,←ya0];intro h;exact c4 (yan h)
     have HF:=zac (HB.out (by simp[zfN,hs]));clear hs;have c4':(!data.toList.isEmpty)=true:=by simpa using c4
     go_wp2;go_ret;exact⟨by rw[HF.out];rfl,zB⟩
  ·have hkk:k=ws.length:=by omega
   have hfin:zaX ws=(decide (1≤ws.length)&&decide (ws.length≤5)):=by
    have h1:=HRW.out;rw[hkk,ybt]at h1;rw[zaX,h1];simp[rwGo]
   have HF:=zac hfin;clear hfin hkk HRW;by_cases c1:1≤ws.length
   ·by_cases c2:ws.length≤5
    ·go_wp2
     go_ret;exact⟨by rw[HF.out];simp[c1,c2];try omega,zB⟩
    ·go_wp2
     go_ret;exact⟨by rw[HF.out];simp[c1,c2];try omega,zB⟩
   ·go_wp2
    go_ret;exact⟨by rw[HF.out];simp[c1],zB⟩
theorem size3 (w:World):(sizeOf 3).run prog w=.ok 1 w:=by kernel_rfl
@[go_sem] theorem eqVec(w : World) (d : Nat) (a0 a1 a2 a3 b0 b1 b2 b3 : Int) :
   (Op.equalIn (d+2) 32 (.agg #[a0,a1,a2,a3]) (.agg #[b0,b1,b2,b3])).run prog w=.ok (a0==b0&&a1==b1&&a2==b2&&a3==b3) w:=
  zfz w d 32 3 .i64 _ _ _ _ _ _ _ _ underlying32 size3 underlying3
def zcq (a0 a1 a2 a3:Int):Bool:=decide (0≤a0∧a0≤1099511627776)&&decide (0≤a1∧a1≤1099511627776)&&decide (0≤a2∧a2≤1099511627776)&&decide (0≤a3∧a3≤1099511627776)
@[go_sem] theorem ix0(w : World) (a0 a1 a2 a3 : Int) : (Instr.index 32 (.agg #[a0, a1, a2, a3]) (ii 0)).run prog w = .ok (ii a0) w := by kernel_rfl
@[go_sem] theorem ix1(w : World) (a0 a1 a2 a3 : Int) : (Instr.index 32 (.agg #[a0, a1, a2, a3]) (ii 1)).run prog w = .ok (ii a1) w := by kernel_rfl
@[go_sem] theorem ix2(w : World) (a0 a1 a2 a3 : Int) : (Instr.index 32 (.agg #[a0, a1, a2, a3]) (ii 2)).run prog w = .ok (ii a2) w := by kernel_rfl
@[go_sem] theorem ix3(w : World) (a0 a1 a2 a3 : Int) : (Instr.index 32 (.agg #[a0, a1, a2, a3]) (ii 3)).run prog w = .ok (ii a3) w := by kernel_rfl
theorem zmk (a0 a1 a2 a3:Int) (w:World):
  Calls prog 77 #[.agg #[ii a0,ii a1,ii a2,ii a3]] w
   fun e w'=>e=.returned (.bool (zcq a0 a1 a2 a3))∧Below w w w':=by
 go_enter func77,ntmps77;go_wp2;refine ybA 5 ?_;rw[yaO];by_cases p0:a0<0
 ·go_wp2
  all_goals go_ret
  all_goals exact⟨by simp[zcq];omega,zB⟩
 by_cases q0:1099511627776<a0
 ·go_wp2
  all_goals go_ret
  all_goals exact⟨by simp[zcq];omega,zB⟩
 go_wp2;rw[yaO];by_cases p1:a1<0
 ·go_wp2
  all_goals go_ret
  all_goals exact⟨by simp[zcq];omega,zB⟩
 by_cases q1:1099511627776<a1
 ·go_wp2
  all_goals go_ret
  all_goals exact⟨by simp[zcq];omega,zB⟩
 go_wp2;rw[yaO];by_cases p2:a2<0
 ·go_wp2
  all_goals go_ret
  all_goals exact⟨by simp[zcq];omega,zB⟩
 by_cases q2:1099511627776<a2
 ·go_wp2
  all_goals go_ret
  all_goals exact⟨by simp[zcq];omega,zB⟩
 go_wp2;rw[yaO];by_cases p3:a3<0
 ·go_wp2
  all_goals go_ret
  all_goals exact⟨by simp[zcq];omega,zB⟩
 by_cases q3:1099511627776<a3
 ·go_wp2
  all_goals go_ret
  all_goals exact⟨by simp[zcq];omega,zB⟩
 go_wp2;rw[yaO];go_wp2;go_ret;exact⟨by simp[zcq];omega,zB⟩
theorem zk8 (a0 a1 a2 a3:Int) (w:World):
  Calls prog 72 #[.agg #[ii a0,ii a1,ii a2,ii a3]] w
   fun e w'=>e=.returned (.bool (zcq a0 a1 a2 a3))∧Below w w w':=by
 go_enter func72,ntmps72;go_wp2;refine ybA 5 ?_;rw[yaO];by_cases p0:a0<0
 ·go_wp2_with (go_at_call 96;refine(zcL _ _ _ _ zO).mono ?_;rintro e w' ⟨rfl,rfl⟩)
  all_goals go_ret
  all_goals exact⟨by simp[zcq];omega,zB⟩
 by_cases q0:1099511627776<a0
 ·go_wp2_with (go_at_call 96;refine(zcL _ _ _ _ zO).mono ?_;rintro e w' ⟨rfl,rfl⟩)
  all_goals go_ret
  all_goals exact⟨by simp[zcq];omega,zB⟩
 go_wp2_with (go_at_call 96;refine(zce _ _ _ _ zO zO).mono ?_;rintro e w' ⟨rfl,rfl⟩);rw[yaO];by_cases p1:a1<0
 ·go_wp2_with (go_at_call 96;refine(zcL _ _ _ _ zO).mono ?_;rintro e w' ⟨rfl,rfl⟩)
  all_goals go_ret
  all_goals exact⟨by simp[zcq];omega,zB⟩
 by_cases q1:1099511627776<a1
 ·go_wp2_with (go_at_call 96;refine(zcL _ _ _ _ zO).mono ?_;rintro e w' ⟨rfl,rfl⟩)
  all_goals go_ret
  all_goals exact⟨by simp[zcq];omega,zB⟩
 go_wp2_with (go_at_call 96;refine(zce _ _ _ _ zO zO).mono ?_;rintro e w' ⟨rfl,rfl⟩);rw[yaO];by_cases p2:a2<0
 ·go_wp2_with (go_at_call 96;refine(zcL _ _ _ _ zO).mono ?_;rintro e w' ⟨rfl,rfl⟩)
  all_goals go_ret
  all_goals exact⟨by simp[zcq];omega,zB⟩
 by_cases q2:1099511627776<a2
 ·go_wp2_with (go_at_call 96;refine(zcL _ _ _ _ zO).mono ?_;rintro e w' ⟨rfl,rfl⟩)
  all_goals go_ret
  all_goals exact⟨by simp[zcq];omega,zB⟩
 go_wp2_with (go_at_call 96;refine(zce _ _ _ _ zO zO).mono ?_;rintro e w' ⟨rfl,rfl⟩);rw[yaO];by_cases p3:a3<0
 ·go_wp2_with (go_at_call 96;refine(zcL _ _ _ _ zO).mono ?_;rintro e w' ⟨rfl,rfl⟩)
  all_goals go_ret
  all_goals exact⟨by simp[zcq];omega,zB⟩
 by_cases q3:1099511627776<a3
 ·go_wp2_with (go_at_call 96;refine(zcL _ _ _ _ zO).mono ?_;rintro e w' ⟨rfl,rfl⟩)
  all_goals go_ret
  all_goals exact⟨by simp[zcq];omega,zB⟩
 go_wp2_with (go_at_call 96;refine(zce _ _ _ _ zO zO).mono ?_;rintro e w' ⟨rfl,rfl⟩);rw[yaO];go_wp2;go_ret;exact⟨by simp[zcq];omega,zB⟩
end Go.Proofs.YtbopfhbeegkkaabGreatDoor
