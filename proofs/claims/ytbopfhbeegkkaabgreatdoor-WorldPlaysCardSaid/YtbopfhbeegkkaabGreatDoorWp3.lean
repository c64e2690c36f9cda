/- Part 3 of a proof: lemmas and contracts that other parts use. -/
import Derived.Test.YtbopfhbeegkkaabGreatDoorWp2
import Derived.Test.YtbopfhbeegkkaabGreatDoorWp1
import Derived.Deep.RegionHeld3
import Derived.Laws.BitsAllLaws
import Derived.Laws.BitsLemmas
import Derived.Laws.BytesArg
set_option linter.unusedVariables false
set_option linter.unusedSimpArgs false
set_option maxHeartbeats 8000000
set_option maxRecDepth 100000
namespace Go.Proofs.YtbopfhbeegkkaabGreatDoor
open Go.RowKit Go.Proofs.Tryz
theorem zcb {aw ac:Int}{b:Bool}(h:zav aw ac=b) (w:World):Calls prog 135 #[.agg #[ii aw,ii ac]] w fun e w'=>e=.returned (.bool b)∧Below w w w':=by
 subst h;exact zcm aw ac w
theorem zbY {a0 a1 a2 a3:Int}{b:Bool}(h:zcq a0 a1 a2 a3=b) (w:World):Calls prog 77 #[.agg #[ii a0,ii a1,ii a2,ii a3]] w fun e w'=>e=.returned (.bool b)∧Below w w w':=by
 subst h;exact zmk a0 a1 a2 a3 w
theorem zaL (t:TxP):zgo t=(decide (0≤t.site∧t.site<4)&&decide (1≤t.seq∧t.seq≤1099511627776)&&zav t.wall t.count&&zcq t.d0 t.d1 t.d2 t.d3&&decide (zdi t=t.seq-1)):=by
 rw[ybq];simp only[zgo,okN,zav,zcq,yav,yap];constructor <;> (intro h;simp only[and_assoc]at h ⊢;obtain⟨h0,h1,h2,h3,h4,h5,h6,h7,h8⟩:=h;omega)
theorem rtx_1 (site:Int) (seq wall count d0 d1 d2 d3:Int) (A:Option Addr) (c:Nat) (ws:List WrP) (w:World) (hn:ws.length≤1000000) (hws:zaN w A ws) (hseq:-9223372036854775808≤seq∧seq≤9223372036854775807) (h1:site<0):
  Calls prog 82 #[.agg #[ii site,ii seq,ii wall,ii count,ii d0,ii d1,ii d2,ii d3,.slice A ws.length c]] w
   fun e w'=>e=.returned (.bool (zaf ⟨site,seq,wall,count,d0,d1,d2,d3,ws⟩))∧Below w w w':=by
 have HF:Hid (zaf ⟨site,seq,wall,count,d0,d1,d2,d3,ws⟩=false):=zac (by rw[zaf,zaL];simp;omega);clear hws;have _:decide (site<0)=true:=by simpa using h1
 go_enter func82,ntmps82;go_wp2;refine zaz fun x=>?_
 go_wp2;go_ret;exact⟨by rw[HF.out];rfl,zB⟩
theorem rtx_2 (site:Int) (seq wall count d0 d1 d2 d3:Int) (A:Option Addr) (c:Nat) (ws:List WrP) (w:World) (hn:ws.length≤1000000) (hws:zaN w A ws) (hseq:-9223372036854775808≤seq∧seq≤9223372036854775807) (h1:0≤site) (h2:4≤site):
  Calls prog 82 #[.agg #[ii site,ii seq,ii wall,ii count,ii d0,ii d1,ii d2,ii d3,.slice A ws.length c]] w
   fun e w'=>e=.returned (.bool (zaf ⟨site,seq,wall,count,d0,d1,d2,d3,ws⟩))∧Below w w w':=by
 have HF:Hid (zaf ⟨site,seq,wall,count,d0,d1,d2,d3,ws⟩=false):=zac (by rw[zaf,zaL];simp;omega);clear hws;have _:decide (site<0)=false:=by simpa using h1
 have _:decide (4≤site)=true:=by simpa using h2
 go_enter func82,ntmps82;go_wp2;refine zaz fun x=>?_
 go_wp2;go_ret;exact⟨by rw[HF.out];rfl,zB⟩
theorem rtx_3 (site:Int) (seq wall count d0 d1 d2 d3:Int) (A:Option Addr) (c:Nat) (ws:List WrP) (w:World) (hn:ws.length≤1000000) (hws:zaN w A ws) (hseq:-9223372036854775808≤seq∧seq≤9223372036854775807) (h1:0≤site) (h2:site<4) (h3:seq<1):
  Calls prog 82 #[.agg #[ii site,ii seq,ii wall,ii count,ii d0,ii d1,ii d2,ii d3,.slice A ws.length c]] w
   fun e w'=>e=.returned (.bool (zaf ⟨site,seq,wall,count,d0,d1,d2,d3,ws⟩))∧Below w w w':=by
 have HF:Hid (zaf ⟨site,seq,wall,count,d0,d1,d2,d3,ws⟩=false):=zac (by rw[zaf,zaL];simp;omega);clear hws;have _:decide (site<0)=false:=by simpa using h1
 have _:decide (4≤site)=false:=by simpa using h2
 have _:decide (seq<1)=true:=by simpa using h3
 go_enter func82,ntmps82;go_wp2;refine zaz fun x=>?_
 go_wp2;go_ret;exact⟨by rw[HF.out];rfl,zB⟩
theorem rtx_4 (site:Int) (seq wall count d0 d1 d2 d3:Int) (A:Option Addr) (c:Nat) (ws:List WrP) (w:World) (hn:ws.length≤1000000) (hws:zaN w A ws) (hseq:-9223372036854775808≤seq∧seq≤9223372036854775807) (h1:0≤site) (h2:site<4) (h3:1≤seq) (h4:1099511627776<seq):
  Calls prog 82 #[.agg #[ii site,ii seq,ii wall,ii count,ii d0,ii d1,ii d2,ii d3,.slice A ws.length c]] w
   fun e w'=>e=.returned (.bool (zaf ⟨site,seq,wall,count,d0,d1,d2,d3,ws⟩))∧Below w w w':=by
 have HF:Hid (zaf ⟨site,seq,wall,count,d0,d1,d2,d3,ws⟩=false):=zac (by rw[zaf,zaL];simp;omega);clear hws;have _:decide (site<0)=false:=by simpa using h1
 have _:decide (4≤site)=false:=by simpa using h2
 have _:decide (seq<1)=false:=by simpa using h3
 have _:decide (1099511627776<seq)=true:=by simpa using h4
 go_enter func82,ntmps82;go_wp2;refine zaz fun x=>?_
 go_wp2;go_ret;exact⟨by rw[HF.out];rfl,zB⟩
theorem rtx_5 (site:Int) (seq wall count d0 d1 d2 d3:Int) (A:Option Addr) (c:Nat) (ws:List WrP) (w:World) (hn:ws.length≤1000000) (hws:zaN w A ws) (hseq:-9223372036854775808≤seq∧seq≤9223372036854775807) (h1:0≤site) (h2:site<4) (h3:1≤seq) (h4:seq≤1099511627776) (hs:zav wall count=false):
  Calls prog 82 #[.agg #[ii site,ii seq,ii wall,ii count,ii d0,ii d1,ii d2,ii d3,.slice A ws.length c]] w
   fun e w'=>e=.returned (.bool (zaf ⟨site,seq,wall,count,d0,d1,d2,d3,ws⟩))∧Below w w w':=by
 have HF:Hid (zaf ⟨site,seq,wall,count,d0,d1,d2,d3,ws⟩=false):=zac (by rw[zaf,zaL];simp[hs]);clear hws;have HS:=zac (fun w=>zcb hs w);clear hs;have _:decide (site<0)=false:=by simpa using h1
 have _:decide (4≤site)=false:=by simpa using h2
 have _:decide (seq<1)=false:=by simpa using h3
 have _:decide (1099511627776<seq)=false:=by simpa using h4
 go_enter func82,ntmps82;go_wp2;refine zaz fun x=>?_
 go_wp2;go_ret;exact⟨by rw[HF.out];rfl,zB⟩
theorem rtx_6 (site:Int) (seq wall count d0 d1 d2 d3:Int) (A:Option Addr) (c:Nat) (ws:List WrP) (w:World) (hn:ws.length≤1000000) (hws:zaN w A ws) (hseq:-9223372036854775808≤seq∧seq≤9223372036854775807) (h1:0≤site) (h2:site<4) (h3:1≤seq) (h4:seq≤1099511627776) (hs:zav wall count=true) (hr:zcq d0 d1 d2 d3=false):
  Calls prog 82 #[.agg #[ii site,ii seq,ii wall,ii count,ii d0,ii d1,ii d2,ii d3,.slice A ws.length c]] w
   fun e w'=>e=.returned (.bool (zaf ⟨site,seq,wall,count,d0,d1,d2,d3,ws⟩))∧Below w w w':=by
 have HF:Hid (zaf ⟨site,seq,wall,count,d0,d1,d2,d3,ws⟩=false):=zac (by rw[zaf,zaL];simp[hr]);clear hws;have HS:=zac (fun w=>zcb hs w);have HR:=zac (fun w=>zbY hr w);clear hs hr;have _:decide (site<0)=false:=by simpa using h1
 have _:decide (4≤site)=false:=by simpa using h2
 have _:decide (seq<1)=false:=by simpa using h3
 have _:decide (1099511627776<seq)=false:=by simpa using h4
 go_enter func82,ntmps82;go_wp2;refine zaz fun x=>?_
 go_wp2;go_ret;exact⟨by rw[HF.out];rfl,zB⟩
theorem rtx_70 (seq wall count d0 d1 d2 d3:Int) (A:Option Addr) (c:Nat) (ws:List WrP) (w:World) (hn:ws.length≤1000000) (hws:zaN w A ws) (hseq:-9223372036854775808≤seq∧seq≤9223372036854775807) (h3:1≤seq) (h4:seq≤1099511627776) (hs:zav wall count=true) (hr:zcq d0 d1 d2 d3=true) (hd:d0≠seq-1):
  Calls prog 82 #[.agg #[ii 0,ii seq,ii wall,ii count,ii d0,ii d1,ii d2,ii d3,.slice A ws.length c]] w
   fun e w'=>e=.returned (.bool (zaf ⟨0,seq,wall,count,d0,d1,d2,d3,ws⟩))∧Below w w w':=by
 have HF:Hid (zaf ⟨0,seq,wall,count,d0,d1,d2,d3,ws⟩=false):=zac (by rw[zaf,zaL];simp[zdi,hd]);clear hws;have HS:=zac (fun w=>zcb hs w);have HR:=zac (fun w=>zbY hr w);have hd1:(d0 != seq-1)=true:=by simpa using hd
 clear hs hr hd;have _:decide (seq<1)=false:=by simpa using h3
 have _:decide (1099511627776<seq)=false:=by simpa using h4
 go_enter func82,ntmps82;go_wp2;refine zaz fun x=>?_
 go_wp2;go_ret;exact⟨by rw[HF.out];rfl,zB⟩
theorem rtx_80 (seq wall count d0 d1 d2 d3:Int) (A:Option Addr) (c:Nat) (ws:List WrP) (w:World) (hn:ws.length≤1000000) (hws:zaN w A ws) (hseq:-9223372036854775808≤seq∧seq≤9223372036854775807) (h3:1≤seq) (h4:seq≤1099511627776) (hs:zav wall count=true) (hr:zcq d0 d1 d2 d3=true) (hd:d0=seq-1):
  Calls prog 82 #[.agg #[ii 0,ii seq,ii wall,ii count,ii d0,ii d1,ii d2,ii d3,.slice A ws.length c]] w
   fun e w'=>e=.returned (.bool (zaf ⟨0,seq,wall,count,d0,d1,d2,d3,ws⟩))∧Below w w w':=by
 have HF:Hid (zaf ⟨0,seq,wall,count,d0,d1,d2,d3,ws⟩=zaX ws):=zac (by rw[zaf,zaL];simp only[zdi];rw[hs,hr,yae (show 1≤seq∧seq≤1099511627776 from ⟨h3,h4⟩)];simp[hd]);have HS:=zac (fun w=>zcb hs w);have HR:=zac (fun w=>zbY hr w);have HW:=zac hws;have hd1:(d0 != seq-1)=false:=by simpa using hd
 clear hs hr hd hws;have _:decide (seq<1)=false:=by simpa using h3
 have _:decide (1099511627776<seq)=false:=by simpa using h4
 go_enter func82,ntmps82;go_wp2;refine zaz fun x=>?_
 go_wp2_with fail;refine(zcS A c ws _ hn (HW.out.below zB)).mono ?_;rintro e w' ⟨rfl,hb⟩;obtain⟨y,rfl⟩:=zad hb;clear hb;go_wp2;go_ret;exact⟨by rw[HF.out];rfl,zB⟩
theorem rtx_71 (seq wall count d0 d1 d2 d3:Int) (A:Option Addr) (c:Nat) (ws:List WrP) (w:World) (hn:ws.length≤1000000) (hws:zaN w A ws) (hseq:-9223372036854775808≤seq∧seq≤9223372036854775807) (h3:1≤seq) (h4:seq≤1099511627776) (hs:zav wall count=true) (hr:zcq d0 d1 d2 d3=true) (hd:d1≠seq-1):
  Calls prog 82 #[.agg #[ii 1,ii seq,ii wall,ii count,ii d0,ii d1,ii d2,ii d3,.slice A ws.length c]] w
   fun e w'=>e=.returned (.bool (zaf ⟨1,seq,wall,count,d0,d1,d2,d3,ws⟩))∧Below w w w':=by
 have HF:Hid (zaf ⟨1,seq,wall,count,d0,d1,d2,d3,ws⟩=false):=zac (by rw[zaf,zaL];simp[zdi,hd]);clear hws;have HS:=zac (fun w=>zcb hs w);have HR:=zac (fun w=>zbY hr w);have hd1:(d1 != seq-1)=true:=by simpa using hd
 clear hs hr hd;have _:decide (seq<1)=false:=by simpa using h3
 have _:decide (1099511627776<seq)=false:=by simpa using h4
 go_enter func82,ntmps82;go_wp2;refine zaz fun x=>?_
 go_wp2;go_ret;exact⟨by rw[HF.out];rfl,zB⟩
theorem rtx_81 (seq wall count d0 d1 d2 d3:Int) (A:Option Addr) (c:Nat) (ws:List WrP) (w:World) (hn:ws.length≤1000000) (hws:zaN w A ws) (hseq:-9223372036854775808≤seq∧seq≤9223372036854775807) (h3:1≤seq) (h4:seq≤1099511627776) (hs:zav wall count=true) (hr:zcq d0 d1 d2 d3=true) (hd:d1=seq-1):
  Calls prog 82 #[.agg #[ii 1,ii seq,ii wall,ii count,ii d0,ii d1,ii d2,ii d3,.slice A ws.length c]] w
   fun e w'=>e=.returned (.bool (zaf ⟨1,seq,wall,count,d0,d1,d2,d3,ws⟩))∧Below w w w':=by
 have HF:Hid (zaf ⟨1,seq,wall,count,d0,d1,d2,d3,ws⟩=zaX ws):=zac (by rw[zaf,zaL];simp only[zdi];rw[hs,hr,yae (show 1≤seq∧seq≤1099511627776 from ⟨h3,h4⟩)];simp[hd]);have HS:=zac (fun w=>zcb hs w);have HR:=zac (fun w=>zbY hr w);have HW:=zac hws;have hd1:(d1 != seq-1)=false:=by simpa using hd
 clear hs hr hd hws;have _:decide (seq<1)=false:=by simpa using h3
 have _:decide (1099511627776<seq)=false:=by simpa using h4
 go_enter func82,ntmps82;go_wp2;refine zaz fun x=>?_
 go_wp2_with fail;refine(zcS A c ws _ hn (HW.out.below zB)).mono ?_;rintro e w' ⟨rfl,hb⟩;obtain⟨y,rfl⟩:=zad hb;clear hb;go_wp2;go_ret;exact⟨by rw[HF.out];rfl,zB⟩
theorem rtx_72 (seq wall count d0 d1 d2 d3:Int) (A:Option Addr) (c:Nat) (ws:List WrP) (w:World) (hn:ws.length≤1000000) (hws:zaN w A ws) (hseq:-9223372036854775808≤seq∧seq≤9223372036854775807) (h3:1≤seq) (h4:seq≤1099511627776) (hs:zav wall count=true) (hr:zcq d0 d1 d2 d3=true) (hd:d2≠seq-1):
  Calls prog 82 #[.agg #[ii 2,ii seq,ii wall,ii count,ii d0,ii d1,ii d2,ii d3,.slice A ws.length c]] w
   fun e w'=>e=.returned (.bool (zaf ⟨2,seq,wall,count,d0,d1,d2,d3,ws⟩))∧Below w w w':=by
 have HF:Hid (zaf ⟨2,seq,wall,count,d0,d1,d2,d3,ws⟩=false):=zac (by rw[zaf,zaL];simp[zdi,hd]);clear hws;have HS:=zac (fun w=>zcb hs w);have HR:=zac (fun w=>zbY hr w);have hd1:(d2 != seq-1)=true:=by simpa using hd
 clear hs hr hd;have _:decide (seq<1)=false:=by simpa using h3
 have _:decide (1099511627776<seq)=false:=by simpa using h4
 go_enter func82,ntmps82;go_wp2;refine zaz fun x=>?_
 go_wp2;go_ret;exact⟨by rw[HF.out];rfl,zB⟩
theorem rtx_82 (seq wall count d0 d1 d2 d3:Int) (A:Option Addr) (c:Nat) (ws:List WrP) (w:World) (hn:ws.length≤1000000) (hws:zaN w A ws) (hseq:-9223372036854775808≤seq∧seq≤9223372036854775807) (h3:1≤seq) (h4:seq≤1099511627776) (hs:zav wall count=true) (hr:zcq d0 d1 d2 d3=true) (hd:d2=seq-1):
  Calls prog 82 #[.agg #[ii 2,ii seq,ii wall,ii count,ii d0,ii d1,ii d2,ii d3,.slice A ws.length c]] w
   fun e w'=>e=.returned (.bool (zaf ⟨2,seq,wall,count,d0,d1,d2,d3,ws⟩))∧Below w w w':=by
 have HF:Hid (zaf ⟨2,seq,wall,count,d0,d1,d2,d3,ws⟩=zaX ws):=zac (by rw[zaf,zaL];simp only[zdi];rw[hs,hr,yae (show 1≤seq∧seq≤1099511627776 from ⟨h3,h4⟩)];simp[hd]);have HS:=zac (fun w=>zcb hs w);have HR:=zac (fun w=>zbY hr w);have HW:=zac hws;have hd1:(d2 != seq-1)=false:=by simpa using hd
 clear hs hr hd hws;have _:decide (seq<1)=false:=by simpa using h3
 have _:decide (1099511627776<seq)=false:=by simpa using h4
 go_enter func82,ntmps82;go_wp2;refine zaz fun x=>?_
 go_wp2_with fail;refine(zcS A c ws _ hn (HW.out.below zB)).mono ?_;rintro e w' ⟨rfl,hb⟩;obtain⟨y,rfl⟩:=zad hb;clear hb;go_wp2;go_ret;exact⟨by rw[HF.out];rfl,zB⟩
theorem rtx_73 (seq wall count d0 d1 d2 d3:Int) (A:Option Addr) (c:Nat) (ws:List WrP) (w:World) (hn:ws.length≤1000000) (hws:zaN w A ws) (hseq:-9223372036854775808≤seq∧seq≤9223372036854775807) (h3:1≤seq) (h4:seq≤1099511627776) (hs:zav wall count=true) (hr:zcq d0 d1 d2 d3=true) (hd:d3≠seq-1):
  Calls prog 82 #[.agg #[ii 3,ii seq,ii wall,ii count,ii d0,ii d1,ii d2,ii d3,.slice A ws.length c]] w
   fun e w'=>e=.returned (.bool (zaf ⟨3,seq,wall,count,d0,d1,d2,d3,ws⟩))∧Below w w w':=by
 have HF:Hid (zaf ⟨3,seq,wall,count,d0,d1,d2,d3,ws⟩=false):=zac (by rw[zaf,zaL];simp[zdi,hd]);clear hws;have HS:=zac (fun w=>zcb hs w);have HR:=zac (fun w=>zbY hr w);have hd1:(d3 != seq-1)=true:=by simpa using hd
 clear hs hr hd;have _:decide (seq<1)=false:=by simpa using h3
 have _:decide (1099511627776<seq)=false:=by simpa using h4
 go_enter func82,ntmps82;go_wp2;refine zaz fun x=>?_
 go_wp2;go_ret;exact⟨by rw[HF.out];rfl,zB⟩
theorem rtx_83 (seq wall count d0 d1 d2 d3:Int) (A:Option Addr) (c:Nat) (ws:List WrP) (w:World) (hn:ws.length≤1000000) (hws:zaN w A ws) (hseq:-9223372036854775808≤seq∧seq≤9223372036854775807) (h3:1≤seq) (h4:seq≤1099511627776) (hs:zav wall count=true) (hr:zcq d0 d1 d2 d3=true) (hd:d3=seq-1):
  Calls prog 82 #[.agg #[ii 3,ii seq,ii wall,ii count,ii d0,ii d1,ii d2,ii d3,.slice A ws.length c]] w
   fun e w'=>e=.returned (.bool (zaf ⟨3,seq,wall,count,d0,d1,d2,d3,ws⟩))∧Below w w w':=by
 have HF:Hid (zaf ⟨3,seq,wall,count,d0,d1,d2,d3,ws⟩=zaX ws):=zac (by rw[zaf,zaL];simp only[zdi];rw[hs,hr,yae (show 1≤seq∧seq≤1099511627776 from ⟨h3,h4⟩)];simp[hd]);have HS:=zac (fun w=>zcb hs w);have HR:=zac (fun w=>zbY hr w);have HW:=zac hws;have hd1:(d3 != seq-1)=false:=by simpa using hd
 clear hs hr hd hws;have _:decide (seq<1)=false:=by simpa using h3
 have _:decide (1099511627776<seq)=false:=by simpa using h4
 go_enter func82,ntmps82;go_wp2;refine zaz fun x=>?_
 go_wp2_with fail;refine(zcS A c ws _ hn (HW.out.below zB)).mono ?_;rintro e w' ⟨rfl,hb⟩;obtain⟨y,rfl⟩:=zad hb;clear hb;go_wp2;go_ret;exact⟨by rw[HF.out];rfl,zB⟩
theorem zel (site seq wall count d0 d1 d2 d3:Int) (A:Option Addr) (c:Nat) (ws:List WrP) (w:World) (hn:ws.length≤1000000) (hws:zaN w A ws) (hseq:-9223372036854775808≤seq∧seq≤9223372036854775807):
  Calls prog 82 #[.agg #[ii site,ii seq,ii wall,ii count,ii d0,ii d1,ii d2,ii d3,.slice A ws.length c]] w
   fun e w'=>e=.returned (.bool (zaf ⟨site,seq,wall,count,d0,d1,d2,d3,ws⟩))∧Below w w w':=by
 by_cases h1:site<0
 ·exact rtx_1 site seq wall count d0 d1 d2 d3 A c ws w hn hws hseq h1
 have h1:0≤site:=by omega
 by_cases h2:4≤site
 ·exact rtx_2 site seq wall count d0 d1 d2 d3 A c ws w hn hws hseq h1 h2
 have h2:site<4:=by omega
 by_cases h3:seq<1
 ·exact rtx_3 site seq wall count d0 d1 d2 d3 A c ws w hn hws hseq h1 h2 h3
 have h3:1≤seq:=by omega
 by_cases h4:1099511627776<seq
 ·exact rtx_4 site seq wall count d0 d1 d2 d3 A c ws w hn hws hseq h1 h2 h3 h4
 have h4:seq≤1099511627776:=by omega
 cases hs:zav wall count
 ·exact rtx_5 site seq wall count d0 d1 d2 d3 A c ws w hn hws hseq h1 h2 h3 h4 hs
 cases hr:zcq d0 d1 d2 d3
 ·exact rtx_6 site seq wall count d0 d1 d2 d3 A c ws w hn hws hseq h1 h2 h3 h4 hs hr
 have h5:site=0∨site=1∨site=2∨site=3:=by omega
 rcases h5 with rfl|rfl|rfl|rfl
 ·by_cases hd:d0=seq-1
  ·exact rtx_80 seq wall count d0 d1 d2 d3 A c ws w hn hws hseq h3 h4 hs hr hd
  ·exact rtx_70 seq wall count d0 d1 d2 d3 A c ws w hn hws hseq h3 h4 hs hr hd
 ·by_cases hd:d1=seq-1
  ·exact rtx_81 seq wall count d0 d1 d2 d3 A c ws w hn hws hseq h3 h4 hs hr hd
  ·exact rtx_71 seq wall count d0 d1 d2 d3 A c ws w hn hws hseq h3 h4 hs hr hd
 ·by_cases hd:d2=seq-1
  ·exact rtx_82 seq wall count d0 d1 d2 d3 A c ws w hn hws hseq h3 h4 hs hr hd
  ·exact rtx_72 seq wall count d0 d1 d2 d3 A c ws w hn hws hseq h3 h4 hs hr hd
 ·by_cases hd:d3=seq-1
  ·exact rtx_83 seq wall count d0 d1 d2 d3 A c ws w hn hws hseq h3 h4 hs hr hd
  ·exact rtx_73 seq wall count d0 d1 d2 d3 A c ws w hn hws hseq h3 h4 hs hr hd
def Fresh (w w':World) (v:Value) (bs:List UInt8):Prop:=Below w w w'∧w'.ownsRow w.heap.size 5 1 v bs.length (u8s bs)
theorem zmC {w:World}{B b:Nat}{c:UInt8}{x:Int}(hB:B≤b) (h:w.heap[b]?=some (.cells #[.int .u8 x] 5)) (hx:x=(c.toNat:Int)):
  w.ownsRow B 5 1 (.slice (some ⟨b,0,none⟩) 1 1) [c].length (u8s [c]):=by
 subst hx;exact⟨by simp[u8s],.inr ⟨b,1,_,rfl,hB,h,yai _,by simp[maxLen],zS,by simp[u8s]⟩⟩
theorem heap_alloc (W:World) (o:Obj) (k:Nat):(W.alloc o).heap[k]?=if k=W.heap.size then some o else W.heap[k]?:=by
 show(W.heap.push o)[k]?=_;rw[Array.getElem?_push]
theorem zaq (W:World):W.drew.heap=W.heap:=rfl
theorem Buf.cell {B:Nat}{w0 w:World}{v0 v:Value}{bs:List UInt8}(h:Buf B w0 v0 w v bs){b o:Nat}{s:Option Nat}(hb:b<w0.heap.size) (hne:v0.ownBlock≠some b):
  w.cell? ⟨b,o,s⟩=w0.cell? ⟨b,o,s⟩:=yam (h.grown.block b hb (fun e=>hne e.symm))
theorem Buf.ne {B:Nat}{w0 w:World}{v0 v:Value}{bs:List UInt8}(h:Buf B w0 v0 w v bs){b:Nat}(hb:b<w0.heap.size) (hne:v0.ownBlock≠some b):v.ownBlock≠some b:=by
 rcases h.blk with hk|hk
 ·rw[hk];exact hne
 ·intro e;have:=hk b e;omega
theorem Buf.below {B n:Nat}{w0 w:World}{v0 v:Value}{bs:List UInt8}(h:Buf B w0 v0 w v bs) (hn:n≤w0.heap.size) (hv:∀ k,v0.ownBlock=some k→n≤k):Below n w0 w:=
 ⟨h.grown.os,h.grown.tape,h.grown.output,h.grown.size,fun k hk=>h.grown.block k zO (fun e=>by have:=hv k e.symm;omega)⟩
theorem zeo (B:Nat) (v:Value) (bs:List UInt8) (zs:List Nat) (lb lo n c:Nat) (w:World) (hn:zs.length=n) (hB:B≤w.heap.size)
  (hown:w.ownsRow B 5 1 v bs.length (u8s bs)) (hz:∀ z∈zs,z<4398046511104) (hbs:bs.length+6*zs.length≤1000000)
  (hl:∀ (i:Nat) (z:Nat),zs[i]?=some z→w.cell? ⟨lb,lo+i,none⟩=some (ii (z:Int))) (hne:v.ownBlock≠some lb):
  Calls prog 183 #[v,.slice (some ⟨lb,lo,none⟩) n c] w fun e w'=>∃ v',e=.returned v'∧Buf B w v w' v' (bs++zbx zs):=by
 subst hn;exact put_any B v bs zs lb lo c w hB hown hz hbs hl hne
theorem zjQ (s a0 a1 a2 a3:Nat) (w:World) (hs:s<4) (hr:zcq a0 a1 a2 a3=true):
  Calls prog 151 #[s,.agg #[ii a0,ii a1,ii a2,ii a3]] w fun e w'=>∃ v,e=.returned (.tuple #[v,.nilIface])∧Fresh w w' v (97::zbx [s,a0,a1,a2,a3]):=by
 have hs':((s:Int)<4):=by omega
 have HB:Hid ((a0≤1099511627776∧a1≤1099511627776)∧(a2≤1099511627776∧a3≤1099511627776)):=zac (by simp only[zcq,yav,yap]at hr;omega);have HR:=zac (fun w=>zbY hr w);clear hr;go_enter func151,ntmps151;go_wp2_with (go_at_call 77;with_reducible refine(HR.out _).mono ?_;rintro e w' ⟨rfl,hb⟩;obtain⟨x,rfl⟩:=zad hb;clear hb);clear HR;go_region_held3 (fun _:World=>True) (trivial) (first
  | (go_at_call 183
     with_reducible refine(zeo w.heap.size v (97::zbx [s]) [a0,a1,a2,a3] w.heap.size 0 4 4 _ rfl ?_ ?_ ?_ ?_ ?_ ?_).mono ?_
     ·exact yac zP hb.grown.size
     ·exact hb.own
     ·intro z hz;have:=HB.out;simp at hz;omega
     ·have:=zfJ s 6 zO zO;simp[zbx];omega
     ·intro i z hi
      rw[hb.cell zP (by simp[Value.ownBlock];omega)];rcases i with _|_|_|_|i <;> simp at hi <;> subst hi <;> simp[go_sem]
     ·exact hb.ne zP (by simp[Value.ownBlock];omega)
     rintro e w'' ⟨v2,rfl,hb2⟩)
  | (go_at_call 183
     with_reducible refine(zeo w.heap.size _ [97] [s] _ 0 1 1 _ rfl ?_ ?_ ?_ ?_ ?_ ?_).mono ?_
     ·simp;omega
     ·exact zmC (c:=97) zO (by(try rw[zaq]);first|(rw[heap_alloc,yaj zS];rfl)|(rw[heap_alloc,yad zS,heap_alloc,yaj zS];rfl)) rfl
     ·simp;omega
     ·simp
     ·intro i z hi;rcases i with _|i <;> simp at hi;subst hi;simp[go_sem]
     ·simp[Value.ownBlock]
     rintro e w' ⟨v,rfl,hb⟩))
 all_goals
  have HFr:Hid (Fresh w w'' v2 (97::zbx [s,a0,a1,a2,a3])):=zac ⟨ybC (ybC zB (hb.below (n:=w.heap.size) zP (by intro k hk;simp[Value.ownBlock]at hk;omega)))
   (hb2.below (n:=w.heap.size) (yac zP hb.grown.size) (by intro k hk;rcases hb.blk with h|h;(· rw[h]at hk;simp[Value.ownBlock]at hk;omega);(· exact yac zP (h k hk)))),by
   have:=hb2.own;simpa[zbx]using this⟩
  go_wp2;go_ret2;exact⟨v2,rfl,HFr.out⟩
def zbp (w:World) (g:Nat) (v:Value) (l:List UInt8):Prop:=
 ∃ A c,v=.slice A l.length c∧l.length≤c∧c≤maxLen∧∀ (i:Nat) (b:UInt8),l[i]?=some b→∃ B o,A=some ⟨B,o,none⟩∧B<g∧w.cell? ⟨B,o+i,none⟩=some (.int .u8 (b.toNat:Int))
def zdZ (w:World) (g:Nat) (r:Rd):Prop:=∃ v,w.heap[g]?=some (.cells #[v,.bool r.bad] 293)∧zbp w g v r.l
theorem zaa {w:World}{g:Nat}{cs:Array Value}{t:TypeId}(h:w.heap[g]?=some (.cells cs t)) (i:Nat):w.cell? ⟨g,i,none⟩=cs[i]?:=cell_of_row w g i cs t (0,0) h
theorem zab {w:World}{g:Nat}{cs:Array Value}{t:TypeId}(h:w.heap[g]?=some (.cells cs t)) (i:Nat):w.frozen? ⟨g,i,none⟩=false:=by
 simp[World.frozen?,h]
theorem zae {w:World}{g:Nat}{o:Obj}(h:w.heap[g]?=some o):g<w.heap.size:=(yaV.1 h).1
theorem zam {w:World}{g:Nat}{cs:Array Value}{t:TypeId}(h:w.heap[g]?=some (.cells cs t)) (i:Nat) (u:Value):(w.setCell ⟨g,i,none⟩ u).heap[g]?=some (.cells (cs.setIfInBounds i u) t):=by
 simp[World.setCell,ybS,h]
theorem zan (w:World) (g i:Nat) (u:Value):w.grownBy (w.setCell ⟨g,i,none⟩ u) (some g):=
 ⟨rfl,rfl,rfl,by simp[World.setCell],fun k _ hne=>ybj w ⟨g,i,none⟩ u k (fun e=>hne (by rw[e]))⟩
theorem and127:∀ x:Fin 256,bits BinOp.and IntKind.u8 (x.val:Int) 127=((x.val % 128:Nat):Int):=by decide +kernel
theorem zlC (y:Nat) (h:y<256):bits BinOp.and IntKind.u8 (y:Int) 127=((y % 128:Nat):Int):=and127 ⟨y,h⟩
theorem ziL (a:Nat) (ha:a<9223372036854775808):(BitVec.ofInt 64 (a:Int)).toNat=a:=by
 rw[BitVec.ofInt_natCast,BitVec.toNat_ofNat];exact Nat.mod_eq_of_lt zO
theorem zll (a b:Nat) (ha:a<9223372036854775808) (hb:b<9223372036854775808):bits .or .i64 (a:Int) (b:Int)=((a ||| b:Nat):Int):=by
 have hx:a ||| b<2 ^ 63:=Nat.or_lt_two_pow zO zO
 show IntKind.i64.wrap ((BitVec.ofInt 64 (a:Int) ||| BitVec.ofInt 64 (b:Int)).toNat:Int)=_;rw[BitVec.toNat_or,ziL a ha,ziL b hb,ybm];omega
theorem or_mul (m x i:Nat) (hm:m<2 ^ i):m ||| x*2 ^ i=m+x*2 ^ i:=by
 rw[Nat.mul_comm,Nat.or_comm,←Nat.two_pow_add_eq_or_of_lt hm,Nat.add_comm]
theorem zge (m x i p:Nat) (hm:m<p) (hp:p=2 ^ i) (hx:x<128) (hb:p<9007199254740992):bits .or .i64 (m:Int) ((x:Int)*(p:Int))=((m+x*p:Nat):Int):=by
 have h1:x*p≤127*p:=Nat.mul_le_mul_right _ zO;rw[←Int.natCast_mul,zll m (x*p) zO zO];subst hp;rw[or_mul m x i hm]
theorem zbp.set {w:World}{g:Nat}{v:Value}{l:List UInt8}(h:zbp w g v l) (i:Nat) (u:Value):zbp (w.setCell ⟨g,i,none⟩ u) g v l:=by
 obtain⟨A,c,rfl,h1,h2,h3⟩:=h;refine⟨A,c,rfl,h1,h2,fun j b hb=>?_⟩;obtain⟨B,o,hA,hne,hc⟩:=h3 j b hb;refine⟨B,o,hA,hne,?_⟩;rw[yam (w:=w) (ybj w ⟨g,i,none⟩ u B (Nat.ne_of_lt hne))];exact hc
theorem zbp.drop {w:World}{g B o:Nat}{l:List UInt8}{c k:Nat}(hk:k≤l.length) (h:zbp w g (.slice (some ⟨B,o,none⟩) l.length c) l):
  zbp w g (.slice (some (if c=k then ⟨B,o,none⟩else ⟨B,o+k,none⟩)) (l.length-k) (c-k)) (l.drop k):=by
 obtain⟨A,c',e,h1,h2,h3⟩:=h;cases e;refine⟨_,c-k,by rw[yaT],by rw[yaT];omega,zO,fun j b hb=>?_⟩;rw[ybp]at hb;have hlt:k+j<l.length:=(yao.1 hb).1;obtain⟨B',o',hA,hne,hc⟩:=h3 (k+j) b hb;cases hA;rw[yad zO];exact⟨B,o+k,rfl,hne,by rw[Nat.add_assoc];exact hc⟩
theorem zbp.above {w w':World}{g:Nat}{v:Value}{l:List UInt8}(h:zbp w g v l) (hk:∀ k,k<g→w'.heap[k]?=w.heap[k]?):zbp w' g v l:=by
 obtain⟨A,c,rfl,h1,h2,h3⟩:=h;refine⟨A,c,rfl,h1,h2,fun j b hb=>?_⟩;obtain⟨B,o,hA,hne,hc⟩:=h3 j b hb;exact⟨B,o,hA,hne,by rw[yam (w:=w) (hk B hne)];exact hc⟩
theorem zdZ.above {w w':World}{g:Nat}{r:Rd}(h:zdZ w g r) (hk:∀ k,k≤g→w'.heap[k]?=w.heap[k]?):zdZ w' g r:=by
 obtain⟨v,hb,hv⟩:=h;exact⟨v,by rw[hk g (yai _)];exact hb,hv.above fun k h=>hk k (ybw h)⟩
theorem zdZ.lt {w:World}{g:Nat}{r:Rd}(h:zdZ w g r):g<w.heap.size:=by
 obtain⟨v,hb,_⟩:=h;exact zae hb
theorem zc9 {w:World}{g:Nat}{l:List UInt8}{bad:Bool}{v:Value}(hb:w.heap[g]?=some (.cells #[v,.bool bad] 293)) (hv:zbp w g v l) (h:zcU l=none):
  (zbf ⟨l,bad⟩).1=0∧zdZ (w.setCell ⟨g,1,none⟩ (.bool true)) g (zbf ⟨l,bad⟩).2∧w.grownBy (w.setCell ⟨g,1,none⟩ (.bool true)) (some g):=by
 simp only[zbf,h];exact⟨trivial,⟨v,by simpa using zam hb 1 (.bool true),hv.set 1 _⟩,zan w g 1 _⟩
theorem zb0 {w:World}{g B o:Nat}{l:List UInt8}{bad:Bool}{c k n:Nat}(hb:w.heap[g]?=some (.cells #[.slice (some ⟨B,o,none⟩) l.length c,.bool bad] 293)) (hv:zbp w g (.slice (some ⟨B,o,none⟩) l.length c) l)
  (hk:k≤l.length) (h:zcU l=some (n,l.drop k)){u:Value}(hu:u=(.slice (some (if c=k then ⟨B,o,none⟩else ⟨B,o+k,none⟩)) (l.length-k) (c-k))):
  (zbf ⟨l,bad⟩).1=n∧zdZ (w.setCell ⟨g,0,none⟩ u) g (zbf ⟨l,bad⟩).2∧w.grownBy (w.setCell ⟨g,0,none⟩ u) (some g):=by
 subst hu;simp only[zbf,h];exact⟨trivial,⟨_,by simpa using zam hb 0 _,(hv.drop hk).set 0 _⟩,zan w g 0 _⟩
theorem zmn {k m y:Nat}{b:UInt8}{l:List UInt8}(hk:k<l.length) (hb:l[k]=b) (hy:b.toNat=y):
  zem k m (l.drop k)=if 5<k∨1099511627776<m+y % 128*128 ^ k∨(y=0∧0<k)then none else if y<128 then some (m+y % 128*128 ^ k,l.drop (k+1))else zem (k+1) (m+y % 128*128 ^ k) (l.drop (k+1)):=by
 rw[yaK hk,hb];subst hy;rfl
theorem zbr {w w':World}{g:Nat}{l:List UInt8}{bad:Bool}{n:Nat}(h:(zbf ⟨l,bad⟩).1=n∧zdZ w' g (zbf ⟨l,bad⟩).2∧w.grownBy w' (some g)){x:Int}(hx:x=(n:Int)):
  Ending.returned (ii x)=.returned (ii ((zbf ⟨l,bad⟩).1:Int))∧zdZ w' g (zbf ⟨l,bad⟩).2∧w.grownBy w' (some g):=by
 rw[h.1,hx];exact⟨rfl,h.2⟩
theorem zep (g:Nat) (r:Rd) (w:World) (hr:zdZ w g r) (hl:r.l.length≤1000000):
  Calls prog 186 #[.pointer (some ⟨g,0,none⟩)] w fun e w'=>e=.returned (ii (zbf r).1)∧zdZ w' g (zbf r).2∧w.grownBy w' (some g):=by
 obtain⟨l,bad⟩:=r;obtain⟨v,hb,hv⟩:=hr;have hv':=hv;obtain⟨A,c,rfl,hc,hcm,hx⟩:=hv';simp only at *;have HV:=zac hv;have g0:=zaa hb 0;have g1:=zaa hb 1;have f0:=zab hb 0;have f1:=zab hb 1;simp at g0 g1;have HX:=zac hx;have HBk:=zac hb;clear hx hb hv;unfold maxLen at hcm;go_enter func186,ntmps186;go_wp2;go_loop [3,11] (fun n i=>∃ k m:Nat,k≤l.length∧k≤6∧i=ii k∧n=ii m∧m<128 ^ k∧zcU l=zem k m (l.drop k)) (fun _ i=>l.length-(intOf i).toNat)
 case atStart=>exact⟨0,0,yay _,yay _,rfl,rfl,zS,rfl⟩
 case round=>
  obtain⟨k,m,hk,hk6,rfl,rfl,hm,hrd⟩:=hrel;by_cases hlt:k<l.length
  ·obtain⟨B,o,rfl,hBg',hcell⟩:=HX.out k l[k] (yaa hlt)
   have hBg:B≠g:=Nat.ne_of_lt hBg';obtain⟨y,hy⟩:∃ y,l[k].toNat=y:=⟨_,rfl⟩;have hbl:y<256:=by rw[←hy];exact l[k].toNat_lt
   rw[zmn hlt rfl hy]at hrd;rw[hy]at hcell;have HRD:=zac hrd;clear hrd hy;obtain⟨X,hX,hXe⟩:∃ X:Nat,bits BinOp.and IntKind.u8 (y:Int) 127=(X:Int)∧Hid (X=y % 128):=⟨_,zlC y hbl,rfl⟩;have hXb:X<128:=by have:=hXe.out;omega
   have h5:k=0∨k=1∨k=2∨k=3∨k=4∨k=5∨k=6:=by omega
   rcases h5 with rfl|rfl|rfl|rfl|rfl|rfl|rfl
   ·have hm:m<1:=hm
    rw[ycv]at hcell;obtain⟨M,hM,hMe⟩:∃ M:Nat,bits BinOp.or IntKind.i64 (m:Int) ((X:Int))=(M:Int)∧Hid (M=m+X*1):=⟨_,by have:=zge m X 0 1 hm rfl hXb zO;simpa using this,rfl⟩;have hMb:M<128:=by have:=hMe.out;omega
    have HR:Hid (zcU l=if 5<0∨1099511627776<M∨(y=0∧0<0)then none else if y<128 then some (M,l.drop (0+1))else zem (0+1) M (l.drop (0+1))):=zac (by rw[hMe.out,hXe.out];exact HRD.out);clear HRD hMe hXe hm;have c1':(M:Int)≤1099511627776:=by omega
    cases c2:((y:Int)==0)with
    | true=>
      have e0:y<128:=by have:=eq_of_beq c2;omega
      by_cases c4:c=1
      ·subst c4
       have HN:=zac (zb0 (k:=1) (n:=M) (u:=.slice (some ⟨B,o,none⟩) 0 0) HBk.out HV.out zO (by rw[HR.out,yad zO,yaj zO]) (by rw[yaj rfl,show l.length-1=0 by omega]));go_wp2;go_ret;exact zbr HN.out rfl
      ·have HN:=zac (zb0 (k:=1) (n:=M) (u:=.slice (some ⟨B,o+1,none⟩) (l.length-1) (c-1)) HBk.out HV.out zO (by rw[HR.out,yad zO,yaj zO]) (by rw[yad c4]))
       go_wp2;go_ret;exact zbr HN.out rfl
    | false=>
      by_cases c3:y<128
      ·by_cases c4:c=1
       ·subst c4
        have HN:=zac (zb0 (k:=1) (n:=M) (u:=.slice (some ⟨B,o,none⟩) 0 0) HBk.out HV.out zO (by rw[HR.out,yad zO,yaj zO]) (by rw[yaj rfl,show l.length-1=0 by omega]));go_wp2;go_ret;exact zbr HN.out rfl
       ·have HN:=zac (zb0 (k:=1) (n:=M) (u:=.slice (some ⟨B,o+1,none⟩) (l.length-1) (c-1)) HBk.out HV.out zO (by rw[HR.out,yad zO,yaj zO]) (by rw[yad c4]))
        go_wp2;go_ret;exact zbr HN.out rfl
      ·have HN:Hid (zcU l=zem 1 M (l.drop 1)):=zac (by rw[HR.out,yad zO,yad c3])
       go_wp2;go_round
       case rel=>exact⟨1,M,zO,zO,rfl,rfl,hMb,HN.out⟩
       case measure=>simp[intOf];omega
   ·have hm:m<128:=hm
    obtain⟨M,hM,hMe⟩:∃ M:Nat,bits BinOp.or IntKind.i64 (m:Int) ((X:Int)*128)=(M:Int)∧Hid (M=m+X*128):=⟨_,zge m X 7 128 hm rfl hXb zO,rfl⟩;have hMb:M<16384:=by have:=hMe.out;omega
    have HR:Hid (zcU l=if 5<1∨1099511627776<M∨(y=0∧0<1)then none else if y<128 then some (M,l.drop (1+1))else zem (1+1) M (l.drop (1+1))):=zac (by rw[hMe.out,hXe.out];exact HRD.out);clear HRD hMe hXe hm;have c1':(M:Int)≤1099511627776:=by omega
    cases c2:((y:Int)==0)with
    | true=>
      have e0:y=0:=by have:=eq_of_beq c2;omega
      have HN:=zac (zc9 HBk.out HV.out (by rw[HR.out,yaj zO]));clear e0;go_wp2;go_ret;exact zbr HN.out rfl
    | false=>
      have e0:y≠0:=by have:=ycp c2;omega
      by_cases c3:y<128
      ·by_cases c4:c=2
       ·subst c4
        have HN:=zac (zb0 (k:=2) (n:=M) (u:=.slice (some ⟨B,o,none⟩) 0 0) HBk.out HV.out zO (by rw[HR.out,yad zO,yaj zO]) (by rw[yaj rfl,show l.length-2=0 by omega]));go_wp2;go_ret;exact zbr HN.out rfl
       ·have HN:=zac (zb0 (k:=2) (n:=M) (u:=.slice (some ⟨B,o+2,none⟩) (l.length-2) (c-2)) HBk.out HV.out zO (by rw[HR.out,yad zO,yaj zO]) (by rw[yad c4]))
        go_wp2;go_ret;exact zbr HN.out rfl
      ·have HN:Hid (zcU l=zem 2 M (l.drop 2)):=zac (by rw[HR.out,yad zO,yad c3])
       go_wp2;go_round
       case rel=>exact⟨2,M,zO,zO,rfl,rfl,hMb,HN.out⟩
       case measure=>simp[intOf];omega
   ·have hm:m<16384:=hm
    obtain⟨M,hM,hMe⟩:∃ M:Nat,bits BinOp.or IntKind.i64 (m:Int) ((X:Int)*16384)=(M:Int)∧Hid (M=m+X*16384):=⟨_,zge m X 14 16384 hm rfl hXb zO,rfl⟩;have hMb:M<2097152:=by have:=hMe.out;omega
    have HR:Hid (zcU l=if 5<2∨1099511627776<M∨(y=0∧0<2)then none else if y<128 then some (M,l.drop (2+1))else zem (2+1) M (l.drop (2+1))):=zac (by rw[hMe.out,hXe.out];exact HRD.out);clear HRD hMe hXe hm;have c1':(M:Int)≤1099511627776:=by omega
    cases c2:((y:Int)==0)with
    | true=>
      have e0:y=0:=by have:=eq_of_beq c2;omega
      have HN:=zac (zc9 HBk.out HV.out (by rw[HR.out,yaj zO]));clear e0;go_wp2;go_ret;exact zbr HN.out rfl
    | false=>
      have e0:y≠0:=by have:=ycp c2;omega
      by_cases c3:y<128
      ·by_cases c4:c=3
       ·subst c4
        have HN:=zac (zb0 (k:=3) (n:=M) (u:=.slice (some ⟨B,o,none⟩) 0 0) HBk.out HV.out zO (by rw[HR.out,yad zO,yaj zO]) (by rw[yaj rfl,show l.length-3=0 by omega]));go_wp2;go_ret;exact zbr HN.out rfl
       ·have HN:=zac (zb0 (k:=3) (n:=M) (u:=.slice (some ⟨B,o+3,none⟩) (l.length-3) (c-3)) HBk.out HV.out zO (by rw[HR.out,yad zO,yaj zO]) (by rw[yad c4]))
        go_wp2;go_ret;exact zbr HN.out rfl
      ·have HN:Hid (zcU l=zem 3 M (l.drop 3)):=zac (by rw[HR.out,yad zO,yad c3])
       go_wp2;go_round
       case rel=>exact⟨3,M,zO,zO,rfl,rfl,hMb,HN.out⟩
       case measure=>simp[intOf];omega
   ·have hm:m<2097152:=hm
    obtain⟨M,hM,hMe⟩:∃ M:Nat,bits BinOp.or IntKind.i64 (m:Int) ((X:Int)*2097152)=(M:Int)∧Hid (M=m+X*2097152):=⟨_,zge m X 21 2097152 hm rfl hXb zO,rfl⟩;have hMb:M<268435456:=by have:=hMe.out;omega
    have HR:Hid (zcU l=if 5<3∨1099511627776<M∨(y=0∧0<3)then none else if y<128 then some (M,l.drop (3+1))else zem (3+1) M (l.drop (3+1))):=zac (by rw[hMe.out,hXe.out];exact HRD.out);clear HRD hMe hXe hm;have c1':(M:Int)≤1099511627776:=by omega
    cases c2:((y:Int)==0)with
    | true=>
      have e0:y=0:=by have:=eq_of_beq c2;omega
      have HN:=zac (zc9 HBk.out HV.out (by rw[HR.out,yaj zO]));clear e0;go_wp2;go_ret;exact zbr HN.out rfl
    | false=>
      have e0:y≠0:=by have:=ycp c2;omega
      by_cases c3:y<128
      ·by_cases c4:c=4
       ·subst c4
        have HN:=zac (zb0 (k:=4) (n:=M) (u:=.slice (some ⟨B,o,none⟩) 0 0) HBk.out HV.out zO (by rw[HR.out,yad zO,yaj zO]) (by rw[yaj rfl,show l.length-4=0 by omega]));go_wp2;go_ret;exact zbr HN.out rfl
       ·have HN:=zac (zb0 (k:=4) (n:=M) (u:=.slice (some ⟨B,o+4,none⟩) (l.length-4) (c-4)) HBk.out HV.out zO (by rw[HR.out,yad zO,yaj zO]) (by rw[yad c4]))
        go_wp2;go_ret;exact zbr HN.out rfl
      ·have HN:Hid (zcU l=zem 4 M (l.drop 4)):=zac (by rw[HR.out,yad zO,yad c3])
       go_wp2;go_round
       case rel=>exact⟨4,M,zO,zO,rfl,rfl,hMb,HN.out⟩
       case measure=>simp[intOf];omega
   ·have hm:m<268435456:=hm
    obtain⟨M,hM,hMe⟩:∃ M:Nat,bits BinOp.or IntKind.i64 (m:Int) ((X:Int)*268435456)=(M:Int)∧Hid (M=m+X*268435456):=⟨_,zge m X 28 268435456 hm rfl hXb zO,rfl⟩;have hMb:M<34359738368:=by have:=hMe.out;omega
    have HR:Hid (zcU l=if 5<4∨1099511627776<M∨(y=0∧0<4)then none else if y<128 then some (M,l.drop (4+1))else zem (4+1) M (l.drop (4+1))):=zac (by rw[hMe.out,hXe.out];exact HRD.out);clear HRD hMe hXe hm;have c1':(M:Int)≤1099511627776:=by omega
    cases c2:((y:Int)==0)with
    | true=>
      have e0:y=0:=by have:=eq_of_beq c2;omega
      have HN:=zac (zc9 HBk.out HV.out (by rw[HR.out,yaj zO]));clear e0;go_wp2;go_ret;exact zbr HN.out rfl
    | false=>
      have e0:y≠0:=by have:=ycp c2;omega
      by_cases c3:y<128
      ·by_cases c4:c=5
       ·subst c4
        have HN:=zac (zb0 (k:=5) (n:=M) (u:=.slice (some ⟨B,o,none⟩) 0 0) HBk.out HV.out zO (by rw[HR.out,yad zO,yaj zO]) (by rw[yaj rfl,show l.length-5=0 by omega]));go_wp2;go_ret;exact zbr HN.out rfl
       ·have HN:=zac (zb0 (k:=5) (n:=M) (u:=.slice (some ⟨B,o+5,none⟩) (l.length-5) (c-5)) HBk.out HV.out zO (by rw[HR.out,yad zO,yaj zO]) (by rw[yad c4]))
        go_wp2;go_ret;exact zbr HN.out rfl
      ·have HN:Hid (zcU l=zem 5 M (l.drop 5)):=zac (by rw[HR.out,yad zO,yad c3])
       go_wp2;go_round
       case rel=>exact⟨5,M,zO,zO,rfl,rfl,hMb,HN.out⟩
       case measure=>simp[intOf];omega
   ·have hm:m<34359738368:=hm
    obtain⟨M,hM,hMe⟩:∃ M:Nat,bits BinOp.or IntKind.i64 (m:Int) ((X:Int)*34359738368)=(M:Int)∧Hid (M=m+X*34359738368):=⟨_,zge m X 35 34359738368 hm rfl hXb zO,rfl⟩;have hMb:M<4398046511104:=by have:=hMe.out;omega
    have HR:Hid (zcU l=if 5<5∨1099511627776<M∨(y=0∧0<5)then none else if y<128 then some (M,l.drop (5+1))else zem (5+1) M (l.drop (5+1))):=zac (by rw[hMe.out,hXe.out];exact HRD.out);clear HRD hMe hXe hm;by_cases c1:(1099511627776:Int)<(M:Int)
    ·have HN:=zac (zc9 HBk.out HV.out (by rw[HR.out,yaj zO]))
     go_wp2;go_ret;exact zbr HN.out rfl
    have c1':(M:Int)≤1099511627776:=by omega
    clear c1;cases c2:((y:Int)==0)with
    | true=>
      have e0:y=0:=by have:=eq_of_beq c2;omega
      have HN:=zac (zc9 HBk.out HV.out (by rw[HR.out,yaj zO]));clear e0;go_wp2;go_ret;exact zbr HN.out rfl
    | false=>
      have e0:y≠0:=by have:=ycp c2;omega
      by_cases c3:y<128
      ·by_cases c4:c=6
       ·subst c4
        have HN:=zac (zb0 (k:=6) (n:=M) (u:=.slice (some ⟨B,o,none⟩) 0 0) HBk.out HV.out zO (by rw[HR.out,yad zO,yaj zO]) (by rw[yaj rfl,show l.length-6=0 by omega]));go_wp2;go_ret;exact zbr HN.out rfl
       ·have HN:=zac (zb0 (k:=6) (n:=M) (u:=.slice (some ⟨B,o+6,none⟩) (l.length-6) (c-6)) HBk.out HV.out zO (by rw[HR.out,yad zO,yaj zO]) (by rw[yad c4]))
        go_wp2;go_ret;exact zbr HN.out rfl
      ·have HN:Hid (zcU l=zem 6 M (l.drop 6)):=zac (by rw[HR.out,yad zO,yad c3])
       go_wp2;go_round
       case rel=>exact⟨6,M,zO,zO,rfl,rfl,hMb,HN.out⟩
       case measure=>simp[intOf];omega
   ·have hm:m<4398046511104:=hm
    obtain⟨M,hM,hMe⟩:∃ M:Nat,bits BinOp.or IntKind.i64 (m:Int) ((X:Int)*4398046511104)=(M:Int)∧Hid (M=m+X*4398046511104):=⟨_,zge m X 42 4398046511104 hm rfl hXb zO,rfl⟩;have hMb:M<562949953421312:=by have:=hMe.out;omega
    have HR:Hid (zcU l=if 5<6∨1099511627776<M∨(y=0∧0<6)then none else if y<128 then some (M,l.drop (6+1))else zem (6+1) M (l.drop (6+1))):=zac (by rw[hMe.out,hXe.out];exact HRD.out);clear HRD hMe hXe hm;have HN:=zac (zc9 HBk.out HV.out (by rw[HR.out,yaj zO]));go_wp2;go_ret;exact zbr HN.out rfl
  ·have HN:=zac (zc9 HBk.out HV.out (by rw[hrd,List.drop_eq_nil_of_le zO];rfl))
   clear hrd;go_wp2;go_ret;exact zbr HN.out rfl
theorem zcu (r:Rd):(zbf r).2.l.length≤r.l.length:=by
 unfold zbf;cases e:zcU r.l with
 | none=>exact yai _
 | some x=>
   have h:=(ze6 (l:=r.l) (m:=x.1) (r:=x.2) (by rw[e])).1;have h2:=yaS List.length h;simp only[yak]at h2;show x.2.length≤_;omega
structure zeY (w W:World) (g:Nat) (r:Rd) (a0 a1 a2 a3:Int):Prop where
 rd:zdZ W g r
 t2:W.heap[w.heap.size]?=some (.cells #[ii 0,ii 0,ii 0,ii 0] 32)
 t3:W.heap[w.heap.size+1]?=some (.cells #[a0,a1,a2,a3] 32)
 gr:w.grownBy W (some g)
 lt:g<w.heap.size
theorem zcV {w w1 w2:World}{g:Nat}(h1:w.grownBy w1 (some g)) (h2:w1.grownBy w2 (some g)):w.grownBy w2 (some g):=
 ⟨h2.os.trans h1.os,h2.tape.trans h1.tape,h2.output.trans h1.output,yac h1.size h2.size,fun k hk hne=>(h2.block k (yab hk h1.size) hne).trans (h1.block k hk hne)⟩
theorem zeY.call {w W W':World}{g:Nat}{r r':Rd}{a0 a1 a2 a3:Int}(st:zeY w W g r a0 a1 a2 a3) (hr:zdZ W' g r') (hg:W.grownBy W' (some g)):zeY w W' g r' a0 a1 a2 a3:=by
 have hlt:=st.lt;have h2:=zae st.t2;have h3:=zae st.t3;exact⟨hr,by rw[hg.block _ h2 zP];exact st.t2,by rw[hg.block _ h3 zP];exact st.t3,zcV st.gr hg,hlt⟩
theorem zeY.set {w W:World}{g:Nat}{r:Rd}{a0 a1 a2 a3 b0 b1 b2 b3:Int}{i:Nat}{u:Value}(st:zeY w W g r a0 a1 a2 a3)
  (hu:(#[ii a0,ii a1,ii a2,ii a3]:Array Value).setIfInBounds i u=#[ii b0,ii b1,ii b2,ii b3]):
  zeY w (W.setCell ⟨w.heap.size+1,i,none⟩ u) g r b0 b1 b2 b3:=by
 have hlt:=st.lt;refine⟨st.rd.above fun k hk=>ybj W _ u k (by simp only;omega),by rw[ybj W _ u _ (by simp only;omega)];exact st.t2,?_,?_,hlt⟩
 ·rw[zam st.t3 i u,hu]
 ·exact⟨st.gr.os,st.gr.tape,st.gr.output,by simpa[World.setCell]using st.gr.size,fun k hk hne=>by rw[ybj W _ u _ (by simp only;omega)];exact st.gr.block k hk hne⟩
theorem zeY.res {w W:World}{g i:Nat}{r:Rd}{u:Value}{cs:Array Value}(hr:zdZ W g r) (hg:w.grownBy W (some g)) (hlt:g<w.heap.size) (h2:W.heap[w.heap.size]?=some (.cells cs 32)):
  zdZ (W.setCell ⟨w,i,none⟩ u) g r∧w.grownBy (W.setCell ⟨w,i,none⟩ u) (some g)∧(W.setCell ⟨w,i,none⟩ u).heap[w.heap.size]?=some (.cells (cs.setIfInBounds i u) 32):=by
 refine⟨hr.above fun k hk=>ybj W _ u k (by simp only;omega),?_,zam h2 i u⟩;exact⟨hg.os,hg.tape,hg.output,by simpa[World.setCell]using hg.size,fun k hk hne=>by rw[ybj W _ u _ (by simp only;omega)];exact hg.block k hk hne⟩
theorem zeY.fin {w W:World}{g:Nat}{r:Rd}{a0 a1 a2 a3:Int}{u0 u1 u2 u3:Value}(st:zeY w W g r a0 a1 a2 a3):
  zdZ ((((W.setCell ⟨w,0,none⟩ u0).setCell ⟨w,1,none⟩ u1).setCell ⟨w,2,none⟩ u2).setCell ⟨w,3,none⟩ u3) g r∧
  w.grownBy ((((W.setCell ⟨w,0,none⟩ u0).setCell ⟨w,1,none⟩ u1).setCell ⟨w,2,none⟩ u2).setCell ⟨w,3,none⟩ u3) (some g)∧
  ((((W.setCell ⟨w,0,none⟩ u0).setCell ⟨w,1,none⟩ u1).setCell ⟨w,2,none⟩ u2).setCell ⟨w,3,none⟩ u3).heap[w.heap.size]?=some (.cells #[u0,u1,u2,u3] 32):=by
 have h0:=zeY.res (i:=0) (u:=u0) st.rd st.gr st.lt st.t2;have h1:=zeY.res (i:=1) (u:=u1) h0.1 h0.2.1 st.lt h0.2.2;have h2:=zeY.res (i:=2) (u:=u2) h1.1 h1.2.1 st.lt h1.2.2;exact zeY.res (i:=3) (u:=u3) h2.1 h2.2.1 st.lt h2.2.2
theorem blk4 {W:World}{b:Nat}{x0 x1 x2 x3:Value}{t:TypeId}(h:W.heap[b]?=some (.cells #[x0,x1,x2,x3] t)):
  W.cell? ⟨b,0,none⟩=some x0∧W.cell? ⟨b,1,none⟩=some x1∧W.cell? ⟨b,2,none⟩=some x2∧W.cell? ⟨b,3,none⟩=some x3∧
  W.frozen? ⟨b,0,none⟩=false∧W.frozen? ⟨b,1,none⟩=false∧W.frozen? ⟨b,2,none⟩=false∧W.frozen? ⟨b,3,none⟩=false:=
 ⟨zaa h 0,zaa h 1,zaa h 2,zaa h 3,zab h 0,zab h 1,zab h 2,zab h 3⟩
theorem zl0 (g:Nat) (r:Rd) (w:World) (hr:zdZ w g r) (hl:r.l.length≤1000000):
  Calls prog 187 #[.pointer (some ⟨g,0,none⟩)] w fun e w'=>e=.returned (.agg #[ii (za6 r).1.1,ii (za6 r).1.2.1,ii (za6 r).1.2.2.1,ii (za6 r).1.2.2.2])
   ∧ zdZ w' g (za6 r).2∧w.grownBy w' (some g):=by
 have hg:=hr.lt;have st0:∀ o o2:Obj,o=.cells #[ii 0,ii 0,ii 0,ii 0] 32→o2=.cells #[ii 0,ii 0,ii 0,ii 0] 32→zeY w ((w.alloc o).alloc o2) g r 0 0 0 0:=by
  rintro o o2 rfl rfl;refine⟨hr.above fun k hk=>?_,?_,?_,zcV (yb1 w _ _) (yb1 _ _ _),hg⟩
  ·rw[heap_alloc,yad zP,heap_alloc,yad zO]
  ·rw[heap_alloc,yad zS,heap_alloc,yaj rfl]
  ·rw[heap_alloc,yaj zS]
 have hl1:=yac (zcu r) hl;have hl2:=yac (zcu (zbf r).2) hl1;have hl3:=yac (zcu (zbf (zbf r).2).2) hl2;have ST0:=zac st0;clear st0 hr;unfold za6;simp only;generalize hr1:(zbf r).2=r1 at *;generalize hr2:(zbf r1).2=r2 at *;generalize hr3:(zbf r2).2=r3 at *;generalize hr4:(zbf r3).2=r4 at *;generalize hn1:(zbf r).1=n1 at *;generalize hn2:(zbf r1).1=n2 at *;generalize hn3:(zbf r2).1=n3 at *;generalize hn4:(zbf r3).1=n4 at *;have N1:=zac fun W h=>(hr1 ▸ hn1 ▸ zep g r W h hl)
 have N2:=zac fun W h=>(hr2 ▸ hn2 ▸ zep g r1 W h hl1)
 have N3:=zac fun W h=>(hr3 ▸ hn3 ▸ zep g r2 W h hl2)
 have N4:=zac fun W h=>(hr4 ▸ hn4 ▸ zep g r3 W h hl3)
 clear hr1 hr2 hr3 hr4 hn1 hn2 hn3 hn4 hl hl1 hl2 hl3;go_enter func187,ntmps187;go_wp2;have st:=zac (ST0.out _ _ rfl rfl);clear ST0;refine ybA 5 ?_;rw[yaO];go_wp2_with fail;go_at_call 186;refine(N1.out _ st.out.rd).mono ?_;rintro e w1 ⟨rfl,hr1,hg1⟩;have sta:=st.out.call hr1 hg1;have c1:=zaa sta.t3 0;have c2:=zab sta.t3 0;simp at c1;have ST:=zac (sta.set (i:=0) (u:=ii n1) rfl);clear sta hr1 hg1 st N1;go_wp2;have st:=ST;clear ST c1 c2;rw[yaO];go_wp2_with fail;go_at_call 186;refine(N2.out _ st.out.rd).mono ?_;rintro e w2 ⟨rfl,hr2,hg2⟩;have sta:=st.out.call hr2 hg2;have c1:=zaa sta.t3 1;have c2:=zab sta.t3 1;simp at c1;have ST:=zac (sta.set (i:=1) (u:=ii n2) rfl);clear sta hr2 hg2 st N2;go_wp2;have st:=ST;clear ST c1 c2;rw[yaO];go_wp2_with fail;go_at_call 186;refine(N3.out _ st.out.rd).mono ?_;rintro e w3 ⟨rfl,hr3,hg3⟩;have sta:=st.out.call hr3 hg3;have c1:=zaa sta.t3 2;have c2:=zab sta.t3 2;simp at c1;have ST:=zac (sta.set (i:=2) (u:=ii n3) rfl);clear sta hr3 hg3 st N3;go_wp2;have st:=ST;clear ST c1 c2;rw[yaO];go_wp2_with fail;go_at_call 186;refine(N4.out _ st.out.rd).mono ?_;rintro e w4 ⟨rfl,hr4,hg4⟩;have sta:=st.out.call hr4 hg4;have c1:=zaa sta.t3 3;have c2:=zab sta.t3 3;simp at c1;have ST:=zac (sta.set (i:=3) (u:=ii n4) rfl);clear sta hr4 hg4 st N4;go_wp2;have st:=ST;clear ST c1 c2;rw[yaO];have h2:=blk4 st.out.t2;have h3:=blk4 st.out.t3;go_split_ands;go_wp2;have hf:=st.out.fin (u0:=ii n1) (u1:=ii n2) (u2:=ii n3) (u3:=ii n4);obtain⟨hf1,hf2,hf3⟩:=hf;have hf4:=blk4 hf3;go_split_ands;exact yag (v:=.agg #[n1,n2,n3,n4]) (by simp only[results,results187];simp[go_sem, *]) rfl ⟨rfl,hf1,hf2⟩
theorem conv_bs {w:World}{g n c:Nat}{A:Option Addr}{l:List UInt8}(h:zbp w g (.slice A l.length c) l) (hn:n≤l.length):
  (convert 207 9 (.slice A n c)).run prog w=.ok (.string ⟨(l.take n).toArray⟩) w:=by
 obtain⟨A',c',e,h1,h2,h3⟩:=h;cases e;rcases ybB n with rfl|hp
 ·rw[run_convert_bytes_string w 207 9 5 _ 0 c underlying207 underlying5 underlying9]
  cases A <;> simp[Conv.bytesToString,loadCells]
  all_goals rfl
 ·obtain⟨B,o,rfl,_,_⟩:=h3 0 l[0] (yaa zO)
  rw[run_convert_bytes_arg w 207 5 underlying207 underlying5 B o n c ((l.take n).map fun b=>(b.toNat:Int)) zP ?_ 9 underlying9]
  ·congr 1
   have e:∀ x:List UInt8,strOfNums (x.map fun b=>(b.toNat:Int))=⟨x.toArray⟩:=by
    intro x;have e2:∀ b:UInt8,UInt8.ofNat ((b.toNat:Int)).toNat=b:=fun b=>by simp
    simp only[strOfNums,List.map_map];rw[show((fun n:Int=>UInt8.ofNat n.toNat) ∘ fun b:UInt8=>(b.toNat:Int))=id from funext e2,List.map_id]
   rw[e]
  ·intro i hi
   obtain⟨B',o',e,_,hc⟩:=h3 i l[i] (yaa zO);cases e;rw[hc];have hi':i<l.length:=by omega
   simp[List.getD,yby,ybG,hi,hi']
theorem zm7 {w:World}{g n:Nat}{A:Option Addr}{l:List UInt8}(hn:n≤l.length) (h:zbp w g (.slice A l.length n) l):zbp w g (.slice A (l.length-n) 0) (l.drop n):=by
 obtain⟨A',c',e,h1,h2,h3⟩:=h;cases e;have e:l.length=n:=by omega
 refine⟨A,0,by rw[yaT],by rw[yaT];omega,yay _,fun i b hi=>?_⟩;rw[List.drop_eq_nil_of_le zO]at hi;simp at hi
theorem zm5 {w:World}{g n c:Nat}{A:Option Addr}{l:List UInt8}(hn:n≤l.length) (h:zbp w g (.slice A l.length c) l):zbp w g (.slice (A.map fun x=>x.add n) (l.length-n) (c-n)) (l.drop n):=by
 obtain⟨A',c',e,h1,h2,h3⟩:=h;cases e;refine⟨_,_,by rw[yaT],by rw[yaT];omega,zO,fun i b hi=>?_⟩;rw[ybp]at hi;obtain⟨B,o,rfl,hB,hc⟩:=h3 _ _ hi;exact⟨B,o+n,by simp[Addr.add],hB,by rw[Nat.add_assoc];exact hc⟩
theorem text_any (g:Nat) (r:Rd) (w:World) (hr:zdZ w g r) (hl:r.l.length≤1000000):
  Calls prog 188 #[.pointer (some ⟨g,0,none⟩)] w fun e w'=>e=.returned (.string (zea r).1)∧zdZ w' g (zea r).2∧w.grownBy w' (some g):=by
 have hg:=hr.lt;have hl1:=yac (zcu r) hl;have hnum:=zep g r w hr hl;unfold zea;generalize hr1:(zbf r).2=r1 at *;generalize hn1:(zbf r).1=n at *;clear hr1 hn1 hl;have N:=zac hnum;clear hnum hr;obtain⟨l,bad⟩:=r1;simp only at *;by_cases hn:l.length<n
 all_goals
  first|rw[yaj hn]|rw[yad hn]
  go_enter func188,ntmps188;go_wp2_with fail;go_at_call 186;refine(N.out).mono ?_;rintro e w1 ⟨rfl,hr1,hg1⟩;obtain⟨v,hb,hv⟩:=hr1;have hv':=hv;obtain⟨A,c,rfl,hc,hcm,hx⟩:=hv';simp only at *;have b0:=zaa hb 0;have b1:=zaa hb 1;have f0:=zab hb 0;have f1:=zab hb 1;simp at b0 b1;have HX:=zac hx;have HV:=zac hv;have HB:=zac hb;have HG:=zac hg1;clear hx hb hv N hg1
 ·go_wp2
  go_ret;refine⟨rfl,⟨_,zam HB.out 1 _,HV.out.set 1 _⟩,zcV HG.out (zan w1 g 1 _)⟩
 ·have hnm:n≤l.length:=by omega
  have hcv:=conv_bs HV.out hnm;go_wp2
  all_goals go_ret
  ·have e:c=n:=by first|assumption|omega
   subst e;exact⟨rfl,⟨_,zam HB.out 0 _,(zm7 hnm HV.out).set 0 _⟩,zcV HG.out (zan w1 g 0 _)⟩
  ·exact⟨rfl,⟨_,zam HB.out 0 _,(zm5 hnm HV.out).set 0 _⟩,zcV HG.out (zan w1 g 0 _)⟩
theorem zbp.mono {w:World}{g g':Nat}{v:Value}{l:List UInt8}(h:zbp w g v l) (hg:g≤g'):zbp w g' v l:=by
 obtain⟨A,c,rfl,h1,h2,h3⟩:=h;refine⟨A,c,rfl,h1,h2,fun i b hb=>?_⟩;obtain⟨B,o,hA,hB,hc⟩:=h3 i b hb;exact⟨B,o,hA,zO,hc⟩
theorem zmm {w:World}{v:Value}{l:List UInt8}{b:Bool}(h:zbp w w.heap.size v l):zdZ (w.alloc (.cells #[v,.bool b] 293)) w.heap.size ⟨l,b⟩:=
 ⟨v,by rw[heap_alloc,yaj rfl],h.above fun k hk=>by rw[heap_alloc,yad zO]⟩
theorem zm6 (w:World) (g:Nat):zbp w g (.slice none 0 0) []:=⟨none,0,rfl,yai _,yay _,fun i b h=>by simp at h⟩
theorem zja (v:Value) (l:List UInt8) (z:Int) (c:UInt8) (hz:z=(c.toNat:Int)) (w:World) (hv:zbp w w.heap.size v l) (hl:l.length≤1000000):
  Calls prog 185 #[v,.int .u8 z] w fun e w'=>e=.returned (.pointer (some ⟨w,0,none⟩))∧zdZ w' w.heap.size (zbj c l)∧Below w w w':=by
 subst hz;have HV:=zac hv;obtain⟨A,k,rfl,hc,hcm,hx⟩:=hv;unfold zbj;cases l with
 | nil=>
   clear hx;go_enter func185,ntmps185;go_wp2;go_ret;exact⟨rfl,zmm (zm6 _ _),zB⟩
 | cons x l=>
   obtain⟨B,o,rfl,hB,hcell⟩:=hx 0 x zS;simp only[yaq,ycv]at *;by_cases he:x=c
   ·have HB:=zac (zm5 (n:=1) (l:=x::l) zS HV.out)
    have HB2:=zac fun e:k=1=>zm7 (n:=1) (l:=x::l) zS (e ▸ HV.out)
    clear hx;rw[yaj he];subst he;go_enter func185,ntmps185;go_wp2
    all_goals go_ret
    all_goals refine⟨rfl,zmm ?_,zB⟩
    ·exact HB2.out (by first|assumption|omega)
    ·exact HB.out
   ·rw[yad he]
    have hne:((x.toNat:Int) != (c.toNat:Int))=true:=by
     rw[bne_iff_ne];intro e;exact he (UInt8.toNat_inj.1 zO)
    go_enter func185,ntmps185;go_wp2;go_ret;exact⟨rfl,zmm (zm6 _ _),zB⟩
theorem zmK (r:Rd):(za6 r).2.l.length≤r.l.length:=by
 unfold za6;exact yac (zcu _) (yac (zcu _) (yac (zcu _) (zcu _)))
theorem zhq (c:UInt8) (l:List UInt8):(zbj c l).l.length≤l.length:=by
 unfold zbj;cases l with
 | nil=>simp
 | cons x l=>
   simp only;split <;> simp
theorem za7 {n g:Nat}{w w1 w2:World}(h:Below n w w1) (hg:w1.grownBy w2 (some g)) (hn:n≤g) (hs:n≤w.heap.size):Below n w w2:=
 yaE h hg (yac hs h.size) (fun k e=>by cases e;exact hn)
def askV:Option (Nat×(Nat×Nat×Nat×Nat))→Value
 | none=>.tuple #[ii 0,.agg #[ii 0,ii 0,ii 0,ii 0],.iface 29 (ii 3)]
 | some (s,a,b,c,d)=>.tuple #[s,.agg #[ii a,ii b,ii c,ii d],.nilIface]
theorem zls (v:Value) (l:List UInt8) (w:World) (hv:zbp w w.heap.size v l) (hl:l.length≤1000000):
  Calls prog 150 #[v] w fun e w'=>e=.returned (askV (zko l))∧Below w w w':=by
 have hbeg:=fun o=>zja v l 97 97 rfl (w.alloc o) ((hv.above fun k hk=>by rw[heap_alloc,yad zO]).mono zS) hl
 simp only[show ∀ o,(w.alloc o).heap.size=w.heap.size+1 from fun o=>by simp]at hbeg;have hlen0:=yac (zhq 97 l) hl;have hlen1:=yac (zcu (zbj 97 l)) hlen0;have hD:zko l=if(za6 (zbf (zbj 97 l)).2).2.bad||!(za6 (zbf (zbj 97 l)).2).2.l.isEmpty||decide (4≤(zbf (zbj 97 l)).1)then none else some ((zbf (zbj 97 l)).1,(za6 (zbf (zbj 97 l)).2).1):=rfl
 rw[hD];clear hD hv hl;generalize zbj 97 l=r0 at *;have hnum:=fun W g h=>zep g r0 W h hlen0
 generalize hn1:(zbf r0).1=n at *;generalize hr1:(zbf r0).2=r1 at *;have hvec:=fun W g h=>zl0 g r1 W h hlen1
 clear hr1 hn1;generalize (za6 r1).2=r2 at *;generalize (za6 r1).1=q at *;obtain⟨a,b,c,d⟩:=q;obtain⟨l2,bad2⟩:=r2;simp only at *;have HB:=zac hbeg;have HN:=zac hnum;have HV:=zac hvec;clear hbeg hnum hvec hlen0 hlen1;rcases ybY bad2 with rfl|rfl
 ·rw[Bool.true_or,Bool.true_or,yaj rfl]
  go_enter func150,ntmps150;go_wp2_with fail;go_at_call 185;refine(HB.out _).mono ?_;rintro e w1 ⟨rfl,hr1,hb1⟩;go_wp2_with fail;go_at_call 186;refine(HN.out _ _ hr1).mono ?_;rintro e w2 ⟨rfl,hr2,hg2⟩;go_wp2_with fail;go_at_call 187;refine(HV.out _ _ hr2).mono ?_;rintro e w3 ⟨rfl,hr3,hg3⟩;have hb3:=za7 (za7 hb1 hg2 (yai _) zS) hg3 (yai _) zS;have hz:=hb3.block w.heap.size zO;rw[heap_alloc,yaj rfl]at hz;obtain⟨v3,hb,A,k,rfl,hc,hcm,hx⟩:=hr3;simp only at *;have c0:=zaa hb 0;have c1:=zaa hb 1;simp at c0 c1;have hz4:=blk4 hz;have hlt:=zae hb;have hlt0:w.heap.size<w3.heap.size:=by omega
  go_split_ands;have HB3:Hid (Below w w w3):=zac (ybC (zal (yaf _ _)) (hb3.mono zO));clear hx hr1 hr2 hg2 hg3 HB HN HV hb1 hb3 hb hz;go_wp2
  all_goals
   haveI:zaj w.heap.size w3:=⟨zO⟩;refine yag (v:=askV none) (by simp only[results,results150];simp[go_sem,askV, *]) rfl ⟨rfl,?_⟩
   (repeat(first|exact HB3.out|refine zal ?_|refine ya2 ?_|refine Below.setCell ?_ (by simp only;omega) _))
 rcases l2 with _|⟨y,l2⟩
 rotate_left
 ·rw[List.isEmpty_cons,Bool.not_false,Bool.or_true,Bool.true_or,yaj rfl]
  go_enter func150,ntmps150;go_wp2_with fail;go_at_call 185;refine(HB.out _).mono ?_;rintro e w1 ⟨rfl,hr1,hb1⟩;go_wp2_with fail;go_at_call 186;refine(HN.out _ _ hr1).mono ?_;rintro e w2 ⟨rfl,hr2,hg2⟩;go_wp2_with fail;go_at_call 187;refine(HV.out _ _ hr2).mono ?_;rintro e w3 ⟨rfl,hr3,hg3⟩;have hb3:=za7 (za7 hb1 hg2 (yai _) zS) hg3 (yai _) zS;have hz:=hb3.block w.heap.size zO;rw[heap_alloc,yaj rfl]at hz;obtain⟨v3,hb,A,k,rfl,hc,hcm,hx⟩:=hr3;simp only at *;have c0:=zaa hb 0;have c1:=zaa hb 1;simp at c0 c1;have hz4:=blk4 hz;have hlt:=zae hb;have hlt0:w.heap.size<w3.heap.size:=by omega
  go_split_ands;have HB3:Hid (Below w w w3):=zac (ybC (zal (yaf _ _)) (hb3.mono zO));clear hx hr1 hr2 hg2 hg3 HB HN HV hb1 hb3 hb hz;go_wp2
  all_goals
   haveI:zaj w.heap.size w3:=⟨zO⟩;refine yag (v:=askV none) (by simp only[results,results150];simp[go_sem,askV, *]) rfl ⟨rfl,?_⟩
   (repeat(first|exact HB3.out|refine zal ?_|refine ya2 ?_|refine Below.setCell ?_ (by simp only;omega) _))
 by_cases h4:4≤n
 ·rw[yae h4,Bool.or_true,yaj rfl]
  go_enter func150,ntmps150;go_wp2_with fail;go_at_call 185;refine(HB.out _).mono ?_;rintro e w1 ⟨rfl,hr1,hb1⟩;go_wp2_with fail;go_at_call 186;refine(HN.out _ _ hr1).mono ?_;rintro e w2 ⟨rfl,hr2,hg2⟩;go_wp2_with fail;go_at_call 187;refine(HV.out _ _ hr2).mono ?_;rintro e w3 ⟨rfl,hr3,hg3⟩;have hb3:=za7 (za7 hb1 hg2 (yai _) zS) hg3 (yai _) zS;have hz:=hb3.block w.heap.size zO;rw[heap_alloc,yaj rfl]at hz;obtain⟨v3,hb,A,k,rfl,hc,hcm,hx⟩:=hr3;simp only at *;have c0:=zaa hb 0;have c1:=zaa hb 1;simp at c0 c1;have hz4:=blk4 hz;have hlt:=zae hb;have hlt0:w.heap.size<w3.heap.size:=by omega
  go_split_ands;have HB3:Hid (Below w w w3):=zac (ybC (zal (yaf _ _)) (hb3.mono zO));clear hx hr1 hr2 hg2 hg3 HB HN HV hb1 hb3 hb hz;go_wp2
  all_goals
   haveI:zaj w.heap.size w3:=⟨zO⟩;refine yag (v:=askV none) (by simp only[results,results150];simp[go_sem,askV, *]) rfl ⟨rfl,?_⟩
   (repeat(first|exact HB3.out|refine zal ?_|refine ya2 ?_|refine Below.setCell ?_ (by simp only;omega) _))
 ·rw[yah h4,Bool.or_false,List.isEmpty_nil,Bool.not_true,Bool.or_false,yad Bool.false_ne_true]
  go_enter func150,ntmps150;go_wp2_with fail;go_at_call 185;refine(HB.out _).mono ?_;rintro e w1 ⟨rfl,hr1,hb1⟩;go_wp2_with fail;go_at_call 186;refine(HN.out _ _ hr1).mono ?_;rintro e w2 ⟨rfl,hr2,hg2⟩;go_wp2_with fail;go_at_call 187;refine(HV.out _ _ hr2).mono ?_;rintro e w3 ⟨rfl,hr3,hg3⟩;have hb3:=za7 (za7 hb1 hg2 (yai _) zS) hg3 (yai _) zS;have hz:=hb3.block w.heap.size zO;rw[heap_alloc,yaj rfl]at hz;obtain⟨v3,hb,A,k,rfl,hc,hcm,hx⟩:=hr3;simp only at *;have c0:=zaa hb 0;have c1:=zaa hb 1;simp at c0 c1;have hz4:=blk4 hz;have hlt:=zae hb;have hlt0:w.heap.size<w3.heap.size:=by omega
  go_split_ands;have HB3:Hid (Below w w w3):=zac (ybC (zal (yaf _ _)) (hb3.mono zO));clear hx hr1 hr2 hg2 hg3 HB HN HV hb1 hb3 hb hz;go_wp2;go_region_held3 (fun W:World=>W.cell? ⟨w3,0,none⟩=some (ii a)∧W.cell? ⟨w3,1,none⟩=some (ii b)∧W.cell? ⟨w3,2,none⟩=some (ii c)∧W.cell? ⟨w3,3,none⟩=some (ii d)) ((repeat' apply And.intro) <;> simp[go_sem, *]) (fail)
  all_goals go_wp2
  all_goals
   haveI:zaj w.heap.size w3:=⟨zO⟩;refine yag (v:=askV (some (n,a,b,c,d))) (by simp only[results,results150];simp[go_sem,askV, *]) rfl ⟨rfl,?_⟩
   (repeat(first|exact HB3.out|refine zal ?_|refine ya2 ?_|refine Below.setCell ?_ (by simp only;omega) _))
theorem info43:(prog.info? 83).map (fun i=>(i.zero,i.size,i.bytes))=some (some (.agg #[ii 0,.string ⟨#[]⟩,.bool false]),3,32):=by kernel_rfl
def za3 (l:List WrP):List Value:=l.flatMap fun x=>[ii x.key,.string x.data,.bool x.gone]
theorem zfU (l:List WrP):(za3 l).length=l.length*3:=by
 induction l with
 | nil=>rfl
 | cons x l ih=>simp only[za3,yaN,yak,yaq,yaB]at ih ⊢;omega
theorem zgN (a b:List WrP):za3 (a++b)=za3 a++za3 b:=by simp[za3]
theorem wrCells_at:∀ (l:List WrP) (i:Nat) (x:WrP),l[i]?=some x→(za3 l)[i*3]?=some (ii x.key)∧(za3 l)[i*3+1]?=some (.string x.data)∧(za3 l)[i*3+2]?=some (.bool x.gone)
 | [],i,x,h=>by simp at h
 | y::l,0,x,h=>by simp at h;subst h;simp[za3]
 | y::l,i+1,x,h=>by
   have:=wrCells_at l i x (by simpa using h);have e:∀ j,(za3 (y::l))[j+3]?=(za3 l)[j]?:=fun j=>by simp[za3,yaC]
   rw[show(i+1)*3=i*3+3 by omega,show i*3+3+1=(i*3+1)+3 by omega,show i*3+3+2=(i*3+2)+3 by omega,e,e,e];exact this
theorem zkg {w:World}{B c:Nat}{A:Option Addr}{ws:List WrP}(h:w.ownsRow B 83 3 (.slice A ws.length c) ws.length (za3 ws)):zaN w A ws:=by
 intro i x hx;obtain⟨hl,hn|⟨g,cap,cur,hv,hb,hg,rest⟩⟩:=id h
 ·have:ws=[]:=yan hn.2
  subst this;simp at hx
 ·simp only[yaP]at hv
  obtain⟨rfl,_,rfl⟩:=hv;have hc:=h.cells (g:=g) rfl;obtain⟨h0,h1,h2⟩:=wrCells_at ws i x hx;have e:∀ j:Nat,(⟨g,0,none⟩:Addr).add j=⟨g,0+j,none⟩:=fun j=>by unfold Addr.add;split <;> simp_all
  have k0:=hc _ _ h0;have k1:=hc _ _ h1;have k2:=hc _ _ h2;rw[e]at k0 k1 k2;exact⟨g,0,rfl,(yaV.1 hg).1,k0,k1,k2⟩
structure zj3 (w W:World) (g tb:Nat) (x0 x1 x2 x3 x4 x5 x6 x7:Int) (A:Option Addr) (c:Nat) (ws:List WrP) (r:Rd):Prop where
 rd:zdZ W g r
 z:W.heap[w.heap.size]?=some (.cells #[ii 0,ii 0,ii 0,ii 0,ii 0,ii 0,ii 0,ii 0,.slice none 0 0] 44)
 tx:W.heap[tb]?=some (.cells #[x0,x1,x2,x3,x4,x5,x6,x7,.slice A ws.length c] 44)
 own:W.ownsRow (tb+1) 83 3 (.slice A ws.length c) ws.length (za3 ws)
 bl:Below w w W
 lg:w.heap.size<g
 lt:g<tb
theorem zao {w:World}{B e s n:Nat}{v:Value}{xs:List Value}(h:w.ownsRow B e s v n xs){k:Nat}(hk:v.ownBlock=some k):B≤k∧k<w.heap.size:=by
 obtain⟨_,hn|⟨g,cap,cur,hv,hb,hg,_⟩⟩:=h
 ·rw[hn.1]at hk;simp[Value.ownBlock]at hk
 ·subst hv
  have:g=k:=by simpa[Value.ownBlock]using hk
  subst this;exact⟨hb,(yaV.1 hg).1⟩
theorem zj3.keep {w W W':World}{g tb p:Nat}{x0 x1 x2 x3 x4 x5 x6 x7:Int}{A:Option Addr}{c:Nat}{ws:List WrP}{r r':Rd}(st:zj3 w W g tb x0 x1 x2 x3 x4 x5 x6 x7 A c ws r)
  (hg:W.grownBy W' (some p)) (hp:w.heap.size<p) (hpt:p≠tb) (hown:(Value.slice A ws.length c).ownBlock≠some p) (hr:zdZ W' g r'):zj3 w W' g tb x0 x1 x2 x3 x4 x5 x6 x7 A c ws r':=by
 have h1:=zae st.z;have h2:=zae st.tx;exact⟨hr,by rw[hg.block _ h1 zP];exact st.z,by rw[hg.block _ h2 zP];exact st.tx,st.own.kept hg (.inr hown),za7 st.bl hg zO (yai _),st.lg,st.lt⟩
theorem zj3.call {w W W':World}{g tb:Nat}{x0 x1 x2 x3 x4 x5 x6 x7:Int}{A:Option Addr}{c:Nat}{ws:List WrP}{r r':Rd}(st:zj3 w W g tb x0 x1 x2 x3 x4 x5 x6 x7 A c ws r)
  (hr:zdZ W' g r') (hg:W.grownBy W' (some g)):zj3 w W' g tb x0 x1 x2 x3 x4 x5 x6 x7 A c ws r':=
 st.keep hg st.lg (Nat.ne_of_lt st.lt) (fun e=>by have:=(zao st.own e).1;have:=st.lt;omega) hr
theorem zhL {W W':World}{g p:Nat}{r:Rd}(h:zdZ W g r) (hg:W.grownBy W' (some p)) (hp:g<p):zdZ W' g r:=
 h.above fun k hk=>hg.block k (Nat.lt_of_le_of_lt hk h.lt) zP
structure DtR (w W:World) (g tb:Nat) (x0 x1 x2 x3 x4 x5 x6 x7:Int) (A:Option Addr) (c:Nat) (ws:List WrP) (r:Rd) (p:Nat) (k:Int) (dt:ByteArray) (gn:Bool):Prop where
 st:zj3 w W g tb x0 x1 x2 x3 x4 x5 x6 x7 A c ws r
 t7:W.heap[p]?=some (.cells #[k,.string dt,.bool gn] 83)
 hp:tb<p
 ho:(Value.slice A ws.length c).ownBlock≠some p
theorem zj3.round {w W:World}{g tb:Nat}{x0 x1 x2 x3 x4 x5 x6 x7:Int}{A:Option Addr}{c:Nat}{ws:List WrP}{r:Rd}{k:Int}{dt:ByteArray}{gn:Bool}{o:Obj}(st:zj3 w W g tb x0 x1 x2 x3 x4 x5 x6 x7 A c ws r)
  (ho:o=.cells #[k,.string dt,.bool gn] 83):DtR w (W.alloc o) g tb x0 x1 x2 x3 x4 x5 x6 x7 A c ws r W.heap.size k dt gn:=by
 subst ho;have h2:=zae st.tx;have hg:=yb1 W (.cells #[k,.string dt,.bool gn] 83) (some W.heap.size);have h3:(Value.slice A ws.length c).ownBlock≠some W.heap.size:=fun e=>by have:=(zao st.own e).2;omega
 have h4:=st.lt;have h5:=st.lg;exact⟨st.keep hg zO zO h3 (zhL st.rd hg zO),by rw[heap_alloc,yaj rfl],h2,h3⟩
theorem DtR.call {w W W':World}{g tb:Nat}{x0 x1 x2 x3 x4 x5 x6 x7:Int}{A:Option Addr}{c:Nat}{ws:List WrP}{r r':Rd}{p:Nat}{k:Int}{dt:ByteArray}{gn:Bool}(st:DtR w W g tb x0 x1 x2 x3 x4 x5 x6 x7 A c ws r p k dt gn)
  (hr:zdZ W' g r') (hg:W.grownBy W' (some g)):DtR w W' g tb x0 x1 x2 x3 x4 x5 x6 x7 A c ws r' p k dt gn:=by
 have h1:=zae st.t7;have h2:=st.hp;have h3:=st.st.lt;exact⟨st.st.call hr hg,by rw[hg.block _ h1 zP];exact st.t7,st.hp,st.ho⟩
theorem DtR.set {w W:World}{g tb:Nat}{x0 x1 x2 x3 x4 x5 x6 x7:Int}{A:Option Addr}{c:Nat}{ws:List WrP}{r:Rd}{p:Nat}{k k':Int}{dt dt':ByteArray}{gn gn':Bool}{i:Nat}{u:Value}(st:DtR w W g tb x0 x1 x2 x3 x4 x5 x6 x7 A c ws r p k dt gn)
  (hu:(#[ii k,.string dt,.bool gn]:Array Value).setIfInBounds i u=#[ii k',.string dt',.bool gn']):DtR w (W.setCell ⟨p,i,none⟩ u) g tb x0 x1 x2 x3 x4 x5 x6 x7 A c ws r p k' dt' gn':=by
 have h2:=st.hp;have h3:=st.st.lt;have h4:=st.st.lg;have hg:=zan W p i u;exact⟨st.st.keep hg zO zO st.ho (zhL st.st.rd hg zO),by rw[zam st.t7 i u,hu],h2,st.ho⟩
theorem DtR.setBad {w W:World}{g tb:Nat}{x0 x1 x2 x3 x4 x5 x6 x7:Int}{A:Option Addr}{c:Nat}{ws:List WrP}{r:Rd}{p:Nat}{k:Int}{dt:ByteArray}{gn:Bool}(b:Bool) (st:DtR w W g tb x0 x1 x2 x3 x4 x5 x6 x7 A c ws r p k dt gn):
  DtR w (W.setCell ⟨g,1,none⟩ (.bool b)) g tb x0 x1 x2 x3 x4 x5 x6 x7 A c ws ⟨r.l,b⟩ p k dt gn:=by
 refine st.call ?_ (zan W g 1 _);obtain⟨v,hb,hv⟩:=st.st.rd;exact⟨v,by simpa using zam hb 1 (.bool b),hv.set 1 _⟩
theorem DtR.app {w W W1:World}{g tb:Nat}{x0 x1 x2 x3 x4 x5 x6 x7:Int}{A:Option Addr}{c:Nat}{ws:List WrP}{r:Rd}{p:Nat}{k:Int}{dt:ByteArray}{gn:Bool}{o:Obj}{g1 cap:Nat}(st:DtR w W g tb x0 x1 x2 x3 x4 x5 x6 x7 A c ws r p k dt gn)
  (hown:W1.ownsRow (tb+1) 83 3 (.slice (some ⟨g1,0,none⟩) (ws.length+1) cap) (ws.length+1) (za3 ws++[ii k,.string dt,.bool gn])) (hg:(W.alloc o).grownBy W1 (Value.slice A ws.length c).ownBlock):
  W1.cell? ⟨tb,8,none⟩=some (.slice A ws.length c)∧W1.frozen? ⟨tb,8,none⟩=false∧
  zj3 w (W1.setCell ⟨tb,8,none⟩ (.slice (some ⟨g1,0,none⟩) (ws.length+1) cap)) g tb x0 x1 x2 x3 x4 x5 x6 x7 (some ⟨g1,0,none⟩) cap (ws++[⟨k,dt,gn⟩]) r:=by
 have h2:=st.hp;have h3:=st.st.lt;have h4:=st.st.lg;have hge:∀ j,(Value.slice A ws.length c).ownBlock=some j→tb+1≤j:=fun j e=>(zao st.st.own e).1
 have hgr:W.grownBy W1 (Value.slice A ws.length c).ownBlock:=zch (yb1 W o _) hg (.inl rfl);have h5:=zae st.st.tx;have h6:=zae st.st.z;have htb:W1.heap[tb]?=W.heap[tb]?:=hgr.block tb h5 (fun e=>by have:=hge tb e.symm;omega);have hz:W1.heap[w.heap.size]?=W.heap[w.heap.size]?:=hgr.block _ h6 (fun e=>by have:=hge _ e.symm;omega);have htx:=st.st.tx;rw[←htb]at htx;have hgs:=zan W1 tb 8 (.slice (some ⟨g1,0,none⟩) (ws.length+1) cap);refine⟨zaa htx 8,zab htx 8,?_,?_,?_,?_,?_,h4,h3⟩
 ·refine zhL ?_ hgs h3
  exact st.st.rd.above fun j hj=>hgr.block j zO (fun e=>by have:=hge _ e.symm;omega)
 ·rw[hgs.block _ (by have:=hgr.size;omega) zP,hz];exact st.st.z
 ·rw[zam htx 8 _];simp
 ·have hn:(ws++[(⟨k,dt,gn⟩:WrP)]).length=ws.length+1:=by simp
  rw[hn,zgN];exact hown.kept hgs (.inr (by have:=(zao hown (k:=g1) rfl).1;simp[Value.ownBlock];omega))
 ·refine za7 (g:=tb) ?_ hgs zO (yai _)
  exact yaE st.st.bl hgr (ybw h6) (fun j e=>by have:=hge j e;omega)
end Go.Proofs.YtbopfhbeegkkaabGreatDoor
