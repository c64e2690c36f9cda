/- Part 4 of a proof: lemmas and contracts that other parts use. -/
import Derived.Test.YtbopfhbeegkkaabGreatDoorSe3
import Derived.Test.YtbopfhbeegkkaabGreatDoorSe1
set_option linter.unusedVariables false
set_option linter.unusedSimpArgs false
set_option linter.constructorNameAsVariable false
namespace Go.Proofs.YtbopfhbeegkkaabGreatDoor
open Go.RowKit
theorem rightS_is {aw ac:Int} {b:Bool} (h:rightS aw ac=b) (w:World):Calls Tryz.prog 135 #[.agg #[.int .i64 aw,.int .i64 ac]] w fun e w'=>e=.returned (.bool b)∧Below w.heap.size w w':=by
 subst h;exact rightS_any aw ac w
theorem right_is {a0 a1 a2 a3:Int} {b:Bool} (h:rgtB a0 a1 a2 a3=b) (w:World):Calls Tryz.prog 77 #[.agg #[.int .i64 a0,.int .i64 a1,.int .i64 a2,.int .i64 a3]] w fun e w'=>e=.returned (.bool b)∧Below w.heap.size w w':=by
 subst h;exact right_any a0 a1 a2 a3 w
theorem headTx_eq (t:TxP):headTx t=(decide (0≤t.site∧t.site<4)&&decide (1≤t.seq∧t.seq≤1099511627776)&&rightS t.wall t.count&&rgtB t.d0 t.d1 t.d2 t.d3&&decide (depAt t=t.seq-1)):=by
 rw [Bool.eq_iff_iff]
 simp only [headTx,okN,rightS,rgtB,Bool.and_eq_true,decide_eq_true_eq]
 constructor <;> (intro h;simp only [and_assoc] at h ⊢;obtain ⟨h0,h1,h2,h3,h4,h5,h6,h7,h8⟩:=h;omega)
set_option maxHeartbeats 2000000 in
theorem rtx_1 (site:Int) (seq wall count d0 d1 d2 d3:Int) (A:Option Addr) (c:Nat) (ws:List WrP) (w:World) (hn:ws.length≤1000000) (hws:WsAt w A ws) (hseq:-9223372036854775808≤seq∧seq≤9223372036854775807) (h1:site<0):
  Calls Tryz.prog 82 #[.agg #[.int .i64 site,.int .i64 seq,.int .i64 wall,.int .i64 count,.int .i64 d0,.int .i64 d1,.int .i64 d2,.int .i64 d3,.slice A ws.length c]] w
   fun e w'=>e=.returned (.bool (rightTx ⟨site,seq,wall,count,d0,d1,d2,d3,ws⟩))∧Below w.heap.size w w':=by
 have HF:Hid (rightTx ⟨site,seq,wall,count,d0,d1,d2,d3,ws⟩=false):=hidp (by rw [rightTx,headTx_eq];simp;omega)
 clear hws
 have _:decide (site<0)=true:=by simpa using h1
 go_enter Tryz.func82,Tryz.ntmps82
 go_wp2
 refine wp_region_plus (by kernel_rfl) (by kernel_rfl) ?_
 repeat (first | go_big_quiet_skip | (go_big_quiet_want;go_big_quiet_op;first | go_big_quiet_on | (apply Exists.intro;refine ⟨fun _=>?_,?_⟩;(first | (go_at_call 135;exact Calls.plus_of (HS.out _)) | (go_at_call 77;exact Calls.plus_of (HR.out _)));go_big_quiet_on)))
 refine wpQuiet_nil ?_
 rintro _ ⟨x,rfl⟩
 go_wp2
 go_ret
 exact ⟨by rw [HF.out];rfl,zB⟩
set_option maxHeartbeats 2000000 in
theorem rtx_2 (site:Int) (seq wall count d0 d1 d2 d3:Int) (A:Option Addr) (c:Nat) (ws:List WrP) (w:World) (hn:ws.length≤1000000) (hws:WsAt w A ws) (hseq:-9223372036854775808≤seq∧seq≤9223372036854775807) (h1:0≤site) (h2:4≤site):
  Calls Tryz.prog 82 #[.agg #[.int .i64 site,.int .i64 seq,.int .i64 wall,.int .i64 count,.int .i64 d0,.int .i64 d1,.int .i64 d2,.int .i64 d3,.slice A ws.length c]] w
   fun e w'=>e=.returned (.bool (rightTx ⟨site,seq,wall,count,d0,d1,d2,d3,ws⟩))∧Below w.heap.size w w':=by
 have HF:Hid (rightTx ⟨site,seq,wall,count,d0,d1,d2,d3,ws⟩=false):=hidp (by rw [rightTx,headTx_eq];simp;omega)
 clear hws
 have _:decide (site<0)=false:=by simpa using h1
 have _:decide (4≤site)=true:=by simpa using h2
 go_enter Tryz.func82,Tryz.ntmps82
 go_wp2
 refine wp_region_plus (by kernel_rfl) (by kernel_rfl) ?_
 repeat (first | go_big_quiet_skip | (go_big_quiet_want;go_big_quiet_op;first | go_big_quiet_on | (apply Exists.intro;refine ⟨fun _=>?_,?_⟩;(first | (go_at_call 135;exact Calls.plus_of (HS.out _)) | (go_at_call 77;exact Calls.plus_of (HR.out _)));go_big_quiet_on)))
 refine wpQuiet_nil ?_
 rintro _ ⟨x,rfl⟩
 go_wp2
 go_ret
 exact ⟨by rw [HF.out];rfl,zB⟩
set_option maxHeartbeats 2000000 in
theorem rtx_3 (site:Int) (seq wall count d0 d1 d2 d3:Int) (A:Option Addr) (c:Nat) (ws:List WrP) (w:World) (hn:ws.length≤1000000) (hws:WsAt w A ws) (hseq:-9223372036854775808≤seq∧seq≤9223372036854775807) (h1:0≤site) (h2:site<4) (h3:seq<1):
  Calls Tryz.prog 82 #[.agg #[.int .i64 site,.int .i64 seq,.int .i64 wall,.int .i64 count,.int .i64 d0,.int .i64 d1,.int .i64 d2,.int .i64 d3,.slice A ws.length c]] w
   fun e w'=>e=.returned (.bool (rightTx ⟨site,seq,wall,count,d0,d1,d2,d3,ws⟩))∧Below w.heap.size w w':=by
 have HF:Hid (rightTx ⟨site,seq,wall,count,d0,d1,d2,d3,ws⟩=false):=hidp (by rw [rightTx,headTx_eq];simp;omega)
 clear hws
 have _:decide (site<0)=false:=by simpa using h1
 have _:decide (4≤site)=false:=by simpa using h2
 have _:decide (seq<1)=true:=by simpa using h3
 go_enter Tryz.func82,Tryz.ntmps82
 go_wp2
 refine wp_region_plus (by kernel_rfl) (by kernel_rfl) ?_
 repeat (first | go_big_quiet_skip | (go_big_quiet_want;go_big_quiet_op;first | go_big_quiet_on | (apply Exists.intro;refine ⟨fun _=>?_,?_⟩;(first | (go_at_call 135;exact Calls.plus_of (HS.out _)) | (go_at_call 77;exact Calls.plus_of (HR.out _)));go_big_quiet_on)))
 refine wpQuiet_nil ?_
 rintro _ ⟨x,rfl⟩
 go_wp2
 go_ret
 exact ⟨by rw [HF.out];rfl,zB⟩
set_option maxHeartbeats 2000000 in
theorem rtx_4 (site:Int) (seq wall count d0 d1 d2 d3:Int) (A:Option Addr) (c:Nat) (ws:List WrP) (w:World) (hn:ws.length≤1000000) (hws:WsAt w A ws) (hseq:-9223372036854775808≤seq∧seq≤9223372036854775807) (h1:0≤site) (h2:site<4) (h3:1≤seq) (h4:1099511627776<seq):
  Calls Tryz.prog 82 #[.agg #[.int .i64 site,.int .i64 seq,.int .i64 wall,.int .i64 count,.int .i64 d0,.int .i64 d1,.int .i64 d2,.int .i64 d3,.slice A ws.length c]] w
   fun e w'=>e=.returned (.bool (rightTx ⟨site,seq,wall,count,d0,d1,d2,d3,ws⟩))∧Below w.heap.size w w':=by
 have HF:Hid (rightTx ⟨site,seq,wall,count,d0,d1,d2,d3,ws⟩=false):=hidp (by rw [rightTx,headTx_eq];simp;omega)
 clear hws
 have _:decide (site<0)=false:=by simpa using h1
 have _:decide (4≤site)=false:=by simpa using h2
 have _:decide (seq<1)=false:=by simpa using h3
 have _:decide (1099511627776<seq)=true:=by simpa using h4
 go_enter Tryz.func82,Tryz.ntmps82
 go_wp2
 refine wp_region_plus (by kernel_rfl) (by kernel_rfl) ?_
 repeat (first | go_big_quiet_skip | (go_big_quiet_want;go_big_quiet_op;first | go_big_quiet_on | (apply Exists.intro;refine ⟨fun _=>?_,?_⟩;(first | (go_at_call 135;exact Calls.plus_of (HS.out _)) | (go_at_call 77;exact Calls.plus_of (HR.out _)));go_big_quiet_on)))
 refine wpQuiet_nil ?_
 rintro _ ⟨x,rfl⟩
 go_wp2
 go_ret
 exact ⟨by rw [HF.out];rfl,zB⟩
set_option maxHeartbeats 2000000 in
theorem rtx_5 (site:Int) (seq wall count d0 d1 d2 d3:Int) (A:Option Addr) (c:Nat) (ws:List WrP) (w:World) (hn:ws.length≤1000000) (hws:WsAt w A ws) (hseq:-9223372036854775808≤seq∧seq≤9223372036854775807) (h1:0≤site) (h2:site<4) (h3:1≤seq) (h4:seq≤1099511627776) (hs:rightS wall count=false):
  Calls Tryz.prog 82 #[.agg #[.int .i64 site,.int .i64 seq,.int .i64 wall,.int .i64 count,.int .i64 d0,.int .i64 d1,.int .i64 d2,.int .i64 d3,.slice A ws.length c]] w
   fun e w'=>e=.returned (.bool (rightTx ⟨site,seq,wall,count,d0,d1,d2,d3,ws⟩))∧Below w.heap.size w w':=by
 have HF:Hid (rightTx ⟨site,seq,wall,count,d0,d1,d2,d3,ws⟩=false):=hidp (by rw [rightTx,headTx_eq];simp [hs])
 clear hws
 have HS:=hidp (fun w=>rightS_is hs w)
 clear hs
 have _:decide (site<0)=false:=by simpa using h1
 have _:decide (4≤site)=false:=by simpa using h2
 have _:decide (seq<1)=false:=by simpa using h3
 have _:decide (1099511627776<seq)=false:=by simpa using h4
 go_enter Tryz.func82,Tryz.ntmps82
 go_wp2
 refine wp_region_plus (by kernel_rfl) (by kernel_rfl) ?_
 repeat (first | go_big_quiet_skip | (go_big_quiet_want;go_big_quiet_op;first | go_big_quiet_on | (apply Exists.intro;refine ⟨fun _=>?_,?_⟩;(first | (go_at_call 135;exact Calls.plus_of (HS.out _)) | (go_at_call 77;exact Calls.plus_of (HR.out _)));go_big_quiet_on)))
 refine wpQuiet_nil ?_
 rintro _ ⟨x,rfl⟩
 go_wp2
 go_ret
 exact ⟨by rw [HF.out];rfl,zB⟩
set_option maxHeartbeats 2000000 in
theorem rtx_6 (site:Int) (seq wall count d0 d1 d2 d3:Int) (A:Option Addr) (c:Nat) (ws:List WrP) (w:World) (hn:ws.length≤1000000) (hws:WsAt w A ws) (hseq:-9223372036854775808≤seq∧seq≤9223372036854775807) (h1:0≤site) (h2:site<4) (h3:1≤seq) (h4:seq≤1099511627776) (hs:rightS wall count=true) (hr:rgtB d0 d1 d2 d3=false):
  Calls Tryz.prog 82 #[.agg #[.int .i64 site,.int .i64 seq,.int .i64 wall,.int .i64 count,.int .i64 d0,.int .i64 d1,.int .i64 d2,.int .i64 d3,.slice A ws.length c]] w
   fun e w'=>e=.returned (.bool (rightTx ⟨site,seq,wall,count,d0,d1,d2,d3,ws⟩))∧Below w.heap.size w w':=by
 have HF:Hid (rightTx ⟨site,seq,wall,count,d0,d1,d2,d3,ws⟩=false):=hidp (by rw [rightTx,headTx_eq];simp [hr])
 clear hws
 have HS:=hidp (fun w=>rightS_is hs w)
 have HR:=hidp (fun w=>right_is hr w)
 clear hs hr
 have _:decide (site<0)=false:=by simpa using h1
 have _:decide (4≤site)=false:=by simpa using h2
 have _:decide (seq<1)=false:=by simpa using h3
 have _:decide (1099511627776<seq)=false:=by simpa using h4
 go_enter Tryz.func82,Tryz.ntmps82
 go_wp2
 refine wp_region_plus (by kernel_rfl) (by kernel_rfl) ?_
 repeat (first | go_big_quiet_skip | (go_big_quiet_want;go_big_quiet_op;first | go_big_quiet_on | (apply Exists.intro;refine ⟨fun _=>?_,?_⟩;(first | (go_at_call 135;exact Calls.plus_of (HS.out _)) | (go_at_call 77;exact Calls.plus_of (HR.out _)));go_big_quiet_on)))
 refine wpQuiet_nil ?_
 rintro _ ⟨x,rfl⟩
 go_wp2
 go_ret
 exact ⟨by rw [HF.out];rfl,zB⟩
set_option maxHeartbeats 2000000 in
theorem rtx_70 (seq wall count d0 d1 d2 d3:Int) (A:Option Addr) (c:Nat) (ws:List WrP) (w:World) (hn:ws.length≤1000000) (hws:WsAt w A ws) (hseq:-9223372036854775808≤seq∧seq≤9223372036854775807) (h3:1≤seq) (h4:seq≤1099511627776) (hs:rightS wall count=true) (hr:rgtB d0 d1 d2 d3=true) (hd:d0≠seq-1):
  Calls Tryz.prog 82 #[.agg #[.int .i64 0,.int .i64 seq,.int .i64 wall,.int .i64 count,.int .i64 d0,.int .i64 d1,.int .i64 d2,.int .i64 d3,.slice A ws.length c]] w
   fun e w'=>e=.returned (.bool (rightTx ⟨0,seq,wall,count,d0,d1,d2,d3,ws⟩))∧Below w.heap.size w w':=by
 have HF:Hid (rightTx ⟨0,seq,wall,count,d0,d1,d2,d3,ws⟩=false):=hidp (by rw [rightTx,headTx_eq];simp [depAt,hd])
 clear hws
 have HS:=hidp (fun w=>rightS_is hs w)
 have HR:=hidp (fun w=>right_is hr w)
 have hd1:(d0 != seq-1)=true:=by simpa using hd
 clear hs hr hd
 have _:decide (seq<1)=false:=by simpa using h3
 have _:decide (1099511627776<seq)=false:=by simpa using h4
 go_enter Tryz.func82,Tryz.ntmps82
 go_wp2
 refine wp_region_plus (by kernel_rfl) (by kernel_rfl) ?_
 repeat (first | go_big_quiet_skip | (go_big_quiet_want;go_big_quiet_op;first | go_big_quiet_on | (apply Exists.intro;refine ⟨fun _=>?_,?_⟩;(first | (go_at_call 135;exact Calls.plus_of (HS.out _)) | (go_at_call 77;exact Calls.plus_of (HR.out _)));go_big_quiet_on)))
 refine wpQuiet_nil ?_
 rintro _ ⟨x,rfl⟩
 go_wp2
 go_ret
 exact ⟨by rw [HF.out];rfl,zB⟩
set_option maxHeartbeats 2000000 in
theorem rtx_80 (seq wall count d0 d1 d2 d3:Int) (A:Option Addr) (c:Nat) (ws:List WrP) (w:World) (hn:ws.length≤1000000) (hws:WsAt w A ws) (hseq:-9223372036854775808≤seq∧seq≤9223372036854775807) (h3:1≤seq) (h4:seq≤1099511627776) (hs:rightS wall count=true) (hr:rgtB d0 d1 d2 d3=true) (hd:d0=seq-1):
  Calls Tryz.prog 82 #[.agg #[.int .i64 0,.int .i64 seq,.int .i64 wall,.int .i64 count,.int .i64 d0,.int .i64 d1,.int .i64 d2,.int .i64 d3,.slice A ws.length c]] w
   fun e w'=>e=.returned (.bool (rightTx ⟨0,seq,wall,count,d0,d1,d2,d3,ws⟩))∧Below w.heap.size w w':=by
 have HF:Hid (rightTx ⟨0,seq,wall,count,d0,d1,d2,d3,ws⟩=rightWs ws):=hidp (by rw [rightTx,headTx_eq];simp only [depAt];rw [hs,hr,decide_eq_true (show 1≤seq∧seq≤1099511627776 from ⟨h3,h4⟩)];simp [hd])
 have HS:=hidp (fun w=>rightS_is hs w)
 have HR:=hidp (fun w=>right_is hr w)
 have HW:=hidp hws
 have hd1:(d0 != seq-1)=false:=by simpa using hd
 clear hs hr hd hws
 have _:decide (seq<1)=false:=by simpa using h3
 have _:decide (1099511627776<seq)=false:=by simpa using h4
 go_enter Tryz.func82,Tryz.ntmps82
 go_wp2
 refine wp_region_plus (by kernel_rfl) (by kernel_rfl) ?_
 repeat (first | go_big_quiet_skip | (go_big_quiet_want;go_big_quiet_op;first | go_big_quiet_on | (apply Exists.intro;refine ⟨fun _=>?_,?_⟩;(first | (go_at_call 135;exact Calls.plus_of (HS.out _)) | (go_at_call 77;exact Calls.plus_of (HR.out _)));go_big_quiet_on)))
 refine wpQuiet_nil ?_
 rintro _ ⟨x,rfl⟩
 go_wp2_with fail
 refine (rightWs_any A c ws _ hn (HW.out.below (by repeat (first | exact Below.refl _ _ | refine blw_alloc ?_ | refine blw_plus ?_ | refine Below.drew ?_)))).mono ?_
 rintro e w' ⟨rfl,hb⟩
 obtain ⟨y,rfl⟩:=wplus_of_below hb
 clear hb
 go_wp2
 go_ret
 exact ⟨by rw [HF.out];rfl,zB⟩
set_option maxHeartbeats 2000000 in
theorem rtx_71 (seq wall count d0 d1 d2 d3:Int) (A:Option Addr) (c:Nat) (ws:List WrP) (w:World) (hn:ws.length≤1000000) (hws:WsAt w A ws) (hseq:-9223372036854775808≤seq∧seq≤9223372036854775807) (h3:1≤seq) (h4:seq≤1099511627776) (hs:rightS wall count=true) (hr:rgtB d0 d1 d2 d3=true) (hd:d1≠seq-1):
  Calls Tryz.prog 82 #[.agg #[.int .i64 1,.int .i64 seq,.int .i64 wall,.int .i64 count,.int .i64 d0,.int .i64 d1,.int .i64 d2,.int .i64 d3,.slice A ws.length c]] w
   fun e w'=>e=.returned (.bool (rightTx ⟨1,seq,wall,count,d0,d1,d2,d3,ws⟩))∧Below w.heap.size w w':=by
 have HF:Hid (rightTx ⟨1,seq,wall,count,d0,d1,d2,d3,ws⟩=false):=hidp (by rw [rightTx,headTx_eq];simp [depAt,hd])
 clear hws
 have HS:=hidp (fun w=>rightS_is hs w)
 have HR:=hidp (fun w=>right_is hr w)
 have hd1:(d1 != seq-1)=true:=by simpa using hd
 clear hs hr hd
 have _:decide (seq<1)=false:=by simpa using h3
 have _:decide (1099511627776<seq)=false:=by simpa using h4
 go_enter Tryz.func82,Tryz.ntmps82
 go_wp2
 refine wp_region_plus (by kernel_rfl) (by kernel_rfl) ?_
 repeat (first | go_big_quiet_skip | (go_big_quiet_want;go_big_quiet_op;first | go_big_quiet_on | (apply Exists.intro;refine ⟨fun _=>?_,?_⟩;(first | (go_at_call 135;exact Calls.plus_of (HS.out _)) | (go_at_call 77;exact Calls.plus_of (HR.out _)));go_big_quiet_on)))
 refine wpQuiet_nil ?_
 rintro _ ⟨x,rfl⟩
 go_wp2
 go_ret
 exact ⟨by rw [HF.out];rfl,zB⟩
set_option maxHeartbeats 2000000 in
theorem rtx_81 (seq wall count d0 d1 d2 d3:Int) (A:Option Addr) (c:Nat) (ws:List WrP) (w:World) (hn:ws.length≤1000000) (hws:WsAt w A ws) (hseq:-9223372036854775808≤seq∧seq≤9223372036854775807) (h3:1≤seq) (h4:seq≤1099511627776) (hs:rightS wall count=true) (hr:rgtB d0 d1 d2 d3=true) (hd:d1=seq-1):
  Calls Tryz.prog 82 #[.agg #[.int .i64 1,.int .i64 seq,.int .i64 wall,.int .i64 count,.int .i64 d0,.int .i64 d1,.int .i64 d2,.int .i64 d3,.slice A ws.length c]] w
   fun e w'=>e=.returned (.bool (rightTx ⟨1,seq,wall,count,d0,d1,d2,d3,ws⟩))∧Below w.heap.size w w':=by
 have HF:Hid (rightTx ⟨1,seq,wall,count,d0,d1,d2,d3,ws⟩=rightWs ws):=hidp (by rw [rightTx,headTx_eq];simp only [depAt];rw [hs,hr,decide_eq_true (show 1≤seq∧seq≤1099511627776 from ⟨h3,h4⟩)];simp [hd])
 have HS:=hidp (fun w=>rightS_is hs w)
 have HR:=hidp (fun w=>right_is hr w)
 have HW:=hidp hws
 have hd1:(d1 != seq-1)=false:=by simpa using hd
 clear hs hr hd hws
 have _:decide (seq<1)=false:=by simpa using h3
 have _:decide (1099511627776<seq)=false:=by simpa using h4
 go_enter Tryz.func82,Tryz.ntmps82
 go_wp2
 refine wp_region_plus (by kernel_rfl) (by kernel_rfl) ?_
 repeat (first | go_big_quiet_skip | (go_big_quiet_want;go_big_quiet_op;first | go_big_quiet_on | (apply Exists.intro;refine ⟨fun _=>?_,?_⟩;(first | (go_at_call 135;exact Calls.plus_of (HS.out _)) | (go_at_call 77;exact Calls.plus_of (HR.out _)));go_big_quiet_on)))
 refine wpQuiet_nil ?_
 rintro _ ⟨x,rfl⟩
 go_wp2_with fail
 refine (rightWs_any A c ws _ hn (HW.out.below (by repeat (first | exact Below.refl _ _ | refine blw_alloc ?_ | refine blw_plus ?_ | refine Below.drew ?_)))).mono ?_
 rintro e w' ⟨rfl,hb⟩
 obtain ⟨y,rfl⟩:=wplus_of_below hb
 clear hb
 go_wp2
 go_ret
 exact ⟨by rw [HF.out];rfl,zB⟩
set_option maxHeartbeats 2000000 in
theorem rtx_72 (seq wall count d0 d1 d2 d3:Int) (A:Option Addr) (c:Nat) (ws:List WrP) (w:World) (hn:ws.length≤1000000) (hws:WsAt w A ws) (hseq:-9223372036854775808≤seq∧seq≤9223372036854775807) (h3:1≤seq) (h4:seq≤1099511627776) (hs:rightS wall count=true) (hr:rgtB d0 d1 d2 d3=true) (hd:d2≠seq-1):
  Calls Tryz.prog 82 #[.agg #[.int .i64 2,.int .i64 seq,.int .i64 wall,.int .i64 count,.int .i64 d0,.int .i64 d1,.int .i64 d2,.int .i64 d3,.slice A ws.length c]] w
   fun e w'=>e=.returned (.bool (rightTx ⟨2,seq,wall,count,d0,d1,d2,d3,ws⟩))∧Below w.heap.size w w':=by
 have HF:Hid (rightTx ⟨2,seq,wall,count,d0,d1,d2,d3,ws⟩=false):=hidp (by rw [rightTx,headTx_eq];simp [depAt,hd])
 clear hws
 have HS:=hidp (fun w=>rightS_is hs w)
 have HR:=hidp (fun w=>right_is hr w)
 have hd1:(d2 != seq-1)=true:=by simpa using hd
 clear hs hr hd
 have _:decide (seq<1)=false:=by simpa using h3
 have _:decide (1099511627776<seq)=false:=by simpa using h4
 go_enter Tryz.func82,Tryz.ntmps82
 go_wp2
 refine wp_region_plus (by kernel_rfl) (by kernel_rfl) ?_
 repeat (first | go_big_quiet_skip | (go_big_quiet_want;go_big_quiet_op;first | go_big_quiet_on | (apply Exists.intro;refine ⟨fun _=>?_,?_⟩;(first | (go_at_call 135;exact Calls.plus_of (HS.out _)) | (go_at_call 77;exact Calls.plus_of (HR.out _)));go_big_quiet_on)))
 refine wpQuiet_nil ?_
 rintro _ ⟨x,rfl⟩
 go_wp2
 go_ret
 exact ⟨by rw [HF.out];rfl,zB⟩
set_option maxHeartbeats 2000000 in
theorem rtx_82 (seq wall count d0 d1 d2 d3:Int) (A:Option Addr) (c:Nat) (ws:List WrP) (w:World) (hn:ws.length≤1000000) (hws:WsAt w A ws) (hseq:-9223372036854775808≤seq∧seq≤9223372036854775807) (h3:1≤seq) (h4:seq≤1099511627776) (hs:rightS wall count=true) (hr:rgtB d0 d1 d2 d3=true) (hd:d2=seq-1):
  Calls Tryz.prog 82 #[.agg #[.int .i64 2,.int .i64 seq,.int .i64 wall,.int .i64 count,.int .i64 d0,.int .i64 d1,.int .i64 d2,.int .i64 d3,.slice A ws.length c]] w
   fun e w'=>e=.returned (.bool (rightTx ⟨2,seq,wall,count,d0,d1,d2,d3,ws⟩))∧Below w.heap.size w w':=by
 have HF:Hid (rightTx ⟨2,seq,wall,count,d0,d1,d2,d3,ws⟩=rightWs ws):=hidp (by rw [rightTx,headTx_eq];simp only [depAt];rw [hs,hr,decide_eq_true (show 1≤seq∧seq≤1099511627776 from ⟨h3,h4⟩)];simp [hd])
 have HS:=hidp (fun w=>rightS_is hs w)
 have HR:=hidp (fun w=>right_is hr w)
 have HW:=hidp hws
 have hd1:(d2 != seq-1)=false:=by simpa using hd
 clear hs hr hd hws
 have _:decide (seq<1)=false:=by simpa using h3
 have _:decide (1099511627776<seq)=false:=by simpa using h4
 go_enter Tryz.func82,Tryz.ntmps82
 go_wp2
 refine wp_region_plus (by kernel_rfl) (by kernel_rfl) ?_
 repeat (first | go_big_quiet_skip | (go_big_quiet_want;go_big_quiet_op;first | go_big_quiet_on | (apply Exists.intro;refine ⟨fun _=>?_,?_⟩;(first | (go_at_call 135;exact Calls.plus_of (HS.out _)) | (go_at_call 77;exact Calls.plus_of (HR.out _)));go_big_quiet_on)))
 refine wpQuiet_nil ?_
 rintro _ ⟨x,rfl⟩
 go_wp2_with fail
 refine (rightWs_any A c ws _ hn (HW.out.below (by repeat (first | exact Below.refl _ _ | refine blw_alloc ?_ | refine blw_plus ?_ | refine Below.drew ?_)))).mono ?_
 rintro e w' ⟨rfl,hb⟩
 obtain ⟨y,rfl⟩:=wplus_of_below hb
 clear hb
 go_wp2
 go_ret
 exact ⟨by rw [HF.out];rfl,zB⟩
set_option maxHeartbeats 2000000 in
theorem rtx_73 (seq wall count d0 d1 d2 d3:Int) (A:Option Addr) (c:Nat) (ws:List WrP) (w:World) (hn:ws.length≤1000000) (hws:WsAt w A ws) (hseq:-9223372036854775808≤seq∧seq≤9223372036854775807) (h3:1≤seq) (h4:seq≤1099511627776) (hs:rightS wall count=true) (hr:rgtB d0 d1 d2 d3=true) (hd:d3≠seq-1):
  Calls Tryz.prog 82 #[.agg #[.int .i64 3,.int .i64 seq,.int .i64 wall,.int .i64 count,.int .i64 d0,.int .i64 d1,.int .i64 d2,.int .i64 d3,.slice A ws.length c]] w
   fun e w'=>e=.returned (.bool (rightTx ⟨3,seq,wall,count,d0,d1,d2,d3,ws⟩))∧Below w.heap.size w w':=by
 have HF:Hid (rightTx ⟨3,seq,wall,count,d0,d1,d2,d3,ws⟩=false):=hidp (by rw [rightTx,headTx_eq];simp [depAt,hd])
 clear hws
 have HS:=hidp (fun w=>rightS_is hs w)
 have HR:=hidp (fun w=>right_is hr w)
 have hd1:(d3 != seq-1)=true:=by simpa using hd
 clear hs hr hd
 have _:decide (seq<1)=false:=by simpa using h3
 have _:decide (1099511627776<seq)=false:=by simpa using h4
 go_enter Tryz.func82,Tryz.ntmps82
 go_wp2
 refine wp_region_plus (by kernel_rfl) (by kernel_rfl) ?_
 repeat (first | go_big_quiet_skip | (go_big_quiet_want;go_big_quiet_op;first | go_big_quiet_on | (apply Exists.intro;refine ⟨fun _=>?_,?_⟩;(first | (go_at_call 135;exact Calls.plus_of (HS.out _)) | (go_at_call 77;exact Calls.plus_of (HR.out _)));go_big_quiet_on)))
 refine wpQuiet_nil ?_
 rintro _ ⟨x,rfl⟩
 go_wp2
 go_ret
 exact ⟨by rw [HF.out];rfl,zB⟩
set_option maxHeartbeats 2000000 in
theorem rtx_83 (seq wall count d0 d1 d2 d3:Int) (A:Option Addr) (c:Nat) (ws:List WrP) (w:World) (hn:ws.length≤1000000) (hws:WsAt w A ws) (hseq:-9223372036854775808≤seq∧seq≤9223372036854775807) (h3:1≤seq) (h4:seq≤1099511627776) (hs:rightS wall count=true) (hr:rgtB d0 d1 d2 d3=true) (hd:d3=seq-1):
  Calls Tryz.prog 82 #[.agg #[.int .i64 3,.int .i64 seq,.int .i64 wall,.int .i64 count,.int .i64 d0,.int .i64 d1,.int .i64 d2,.int .i64 d3,.slice A ws.length c]] w
   fun e w'=>e=.returned (.bool (rightTx ⟨3,seq,wall,count,d0,d1,d2,d3,ws⟩))∧Below w.heap.size w w':=by
 have HF:Hid (rightTx ⟨3,seq,wall,count,d0,d1,d2,d3,ws⟩=rightWs ws):=hidp (by rw [rightTx,headTx_eq];simp only [depAt];rw [hs,hr,decide_eq_true (show 1≤seq∧seq≤1099511627776 from ⟨h3,h4⟩)];simp [hd])
 have HS:=hidp (fun w=>rightS_is hs w)
 have HR:=hidp (fun w=>right_is hr w)
 have HW:=hidp hws
 have hd1:(d3 != seq-1)=false:=by simpa using hd
 clear hs hr hd hws
 have _:decide (seq<1)=false:=by simpa using h3
 have _:decide (1099511627776<seq)=false:=by simpa using h4
 go_enter Tryz.func82,Tryz.ntmps82
 go_wp2
 refine wp_region_plus (by kernel_rfl) (by kernel_rfl) ?_
 repeat (first | go_big_quiet_skip | (go_big_quiet_want;go_big_quiet_op;first | go_big_quiet_on | (apply Exists.intro;refine ⟨fun _=>?_,?_⟩;(first | (go_at_call 135;exact Calls.plus_of (HS.out _)) | (go_at_call 77;exact Calls.plus_of (HR.out _)));go_big_quiet_on)))
 refine wpQuiet_nil ?_
 rintro _ ⟨x,rfl⟩
 go_wp2_with fail
 refine (rightWs_any A c ws _ hn (HW.out.below (by repeat (first | exact Below.refl _ _ | refine blw_alloc ?_ | refine blw_plus ?_ | refine Below.drew ?_)))).mono ?_
 rintro e w' ⟨rfl,hb⟩
 obtain ⟨y,rfl⟩:=wplus_of_below hb
 clear hb
 go_wp2
 go_ret
 exact ⟨by rw [HF.out];rfl,zB⟩
theorem rightTx_any (site seq wall count d0 d1 d2 d3:Int) (A:Option Addr) (c:Nat) (ws:List WrP) (w:World) (hn:ws.length≤1000000) (hws:WsAt w A ws) (hseq:-9223372036854775808≤seq∧seq≤9223372036854775807):
  Calls Tryz.prog 82 #[.agg #[.int .i64 site,.int .i64 seq,.int .i64 wall,.int .i64 count,.int .i64 d0,.int .i64 d1,.int .i64 d2,.int .i64 d3,.slice A ws.length c]] w
   fun e w'=>e=.returned (.bool (rightTx ⟨site,seq,wall,count,d0,d1,d2,d3,ws⟩))∧Below w.heap.size w w':=by
 by_cases h1:site<0
 ·exact rtx_1 site seq wall count d0 d1 d2 d3 A c ws w hn hws hseq h1
 have h1:0≤site:=by omega
 by_cases h2:4≤site
 ·exact rtx_2 site seq wall count d0 d1 d2 d3 A c ws w hn hws hseq h1 h2
 have h2:site<4:=by omega
 by_cases h3:seq<1
 ·exact rtx_3 site seq wall count d0 d1 d2 d3 A c ws w hn hws hseq h1 h2 h3
 have h3:1≤seq:=by omega
 by_cases h4:1099511627776<seq
 ·exact rtx_4 site seq wall count d0 d1 d2 d3 A c ws w hn hws hseq h1 h2 h3 h4
 have h4:seq≤1099511627776:=by omega
 cases hs:rightS wall count
 ·exact rtx_5 site seq wall count d0 d1 d2 d3 A c ws w hn hws hseq h1 h2 h3 h4 hs
 cases hr:rgtB d0 d1 d2 d3
 ·exact rtx_6 site seq wall count d0 d1 d2 d3 A c ws w hn hws hseq h1 h2 h3 h4 hs hr
 have h5:site=0∨site=1∨site=2∨site=3:=by omega
 rcases h5 with rfl | rfl | rfl | rfl
 ·by_cases hd:d0=seq-1
  ·exact rtx_80 seq wall count d0 d1 d2 d3 A c ws w hn hws hseq h3 h4 hs hr hd
  ·exact rtx_70 seq wall count d0 d1 d2 d3 A c ws w hn hws hseq h3 h4 hs hr hd
 ·by_cases hd:d1=seq-1
  ·exact rtx_81 seq wall count d0 d1 d2 d3 A c ws w hn hws hseq h3 h4 hs hr hd
  ·exact rtx_71 seq wall count d0 d1 d2 d3 A c ws w hn hws hseq h3 h4 hs hr hd
 ·by_cases hd:d2=seq-1
  ·exact rtx_82 seq wall count d0 d1 d2 d3 A c ws w hn hws hseq h3 h4 hs hr hd
  ·exact rtx_72 seq wall count d0 d1 d2 d3 A c ws w hn hws hseq h3 h4 hs hr hd
 ·by_cases hd:d3=seq-1
  ·exact rtx_83 seq wall count d0 d1 d2 d3 A c ws w hn hws hseq h3 h4 hs hr hd
  ·exact rtx_73 seq wall count d0 d1 d2 d3 A c ws w hn hws hseq h3 h4 hs hr hd
end Go.Proofs.YtbopfhbeegkkaabGreatDoor
