/- Part 2 of a proof: lemmas and contracts that other parts use. -/
import Derived.Test.YtbopfhbeegkkaabGreatDoorSe1
import Derived.Test.YtbopfhbeegkkaabGreatDoorRows
import Derived.LaidEql
import Derived.Stop.Asserts
set_option linter.unusedVariables false
set_option linter.unusedSimpArgs false
set_option linter.constructorNameAsVariable false
namespace Go.Proofs.YtbopfhbeegkkaabGreatDoor
open Go.RowKit Go.Extern.Stop Go.Stop Go.Extern
theorem valueOfP (t:Addr) (w:World):(ReflectliteValue.unpack (.iface 194 (.pointer (some t)))).run Tryz.prog w
  = .ok (.agg #[.pointer (some ⟨10,194,none⟩),.pointer (some ⟨w.heap.size,0,none⟩),.int .u64 150]) (w.alloc (.cells #[.pointer (some t)] 194)):=by kernel_rfl
theorem typeP (a:Addr) (w:World):(ReflectliteValue.methodAny (ReflectliteValue.valueError "reflectlite.Value.Type" 0) (fun t _ _ _=>ReflectliteType.toType t) #[.agg #[.pointer (some ⟨10,194,none⟩),.pointer (some a),.int .u64 150]]).run Tryz.prog w
  = .ok (.iface 295 (.agg #[.pointer (some ⟨10,194,none⟩)])) w:=by kernel_rfl
theorem kindP (w:World):((ReflectliteType.abiMethod fun t=>(fun a:Nat=>Value.int IntKind.u8 (a:Int)) <$> Rtype.kind t) #[.pointer (some ⟨10,194,none⟩)]).run Tryz.prog w=.ok (.int .u8 22) w:=by kernel_rfl
theorem kindE (w:World):((ReflectliteType.abiMethod fun t=>(fun a:Nat=>Value.int IntKind.u8 (a:Int)) <$> Rtype.kind t) #[.pointer (some ⟨10,29,none⟩)]).run Tryz.prog w=.ok (.int .u8 2) w:=by kernel_rfl
theorem rlm (z:Sem Value) (f:TypeId→Addr→Nat→Nat→Sem Value) (v:Value):
  ReflectliteValue.method z f #[v]=(do match ←ReflectliteValue.parts v with | none=>z | some (t,a,fl)=>f t a fl (fl % 32)):=rfl
theorem partsP (a:Addr) (w:World):(ReflectliteValue.parts (.agg #[.pointer (some ⟨10,194,none⟩),.pointer (some a),.int .u64 150])).run Tryz.prog w=.ok (some (194,a,150)) w:=by kernel_rfl
theorem isNilP (a p:Addr) (W:World) (ha:W.cell? a=some (.pointer (some p))):
  (ReflectliteValue.method (ReflectliteValue.valueError "reflectlite.Value.IsNil" 0) ReflectliteValue.isNil #[.agg #[.pointer (some ⟨10,194,none⟩),.pointer (some a),.int .u64 150]]).run Tryz.prog W=.ok (.bool false) W:=by
 rw [rlm]
 simp only [Sem.run_bind,partsP,Result.andThen]
 simp [ReflectliteValue.isNil,loadVar,isAgg,underlying,Tryz.underlying194,ha,Result.andThen]
theorem elemP (w:World):(ReflectliteType.method ReflectliteType.elem #[.agg #[.pointer (some ⟨10,194,none⟩)]]).run Tryz.prog w=.ok (.iface 295 (.agg #[.pointer (some ⟨10,29,none⟩)])) w:=by kernel_rfl
theorem implementsE (w:World):(ReflectliteType.relation "Implements" ReflectliteType.implements_ #[.agg #[.pointer (some ⟨10,29,none⟩)],.iface 295 (.agg #[.pointer (some ⟨10,25,none⟩)])]).run Tryz.prog w=.ok (.bool true) w:=by kernel_rfl
theorem typeOfE (v:Value) (w:World):(ReflectliteType.typeOf #[.iface 29 v]).run Tryz.prog w=.ok (.iface 295 (.agg #[.pointer (some ⟨10,29,none⟩)])) w:=by kernel_rfl
theorem assignableE (w:World):(ReflectliteType.relation "AssignableTo" ReflectliteType.assignableTo #[.agg #[.pointer (some ⟨10,29,none⟩)],.iface 295 (.agg #[.pointer (some ⟨10,29,none⟩)])]).run Tryz.prog w=.ok (.bool true) w:=by kernel_rfl
theorem methodKind (k:Nat) (h:Value) (w:World):(Go.method (k+1) 295 (.agg #[h]) "Kind").run Tryz.prog w=.ok (310,h) w:=by kernel_rfl
theorem methodElem (k:Nat) (h:Value) (w:World):(Go.method (k+1) 295 (.agg #[h]) "Elem").run Tryz.prog w=.ok (323,.agg #[h]) w:=by kernel_rfl
theorem methodImplements (k:Nat) (h:Value) (w:World):(Go.method (k+1) 295 (.agg #[h]) "Implements").run Tryz.prog w=.ok (324,.agg #[h]) w:=by kernel_rfl
theorem methodAssignableTo (k:Nat) (h:Value) (w:World):(Go.method (k+1) 295 (.agg #[h]) "AssignableTo").run Tryz.prog w=.ok (321,.agg #[h]) w:=by kernel_rfl
theorem valueOfE (n:Int) (w:World):(ReflectliteValue.unpack (.iface 29 (.int .i64 n))).run Tryz.prog w
  = .ok (.agg #[.pointer (some ⟨10,29,none⟩),.pointer (some ⟨w.heap.size,0,none⟩),.int .u64 130]) (w.alloc (.cells #[.int .i64 n] 29)):=by kernel_rfl
theorem elemOfP (w:World):(Rtype.elem? 194).run Tryz.prog w=.ok (some 29) w:=by kernel_rfl
theorem mkE (p:Addr) (w:World):(ReflectliteValue.mk 29 p ReflectliteValue.flagAddr).run Tryz.prog w=.ok (.agg #[.pointer (some ⟨10,29,none⟩),.pointer (some p),.int .u64 386]) w:=by kernel_rfl
theorem elemVP (a p:Addr) (W:World) (ha:W.cell? a=some (.pointer (some p))):
  (ReflectliteValue.method (ReflectliteValue.valueError "reflectlite.Value.Elem" 0) ReflectliteValue.elem #[.agg #[.pointer (some ⟨10,194,none⟩),.pointer (some a),.int .u64 150]]).run Tryz.prog W
    = .ok (.agg #[.pointer (some ⟨10,29,none⟩),.pointer (some p),.int .u64 386]) W:=by
 rw [rlm]
 simp only [Sem.run_bind,partsP,Result.andThen]
 simp [ReflectliteValue.elem,loadVar,isAgg,underlying,Tryz.underlying194,ha,Result.andThen,elemOfP,mkE]
theorem rls (v x:Value):ReflectliteValue.set #[v,x]=(do
  let (some (dst,a,fl),some (src,b,_)):=(←ReflectliteValue.parts v,←ReflectliteValue.parts x)
   | unsupported (.noEntry "extern/(internal/reflectlite.Value).Set.zeroValue")
  if fl / ReflectliteValue.flagAddr % 2==0 then unsupported (.noEntry "extern/(internal/reflectlite.Value).Set.unaddressable")
  let val ←loadVar src b
  if ←Rtype.directlyAssignable dst src then storeVar dst a val
  else if ←Rtype.implements dst src then
   if (←Rtype.kind src)==20 then
    match val with
    | .nilIface=>unsupported (.noEntry "extern/reflectlite: a nil value of one interface type handed on as a value of another")
    | _=>storeVar dst a val
   else storeVar dst a (.iface src val)
  else panicString ("reflectlite.Set: value of type " ++ (←Rtype.spelt src) ++ " is not assignable to type " ++ (←Rtype.spelt dst))
  pure (.tuple #[])):=rfl
theorem partsEa (a:Addr) (w:World):(ReflectliteValue.parts (.agg #[.pointer (some ⟨10,29,none⟩),.pointer (some a),.int .u64 386])).run Tryz.prog w=.ok (some (29,a,386)) w:=by kernel_rfl
theorem partsE (a:Addr) (w:World):(ReflectliteValue.parts (.agg #[.pointer (some ⟨10,29,none⟩),.pointer (some a),.int .u64 130])).run Tryz.prog w=.ok (some (29,a,130)) w:=by kernel_rfl
theorem directE (w:World):(Rtype.directlyAssignable 29 29).run Tryz.prog w=.ok true w:=by kernel_rfl
theorem setE (ta b:Addr) (n:Int) (old:Value) (W:World) (hb:W.cell? b=some (.int .i64 n)) (ht:W.cell? ta=some old) (hf:W.frozen? ta=false):
  (ReflectliteValue.set #[.agg #[.pointer (some ⟨10,29,none⟩),.pointer (some ta),.int .u64 386],.agg #[.pointer (some ⟨10,29,none⟩),.pointer (some b),.int .u64 130]]).run Tryz.prog W
    = .ok (.tuple #[]) (W.setCell ta (.int .i64 n)):=by
 rw [rls]
 simp only [Sem.run_bind,partsEa,partsE,Result.andThen]
 simp [ReflectliteValue.flagAddr,loadVar,isAgg,underlying,Tryz.underlying29,hb,Result.andThen,directE,storeVar,Value.cells,storeCells,Addr.add]
 rw [run_store Tryz.prog W ta _ _ (by rfl)]
 simp [ht,hf]
set_option maxRecDepth 100000 in
set_option maxHeartbeats 4000000 in
theorem as_hit (n:Int) (t:Nat) (old:Value) (w:World) (hg:w.cell? ⟨0,0,none⟩=some (.iface 295 (.agg #[.pointer (some ⟨10,25,none⟩)]))) (ht0:w.cell? ⟨t,0,none⟩=some old) (hf0:w.frozen? ⟨t,0,none⟩=false):
  Calls Tryz.prog 115 #[.iface 29 (.int .i64 n),.iface 194 (.pointer (some ⟨t,0,none⟩))] w fun ev w'=>ev=.returned (.bool true)∧∃ x,w'=wplus (w.setCell ⟨t,0,none⟩ (.int .i64 n)) x:=by
 have h6:=@run_callFunc_extern Tryz.prog 154 _ (fun args=>ReflectliteValue.unpack (args.getD 0 (.tuple #[]))) Tryz.func154 (by kernel_rfl) (by kernel_rfl) (by kernel_rfl) (by kernel_rfl)
 have h7:=@run_callFunc_extern Tryz.prog 155 _ (ReflectliteValue.methodAny (ReflectliteValue.valueError "reflectlite.Value.Type" 0) (fun t _ _ _=>ReflectliteType.toType t)) Tryz.func155 (by kernel_rfl) (by kernel_rfl) (by kernel_rfl) (by kernel_rfl)
 have h8:=@run_callFunc_extern Tryz.prog 156 _ (ReflectliteValue.method (ReflectliteValue.valueError "reflectlite.Value.IsNil" 0) ReflectliteValue.isNil) Tryz.func156 (by kernel_rfl) (by kernel_rfl) (by kernel_rfl) (by kernel_rfl)
 have h27:=@run_callFunc_extern Tryz.prog 310 _ (ReflectliteType.abiMethod fun t=>do pure (.int .u8 (←Rtype.kind t))) Tryz.func310 (by kernel_rfl) (by kernel_rfl) (by kernel_rfl) (by kernel_rfl)
 have h37:=@run_callFunc_extern Tryz.prog 323 _ (ReflectliteType.method ReflectliteType.elem) Tryz.func323 (by kernel_rfl) (by kernel_rfl) (by kernel_rfl) (by kernel_rfl)
 have h38:=@run_callFunc_extern Tryz.prog 324 _ (ReflectliteType.relation "Implements" ReflectliteType.implements_) Tryz.func324 (by kernel_rfl) (by kernel_rfl) (by kernel_rfl) (by kernel_rfl)
 have h10:=@run_callFunc_extern Tryz.prog 190 _ ReflectliteType.typeOf Tryz.func190 (by kernel_rfl) (by kernel_rfl) (by kernel_rfl) (by kernel_rfl)
 have h35:=@run_callFunc_extern Tryz.prog 321 _ (ReflectliteType.relation "AssignableTo" ReflectliteType.assignableTo) Tryz.func321 (by kernel_rfl) (by kernel_rfl) (by kernel_rfl) (by kernel_rfl)
 have h11:=@run_callFunc_extern Tryz.prog 191 _ (ReflectliteValue.method (ReflectliteValue.valueError "reflectlite.Value.Elem" 0) ReflectliteValue.elem) Tryz.func191 (by kernel_rfl) (by kernel_rfl) (by kernel_rfl) (by kernel_rfl)
 have h12:=@run_callFunc_extern Tryz.prog 192 _ ReflectliteValue.set Tryz.func192 (by kernel_rfl) (by kernel_rfl) (by kernel_rfl) (by kernel_rfl)
 have tO:=typeOfE
 have aE:=assignableE
 have vE:=valueOfE
 have vP:=valueOfP
 have tP:=typeP
 have kP:=kindP
 have kE:=kindE
 have eP:=elemP
 have iE:=implementsE
 have mK:=methodKind
 have mE:=methodElem
 have mI:=methodImplements
 have mA:=methodAssignableTo
 have hlt:0<w.heap.size:=World.block_lt_of_cell? w _ hg
 have htl:t<w.heap.size:=World.block_lt_of_cell? w _ ht0
 haveI:SzGe (0+1) w:=⟨hlt⟩
 haveI:SzGe (t+1) w:=⟨htl⟩
 have n8:=isNilP ⟨w.heap.size,0,none⟩ ⟨t,0,none⟩ ((w.alloc (.cells #[.pointer (some ⟨t,0,none⟩)] 194)).alloc (.cells #[.pointer (some ⟨10,194,none⟩),.pointer (some ⟨w.heap.size,0,none⟩),.int .u64 150] 253)) (by simp)
 have el:=elemVP ⟨w.heap.size,0,none⟩ ⟨t,0,none⟩ (((w.alloc (.cells #[.pointer (some ⟨t,0,none⟩)] 194)).alloc (.cells #[.pointer (some ⟨10,194,none⟩),.pointer (some ⟨w.heap.size,0,none⟩),.int .u64 150] 253)).alloc (.cells #[.pointer (some ⟨10,194,none⟩),.pointer (some ⟨w.heap.size,0,none⟩),.int .u64 150] 253)) (by simp [go_sem])
 have st:=setE ⟨t,0,none⟩ ⟨w.heap.size+1+1+1,0,none⟩ n old ((((w.alloc (.cells #[.pointer (some ⟨t,0,none⟩)] 194)).alloc (.cells #[.pointer (some ⟨10,194,none⟩),.pointer (some ⟨w.heap.size,0,none⟩),.int .u64 150] 253)).alloc (.cells #[.pointer (some ⟨10,194,none⟩),.pointer (some ⟨w.heap.size,0,none⟩),.int .u64 150] 253)).alloc (.cells #[.int .i64 n] 29)) (by simp [go_sem]) (by simp [go_sem,ht0]) (by simp [go_sem,hf0])
 go_enter Tryz.func115,Tryz.ntmps115
 go_wp2
 refine wp_loop_rounds 1 ?_
 rw [rounds_succ]
 go_wp2
 go_ret
 refine ⟨rfl,?_⟩
 exact wplus_of_below (by repeat (first | exact Below.refl _ _ | refine blw_alloc ?_))
def EType (w:World):Prop:=w.cell? ⟨0,0,none⟩=some (.iface 295 (.agg #[.pointer (some ⟨10,25,none⟩)]))
theorem EType.plus {w w':World} (h:EType w) (hb:Below w.heap.size w w'):EType w':=by
 have hlt:0<w.heap.size:=World.block_lt_of_cell? w _ h
 unfold EType;rw [hb.cell (p:=⟨0,0,none⟩) hlt];exact h
theorem tell_nil (w:World):Calls Tryz.prog 61 #[.nilIface] w fun e w'=>e=.returned (.int .i64 0)∧w=w':=by
 go_enter Tryz.func61,Tryz.ntmps61
 go_wp2
 go_ret
 exact ⟨rfl,rfl⟩
set_option maxHeartbeats 1000000 in
theorem tell_errno (n:Int) (w:World) (hg:EType w):Calls Tryz.prog 61 #[.iface 29 (.int .i64 n)] w fun e w'=>e=.returned (.int .i64 n)∧Below w.heap.size w w':=by
 have hlt:0<w.heap.size:=World.block_lt_of_cell? w _ hg
 haveI:SzGe (0+1) w:=⟨hlt⟩
 go_enter Tryz.func61,Tryz.ntmps61
 go_wp2_with fail
 refine (as_hit n w.heap.size (.int .i64 0) _ ?_ ?_ ?_).mono ?_
 ·rw [alloc_cell];exact hg
 ·simp [go_sem]
 ·simp [go_sem]
 rintro e w' ⟨rfl,x,rfl⟩
 go_wp2
 go_ret
 exact ⟨rfl,by repeat (first | exact Below.refl _ _ | refine blw_alloc ?_ | refine blw_plus ?_)⟩
set_option maxHeartbeats 1000000 in
theorem noAt (n:Int) (xT:TypeId) (w:World):(Instr.typeAssert (.iface 29 (.int .i64 n)) xT 223 true).run Tryz.prog w=.ok (.tuple #[.pointer none,.bool false]) w:=by kernel_rfl
theorem noUnwrap (v:Value) (xT:TypeId) (w:World):(Instr.typeAssert (.iface 29 v) xT 225 true).run Tryz.prog w=.ok (.tuple #[.nilIface,.bool false]) w:=
 run_typeAssert_lacksB Tryz.underlying225 (by kernel_rfl) (by kernel_rfl) v xT w
theorem bare_nil (w:World):Calls Tryz.prog 70 #[.nilIface] w fun e w'=>e=.returned (.tuple #[.int .i64 0,.bool true])∧w=w':=by
 go_enter Tryz.func70,Tryz.ntmps70
 go_wp2_with (go_at_call 61;refine (tell_nil _).mono ?_;rintro e w' ⟨rfl,rfl⟩)
 refine wp_loop_rounds 1 ?_
 rw [rounds_succ]
 go_wp2
 go_ret2
 exact ⟨rfl,rfl⟩
set_option maxRecDepth 100000 in
set_option maxHeartbeats 1000000 in
theorem bare_errno (n:Int) (w:World) (hg:EType w):Calls Tryz.prog 70 #[.iface 29 (.int .i64 n)] w fun e w'=>e=.returned (.tuple #[.int .i64 n,.bool true])∧Below w.heap.size w w':=by
 have nA:=noAt
 have nU:=noUnwrap
 go_enter Tryz.func70,Tryz.ntmps70
 go_wp2_with fail
 refine (tell_errno n _ hg).mono ?_
 rintro e w' ⟨rfl,hb⟩;obtain ⟨x,rfl⟩:=wplus_of_below hb;clear hb
 go_wp2_with fail
 refine wp_loop_rounds 1 ?_
 rw [rounds_succ]
 go_wp2
 go_ret2
 exact ⟨rfl,by repeat (first | exact Below.refl _ _ | refine blw_alloc ?_ | refine blw_plus ?_)⟩
end Go.Proofs.YtbopfhbeegkkaabGreatDoor
namespace Go.Proofs.YtbopfhbeegkkaabGreatDoor
open Go.RowKit
theorem in_yes (n lo hi:Int) (w:World) (h1:lo≤n) (h2:n≤hi):
  Calls Tryz.prog 96 #[.int .i64 n,.int .i64 lo,.int .i64 hi] w fun e w'=>e=.returned (.bool true)∧w=w':=by
 go_enter Tryz.func96,Tryz.ntmps96
 go_wp2
 go_ret
 exact ⟨by simp,rfl⟩
theorem in_no (n lo hi:Int) (w:World) (h:n<lo∨hi<n):
  Calls Tryz.prog 96 #[.int .i64 n,.int .i64 lo,.int .i64 hi] w fun e w'=>e=.returned (.bool false)∧w=w':=by
 by_cases h1:n<lo
 ·clear h
  go_enter Tryz.func96,Tryz.ntmps96
  go_wp2
  go_ret
  exact ⟨by simp,rfl⟩
 ·have h2:hi<n:=by omega
  clear h
  go_enter Tryz.func96,Tryz.ntmps96
  go_wp2
  go_ret
  exact ⟨by simp;omega,rfl⟩
set_option maxHeartbeats 800000 in
theorem rRightS_any (aw ac:Int) (w:World):Calls Tryz.prog 132 #[.agg #[.int .i64 aw,.int .i64 ac]] w fun e w'=>e=.returned (.bool (rightS aw ac))∧Below w.heap.size w w':=by
 by_cases ha:aw<0
 ·have e1:rightS aw ac=false:=by simp [rightS];omega
  rw [e1]
  clear e1
  go_enter Tryz.func132,Tryz.ntmps132
  go_wp2_with ((go_at_call 96;first | (with_reducible refine (in_yes _ _ _ _ (by omega) (by omega)).mono ?_) | (with_reducible refine (in_no _ _ _ _ (by omega)).mono ?_));(rintro e w' ⟨rfl,rfl⟩))
  go_ret
  exact ⟨by first | rfl | (simp;omega),zB⟩
 by_cases hb:1099511627776<aw
 ·have e1:rightS aw ac=false:=by simp [rightS];omega
  rw [e1]
  clear e1
  go_enter Tryz.func132,Tryz.ntmps132
  go_wp2_with ((go_at_call 96;first | (with_reducible refine (in_yes _ _ _ _ (by omega) (by omega)).mono ?_) | (with_reducible refine (in_no _ _ _ _ (by omega)).mono ?_));(rintro e w' ⟨rfl,rfl⟩))
  go_ret
  exact ⟨by first | rfl | (simp;omega),zB⟩
 by_cases hc:ac<0
 ·have e1:rightS aw ac=false:=by simp [rightS];omega
  rw [e1]
  clear e1
  go_enter Tryz.func132,Tryz.ntmps132
  go_wp2_with ((go_at_call 96;first | (with_reducible refine (in_yes _ _ _ _ (by omega) (by omega)).mono ?_) | (with_reducible refine (in_no _ _ _ _ (by omega)).mono ?_));(rintro e w' ⟨rfl,rfl⟩))
  go_ret
  exact ⟨by first | rfl | (simp;omega),zB⟩
 by_cases hd:1099511627776<ac
 ·have e1:rightS aw ac=false:=by simp [rightS];omega
  rw [e1]
  clear e1
  go_enter Tryz.func132,Tryz.ntmps132
  go_wp2_with ((go_at_call 96;first | (with_reducible refine (in_yes _ _ _ _ (by omega) (by omega)).mono ?_) | (with_reducible refine (in_no _ _ _ _ (by omega)).mono ?_));(rintro e w' ⟨rfl,rfl⟩))
  go_ret
  exact ⟨by first | rfl | (simp;omega),zB⟩
 have e1:rightS aw ac=true:=by simp [rightS];omega
 rw [e1]
 clear e1
 go_enter Tryz.func132,Tryz.ntmps132
 go_wp2_with ((go_at_call 96;first | (with_reducible refine (in_yes _ _ _ _ (by omega) (by omega)).mono ?_) | (with_reducible refine (in_no _ _ _ _ (by omega)).mono ?_));(rintro e w' ⟨rfl,rfl⟩))
 go_ret
 exact ⟨by first | rfl | (simp;omega),zB⟩
set_option maxHeartbeats 800000 in
theorem rCompare_any (aw ac bw bc:Int) (w:World):Calls Tryz.prog 134 #[.agg #[.int .i64 aw,.int .i64 ac],.agg #[.int .i64 bw,.int .i64 bc]] w fun e w'=>e=.returned (.int .i64 (cmpS aw ac bw bc))∧Below w.heap.size w w':=by
 by_cases h0:cmpS aw ac bw bc=0
 ·rw [h0]
  obtain ⟨rfl,rfl⟩:=(cmpS_zero_iff aw ac bw bc).1 h0
  clear h0
  go_enter Tryz.func134,Tryz.ntmps134
  go_wp2
  go_ret
  exact ⟨rfl,zB⟩
 ·have hne:(aw==bw&&ac==bc)=false:=by
   rw [Bool.eq_false_iff];intro h;simp at h
   exact h0 ((cmpS_zero_iff aw ac bw bc).2 h)
  have hbd:=cmpS_bd aw ac bw bc
  by_cases h1:cmpS aw ac bw bc<0
  ·have e1:cmpS aw ac bw bc=-1:=by omega
   rw [e1]
   have hc:=(cmpS_neg_iff aw ac bw bc).1 h1
   clear h0 h1 e1 hbd
   by_cases hl:aw<bw
   ·go_enter Tryz.func134,Tryz.ntmps134
    go_wp2
    go_ret
    exact ⟨rfl,zB⟩
   ·have hb1:(aw==bw)=true:=by simp;omega
    have hb2:ac<bc:=by omega
    have hd:decide (ac<bc)=true:=by simp;omega
    clear hc
    go_enter Tryz.func134,Tryz.ntmps134
    go_wp2
    go_ret
    exact ⟨rfl,zB⟩
  ·have e1:cmpS aw ac bw bc=1:=by omega
   rw [e1]
   have hc:=(cmpS_pos_iff aw ac bw bc).1 (by omega)
   clear h0 h1 e1 hbd
   by_cases hl:bw<aw
   ·have hb1:(aw==bw)=false:=by simp;omega
    have hb2:¬aw<bw:=by omega
    have hd:decide (aw<bw)=false:=by simp;omega
    clear hc
    go_enter Tryz.func134,Tryz.ntmps134
    go_wp2
    go_ret
    exact ⟨rfl,zB⟩
   ·have hb0:aw=bw:=by omega
    subst hb0
    have hb2:¬ac<bc:=by omega
    have hd:decide (ac<bc)=false:=by simp;omega
    have hn2:(ac==bc)=false:=by simp;omega
    clear hc hne
    go_enter Tryz.func134,Tryz.ntmps134
    go_wp2
    go_ret
    exact ⟨rfl,zB⟩
set_option maxHeartbeats 800000 in
theorem rnext_r1 (aw ac now:Int) (w:World) (hr:rightS aw ac=false):
  Calls Tryz.prog 74 #[.agg #[.int .i64 aw,.int .i64 ac],.int .i64 now] w fun e w'=>e=.returned (.tuple #[.agg #[.int .i64 0,.int .i64 0],.int .i64 2])∧Below w.heap.size w w':=by
 go_enter Tryz.func74,Tryz.ntmps74
 go_wp2_with (first | (go_at_call 132;with_reducible refine (rRightS_any _ _ _).mono ?_;(rintro e w' ⟨rfl,hb⟩;obtain ⟨x,rfl⟩:=wplus_of_below hb;clear hb)) | ((go_at_call 96;first | (with_reducible refine (in_yes _ _ _ _ (by omega) (by omega)).mono ?_) | (with_reducible refine (in_no _ _ _ _ (by omega)).mono ?_));(rintro e w' ⟨rfl,rfl⟩)))
 exact bodyPost_ret (v:=.tuple #[.agg #[.int .i64 0,.int .i64 0],.int .i64 2]) (by simp [results,Tryz.results74,go_sem]) rfl ⟨rfl,zB⟩
set_option maxHeartbeats 800000 in
theorem rnext_r2 (aw ac now:Int) (w:World) (hr:rightS aw ac=true) (h:now<0):
  Calls Tryz.prog 74 #[.agg #[.int .i64 aw,.int .i64 ac],.int .i64 now] w fun e w'=>e=.returned (.tuple #[.agg #[.int .i64 0,.int .i64 0],.int .i64 2])∧Below w.heap.size w w':=by
 go_enter Tryz.func74,Tryz.ntmps74
 go_wp2_with (first | (go_at_call 132;with_reducible refine (rRightS_any _ _ _).mono ?_;(rintro e w' ⟨rfl,hb⟩;obtain ⟨x,rfl⟩:=wplus_of_below hb;clear hb)) | ((go_at_call 96;first | (with_reducible refine (in_yes _ _ _ _ (by omega) (by omega)).mono ?_) | (with_reducible refine (in_no _ _ _ _ (by omega)).mono ?_));(rintro e w' ⟨rfl,rfl⟩)))
 exact bodyPost_ret (v:=.tuple #[.agg #[.int .i64 0,.int .i64 0],.int .i64 2]) (by simp [results,Tryz.results74,go_sem]) rfl ⟨rfl,zB⟩
set_option maxHeartbeats 800000 in
theorem rnext_r3 (aw ac now:Int) (w:World) (hr:rightS aw ac=true) (h0:0≤now) (h:1099511627776<now):
  Calls Tryz.prog 74 #[.agg #[.int .i64 aw,.int .i64 ac],.int .i64 now] w fun e w'=>e=.returned (.tuple #[.agg #[.int .i64 0,.int .i64 0],.int .i64 2])∧Below w.heap.size w w':=by
 go_enter Tryz.func74,Tryz.ntmps74
 go_wp2_with (first | (go_at_call 132;with_reducible refine (rRightS_any _ _ _).mono ?_;(rintro e w' ⟨rfl,hb⟩;obtain ⟨x,rfl⟩:=wplus_of_below hb;clear hb)) | ((go_at_call 96;first | (with_reducible refine (in_yes _ _ _ _ (by omega) (by omega)).mono ?_) | (with_reducible refine (in_no _ _ _ _ (by omega)).mono ?_));(rintro e w' ⟨rfl,rfl⟩)))
 exact bodyPost_ret (v:=.tuple #[.agg #[.int .i64 0,.int .i64 0],.int .i64 2]) (by simp [results,Tryz.results74,go_sem]) rfl ⟨rfl,zB⟩
set_option maxHeartbeats 800000 in
theorem rnext_new (aw ac now:Int) (w:World) (hr:rightS aw ac=true) (h0:0≤now) (h1:now≤1099511627776) (h:aw<now):
  Calls Tryz.prog 74 #[.agg #[.int .i64 aw,.int .i64 ac],.int .i64 now] w fun e w'=>e=.returned (.tuple #[.agg #[.int .i64 now,.int .i64 0],.int .i64 0])∧Below w.heap.size w w':=by
 go_enter Tryz.func74,Tryz.ntmps74
 go_wp2_with (first | (go_at_call 132;with_reducible refine (rRightS_any _ _ _).mono ?_;(rintro e w' ⟨rfl,hb⟩;obtain ⟨x,rfl⟩:=wplus_of_below hb;clear hb)) | ((go_at_call 96;first | (with_reducible refine (in_yes _ _ _ _ (by omega) (by omega)).mono ?_) | (with_reducible refine (in_no _ _ _ _ (by omega)).mono ?_));(rintro e w' ⟨rfl,rfl⟩)))
 exact bodyPost_ret (v:=.tuple #[.agg #[.int .i64 now,.int .i64 0],.int .i64 0]) (by simp [results,Tryz.results74,go_sem]) rfl ⟨rfl,zB⟩
set_option maxHeartbeats 800000 in
theorem rnext_full (aw ac now:Int) (w:World) (hr:rightS aw ac=true) (h0:0≤now) (h1:now≤1099511627776) (h:now≤aw) (hf:1099511627776<ac+1) (hb:0≤ac∧ac≤1099511627776):
  Calls Tryz.prog 74 #[.agg #[.int .i64 aw,.int .i64 ac],.int .i64 now] w fun e w'=>e=.returned (.tuple #[.agg #[.int .i64 0,.int .i64 0],.int .i64 12])∧Below w.heap.size w w':=by
 go_enter Tryz.func74,Tryz.ntmps74
 go_wp2_with (first | (go_at_call 132;with_reducible refine (rRightS_any _ _ _).mono ?_;(rintro e w' ⟨rfl,hb⟩;obtain ⟨x,rfl⟩:=wplus_of_below hb;clear hb)) | ((go_at_call 96;first | (with_reducible refine (in_yes _ _ _ _ (by omega) (by omega)).mono ?_) | (with_reducible refine (in_no _ _ _ _ (by omega)).mono ?_));(rintro e w' ⟨rfl,rfl⟩)))
 exact bodyPost_ret (v:=.tuple #[.agg #[.int .i64 0,.int .i64 0],.int .i64 12]) (by simp [results,Tryz.results74,go_sem]) rfl ⟨rfl,zB⟩
set_option maxHeartbeats 800000 in
theorem rnext_inc (aw ac now:Int) (w:World) (hr:rightS aw ac=true) (h0:0≤now) (h1:now≤1099511627776) (h:now≤aw) (hf:ac+1≤1099511627776) (hb:0≤ac∧ac≤1099511627776):
  Calls Tryz.prog 74 #[.agg #[.int .i64 aw,.int .i64 ac],.int .i64 now] w fun e w'=>e=.returned (.tuple #[.agg #[.int .i64 aw,.int .i64 (ac+1)],.int .i64 0])∧Below w.heap.size w w':=by
 go_enter Tryz.func74,Tryz.ntmps74
 go_wp2_with (first | (go_at_call 132;with_reducible refine (rRightS_any _ _ _).mono ?_;(rintro e w' ⟨rfl,hb⟩;obtain ⟨x,rfl⟩:=wplus_of_below hb;clear hb)) | ((go_at_call 96;first | (with_reducible refine (in_yes _ _ _ _ (by omega) (by omega)).mono ?_) | (with_reducible refine (in_no _ _ _ _ (by omega)).mono ?_));(rintro e w' ⟨rfl,rfl⟩)))
 exact bodyPost_ret (v:=.tuple #[.agg #[.int .i64 aw,.int .i64 (ac+1)],.int .i64 0]) (by simp [results,Tryz.results74,go_sem]) rfl ⟨rfl,zB⟩
theorem bareL_nil (w:World):Calls Tryz.prog 12 #[.nilIface,.int .i64 0] w fun e w'=>e=.returned (.bool true)∧Below w.heap.size w w':=by
 go_enter Tryz.func12,Tryz.ntmps12
 go_wp2_with (go_at_call 70;refine (bare_nil _).mono ?_;rintro e w' ⟨rfl,rfl⟩)
 go_ret
 exact ⟨rfl,Below.refl _ _⟩
theorem bareL_errno (n:Int) (w:World) (hg:EType w):Calls Tryz.prog 12 #[.iface 29 (.int .i64 n),.int .i64 n] w fun e w'=>e=.returned (.bool true)∧Below w.heap.size w w':=by
 go_enter Tryz.func12,Tryz.ntmps12
 go_wp2_with fail
 refine (bare_errno n _ hg).mono ?_
 rintro e w' ⟨rfl,hb⟩;obtain ⟨x,rfl⟩:=wplus_of_below hb;clear hb
 go_wp2
 go_ret
 exact ⟨rfl,zB⟩
end Go.Proofs.YtbopfhbeegkkaabGreatDoor
