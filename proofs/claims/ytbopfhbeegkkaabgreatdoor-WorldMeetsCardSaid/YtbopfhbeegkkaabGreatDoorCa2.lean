/- Part 2 of a proof: lemmas and contracts that other parts use. -/
import Derived.Test.YtbopfhbeegkkaabGreatDoorCa1
import Derived.Test.YtbopfhbeegkkaabGreatDoorRows
import Derived.LaidEql
import Derived.Stop.Asserts
set_option linter.unusedVariables false
set_option linter.unusedSimpArgs false
namespace Go.Proofs.YtbopfhbeegkkaabGreatDoor
open Go.RowKit Go.Extern.Stop Go.Stop Go.Extern
theorem valueOfP (t:Addr) (w:World):(ReflectliteValue.unpack (.iface 194 (.pointer (some t)))).run Tryz.prog w
  = .ok (.agg #[.pointer (some ⟨10,194,none⟩),.pointer (some ⟨w.heap.size,0,none⟩),.int .u64 150]) (w.alloc (.cells #[.pointer (some t)] 194)):=by kernel_rfl
theorem typeP (a:Addr) (w:World):(ReflectliteValue.methodAny (ReflectliteValue.valueError "reflectlite.Value.Type" 0) (fun t _ _ _=>ReflectliteType.toType t) #[.agg #[.pointer (some ⟨10,194,none⟩),.pointer (some a),.int .u64 150]]).run Tryz.prog w
  = .ok (.iface 295 (.agg #[.pointer (some ⟨10,194,none⟩)])) w:=by kernel_rfl
theorem kindP (w:World):((ReflectliteType.abiMethod fun t=>(fun a:Nat=>Value.int IntKind.u8 (a:Int)) <$> Rtype.kind t) #[.pointer (some ⟨10,194,none⟩)]).run Tryz.prog w=.ok (.int .u8 22) w:=by kernel_rfl
theorem kindE (w:World):((ReflectliteType.abiMethod fun t=>(fun a:Nat=>Value.int IntKind.u8 (a:Int)) <$> Rtype.kind t) #[.pointer (some ⟨10,29,none⟩)]).run Tryz.prog w=.ok (.int .u8 2) w:=by kernel_rfl
theorem rlm (z:Sem Value) (f:TypeId→Addr→Nat→Nat→Sem Value) (v:Value):
  ReflectliteValue.method z f #[v]=(do match ←ReflectliteValue.parts v with | none=>z | some (t,a,fl)=>f t a fl (fl % 32)):=rfl
theorem partsP (a:Addr) (w:World):(ReflectliteValue.parts (.agg #[.pointer (some ⟨10,194,none⟩),.pointer (some a),.int .u64 150])).run Tryz.prog w=.ok (some (194,a,150)) w:=by kernel_rfl
theorem isNilP (a p:Addr) (W:World) (ha:W.cell? a=some (.pointer (some p))):
  (ReflectliteValue.method (ReflectliteValue.valueError "reflectlite.Value.IsNil" 0) ReflectliteValue.isNil #[.agg #[.pointer (some ⟨10,194,none⟩),.pointer (some a),.int .u64 150]]).run Tryz.prog W=.ok (.bool false) W:=by
 rw [rlm]
 simp only [Sem.run_bind,partsP,Result.andThen]
 simp [ReflectliteValue.isNil,loadVar,isAgg,underlying,Tryz.underlying194,ha,Result.andThen]
theorem elemP (w:World):(ReflectliteType.method ReflectliteType.elem #[.agg #[.pointer (some ⟨10,194,none⟩)]]).run Tryz.prog w=.ok (.iface 295 (.agg #[.pointer (some ⟨10,29,none⟩)])) w:=by kernel_rfl
theorem implementsE (w:World):(ReflectliteType.relation "Implements" ReflectliteType.implements_ #[.agg #[.pointer (some ⟨10,29,none⟩)],.iface 295 (.agg #[.pointer (some ⟨10,25,none⟩)])]).run Tryz.prog w=.ok (.bool true) w:=by kernel_rfl
theorem typeOfE (v:Value) (w:World):(ReflectliteType.typeOf #[.iface 29 v]).run Tryz.prog w=.ok (.iface 295 (.agg #[.pointer (some ⟨10,29,none⟩)])) w:=by kernel_rfl
theorem assignableE (w:World):(ReflectliteType.relation "AssignableTo" ReflectliteType.assignableTo #[.agg #[.pointer (some ⟨10,29,none⟩)],.iface 295 (.agg #[.pointer (some ⟨10,29,none⟩)])]).run Tryz.prog w=.ok (.bool true) w:=by kernel_rfl
theorem methodKind (k:Nat) (h:Value) (w:World):(Go.method (k+1) 295 (.agg #[h]) "Kind").run Tryz.prog w=.ok (310,h) w:=by kernel_rfl
theorem methodElem (k:Nat) (h:Value) (w:World):(Go.method (k+1) 295 (.agg #[h]) "Elem").run Tryz.prog w=.ok (323,.agg #[h]) w:=by kernel_rfl
theorem methodImplements (k:Nat) (h:Value) (w:World):(Go.method (k+1) 295 (.agg #[h]) "Implements").run Tryz.prog w=.ok (324,.agg #[h]) w:=by kernel_rfl
theorem methodAssignableTo (k:Nat) (h:Value) (w:World):(Go.method (k+1) 295 (.agg #[h]) "AssignableTo").run Tryz.prog w=.ok (321,.agg #[h]) w:=by kernel_rfl
theorem valueOfE (n:Int) (w:World):(ReflectliteValue.unpack (.iface 29 (.int .i64 n))).run Tryz.prog w
  = .ok (.agg #[.pointer (some ⟨10,29,none⟩),.pointer (some ⟨w.heap.size,0,none⟩),.int .u64 130]) (w.alloc (.cells #[.int .i64 n] 29)):=by kernel_rfl
theorem elemOfP (w:World):(Rtype.elem? 194).run Tryz.prog w=.ok (some 29) w:=by kernel_rfl
theorem mkE (p:Addr) (w:World):(ReflectliteValue.mk 29 p ReflectliteValue.flagAddr).run Tryz.prog w=.ok (.agg #[.pointer (some ⟨10,29,none⟩),.pointer (some p),.int .u64 386]) w:=by kernel_rfl
theorem elemVP (a p:Addr) (W:World) (ha:W.cell? a=some (.pointer (some p))):
  (ReflectliteValue.method (ReflectliteValue.valueError "reflectlite.Value.Elem" 0) ReflectliteValue.elem #[.agg #[.pointer (some ⟨10,194,none⟩),.pointer (some a),.int .u64 150]]).run Tryz.prog W
    = .ok (.agg #[.pointer (some ⟨10,29,none⟩),.pointer (some p),.int .u64 386]) W:=by
 rw [rlm]
 simp only [Sem.run_bind,partsP,Result.andThen]
 simp [ReflectliteValue.elem,loadVar,isAgg,underlying,Tryz.underlying194,ha,Result.andThen,elemOfP,mkE]
theorem rls (v x:Value):ReflectliteValue.set #[v,x]=(do
  let (some (dst,a,fl),some (src,b,_)):=(←ReflectliteValue.parts v,←ReflectliteValue.parts x)
   | unsupported (.noEntry "extern/(internal/reflectlite.Value).Set.zeroValue")
  if fl / ReflectliteValue.flagAddr % 2==0 then unsupported (.noEntry "extern/(internal/reflectlite.Value).Set.unaddressable")
  let val ←loadVar src b
  if ←Rtype.directlyAssignable dst src then storeVar dst a val
  else if ←Rtype.implements dst src then
   if (←Rtype.kind src)==20 then
    match val with
    | .nilIface=>unsupported (.noEntry "extern/reflectlite: a nil value of one interface type handed on as a value of another")
    | _=>storeVar dst a val
   else storeVar dst a (.iface src val)
  else panicString ("reflectlite.Set: value of type " ++ (←Rtype.spelt src) ++ " is not assignable to type " ++ (←Rtype.spelt dst))
  pure (.tuple #[])):=rfl
theorem partsEa (a:Addr) (w:World):(ReflectliteValue.parts (.agg #[.pointer (some ⟨10,29,none⟩),.pointer (some a),.int .u64 386])).run Tryz.prog w=.ok (some (29,a,386)) w:=by kernel_rfl
theorem partsE (a:Addr) (w:World):(ReflectliteValue.parts (.agg #[.pointer (some ⟨10,29,none⟩),.pointer (some a),.int .u64 130])).run Tryz.prog w=.ok (some (29,a,130)) w:=by kernel_rfl
theorem directE (w:World):(Rtype.directlyAssignable 29 29).run Tryz.prog w=.ok true w:=by kernel_rfl
theorem setE (ta b:Addr) (n:Int) (old:Value) (W:World) (hb:W.cell? b=some (.int .i64 n)) (ht:W.cell? ta=some old) (hf:W.frozen? ta=false):
  (ReflectliteValue.set #[.agg #[.pointer (some ⟨10,29,none⟩),.pointer (some ta),.int .u64 386],.agg #[.pointer (some ⟨10,29,none⟩),.pointer (some b),.int .u64 130]]).run Tryz.prog W
    = .ok (.tuple #[]) (W.setCell ta (.int .i64 n)):=by
 rw [rls]
 simp only [Sem.run_bind,partsEa,partsE,Result.andThen]
 simp [ReflectliteValue.flagAddr,loadVar,isAgg,underlying,Tryz.underlying29,hb,Result.andThen,directE,storeVar,Value.cells,storeCells,Addr.add]
 rw [run_store Tryz.prog W ta _ _ (by rfl)]
 simp [ht,hf]
set_option maxRecDepth 100000 in
set_option maxHeartbeats 4000000 in
theorem as_hit (n:Int) (t:Nat) (old:Value) (w:World) (hg:w.cell? ⟨0,0,none⟩=some (.iface 295 (.agg #[.pointer (some ⟨10,25,none⟩)]))) (ht0:w.cell? ⟨t,0,none⟩=some old) (hf0:w.frozen? ⟨t,0,none⟩=false):
  Calls Tryz.prog 115 #[.iface 29 (.int .i64 n),.iface 194 (.pointer (some ⟨t,0,none⟩))] w fun ev w'=>ev=.returned (.bool true)∧∃ x,w'=wplus (w.setCell ⟨t,0,none⟩ (.int .i64 n)) x:=by
 have h6:=@run_callFunc_extern Tryz.prog 154 _ (fun args=>ReflectliteValue.unpack (args.getD 0 (.tuple #[]))) Tryz.func154 (by kernel_rfl) (by kernel_rfl) (by kernel_rfl) (by kernel_rfl)
 have h7:=@run_callFunc_extern Tryz.prog 155 _ (ReflectliteValue.methodAny (ReflectliteValue.valueError "reflectlite.Value.Type" 0) (fun t _ _ _=>ReflectliteType.toType t)) Tryz.func155 (by kernel_rfl) (by kernel_rfl) (by kernel_rfl) (by kernel_rfl)
 have h8:=@run_callFunc_extern Tryz.prog 156 _ (ReflectliteValue.method (ReflectliteValue.valueError "reflectlite.Value.IsNil" 0) ReflectliteValue.isNil) Tryz.func156 (by kernel_rfl) (by kernel_rfl) (by kernel_rfl) (by kernel_rfl)
 have h27:=@run_callFunc_extern Tryz.prog 310 _ (ReflectliteType.abiMethod fun t=>do pure (.int .u8 (←Rtype.kind t))) Tryz.func310 (by kernel_rfl) (by kernel_rfl) (by kernel_rfl) (by kernel_rfl)
 have h37:=@run_callFunc_extern Tryz.prog 323 _ (ReflectliteType.method ReflectliteType.elem) Tryz.func323 (by kernel_rfl) (by kernel_rfl) (by kernel_rfl) (by kernel_rfl)
 have h38:=@run_callFunc_extern Tryz.prog 324 _ (ReflectliteType.relation "Implements" ReflectliteType.implements_) Tryz.func324 (by kernel_rfl) (by kernel_rfl) (by kernel_rfl) (by kernel_rfl)
 have h10:=@run_callFunc_extern Tryz.prog 190 _ ReflectliteType.typeOf Tryz.func190 (by kernel_rfl) (by kernel_rfl) (by kernel_rfl) (by kernel_rfl)
 have h35:=@run_callFunc_extern Tryz.prog 321 _ (ReflectliteType.relation "AssignableTo" ReflectliteType.assignableTo) Tryz.func321 (by kernel_rfl) (by kernel_rfl) (by kernel_rfl) (by kernel_rfl)
 have h11:=@run_callFunc_extern Tryz.prog 191 _ (ReflectliteValue.method (ReflectliteValue.valueError "reflectlite.Value.Elem" 0) ReflectliteValue.elem) Tryz.func191 (by kernel_rfl) (by kernel_rfl) (by kernel_rfl) (by kernel_rfl)
 have h12:=@run_callFunc_extern Tryz.prog 192 _ ReflectliteValue.set Tryz.func192 (by kernel_rfl) (by kernel_rfl) (by kernel_rfl) (by kernel_rfl)
 have tO:=typeOfE
 have aE:=assignableE
 have vE:=valueOfE
 have vP:=valueOfP
 have tP:=typeP
 have kP:=kindP
 have kE:=kindE
 have eP:=elemP
 have iE:=implementsE
 have mK:=methodKind
 have mE:=methodElem
 have mI:=methodImplements
 have mA:=methodAssignableTo
 have hlt:0<w.heap.size:=World.block_lt_of_cell? w _ hg
 have htl:t<w.heap.size:=World.block_lt_of_cell? w _ ht0
 haveI:SzGe (0+1) w:=⟨hlt⟩
 haveI:SzGe (t+1) w:=⟨htl⟩
 have n8:=isNilP ⟨w.heap.size,0,none⟩ ⟨t,0,none⟩ ((w.alloc (.cells #[.pointer (some ⟨t,0,none⟩)] 194)).alloc (.cells #[.pointer (some ⟨10,194,none⟩),.pointer (some ⟨w.heap.size,0,none⟩),.int .u64 150] 253)) (by simp)
 have el:=elemVP ⟨w.heap.size,0,none⟩ ⟨t,0,none⟩ (((w.alloc (.cells #[.pointer (some ⟨t,0,none⟩)] 194)).alloc (.cells #[.pointer (some ⟨10,194,none⟩),.pointer (some ⟨w.heap.size,0,none⟩),.int .u64 150] 253)).alloc (.cells #[.pointer (some ⟨10,194,none⟩),.pointer (some ⟨w.heap.size,0,none⟩),.int .u64 150] 253)) (by simp [go_sem])
 have st:=setE ⟨t,0,none⟩ ⟨w.heap.size+1+1+1,0,none⟩ n old ((((w.alloc (.cells #[.pointer (some ⟨t,0,none⟩)] 194)).alloc (.cells #[.pointer (some ⟨10,194,none⟩),.pointer (some ⟨w.heap.size,0,none⟩),.int .u64 150] 253)).alloc (.cells #[.pointer (some ⟨10,194,none⟩),.pointer (some ⟨w.heap.size,0,none⟩),.int .u64 150] 253)).alloc (.cells #[.int .i64 n] 29)) (by simp [go_sem]) (by simp [go_sem,ht0]) (by simp [go_sem,hf0])
 go_enter Tryz.func115,Tryz.ntmps115
 go_wp2
 refine wp_loop_rounds 1 ?_
 rw [rounds_succ]
 go_wp2
 go_ret
 refine ⟨rfl,?_⟩
 exact wplus_of_below (by repeat (first | exact Below.refl _ _ | refine blw_alloc ?_))
def EType (w:World):Prop:=w.cell? ⟨0,0,none⟩=some (.iface 295 (.agg #[.pointer (some ⟨10,25,none⟩)]))
theorem tell_nil (w:World):Calls Tryz.prog 61 #[.nilIface] w fun e w'=>e=.returned (.int .i64 0)∧w=w':=by
 go_enter Tryz.func61,Tryz.ntmps61
 go_wp2
 go_ret
 exact ⟨rfl,rfl⟩
set_option maxHeartbeats 1000000 in
theorem tell_errno (n:Int) (w:World) (hg:EType w):Calls Tryz.prog 61 #[.iface 29 (.int .i64 n)] w fun e w'=>e=.returned (.int .i64 n)∧Below w.heap.size w w':=by
 have hlt:0<w.heap.size:=World.block_lt_of_cell? w _ hg
 haveI:SzGe (0+1) w:=⟨hlt⟩
 go_enter Tryz.func61,Tryz.ntmps61
 go_wp2_with fail
 refine (as_hit n w.heap.size (.int .i64 0) _ ?_ ?_ ?_).mono ?_
 ·rw [alloc_cell];exact hg
 ·simp [go_sem]
 ·simp [go_sem]
 rintro e w' ⟨rfl,x,rfl⟩
 go_wp2
 go_ret
 exact ⟨rfl,by repeat (first | exact Below.refl _ _ | refine blw_alloc ?_ | refine blw_plus ?_)⟩
end Go.Proofs.YtbopfhbeegkkaabGreatDoor
namespace Go.Proofs.YtbopfhbeegkkaabGreatDoor
def numB (n:Nat):List UInt8:=if h:n<128 then [n.toUInt8] else (n % 128+128).toUInt8::numB (n / 128)
termination_by n
decreasing_by omega
def numsB (l:List Nat):List UInt8:=l.flatMap numB
theorem numB_lt {n:Nat} (h:n<128):numB n=[n.toUInt8]:=by rw [numB];simp [h]
theorem numB_ge {n:Nat} (h:¬n<128):numB n=(n % 128+128).toUInt8::numB (n / 128):=by rw [numB];simp [h]
theorem numB_len (n:Nat):∀ k,n<128 ^ k→1≤k→(numB n).length≤k:=by
 induction n using Nat.strongRecOn with
 | _ n ih=>
   intro k hk h1
   by_cases h:n<128
   ·rw [numB_lt h];simpa using h1
   ·rw [numB_ge h]
    have hk2:2≤k:=by
     rcases k with _ | _ | k
     ·omega
     ·simp at hk;omega
     ·omega
    obtain ⟨j,rfl⟩:∃ j,k=j+1:=⟨k-1,by omega⟩
    have:=ih (n / 128) (by omega) j (by rw [Nat.div_lt_iff_lt_mul (by decide)];rw [Nat.pow_succ] at hk;exact hk) (by omega)
    simp;omega
def rdGo (i n:Nat):List UInt8→Option (Nat×List UInt8)
 | []=>none
 | b::bs=>
   if 5<i∨1099511627776<n+b.toNat % 128*128 ^ i∨(b.toNat=0∧0<i) then none
   else if b.toNat<128 then some (n+b.toNat % 128*128 ^ i,bs) else rdGo (i+1) (n+b.toNat % 128*128 ^ i) bs
def rdNum (l:List UInt8):Option (Nat×List UInt8):=rdGo 0 0 l
theorem rdGo_more {s:List UInt8}:∀ (p:List UInt8) (i n m:Nat) (r:List UInt8),rdGo i n p=some (m,r)→rdGo i n (p++s)=some (m,r++s)
 | [],_,_,_,_,h=>by simp [rdGo] at h
 | b::p,i,n,m,r,h=>by
   simp only [rdGo,List.cons_append] at h ⊢
   by_cases h1:5<i∨1099511627776<n+b.toNat % 128*128 ^ i∨(b.toNat=0∧0<i)
   ·rw [if_pos h1] at h;cases h
   ·rw [if_neg h1] at h ⊢
    by_cases h2:b.toNat<128
    ·rw [if_pos h2] at h ⊢
     simp only [Option.some.injEq,Prod.mk.injEq] at h ⊢
     exact ⟨h.1,by rw [h.2]⟩
    ·rw [if_neg h2] at h ⊢
     exact rdGo_more p _ _ _ _ h
theorem rdGo_len:∀ (p:List UInt8) (i n m:Nat) (r:List UInt8),rdGo i n p=some (m,r)→m≤1099511627776∧∃ k,1≤k∧k≤p.length∧i+k≤6∧r=p.drop k
 | [],_,_,_,_,h=>by simp [rdGo] at h
 | b::p,i,n,m,r,h=>by
   simp only [rdGo] at h
   by_cases h1:5<i∨1099511627776<n+b.toNat % 128*128 ^ i∨(b.toNat=0∧0<i)
   ·rw [if_pos h1] at h;cases h
   ·rw [if_neg h1] at h
    by_cases h2:b.toNat<128
    ·rw [if_pos h2] at h
     simp only [Option.some.injEq,Prod.mk.injEq] at h
     refine ⟨by omega,1,by omega,by simp,by omega,by rw [←h.2];rfl⟩
    ·rw [if_neg h2] at h
     obtain ⟨hm,k,hk1,hk2,hk3,hk4⟩:=rdGo_len p _ _ _ _ h
     exact ⟨hm,k+1,by omega,by simpa using hk2,by omega,by simpa using hk4⟩
theorem pow_le_of (i z:Nat) (h:z*128 ^ i≤1099511627776) (hz:i=0∨0<z):i≤5:=by
 rcases Nat.lt_or_ge 5 i with h5 | h5
 ·exfalso
  have h6:128 ^ 6≤128 ^ i:=Nat.pow_le_pow_right (by decide) h5
  have h7:1*128 ^ i≤z*128 ^ i:=Nat.mul_le_mul_right _ (by omega)
  have:(128:Nat) ^ 6=4398046511104:=by decide
  omega
 ·exact h5
theorem rdGo_numB (r:List UInt8):∀ (z i n:Nat),n+z*128 ^ i≤1099511627776→(i=0∨0<z)→rdGo i n (numB z++r)=some (n+z*128 ^ i,r):=by
 intro z
 induction z using Nat.strongRecOn with
 | _ z ih=>
   intro i n hn hz
   have hi:=pow_le_of i z (by omega) hz
   by_cases h:z<128
   ·rw [numB_lt h]
    have hb:z.toUInt8.toNat=z:=by simp;omega
    simp only [List.cons_append,List.nil_append,rdGo,hb,Nat.mod_eq_of_lt h]
    rw [if_neg (by omega),if_pos h]
   ·rw [numB_ge h]
    have hb:(z % 128+128).toUInt8.toNat=z % 128+128:=by simp;omega
    have hm:(z % 128+128) % 128=z % 128:=by omega
    simp only [List.cons_append,rdGo,hb,hm]
    have e:z*128 ^ i=z % 128*128 ^ i+z / 128*128 ^ (i+1):=by
     have h1:z / 128*128 ^ (i+1)=z / 128*128*128 ^ i:=by rw [Nat.pow_succ,Nat.mul_comm (128 ^ i),Nat.mul_assoc]
     rw [h1,←Nat.add_mul]
     congr 1;omega
    rw [if_neg (by omega),if_neg (by omega)]
    rw [ih (z / 128) (by omega) (i+1) _ (by omega) (.inr (by omega))]
    congr 2;omega
theorem rdNum_numB (z:Nat) (r:List UInt8) (h:z≤1099511627776):rdNum (numB z++r)=some (z,r):=by
 have:=rdGo_numB r z 0 0 (by simpa using h) (.inl rfl)
 simpa [rdNum] using this
structure WrP where
 key:Int
 data:ByteArray
 gone:Bool
structure TxP where
 site:Int
 seq:Int
 wall:Int
 count:Int
 d0:Int
 d1:Int
 d2:Int
 d3:Int
 ws:List WrP
def okN (z:Int):Bool:=decide (0≤z∧z≤1099511627776)
def badW (last:Int) (w:WrP):Bool:=decide (w.key≤last)||decide (8≤w.key)||decide (12<w.data.size)||(w.gone&&decide (w.data.size≠0))
def rwGo:Int→List WrP→Bool
 | _,[]=>true
 | last,w::ws=>if badW last w=true then false else rwGo w.key ws
def rightWs (l:List WrP):Bool:=rwGo (-1) l&&decide (1≤l.length)&&decide (l.length≤5)
def depAt (t:TxP):Int:=if t.site=0 then t.d0 else if t.site=1 then t.d1 else if t.site=2 then t.d2 else t.d3
def headTx (t:TxP):Bool:=decide (0≤t.site∧t.site<4)&&decide (1≤t.seq∧t.seq≤1099511627776)&&okN t.wall&&okN t.count&&(okN t.d0&&okN t.d1&&okN t.d2&&okN t.d3)&&decide (depAt t=t.seq-1)
def rightTx (t:TxP):Bool:=headTx t&&rightWs t.ws
def goneN (b:Bool):Nat:=if b then 1 else 0
def wrB (w:WrP):List UInt8:=numsB [w.key.toNat,goneN w.gone,w.data.size]++w.data.data.toList
def txB (t:TxP):List UInt8:=
 116::(numsB [t.site.toNat,t.seq.toNat,t.wall.toNat,t.count.toNat]++numsB [t.d0.toNat,t.d1.toNat,t.d2.toNat,t.d3.toNat]++numsB [t.ws.length]++t.ws.flatMap wrB)
def askB (s a0 a1 a2 a3:Int):List UInt8:=97::(numsB [s.toNat]++numsB [a0.toNat,a1.toNat,a2.toNat,a3.toNat])
structure Rd where
 l:List UInt8
 bad:Bool
def numR (r:Rd):Nat×Rd:=match rdNum r.l with
 | some (n,l)=>(n,⟨l,r.bad⟩)
 | none=>(0,⟨r.l,true⟩)
def textR (r:Rd):ByteArray×Rd:=
 if (numR r).2.l.length<(numR r).1 then (⟨#[]⟩,⟨(numR r).2.l,true⟩)
 else (⟨((numR r).2.l.take (numR r).1).toArray⟩,⟨(numR r).2.l.drop (numR r).1,(numR r).2.bad⟩)
def beginR (c:UInt8) (b:List UInt8):Rd:=match b with
 | []=>⟨[],true⟩
 | x::l=>if x=c then ⟨l,false⟩ else ⟨[],true⟩
def wrR (r:Rd):WrP×Nat×Rd:=
 ((⟨(numR r).1,(textR (numR (numR r).2).2).1,decide ((numR (numR r).2).1=1)⟩:WrP),(numR (numR r).2).1,(textR (numR (numR r).2).2).2)
def wrsR:Nat→List WrP→Rd→List WrP×Rd
 | 0,ws,r=>(ws,r)
 | n+1,ws,r=>if r.bad then (ws,r) else
   wrsR n (ws++[(wrR r).1]) ⟨(wrR r).2.2.l,(wrR r).2.2.bad||decide (1<(wrR r).2.1)||decide (5≤ws.length)⟩
def numR4 (r:Rd):(Nat×Nat×Nat×Nat)×Rd:=
 (((numR r).1,(numR (numR r).2).1,(numR (numR (numR r).2).2).1,(numR (numR (numR (numR r).2).2).2).1),(numR (numR (numR (numR r).2).2).2).2)
def txOf (h d:Nat×Nat×Nat×Nat) (ws:List WrP):TxP:=⟨h.1,h.2.1,h.2.2.1,h.2.2.2,d.1,d.2.1,d.2.2.1,d.2.2.2,ws⟩
def rawTx (r:Rd):TxP×Rd:=
 (txOf (numR4 r).1 (numR4 (numR4 r).2).1 (wrsR (numR (numR4 (numR4 r).2).2).1 [] (numR (numR4 (numR4 r).2).2).2).1,(wrsR (numR (numR4 (numR4 r).2).2).1 [] (numR (numR4 (numR4 r).2).2).2).2)
def decTx (b:List UInt8):Option TxP:=
 if (rawTx (beginR 116 b)).2.bad||!(rawTx (beginR 116 b)).2.l.isEmpty||!rightTx (rawTx (beginR 116 b)).1 then none else some (rawTx (beginR 116 b)).1
def rawAsk (r:Rd):(Nat×(Nat×Nat×Nat×Nat))×Rd:=(((numR r).1,(numR4 (numR r).2).1),(numR4 (numR r).2).2)
def decAsk (b:List UInt8):Option (Nat×(Nat×Nat×Nat×Nat)):=
 if (rawAsk (beginR 97 b)).2.bad||!(rawAsk (beginR 97 b)).2.l.isEmpty||decide (4≤(rawAsk (beginR 97 b)).1.1) then none else some (rawAsk (beginR 97 b)).1
theorem numR_numB (z:Nat) (s:List UInt8) (b:Bool) (h:z≤1099511627776):numR ⟨numB z++s,b⟩=(z,⟨s,b⟩):=by
 unfold numR;rw [rdNum_numB z s h]
theorem numR4_numsB (x y z u:Nat) (s:List UInt8) (b:Bool) (hx:x≤1099511627776) (hy:y≤1099511627776) (hz:z≤1099511627776) (hu:u≤1099511627776):
  numR4 ⟨numsB [x,y,z,u]++s,b⟩=((x,y,z,u),⟨s,b⟩):=by
 have e:numsB [x,y,z,u]++s=numB x++(numB y++(numB z++(numB u++s))):=by simp [numsB]
 unfold numR4
 simp only [e,numR_numB x _ b hx,numR_numB y _ b hy,numR_numB z _ b hz,numR_numB u _ b hu]
theorem ba_size (x:ByteArray):x.size=x.data.toList.length:=by rw [Array.length_toList];rfl
theorem textR_B (d:ByteArray) (s:List UInt8) (b:Bool) (h:d.size≤1099511627776):textR ⟨numB d.size++(d.data.toList++s),b⟩=(d,⟨s,b⟩):=by
 unfold textR
 rw [numR_numB _ _ _ h]
 have hl:(d.data.toList++s).length=d.size+s.length:=by rw [List.length_append,ba_size]
 simp only [hl]
 rw [if_neg (by omega),ba_size,List.take_left,List.drop_left]
theorem wrR_B (w:WrP) (s:List UInt8) (b:Bool) (hk:0≤w.key∧w.key<8) (hd:w.data.size≤12):wrR ⟨wrB w++s,b⟩=(w,goneN w.gone,⟨s,b⟩):=by
 have e:wrB w++s=numB w.key.toNat++(numB (goneN w.gone)++(numB w.data.size++(w.data.data.toList++s))):=by simp [wrB,numsB]
 have hg:goneN w.gone≤1099511627776:=by unfold goneN;split <;> omega
 unfold wrR
 rw [e,numR_numB w.key.toNat _ b (by omega)]
 simp only
 rw [numR_numB (goneN w.gone) _ b hg]
 simp only
 rw [textR_B w.data s b (by omega)]
 obtain ⟨k,d,g⟩:=w
 simp only at hk ⊢
 have h1:decide (goneN g=1)=g:=by cases g <;> simp [goneN]
 rw [h1]
 have h2:((k.toNat:Nat):Int)=k:=by omega
 rw [h2]
theorem goneN_le (b:Bool):goneN b≤1:=by cases b <;> simp [goneN]
theorem wrsR_B (s:List UInt8):∀ (ws l:List WrP),(∀ w∈ws,(0≤w.key∧w.key<8)∧w.data.size≤12)→l.length+ws.length≤5→wrsR ws.length l ⟨ws.flatMap wrB++s,false⟩=(l++ws,⟨s,false⟩)
 | [],l,_,_=>by simp [wrsR]
 | w::ws,l,h,hl=>by
   have hw:=h w (by simp)
   have e:(w::ws).flatMap wrB++s=wrB w++(ws.flatMap wrB++s):=by simp
   simp only [List.length_cons] at hl ⊢
   have hg:=goneN_le w.gone
   simp only [wrsR,e,wrR_B w _ false hw.1 hw.2]
   have h5:(false||decide (1<goneN w.gone)||decide (5≤l.length))=false:=by simp;omega
   rw [h5,wrsR_B s ws _ (fun x hx=>h x (by simp [hx])) (by simp;omega)]
   simp
theorem badW_no {last:Int} {w:WrP} (h:badW last w≠true):last<w.key∧w.key<8∧w.data.size≤12:=by
 simp [badW] at h;omega
theorem rwGo_all:∀ (ws:List WrP) (last:Int),-1≤last→rwGo last ws=true→∀ w∈ws,(0≤w.key∧w.key<8)∧w.data.size≤12
 | [],_,_,_,w,hw=>by cases hw
 | x::ws,last,hl,h,w,hw=>by
   simp only [rwGo] at h
   by_cases hb:badW last x=true
   ·rw [if_pos hb] at h;cases h
   ·rw [if_neg hb] at h
    have h1:=badW_no hb
    rcases List.mem_cons.1 hw with rfl | hw
    ·omega
    ·exact rwGo_all ws x.key (by omega) h w hw
theorem rightWs_all {l:List WrP} (h:rightWs l=true):(∀ w∈l,(0≤w.key∧w.key<8)∧w.data.size≤12)∧1≤l.length∧l.length≤5:=by
 simp only [rightWs,Bool.and_eq_true,decide_eq_true_eq] at h
 exact ⟨rwGo_all l _ (by omega) h.1.1,h.1.2,h.2⟩
theorem headTx_all {t:TxP} (h:headTx t=true):(0≤t.site∧t.site<4)∧(1≤t.seq∧t.seq≤1099511627776)∧(0≤t.wall∧t.wall≤1099511627776)∧(0≤t.count∧t.count≤1099511627776)∧
  (0≤t.d0∧t.d0≤1099511627776)∧(0≤t.d1∧t.d1≤1099511627776)∧(0≤t.d2∧t.d2≤1099511627776)∧(0≤t.d3∧t.d3≤1099511627776)∧depAt t=t.seq-1:=by
 simp only [headTx,okN,Bool.and_eq_true,decide_eq_true_eq] at h
 obtain ⟨⟨⟨⟨⟨h1,h2⟩,h3⟩,h4⟩,⟨⟨h5,h6⟩,h7⟩,h8⟩,h9⟩:=h
 exact ⟨h1,h2,h3,h4,h5,h6,h7,h8,h9⟩
theorem rawTx_B (t:TxP) (s:List UInt8) (h:rightTx t=true):rawTx ⟨(txB t).drop 1++s,false⟩=(t,⟨s,false⟩):=by
 simp only [rightTx,Bool.and_eq_true] at h
 obtain ⟨hw,hl1,hl5⟩:=rightWs_all h.2
 obtain ⟨h1,h2,h3,h4,h5,h6,h7,h8,_⟩:=headTx_all h.1
 have e:(txB t).drop 1++s=numsB [t.site.toNat,t.seq.toNat,t.wall.toNat,t.count.toNat]++(numsB [t.d0.toNat,t.d1.toNat,t.d2.toNat,t.d3.toNat]++(numB t.ws.length++(t.ws.flatMap wrB++s))):=by
  simp [txB,numsB]
 rw [e]
 unfold rawTx
 simp only [numR4_numsB t.site.toNat t.seq.toNat t.wall.toNat t.count.toNat _ false (by omega) (by omega) (by omega) (by omega),numR4_numsB t.d0.toNat t.d1.toNat t.d2.toNat t.d3.toNat _ false (by omega) (by omega) (by omega) (by omega),
  numR_numB t.ws.length _ false (by omega),wrsR_B s t.ws [] hw (by simpa using hl5)]
 obtain ⟨a,b,c,d,e0,e1,e2,e3,ws⟩:=t
 simp only [txOf,List.nil_append] at *
 rw [Int.toNat_of_nonneg (by omega),Int.toNat_of_nonneg (by omega),Int.toNat_of_nonneg (by omega),Int.toNat_of_nonneg (by omega),Int.toNat_of_nonneg (by omega),Int.toNat_of_nonneg (by omega),Int.toNat_of_nonneg (by omega),Int.toNat_of_nonneg (by omega)]
theorem begin_tx (t:TxP) (s:List UInt8):beginR 116 (txB t++s)=⟨(txB t).drop 1++s,false⟩:=rfl
theorem decTx_B (t:TxP) (h:rightTx t=true):decTx (txB t)=some t:=by
 have e:=begin_tx t []
 rw [List.append_nil] at e
 unfold decTx
 rw [e,rawTx_B t [] h]
 simp [h]
theorem rdGo_back:∀ (l:List UInt8) (i n m:Nat) (r:List UInt8),rdGo i n l=some (m,r)→∃ z,m=n+z*128 ^ i∧l=numB z++r∧(i=0∨0<z)
 | [],_,_,_,_,h=>by simp [rdGo] at h
 | b::l,i,n,m,r,h=>by
   simp only [rdGo] at h
   by_cases h1:5<i∨1099511627776<n+b.toNat % 128*128 ^ i∨(b.toNat=0∧0<i)
   ·rw [if_pos h1] at h;cases h
   ·rw [if_neg h1] at h
    by_cases h2:b.toNat<128
    ·rw [if_pos h2] at h
     simp only [Option.some.injEq,Prod.mk.injEq] at h
     refine ⟨b.toNat,?_,?_,?_⟩
     ·rw [←h.1,Nat.mod_eq_of_lt h2]
     ·rw [numB_lt h2,h.2];simp
     ·omega
    ·rw [if_neg h2] at h
     obtain ⟨z,hm,hl,hz⟩:=rdGo_back l _ _ _ _ h
     have hz:0<z:=by omega
     have hb:=b.toNat_lt
     refine ⟨b.toNat % 128+128*z,?_,?_,.inr (by omega)⟩
     ·rw [hm,Nat.pow_succ,Nat.add_mul]
      have:128*z*128 ^ i=z*(128 ^ i*128):=by rw [Nat.mul_comm (128 ^ i) 128,←Nat.mul_assoc,Nat.mul_comm 128 z]
      omega
     ·rw [numB_ge (by omega)]
      have e1:(b.toNat % 128+128*z) / 128=z:=by omega
      have e2:((b.toNat % 128+128*z) % 128+128).toUInt8=b:=by
       apply UInt8.toNat_inj.1
       simp;omega
      rw [e1,e2,hl];rfl
theorem rdNum_back {l r:List UInt8} {m:Nat} (h:rdNum l=some (m,r)):l=numB m++r∧m≤1099511627776:=by
 obtain ⟨z,hm,hl,_⟩:=rdGo_back _ _ _ _ _ h
 obtain ⟨h2,_⟩:=rdGo_len _ _ _ _ _ h
 refine ⟨?_,h2⟩
 have:m=z:=by simpa using hm
 rw [this];exact hl
theorem numR_back {r:Rd} (h:(numR r).2.bad=false):r.bad=false∧r.l=numB (numR r).1++(numR r).2.l∧(numR r).1≤1099511627776:=by
 unfold numR at h ⊢
 cases e:rdNum r.l with
 | none=>rw [e] at h;cases h
 | some x=>
   obtain ⟨n,l⟩:=x
   rw [e] at h
   have:=rdNum_back e
   exact ⟨h,this⟩
theorem numR4_back {r:Rd} (h:(numR4 r).2.bad=false):r.bad=false∧r.l=numsB [(numR4 r).1.1,(numR4 r).1.2.1,(numR4 r).1.2.2.1,(numR4 r).1.2.2.2]++(numR4 r).2.l∧
  (numR4 r).1.1≤1099511627776∧(numR4 r).1.2.1≤1099511627776∧(numR4 r).1.2.2.1≤1099511627776∧(numR4 r).1.2.2.2≤1099511627776:=by
 unfold numR4 at h ⊢
 simp only at h ⊢
 obtain ⟨h4,l4,m4⟩:=numR_back h
 obtain ⟨h3,l3,m3⟩:=numR_back h4
 obtain ⟨h2,l2,m2⟩:=numR_back h3
 obtain ⟨h1,l1,m1⟩:=numR_back h2
 refine ⟨h1,?_,m1,m2,m3,m4⟩
 rw [l1,l2,l3,l4];simp [numsB]
theorem textR_back {r:Rd} (h:(textR r).2.bad=false):r.bad=false∧r.l=numB (textR r).1.size++((textR r).1.data.toList++(textR r).2.l):=by
 unfold textR at h ⊢
 by_cases hl:(numR r).2.l.length<(numR r).1
 ·rw [if_pos hl] at h;cases h
 ·rw [if_neg hl] at h ⊢
  simp only at h ⊢
  obtain ⟨h1,l1,_⟩:=numR_back h
  refine ⟨h1,?_⟩
  rw [ba_size]
  simp only [List.take_append_drop,List.length_take,Nat.min_eq_left (Nat.not_lt.1 hl)]
  exact l1
theorem wrR_back {r:Rd} (h:(wrR r).2.2.bad=false) (hg:(wrR r).2.1≤1):r.bad=false∧r.l=wrB (wrR r).1++(wrR r).2.2.l:=by
 unfold wrR at h hg ⊢
 simp only at h hg ⊢
 obtain ⟨h3,l3⟩:=textR_back h
 obtain ⟨h2,l2,_⟩:=numR_back h3
 obtain ⟨h1,l1,_⟩:=numR_back h2
 refine ⟨h1,?_⟩
 rw [l1,l2,l3]
 have e:goneN (decide ((numR (numR r).2).1=1))=(numR (numR r).2).1:=by
  have:(numR (numR r).2).1=0∨(numR (numR r).2).1=1:=by omega
  rcases this with e | e <;> rw [e] <;> rfl
 simp only [wrB,numsB,List.flatMap_cons,List.flatMap_nil,e,Int.toNat_natCast,List.append_nil,List.append_assoc]
theorem wrsR_back:∀ (n:Nat) (l:List WrP) (r:Rd),(wrsR n l r).2.bad=false→r.bad=false∧∃ ws,(wrsR n l r).1=l++ws∧ws.length=n∧r.l=ws.flatMap wrB++(wrsR n l r).2.l
 | 0,l,r,h=>⟨h,[],by simp [wrsR],rfl,by simp [wrsR]⟩
 | n+1,l,r,h=>by
   simp only [wrsR] at h ⊢
   cases hb:r.bad with
   | true=>rw [hb,if_pos rfl] at h;rw [hb] at h;cases h
   | false=>
     rw [hb,if_neg (by simp)] at h
     rw [if_neg (by simp)]
     obtain ⟨h1,ws,e1,e2,e3⟩:=wrsR_back n _ _ h
     simp only [Bool.or_eq_false_iff,decide_eq_false_iff_not] at h1
     obtain ⟨_,l1⟩:=wrR_back h1.1.1 (by omega)
     refine ⟨rfl,(wrR r).1::ws,?_,by simp [e2],?_⟩
     ·rw [e1];simp
     ·simp only at e3
      rw [l1,List.flatMap_cons,List.append_assoc]
      exact congrArg _ e3
theorem begin_back {c:UInt8} {b:List UInt8} (h:(beginR c b).bad=false):b=c::(beginR c b).l:=by
 unfold beginR at h ⊢
 cases b with
 | nil=>cases h
 | cons x l=>
   simp only at h ⊢
   by_cases e:x=c
   ·rw [if_pos e,e]
   ·rw [if_neg e] at h;cases h
theorem decTx_back {p:List UInt8} {t:TxP} (h:decTx p=some t):rightTx t=true∧txB t=p:=by
 unfold decTx at h
 split at h
 ·cases h
 ·rename_i hc
  simp only [Bool.or_eq_true,not_or,Bool.not_eq_true,Bool.not_eq_true',Bool.not_eq_false] at hc
  obtain ⟨⟨hb,hl⟩,hr⟩:=hc
  simp only [Option.some.injEq] at h
  rw [h] at hr
  refine ⟨by simpa using hr,?_⟩
  have hl:(rawTx (beginR 116 p)).2.l=[]:=by simpa using hl
  generalize hr0:beginR 116 p=r at *
  have hb':=hb
  unfold rawTx at hb' h hl
  simp only at hb' h hl
  obtain ⟨h3,ws,e1,e2,e3⟩:=wrsR_back _ _ _ hb'
  obtain ⟨h2,l2,_⟩:=numR_back h3
  obtain ⟨h1,l1,_⟩:=numR4_back h2
  obtain ⟨h0,l0,_⟩:=numR4_back h1
  have hp:=begin_back (c:=116) (b:=p) (by rw [hr0];exact h0)
  rw [hr0] at hp
  rw [hp,l0,l1,l2,e3,hl,←h]
  simp only [e1,List.nil_append,txB,txOf,Int.toNat_natCast,e2,List.append_assoc,List.append_nil]
  simp [numsB]
theorem tx_no_ask (s a0 a1 a2 a3:Int):decTx (askB s a0 a1 a2 a3)=none:=by
 cases e:decTx (askB s a0 a1 a2 a3) with
 | none=>rfl
 | some t=>have:=(decTx_back e).2;simp [txB,askB] at this
def okAsk (s a0 a1 a2 a3:Int):Bool:=decide (0≤s∧s<4)&&(okN a0&&okN a1&&okN a2&&okN a3)
theorem okAsk_all {s a0 a1 a2 a3:Int} (h:okAsk s a0 a1 a2 a3=true):(0≤s∧s<4)∧(0≤a0∧a0≤1099511627776)∧(0≤a1∧a1≤1099511627776)∧(0≤a2∧a2≤1099511627776)∧(0≤a3∧a3≤1099511627776):=by
 simp only [okAsk,okN,Bool.and_eq_true,decide_eq_true_eq] at h
 obtain ⟨h1,⟨⟨h2,h3⟩,h4⟩,h5⟩:=h
 exact ⟨h1,h2,h3,h4,h5⟩
theorem rawAsk_B (s a0 a1 a2 a3:Int) (l:List UInt8) (h:okAsk s a0 a1 a2 a3=true):rawAsk ⟨(askB s a0 a1 a2 a3).drop 1++l,false⟩=((s.toNat,a0.toNat,a1.toNat,a2.toNat,a3.toNat),⟨l,false⟩):=by
 obtain ⟨h1,h2,h3,h4,h5⟩:=okAsk_all h
 have e:(askB s a0 a1 a2 a3).drop 1++l=numB s.toNat++(numsB [a0.toNat,a1.toNat,a2.toNat,a3.toNat]++l):=by simp [askB,numsB]
 unfold rawAsk
 simp only [e,numR_numB s.toNat _ false (by omega),numR4_numsB a0.toNat a1.toNat a2.toNat a3.toNat _ false (by omega) (by omega) (by omega) (by omega)]
theorem begin_ask (s a0 a1 a2 a3:Int) (l:List UInt8):beginR 97 (askB s a0 a1 a2 a3++l)=⟨(askB s a0 a1 a2 a3).drop 1++l,false⟩:=rfl
theorem decAsk_B (s a0 a1 a2 a3:Int) (h:okAsk s a0 a1 a2 a3=true):decAsk (askB s a0 a1 a2 a3)=some (s.toNat,a0.toNat,a1.toNat,a2.toNat,a3.toNat):=by
 have e:=begin_ask s a0 a1 a2 a3 []
 rw [List.append_nil] at e
 obtain ⟨h1,_⟩:=okAsk_all h
 unfold decAsk
 rw [e,rawAsk_B _ _ _ _ _ _ h]
 simp;omega
end Go.Proofs.YtbopfhbeegkkaabGreatDoor
