/- Part K19 of a proof: lemmas and contracts that other parts use. -/
import Derived.Test.YtbopfhbeegkkaabGreatDoorCa45
set_option linter.unusedVariables false
set_option linter.unusedSimpArgs false
set_option linter.constructorNameAsVariable false
namespace Go.Proofs.YtbopfhbeegkkaabGreatDoor
open Go.RowKit
section
variable {w W W':World} {tb g C i:Nat} {s:TlP}
theorem TSt.calm (h:TSt w tb g C i W s) (hi:i<200):Calls Tryz.prog 57 #[.pointer (some ⟨g,0,none⟩)] W fun e w'=>e=.returned (.tuple #[])∧TSt w tb g C i w' (tlTo s (awCalm s.A)):=by
 obtain ⟨O,t,b,h1,h2,rfl,h4,h5,rfl⟩:=h
 refine (wCalm_any h2.w h1 (by omega)).mono fun e w' ⟨e1,hU⟩=>⟨e1,?_⟩
 obtain ⟨O',t',q1,⟨q2,q3⟩,_⟩:=h2.world (by omega) (awCalm_SC _).1 (awCalm_SC _).2.1 hU
 exact ⟨O',t',b,q1,q2,q3,h4.to (h4.inv.calm (by omega)) (awCalm_SC _).2.1 (awCalm_SC _).2.2.1,h5,(awCalm_SC _).2.1⟩
theorem TSt.site (h:TSt w tb g C i W s) {k:Nat} (hk:k<s.A.S):Calls Tryz.prog 58 #[.pointer (some ⟨g,0,none⟩),.int .i64 (k:Nat)] W fun e w'=>∃ At ct,e=.returned (.tuple #[.agg #[.int .i64 (s.A.si k).p0,.int .i64 (s.A.si k).p1,.int .i64 (s.A.si k).p2,.int .i64 (s.A.si k).p3],.int .i64 ((s.A.si k).ws.length:Nat),.slice At 8 ct,.int .i64 ((s.A.si k).held.length:Nat),.nilIface])∧TsAt w' At (aTold (s.A.si k))∧Below W.heap.size W w':=by
 obtain ⟨O,t,b,h1,h2,rfl,h4,h5,rfl⟩:=h
 exact (wSite_ok h2.w h1 (by omega) hk).mono fun e w' ⟨At,ct,e1,e2,e3⟩=>⟨At,ct,e1,e2,e3⟩
theorem TSt.last (h:TSt w tb g C i W s) (hi:i<200) (v0 v1 v2 v3 key:Int):Calls Tryz.prog 59 #[.pointer (some ⟨tb,0,none⟩),.int .i64 key,.agg #[.int .i64 v0,.int .i64 v1,.int .i64 v2,.int .i64 v3]] W fun e w'=>e=.returned (.tuple #[.string (lsOf (lastT s.T v0 v1 v2 v3 key)).1,.bool (lsOf (lastT s.T v0 v1 v2 v3 key)).2])∧Below W.heap.size W w':=by
 obtain ⟨O,t,b,h1,h2,rfl,h4,h5,rfl⟩:=h
 exact (tlast_any h2 h1 (by omega) h4 (by omega) v0 v1 v2 v3 key).mono fun e w' ⟨e1,e2⟩=>⟨e1,e2⟩
end
end Go.Proofs.YtbopfhbeegkkaabGreatDoor
