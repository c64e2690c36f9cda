/- Part M2 of a proof: lemmas and contracts that other parts use. -/
import Derived.Test.YtbopfhbeegkkaabGreatDoorCa25
import Derived.Test.YtbopfhbeegkkaabGreatDoorCa26
set_option linter.unusedVariables false
set_option linter.unusedSimpArgs false
set_option linter.constructorNameAsVariable false
namespace Go.Proofs.YtbopfhbeegkkaabGreatDoor
open Go.RowKit
section
variable {s t:TlP} {b:Nat→Int→Int}
theorem TlSw.refl (s:TlP):TlSw s s:=⟨Sw.refl _,rfl,rfl,rfl⟩
theorem TlSw.to (h:TlSw s t) {A B:AWd} (hA:Sw A B):TlSw (tlTo s A) (tlTo t B):=⟨hA,h.T,h.F,h.z⟩
theorem TlSw.begin_ (h:TlSw s t) (k:Nat):TlSw (tlBegin s k) (tlBegin t k):=by
 obtain ⟨h1,h2⟩:=h.A.begin_ k
 unfold tlBegin
 by_cases he:awBeginE s.A k=0
 ·rw [if_pos he,if_pos (by rw [←h2];exact he)]
  exact ⟨h1,h.T,by show fset s.F k _=fset t.F k _;rw [h.F],by show fset s.z k _=fset t.z k _;rw [h.z]⟩
 ·rw [if_neg he,if_neg (by rw [←h2];exact he)]
  exact ⟨h1,h.T,h.F,h.z⟩
theorem TlSw.write (h:TlSw s t) (k:Nat) (x:WrP):TlSw (tlWrite s k x) (tlWrite t k x):=by
 have h1:=h.A.write k x
 have h2:awWriteE s.A k x=awWriteE t.A k x:=by unfold awWriteE;rw [h.A.cl]
 unfold tlWrite
 rw [←h2,←h.F,←h.z,←h.T]
 by_cases he:awWriteE s.A k x=0
 ·rw [if_pos he,if_pos he]
  exact ⟨h1,rfl,rfl,rfl⟩
 ·rw [if_neg he,if_neg he]
  exact ⟨h1,rfl,rfl,rfl⟩
theorem TlSw.commit (h:TlSw s t) (k:Nat):TlSw (tlCommit s k) (tlCommit t k):=by
 obtain ⟨h1,h2⟩:=h.A.commitE k
 unfold tlCommit
 rw [h1,h2,h.T]
 exact ⟨h.A.commit k,rfl,h.F,h.z⟩
theorem TlSw.step (h:TlSw s t) (a:TaP):TlSw (tlDo s a true) (tlDo t a false):=by
 have e1:tlK s a=tlK t a:=by unfold tlK;rw [h.A.C]
 have e2:tlS s a=tlS t a:=by unfold tlS;rw [h.A.S]
 have e3:tlI s a=tlI t a:=by unfold tlI;rw [h.A.way]
 have e4:pickN a.n s.A.S=pickN a.n t.A.S:=by rw [h.A.S]
 unfold tlDo
 rw [e1,e2,e3,e4,h.A.way]
 by_cases h0:a.what=0
 ·rw [if_pos h0,if_pos h0];exact h.begin_ _
 rw [if_neg h0,if_neg h0]
 by_cases h1:a.what=1
 ·rw [if_pos h1,if_pos h1];exact h
 rw [if_neg h1,if_neg h1]
 by_cases h2:a.what=2
 ·rw [if_pos h2,if_pos h2];exact h.write _ _
 rw [if_neg h2,if_neg h2]
 by_cases h3:a.what=3
 ·rw [if_pos h3,if_pos h3];exact h.commit _
 rw [if_neg h3,if_neg h3]
 by_cases h4:a.what=4
 ·rw [if_pos h4,if_pos h4];exact h.to (h.A.abort _)
 rw [if_neg h4,if_neg h4]
 by_cases h5:a.what=5
 ·rw [if_pos h5,if_pos h5];exact h.to (h.A.move _ _)
 rw [if_neg h5,if_neg h5]
 by_cases h6:a.what=6
 ·rw [if_pos h6,if_pos h6];exact h.to (h.A.goes _ _)
 rw [if_neg h6,if_neg h6]
 by_cases h7:a.what=7
 ·rw [if_pos h7,if_pos h7]
  split
  ·exact h
  ·exact h.to (h.A.ask _ _)
 rw [if_neg h7,if_neg h7]
 by_cases h8:a.what=8
 ·rw [if_pos h8,if_pos h8]
  split
  ·exact h.to (h.A.deliver _)
  ·exact h
 rw [if_neg h8,if_neg h8]
 by_cases h9:a.what=9
 ·rw [if_pos h9,if_pos h9]
  split
  ·exact h.to (h.A.out _)
  ·exact h
 rw [if_neg h9,if_neg h9]
 by_cases h10:a.what=10
 ·rw [if_pos h10,if_pos h10]
  split
  ·exact h.to (h.A.twice _)
  ·exact h
 rw [if_neg h10,if_neg h10]
 by_cases h11:a.what=11
 ·rw [if_pos h11,if_pos h11,if_pos rfl,if_neg (by simp)]
  exact h.to (h.A.sweep _)
 rw [if_neg h11,if_neg h11]
 by_cases h12:a.what=12
 ·rw [if_pos h12,if_pos h12];exact h.to h.A.calm
 rw [if_neg h12,if_neg h12]
 exact h
theorem TlOk.stepF (h:TlOk t (fun _ _=>0)) (hl:t.T.length<200) (a:TaP):TlOk (tlDo t a false) (fun _ _=>0):=by
 have hk:tlK t a<t.A.C:=pickN_lt _ h.C
 have hs:tlS t a<t.A.S:=pickN_lt _ (by have:=h.inv.S;omega)
 have hn:pickN a.n t.A.S<t.A.S:=pickN_lt _ (by have:=h.inv.S;omega)
 by_cases h11:a.what=11
 ·have e:tlDo t a false=t:=by
   unfold tlDo
   simp [h11]
  rw [e];exact h
 have hI:0<t.A.way.length→tlI t a<t.A.way.length:=fun h0=>by unfold tlI;rw [if_pos h0];exact pickN_lt _ h0
 unfold tlDo
 by_cases h0:a.what=0
 ·rw [if_pos h0];exact h.begin_ hk
 rw [if_neg h0]
 by_cases h1:a.what=1
 ·rw [if_pos h1];exact h
 rw [if_neg h1]
 by_cases h2:a.what=2
 ·rw [if_pos h2];exact h.write hk _
 rw [if_neg h2]
 by_cases h3:a.what=3
 ·rw [if_pos h3];exact h.commit hk
 rw [if_neg h3]
 by_cases h4:a.what=4
 ·rw [if_pos h4]
  refine h.cls (k:=tlK t a) (h.inv.abort hk) rfl (fun i hne=>fset_other _ hne) fun ho=>?_
  exfalso
  have h2:(fset t.A.cl (tlK t a) (dAbort (t.A.cl (tlK t a))) (tlK t a)).op=true:=ho
  rw [fset_same] at h2
  unfold dAbort at h2
  split at h2
  ·cases h2
  ·rename_i h3;exact h3 h2
 rw [if_neg h4]
 by_cases h5:a.what=5
 ·rw [if_pos h5]
  refine h.to (h.inv.move hk _) ?_ ?_ <;> (unfold awMove;split <;> rfl)
 rw [if_neg h5]
 by_cases h6:a.what=6
 ·rw [if_pos h6];exact h.to (h.inv.goes _ _) rfl rfl
 rw [if_neg h6]
 by_cases h7:a.what=7
 ·rw [if_pos h7]
  by_cases hne:tlS t a=pickN a.n t.A.S
  ·rw [if_pos hne];exact h
  ·rw [if_neg hne];exact h.to (h.inv.ask hs hn hne) (awAsk_SC _ _ _).2.1 (awAsk_SC _ _ _).2.2.1
 rw [if_neg h7]
 by_cases h8:a.what=8
 ·rw [if_pos h8]
  by_cases hw:0<t.A.way.length
  ·rw [if_pos hw];exact h.to (h.inv.deliver hl (hI hw)) (awDeliver_SC _ _).2.1 (awDeliver_SC _ _).2.2.1
  ·rw [if_neg hw];exact h
 rw [if_neg h8]
 by_cases h9:a.what=9
 ·rw [if_pos h9]
  by_cases hw:0<t.A.way.length
  ·rw [if_pos hw];exact h.to (h.inv.out_ _) rfl rfl
  ·rw [if_neg hw];exact h
 rw [if_neg h9]
 by_cases h10:a.what=10
 ·rw [if_pos h10]
  by_cases hw:0<t.A.way.length
  ·rw [if_pos hw];exact h.to (h.inv.twice (hI hw)) (awSend_eq _ _).2.1 (awSend_eq _ _).2.2.2.2.1
  ·rw [if_neg hw];exact h
 rw [if_neg h10,if_neg h11]
 by_cases h12:a.what=12
 ·rw [if_pos h12];exact h.to (h.inv.calm hl) (awCalm_SC _).2.1 (awCalm_SC _).2.2.1
 ·rw [if_neg h12];exact h
theorem TlSw.told (h:TlSw s t) {b':Nat→Int→Int} (hs:TlOk s b) (ht:TlOk t b') {k:Nat} (hk:k<s.A.S):aTold (s.A.si k)=aTold (t.A.si k):=by
 unfold aTold toldT
 refine List.map_congr_left fun i hi=>?_
 have hi8:i<8:=List.mem_range.1 hi
 have hB:=ht.inv
 rw [←h.T] at hB
 exact congrArg txtOf (h.A.told hs.inv hB hk (key:=(i:Int)) (by omega))
theorem TlSw.many (h:TlSw s t) (hs:TlOk s b) (ht:TlOk t (fun _ _=>0)) {k:Nat} (hk:k<s.A.S):(s.A.si k).held.length≤(t.A.si k).held.length:=by
 have hB:=ht.inv
 rw [←h.T] at hB
 exact h.A.many hs.inv hB hk
theorem TlSw.reads (h:TlSw s t) {b':Nat→Int→Int} (hs:TlOk s b) (ht:TlOk t b') {k:Nat} (hk:k<s.A.C) {key:Int} (hkey:0≤key∧key<8):awRead s.A k key=awRead t.A k key:=by
 have hB:=ht.inv
 rw [←h.T] at hB
 exact h.A.reads hs.inv hB hk hkey
end
end Go.Proofs.YtbopfhbeegkkaabGreatDoor
