/- The law WorldPlays returns true at every two integers and every slice of acts, and leaves what it was given as it was. No condition of ours; the listed variable errors.errorType is tied to the program's text. -/
import Derived.Test.YtbopfhbeegkkaabGreatDoorWp30
import Derived.Test.YtbopfhbeegkkaabGreatDoorCards
import Derived.Test.YtbopfhbeegkkaabGreatDoorTie
import Derived.Deep.DeepHandedRow
import Derived.LaidHandle
import Derived.LaidLaws
import Derived.SevenTiedAt
import Derived.Stop.Joined
import Derived.Lib.SmallJoins
set_option linter.unusedVariables false
set_option linter.unusedSimpArgs false
set_option linter.constructorNameAsVariable false
set_option maxHeartbeats 16000000
set_option maxRecDepth 100000
namespace Go.Proofs.YtbopfhbeegkkaabGreatDoor.worldPlays
open Go.ChangeShapes Go.WideShapes Go.ChangeAt Go.RowKit
theorem own:ownKnob Tryz.prog.godebug=none:=by kernel_rfl
theorem laidOut:laidOutB Tryz.prog=true:=by kernel_rfl
theorem et:Tryz.prog.globalNamed "errors.errorType" = some 0:=by kernel_rfl
theorem rt:(Tryz.prog.cutTypes.find? (·.1 == "internal/reflectlite.rtype")).map (·.2)=some 295:=by kernel_rfl
theorem oneRow:((List.range 411).filter fun t=>Tryz.prog.rowNamed t [101,114,114,111,114])=[25]:=by kernel_rfl
theorem size:Tryz.prog.types.size=411:=by kernel_rfl
theorem zgS {W:World}(h:laidMetH Tryz.prog Rows.worldPlaysRow.laid W):za4 W:=by
 have h':laidMet Tryz.prog [] W∧handlesMet Tryz.prog Rows.worldPlaysRow.laid W:=h;obtain⟨name,u,ty,e1,e2,e3,e4,e5⟩:=h'.2 _ (yaW.2 rfl);have en:name=[101,114,114,111,114]:=(yaI e1).symm;subst en;obtain rfl:=yaI (rt.symm.trans e2);have hm:ty∈(List.range 411).filter fun t=>Tryz.prog.rowNamed t [101,114,114,111,114]:=ybs.2 ⟨ybK.2 (by rw[←size];exact e3),e4⟩
 rw[oneRow]at hm;obtain rfl:=yaW.1 hm;have hh:typeHandle Tryz.prog 25=.pointer (some ⟨10,25,none⟩):=by kernel_rfl
 rw[hh]at e5;simpa[za4]using World.var?_cell et e5 0
noncomputable def zgl(os:Os):World:=
 { World.holding Tryz.prog os ⟨#[],#[],[]⟩with heap:=(World.holding Tryz.prog os ⟨#[],#[],[]⟩).heap.modify 0 fun
    | .cells _ t frozen=>.cells #[.iface 295 (.agg #[.pointer (some ⟨10,25,none⟩)])] t frozen
    | o=>o }
theorem laid_met (os:Os) (args:Array Value):laidMetH Tryz.prog Rows.worldPlaysRow.laid ((zgl os).forCall (fun _ _=>0) ⟨#[],args,[]⟩).memory:=
 laidMetH_of_parts (laidMet_nil _ _) zK
theorem contract (H:Type) (enc:TypeId×Value→H) (W:World) (base:Nat) (args:Array Value) (ds gs:List (DataW H)) (before:List MemPlace)
  (hval:∀ (j:Nat) t v,Tryz.f8.params[j]?=some t→args[j]?=some v→Value.okWide Tryz.prog W .any base t v)
  (hW:DataW.Whole enc Tryz.prog Tryz.f8.params.toList Rows.worldPlaysSpec.vars false W args.toList ds gs before) (hL:laidMetH Tryz.prog Rows.worldPlaysRow.laid W):
  Calls Tryz.prog 8 args W fun e W'=>∃ v,e=.returned v∧Rows.worldPlaysSpec.post enc Tryz.prog Tryz.f8 false true false false W args v W':=by
 have hg:=zgS hL;have hW':=hW;obtain⟨p,q,hA0,hV,rfl,hfz,hnd⟩:=hW;have hA:DataW.TrodAll enc Tryz.prog W 0 (fun _=>true) true Tryz.f8.params.toList args.toList ds p:=hA0;rw[Tryz.params8]at hA hval;obtain⟨v0,vs0,d0,ds0,p0,q0,hargs,rfl,rfl,h0,r0⟩:=trodAll_cons hA;obtain⟨v1,vs1,d1,ds1,p1,q1,rfl,rfl,rfl,h1,r1⟩:=trodAll_cons r0;obtain⟨v2,vs2,d2,ds2,p2,q2,rfl,rfl,rfl,h2,r2⟩:=trodAll_cons r1;obtain⟨rfl,rfl,rfl⟩:=trodAll_nil r2;obtain rfl:args=#[v0,v1,v2]:=by cases args;simp_all
 obtain⟨rfl,rfl⟩:=trodVars_none hV;obtain⟨S0,rfl,rfl,rfl,_⟩:=open_int Tryz.underlying3 (hval 0 3 v0 rfl rfl) h0;obtain⟨C0,rfl,rfl,rfl,_⟩:=open_int Tryz.underlying3 (hval 1 3 v1 rfl rfl) h1;obtain⟨A,c,ls,rfl,hls,hll⟩:=zmF (hval 2 122 v2 rfl rfl) h2;refine(zgO S0 C0 A c ls W hg hls hll).mono fun e W' ⟨he,hb⟩=>?_
 subst he;exact⟨_,rfl,law_post laidOut zK rfl hW' hb rfl Tryz.underlying4 rfl rfl rfl⟩
theorem reads (os:Os){H:Type}(enc:TypeId×Value→H):DataW.whole enc Tryz.prog ((zgl os).forCall (fun _ _=>0) ⟨#[],#[.int .i64 0,.int .i64 0,.slice none 0 0],[]⟩).memory Tryz.f8.params.toList Rows.worldPlaysSpec.vars false (#[.int .i64 0,.int .i64 0,.slice none 0 0]:Array Value).toList 8=some ([.lit (.int .i64 0),.lit (.int .i64 0),.nil],[],[]):=
 by kernel_rfl
theorem lifted (os:Os) (started:os.Started) (H:Type) (enc:TypeId×Value→H) (F:Stop.Interp):
  ReturnsInHanded {} Tryz.checked os 8 .any ((OpenSpec.ofChange Rows.worldPlaysSpec).preRow enc Tryz.prog Tryz.f8 Rows.worldPlaysRow.domain false Rows.worldPlaysRow.laid) (((OpenSpec.ofChange Rows.worldPlaysSpec).at F).post enc Tryz.prog Tryz.f8 false true false false):=by
 have hx:=reads os enc;refine returnsInHanded_of_row (C:=Tryz.checked) (s:=OpenSpec.ofChange Rows.worldPlaysSpec) own started zK Tryz.func8
  (witness_row_at (enc:=enc) (C:=Tryz.checked) false (zgl os) #[.int .i64 0,.int .i64 0,.slice none 0 0] rfl zK zK zK
    (OpenSpec.preRow_of_cond 8 hx rfl (fun k hk=>by cases hk) zK (laid_met os _))) ?_
 intro W base args ds gs before hval hW _ _ _ hL _ _;exact contract H enc W base args ds gs before hval hW hL
theorem said:Rows.WorldPlaysSaid:=
 OpenClaim.holds_of_cond 8 Tryz.f8 rfl rfl rfl rfl rfl rfl rfl ⟨rfl,rfl,rfl,rfl,rfl⟩ rfl rfl rfl rfl rfl zJ Tryz.func8 zJ
  (of_decide_eq_true zJ) (by as_aux_lemma=>unfold Func.isWrapper;first|(rw[yaj (by decide +kernel)];kernel_rfl)|(rw[yad (by decide +kernel)];exact⟨rfl,rfl⟩))
  (fun os started H enc _ F=>by rw[OpenClaim.pre_eq_preRow];exact lifted os started H enc F)
theorem plain (f:FuncId) (fn:Func) (hf:Tryz.pinned.checked.prog.funcNamed "copse/copselaw.WorldPlays" = some f) (hfn:Tryz.pinned.checked.prog.funcs[f]?=some fn):
  true=Tryz.pinned.checked.prog.looks []∧∀ (j:Nat) t,fn.params[j]?=some t→Tryz.pinned.checked.prog.wantsStandIn t=false:=by
 obtain rfl:f=8:=yaI ((show Tryz.prog.funcNamed "copse/copselaw.WorldPlays" = some 8 by kernel_rfl).symm.trans hf) |>.symm
 obtain rfl:fn=Tryz.f8:=(yaI (Tryz.func8.symm.trans hfn)).symm;refine⟨by kernel_rfl,fun j t ht=>?_⟩;rw[Tryz.params8]at ht;have hall:∀ t∈[3,3,122],Tryz.prog.wantsStandIn t=false:=by
  intro t ht;simp only[ya1,List.not_mem_nil,or_false]at ht
  (rcases ht with rfl|rfl|rfl) <;> kernel_rfl
 exact hall t (by have:=Array.mem_of_getElem? ht;simpa using this)
theorem card:Rows.WorldPlaysCardSaid:=
 Claim7.holds_tied_plain_at .later [] _ _ _ _ said (fun _ h=>by cases h) zJ (fun _ h=>by cases h) worldPlays_row_tie rfl ⟨rfl,rfl⟩ zJ rfl plain zJ
end Go.Proofs.YtbopfhbeegkkaabGreatDoor.worldPlays
