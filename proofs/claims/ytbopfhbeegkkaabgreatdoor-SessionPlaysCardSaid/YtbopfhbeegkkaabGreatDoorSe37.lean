/- Part 37 of a proof: lemmas and contracts that other parts use. -/
import Derived.Test.YtbopfhbeegkkaabGreatDoorSe34
import Derived.Shelf.SlIterI.Nil
import Derived.Shelf.SortM.Plain
import Derived.Shelf.SortM.SortNone
import Derived.Test.YtbopfhbeegkkaabGreatDoorSe35
import Derived.Test.YtbopfhbeegkkaabGreatDoorSe36
set_option linter.unusedVariables false
set_option linter.unusedSimpArgs false
set_option linter.constructorNameAsVariable false
namespace Go.Proofs.YtbopfhbeegkkaabGreatDoor
open Go.RowKit Go.Maps Go.Sort Go.Shelf
def keysA_ren:Go.Shelf.Ren:=⟨fun | 7=>99 | 10=>145 | n=>n,fun | 23=>169 | 26=>3 | 3=>83 | 28=>178 | 0=>0 | 27=>177 | 33=>238 | 4=>4 | n=>n,fun | n=>n⟩
theorem keysA:Go.Proofs.SlLaysZI.n7 Tryz.prog keysA_ren:={
 mixed:=by kernel_rfl
 f7:=⟨Tryz.f99.name,by decide,Tryz.func99.trans (congrArg some (by kernel_rfl))⟩
 f10:=⟨Tryz.f145.name,by decide,Tryz.func145.trans (congrArg some (by kernel_rfl))⟩
 t0:=Tryz.underlying0
 a0:=Tryz.isAgg0
 z0:=Tryz.sizeOf0
 v0:=Tryz.zeroValue0
 t4:=Tryz.underlying4
 a4:=Tryz.isAgg4
 z4:=Tryz.sizeOf4
 v4:=Tryz.zeroValue4
 t23:=Tryz.underlying169
 a23:=Tryz.isAgg169
 z23:=Tryz.sizeOf169
 v23:=Tryz.zeroValue169
 t26:=Tryz.underlying3
 a26:=Tryz.isAgg3
 z26:=Tryz.sizeOf3
 v26:=Tryz.zeroValue3
 t27:=Tryz.underlying177
 a27:=Tryz.isAgg177
 z27:=Tryz.sizeOf177
 v27:=Tryz.zeroValue177
 t28:=Tryz.underlying178
 a28:=Tryz.isAgg178
 z28:=Tryz.sizeOf178
 v28:=Tryz.zeroValue178
 t33:=Tryz.underlying238
 a33:=Tryz.isAgg238
 z33:=Tryz.sizeOf238
 v33:=Tryz.zeroValue238 }
def sortedA_ren:Go.Shelf.Ren:=⟨fun | 6=>98 | 8=>143 | 9=>144 | 11=>180 | 13=>182 | 12=>181 | 23=>235 | 24=>236 | 14=>226 | 15=>227 | 16=>228 | 17=>229 | 18=>230 | 19=>231 | 20=>232 | 21=>233 | 22=>234 | 25=>249 | 26=>250 | 27=>251 | 28=>252 | 29=>253 | 30=>189 | 31=>278 | n=>n,fun | 26=>3 | 28=>178 | 24=>132 | 0=>0 | 3=>3 | 37=>86 | 48=>328 | 50=>330 | 4=>4 | 40=>322 | 39=>321 | 45=>275 | 5=>5 | 9=>9 | 51=>335 | 55=>339 | 57=>363 | 58=>364 | 33=>238 | n=>n,fun | n=>n⟩
theorem sortedA:Go.Proofs.SlLaysZI.n6 Tryz.prog sortedA_ren:={
 mixed:=by kernel_rfl
 f6:=⟨Tryz.f98.name,by decide,Tryz.func98.trans (congrArg some (by kernel_rfl))⟩
 f8:=⟨Tryz.f143.name,by decide,Tryz.func143.trans (congrArg some (by kernel_rfl))⟩
 f11:=⟨Tryz.f180.name,by decide,Tryz.func180.trans (congrArg some (by kernel_rfl))⟩
 t0:=Tryz.underlying0
 a0:=Tryz.isAgg0
 z0:=Tryz.sizeOf0
 v0:=Tryz.zeroValue0
 t24:=Tryz.underlying132
 a24:=Tryz.isAgg132
 z24:=Tryz.sizeOf132
 v24:=Tryz.zeroValue132
 t26:=Tryz.underlying3
 a26:=Tryz.isAgg3
 z26:=Tryz.sizeOf3
 v26:=Tryz.zeroValue3
 t28:=Tryz.underlying178
 a28:=Tryz.isAgg178
 z28:=Tryz.sizeOf178
 v28:=Tryz.zeroValue178
 i26:=by kernel_rfl }
def sortA_ren:Go.Shelf.Ren:=⟨fun | 5=>144 | 8=>182 | 7=>181 | 19=>235 | 20=>236 | 10=>226 | 11=>227 | 12=>228 | 13=>229 | 14=>230 | 15=>231 | 16=>232 | 17=>233 | 18=>234 | 30=>249 | 31=>250 | 32=>251 | 33=>252 | 34=>253 | 35=>189 | 40=>278 | n=>n,fun | 23=>132 | 25=>3 | 3=>3 | 32=>86 | 22=>132 | 0=>0 | 44=>328 | 46=>330 | 4=>4 | 36=>322 | 35=>321 | 41=>275 | 5=>5 | 9=>9 | 53=>335 | 57=>339 | 63=>363 | 64=>364 | n=>n,fun | n=>n⟩
theorem sortA:Go.Proofs.SlLaysM.n5 Tryz.prog sortA_ren:={
 mixed:=by kernel_rfl
 f5:=⟨Tryz.f144.name,by decide,Tryz.func144.trans (congrArg some (by kernel_rfl))⟩
 f7:=⟨Tryz.f181.name,by decide,Tryz.func181.trans (congrArg some (by kernel_rfl))⟩
 f8:=Tryz.func182.trans (congrArg some (by kernel_rfl))
 f10:=⟨Tryz.f226.name,by decide,Tryz.func226.trans (congrArg some (by kernel_rfl))⟩
 f11:=⟨Tryz.f227.name,by decide,Tryz.func227.trans (congrArg some (by kernel_rfl))⟩
 f12:=⟨Tryz.f228.name,by decide,Tryz.func228.trans (congrArg some (by kernel_rfl))⟩
 f13:=⟨Tryz.f229.name,by decide,Tryz.func229.trans (congrArg some (by kernel_rfl))⟩
 f14:=⟨Tryz.f230.name,by decide,Tryz.func230.trans (congrArg some (by kernel_rfl))⟩
 f15:=⟨Tryz.f231.name,by decide,Tryz.func231.trans (congrArg some (by kernel_rfl))⟩
 f16:=⟨Tryz.f232.name,by decide,Tryz.func232.trans (congrArg some (by kernel_rfl))⟩
 f17:=⟨Tryz.f233.name,by decide,Tryz.func233.trans (congrArg some (by kernel_rfl))⟩
 f18:=⟨Tryz.f234.name,by decide,Tryz.func234.trans (congrArg some (by kernel_rfl))⟩
 f19:=Tryz.func235.trans (congrArg some (by kernel_rfl))
 f20:=Tryz.func236.trans (congrArg some (by kernel_rfl))
 f30:=⟨Tryz.f249.name,by decide,Tryz.func249.trans (congrArg some (by kernel_rfl))⟩
 f31:=Tryz.func250.trans (congrArg some (by kernel_rfl))
 f32:=Tryz.func251.trans (congrArg some (by kernel_rfl))
 f33:=⟨Tryz.f252.name,by decide,Tryz.func252.trans (congrArg some (by kernel_rfl))⟩
 f34:=⟨Tryz.f253.name,by decide,Tryz.func253.trans (congrArg some (by kernel_rfl))⟩
 f35:=⟨Tryz.f189.name,by decide,Tryz.func189.trans (congrArg some (by kernel_rfl))⟩
 f40:=⟨Tryz.f278.name,by decide,Tryz.func278.trans (congrArg some (by kernel_rfl))⟩
 t0:=Tryz.underlying0
 a0:=Tryz.isAgg0
 z0:=Tryz.sizeOf0
 v0:=Tryz.zeroValue0
 t3:=Tryz.underlying3
 a3:=Tryz.isAgg3
 z3:=Tryz.sizeOf3
 v3:=Tryz.zeroValue3
 t4:=Tryz.underlying4
 a4:=Tryz.isAgg4
 z4:=Tryz.sizeOf4
 v4:=Tryz.zeroValue4
 t5:=Tryz.underlying5
 a5:=Tryz.isAgg5
 z5:=Tryz.sizeOf5
 v5:=Tryz.zeroValue5
 t9:=Tryz.underlying9
 a9:=Tryz.isAgg9
 z9:=Tryz.sizeOf9
 v9:=Tryz.zeroValue9
 t22:=Tryz.underlying132
 a22:=Tryz.isAgg132
 z22:=Tryz.sizeOf132
 v22:=Tryz.zeroValue132
 t23:=Tryz.underlying132
 a23:=Tryz.isAgg132
 z23:=Tryz.sizeOf132
 v23:=Tryz.zeroValue132
 t25:=Tryz.underlying3
 a25:=Tryz.isAgg3
 z25:=Tryz.sizeOf3
 v25:=Tryz.zeroValue3
 t32:=Tryz.underlying86
 a32:=Tryz.isAgg86
 z32:=Tryz.sizeOf86
 v32:=Tryz.zeroValue86
 t35:=Tryz.underlying321
 a35:=Tryz.isAgg321
 z35:=Tryz.sizeOf321
 v35:=Tryz.zeroValue321
 t36:=Tryz.underlying322
 a36:=Tryz.isAgg322
 z36:=Tryz.sizeOf322
 v36:=Tryz.zeroValue322
 t41:=Tryz.underlying275
 a41:=Tryz.isAgg275
 z41:=Tryz.sizeOf275
 v41:=Tryz.zeroValue275
 t44:=Tryz.underlying328
 a44:=Tryz.isAgg328
 z44:=Tryz.sizeOf328
 v44:=Tryz.zeroValue328
 t46:=Tryz.underlying330
 a46:=Tryz.isAgg330
 z46:=Tryz.sizeOf330
 v46:=Tryz.zeroValue330
 t53:=Tryz.underlying335
 a53:=Tryz.isAgg335
 z53:=Tryz.sizeOf335
 v53:=Tryz.zeroValue335
 t57:=Tryz.underlying339
 a57:=Tryz.isAgg339
 z57:=Tryz.sizeOf339
 v57:=Tryz.zeroValue339
 t63:=Tryz.underlying363
 a63:=Tryz.isAgg363
 z63:=Tryz.sizeOf363
 v63:=Tryz.zeroValue363
 t64:=Tryz.underlying364
 a64:=Tryz.isAgg364
 z64:=Tryz.sizeOf364
 v64:=Tryz.zeroValue364 }
theorem sortsA (m:Nat):AnyZI.SortsIn Tryz.prog sortedA_ren Fence.wide m:=
 ⟨fun blk off cap ss W hH hblk hsz=>callsIn_wide.2 (AnyM.slices_Sort_int sortA blk off cap ss W hH hblk hsz),
  fun p cap W=>callsIn_wide.2 (AnyM.slices_Sort_int_none sortA p cap W)⟩
theorem keys_call (mb:Option Nat) (w:World):Calls Tryz.prog 99 #[.map mb] w fun e w'=>e=.returned (.func (.func 145) #[] #[.pointer (some ⟨w.heap.size,0,none⟩)])∧w'=w.alloc (.cells #[.map mb] 169):=
 (callsIn_wide (n:=5)).1 (AnyZI.keys_in keysA Fence.wide 5 trivial rfl mb w)
set_option maxHeartbeats 1000000 in
theorem sorted_call {w:World} {b sz:Nat} {f:Int→Option WrP} (h:WpAt w b f sz) (hsz:sz≤1000) (hd:∀ k,(f k).isSome=true→0≤k∧k≤7):
  Calls Tryz.prog 98 #[.func (.func 145) #[] #[.pointer (some ⟨w.heap.size,0,none⟩)]] (w.alloc (.cells #[.map (some b)] 169)) fun e w'=>∃ v,e=.returned v∧w'.ownsRow w.heap.size 3 1 v (keys8 f).length ((keys8 f).map encZ)∧Below w.heap.size w w':=by
 obtain ⟨D,hown,hDs,hks⟩:=h.keys hd
 have hbl:=hown.lt
 have hmax:Maps.size D≤maxLen:=by rw [hDs];exact Nat.le_trans hsz (Nat.le_trans (by decide) maxLen_ge)
 have hbytes:Maps.size D*8≤140737488355328:=by rw [hDs];omega
 have hseq:SeqGives Fence.wide 2 Tryz.prog 145 #[.pointer (some ⟨w.heap.size,0,none⟩)] encZ (fun ss=>ss.Perm (intKeys D)) (Maps.size D) (w.alloc (.cells #[.map (some b)] 169)):=
  AnyZI.keys_gives (ρ:=keysA_ren) { keysA with } Fence.wide _ trivial rfl (by omega) w.heap.size b sz D _ (by simp) (by simp) (by
   obtain ⟨es,clock,hb,Ft,hs,hD⟩:=hown
   exact ⟨es,clock,(Below.heap_alloc _ _ b hbl).trans hb,Ft,hs,hD⟩)
 have cS:=AnyZI.sorted_in sortedA Fence.wide 5 trivial trivial trivial trivial rfl (by omega) (sortsA _) (enters_of Tryz.func144 (by kernel_rfl) rfl) 145 #[.pointer (some ⟨w.heap.size,0,none⟩)] trivial (enters_of Tryz.func145 (by kernel_rfl) rfl) _ _ hmax hbytes _ hseq
 change CallsIn _ _ Tryz.prog 98 _ _ _ at cS
 refine ((callsIn_wide (n:=5)).1 cS).mono ?_
 rintro e w' ⟨v,ss,rfl,hS,hrow,hnil,hb⟩
 obtain ⟨e1,e2⟩:=hks ss hS
 have hrow2:=ownsRow_base_a (base':=w.heap.size) hrow (by simp)
 have e3:ss.mergeSort (fun x y=>decide (x≤y))=keys8 f:=e1
 rw [e3,e2] at hrow2
 exact ⟨v,rfl,hrow2,((Below.refl _ w).alloc (Nat.le_refl _) _).trans (hb.mono (by simp))⟩
end Go.Proofs.YtbopfhbeegkkaabGreatDoor
namespace Go.Proofs.YtbopfhbeegkkaabGreatDoor
open Go.RowKit
theorem WpAt.look1 {w:World} {m sz:Nat} {f:Int→Option WrP} (h:WpAt w m f sz) {k:Int} (hk:wf64 k) {x:WrP} (hx:f k=some x):
  (Instr.lookup 169 (.map (some m)) (.int .i64 k) false).run Tryz.prog w=.ok x.val w:=by
 obtain ⟨D,h1,h2,h3⟩:=h
 obtain ⟨v,ps,hrun,hv⟩:=h1.lookup keyedI map169 (zero83 w) (zd:=.held wrZ.val) (zp:=[]) rfl (keyOfI hk)
 obtain ⟨e1,e2⟩:=h3 k hk
 rw [hrun]
 simp only [heldV,Option.some.injEq,Prod.mk.injEq] at hv
 have:=e2 (.held wrZ.val)
 rw [←hv.1,hx] at this
 simp only [DataW.held.injEq] at this
 rw [this]
def put10 (w:World) (u:Nat) (z0 z1 z2 z3:Int):World:=
 (((((((((w.setCell ⟨u,0,none⟩ (.int .i64 z0)).setCell ⟨u,1,none⟩ (.int .i64 z1)).setCell ⟨u,2,none⟩ (.int .i64 z2)).setCell ⟨u,3,none⟩ (.int .i64 z3)).setCell ⟨u,8,none⟩ (.bool false)).setCell ⟨u,4,none⟩ (.int .i64 0)).setCell ⟨u,5,none⟩ (.int .i64 0)).setCell ⟨u,6,none⟩ (.int .i64 0)).setCell ⟨u,7,none⟩ (.int .i64 0)).setCell ⟨u,9,none⟩ (.map none)
theorem SnAt.close {w:World} {B u:Nat} {s:SnP} {mv:Option Nat} (h:SnAt w B u s mv) (z0 z1 z2 z3:Int):
  SnAt (put10 w u z0 z1 z2 z3) B u ⟨z0,z1,z2,z3,0,0,0,0,false,fun _=>none,0⟩ none∧SiFr w (put10 w u z0 z1 z2 z3) (SnOwn u mv) (SnOwn u none):=by
 have e1:=blk_set h.blk 0 (.int .i64 z0)
 have e2:=blk_set e1 1 (.int .i64 z1)
 have e3:=blk_set e2 2 (.int .i64 z2)
 have e4:=blk_set e3 3 (.int .i64 z3)
 have e5:=blk_set e4 8 (.bool false)
 have e6:=blk_set e5 4 (.int .i64 0)
 have e7:=blk_set e6 5 (.int .i64 0)
 have e8:=blk_set e7 6 (.int .i64 0)
 have e9:=blk_set e8 7 (.int .i64 0)
 have e10:=blk_set e9 9 (.map none)
 simp only [List.setIfInBounds_toArray,List.set_cons_zero,List.set_cons_succ] at e10
 have hc:∀ (X:World) (i:Nat) (zz:Value),SiFr X (X.setCell ⟨u,i,none⟩ zz) (SnOwn u mv) (SnOwn u mv):=fun X i zz=>SiFr.setN zz
 have hfr:=((((((((((hc w 0 (.int .i64 z0)).trans (hc _ 1 (.int .i64 z1))).trans (hc _ 2 (.int .i64 z2))).trans (hc _ 3 (.int .i64 z3))).trans (hc _ 8 (.bool false))).trans (hc _ 4 (.int .i64 0))).trans (hc _ 5 (.int .i64 0))).trans (hc _ 6 (.int .i64 0))).trans (hc _ 7 (.int .i64 0))).trans (hc _ 9 (.map none)))
 refine ⟨⟨e10,fun mb e=>(by cases e),fun e=>(by cases e),h.bx⟩,hfr.less fun b hb=>?_⟩
 rcases hb with e | e
 ·exact .inl e
 ·cases e
theorem obN_close {w0 w:World} {n:Nat} {O:Nat→Ob} (h:Mem w0 w n O) {j u:Nat} (hj:j<n) {s:SnP} {mv:Option Nat} (he:O j=obN w0.heap.size u s mv) (z0 z1 z2 z3:Int):
  ∃ O',Mem w0 (put10 w u z0 z1 z2 z3) n O'∧O' j=obN w0.heap.size u ⟨z0,z1,z2,z3,0,0,0,0,false,fun _=>none,0⟩ none∧∀ k,k≠j→O' k=O k:=by
 have hat:=h.at_ j hj
 rw [he] at hat
 obtain ⟨h1,h2⟩:=SnAt.close hat z0 z1 z2 z3
 exact h.step1 hj (o:=obN w0.heap.size u ⟨z0,z1,z2,z3,0,0,0,0,false,fun _=>none,0⟩ none) (obN_ok ..) h1 (by rw [he];exact h2) (fun b e=>e.elim)
theorem obs_a {w0 X Y:World} {n:Nat} {O:Nat→Ob} (h:Mem w0 X n O) (hb:Below X.heap.size X Y) (o:Obj):∃ O',Mem w0 (Y.alloc o) (n+1) O'∧(∀ k,k<n→O' k=O k)∧O' n=obB Y.heap.size o w0.heap.size:=(h.below hb).new1 o
theorem obs_b {w0 X Y:World} {n:Nat} {O:Nat→Ob} (h:Mem w0 X n O) (o:Obj) (hb:Below (X.alloc o).heap.size (X.alloc o) Y):∃ O',Mem w0 Y (n+1) O'∧(∀ k,k<n→O' k=O k)∧O' n=obB X.heap.size o w0.heap.size:=by
 obtain ⟨O',h1,h2,h3⟩:=h.new1 o
 exact ⟨O',h1.below hb,h2,h3⟩
set_option maxRecDepth 20000 in
set_option maxHeartbeats 8000000 in
theorem sCommit_shut {w:World} {B u x:Nat} {s:SnP} {mv:Option Nat} (h:SnAt w B u s mv) (now:Int) (ho:s.op=false):
  Calls Tryz.prog 45 #[.pointer (some ⟨u,0,none⟩),.pointer (some ⟨x,0,none⟩),.int .i64 now] w fun e w'=>e=.returned (.tuple #[txZero,.iface 29 (.int .i64 6)])∧Below w.heap.size w w':=by
 obtain ⟨q0,q1,q2,q3,n0,n1,n2,n3,op,m,mn⟩:=s
 simp only at ho
 subst ho
 have hb:=h.blk
 simp only at hb
 have c8:=cell_blk hb 8
 simp only [zC,zD,zE] at c8
 haveI:SzGe (u+1) w:=⟨lt_blk hb⟩
 clear h hb
 go_enter Tryz.func45,Tryz.ntmps45
 go_wp2_with fail
 refine bodyPost_ret (v:=.tuple #[txZero,.iface 29 (.int .i64 6)]) ?_ rfl ⟨rfl,?_⟩
 ·simp [results,Tryz.results45,go_sem,txZero]
 ·exact (by repeat (first | exact Below.refl _ _ | refine blw_alloc ?_ | refine blw_plus ?_ | refine Below.drew ?_))
set_option maxRecDepth 20000 in
set_option maxHeartbeats 8000000 in
theorem sCommit_none {w0 w:World} {n:Nat} {O:Nat→Ob} (h:Mem w0 w n O) {j x u:Nat} {d:SdP} (hj:j<n) (hd:SneA w0.heap.size u d (O j)) (now:Int) (ho:d.op=true) (hl:dCommitL d=[]):
  Calls Tryz.prog 45 #[.pointer (some ⟨u,0,none⟩),.pointer (some ⟨x,0,none⟩),.int .i64 now] w fun e w'=>e=.returned (.tuple #[txZero,.nilIface])∧
   ∃ O',Mem w0 w' n O'∧SneA w0.heap.size u (sdAbort d) (O' j)∧∀ k,k<n→k≠j→O' k=O k:=by
 have hl':allW d.W 8=[]:=hl
 obtain ⟨s,mv,hou,hsA⟩:=id hd
 have hSn:SnAt w w0.heap.size u s mv:=by have:=h.at_ j hj;rw [hou] at this;exact this
 have hsop:s.op=true:=by rw [hsA.rep.op];exact ho
 obtain ⟨mb,rfl⟩:∃ mb,mv=some mb:=by
  cases mv with
  | none=>exact absurd rfl (hSn.opn hsop)
  | some mb=>exact ⟨mb,rfl⟩
 have HKA:=hidp (keys8_all hsA hsop)
 have HKL:=hidp (keys8_len hsA hsop)
 have HDM:=hidp (hsA.dom hsop)
 have hq:=hsA.rep.q
 have hn:=hsA.rep.n
 have hmn:=hsA.rep.mn hsop
 have hll:=allW_len d.W 8
 have HSA:=hidp hsA
 obtain ⟨q0,q1,q2,q3,n0,n1,n2,n3,op,m,mn⟩:=s
 obtain ⟨q0',q1',q2',q3',n0',n1',n2',n3',op',W⟩:=d
 simp only at hsop ho hq hn hmn hll
 obtain ⟨rfl,rfl,rfl,rfl⟩:=hq
 obtain ⟨rfl,rfl,rfl,rfl⟩:=hn
 subst hsop ho
 have hb:=hSn.blk
 simp only at hb
 have hmp:=(hSn.mp mb rfl).1
 simp only at hmp
 have c0:=cell_blk hb 0;have c1:=cell_blk hb 1;have c2:=cell_blk hb 2;have c3:=cell_blk hb 3;have c4:=cell_blk hb 4;have c5:=cell_blk hb 5;have c6:=cell_blk hb 6;have c7:=cell_blk hb 7;have c8:=cell_blk hb 8;have c9:=cell_blk hb 9
 simp only [zC,zD,zE] at c0 c1 c2 c3 c4 c5 c6 c7 c8 c9
 haveI:SzGe (u+1) w:=⟨lt_blk hb⟩
 have HM:=hidp h
 have HOU:=hidp hou
 have HBK:=hidp hb
 have HLB:=hidp (lt_blk hb)
 have HMP:=hidp hmp
 have HMX:=hidp fun X=>vMax_any q0 q1 q2 q3 n0 n1 n2 n3 X
 have HJ:=hidp hj
 have hmn0:mn=0:=by rw [hmn,show allW W 8=[] from hl'];rfl
 subst hmn0
 clear h hd hou hb hSn hsA hmp hl hl' hmn hll hj
 go_enter Tryz.func45,Tryz.ntmps45
 go_upto_region 3 with fail
 obtain ⟨O1,hm1,ho1,hn1⟩:=HM.out.new1 t9
 have HM1:=hidp hm1
 have HO1:=hidp ho1
 have HN1:=hidp hn1
 clear hm1 ho1 hn1
 go_cut [8] (fun s8 Y=>∃ b8,s8=.pointer (some ⟨b8,0,none⟩)∧∃ O2,Mem w0 Y (n+2) O2∧(∀ k,k<n→O2 k=O k)∧O2 n=obB w.heap.size t9 w0.heap.size∧O2 (n+1)=obB b8 (.cells #[.int .i64 (max q0 n0),.int .i64 (max q1 n1),.int .i64 (max q2 n2),.int .i64 (max q3 n3)] 32) w0.heap.size∧Below w.heap.size w Y)
 case first=>
  go_region_with (
   go_at_call 87
   refine (HMX.out _).mono ?_
   rintro e w3 ⟨rfl,hb3⟩
   obtain ⟨x3,rfl⟩:=wplus_of_below hb3
   clear hb3)
  all_goals
   go_wp2_with fail
   go_meet
   first
    | (obtain ⟨O2,k1,k2,k3⟩:=obs_a HM1.out (show Below (w.alloc t9).heap.size (w.alloc t9) (wplus (w.alloc t9).drew x3) from blw_plus (Below.drew (Below.refl _ _))) (.cells #[.int .i64 (max q0 n0),.int .i64 (max q1 n1),.int .i64 (max q2 n2),.int .i64 (max q3 n3)] 32)
       refine ⟨_,rfl,O2,k1,fun k hk=>(k2 k (by omega)).trans (HO1.out k hk),(k2 n (by omega)).trans HN1.out,?_,?_⟩
       ·rw [k3];simp
       ·exact blw_alloc (blw_plus (Below.drew (blw_alloc (Below.refl _ _)))))
    | (obtain ⟨O2,k1,k2,k3⟩:=obs_b HM1.out (.cells #[.int .i64 (max q0 n0),.int .i64 (max q1 n1),.int .i64 (max q2 n2),.int .i64 (max q3 n3)] 32) (show Below ((w.alloc t9).alloc (.cells #[.int .i64 (max q0 n0),.int .i64 (max q1 n1),.int .i64 (max q2 n2),.int .i64 (max q3 n3)] 32)).heap.size ((w.alloc t9).alloc (.cells #[.int .i64 (max q0 n0),.int .i64 (max q1 n1),.int .i64 (max q2 n2),.int .i64 (max q3 n3)] 32)) (wplus ((w.alloc t9).alloc (.cells #[.int .i64 (max q0 n0),.int .i64 (max q1 n1),.int .i64 (max q2 n2),.int .i64 (max q3 n3)] 32)).drew x3) from blw_plus (Below.drew (Below.refl _ _)))
       refine ⟨_,rfl,O2,k1,fun k hk=>(k2 k (by omega)).trans (HO1.out k hk),(k2 n (by omega)).trans HN1.out,?_,?_⟩
       ·rw [k3];simp
       ·exact blw_plus (Below.drew (blw_alloc (blw_alloc (Below.refl _ _)))))
    | fail
 case rest=>
  obtain ⟨b8,rfl,O2,hm2,ho2,hA2,hC2,hb2⟩:=hcut
  have HM2:=hidp hm2
  have HO2:=hidp ho2
  have HA2:=hidp hA2
  have HC2:=hidp hC2
  have HB2:=hidp hb2
  clear hm2 ho2 hA2 hC2 hb2 HM1 HO1 HN1 HMX c0 c1 c2 c3 c4 c5 c6 c7 c8 c9
  have hat:=HM2.out.at_ j (by have:=HJ.out;omega)
  rw [HO2.out j HJ.out,HOU.out] at hat
  have HSN:=hidp (show SnAt wc w0.heap.size u _ (some mb) from hat)
  have hbk:=HSN.out.blk
  have hmp:=(HSN.out.mp mb rfl).1
  simp only at hbk hmp
  have HMP:=hidp hmp
  have hlen:=(hmp.below (show Below wc.heap.size wc (wc.alloc t9) from blw_alloc (Below.refl _ _))).len 3
  unfold t9 at hlen
  have hx8:=HM2.out.box (i:=n+1) (by omega) HC2.out
  have hx6:=HM2.out.box (i:=n) (by omega) HA2.out
  unfold t9 at hx6
  have c0:=cell_blk hbk 0;have c1:=cell_blk hbk 1;have c2:=cell_blk hbk 2;have c3:=cell_blk hbk 3;have c4:=cell_blk hbk 4;have c5:=cell_blk hbk 5;have c6:=cell_blk hbk 6;have c7:=cell_blk hbk 7;have c8:=cell_blk hbk 8;have c9:=cell_blk hbk 9
  simp only [zC,zD,zE] at c0 c1 c2 c3 c4 c5 c6 c7 c8 c9
  have z0:=frozen_blk hbk 0;have z1:=frozen_blk hbk 1;have z2:=frozen_blk hbk 2;have z3:=frozen_blk hbk 3;have z4:=frozen_blk hbk 4;have z5:=frozen_blk hbk 5;have z6:=frozen_blk hbk 6;have z7:=frozen_blk hbk 7;have z8:=frozen_blk hbk 8;have z9:=frozen_blk hbk 9
  have y0:=cell_blk hx8 0;have y1:=cell_blk hx8 1;have y2:=cell_blk hx8 2;have y3:=cell_blk hx8 3
  simp only [zC,zD,zE] at y0 y1 y2 y3
  have f0:=frozen_blk hx8 0;have f1:=frozen_blk hx8 1;have f2:=frozen_blk hx8 2;have f3:=frozen_blk hx8 3
  have r0:=frozen_blk hx6 0;have r1:=frozen_blk hx6 1;have r2:=frozen_blk hx6 2;have r3:=frozen_blk hx6 3;have r4:=frozen_blk hx6 4;have r5:=frozen_blk hx6 5;have r6:=frozen_blk hx6 6;have r7:=frozen_blk hx6 7;have r8:=frozen_blk hx6 8
  have s0:=cell_blk hx6 0;have s1:=cell_blk hx6 1;have s2:=cell_blk hx6 2;have s3:=cell_blk hx6 3;have s4:=cell_blk hx6 4;have s5:=cell_blk hx6 5;have s6:=cell_blk hx6 6;have s7:=cell_blk hx6 7;have s8:=cell_blk hx6 8
  simp only [zC,zD,zE] at s0 s1 s2 s3 s4 s5 s6 s7 s8
  have HX8c:=hidp hx8
  have HX6c:=hidp hx6
  have hluc:=lt_blk hbk
  haveI:SzGe (u+1) wc:=⟨lt_blk hbk⟩
  haveI:SzGe (w.heap.size+1) wc:=⟨lt_blk hx6⟩
  haveI:SzGe (b8+1) wc:=⟨lt_blk hx8⟩
  have hn8u:¬(b8=u):=fun e=>(HM2.out.dis j (n+1) (by have:=HJ.out;omega) (by omega) (by have:=HJ.out;omega) u (by rw [HO2.out j HJ.out,HOU.out];exact .inl rfl)).1 (by rw [HC2.out];exact e.symm)
  have hn8u':¬(u=b8):=fun e=>hn8u e.symm
  have hn86:¬(b8=w.heap.size):=fun e=>(HM2.out.dis n (n+1) (by omega) (by omega) (by omega) w.heap.size (by rw [HA2.out];exact rfl)).1 (by rw [HC2.out];exact e.symm)
  have hn86':¬(w.heap.size=b8):=fun e=>hn86 e.symm
  have hn6:¬(w.heap.size=u):=fun e=>by have:=HLB.out;omega
  have hn6':¬(u=w.heap.size):=fun e=>hn6 e.symm
  clear hat hbk hmp hx8 hx6
  go_wp2_with fail
  refine bodyPost_ret (v:=.tuple #[txZero,.nilIface]) ?r1 rfl ⟨?e1,?e2⟩
  case r1=>simp [results,Tryz.results45,go_sem,txZero, *]
  case e1=>exact rfl
  case e2=>
   obtain ⟨O3,k1,k2,k3⟩:=obN_close HM2.out (j:=j) (by have:=HJ.out;omega) ((HO2.out j HJ.out).trans HOU.out) (max q0 n0) (max q1 n1) (max q2 n2) (max q3 n3)
   obtain ⟨O4,l1,l2,l3⟩:=k1.fill9' (i:=n) (by omega) ((k3 n (by have:=HJ.out;omega)).trans HA2.out) (.int .i64 0) (.int .i64 0) (.int .i64 0) (.int .i64 0) (.int .i64 0) (.int .i64 0) (.int .i64 0) (.int .i64 0) (.slice none 0 0)
   have l4:=(l1.below (w':=(put9 _ _ _ _ _ _ _ _ _ _ _).alloc t9) (blw_alloc (Below.refl _ _))).less (show n≤n+2 by omega)
   unfold put9 put10 t9 at l4
   exact ⟨O4,l4,⟨_,none,(l3 j (by have:=HJ.out;omega)).trans k2,HSA.out.abort⟩,fun k hk hne=>(l3 k (by omega)).trans ((k3 k hne).trans (HO2.out k hk))⟩
end Go.Proofs.YtbopfhbeegkkaabGreatDoor
