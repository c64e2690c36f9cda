/- Part 6 of a proof: lemmas and contracts that other parts use. -/
import Derived.Test.YtbopfhbeegkkaabGreatDoorSe5
import Derived.Deep.RegionLaw
import Derived.Laws.Externs
set_option linter.unusedVariables false
set_option linter.unusedSimpArgs false
set_option linter.constructorNameAsVariable false
namespace Go.Proofs.YtbopfhbeegkkaabGreatDoor
open Go.RowKit
theorem size71 (w:World):(sizeOf 59).run Tryz.prog w=.ok 6 w:=by kernel_rfl
theorem sz71:(Tryz.prog.info? 59).map (·.size)=some 6:=by
 obtain ⟨i,hi,_,h,_⟩:=info71x
 rw [hi];simp [h]
theorem overlaps_no (w:World) (ab g o lb cb:Nat) (tA tB:TypeId) (csA csB:Array Value) (hA:w.heap[ab]?=some (.cells csA tA)) (hB:w.heap[g]?=some (.cells csB tB)) (hne:ab≠g) (hs:csB.size≠0):
  (callFunc 224 #[.slice (some ⟨ab,0,none⟩) 1 1,.slice (some ⟨g,o,none⟩) lb cb]).run Tryz.prog w=.ok (.value (.bool false)) w:=by
 rw [run_callFunc_extern Tryz.func224 (by kernel_rfl) (by kernel_rfl) (by kernel_rfl) (e:=Extern.SlicesOverlaps.overlaps #[142,142] #[4]) (by kernel_rfl),
  Lib.run_overlaps_apart w 142 4 59 Tryz.underlying142 6 size71 ⟨ab,0,none⟩ ⟨g,o,none⟩ 1 1 lb cb hne tA tB csA.size csB.size (by simp [World.shape?,hA]) (by simp [World.shape?,hB]) hs (frozen_blk hA 0) (frozen_blk hA _)]
 rfl
theorem step_copyK {P:Program} {ops:Array Oper} {o:Oper} {a:Act} {w:World} {K:Act→World→Prop} {Q:Exit→Act→World→Prop} {E:Prop}
  (hg:o.guard=none) (d x:Operand) (dT sT:TypeId) (hop:o.op=Op.call { callee:=Callee.builtin Builtin.copy,args:=#[d,x],argTypes:=#[dT,sT] })
  (v u:Value) (hd:a.eval d=v) (hx:a.eval x=u) {v':Value} {w':World} (hr:(Builtin.copy_ #[dT,sT] o.type #[v,u]).run P w=.ok v' w') (hK:K (a.put o.dst v') w'):
  if Region.wanted o (yielded ops a.tmps)=true then Oper.wp P o a w K Q else E:=by
 have hw:Region.wanted o (yielded ops a.tmps)=true:=by simp [Region.wanted,hg]
 rw [if_pos hw]
 unfold Oper.wp execOp
 simp only [hop,resolve,invoke,builtin,Sem.run_bind,Sem.run_pure,Result.andThen_ok,List.map_toArray,List.map_cons,List.map_nil,hd,hx,hr]
 exact hK
theorem grown_row (w:World) (g:Nat) (cs:Array Value):w.grownBy (w.setRow g cs) (some g):=
 ⟨rfl,rfl,rfl,by simp,fun k _ hne=>setRow_other w g k cs (fun e=>hne (by rw [e]))⟩
theorem ins_list {α:Type} (cl news:List α) (a m k:Nat) (ham:a≤m) (hl:m+k≤cl.length) (hk:news.length=k):
  let l1:=cl.take (a+k)++(cl.take m).drop a++cl.drop (a+k+(m-a))
  ((l1.take a++news++l1.drop (a+k)).take (m+k)=(cl.take m).take a++news++(cl.take m).drop a)∧(l1.take a++news++l1.drop (a+k)).length=cl.length∧l1.length=cl.length:=by
 intro l1
 have hq:((cl.take m).drop a).length=m-a:=by simp;omega
 have hl1:l1.length=cl.length:=by simp only [l1,List.length_append,hq,List.length_take,List.length_drop];omega
 have h1:l1.take a=cl.take a:=by
  simp only [l1,List.append_assoc]
  rw [List.take_append_of_le_length (by simp;omega),List.take_take];congr 1;omega
 have h2:l1.drop (a+k)=(cl.take m).drop a++cl.drop (a+k+(m-a)):=by
  simp only [l1,List.append_assoc]
  exact List.drop_left' (by simp;omega)
 have h3:(cl.take m).take a=cl.take a:=by rw [List.take_take];congr 1;omega
 refine ⟨?_,?_,hl1⟩
 ·rw [h1,h2,h3,←List.append_assoc]
  exact List.take_left' (by simp only [List.length_append,hq,hk,List.length_take];omega)
 ·rw [h1,List.length_append,List.length_append,hk,List.length_drop,hl1,List.length_take];omega
set_option maxRecDepth 20000 in
set_option maxHeartbeats 4000000 in
theorem insert_room (B:Nat) (g n i cap:Nat) (cur:Array Value) (xs:List Value) (u0 u1 u2 u3 u4 u5:Value) (ab:Nat) (w:World) (hg:w.heap[g]?=some (.cells cur 59)) (hBg:B≤g) (hcur:cur.size=cap*6) (htake:cur.toList.take (n*6)=xs)
  (hi:i<n) (hroom:n+1≤cap) (hcm:cap≤9223372036854775807) (hab:w.heap[ab]?=some (.cells #[u0,u1,u2,u3,u4,u5] 59)) (hne:ab≠g) (h1:∀ u∈[u0,u1,u2,u3,u4,u5],u.oneCell'=true) (hx1:∀ u∈xs,u.oneCell'=true):
  Calls Tryz.prog 178 #[.slice (some ⟨g,0,none⟩) n cap,.int .i64 i,.slice (some ⟨ab,0,none⟩) 1 1] w (InsPost B (.slice (some ⟨g,0,none⟩) n cap) n (xs.take (i*6)++[u0,u1,u2,u3,u4,u5]++xs.drop (i*6)) w):=by
 have hov:=fun o lb cb=>overlaps_no w ab g o lb cb 59 59 _ cur hab hg hne (by omega)
 have HG:=hidp hg
 have HA:=hidp hab
 have HT:=hidp htake
 have H1:=hidp h1
 have HX:=hidp hx1
 have hci:¬(cap=i):=by omega
 have hci1:¬(cap=i+1):=by omega
 clear hg hab htake h1 hx1
 go_enter Tryz.func178,Tryz.ntmps178
 go_wp2
 obtain ⟨cur1,hc1⟩:∃ cur1,(cur.toList.take ((i+1)*6)++xs.drop (i*6)++cur.toList.drop ((i+1)*6+(xs.drop (i*6)).length)).toArray=cur1:=⟨_,rfl⟩
 have hxl:xs.length=n*6:=by rw [←HT.out,List.length_take,Array.length_toList,hcur];omega
 have hdl:(xs.drop (i*6)).length=(n-i)*6:=by rw [List.length_drop,hxl];omega
 have hcell:∀ (j:Nat) (v:Value),(xs.drop (i*6))[j]?=some v→w.drew.cell? ((⟨g,i*6,none⟩:Addr).add j)=some v:=fun j v hj=>by
  have e:(⟨g,i*6,none⟩:Addr).add j=⟨g,i*6+j,none⟩:=by unfold Addr.add;split <;> simp_all
  rw [e]
  show w.cell? _=_
  rw [cell_blk HG.out,List.getElem?_drop] at *
  rw [←HT.out,List.getElem?_take] at hj
  split at hj
  ·rw [←Array.getElem?_toList];exact hj
  ·cases hj
 have hcp:∀ ty o dL dC s sL sC,o=(i+1)*6→s=i*6→Nat.min sL dL=n-i→(Builtin.copy_ #[142,142] ty #[.slice (some ⟨g,o,none⟩) dL dC,.slice (some ⟨g,s,none⟩) sL sC]).run Tryz.prog w.drew=.ok (goInt ((n-i:Nat):Int)) (w.drew.setRow g cur1):=by
  rintro ty o dL dC s sL sC rfl rfl hm
  rw [←hc1]
  exact run_copy_rowK w.drew 142 142 ty 59 g ((i+1)*6) dL dC ⟨g,i*6,none⟩ sL sC 6 (n-i) cur 59 (xs.drop (i*6)) Tryz.underlying142 sz71 HG.out hm hdl hcell (by rw [hdl,hcur];omega) (fun u hu=>HX.out u (List.mem_of_mem_drop hu))
 have HCP:=hidp hcp
 have HC1:=hidp hc1
 have HDL:=hidp hdl
 clear hcell hc1 hcp hdl
 have hw1:IntKind.i64.wrap ((i:Int)+1)=(i:Int)+1:=by rw [IntKind.wrap_i64];omega
 have hb1:(0:Int)≤(i:Int)+1:=by omega
 have htn:((i:Int)+1).toNat=i+1:=by omega
 have hb3:(i:Int)+1≤(n:Int)+1:=by omega
 have hb5:(i:Int)≤(n:Int)+1:=by omega
 go_region_law (refine step_copyK rfl (.tmp 73) (.tmp 76) 142 142 rfl (.slice (some ⟨g,(i+1)*6,none⟩) (n+1-(i+1)) (cap-(i+1))) (.slice (some ⟨g,i*6,none⟩) (n+1-i) (cap-i)) (by simp [Act.eval,Act.put]) (by simp [Act.eval,Act.put]) (HCP.out 3 _ _ _ _ _ _ rfl rfl (by simp only [Nat.min_def];split <;> omega)) ?_)
 have hcl1:cur1.toList=cur.toList.take (i*6+6)++(cur.toList.take (n*6)).drop (i*6)++cur.toList.drop (i*6+6+(n*6-i*6)):=by
  rw [←HC1.out,HDL.out,HT.out]
  simp only [List.toList_toArray]
  rw [show (i+1)*6=i*6+6 by omega,show (n-i)*6=n*6-i*6 by omega]
 have hil:=ins_list cur.toList [u0,u1,u2,u3,u4,u5] (i*6) (n*6) 6 (by omega) (by rw [Array.length_toList,hcur];omega) rfl
 simp only at hil
 rw [←hcl1,HT.out] at hil
 obtain ⟨hi1,hi2,hi3⟩:=hil
 have hg1:(w.drew.setRow g cur1).heap[g]?=some (.cells cur1 59):=setRow_heap _ _ _ _ _ _ HG.out
 have hsz1:cur1.size=cap*6:=by rw [←Array.length_toList,hi3,Array.length_toList,hcur]
 have hab1:(w.drew.setRow g cur1).heap[ab]?=some (.cells #[u0,u1,u2,u3,u4,u5] 59):=(setRow_other _ _ _ _ hne).trans HA.out
 obtain ⟨cur2,hc2⟩:∃ cur2,(cur1.toList.take (i*6)++[u0,u1,u2,u3,u4,u5]++cur1.toList.drop (i*6+[u0,u1,u2,u3,u4,u5].length)).toArray=cur2:=⟨_,rfl⟩
 have hcp2:∀ ty dL dC sL sC,Nat.min sL dL=1→(Builtin.copy_ #[142,142] ty #[.slice (some ⟨g,i*6,none⟩) dL dC,.slice (some ⟨ab,0,none⟩) sL sC]).run Tryz.prog (w.drew.setRow g cur1)=.ok (goInt ((1:Nat):Int)) ((w.drew.setRow g cur1).setRow g cur2):=by
  intro ty dL dC sL sC hm
  rw [←hc2]
  exact run_copy_rowK _ 142 142 ty 59 g (i*6) dL dC ⟨ab,0,none⟩ sL sC 6 1 cur1 59 [u0,u1,u2,u3,u4,u5] Tryz.underlying142 sz71 hg1 hm rfl (cells6 hab1) (by rw [hsz1];simp;omega) H1.out
 have HCP2:=hidp hcp2
 have HP:Hid (InsPost B (.slice (some ⟨g,0,none⟩) n cap) n (xs.take (i*6)++[u0,u1,u2,u3,u4,u5]++xs.drop (i*6)) w (.returned (.slice (some ⟨g,0,none⟩) (n+1) cap)) ((w.drew.setRow g cur1).setRow g cur2)):=hidp (by
  refine ⟨_,rfl,⟨?_,.inr ⟨g,cap,cur2,rfl,hBg,setRow_heap _ _ _ _ _ _ hg1,hroom,by simpa [maxLen] using hcm,?_,?_⟩⟩,?_,.inl rfl⟩
  ·simp only [List.length_append,List.length_take,List.length_drop,List.length_cons,List.length_nil,hxl];omega
  ·rw [←hc2,←hcur,←Array.length_toList,←Array.length_toList (xs:=cur)]
   simpa using hi2
  ·rw [←hc2]
   have e:(n+1)*6=n*6+6:=by omega
   rw [e]
   simpa using hi1
  ·have hd:w.grownBy w.drew (some g):=⟨rfl,rfl,rfl,Nat.le_refl _,fun _ _ _=>rfl⟩
   exact grownBy_trans' (grownBy_trans' hd (grown_row w.drew g cur1) (.inl rfl)) (grown_row _ g cur2) (.inl rfl))
 clear hcl1 hi1 hi2 hi3 hg1 hsz1 hab1 hc2 hcp2 HC1 HDL HCP hxl
 all_goals
  go_wp2_with fail
  rw [HCP2.out 3 (n+1-i) (cap-i) 1 1 (by simp only [Nat.min_def];split <;> omega)]
  go_wp2
  go_ret
  exact HP.out
theorem ins_list2 {α:Type} (cl news q:List α) (a k:Nat) (hl:a+k+q.length≤cl.length) (hk:news.length=k):
  let l1:=cl.take a++news++cl.drop (a+k)
  ((l1.take (a+k)++q++l1.drop (a+k+q.length)).take (a+k+q.length)=cl.take a++news++q)∧(l1.take (a+k)++q++l1.drop (a+k+q.length)).length=cl.length∧l1.length=cl.length:=by
 intro l1
 have hl1:l1.length=cl.length:=by simp only [l1,List.length_append,List.length_take,List.length_drop,hk];omega
 have h1:l1.take (a+k)=cl.take a++news:=List.take_left' (by simp only [List.length_append,List.length_take,hk];omega)
 refine ⟨?_,?_,hl1⟩
 ·rw [h1]
  exact List.take_left' (by simp only [List.length_append,List.length_take,hk];omega)
 ·rw [h1];simp only [List.length_append,List.length_take,List.length_drop,hk,hl1];omega
set_option maxRecDepth 20000 in
set_option maxHeartbeats 8000000 in
theorem insert_grow (B:Nat) (g n i:Nat) (cur:Array Value) (xs:List Value) (u0 u1 u2 u3 u4 u5:Value) (ab:Nat) (w:World) (hg:w.heap[g]?=some (.cells cur 59)) (hB:B≤w.heap.size) (hcur:cur.size=n*6) (htake:cur.toList.take (n*6)=xs)
  (hi:i<n) (hn:n≤1000000) (hab:w.heap[ab]?=some (.cells #[u0,u1,u2,u3,u4,u5] 59)) (h1:∀ u∈[u0,u1,u2,u3,u4,u5],u.oneCell'=true) (hx1:∀ u∈xs,u.oneCell'=true):
  Calls Tryz.prog 178 #[.slice (some ⟨g,0,none⟩) n n,.int .i64 i,.slice (some ⟨ab,0,none⟩) 1 1] w (InsPost B (.slice (some ⟨g,0,none⟩) n n) n (xs.take (i*6)++[u0,u1,u2,u3,u4,u5]++xs.drop (i*6)) w):=by
 obtain ⟨i0,hi0,hz0,hz1,hz2⟩:=info71x
 have hltg:=lt_blk hg
 have hlta:=lt_blk hab
 have hxs:cur.toList=xs:=by rw [←htake,List.take_of_length_le (by rw [Array.length_toList,hcur];exact Nat.le_refl _)]
 have hxl:xs.length=n*6:=by rw [←hxs,Array.length_toList,hcur]
 obtain ⟨G,hG⟩:∃ G,grownCap w (n+1) n 59=G:=⟨_,rfl⟩
 have hge:n+1≤G:=by rw [←hG];exact grownCap_ge w (n+1) n 59
 have hGm:G≤maxLen:=by rw [←hG];exact grownCap_le_maxLen w (n+1) n 59 (Nat.le_trans (by omega) maxLen_ge)
 obtain ⟨zs,hzs,hzl⟩:∃ zs:List Value,(Builtin.zeroCells (Value.agg #[.int .i64 0,.int .i64 0,.int .i64 0,.int .i64 0,.string ⟨#[]⟩,.bool false]).cells (n+1-i)++Builtin.zeroCells (Value.agg #[.int .i64 0,.int .i64 0,.int .i64 0,.int .i64 0,.string ⟨#[]⟩,.bool false]).cells (G-(n+1))).toList=zs∧zs.length=(G-i)*6:=⟨_,rfl,by
  have h6:(Value.agg #[.int .i64 0,.int .i64 0,.int .i64 0,.int .i64 0,.string ⟨#[]⟩,.bool false]).cells.size=6:=rfl
  simp only [Array.length_toList,Array.size_append,size_zeroCells,h6];omega⟩
 obtain ⟨c0,hc0⟩:∃ c0:Array Value,(xs.take (i*6)++zs).toArray=c0:=⟨_,rfl⟩
 have hsrc:∀ (o:Nat) (W:World),W.heap[g]?=some (.cells cur 59)→∀ (j:Nat) (v:Value),(xs.drop o)[j]?=some v→W.cell? ((⟨g,o,none⟩:Addr).add j)=some v:=fun o W hW j v hj=>by
  have e:(⟨g,o,none⟩:Addr).add j=⟨g,o+j,none⟩:=by unfold Addr.add;split <;> simp_all
  rw [e,cell_blk hW,←Array.getElem?_toList,hxs]
  rwa [List.getElem?_drop] at hj
 have hap:∀ ty,(Builtin.append_ #[142,3] ty #[.slice (some ⟨g,0,none⟩) i n,.int .i64 ((n:Int)+1-(i:Int))]).run Tryz.prog w=.ok (.slice (some ⟨w.heap.size,0,none⟩) (n+1) G) (w.drew.alloc (.cells c0 59)):=by
  intro ty
  have e:((n:Int)+1-(i:Int))=((n+1-i:Nat):Int):=by omega
  have hold:(Builtin.firstCells i0.size i (.slice (some ⟨g,0,none⟩) i n)).run Tryz.prog w.drew=.ok (xs.take (i*6)).toArray w.drew:=by
   have hl:(xs.take (i*6)).length=i*6:=by rw [List.length_take,hxl];omega
   have:=run_loadCells_list (P:=Tryz.prog) w.drew ⟨g,0,none⟩ (xs.take (i*6)) (fun j v hj=>by
    rw [List.getElem?_take] at hj
    split at hj
    ·have:=hsrc 0 w.drew hg j v (by rwa [List.drop_zero]);exact this
    ·cases hj)
   rw [hl] at this
   simp only [Builtin.firstCells,hz1]
   exact this
  have hr:=Go.Lib.run_append_grow_zeros (P:=Tryz.prog) w 142 3 ty 59 i0 (.agg #[.int .i64 0,.int .i64 0,.int .i64 0,.int .i64 0,.string ⟨#[]⟩,.bool false]) .i64 .i64 Tryz.underlying142 Tryz.underlying3 hi0 hz0 (some ⟨g,0,none⟩) i n (xs.take (i*6)) hold (n+1-i) (by omega) (by omega) (by omega) (by omega) (by rw [hz2];omega)
   (growslice_fits (by omega) (by rw [hz2];omega))
  rw [e,hr]
  have e2:i+(n+1-i)=n+1:=by omega
  rw [e2,hG]
  congr 3
  rw [←hc0,←hzs]
  apply Array.toList_inj.1
  simp
 have hc0l:c0.toList=xs.take (i*6)++zs:=by rw [←hc0]
 have hc0s:c0.toList.length=G*6:=by rw [hc0l,List.length_append,List.length_take,hxl,hzl];omega
 have hgW:(w.drew.alloc (.cells c0 59)).heap[g]?=some (.cells cur 59):=by rw [heap_alloc,if_neg (by show ¬g=w.heap.size;omega)];exact hg
 have haW:(w.drew.alloc (.cells c0 59)).heap[ab]?=some (.cells #[u0,u1,u2,u3,u4,u5] 59):=by rw [heap_alloc,if_neg (by show ¬ab=w.heap.size;omega)];exact hab
 have hhW:(w.drew.alloc (.cells c0 59)).heap[w.heap.size]?=some (.cells c0 59):=by rw [heap_alloc,if_pos (show w.heap.size=w.drew.heap.size from rfl)]
 obtain ⟨c1,hc1⟩:∃ c1:Array Value,(c0.toList.take (i*6)++[u0,u1,u2,u3,u4,u5]++c0.toList.drop (i*6+[u0,u1,u2,u3,u4,u5].length)).toArray=c1:=⟨_,rfl⟩
 have hcpA:∀ ty dL dC sL sC,Nat.min sL dL=1→(Builtin.copy_ #[142,142] ty #[.slice (some ⟨w.heap.size,i*6,none⟩) dL dC,.slice (some ⟨ab,0,none⟩) sL sC]).run Tryz.prog (w.drew.alloc (.cells c0 59))=.ok (goInt ((1:Nat):Int)) ((w.drew.alloc (.cells c0 59)).setRow w.heap.size c1):=by
  intro ty dL dC sL sC hm
  rw [←hc1]
  exact run_copy_rowK _ 142 142 ty 59 w.heap.size (i*6) dL dC ⟨ab,0,none⟩ sL sC 6 1 c0 59 [u0,u1,u2,u3,u4,u5] Tryz.underlying142 sz71 hhW hm rfl (cells6 haW) (by rw [←Array.length_toList,hc0s];simp;omega) h1
 have hc1l:c1.toList=c0.toList.take (i*6)++[u0,u1,u2,u3,u4,u5]++c0.toList.drop (i*6+6):=by rw [←hc1];rfl
 have hql:(xs.drop (i*6)).length=(n-i)*6:=by rw [List.length_drop,hxl];omega
 have hil:=ins_list2 c0.toList [u0,u1,u2,u3,u4,u5] (xs.drop (i*6)) (i*6) 6 (by rw [hql,hc0s];omega) rfl
 simp only at hil
 rw [←hc1l] at hil
 obtain ⟨hi1,hi2,hi3⟩:=hil
 have hgW2:((w.drew.alloc (.cells c0 59)).setRow w.heap.size c1).drew.heap[g]?=some (.cells cur 59):=(setRow_other _ _ _ _ (by omega)).trans hgW
 have hhW2:((w.drew.alloc (.cells c0 59)).setRow w.heap.size c1).drew.heap[w.heap.size]?=some (.cells c1 59):=setRow_heap _ _ _ _ _ _ hhW
 obtain ⟨c2,hc2⟩:∃ c2:Array Value,(c1.toList.take ((i+1)*6)++xs.drop (i*6)++c1.toList.drop ((i+1)*6+(xs.drop (i*6)).length)).toArray=c2:=⟨_,rfl⟩
 have hcpB:∀ ty o dL dC s sL sC,o=(i+1)*6→s=i*6→Nat.min sL dL=n-i→(Builtin.copy_ #[142,142] ty #[.slice (some ⟨w.heap.size,o,none⟩) dL dC,.slice (some ⟨g,s,none⟩) sL sC]).run Tryz.prog ((w.drew.alloc (.cells c0 59)).setRow w.heap.size c1).drew=.ok (goInt ((n-i:Nat):Int)) (((w.drew.alloc (.cells c0 59)).setRow w.heap.size c1).drew.setRow w.heap.size c2):=by
  rintro ty o dL dC s sL sC rfl rfl hm
  rw [←hc2]
  exact run_copy_rowK _ 142 142 ty 59 w.heap.size ((i+1)*6) dL dC ⟨g,i*6,none⟩ sL sC 6 (n-i) c1 59 (xs.drop (i*6)) Tryz.underlying142 sz71 hhW2 hm hql (hsrc (i*6) _ hgW2) (by rw [hql,←Array.length_toList,hi3,hc0s];omega) (fun u hu=>hx1 u (List.mem_of_mem_drop hu))
 have HP:Hid (InsPost B (.slice (some ⟨g,0,none⟩) n n) n (xs.take (i*6)++[u0,u1,u2,u3,u4,u5]++xs.drop (i*6)) w (.returned (.slice (some ⟨w.heap.size,0,none⟩) (n+1) G)) (((w.drew.alloc (.cells c0 59)).setRow w.heap.size c1).drew.setRow w.heap.size c2)):=hidp (by
  refine ⟨_,rfl,⟨?_,.inr ⟨w.heap.size,G,c2,rfl,hB,setRow_heap _ _ _ _ _ _ hhW2,hge,hGm,?_,?_⟩⟩,?_,.inr (fun k hk=>by simp [Value.ownBlock] at hk;omega)⟩
  ·simp only [List.length_append,List.length_take,List.length_drop,List.length_cons,List.length_nil,hxl];omega
  ·rw [←Array.length_toList,←hc2,←hc0s,show (i+1)*6=i*6+6 by omega]
   exact hi2
  ·rw [←hc2,show (i+1)*6=i*6+6 by omega,show (n+1)*6=i*6+6+(xs.drop (i*6)).length by rw [hql];omega]
   simp only [List.toList_toArray]
   rw [hi1,hc0l,List.take_left' (by rw [List.length_take,hxl];omega)]
  ·refine ⟨rfl,rfl,rfl,by simp,fun k hk _=>?_⟩
   have hk':k≠w.heap.size:=by omega
   rw [setRow_other _ _ _ _ hk']
   show ((w.drew.alloc (.cells c0 59)).setRow w.heap.size c1).heap[k]?=_
   rw [setRow_other _ _ _ _ hk',heap_alloc,if_neg (by show ¬k=w.heap.size;omega)]
   rfl)
 have HAP:=hidp hap
 have HCA:Hid (∀ ty dL dC sL sC,Nat.min sL dL=1→(Builtin.copy_ #[142,142] ty #[.slice (some ⟨w.heap.size,i*6,none⟩) dL dC,.slice (some ⟨ab,0,none⟩) sL sC]).run Tryz.prog ((w.alloc (.cells c0 59)).drew)=.ok (goInt ((1:Nat):Int)) (((w.alloc (.cells c0 59)).drew).setRow w.heap.size c1)):=hidp hcpA
 have HCB:Hid (∀ ty o dL dC s sL sC,o=(i+1)*6→s=i*6→Nat.min sL dL=n-i→(Builtin.copy_ #[142,142] ty #[.slice (some ⟨w.heap.size,o,none⟩) dL dC,.slice (some ⟨g,s,none⟩) sL sC]).run Tryz.prog (((w.alloc (.cells c0 59)).drew).setRow w.heap.size c1).drew=.ok (goInt ((n-i:Nat):Int)) ((((w.alloc (.cells c0 59)).drew).setRow w.heap.size c1).drew.setRow w.heap.size c2)):=hidp hcpB
 have hGi:¬(G=i):=by omega
 have hGi1:¬(G=i+1):=by omega
 have hni:¬(n=i):=by omega
 have hGb:G≤9223372036854775807:=by simpa [maxLen] using hGm
 have hgb:w.heap.size≠g:=by omega
 clear hap hcpA hcpB hc0 hc0l hc0s hgW haW hhW hc1 hc1l hql hi1 hi2 hi3 hgW2 hhW2 hc2 hsrc hzs hzl hG hxs hxl hcur htake hg hab h1 hx1 hi0 hz0 hz1 hz2 hGm
 go_enter Tryz.func178,Tryz.ntmps178
 go_wp2_with (at_builtin;refine Go.Lib.wpList_append_run _ rfl _ _ 142 3 rfl _ _ rfl rfl _ _ (HAP.out _) ?_)
 rw [HCA.out 3 (n+1-i) (G-i) 1 1 (by simp only [Nat.min_def];split <;> omega)]
 have hw1:IntKind.i64.wrap ((i:Int)+1)=(i:Int)+1:=by rw [IntKind.wrap_i64];omega
 have hb1:(0:Int)≤(i:Int)+1:=by omega
 have htn:((i:Int)+1).toNat=i+1:=by omega
 have hb3:(i:Int)+1≤(n:Int)+1:=by omega
 have hb5:(i:Int)≤(n:Int):=by omega
 go_wp2
 go_region_law (refine step_copyK rfl (.tmp 50) (.tmp 53) 142 142 rfl (.slice (some ⟨w.heap.size,(i+1)*6,none⟩) (n+1-(i+1)) (G-(i+1))) (.slice (some ⟨g,i*6,none⟩) (n-i) (n-i)) (by simp [Act.eval,Act.put]) (by simp [Act.eval,Act.put]) (HCB.out 3 _ _ _ _ _ _ rfl rfl (by simp only [Nat.min_def];split <;> omega)) ?_)
 all_goals
  go_wp2
  go_ret
  exact HP.out
theorem insert_any (B:Nat) (v0:Value) (n i:Nat) (xs:List Value) (u0 u1 u2 u3 u4 u5:Value) (ab:Nat) (w:World) (hB:B≤w.heap.size) (hown:w.ownsRow B 59 6 v0 n xs) (hi:i≤n) (hn:n≤1000000)
  (hab:w.heap[ab]?=some (.cells #[u0,u1,u2,u3,u4,u5] 59)) (hne:v0.ownBlock≠some ab) (h1:∀ u∈[u0,u1,u2,u3,u4,u5],u.oneCell'=true) (hx1:∀ u∈xs,u.oneCell'=true):
  Calls Tryz.prog 178 #[v0,.int .i64 i,.slice (some ⟨ab,0,none⟩) 1 1] w (InsPost B v0 n (xs.take (i*6)++[u0,u1,u2,u3,u4,u5]++xs.drop (i*6)) w):=by
 by_cases hin:i=n
 ·subst hin
  have hl:=hown.1
  rw [List.take_of_length_le (by omega),List.drop_eq_nil_of_le (by omega),List.append_nil]
  exact insert_end B v0 i xs u0 u1 u2 u3 u4 u5 ab w hB hown hn hab h1
 ·have hlt:i<n:=by omega
  obtain ⟨hl,hh | ⟨g,cap,cur,rfl,hBg,hg,hc,hm,hsz,ht⟩⟩:=hown
  ·omega
  ·have hne':ab≠g:=fun e=>hne (by rw [e];rfl)
   by_cases hr:n+1≤cap
   ·exact insert_room B g n i cap cur xs u0 u1 u2 u3 u4 u5 ab w hg hBg hsz ht hlt hr (by simpa [maxLen] using hm) hab hne' h1 hx1
   ·obtain rfl:cap=n:=by omega
    exact insert_grow B g cap i cur xs u0 u1 u2 u3 u4 u5 ab w hg hB hsz ht hlt hn hab h1 hx1
end Go.Proofs.YtbopfhbeegkkaabGreatDoor
