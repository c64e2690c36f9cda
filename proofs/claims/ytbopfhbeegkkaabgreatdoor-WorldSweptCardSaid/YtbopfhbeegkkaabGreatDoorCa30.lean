/- Part 30 of a proof: lemmas and contracts that other parts use. -/
import Derived.Test.YtbopfhbeegkkaabGreatDoorCa29
set_option linter.unusedVariables false
set_option linter.unusedSimpArgs false
set_option linter.constructorNameAsVariable false
namespace Go.Proofs.YtbopfhbeegkkaabGreatDoor
open Go.RowKit
section
variable {w0 w:World} {n:Nat} {O:Nat→Ob} {p g:Nat} {A:AWd} {v:WV} {k u x:Nat}
theorem map_erase {α β:Type} (f:α→β) (l:List α) (i:Nat):(l.eraseIdx i).map f=(l.map f).eraseIdx i:=by
 simp only [List.eraseIdx_eq_take_drop_succ,List.map_append,List.map_take,List.map_drop]
theorem mem_erase {α:Type} {l:List α} {i:Nat} {x:α} (h:x∈l.eraseIdx i):x∈l:=List.mem_of_mem_eraseIdx h
theorem len_erase {α:Type} {l:List α} {i:Nat} (h:i<l.length):(l.eraseIdx i).length=l.length-1:=List.length_eraseIdx_of_lt h
theorem PWx.outWay (hp:PWx w0.heap.size O p g A v) (h:Mem w0 w n O) (hn:p+16≤n) {i b c:Nat} {W4:World} (hi:i<A.way.length) (hv:v.vG=.slice (some ⟨b,0,none⟩) A.way.length c)
  (hown:W4.ownsRow w0.heap.size 243 2 (.slice (some ⟨b,0,none⟩) (A.way.length-1) c) (A.way.length-1) ((v.gs.eraseIdx i).flatMap MGm.cells)) (hg:w.grownBy W4 (some b)):
  ∃ O',Mem w0 (W4.setCell ⟨g,4,none⟩ (.slice (some ⟨b,0,none⟩) (A.way.length-1) c)) n O'∧PWx w0.heap.size O' p g (awOut A i) { v with vG:=.slice (some ⟨b,0,none⟩) (A.way.length-1) c,gs:=v.gs.eraseIdx i }∧∀ k,k<n→(k<p∨p+16≤k)→O' k=O k:=by
 have hl:=hp.wr.len
 have hat:=h.at_ (p+5) (by omega)
 rw [hp.b5] at hat
 obtain ⟨hr,hd⟩:=hat
 have hel:(v.gs.eraseIdx i).length=A.way.length-1:=by rw [len_erase (by omega),hl]
 have hob:v.vG.ownBlock=some b:=by rw [hv];rfl
 have hblk:∀ k,k<w.heap.size→v.vG.ownBlock≠some k→W4.heap[k]?=w.heap[k]?:=fun k hk hne=>hg.block k hk (fun e=>hne (hob.trans e.symm))
 have k1:(obWay w0.heap.size (.slice (some ⟨b,0,none⟩) (A.way.length-1) c) (v.gs.eraseIdx i)).at_ W4:=by
  refine ⟨by rw [hel];exact hown,fun m hm=>?_⟩
  obtain ⟨j1,j2⟩:=hd m (mem_erase hm)
  refine ⟨j1.same hg.size fun b' o e=>hblk b' (j2 b' o e).1 (j2 b' o e).2,fun b' o e=>⟨Nat.lt_of_lt_of_le (j2 b' o e).1 hg.size,fun e2=>(j2 b' o e).2 (hob.trans e2)⟩⟩
 obtain ⟨O1,m1,m2,m3⟩:=h.step1 (i:=p+5) (by omega) (o:=obWay w0.heap.size (.slice (some ⟨b,0,none⟩) (A.way.length-1) c) (v.gs.eraseIdx i)) (obWay_ok ..) k1
  (by rw [hp.b5];exact ⟨hg.os,hg.tape,hg.output,hg.size,fun k hk hne=>hblk k hk hne,fun k e=>.inl (hob.trans e)⟩) (by rw [hp.b5];exact fun k ⟨m,hm,o,e⟩=>.inl ⟨m,mem_erase hm,o,e⟩)
 have hb0:O1 (p+0)=_:=(m3 (p+0) (by omega)).trans hp.b0
 have h2:=m1.set (i:=p+0) (by omega) hb0 4 (.slice (some ⟨b,0,none⟩) (A.way.length-1) c)
 refine ⟨_,h2,hp.setWay (way:=A.way.eraseIdx i) (lost:=A.lost) (vG:=.slice (some ⟨b,0,none⟩) (A.way.length-1) c) (gs:=v.gs.eraseIdx i) (by rw [len_erase hi];have:=hp.ok.len;omega) (fun m hm=>hp.ok.way m (mem_erase hm)) ?_ ?_ ?_ ?_,fun k _ hk=>by rw [oset_other _ (by omega)];exact m3 k (by omega)⟩
 ·have:=hp.wr
  unfold WayRep at this ⊢
  rw [map_erase,map_erase,this]
 ·rw [oset_same];rfl
 ·rw [oset_other _ (by omega),m2]
 ·exact fun j hj h0 h5=>by rw [oset_other _ (by omega)];exact m3 _ (by omega)
theorem PWx.rowG (hp:PWx w0.heap.size O p g A v) (h:Mem w0 w n O) (hn:p+16≤n) (h0:0<A.way.length):∃ b c,v.vG=.slice (some ⟨b,0,none⟩) A.way.length c∧b<w.heap.size∧b≠g∧w.ownsRow w0.heap.size 243 2 (.slice (some ⟨b,0,none⟩) A.way.length c) A.way.length (v.gs.flatMap MGm.cells)∧
  (∀ i m,v.gs[i]?=some m→w.cell? ⟨b,i*2,none⟩=some (.int .i64 (m.tgt:Int))∧w.cell? ⟨b,i*2+1,none⟩=some (.slice m.A m.l.length m.c)∧BsVal w w.heap.size (.slice m.A m.l.length m.c) m.l∧∀ b' o,m.A=some ⟨b',o,none⟩→b'<w.heap.size∧b'≠b∧b'≠g)∧∀ k,w.frozen? ⟨b,k,none⟩=false:=by
 have hl:=hp.wr.len
 have hat:=h.at_ (p+5) (by omega)
 rw [hp.b5] at hat
 obtain ⟨hr,hd⟩:=hat
 rw [hl] at hr
 obtain ⟨b,c,e⟩:=World.ownsRow.form hr h0
 obtain ⟨e,_,hlt⟩:=e
 rw [e] at hr
 refine ⟨b,c,e,hlt,fun e2=>?_,hr,fun i m hm=>?_,fun k=>hr.frozenAt k⟩
 ·have:=(h.dis (p+5) (p+0) (by omega) (by omega) (by omega) b (by rw [hp.b5,e];rfl)).1
  exact this (by rw [hp.b0,e2];rfl)
 ·have hi:=lt_get hm
  have a0:=flat2_at gm_cells_len v.gs i m hm 0 (by omega)
  have a1:=flat2_at gm_cells_len v.gs i m hm 1 (by omega)
  have hgd:=(h.dis (p+0) (p+5) (by omega) (by omega) (by omega) g (by rw [hp.b0];rfl)).2
  rw [hp.b5] at hgd
  refine ⟨?_,?_,(hd m (List.mem_of_getElem? hm)).1,fun b' o e2=>⟨((hd m (List.mem_of_getElem? hm)).2 b' o e2).1,fun e3=>((hd m (List.mem_of_getElem? hm)).2 b' o e2).2 (by rw [e,e3];rfl),fun e3=>hgd ⟨m,List.mem_of_getElem? hm,o,by rw [←e3];exact e2⟩⟩⟩
  ·rw [hr.cellAt (i*2) (by omega)];exact a0
  ·rw [hr.cellAt (i*2+1) (by omega)];exact a1
theorem PWx.gm (hp:PWx w0.heap.size O p g A v) (h:Mem w0 w n O) (hn:p+16≤n) {i:Nat} {gm:GmP} (hg:A.way[i]?=some gm):∃ m,v.gs[i]?=some m∧m.tgt=gm.tgt∧m.l=gmB gm∧GmOk A.S gm:=by
 have h1:=congrArg (fun l=>l[i]?) hp.wr
 simp only [List.getElem?_map,hg,Option.map_some] at h1
 obtain ⟨m,h2,h3⟩:=Option.map_eq_some_iff.1 h1
 simp only [Prod.mk.injEq] at h3
 exact ⟨m,h2,h3.1,h3.2,hp.ok.way gm (List.mem_of_getElem? hg)⟩
set_option maxRecDepth 20000 in
set_option maxHeartbeats 4000000 in
theorem wLose_ok (hp:PWx w0.heap.size O p g A v) (h:Mem w0 w n O) (hn:p+16≤n) {i:Nat} (hi:i<A.way.length):
  Calls Tryz.prog 109 #[.pointer (some ⟨g,0,none⟩),.int .i64 (i:Nat)] w fun e w'=>e=.returned .nilIface∧WUpd w0 w' n O p g v.xs v.us (awOut A i):=by
 have hb:=hp.blk h hn
 obtain ⟨b,c,eG,hbl,hbg,hown,_,_⟩:=hp.rowG h hn (by omega)
 have HO:=hidp (fun (W4:World) (h1:_) (h2:_)=>hp.outWay (W4:=W4) h hn hi eG h1 h2)
 have hl:=hp.wr.len
 have hi0:(0:Int)≤(i:Int):=by omega
 have hi1:(i:Int)<300:=by have:=hp.ok.len;omega
 rw [←hl] at hown hi
 have HD:=hidp (del_any w0.heap.size b c i v.gs w hown hi (by have:=hp.ok.len;omega))
 rw [hl] at HD hi
 rw [eG] at hb
 have c4:=cell_blk hb 4
 simp only [zC,zD,zE] at c4
 have f4:=frozen_blk hb 4
 have hgl:g<w.heap.size:=lt_blk hb
 haveI:SzGe (g+1) w:=⟨hgl⟩
 have HNE:Hid (∀ W4:World,w.grownBy W4 (some b)→(W4.cell? ⟨g,4,none⟩=some (.slice (some ⟨b,0,none⟩) A.way.length c)∧W4.frozen? ⟨g,4,none⟩=false)∧g<W4.heap.size):=hidp (fun W4 hg=>by
  have hblk:=hg.block g hgl (fun e=>hbg (Option.some.inj e).symm)
  exact ⟨⟨(World.cell?_of_block (a:=⟨g,4,none⟩) hblk).trans c4,(World.frozen?_of_block (a:=⟨g,4,none⟩) hblk).trans f4⟩,Nat.lt_of_lt_of_le hgl hg.size⟩)
 clear hb eG hown hl hp h hn
 generalize A.way.length=l at *
 have d0:decide ((i:Int)<0)=false:=decide_eq_false (by omega)
 have d1:decide ((l:Int)≤(i:Int))=false:=decide_eq_false (by omega)
 have d2:decide (l≤i)=false:=decide_eq_false (by omega)
 have HI:=hidp hi
 clear hi
 go_enter Tryz.func109,Tryz.ntmps109
 go_wp2_with fail
 go_at_call 148
 refine HD.out.mono ?_
 rintro e W4 ⟨rfl,h1,h2⟩
 obtain ⟨⟨q1,q2⟩,q3⟩:=HNE.out W4 h2
 have HX:=hidp (HO.out W4 h1 h2)
 haveI:SzGe (g+1) W4:=⟨q3⟩
 clear h1 h2 HO HD HNE q3
 go_wp2_with fail
 go_ret
 obtain ⟨O',k1,k2,k3⟩:=HX.out
 exact ⟨rfl,O',k1,k2.a,k3⟩
set_option maxRecDepth 20000 in
set_option maxHeartbeats 4000000 in
theorem wLose_bad (hp:PWx w0.heap.size O p g A v) (h:Mem w0 w n O) (hn:p+16≤n) (i:Int) (hi:i<0∨(A.way.length:Int)≤i):
  Calls Tryz.prog 109 #[.pointer (some ⟨g,0,none⟩),.int .i64 i] w fun e w'=>e=.returned (.iface 29 (.int .i64 2))∧Below w.heap.size w w':=by
 have hb:=hp.blk h hn
 obtain ⟨aG,cG,eG⟩:=way_form h (i:=p+5) (by omega) hp.b5
 rw [hp.wr.len] at eG
 rw [eG] at hb
 have c4:=cell_blk hb 4
 simp only [zC,zD,zE] at c4
 haveI:SzGe (g+1) w:=⟨lt_blk hb⟩
 clear hb eG hp h hn
 generalize A.way.length=l at *
 by_cases h0:i<0
 ·have d0:decide (i<0)=true:=decide_eq_true h0
  clear hi h0
  go_enter Tryz.func109,Tryz.ntmps109
  go_wp2_with fail
  go_ret
  exact ⟨rfl,zB⟩
 ·have d0:decide (i<0)=false:=decide_eq_false h0
  have d1:decide ((l:Int)≤i)=true:=decide_eq_true (by omega)
  clear hi h0
  go_enter Tryz.func109,Tryz.ntmps109
  go_wp2_with fail
  go_ret
  exact ⟨rfl,zB⟩
set_option maxRecDepth 20000 in
set_option maxHeartbeats 4000000 in
theorem wTwice_bad (hp:PWx w0.heap.size O p g A v) (h:Mem w0 w n O) (hn:p+16≤n) (i:Int) (hi:i<0∨(A.way.length:Int)≤i):
  Calls Tryz.prog 110 #[.pointer (some ⟨g,0,none⟩),.int .i64 i] w fun e w'=>e=.returned (.iface 29 (.int .i64 2))∧Below w.heap.size w w':=by
 have hb:=hp.blk h hn
 obtain ⟨aG,cG,eG⟩:=way_form h (i:=p+5) (by omega) hp.b5
 rw [hp.wr.len] at eG
 rw [eG] at hb
 have c4:=cell_blk hb 4
 simp only [zC,zD,zE] at c4
 haveI:SzGe (g+1) w:=⟨lt_blk hb⟩
 clear hb eG hp h hn
 generalize A.way.length=l at *
 by_cases h0:i<0
 ·have d0:decide (i<0)=true:=decide_eq_true h0
  clear hi h0
  go_enter Tryz.func110,Tryz.ntmps110
  go_wp2_with fail
  go_ret
  exact ⟨rfl,zB⟩
 ·have d0:decide (i<0)=false:=decide_eq_false h0
  have d1:decide ((l:Int)≤i)=true:=decide_eq_true (by omega)
  clear hi h0
  go_enter Tryz.func110,Tryz.ntmps110
  go_wp2_with fail
  go_ret
  exact ⟨rfl,zB⟩
set_option maxRecDepth 20000 in
set_option maxHeartbeats 4000000 in
theorem wDeliver_bad (hp:PWx w0.heap.size O p g A v) (h:Mem w0 w n O) (hn:p+16≤n) (i:Int) (hi:i<0∨(A.way.length:Int)≤i):
  Calls Tryz.prog 104 #[.pointer (some ⟨g,0,none⟩),.int .i64 i] w fun e w'=>e=.returned (.iface 29 (.int .i64 2))∧Below w.heap.size w w':=by
 have hb:=hp.blk h hn
 obtain ⟨aG,cG,eG⟩:=way_form h (i:=p+5) (by omega) hp.b5
 rw [hp.wr.len] at eG
 rw [eG] at hb
 have c4:=cell_blk hb 4
 simp only [zC,zD,zE] at c4
 haveI:SzGe (g+1) w:=⟨lt_blk hb⟩
 clear hb eG hp h hn
 generalize A.way.length=l at *
 by_cases h0:i<0
 ·have d0:decide (i<0)=true:=decide_eq_true h0
  clear hi h0
  go_enter Tryz.func104,Tryz.ntmps104
  go_wp2_with fail
  go_ret
  exact ⟨rfl,zB⟩
 ·have d0:decide (i<0)=false:=decide_eq_false h0
  have d1:decide ((l:Int)≤i)=true:=decide_eq_true (by omega)
  clear hi h0
  go_enter Tryz.func104,Tryz.ntmps104
  go_wp2_with fail
  go_ret
  exact ⟨rfl,zB⟩
set_option maxRecDepth 20000 in
set_option maxHeartbeats 4000000 in
theorem wTwice_ok (hp:PWx w0.heap.size O p g A v) (h:Mem w0 w n O) (hn:p+16≤n) {i:Nat} (hi:i<A.way.length):
  Calls Tryz.prog 110 #[.pointer (some ⟨g,0,none⟩),.int .i64 (i:Nat)] w fun e w'=>e=.returned .nilIface∧WUpd w0 w' n O p g v.xs v.us (awTwice A i):=by
 have hb:=hp.blk h hn
 obtain ⟨b,c,eG,hbl,hbg,hown,hrd,_⟩:=hp.rowG h hn (by omega)
 obtain ⟨m,hm,hmt,hml,hgo⟩:=hp.gm h hn (List.getElem?_eq_getElem hi)
 obtain ⟨x1,x2,x3,_⟩:=hrd i m hm
 have hgd:A.way.getD i gmZ=A.way[i]:=by simp [List.getD,List.getElem?_eq_getElem hi]
 have HS:Hid (∀ W,Below w.heap.size w W→Calls Tryz.prog 147 #[.pointer (some ⟨g,0,none⟩),.int .i64 (m.tgt:Int),.slice m.A m.l.length m.c] W fun e w'=>e=.returned (.tuple #[])∧WUpd w0 w' n O p g v.xs v.us (awTwice A i)):=hidp (by
  intro W hW
  have h1:=wSend_any hp (h.below hW) hn A.way[i] hgo m.A m.c (by rw [←hml];exact (x3.above fun k hk=>hW.block k (by omega)).mono hW.size)
  rw [←hml,←hmt] at h1
  unfold awTwice
  rw [hgd]
  exact h1)
 rw [eG] at hb
 have c4:=cell_blk hb 4
 simp only [zC,zD,zE] at c4
 haveI:SzGe (g+1) w:=⟨lt_blk hb⟩
 haveI:SzGe (b+1) w:=⟨hbl⟩
 clear hb eG hown hrd hm hmt hml hgo x3 hgd hp h hn
 generalize m.tgt=tg at *
 generalize m.l.length=bl at *
 generalize m.A=aB at *
 generalize m.c=cB at *
 generalize awTwice A i=A' at *
 generalize A.way.length=l at *
 clear m
 have d0:decide ((i:Int)<0)=false:=decide_eq_false (by omega)
 have d1:decide ((l:Int)≤(i:Int))=false:=decide_eq_false (by omega)
 have d2:decide (l≤i)=false:=decide_eq_false (by omega)
 have hi0:(0:Int)≤(i:Int):=by omega
 have hi1:(i:Int)<(l:Int):=by omega
 have HI:=hidp hi
 clear hi
 go_enter Tryz.func110,Tryz.ntmps110
 go_wp2_with fail
 refine wp_region_plus_tail 17 (by kernel_rfl) (by kernel_rfl) ?_
 simp only [List.take_succ_cons,List.take_zero,List.drop_succ_cons,List.drop_zero]
 repeat (first | go_big_quiet_skip | (go_big_quiet_want;go_big_quiet_op;first | go_big_quiet_on))
 refine wpQuiet_nil ?_
 rintro _ ⟨x9,rfl⟩
 go_wp2_with fail
 go_at_call 147
 refine (HS.out _ zB).mono ?_
 rintro e w3 ⟨rfl,hU⟩
 have HU:=hidp hU
 clear hU HS
 go_wp2_with fail
 go_ret
 exact ⟨rfl,HU.out⟩
set_option maxRecDepth 20000 in
set_option maxHeartbeats 4000000 in
theorem wAsk_ok (hp:PWx w0.heap.size O p g A v) (h:Mem w0 w n O) (hn:p+16≤n) {k o:Nat} (hk:k<A.S) (ho:o<A.S) (hne:k≠o):
  Calls Tryz.prog 108 #[.pointer (some ⟨g,0,none⟩),.int .i64 (k:Nat),.int .i64 (o:Nat)] w fun e w'=>e=.returned .nilIface∧WUpd w0 w' n O p g v.xs v.us (awAsk A k o):=by
 have hb:=hp.blk h hn
 obtain ⟨bS,cS,eS,_,lS,kS,_⟩:=row_at h (i:=p+1) (by omega) hp.b1 (by omega)
 obtain ⟨x,hx⟩:=hp.xk hk
 have x3:=kS k _ hk (ptrs_get hx)
 have hok:=hp.ask hk
 have HAP:=hidp (hp.sApplied h hn hx)
 have HEN:=hidp (fun W=>encAsk_is hok W)
 have HSD:Hid (∀ W v',Below w.heap.size w W→BsVal W W.heap.size v' (askB (k:Int) (A.si k).p0 (A.si k).p1 (A.si k).p2 (A.si k).p3)→Calls Tryz.prog 147 #[.pointer (some ⟨g,0,none⟩),.int .i64 (o:Int),v'] W fun e w'=>e=.returned (.tuple #[])∧WUpd w0 w' n O p g v.xs v.us (awAsk A k o)):=hidp (by
  intro W v' hW hv
  obtain ⟨A',c',rfl,_⟩:=id hv
  have h1:=wSend_any hp (h.below hW) hn (awAskG A k o) ⟨ho,fun e=>by (exfalso;simp [awAskG,txZP] at e),fun _=>⟨hk,hok⟩⟩ A' c' (by rw [show gmB (awAskG A k o)=askB (k:Int) (A.si k).p0 (A.si k).p1 (A.si k).p2 (A.si k).p3 from if_neg (by simp [awAskG,txZP])];exact hv)
  have e1:gmB (awAskG A k o)=askB (k:Int) (A.si k).p0 (A.si k).p1 (A.si k).p2 (A.si k).p3:=by unfold gmB;rw [if_neg (by simp [awAskG,txZP])];rfl
  rw [e1] at h1
  exact h1)
 rw [eS] at hb
 have c0:=cell_blk hb 0
 simp only [zC,zD,zE] at c0
 haveI:SzGe (g+1) w:=⟨lt_blk hb⟩
 haveI:SzGe (bS+1) w:=⟨lS⟩
 clear hb eS hx hok kS hp h hn lS
 generalize A.S=S at *
 generalize awAsk A k o=A' at *
 generalize (A.si k).p0=e0 at *
 generalize (A.si k).p1=e1 at *
 generalize (A.si k).p2=e2 at *
 generalize (A.si k).p3=e3 at *
 generalize askB (k:Int) e0 e1 e2 e3=bts at *
 have d0:decide ((k:Int)<0)=false:=decide_eq_false (by omega)
 have d1:decide ((S:Int)≤(k:Int))=false:=decide_eq_false (by omega)
 have d2:decide (S≤k)=false:=decide_eq_false (by omega)
 have d3:decide ((o:Int)<0)=false:=decide_eq_false (by omega)
 have d4:decide ((S:Int)≤(o:Int))=false:=decide_eq_false (by omega)
 have d5:decide (S≤o)=false:=decide_eq_false (by omega)
 have d6:((k:Int)==(o:Int))=false:=by simp;omega
 have d7:(k==o)=false:=by simp;exact hne
 have hk0:(0:Int)≤(k:Int):=by omega
 have hk1:(k:Int)<(S:Int):=by omega
 clear hk ho hne
 go_enter Tryz.func108,Tryz.ntmps108
 go_wp2_with fail
 go_at_call 26
 refine HAP.out.mono ?_
 rintro e w1 ⟨rfl,hb1⟩
 have HB1:=hidp hb1
 clear hb1 HAP
 go_wp2_with fail
 go_at_call 151
 refine (HEN.out _).mono ?_
 rintro e w2 ⟨v',rfl,hb2,hown⟩
 have HB2:=hidp (HB1.out.trans (hb2.mono HB1.out.size))
 have HBS:=hidp (own_bs hown rfl).1
 clear hb2 hown HEN HB1
 go_wp2_with fail
 go_at_call 147
 refine (HSD.out _ _ HB2.out HBS.out).mono ?_
 rintro e w3 ⟨rfl,hU⟩
 have HU:=hidp hU
 clear hU HSD HB2 HBS
 go_wp2_with fail
 go_ret
 exact ⟨rfl,HU.out⟩
set_option maxRecDepth 20000 in
set_option maxHeartbeats 4000000 in
theorem wAsk_bad (hp:PWx w0.heap.size O p g A v) (h:Mem w0 w n O) (hn:p+16≤n) (k o:Int) (hbad:k<0∨(A.S:Int)≤k∨o<0∨(A.S:Int)≤o∨k=o):
  Calls Tryz.prog 108 #[.pointer (some ⟨g,0,none⟩),.int .i64 k,.int .i64 o] w fun e w'=>e=.returned (.iface 29 (.int .i64 2))∧Below w.heap.size w w':=by
 have hb:=hp.blk h hn
 obtain ⟨aS,cS,eS⟩:=row_form h (i:=p+1) (by omega) hp.b1
 rw [eS] at hb
 have c0:=cell_blk hb 0
 simp only [zC,zD,zE] at c0
 haveI:SzGe (g+1) w:=⟨lt_blk hb⟩
 clear hb eS hp h hn
 generalize A.S=S at *
 by_cases h0:k<0
 ·have d0:decide (k<0)=true:=decide_eq_true h0
  clear hbad h0
  go_enter Tryz.func108,Tryz.ntmps108
  go_wp2_with fail
  go_ret
  exact ⟨rfl,zB⟩
 have d0:decide (k<0)=false:=decide_eq_false h0
 by_cases h1:(S:Int)≤k
 ·have d1:decide ((S:Int)≤k)=true:=decide_eq_true h1
  clear hbad h0 h1
  go_enter Tryz.func108,Tryz.ntmps108
  go_wp2_with fail
  go_ret
  exact ⟨rfl,zB⟩
 have d1:decide ((S:Int)≤k)=false:=decide_eq_false h1
 by_cases h2:o<0
 ·have d2:decide (o<0)=true:=decide_eq_true h2
  clear hbad h0 h1 h2
  go_enter Tryz.func108,Tryz.ntmps108
  go_wp2_with fail
  go_ret
  exact ⟨rfl,zB⟩
 have d2:decide (o<0)=false:=decide_eq_false h2
 by_cases h3:(S:Int)≤o
 ·have d3:decide ((S:Int)≤o)=true:=decide_eq_true h3
  clear hbad h0 h1 h2 h3
  go_enter Tryz.func108,Tryz.ntmps108
  go_wp2_with fail
  go_ret
  exact ⟨rfl,zB⟩
 have d3:decide ((S:Int)≤o)=false:=decide_eq_false h3
 obtain rfl:k=o:=by omega
 have d4:(k==k)=true:=by simp
 clear hbad h0 h1 h2 h3
 go_enter Tryz.func108,Tryz.ntmps108
 go_wp2_with fail
 go_ret
 exact ⟨rfl,zB⟩
end
section
variable {w0 w:World} {n:Nat} {O:Nat→Ob} {p g:Nat} {A:AWd} {v:WV} {k u x:Nat}
theorem gmB_tx {gm:GmP} (h:0<gm.tx.seq):gmB gm=txB gm.tx:=if_pos h
theorem gmB_ask {gm:GmP} (h:¬0<gm.tx.seq):gmB gm=askB (gm.frm:Int) gm.h0 gm.h1 gm.h2 gm.h3:=if_neg h
theorem decTx_good {t:TxP} (h:rightTx t=true) (v:Value) (W:World) (hv:BsVal W W.heap.size v (txB t)):
  Calls Tryz.prog 149 #[v] W fun e w'=>∃ A c,e=.returned (.tuple #[MTx.val ⟨t,A,c⟩,.nilIface])∧WsAt w' A t.ws∧Below W.heap.size W w':=by
 refine (decTx_any v (txB t) W hv (by have:=(txB_len h).1;omega)).mono ?_
 intro e w' h1
 rw [decTx_B t h] at h1
 obtain ⟨A,c,rfl,h2,h3⟩:=h1
 exact ⟨A,c,rfl,own_ws h3,h2⟩
theorem decTx_none {s a0 a1 a2 a3:Int} (h:okAsk s a0 a1 a2 a3=true) (v:Value) (W:World) (hv:BsVal W W.heap.size v (askB s a0 a1 a2 a3)):
  Calls Tryz.prog 149 #[v] W fun e w'=>e=.returned (.tuple #[txZero,.iface 29 (.int .i64 3)])∧Below W.heap.size W w':=by
 refine (decTx_any v _ W hv (by have:=(askB_len h).1;omega)).mono ?_
 intro e w' h1
 rw [tx_no_ask] at h1
 exact h1
theorem decAsk_good {s a0 a1 a2 a3:Int} (h:okAsk s a0 a1 a2 a3=true) (v:Value) (W:World) (hv:BsVal W W.heap.size v (askB s a0 a1 a2 a3)):
  Calls Tryz.prog 150 #[v] W fun e w'=>e=.returned (.tuple #[.int .i64 s,.agg #[.int .i64 a0,.int .i64 a1,.int .i64 a2,.int .i64 a3],.nilIface])∧Below W.heap.size W w':=by
 refine (decAsk_any v _ W hv (by have:=(askB_len h).1;omega)).mono ?_
 intro e w' h1
 rw [decAsk_B _ _ _ _ _ h] at h1
 obtain ⟨h1,h2⟩:=h1
 obtain ⟨q1,q2,q3,q4,q5⟩:=okAsk_all h
 refine ⟨?_,h2⟩
 rw [h1]
 simp only [askV]
 rw [show ((s.toNat:Nat):Int)=s by omega,show ((a0.toNat:Nat):Int)=a0 by omega,show ((a1.toNat:Nat):Int)=a1 by omega,show ((a2.toNat:Nat):Int)=a2 by omega,show ((a3.toNat:Nat):Int)=a3 by omega]
set_option maxRecDepth 20000 in
set_option maxHeartbeats 8000000 in
theorem wDeliver_tx (hp:PWx w0.heap.size O p g A v) (h:Mem w0 w n O) (hn:p+16≤n) {i:Nat} {gm:GmP} (hi:i<A.way.length) (hgm:A.way[i]?=some gm) (hseq:0<gm.tx.seq):
  Calls Tryz.prog 104 #[.pointer (some ⟨g,0,none⟩),.int .i64 (i:Nat)] w fun e w'=>e=.returned .nilIface∧WUpd w0 w' n O p g v.xs v.us (awDeliver A i):=by
 have hgd:A.way.getD i gmZ=gm:=by simp [List.getD,hgm]
 have HEQ:Hid (awDeliver A i=awTake (awOut A i) gm.tgt gm.tx):=hidp (by unfold awDeliver awComes;rw [hgd,if_pos hseq])
 clear hgd
 have hb:=hp.blk h hn
 obtain ⟨b,c,eG,hbl,hbg,hown,hrd,_⟩:=hp.rowG h hn (by omega)
 obtain ⟨m,hm,hmt,hml,hgo⟩:=hp.gm h hn hgm
 obtain ⟨x1,x2,x3,x4⟩:=hrd i m hm
 obtain ⟨O1,m1,m2,m3⟩:=h.new1 (.cells #[.int .i64 (m.tgt:Int),.slice m.A m.l.length m.c] 243)
 have hp1:PWx w0.heap.size O1 p g A v:=hp.keep (fun j hj=>m2 _ (by omega))
 have hgl:g<w.heap.size:=lt_blk hb
 have HO:=hidp (fun (W4:World) (h1:_) (h2:_)=>hp1.outWay (W4:=W4) m1 (by omega) hi eG h1 h2)
 have HBV:Hid (∀ W4:World,(w.alloc (.cells #[.int .i64 (m.tgt:Int),.slice m.A m.l.length m.c] 243)).grownBy W4 (some b)→BsVal (W4.setCell ⟨g,4,none⟩ (.slice (some ⟨b,0,none⟩) (A.way.length-1) c)) (W4.setCell ⟨g,4,none⟩ (.slice (some ⟨b,0,none⟩) (A.way.length-1) c)).heap.size (.slice m.A m.l.length m.c) (gmB gm)):=hidp (by
  intro W4 hg
  rw [←hml]
  have hsz:w.heap.size≤(W4.setCell ⟨g,4,none⟩ (.slice (some ⟨b,0,none⟩) (A.way.length-1) c)).heap.size:=by have:=hg.size;simp at this ⊢;omega
  refine x3.same hsz fun b' o e=>?_
  obtain ⟨j1,j2,j3⟩:=x4 b' o e
  rw [Below.heap_setCell W4 ⟨g,4,none⟩ _ b' j3,hg.block b' (by simp;omega) (fun e=>j2 (Option.some.inj e)),heap_alloc,if_neg (by omega)])
 have hl:=hp.wr.len
 have hi2:(i:Int)<300:=by have:=hp.ok.len;omega
 have hown1:=hown.alloc (.cells #[.int .i64 (m.tgt:Int),.slice m.A m.l.length m.c] 243)
 rw [←hl] at hown1 hi
 have HD:=hidp (del_any w0.heap.size b c i v.gs _ hown1 hi (by have:=hp.ok.len;omega))
 rw [hl] at HD hi
 rw [eG] at hb
 have c4:=cell_blk hb 4
 simp only [zC,zD,zE] at c4
 have f4:=frozen_blk hb 4
 haveI:SzGe (g+1) w:=⟨hgl⟩
 haveI:SzGe (b+1) w:=⟨hbl⟩
 have HNE:Hid (∀ W4:World,(w.alloc (.cells #[.int .i64 (m.tgt:Int),.slice m.A m.l.length m.c] 243)).grownBy W4 (some b)→(W4.cell? ⟨g,4,none⟩=some (.slice (some ⟨b,0,none⟩) A.way.length c)∧W4.frozen? ⟨g,4,none⟩=false)∧g<W4.heap.size):=hidp (fun W4 hg=>by
  have hblk:=hg.block g (by simp;omega) (fun e=>hbg (Option.some.inj e).symm)
  rw [heap_alloc,if_neg (by omega)] at hblk
  exact ⟨⟨(World.cell?_of_block (a:=⟨g,4,none⟩) hblk).trans c4,(World.frozen?_of_block (a:=⟨g,4,none⟩) hblk).trans f4⟩,Nat.lt_of_lt_of_le hgl (Nat.le_trans (by simp) hg.size)⟩)
 have HKP:=hidp m2
 have HBX:Hid (O1 n=_):=hidp m3
 clear hb eG hown hown1 hl hp h m1 m2 m3 hp1 hrd hm x3 x4
 generalize A.way.length=l at *
 have d0:decide ((i:Int)<0)=false:=decide_eq_false (by omega)
 have d1:decide ((l:Int)≤(i:Int))=false:=decide_eq_false (by omega)
 have d2:decide (l≤i)=false:=decide_eq_false (by omega)
 have hi0:(0:Int)≤(i:Int):=by omega
 have hi1:(i:Int)<(l:Int):=by omega
 have HI:=hidp hi
 have HMT:=hidp hmt
 have HML:=hidp hml
 clear hi hbg hbl hmt hml
 go_enter Tryz.func104,Tryz.ntmps104
 go_wp2_with fail
 go_at_call 148
 refine HD.out.mono ?_
 rintro e W4 ⟨rfl,h1,h2⟩
 obtain ⟨⟨q1,q2⟩,q3⟩:=HNE.out W4 h2
 have HX:=hidp (HO.out W4 h1 h2)
 have HV:=hidp (HBV.out W4 h2)
 haveI:SzGe (g+1) W4:=⟨q3⟩
 clear h1 h2 HO HD HNE HBV q3 x1 x2 c4 f4 hi0 hi1
 go_upto_region 5 with fail
 generalize W4.setCell ⟨g,4,none⟩ (.slice (some ⟨b,0,none⟩) (l-1) c)=W5 at *
 clear q1 q2
 obtain ⟨O5,k1,k2,k3⟩:=HX.out
 have hz:=k1.box (i:=n) (by omega) ((k3 n (by omega) (by omega)).trans HBX.out)
 have z0:=cell_blk hz 0;have z1:=cell_blk hz 1
 simp only [zC,zD,zE] at z0 z1
 have hb5:=k2.blk k1 (by omega)
 obtain ⟨bS,cS,eS,_,lS,kS,_⟩:=row_at k1 (i:=p+1) (by omega) k2.b1 (by have:=k2.ok.S;omega)
 have hT:m.tgt<(awOut A i).S:=by rw [HMT.out];exact hgo.1
 obtain ⟨x,hx⟩:=k2.xk hT
 have y1:=kS _ _ hT (ptrs_get hx)
 simp only at eS
 rw [eS] at hb5
 have c0:=cell_blk hb5 0
 simp only [zC,zD,zE] at c0
 haveI:SzGe (g+1) W5:=⟨lt_blk hb5⟩
 haveI:SzGe (bS+1) W5:=⟨lS⟩
 haveI:SzGe (w.heap.size+1) W5:=⟨lt_blk hz⟩
 have ht0:(0:Int)≤(m.tgt:Int):=by omega
 have ht1:(m.tgt:Int)<((awOut A i).S:Int):=by omega
 have hrt:=hgo.2.1 hseq
 have HDT:=hidp (fun W (hW:Below W5.heap.size W5 W)=>decTx_good hrt (.slice m.A m.l.length m.c) W (by rw [←gmB_tx hseq];exact (HV.out.above fun k hk=>hW.block k hk).mono hW.size))
 have HTK:=hidp (fun W (hW:Below W5.heap.size W5 W) (A':Option Addr) (c':Nat) (hws:WsAt W A' gm.tx.ws)=>k2.sTake (k1.below hW) (by omega) hx gm.tx A' c' hws (by have:=(rightTx_parts hrt).2.2;omega) (by have:=(rightTx_parts hrt).1;unfold wf64;omega) (by have:=(rightTx_parts hrt).2.1;unfold wf64;omega))
 have HEND:Hid (∀ W,WUpd w0 W (n+1) O5 p g v.xs v.us (awTake (awOut A i) m.tgt gm.tx)→WUpd w0 W n O p g v.xs v.us (awDeliver A i)):=hidp (fun W hW=>by
  rw [HEQ.out,←HMT.out]
  obtain ⟨O6,j1,j2,j3⟩:=hW
  exact ⟨O6,j1.less (by omega),j2,fun k hk hne=>(j3 k (by omega) hne).trans ((k3 k (by omega) hne).trans (HKP.out k hk))⟩)
 generalize (awOut A i).S=S at *
 clear hz hb5 eS kS k1 k2 k3 HX HBX HKP HEQ hx hT hgo hrt HMT HML HI lS HV hgm hseq
 unfold MTx.val at HDT HTK
 simp only at HDT HTK
 generalize gm.tx=t at *
 obtain ⟨t0,t1,t2,t3,t4,t5,t6,t7,tws⟩:=t
 simp only at HDT HTK
 generalize m.tgt=tg at *
 generalize m.l.length=bl at *
 generalize m.A=aB at *
 generalize m.c=cB at *
 clear m gm
 refine wp_region_plus (by kernel_rfl) (by kernel_rfl) ?_
 repeat (first | go_big_quiet_skip | (go_big_quiet_want;go_big_quiet_op;first | go_big_quiet_on))
 refine wpQuiet_nil ?_
 rintro _ ⟨x9,rfl⟩
 go_wp2_with fail
 go_at_call 149
 refine (HDT.out _ zB).mono ?_
 rintro e w6 ⟨At,ct,rfl,hws,hb6⟩
 have HB6:=hidp (Below.trans (show Below W5.heap.size W5 (wplus W5 x9) from zB) (hb6.mono (by simp)))
 have HWS:=hidp hws
 obtain ⟨x6,rfl⟩:=wplus_of_below hb6
 clear hb6 hws HDT
 go_wp2_with fail
 go_at_call 17
 refine (HTK.out _ zB _ _ (HWS.out.alloc _)).mono ?_
 rintro e w7 ⟨rfl,hU⟩
 have HU:=hidp hU
 clear hU HTK
 go_wp2_with fail
 go_ret
 exact ⟨rfl,HEND.out _ HU.out⟩
end
def obTx (A:Option Addr) (l:List MTx):Ob:=
 ⟨fun w=>XsAt w A l∧(∀ b o,A=some ⟨b,o,none⟩→b<w.heap.size)∧∀ m∈l,WsAt w m.A m.t.ws∧∀ b o,m.A=some ⟨b,o,none⟩→b<w.heap.size,fun _=>False,
  fun k=>(∃ o,A=some ⟨k,o,none⟩)∨∃ m∈l,∃ o,m.A=some ⟨k,o,none⟩⟩
theorem obTx_ok (A:Option Addr) (l:List MTx) (B:Nat):(obTx A l).Ok B:=
 ⟨fun w w' h hs hb=>⟨h.1.keep hs (fun b o e=>hb b (.inr (.inl ⟨o,e⟩))),fun b o e=>Nat.lt_of_lt_of_le (h.2.1 b o e) hs,
   fun m hm=>⟨(h.2.2 m hm).1.keep fun b o e=>hb b (.inr (.inr ⟨m,hm,o,e⟩)),fun b o e=>Nat.lt_of_lt_of_le ((h.2.2 m hm).2 b o e) hs⟩⟩,
  fun w b h e=>e.elim,fun w b h e=>by
   rcases e with ⟨o,e⟩ | ⟨m,hm,o,e⟩
   ·exact h.2.1 b o e
   ·exact (h.2.2 m hm).2 b o e⟩
def missG (frm:Nat) (l:List TxP):List GmP:=(l.filter fun t=>decide (t.site≠(frm:Int))).map fun t=>⟨frm,t,0,0,0,0,0⟩
theorem missG_app (frm:Nat) (l:List TxP) (t:TxP):missG frm (l++[t])=missG frm l++(if t.site≠(frm:Int) then [⟨frm,t,0,0,0,0,0⟩] else []):=by
 unfold missG
 rw [List.filter_append,List.map_append]
 by_cases e:t.site=(frm:Int)
 ·simp [e]
 ·simp [e]
theorem take_next {α:Type} {l:List α} {j:Nat} {x:α} (h:l[j]?=some x):l.take (j+1)=l.take j++[x]:=by
 have hj:=lt_get h
 rw [List.take_succ_eq_append_getElem hj]
 congr 2
 rw [List.getElem?_eq_getElem hj] at h
 exact Option.some.inj h
section
variable {w0 w:World} {n:Nat} {O:Nat→Ob} {p g:Nat} {A:AWd} {v:WV} {k u x:Nat}
theorem WUpd.next {w0 w2:World} {n:Nat} {O O1:Nat→Ob} {p g:Nat} {xs us:List Nat} {A2:AWd} (h3:∀ k,k<n→(k<p∨p+16≤k)→O1 k=O k) (h:WUpd w0 w2 n O1 p g xs us A2):WUpd w0 w2 n O p g xs us A2:=by
 obtain ⟨O2,k1,k2,k3⟩:=h
 exact ⟨O2,k1,k2,fun k hn hk=>(k3 k hn hk).trans (h3 k hn hk)⟩
theorem awSends_one (A:AWd) (l:List GmP) (g:GmP):awSends A (l++[g])=awSend (awSends A l) g:=awSends_app A l g
set_option maxRecDepth 200000 in
set_option maxHeartbeats 16000000 in
theorem wDeliver_ask (hp:PWx w0.heap.size O p g A v) (h:Mem w0 w n O) (hn:p+16≤n) {i:Nat} {gm:GmP} (hi:i<A.way.length) (hgm:A.way[i]?=some gm) (hseq:¬0<gm.tx.seq):
  Calls Tryz.prog 104 #[.pointer (some ⟨g,0,none⟩),.int .i64 (i:Nat)] w fun e w'=>e=.returned .nilIface∧WUpd w0 w' n O p g v.xs v.us (awDeliver A i):=by
 have hgd:A.way.getD i gmZ=gm:=by simp [List.getD,hgm]
 have HEQ:Hid (awDeliver A i=awSends (awKnows (awOut A i) gm.tgt gm.frm gm.h0 gm.h1 gm.h2 gm.h3) (missG gm.frm (aMiss ((awOut A i).si gm.tgt) gm.h0 gm.h1 gm.h2 gm.h3))):=hidp (by unfold awDeliver awComes;rw [hgd,if_neg hseq];rfl)
 have HSQ:=hidp hseq
 clear hgd hseq
 have hb:=hp.blk h hn
 obtain ⟨b,c,eG,hbl,hbg,hown,hrd,_⟩:=hp.rowG h hn (by omega)
 obtain ⟨m,hm,hmt,hml,hgo⟩:=hp.gm h hn hgm
 obtain ⟨x1,x2,x3,x4⟩:=hrd i m hm
 obtain ⟨O1,m1,m2,m3⟩:=h.new1 (.cells #[.int .i64 (m.tgt:Int),.slice m.A m.l.length m.c] 243)
 have hp1:PWx w0.heap.size O1 p g A v:=hp.keep (fun j hj=>m2 _ (by omega))
 have hgl:g<w.heap.size:=lt_blk hb
 have HO:=hidp (fun (W4:World) (h1:_) (h2:_)=>hp1.outWay (W4:=W4) m1 (by omega) hi eG h1 h2)
 have HBV:Hid (∀ W4:World,(w.alloc (.cells #[.int .i64 (m.tgt:Int),.slice m.A m.l.length m.c] 243)).grownBy W4 (some b)→BsVal (W4.setCell ⟨g,4,none⟩ (.slice (some ⟨b,0,none⟩) (A.way.length-1) c)) (W4.setCell ⟨g,4,none⟩ (.slice (some ⟨b,0,none⟩) (A.way.length-1) c)).heap.size (.slice m.A m.l.length m.c) (gmB gm)):=hidp (by
  intro W4 hg
  rw [←hml]
  have hsz:w.heap.size≤(W4.setCell ⟨g,4,none⟩ (.slice (some ⟨b,0,none⟩) (A.way.length-1) c)).heap.size:=by have:=hg.size;simp at this ⊢;omega
  refine x3.same hsz fun b' o e=>?_
  obtain ⟨j1,j2,j3⟩:=x4 b' o e
  rw [Below.heap_setCell W4 ⟨g,4,none⟩ _ b' j3,hg.block b' (by simp;omega) (fun e=>j2 (Option.some.inj e)),heap_alloc,if_neg (by omega)])
 have hl:=hp.wr.len
 have hi2:(i:Int)<300:=by have:=hp.ok.len;omega
 have hown1:=hown.alloc (.cells #[.int .i64 (m.tgt:Int),.slice m.A m.l.length m.c] 243)
 rw [←hl] at hown1 hi
 have HD:=hidp (del_any w0.heap.size b c i v.gs _ hown1 hi (by have:=hp.ok.len;omega))
 rw [hl] at HD hi
 rw [eG] at hb
 have c4:=cell_blk hb 4
 simp only [zC,zD,zE] at c4
 have f4:=frozen_blk hb 4
 haveI:SzGe (g+1) w:=⟨hgl⟩
 haveI:SzGe (b+1) w:=⟨hbl⟩
 have HNE:Hid (∀ W4:World,(w.alloc (.cells #[.int .i64 (m.tgt:Int),.slice m.A m.l.length m.c] 243)).grownBy W4 (some b)→(W4.cell? ⟨g,4,none⟩=some (.slice (some ⟨b,0,none⟩) A.way.length c)∧W4.frozen? ⟨g,4,none⟩=false)∧g<W4.heap.size):=hidp (fun W4 hg=>by
  have hblk:=hg.block g (by simp;omega) (fun e=>hbg (Option.some.inj e).symm)
  rw [heap_alloc,if_neg (by omega)] at hblk
  exact ⟨⟨(World.cell?_of_block (a:=⟨g,4,none⟩) hblk).trans c4,(World.frozen?_of_block (a:=⟨g,4,none⟩) hblk).trans f4⟩,Nat.lt_of_lt_of_le hgl (Nat.le_trans (by simp) hg.size)⟩)
 have HKP:=hidp m2
 have HBX:Hid (O1 n=_):=hidp m3
 clear hb eG hown hown1 hl hp h m1 m2 m3 hp1 hrd hm x3 x4
 generalize A.way.length=l at *
 have d0:decide ((i:Int)<0)=false:=decide_eq_false (by omega)
 have d1:decide ((l:Int)≤(i:Int))=false:=decide_eq_false (by omega)
 have d2:decide (l≤i)=false:=decide_eq_false (by omega)
 have hi0:(0:Int)≤(i:Int):=by omega
 have hi1:(i:Int)<(l:Int):=by omega
 have HI:=hidp hi
 have HMT:=hidp hmt
 have HML:=hidp hml
 clear hi hbg hbl hmt hml
 go_enter Tryz.func104,Tryz.ntmps104
 go_wp2_with fail
 go_at_call 148
 refine HD.out.mono ?_
 rintro e W4 ⟨rfl,h1,h2⟩
 obtain ⟨⟨q1,q2⟩,q3⟩:=HNE.out W4 h2
 have HX:=hidp (HO.out W4 h1 h2)
 have HV:=hidp (HBV.out W4 h2)
 haveI:SzGe (g+1) W4:=⟨q3⟩
 clear h1 h2 HO HD HNE HBV q3 x1 x2 c4 f4 hi0 hi1
 go_upto_region 5 with fail
 generalize W4.setCell ⟨g,4,none⟩ (.slice (some ⟨b,0,none⟩) (l-1) c)=W5 at *
 clear q1 q2
 obtain ⟨O5,k1,k2,k3⟩:=HX.out
 have hz:=k1.box (i:=n) (by omega) ((k3 n (by omega) (by omega)).trans HBX.out)
 have z0:=cell_blk hz 0;have z1:=cell_blk hz 1
 simp only [zC,zD,zE] at z0 z1
 have hb5:=k2.blk k1 (by omega)
 obtain ⟨bS,cS,eS,_,lS,kS,_⟩:=row_at k1 (i:=p+1) (by omega) k2.b1 (by have:=k2.ok.S;omega)
 have hT:m.tgt<(awOut A i).S:=by rw [HMT.out];exact hgo.1
 obtain ⟨x,hx⟩:=k2.xk hT
 have y1:=kS _ _ hT (ptrs_get hx)
 simp only at eS
 rw [eS] at hb5
 have c0:=cell_blk hb5 0
 simp only [zC,zD,zE] at c0
 haveI:SzGe (g+1) W5:=⟨lt_blk hb5⟩
 haveI:SzGe (bS+1) W5:=⟨lS⟩
 haveI:SzGe (w.heap.size+1) W5:=⟨lt_blk hz⟩
 have ht0:(0:Int)≤(m.tgt:Int):=by omega
 have ht1:(m.tgt:Int)<((awOut A i).S:Int):=by omega
 obtain ⟨hfr,hok⟩:=hgo.2.2 (by have:=HSQ.out;omega)
 have HOK:=hidp hok
 have HFR:Hid (gm.frm<(awOut A i).S∧(awOut A i).S≤4):=hidp ⟨hfr,k2.ok.S.2⟩
 have HB0:Hid (∀ W,Below W5.heap.size W5 W→BsVal W W.heap.size (.slice m.A m.l.length m.c) (askB (gm.frm:Int) gm.h0 gm.h1 gm.h2 gm.h3)):=hidp (fun W hW=>by rw [←gmB_ask (show ¬0<gm.tx.seq from by have:=HSQ.out;omega)];exact (HV.out.above fun k hk=>hW.block k hk).mono hW.size)
 have HDT:=hidp (fun W (hW:Below W5.heap.size W5 W)=>decTx_none HOK.out (.slice m.A m.l.length m.c) W (HB0.out W hW))
 have HDA:=hidp (fun W (hW:Below W5.heap.size W5 W)=>decAsk_good HOK.out (.slice m.A m.l.length m.c) W (HB0.out W hW))
 have HEND:Hid (awDeliver A i=awSends (awKnows (awOut A i) m.tgt gm.frm gm.h0 gm.h1 gm.h2 gm.h3) (missG gm.frm (aMiss ((awOut A i).si m.tgt) gm.h0 gm.h1 gm.h2 gm.h3))):=hidp (by rw [HEQ.out,←HMT.out])
 have HKO:Hid (∀ k,k<n→(k<p∨p+16≤k)→O5 k=O k):=hidp (fun k hk hne=>(k3 k (by omega) hne).trans (HKP.out k hk))
 have HN16:=hidp hn
 clear hz hb5 eS kS k3 HX HBX HKP HEQ hgo hok HMT HML HI lS HV hgm HSQ HB0 hfr
 generalize gm.frm=frm at *
 generalize gm.h0=h0 at *
 generalize gm.h1=h1 at *
 generalize gm.h2=h2 at *
 generalize gm.h3=h3 at *
 generalize m.tgt=tg at *
 have HKN:Hid (∀ Wa,Below W5.heap.size W5 Wa→Calls Tryz.prog 20 #[.pointer (some ⟨x,0,none⟩),.int .i64 (frm:Nat),.agg #[.int .i64 h0,.int .i64 h1,.int .i64 h2,.int .i64 h3]] (Wa.alloc (.cells #[.int .i64 h0,.int .i64 h1,.int .i64 h2,.int .i64 h3] 32)) fun e w'=>e=.returned .nilIface∧∃ O6,O6 (n+1)=obB Wa.heap.size (.cells #[.int .i64 h0,.int .i64 h1,.int .i64 h2,.int .i64 h3] 32) w0.heap.size∧(∀ k,k<n+1→O6 k=O5 k)∧WUpd w0 w' (n+2) O6 p g v.xs v.us (awKnows (awOut A i) tg frm h0 h1 h2 h3)):=hidp (fun Wa hW=>by
  obtain ⟨O6,j1,j2,j3⟩:=(k1.below hW).new1 (.cells #[.int .i64 h0,.int .i64 h1,.int .i64 h2,.int .i64 h3] 32)
  have hp6:=k2.keep (O':=O6) (fun j hj=>j2 _ (by omega))
  refine (hp6.sKnows j1 (by omega) hx frm h0 h1 h2 h3 (by have:=HFR.out;omega)).mono ?_
  rintro e w' ⟨rfl,hU⟩
  exact ⟨rfl,O6,j3,j2,hU⟩)
 have HX0:Hid (v.xs[tg]?=some x):=hidp hx
 have HT0:Hid (tg<(awOut A i).S):=hidp hT
 clear k1 k2 hx hT
 generalize m.l.length=bl at *
 generalize m.A=aB at *
 generalize m.c=cB at *
 clear m gm
 have hf0:decide ((awOut A i).S≤frm)=false:=decide_eq_false (by have:=HFR.out;omega)
 have hf1:decide (((awOut A i).S:Int)≤(frm:Int))=false:=decide_eq_false (by have:=HFR.out;omega)
 generalize hSS:(awOut A i).S=S at *
 have hSS2:=hidp hSS
 clear hSS
 refine wp_region_plus (by kernel_rfl) (by kernel_rfl) ?_
 repeat (first | go_big_quiet_skip | (go_big_quiet_want;go_big_quiet_op;first | go_big_quiet_on))
 refine wpQuiet_nil ?_
 rintro _ ⟨x9,rfl⟩
 go_wp2_with fail
 go_at_call 149
 refine (HDT.out _ zB).mono ?_
 rintro e w6 ⟨rfl,hb6⟩
 obtain ⟨x6,rfl⟩:=wplus_of_below hb6
 clear hb6 HDT
 unfold txZero
 go_wp2_with fail
 go_at_call 150
 refine (HDA.out _ zB).mono ?_
 rintro e w6 ⟨rfl,hb6⟩
 obtain ⟨x7,rfl⟩:=wplus_of_below hb6
 clear hb6 HDA
 go_wp2_with fail
 go_at_call 20
 refine (HKN.out _ zB).mono ?_
 rintro e w8 ⟨rfl,O6,j3,j2,O7,l1,⟨v7,l2,ex,eu⟩,l3⟩
 have hbx:=l1.box (i:=n+1) (by omega) ((l3 (n+1) (by omega) (by omega)).trans j3)
 have HK7:Hid (∀ k,k<n→(k<p∨p+16≤k)→O7 k=O k):=hidp (fun k hk hne=>(l3 k (by omega) hne).trans ((j2 k (by omega)).trans (HKO.out k hk hne)))
 simp only [wplus_size,World.size_alloc,heap_drew] at hbx
 generalize W5.heap.size+x9.blocks.size+x6.blocks.size+1+x7.blocks.size=b10 at *
 have r0:=cell_blk hbx 0;have r1:=cell_blk hbx 1;have r2:=cell_blk hbx 2;have r3:=cell_blk hbx 3
 simp only [zC,zD,zE] at r0 r1 r2 r3
 haveI:SzGe (b10+1) w8:=⟨lt_blk hbx⟩
 have HMS:=hidp (l2.sMissing l1 (by omega) (k:=tg) (by rw [ex];exact HX0.out) h0 h1 h2 h3)
 have HRL:Hid (∀ t∈aMiss ((awKnows (awOut A i) tg frm h0 h1 h2 h3).si tg) h0 h1 h2 h3,rightTx t=true):=hidp (fun t ht=>l2.rlg (k:=tg) (by show tg<(awOut A i).S;rw [hSS2.out];exact HT0.out) t (List.mem_filter.1 ht).1)
 have HMQ:Hid (aMiss ((awKnows (awOut A i) tg frm h0 h1 h2 h3).si tg) h0 h1 h2 h3=aMiss ((awOut A i).si tg) h0 h1 h2 h3):=hidp (by
  unfold awKnows aMiss
  show (fset (awOut A i).si tg _ tg).log.filter _=_
  rw [fset_same];rfl)
 have HL1:=hidp l1
 have HL2:=hidp l2
 have HEX:Hid (v7.xs=v.xs∧v7.us=v.us):=hidp ⟨ex,eu⟩
 have HFS:Hid (frm<(awKnows (awOut A i) tg frm h0 h1 h2 h3).S):=hidp (by show frm<(awOut A i).S;rw [hSS2.out];exact HFR.out.1)
 clear l1 l2 l3 ex eu j2 j3 hbx HKN HX0 HFR HOK HKO
 go_wp2_with fail
 go_at_call 35
 refine HMS.out.mono ?_
 rintro e w9 ⟨Ax,cx,outs,rfl,ho1,ho2,ho3,ho4,hb9⟩
 have m1:=HL1.out.below hb9
 obtain ⟨O8,m2,m3,m4⟩:=m1.lend1 (o:=obTx Ax outs) (obTx_ok ..) ⟨ho2,fun b o e=>(ho3 b o e).2,fun m hm=>⟨(ho4 m hm).1,fun b o e=>((ho4 m hm).2 b o e).2⟩⟩ (fun b e=>e) (fun b k hk e hown=>by
  have hlt:=((HL1.out.ok k hk).lt w8 b (HL1.out.at_ k hk) hown).2
  rcases e with ⟨o,e⟩ | ⟨m,hm,o,e⟩
  ·have:=(ho3 b o e).1;omega
  ·have:=((ho4 m hm).2 b o e).1;omega)
 have m5:=HL2.out.keep (O':=O8) (fun j hj=>m3 _ (by have:=HN16.out;omega))
 have HRT:Hid (∀ m∈outs,rightTx m.t=true):=hidp (fun m hm=>HRL.out _ (by rw [←ho1];exact List.mem_map.2 ⟨m,hm,rfl⟩))
 have HO8:Hid (O8 (n+2)=obTx Ax outs):=hidp m4
 have HK8:Hid (∀ k,k<n→(k<p∨p+16≤k)→O8 k=O k):=hidp (fun k hk hne=>(m3 k (by omega)).trans (HK7.out k hk hne))
 have HST:Hid (WUpd w0 w9 (n+3) O8 p g v7.xs v7.us (awSends (awKnows (awOut A i) tg frm h0 h1 h2 h3) (missG frm ((outs.take 0).map (·.t))))):=hidp ⟨O8,m2,m5.a,fun _ _ _=>rfl⟩
 have HFIN:Hid (∀ W,WUpd w0 W (n+3) O8 p g v7.xs v7.us (awSends (awKnows (awOut A i) tg frm h0 h1 h2 h3) (missG frm ((outs.take outs.length).map (·.t))))→WUpd w0 W n O p g v.xs v.us (awDeliver A i)):=hidp (fun W hW=>by
  rw [HEND.out,←HMQ.out,←ho1]
  rw [List.take_length,HEX.out.1,HEX.out.2] at hW
  exact hW.less (by omega) HK8.out)
 have HLEN:Hid (outs.length≤1000):=hidp (by
  have hq1:=congrArg List.length ho1
  simp only [List.length_map] at hq1
  have hq2:(aMiss ((awKnows (awOut A i) tg frm h0 h1 h2 h3).si tg) h0 h1 h2 h3).length≤((awKnows (awOut A i) tg frm h0 h1 h2 h3).si tg).log.length:=List.length_filter_le _ _
  obtain ⟨x',hx'⟩:=HL2.out.xk (k:=tg) (by show tg<(awOut A i).S;rw [hSS2.out];exact HT0.out)
  obtain ⟨mb,s,lv,sv,_,hf,_⟩:=HL2.out.si tg x' hx'
  have:=hf.len.2
  omega)
 clear HEX HK7 HRL HMQ HL1 HL2 HMS HEND m1 m2 m3 m4 m5 ho1 ho2 ho3 ho4 hb9 HT0 HK8
 obtain ⟨AK,hAK⟩:∃ AK,(awKnows (awOut A i) tg frm h0 h1 h2 h3)=AK:=⟨_,rfl⟩
 rw [hAK] at HST HFIN HFS
 clear hAK
 have hlen:=HLEN.out
 go_wp2_with fail
 go_loopw [91] (fun q W=>∃ j:Nat,q=.int .i64 j∧j≤outs.length∧WUpd w0 W (n+3) O8 p g v7.xs v7.us (awSends AK (missG frm ((outs.take j).map (·.t))))) (fun q _=>outs.length-(Go.RowKit.intOf q).toNat)
 case atStart=>exact ⟨0,rfl,Nat.zero_le _,HST.out⟩
 case round=>
  obtain ⟨j,rfl,hj,hU⟩:=hrel
  clear HST
  have HU:=hidp hU
  clear hU
  by_cases hjl:j<outs.length
  ·have hjm:=List.getElem?_eq_getElem hjl
   have HTK:Hid (outs.take (j+1)=outs.take j++[outs[j]]):=hidp (take_next hjm)
   have hrt:=HRT.out outs[j] (List.getElem_mem hjl)
   obtain ⟨O9,q1,⟨v9,q2,ex9,eu9⟩,q3⟩:=HU.out
   have hat:=q1.at_ (n+2) (by omega)
   rw [q3 (n+2) (by omega) (by have:=HN16.out;omega),HO8.out] at hat
   obtain ⟨t1,t2,t3⟩:=hat
   obtain ⟨bx,ox,eA,hbx,k0,k1,k2,k3,k4,k5,k6,k7,k8⟩:=t1 j outs[j] hjm
   have hws:=(t3 outs[j] (List.getElem_mem hjl)).1
   generalize outs[j]=mm at *
   obtain ⟨⟨site,seq,wall,count,d0',d1',d2',d3',tws⟩,tA,tc⟩:=mm
   simp only at k0 k1 k2 k3 k4 k5 k6 k7 k8 hws hrt
   have HET:=hidp (fun W (hW:Below wr.heap.size wr W)=>encTx_good ⟨site,seq,wall,count,d0',d1',d2',d3',tws⟩ tA tc W hrt (hws.below hW))
   have HSD:Hid (∀ W (v':Value),Below wr.heap.size wr W→BsVal W W.heap.size v' (txB ⟨site,seq,wall,count,d0',d1',d2',d3',tws⟩)→Calls Tryz.prog 147 #[.pointer (some ⟨g,0,none⟩),.int .i64 (frm:Int),v'] W fun e w'=>e=.returned (.tuple #[])∧WUpd w0 w' (n+3) O8 p g v7.xs v7.us (awSend (awSends AK (missG frm ((outs.take j).map (·.t)))) ⟨frm,⟨site,seq,wall,count,d0',d1',d2',d3',tws⟩,0,0,0,0,0⟩)):=hidp (by
    intro W v' hW hv
    obtain ⟨A',c',rfl,_⟩:=id hv
    have hs1:0<seq:=by have hq0:1≤seq:=(rightTx_parts hrt).2.1.1;omega
    have hq1:=wSend_any q2 (q1.below hW) (by have:=HN16.out;omega) ⟨frm,⟨site,seq,wall,count,d0',d1',d2',d3',tws⟩,0,0,0,0,0⟩ ⟨by show frm<(awSends AK _).S;rw [(awSends_eq _ AK).1];exact HFS.out,fun _=>hrt,fun e=>absurd hs1 e⟩ A' c' (by rw [gmB_tx (gm:=⟨frm,⟨site,seq,wall,count,d0',d1',d2',d3',tws⟩,0,0,0,0,0⟩) hs1];exact hv)
    rw [gmB_tx (gm:=⟨frm,⟨site,seq,wall,count,d0',d1',d2',d3',tws⟩,0,0,0,0,0⟩) hs1,ex9,eu9] at hq1
    refine hq1.mono ?_
    rintro e w' ⟨hq2,hq3⟩
    exact ⟨hq2,WUpd.next q3 hq3⟩)
   subst eA
   haveI:SzGe (bx+1) wr:=⟨hbx⟩
   clear hjm hrt q1 q2 q3 ex9 eu9 t1 t2 t3 hws hbx
   have hj0:(0:Int)≤(j:Int):=by omega
   have hj1:(j:Int)<(outs.length:Int):=by omega
   have hj2:(j:Int)<1000:=by omega
   by_cases hsf:site=(frm:Int)
   ·have e1:(site==(frm:Int))=true:=by simp [hsf]
    have HNX:Hid (missG frm ((outs.take (j+1)).map (·.t))=missG frm ((outs.take j).map (·.t))):=hidp (by rw [HTK.out,List.map_append,List.map_cons,List.map_nil,missG_app,if_neg (by simp [hsf])];simp)
    clear hsf HTK HSD HET
    go_wp2_with fail
    go_roundw
    case rel=>exact ⟨j+1,by go_num,by omega,by rw [HNX.out];exact HU.out.then zB⟩
    case measure=>simp [Go.RowKit.intOf];omega
   ·have e1:(site==(frm:Int))=false:=by simp [hsf]
    have HNX:Hid (awSends AK (missG frm ((outs.take (j+1)).map (·.t)))=awSend (awSends AK (missG frm ((outs.take j).map (·.t)))) ⟨frm,⟨site,seq,wall,count,d0',d1',d2',d3',tws⟩,0,0,0,0,0⟩):=hidp (by rw [HTK.out,List.map_append,List.map_cons,List.map_nil,missG_app,if_pos (by simp [hsf]),awSends_one])
    clear hsf HTK
    generalize awSend (awSends AK (missG frm ((outs.take j).map (·.t)))) ⟨frm,⟨site,seq,wall,count,d0',d1',d2',d3',tws⟩,0,0,0,0,0⟩=AN at *
    go_wp2_with fail
    go_at_call 146
    refine (HET.out _ zB).mono ?_
    rintro e w10 ⟨v',rfl,hb10,hown⟩
    have HB10:=hidp hb10
    have HBS:=hidp (own_bs hown rfl).1
    clear hb10 hown HET
    go_wp2_with fail
    go_at_call 147
    refine (HSD.out _ _ (Below.trans (show Below wr.heap.size wr (wr.alloc _) from zB) (HB10.out.mono (by simp))) HBS.out).mono ?_
    rintro e w11 ⟨rfl,hU⟩
    have HU2:=hidp hU
    clear hU HSD HBS HB10
    go_wp2_with fail
    go_roundw
    case rel=>exact ⟨j+1,by go_num,by omega,by rw [HNX.out];exact HU2.out⟩
    case measure=>simp [Go.RowKit.intOf];omega
  ·obtain rfl:j=outs.length:=by omega
   clear hjl hj
   go_wp2_with fail
   go_ret
   exact ⟨rfl,HFIN.out _ (HU.out.then zB)⟩
end
end Go.Proofs.YtbopfhbeegkkaabGreatDoor
