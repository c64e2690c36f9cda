/- Part 12 of a proof: lemmas and contracts that other parts use. -/
import Derived.Test.YtbopfhbeegkkaabGreatDoorCa11
import Derived.Test.YtbopfhbeegkkaabGreatDoorCa5
import Derived.Test.YtbopfhbeegkkaabGreatDoorCa8
import Derived.Test.YtbopfhbeegkkaabGreatDoorCa3
import Derived.Test.YtbopfhbeegkkaabGreatDoorCa2
set_option linter.unusedVariables false
set_option linter.unusedSimpArgs false
namespace Go.Proofs.YtbopfhbeegkkaabGreatDoor
open Go.RowKit
theorem ws_cells {w:World} {b:Nat}:∀ {ws:List WrP} {o:Nat},WsAt w (some ⟨b,o,none⟩) ws→∀ (j:Nat) (u:Value),(wrCells ws)[j]?=some u→w.cell? ⟨b,o+j,none⟩=some u
 | [],o,h,j,u,hu=>by simp [wrCells] at hu
 | x::l,o,h,j,u,hu=>by
   have h0:=h 0 x rfl
   obtain ⟨b',o',e,_,c0,c1,c2⟩:=h0
   obtain ⟨rfl,rfl⟩:b'=b∧o'=o:=by simp at e;exact ⟨e.1.symm,e.2.symm⟩
   have hl:WsAt w (some ⟨b',o'+3,none⟩) l:=fun i y hy=>by
    obtain ⟨b2,o2,e2,hlt,k0,k1,k2⟩:=h (i+1) y (by simpa using hy)
    obtain ⟨rfl,rfl⟩:b2=b'∧o2=o':=by simp at e2;exact ⟨e2.1.symm,e2.2.symm⟩
    rw [show o2+(i+1)*3=o2+3+i*3 by omega] at k0 k1 k2
    exact ⟨b2,o2+3,rfl,hlt,k0,k1,k2⟩
   match j,hu with
   | 0,hu=>simp [wrCells] at hu;subst hu;simpa using c0
   | 1,hu=>simp [wrCells] at hu;subst hu;simpa using c1
   | 2,hu=>simp [wrCells] at hu;subst hu;simpa using c2
   | j+3,hu=>
     have:=ws_cells hl j u (by simpa [wrCells] using hu)
     rw [show o'+(j+3)=o'+3+j by omega]
     exact this
theorem wrCells_one (ws:List WrP):∀ u∈wrCells ws,u.oneCell'=true:=by
 intro u hu
 simp only [wrCells,List.mem_flatMap] at hu
 obtain ⟨x,_,hx⟩:=hu
 simp at hx
 rcases hx with rfl | rfl | rfl <;> rfl
theorem info115o:(Tryz.prog.info? 83).map (fun i=>(i.zero,i.size,i.bytes))=some (some (.agg #[.int .i64 0,.string ⟨#[]⟩,.bool false]),3,32):=by kernel_rfl
theorem info115:∃ i,Tryz.prog.info? 83=some i∧i.zero=some (.agg #[.int .i64 0,.string ⟨#[]⟩,.bool false])∧i.size=3∧i.bytes=32:=by
 obtain ⟨i,hi,h⟩:=Option.map_eq_some_iff.1 info115o
 simp only [Prod.mk.injEq] at h
 exact ⟨i,hi,h.1,h.2.1,h.2.2⟩
@[go_sem] theorem eqNil38 (w:World) (a:Addr) (n c:Nat):Sem.run Tryz.prog (binOp BinOp.eql 42 (.slice (some a) n c) (.slice none 0 0)) w=.ok (.bool false) w:=by kernel_rfl
set_option maxRecDepth 20000 in
set_option maxHeartbeats 4000000 in
theorem sclone_any (A:Option Addr) (c:Nat) (ws:List WrP) (w:World) (hws:WsAt w A ws) (h0:0<ws.length) (hn:ws.length≤1000):
  Calls Tryz.prog 79 #[.slice A ws.length c] w fun e w'=>∃ A' c',e=.returned (.slice A' ws.length c')∧WsAt w' A' ws∧Below w.heap.size w w'∧∃ b,A'=some ⟨b,0,none⟩∧w.heap.size≤b:=by
 have HWS:=hidp hws
 obtain ⟨b,o,rfl,hb,_⟩:=hws 0 ws[0] (List.getElem?_eq_getElem h0)
 clear hws
 obtain ⟨i0,hi0,hz0,hz1,hz2⟩:=info115
 haveI:SzGe (b+1) w:=⟨hb⟩
 go_enter Tryz.func79,Tryz.ntmps79
 have hcells:=ws_cells HWS.out
 have HNW:Hid (∀ (W:World),Below w.heap.size w W→∀ (j:Nat) (u:Value),(wrCells ws)[j]?=some u→W.cell? ((⟨b,o,none⟩:Addr).add j)=some u):=hidp (by
  intro W hB j u hu
  have e:(⟨b,o,none⟩:Addr).add j=⟨b,o+j,none⟩:=by unfold Addr.add;split <;> simp_all
  rw [e,hB.cell (p:=⟨b,o+j,none⟩) hb]
  exact hcells j u hu)
 have HLN:=hidp (wrCells_len ws)
 have h63:0+ws.length≤maxLen:=by refine Nat.le_trans ?_ maxLen_ge;omega
 have hby:(0+ws.length)*32≤140737488355328:=by omega
 clear hcells
 go_wp2_with (at_builtin;go_must (refine wpList_append_lies _ rfl _ _ 42 rfl w.heap.size 83 i0 (.agg #[.int .i64 0,.string ⟨#[]⟩,.bool false]) 3 32 Tryz.underlying42 hi0 hz0 hz1 hz2 rfl (by decide) (.slice (some ⟨w.heap.size,0,none⟩) 0 0) 0 [] rfl ⟨rfl,.inr ⟨w.heap.size,0,#[],rfl,Nat.le_refl _,by rw [heap_alloc,if_pos rfl],Nat.le_refl _,by simp only [maxLen];omega,rfl,rfl⟩⟩ ⟨b,o,none⟩ ws.length c (wrCells ws) rfl HLN.out (HNW.out _ (blw_alloc (Below.refl _ _))) (wrCells_one ws) h0 h63 hby (by simp) _ rfl ?_))
 intro g1 cap1 w1 hown1 hgrow hgl hlt1
 try simp only [Nat.zero_add,List.nil_append] at hown1
 have hb1:Below w.heap.size w w1:=Below.grown (show Below w.heap.size w (w.alloc (Obj.cells #[] 83)) from blw_alloc (Below.refl _ _)) hgrow (by simp) (fun j e=>by simp [Value.ownBlock] at e;omega)
 have HR:Hid (WsAt w1 (some ⟨g1,0,none⟩) ws∧Below w.heap.size w w1∧w.heap.size≤g1):=hidp ⟨own_ws hown1,hb1,(own_ge hown1 rfl).1⟩
 clear hown1 hgrow hgl hlt1 hb1
 try simp only [Nat.zero_add]
 go_wp2_with fail
 go_ret
 exact ⟨_,_,rfl,HR.out.1,HR.out.2.1,g1,rfl,HR.out.2.2⟩
theorem wplus_heap_ge (w:World) (x:Tail) (k:Nat) (h:w.heap.size≤k):(wplus w x).heap[k]?=x.blocks[k-w.heap.size]?:=by
 simp only [wplus];rw [Array.getElem?_append_right h]
theorem WsAt.move {w w':World} {A:Option Addr} {ws:List WrP} (h:WsAt w A ws) (hb:∀ b o,A=some ⟨b,o,none⟩→w'.heap[b]?=w.heap[b]?):WsAt w' A ws:=fun i x hx=>by
 obtain ⟨b,o,hA,hlt,h0,h1,h2⟩:=h i x hx
 have e:=hb b o hA
 have e0:∀ j,w'.cell? ⟨b,j,none⟩=w.cell? ⟨b,j,none⟩:=fun j=>World.cell?_of_block e
 refine ⟨b,o,hA,?_,by rw [e0];exact h0,by rw [e0];exact h1,by rw [e0];exact h2⟩
 have:=World.block_lt_of_cell? w' _ ((e0 _).trans h0)
 exact this
structure MTx where
 t:TxP
 A:Option Addr
 c:Nat
def MTx.cells (m:MTx):List Value:=[.int .i64 m.t.site,.int .i64 m.t.seq,.int .i64 m.t.wall,.int .i64 m.t.count,.int .i64 m.t.d0,.int .i64 m.t.d1,.int .i64 m.t.d2,.int .i64 m.t.d3,.slice m.A m.t.ws.length m.c]
def MTx.val (m:MTx):Value:=.agg #[.int .i64 m.t.site,.int .i64 m.t.seq,.int .i64 m.t.wall,.int .i64 m.t.count,.int .i64 m.t.d0,.int .i64 m.t.d1,.int .i64 m.t.d2,.int .i64 m.t.d3,.slice m.A m.t.ws.length m.c]
theorem cell9 {w:World} {b:Nat} {x0 x1 x2 x3 x4 x5 x6 x7 x8:Value} {t:TypeId} (h:w.heap[b]?=some (.cells #[x0,x1,x2,x3,x4,x5,x6,x7,x8] t)):
  w.cell? ⟨b,0,none⟩=some x0∧w.cell? ⟨b,1,none⟩=some x1∧w.cell? ⟨b,2,none⟩=some x2∧w.cell? ⟨b,3,none⟩=some x3∧w.cell? ⟨b,4,none⟩=some x4∧w.cell? ⟨b,5,none⟩=some x5∧w.cell? ⟨b,6,none⟩=some x6∧w.cell? ⟨b,7,none⟩=some x7∧w.cell? ⟨b,8,none⟩=some x8:=
 ⟨cell_blk h 0,cell_blk h 1,cell_blk h 2,cell_blk h 3,cell_blk h 4,cell_blk h 5,cell_blk h 6,cell_blk h 7,cell_blk h 8⟩
set_option maxRecDepth 20000 in
set_option maxHeartbeats 4000000 in
theorem clone_any (t:TxP) (A:Option Addr) (c:Nat) (w:World) (hws:WsAt w A t.ws) (h0:0<t.ws.length) (hn:t.ws.length≤1000):
  Calls Tryz.prog 81 #[MTx.val ⟨t,A,c⟩] w fun e w'=>∃ A' c',e=.returned (MTx.val ⟨t,A',c'⟩)∧WsAt w' A' t.ws∧Below w.heap.size w w'∧∃ b,A'=some ⟨b,0,none⟩∧w.heap.size≤b:=by
 have HC:=hidp fun w' (hb:Below w.heap.size w w')=>sclone_any A c t.ws w' (hws.below hb) h0 hn
 unfold MTx.val
 obtain ⟨site,seq,wall,count,d0,d1,d2,d3,ws⟩:=t
 simp only at *
 clear hws
 go_enter Tryz.func81,Tryz.ntmps81
 go_wp2_with fail
 go_at_call 79
 refine (HC.out _ zB).mono ?_
 rintro e w1 ⟨A',c',rfl,hw1,hb1,b,rfl,hbb⟩
 have HW:=hidp hw1
 obtain ⟨x,rfl⟩:=wplus_of_below hb1
 clear hw1 hb1
 have HB2:=hidp hbb
 clear hbb
 go_wp2_with fail
 have hbb:=HB2.out
 simp at hbb
 refine bodyPost_ret (v:=MTx.val ⟨⟨site,seq,wall,count,d0,d1,d2,d3,ws⟩,some ⟨b,0,none⟩,c'⟩) ?_ rfl ⟨some ⟨b,0,none⟩,c',rfl,?_,?_,b,rfl,by omega⟩
 ·simp [results,Tryz.results81,go_sem,MTx.val]
 ·refine HW.out.move ?_
  intro b' o' e
  obtain ⟨rfl,rfl⟩:b'=b∧o'=0:=by simp at e;exact ⟨e.1.symm,e.2.symm⟩
  rw [wplus_heap_ge _ _ _ (by simp;omega),wplus_heap_ge _ _ _ (by simp;omega)]
  simp
 ·repeat (first | exact Below.refl _ _ | refine blw_alloc ?_ | refine blw_plus ?_ | refine Below.drew ?_)
structure SiP where
 id:Int
 p0:Int
 p1:Int
 p2:Int
 p3:Int
 lw:Int
 lc:Int
 log:List MTx
 wt:Int→Int→Option MTx
 wn:Nat
 st:Nat→List VerP
 ot:Nat→Int
def SiOwn (x mb:Nat) (lv:Value) (sv:Nat→Value) (b:Nat):Prop:=b=x∨b=mb∨lv.ownBlock=some b∨∃ k,k<8∧(sv k).ownBlock=some b
def SiP.has (s:SiP) (m:MTx):Prop:=m∈s.log∨∃ a b,s.wt a b=some m
structure SiAt (w:World) (B x:Nat) (s:SiP) (mb:Nat) (lv:Value) (sv:Nat→Value):Prop where
 c0:w.cell? ⟨x,0,none⟩=some (.int .i64 s.id)
 c1:w.cell? ⟨x,1,none⟩=some (.int .i64 s.p0)
 c2:w.cell? ⟨x,2,none⟩=some (.int .i64 s.p1)
 c3:w.cell? ⟨x,3,none⟩=some (.int .i64 s.p2)
 c4:w.cell? ⟨x,4,none⟩=some (.int .i64 s.p3)
 c5:w.cell? ⟨x,5,none⟩=some (.int .i64 s.lw)
 c6:w.cell? ⟨x,6,none⟩=some (.int .i64 s.lc)
 c7:w.cell? ⟨x,7,none⟩=some lv
 c8:w.cell? ⟨x,8,none⟩=some (.map (some mb))
 oth:∀ k,k<16→w.cell? ⟨x,17+k,none⟩=some (.int .i64 (s.ot k))
 frz:∀ k,w.frozen? ⟨x,k,none⟩=false
 sto:StAt w x 9 B s.st sv
 row:w.ownsRow B 44 9 lv s.log.length (s.log.flatMap MTx.cells)
 map:MpAt w mb (fun a b=>(s.wt a b).map MTx.val) s.wn
 bx:B≤x
 bm:B≤mb
 dxm:mb≠x
 dxl:lv.ownBlock≠some x
 dml:lv.ownBlock≠some mb
 dms:∀ k,k<8→(sv k).ownBlock≠some mb
 dls:∀ k,k<8→∀ b,lv.ownBlock=some b→(sv k).ownBlock≠some b
 dat:∀ m,s.has m→WsAt w m.A m.t.ws∧∀ b o,m.A=some ⟨b,o,none⟩→b<w.heap.size∧¬SiOwn x mb lv sv b
structure SiFr (w w':World) (own own':Nat→Prop):Prop where
 os:w'.os=w.os
 tape:w'.tape=w.tape
 output:w'.output=w.output
 size:w.heap.size≤w'.heap.size
 block:∀ k,k<w.heap.size→¬own k→w'.heap[k]?=w.heap[k]?
 own:∀ b,own' b→own b∨w.heap.size≤b
theorem SiAt.lt {w:World} {B x mb:Nat} {s:SiP} {lv:Value} {sv:Nat→Value} (h:SiAt w B x s mb lv sv) {b:Nat} (hb:SiOwn x mb lv sv b):B≤b∧b<w.heap.size:=by
 rcases hb with rfl | rfl | hb | ⟨k,hk,hb⟩
 ·exact ⟨h.bx,h.sto.lt⟩
 ·exact ⟨h.bm,h.map.lt⟩
 ·exact own_ge h.row hb
 ·exact own_ge (h.sto.own k hk) hb
theorem WsAt.keep {w w':World} {A:Option Addr} {ws:List WrP} (h:WsAt w A ws) (hb:∀ b o,A=some ⟨b,o,none⟩→w'.heap[b]?=w.heap[b]?):WsAt w' A ws:=h.move hb
theorem SiAt.same {w w':World} {B x mb:Nat} {s:SiP} {lv:Value} {sv:Nat→Value} (h:SiAt w B x s mb lv sv) (hsz:w.heap.size≤w'.heap.size) (ho:∀ b,SiOwn x mb lv sv b→w'.heap[b]?=w.heap[b]?)
  (hd:∀ m,s.has m→∀ b o,m.A=some ⟨b,o,none⟩→w'.heap[b]?=w.heap[b]?):SiAt w' B x s mb lv sv:=by
 have hx:=ho x (.inl rfl)
 have hc:∀ k,w'.cell? ⟨x,k,none⟩=w.cell? ⟨x,k,none⟩:=fun k=>World.cell?_of_block hx
 have hf:∀ k,w'.frozen? ⟨x,k,none⟩=w.frozen? ⟨x,k,none⟩:=fun k=>World.frozen?_of_block hx
 have hrow:∀ {e n z:Nat} {v:Value} {xs:List Value},w.ownsRow B e z v n xs→(∀ b,v.ownBlock=some b→w'.heap[b]?=w.heap[b]?)→w'.ownsRow B e z v n xs:=by
  intro e n z v xs h1 h2
  obtain ⟨hl,hn | ⟨g,cap,cur,hv,hb,hg,rest⟩⟩:=h1
  ·exact ⟨hl,.inl hn⟩
  ·exact ⟨hl,.inr ⟨g,cap,cur,hv,hb,by rw [h2 g (by rw [hv];rfl)];exact hg,rest⟩⟩
 refine ⟨(hc 0).trans h.c0,(hc 1).trans h.c1,(hc 2).trans h.c2,(hc 3).trans h.c3,(hc 4).trans h.c4,(hc 5).trans h.c5,(hc 6).trans h.c6,(hc 7).trans h.c7,(hc 8).trans h.c8,fun k hk=>(hc _).trans (h.oth k hk),fun k=>(hf k).trans (h.frz k),?_,?_,?_,h.bx,h.bm,h.dxm,h.dxl,h.dml,h.dms,h.dls,?_⟩
 ·exact ⟨Nat.lt_of_lt_of_le h.sto.lt hsz,fun k hk=>(hc _).trans (h.sto.cel k hk),fun k hk=>(hf _).trans (h.sto.frz k hk),fun k hk=>hrow (h.sto.own k hk) (fun b e=>ho b (.inr (.inr (.inr ⟨k,hk,e⟩)))),h.sto.ng,h.sto.dis⟩
 ·exact hrow h.row (fun b e=>ho b (.inr (.inr (.inl e))))
 ·exact h.map.block (ho mb (.inr (.inl rfl)))
 ·intro m hm
  obtain ⟨h1,h2⟩:=h.dat m hm
  exact ⟨h1.keep (hd m hm),fun b o e=>⟨Nat.lt_of_lt_of_le (h2 b o e).1 hsz,(h2 b o e).2⟩⟩
theorem SiAt.below {w w':World} {B x mb:Nat} {s:SiP} {lv:Value} {sv:Nat→Value} (h:SiAt w B x s mb lv sv) (hb:Below w.heap.size w w'):SiAt w' B x s mb lv sv:=
 h.same hb.size (fun b hb'=>hb.block b (h.lt hb').2) (fun m hm b o e=>hb.block b ((h.dat m hm).2 b o e).1)
theorem SiFr.of_below {w w':World} (own:Nat→Prop) (hb:Below w.heap.size w w'):SiFr w w' own own:=
 ⟨hb.os,hb.tape,hb.output,hb.size,fun k hk _=>hb.block k hk,fun _ h=>.inl h⟩
theorem SiFr.trans {w W W':World} {o1 o2 o3:Nat→Prop} (h:SiFr w W o1 o2) (h2:SiFr W W' o2 o3):SiFr w W' o1 o3:=
 ⟨h2.os.trans h.os,h2.tape.trans h.tape,h2.output.trans h.output,Nat.le_trans h.size h2.size,
  fun k hk hn=>(h2.block k (Nat.lt_of_lt_of_le hk h.size) (fun e=>(h.own k e).elim hn (fun e2=>absurd hk (by omega)))).trans (h.block k hk hn),
  fun b hb=>(h2.own b hb).elim (h.own b) (fun e=>.inr (Nat.le_trans h.size e))⟩
set_option maxHeartbeats 400000 in
theorem max1_any (a b:Int) (w:World):
  Calls Tryz.prog 139 #[.int .i64 a,.int .i64 b] w fun e w'=>e=.returned (.int .i64 (max a b))∧w=w':=by
 rcases Int.le_total a b with h | h
 ·rw [Int.max_eq_right h]
  by_cases h1:a<b
  all_goals
   go_enter Tryz.func139,Tryz.ntmps139
   go_wp2
   all_goals go_ret
   all_goals exact ⟨by simp;try omega,rfl⟩
 ·rw [Int.max_eq_left h]
  by_cases h1:b<a
  all_goals
   go_enter Tryz.func139,Tryz.ntmps139
   go_wp2
   all_goals go_ret
   all_goals exact ⟨by simp;try omega,rfl⟩
set_option maxHeartbeats 1000000 in
theorem eachMax_any (a0 a1 a2 a3 b0 b1 b2 b3:Int) (w:World):
  Calls Tryz.prog 138 #[.agg #[.int .i64 a0,.int .i64 a1,.int .i64 a2,.int .i64 a3],.agg #[.int .i64 b0,.int .i64 b1,.int .i64 b2,.int .i64 b3],.func (.func 139) #[] #[]] w
   fun e w'=>e=.returned (.agg #[.int .i64 (max a0 b0),.int .i64 (max a1 b1),.int .i64 (max a2 b2),.int .i64 (max a3 b3)])∧Below w.heap.size w w':=by
 go_enter Tryz.func138,Tryz.ntmps138
 go_wp2
 refine wp_loop_rounds 5 ?_
 rw [rounds_succ]
 go_wp2
 refine wp_region_plus_tail 10 (by kernel_rfl) (by kernel_rfl) ?_
 simp only [List.take_succ_cons,List.take_zero,List.drop_succ_cons,List.drop_zero]
 repeat (first | go_big_quiet_skip | (go_big_quiet_want;go_big_quiet_op;first | go_big_quiet_on | (apply Exists.intro;refine ⟨fun _=>Calls.plus_same (max1_any _ _ _),?_⟩;go_big_quiet_on)))
 refine wpQuiet_nil ?_
 rintro _ ⟨x0,rfl⟩
 go_wp2
 rw [rounds_succ]
 go_wp2
 refine wp_region_plus_tail 10 (by kernel_rfl) (by kernel_rfl) ?_
 simp only [List.take_succ_cons,List.take_zero,List.drop_succ_cons,List.drop_zero]
 repeat (first | go_big_quiet_skip | (go_big_quiet_want;go_big_quiet_op;first | go_big_quiet_on | (apply Exists.intro;refine ⟨fun _=>Calls.plus_same (max1_any _ _ _),?_⟩;go_big_quiet_on)))
 refine wpQuiet_nil ?_
 rintro _ ⟨x1,rfl⟩
 go_wp2
 rw [rounds_succ]
 go_wp2
 refine wp_region_plus_tail 10 (by kernel_rfl) (by kernel_rfl) ?_
 simp only [List.take_succ_cons,List.take_zero,List.drop_succ_cons,List.drop_zero]
 repeat (first | go_big_quiet_skip | (go_big_quiet_want;go_big_quiet_op;first | go_big_quiet_on | (apply Exists.intro;refine ⟨fun _=>Calls.plus_same (max1_any _ _ _),?_⟩;go_big_quiet_on)))
 refine wpQuiet_nil ?_
 rintro _ ⟨x2,rfl⟩
 go_wp2
 rw [rounds_succ]
 go_wp2
 refine wp_region_plus_tail 10 (by kernel_rfl) (by kernel_rfl) ?_
 simp only [List.take_succ_cons,List.take_zero,List.drop_succ_cons,List.drop_zero]
 repeat (first | go_big_quiet_skip | (go_big_quiet_want;go_big_quiet_op;first | go_big_quiet_on | (apply Exists.intro;refine ⟨fun _=>Calls.plus_same (max1_any _ _ _),?_⟩;go_big_quiet_on)))
 refine wpQuiet_nil ?_
 rintro _ ⟨x3,rfl⟩
 go_wp2
 rw [rounds_succ]
 go_wp2
 exact bodyPost_ret (v:=.agg #[.int .i64 (max a0 b0),.int .i64 (max a1 b1),.int .i64 (max a2 b2),.int .i64 (max a3 b3)]) (by simp [results,Tryz.results138,go_sem]) rfl ⟨rfl,zB⟩
set_option maxHeartbeats 400000 in
theorem vMax_any (a0 a1 a2 a3 b0 b1 b2 b3:Int) (w:World):
  Calls Tryz.prog 87 #[.agg #[.int .i64 a0,.int .i64 a1,.int .i64 a2,.int .i64 a3],.agg #[.int .i64 b0,.int .i64 b1,.int .i64 b2,.int .i64 b3]] w
   fun e w'=>e=.returned (.agg #[.int .i64 (max a0 b0),.int .i64 (max a1 b1),.int .i64 (max a2 b2),.int .i64 (max a3 b3)])∧Below w.heap.size w w':=by
 go_enter Tryz.func87,Tryz.ntmps87
 go_wp2_with (go_at_call 138;refine (eachMax_any _ _ _ _ _ _ _ _ _).mono ?_;rintro e w' ⟨rfl,hb⟩;obtain ⟨x,rfl⟩:=wplus_of_below hb;clear hb)
 exact bodyPost_ret (v:=.agg #[.int .i64 (max a0 b0),.int .i64 (max a1 b1),.int .i64 (max a2 b2),.int .i64 (max a3 b3)]) (by simp [results,Tryz.results87,go_sem]) rfl ⟨rfl,zB⟩
def pickN (a:Int) (n:Nat):Nat:=(IntKind.u64.wrap a).toNat % n
theorem pickN_lt (a:Int) {n:Nat} (hn:0<n):pickN a n<n:=Nat.mod_lt _ hn
theorem pick_is (a:Int) (n:Nat) (w:World) (hn:0<n) (hn2:n≤1000000):
  Calls Tryz.prog 105 #[.int .i64 a,.int .i64 n] w fun e w'=>e=.returned (.int .i64 (pickN a n))∧w=w':=by
 go_enter Tryz.func105,Tryz.ntmps105
 go_wp2
 go_ret
 have h1:0≤IntKind.u64.wrap a:=by simp [IntKind.wrap,IntKind.signed,IntKind.bits];omega
 obtain ⟨x,hx⟩:=Int.eq_ofNat_of_zero_le h1
 have h2:(IntKind.u64.wrap a).tmod (n:Int)=((x % n:Nat):Int):=by rw [hx];rfl
 have h3:x % n<n:=Nat.mod_lt _ hn
 have h5:pickN a n=x % n:=by unfold pickN;rw [hx];rfl
 refine ⟨?_,rfl⟩
 have h4:wrap64 ((x % n:Nat):Int)=((x % n:Nat):Int):=by unfold wrap64;omega
 rw [h2,h4,h5]
 rfl
theorem tell_any (n:Int) (w:World) (hg:EType w):Calls Tryz.prog 61 #[errV n] w fun e w'=>e=.returned (.int .i64 n)∧Below w.heap.size w w':=by
 unfold errV
 split
 ·rename_i h
  subst h
  exact (tell_nil w).mono fun e w' ⟨h1,h2⟩=>⟨h1,h2 ▸ Below.refl _ _⟩
 ·exact tell_errno n w hg
def covD (a0 a1 a2 a3 b0 b1 b2 b3:Int):Bool:=decide (b0≤a0)&&decide (b1≤a1)&&decide (b2≤a2)&&decide (b3≤a3)
theorem max_beq (a b:Int):(max a b==a)=decide (b≤a):=by
 rw [Bool.eq_iff_iff]
 simp
 omega
set_option maxHeartbeats 2000000 in
theorem covers_any (a0 a1 a2 a3 b0 b1 b2 b3:Int) (w:World):
  Calls Tryz.prog 55 #[.agg #[.int .i64 a0,.int .i64 a1,.int .i64 a2,.int .i64 a3],.agg #[.int .i64 b0,.int .i64 b1,.int .i64 b2,.int .i64 b3]] w
   fun e w'=>e=.returned (.bool (covD a0 a1 a2 a3 b0 b1 b2 b3))∧Below w.heap.size w w':=by
 have HM:=hidp fun w=>vMax_any a0 a1 a2 a3 b0 b1 b2 b3 w
 have HE:Hid ((max a0 b0==a0&&max a1 b1==a1&&max a2 b2==a2&&max a3 b3==a3)=covD a0 a1 a2 a3 b0 b1 b2 b3):=hidp (by unfold covD;rw [max_beq,max_beq,max_beq,max_beq])
 generalize max a0 b0=m0 at *
 generalize max a1 b1=m1 at *
 generalize max a2 b2=m2 at *
 generalize max a3 b3=m3 at *
 go_enter Tryz.func55,Tryz.ntmps55
 go_wp2_with fail
 refine wp_region_plus (by kernel_rfl) (by kernel_rfl) ?_
 repeat (first | go_big_quiet_skip | (go_big_quiet_want;go_big_quiet_op;first | go_big_quiet_on | (apply Exists.intro;refine ⟨fun _=>?_,?_⟩;(go_at_call 87;exact Calls.plus_of (HM.out _));go_big_quiet_on)))
 refine wpQuiet_nil ?_
 rintro _ ⟨x3,rfl⟩
 go_wp2_with fail
 go_ret
 exact ⟨by rw [←HE.out];rfl,zB⟩
theorem SiAt.vec {w:World} {B x mb:Nat} {s:SiP} {lv:Value} {sv:Nat→Value} (h:SiAt w B x s mb lv sv):w.cell? ⟨x,1,none⟩=some (.int .i64 s.p0)∧w.cell? ⟨x,1+1,none⟩=some (.int .i64 s.p1)∧w.cell? ⟨x,1+2,none⟩=some (.int .i64 s.p2)∧w.cell? ⟨x,1+3,none⟩=some (.int .i64 s.p3):=⟨h.c1,h.c2,h.c3,h.c4⟩
set_option maxHeartbeats 2000000 in
theorem applied_any (B x mb:Nat) (s:SiP) (lv:Value) (sv:Nat→Value) (w:World) (h:SiAt w B x s mb lv sv):
  Calls Tryz.prog 26 #[.pointer (some ⟨x,0,none⟩)] w fun e w'=>e=.returned (.agg #[.int .i64 s.p0,.int .i64 s.p1,.int .i64 s.p2,.int .i64 s.p3])∧Below w.heap.size w w':=by
 have c1:=h.c1;have c2:=h.c2;have c3:=h.c3;have c4:=h.c4
 haveI:SzGe (x+1) w:=⟨h.sto.lt⟩
 clear h
 go_enter Tryz.func26,Tryz.ntmps26
 go_wp2_with fail
 refine bodyPost_ret (v:=.agg #[.int .i64 s.p0,.int .i64 s.p1,.int .i64 s.p2,.int .i64 s.p3]) (by simp [results,Tryz.results26,go_sem]) rfl ⟨rfl,zB⟩
set_option maxHeartbeats 2000000 in
theorem waits_any (B x mb:Nat) (s:SiP) (lv:Value) (sv:Nat→Value) (w:World) (h:SiAt w B x s mb lv sv):
  Calls Tryz.prog 27 #[.pointer (some ⟨x,0,none⟩)] w fun e w'=>e=.returned (.int .i64 s.wn)∧Below w.heap.size w w':=by
 have c8:=h.c8
 have hl:∀ ty,(Builtin.len_ #[141] ty #[.map (some mb)]).run Tryz.prog w=.ok (.int .i64 s.wn) w:=fun ty=>h.map.len ty
 haveI:SzGe (x+1) w:=⟨h.sto.lt⟩
 clear h
 go_enter Tryz.func27,Tryz.ntmps27
 go_wp2_with fail
 go_ret
 exact ⟨rfl,zB⟩
theorem own_nil' (w:World) (n:Nat):w.ownsRow n 59 6 (.slice none 0 0) 0 []:=⟨rfl,.inl ⟨rfl,rfl⟩⟩
def DatOk (S:Nat→List VerP):Prop:=∀ k,k<8→∀ v∈S k,v.data.size≤12
theorem read_data {S:Nat→List VerP} (h:DatOk S) (a0 a1 a2 a3 key:Int):(readR a0 a1 a2 a3 S key).1.data.size≤12:=by
 have hz:verZ.data.size≤12:=by decide
 unfold readR
 split
 ·exact hz
 ·rename_i hk
  split
  ·rename_i v hf
   split
   ·exact hz
   ·exact h key.toNat (by omega) v (List.mem_reverse.1 (List.mem_of_find?_eq_some hf))
  ·exact hz
set_option maxHeartbeats 2000000 in
theorem siteAll_any (B x mb:Nat) (s:SiP) (lv:Value) (sv:Nat→Value) (w:World) (h:SiAt w B x s mb lv sv) (hf:Fit s.st 900000) (hd:DatOk s.st):
  Calls Tryz.prog 32 #[.pointer (some ⟨x,0,none⟩)] w fun e w'=>∃ A' c',e=.returned (.slice A' 8 c')∧TsAt w' A' (toldT (fun k=>readR s.p0 s.p1 s.p2 s.p3 s.st k) 8)∧Below w.heap.size w w':=by
 obtain ⟨c1,c2,c3,c4⟩:=h.vec
 have HA:=hidp fun W (hb:Below w.heap.size w W)=>all_any x 9 B s.st sv s.p0 s.p1 s.p2 s.p3 (fun k=>readR s.p0 s.p1 s.p2 s.p3 s.st k) W (h.sto.below hb) (fun k hk=>(hf k hk).1) (fun k hk=>(hf k hk).2) (fun k hk=>rfl) (fun k hk=>Nat.le_trans (read_data hd _ _ _ _ _) (by omega))
 haveI:SzGe (x+1) w:=⟨h.sto.lt⟩
 clear h hf hd
 go_enter Tryz.func32,Tryz.ntmps32
 go_wp2_with fail
 refine wp_region_plus_tail 7 (by kernel_rfl) (by kernel_rfl) ?_
 simp only [List.take_succ_cons,List.take_zero,List.drop_succ_cons,List.drop_zero]
 repeat (first | go_big_quiet_skip | (go_big_quiet_want;go_big_quiet_op;go_big_quiet_on))
 refine wpQuiet_nil ?_
 rintro _ ⟨x3,rfl⟩
 go_wp2_with fail
 go_at_call 94
 refine (HA.out _ (below_wplus _ _)).mono ?_
 rintro e w' ⟨A1,c1',rfl,hts,hb⟩
 have HB:=hidp ((below_wplus w x3).trans (hb.mono (by simp)))
 have HT:=hidp hts
 clear hts hb
 go_wp2_with fail
 go_ret
 exact ⟨A1,c1',rfl,HT.out,HB.out⟩
def siNew (id:Int):SiP:=⟨id,0,0,0,0,0,0,[],fun _ _=>none,0,fun _=>[],fun _=>0⟩
theorem SiAt.fresh {w:World} {B x mb:Nat} {id:Int} (hx:w.heap[x]?=some (.cells #[.int .i64 id,.int .i64 0,.int .i64 0,.int .i64 0,.int .i64 0,.int .i64 0,.int .i64 0,.slice none 0 0,.map (some mb),.slice none 0 0,.slice none 0 0,.slice none 0 0,.slice none 0 0,.slice none 0 0,.slice none 0 0,.slice none 0 0,.slice none 0 0,.int .i64 0,.int .i64 0,.int .i64 0,.int .i64 0,.int .i64 0,.int .i64 0,.int .i64 0,.int .i64 0,.int .i64 0,.int .i64 0,.int .i64 0,.int .i64 0,.int .i64 0,.int .i64 0,.int .i64 0,.int .i64 0] 147))
  (hm:w.heap[mb]?=some (.map #[] 0)) (hB:B≤x) (hB2:B≤mb) (hne:mb≠x):SiAt w B x (siNew id) mb (.slice none 0 0) (fun _=>.slice none 0 0):=by
 refine ⟨cell_blk hx 0,cell_blk hx 1,cell_blk hx 2,cell_blk hx 3,cell_blk hx 4,cell_blk hx 5,cell_blk hx 6,cell_blk hx 7,cell_blk hx 8,?_,frozen_blk hx,⟨lt_blk hx,?_,fun k _=>frozen_blk hx _,fun k _=>own_nil' w B,fun _ _=>by simp [Value.ownBlock],fun _ _ _ _ _ _ hb=>by simp [Value.ownBlock] at hb⟩,
  ⟨rfl,.inl ⟨rfl,rfl⟩⟩,MpAt.made hm,hB,hB2,hne,by simp [Value.ownBlock],by simp [Value.ownBlock],fun _ _=>by simp [Value.ownBlock],fun _ _ b hb=>by simp [Value.ownBlock] at hb,?_⟩
 ·intro k hk
  have hc:k=0∨k=1∨k=2∨k=3∨k=4∨k=5∨k=6∨k=7∨k=8∨k=9∨k=10∨k=11∨k=12∨k=13∨k=14∨k=15:=by omega
  rw [cell_blk hx]
  rcases hc with rfl | rfl | rfl | rfl | rfl | rfl | rfl | rfl | rfl | rfl | rfl | rfl | rfl | rfl | rfl | rfl <;> rfl
 ·intro k hk
  have hc:k=0∨k=1∨k=2∨k=3∨k=4∨k=5∨k=6∨k=7:=by omega
  rw [cell_blk hx]
  rcases hc with rfl | rfl | rfl | rfl | rfl | rfl | rfl | rfl <;> rfl
 ·intro m hm
  rcases hm with hm | ⟨a,b,hm⟩
  ·cases hm
  ·cases hm
theorem mkMap (w:World):Sem.run Tryz.prog (Instr.makeMap 141 none) w=.ok (.map (some w.heap.size)) (w.alloc (.map #[] 0)):=by kernel_rfl
set_option maxHeartbeats 2000000 in
theorem new_any (id:Int) (w:World) (hid:0≤id∧id<4):
  Calls Tryz.prog 11 #[.int .i64 id] w fun e w'=>e=.returned (.tuple #[.pointer (some ⟨w.heap.size+1,0,none⟩),.nilIface])∧SiAt w' w.heap.size (w.heap.size+1) (siNew id) w.heap.size (.slice none 0 0) (fun _=>.slice none 0 0)∧Below w.heap.size w w':=by
 have d0:decide (id<0)=false:=decide_eq_false (by omega)
 have d1:decide (4≤id)=false:=decide_eq_false (by omega)
 have hmk:=mkMap w
 go_enter Tryz.func11,Tryz.ntmps11
 go_wp2_with fail
 go_ret2
 refine ⟨rfl,SiAt.fresh ?_ ?_ (by omega) (Nat.le_refl _) (by omega),zB⟩
 ·exact blk_new (by simp) _
 ·exact blk_alloc (blk_new rfl _) _
def SiP.setc (s:SiP) (i:Nat) (z:Int):SiP:=
 { s with p0:=if i=1 then z else s.p0,p1:=if i=2 then z else s.p1,p2:=if i=3 then z else s.p2,p3:=if i=4 then z else s.p3,lw:=if i=5 then z else s.lw,lc:=if i=6 then z else s.lc }
theorem cell_set {w:World} {x i j:Nat} {v u:Value} (h:w.cell? ⟨x,j,none⟩=some u):(w.setCell ⟨x,i,none⟩ v).cell? ⟨x,j,none⟩=some (if i=j then v else u):=by
 by_cases e:i=j
 ·subst e;rw [if_pos rfl];exact World.cell?_setCell_same _ _ _ h
 ·rw [if_neg e,World.cell?_setCell_other _ _ _ _ (by simp only [ne_eq,Addr.mk.injEq,not_and];omega)];exact h
theorem SiFr.setc {w:World} {x mb i:Nat} {lv:Value} {sv:Nat→Value} (v:Value):SiFr w (w.setCell ⟨x,i,none⟩ v) (SiOwn x mb lv sv) (SiOwn x mb lv sv):=
 ⟨rfl,rfl,rfl,by simp [World.setCell],fun k hk hn=>(grown_set w x i v).block k hk (by simp;exact fun e=>hn (.inl e)),fun _ h=>.inl h⟩
theorem SiAt.setc {w:World} {B x mb i:Nat} {s:SiP} {lv:Value} {sv:Nat→Value} (h:SiAt w B x s mb lv sv) (hi:1≤i∧i≤6) (z:Int):SiAt (w.setCell ⟨x,i,none⟩ (.int .i64 z)) B x (s.setc i z) mb lv sv:=by
 have hgs:=grown_set w x i (.int .i64 z)
 have hx:∀ b,b<w.heap.size→b≠x→(w.setCell ⟨x,i,none⟩ (.int .i64 z)).heap[b]?=w.heap[b]?:=fun b hb hne=>hgs.block b hb (by simp;exact hne)
 have hf:∀ k,(w.setCell ⟨x,i,none⟩ (.int .i64 z)).frozen? ⟨x,k,none⟩=w.frozen? ⟨x,k,none⟩:=fun k=>World.frozen?_setCell ..
 have hs:(w.setCell ⟨x,i,none⟩ (.int .i64 z)).heap.size=w.heap.size:=by simp [World.setCell]
 have t:∀ {j:Nat} {a:Int},w.cell? ⟨x,j,none⟩=some (.int .i64 a)→(w.setCell ⟨x,i,none⟩ (.int .i64 z)).cell? ⟨x,j,none⟩=some (.int .i64 (if i=j then z else a)):=fun {j a} hj=>by
  rw [cell_set hj]
  split <;> rfl
 refine ⟨?_,t h.c1,t h.c2,t h.c3,t h.c4,t h.c5,t h.c6,?_,?_,?_,fun k=>(hf k).trans (h.frz k),?_,?_,?_,h.bx,h.bm,h.dxm,h.dxl,h.dml,h.dms,h.dls,?_⟩
 ·have:=cell_set (i:=i) (v:=.int .i64 z) h.c0;rw [if_neg (by omega)] at this;exact this
 ·have:=cell_set (i:=i) (v:=.int .i64 z) h.c7;rw [if_neg (by omega)] at this;exact this
 ·have:=cell_set (i:=i) (v:=.int .i64 z) h.c8;rw [if_neg (by omega)] at this;exact this
 ·intro k hk
  have:=cell_set (i:=i) (v:=.int .i64 z) (h.oth k hk);rw [if_neg (by omega)] at this;exact this
 ·refine ⟨by rw [hs];exact h.sto.lt,fun k hk=>?_,fun k hk=>(hf _).trans (h.sto.frz k hk),fun k hk=>(h.sto.own k hk).kept hgs (.inr (h.sto.ng k hk)),h.sto.ng,h.sto.dis⟩
  have:=cell_set (i:=i) (v:=.int .i64 z) (h.sto.cel k hk);rw [if_neg (by omega)] at this;exact this
 ·exact h.row.kept hgs (.inr h.dxl)
 ·exact h.map.block (hx mb h.map.lt h.dxm)
 ·intro m hm
  obtain ⟨h1,h2⟩:=h.dat m hm
  exact ⟨h1.keep fun b o e=>hx b (h2 b o e).1 (fun e2=>(h2 b o e).2 (.inl e2)),fun b o e=>⟨by rw [hs];exact (h2 b o e).1,(h2 b o e).2⟩⟩
theorem SiAt.store {w w':World} {B x mb:Nat} {s:SiP} {lv:Value} {sv sv':Nat→Value} {st':Nat→List VerP} (h:SiAt w B x s mb lv sv) (hst:StAt w' x 9 B st' sv') (fr:StFr w w' x 9 sv sv'):
  SiAt w' B x { s with st:=st' } mb lv sv'∧SiFr w w' (SiOwn x mb lv sv) (SiOwn x mb lv sv'):=by
 have hso:∀ b,SiOwn x mb lv sv b→b<w.heap.size:=fun b hb=>(h.lt hb).2
 have hnew:∀ b,StOwn x sv' b→StOwn x sv b∨w.heap.size≤b:=fr.own
 have hnm:∀ k,k<8→(sv' k).ownBlock≠some mb:=by
  intro k hk e
  rcases fr.own mb (.inr ⟨k,hk,e⟩) with (e2 | ⟨j,hj,e2⟩) | e2
  ·exact h.dxm e2
  ·exact h.dms j hj e2
  ·have:=h.map.lt;omega
 have hnl:∀ k,k<8→∀ b,lv.ownBlock=some b→(sv' k).ownBlock≠some b:=by
  intro k hk b hb e
  have hbl:=(own_ge h.row hb).2
  rcases fr.own b (.inr ⟨k,hk,e⟩) with (e2 | ⟨j,hj,e2⟩) | e2
  ·subst e2;exact h.dxl hb
  ·exact h.dls j hj b hb e2
  ·omega
 have hrest:∀ b,b<w.heap.size→¬StOwn x sv b→w'.heap[b]?=w.heap[b]?:=fr.block
 have hcell:∀ k,k<9∨17≤k→w'.cell? ⟨x,k,none⟩=w.cell? ⟨x,k,none⟩:=fun k hk=>fr.rest k (by omega)
 have hmbs:¬StOwn x sv mb:=by
  rintro (e | ⟨k,hk,e⟩)
  ·exact h.dxm e
  ·exact h.dms k hk e
 have hlvs:∀ b,lv.ownBlock=some b→¬StOwn x sv b:=by
  rintro b hb (e | ⟨k,hk,e⟩)
  ·subst e;exact h.dxl hb
  ·exact h.dls k hk b hb e
 have hsub:∀ b,StOwn x sv b→SiOwn x mb lv sv b:=by
  rintro b (e | e)
  ·exact .inl e
  ·exact .inr (.inr (.inr e))
 refine ⟨⟨(hcell 0 (by omega)).trans h.c0,(hcell 1 (by omega)).trans h.c1,(hcell 2 (by omega)).trans h.c2,(hcell 3 (by omega)).trans h.c3,(hcell 4 (by omega)).trans h.c4,(hcell 5 (by omega)).trans h.c5,(hcell 6 (by omega)).trans h.c6,(hcell 7 (by omega)).trans h.c7,(hcell 8 (by omega)).trans h.c8,
  fun k hk=>(hcell _ (by omega)).trans (h.oth k hk),fun k=>(fr.frzd k).trans (h.frz k),hst,?_,h.map.block (hrest mb h.map.lt hmbs),h.bx,h.bm,h.dxm,h.dxl,h.dml,hnm,hnl,?_⟩,⟨fr.os,fr.tape,fr.output,fr.size,fun k hk hn=>hrest k hk (fun e=>hn (hsub k e)),?_⟩⟩
 ·obtain ⟨hl,hn | ⟨g,cap,cur,hv,hb,hg,rest⟩⟩:=h.row
  ·exact ⟨hl,.inl hn⟩
  ·exact ⟨hl,.inr ⟨g,cap,cur,hv,hb,by rw [hrest g (lt_blk hg) (hlvs g (by rw [hv];rfl))];exact hg,rest⟩⟩
 ·intro m hm
  obtain ⟨h1,h2⟩:=h.dat m hm
  refine ⟨h1.keep fun b o e=>hrest b (h2 b o e).1 (fun e2=>(h2 b o e).2 (hsub b e2)),fun b o e=>⟨Nat.lt_of_lt_of_le (h2 b o e).1 fr.size,?_⟩⟩
  have hb:=h2 b o e
  rintro (e2 | e2 | e2 | ⟨k,hk,e2⟩)
  ·exact hb.2 (.inl e2)
  ·exact hb.2 (.inr (.inl e2))
  ·exact hb.2 (.inr (.inr (.inl e2)))
  ·rcases hnew b (.inr ⟨k,hk,e2⟩) with e3 | e3
   ·exact hb.2 (hsub b e3)
   ·omega
 ·rintro b (e2 | e2 | e2 | ⟨k,hk,e2⟩)
  ·exact .inl (.inl e2)
  ·exact .inl (.inr (.inl e2))
  ·exact .inl (.inr (.inr (.inl e2)))
  ·rcases hnew b (.inr ⟨k,hk,e2⟩) with e3 | e3
   ·exact .inl (hsub b e3)
   ·exact .inr e3
theorem SiAt.logged {w w1:World} {B x mb:Nat} {s:SiP} {lv lv':Value} {sv:Nat→Value} {m:MTx} (h:SiAt w B x s mb lv sv) (hg:w.grownBy w1 lv.ownBlock)
  (hown:w1.ownsRow B 44 9 lv' (s.log++[m]).length ((s.log++[m]).flatMap MTx.cells)) (hv:lv'.ownBlock=lv.ownBlock∨∀ b,lv'.ownBlock=some b→w.heap.size≤b)
  (hm:WsAt w m.A m.t.ws∧∀ b o,m.A=some ⟨b,o,none⟩→b<w.heap.size∧¬SiOwn x mb lv sv b):
  SiAt (w1.setCell ⟨x,7,none⟩ lv') B x { s with log:=s.log++[m] } mb lv' sv∧SiFr w (w1.setCell ⟨x,7,none⟩ lv') (SiOwn x mb lv sv) (SiOwn x mb lv' sv):=by
 have hgs:=grown_set w1 x 7 lv'
 have hxb:w1.heap[x]?=w.heap[x]?:=hg.block x h.sto.lt (fun e=>h.dxl e.symm)
 have hc1:∀ j,w1.cell? ⟨x,j,none⟩=w.cell? ⟨x,j,none⟩:=fun j=>World.cell?_of_block hxb
 have hf:∀ k,(w1.setCell ⟨x,7,none⟩ lv').frozen? ⟨x,k,none⟩=w.frozen? ⟨x,k,none⟩:=fun k=>(World.frozen?_setCell ..).trans (World.frozen?_of_block hxb)
 have hs:(w1.setCell ⟨x,7,none⟩ lv').heap.size=w1.heap.size:=by simp [World.setCell]
 have hbl:∀ b,b<w.heap.size→b≠x→lv.ownBlock≠some b→(w1.setCell ⟨x,7,none⟩ lv').heap[b]?=w.heap[b]?:=fun b hb h1 h2=>by
  rw [hgs.block b (by have:=hg.size;omega) (by simp;exact h1)]
  exact hg.block b hb (fun e=>h2 e.symm)
 have t:∀ {j:Nat} {u:Value},j≠7→w.cell? ⟨x,j,none⟩=some u→(w1.setCell ⟨x,7,none⟩ lv').cell? ⟨x,j,none⟩=some u:=fun {j u} hj hu=>by
  have:=cell_set (i:=7) (v:=lv') ((hc1 j).trans hu)
  rw [if_neg (by omega)] at this;exact this
 have hlx:lv'.ownBlock≠some x:=by
  rcases hv with e | e
  ·rw [e];exact h.dxl
  ·intro e2;have:=e x e2;have:=h.sto.lt;omega
 have hlm:lv'.ownBlock≠some mb:=by
  rcases hv with e | e
  ·rw [e];exact h.dml
  ·intro e2;have:=e mb e2;have:=h.map.lt;omega
 have hls:∀ k,k<8→∀ b,lv'.ownBlock=some b→(sv k).ownBlock≠some b:=by
  intro k hk b hb e2
  rcases hv with e | e
  ·rw [e] at hb;exact h.dls k hk b hb e2
  ·have:=e b hb;have:=(own_ge (h.sto.own k hk) e2).2;omega
 have hkr:∀ k,k<8→w1.ownsRow B 59 6 (sv k) (s.st k).length (rowOf (s.st k)):=fun k hk=>(h.sto.own k hk).kept hg (by
  cases hb:lv.ownBlock with
  | none=>
    cases hk2:(sv k).ownBlock with
    | none=>exact .inl rfl
    | some b=>exact .inr (by simp)
  | some b=>
    cases hk2:(sv k).ownBlock with
    | none=>exact .inl rfl
    | some b'=>exact .inr (fun e=>by simp at e;subst e;exact h.dls k hk b' hb hk2))
 have hdata:∀ m':MTx,(WsAt w m'.A m'.t.ws∧∀ b o,m'.A=some ⟨b,o,none⟩→b<w.heap.size∧¬SiOwn x mb lv sv b)→WsAt (w1.setCell ⟨x,7,none⟩ lv') m'.A m'.t.ws∧∀ b o,m'.A=some ⟨b,o,none⟩→b<(w1.setCell ⟨x,7,none⟩ lv').heap.size∧¬SiOwn x mb lv' sv b:=by
  rintro m' ⟨h1,h2⟩
  refine ⟨h1.keep fun b o e=>hbl b (h2 b o e).1 (fun e2=>(h2 b o e).2 (.inl e2)) (fun e2=>(h2 b o e).2 (.inr (.inr (.inl e2)))),fun b o e=>⟨by rw [hs];have:=hg.size;have:=(h2 b o e).1;omega,?_⟩⟩
  have hb:=h2 b o e
  rintro (e2 | e2 | e2 | e2)
  ·exact hb.2 (.inl e2)
  ·exact hb.2 (.inr (.inl e2))
  ·rcases hv with e3 | e3
   ·exact hb.2 (.inr (.inr (.inl (e3 ▸ e2))))
   ·have:=e3 b e2;omega
  ·exact hb.2 (.inr (.inr (.inr e2)))
 refine ⟨⟨t (by omega) h.c0,t (by omega) h.c1,t (by omega) h.c2,t (by omega) h.c3,t (by omega) h.c4,t (by omega) h.c5,t (by omega) h.c6,World.cell?_setCell_same _ _ _ ((hc1 7).trans h.c7),t (by omega) h.c8,fun k hk=>t (by omega) (h.oth k hk),fun k=>(hf k).trans (h.frz k),?_,hown.kept hgs (.inr hlx),?_,h.bx,h.bm,h.dxm,hlx,hlm,h.dms,hls,?_⟩,
  ⟨hg.os,hg.tape,hg.output,by rw [hs];exact hg.size,fun k hk hn=>hbl k hk (fun e=>hn (.inl e)) (fun e=>hn (.inr (.inr (.inl e)))),?_⟩⟩
 ·exact ⟨by rw [hs];have:=hg.size;have:=h.sto.lt;omega,fun k hk=>t (by omega) (h.sto.cel k hk),fun k hk=>(hf _).trans (h.sto.frz k hk),fun k hk=>(hkr k hk).kept hgs (.inr (h.sto.ng k hk)),h.sto.ng,h.sto.dis⟩
 ·exact h.map.block (hbl mb h.map.lt h.dxm h.dml)
 ·intro m' hm'
  rcases hm' with hm' | hm'
  ·rcases List.mem_append.1 hm' with hm' | hm'
   ·exact hdata m' (h.dat m' (.inl hm'))
   ·simp only [List.mem_singleton] at hm';subst hm';exact hdata m' hm
  ·exact hdata m' (h.dat m' (.inr hm'))
 ·rintro b (e2 | e2 | e2 | e2)
  ·exact .inl (.inl e2)
  ·exact .inl (.inr (.inl e2))
  ·rcases hv with e3 | e3
   ·exact .inl (.inr (.inr (.inl (e3 ▸ e2))))
   ·exact .inr (e3 b e2)
  ·exact .inl (.inr (.inr (.inr e2)))
end Go.Proofs.YtbopfhbeegkkaabGreatDoor
