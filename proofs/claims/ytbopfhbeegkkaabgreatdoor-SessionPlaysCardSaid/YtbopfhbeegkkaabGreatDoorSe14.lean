/- Part 14 of a proof: lemmas and contracts that other parts use. -/
import Derived.Test.YtbopfhbeegkkaabGreatDoorSe9
import Derived.Test.YtbopfhbeegkkaabGreatDoorSe13
import Derived.Test.YtbopfhbeegkkaabGreatDoorSe5
import Derived.Test.YtbopfhbeegkkaabGreatDoorSe7
import Derived.Test.YtbopfhbeegkkaabGreatDoorSe3
import Derived.Test.YtbopfhbeegkkaabGreatDoorSe2
import Derived.Test.YtbopfhbeegkkaabGreatDoorSe10
set_option linter.unusedVariables false
set_option linter.unusedSimpArgs false
set_option linter.constructorNameAsVariable false
namespace Go.Proofs.YtbopfhbeegkkaabGreatDoor
open Go.RowKit
theorem ws_cells {w:World} {b:Nat}:∀ {ws:List WrP} {o:Nat},WsAt w (some ⟨b,o,none⟩) ws→∀ (j:Nat) (u:Value),(wrCells ws)[j]?=some u→w.cell? ⟨b,o+j,none⟩=some u
 | [],o,h,j,u,hu=>by simp [wrCells] at hu
 | x::l,o,h,j,u,hu=>by
   have h0:=h 0 x rfl
   obtain ⟨b',o',e,_,c0,c1,c2⟩:=h0
   obtain ⟨rfl,rfl⟩:b'=b∧o'=o:=by simp at e;exact ⟨e.1.symm,e.2.symm⟩
   have hl:WsAt w (some ⟨b',o'+3,none⟩) l:=fun i y hy=>by
    obtain ⟨b2,o2,e2,hlt,k0,k1,k2⟩:=h (i+1) y (by simpa using hy)
    obtain ⟨rfl,rfl⟩:b2=b'∧o2=o':=by simp at e2;exact ⟨e2.1.symm,e2.2.symm⟩
    rw [show o2+(i+1)*3=o2+3+i*3 by omega] at k0 k1 k2
    exact ⟨b2,o2+3,rfl,hlt,k0,k1,k2⟩
   match j,hu with
   | 0,hu=>simp [wrCells] at hu;subst hu;simpa using c0
   | 1,hu=>simp [wrCells] at hu;subst hu;simpa using c1
   | 2,hu=>simp [wrCells] at hu;subst hu;simpa using c2
   | j+3,hu=>
     have:=ws_cells hl j u (by simpa [wrCells] using hu)
     rw [show o'+(j+3)=o'+3+j by omega]
     exact this
theorem wrCells_one (ws:List WrP):∀ u∈wrCells ws,u.oneCell'=true:=by
 intro u hu
 simp only [wrCells,List.mem_flatMap] at hu
 obtain ⟨x,_,hx⟩:=hu
 simp at hx
 rcases hx with rfl | rfl | rfl <;> rfl
theorem info115o:(Tryz.prog.info? 83).map (fun i=>(i.zero,i.size,i.bytes))=some (some (.agg #[.int .i64 0,.string ⟨#[]⟩,.bool false]),3,32):=by kernel_rfl
theorem info115:∃ i,Tryz.prog.info? 83=some i∧i.zero=some (.agg #[.int .i64 0,.string ⟨#[]⟩,.bool false])∧i.size=3∧i.bytes=32:=by
 obtain ⟨i,hi,h⟩:=Option.map_eq_some_iff.1 info115o
 simp only [Prod.mk.injEq] at h
 exact ⟨i,hi,h.1,h.2.1,h.2.2⟩
@[go_sem] theorem eqNil38 (w : World) (a : Addr) (n c : Nat) : Sem.run Tryz.prog (binOp BinOp.eql 42 (.slice (some a) n c) (.slice none 0 0)) w = .ok (.bool false) w := by kernel_rfl
set_option maxRecDepth 20000 in
set_option maxHeartbeats 4000000 in
theorem sclone_any (A:Option Addr) (c:Nat) (ws:List WrP) (w:World) (hws:WsAt w A ws) (h0:0<ws.length) (hn:ws.length≤1000):
  Calls Tryz.prog 79 #[.slice A ws.length c] w fun e w'=>∃ A' c',e=.returned (.slice A' ws.length c')∧WsAt w' A' ws∧Below w.heap.size w w'∧∃ b,A'=some ⟨b,0,none⟩∧w.heap.size≤b:=by
 have HWS:=hidp hws
 obtain ⟨b,o,rfl,hb,_⟩:=hws 0 ws[0] (List.getElem?_eq_getElem h0)
 clear hws
 obtain ⟨i0,hi0,hz0,hz1,hz2⟩:=info115
 haveI:SzGe (b+1) w:=⟨hb⟩
 go_enter Tryz.func79,Tryz.ntmps79
 have hcells:=ws_cells HWS.out
 have HNW:Hid (∀ (W:World),Below w.heap.size w W→∀ (j:Nat) (u:Value),(wrCells ws)[j]?=some u→W.cell? ((⟨b,o,none⟩:Addr).add j)=some u):=hidp (by
  intro W hB j u hu
  have e:(⟨b,o,none⟩:Addr).add j=⟨b,o+j,none⟩:=by unfold Addr.add;split <;> simp_all
  rw [e,hB.cell (p:=⟨b,o+j,none⟩) hb]
  exact hcells j u hu)
 have HLN:=hidp (wrCells_len ws)
 have h63:0+ws.length≤maxLen:=by refine Nat.le_trans ?_ maxLen_ge;omega
 have hby:(0+ws.length)*32≤140737488355328:=by omega
 clear hcells
 go_wp2_with (at_builtin;go_must (refine wpList_append_lies _ rfl _ _ 42 rfl w.heap.size 83 i0 (.agg #[.int .i64 0,.string ⟨#[]⟩,.bool false]) 3 32 Tryz.underlying42 hi0 hz0 hz1 hz2 rfl (by decide) (.slice (some ⟨w.heap.size,0,none⟩) 0 0) 0 [] rfl ⟨rfl,.inr ⟨w.heap.size,0,#[],rfl,Nat.le_refl _,by rw [heap_alloc,if_pos rfl],Nat.le_refl _,by simp only [maxLen];omega,rfl,rfl⟩⟩ ⟨b,o,none⟩ ws.length c (wrCells ws) rfl HLN.out (HNW.out _ (blw_alloc (Below.refl _ _))) (wrCells_one ws) h0 h63 hby (by simp) _ rfl ?_))
 intro g1 cap1 w1 hown1 hgrow hgl hlt1
 try simp only [Nat.zero_add,List.nil_append] at hown1
 have hb1:Below w.heap.size w w1:=Below.grown (show Below w.heap.size w (w.alloc (Obj.cells #[] 83)) from blw_alloc (Below.refl _ _)) hgrow (by simp) (fun j e=>by simp [Value.ownBlock] at e;omega)
 have HR:Hid (WsAt w1 (some ⟨g1,0,none⟩) ws∧Below w.heap.size w w1∧w.heap.size≤g1):=hidp ⟨own_ws hown1,hb1,(own_ge hown1 rfl).1⟩
 clear hown1 hgrow hgl hlt1 hb1
 try simp only [Nat.zero_add]
 go_wp2_with fail
 go_ret
 exact ⟨_,_,rfl,HR.out.1,HR.out.2.1,g1,rfl,HR.out.2.2⟩
theorem wplus_heap_ge (w:World) (x:Tail) (k:Nat) (h:w.heap.size≤k):(wplus w x).heap[k]?=x.blocks[k-w.heap.size]?:=by
 simp only [wplus];rw [Array.getElem?_append_right h]
theorem WsAt.move {w w':World} {A:Option Addr} {ws:List WrP} (h:WsAt w A ws) (hb:∀ b o,A=some ⟨b,o,none⟩→w'.heap[b]?=w.heap[b]?):WsAt w' A ws:=fun i x hx=>by
 obtain ⟨b,o,hA,hlt,h0,h1,h2⟩:=h i x hx
 have e:=hb b o hA
 have e0:∀ j,w'.cell? ⟨b,j,none⟩=w.cell? ⟨b,j,none⟩:=fun j=>World.cell?_of_block e
 refine ⟨b,o,hA,?_,by rw [e0];exact h0,by rw [e0];exact h1,by rw [e0];exact h2⟩
 have:=World.block_lt_of_cell? w' _ ((e0 _).trans h0)
 exact this
structure MTx where
 t:TxP
 A:Option Addr
 c:Nat
def MTx.cells (m:MTx):List Value:=[.int .i64 m.t.site,.int .i64 m.t.seq,.int .i64 m.t.wall,.int .i64 m.t.count,.int .i64 m.t.d0,.int .i64 m.t.d1,.int .i64 m.t.d2,.int .i64 m.t.d3,.slice m.A m.t.ws.length m.c]
def MTx.val (m:MTx):Value:=.agg #[.int .i64 m.t.site,.int .i64 m.t.seq,.int .i64 m.t.wall,.int .i64 m.t.count,.int .i64 m.t.d0,.int .i64 m.t.d1,.int .i64 m.t.d2,.int .i64 m.t.d3,.slice m.A m.t.ws.length m.c]
set_option maxRecDepth 20000 in
set_option maxHeartbeats 4000000 in
theorem clone_any (t:TxP) (A:Option Addr) (c:Nat) (w:World) (hws:WsAt w A t.ws) (h0:0<t.ws.length) (hn:t.ws.length≤1000):
  Calls Tryz.prog 81 #[MTx.val ⟨t,A,c⟩] w fun e w'=>∃ A' c',e=.returned (MTx.val ⟨t,A',c'⟩)∧WsAt w' A' t.ws∧Below w.heap.size w w'∧∃ b,A'=some ⟨b,0,none⟩∧w.heap.size≤b:=by
 have HC:=hidp fun w' (hb:Below w.heap.size w w')=>sclone_any A c t.ws w' (hws.below hb) h0 hn
 unfold MTx.val
 obtain ⟨site,seq,wall,count,d0,d1,d2,d3,ws⟩:=t
 simp only at *
 clear hws
 go_enter Tryz.func81,Tryz.ntmps81
 go_wp2_with fail
 go_at_call 79
 refine (HC.out _ (by repeat (first | exact Below.refl _ _ | refine blw_alloc ?_ | refine blw_plus ?_ | refine Below.drew ?_))).mono ?_
 rintro e w1 ⟨A',c',rfl,hw1,hb1,b,rfl,hbb⟩
 have HW:=hidp hw1
 obtain ⟨x,rfl⟩:=wplus_of_below hb1
 clear hw1 hb1
 have HB2:=hidp hbb
 clear hbb
 go_wp2_with fail
 have hbb:=HB2.out
 simp at hbb
 refine bodyPost_ret (v:=MTx.val ⟨⟨site,seq,wall,count,d0,d1,d2,d3,ws⟩,some ⟨b,0,none⟩,c'⟩) ?_ rfl ⟨some ⟨b,0,none⟩,c',rfl,?_,?_,b,rfl,by omega⟩
 ·simp [results,Tryz.results81,go_sem,MTx.val]
 ·refine HW.out.move ?_
  intro b' o' e
  obtain ⟨rfl,rfl⟩:b'=b∧o'=0:=by simp at e;exact ⟨e.1.symm,e.2.symm⟩
  rw [wplus_heap_ge _ _ _ (by simp;omega),wplus_heap_ge _ _ _ (by simp;omega)]
  simp
 ·repeat (first | exact Below.refl _ _ | refine blw_alloc ?_ | refine blw_plus ?_ | refine Below.drew ?_)
structure SiP where
 id:Int
 p0:Int
 p1:Int
 p2:Int
 p3:Int
 lw:Int
 lc:Int
 log:List MTx
 wt:Int→Int→Option MTx
 wn:Nat
 st:Nat→List VerP
 ot:Nat→Int
def SiOwn (x mb:Nat) (lv:Value) (sv:Nat→Value) (b:Nat):Prop:=b=x∨b=mb∨lv.ownBlock=some b∨∃ k,k<8∧(sv k).ownBlock=some b
def SiP.has (s:SiP) (m:MTx):Prop:=m∈s.log∨∃ a b,s.wt a b=some m
structure SiAt (w:World) (B x:Nat) (s:SiP) (mb:Nat) (lv:Value) (sv:Nat→Value):Prop where
 c0:w.cell? ⟨x,0,none⟩=some (.int .i64 s.id)
 c1:w.cell? ⟨x,1,none⟩=some (.int .i64 s.p0)
 c2:w.cell? ⟨x,2,none⟩=some (.int .i64 s.p1)
 c3:w.cell? ⟨x,3,none⟩=some (.int .i64 s.p2)
 c4:w.cell? ⟨x,4,none⟩=some (.int .i64 s.p3)
 c5:w.cell? ⟨x,5,none⟩=some (.int .i64 s.lw)
 c6:w.cell? ⟨x,6,none⟩=some (.int .i64 s.lc)
 c7:w.cell? ⟨x,7,none⟩=some lv
 c8:w.cell? ⟨x,8,none⟩=some (.map (some mb))
 oth:∀ k,k<16→w.cell? ⟨x,17+k,none⟩=some (.int .i64 (s.ot k))
 frz:∀ k,w.frozen? ⟨x,k,none⟩=false
 sto:StAt w x 9 B s.st sv
 row:w.ownsRow B 44 9 lv s.log.length (s.log.flatMap MTx.cells)
 map:MpAt w mb (fun a b=>(s.wt a b).map MTx.val) s.wn
 bx:B≤x
 bm:B≤mb
 dxm:mb≠x
 dxl:lv.ownBlock≠some x
 dml:lv.ownBlock≠some mb
 dms:∀ k,k<8→(sv k).ownBlock≠some mb
 dls:∀ k,k<8→∀ b,lv.ownBlock=some b→(sv k).ownBlock≠some b
 dat:∀ m,s.has m→WsAt w m.A m.t.ws∧∀ b o,m.A=some ⟨b,o,none⟩→b<w.heap.size∧¬SiOwn x mb lv sv b
structure SiFr (w w':World) (own own':Nat→Prop):Prop where
 os:w'.os=w.os
 tape:w'.tape=w.tape
 output:w'.output=w.output
 size:w.heap.size≤w'.heap.size
 block:∀ k,k<w.heap.size→¬own k→w'.heap[k]?=w.heap[k]?
 own:∀ b,own' b→own b∨w.heap.size≤b
theorem SiAt.lt {w:World} {B x mb:Nat} {s:SiP} {lv:Value} {sv:Nat→Value} (h:SiAt w B x s mb lv sv) {b:Nat} (hb:SiOwn x mb lv sv b):B≤b∧b<w.heap.size:=by
 rcases hb with rfl | rfl | hb | ⟨k,hk,hb⟩
 ·exact ⟨h.bx,h.sto.lt⟩
 ·exact ⟨h.bm,h.map.lt⟩
 ·exact own_ge h.row hb
 ·exact own_ge (h.sto.own k hk) hb
theorem WsAt.keep {w w':World} {A:Option Addr} {ws:List WrP} (h:WsAt w A ws) (hb:∀ b o,A=some ⟨b,o,none⟩→w'.heap[b]?=w.heap[b]?):WsAt w' A ws:=h.move hb
theorem SiAt.same {w w':World} {B x mb:Nat} {s:SiP} {lv:Value} {sv:Nat→Value} (h:SiAt w B x s mb lv sv) (hsz:w.heap.size≤w'.heap.size) (ho:∀ b,SiOwn x mb lv sv b→w'.heap[b]?=w.heap[b]?)
  (hd:∀ m,s.has m→∀ b o,m.A=some ⟨b,o,none⟩→w'.heap[b]?=w.heap[b]?):SiAt w' B x s mb lv sv:=by
 have hx:=ho x (.inl rfl)
 have hc:∀ k,w'.cell? ⟨x,k,none⟩=w.cell? ⟨x,k,none⟩:=fun k=>World.cell?_of_block hx
 have hf:∀ k,w'.frozen? ⟨x,k,none⟩=w.frozen? ⟨x,k,none⟩:=fun k=>World.frozen?_of_block hx
 have hrow:∀ {e n z:Nat} {v:Value} {xs:List Value},w.ownsRow B e z v n xs→(∀ b,v.ownBlock=some b→w'.heap[b]?=w.heap[b]?)→w'.ownsRow B e z v n xs:=by
  intro e n z v xs h1 h2
  obtain ⟨hl,hn | ⟨g,cap,cur,hv,hb,hg,rest⟩⟩:=h1
  ·exact ⟨hl,.inl hn⟩
  ·exact ⟨hl,.inr ⟨g,cap,cur,hv,hb,by rw [h2 g (by rw [hv];rfl)];exact hg,rest⟩⟩
 refine ⟨(hc 0).trans h.c0,(hc 1).trans h.c1,(hc 2).trans h.c2,(hc 3).trans h.c3,(hc 4).trans h.c4,(hc 5).trans h.c5,(hc 6).trans h.c6,(hc 7).trans h.c7,(hc 8).trans h.c8,fun k hk=>(hc _).trans (h.oth k hk),fun k=>(hf k).trans (h.frz k),?_,?_,?_,h.bx,h.bm,h.dxm,h.dxl,h.dml,h.dms,h.dls,?_⟩
 ·exact ⟨Nat.lt_of_lt_of_le h.sto.lt hsz,fun k hk=>(hc _).trans (h.sto.cel k hk),fun k hk=>(hf _).trans (h.sto.frz k hk),fun k hk=>hrow (h.sto.own k hk) (fun b e=>ho b (.inr (.inr (.inr ⟨k,hk,e⟩)))),h.sto.ng,h.sto.dis⟩
 ·exact hrow h.row (fun b e=>ho b (.inr (.inr (.inl e))))
 ·exact h.map.block (ho mb (.inr (.inl rfl)))
 ·intro m hm
  obtain ⟨h1,h2⟩:=h.dat m hm
  exact ⟨h1.keep (hd m hm),fun b o e=>⟨Nat.lt_of_lt_of_le (h2 b o e).1 hsz,(h2 b o e).2⟩⟩
theorem SiAt.below {w w':World} {B x mb:Nat} {s:SiP} {lv:Value} {sv:Nat→Value} (h:SiAt w B x s mb lv sv) (hb:Below w.heap.size w w'):SiAt w' B x s mb lv sv:=
 h.same hb.size (fun b hb'=>hb.block b (h.lt hb').2) (fun m hm b o e=>hb.block b ((h.dat m hm).2 b o e).1)
theorem SiFr.of_below {w w':World} (own:Nat→Prop) (hb:Below w.heap.size w w'):SiFr w w' own own:=
 ⟨hb.os,hb.tape,hb.output,hb.size,fun k hk _=>hb.block k hk,fun _ h=>.inl h⟩
theorem SiFr.trans {w W W':World} {o1 o2 o3:Nat→Prop} (h:SiFr w W o1 o2) (h2:SiFr W W' o2 o3):SiFr w W' o1 o3:=
 ⟨h2.os.trans h.os,h2.tape.trans h.tape,h2.output.trans h.output,Nat.le_trans h.size h2.size,
  fun k hk hn=>(h2.block k (Nat.lt_of_lt_of_le hk h.size) (fun e=>(h.own k e).elim hn (fun e2=>absurd hk (by omega)))).trans (h.block k hk hn),
  fun b hb=>(h2.own b hb).elim (h.own b) (fun e=>.inr (Nat.le_trans h.size e))⟩
set_option maxHeartbeats 400000 in
theorem max1_any (a b:Int) (w:World):
  Calls Tryz.prog 139 #[.int .i64 a,.int .i64 b] w fun e w'=>e=.returned (.int .i64 (max a b))∧w=w':=by
 rcases Int.le_total a b with h | h
 ·rw [Int.max_eq_right h]
  by_cases h1:a<b
  all_goals
   go_enter Tryz.func139,Tryz.ntmps139
   go_wp2
   all_goals go_ret
   all_goals exact ⟨by simp;try omega,rfl⟩
 ·rw [Int.max_eq_left h]
  by_cases h1:b<a
  all_goals
   go_enter Tryz.func139,Tryz.ntmps139
   go_wp2
   all_goals go_ret
   all_goals exact ⟨by simp;try omega,rfl⟩
set_option maxHeartbeats 1000000 in
theorem eachMax_any (a0 a1 a2 a3 b0 b1 b2 b3:Int) (w:World):
  Calls Tryz.prog 138 #[.agg #[.int .i64 a0,.int .i64 a1,.int .i64 a2,.int .i64 a3],.agg #[.int .i64 b0,.int .i64 b1,.int .i64 b2,.int .i64 b3],.func (.func 139) #[] #[]] w
   fun e w'=>e=.returned (.agg #[.int .i64 (max a0 b0),.int .i64 (max a1 b1),.int .i64 (max a2 b2),.int .i64 (max a3 b3)])∧Below w.heap.size w w':=by
 go_enter Tryz.func138,Tryz.ntmps138
 go_wp2
 refine wp_loop_rounds 5 ?_
 rw [rounds_succ]
 go_wp2
 refine wp_region_plus_tail 10 (by kernel_rfl) (by kernel_rfl) ?_
 simp only [List.take_succ_cons,List.take_zero,List.drop_succ_cons,List.drop_zero]
 repeat (first | go_big_quiet_skip | (go_big_quiet_want;go_big_quiet_op;first | go_big_quiet_on | (apply Exists.intro;refine ⟨fun _=>Calls.plus_same (max1_any _ _ _),?_⟩;go_big_quiet_on)))
 refine wpQuiet_nil ?_
 rintro _ ⟨x0,rfl⟩
 go_wp2
 rw [rounds_succ]
 go_wp2
 refine wp_region_plus_tail 10 (by kernel_rfl) (by kernel_rfl) ?_
 simp only [List.take_succ_cons,List.take_zero,List.drop_succ_cons,List.drop_zero]
 repeat (first | go_big_quiet_skip | (go_big_quiet_want;go_big_quiet_op;first | go_big_quiet_on | (apply Exists.intro;refine ⟨fun _=>Calls.plus_same (max1_any _ _ _),?_⟩;go_big_quiet_on)))
 refine wpQuiet_nil ?_
 rintro _ ⟨x1,rfl⟩
 go_wp2
 rw [rounds_succ]
 go_wp2
 refine wp_region_plus_tail 10 (by kernel_rfl) (by kernel_rfl) ?_
 simp only [List.take_succ_cons,List.take_zero,List.drop_succ_cons,List.drop_zero]
 repeat (first | go_big_quiet_skip | (go_big_quiet_want;go_big_quiet_op;first | go_big_quiet_on | (apply Exists.intro;refine ⟨fun _=>Calls.plus_same (max1_any _ _ _),?_⟩;go_big_quiet_on)))
 refine wpQuiet_nil ?_
 rintro _ ⟨x2,rfl⟩
 go_wp2
 rw [rounds_succ]
 go_wp2
 refine wp_region_plus_tail 10 (by kernel_rfl) (by kernel_rfl) ?_
 simp only [List.take_succ_cons,List.take_zero,List.drop_succ_cons,List.drop_zero]
 repeat (first | go_big_quiet_skip | (go_big_quiet_want;go_big_quiet_op;first | go_big_quiet_on | (apply Exists.intro;refine ⟨fun _=>Calls.plus_same (max1_any _ _ _),?_⟩;go_big_quiet_on)))
 refine wpQuiet_nil ?_
 rintro _ ⟨x3,rfl⟩
 go_wp2
 rw [rounds_succ]
 go_wp2
 exact bodyPost_ret (v:=.agg #[.int .i64 (max a0 b0),.int .i64 (max a1 b1),.int .i64 (max a2 b2),.int .i64 (max a3 b3)]) (by simp [results,Tryz.results138,go_sem]) rfl ⟨rfl,zB⟩
set_option maxHeartbeats 400000 in
theorem vMax_any (a0 a1 a2 a3 b0 b1 b2 b3:Int) (w:World):
  Calls Tryz.prog 87 #[.agg #[.int .i64 a0,.int .i64 a1,.int .i64 a2,.int .i64 a3],.agg #[.int .i64 b0,.int .i64 b1,.int .i64 b2,.int .i64 b3]] w
   fun e w'=>e=.returned (.agg #[.int .i64 (max a0 b0),.int .i64 (max a1 b1),.int .i64 (max a2 b2),.int .i64 (max a3 b3)])∧Below w.heap.size w w':=by
 go_enter Tryz.func87,Tryz.ntmps87
 go_wp2_with (go_at_call 138;refine (eachMax_any _ _ _ _ _ _ _ _ _).mono ?_;rintro e w' ⟨rfl,hb⟩;obtain ⟨x,rfl⟩:=wplus_of_below hb;clear hb)
 exact bodyPost_ret (v:=.agg #[.int .i64 (max a0 b0),.int .i64 (max a1 b1),.int .i64 (max a2 b2),.int .i64 (max a3 b3)]) (by simp [results,Tryz.results87,go_sem]) rfl ⟨rfl,zB⟩
def covD (a0 a1 a2 a3 b0 b1 b2 b3:Int):Bool:=decide (b0≤a0)&&decide (b1≤a1)&&decide (b2≤a2)&&decide (b3≤a3)
theorem max_beq (a b:Int):(max a b==a)=decide (b≤a):=by
 rw [Bool.eq_iff_iff]
 simp
 omega
set_option maxHeartbeats 2000000 in
theorem covers_any (a0 a1 a2 a3 b0 b1 b2 b3:Int) (w:World):
  Calls Tryz.prog 55 #[.agg #[.int .i64 a0,.int .i64 a1,.int .i64 a2,.int .i64 a3],.agg #[.int .i64 b0,.int .i64 b1,.int .i64 b2,.int .i64 b3]] w
   fun e w'=>e=.returned (.bool (covD a0 a1 a2 a3 b0 b1 b2 b3))∧Below w.heap.size w w':=by
 have HM:=hidp fun w=>vMax_any a0 a1 a2 a3 b0 b1 b2 b3 w
 have HE:Hid ((max a0 b0==a0&&max a1 b1==a1&&max a2 b2==a2&&max a3 b3==a3)=covD a0 a1 a2 a3 b0 b1 b2 b3):=hidp (by unfold covD;rw [max_beq,max_beq,max_beq,max_beq])
 generalize max a0 b0=m0 at *
 generalize max a1 b1=m1 at *
 generalize max a2 b2=m2 at *
 generalize max a3 b3=m3 at *
 go_enter Tryz.func55,Tryz.ntmps55
 go_wp2_with fail
 refine wp_region_plus (by kernel_rfl) (by kernel_rfl) ?_
 repeat (first | go_big_quiet_skip | (go_big_quiet_want;go_big_quiet_op;first | go_big_quiet_on | (apply Exists.intro;refine ⟨fun _=>?_,?_⟩;(go_at_call 87;exact Calls.plus_of (HM.out _));go_big_quiet_on)))
 refine wpQuiet_nil ?_
 rintro _ ⟨x3,rfl⟩
 go_wp2_with fail
 go_ret
 exact ⟨by rw [←HE.out];rfl,zB⟩
theorem SiAt.vec {w:World} {B x mb:Nat} {s:SiP} {lv:Value} {sv:Nat→Value} (h:SiAt w B x s mb lv sv):w.cell? ⟨x,1,none⟩=some (.int .i64 s.p0)∧w.cell? ⟨x,1+1,none⟩=some (.int .i64 s.p1)∧w.cell? ⟨x,1+2,none⟩=some (.int .i64 s.p2)∧w.cell? ⟨x,1+3,none⟩=some (.int .i64 s.p3):=⟨h.c1,h.c2,h.c3,h.c4⟩
set_option maxHeartbeats 2000000 in
theorem applied_any (B x mb:Nat) (s:SiP) (lv:Value) (sv:Nat→Value) (w:World) (h:SiAt w B x s mb lv sv):
  Calls Tryz.prog 26 #[.pointer (some ⟨x,0,none⟩)] w fun e w'=>e=.returned (.agg #[.int .i64 s.p0,.int .i64 s.p1,.int .i64 s.p2,.int .i64 s.p3])∧Below w.heap.size w w':=by
 have c1:=h.c1;have c2:=h.c2;have c3:=h.c3;have c4:=h.c4
 haveI:SzGe (x+1) w:=⟨h.sto.lt⟩
 clear h
 go_enter Tryz.func26,Tryz.ntmps26
 go_wp2_with fail
 refine bodyPost_ret (v:=.agg #[.int .i64 s.p0,.int .i64 s.p1,.int .i64 s.p2,.int .i64 s.p3]) (by simp [results,Tryz.results26,go_sem]) rfl ⟨rfl,zB⟩
theorem own_nil' (w:World) (n:Nat):w.ownsRow n 59 6 (.slice none 0 0) 0 []:=⟨rfl,.inl ⟨rfl,rfl⟩⟩
def DatOk (S:Nat→List VerP):Prop:=∀ k,k<8→∀ v∈S k,v.data.size≤12
def siNew (id:Int):SiP:=⟨id,0,0,0,0,0,0,[],fun _ _=>none,0,fun _=>[],fun _=>0⟩
theorem SiAt.fresh {w:World} {B x mb:Nat} {id:Int} (hx:w.heap[x]?=some (.cells #[.int .i64 id,.int .i64 0,.int .i64 0,.int .i64 0,.int .i64 0,.int .i64 0,.int .i64 0,.slice none 0 0,.map (some mb),.slice none 0 0,.slice none 0 0,.slice none 0 0,.slice none 0 0,.slice none 0 0,.slice none 0 0,.slice none 0 0,.slice none 0 0,.int .i64 0,.int .i64 0,.int .i64 0,.int .i64 0,.int .i64 0,.int .i64 0,.int .i64 0,.int .i64 0,.int .i64 0,.int .i64 0,.int .i64 0,.int .i64 0,.int .i64 0,.int .i64 0,.int .i64 0,.int .i64 0] 147))
  (hm:w.heap[mb]?=some (.map #[] 0)) (hB:B≤x) (hB2:B≤mb) (hne:mb≠x):SiAt w B x (siNew id) mb (.slice none 0 0) (fun _=>.slice none 0 0):=by
 refine ⟨cell_blk hx 0,cell_blk hx 1,cell_blk hx 2,cell_blk hx 3,cell_blk hx 4,cell_blk hx 5,cell_blk hx 6,cell_blk hx 7,cell_blk hx 8,?_,frozen_blk hx,⟨lt_blk hx,?_,fun k _=>frozen_blk hx _,fun k _=>own_nil' w B,fun _ _=>by simp [Value.ownBlock],fun _ _ _ _ _ _ hb=>by simp [Value.ownBlock] at hb⟩,
  ⟨rfl,.inl ⟨rfl,rfl⟩⟩,MpAt.made hm,hB,hB2,hne,by simp [Value.ownBlock],by simp [Value.ownBlock],fun _ _=>by simp [Value.ownBlock],fun _ _ b hb=>by simp [Value.ownBlock] at hb,?_⟩
 ·intro k hk
  have hc:k=0∨k=1∨k=2∨k=3∨k=4∨k=5∨k=6∨k=7∨k=8∨k=9∨k=10∨k=11∨k=12∨k=13∨k=14∨k=15:=by omega
  rw [cell_blk hx]
  rcases hc with rfl | rfl | rfl | rfl | rfl | rfl | rfl | rfl | rfl | rfl | rfl | rfl | rfl | rfl | rfl | rfl <;> rfl
 ·intro k hk
  have hc:k=0∨k=1∨k=2∨k=3∨k=4∨k=5∨k=6∨k=7:=by omega
  rw [cell_blk hx]
  rcases hc with rfl | rfl | rfl | rfl | rfl | rfl | rfl | rfl <;> rfl
 ·intro m hm
  rcases hm with hm | ⟨a,b,hm⟩
  ·cases hm
  ·cases hm
theorem mkMap (w:World):Sem.run Tryz.prog (Instr.makeMap 141 none) w=.ok (.map (some w.heap.size)) (w.alloc (.map #[] 0)):=by kernel_rfl
set_option maxHeartbeats 2000000 in
theorem new_any (id:Int) (w:World) (hid:0≤id∧id<4):
  Calls Tryz.prog 11 #[.int .i64 id] w fun e w'=>e=.returned (.tuple #[.pointer (some ⟨w.heap.size+1,0,none⟩),.nilIface])∧SiAt w' w.heap.size (w.heap.size+1) (siNew id) w.heap.size (.slice none 0 0) (fun _=>.slice none 0 0)∧Below w.heap.size w w':=by
 have d0:decide (id<0)=false:=decide_eq_false (by omega)
 have d1:decide (4≤id)=false:=decide_eq_false (by omega)
 have hmk:=mkMap w
 go_enter Tryz.func11,Tryz.ntmps11
 go_wp2_with fail
 go_ret2
 refine ⟨rfl,SiAt.fresh ?_ ?_ (by omega) (Nat.le_refl _) (by omega),zB⟩
 ·exact blk_new (by simp) _
 ·exact blk_alloc (blk_new rfl _) _
end Go.Proofs.YtbopfhbeegkkaabGreatDoor
