/- Part 20 of a proof: lemmas and contracts that other parts use. -/
import Derived.Test.YtbopfhbeegkkaabGreatDoorSe14
import Derived.Test.YtbopfhbeegkkaabGreatDoorSe13
import Derived.Test.YtbopfhbeegkkaabGreatDoorSe9
import Derived.Test.YtbopfhbeegkkaabGreatDoorSe19
set_option linter.unusedVariables false
set_option linter.unusedSimpArgs false
set_option linter.constructorNameAsVariable false
namespace Go.Proofs.YtbopfhbeegkkaabGreatDoor
open Go.RowKit
set_option maxHeartbeats 400000 in
theorem min1_any (a b:Int) (w:World):
  Calls Tryz.prog 140 #[.int .i64 a,.int .i64 b] w fun e w'=>e=.returned (.int .i64 (min a b))∧w=w':=by
 rcases Int.le_total a b with h | h
 ·rw [Int.min_eq_left h]
  by_cases h1:a<b
  all_goals
   go_enter Tryz.func140,Tryz.ntmps140
   go_wp2
   all_goals go_ret
   all_goals exact ⟨by simp;try omega,rfl⟩
 ·rw [Int.min_eq_right h]
  by_cases h1:b<a
  all_goals
   go_enter Tryz.func140,Tryz.ntmps140
   go_wp2
   all_goals go_ret
   all_goals exact ⟨by simp;try omega,rfl⟩
def mmax (k j:Nat) (a b:Int):Int:=if j<k then max a b else a
def Rmax (w:World) (a0 a1 a2 a3 b0 b1 b2 b3:Int) (k:Nat) (wr:World):Prop:=∃ x,wr=wplus (((w.alloc (.cells #[.int .i64 (mmax k 0 a0 b0),.int .i64 (mmax k 1 a1 b1),.int .i64 (mmax k 2 a2 b2),.int .i64 (mmax k 3 a3 b3)] 32)).alloc (.cells #[.int .i64 b0,.int .i64 b1,.int .i64 b2,.int .i64 b3] 32)).alloc (.cells #[.int .i64 0,.int .i64 0,.int .i64 0,.int .i64 0] 32)) x
set_option maxHeartbeats 2000000 in
theorem rMax_any (a0 a1 a2 a3 b0 b1 b2 b3:Int) (w:World):
  Calls Tryz.prog 19 #[.agg #[.int .i64 a0,.int .i64 a1,.int .i64 a2,.int .i64 a3],.agg #[.int .i64 b0,.int .i64 b1,.int .i64 b2,.int .i64 b3]] w
   fun e w'=>e=.returned (.agg #[.int .i64 (max a0 b0),.int .i64 (max a1 b1),.int .i64 (max a2 b2),.int .i64 (max a3 b3)])∧Below w.heap.size w w':=by
 go_enter Tryz.func19,Tryz.ntmps19
 go_wp2
 go_loopw [6] (fun u wr=>∃ k:Nat,k≤4∧u=.int .i64 k∧Rmax w a0 a1 a2 a3 b0 b1 b2 b3 k wr) (fun u _=>4-(intOf u).toNat)
 case atStart=>exact ⟨0,by omega,rfl,⟨#[],w.drawn⟩,by simp [wplus,mmax];rfl⟩
 case round=>
  obtain ⟨k,hk,rfl,x,rfl⟩:=hrel
  obtain rfl | rfl | rfl | rfl | rfl:k=0∨k=1∨k=2∨k=3∨k=4:=by omega
  ·simp only [mmax,Nat.reduceLT,if_true,if_false]
   go_wp2
   refine wp_region_plus (by kernel_rfl) (by kernel_rfl) ?_
   repeat (first | go_big_quiet_skip | (go_big_quiet_want;go_big_quiet_op;  go_big_quiet_on))
   refine wpQuiet_nil ?_
   rintro _ ⟨x1,rfl⟩
   by_cases h:a0<b0
   ·go_wp2
    go_roundw
    case rel=>exact ⟨1,by omega,rfl,⟨_,by rw [wplus_wplus];simp only [mmax,Nat.reduceLT,if_true,if_false,show max a0 b0=b0 by omega];rfl⟩⟩
    case measure=>simp [intOf]
   ·go_wp2
    go_roundw
    case rel=>exact ⟨1,by omega,rfl,⟨_,by rw [wplus_wplus];simp only [mmax,Nat.reduceLT,if_true,if_false,show max a0 b0=a0 by omega];rfl⟩⟩
    case measure=>simp [intOf]
  ·simp only [mmax,Nat.reduceLT,if_true,if_false]
   go_wp2
   refine wp_region_plus (by kernel_rfl) (by kernel_rfl) ?_
   repeat (first | go_big_quiet_skip | (go_big_quiet_want;go_big_quiet_op;  go_big_quiet_on))
   refine wpQuiet_nil ?_
   rintro _ ⟨x1,rfl⟩
   by_cases h:a1<b1
   ·go_wp2
    go_roundw
    case rel=>exact ⟨2,by omega,rfl,⟨_,by rw [wplus_wplus];simp only [mmax,Nat.reduceLT,if_true,if_false,show max a1 b1=b1 by omega];rfl⟩⟩
    case measure=>simp [intOf]
   ·go_wp2
    go_roundw
    case rel=>exact ⟨2,by omega,rfl,⟨_,by rw [wplus_wplus];simp only [mmax,Nat.reduceLT,if_true,if_false,show max a1 b1=a1 by omega];rfl⟩⟩
    case measure=>simp [intOf]
  ·simp only [mmax,Nat.reduceLT,if_true,if_false]
   go_wp2
   refine wp_region_plus (by kernel_rfl) (by kernel_rfl) ?_
   repeat (first | go_big_quiet_skip | (go_big_quiet_want;go_big_quiet_op;  go_big_quiet_on))
   refine wpQuiet_nil ?_
   rintro _ ⟨x1,rfl⟩
   by_cases h:a2<b2
   ·go_wp2
    go_roundw
    case rel=>exact ⟨3,by omega,rfl,⟨_,by rw [wplus_wplus];simp only [mmax,Nat.reduceLT,if_true,if_false,show max a2 b2=b2 by omega];rfl⟩⟩
    case measure=>simp [intOf]
   ·go_wp2
    go_roundw
    case rel=>exact ⟨3,by omega,rfl,⟨_,by rw [wplus_wplus];simp only [mmax,Nat.reduceLT,if_true,if_false,show max a2 b2=a2 by omega];rfl⟩⟩
    case measure=>simp [intOf]
  ·simp only [mmax,Nat.reduceLT,if_true,if_false]
   go_wp2
   refine wp_region_plus (by kernel_rfl) (by kernel_rfl) ?_
   repeat (first | go_big_quiet_skip | (go_big_quiet_want;go_big_quiet_op;  go_big_quiet_on))
   refine wpQuiet_nil ?_
   rintro _ ⟨x1,rfl⟩
   by_cases h:a3<b3
   ·go_wp2
    go_roundw
    case rel=>exact ⟨4,by omega,rfl,⟨_,by rw [wplus_wplus];simp only [mmax,Nat.reduceLT,if_true,if_false,show max a3 b3=b3 by omega];rfl⟩⟩
    case measure=>simp [intOf]
   ·go_wp2
    go_roundw
    case rel=>exact ⟨4,by omega,rfl,⟨_,by rw [wplus_wplus];simp only [mmax,Nat.reduceLT,if_true,if_false,show max a3 b3=a3 by omega];rfl⟩⟩
    case measure=>simp [intOf]
  ·simp only [mmax,Nat.reduceLT,if_true,if_false]
   go_wp2
   exact bodyPost_ret (v:=.agg #[.int .i64 (max a0 b0),.int .i64 (max a1 b1),.int .i64 (max a2 b2),.int .i64 (max a3 b3)]) (by simp [results,Tryz.results19,go_sem]) rfl ⟨rfl,zB⟩
def covB (a0 a1 a2 a3 b0 b1 b2 b3:Int):Bool:=decide (b0≤a0)&&decide (b1≤a1)&&decide (b2≤a2)&&decide (b3≤a3)
def Plus (W wr:World):Prop:=∃ x,wr=wplus W x
set_option maxHeartbeats 2000000 in
theorem rCovers_any (a0 a1 a2 a3 b0 b1 b2 b3:Int) (w:World):
  Calls Tryz.prog 73 #[.agg #[.int .i64 a0,.int .i64 a1,.int .i64 a2,.int .i64 a3],.agg #[.int .i64 b0,.int .i64 b1,.int .i64 b2,.int .i64 b3]] w
   fun e w'=>e=.returned (.bool (covB a0 a1 a2 a3 b0 b1 b2 b3))∧Below w.heap.size w w':=by
 go_enter Tryz.func73,Tryz.ntmps73
 go_wp2
 go_loopw [6] (fun u wr=>∃ k:Nat,k≤4∧u=.int .i64 k∧(0<k→b0≤a0)∧(1<k→b1≤a1)∧(2<k→b2≤a2)∧(3<k→b3≤a3)∧Plus ((w.alloc (.cells #[.int .i64 a0,.int .i64 a1,.int .i64 a2,.int .i64 a3] 32)).alloc (.cells #[.int .i64 b0,.int .i64 b1,.int .i64 b2,.int .i64 b3] 32)) wr) (fun u _=>4-(intOf u).toNat)
 case atStart=>exact ⟨0,by omega,rfl,by omega,by omega,by omega,by omega,⟨#[],w.drawn⟩,by simp [wplus];rfl⟩
 case round=>
  obtain ⟨k,hk,rfl,h0,h1,h2,h3,x,rfl⟩:=hrel
  obtain rfl | rfl | rfl | rfl | rfl:k=0∨k=1∨k=2∨k=3∨k=4:=by omega
  ·clear h0 h1 h2 h3
   go_wp2
   refine wp_region_plus (by kernel_rfl) (by kernel_rfl) ?_
   repeat (first | go_big_quiet_skip | (go_big_quiet_want;go_big_quiet_op;first | go_big_quiet_on))
   refine wpQuiet_nil ?_
   rintro _ ⟨x1,rfl⟩
   by_cases h:a0<b0
   ·go_wp2
    go_ret
    exact ⟨by simp [covB];omega,zB⟩
   ·go_wp2
    go_roundw
    case rel=>exact ⟨1,by omega,rfl,by omega,by omega,by omega,by omega,⟨_,wplus_wplus _ _ _⟩⟩
    case measure=>simp [intOf]
  ·have h0:=h0 (by omega)
   clear h1 h2 h3
   go_wp2
   refine wp_region_plus (by kernel_rfl) (by kernel_rfl) ?_
   repeat (first | go_big_quiet_skip | (go_big_quiet_want;go_big_quiet_op;first | go_big_quiet_on))
   refine wpQuiet_nil ?_
   rintro _ ⟨x1,rfl⟩
   by_cases h:a1<b1
   ·go_wp2
    go_ret
    exact ⟨by simp [covB];omega,zB⟩
   ·go_wp2
    go_roundw
    case rel=>exact ⟨2,by omega,rfl,by omega,by omega,by omega,by omega,⟨_,wplus_wplus _ _ _⟩⟩
    case measure=>simp [intOf]
  ·have h0:=h0 (by omega);have h1:=h1 (by omega)
   clear h2 h3
   go_wp2
   refine wp_region_plus (by kernel_rfl) (by kernel_rfl) ?_
   repeat (first | go_big_quiet_skip | (go_big_quiet_want;go_big_quiet_op;first | go_big_quiet_on))
   refine wpQuiet_nil ?_
   rintro _ ⟨x1,rfl⟩
   by_cases h:a2<b2
   ·go_wp2
    go_ret
    exact ⟨by simp [covB];omega,zB⟩
   ·go_wp2
    go_roundw
    case rel=>exact ⟨3,by omega,rfl,by omega,by omega,by omega,by omega,⟨_,wplus_wplus _ _ _⟩⟩
    case measure=>simp [intOf]
  ·have h0:=h0 (by omega);have h1:=h1 (by omega);have h2:=h2 (by omega)
   clear h3
   go_wp2
   refine wp_region_plus (by kernel_rfl) (by kernel_rfl) ?_
   repeat (first | go_big_quiet_skip | (go_big_quiet_want;go_big_quiet_op;first | go_big_quiet_on))
   refine wpQuiet_nil ?_
   rintro _ ⟨x1,rfl⟩
   by_cases h:a3<b3
   ·go_wp2
    go_ret
    exact ⟨by simp [covB];omega,zB⟩
   ·go_wp2
    go_roundw
    case rel=>exact ⟨4,by omega,rfl,by omega,by omega,by omega,by omega,⟨_,wplus_wplus _ _ _⟩⟩
    case measure=>simp [intOf]
  ·have h0:=h0 (by omega);have h1:=h1 (by omega);have h2:=h2 (by omega);have h3:=h3 (by omega)
   go_wp2
   go_ret
   exact ⟨by simp [covB];omega,zB⟩
structure RsP where
 id:Int
 p0:Int
 p1:Int
 p2:Int
 p3:Int
 lw:Int
 lc:Int
 log:List MTx
 ws:List MTx
 L:List PtP
 ot:Nat→Int
def RsP.r (s:RsP):RSi:=⟨s.id,s.p0,s.p1,s.p2,s.p3,s.lw,s.lc,s.log.map (·.t),s.ws.map (·.t),s.L,s.ot⟩
def RsOwn (y:Nat) (lv av:Value) (b:Nat):Prop:=b=y∨lv.ownBlock=some b∨av.ownBlock=some b
def RsP.has (s:RsP) (m:MTx):Prop:=m∈s.log∨m∈s.ws
structure RsAt (w:World) (B y:Nat) (s:RsP) (lv:Value) (wA:Option Addr) (wc:Nat) (av:Value):Prop where
 c0:w.cell? ⟨y,0,none⟩=some (.int .i64 s.id)
 c1:w.cell? ⟨y,1,none⟩=some (.int .i64 s.p0)
 c2:w.cell? ⟨y,2,none⟩=some (.int .i64 s.p1)
 c3:w.cell? ⟨y,3,none⟩=some (.int .i64 s.p2)
 c4:w.cell? ⟨y,4,none⟩=some (.int .i64 s.p3)
 c5:w.cell? ⟨y,5,none⟩=some (.int .i64 s.lw)
 c6:w.cell? ⟨y,6,none⟩=some (.int .i64 s.lc)
 c7:w.cell? ⟨y,7,none⟩=some lv
 c8:w.cell? ⟨y,8,none⟩=some (.slice wA s.ws.length wc)
 oth:∀ k,k<16→w.cell? ⟨y,10+k,none⟩=some (.int .i64 (s.ot k))
 frz:∀ k,w.frozen? ⟨y,k,none⟩=false
 sto:RfAt w y 9 B s.L av
 row:w.ownsRow B 44 9 lv s.log.length (s.log.flatMap MTx.cells)
 wat:XsAt w wA s.ws∧s.ws.length≤wc∧∀ b o,wA=some ⟨b,o,none⟩→b<w.heap.size∧¬RsOwn y lv av b
 bx:B≤y
 dxl:lv.ownBlock≠some y
 dla:∀ b,lv.ownBlock=some b→av.ownBlock≠some b
 dat:∀ m,s.has m→WsAt w m.A m.t.ws∧∀ b o,m.A=some ⟨b,o,none⟩→b<w.heap.size∧¬RsOwn y lv av b
theorem RsAt.lt {w:World} {B y wc:Nat} {s:RsP} {lv av:Value} {wA:Option Addr} (h:RsAt w B y s lv wA wc av) {b:Nat} (hb:RsOwn y lv av b):B≤b∧b<w.heap.size:=by
 rcases hb with rfl | hb | hb
 ·exact ⟨h.bx,h.sto.lt⟩
 ·exact own_ge h.row hb
 ·exact own_ge h.sto.own hb
theorem XsAt.keep {w w':World} {A:Option Addr} {l:List MTx} (h:XsAt w A l) (hsz:w.heap.size≤w'.heap.size) (hb:∀ b o,A=some ⟨b,o,none⟩→w'.heap[b]?=w.heap[b]?):XsAt w' A l:=fun i m hm=>by
 obtain ⟨b,o,hA,hlt,rest⟩:=h i m hm
 have e:∀ k,w'.cell? ⟨b,k,none⟩=w.cell? ⟨b,k,none⟩:=fun k=>World.cell?_of_block (a:=⟨b,k,none⟩) (hb b o hA)
 simp only [←e] at rest
 exact ⟨b,o,hA,Nat.lt_of_lt_of_le hlt hsz,rest⟩
theorem RsAt.same {w w':World} {B y wc:Nat} {s:RsP} {lv av:Value} {wA:Option Addr} (h:RsAt w B y s lv wA wc av) (hsz:w.heap.size≤w'.heap.size) (ho:∀ b,RsOwn y lv av b→w'.heap[b]?=w.heap[b]?)
  (hw:∀ b o,wA=some ⟨b,o,none⟩→w'.heap[b]?=w.heap[b]?) (hd:∀ m,s.has m→∀ b o,m.A=some ⟨b,o,none⟩→w'.heap[b]?=w.heap[b]?):RsAt w' B y s lv wA wc av:=by
 have hx:=ho y (.inl rfl)
 have hc:∀ k,w'.cell? ⟨y,k,none⟩=w.cell? ⟨y,k,none⟩:=fun k=>World.cell?_of_block hx
 have hf:∀ k,w'.frozen? ⟨y,k,none⟩=w.frozen? ⟨y,k,none⟩:=fun k=>World.frozen?_of_block hx
 have hrow:∀ {e n z:Nat} {v:Value} {xs:List Value},w.ownsRow B e z v n xs→(∀ b,v.ownBlock=some b→w'.heap[b]?=w.heap[b]?)→w'.ownsRow B e z v n xs:=by
  intro e n z v xs h1 h2
  obtain ⟨hl,hn | ⟨g,cap,cur,hv,hb,hg,rest⟩⟩:=h1
  ·exact ⟨hl,.inl hn⟩
  ·exact ⟨hl,.inr ⟨g,cap,cur,hv,hb,by rw [h2 g (by rw [hv];rfl)];exact hg,rest⟩⟩
 refine ⟨(hc 0).trans h.c0,(hc 1).trans h.c1,(hc 2).trans h.c2,(hc 3).trans h.c3,(hc 4).trans h.c4,(hc 5).trans h.c5,(hc 6).trans h.c6,(hc 7).trans h.c7,(hc 8).trans h.c8,fun k hk=>(hc _).trans (h.oth k hk),fun k=>(hf k).trans (h.frz k),?_,hrow h.row (fun b e=>ho b (.inr (.inl e))),?_,h.bx,h.dxl,h.dla,?_⟩
 ·exact ⟨Nat.lt_of_lt_of_le h.sto.lt hsz,(hc _).trans h.sto.cel,(hf _).trans h.sto.frz,hrow h.sto.own (fun b e=>ho b (.inr (.inr e))),h.sto.ng⟩
 ·exact ⟨h.wat.1.keep hsz hw,h.wat.2.1,fun b o e=>⟨Nat.lt_of_lt_of_le (h.wat.2.2 b o e).1 hsz,(h.wat.2.2 b o e).2⟩⟩
 ·intro m hm
  obtain ⟨h1,h2⟩:=h.dat m hm
  exact ⟨h1.keep (hd m hm),fun b o e=>⟨Nat.lt_of_lt_of_le (h2 b o e).1 hsz,(h2 b o e).2⟩⟩
theorem RsAt.below {w w':World} {B y wc:Nat} {s:RsP} {lv av:Value} {wA:Option Addr} (h:RsAt w B y s lv wA wc av) (hb:Below w.heap.size w w'):RsAt w' B y s lv wA wc av:=
 h.same hb.size (fun b hb'=>hb.block b (h.lt hb').2) (fun b o e=>hb.block b (h.wat.2.2 b o e).1) (fun m hm b o e=>hb.block b ((h.dat m hm).2 b o e).1)
theorem RsAt.vec {w:World} {B y wc:Nat} {s:RsP} {lv av:Value} {wA:Option Addr} (h:RsAt w B y s lv wA wc av):w.cell? ⟨y,1,none⟩=some (.int .i64 s.p0)∧w.cell? ⟨y,1+1,none⟩=some (.int .i64 s.p1)∧w.cell? ⟨y,1+2,none⟩=some (.int .i64 s.p2)∧w.cell? ⟨y,1+3,none⟩=some (.int .i64 s.p3):=⟨h.c1,h.c2,h.c3,h.c4⟩
def RsP.at (s:RsP) (i:Int):Int:=atV s.p0 s.p1 s.p2 s.p3 i
theorem RsAt.apc {w:World} {B y wc:Nat} {s:RsP} {lv av:Value} {wA:Option Addr} (h:RsAt w B y s lv wA wc av) {k:Nat} (hk:k<4):w.cell? ⟨y,1+k,none⟩=some (.int .i64 (s.at (k:Int))):=by
 obtain ⟨v1,v2,v3,v4⟩:=h.vec
 have hc:k=0∨k=1∨k=2∨k=3:=by omega
 rcases hc with rfl | rfl | rfl | rfl
 ·exact v1
 ·exact v2
 ·exact v3
 ·exact v4
def RsP.setc (s:RsP) (i:Nat) (z:Int):RsP:=
 { s with p0:=if i=1 then z else s.p0,p1:=if i=2 then z else s.p1,p2:=if i=3 then z else s.p2,p3:=if i=4 then z else s.p3,lw:=if i=5 then z else s.lw,lc:=if i=6 then z else s.lc,ot:=fun k=>if i=10+k then z else s.ot k }
theorem SiFr.setR {w:World} {y i:Nat} {lv av:Value} (v:Value):SiFr w (w.setCell ⟨y,i,none⟩ v) (RsOwn y lv av) (RsOwn y lv av):=
 ⟨rfl,rfl,rfl,by simp [World.setCell],fun k hk hn=>(grown_set w y i v).block k hk (by simp;exact fun e=>hn (.inl e)),fun _ h=>.inl h⟩
theorem RsAt.setc {w:World} {B y wc i:Nat} {s:RsP} {lv av:Value} {wA:Option Addr} (h:RsAt w B y s lv wA wc av) (hi:(1≤i∧i≤6)∨(10≤i∧i<26)) (z:Int):RsAt (w.setCell ⟨y,i,none⟩ (.int .i64 z)) B y (s.setc i z) lv wA wc av:=by
 have hgs:=grown_set w y i (.int .i64 z)
 have hx:∀ b,b<w.heap.size→b≠y→(w.setCell ⟨y,i,none⟩ (.int .i64 z)).heap[b]?=w.heap[b]?:=fun b hb hne=>hgs.block b hb (by simp;exact hne)
 have hf:∀ k,(w.setCell ⟨y,i,none⟩ (.int .i64 z)).frozen? ⟨y,k,none⟩=w.frozen? ⟨y,k,none⟩:=fun k=>World.frozen?_setCell ..
 have hs:(w.setCell ⟨y,i,none⟩ (.int .i64 z)).heap.size=w.heap.size:=by simp [World.setCell]
 have t:∀ {j:Nat} {a:Int},w.cell? ⟨y,j,none⟩=some (.int .i64 a)→(w.setCell ⟨y,i,none⟩ (.int .i64 z)).cell? ⟨y,j,none⟩=some (.int .i64 (if i=j then z else a)):=fun {j a} hj=>by
  rw [cell_set hj]
  split <;> rfl
 refine ⟨?_,t h.c1,t h.c2,t h.c3,t h.c4,t h.c5,t h.c6,?_,?_,fun k hk=>t (h.oth k hk),fun k=>(hf k).trans (h.frz k),?_,?_,?_,h.bx,h.dxl,h.dla,?_⟩
 ·have:=cell_set (i:=i) (v:=.int .i64 z) h.c0;rw [if_neg (by omega)] at this;exact this
 ·have:=cell_set (i:=i) (v:=.int .i64 z) h.c7;rw [if_neg (by omega)] at this;exact this
 ·have:=cell_set (i:=i) (v:=.int .i64 z) h.c8;rw [if_neg (by omega)] at this;exact this
 ·refine ⟨by rw [hs];exact h.sto.lt,?_,(hf _).trans h.sto.frz,h.sto.own.kept hgs (.inr h.sto.ng),h.sto.ng⟩
  have:=cell_set (i:=i) (v:=.int .i64 z) h.sto.cel;rw [if_neg (by omega)] at this;exact this
 ·exact h.row.kept hgs (.inr h.dxl)
 ·obtain ⟨h1,h2,h3⟩:=h.wat
  exact ⟨h1.keep (by rw [hs];exact Nat.le_refl _) (fun b o e=>hx b (h3 b o e).1 (fun e2=>(h3 b o e).2 (.inl e2))),h2,fun b o e=>⟨by rw [hs];exact (h3 b o e).1,(h3 b o e).2⟩⟩
 ·intro m hm
  obtain ⟨h1,h2⟩:=h.dat m hm
  exact ⟨h1.keep fun b o e=>hx b (h2 b o e).1 (fun e2=>(h2 b o e).2 (.inl e2)),fun b o e=>⟨by rw [hs];exact (h2 b o e).1,(h2 b o e).2⟩⟩
theorem RsAt.store {w w':World} {B y wc:Nat} {s:RsP} {lv av av':Value} {wA:Option Addr} {L':List PtP} (h:RsAt w B y s lv wA wc av) (hst:RfAt w' y 9 B L' av') (fr:RfFr w w' y 9 av av'):
  RsAt w' B y { s with L:=L' } lv wA wc av'∧SiFr w w' (RsOwn y lv av) (RsOwn y lv av'):=by
 have hnew:∀ b,av'.ownBlock=some b→av.ownBlock=some b∨w.heap.size≤b:=fun b e=>by
  rcases fr.own b (.inr e) with (e2 | e2) | e2
  ·subst e2;exact absurd e hst.ng
  ·exact .inl e2
  ·exact .inr e2
 have hno:∀ b,b<w.heap.size→¬RsOwn y lv av b→w'.heap[b]?=w.heap[b]?:=fun b h1 h2=>fr.block b h1 (fun e=>h2 (e.elim .inl (fun e=>.inr (.inr e))))
 have hno':∀ b,b<w.heap.size→¬RsOwn y lv av b→¬RsOwn y lv av' b:=fun b h1 h2 e=>by
  rcases e with e | e | e
  ·exact h2 (.inl e)
  ·exact h2 (.inr (.inl e))
  ·rcases hnew b e with e2 | e2
   ·exact h2 (.inr (.inr e2))
   ·omega
 have hlv:∀ b,lv.ownBlock=some b→w'.heap[b]?=w.heap[b]?:=fun b e=>fr.block b (own_ge h.row e).2 (fun e2=>by
  rcases e2 with e2 | e2
  ·subst e2;exact h.dxl e
  ·exact h.dla b e e2)
 have hc:∀ k,k≠9→w'.cell? ⟨y,k,none⟩=w.cell? ⟨y,k,none⟩:=fr.rest
 refine ⟨⟨(hc 0 (by omega)).trans h.c0,(hc 1 (by omega)).trans h.c1,(hc 2 (by omega)).trans h.c2,(hc 3 (by omega)).trans h.c3,(hc 4 (by omega)).trans h.c4,(hc 5 (by omega)).trans h.c5,(hc 6 (by omega)).trans h.c6,(hc 7 (by omega)).trans h.c7,(hc 8 (by omega)).trans h.c8,fun k hk=>(hc _ (by omega)).trans (h.oth k hk),
  fun k=>(fr.frzd k).trans (h.frz k),hst,?_,?_,h.bx,h.dxl,fun b e e2=>?_,fun m hm=>?_⟩,⟨fr.os,fr.tape,fr.output,fr.size,hno,fun b e=>?_⟩⟩
 ·obtain ⟨hl,hn | ⟨g,cap,cur,hv,hb,hg,rest⟩⟩:=h.row
  ·exact ⟨hl,.inl hn⟩
  ·exact ⟨hl,.inr ⟨g,cap,cur,hv,hb,by rw [hlv g (by rw [hv];rfl)];exact hg,rest⟩⟩
 ·obtain ⟨h1,h2,h3⟩:=h.wat
  exact ⟨h1.keep fr.size (fun b o e=>hno b (h3 b o e).1 (h3 b o e).2),h2,fun b o e=>⟨Nat.lt_of_lt_of_le (h3 b o e).1 fr.size,hno' b (h3 b o e).1 (h3 b o e).2⟩⟩
 ·rcases hnew b e2 with e3 | e3
  ·exact h.dla b e e3
  ·have:=(own_ge h.row e).2;omega
 ·obtain ⟨h1,h2⟩:=h.dat m hm
  exact ⟨h1.keep fun b o e=>hno b (h2 b o e).1 (h2 b o e).2,fun b o e=>⟨Nat.lt_of_lt_of_le (h2 b o e).1 fr.size,hno' b (h2 b o e).1 (h2 b o e).2⟩⟩
 ·rcases e with e | e | e
  ·exact .inl (.inl e)
  ·exact .inl (.inr (.inl e))
  ·rcases hnew b e with e2 | e2
   ·exact .inl (.inr (.inr e2))
   ·exact .inr e2
theorem RsAt.logged {w w1:World} {B y wc:Nat} {s:RsP} {lv lv' av:Value} {wA:Option Addr} {m:MTx} (h:RsAt w B y s lv wA wc av) (hg:w.grownBy w1 lv.ownBlock)
  (hown:w1.ownsRow B 44 9 lv' (s.log++[m]).length ((s.log++[m]).flatMap MTx.cells)) (hv:lv'.ownBlock=lv.ownBlock∨∀ b,lv'.ownBlock=some b→w.heap.size≤b)
  (hm:WsAt w m.A m.t.ws∧∀ b o,m.A=some ⟨b,o,none⟩→b<w.heap.size∧¬RsOwn y lv av b):
  RsAt (w1.setCell ⟨y,7,none⟩ lv') B y { s with log:=s.log++[m] } lv' wA wc av∧SiFr w (w1.setCell ⟨y,7,none⟩ lv') (RsOwn y lv av) (RsOwn y lv' av):=by
 have hy:=h.sto.lt
 have hgs:=grown_set w1 y 7 lv'
 have hsz:=hg.size
 have hs:(w1.setCell ⟨y,7,none⟩ lv').heap.size=w1.heap.size:=by simp [World.setCell]
 have hyb:w1.heap[y]?=w.heap[y]?:=hg.block y hy (fun e=>h.dxl e.symm)
 have hc1:∀ k,w1.cell? ⟨y,k,none⟩=w.cell? ⟨y,k,none⟩:=fun k=>World.cell?_of_block hyb
 have hf1:∀ k,w1.frozen? ⟨y,k,none⟩=w.frozen? ⟨y,k,none⟩:=fun k=>World.frozen?_of_block hyb
 have hf2:∀ k,(w1.setCell ⟨y,7,none⟩ lv').frozen? ⟨y,k,none⟩=w1.frozen? ⟨y,k,none⟩:=fun k=>World.frozen?_setCell ..
 have hc2:∀ k,k≠7→(w1.setCell ⟨y,7,none⟩ lv').cell? ⟨y,k,none⟩=w.cell? ⟨y,k,none⟩:=fun k hk=>by
  rw [World.cell?_setCell_other _ _ _ _ (by simp only [ne_eq,Addr.mk.injEq,not_and];omega)];exact hc1 k
 have hlvy:lv'.ownBlock≠some y:=by
  rcases hv with e | e
  ·rw [e];exact h.dxl
  ·intro e2;have:=e y e2;omega
 have hnew:∀ b,lv'.ownBlock=some b→lv.ownBlock=some b∨w.heap.size≤b:=fun b e=>by
  rcases hv with e2 | e2
  ·exact .inl (e2 ▸ e)
  ·exact .inr (e2 b e)
 have hno:∀ b,b<w.heap.size→¬RsOwn y lv av b→(w1.setCell ⟨y,7,none⟩ lv').heap[b]?=w.heap[b]?:=fun b h1 h2=>
  (hgs.block b (by omega) (by simp;exact fun e=>h2 (.inl e))).trans (hg.block b h1 (fun e=>h2 (.inr (.inl e.symm))))
 have hno':∀ b,b<w.heap.size→¬RsOwn y lv av b→¬RsOwn y lv' av b:=fun b h1 h2 e=>by
  rcases e with e | e | e
  ·exact h2 (.inl e)
  ·rcases hnew b e with e2 | e2
   ·exact h2 (.inr (.inl e2))
   ·omega
  ·exact h2 (.inr (.inr e))
 refine ⟨⟨(hc2 0 (by omega)).trans h.c0,(hc2 1 (by omega)).trans h.c1,(hc2 2 (by omega)).trans h.c2,(hc2 3 (by omega)).trans h.c3,(hc2 4 (by omega)).trans h.c4,(hc2 5 (by omega)).trans h.c5,(hc2 6 (by omega)).trans h.c6,World.cell?_setCell_same _ _ _ ((hc1 7).trans h.c7),(hc2 8 (by omega)).trans h.c8,fun k hk=>(hc2 _ (by omega)).trans (h.oth k hk),
  fun k=>(hf2 k).trans ((hf1 k).trans (h.frz k)),?_,hown.kept hgs (.inr hlvy),?_,h.bx,hlvy,fun b e e2=>?_,fun m' hm'=>?_⟩,⟨hg.os,hg.tape,hg.output,by rw [hs];exact hsz,hno,fun b e=>?_⟩⟩
 ·refine ⟨by rw [hs];omega,(hc2 9 (by omega)).trans h.sto.cel,(hf2 9).trans ((hf1 9).trans h.sto.frz),?_,h.sto.ng⟩
  obtain ⟨hl,hn | ⟨g,cap,cur,hv2,hb,hg2,rest⟩⟩:=h.sto.own
  ·exact ⟨hl,.inl hn⟩
  ·refine ⟨hl,.inr ⟨g,cap,cur,hv2,hb,?_,rest⟩⟩
   have e1:av.ownBlock=some g:=by rw [hv2];rfl
   rw [hgs.block g (by have:=lt_blk hg2;omega) (by simp;rintro rfl;exact h.sto.ng e1),hg.block g (lt_blk hg2) (fun e=>h.dla g e.symm e1)]
   exact hg2
 ·obtain ⟨h1,h2,h3⟩:=h.wat
  exact ⟨h1.keep (by rw [hs];exact hsz) (fun b o e=>hno b (h3 b o e).1 (h3 b o e).2),h2,fun b o e=>⟨by rw [hs];have:=(h3 b o e).1;omega,hno' b (h3 b o e).1 (h3 b o e).2⟩⟩
 ·rcases hnew b e with e3 | e3
  ·exact h.dla b e3 e2
  ·have:=(own_ge h.sto.own e2).2;omega
 ·have hm2:WsAt w m'.A m'.t.ws∧∀ b o,m'.A=some ⟨b,o,none⟩→b<w.heap.size∧¬RsOwn y lv av b:=by
   rcases hm' with h1 | h1
   ·rcases List.mem_append.1 h1 with h2 | h2
    ·exact h.dat m' (.inl h2)
    ·obtain rfl:m'=m:=by simpa using h2
     exact hm
   ·exact h.dat m' (.inr h1)
  obtain ⟨h1,h2⟩:=hm2
  exact ⟨h1.keep fun b o e=>hno b (h2 b o e).1 (h2 b o e).2,fun b o e=>⟨by rw [hs];have:=(h2 b o e).1;omega,hno' b (h2 b o e).1 (h2 b o e).2⟩⟩
 ·rcases e with e | e | e
  ·exact .inl (.inl e)
  ·rcases hnew b e with e2 | e2
   ·exact .inl (.inr (.inl e2))
   ·exact .inr e2
  ·exact .inl (.inr (.inr e))
theorem RsAt.waits {w:World} {B y wc wc':Nat} {s:RsP} {lv av:Value} {wA wA':Option Addr} {ws':List MTx} (h:RsAt w B y s lv wA wc av) (hx:XsAt w wA' ws') (hc:ws'.length≤wc') (hb:∀ b o,wA'=some ⟨b,o,none⟩→b<w.heap.size∧¬RsOwn y lv av b)
  (hd:∀ m∈ws',WsAt w m.A m.t.ws∧∀ b o,m.A=some ⟨b,o,none⟩→b<w.heap.size∧¬RsOwn y lv av b):
  RsAt (w.setCell ⟨y,8,none⟩ (.slice wA' ws'.length wc')) B y { s with ws:=ws' } lv wA' wc' av:=by
 have hgs:=grown_set w y 8 (.slice wA' ws'.length wc')
 have hx':∀ b,b<w.heap.size→b≠y→(w.setCell ⟨y,8,none⟩ (.slice wA' ws'.length wc')).heap[b]?=w.heap[b]?:=fun b hb hne=>hgs.block b hb (by simp;exact hne)
 have hf:∀ k,(w.setCell ⟨y,8,none⟩ (.slice wA' ws'.length wc')).frozen? ⟨y,k,none⟩=w.frozen? ⟨y,k,none⟩:=fun k=>World.frozen?_setCell ..
 have hs:(w.setCell ⟨y,8,none⟩ (.slice wA' ws'.length wc')).heap.size=w.heap.size:=by simp [World.setCell]
 have t:∀ {j:Nat} {u:Value},j≠8→w.cell? ⟨y,j,none⟩=some u→(w.setCell ⟨y,8,none⟩ (.slice wA' ws'.length wc')).cell? ⟨y,j,none⟩=some u:=fun {j u} hj hu=>by
  rw [World.cell?_setCell_other _ _ _ _ (by simp only [ne_eq,Addr.mk.injEq,not_and];omega)];exact hu
 refine ⟨t (by omega) h.c0,t (by omega) h.c1,t (by omega) h.c2,t (by omega) h.c3,t (by omega) h.c4,t (by omega) h.c5,t (by omega) h.c6,t (by omega) h.c7,World.cell?_setCell_same _ _ _ h.c8,fun k hk=>t (by omega) (h.oth k hk),fun k=>(hf k).trans (h.frz k),?_,h.row.kept hgs (.inr h.dxl),?_,h.bx,h.dxl,h.dla,fun m hm=>?_⟩
 ·exact ⟨by rw [hs];exact h.sto.lt,t (by omega) h.sto.cel,(hf _).trans h.sto.frz,h.sto.own.kept hgs (.inr h.sto.ng),h.sto.ng⟩
 ·exact ⟨hx.keep (by rw [hs];exact Nat.le_refl _) (fun b o e=>hx' b (hb b o e).1 (fun e2=>(hb b o e).2 (.inl e2))),hc,fun b o e=>⟨by rw [hs];exact (hb b o e).1,(hb b o e).2⟩⟩
 ·have h12:WsAt w m.A m.t.ws∧∀ b o,m.A=some ⟨b,o,none⟩→b<w.heap.size∧¬RsOwn y lv av b:=by
   rcases hm with hm | hm
   ·exact h.dat m (.inl hm)
   ·exact hd m hm
  obtain ⟨h1,h2⟩:=h12
  exact ⟨h1.keep fun b o e=>hx' b (h2 b o e).1 (fun e2=>(h2 b o e).2 (.inl e2)),fun b o e=>⟨by rw [hs];exact (h2 b o e).1,(h2 b o e).2⟩⟩
end Go.Proofs.YtbopfhbeegkkaabGreatDoor
