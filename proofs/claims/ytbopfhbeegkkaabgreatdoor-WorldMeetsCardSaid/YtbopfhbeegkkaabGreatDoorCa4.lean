/- Part 4 of a proof: lemmas and contracts that other parts use. -/
import Derived.Test.YtbopfhbeegkkaabGreatDoorCa3
import Derived.Deep.RegionHeld3
import Derived.Laws.BitsAllLaws
import Derived.Laws.BitsLemmas
set_option linter.unusedVariables false
set_option linter.unusedSimpArgs false
namespace Go.Proofs.YtbopfhbeegkkaabGreatDoor
open Go.RowKit
def Fresh (w w':World) (v:Value) (bs:List UInt8):Prop:=Below w.heap.size w w'∧w'.ownsRow w.heap.size 5 1 v bs.length (u8s bs)
theorem own_lit {w:World} {B b:Nat} {c:UInt8} {x:Int} (hB:B≤b) (h:w.heap[b]?=some (.cells #[.int .u8 x] 5)) (hx:x=(c.toNat:Int)):
  w.ownsRow B 5 1 (.slice (some ⟨b,0,none⟩) 1 1) [c].length (u8s [c]):=by
 subst hx
 exact ⟨by simp [u8s],.inr ⟨b,1,_,rfl,hB,h,Nat.le_refl _,by simp [maxLen],by simp,by simp [u8s]⟩⟩
theorem heap_alloc (W:World) (o:Obj) (k:Nat):(W.alloc o).heap[k]?=if k=W.heap.size then some o else W.heap[k]?:=by
 show (W.heap.push o)[k]?=_
 rw [Array.getElem?_push]
theorem heap_drew (W:World):W.drew.heap=W.heap:=rfl
theorem Buf.cell {B:Nat} {w0 w:World} {v0 v:Value} {bs:List UInt8} (h:Buf B w0 v0 w v bs) {b o:Nat} {s:Option Nat} (hb:b<w0.heap.size) (hne:v0.ownBlock≠some b):
  w.cell? ⟨b,o,s⟩=w0.cell? ⟨b,o,s⟩:=World.cell?_of_block (h.grown.block b hb (fun e=>hne e.symm))
theorem Buf.ne {B:Nat} {w0 w:World} {v0 v:Value} {bs:List UInt8} (h:Buf B w0 v0 w v bs) {b:Nat} (hb:b<w0.heap.size) (hne:v0.ownBlock≠some b):v.ownBlock≠some b:=by
 rcases h.blk with hk | hk
 ·rw [hk];exact hne
 ·intro e;have:=hk b e;omega
theorem Buf.below {B n:Nat} {w0 w:World} {v0 v:Value} {bs:List UInt8} (h:Buf B w0 v0 w v bs) (hn:n≤w0.heap.size) (hv:∀ k,v0.ownBlock=some k→n≤k):Below n w0 w:=
 ⟨h.grown.os,h.grown.tape,h.grown.output,h.grown.size,fun k hk=>h.grown.block k (by omega) (fun e=>by have:=hv k e.symm;omega)⟩
theorem put_len (B:Nat) (v:Value) (bs:List UInt8) (zs:List Nat) (lb lo n c:Nat) (w:World) (hn:zs.length=n) (hB:B≤w.heap.size)
  (hown:w.ownsRow B 5 1 v bs.length (u8s bs)) (hz:∀ z∈zs,z<4398046511104) (hbs:bs.length+6*zs.length≤1000000)
  (hl:∀ (i:Nat) (z:Nat),zs[i]?=some z→w.cell? ⟨lb,lo+i,none⟩=some (.int .i64 (z:Int))) (hne:v.ownBlock≠some lb):
  Calls Tryz.prog 183 #[v,.slice (some ⟨lb,lo,none⟩) n c] w fun e w'=>∃ v',e=.returned v'∧Buf B w v w' v' (bs++numsB zs):=by
 subst hn;exact put_any B v bs zs lb lo c w hB hown hz hbs hl hne
set_option maxRecDepth 100000 in
set_option maxHeartbeats 4000000 in
theorem encAsk_good (s a0 a1 a2 a3:Nat) (w:World) (hs:s<4) (hr:rgtB a0 a1 a2 a3=true):
  Calls Tryz.prog 151 #[.int .i64 s,.agg #[.int .i64 a0,.int .i64 a1,.int .i64 a2,.int .i64 a3]] w fun e w'=>∃ v,e=.returned (.tuple #[v,.nilIface])∧Fresh w w' v (97::numsB [s,a0,a1,a2,a3]):=by
 have hs':((s:Int)<4):=by omega
 have HB:Hid ((a0≤1099511627776∧a1≤1099511627776)∧(a2≤1099511627776∧a3≤1099511627776)):=hidp (by simp only [rgtB,Bool.and_eq_true,decide_eq_true_eq] at hr;omega)
 have HR:=hidp (fun w=>right_is hr w)
 clear hr
 go_enter Tryz.func151,Tryz.ntmps151
 go_wp2_with (go_at_call 77;with_reducible refine (HR.out _).mono ?_;rintro e w' ⟨rfl,hb⟩;obtain ⟨x,rfl⟩:=wplus_of_below hb;clear hb)
 clear HR
 go_region_held3 (fun _:World=>True) (trivial) (first
  | (go_at_call 183
     with_reducible refine (put_len w.heap.size v (97::numsB [s]) [a0,a1,a2,a3] w.heap.size 0 4 4 _ rfl ?_ ?_ ?_ ?_ ?_ ?_).mono ?_
     ·exact Nat.le_trans (by simp;omega) hb.grown.size
     ·exact hb.own
     ·intro z hz;have:=HB.out;simp at hz;omega
     ·have:=numB_len s 6 (by omega) (by omega);simp [numsB];omega
     ·intro i z hi
      rw [hb.cell (by simp;omega) (by simp [Value.ownBlock];omega)]
      rcases i with _ | _ | _ | _ | i <;> simp at hi <;> subst hi <;> simp [go_sem]
     ·exact hb.ne (by simp;omega) (by simp [Value.ownBlock];omega)
     rintro e w'' ⟨v2,rfl,hb2⟩)
  | (go_at_call 183
     with_reducible refine (put_len w.heap.size _ [97] [s] _ 0 1 1 _ rfl ?_ ?_ ?_ ?_ ?_ ?_).mono ?_
     ·simp;omega
     ·exact own_lit (c:=97) (by omega) (by (try rw [heap_drew]);first | (rw [heap_alloc,if_pos (by simp)];rfl) | (rw [heap_alloc,if_neg (by simp),heap_alloc,if_pos (by simp)];rfl)) rfl
     ·simp;omega
     ·simp
     ·intro i z hi;rcases i with _ | i <;> simp at hi;subst hi;simp [go_sem]
     ·simp [Value.ownBlock]
     rintro e w' ⟨v,rfl,hb⟩))
 all_goals
  have HFr:Hid (Fresh w w'' v2 (97::numsB [s,a0,a1,a2,a3])):=hidp ⟨Below.trans (Below.trans zB (hb.below (n:=w.heap.size) (by simp;omega) (by intro k hk;simp [Value.ownBlock] at hk;omega)))
   (hb2.below (n:=w.heap.size) (Nat.le_trans (by simp;omega) hb.grown.size) (by intro k hk;rcases hb.blk with h | h;(· rw [h] at hk;simp [Value.ownBlock] at hk;omega);(· exact Nat.le_trans (by simp;omega) (h k hk)))),by
   have:=hb2.own;simpa [numsB] using this⟩
  go_wp2
  go_ret2
  exact ⟨v2,rfl,HFr.out⟩
def BsVal (w:World) (g:Nat) (v:Value) (l:List UInt8):Prop:=
 ∃ A c,v=.slice A l.length c∧l.length≤c∧c≤maxLen∧∀ (i:Nat) (b:UInt8),l[i]?=some b→∃ B o,A=some ⟨B,o,none⟩∧B<g∧w.cell? ⟨B,o+i,none⟩=some (.int .u8 (b.toNat:Int))
def RdAt (w:World) (g:Nat) (r:Rd):Prop:=∃ v,w.heap[g]?=some (.cells #[v,.bool r.bad] 293)∧BsVal w g v r.l
theorem cell_blk {w:World} {g:Nat} {cs:Array Value} {t:TypeId} (h:w.heap[g]?=some (.cells cs t)) (i:Nat):w.cell? ⟨g,i,none⟩=cs[i]?:=cell_of_row w g i cs t (0,0) h
theorem frozen_blk {w:World} {g:Nat} {cs:Array Value} {t:TypeId} (h:w.heap[g]?=some (.cells cs t)) (i:Nat):w.frozen? ⟨g,i,none⟩=false:=by
 simp [World.frozen?,h]
theorem lt_blk {w:World} {g:Nat} {o:Obj} (h:w.heap[g]?=some o):g<w.heap.size:=(Array.getElem?_eq_some_iff.1 h).1
theorem blk_set {w:World} {g:Nat} {cs:Array Value} {t:TypeId} (h:w.heap[g]?=some (.cells cs t)) (i:Nat) (u:Value):(w.setCell ⟨g,i,none⟩ u).heap[g]?=some (.cells (cs.setIfInBounds i u) t):=by
 simp [World.setCell,Array.getElem?_modify,h]
theorem grown_set (w:World) (g i:Nat) (u:Value):w.grownBy (w.setCell ⟨g,i,none⟩ u) (some g):=
 ⟨rfl,rfl,rfl,by simp [World.setCell],fun k _ hne=>Below.heap_setCell w ⟨g,i,none⟩ u k (fun e=>hne (by rw [e]))⟩
theorem and127:∀ x:Fin 256,bits BinOp.and IntKind.u8 (x.val:Int) 127=((x.val % 128:Nat):Int):=by decide +kernel
theorem and127_nat (y:Nat) (h:y<256):bits BinOp.and IntKind.u8 (y:Int) 127=((y % 128:Nat):Int):=and127 ⟨y,h⟩
theorem ofInt_i64 (a:Nat) (ha:a<9223372036854775808):(BitVec.ofInt 64 (a:Int)).toNat=a:=by
 rw [BitVec.ofInt_natCast,BitVec.toNat_ofNat];exact Nat.mod_eq_of_lt (by omega)
theorem i64_or_nat (a b:Nat) (ha:a<9223372036854775808) (hb:b<9223372036854775808):bits .or .i64 (a:Int) (b:Int)=((a ||| b:Nat):Int):=by
 have hx:a ||| b<2 ^ 63:=Nat.or_lt_two_pow (by omega) (by omega)
 show IntKind.i64.wrap ((BitVec.ofInt 64 (a:Int) ||| BitVec.ofInt 64 (b:Int)).toNat:Int)=_
 rw [BitVec.toNat_or,ofInt_i64 a ha,ofInt_i64 b hb,IntKind.wrap_i64]
 omega
theorem or_mul (m x i:Nat) (hm:m<2 ^ i):m ||| x*2 ^ i=m+x*2 ^ i:=by
 rw [Nat.mul_comm,Nat.or_comm,←Nat.two_pow_add_eq_or_of_lt hm,Nat.add_comm]
theorem or_add (m x i p:Nat) (hm:m<p) (hp:p=2 ^ i) (hx:x<128) (hb:p<9007199254740992):bits .or .i64 (m:Int) ((x:Int)*(p:Int))=((m+x*p:Nat):Int):=by
 have h1:x*p≤127*p:=Nat.mul_le_mul_right _ (by omega)
 rw [←Int.natCast_mul,i64_or_nat m (x*p) (by omega) (by omega)]
 subst hp
 rw [or_mul m x i hm]
theorem BsVal.set {w:World} {g:Nat} {v:Value} {l:List UInt8} (h:BsVal w g v l) (i:Nat) (u:Value):BsVal (w.setCell ⟨g,i,none⟩ u) g v l:=by
 obtain ⟨A,c,rfl,h1,h2,h3⟩:=h
 refine ⟨A,c,rfl,h1,h2,fun j b hb=>?_⟩
 obtain ⟨B,o,hA,hne,hc⟩:=h3 j b hb
 refine ⟨B,o,hA,hne,?_⟩
 rw [World.cell?_of_block (w:=w) (Below.heap_setCell w ⟨g,i,none⟩ u B (Nat.ne_of_lt hne))]
 exact hc
theorem BsVal.drop {w:World} {g B o:Nat} {l:List UInt8} {c k:Nat} (hk:k≤l.length) (h:BsVal w g (.slice (some ⟨B,o,none⟩) l.length c) l):
  BsVal w g (.slice (some (if c=k then ⟨B,o,none⟩ else ⟨B,o+k,none⟩)) (l.length-k) (c-k)) (l.drop k):=by
 obtain ⟨A,c',e,h1,h2,h3⟩:=h
 cases e
 refine ⟨_,c-k,by rw [List.length_drop],by rw [List.length_drop];omega,by omega,fun j b hb=>?_⟩
 rw [List.getElem?_drop] at hb
 have hlt:k+j<l.length:=(List.getElem?_eq_some_iff.1 hb).1
 obtain ⟨B',o',hA,hne,hc⟩:=h3 (k+j) b hb
 cases hA
 rw [if_neg (by omega)]
 exact ⟨B,o+k,rfl,hne,by rw [Nat.add_assoc];exact hc⟩
theorem BsVal.above {w w':World} {g:Nat} {v:Value} {l:List UInt8} (h:BsVal w g v l) (hk:∀ k,k<g→w'.heap[k]?=w.heap[k]?):BsVal w' g v l:=by
 obtain ⟨A,c,rfl,h1,h2,h3⟩:=h
 refine ⟨A,c,rfl,h1,h2,fun j b hb=>?_⟩
 obtain ⟨B,o,hA,hne,hc⟩:=h3 j b hb
 exact ⟨B,o,hA,hne,by rw [World.cell?_of_block (w:=w) (hk B hne)];exact hc⟩
theorem RdAt.above {w w':World} {g:Nat} {r:Rd} (h:RdAt w g r) (hk:∀ k,k≤g→w'.heap[k]?=w.heap[k]?):RdAt w' g r:=by
 obtain ⟨v,hb,hv⟩:=h
 exact ⟨v,by rw [hk g (Nat.le_refl _)];exact hb,hv.above fun k h=>hk k (Nat.le_of_lt h)⟩
theorem RdAt.lt {w:World} {g:Nat} {r:Rd} (h:RdAt w g r):g<w.heap.size:=by
 obtain ⟨v,hb,_⟩:=h
 exact lt_blk hb
theorem num_none {w:World} {g:Nat} {l:List UInt8} {bad:Bool} {v:Value} (hb:w.heap[g]?=some (.cells #[v,.bool bad] 293)) (hv:BsVal w g v l) (h:rdNum l=none):
  (numR ⟨l,bad⟩).1=0∧RdAt (w.setCell ⟨g,1,none⟩ (.bool true)) g (numR ⟨l,bad⟩).2∧w.grownBy (w.setCell ⟨g,1,none⟩ (.bool true)) (some g):=by
 simp only [numR,h]
 exact ⟨trivial,⟨v,by simpa using blk_set hb 1 (.bool true),hv.set 1 _⟩,grown_set w g 1 _⟩
theorem num_some {w:World} {g B o:Nat} {l:List UInt8} {bad:Bool} {c k n:Nat} (hb:w.heap[g]?=some (.cells #[.slice (some ⟨B,o,none⟩) l.length c,.bool bad] 293)) (hv:BsVal w g (.slice (some ⟨B,o,none⟩) l.length c) l)
  (hk:k≤l.length) (h:rdNum l=some (n,l.drop k)) {u:Value} (hu:u=(.slice (some (if c=k then ⟨B,o,none⟩ else ⟨B,o+k,none⟩)) (l.length-k) (c-k))):
  (numR ⟨l,bad⟩).1=n∧RdAt (w.setCell ⟨g,0,none⟩ u) g (numR ⟨l,bad⟩).2∧w.grownBy (w.setCell ⟨g,0,none⟩ u) (some g):=by
 subst hu
 simp only [numR,h]
 exact ⟨trivial,⟨_,by simpa using blk_set hb 0 _,(hv.drop hk).set 0 _⟩,grown_set w g 0 _⟩
theorem rdGo_step {k m y:Nat} {b:UInt8} {l:List UInt8} (hk:k<l.length) (hb:l[k]=b) (hy:b.toNat=y):
  rdGo k m (l.drop k)=if 5<k∨1099511627776<m+y % 128*128 ^ k∨(y=0∧0<k) then none else if y<128 then some (m+y % 128*128 ^ k,l.drop (k+1)) else rdGo (k+1) (m+y % 128*128 ^ k) (l.drop (k+1)):=by
 rw [List.drop_eq_getElem_cons hk,hb]
 subst hy
 rfl
theorem num_fin {w w':World} {g:Nat} {l:List UInt8} {bad:Bool} {n:Nat} (h:(numR ⟨l,bad⟩).1=n∧RdAt w' g (numR ⟨l,bad⟩).2∧w.grownBy w' (some g)) {x:Int} (hx:x=(n:Int)):
  Ending.returned (.int .i64 x)=.returned (.int .i64 ((numR ⟨l,bad⟩).1:Int))∧RdAt w' g (numR ⟨l,bad⟩).2∧w.grownBy w' (some g):=by
 rw [h.1,hx];exact ⟨rfl,h.2⟩
set_option maxRecDepth 20000 in
set_option maxHeartbeats 8000000 in
theorem num_any (g:Nat) (r:Rd) (w:World) (hr:RdAt w g r) (hl:r.l.length≤1000000):
  Calls Tryz.prog 186 #[.pointer (some ⟨g,0,none⟩)] w fun e w'=>e=.returned (.int .i64 (numR r).1)∧RdAt w' g (numR r).2∧w.grownBy w' (some g):=by
 obtain ⟨l,bad⟩:=r
 obtain ⟨v,hb,hv⟩:=hr
 have hv':=hv
 obtain ⟨A,c,rfl,hc,hcm,hx⟩:=hv'
 simp only at *
 have HV:=hidp hv
 have g0:=cell_blk hb 0
 have g1:=cell_blk hb 1
 have f0:=frozen_blk hb 0
 have f1:=frozen_blk hb 1
 simp at g0 g1
 have HX:=hidp hx
 have HBk:=hidp hb
 clear hx hb hv
 unfold maxLen at hcm
 go_enter Tryz.func186,Tryz.ntmps186
 go_wp2
 go_loop [3,11] (fun n i=>∃ k m:Nat,k≤l.length∧k≤6∧i=.int .i64 k∧n=.int .i64 m∧m<128 ^ k∧rdNum l=rdGo k m (l.drop k)) (fun _ i=>l.length-(intOf i).toNat)
 case atStart=>exact ⟨0,0,Nat.zero_le _,Nat.zero_le _,rfl,rfl,by simp,rfl⟩
 case round=>
  obtain ⟨k,m,hk,hk6,rfl,rfl,hm,hrd⟩:=hrel
  by_cases hlt:k<l.length
  ·obtain ⟨B,o,rfl,hBg',hcell⟩:=HX.out k l[k] (List.getElem?_eq_getElem hlt)
   have hBg:B≠g:=Nat.ne_of_lt hBg'
   obtain ⟨y,hy⟩:∃ y,l[k].toNat=y:=⟨_,rfl⟩
   have hbl:y<256:=by rw [←hy];exact l[k].toNat_lt
   rw [rdGo_step hlt rfl hy] at hrd
   rw [hy] at hcell
   have HRD:=hidp hrd
   clear hrd hy
   obtain ⟨X,hX,hXe⟩:∃ X:Nat,bits BinOp.and IntKind.u8 (y:Int) 127=(X:Int)∧Hid (X=y % 128):=⟨_,and127_nat y hbl,rfl⟩
   have hXb:X<128:=by have:=hXe.out;omega
   have h5:k=0∨k=1∨k=2∨k=3∨k=4∨k=5∨k=6:=by omega
   rcases h5 with rfl | rfl | rfl | rfl | rfl | rfl | rfl
   ·have hm:m<1:=hm
    rw [Nat.add_zero] at hcell
    obtain ⟨M,hM,hMe⟩:∃ M:Nat,bits BinOp.or IntKind.i64 (m:Int) ((X:Int))=(M:Int)∧Hid (M=m+X*1):=⟨_,by have:=or_add m X 0 1 hm rfl hXb (by omega);simpa using this,rfl⟩
    have hMb:M<128:=by have:=hMe.out;omega
    have HR:Hid (rdNum l=if 5<0∨1099511627776<M∨(y=0∧0<0) then none else if y<128 then some (M,l.drop (0+1)) else rdGo (0+1) M (l.drop (0+1))):=hidp (by rw [hMe.out,hXe.out];exact HRD.out)
    clear HRD hMe hXe hm
    have c1':(M:Int)≤1099511627776:=by omega
    cases c2:((y:Int)==0) with
    | true=>
      have e0:y<128:=by have:=eq_of_beq c2;omega
      by_cases c4:c=1
      ·subst c4
       have HN:=hidp (num_some (k:=1) (n:=M) (u:=.slice (some ⟨B,o,none⟩) 0 0) HBk.out HV.out (by omega) (by rw [HR.out,if_neg (by omega),if_pos (by omega)]) (by rw [if_pos rfl,show l.length-1=0 by omega]))
       go_wp2
       go_ret
       exact num_fin HN.out rfl
      ·have HN:=hidp (num_some (k:=1) (n:=M) (u:=.slice (some ⟨B,o+1,none⟩) (l.length-1) (c-1)) HBk.out HV.out (by omega) (by rw [HR.out,if_neg (by omega),if_pos (by omega)]) (by rw [if_neg c4]))
       go_wp2
       go_ret
       exact num_fin HN.out rfl
    | false=>
      by_cases c3:y<128
      ·by_cases c4:c=1
       ·subst c4
        have HN:=hidp (num_some (k:=1) (n:=M) (u:=.slice (some ⟨B,o,none⟩) 0 0) HBk.out HV.out (by omega) (by rw [HR.out,if_neg (by omega),if_pos (by omega)]) (by rw [if_pos rfl,show l.length-1=0 by omega]))
        go_wp2
        go_ret
        exact num_fin HN.out rfl
       ·have HN:=hidp (num_some (k:=1) (n:=M) (u:=.slice (some ⟨B,o+1,none⟩) (l.length-1) (c-1)) HBk.out HV.out (by omega) (by rw [HR.out,if_neg (by omega),if_pos (by omega)]) (by rw [if_neg c4]))
        go_wp2
        go_ret
        exact num_fin HN.out rfl
      ·have HN:Hid (rdNum l=rdGo 1 M (l.drop 1)):=hidp (by rw [HR.out,if_neg (by omega),if_neg c3])
       go_wp2
       go_round
       case rel=>exact ⟨1,M,by omega,by omega,rfl,rfl,hMb,HN.out⟩
       case measure=>simp [intOf];omega
   ·have hm:m<128:=hm
    obtain ⟨M,hM,hMe⟩:∃ M:Nat,bits BinOp.or IntKind.i64 (m:Int) ((X:Int)*128)=(M:Int)∧Hid (M=m+X*128):=⟨_,or_add m X 7 128 hm rfl hXb (by omega),rfl⟩
    have hMb:M<16384:=by have:=hMe.out;omega
    have HR:Hid (rdNum l=if 5<1∨1099511627776<M∨(y=0∧0<1) then none else if y<128 then some (M,l.drop (1+1)) else rdGo (1+1) M (l.drop (1+1))):=hidp (by rw [hMe.out,hXe.out];exact HRD.out)
    clear HRD hMe hXe hm
    have c1':(M:Int)≤1099511627776:=by omega
    cases c2:((y:Int)==0) with
    | true=>
      have e0:y=0:=by have:=eq_of_beq c2;omega
      have HN:=hidp (num_none HBk.out HV.out (by rw [HR.out,if_pos (by omega)]))
      clear e0
      go_wp2
      go_ret
      exact num_fin HN.out rfl
    | false=>
      have e0:y≠0:=by have:=ne_of_beq_false c2;omega
      by_cases c3:y<128
      ·by_cases c4:c=2
       ·subst c4
        have HN:=hidp (num_some (k:=2) (n:=M) (u:=.slice (some ⟨B,o,none⟩) 0 0) HBk.out HV.out (by omega) (by rw [HR.out,if_neg (by omega),if_pos (by omega)]) (by rw [if_pos rfl,show l.length-2=0 by omega]))
        go_wp2
        go_ret
        exact num_fin HN.out rfl
       ·have HN:=hidp (num_some (k:=2) (n:=M) (u:=.slice (some ⟨B,o+2,none⟩) (l.length-2) (c-2)) HBk.out HV.out (by omega) (by rw [HR.out,if_neg (by omega),if_pos (by omega)]) (by rw [if_neg c4]))
        go_wp2
        go_ret
        exact num_fin HN.out rfl
      ·have HN:Hid (rdNum l=rdGo 2 M (l.drop 2)):=hidp (by rw [HR.out,if_neg (by omega),if_neg c3])
       go_wp2
       go_round
       case rel=>exact ⟨2,M,by omega,by omega,rfl,rfl,hMb,HN.out⟩
       case measure=>simp [intOf];omega
   ·have hm:m<16384:=hm
    obtain ⟨M,hM,hMe⟩:∃ M:Nat,bits BinOp.or IntKind.i64 (m:Int) ((X:Int)*16384)=(M:Int)∧Hid (M=m+X*16384):=⟨_,or_add m X 14 16384 hm rfl hXb (by omega),rfl⟩
    have hMb:M<2097152:=by have:=hMe.out;omega
    have HR:Hid (rdNum l=if 5<2∨1099511627776<M∨(y=0∧0<2) then none else if y<128 then some (M,l.drop (2+1)) else rdGo (2+1) M (l.drop (2+1))):=hidp (by rw [hMe.out,hXe.out];exact HRD.out)
    clear HRD hMe hXe hm
    have c1':(M:Int)≤1099511627776:=by omega
    cases c2:((y:Int)==0) with
    | true=>
      have e0:y=0:=by have:=eq_of_beq c2;omega
      have HN:=hidp (num_none HBk.out HV.out (by rw [HR.out,if_pos (by omega)]))
      clear e0
      go_wp2
      go_ret
      exact num_fin HN.out rfl
    | false=>
      have e0:y≠0:=by have:=ne_of_beq_false c2;omega
      by_cases c3:y<128
      ·by_cases c4:c=3
       ·subst c4
        have HN:=hidp (num_some (k:=3) (n:=M) (u:=.slice (some ⟨B,o,none⟩) 0 0) HBk.out HV.out (by omega) (by rw [HR.out,if_neg (by omega),if_pos (by omega)]) (by rw [if_pos rfl,show l.length-3=0 by omega]))
        go_wp2
        go_ret
        exact num_fin HN.out rfl
       ·have HN:=hidp (num_some (k:=3) (n:=M) (u:=.slice (some ⟨B,o+3,none⟩) (l.length-3) (c-3)) HBk.out HV.out (by omega) (by rw [HR.out,if_neg (by omega),if_pos (by omega)]) (by rw [if_neg c4]))
        go_wp2
        go_ret
        exact num_fin HN.out rfl
      ·have HN:Hid (rdNum l=rdGo 3 M (l.drop 3)):=hidp (by rw [HR.out,if_neg (by omega),if_neg c3])
       go_wp2
       go_round
       case rel=>exact ⟨3,M,by omega,by omega,rfl,rfl,hMb,HN.out⟩
       case measure=>simp [intOf];omega
   ·have hm:m<2097152:=hm
    obtain ⟨M,hM,hMe⟩:∃ M:Nat,bits BinOp.or IntKind.i64 (m:Int) ((X:Int)*2097152)=(M:Int)∧Hid (M=m+X*2097152):=⟨_,or_add m X 21 2097152 hm rfl hXb (by omega),rfl⟩
    have hMb:M<268435456:=by have:=hMe.out;omega
    have HR:Hid (rdNum l=if 5<3∨1099511627776<M∨(y=0∧0<3) then none else if y<128 then some (M,l.drop (3+1)) else rdGo (3+1) M (l.drop (3+1))):=hidp (by rw [hMe.out,hXe.out];exact HRD.out)
    clear HRD hMe hXe hm
    have c1':(M:Int)≤1099511627776:=by omega
    cases c2:((y:Int)==0) with
    | true=>
      have e0:y=0:=by have:=eq_of_beq c2;omega
      have HN:=hidp (num_none HBk.out HV.out (by rw [HR.out,if_pos (by omega)]))
      clear e0
      go_wp2
      go_ret
      exact num_fin HN.out rfl
    | false=>
      have e0:y≠0:=by have:=ne_of_beq_false c2;omega
      by_cases c3:y<128
      ·by_cases c4:c=4
       ·subst c4
        have HN:=hidp (num_some (k:=4) (n:=M) (u:=.slice (some ⟨B,o,none⟩) 0 0) HBk.out HV.out (by omega) (by rw [HR.out,if_neg (by omega),if_pos (by omega)]) (by rw [if_pos rfl,show l.length-4=0 by omega]))
        go_wp2
        go_ret
        exact num_fin HN.out rfl
       ·have HN:=hidp (num_some (k:=4) (n:=M) (u:=.slice (some ⟨B,o+4,none⟩) (l.length-4) (c-4)) HBk.out HV.out (by omega) (by rw [HR.out,if_neg (by omega),if_pos (by omega)]) (by rw [if_neg c4]))
        go_wp2
        go_ret
        exact num_fin HN.out rfl
      ·have HN:Hid (rdNum l=rdGo 4 M (l.drop 4)):=hidp (by rw [HR.out,if_neg (by omega),if_neg c3])
       go_wp2
       go_round
       case rel=>exact ⟨4,M,by omega,by omega,rfl,rfl,hMb,HN.out⟩
       case measure=>simp [intOf];omega
   ·have hm:m<268435456:=hm
    obtain ⟨M,hM,hMe⟩:∃ M:Nat,bits BinOp.or IntKind.i64 (m:Int) ((X:Int)*268435456)=(M:Int)∧Hid (M=m+X*268435456):=⟨_,or_add m X 28 268435456 hm rfl hXb (by omega),rfl⟩
    have hMb:M<34359738368:=by have:=hMe.out;omega
    have HR:Hid (rdNum l=if 5<4∨1099511627776<M∨(y=0∧0<4) then none else if y<128 then some (M,l.drop (4+1)) else rdGo (4+1) M (l.drop (4+1))):=hidp (by rw [hMe.out,hXe.out];exact HRD.out)
    clear HRD hMe hXe hm
    have c1':(M:Int)≤1099511627776:=by omega
    cases c2:((y:Int)==0) with
    | true=>
      have e0:y=0:=by have:=eq_of_beq c2;omega
      have HN:=hidp (num_none HBk.out HV.out (by rw [HR.out,if_pos (by omega)]))
      clear e0
      go_wp2
      go_ret
      exact num_fin HN.out rfl
    | false=>
      have e0:y≠0:=by have:=ne_of_beq_false c2;omega
      by_cases c3:y<128
      ·by_cases c4:c=5
       ·subst c4
        have HN:=hidp (num_some (k:=5) (n:=M) (u:=.slice (some ⟨B,o,none⟩) 0 0) HBk.out HV.out (by omega) (by rw [HR.out,if_neg (by omega),if_pos (by omega)]) (by rw [if_pos rfl,show l.length-5=0 by omega]))
        go_wp2
        go_ret
        exact num_fin HN.out rfl
       ·have HN:=hidp (num_some (k:=5) (n:=M) (u:=.slice (some ⟨B,o+5,none⟩) (l.length-5) (c-5)) HBk.out HV.out (by omega) (by rw [HR.out,if_neg (by omega),if_pos (by omega)]) (by rw [if_neg c4]))
        go_wp2
        go_ret
        exact num_fin HN.out rfl
      ·have HN:Hid (rdNum l=rdGo 5 M (l.drop 5)):=hidp (by rw [HR.out,if_neg (by omega),if_neg c3])
       go_wp2
       go_round
       case rel=>exact ⟨5,M,by omega,by omega,rfl,rfl,hMb,HN.out⟩
       case measure=>simp [intOf];omega
   ·have hm:m<34359738368:=hm
    obtain ⟨M,hM,hMe⟩:∃ M:Nat,bits BinOp.or IntKind.i64 (m:Int) ((X:Int)*34359738368)=(M:Int)∧Hid (M=m+X*34359738368):=⟨_,or_add m X 35 34359738368 hm rfl hXb (by omega),rfl⟩
    have hMb:M<4398046511104:=by have:=hMe.out;omega
    have HR:Hid (rdNum l=if 5<5∨1099511627776<M∨(y=0∧0<5) then none else if y<128 then some (M,l.drop (5+1)) else rdGo (5+1) M (l.drop (5+1))):=hidp (by rw [hMe.out,hXe.out];exact HRD.out)
    clear HRD hMe hXe hm
    by_cases c1:(1099511627776:Int)<(M:Int)
    ·have HN:=hidp (num_none HBk.out HV.out (by rw [HR.out,if_pos (by omega)]))
     go_wp2
     go_ret
     exact num_fin HN.out rfl
    have c1':(M:Int)≤1099511627776:=by omega
    clear c1
    cases c2:((y:Int)==0) with
    | true=>
      have e0:y=0:=by have:=eq_of_beq c2;omega
      have HN:=hidp (num_none HBk.out HV.out (by rw [HR.out,if_pos (by omega)]))
      clear e0
      go_wp2
      go_ret
      exact num_fin HN.out rfl
    | false=>
      have e0:y≠0:=by have:=ne_of_beq_false c2;omega
      by_cases c3:y<128
      ·by_cases c4:c=6
       ·subst c4
        have HN:=hidp (num_some (k:=6) (n:=M) (u:=.slice (some ⟨B,o,none⟩) 0 0) HBk.out HV.out (by omega) (by rw [HR.out,if_neg (by omega),if_pos (by omega)]) (by rw [if_pos rfl,show l.length-6=0 by omega]))
        go_wp2
        go_ret
        exact num_fin HN.out rfl
       ·have HN:=hidp (num_some (k:=6) (n:=M) (u:=.slice (some ⟨B,o+6,none⟩) (l.length-6) (c-6)) HBk.out HV.out (by omega) (by rw [HR.out,if_neg (by omega),if_pos (by omega)]) (by rw [if_neg c4]))
        go_wp2
        go_ret
        exact num_fin HN.out rfl
      ·have HN:Hid (rdNum l=rdGo 6 M (l.drop 6)):=hidp (by rw [HR.out,if_neg (by omega),if_neg c3])
       go_wp2
       go_round
       case rel=>exact ⟨6,M,by omega,by omega,rfl,rfl,hMb,HN.out⟩
       case measure=>simp [intOf];omega
   ·have hm:m<4398046511104:=hm
    obtain ⟨M,hM,hMe⟩:∃ M:Nat,bits BinOp.or IntKind.i64 (m:Int) ((X:Int)*4398046511104)=(M:Int)∧Hid (M=m+X*4398046511104):=⟨_,or_add m X 42 4398046511104 hm rfl hXb (by omega),rfl⟩
    have hMb:M<562949953421312:=by have:=hMe.out;omega
    have HR:Hid (rdNum l=if 5<6∨1099511627776<M∨(y=0∧0<6) then none else if y<128 then some (M,l.drop (6+1)) else rdGo (6+1) M (l.drop (6+1))):=hidp (by rw [hMe.out,hXe.out];exact HRD.out)
    clear HRD hMe hXe hm
    have HN:=hidp (num_none HBk.out HV.out (by rw [HR.out,if_pos (by omega)]))
    go_wp2
    go_ret
    exact num_fin HN.out rfl
  ·have HN:=hidp (num_none HBk.out HV.out (by rw [hrd,List.drop_eq_nil_of_le (by omega)];rfl))
   clear hrd
   go_wp2
   go_ret
   exact num_fin HN.out rfl
end Go.Proofs.YtbopfhbeegkkaabGreatDoor
