/- Part 35 of a proof: lemmas and contracts that other parts use. -/
import Derived.Test.YtbopfhbeegkkaabGreatDoorCa29
import Derived.Test.YtbopfhbeegkkaabGreatDoorCa33
set_option linter.unusedVariables false
set_option linter.unusedSimpArgs false
set_option linter.constructorNameAsVariable false
namespace Go.Proofs.YtbopfhbeegkkaabGreatDoor
open Go.RowKit
section
variable {w0 w:World} {n:Nat} {O:Nat→Ob} {p g:Nat} {A:AWd} {v:WV} {k u x:Nat}
set_option maxRecDepth 20000 in
set_option maxHeartbeats 8000000 in
theorem wClient_ok (hp:PWx w0.heap.size O p g A v) (h:Mem w0 w n O) (hn:p+16≤n) (hk:k<A.C):
  Calls Tryz.prog 54 #[.pointer (some ⟨g,0,none⟩),.int .i64 (k:Nat)] w fun e w'=>e=.returned (.tuple #[.int .i64 (A.pl k:Int),.agg #[.int .i64 (A.cl k).q0,.int .i64 (A.cl k).q1,.int .i64 (A.cl k).q2,.int .i64 (A.cl k).q3],.agg #[.int .i64 (A.cl k).n0,.int .i64 (A.cl k).n1,.int .i64 (A.cl k).n2,.int .i64 (A.cl k).n3],.bool (A.cl k).op,.nilIface])∧Below w.heap.size w w':=by
 have hb:=hp.blk h hn
 obtain ⟨u,hu⟩:=hp.uk hk
 obtain ⟨x,hx⟩:=hp.xk (hp.ok.pl k)
 obtain ⟨bP,cP,eP,_,lP,kP,_⟩:=row_at h (i:=p+4) (by omega) hp.b4 (by omega)
 have y1:=kP k _ hk (intsN_get hk)
 have HC:=hidp (fun W (hW:Below w.heap.size w W)=>client_ok hp (h.below hW) hn hk hu hx)
 have HPA:=hidp (fun W (hW:Below w.heap.size w W)=>hp.sPast (h.below hW) hn hu)
 have HSN:=hidp (fun W (hW:Below w.heap.size w W)=>hp.sSnap (h.below hW) hn hu)
 have HOP:=hidp (fun W (hW:Below w.heap.size w W)=>hp.sOpen (h.below hW) hn hu)
 rw [eP] at hb
 have c3:=cell_blk hb 3
 simp only [zC,zD,zE] at c3
 haveI:SzGe (g+1) w:=⟨lt_blk hb⟩
 haveI:SzGe (bP+1) w:=⟨lP⟩
 have hk0:(0:Int)≤(k:Int):=by omega
 have hk1:(k:Int)<(A.C:Int):=by omega
 clear hb hu hx eP kP lP hk hp h hn
 generalize A.C=C at *
 generalize A.pl k=q at *
 generalize (A.cl k).q0=e0 at *
 generalize (A.cl k).q1=e1 at *
 generalize (A.cl k).q2=e2 at *
 generalize (A.cl k).q3=e3 at *
 generalize (A.cl k).n0=e4 at *
 generalize (A.cl k).n1=e5 at *
 generalize (A.cl k).n2=e6 at *
 generalize (A.cl k).n3=e7 at *
 generalize (A.cl k).op=op at *
 go_enter Tryz.func54,Tryz.ntmps54
 go_wp2_with fail
 go_at_call 112
 refine (HC.out _ zB).mono ?_
 rintro e w1 ⟨rfl,hb1⟩
 obtain ⟨x1,rfl⟩:=wplus_of_below hb1
 clear hb1 HC
 go_wp2_with fail
 refine wp_region_plus_tail 13 (by kernel_rfl) (by kernel_rfl) ?_
 simp only [List.take_succ_cons,List.take_zero,List.drop_succ_cons,List.drop_zero]
 repeat (first | go_big_quiet_skip | (go_big_quiet_want;go_big_quiet_op;first | go_big_quiet_on | (apply Exists.intro;refine ⟨fun _=>?_,?_⟩;(first | (go_at_call 48;exact Calls.plus_of (HPA.out _ zB)) | (go_at_call 49;exact Calls.plus_of (HSN.out _ zB)) | (go_at_call 50;exact Calls.plus_of (HOP.out _ zB)));go_big_quiet_on)))
 refine wpQuiet_nil ?_
 rintro _ ⟨x9,rfl⟩
 go_wp2_with fail
 refine bodyPost_ret (v:=.tuple #[.int .i64 (q:Int),.agg #[.int .i64 e0,.int .i64 e1,.int .i64 e2,.int .i64 e3],.agg #[.int .i64 e4,.int .i64 e5,.int .i64 e6,.int .i64 e7],.bool op,.nilIface]) ?_ rfl ⟨rfl,zB⟩
 simp [results,Tryz.results54,go_sem]
end
section
variable {w0 w:World} {n:Nat} {O:Nat→Ob} {p g:Nat} {A:AWd} {v:WV} {k u x:Nat}
set_option maxRecDepth 20000 in
set_option maxHeartbeats 4000000 in
theorem wRead_ok (hp:PWx w0.heap.size O p g A v) (h:Mem w0 w n O) (hn:p+16≤n) (hk:k<A.C) (key:Int) (hwf:wf64 key):
  Calls Tryz.prog 60 #[.pointer (some ⟨g,0,none⟩),.int .i64 (k:Nat),.int .i64 key] w fun e w'=>e=.returned (.tuple #[.string (awRead A k key).1,errV (awRead A k key).2])∧Below w.heap.size w w':=by
 obtain ⟨u,hu⟩:=hp.uk hk
 obtain ⟨x,hx⟩:=hp.xk (hp.ok.pl k)
 have HC:=hidp (client_ok hp h hn hk hu hx)
 have HB:=hidp (fun W (hb:Below w.heap.size w W)=>hp.sRead (h.below hb) hn hu hx key hwf)
 obtain ⟨z,hz⟩:∃ z,errV (awRead A k key).2=z:=⟨_,rfl⟩
 obtain ⟨s,hs⟩:∃ s,(awRead A k key).1=s:=⟨_,rfl⟩
 rw [hz,hs] at HB ⊢
 clear hp h hu hx hk hz hs hwf
 go_enter Tryz.func60,Tryz.ntmps60
 go_wp2_with fail
 go_at_call 112
 refine HC.out.mono ?_
 rintro e w1 ⟨rfl,hb1⟩
 have HB1:=hidp hb1
 clear hb1 HC
 go_wp2_with fail
 go_at_call 41
 refine (HB.out _ HB1.out).mono ?_
 rintro e w2 ⟨rfl,hb2⟩
 have HB2:=hidp (HB1.out.trans (hb2.mono HB1.out.size))
 clear hb2 HB HB1
 go_wp2_with fail
 go_ret2
 exact ⟨rfl,HB2.out⟩
set_option maxRecDepth 20000 in
set_option maxHeartbeats 4000000 in
theorem wWrite_ok (hp:PWx w0.heap.size O p g A v) (h:Mem w0 w n O) (hn:p+16≤n) (hk:k<A.C) (y:WrP):
  Calls Tryz.prog 101 #[.pointer (some ⟨g,0,none⟩),.int .i64 (k:Nat),y.val] w fun e w'=>e=.returned (errV (awWriteE A k y))∧WUpd w0 w' n O p g v.xs v.us (awWrite A k y):=by
 obtain ⟨u,hu⟩:=hp.uk hk
 obtain ⟨x,hx⟩:=hp.xk (hp.ok.pl k)
 have HC:=hidp (fun W (hb:Below w.heap.size w W)=>client_ok hp (h.below hb) hn hk hu hx)
 have HB:=hidp (fun W (hb:Below w.heap.size w W)=>hp.sWrite (h.below hb) hn hu y)
 obtain ⟨z,hz⟩:∃ z,errV (awWriteE A k y)=z:=⟨_,rfl⟩
 obtain ⟨AA,hA⟩:∃ AA,awWrite A k y=AA:=⟨_,rfl⟩
 rw [hz,hA] at HB ⊢
 obtain ⟨yk,yd,yg⟩:=y
 unfold WrP.val at *
 simp only at HB ⊢
 clear hp h hu hx hk hz hA
 go_enter Tryz.func101,Tryz.ntmps101
 go_wp2_with fail
 go_at_call 112
 refine (HC.out _ zB).mono ?_
 rintro e w1 ⟨rfl,hb1⟩
 obtain ⟨x1,rfl⟩:=wplus_of_below hb1
 clear hb1 HC
 go_wp2_with fail
 go_at_call 42
 refine (HB.out _ zB).mono ?_
 rintro e w2 ⟨rfl,hU⟩
 have HU:=hidp hU
 clear hU HB
 go_wp2_with fail
 go_ret
 exact ⟨rfl,HU.out⟩
end
section
variable {w0 w:World} {n:Nat} {O:Nat→Ob} {p g:Nat} {A:AWd} {v:WV} {k u x:Nat}
set_option maxRecDepth 20000 in
set_option maxHeartbeats 8000000 in
theorem wMove_ok (hp:PWx w0.heap.size O p g A v) (h:Mem w0 w n O) (hn:p+16≤n) (hk:k<A.C) (z:Int):
  Calls Tryz.prog 103 #[.pointer (some ⟨g,0,none⟩),.int .i64 (k:Nat),.int .i64 z] w fun e w'=>e=.returned (errV (awMoveE A k z))∧WUpd w0 w' n O p g v.xs v.us (awMove A k z):=by
 have hb:=hp.blk h hn
 obtain ⟨u,hu⟩:=hp.uk hk
 obtain ⟨x,hx⟩:=hp.xk (hp.ok.pl k)
 obtain ⟨aS,cS,eS⟩:=row_form h (i:=p+1) (by omega) hp.b1
 obtain ⟨bP,cP,eP,_,lP,kP,fP⟩:=row_at h (i:=p+4) (by omega) hp.b4 (by omega)
 have y1:=kP k _ hk (intsN_get hk)
 have y2:=fP k
 have HC:=hidp (client_ok hp h hn hk hu hx)
 have HOP:=hidp (fun W (hW:Below w.heap.size w W)=>hp.sOpen (h.below hW) hn hu)
 have HSAME:Hid (awMoveE A k z≠0→∀ w',Below w.heap.size w w'→WUpd w0 w' n O p g v.xs v.us (awMove A k z)):=hidp (fun he w' hb'=>by
  unfold awMove;rw [if_neg he];exact hp.below h hb')
 have HSET:Hid (awMoveE A k z=0→∀ w',Below (w.setCell ⟨bP,k,none⟩ (.int .i64 z)).heap.size (w.setCell ⟨bP,k,none⟩ (.int .i64 z)) w'→WUpd w0 w' n O p g v.xs v.us (awMove A k z)):=hidp (by
  intro he w' hb'
  have hz:0≤z∧z<(A.S:Int):=by
   unfold awMoveE at he
   by_cases e:z<0∨(A.S:Int)≤z
   ·rw [if_pos e] at he;cases he
   ·omega
  have hzt:((z.toNat:Nat):Int)=z:=by omega
  have hb4:O (p+4)=_:=hp.b4
  rw [eP] at hb4
  obtain ⟨O',h1,h2,h3⟩:=obRow_set h (i:=p+4) (by omega) hb4 k z
  have e2:(fset (fun i=>(A.pl i:Int)) k z)=fun i=>((fset A.pl k z.toNat i:Nat):Int):=by
   funext i;unfold fset;split
   ·exact hzt.symm
   ·rfl
  rw [e2] at h2
  unfold awMove
  rw [if_pos he]
  exact WUpd.then ⟨O',h1,(hp.setPl (z:=z.toNat) (by omega) (by rw [eP];exact h2) (fun j hj hne=>h3 _ (by omega))).a,fun i _ hi=>h3 i (by omega)⟩ hb')
 rw [eS,eP] at hb
 have c0:=cell_blk hb 0;have c3:=cell_blk hb 3
 simp only [zC,zD,zE] at c0 c3
 haveI:SzGe (g+1) w:=⟨lt_blk hb⟩
 haveI:SzGe (bP+1) w:=⟨lP⟩
 clear hb hu hx eS eP kP fP lP
 have hk0:(0:Int)≤(k:Int):=by omega
 have hk1:(k:Int)<(A.C:Int):=by omega
 clear hk
 have HE:Hid (awMoveE A k z=if z<0∨(A.S:Int)≤z then 2 else if (A.cl k).op=true then 6 else 0):=hidp rfl
 clear hp h hn
 generalize awMoveE A k z=E at *
 generalize awMove A k z=A' at *
 generalize A.C=C at *
 generalize A.S=S at *
 generalize (A.cl k).op=op at *
 by_cases h0:z<0
 ·have d0:decide (z<0)=true:=decide_eq_true h0
  obtain rfl:E=2:=by rw [HE.out,if_pos (.inl h0)]
  clear h0 HE HSET
  go_enter Tryz.func103,Tryz.ntmps103
  go_wp2_with fail
  go_at_call 112
  refine HC.out.mono ?_
  rintro e w1 ⟨rfl,hb1⟩
  obtain ⟨x1,rfl⟩:=wplus_of_below hb1
  clear hb1 HC
  go_wp2_with fail
  go_ret
  exact ⟨rfl,HSAME.out (by decide) _ zB⟩
 have d0:decide (z<0)=false:=decide_eq_false h0
 by_cases h1:(S:Int)≤z
 ·have d1:decide ((S:Int)≤z)=true:=decide_eq_true h1
  obtain rfl:E=2:=by rw [HE.out,if_pos (.inr h1)]
  clear h0 h1 HE HSET
  go_enter Tryz.func103,Tryz.ntmps103
  go_wp2_with fail
  go_at_call 112
  refine HC.out.mono ?_
  rintro e w1 ⟨rfl,hb1⟩
  obtain ⟨x1,rfl⟩:=wplus_of_below hb1
  clear hb1 HC
  go_wp2_with fail
  go_ret
  exact ⟨rfl,HSAME.out (by decide) _ zB⟩
 have d1:decide ((S:Int)≤z)=false:=decide_eq_false h1
 cases op with
 | true=>
   obtain rfl:E=6:=by rw [HE.out,if_neg (by omega),if_pos rfl]
   clear h0 h1 HE HSET
   go_enter Tryz.func103,Tryz.ntmps103
   go_wp2_with fail
   go_at_call 112
   refine HC.out.mono ?_
   rintro e w1 ⟨rfl,hb1⟩
   obtain ⟨x1,rfl⟩:=wplus_of_below hb1
   clear hb1 HC
   go_wp2_with fail
   go_at_call 50
   refine (HOP.out _ zB).mono ?_
   rintro e w2 ⟨rfl,hb2⟩
   obtain ⟨x2,rfl⟩:=wplus_of_below hb2
   clear hb2 HOP
   go_wp2_with fail
   go_ret
   exact ⟨rfl,HSAME.out (by decide) _ zB⟩
 | false=>
   obtain rfl:E=0:=by rw [HE.out,if_neg (by omega),if_neg (by simp)]
   clear h0 h1 HE HSAME
   go_enter Tryz.func103,Tryz.ntmps103
   go_wp2_with fail
   go_at_call 112
   refine HC.out.mono ?_
   rintro e w1 ⟨rfl,hb1⟩
   obtain ⟨x1,rfl⟩:=wplus_of_below hb1
   clear hb1 HC
   go_wp2_with fail
   go_at_call 50
   refine (HOP.out _ zB).mono ?_
   rintro e w2 ⟨rfl,hb2⟩
   obtain ⟨x2,rfl⟩:=wplus_of_below hb2
   clear hb2 HOP
   go_wp2_with fail
   go_ret
   exact ⟨rfl,HSET.out (by first | rfl | trivial) _ zB⟩
end
section
variable {w0 w w':World} {E:List Ob}
theorem snoc_at {α:Type} {l:List α} {a:α} {i:Nat} {o:α} (h:(l++[a])[i]?=some o):l[i]?=some o∨(i=l.length∧o=a):=by
 rcases Nat.lt_trichotomy i l.length with h1 | h1 | h1
 ·rw [List.getElem?_append_left h1] at h;exact .inl h
 ·subst h1;simp at h;exact .inr ⟨rfl,h.symm⟩
 ·rw [List.getElem?_eq_none (by simp;omega)] at h;cases h
end
def z26 (k:Nat):Obj:=.cells #[.int .i64 (k:Nat),.int .i64 0,.int .i64 0,.int .i64 0,.int .i64 0,.int .i64 0,.int .i64 0,.slice none 0 0,.slice none 0 0,.slice none 0 0,.int .i64 0,.int .i64 0,.int .i64 0,.int .i64 0,.int .i64 0,.int .i64 0,.int .i64 0,.int .i64 0,.int .i64 0,.int .i64 0,.int .i64 0,.int .i64 0,.int .i64 0,.int .i64 0,.int .i64 0,.int .i64 0] 41
theorem Mem.nil (w:World) (O:Nat→Ob):Mem w w 0 O:=⟨Below.refl _ _,fun i h=>(by omega),fun i h=>(by omega),fun i j h=>(by omega)⟩
section
variable {w0 w w1:World} {u v p q:Nat} {x y:Nat→Nat} {j:Nat} {O:Nat→Ob}
theorem SiAt.low {B B' x mb:Nat} {id:Int} (h:SiAt w B x (siNew id) mb (.slice none 0 0) (fun _=>.slice none 0 0)) (hB:B'≤B):SiAt w B' x (siNew id) mb (.slice none 0 0) (fun _=>.slice none 0 0):=
 { h with sto:={ h.sto with own:=fun k _=>own_nil' w B' },row:=⟨rfl,.inl ⟨rfl,rfl⟩⟩,bx:=Nat.le_trans hB h.bx,bm:=Nat.le_trans hB h.bm }
theorem own_si0 {x mb b:Nat} (e:SiOwn x mb (.slice none 0 0) (fun _=>.slice none 0 0) b):b=x∨b=mb:=by
 rcases e with e | e | e | ⟨k,_,e⟩
 ·exact .inl e
 ·exact .inr e
 ·simp [Value.ownBlock] at e
 ·simp [Value.ownBlock] at e
end
section
variable {w0 w w' w1 w2 w3:World} {n:Nat} {O:Nat→Ob} {p g:Nat}
theorem Mem.nils (h:Mem w0 w n O):∀ m,∃ O',Mem w0 w (n+m) O'∧(∀ k,k<n→O' k=O k)∧∀ k,n≤k→k<n+m→O' k=obNil
 | 0=>⟨O,h,fun _ _=>rfl,fun k h1 h2=>(by omega)⟩
 | m+1=>by
   obtain ⟨O1,h1,h2,h3⟩:=Mem.nils h m
   obtain ⟨O2,k1,k2,k3⟩:=h1.lend1 (o:=obNil) (obNil_ok _) trivial (fun b e=>e) (fun b k _ e=>e.elim)
   refine ⟨O2,k1,fun k hk=>(k2 k (by omega)).trans (h2 k hk),fun k hk hk2=>?_⟩
   by_cases e:k=n+m
   ·rw [e];exact k3
   ·rw [k2 k (by omega)];exact h3 k hk (by omega)
theorem Mem.put (h:Mem w0 w n O) {i:Nat} (hi:i<n) (hO:O i=obNil) {o:Ob} (hb:Below w.heap.size w w') (ho:o.Ok w0.heap.size) (hat:o.at_ w') (hn:∀ b,o.own b→w.heap.size≤b) (hd:∀ b,o.dat b→w.heap.size≤b):
  ∃ O',Mem w0 w' n O'∧O' i=o∧∀ k,k≠i→O' k=O k:=
 h.step1 hi ho hat ⟨hb.os,hb.tape,hb.output,hb.size,fun k hk _=>hb.block k hk,fun b e=>.inr (hn b e)⟩ (fun b e=>.inr (hd b e))
theorem Mem.row (h:Mem w0 w n O) {i:Nat} (hi:i<n) {e z m m':Nat} {v v':Value} {xs xs':List Value} (hO:O i=obRow w0.heap.size e z v m xs) (hb:Below w.heap.size w w2) (hg:w2.grownBy w3 v.ownBlock) (hr:w3.ownsRow w0.heap.size e z v' m' xs') (hv:v'.ownBlock=v.ownBlock∨∀ b,v'.ownBlock=some b→w.heap.size≤b):
  ∃ O',Mem w0 w3 n O'∧O' i=obRow w0.heap.size e z v' m' xs'∧∀ k,k≠i→O' k=O k:=by
 have hat:=h.at_ i hi
 rw [hO] at hat
 refine h.step1 hi (obRow_ok ..) hr ⟨hg.os.trans hb.os,hg.tape.trans hb.tape,hg.output.trans hb.output,Nat.le_trans hb.size hg.size,fun k hk hne=>(hg.block k (Nat.lt_of_lt_of_le hk hb.size) (fun e=>hne (by rw [hO];exact e.symm))).trans (hb.block k hk),fun b e=>?_⟩ (fun b e=>e.elim)
 rw [hO]
 rcases hv with hv | hv
 ·exact .inl (hv.symm.trans e)
 ·exact .inr (hv b e)
end
structure PNx (B:Nat) (O:Nat→Ob) (p g S C:Nat) (xs us:List Nat) (vS vW vC vP:Value):Prop where
 s4:1≤S∧S≤4
 c6:C≤6
 xl:xs.length≤S
 ul:us.length≤C
 b0:O (p+0)=obB g (.cells #[vS,vW,vC,vP,.slice none 0 0,.int .i64 0] 191) B
 b1:O (p+1)=obRow B 23 1 vS xs.length (ptrs xs)
 b2:O (p+2)=obRow B 3 1 vW S (intsN S fun _=>0)
 b3:O (p+3)=obRow B 75 1 vC us.length (ptrs us)
 b4:O (p+4)=obRow B 3 1 vP C (intsN C fun _=>0)
 b5:O (p+5)=obWay B (.slice none 0 0) []
 si:∀ (k x:Nat),xs[k]?=some x→SteA B x (siNew0 (k:Int)) (O (p+(6+k)))
 sz:∀ k:Nat,xs.length≤k→k<4→O (p+(6+k))=obNil
 cl:∀ k u:Nat,us[k]?=some u→SneA B u sdNew0 (O (p+(10+k)))
 cz:∀ k:Nat,us.length≤k→k<6→O (p+(10+k))=obNil
def PNu (w0 w:World) (n:Nat) (O:Nat→Ob) (g S C:Nat) (xs us:List Nat) (vS vW vC vP:Value):Prop:=
 ∃ O',Mem w0 w (n+16) O'∧PNx w0.heap.size O' n g S C xs us vS vW vC vP∧∀ k,k<n→O' k=O k
section
variable {w0 w w' w1 w2 w3:World} {n g S C:Nat} {O:Nat→Ob} {xs us:List Nat} {vS vW vC vP:Value}
theorem PNu.blk (h:PNu w0 w n O g S C xs us vS vW vC vP):w.heap[g]?=some (.cells #[vS,vW,vC,vP,.slice none 0 0,.int .i64 0] 191):=by
 obtain ⟨O',h1,h2,_⟩:=h
 exact h1.box (i:=n+0) (by omega) h2.b0
theorem PNu.rowS (h:PNu w0 w n O g S C xs us vS vW vC vP):w.ownsRow w0.heap.size 23 1 vS xs.length (ptrs xs)∧vS.ownBlock≠some g:=by
 obtain ⟨O',h1,h2,_⟩:=h
 have:=h1.at_ (n+1) (by omega)
 rw [h2.b1] at this
 refine ⟨this,fun e=>?_⟩
 have h3:=(h1.dis (n+1) (n+0) (by omega) (by omega) (by omega) g (by rw [h2.b1];exact e)).1
 exact h3 (by rw [h2.b0];rfl)
theorem PNu.rowC (h:PNu w0 w n O g S C xs us vS vW vC vP):w.ownsRow w0.heap.size 75 1 vC us.length (ptrs us)∧vC.ownBlock≠some g:=by
 obtain ⟨O',h1,h2,_⟩:=h
 have:=h1.at_ (n+3) (by omega)
 rw [h2.b3] at this
 refine ⟨this,fun e=>?_⟩
 have h3:=(h1.dis (n+3) (n+0) (by omega) (by omega) (by omega) g (by rw [h2.b3];exact e)).1
 exact h3 (by rw [h2.b0];rfl)
theorem ptrs_snoc (l:List Nat) (x:Nat):ptrs (l++[x])=ptrs l++[.pointer (some ⟨x,0,none⟩)]:=by simp [ptrs]
theorem PNu.site (h:PNu w0 w n O g S C xs us vS vW vC vP) (hS:xs.length<S) {xn mb:Nat} {v':Value} (hs:SiAt w1 w.heap.size xn (siNew (xs.length:Int)) mb (.slice none 0 0) (fun _=>.slice none 0 0)) (hb:Below w.heap.size w w1)
  (hb2:Below w1.heap.size w1 w2) (hr:w3.ownsRow w0.heap.size 23 1 v' (xs.length+1) (ptrs xs++[.pointer (some ⟨xn,0,none⟩)])) (hg:w2.grownBy w3 vS.ownBlock) (hv:v'.ownBlock=vS.ownBlock∨∀ b,v'.ownBlock=some b→w1.heap.size≤b):
  PNu w0 (w3.setCell ⟨g,0,none⟩ v') n O g S C (xs++[xn]) us v' vW vC vP:=by
 obtain ⟨O1,h1,h2,h3⟩:=h
 have hj:=h2.s4
 have hid:(0:Int)≤(xs.length:Int)∧(xs.length:Int)<4:=by omega
 have hbm:w.heap.size≤mb:=hs.bm
 have hbx:w.heap.size≤xn:=hs.bx
 obtain ⟨O2,k1,k2,k3⟩:=h1.put (i:=n+(6+xs.length)) (by omega) (h2.sz _ (Nat.le_refl _) (by omega)) (o:=obS w0.heap.size xn mb (siNew (xs.length:Int)) (.slice none 0 0) (fun _=>.slice none 0 0)) hb (obS_ok ..) (hs.low h1.size) (fun b e=>by rcases own_si0 e with e | e <;> omega) (fun b e=>by
  obtain ⟨m,o,hm,_⟩:=e
  rcases hm with hm | ⟨a,b,hm⟩ <;> simp [siNew] at hm)
 obtain ⟨O3,l1,l2,l3⟩:=k1.row (i:=n+1) (by omega) ((k3 _ (by omega)).trans h2.b1) hb2 hg hr hv
 have hb0:O3 (n+0)=_:=(l3 _ (by omega)).trans ((k3 _ (by omega)).trans h2.b0)
 have l4:=l1.set (i:=n+0) (by omega) hb0 0 v'
 have he:∀ j,j≠0→j≠1→j≠6+xs.length→(oset O3 (n+0) (obB g (.cells (#[vS,vW,vC,vP,.slice none 0 0,.int .i64 0].setIfInBounds 0 v') 191) w0.heap.size)) (n+j)=O1 (n+j):=fun j e0 e1 e2=>by
  rw [oset_other _ (by omega),l3 _ (by omega),k3 _ (by omega)]
 refine ⟨_,l4,⟨h2.s4,h2.c6,by simp;omega,h2.ul,?_,?_,(he 2 (by omega) (by omega) (by omega)).trans h2.b2,(he 3 (by omega) (by omega) (by omega)).trans h2.b3,(he 4 (by omega) (by omega) (by omega)).trans h2.b4,(he 5 (by omega) (by omega) (by omega)).trans h2.b5,fun k x hx=>?_,fun k hk hk4=>?_,fun k u hu=>?_,fun k hk hk6=>?_⟩,fun k hk=>?_⟩
 ·rw [oset_same];rfl
 ·rw [oset_other _ (by omega),l2,ptrs_snoc];simp
 ·rcases snoc_at hx with h5 | ⟨e,rfl⟩
  ·have:=lt_get h5
   rw [he _ (by omega) (by omega) (by omega)]
   exact h2.si k x h5
  ·subst e
   rw [oset_other _ (by omega),l3 _ (by omega),k2]
   exact ⟨mb,_,_,_,rfl,FullA.fresh hid,by simp [siNew0]⟩
 ·have:xs.length+1≤k:=by simpa using hk
  rw [he _ (by omega) (by omega) (by omega)]
  exact h2.sz k (by omega) hk4
 ·rw [he _ (by omega) (by omega) (by omega)]
  exact h2.cl k u hu
 ·rw [he _ (by omega) (by omega) (by omega)]
  exact h2.cz k hk hk6
 ·rw [oset_other _ (by omega),l3 _ (by omega),k3 _ (by omega)]
  exact h3 k hk
theorem SnAt.low {u B' B:Nat} (h:SnAt w B u snNew none) (hB:B'≤B):SnAt w B' u snNew none:=⟨h.blk,fun mb e=>(by cases e),h.opn,Nat.le_trans hB h.bx⟩
theorem PNu.sess (h:PNu w0 w n O g S C xs us vS vW vC vP) (hC:us.length<C) {un:Nat} {v':Value} (hs:SnAt w1 w.heap.size un snNew none) (hb:Below w.heap.size w w1)
  (hb2:Below w1.heap.size w1 w2) (hr:w3.ownsRow w0.heap.size 75 1 v' (us.length+1) (ptrs us++[.pointer (some ⟨un,0,none⟩)])) (hg:w2.grownBy w3 vC.ownBlock) (hv:v'.ownBlock=vC.ownBlock∨∀ b,v'.ownBlock=some b→w1.heap.size≤b):
  PNu w0 (w3.setCell ⟨g,2,none⟩ v') n O g S C xs (us++[un]) vS vW v' vP:=by
 obtain ⟨O1,h1,h2,h3⟩:=h
 have hj:=h2.c6
 have hS4:=h2.s4
 have hxl:=h2.xl
 obtain ⟨O2,k1,k2,k3⟩:=h1.put (i:=n+(10+us.length)) (by omega) (h2.cz _ (Nat.le_refl _) (by omega)) (o:=obN w0.heap.size un snNew none) hb (obN_ok ..) (hs.low h1.size) (fun b e=>(SnAt.lt hs e).1) (fun b e=>e.elim)
 obtain ⟨O3,l1,l2,l3⟩:=k1.row (i:=n+3) (by omega) ((k3 _ (by omega)).trans h2.b3) hb2 hg hr hv
 have hb0:O3 (n+0)=_:=(l3 _ (by omega)).trans ((k3 _ (by omega)).trans h2.b0)
 have l4:=l1.set (i:=n+0) (by omega) hb0 2 v'
 have he:∀ j,j≠0→j≠3→j≠10+us.length→(oset O3 (n+0) (obB g (.cells (#[vS,vW,vC,vP,.slice none 0 0,.int .i64 0].setIfInBounds 2 v') 191) w0.heap.size)) (n+j)=O1 (n+j):=fun j e0 e1 e2=>by
  rw [oset_other _ (by omega),l3 _ (by omega),k3 _ (by omega)]
 refine ⟨_,l4,⟨h2.s4,h2.c6,h2.xl,by simp;omega,?_,(he 1 (by omega) (by omega) (by omega)).trans h2.b1,(he 2 (by omega) (by omega) (by omega)).trans h2.b2,?_,(he 4 (by omega) (by omega) (by omega)).trans h2.b4,(he 5 (by omega) (by omega) (by omega)).trans h2.b5,fun k x hx=>?_,fun k hk hk4=>?_,fun k u hu=>?_,fun k hk hk6=>?_⟩,fun k hk=>?_⟩
 ·rw [oset_same];rfl
 ·rw [oset_other _ (by omega),l2,ptrs_snoc];simp
 ·have:=lt_get hx
  rw [he _ (by omega) (by omega) (by omega)]
  exact h2.si k x hx
 ·rw [he _ (by omega) (by omega) (by omega)]
  exact h2.sz k hk hk4
 ·rcases snoc_at hu with h5 | ⟨e,rfl⟩
  ·have:=lt_get h5
   rw [he _ (by omega) (by omega) (by omega)]
   exact h2.cl k u h5
  ·subst e
   rw [oset_other _ (by omega),l3 _ (by omega),k2]
   exact ⟨_,_,rfl,SesA.fresh⟩
 ·have:us.length+1≤k:=by simpa using hk
  rw [he _ (by omega) (by omega) (by omega)]
  exact h2.cz k (by omega) hk6
 ·rw [oset_other _ (by omega),l3 _ (by omega),k3 _ (by omega)]
  exact h3 k hk
theorem PNu.done (h:PNu w0 w n O g S C xs us vS vW vC vP) (hS:xs.length=S) (hC:us.length=C):∃ O' v,Mem w0 w (n+16) O'∧PWx w0.heap.size O' n g (awNew S C) v∧∀ k,k<n→O' k=O k:=by
 obtain ⟨O1,h1,h2,h3⟩:=h
 have hj:=h2.s4
 refine ⟨O1,⟨vS,vW,vC,vP,.slice none 0 0,xs,us,[]⟩,h1,⟨⟨h2.s4,h2.c6,fun k=>by show 0<S;omega,fun k=>by show (0:Int)≤0∧(0:Int)≤_;omega,fun k=>rfl,by simp [awNew],fun m hm=>by simp [awNew] at hm⟩,hS,hC,rfl,h2.b0.trans (by simp [awNew,wrap64]),?_,h2.b2,?_,h2.b4,h2.b5,h2.si,h2.cl⟩,h3⟩
 ·have:=h2.b1;rw [hS] at this;exact this
 ·have:=h2.b3;rw [hC] at this;exact this
end
theorem infoI:(Tryz.prog.info? 3).map (fun i=>(i.zero,i.size,i.bytes))=some (some (.int .i64 0),1,8):=by kernel_rfl
theorem mkI_eq (n:Nat):madeCells (Value.cells (.int .i64 0)) n=(Array.replicate n (.int .i64 0)):=by
 apply Array.ext'
 rw [show Value.cells (.int .i64 0)=#[.int .i64 0] from rfl,toList_madeCells_one,Array.toList_replicate]
theorem run_mkI (n:Nat) (hn:n≤1000) (w:World):(Instr.makeSlice 132 (.int .i64 (n:Int)) (.int .i64 (n:Int))).run Tryz.prog w=.ok (.slice (some ⟨w.heap.size,0,none⟩) n n) (w.alloc (.cells (Array.replicate n (.int .i64 0)) 3)):=by
 obtain ⟨i0,hi0,hz0,hz1,hz2⟩:=info_parts infoI
 refine (run_make (P:=Tryz.prog) w 132 3 i0 (.int .i64 0) Tryz.underlying132 hi0 hz0 .i64 .i64 n n (by omega) (Int.le_refl _) (by rw [hz2];omega) (by omega)).trans ?_
 rw [Int.toNat_natCast,hz1,Nat.mul_one,mkI_eq]
theorem repl_ints (n:Nat):(Array.replicate n (Value.int .i64 0)).toList=intsN n fun _=>0:=by
 apply List.ext_getElem?
 intro i
 unfold intsN
 simp [List.getElem?_replicate]
 by_cases h:i<n <;> simp [h]
theorem own_of_row {B e z k m c n b:Nat} {xs:List Value} (h:(obRow B e z (.slice (some ⟨k,0,none⟩) m c) n xs).own b):k=b:=by simpa [obRow,Value.ownBlock] using h
theorem PNu.start {w0 w w1 w2 w3:World} {n S C:Nat} {O:Nat→Ob} {bW bP g:Nat} (h:Mem w0 w n O) (hS:1≤S∧S≤4) (hC:C≤6) (e1:w1=w.drew.alloc (.cells (Array.replicate S (.int .i64 0)) 3)∧w2=w1.alloc (.cells (Array.replicate C (.int .i64 0)) 3)∧bW=w.heap.size∧bP=w.heap.size+1∨w1=w.drew.alloc (.cells (Array.replicate C (.int .i64 0)) 3)∧w2=w1.alloc (.cells (Array.replicate S (.int .i64 0)) 3)∧bP=w.heap.size∧bW=w.heap.size+1)
  (hg:g=w.heap.size+1+1) (e3:w3=w2.alloc (.cells #[.slice none 0 0,.slice (some ⟨bW,0,none⟩) S S,.slice none 0 0,.slice (some ⟨bP,0,none⟩) C C,.slice none 0 0,.int .i64 0] 191)):
  PNu w0 w3 n O g S C [] [] (.slice none 0 0) (.slice (some ⟨bW,0,none⟩) S S) (.slice none 0 0) (.slice (some ⟨bP,0,none⟩) C C):=by
 obtain ⟨O1,h1,h2,h3⟩:=(h.below (w':=w.drew) (Below.drew (Below.refl _ _))).nils 16
 have own:∀ (W:World) (m:Nat),w0.heap.size≤W.heap.size→m≤6→(W.alloc (.cells (Array.replicate m (.int .i64 0)) 3)).ownsRow w0.heap.size 3 1 (.slice (some ⟨W.heap.size,0,none⟩) m m) m (intsN m fun _=>0):=fun W m hb hm=>by
  have:=World.ownsRow_lit (base:=w0.heap.size) (e:=3) (size:=1) W (Array.replicate m (.int .i64 0)) m hb (by simp only [maxLen];omega) (by simp)
  rw [repl_ints] at this
  exact this
 have hsz:=h.size
 have fin:∀ (O3:Nat→Ob),Mem w0 w2 (n+16) O3→O3 (n+2)=obRow w0.heap.size 3 1 (.slice (some ⟨bW,0,none⟩) S S) S (intsN S fun _=>0)→O3 (n+4)=obRow w0.heap.size 3 1 (.slice (some ⟨bP,0,none⟩) C C) C (intsN C fun _=>0)→(∀ k,k<n→O3 k=O k)→(∀ k,n≤k→k<n+16→k≠n+2→k≠n+4→O3 k=obNil)→g=w2.heap.size→
   PNu w0 w3 n O g S C [] [] (.slice none 0 0) (.slice (some ⟨bW,0,none⟩) S S) (.slice none 0 0) (.slice (some ⟨bP,0,none⟩) C C):=by
  intro O3 m1 m2 m3 m4 m5 hg2
  obtain ⟨O4,k1,k2,k3⟩:=m1.put (i:=n+0) (by omega) (m5 _ (by omega) (by omega) (by omega) (by omega)) (w':=w3) (o:=obB g (.cells #[.slice none 0 0,.slice (some ⟨bW,0,none⟩) S S,.slice none 0 0,.slice (some ⟨bP,0,none⟩) C C,.slice none 0 0,.int .i64 0] 191) w0.heap.size) (by rw [e3];exact blw_alloc (Below.refl _ _)) (obB_ok ..) ⟨by have:=m1.size;omega,by rw [e3,hg2];exact blk_new rfl _⟩ (fun b e=>by have e2:b=g:=e;omega) (fun b e=>e.elim)
  obtain ⟨O5,l1,l2,l3⟩:=k1.put (i:=n+1) (by omega) ((k3 _ (by omega)).trans (m5 _ (by omega) (by omega) (by omega) (by omega))) (o:=obRow w0.heap.size 23 1 (.slice none 0 0) 0 []) (Below.refl _ _) (obRow_ok ..) ⟨rfl,.inl ⟨rfl,rfl⟩⟩ (fun b e=>by simp [obRow,Value.ownBlock] at e) (fun b e=>e.elim)
  obtain ⟨O6,r1,r2,r3⟩:=l1.put (i:=n+3) (by omega) ((l3 _ (by omega)).trans ((k3 _ (by omega)).trans (m5 _ (by omega) (by omega) (by omega) (by omega)))) (o:=obRow w0.heap.size 75 1 (.slice none 0 0) 0 []) (Below.refl _ _) (obRow_ok ..) ⟨rfl,.inl ⟨rfl,rfl⟩⟩ (fun b e=>by simp [obRow,Value.ownBlock] at e) (fun b e=>e.elim)
  obtain ⟨O7,s1,s2,s3⟩:=r1.put (i:=n+5) (by omega) ((r3 _ (by omega)).trans ((l3 _ (by omega)).trans ((k3 _ (by omega)).trans (m5 _ (by omega) (by omega) (by omega) (by omega))))) (o:=obWay w0.heap.size (.slice none 0 0) []) (Below.refl _ _) (obWay_ok ..) ⟨⟨rfl,.inl ⟨rfl,rfl⟩⟩,fun m hm=>(by cases hm)⟩ (fun b e=>by simp [obWay,Value.ownBlock] at e) (fun b e=>by obtain ⟨m,hm,_⟩:=e;cases hm)
  have q:∀ k,k≠n+0→k≠n+1→k≠n+3→k≠n+5→O7 k=O3 k:=fun k a b c d=>by rw [s3 k d,r3 k c,l3 k b,k3 k a]
  refine ⟨O7,s1,⟨hS,hC,by simp,by simp,?_,?_,(q _ (by omega) (by omega) (by omega) (by omega)).trans m2,?_,(q _ (by omega) (by omega) (by omega) (by omega)).trans m3,s2,fun k x hx=>by simp at hx,fun k _ hk=>(q _ (by omega) (by omega) (by omega) (by omega)).trans (m5 _ (by omega) (by omega) (by omega) (by omega)),fun k x hx=>by simp at hx,fun k _ hk=>(q _ (by omega) (by omega) (by omega) (by omega)).trans (m5 _ (by omega) (by omega) (by omega) (by omega))⟩,fun k hk=>(q _ (by omega) (by omega) (by omega) (by omega)).trans (m4 k hk)⟩
  ·rw [s3 _ (by omega),r3 _ (by omega),l3 _ (by omega),k2]
  ·rw [s3 _ (by omega),r3 _ (by omega),l2];rfl
  ·rw [s3 _ (by omega),r2];rfl
 rcases e1 with ⟨rfl,rfl,rfl,rfl⟩ | ⟨rfl,rfl,rfl,rfl⟩
 ·obtain ⟨O2,k1,k2,k3⟩:=h1.put (i:=n+2) (by omega) (h3 _ (by omega) (by omega)) (o:=obRow w0.heap.size 3 1 (.slice (some ⟨w.heap.size,0,none⟩) S S) S (intsN S fun _=>0)) (blw_alloc (Below.refl _ _)) (obRow_ok ..) (own w.drew S hsz (by omega)) (fun b e=>by rw [←own_of_row e];exact Nat.le_refl _) (fun b e=>e.elim)
  obtain ⟨O3,l1,l2,l3⟩:=k1.put (i:=n+4) (by omega) ((k3 _ (by omega)).trans (h3 _ (by omega) (by omega))) (o:=obRow w0.heap.size 3 1 (.slice (some ⟨(w.heap.size+1),0,none⟩) C C) C (intsN C fun _=>0)) (w':=(w.drew.alloc (.cells (Array.replicate S (.int .i64 0)) 3)).alloc (.cells (Array.replicate C (.int .i64 0)) 3)) (blw_alloc (Below.refl _ _)) (obRow_ok ..) (by have:=own (w.drew.alloc (.cells (Array.replicate S (.int .i64 0)) 3)) C (by simp [heap_drew];omega) hC;simp only [World.size_alloc,heap_drew] at this;exact this) (fun b e=>by rw [←own_of_row e];simp [heap_drew]) (fun b e=>e.elim)
  exact fin O3 l1 ((l3 _ (by omega)).trans k2) l2 (fun k hk=>(l3 _ (by omega)).trans ((k3 _ (by omega)).trans (h2 k hk))) (fun k a b c d=>(l3 _ (by omega)).trans ((k3 _ (by omega)).trans (h3 k a b))) (by rw [hg];simp [heap_drew])
 ·obtain ⟨O2,k1,k2,k3⟩:=h1.put (i:=n+4) (by omega) (h3 _ (by omega) (by omega)) (o:=obRow w0.heap.size 3 1 (.slice (some ⟨w.heap.size,0,none⟩) C C) C (intsN C fun _=>0)) (blw_alloc (Below.refl _ _)) (obRow_ok ..) (own w.drew C hsz hC) (fun b e=>by rw [←own_of_row e];exact Nat.le_refl _) (fun b e=>e.elim)
  obtain ⟨O3,l1,l2,l3⟩:=k1.put (i:=n+2) (by omega) ((k3 _ (by omega)).trans (h3 _ (by omega) (by omega))) (o:=obRow w0.heap.size 3 1 (.slice (some ⟨(w.heap.size+1),0,none⟩) S S) S (intsN S fun _=>0)) (w':=(w.drew.alloc (.cells (Array.replicate C (.int .i64 0)) 3)).alloc (.cells (Array.replicate S (.int .i64 0)) 3)) (blw_alloc (Below.refl _ _)) (obRow_ok ..) (by have:=own (w.drew.alloc (.cells (Array.replicate C (.int .i64 0)) 3)) S (by simp [heap_drew];omega) (by omega);simp only [World.size_alloc,heap_drew] at this;exact this) (fun b e=>by rw [←own_of_row e];simp [heap_drew]) (fun b e=>e.elim)
  exact fin O3 l1 l2 ((l3 _ (by omega)).trans k2) (fun k hk=>(l3 _ (by omega)).trans ((k3 _ (by omega)).trans (h2 k hk))) (fun k a b c d=>(l3 _ (by omega)).trans ((k3 _ (by omega)).trans (h3 k a b))) (by rw [hg];simp [heap_drew])
end Go.Proofs.YtbopfhbeegkkaabGreatDoor
