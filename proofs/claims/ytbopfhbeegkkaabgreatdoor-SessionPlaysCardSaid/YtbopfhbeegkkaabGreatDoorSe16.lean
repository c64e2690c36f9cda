/- Part 16 of a proof: lemmas and contracts that other parts use. -/
import Derived.Test.YtbopfhbeegkkaabGreatDoorSe15
set_option linter.unusedVariables false
set_option linter.unusedSimpArgs false
set_option linter.constructorNameAsVariable false
namespace Go.Proofs.YtbopfhbeegkkaabGreatDoor
open Go.RowKit
def SiP.at (s:SiP) (i:Int):Int:=atV s.p0 s.p1 s.p2 s.p3 i
def nextsL (s:SiP) (k:Nat):List MTx:=(List.range k).filterMap fun (i:Nat)=>s.wt (i:Int) (s.at (i:Int)+1)
theorem nextsL_succ (s:SiP) (k:Nat):nextsL s (k+1)=nextsL s k++(match s.wt (k:Int) (s.at (k:Int)+1) with | some m=>[m] | none=>[]):=by
 unfold nextsL
 rw [List.range_succ,List.filterMap_append]
 cases h:s.wt (k:Int) (s.at (k:Int)+1) <;> simp [h]
def XsAt (w:World) (A:Option Addr) (l:List MTx):Prop:=∀ (i:Nat) (m:MTx),l[i]?=some m→∃ b o,A=some ⟨b,o,none⟩∧b<w.heap.size∧w.cell? ⟨b,o+i*9,none⟩=some (.int .i64 m.t.site)∧w.cell? ⟨b,o+i*9+1,none⟩=some (.int .i64 m.t.seq)∧
 w.cell? ⟨b,o+i*9+2,none⟩=some (.int .i64 m.t.wall)∧w.cell? ⟨b,o+i*9+3,none⟩=some (.int .i64 m.t.count)∧w.cell? ⟨b,o+i*9+4,none⟩=some (.int .i64 m.t.d0)∧w.cell? ⟨b,o+i*9+5,none⟩=some (.int .i64 m.t.d1)∧
 w.cell? ⟨b,o+i*9+6,none⟩=some (.int .i64 m.t.d2)∧w.cell? ⟨b,o+i*9+7,none⟩=some (.int .i64 m.t.d3)∧w.cell? ⟨b,o+i*9+8,none⟩=some (.slice m.A m.t.ws.length m.c)
theorem XsAt.below {w w':World} {A:Option Addr} {l:List MTx} (h:XsAt w A l) (hb:Below w.heap.size w w'):XsAt w' A l:=fun i m hm=>by
 obtain ⟨b,o,hA,hlt,h0,h1,h2,h3,h4,h5,h6,h7,h8⟩:=h i m hm
 have e:∀ k,w'.cell? ⟨b,k,none⟩=w.cell? ⟨b,k,none⟩:=fun k=>hb.cell (p:=⟨b,k,none⟩) hlt
 exact ⟨b,o,hA,Nat.lt_of_lt_of_le hlt hb.size,by rw [e];exact h0,by rw [e];exact h1,by rw [e];exact h2,by rw [e];exact h3,by rw [e];exact h4,by rw [e];exact h5,by rw [e];exact h6,by rw [e];exact h7,by rw [e];exact h8⟩
theorem mcells_at:∀ (l:List MTx) (i:Nat) (m:MTx),l[i]?=some m→∀ r u,m.cells[r]?=some u→(l.flatMap MTx.cells)[i*9+r]?=some u
 | [],i,m,h,_,_,_=>by simp at h
 | y::l,0,m,h,r,u,hu=>by
   simp at h;subst h
   have hr:r<9:=by have:=(List.getElem?_eq_some_iff.1 hu).1;simpa [MTx.cells] using this
   rw [List.flatMap_cons,List.getElem?_append_left (by simp [MTx.cells];omega)]
   simpa using hu
 | y::l,i+1,m,h,r,u,hu=>by
   have:=mcells_at l i m (by simpa using h) r u hu
   rw [List.flatMap_cons,List.getElem?_append_right (by simp [MTx.cells];omega),←this]
   congr 1
   simp [MTx.cells];omega
theorem own_xs {w:World} {B c:Nat} {A:Option Addr} {l:List MTx} (h:w.ownsRow B 44 9 (.slice A l.length c) l.length (l.flatMap MTx.cells)):XsAt w A l:=by
 intro i m hm
 obtain ⟨hl,hn | ⟨g,cap,cur,hv,hb,hg,rest⟩⟩:=id h
 ·have:l=[]:=List.eq_nil_of_length_eq_zero hn.2
  subst this;simp at hm
 ·simp only [Value.slice.injEq] at hv
  obtain ⟨rfl,_,rfl⟩:=hv
  have hc:=h.cells (g:=g) rfl
  have e:∀ j:Nat,(⟨g,0,none⟩:Addr).add j=⟨g,0+j,none⟩:=fun j=>by unfold Addr.add;split <;> simp_all
  have k:∀ r u,m.cells[r]?=some u→w.cell? ⟨g,0+(i*9+r),none⟩=some u:=fun r u hu=>by
   have:=hc _ _ (mcells_at l i m hm r u hu)
   rw [e] at this;exact this
  have q:∀ r,0+(i*9+r)=0+i*9+r:=fun r=>by omega
  exact ⟨g,0,rfl,(Array.getElem?_eq_some_iff.1 hg).1,by have:=k 0 _ rfl;rw [q] at this;exact this,by have:=k 1 _ rfl;rw [q] at this;exact this,by have:=k 2 _ rfl;rw [q] at this;exact this,by have:=k 3 _ rfl;rw [q] at this;exact this,by have:=k 4 _ rfl;rw [q] at this;exact this,
   by have:=k 5 _ rfl;rw [q] at this;exact this,by have:=k 6 _ rfl;rw [q] at this;exact this,by have:=k 7 _ rfl;rw [q] at this;exact this,by have:=k 8 _ rfl;rw [q] at this;exact this⟩
def okAp (s:SiP):Prop:=(0≤s.p0∧s.p0≤1099511627776)∧(0≤s.p1∧s.p1≤1099511627776)∧(0≤s.p2∧s.p2≤1099511627776)∧(0≤s.p3∧s.p3≤1099511627776)
theorem okAp.at {s:SiP} (h:okAp s) (i:Int):0≤s.at i∧s.at i≤1099511627776:=by
 unfold okAp at h
 unfold SiP.at atV
 repeat' split
 all_goals omega
theorem SiAt.apc {w:World} {B x mb:Nat} {s:SiP} {lv:Value} {sv:Nat→Value} (h:SiAt w B x s mb lv sv) {k:Nat} (hk:k<4):w.cell? ⟨x,1+k,none⟩=some (.int .i64 (s.at (k:Int))):=by
 obtain ⟨v1,v2,v3,v4⟩:=h.vec
 have hc:k=0∨k=1∨k=2∨k=3:=by omega
 rcases hc with rfl | rfl | rfl | rfl
 ·exact v1
 ·exact v2
 ·exact v3
 ·exact v4
set_option maxRecDepth 20000 in
set_option maxHeartbeats 16000000 in
theorem nexts_any (B x mb:Nat) (s:SiP) (lv:Value) (sv:Nat→Value) (w:World) (h:SiAt w B x s mb lv sv) (hp:okAp s):
  Calls Tryz.prog 84 #[.pointer (some ⟨x,0,none⟩)] w fun e w'=>∃ A' c',e=.returned (.slice A' (nextsL s 4).length c')∧XsAt w' A' (nextsL s 4)∧Below w.heap.size w w':=by
 have HS:=hidp h
 have HP:=hidp hp
 clear h hp
 obtain ⟨i0,hi0,hz0,hz1,hz2⟩:=info40
 go_enter Tryz.func84,Tryz.ntmps84
 go_wp2_with fail
 go_loopw [3,7] (fun o i W=>∃ (k:Nat) (outs:List MTx) (Ao:Option Addr) (co:Nat),k≤4∧i=.int .i64 k∧o=.slice Ao outs.length co∧outs=nextsL s k∧outs.length≤k∧
  W.ownsRow w.heap.size 44 9 (.slice Ao outs.length co) outs.length (outs.flatMap MTx.cells)∧Below w.heap.size w W) (fun _ i _=>4-(intOf i).toNat)
 case atStart=>exact ⟨0,[],none,0,by omega,rfl,rfl,rfl,by simp,⟨rfl,.inl ⟨rfl,rfl⟩⟩,Below.refl _ _⟩
 case round=>
  obtain ⟨k,outs,Ao,co,hk,rfl,rfl,hout,hol,hown,hbl⟩:=hrel
  obtain ⟨W,rfl⟩:∃ W:World,W=wr:=⟨_,rfl⟩
  have HOUT:=hidp hout
  have HOW:=hidp hown
  have HBW:=hidp hbl
  clear hown hbl hout
  by_cases hlt:k<4
  ·have hkd:decide ((k:Int)<4)=true:=decide_eq_true (by omega)
   have HSW:=hidp (HS.out.below HBW.out)
   have c8:=HSW.out.c8
   have ca:=HSW.out.apc hlt
   have hap:=HP.out.at (k:Int)
   haveI:SzGe (x+1) W:=⟨HSW.out.sto.lt⟩
   haveI:SzGe (mb+1) W:=⟨HSW.out.map.lt⟩
   have HTS:=hidp (nextsL_succ s k)
   obtain ⟨ap,hape⟩:∃ ap,s.at (k:Int)=ap:=⟨_,rfl⟩
   rw [hape] at ca hap HTS
   obtain ⟨hap0,hap1⟩:=hap
   have hk0:(0:Int)≤(k:Int):=by omega
   have hk4:(k:Int)<4:=by omega
   have hwr:IntKind.i64.wrap (ap+1)=ap+1:=by rw [IntKind.wrap_i64];omega
   have hwk:wf64 (k:Int):=by unfold wf64;omega
   have hwa:wf64 (ap+1):=by unfold wf64;omega
   have hL:∀ X:World,X.heap[mb]?=W.heap[mb]?→(Instr.lookup 141 (.map (some mb)) (.agg #[.int .i64 (k:Int),.int .i64 (ap+1)]) true).run Tryz.prog X=.ok (.tuple #[((s.wt (k:Int) (ap+1)).map MTx.val).getD txZero,.bool ((s.wt (k:Int) (ap+1)).map MTx.val).isSome]) X:=fun X hX=>(HSW.out.map.block hX).look hwk hwa
   have hl1:=hL W.drew rfl
   have hl2:=hL (W.alloc (.cells #[.int .i64 0,.int .i64 0,.int .i64 0,.int .i64 0,.int .i64 0,.int .i64 0,.int .i64 0,.int .i64 0,.slice none 0 0] 44)).drew (Below.heap_alloc W _ mb HSW.out.map.lt)
   have hl3:=hL (W.drew.alloc (.cells #[.int .i64 0,.int .i64 0,.int .i64 0,.int .i64 0,.int .i64 0,.int .i64 0,.int .i64 0,.int .i64 0,.slice none 0 0] 44)) (Below.heap_alloc W.drew _ mb HSW.out.map.lt)
   clear hL hape
   cases hwt:s.wt (k:Int) (ap+1) with
   | none=>
     rw [hwt] at hl1 hl2 hl3 HTS
     simp only [Option.map_none,Option.getD_none,Option.isSome_none,txZero] at hl1 hl2 hl3
     have HT1:Hid (nextsL s (k+1)=outs):=hidp (by rw [HTS.out,←HOUT.out];simp)
     clear HTS hwt
     go_wp2_with fail
     go_region_held3 (fun X:World=>X.cell? ⟨x,8,none⟩=some (.map (some mb))∧X.cell? ⟨x,1+k,none⟩=some (.int .i64 ap)) ((repeat' apply And.intro) <;> simp [go_sem, *]) (fail)
     all_goals
      have HCUR:Below W.heap.size W ((W.alloc (.cells #[.int .i64 0,.int .i64 0,.int .i64 0,.int .i64 0,.int .i64 0,.int .i64 0,.int .i64 0,.int .i64 0,.slice none 0 0] 44)).drew):=(by repeat (first | exact Below.refl _ _ | refine blw_alloc ?_ | refine blw_plus ?_ | refine Below.drew ?_))
      go_wp2_with fail
      exact ⟨⟨k+1,outs,Ao,co,by omega,by go_num,rfl,HT1.out.symm,by omega,own_below HOW.out HCUR (fun j e=>(own_ge HOW.out e).2),HBW.out.trans (HCUR.mono HBW.out.size)⟩,by simp [intOf];omega⟩
   | some m=>
     rw [hwt] at hl1 hl2 hl3 HTS
     obtain ⟨⟨msite,mseq,mwall,mcount,md0,md1,md2,md3,mws⟩,mA,mc⟩:=m
     simp only [Option.map_some,Option.getD_some,Option.isSome_some,MTx.val] at hl1 hl2 hl3
     have HT1:Hid (nextsL s (k+1)=outs++[(⟨⟨msite,mseq,mwall,mcount,md0,md1,md2,md3,mws⟩,mA,mc⟩:MTx)]):=hidp (by rw [HTS.out,←HOUT.out])
     clear HTS hwt
     go_wp2_with fail
     go_region_held3 (fun X:World=>X.cell? ⟨x,8,none⟩=some (.map (some mb))∧X.cell? ⟨x,1+k,none⟩=some (.int .i64 ap)) ((repeat' apply And.intro) <;> simp [go_sem, *]) (fail)
     all_goals
      have HCUR:Hid (Below W.heap.size W ((W.alloc (.cells #[.int .i64 msite,.int .i64 mseq,.int .i64 mwall,.int .i64 mcount,.int .i64 md0,.int .i64 md1,.int .i64 md2,.int .i64 md3,.slice mA mws.length mc] 44)).drew)):=hidp (by repeat (first | exact Below.refl _ _ | refine blw_alloc ?_ | refine blw_plus ?_ | refine Below.drew ?_))
      have HOC:=hidp (own_below HOW.out HCUR.out (fun j e=>(own_ge HOW.out e).2))
      have HBC:=hidp (HBW.out.trans (HCUR.out.mono HBW.out.size))
      have HXC:=hidp (show ((W.alloc (.cells #[.int .i64 msite,.int .i64 mseq,.int .i64 mwall,.int .i64 mcount,.int .i64 md0,.int .i64 md1,.int .i64 md2,.int .i64 md3,.slice mA mws.length mc] 44)).drew).heap[W.heap.size]?=some (.cells #[.int .i64 msite,.int .i64 mseq,.int .i64 mwall,.int .i64 mcount,.int .i64 md0,.int .i64 md1,.int .i64 md2,.int .i64 md3,.slice mA mws.length mc] 44) from blk_new rfl _)
      clear hl1 hl2 hl3 ca c8
      generalize (W.alloc (.cells #[.int .i64 msite,.int .i64 mseq,.int .i64 mwall,.int .i64 mcount,.int .i64 md0,.int .i64 md1,.int .i64 md2,.int .i64 md3,.slice mA mws.length mc] 44)).drew=WC at *
      have g0:=cell_blk HXC.out 0;have g1:=cell_blk HXC.out 1;have g2:=cell_blk HXC.out 2;have g3:=cell_blk HXC.out 3;have g4:=cell_blk HXC.out 4;have g5:=cell_blk HXC.out 5;have g6:=cell_blk HXC.out 6;have g7:=cell_blk HXC.out 7;have g8:=cell_blk HXC.out 8
      simp only [zC,zD,zE] at g0 g1 g2 g3 g4 g5 g6 g7 g8
      have hsC:=HBC.out.size
      go_wp2_with (at_builtin;go_must (refine wpList_append_lies _ rfl _ _ 35 rfl w.heap.size 44 i0 txZero 9 88 Tryz.underlying35 hi0 hz0 hz1 hz2 rfl (by decide) (.slice Ao outs.length co) outs.length (outs.flatMap MTx.cells) rfl (HOC.out.alloc _) ⟨WC.heap.size,0,none⟩ 1 1 [.int .i64 msite,.int .i64 mseq,.int .i64 mwall,.int .i64 mcount,.int .i64 md0,.int .i64 md1,.int .i64 md2,.int .i64 md3,.slice mA mws.length mc] rfl rfl (World.news_of_block (cs:=#[.int .i64 msite,.int .i64 mseq,.int .i64 mwall,.int .i64 mcount,.int .i64 md0,.int .i64 md1,.int .i64 md2,.int .i64 md3,.slice mA mws.length mc]) (blk_new rfl _)) ?c1 (by decide) ?c2 ?c3 ?c4 _ rfl ?_))
      case c1=>first | exact ⟨rfl,rfl,rfl,rfl,rfl,rfl,rfl,rfl,rfl⟩ | (intro u hu;simp at hu;rcases hu with rfl | rfl | rfl | rfl | rfl | rfl | rfl | rfl | rfl <;> rfl)
      case c2=>refine Nat.le_trans ?_ maxLen_ge;omega
      case c3=>omega
      case c4=>first | omega | (simp;omega)
      intro gq cap1 w1 hown1 hgrow hgl hlt1
      have HN1:Hid (w1.ownsRow w.heap.size 44 9 (.slice (some ⟨gq,0,none⟩) (outs++[(⟨⟨msite,mseq,mwall,mcount,md0,md1,md2,md3,mws⟩,mA,mc⟩:MTx)]).length cap1) (outs++[(⟨⟨msite,mseq,mwall,mcount,md0,md1,md2,md3,mws⟩,mA,mc⟩:MTx)]).length ((outs++[(⟨⟨msite,mseq,mwall,mcount,md0,md1,md2,md3,mws⟩,mA,mc⟩:MTx)]).flatMap MTx.cells)):=hidp (by
       have e:(outs++[(⟨⟨msite,mseq,mwall,mcount,md0,md1,md2,md3,mws⟩,mA,mc⟩:MTx)]).length=outs.length+1:=by simp
       rw [e,List.flatMap_append];exact hown1)
      have HB1:Hid (Below w.heap.size w w1):=hidp (Below.grown HBC.out (grown_alloc hgrow) HBC.out.size (fun j e=>(own_ge HOW.out e).1))
      clear hown1 hgrow hgl hlt1
      go_wp2_with fail
      go_roundw
      case rel=>exact ⟨k+1,outs++[(⟨⟨msite,mseq,mwall,mcount,md0,md1,md2,md3,mws⟩,mA,mc⟩:MTx)],some ⟨gq,0,none⟩,cap1,by omega,by go_num,by simp,HT1.out.symm,by simp;omega,HN1.out,HB1.out⟩
      case measure=>simp [intOf];omega
  ·obtain rfl:k=4:=by omega
   have hkd:decide ((4:Int)<4)=false:=by decide
   have HR:Hid (XsAt W Ao (nextsL s 4)):=hidp (by rw [←HOUT.out];exact own_xs HOW.out)
   go_wp2_with fail
   go_ret
   exact ⟨Ao,co,by rw [←HOUT.out];rfl,HR.out,HBW.out⟩
end Go.Proofs.YtbopfhbeegkkaabGreatDoor
