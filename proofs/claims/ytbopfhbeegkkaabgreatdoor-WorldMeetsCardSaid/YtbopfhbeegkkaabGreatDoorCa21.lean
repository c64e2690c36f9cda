/- Part 21 of a proof: lemmas and contracts that other parts use. -/
import Derived.Test.YtbopfhbeegkkaabGreatDoorCa14
import Derived.Test.YtbopfhbeegkkaabGreatDoorCa3
import Derived.Test.YtbopfhbeegkkaabGreatDoorCa17
import Derived.Test.YtbopfhbeegkkaabGreatDoorCa19
import Derived.Test.YtbopfhbeegkkaabGreatDoorCa20
import Derived.Deep.DeepCutAuto
import Derived.Great.BuildSlice
import Derived.Test.YtbopfhbeegkkaabGreatDoorCa18
set_option linter.unusedVariables false
set_option linter.unusedSimpArgs false
namespace Go.Proofs.YtbopfhbeegkkaabGreatDoor
open Go.RowKit
def notHasT (a0 a1 a2 a3:Int) (t:TxP):Bool:=decide (atV a0 a1 a2 a3 t.site<t.seq)
def Els (w:World) (B:Nat) (v:Value) (l:List MTx):Prop:=∀ m∈l,WsAt w m.A m.t.ws∧∀ b o,m.A=some ⟨b,o,none⟩→B≤b∧b<w.heap.size∧v.ownBlock≠some b
theorem Els.below {w w':World} {B:Nat} {v:Value} {l:List MTx} (h:Els w B v l) (hb:Below w.heap.size w w'):Els w' B v l:=fun m hm=>by
 obtain ⟨h1,h2⟩:=h m hm
 exact ⟨h1.below hb,fun b o e=>⟨(h2 b o e).1,Nat.lt_of_lt_of_le (h2 b o e).2.1 hb.size,(h2 b o e).2.2⟩⟩
theorem Els.push {w w1:World} {B g n c:Nat} {v:Value} {l:List MTx} {m:MTx} {o1:Obj} (h:Els w B v l) (hg:(w.alloc o1).grownBy w1 v.ownBlock) (hgl:v.ownBlock=some g∨g=w.heap.size+1) (hw:WsAt w m.A m.t.ws)
  (hm:∀ b o,m.A=some ⟨b,o,none⟩→B≤b∧b<w.heap.size∧v.ownBlock≠some b):Els w1 B (.slice (some ⟨g,0,none⟩) n c) (l++[m]):=by
 have hall:Els w B v (l++[m]):=fun x hx=>by
  rcases List.mem_append.1 hx with hx | hx
  ·exact h x hx
  ·obtain rfl:x=m:=by simpa using hx
   exact ⟨hw,hm⟩
 intro x hx
 obtain ⟨h1,h2⟩:=hall x hx
 refine ⟨h1.keep fun b o e=>(grown_alloc hg).block b (h2 b o e).2.1 (fun e2=>(h2 b o e).2.2 e2.symm),fun b o e=>⟨(h2 b o e).1,Nat.lt_of_lt_of_le (h2 b o e).2.1 (grown_alloc hg).size,?_⟩⟩
 intro e3
 have e4:g=b:=by simpa [Value.ownBlock] using e3
 subst e4
 rcases hgl with e5 | e5
 ·exact (h2 _ o e).2.2 e5
 ·have:=(h2 _ o e).2.1;omega
theorem ws_lt {w:World} {b o:Nat} {ws:List WrP} (h:WsAt w (some ⟨b,o,none⟩) ws) (h0:0<ws.length):b<w.heap.size:=by
 obtain ⟨b',o',hA,hlt,_⟩:=h 0 ws[0] (List.getElem?_eq_getElem h0)
 cases hA;exact hlt
set_option maxRecDepth 20000 in
set_option maxHeartbeats 16000000 in
theorem missing_all (B x mb:Nat) (s:SiP) (lv:Value) (sv:Nat→Value) (a0 a1 a2 a3:Int) (w:World) (h:SiAt w B x s mb lv sv) (hr:∀ m∈s.log,rightTx m.t=true) (hn:s.log.length≤1000):
  Calls Tryz.prog 35 #[.pointer (some ⟨x,0,none⟩),.agg #[.int .i64 a0,.int .i64 a1,.int .i64 a2,.int .i64 a3]] w fun e w'=>∃ (A':Option Addr) (c':Nat) (outs:List MTx),e=.returned (.slice A' outs.length c')∧outs.map (·.t)=(s.log.map (·.t)).filter (notHasT a0 a1 a2 a3)∧XsAt w' A' outs∧(∀ b o,A'=some ⟨b,o,none⟩→w.heap.size≤b∧b<w'.heap.size)∧(∀ m∈outs,WsAt w' m.A m.t.ws∧∀ b o,m.A=some ⟨b,o,none⟩→w.heap.size≤b∧b<w'.heap.size)∧Below w.heap.size w w':=by
 have hb0:Below w.heap.size w (w.alloc (.cells #[.int .i64 a0,.int .i64 a1,.int .i64 a2,.int .i64 a3] 32)):=blw_alloc (Below.refl _ _)
 have HS:=hidp (h.below hb0)
 have HB0:=hidp hb0
 have HBX:=hidp (show (w.alloc (.cells #[.int .i64 a0,.int .i64 a1,.int .i64 a2,.int .i64 a3] 32)).heap[w.heap.size]?=some (.cells #[.int .i64 a0,.int .i64 a1,.int .i64 a2,.int .i64 a3] 32) from blk_new rfl _)
 have HR:=hidp hr
 obtain ⟨Al,cl,hlv⟩:=own_form h.row
 have HLV:=hidp hlv
 have HXS:Hid (XsAt (w.alloc (.cells #[.int .i64 a0,.int .i64 a1,.int .i64 a2,.int .i64 a3] 32)) Al s.log):=hidp (by have:=HS.out.row;rw [hlv] at this;exact own_xs this)
 have c7:w.cell? ⟨x,7,none⟩=some (.slice Al s.log.length cl):=by rw [←hlv];exact h.c7
 haveI:SzGe (x+1) w:=⟨h.sto.lt⟩
 clear h hb0 hr hlv
 obtain ⟨i0,hi0,hz0,hz1,hz2⟩:=info40
 go_enter Tryz.func35,Tryz.ntmps35
 go_wp2_with fail
 generalize w.alloc (.cells #[.int .i64 a0,.int .i64 a1,.int .i64 a2,.int .i64 a3] 32)=wo at *
 go_loopw [5,13] (fun o i W=>∃ (k:Nat) (outs:List MTx) (Ao:Option Addr) (co:Nat),k≤s.log.length∧i=.int .i64 k∧o=.slice Ao outs.length co∧Hid (outs.map (·.t)=((s.log.take k).map (·.t)).filter (notHasT a0 a1 a2 a3))∧outs.length≤k∧Hid (Els W wo.heap.size (.slice Ao outs.length co) outs)∧
  W.ownsRow wo.heap.size 44 9 (.slice Ao outs.length co) outs.length (outs.flatMap MTx.cells)∧Below wo.heap.size wo W) (fun _ i _=>s.log.length-(intOf i).toNat)
 case atStart=>exact ⟨0,[],none,0,Nat.zero_le _,rfl,rfl,hidp (by simp),by simp,hidp (fun m hm=>absurd hm (by simp)),⟨rfl,.inl ⟨rfl,rfl⟩⟩,Below.refl _ _⟩
 case round=>
  obtain ⟨k,outs,Ao,co,hk,rfl,rfl,hout,hol,hels,hown,hbl⟩:=hrel
  obtain ⟨W,rfl⟩:∃ W:World,W=wr:=⟨_,rfl⟩
  have HOUT:=hidp hout.out
  have HOW:=hidp hown
  have HBW:=hidp hbl
  clear hown hbl hout
  by_cases hlt:k<s.log.length
  ·have HSW:=hidp (HS.out.below HBW.out)
   have hm:=s.log[k]
   obtain ⟨b,o,rfl,hb,d0,d1,d2,d3,d4,d5,d6,d7,d8⟩:=(HXS.out.below HBW.out) k s.log[k] (List.getElem?_eq_getElem hlt)
   have HRK:=hidp (HR.out s.log[k] (List.getElem_mem hlt))
   have HDK:=hidp (HSW.out.dat s.log[k] (.inl (List.getElem_mem hlt)))
   have htk:s.log.take (k+1)=s.log.take k++[s.log[k]]:=by rw [List.take_add_one,List.getElem?_eq_getElem hlt];rfl
   have HTK:Hid (((s.log.take (k+1)).map (·.t)).filter (notHasT a0 a1 a2 a3)=((s.log.take k).map (·.t)).filter (notHasT a0 a1 a2 a3)++(if notHasT a0 a1 a2 a3 s.log[k].t=true then [s.log[k].t] else [])):=hidp (by
    rw [htk,List.map_append,List.filter_append]
    congr 1
    cases hq:notHasT a0 a1 a2 a3 s.log[k].t <;> simp [hq])
   clear hm htk
   generalize s.log[k]=m at *
   obtain ⟨⟨msite,mseq,mwall,mcount,md0,md1,md2,md3,mws⟩,mA,mc⟩:=m
   simp only at d0 d1 d2 d3 d4 d5 d6 d7 d8
   obtain ⟨hp1,hp2,hp3,hp4⟩:=rightTx_parts HRK.out
   try simp only at hp1 hp2 hp3 hp4
   obtain ⟨st,rfl⟩:=Int.eq_ofNat_of_zero_le hp1.1
   have hst4:st<4:=by omega
   have hbx:W.heap[w.heap.size]?=some (.cells #[.int .i64 a0,.int .i64 a1,.int .i64 a2,.int .i64 a3] 32):=(HBW.out.block _ (lt_blk HBX.out)).trans HBX.out
   have hat:=at_cell hbx hst4
   obtain ⟨aS,haS⟩:∃ aS,atV a0 a1 a2 a3 (st:Int)=aS:=⟨_,rfl⟩
   rw [haS] at hat
   haveI:SzGe (b+1) W:=⟨hb⟩
   haveI:SzGe (w.heap.size+1) W:=⟨lt_blk hbx⟩
   haveI:SzGe w.heap.size W:=⟨by have:=lt_blk hbx;omega⟩
   have hk0:(0:Int)≤(st:Int):=by omega
   have hk4:(st:Int)<4:=by omega
   have HNH:Hid (notHasT a0 a1 a2 a3 ⟨(st:Int),mseq,mwall,mcount,md0,md1,md2,md3,mws⟩=decide (aS<mseq)):=hidp (by unfold notHasT;rw [←haS])
   have HCL:=hidp fun W' (hB:Below W.heap.size W W')=>clone_any ⟨(st:Int),mseq,mwall,mcount,md0,md1,md2,md3,mws⟩ mA mc W' (HDK.out.1.below hB) (by show 0<mws.length;omega) (by show mws.length≤1000;omega)
   unfold MTx.val at HCL
   simp only at HCL
   have HP0:Hid (0<mws.length):=hidp (by omega)
   clear haS hbx hp1 hp2 hp3 hp4
   by_cases hq:aS<mseq
   ·have hd1:decide (aS<mseq)=true:=decide_eq_true hq
    have HT1:Hid (((s.log.take (k+1)).map (·.t)).filter (notHasT a0 a1 a2 a3)=outs.map (·.t)++[(⟨(st:Int),mseq,mwall,mcount,md0,md1,md2,md3,mws⟩:TxP)]):=hidp (by rw [HTK.out,HOUT.out,HNH.out,hd1];rfl)
    clear hq HTK
    go_wp2_with fail
    refine wp_region_plus (by kernel_rfl) (by kernel_rfl) ?_
    repeat (first | go_big_quiet_skip | (go_big_quiet_want;go_big_quiet_op;go_big_quiet_on))
    refine wpQuiet_nil ?_
    rintro _ ⟨x3,rfl⟩
    go_wp2_with fail
    go_at_call 81
    refine (HCL.out _ zB).mono ?_
    rintro e w5 ⟨A',c',rfl,hw5,hb5,bb,rfl,hbb⟩
    have HB5a:=hidp (Below.size (show Below W.heap.size W (wplus (W.alloc (.cells #[.int .i64 (st:Int),.int .i64 mseq,.int .i64 mwall,.int .i64 mcount,.int .i64 md0,.int .i64 md1,.int .i64 md2,.int .i64 md3,.slice mA mws.length mc] 44)) x3) from zB))
    have HCUR:=hidp (Below.trans (show Below W.heap.size W (wplus (W.alloc (.cells #[.int .i64 (st:Int),.int .i64 mseq,.int .i64 mwall,.int .i64 mcount,.int .i64 md0,.int .i64 md1,.int .i64 md2,.int .i64 md3,.slice mA mws.length mc] 44)) x3) from zB) (hb5.mono (by simp;omega)))
    have HOC:=hidp (own_below HOW.out HCUR.out (fun j e=>(own_ge HOW.out e).2))
    have HBC:=hidp (HBW.out.trans (HCUR.out.mono HBW.out.size))
    have HLT:=hidp (ws_lt hw5 HP0.out)
    have HW5:=hidp hw5
    have HBB:Hid (W.heap.size≤bb):=hidp (Nat.le_trans (HB5a.out) hbb)
    clear hw5 hb5 hbb
    have hsC:=HBC.out.size
    go_wp2_with (at_builtin;go_must (refine wpList_append_lies _ rfl _ _ 35 rfl wo.heap.size 44 i0 txZero 9 88 Tryz.underlying35 hi0 hz0 hz1 hz2 rfl (by decide) (.slice Ao outs.length co) outs.length (outs.flatMap MTx.cells) rfl (HOC.out.alloc _) ⟨w5.heap.size,0,none⟩ 1 1 [.int .i64 (st:Int),.int .i64 mseq,.int .i64 mwall,.int .i64 mcount,.int .i64 md0,.int .i64 md1,.int .i64 md2,.int .i64 md3,.slice (some ⟨bb,0,none⟩) mws.length c'] rfl rfl (World.news_of_block (cs:=#[.int .i64 (st:Int),.int .i64 mseq,.int .i64 mwall,.int .i64 mcount,.int .i64 md0,.int .i64 md1,.int .i64 md2,.int .i64 md3,.slice (some ⟨bb,0,none⟩) mws.length c']) (blk_new rfl _)) ?c1 (by decide) ?c2 ?c3 ?c4 _ rfl ?_))
    case c1=>first | exact ⟨rfl,rfl,rfl,rfl,rfl,rfl,rfl,rfl,rfl⟩ | (intro u hu;simp at hu;rcases hu with rfl | rfl | rfl | rfl | rfl | rfl | rfl | rfl | rfl <;> rfl)
    case c2=>refine Nat.le_trans ?_ maxLen_ge;omega
    case c3=>omega
    case c4=>first | omega | (simp;omega)
    intro gq cap1 w1 hown1 hgrow hgl hlt1
    have HN1:Hid (w1.ownsRow wo.heap.size 44 9 (.slice (some ⟨gq,0,none⟩) (outs++[(⟨⟨(st:Int),mseq,mwall,mcount,md0,md1,md2,md3,mws⟩,some ⟨bb,0,none⟩,c'⟩:MTx)]).length cap1) (outs++[(⟨⟨(st:Int),mseq,mwall,mcount,md0,md1,md2,md3,mws⟩,some ⟨bb,0,none⟩,c'⟩:MTx)]).length ((outs++[(⟨⟨(st:Int),mseq,mwall,mcount,md0,md1,md2,md3,mws⟩,some ⟨bb,0,none⟩,c'⟩:MTx)]).flatMap MTx.cells)):=hidp (by
     have e:(outs++[(⟨⟨(st:Int),mseq,mwall,mcount,md0,md1,md2,md3,mws⟩,some ⟨bb,0,none⟩,c'⟩:MTx)]).length=outs.length+1:=by simp
     rw [e,List.flatMap_append];exact hown1)
    have HB1:Hid (Below wo.heap.size wo w1):=hidp (Below.grown HBC.out (grown_alloc hgrow) HBC.out.size (fun j e=>(own_ge HOW.out e).1))
    have HE1:Hid (Els w1 wo.heap.size (.slice (some ⟨gq,0,none⟩) (outs++[(⟨⟨(st:Int),mseq,mwall,mcount,md0,md1,md2,md3,mws⟩,some ⟨bb,0,none⟩,c'⟩:MTx)]).length cap1) (outs++[(⟨⟨(st:Int),mseq,mwall,mcount,md0,md1,md2,md3,mws⟩,some ⟨bb,0,none⟩,c'⟩:MTx)])):=hidp ((hels.out.below HCUR.out).push hgrow hgl HW5.out (fun b o e=>by
     obtain ⟨rfl,rfl⟩:bb=b∧0=o:=by simpa using e
     exact ⟨Nat.le_trans HBW.out.size HBB.out,HLT.out,fun e2=>by have:=(own_ge HOW.out e2).2;have:=HBB.out;omega⟩))
    clear hown1 hgrow hgl hlt1
    go_wp2_with fail
    go_roundw
    case rel=>exact ⟨k+1,outs++[(⟨⟨(st:Int),mseq,mwall,mcount,md0,md1,md2,md3,mws⟩,some ⟨bb,0,none⟩,c'⟩:MTx)],some ⟨gq,0,none⟩,cap1,by omega,by go_num,by simp,hidp (by rw [HT1.out];simp),by simp;omega,HE1,HN1.out,HB1.out⟩
    case measure=>simp [intOf];omega
   ·have hd1:decide (aS<mseq)=false:=decide_eq_false hq
    have HT1:Hid (((s.log.take (k+1)).map (·.t)).filter (notHasT a0 a1 a2 a3)=outs.map (·.t)):=hidp (by rw [HTK.out,HOUT.out,HNH.out,hd1];simp)
    clear hq HTK
    go_wp2_with fail
    refine wp_region_plus (by kernel_rfl) (by kernel_rfl) ?_
    repeat (first | go_big_quiet_skip | (go_big_quiet_want;go_big_quiet_op;go_big_quiet_on))
    refine wpQuiet_nil ?_
    rintro _ ⟨x3,rfl⟩
    have HCUR:=hidp (show Below W.heap.size W (wplus (W.alloc (.cells #[.int .i64 (st:Int),.int .i64 mseq,.int .i64 mwall,.int .i64 mcount,.int .i64 md0,.int .i64 md1,.int .i64 md2,.int .i64 md3,.slice mA mws.length mc] 44)) x3) from zB)
    have HOC:=hidp (own_below HOW.out HCUR.out (fun j e=>(own_ge HOW.out e).2))
    have HBC:=hidp (HBW.out.trans (HCUR.out.mono HBW.out.size))
    go_wp2_with fail
    go_roundw
    case rel=>exact ⟨k+1,outs,Ao,co,by omega,by go_num,rfl,hidp HT1.out.symm,by omega,hidp (hels.out.below HCUR.out),HOC.out,HBC.out⟩
    case measure=>simp [intOf];omega
  ·obtain rfl:k=s.log.length:=by omega
   have HT:Hid (outs.map (·.t)=(s.log.map (·.t)).filter (notHasT a0 a1 a2 a3)):=hidp (by rw [HOUT.out,List.take_length])
   go_wp2_with fail
   go_ret
   have hws:w.heap.size≤wo.heap.size:=HB0.out.size
   exact ⟨Ao,co,outs,rfl,HT.out,own_xs HOW.out,fun b o e=>⟨Nat.le_trans hws (own_ge HOW.out (by rw [e];rfl)).1,(own_ge HOW.out (by rw [e];rfl)).2⟩,
    fun m hm=>⟨(hels.out m hm).1,fun b o e=>⟨Nat.le_trans hws ((hels.out m hm).2 b o e).1,((hels.out m hm).2 b o e).2.1⟩⟩,HB0.out.trans (HBW.out.mono HB0.out.size)⟩
set_option maxHeartbeats 2000000 in
theorem same_eq (site seq wall count d0 d1 d2 d3:Int) (ws:List WrP) (A A':Option Addr) (c c':Nat) (w:World) (hn:ws.length≤1000000) (h1:WsAt w A ws) (h2:WsAt w A' ws):
  Calls Tryz.prog 16 #[.agg #[.int .i64 site,.int .i64 seq,.int .i64 wall,.int .i64 count,.int .i64 d0,.int .i64 d1,.int .i64 d2,.int .i64 d3,.slice A ws.length c],
   .agg #[.int .i64 site,.int .i64 seq,.int .i64 wall,.int .i64 count,.int .i64 d0,.int .i64 d1,.int .i64 d2,.int .i64 d3,.slice A' ws.length c']] w
   fun e w'=>e=.returned (.bool true)∧Below w.heap.size w w':=by
 have H1:=hidp h1
 have H2:=hidp h2
 clear h1 h2
 go_enter Tryz.func16,Tryz.ntmps16
 go_wp2
 go_loopw [44] (fun i wr=>∃ (k:Nat) (x:Tail),k≤ws.length∧i=.int .i64 k∧wr=wplus ((w.alloc (.cells #[.int .i64 site,.int .i64 seq,.int .i64 wall,.int .i64 count,.int .i64 d0,.int .i64 d1,.int .i64 d2,.int .i64 d3,.slice A ws.length c] 44)).alloc (.cells #[.int .i64 site,.int .i64 seq,.int .i64 wall,.int .i64 count,.int .i64 d0,.int .i64 d1,.int .i64 d2,.int .i64 d3,.slice A' ws.length c'] 44)) x) (fun i _=>ws.length-(intOf i).toNat)
 case atStart=>exact ⟨0,⟨#[],w.drawn⟩,Nat.zero_le _,rfl,by simp [wplus];rfl⟩
 case round=>
  obtain ⟨k,x,hk,rfl,rfl⟩:=hrel
  by_cases hlt:k<ws.length
  ·obtain ⟨b,o,rfl,hb,h0,h1,h2⟩:=H1.out k ws[k] (List.getElem?_eq_getElem hlt)
   obtain ⟨b',o',rfl,hb',h0',h1',h2'⟩:=H2.out k ws[k] (List.getElem?_eq_getElem hlt)
   haveI:SzGe (b+1) w:=⟨hb⟩
   haveI:SzGe (b'+1) w:=⟨hb'⟩
   generalize ws[k]=y at *
   obtain ⟨key,data,gone⟩:=y
   simp only at *
   go_wp2
   refine wp_region_plus (by kernel_rfl) (by kernel_rfl) ?_
   repeat (first | go_big_quiet_skip | (go_big_quiet_want;go_big_quiet_op;first | go_big_quiet_on))
   refine wpQuiet_nil ?_
   rintro _ ⟨x,rfl⟩
   go_wp2
   go_roundw
   case rel=>exact ⟨k+1,_,by omega,by go_num,wplus_wplus _ _ _⟩
   case measure=>simp [intOf];omega
  ·have hkk:k=ws.length:=by omega
   go_wp2
   go_ret
   exact ⟨rfl,zB⟩
section
variable {w0 w w':World} {x y:Nat} {s s':SiP} {r r':RsP} {K:List (Nat×Obj)}
theorem Full.fit9 (h:Full s r):Fit s.st 900000:=h.inv.fit.mono (by have:=h.inv.log;omega)
theorem Full.len9 (h:Full s r):r.L.length≤800000∧r.log.length≤200:=by
 have h1:=h.rin.len
 have h2:=h.inv.log
 have h3:s.log.length=r.log.length:=by rw [h.rep.len];simp [RsP.r]
 omega
end
structure FullA (s:SiP) (a:RSi):Prop where
 rep:SRep s a
 inv:Inv s
 top:Top s
 rlg:∀ t∈a.log,rightTx t=true
theorem FullA.rin {s:SiP} {r:RsP} (h:FullA s r.r):RInv r:=by
 refine ⟨?_,fun a=>?_,fun m hm=>?_,?_⟩
 ·have e:s.id=r.id:=h.rep.id
  rw [←e];exact h.inv.id
 ·have e:s.at a=r.at a:=h.rep.at a
  rw [←e];exact okAp.at h.inv.ap a
 ·obtain ⟨m2,h1,h2⟩:=h.rep.ws m.t (List.mem_map.2 ⟨m,hm,rfl⟩)
  rw [←h2];exact (h.inv.wt _ _ _ h1).2.2
 ·have h1:r.L.length=_:=h.rep.rep.many
  have h2:s.log.length=r.r.log.length:=h.rep.len
  have h3:r.r.log.length=r.log.length:=by simp [RsP.r]
  have hk:∀ k,k<8→(s.st k).length≤5*s.log.length:=fun k hk=>(h.inv.fit k hk).2
  have:=hk 0 (by omega);have:=hk 1 (by omega);have:=hk 2 (by omega);have:=hk 3 (by omega)
  have:=hk 4 (by omega);have:=hk 5 (by omega);have:=hk 6 (by omega);have:=hk 7 (by omega)
  omega
theorem FullA.full {s:SiP} {r:RsP} (h:FullA s r.r):Full s r:=
 ⟨h.rep,h.inv,h.rin,h.top,fun m hm=>h.rlg m.t (List.mem_map.2 ⟨m,hm,rfl⟩)⟩
theorem Full.fullA {s:SiP} {r:RsP} (h:Full s r):FullA s r.r:=
 ⟨h.rep,h.inv,h.top,fun t ht=>by obtain ⟨m,hm,rfl⟩:=List.mem_map.1 ht;exact h.rlg m hm⟩
def mkR (a:RSi):RsP:=⟨a.id,a.p0,a.p1,a.p2,a.p3,a.lw,a.lc,a.log.map (fun t=>⟨t,none,0⟩),a.ws.map (fun t=>⟨t,none,0⟩),a.held,a.ot⟩
theorem mkR_r (a:RSi):(mkR a).r=a:=by
 unfold mkR RsP.r
 cases a
 simp [Function.comp_def]
theorem FullA.gh {s:SiP} {a:RSi} (h:FullA s a):Full s (mkR a):=FullA.full (by rw [mkR_r];exact h)
def rTake (a:RSi) (t:TxP):RSi:=if rTakeE a t=0 then rRun (a.ws.length+1) { a with ws:=a.ws++[t] } else a
noncomputable def rSwept (a:RSi) (v0 v1 v2 v3:Int):RSi:={ a with held:=rSweep (min v0 a.p0) (min v1 a.p1) (min v2 a.p2) (min v3 a.p3) a.held }
def rKnows (a:RSi) (k:Nat) (v0 v1 v2 v3:Int):RSi:={ a with ot:=knowF a.ot k v0 v1 v2 v3 }
def aRead (a:RSi) (key v0 v1 v2 v3:Int):VerP×Int:=if covD a.p0 a.p1 a.p2 a.p3 v0 v1 v2 v3=true then rRead v0 v1 v2 v3 a.held key else (verZ,10)
def aStab (a:RSi) (n:Int) (c:Nat) (p:Int):Int:=stabF a.id a.ot p c (stabN n)
def aTold (a:RSi):List ByteArray:=toldT (fun k=>rRead a.p0 a.p1 a.p2 a.p3 a.held k) 8
def aMiss (a:RSi) (v0 v1 v2 v3:Int):List TxP:=a.log.filter (notHasT v0 v1 v2 v3)
theorem FullA.fresh {id:Int} (h:0≤id∧id<4):FullA (siNew id) ⟨id,0,0,0,0,0,0,[],[],[],fun _=>0⟩:=(Full.fresh h).fullA
theorem FullA.takes {s:SiP} {a:RSi} (h:FullA s a) {t:TxP} (he:takeE s t=0) (A:Option Addr) (c:Nat):
  FullA (runP (s.wn+1) (s.wait ⟨t,A,c⟩)) (rTake a t):=by
 have e:=h.rep.takeE h.inv t
 have h1:=takeE_parts he
 unfold rTake
 rw [if_pos (e ▸ he)]
 have hrep:=h.rep.take h.inv he A c
 obtain ⟨i1,i2⟩:=(h.inv.wait (m:=⟨t,A,c⟩) h1).run (s.wn+1) h.top
 have hl:∀ m∈s.log,rightTx m.t=true:=fun m hm=>h.rlg m.t (by rw [←h.rep.log];exact List.mem_map.2 ⟨m,hm,rfl⟩)
 refine ⟨hrep,i1,i2,fun t2 ht=>?_⟩
 rw [←hrep.log] at ht
 obtain ⟨m,hm,rfl⟩:=List.mem_map.1 ht
 exact runP_right _ (h.inv.wait (m:=⟨t,A,c⟩) h1) hl m hm
theorem FullA.commits {s:SiP} {a:RSi} (h:FullA s a) {now d0 d1 d2 d3:Int} {ws:List WrP} (he:rCommitE a now d0 d1 d2 d3 ws=0) (A:Option Addr) (c:Nat):
  FullA (applyP s ⟨rCommitT a now d0 d1 d2 d3 ws,A,c⟩) (rApply a (rCommitT a now d0 d1 d2 d3 ws)):=by
 obtain ⟨e1,e2⟩:=h.rep.commitE now d0 d1 d2 d3 ws
 rw [←e1] at he
 have:=(h.gh.commit he A none c 0).fullA
 rw [applyR_r _ _ (rightTx_parts (commit_right h.inv h.top he).1).1,mkR_r,e2] at this
 exact this
theorem FullA.sweeps {s:SiP} {a:RSi} (h:FullA s a) (v0 v1 v2 v3:Int):FullA { s with st:=fun k=>sweepV (min v0 s.p0) (min v1 s.p1) (min v2 s.p2) (min v3 s.p3) (s.st k) } (rSwept a v0 v1 v2 v3):=by
 have e:rSwept a v0 v1 v2 v3=({ mkR a with L:=rSweep (min v0 s.p0) (min v1 s.p1) (min v2 s.p2) (min v3 s.p3) (mkR a).L }:RsP).r:=by
  rw [h.rep.p0,h.rep.p1,h.rep.p2,h.rep.p3]
  have:=mkR_r a
  unfold rSwept
  unfold RsP.r at this ⊢
  cases a
  simp [mkR,Function.comp_def]
 rw [e]
 exact (h.gh.sweep (min v0 s.p0) (min v1 s.p1) (min v2 s.p2) (min v3 s.p3)).fullA
theorem FullA.knows {s:SiP} {a:RSi} (h:FullA s a) (k:Nat) (v0 v1 v2 v3:Int):FullA { s with ot:=knowF s.ot k v0 v1 v2 v3 } (rKnows a k v0 v1 v2 v3):=by
 obtain ⟨a1,a2,a3,a4,a5,a6,a7,a8,a9,a10,a11,a12,a13,a14⟩:=h.rep
 refine ⟨⟨a1,a2,a3,a4,a5,a6,a7,a8,a9,a10,a11,a12,a13,?_⟩,⟨h.inv.ap,h.inv.id,h.inv.wt,h.inv.fit,h.inv.dat,h.inv.log⟩,h.top,h.rlg⟩
 show knowF s.ot k v0 v1 v2 v3=knowF a.ot k v0 v1 v2 v3
 rw [a14]
theorem FullA.reads {s:SiP} {a:RSi} (h:FullA s a) (key v0 v1 v2 v3:Int):siteRead s key v0 v1 v2 v3=aRead a key v0 v1 v2 v3:=by
 unfold siteRead aRead
 rw [h.rep.p0,h.rep.p1,h.rep.p2,h.rep.p3,h.rep.rep.read v0 v1 v2 v3 key]
theorem FullA.stabs {s:SiP} {a:RSi} (h:FullA s a) (n:Int) (c:Nat) (p:Int):stabF s.id s.ot p c (stabN n)=aStab a n c p:=by
 unfold aStab;rw [h.rep.id,h.rep.ot]
theorem FullA.told {s:SiP} {a:RSi} (h:FullA s a):toldT (fun k=>readR s.p0 s.p1 s.p2 s.p3 s.st k) 8=aTold a:=by
 unfold aTold
 congr 1
 funext k
 rw [h.rep.p0,h.rep.p1,h.rep.p2,h.rep.p3,h.rep.rep.read]
theorem FullA.len {s:SiP} {a:RSi} (h:FullA s a):a.held.length≤800000∧a.log.length≤200:=by
 have:=h.gh.len9
 simpa [mkR] using this
theorem rTake_ws {s:SiP} {a:RSi} (h:FullA s a) (t:TxP) (hw:a.ws.length≤40):(rTake a t).ws.length≤40:=by
 unfold rTake
 split
 ·rename_i he
  by_cases h40:a.ws.length<40
  ·refine Nat.le_trans (rRun_len _ _) ?_
   simp;omega
  ·unfold rTakeE at he
   split at he
   ·cases he
   split at he
   ·cases he
   split at he
   ·cases he
   split at he
   ·cases he
   rename_i k1 k2 k3 k4
   have hrd:rReady a t=true:=by
    cases hr:rReady a t with
    | true=>rfl
    | false=>exact absurd (.inr ⟨by omega,hr⟩) k4
   have hb:=rbGo_spec { a with ws:=a.ws++[t] } (a.ws++[t]) 0 (-1) (by simp) (.inl rfl) (fun k t hk=>by omega)
   unfold rRun
   rcases hb with ⟨_,h2⟩ | ⟨j,t2,h1,h2,_⟩
   ·have:=h2 t (by simp)
    rw [show rReady { a with ws:=a.ws++[t] } t=rReady a t from rfl,hrd] at this
    cases this
   ·have hbj:rBest { a with ws:=a.ws++[t] }=(j:Int):=h1
    rw [hbj]
    rw [if_neg (by rintro (e | e);· exact k4 (.inl e)
                   ·omega)]
    refine Nat.le_trans (rRun_len _ _) ?_
    show (rApply _ _).ws.length≤40
    have hj:j<(a.ws++[t]).length:=(List.getElem?_eq_some_iff.1 h2).1
    simp only [List.length_append,List.length_cons,List.length_nil] at hj
    show ((a.ws++[t]).take ((j:Int)).toNat++(a.ws++[t]).drop (((j:Int)).toNat+1)).length≤40
    rw [show ((j:Int)).toNat=j by omega]
    simp
    omega
 ·exact hw
def Upd (w w':World) (o:Ob) (R:Ob→Prop):Prop:=∃ o',R o'∧o'.at_ w'∧SiFr w w' o.own o'.own∧∀ b,o'.dat b→o.dat b∨w.heap.size≤b
theorem Upd.below {w w':World} {o:Ob} {R:Ob→Prop} {B:Nat} (hok:o.Ok B) (hr:R o) (ha:o.at_ w) (hb:Below w.heap.size w w'):Upd w w' o R:=
 ⟨o,hr,hok.same w w' ha hb.size (fun b e=>hb.block b (e.elim (fun e=>(hok.lt w b ha e).2) (hok.dlt w b ha))),SiFr.of_below _ hb,fun b e=>.inl e⟩
theorem Mem.upd {w0 w w':World} {n:Nat} {O:Nat→Ob} (h:Mem w0 w n O) {i:Nat} (hi:i<n) {R:Ob→Prop} (hu:Upd w w' (O i) R) (hok:∀ o',R o'→o'.Ok w0.heap.size):
  ∃ O',Mem w0 w' n O'∧R (O' i)∧∀ k,k≠i→O' k=O k:=by
 obtain ⟨o',h1,h2,h3,h4⟩:=hu
 exact ⟨oset O i o',h.step hi (hok o' h1) h2 h3 h4,by rw [oset_same];exact h1,fun k hk=>oset_other _ hk⟩
theorem Mem.at_below {w0 w w':World} {n:Nat} {O:Nat→Ob} (h:Mem w0 w n O) {i:Nat} (hi:i<n) (hb:Below w.heap.size w w'):(O i).at_ w':=(h.below hb).at_ i hi
def SteA (B x:Nat) (a:RSi) (o:Ob):Prop:=∃ mb s lv sv,o=obS B x mb s lv sv∧FullA s a∧a.ws.length≤40
theorem SteA.ok {B x:Nat} {a:RSi} {o:Ob} (h:SteA B x a o):o.Ok B:=by obtain ⟨mb,s,lv,sv,rfl,_⟩:=h;exact obS_ok ..
section
variable {w w':World} {B x y:Nat} {a:RSi} {o:Ob}
theorem SteA.take (h:SteA B x a o) (hw:o.at_ w) (t:TxP) (A:Option Addr) (c:Nat) (hws:WsAt w A t.ws) (hwl:t.ws.length≤1000000) (hfa:wf64 t.site) (hfb:wf64 t.seq):
  Calls Tryz.prog 17 #[.pointer (some ⟨x,0,none⟩),MTx.val ⟨t,A,c⟩] w fun e w'=>e=.returned (errV (rTakeE a t))∧Upd w w' o (SteA B x (rTake a t)):=by
 have h0:=h
 obtain ⟨mb,s,lv,sv,rfl,hf,h40⟩:=h
 have he2:=hf.rep.takeE hf.inv t
 refine (take_any B x mb s lv sv t A c w hw hf.inv (by rw [hf.rep.wn];omega) hws hwl hfa hfb).mono ?_
 rintro e w' ⟨rfl,g1,g2⟩
 refine ⟨by rw [he2],?_⟩
 by_cases he:takeE s t=0
 ·obtain ⟨A',c',lv',sv',hA,hs,fr⟩:=g2 he
  refine ⟨obS B x mb _ lv' sv',⟨mb,_,lv',sv',rfl,hf.takes he A' c',rTake_ws hf t h40⟩,hs,fr,?_⟩
  rintro b ⟨m,o2,hm,hb⟩
  have hi:=hf.inv.wait (m:=⟨t,A',c'⟩) (takeE_parts he)
  rcases wait_has (runP_has _ _ _ hi hm) with h3 | h3
  ·exact .inl ⟨m,o2,h3,hb⟩
  ·exact .inr (hA b o2 (by rw [h3] at hb;exact hb))
 ·have e2:rTake a t=a:=by unfold rTake;rw [if_neg (fun e=>he (he2.trans e))]
  rw [e2]
  exact Upd.below (obS_ok ..) h0 hw (g1 he)
theorem SteA.commit (h:SteA B x a o) (hw:o.at_ w) (now d0 d1 d2 d3:Int) (A:Option Addr) (c:Nat) (ws:List WrP) (hws:WsAt w A ws) (hn:ws.length≤1000000):
  Calls Tryz.prog 15 #[.pointer (some ⟨x,0,none⟩),.int .i64 now,.agg #[.int .i64 d0,.int .i64 d1,.int .i64 d2,.int .i64 d3],.slice A ws.length c] w fun e w'=>
   (rCommitE a now d0 d1 d2 d3 ws≠0→e=.returned (.tuple #[txZero,errV (rCommitE a now d0 d1 d2 d3 ws)])∧Below w.heap.size w w')∧
   (rCommitE a now d0 d1 d2 d3 ws=0→∃ b' c',e=.returned (.tuple #[MTx.val ⟨rCommitT a now d0 d1 d2 d3 ws,some ⟨b',0,none⟩,c'⟩,.nilIface])∧w.heap.size≤b'∧WsAt w' (some ⟨b',0,none⟩) (rCommitT a now d0 d1 d2 d3 ws).ws∧
     ∃ o',SteA B x (rApply a (rCommitT a now d0 d1 d2 d3 ws)) o'∧o'.at_ w'∧SiFr w w' o.own o'.own∧(∀ b,o'.dat b→o.dat b∨w.heap.size≤b)∧¬o'.own b'):=by
 obtain ⟨mb,s,lv,sv,rfl,hf,h40⟩:=h
 obtain ⟨e1,e2⟩:=hf.rep.commitE now d0 d1 d2 d3 ws
 refine (commit_any B x mb s lv sv now d0 d1 d2 d3 A c ws w hw hf.inv hws hn).mono ?_
 rintro e w' ⟨g1,g2⟩
 rw [e1] at g1 g2
 refine ⟨g1,fun he=>?_⟩
 obtain ⟨A',c',A2,c2,lv',sv',rfl,hs,fr,hA2,hw',b',rfl,hb1,hb2⟩:=g2 he
 rw [e2] at hs hw' ⊢
 refine ⟨b',c',rfl,hb1,hw',obS B x mb _ lv' sv',⟨mb,_,lv',sv',rfl,hf.commits he A2 c2,h40⟩,hs,fr,?_,hb2⟩
 rintro b ⟨m,o2,hm,hb⟩
 rcases apply_has hm with h3 | h3
 ·exact .inl ⟨m,o2,h3,hb⟩
 ·exact .inr (hA2 b o2 (by rw [h3] at hb;exact hb))
theorem SteA.knows (h:SteA B x a o) (hw:o.at_ w) (k:Nat) (v0 v1 v2 v3:Int) (hk:k<4):
  Calls Tryz.prog 20 #[.pointer (some ⟨x,0,none⟩),.int .i64 (k:Nat),.agg #[.int .i64 v0,.int .i64 v1,.int .i64 v2,.int .i64 v3]] w fun e w'=>e=.returned .nilIface∧Upd w w' o (SteA B x (rKnows a k v0 v1 v2 v3)):=by
 obtain ⟨mb,s,lv,sv,rfl,hf,h40⟩:=h
 refine (knows_any B x mb s lv sv k v0 v1 v2 v3 w hw hk).mono ?_
 rintro e w' ⟨rfl,hs,fr⟩
 exact ⟨rfl,obS B x mb _ lv sv,⟨mb,_,lv,sv,rfl,hf.knows k v0 v1 v2 v3,h40⟩,hs,fr,fun b e=>.inl e⟩
theorem SteA.sweep (h:SteA B x a o) (hw:o.at_ w) (v0 v1 v2 v3:Int):
  Calls Tryz.prog 21 #[.pointer (some ⟨x,0,none⟩),.agg #[.int .i64 v0,.int .i64 v1,.int .i64 v2,.int .i64 v3]] w fun e w'=>e=.returned (.tuple #[])∧Upd w w' o (SteA B x (rSwept a v0 v1 v2 v3)):=by
 obtain ⟨mb,s,lv,sv,rfl,hf,h40⟩:=h
 refine (siteSweep_any B x mb s lv sv v0 v1 v2 v3 w hw hf.gh.fit9).mono ?_
 rintro e w' ⟨rfl,sv',hs,fr⟩
 exact ⟨rfl,obS B x mb _ lv sv',⟨mb,_,lv,sv',rfl,hf.sweeps v0 v1 v2 v3,h40⟩,hs,fr,fun b e=>.inl e⟩
theorem SteA.read (h:SteA B x a o) (hw:o.at_ w) (key v0 v1 v2 v3:Int):
  Calls Tryz.prog 25 #[.pointer (some ⟨x,0,none⟩),.int .i64 key,.agg #[.int .i64 v0,.int .i64 v1,.int .i64 v2,.int .i64 v3]] w fun e w'=>
   e=.returned (.tuple #[verV (aRead a key v0 v1 v2 v3).1,errV (aRead a key v0 v1 v2 v3).2])∧Below w.heap.size w w':=by
 obtain ⟨mb,s,lv,sv,rfl,hf,h40⟩:=h
 have:=siteRead_any B x mb s lv sv key v0 v1 v2 v3 w hw hf.gh.fit9
 rw [hf.reads] at this
 exact this
theorem SteA.applied (h:SteA B x a o) (hw:o.at_ w):Calls Tryz.prog 26 #[.pointer (some ⟨x,0,none⟩)] w fun e w'=>e=.returned (.agg #[.int .i64 a.p0,.int .i64 a.p1,.int .i64 a.p2,.int .i64 a.p3])∧Below w.heap.size w w':=by
 obtain ⟨mb,s,lv,sv,rfl,hf,h40⟩:=h
 have:=applied_any B x mb s lv sv w hw
 rw [hf.rep.p0,hf.rep.p1,hf.rep.p2,hf.rep.p3] at this
 exact this
theorem SteA.waits (h:SteA B x a o) (hw:o.at_ w):Calls Tryz.prog 27 #[.pointer (some ⟨x,0,none⟩)] w fun e w'=>e=.returned (.int .i64 (a.ws.length:Nat))∧Below w.heap.size w w':=by
 obtain ⟨mb,s,lv,sv,rfl,hf,h40⟩:=h
 have:=waits_any B x mb s lv sv w hw
 rw [hf.rep.wn] at this
 exact this
theorem SteA.stable (h:SteA B x a o) (hw:o.at_ w) (n:Int):Calls Tryz.prog 28 #[.pointer (some ⟨x,0,none⟩),.int .i64 n] w fun e w'=>
  e=.returned (.agg #[.int .i64 (aStab a n 0 a.p0),.int .i64 (aStab a n 1 a.p1),.int .i64 (aStab a n 2 a.p2),.int .i64 (aStab a n 3 a.p3)])∧Below w.heap.size w w':=by
 obtain ⟨mb,s,lv,sv,rfl,hf,h40⟩:=h
 have:=stable_any B x mb s lv sv n w hw
 rw [hf.stabs,hf.stabs,hf.stabs,hf.stabs,hf.rep.p0,hf.rep.p1,hf.rep.p2,hf.rep.p3] at this
 exact this
theorem SteA.many (h:SteA B x a o) (hw:o.at_ w):Calls Tryz.prog 30 #[.pointer (some ⟨x,0,none⟩)] w fun e w'=>e=.returned (.int .i64 (a.held.length:Nat))∧Below w.heap.size w w':=by
 obtain ⟨mb,s,lv,sv,rfl,hf,h40⟩:=h
 have:=siteMany_any B x mb s lv sv w hw hf.gh.fit9
 have e:lenS s.st 8=a.held.length:=by
  rw [hf.rep.rep.many]
  simp [lenS]
 rw [e] at this
 exact this
theorem SteA.all (h:SteA B x a o) (hw:o.at_ w):Calls Tryz.prog 32 #[.pointer (some ⟨x,0,none⟩)] w fun e w'=>∃ A' c',e=.returned (.slice A' 8 c')∧TsAt w' A' (aTold a)∧Below w.heap.size w w':=by
 obtain ⟨mb,s,lv,sv,rfl,hf,h40⟩:=h
 have:=siteAll_any B x mb s lv sv w hw hf.gh.fit9 hf.inv.dat
 rw [hf.told] at this
 exact this
end
end Go.Proofs.YtbopfhbeegkkaabGreatDoor
