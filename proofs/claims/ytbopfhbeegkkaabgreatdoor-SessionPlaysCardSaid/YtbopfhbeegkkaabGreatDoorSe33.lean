/- Part 33 of a proof: lemmas and contracts that other parts use. -/
import Derived.Test.YtbopfhbeegkkaabGreatDoorSe24
import Derived.Test.YtbopfhbeegkkaabGreatDoorSe17
import Derived.Test.YtbopfhbeegkkaabGreatDoorSe3
import Derived.Test.YtbopfhbeegkkaabGreatDoorSe27
import Derived.Test.YtbopfhbeegkkaabGreatDoorSe30
import Derived.Test.YtbopfhbeegkkaabGreatDoorSe32
import Derived.Deep.DeepCutAuto
import Derived.Test.YtbopfhbeegkkaabGreatDoorSe29
set_option linter.unusedVariables false
set_option linter.unusedSimpArgs false
set_option linter.constructorNameAsVariable false
namespace Go.Proofs.YtbopfhbeegkkaabGreatDoor
open Go.RowKit
def rSiteRead (s:RsP) (key a0 a1 a2 a3:Int):VerP×Int:=if covD s.p0 s.p1 s.p2 s.p3 a0 a1 a2 a3=true then rRead a0 a1 a2 a3 s.L key else (verZ,10)
set_option maxRecDepth 20000 in
set_option maxHeartbeats 8000000 in
theorem rSiteRead_any (B y wc:Nat) (s:RsP) (lv av:Value) (wA:Option Addr) (key a0 a1 a2 a3:Int) (w:World) (h:RsAt w B y s lv wA wc av) (hok:∀ p∈s.L,0≤p.v.site∧p.v.site<4) (hlen:s.L.length≤900000):
  Calls Tryz.prog 24 #[.pointer (some ⟨y,0,none⟩),.int .i64 key,.agg #[.int .i64 a0,.int .i64 a1,.int .i64 a2,.int .i64 a3]] w fun e w'=>
   e=.returned (.tuple #[verV (rSiteRead s key a0 a1 a2 a3).1,.int .i64 (rSiteRead s key a0 a1 a2 a3).2])∧Below w.heap.size w w':=by
 obtain ⟨c1,c2,c3,c4⟩:=h.vec
 have HRD:=hidp fun W (hB:Below w.heap.size w W)=>rRead_any y 9 B s.L av key a0 a1 a2 a3 W (h.sto.below hB) hok hlen
 have HE:=hidp (show rSiteRead s key a0 a1 a2 a3=if covD s.p0 s.p1 s.p2 s.p3 a0 a1 a2 a3=true then rRead a0 a1 a2 a3 s.L key else (verZ,10) from rfl)
 generalize rSiteRead s key a0 a1 a2 a3=F at *
 haveI:SzGe (y+1) w:=⟨h.sto.lt⟩
 clear h hok hlen
 cases hcv:covD s.p0 s.p1 s.p2 s.p3 a0 a1 a2 a3
 ·have HCV:=hidp fun W=>rCovers_is hcv W
  have HE2:Hid (F=(verZ,10)):=hidp (by rw [HE.out,hcv];rfl)
  clear hcv HE
  go_enter Tryz.func24,Tryz.ntmps24
  go_wp2_with fail
  refine wp_region_plus (by kernel_rfl) (by kernel_rfl) ?_
  repeat (first | go_big_quiet_skip | (go_big_quiet_want;go_big_quiet_op;first | go_big_quiet_on | (apply Exists.intro;refine ⟨fun _=>?_,?_⟩;(go_at_call 73;exact Calls.plus_of (HCV.out _));go_big_quiet_on)))
  refine wpQuiet_nil ?_
  rintro _ ⟨x3,rfl⟩
  go_wp2_with fail
  refine bodyPost_ret (v:=.tuple #[verV verZ,.int .i64 10]) ?_ rfl ⟨by rw [HE2.out],zB⟩
  simp [results,Tryz.results24,go_sem,verV,verZ]
 ·have HCV:=hidp fun W=>rCovers_is hcv W
  have HE2:Hid (F=rRead a0 a1 a2 a3 s.L key):=hidp (by rw [HE.out,hcv];rfl)
  clear hcv HE
  obtain ⟨⟨⟨vw,vc,vs,vq,vd,vg⟩,z⟩,hR⟩:∃ R,rRead a0 a1 a2 a3 s.L key=R:=⟨_,rfl⟩
  rw [hR] at HRD HE2
  unfold verV at HRD
  clear hR
  go_enter Tryz.func24,Tryz.ntmps24
  go_wp2_with fail
  refine wp_region_plus (by kernel_rfl) (by kernel_rfl) ?_
  repeat (first | go_big_quiet_skip | (go_big_quiet_want;go_big_quiet_op;first | go_big_quiet_on | (apply Exists.intro;refine ⟨fun _=>?_,?_⟩;(go_at_call 73;exact Calls.plus_of (HCV.out _));go_big_quiet_on)))
  refine wpQuiet_nil ?_
  rintro _ ⟨x3,rfl⟩
  go_wp2_with fail
  refine wp_region_plus_tail 8 (by kernel_rfl) (by kernel_rfl) ?_
  simp only [List.take_succ_cons,List.take_zero,List.drop_succ_cons,List.drop_zero]
  repeat (first | go_big_quiet_skip | (go_big_quiet_want;go_big_quiet_op;first | go_big_quiet_on | (apply Exists.intro;refine ⟨fun _=>?_,?_⟩;(go_at_call 91;exact Calls.plus_of (HRD.out _ (by repeat (first | exact Below.refl _ _ | refine blw_alloc ?_ | refine blw_plus ?_ | refine Below.drew ?_))));go_big_quiet_on)))
  refine wpQuiet_nil ?_
  rintro _ ⟨x4,rfl⟩
  go_wp2_with fail
  refine bodyPost_ret (v:=.tuple #[verV ⟨vw,vc,vs,vq,vd,vg⟩,.int .i64 z]) ?_ rfl ⟨by rw [HE2.out],zB⟩
  simp [results,Tryz.results24,go_sem,verV]
set_option maxHeartbeats 2000000 in
theorem same_eq (site seq wall count d0 d1 d2 d3:Int) (ws:List WrP) (A A':Option Addr) (c c':Nat) (w:World) (hn:ws.length≤1000000) (h1:WsAt w A ws) (h2:WsAt w A' ws):
  Calls Tryz.prog 16 #[.agg #[.int .i64 site,.int .i64 seq,.int .i64 wall,.int .i64 count,.int .i64 d0,.int .i64 d1,.int .i64 d2,.int .i64 d3,.slice A ws.length c],
   .agg #[.int .i64 site,.int .i64 seq,.int .i64 wall,.int .i64 count,.int .i64 d0,.int .i64 d1,.int .i64 d2,.int .i64 d3,.slice A' ws.length c']] w
   fun e w'=>e=.returned (.bool true)∧Below w.heap.size w w':=by
 have H1:=hidp h1
 have H2:=hidp h2
 clear h1 h2
 go_enter Tryz.func16,Tryz.ntmps16
 go_wp2
 go_loopw [44] (fun i wr=>∃ (k:Nat) (x:Tail),k≤ws.length∧i=.int .i64 k∧wr=wplus ((w.alloc (.cells #[.int .i64 site,.int .i64 seq,.int .i64 wall,.int .i64 count,.int .i64 d0,.int .i64 d1,.int .i64 d2,.int .i64 d3,.slice A ws.length c] 44)).alloc (.cells #[.int .i64 site,.int .i64 seq,.int .i64 wall,.int .i64 count,.int .i64 d0,.int .i64 d1,.int .i64 d2,.int .i64 d3,.slice A' ws.length c'] 44)) x) (fun i _=>ws.length-(intOf i).toNat)
 case atStart=>exact ⟨0,⟨#[],w.drawn⟩,Nat.zero_le _,rfl,by simp [wplus];rfl⟩
 case round=>
  obtain ⟨k,x,hk,rfl,rfl⟩:=hrel
  by_cases hlt:k<ws.length
  ·obtain ⟨b,o,rfl,hb,h0,h1,h2⟩:=H1.out k ws[k] (List.getElem?_eq_getElem hlt)
   obtain ⟨b',o',rfl,hb',h0',h1',h2'⟩:=H2.out k ws[k] (List.getElem?_eq_getElem hlt)
   haveI:SzGe (b+1) w:=⟨hb⟩
   haveI:SzGe (b'+1) w:=⟨hb'⟩
   generalize ws[k]=y at *
   obtain ⟨key,data,gone⟩:=y
   simp only at *
   go_wp2
   refine wp_region_plus (by kernel_rfl) (by kernel_rfl) ?_
   repeat (first | go_big_quiet_skip | (go_big_quiet_want;go_big_quiet_op;first | go_big_quiet_on))
   refine wpQuiet_nil ?_
   rintro _ ⟨x,rfl⟩
   go_wp2
   go_roundw
   case rel=>exact ⟨k+1,_,by omega,by go_num,wplus_wplus _ _ _⟩
   case measure=>simp [intOf];omega
  ·have hkk:k=ws.length:=by omega
   go_wp2
   go_ret
   exact ⟨rfl,zB⟩
section
variable {w0 w w':World} {x y:Nat} {s s':SiP} {r r':RsP} {K:List (Nat×Obj)}
theorem RsAt.fresh {w:World} {B y:Nat} {id:Int} (h:w.heap[y]?=some (.cells #[.int .i64 id,.int .i64 0,.int .i64 0,.int .i64 0,.int .i64 0,.int .i64 0,.int .i64 0,.slice none 0 0,.slice none 0 0,.slice none 0 0,.int .i64 0,.int .i64 0,.int .i64 0,.int .i64 0,.int .i64 0,.int .i64 0,.int .i64 0,.int .i64 0,.int .i64 0,.int .i64 0,.int .i64 0,.int .i64 0,.int .i64 0,.int .i64 0,.int .i64 0,.int .i64 0] 41)) (hB:B≤y):RsAt w B y (rNew id) (.slice none 0 0) none 0 (.slice none 0 0):=by
 have fz:∀ k,w.frozen? ⟨y,k,none⟩=false:=fun k=>frozen_blk h k
 refine ⟨cell_blk h 0,cell_blk h 1,cell_blk h 2,cell_blk h 3,cell_blk h 4,cell_blk h 5,cell_blk h 6,cell_blk h 7,cell_blk h 8,fun k hk=>?_,fz,⟨lt_blk h,cell_blk h 9,fz _,⟨rfl,.inl ⟨rfl,rfl⟩⟩,by simp [Value.ownBlock]⟩,⟨rfl,.inl ⟨rfl,rfl⟩⟩,⟨fun i m hm=>by simp [rNew] at hm,by simp [rNew],fun b o e=>by cases e⟩,hB,by simp [Value.ownBlock],fun b e=>by simp [Value.ownBlock] at e,fun m hm=>?_⟩
 ·have hc:k=0∨k=1∨k=2∨k=3∨k=4∨k=5∨k=6∨k=7∨k=8∨k=9∨k=10∨k=11∨k=12∨k=13∨k=14∨k=15:=by omega
  rcases hc with rfl | rfl | rfl | rfl | rfl | rfl | rfl | rfl | rfl | rfl | rfl | rfl | rfl | rfl | rfl | rfl <;> exact cell_blk h _
 ·rcases hm with hm | hm <;> simp [rNew] at hm
theorem Full.fit9 (h:Full s r):Fit s.st 900000:=h.inv.fit.mono (by have:=h.inv.log;omega)
theorem Full.len9 (h:Full s r):r.L.length≤800000∧r.log.length≤200:=by
 have h1:=h.rin.len
 have h2:=h.inv.log
 have h3:s.log.length=r.log.length:=by rw [h.rep.len];simp [RsP.r]
 omega
theorem Full.read (hf:Full s r) (key a0 a1 a2 a3:Int):rSiteRead r key a0 a1 a2 a3=siteRead s key a0 a1 a2 a3:=by
 have h:=hf.rep
 have e0:s.p0=r.p0:=h.p0
 have e1:s.p1=r.p1:=h.p1
 have e2:s.p2=r.p2:=h.p2
 have e3:s.p3=r.p3:=h.p3
 unfold rSiteRead siteRead
 rw [e0,e1,e2,e3,show rRead a0 a1 a2 a3 r.L key=_ from h.rep.read a0 a1 a2 a3 key]
end
structure FullA (s:SiP) (a:RSi):Prop where
 rep:SRep s a
 inv:Inv s
 top:Top s
 rlg:∀ t∈a.log,rightTx t=true
theorem FullA.rin {s:SiP} {r:RsP} (h:FullA s r.r):RInv r:=by
 refine ⟨?_,fun a=>?_,fun m hm=>?_,?_⟩
 ·have e:s.id=r.id:=h.rep.id
  rw [←e];exact h.inv.id
 ·have e:s.at a=r.at a:=h.rep.at a
  rw [←e];exact okAp.at h.inv.ap a
 ·obtain ⟨m2,h1,h2⟩:=h.rep.ws m.t (List.mem_map.2 ⟨m,hm,rfl⟩)
  rw [←h2];exact (h.inv.wt _ _ _ h1).2.2
 ·have h1:r.L.length=_:=h.rep.rep.many
  have h2:s.log.length=r.r.log.length:=h.rep.len
  have h3:r.r.log.length=r.log.length:=by simp [RsP.r]
  have hk:∀ k,k<8→(s.st k).length≤5*s.log.length:=fun k hk=>(h.inv.fit k hk).2
  have:=hk 0 (by omega);have:=hk 1 (by omega);have:=hk 2 (by omega);have:=hk 3 (by omega)
  have:=hk 4 (by omega);have:=hk 5 (by omega);have:=hk 6 (by omega);have:=hk 7 (by omega)
  omega
theorem FullA.full {s:SiP} {r:RsP} (h:FullA s r.r):Full s r:=
 ⟨h.rep,h.inv,h.rin,h.top,fun m hm=>h.rlg m.t (List.mem_map.2 ⟨m,hm,rfl⟩)⟩
theorem Full.fullA {s:SiP} {r:RsP} (h:Full s r):FullA s r.r:=
 ⟨h.rep,h.inv,h.top,fun t ht=>by obtain ⟨m,hm,rfl⟩:=List.mem_map.1 ht;exact h.rlg m hm⟩
def mkR (a:RSi):RsP:=⟨a.id,a.p0,a.p1,a.p2,a.p3,a.lw,a.lc,a.log.map (fun t=>⟨t,none,0⟩),a.ws.map (fun t=>⟨t,none,0⟩),a.held,a.ot⟩
theorem mkR_r (a:RSi):(mkR a).r=a:=by
 unfold mkR RsP.r
 cases a
 simp [Function.comp_def]
theorem FullA.gh {s:SiP} {a:RSi} (h:FullA s a):Full s (mkR a):=FullA.full (by rw [mkR_r];exact h)
def rTake (a:RSi) (t:TxP):RSi:=if rTakeE a t=0 then rRun (a.ws.length+1) { a with ws:=a.ws++[t] } else a
def aRead (a:RSi) (key v0 v1 v2 v3:Int):VerP×Int:=if covD a.p0 a.p1 a.p2 a.p3 v0 v1 v2 v3=true then rRead v0 v1 v2 v3 a.held key else (verZ,10)
theorem FullA.fresh {id:Int} (h:0≤id∧id<4):FullA (siNew id) ⟨id,0,0,0,0,0,0,[],[],[],fun _=>0⟩:=(Full.fresh h).fullA
theorem FullA.takes {s:SiP} {a:RSi} (h:FullA s a) {t:TxP} (he:takeE s t=0) (A:Option Addr) (c:Nat):
  FullA (runP (s.wn+1) (s.wait ⟨t,A,c⟩)) (rTake a t):=by
 have e:=h.rep.takeE h.inv t
 have h1:=takeE_parts he
 unfold rTake
 rw [if_pos (e ▸ he)]
 have hrep:=h.rep.take h.inv he A c
 obtain ⟨i1,i2⟩:=(h.inv.wait (m:=⟨t,A,c⟩) h1).run (s.wn+1) h.top
 have hl:∀ m∈s.log,rightTx m.t=true:=fun m hm=>h.rlg m.t (by rw [←h.rep.log];exact List.mem_map.2 ⟨m,hm,rfl⟩)
 refine ⟨hrep,i1,i2,fun t2 ht=>?_⟩
 rw [←hrep.log] at ht
 obtain ⟨m,hm,rfl⟩:=List.mem_map.1 ht
 exact runP_right _ (h.inv.wait (m:=⟨t,A,c⟩) h1) hl m hm
theorem FullA.commits {s:SiP} {a:RSi} (h:FullA s a) {now d0 d1 d2 d3:Int} {ws:List WrP} (he:rCommitE a now d0 d1 d2 d3 ws=0) (A:Option Addr) (c:Nat):
  FullA (applyP s ⟨rCommitT a now d0 d1 d2 d3 ws,A,c⟩) (rApply a (rCommitT a now d0 d1 d2 d3 ws)):=by
 obtain ⟨e1,e2⟩:=h.rep.commitE now d0 d1 d2 d3 ws
 rw [←e1] at he
 have:=(h.gh.commit he A none c 0).fullA
 rw [applyR_r _ _ (rightTx_parts (commit_right h.inv h.top he).1).1,mkR_r,e2] at this
 exact this
theorem FullA.reads {s:SiP} {a:RSi} (h:FullA s a) (key v0 v1 v2 v3:Int):siteRead s key v0 v1 v2 v3=aRead a key v0 v1 v2 v3:=by
 unfold siteRead aRead
 rw [h.rep.p0,h.rep.p1,h.rep.p2,h.rep.p3,h.rep.rep.read v0 v1 v2 v3 key]
theorem rTake_ws {s:SiP} {a:RSi} (h:FullA s a) (t:TxP) (hw:a.ws.length≤40):(rTake a t).ws.length≤40:=by
 unfold rTake
 split
 ·rename_i he
  by_cases h40:a.ws.length<40
  ·refine Nat.le_trans (rRun_len _ _) ?_
   simp;omega
  ·unfold rTakeE at he
   split at he
   ·cases he
   split at he
   ·cases he
   split at he
   ·cases he
   split at he
   ·cases he
   rename_i k1 k2 k3 k4
   have hrd:rReady a t=true:=by
    cases hr:rReady a t with
    | true=>rfl
    | false=>exact absurd (.inr ⟨by omega,hr⟩) k4
   have hb:=rbGo_spec { a with ws:=a.ws++[t] } (a.ws++[t]) 0 (-1) (by simp) (.inl rfl) (fun k t hk=>by omega)
   unfold rRun
   rcases hb with ⟨_,h2⟩ | ⟨j,t2,h1,h2,_⟩
   ·have:=h2 t (by simp)
    rw [show rReady { a with ws:=a.ws++[t] } t=rReady a t from rfl,hrd] at this
    cases this
   ·have hbj:rBest { a with ws:=a.ws++[t] }=(j:Int):=h1
    rw [hbj]
    rw [if_neg (by rintro (e | e);· exact k4 (.inl e)
                   ·omega)]
    refine Nat.le_trans (rRun_len _ _) ?_
    show (rApply _ _).ws.length≤40
    have hj:j<(a.ws++[t]).length:=(List.getElem?_eq_some_iff.1 h2).1
    simp only [List.length_append,List.length_cons,List.length_nil] at hj
    show ((a.ws++[t]).take ((j:Int)).toNat++(a.ws++[t]).drop (((j:Int)).toNat+1)).length≤40
    rw [show ((j:Int)).toNat=j by omega]
    simp
    omega
 ·exact hw
def Upd (w w':World) (o:Ob) (R:Ob→Prop):Prop:=∃ o',R o'∧o'.at_ w'∧SiFr w w' o.own o'.own∧∀ b,o'.dat b→o.dat b∨w.heap.size≤b
theorem Upd.below {w w':World} {o:Ob} {R:Ob→Prop} {B:Nat} (hok:o.Ok B) (hr:R o) (ha:o.at_ w) (hb:Below w.heap.size w w'):Upd w w' o R:=
 ⟨o,hr,hok.same w w' ha hb.size (fun b e=>hb.block b (e.elim (fun e=>(hok.lt w b ha e).2) (hok.dlt w b ha))),SiFr.of_below _ hb,fun b e=>.inl e⟩
theorem Mem.upd {w0 w w':World} {n:Nat} {O:Nat→Ob} (h:Mem w0 w n O) {i:Nat} (hi:i<n) {R:Ob→Prop} (hu:Upd w w' (O i) R) (hok:∀ o',R o'→o'.Ok w0.heap.size):
  ∃ O',Mem w0 w' n O'∧R (O' i)∧∀ k,k≠i→O' k=O k:=by
 obtain ⟨o',h1,h2,h3,h4⟩:=hu
 exact ⟨oset O i o',h.step hi (hok o' h1) h2 h3 h4,by rw [oset_same];exact h1,fun k hk=>oset_other _ hk⟩
theorem Mem.at_below {w0 w w':World} {n:Nat} {O:Nat→Ob} (h:Mem w0 w n O) {i:Nat} (hi:i<n) (hb:Below w.heap.size w w'):(O i).at_ w':=(h.below hb).at_ i hi
def SteA (B x:Nat) (a:RSi) (o:Ob):Prop:=∃ mb s lv sv,o=obS B x mb s lv sv∧FullA s a∧a.ws.length≤40
def RteA (B y:Nat) (a:RSi) (o:Ob):Prop:=∃ r lr wA wc av,o=obR B y r lr wA wc av∧(∃ s,FullA s a)∧r.r=a∧a.ws.length≤40
theorem SteA.ok {B x:Nat} {a:RSi} {o:Ob} (h:SteA B x a o):o.Ok B:=by obtain ⟨mb,s,lv,sv,rfl,_⟩:=h;exact obS_ok ..
theorem RteA.ok {B y:Nat} {a:RSi} {o:Ob} (h:RteA B y a o):o.Ok B:=by obtain ⟨r,lr,wA,wc,av,rfl,_⟩:=h;exact obR_ok ..
section
variable {w w':World} {B x y:Nat} {a:RSi} {o:Ob}
theorem SteA.take (h:SteA B x a o) (hw:o.at_ w) (t:TxP) (A:Option Addr) (c:Nat) (hws:WsAt w A t.ws) (hwl:t.ws.length≤1000000) (hfa:wf64 t.site) (hfb:wf64 t.seq):
  Calls Tryz.prog 17 #[.pointer (some ⟨x,0,none⟩),MTx.val ⟨t,A,c⟩] w fun e w'=>e=.returned (errV (rTakeE a t))∧Upd w w' o (SteA B x (rTake a t)):=by
 have h0:=h
 obtain ⟨mb,s,lv,sv,rfl,hf,h40⟩:=h
 have he2:=hf.rep.takeE hf.inv t
 refine (take_any B x mb s lv sv t A c w hw hf.inv (by rw [hf.rep.wn];omega) hws hwl hfa hfb).mono ?_
 rintro e w' ⟨rfl,g1,g2⟩
 refine ⟨by rw [he2],?_⟩
 by_cases he:takeE s t=0
 ·obtain ⟨A',c',lv',sv',hA,hs,fr⟩:=g2 he
  refine ⟨obS B x mb _ lv' sv',⟨mb,_,lv',sv',rfl,hf.takes he A' c',rTake_ws hf t h40⟩,hs,fr,?_⟩
  rintro b ⟨m,o2,hm,hb⟩
  have hi:=hf.inv.wait (m:=⟨t,A',c'⟩) (takeE_parts he)
  rcases wait_has (runP_has _ _ _ hi hm) with h3 | h3
  ·exact .inl ⟨m,o2,h3,hb⟩
  ·exact .inr (hA b o2 (by rw [h3] at hb;exact hb))
 ·have e2:rTake a t=a:=by unfold rTake;rw [if_neg (fun e=>he (he2.trans e))]
  rw [e2]
  exact Upd.below (obS_ok ..) h0 hw (g1 he)
theorem SteA.commit (h:SteA B x a o) (hw:o.at_ w) (now d0 d1 d2 d3:Int) (A:Option Addr) (c:Nat) (ws:List WrP) (hws:WsAt w A ws) (hn:ws.length≤1000000):
  Calls Tryz.prog 15 #[.pointer (some ⟨x,0,none⟩),.int .i64 now,.agg #[.int .i64 d0,.int .i64 d1,.int .i64 d2,.int .i64 d3],.slice A ws.length c] w fun e w'=>
   (rCommitE a now d0 d1 d2 d3 ws≠0→e=.returned (.tuple #[txZero,errV (rCommitE a now d0 d1 d2 d3 ws)])∧Below w.heap.size w w')∧
   (rCommitE a now d0 d1 d2 d3 ws=0→∃ b' c',e=.returned (.tuple #[MTx.val ⟨rCommitT a now d0 d1 d2 d3 ws,some ⟨b',0,none⟩,c'⟩,.nilIface])∧w.heap.size≤b'∧WsAt w' (some ⟨b',0,none⟩) (rCommitT a now d0 d1 d2 d3 ws).ws∧
     ∃ o',SteA B x (rApply a (rCommitT a now d0 d1 d2 d3 ws)) o'∧o'.at_ w'∧SiFr w w' o.own o'.own∧(∀ b,o'.dat b→o.dat b∨w.heap.size≤b)∧¬o'.own b'):=by
 obtain ⟨mb,s,lv,sv,rfl,hf,h40⟩:=h
 obtain ⟨e1,e2⟩:=hf.rep.commitE now d0 d1 d2 d3 ws
 refine (commit_any B x mb s lv sv now d0 d1 d2 d3 A c ws w hw hf.inv hws hn).mono ?_
 rintro e w' ⟨g1,g2⟩
 rw [e1] at g1 g2
 refine ⟨g1,fun he=>?_⟩
 obtain ⟨A',c',A2,c2,lv',sv',rfl,hs,fr,hA2,hw',b',rfl,hb1,hb2⟩:=g2 he
 rw [e2] at hs hw' ⊢
 refine ⟨b',c',rfl,hb1,hw',obS B x mb _ lv' sv',⟨mb,_,lv',sv',rfl,hf.commits he A2 c2,h40⟩,hs,fr,?_,hb2⟩
 rintro b ⟨m,o2,hm,hb⟩
 rcases apply_has hm with h3 | h3
 ·exact .inl ⟨m,o2,h3,hb⟩
 ·exact .inr (hA2 b o2 (by rw [h3] at hb;exact hb))
theorem SteA.read (h:SteA B x a o) (hw:o.at_ w) (key v0 v1 v2 v3:Int):
  Calls Tryz.prog 25 #[.pointer (some ⟨x,0,none⟩),.int .i64 key,.agg #[.int .i64 v0,.int .i64 v1,.int .i64 v2,.int .i64 v3]] w fun e w'=>
   e=.returned (.tuple #[verV (aRead a key v0 v1 v2 v3).1,errV (aRead a key v0 v1 v2 v3).2])∧Below w.heap.size w w':=by
 obtain ⟨mb,s,lv,sv,rfl,hf,h40⟩:=h
 have:=siteRead_any B x mb s lv sv key v0 v1 v2 v3 w hw hf.gh.fit9
 rw [hf.reads] at this
 exact this
theorem SteA.applied (h:SteA B x a o) (hw:o.at_ w):Calls Tryz.prog 26 #[.pointer (some ⟨x,0,none⟩)] w fun e w'=>e=.returned (.agg #[.int .i64 a.p0,.int .i64 a.p1,.int .i64 a.p2,.int .i64 a.p3])∧Below w.heap.size w w':=by
 obtain ⟨mb,s,lv,sv,rfl,hf,h40⟩:=h
 have:=applied_any B x mb s lv sv w hw
 rw [hf.rep.p0,hf.rep.p1,hf.rep.p2,hf.rep.p3] at this
 exact this
theorem RteA.full {s:SiP} (h:FullA s a) {r:RsP} (e:r.r=a):Full s r:=FullA.full (by rw [e];exact h)
theorem RteA.take (h:RteA B y a o) (hw:o.at_ w) (t:TxP) (A:Option Addr) (c:Nat) (hws:WsAt w A t.ws) (hwl:t.ws.length≤1000000):
  Calls Tryz.prog 18 #[.pointer (some ⟨y,0,none⟩),MTx.val ⟨t,A,c⟩] w fun e w'=>e=.returned (.int .i64 (rTakeE a t))∧Upd w w' o (RteA B y (rTake a t)):=by
 have h0:=h
 obtain ⟨r,lr,wA,wc,av,rfl,⟨s,hf⟩,hr,h40⟩:=h
 have hF:=RteA.full hf hr
 have hlen:r.ws.length≤900:=by
  have e:r.r.ws.length=r.ws.length:=by simp [RsP.r]
  rw [hr] at e;omega
 refine (rTake_any B y wc r lr av wA t A c w hw hF.rin hlen hws hwl).mono ?_
 rintro e w' ⟨rfl,g1,g2⟩
 rw [hr] at g1 g2 ⊢
 refine ⟨rfl,?_⟩
 by_cases he:rTakeE a t=0
 ·obtain ⟨b,c',r',lr',wA',wc',av',hb1,hs,hri,hre,hhas,fr,hwa⟩:=g2 he
  have e2:r'.r=rTake a t:=by unfold rTake;rw [if_pos he];exact hre
  have he3:takeE s t=0:=by rw [hf.rep.takeE hf.inv t];exact he
  refine ⟨obR B y r' lr' wA' wc' av',⟨r',lr',wA',wc',av',rfl,⟨_,hf.takes he3 none 0⟩,e2,rTake_ws hf t h40⟩,hs,fr,?_⟩
  rintro b2 (⟨o2,e⟩ | ⟨m,o2,hm,e⟩)
  ·exact .inr (hwa b2 o2 e)
  ·rcases hhas m hm with h3 | h3
   ·exact .inl (.inr ⟨m,o2,h3,e⟩)
   ·rw [h3] at e
    simp only [Option.some.injEq,Addr.mk.injEq] at e
    obtain ⟨rfl,_⟩:=e
    exact .inr hb1
 ·have e2:rTake a t=a:=by unfold rTake;rw [if_neg he]
  rw [e2]
  exact Upd.below (obR_ok ..) h0 hw (g1 he)
theorem RteA.commit (h:RteA B y a o) (hw:o.at_ w) (now d0 d1 d2 d3:Int) (A:Option Addr) (c:Nat) (ws:List WrP) (hws:WsAt w A ws) (hn:ws.length≤1000000):
  Calls Tryz.prog 14 #[.pointer (some ⟨y,0,none⟩),.int .i64 now,.agg #[.int .i64 d0,.int .i64 d1,.int .i64 d2,.int .i64 d3],.slice A ws.length c] w fun e w'=>
   (rCommitE a now d0 d1 d2 d3 ws≠0→e=.returned (.tuple #[txZero,.int .i64 (rCommitE a now d0 d1 d2 d3 ws)])∧Below w.heap.size w w')∧
   (rCommitE a now d0 d1 d2 d3 ws=0→∃ b' c',e=.returned (.tuple #[MTx.val ⟨rCommitT a now d0 d1 d2 d3 ws,some ⟨b',0,none⟩,c'⟩,.int .i64 0])∧w.heap.size≤b'∧b'<w'.heap.size∧WsAt w' (some ⟨b',0,none⟩) (rCommitT a now d0 d1 d2 d3 ws).ws∧
     ∃ o',RteA B y (rApply a (rCommitT a now d0 d1 d2 d3 ws)) o'∧o'.at_ w'∧SiFr w w' o.own o'.own∧(∀ b,o'.dat b→o.dat b∨w.heap.size≤b)∧¬o'.own b'):=by
 obtain ⟨r,lr,wA,wc,av,rfl,⟨s,hf⟩,hr,h40⟩:=h
 have hF:=RteA.full hf hr
 refine (rCommit_any B y wc r lr av wA now d0 d1 d2 d3 A c ws w hw hF.rin.id hF.rin.ap hF.len9.1 hws hn).mono ?_
 rintro e w' ⟨g1,g2⟩
 rw [hr] at g1 g2
 refine ⟨g1,fun he=>?_⟩
 obtain ⟨b,c',lr',av',rfl,hs,fr,hb1,hb2,hw'⟩:=g2 he
 obtain ⟨e1,e2⟩:=hf.rep.commitE now d0 d1 d2 d3 ws
 have hrt:0≤(rCommitT a now d0 d1 d2 d3 ws).site∧(rCommitT a now d0 d1 d2 d3 ws).site<4:=by
  rw [←e2];exact (rightTx_parts (commit_right hf.inv hf.top (by rw [e1];exact he)).1).1
 refine ⟨b,c',rfl,hb1,hb2,hw',obR B y _ lr' wA wc av',⟨_,lr',wA,wc,av',rfl,⟨_,hf.commits he none 0⟩,?_,h40⟩,hs,fr,?_,fun e=>?_⟩
 ·rw [applyR_r _ _ hrt,hr]
 ·rintro b2 (⟨o2,e⟩ | ⟨m,o2,hm,e⟩)
  ·exact .inl (.inl ⟨o2,e⟩)
  ·rcases applyR_has hm with h3 | h3
   ·exact .inl (.inr ⟨m,o2,h3,e⟩)
   ·rw [h3] at e
    simp only [Option.some.injEq,Addr.mk.injEq] at e
    obtain ⟨rfl,_⟩:=e
    exact .inr hb1
 ·exact ((RsAt.dat hs _ (.inl (by rw [applyR_log];exact List.mem_append.2 (.inr (List.mem_singleton.2 rfl))))).2 b 0 rfl).2 e
theorem RteA.read (h:RteA B y a o) (hw:o.at_ w) (key v0 v1 v2 v3:Int):
  Calls Tryz.prog 24 #[.pointer (some ⟨y,0,none⟩),.int .i64 key,.agg #[.int .i64 v0,.int .i64 v1,.int .i64 v2,.int .i64 v3]] w fun e w'=>
   e=.returned (.tuple #[verV (aRead a key v0 v1 v2 v3).1,.int .i64 (aRead a key v0 v1 v2 v3).2])∧Below w.heap.size w w':=by
 obtain ⟨r,lr,wA,wc,av,rfl,⟨s,hf⟩,hr,h40⟩:=h
 have hF:=RteA.full hf hr
 have:=rSiteRead_any B y wc r lr av wA key v0 v1 v2 v3 w hw hF.site_ok (by have:=hF.len9;omega)
 rw [hF.read,hf.reads] at this
 exact this
theorem RteA.cells (h:RteA B y a o) (hw:o.at_ w):y<w.heap.size∧w.cell? ⟨y,0,none⟩=some (.int .i64 a.id)∧w.cell? ⟨y,1,none⟩=some (.int .i64 a.p0)∧w.cell? ⟨y,2,none⟩=some (.int .i64 a.p1)∧w.cell? ⟨y,3,none⟩=some (.int .i64 a.p2)∧w.cell? ⟨y,4,none⟩=some (.int .i64 a.p3)∧
  (∃ A c,w.cell? ⟨y,8,none⟩=some (.slice A a.ws.length c))∧(∃ A c,w.cell? ⟨y,9,none⟩=some (.slice A a.held.length c))∧(∀ k,k<16→w.cell? ⟨y,10+k,none⟩=some (.int .i64 (a.ot k)))∧∀ k,w.frozen? ⟨y,k,none⟩=false:=by
 obtain ⟨r,lr,wA,wc,av,rfl,⟨s,hf⟩,hr,h40⟩:=h
 have hw2:RsAt w B y r lr wA wc av:=hw
 subst hr
 refine ⟨hw2.sto.lt,hw2.c0,hw2.c1,hw2.c2,hw2.c3,hw2.c4,⟨wA,wc,?_⟩,?_,hw2.oth,hw2.frz⟩
 ·have e:r.r.ws.length=r.ws.length:=by simp [RsP.r]
  rw [e];exact hw2.c8
 ·obtain ⟨A,c,rfl⟩:=own_form hw2.sto.own
  exact ⟨A,c,hw2.sto.cel⟩
end
end Go.Proofs.YtbopfhbeegkkaabGreatDoor
