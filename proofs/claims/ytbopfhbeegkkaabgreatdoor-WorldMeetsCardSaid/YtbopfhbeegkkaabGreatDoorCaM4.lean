/- Part M4 of a proof: lemmas and contracts that other parts use. -/
import Derived.Test.YtbopfhbeegkkaabGreatDoorCaK19
import Derived.Test.YtbopfhbeegkkaabGreatDoorCaM1
import Derived.Test.YtbopfhbeegkkaabGreatDoorCa45
set_option linter.unusedVariables false
set_option linter.unusedSimpArgs false
set_option linter.constructorNameAsVariable false
namespace Go.Proofs.YtbopfhbeegkkaabGreatDoor
open Go.RowKit
theorem TSt.row {w W:World} {tb g C i:Nat} {s:TlP} (h:TSt w tb g C i W s):∃ (ts:List MTx) (Al:Option Addr) (cl:Nat) (vO:Value),W.heap[tb]?=some (.cells #[.pointer (some ⟨g,0,none⟩),.int .i64 (s.A.S:Int),.int .i64 (C:Int),.slice Al ts.length cl,vO] 110)∧XsAt W Al ts∧ts.map (·.t)=s.T∧ts.length≤i∧∀ m∈ts,rightTx m.t=true:=by
 obtain ⟨O,t,b,h1,h2,rfl,h4,h5,rfl⟩:=h
 obtain ⟨hrow,_⟩:=h2.rowT h1 (by omega)
 obtain ⟨Al,cl,e⟩:=own_form hrow.1
 have hb:=h2.blk h1 (by omega)
 have hx:=hrow.1
 rw [e] at hx hb
 have hl:t.ts.length=s.T.length:=by rw [←h2.eT,List.length_map]
 exact ⟨t.ts,Al,cl,_,hb,own_xs hx,h2.eT,by omega,fun m hm=>h4.inv.t.rt _ (by rw [←h2.eT];exact List.mem_map_of_mem hm)⟩
theorem rlGo_of (P:VerP→Prop) (v0 v1 v2 v3 key:Int):∀ (l:List PtP) (b:VerP) (f:Bool),P b→(∀ p∈l,P p.v)→P (rlGo v0 v1 v2 v3 key l b f).1
 | [],_,_,hb,_=>hb
 | h::l,b,f,hb,hl=>by
   unfold rlGo
   split
   ·exact rlGo_of P v0 v1 v2 v3 key l h.v true (hl h (List.mem_cons_self ..)) fun p hp=>hl p (List.mem_cons_of_mem _ hp)
   ·exact rlGo_of P v0 v1 v2 v3 key l b f hb fun p hp=>hl p (List.mem_cons_of_mem _ hp)
theorem TInv.last_sz {T:List TxP} (h:TInv T) (v0 v1 v2 v3 key:Int):(lsOf (lastT T v0 v1 v2 v3 key)).1.size≤12:=by
 have h1:(lastT T v0 v1 v2 v3 key).1.data.size≤12:=rlGo_of (fun v=>v.data.size≤12) v0 v1 v2 v3 key (allV T) verZ false (Nat.zero_le _) fun p hp=>by
  obtain ⟨t,ht,hq⟩:=allV_mem.1 hp
  have:=(rightV_of (h.rt t ht) hq).1
  simp only [rightV,Bool.and_eq_true,decide_eq_true_eq] at this
  exact this.1.2
 unfold lsOf
 split
 ·exact h1
 ·exact Nat.zero_le _
structure Met2 (s:TlP):Prop where
 at_:∀ k:Nat,k<s.A.S→(s.A.si k).p0=alV s.T 0∧(s.A.si k).p1=alV s.T 1∧(s.A.si k).p2=alV s.T 2∧(s.A.si k).p3=alV s.T 3∧(s.A.si k).ws=[]
 sz:∀ key:Int,(lsOf (lastT s.T (alV s.T 0) (alV s.T 1) (alV s.T 2) (alV s.T 3) key)).1.size≤12
 txt:∀ k:Nat,k<s.A.S→∀ key:Nat,key<8→(aTold (s.A.si k))[key]?=some (if (lsOf (lastT s.T (alV s.T 0) (alV s.T 1) (alV s.T 2) (alV s.T 3) (key:Int))).2=true then ⟨#[61]⟩++(lsOf (lastT s.T (alV s.T 0) (alV s.T 1) (alV s.T 2) (alV s.T 3) (key:Int))).1 else ⟨#[]⟩)
theorem TSt.S4 {w W:World} {tb g C i:Nat} {s:TlP} (h:TSt w tb g C i W s):s.A.S≤4:=by
 obtain ⟨O,t,b,h1,h2,rfl,h4,h5,rfl⟩:=h
 exact h4.inv.S.2
theorem TSt.met {w W:World} {tb g C i:Nat} {s:TlP} (h:TSt w tb g C i W s) (hi:i<200):Met2 (tlTo (tlTo s (awCalm s.A)) (awCalm (tlTo s (awCalm s.A)).A)):=by
 obtain ⟨O,t,b,h1,h2,rfl,h4,h5,rfl⟩:=h
 have hl:s.T.length<200:=by omega
 have hS:(awCalm (awCalm s.A)).S=s.A.S:=by rw [(awCalm_SC _).1,(awCalm_SC _).1]
 have hC:=(h4.inv.calm hl).calm hl
 have h0:∀ k:Nat,k<(awCalm (awCalm s.A)).S→_:=fun k hk=>CInv.met4 hl h4.inv (k:=k) (by rw [←hS];exact hk)
 refine ⟨h0,fun key=>h4.inv.t.last_sz _ _ _ _ key,fun k hk key hkey=>?_⟩
 obtain ⟨e0,e1,e2,e3,_⟩:=h0 k hk
 have ht:=hC.txt hk hkey
 rw [e0,e1,e2,e3] at ht
 exact ht
theorem TSt.siteM {w W:World} {tb g C i:Nat} {s:TlP} (h:TSt w tb g C i W s) (hm:Met2 s) {k:Nat} (hk:k<s.A.S):Calls Tryz.prog 58 #[.pointer (some ⟨g,0,none⟩),.int .i64 (k:Nat)] W fun e w'=>∃ At ct hl,e=.returned (.tuple #[.agg #[.int .i64 (alV (s.T) 0),.int .i64 (alV (s.T) 1),.int .i64 (alV (s.T) 2),.int .i64 (alV (s.T) 3)],.int .i64 0,.slice At 8 ct,.int .i64 hl,.nilIface])∧TsAt w' At (aTold (s.A.si k))∧Below W.heap.size W w':=by
 obtain ⟨e0,e1,e2,e3,e4⟩:=hm.at_ k hk
 refine (h.site hk).mono ?_
 rintro e w' ⟨At,ct,h1,h2,h3⟩
 rw [e0,e1,e2,e3,e4] at h1
 exact ⟨At,ct,_,h1,h2,h3⟩
theorem alV_set {W:World} {ab q st:Nat} {T:List TxP} {t:TxP} (hb:W.heap[ab]?=some (.cells #[.int .i64 (alV (T.take q) 0),.int .i64 (alV (T.take q) 1),.int .i64 (alV (T.take q) 2),.int .i64 (alV (T.take q) 3)] 32)) (ht:T[q]?=some t) (hst:st<4) (hs:t.site=(st:Int)):
  (W.setCell ⟨ab,st,none⟩ (.int .i64 (max (atV (alV (T.take q) 0) (alV (T.take q) 1) (alV (T.take q) 2) (alV (T.take q) 3) (st:Int)) t.seq))).heap[ab]?=some (.cells #[.int .i64 (alV (T.take (q+1)) 0),.int .i64 (alV (T.take (q+1)) 1),.int .i64 (alV (T.take (q+1)) 2),.int .i64 (alV (T.take (q+1)) 3)] 32):=by
 have h:=blk_set hb st (.int .i64 (max (atV (alV (T.take q) 0) (alV (T.take q) 1) (alV (T.take q) 2) (alV (T.take q) 3) (st:Int)) t.seq))
 rw [h,take_next ht,alV_app]
 have hc:st=0∨st=1∨st=2∨st=3:=by omega
 unfold alS
 rw [hs]
 rcases hc with rfl | rfl | rfl | rfl <;> simp [atV]
set_option maxRecDepth 200000 in
set_option maxHeartbeats 32000000 in
theorem worldMeets_any (A:Option Addr) (c:Nat) (ls:List KacP) (sites clients:Int) (w:World) (hg:EType w) (hps:KacsAt w A ls):
  Calls Tryz.prog 6 #[.int .i64 sites,.int .i64 clients,.slice A ls.length c] w fun e w'=>e=.returned (.bool true)∧Below w.heap.size w w':=by
 by_cases hbig:120<ls.length
 ·have hd:decide ((120:Int)<(ls.length:Int))=true:=decide_eq_true (by omega)
  clear hbig hg hps
  go_enter Tryz.func6,Tryz.ntmps6
  go_wp2_with fail
  go_ret
  exact ⟨rfl,Below.refl _ _⟩
 have hd:decide ((120:Int)<(ls.length:Int))=false:=decide_eq_false (by omega)
 have hle:ls.length≤120:=by omega
 have HG:=hidp hg
 have HPS:=hidp hps
 clear hbig hg hps
 go_enter Tryz.func6,Tryz.ntmps6
 go_wp2_with fail
 go_at_call 51
 refine (lived_any w).mono ?_
 rintro e w1 ⟨rfl,hb1⟩
 have HB1:=hidp hb1
 clear hb1
 go_wp2_with fail
 go_at_call 52
 refine (TSt.new (W:=w1) sites clients).mono ?_
 rintro e w2 ⟨tb,g,C,s0,hC1,hC6,rfl,h2⟩
 have H2:=hidp h2
 clear h2
 go_wp2_with fail
 go_loopw [8] (fun i W=>∃ (k:Nat) (s:TlP),k≤ls.length∧i=.int .i64 k∧TSt w1 tb g C k W s) (fun i _=>ls.length-(Go.RowKit.intOf i).toNat)
 case atStart=>exact ⟨0,s0,Nat.zero_le _,rfl,H2.out⟩
 case round=>
  obtain ⟨k,s,hk,rfl,hS⟩:=hrel
  obtain ⟨W,rfl⟩:∃ W:World,W=wr:=⟨_,rfl⟩
  have HS:=hidp hS
  have HBW:=hidp (HB1.out.trans (hS.low.mono HB1.out.size))
  obtain ⟨S0,vT0,vO0,hbk⟩:=hS.blk
  haveI:SzGe (tb+1) W:=⟨lt_blk hbk⟩
  have c0:=cell_blk hbk 0
  simp only [zC,zD,zE] at c0
  clear hS hbk
  by_cases hlt:k<ls.length
  ·obtain ⟨⟨b,o,rfl,hb,d0,d1,d2,d3,d4⟩,_,_,_,_⟩:=(HPS.out.below HBW.out) k ls[k] (List.getElem?_eq_getElem hlt)
   generalize ls[k]=x at *
   obtain ⟨xw,xk,xn,xd,xg⟩:=x
   simp only at d0 d1 d2 d3 d4
   haveI:SzGe (b+1) W:=⟨hb⟩
   by_cases hsz:50<xd.size
   ·have hd5:decide ((50:Int)<(xd.size:Int))=true:=decide_eq_true (by omega)
    clear hsz
    go_wp2_with fail
    go_roundw
    case rel=>exact ⟨k+1,s,by omega,by go_num,HS.out.more⟩
    case measure=>simp [Go.RowKit.intOf];omega
   ·have hd5:decide ((50:Int)<(xd.size:Int))=false:=decide_eq_false (by omega)
    have HDO:=hidp (HS.out.does (HG.out.low HB1.out) (by omega) ⟨xw,xk,xn,xd,xg⟩ true)
    unfold TaP.val at HDO
    simp only at HDO
    generalize tlDo s ⟨xw,xk,xn,xd,xg⟩ true=s3 at *
    clear hsz c0
    go_wp2_with fail
    go_at_call 53
    refine HDO.out.mono ?_
    rintro e w3 ⟨rfl,h3⟩
    have H3:=hidp h3
    clear h3 HDO d0 d1 d2 d3 d4
    go_wp2_with fail
    go_roundw
    case rel=>exact ⟨k+1,s3,by omega,by go_num,H3.out⟩
    case measure=>simp [Go.RowKit.intOf];omega
  ·obtain rfl:k=ls.length:=by omega
   have HM:=hidp (HS.out.met (by omega))
   have HCA:=hidp (HS.out.calm (by omega))
   generalize tlTo s (awCalm s.A)=s1 at *
   go_wp2_with fail
   go_at_call 57
   refine HCA.out.mono ?_
   rintro e w3 ⟨rfl,h3⟩
   obtain ⟨S1,vT1,vO1,hbk⟩:=h3.blk
   haveI:SzGe (tb+1) w3:=⟨lt_blk hbk⟩
   clear c0
   have c0:=cell_blk hbk 0
   simp only [zC,zD,zE] at c0
   have HCB:=hidp (h3.calm (by omega))
   generalize tlTo s1 (awCalm s1.A)=s2 at *
   clear h3 hbk HCA HS
   go_wp2_with fail
   go_at_call 57
   refine HCB.out.mono ?_
   rintro e w4 ⟨rfl,h4⟩
   have H4:=hidp h4
   obtain ⟨ts,Al,cl,vO,hbk,hxs,hts,htl,hrt⟩:=h4.row
   obtain ⟨S,hSe⟩:∃ S,s2.A.S=S:=⟨_,rfl⟩
   rw [hSe] at hbk
   obtain ⟨T,hTe⟩:∃ T,s2.T=T:=⟨_,rfl⟩
   rw [hTe] at hts
   have HBK:=hidp hbk
   have HXS:=hidp hxs
   have HTS:=hidp hts
   have HRT:=hidp hrt
   have HSE:=hidp hSe
   have hS4:S≤4:=by have:=h4.S4;omega
   have HTE:=hidp hTe
   have HN5:=hidp (show (w4.alloc (.cells #[.int .i64 0,.int .i64 0,.int .i64 0,.int .i64 0] 32)).heap[w4.heap.size]?=some (.cells #[.int .i64 (alV (T.take 0) 0),.int .i64 (alV (T.take 0) 1),.int .i64 (alV (T.take 0) 2),.int .i64 (alV (T.take 0) 3)] 32) from blk_new rfl _)
   have HB5:=hidp (show Below w4.heap.size w4 (w4.alloc (.cells #[.int .i64 0,.int .i64 0,.int .i64 0,.int .i64 0] 32)) from zB)
   clear h4 hbk hxs hts hrt hSe hTe HCB c0
   go_wp2_with fail
   generalize (w4.alloc (.cells #[.int .i64 0,.int .i64 0,.int .i64 0,.int .i64 0] 32))=w5 at *
   obtain ⟨ab,hab⟩:∃ ab,w4.heap.size=ab:=⟨_,rfl⟩
   rw [hab] at HB5 HN5
   have HAB:=hidp hab
   rw [hab]
   clear hab
   have hne:¬(ab=tb):=fun e=>by have:=lt_blk HBK.out;have:=HAB.out;omega
   go_loopw [10] (fun i W=>∃ (q:Nat),q≤ts.length∧i=.int .i64 q∧Below ab w4 W∧W.heap[ab]?=some (.cells #[.int .i64 (alV (T.take q) 0),.int .i64 (alV (T.take q) 1),.int .i64 (alV (T.take q) 2),.int .i64 (alV (T.take q) 3)] 32)) (fun i _=>ts.length-(Go.RowKit.intOf i).toNat)
   case atStart=>exact ⟨0,Nat.zero_le _,rfl,HB5.out,HN5.out⟩
   case round=>
    obtain ⟨q,hq,rfl,hbl,hn⟩:=hrel
    obtain ⟨W7,rfl⟩:∃ W:World,W=wr:=⟨_,rfl⟩
    have HB7:=hidp hbl
    have HN7:=hidp hn
    have hbk:=(hbl.block tb (by have:=lt_blk HBK.out;have:=HAB.out;omega)).trans HBK.out
    have c0:=cell_blk hbk 0;have c1:=cell_blk hbk 1;have c3:=cell_blk hbk 3
    simp only [zC,zD,zE] at c0 c1 c3
    haveI:SzGe (tb+1) W7:=⟨lt_blk hbk⟩
    haveI:SzGe (ab+1) W7:=⟨lt_blk hn⟩
    clear hbl hbk hn
    by_cases hql:q<ts.length
    ·have hdq:decide ((q:Int)<(ts.length:Int))=true:=decide_eq_true (by omega)
     obtain ⟨b2,o2,rfl,hb2,f0,f1,f2,f3,f4,f5,f6,f7,f8⟩:=(HXS.out.below (by have:=HB7.out;rw [HAB.out];exact this)) q ts[q] (List.getElem?_eq_getElem hql)
     have hrm:=HRT.out ts[q] (List.getElem_mem hql)
     have hmt:T[q]?=some ts[q].t:=by rw [←HTS.out,List.getElem?_map,List.getElem?_eq_getElem hql];rfl
     have hb2a:=((HXS.out) q ts[q] (List.getElem?_eq_getElem hql))
     generalize ts[q]=m at *
     obtain ⟨⟨msite,mseq,mwall,mcount,md0,md1,md2,md3,mws⟩,mA,mc⟩:=m
     simp only at f0 f1 f2 f3 f4 f5 f6 f7 f8 hrm hmt
     obtain ⟨hp1,hp2,hp3,hp4⟩:=rightTx_parts hrm
     try simp only at hp1 hp2 hp3 hp4
     obtain ⟨st,rfl⟩:=Int.eq_ofNat_of_zero_le hp1.1
     have hst4:st<4:=by omega
     have hat:=at_cell HN7.out hst4
     have hfz:=frozen_blk HN7.out st
     haveI:SzGe (b2+1) W7:=⟨hb2⟩
     have HSET:=hidp (alV_set (W:=W7.drew) HN7.out hmt hst4 rfl)
     obtain ⟨aS,haS⟩:∃ aS,atV (alV (T.take q) 0) (alV (T.take q) 1) (alV (T.take q) 2) (alV (T.take q) 3) (st:Int)=aS:=⟨_,rfl⟩
     rw [haS] at hat HSET
     have hk0:(0:Int)≤(st:Int):=by omega
     have hk4:(st:Int)<4:=by omega
     have hne2:¬(ab=b2):=fun e=>by
      obtain ⟨b3,o3,e3,hb3,_⟩:=hb2a
      simp only [Option.some.injEq,Addr.mk.injEq] at e3
      have:=HAB.out
      omega
     clear haS hrm hmt hp1 hp2 hp3 hp4 hb2a
     go_wp2_with fail
     have HN:=hidp (show W7.drew.cell? ⟨tb,3,none⟩=some (.slice (some ⟨b2,o2,none⟩) ts.length cl)∧W7.drew.cell? ⟨b2,o2+q*9,none⟩=some (.int .i64 (st:Int))∧W7.drew.cell? ⟨b2,o2+q*9+1,none⟩=some (.int .i64 mseq)∧W7.drew.cell? ⟨ab,st,none⟩=some (.int .i64 aS) from ⟨c3,f0,f1,hat⟩)
     refine wp_region_split 28 (S:=(fun X:World=>X.cell? ⟨tb,3,none⟩=some (.slice (some ⟨b2,o2,none⟩) ts.length cl)∧X.cell? ⟨b2,o2+q*9,none⟩=some (.int .i64 (st:Int))∧X.cell? ⟨b2,o2+q*9+1,none⟩=some (.int .i64 mseq)∧X.cell? ⟨ab,st,none⟩=some (.int .i64 aS))) (by kernel_rfl) (by kernel_rfl) ?_ (fun hHeld=>?_)
     ·exact HN.out
     simp only [List.take_succ_cons,List.take_zero,List.drop_succ_cons,List.drop_zero]
     refine takeL 0 rfl (by kernel_rfl) (by kernel_rfl) (by kernel_rfl) (fun _ _ _ h=>h) hHeld (by rfl) (v:=?_) ?_ ?_
     rotate_left
     ·intro w hSw
      (try dsimp only at hSw)
      go_simp
      all_goals (with_reducible rfl)
     try simp only [Act.put,zF,zG,zH]
     refine takeL 1 rfl (by kernel_rfl) (by kernel_rfl) (by kernel_rfl) (fun _ _ _ h=>h) hHeld (by rfl) (v:=?_) ?_ ?_
     rotate_left
     ·intro w hSw
      (try dsimp only at hSw)
      go_simp
      all_goals (with_reducible rfl)
     try simp only [Act.put,zF,zG,zH]
     refine takeL 2 rfl (by kernel_rfl) (by kernel_rfl) (by kernel_rfl) (fun _ _ _ h=>h) hHeld (by rfl) (v:=?_) ?_ ?_
     rotate_left
     ·intro w hSw
      (try dsimp only at hSw)
      go_simp
      all_goals (with_reducible rfl)
     try simp only [Act.put,zF,zG,zH]
     refine takeL 3 rfl (by kernel_rfl) (by kernel_rfl) (by kernel_rfl) (fun _ _ _ h=>h) hHeld (by rfl) (v:=?_) ?_ ?_
     rotate_left
     ·intro w hSw
      (try dsimp only at hSw)
      go_simp
      all_goals (with_reducible rfl)
     try simp only [Act.put,zF,zG,zH]
     refine takeL 4 rfl (by kernel_rfl) (by kernel_rfl) (by kernel_rfl) (fun _ _ _ h=>h) hHeld (by rfl) (v:=?_) ?_ ?_
     rotate_left
     ·intro w hSw
      (try dsimp only at hSw)
      go_simp
      all_goals (with_reducible rfl)
     try simp only [Act.put,zF,zG,zH]
     refine takeL 5 rfl (by kernel_rfl) (by kernel_rfl) (by kernel_rfl) (fun _ _ _ h=>h) hHeld (by rfl) (v:=?_) ?_ ?_
     rotate_left
     ·intro w hSw
      (try dsimp only at hSw)
      go_simp
      all_goals (with_reducible rfl)
     try simp only [Act.put,zF,zG,zH]
     refine takeL 6 rfl (by kernel_rfl) (by kernel_rfl) (by kernel_rfl) (fun _ _ _ h=>h) hHeld (by rfl) (v:=?_) ?_ ?_
     rotate_left
     ·intro w hSw
      (try dsimp only at hSw)
      go_simp
      all_goals (with_reducible rfl)
     try simp only [Act.put,zF,zG,zH]
     refine takeL 7 rfl (by kernel_rfl) (by kernel_rfl) (by kernel_rfl) (fun _ _ _ h=>h) hHeld (by rfl) (v:=?_) ?_ ?_
     rotate_left
     ·intro w hSw
      (try dsimp only at hSw)
      go_simp
      all_goals (with_reducible rfl)
     try simp only [Act.put,zF,zG,zH]
     refine takeL 8 rfl (by kernel_rfl) (by kernel_rfl) (by kernel_rfl) (fun _ _ _ h=>h) hHeld (by rfl) (v:=?_) ?_ ?_
     rotate_left
     ·intro w hSw
      (try dsimp only at hSw)
      go_simp
      all_goals (with_reducible rfl)
     try simp only [Act.put,zF,zG,zH]
     refine takeL 9 rfl (by kernel_rfl) (by kernel_rfl) (by kernel_rfl) (fun _ _ _ h=>h) hHeld (by rfl) (v:=?_) ?_ ?_
     rotate_left
     ·intro w hSw
      (try dsimp only at hSw)
      go_simp
      all_goals (with_reducible rfl)
     try simp only [Act.put,zF,zG,zH]
     refine takeL 10 rfl (by kernel_rfl) (by kernel_rfl) (by kernel_rfl) (fun _ _ _ h=>h) hHeld (by rfl) (v:=?_) ?_ ?_
     rotate_left
     ·intro w hSw
      (try dsimp only at hSw)
      go_simp
      all_goals (with_reducible rfl)
     try simp only [Act.put,zF,zG,zH]
     refine takeL 11 rfl (by kernel_rfl) (by kernel_rfl) (by kernel_rfl) (fun _ _ _ h=>h) hHeld (by rfl) (v:=?_) ?_ ?_
     rotate_left
     ·intro w hSw
      (try dsimp only at hSw)
      go_simp
      all_goals (with_reducible rfl)
     try simp only [Act.put,zF,zG,zH]
     refine takeL 12 rfl (by kernel_rfl) (by kernel_rfl) (by kernel_rfl) (fun _ _ _ h=>h) hHeld (by rfl) (v:=?_) ?_ ?_
     rotate_left
     ·intro w hSw
      (try dsimp only at hSw)
      go_simp
      all_goals (with_reducible rfl)
     try simp only [Act.put,zF,zG,zH]
     refine takeL 13 rfl (by kernel_rfl) (by kernel_rfl) (by kernel_rfl) (fun _ _ _ h=>h) hHeld (by rfl) (v:=?_) ?_ ?_
     rotate_left
     ·intro w hSw
      (try dsimp only at hSw)
      go_simp
      all_goals (with_reducible rfl)
     try simp only [Act.put,zF,zG,zH]
     refine takeL 14 rfl (by kernel_rfl) (by kernel_rfl) (by kernel_rfl) (fun _ _ _ h=>h) hHeld (by rfl) (v:=?_) ?_ ?_
     rotate_left
     ·intro w hSw
      (try dsimp only at hSw)
      go_simp
      all_goals (with_reducible rfl)
     try simp only [Act.put,zF,zG,zH]
     refine takeL 15 rfl (by kernel_rfl) (by kernel_rfl) (by kernel_rfl) (fun _ _ _ h=>h) hHeld (by rfl) (v:=?_) ?_ ?_
     rotate_left
     ·intro w hSw
      (try dsimp only at hSw)
      go_simp
      all_goals (with_reducible rfl)
     try simp only [Act.put,zF,zG,zH]
     refine takeL 16 rfl (by kernel_rfl) (by kernel_rfl) (by kernel_rfl) (fun _ _ _ h=>h) hHeld (by rfl) (v:=?_) ?_ ?_
     rotate_left
     ·intro w hSw
      (try dsimp only at hSw)
      go_simp
      all_goals (with_reducible rfl)
     try simp only [Act.put,zF,zG,zH]
     refine takeL 17 rfl (by kernel_rfl) (by kernel_rfl) (by kernel_rfl) (fun _ _ _ h=>h) hHeld (by rfl) (v:=?_) ?_ ?_
     rotate_left
     ·intro w hSw
      (try dsimp only at hSw)
      go_simp
      all_goals (with_reducible rfl)
     try simp only [Act.put,zF,zG,zH]
     refine takeL 18 rfl (by kernel_rfl) (by kernel_rfl) (by kernel_rfl) (fun _ _ _ h=>h) hHeld (by rfl) (v:=?_) ?_ ?_
     rotate_left
     ·intro w hSw
      (try dsimp only at hSw)
      go_simp
      all_goals (with_reducible rfl)
     try simp only [Act.put,zF,zG,zH]
     refine takeL 19 rfl (by kernel_rfl) (by kernel_rfl) (by kernel_rfl) (fun _ _ _ h=>h) hHeld (by rfl) (v:=?_) ?_ ?_
     rotate_left
     ·intro w hSw
      (try dsimp only at hSw)
      go_simp
      all_goals (with_reducible rfl)
     try simp only [Act.put,zF,zG,zH]
     refine takeL 20 rfl (by kernel_rfl) (by kernel_rfl) (by kernel_rfl) (fun _ _ _ h=>h) hHeld (by rfl) (v:=?_) ?_ ?_
     rotate_left
     ·intro w hSw
      (try dsimp only at hSw)
      go_simp
      all_goals (with_reducible rfl)
     try simp only [Act.put,zF,zG,zH]
     refine takeL 21 rfl (by kernel_rfl) (by kernel_rfl) (by kernel_rfl) (fun _ _ _ h=>h) hHeld (by rfl) (v:=?_) ?_ ?_
     rotate_left
     ·intro w hSw
      (try dsimp only at hSw)
      go_simp
      all_goals (with_reducible rfl)
     try simp only [Act.put,zF,zG,zH]
     refine takeL 22 rfl (by kernel_rfl) (by kernel_rfl) (by kernel_rfl) (fun _ _ _ h=>h) hHeld (by rfl) (v:=?_) ?_ ?_
     rotate_left
     ·intro w hSw
      (try dsimp only at hSw)
      go_simp
      all_goals (with_reducible rfl)
     try simp only [Act.put,zF,zG,zH]
     refine takeL 23 rfl (by kernel_rfl) (by kernel_rfl) (by kernel_rfl) (fun _ _ _ h=>h) hHeld (by rfl) (v:=?_) ?_ ?_
     rotate_left
     ·intro w hSw
      (try dsimp only at hSw)
      go_simp
      all_goals (with_reducible rfl)
     try simp only [Act.put,zF,zG,zH]
     refine takeL 24 rfl (by kernel_rfl) (by kernel_rfl) (by kernel_rfl) (fun _ _ _ h=>h) hHeld (by rfl) (v:=?_) ?_ ?_
     rotate_left
     ·intro w hSw
      (try dsimp only at hSw)
      go_simp
      all_goals (with_reducible rfl)
     try simp only [Act.put,zF,zG,zH]
     refine takeL 25 rfl (by kernel_rfl) (by kernel_rfl) (by kernel_rfl) (fun _ _ _ h=>h) hHeld (by rfl) (v:=?_) ?_ ?_
     rotate_left
     ·intro w hSw
      (try dsimp only at hSw)
      go_simp
      all_goals (with_reducible rfl)
     try simp only [Act.put,zF,zG,zH]
     refine takeL 26 rfl (by kernel_rfl) (by kernel_rfl) (by kernel_rfl) (fun _ _ _ h=>h) hHeld (by rfl) (v:=?_) ?_ ?_
     rotate_left
     ·intro w hSw
      (try dsimp only at hSw)
      go_simp
      all_goals (with_reducible rfl)
     try simp only [Act.put,zF,zG,zH]
     refine takeL 27 rfl (by kernel_rfl) (by kernel_rfl) (by kernel_rfl) (fun _ _ _ h=>h) hHeld (by rfl) (v:=?_) ?_ ?_
     rotate_left
     ·intro w hSw
      (try dsimp only at hSw)
      go_simp
      all_goals (with_reducible rfl)
     try simp only [Act.put,zF,zG,zH]
     refine wpAnyH_done (by kernel_rfl) ?_ _
     refine headQ.normal ?_
     go_wp2_with fail
     go_roundw
     case rel=>exact ⟨q+1,by omega,by go_num,blw_far (Below.drew HB7.out) (Nat.le_refl _),HSET.out⟩
     case measure=>simp [Go.RowKit.intOf];omega
    ·obtain rfl:q=ts.length:=by omega
     have hdq2:decide (ts.length<ts.length)=false:=decide_eq_false (by omega)
     have hTT:T.take ts.length=T:=by rw [←HTS.out];exact List.take_of_length_le (by simp)
     rw [hTT] at HN7
     have H7:=hidp (H4.out.below (by have:=HB7.out;rw [HAB.out];exact this))
     have hae:=H7.out
     go_wp2_with fail
     go_loopw [11] (fun i W=>∃ (k:Nat),k≤S∧i=.int .i64 k∧Below W7.heap.size W7 W) (fun i _=>S-(Go.RowKit.intOf i).toNat)
     case atStart=>exact ⟨0,Nat.zero_le _,rfl,Below.refl _ _⟩
     case round=>
      obtain ⟨k,hk,rfl,hbl⟩:=hrel
      obtain ⟨W8,rfl⟩:∃ W:World,W=wr:=⟨_,rfl⟩
      have HB8:=hidp hbl
      have hbk:=(hbl.block tb (by have:=HB7.out.size;have:=lt_blk HBK.out;omega)).trans ((HB7.out.block tb (by have:=lt_blk HBK.out;have:=HAB.out;omega)).trans HBK.out)
      have c0:=cell_blk hbk 0;have c1:=cell_blk hbk 1
      simp only [zC,zD,zE] at c0 c1
      haveI:SzGe (tb+1) W8:=⟨lt_blk hbk⟩
      have hn8:=(hbl.block ab (lt_blk HN7.out)).trans HN7.out
      have HN8:=hidp hn8
      have a0:=cell_blk hn8 0;have a1:=cell_blk hn8 1;have a2:=cell_blk hn8 2;have a3:=cell_blk hn8 3
      simp only [zC,zD,zE] at a0 a1 a2 a3
      haveI:SzGe (ab+1) W8:=⟨lt_blk hn8⟩
      clear hbl hbk hn8
      by_cases hkS:k<S
      ·have hdk:decide ((k:Int)<(S:Int))=true:=decide_eq_true (by omega)
       have HSI:=hidp ((H7.out.below HB8.out).siteM HM.out (by rw [HSE.out];exact hkS))
       rw [HTE.out] at HSI
       have HTX:=hidp (fun key hkey=>HM.out.txt k (by rw [HSE.out];exact hkS) key hkey)
       rw [HTE.out] at HTX
       obtain ⟨v0,hv0⟩:∃ v,alV T 0=v:=⟨_,rfl⟩
       obtain ⟨v1,hv1⟩:∃ v,alV T 1=v:=⟨_,rfl⟩
       obtain ⟨v2,hv2⟩:∃ v,alV T 2=v:=⟨_,rfl⟩
       obtain ⟨v3,hv3⟩:∃ v,alV T 3=v:=⟨_,rfl⟩
       rw [hv0,hv1,hv2,hv3] at HTX
       rw [hv0] at HSI a0 HN8
       rw [hv1] at HSI a1 HN8
       rw [hv2] at HSI a2 HN8
       rw [hv3] at HSI a3 HN8
       have HV:=hidp (show alV T 0=v0∧alV T 1=v1∧alV T 2=v2∧alV T 3=v3 from ⟨hv0,hv1,hv2,hv3⟩)
       clear hv0 hv1 hv2 hv3
       go_wp2_with fail
       go_at_call 58
       refine HSI.out.mono ?_
       rintro e w9 ⟨At,ct,hl,rfl,hta,hb9⟩
       have HTA:=hidp hta
       have HB9:=hidp hb9
       have hn9:=(hb9.block ab (lt_blk HN8.out)).trans HN8.out
       have HN9:=hidp hn9
       clear a0 a1 a2 a3 c0 c1 HSI
       have a0:=cell_blk hn9 0;have a1:=cell_blk hn9 1;have a2:=cell_blk hn9 2;have a3:=cell_blk hn9 3
       simp only [zC,zD,zE] at a0 a1 a2 a3
       haveI:SzGe (ab+1) w9:=⟨lt_blk hn9⟩
       have HB10:=hidp (show Below w9.heap.size w9 (w9.alloc (.cells #[.int .i64 v0,.int .i64 v1,.int .i64 v2,.int .i64 v3] 32)) from zB)
       clear hta hb9 hn9
       go_wp2_with fail
       generalize (w9.alloc (.cells #[.int .i64 v0,.int .i64 v1,.int .i64 v2,.int .i64 v3] 32))=w10 at *
       have HBA:=hidp (HB8.out.trans ((HB9.out.trans (HB10.out.mono HB9.out.size)).mono HB8.out.size))
       clear a0 a1 a2 a3
       go_loopw [17] (fun i W=>∃ (q:Nat),q≤8∧i=.int .i64 q∧Below w10.heap.size w10 W) (fun i _=>8-(Go.RowKit.intOf i).toNat)
       case atStart=>exact ⟨0,Nat.zero_le _,rfl,Below.refl _ _⟩
       case round=>
        obtain ⟨q,hq,rfl,hbl⟩:=hrel
        obtain ⟨W11,rfl⟩:∃ W:World,W=wr:=⟨_,rfl⟩
        have HB11:=hidp hbl
        have hn11:=(hbl.block ab (by have:=lt_blk HN9.out;have:=HB10.out.size;omega)).trans ((HB10.out.block ab (lt_blk HN9.out)).trans HN9.out)
        have a0:=cell_blk hn11 0;have a1:=cell_blk hn11 1;have a2:=cell_blk hn11 2;have a3:=cell_blk hn11 3
        simp only [zC,zD,zE] at a0 a1 a2 a3
        haveI:SzGe (ab+1) W11:=⟨lt_blk hn11⟩
        clear hbl hn11
        by_cases hq8:q<8
        ·have hdq:decide ((q:Int)<8)=true:=decide_eq_true (by omega)
         have hq0:(0:Int)≤(q:Int):=by omega
         have hq9:(q:Int)<8:=by omega
         have HLA:=hidp ((H7.out.below (HBA.out.trans (HB11.out.mono HBA.out.size))).last (by omega) v0 v1 v2 v3 (q:Int))
         rw [HTE.out] at HLA
         have htx:=HTX.out q hq8
         have hsz:=HM.out.sz (q:Int)
         rw [HTE.out,HV.out.1,HV.out.2.1,HV.out.2.2.1,HV.out.2.2.2] at hsz
         obtain ⟨r,hr⟩:∃ r,lsOf (lastT T v0 v1 v2 v3 (q:Int))=r:=⟨_,rfl⟩
         rw [hr] at HLA htx hsz
         obtain ⟨rd,rb⟩:=r
         simp only at HLA htx hsz
         have hsz2:1+rd.size≤9223372036854775807:=by omega
         have HTX2:=hidp htx
         clear hr htx
         go_wp2_with fail
         go_at_call 59
         refine HLA.out.mono ?_
         rintro e w12 ⟨rfl,hb12⟩
         have HB12:=hidp hb12
         have hta:=HTA.out.below ((HB10.out.trans (HB11.out.mono HB10.out.size)).trans (hb12.mono (Nat.le_trans HB10.out.size HB11.out.size)))
         cases rb with
         | true=>
           obtain ⟨bt,ot,rfl,hbt,ht⟩:=hta q _ HTX2.out
           rw [if_pos rfl] at ht
           haveI:SzGe (bt+1) w12:=⟨hbt⟩
           clear hb12 hta HLA
           go_wp2_with fail
           go_roundw
           case rel=>exact ⟨q+1,by omega,by go_num,HB11.out.trans (HB12.out.mono HB11.out.size)⟩
           case measure=>simp [Go.RowKit.intOf];omega
         | false=>
           obtain ⟨bt,ot,rfl,hbt,ht⟩:=hta q _ HTX2.out
           rw [if_neg (by simp)] at ht
           haveI:SzGe (bt+1) w12:=⟨hbt⟩
           clear hb12 hta HLA
           go_wp2_with fail
           go_roundw
           case rel=>exact ⟨q+1,by omega,by go_num,HB11.out.trans (HB12.out.mono HB11.out.size)⟩
           case measure=>simp [Go.RowKit.intOf];omega
        ·have hdq:decide ((q:Int)<8)=false:=decide_eq_false (by omega)
         go_wp2_with fail
         go_roundw
         case rel=>exact ⟨k+1,by omega,by go_num,HBA.out.trans (HB11.out.mono HBA.out.size)⟩
         case measure=>simp [Go.RowKit.intOf];omega
      ·obtain rfl:k=S:=by omega
       have hdk:decide ((k:Int)<(k:Int))=false:=decide_eq_false (by omega)
       go_wp2_with fail
       go_ret
       exact ⟨rfl,HB1.out.trans ((H7.out.below HB8.out).low.mono HB1.out.size)⟩
end Go.Proofs.YtbopfhbeegkkaabGreatDoor
