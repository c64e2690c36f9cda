/- Part M5 of a proof: lemmas and contracts that other parts use. -/
import Derived.Test.YtbopfhbeegkkaabGreatDoorCaM3
import Derived.Test.YtbopfhbeegkkaabGreatDoorCa45
import Derived.Test.YtbopfhbeegkkaabGreatDoorCa21
set_option linter.unusedVariables false
set_option linter.unusedSimpArgs false
set_option linter.constructorNameAsVariable false
namespace Go.Proofs.YtbopfhbeegkkaabGreatDoor
open Go.RowKit
theorem rem8 (k:Nat) (h:k≤1000):∃ q:Nat,q<8∧wf64 (q:Int)∧((0:Int)≤(q:Int)∧(q:Int)<8)∧wrap64 ((k:Int).tmod 8)=(q:Int)∧(k:Int).tmod 8=(q:Int):=by
 have h1:(k:Int).tmod 8=((k % 8:Nat):Int):=rfl
 have h2:k % 8<8:=Nat.mod_lt _ (by omega)
 exact ⟨k % 8,h2,by unfold wf64;omega,by omega,by rw [h1];unfold wrap64;omega,h1⟩
theorem len_maps {l m:List MTx} {S T:List TxP} (h:l.map (·.t)=S) (h2:m.map (·.t)=T) (e:S=T):m.length=l.length:=by
 have e1:=congrArg List.length h
 have e2:=congrArg List.length h2
 rw [List.length_map] at e1 e2
 rw [e1,e2,e]
theorem KacsAt.cells {w W:World} {b o k:Nat} {A:Option Addr} {ls:List KacP} {x:KacP} (h:KacsAt w A ls) (hA:A=some ⟨b,o,none⟩) (hx:ls[k]?=some x) (hb:Below w.heap.size w W):b<W.heap.size∧W.cell? ⟨b,o+k*5,none⟩=some (.int .i64 x.what)∧W.cell? ⟨b,o+k*5+1,none⟩=some (.int .i64 x.k)∧W.cell? ⟨b,o+k*5+2,none⟩=some (.int .i64 x.n)∧W.cell? ⟨b,o+k*5+3,none⟩=some (.string x.data)∧W.cell? ⟨b,o+k*5+4,none⟩=some (.bool x.gone):=by
 obtain ⟨⟨b',o',e,h1,h2⟩,_⟩:=(h.below hb) k x hx
 rw [hA] at e
 simp only [Option.some.injEq,Addr.mk.injEq] at e
 obtain ⟨rfl,rfl,_⟩:=e
 exact ⟨h1,h2⟩
set_option maxRecDepth 200000 in
set_option maxHeartbeats 32000000 in
theorem worldSwept_any (A:Option Addr) (c:Nat) (ls:List KacP) (sites clients:Int) (w:World) (hg:EType w) (hps:KacsAt w A ls):
  Calls Tryz.prog 7 #[.int .i64 sites,.int .i64 clients,.slice A ls.length c] w fun e w'=>e=.returned (.bool true)∧Below w.heap.size w w':=by
 by_cases hbig:100<ls.length
 ·have hd:decide ((100:Int)<(ls.length:Int))=true:=decide_eq_true (by omega)
  clear hbig hg hps
  go_enter Tryz.func7,Tryz.ntmps7
  go_wp2_with fail
  go_ret
  exact ⟨rfl,Below.refl _ _⟩
 have hd:decide ((100:Int)<(ls.length:Int))=false:=decide_eq_false (by omega)
 have hle:ls.length≤100:=by omega
 have HG:=hidp hg
 have HPS:=hidp hps
 clear hbig hg hps
 go_enter Tryz.func7,Tryz.ntmps7
 go_wp2_with fail
 go_at_call 51
 refine (lived_any w).mono ?_
 rintro e w1 ⟨rfl,hb1⟩
 have HB1:=hidp hb1
 clear hb1
 go_wp2_with fail
 go_at_call 52
 refine (tells_any (Mem.nil w1 (fun _=>obNil)) sites clients).mono ?_
 rintro e w2 ⟨ta,rfl,O,u,q1,q2,_⟩
 have HNW:=hidp (T2St.new sites clients O ta u (by simpa using q1) q2)
 obtain ⟨S,hS⟩:∃ S,1+pickN sites 4=S:=⟨_,rfl⟩
 obtain ⟨C,hC⟩:∃ C,1+pickN clients 6=C:=⟨_,rfl⟩
 have hS4:S≤4:=by rw [←hS];have:=pickN_lt sites (n:=4) (by omega);omega
 have hC6:C≤6:=by rw [←hC];have:=pickN_lt clients (n:=6) (by omega);omega
 rw [hS,hC] at HNW
 generalize tlNew S C=s0 at *
 generalize u.g=ga at *
 clear q1 q2 hS hC
 go_wp2_with fail
 go_at_call 52
 refine HNW.out.mono ?_
 rintro e w3 ⟨tb,gb,rfl,h3⟩
 have H3:=hidp h3
 clear h3 HNW
 go_wp2_with fail
 go_loopw [9] (fun i W=>∃ (k:Nat) (s t:TlP),k≤ls.length∧i=.int .i64 k∧TlSw s t∧T2St w1 ta ga tb gb C S k k W s t) (fun i _=>ls.length-(Go.RowKit.intOf i).toNat)
 case atStart=>exact ⟨0,s0,s0,Nat.zero_le _,rfl,TlSw.refl _,H3.out⟩
 case round=>
  obtain ⟨k,s,t,hk,rfl,hsw,hS⟩:=hrel
  obtain ⟨W,rfl⟩:∃ W:World,W=wr:=⟨_,rfl⟩
  have HSW:=hidp hsw
  have HS:=hidp hS
  have HBW:=hidp (HB1.out.trans (hS.low.mono HB1.out.size))
  clear hS hsw
  by_cases hlt:k<ls.length
  ·obtain ⟨⟨b,o,rfl,hb,d0,d1,d2,d3,d4⟩,_,_,_,_⟩:=(HPS.out.below HBW.out) k ls[k] (List.getElem?_eq_getElem hlt)
   have HCX:=hidp (fun (X:World) (s' t':TlP) (i j:Nat) (hX:T2St w1 ta ga tb gb C S i j X s' t')=>HPS.out.cells rfl (List.getElem?_eq_getElem hlt) (HB1.out.trans (hX.low.mono HB1.out.size)))
   generalize ls[k]=x at *
   obtain ⟨xw,xk,xn,xd,xg⟩:=x
   simp only at d0 d1 d2 d3 d4 HCX
   haveI:SzGe (b+1) W:=⟨hb⟩
   by_cases hsz:50<xd.size
   ·have hd5:decide ((50:Int)<(xd.size:Int))=true:=decide_eq_true (by omega)
    clear hsz
    go_wp2_with fail
    go_roundw
    case rel=>exact ⟨k+1,s,t,by omega,by go_num,HSW.out,HS.out.more⟩
    case measure=>simp [Go.RowKit.intOf];omega
   ·have hd5:decide ((50:Int)<(xd.size:Int))=false:=decide_eq_false (by omega)
    have HDA:=hidp (fun X (hX:Below W.heap.size W X)=>T2St.doesA (HG.out.low HB1.out) (HS.out.below hX) (by omega) ⟨xw,xk,xn,xd,xg⟩)
    have HDB:=hidp (fun X s' (hX:T2St w1 ta ga tb gb C S (k+1) k X s' t)=>T2St.doesB (HG.out.low HB1.out) hX (by omega) ⟨xw,xk,xn,xd,xg⟩)
    have HST:=hidp (HSW.out.step ⟨xw,xk,xn,xd,xg⟩)
    unfold TaP.val at HDA HDB
    simp only at HDA HDB
    generalize tlDo s ⟨xw,xk,xn,xd,xg⟩ true=s3 at *
    generalize tlDo t ⟨xw,xk,xn,xd,xg⟩ false=t3 at *
    clear hsz
    go_upto_region 12 with fail
    go_cut [87] (fun z X=>z=.bool false∧T2St w1 ta ga tb gb C S (k+1) (k+1) X s3 t3)
    case first=>
     have HN:=hidp (show W.drew.cell? ⟨b,o+k*5,none⟩=some (.int .i64 xw)∧W.drew.cell? ⟨b,o+k*5+1,none⟩=some (.int .i64 xk)∧W.drew.cell? ⟨b,o+k*5+2,none⟩=some (.int .i64 xn)∧W.drew.cell? ⟨b,o+k*5+3,none⟩=some (.string xd)∧W.drew.cell? ⟨b,o+k*5+4,none⟩=some (.bool xg) from ⟨d0,d1,d2,d3,d4⟩)
     refine wp_region_held_drew (S:=(fun X:World=>X.cell? ⟨b,o+k*5,none⟩=some (.int .i64 xw)∧X.cell? ⟨b,o+k*5+1,none⟩=some (.int .i64 xk)∧X.cell? ⟨b,o+k*5+2,none⟩=some (.int .i64 xn)∧X.cell? ⟨b,o+k*5+3,none⟩=some (.string xd)∧X.cell? ⟨b,o+k*5+4,none⟩=some (.bool xg))) (by kernel_rfl) ?_ (fun hHeld=>?_)
     ·exact HN.out
     refine takeL 0 rfl (by as_aux_lemma=>kernel_rfl) (by as_aux_lemma=>kernel_rfl) (by as_aux_lemma=>kernel_rfl) (fun _ _ _ h=>h) hHeld (by rfl) (v:=?_) ?_ ?_
     rotate_left
     ·intro w hSw
      (try dsimp only at hSw)
      go_simp
      all_goals (with_reducible rfl)
     try simp only [Act.put,zF,zG,zH]
     refine takeL 1 rfl (by as_aux_lemma=>kernel_rfl) (by as_aux_lemma=>kernel_rfl) (by as_aux_lemma=>kernel_rfl) (fun _ _ _ h=>h) hHeld (by rfl) (v:=?_) ?_ ?_
     rotate_left
     ·intro w hSw
      (try dsimp only at hSw)
      go_simp
      all_goals (with_reducible rfl)
     try simp only [Act.put,zF,zG,zH]
     refine takeL 2 rfl (by as_aux_lemma=>kernel_rfl) (by as_aux_lemma=>kernel_rfl) (by as_aux_lemma=>kernel_rfl) (fun _ _ _ h=>h) hHeld (by rfl) (v:=?_) ?_ ?_
     rotate_left
     ·intro w hSw
      (try dsimp only at hSw)
      go_simp
      all_goals (with_reducible rfl)
     try simp only [Act.put,zF,zG,zH]
     refine takeL 3 rfl (by as_aux_lemma=>kernel_rfl) (by as_aux_lemma=>kernel_rfl) (by as_aux_lemma=>kernel_rfl) (fun _ _ _ h=>h) hHeld (by rfl) (v:=?_) ?_ ?_
     rotate_left
     ·intro w hSw
      (try dsimp only at hSw)
      go_simp
      all_goals (with_reducible rfl)
     try simp only [Act.put,zF,zG,zH]
     refine takeL 4 rfl (by as_aux_lemma=>kernel_rfl) (by as_aux_lemma=>kernel_rfl) (by as_aux_lemma=>kernel_rfl) (fun _ _ _ h=>h) hHeld (by rfl) (v:=?_) ?_ ?_
     rotate_left
     ·intro w hSw
      (try dsimp only at hSw)
      go_simp
      all_goals (with_reducible rfl)
     try simp only [Act.put,zF,zG,zH]
     refine wpAnyH_ready (rs:=[5]) (by as_aux_lemma=>kernel_rfl) (by simp) ?_
     refine consL rfl (fun K hK=>?_) ?_
     ·go_simp
      go_at_call 53
      refine (HDA.out _ (by repeat (first | exact Below.refl _ _ | refine blw_alloc ?_ | refine blw_plus ?_ | refine Below.drew ?_))).mono ?_
      rintro e w5 ⟨rfl,h5⟩
      have H5:=hidp h5
      obtain ⟨hb5,k0,k1,k2,k3,k4⟩:=HCX.out _ _ _ _ _ h5
      haveI:SzGe (b+1) w5:=⟨hb5⟩
      have HN:=hidp (show w5.cell? ⟨b,o+k*5,none⟩=some (.int .i64 xw)∧w5.cell? ⟨b,o+k*5+1,none⟩=some (.int .i64 xk)∧w5.cell? ⟨b,o+k*5+2,none⟩=some (.int .i64 xn)∧w5.cell? ⟨b,o+k*5+3,none⟩=some (.string xd)∧w5.cell? ⟨b,o+k*5+4,none⟩=some (.bool xg) from ⟨k0,k1,k2,k3,k4⟩)
      clear h5 hb5
      go_wp2_with fail
      refine hK.out _ _ ?_ (fun hNew=>?_)
      ·exact HN.out
      clear hHeld
      have hHeld:=hNew
      clear hNew hK K
      try simp only [Act.put,zF,zG,zH]
      refine takeL 6 rfl (by as_aux_lemma=>kernel_rfl) (by as_aux_lemma=>kernel_rfl) (by as_aux_lemma=>kernel_rfl) (fun _ _ _ h=>h) hHeld (by rfl) (v:=?_) ?_ ?_
      rotate_left
      ·intro w hSw
       (try dsimp only at hSw)
       go_simp
       all_goals (with_reducible rfl)
      try simp only [Act.put,zF,zG,zH]
      refine takeL 7 rfl (by as_aux_lemma=>kernel_rfl) (by as_aux_lemma=>kernel_rfl) (by as_aux_lemma=>kernel_rfl) (fun _ _ _ h=>h) hHeld (by rfl) (v:=?_) ?_ ?_
      rotate_left
      ·intro w hSw
       (try dsimp only at hSw)
       go_simp
       all_goals (with_reducible rfl)
      try simp only [Act.put,zF,zG,zH]
      refine takeL 8 rfl (by as_aux_lemma=>kernel_rfl) (by as_aux_lemma=>kernel_rfl) (by as_aux_lemma=>kernel_rfl) (fun _ _ _ h=>h) hHeld (by rfl) (v:=?_) ?_ ?_
      rotate_left
      ·intro w hSw
       (try dsimp only at hSw)
       go_simp
       all_goals (with_reducible rfl)
      try simp only [Act.put,zF,zG,zH]
      refine takeL 9 rfl (by as_aux_lemma=>kernel_rfl) (by as_aux_lemma=>kernel_rfl) (by as_aux_lemma=>kernel_rfl) (fun _ _ _ h=>h) hHeld (by rfl) (v:=?_) ?_ ?_
      rotate_left
      ·intro w hSw
       (try dsimp only at hSw)
       go_simp
       all_goals (with_reducible rfl)
      try simp only [Act.put,zF,zG,zH]
      refine takeL 10 rfl (by as_aux_lemma=>kernel_rfl) (by as_aux_lemma=>kernel_rfl) (by as_aux_lemma=>kernel_rfl) (fun _ _ _ h=>h) hHeld (by rfl) (v:=?_) ?_ ?_
      rotate_left
      ·intro w hSw
       (try dsimp only at hSw)
       go_simp
       all_goals (with_reducible rfl)
      try simp only [Act.put,zF,zG,zH]
      refine takeL 11 rfl (by as_aux_lemma=>kernel_rfl) (by as_aux_lemma=>kernel_rfl) (by as_aux_lemma=>kernel_rfl) (fun _ _ _ h=>h) hHeld (by rfl) (v:=?_) ?_ ?_
      rotate_left
      ·intro w hSw
       (try dsimp only at hSw)
       go_simp
       all_goals (with_reducible rfl)
      try simp only [Act.put,zF,zG,zH]
      refine takeL 12 rfl (by as_aux_lemma=>kernel_rfl) (by as_aux_lemma=>kernel_rfl) (by as_aux_lemma=>kernel_rfl) (fun _ _ _ h=>h) hHeld (by rfl) (v:=?_) ?_ ?_
      rotate_left
      ·intro w hSw
       (try dsimp only at hSw)
       go_simp
       all_goals (with_reducible rfl)
      try simp only [Act.put,zF,zG,zH]
      refine wpAnyH_ready (rs:=[13]) (by as_aux_lemma=>kernel_rfl) (by simp) ?_
      refine consL rfl (fun K hK=>?_) ?_
      ·go_simp
       go_at_call 53
       refine (HDB.out _ _ (H5.out.below (by repeat (first | exact Below.refl _ _ | refine blw_alloc ?_ | refine blw_plus ?_ | refine Below.drew ?_)))).mono ?_
       rintro e w6 ⟨rfl,h6⟩
       have H6:=hidp h6
       obtain ⟨hb6,l0,l1,l2,l3,l4⟩:=HCX.out _ _ _ _ _ h6
       haveI:SzGe (b+1) w6:=⟨hb6⟩
       have HN:=hidp (show w6.cell? ⟨b,o+k*5,none⟩=some (.int .i64 xw)∧w6.cell? ⟨b,o+k*5+1,none⟩=some (.int .i64 xk)∧w6.cell? ⟨b,o+k*5+2,none⟩=some (.int .i64 xn)∧w6.cell? ⟨b,o+k*5+3,none⟩=some (.string xd)∧w6.cell? ⟨b,o+k*5+4,none⟩=some (.bool xg) from ⟨l0,l1,l2,l3,l4⟩)
       obtain ⟨ts,Al,cl,vO,g1,_,g3,_⟩:=h6.txsA
       obtain ⟨ts2,Al2,cl2,vO2,r1,_,r3,_⟩:=h6.txsB
       have hl:=len_maps g3 r3 HST.out.T
       haveI:SzGe (ta+1) w6:=⟨lt_blk g1⟩
       haveI:SzGe (tb+1) w6:=⟨lt_blk r1⟩
       have g1:=cell_blk g1 3
       have r1:=cell_blk r1 3
       simp only [zC,zD,zE] at g1 r1
       rw [hl] at r1
       clear h6 hb6 g3 r3 hl
       go_wp2_with fail
       refine hK.out _ _ ?_ (fun hNew=>?_)
       ·exact HN.out
       clear hHeld
       have hHeld:=hNew
       clear hNew hK K
       try simp only [Act.put,zF,zG,zH]
       refine takeL 14 rfl (by as_aux_lemma=>kernel_rfl) (by as_aux_lemma=>kernel_rfl) (by as_aux_lemma=>kernel_rfl) (fun _ _ _ h=>h) hHeld (by rfl) (v:=?_) ?_ ?_
       rotate_left
       ·intro w hSw
        (try dsimp only at hSw)
        go_simp
        all_goals (with_reducible rfl)
       try simp only [Act.put,zF,zG,zH]
       refine takeL 15 rfl (by as_aux_lemma=>kernel_rfl) (by as_aux_lemma=>kernel_rfl) (by as_aux_lemma=>kernel_rfl) (fun _ _ _ h=>h) hHeld (by rfl) (v:=?_) ?_ ?_
       rotate_left
       ·intro w hSw
        (try dsimp only at hSw)
        go_simp
        all_goals (with_reducible rfl)
       try simp only [Act.put,zF,zG,zH]
       refine takeL 16 rfl (by as_aux_lemma=>kernel_rfl) (by as_aux_lemma=>kernel_rfl) (by as_aux_lemma=>kernel_rfl) (fun _ _ _ h=>h) hHeld (by rfl) (v:=?_) ?_ ?_
       rotate_left
       ·intro w hSw
        (try dsimp only at hSw)
        go_simp
        all_goals (with_reducible rfl)
       try simp only [Act.put,zF,zG,zH]
       refine takeL 17 rfl (by as_aux_lemma=>kernel_rfl) (by as_aux_lemma=>kernel_rfl) (by as_aux_lemma=>kernel_rfl) (fun _ _ _ h=>h) hHeld (by rfl) (v:=?_) ?_ ?_
       rotate_left
       ·intro w hSw
        (try dsimp only at hSw)
        go_simp
        all_goals (with_reducible rfl)
       try simp only [Act.put,zF,zG,zH]
       refine takeL 18 rfl (by as_aux_lemma=>kernel_rfl) (by as_aux_lemma=>kernel_rfl) (by as_aux_lemma=>kernel_rfl) (fun _ _ _ h=>h) hHeld (by rfl) (v:=?_) ?_ ?_
       rotate_left
       ·intro w hSw
        (try dsimp only at hSw)
        go_simp
        all_goals (with_reducible rfl)
       try simp only [Act.put,zF,zG,zH]
       refine takeL 19 rfl (by as_aux_lemma=>kernel_rfl) (by as_aux_lemma=>kernel_rfl) (by as_aux_lemma=>kernel_rfl) (fun _ _ _ h=>h) hHeld (by rfl) (v:=?_) ?_ ?_
       rotate_left
       ·intro w hSw
        (try dsimp only at hSw)
        go_simp
        all_goals (with_reducible rfl)
       try simp only [Act.put,zF,zG,zH]
       refine takeL 22 rfl (by as_aux_lemma=>kernel_rfl) (by as_aux_lemma=>kernel_rfl) (by as_aux_lemma=>kernel_rfl) (fun _ _ _ h=>h) hHeld (by rfl) (v:=?_) ?_ ?_
       rotate_left
       ·intro w hSw
        (try dsimp only at hSw)
        go_simp
        all_goals (with_reducible rfl)
       try simp only [Act.put,zF,zG,zH]
       refine takeL 23 rfl (by as_aux_lemma=>kernel_rfl) (by as_aux_lemma=>kernel_rfl) (by as_aux_lemma=>kernel_rfl) (fun _ _ _ h=>h) hHeld (by rfl) (v:=?_) ?_ ?_
       rotate_left
       ·intro w hSw
        (try dsimp only at hSw)
        go_simp
        all_goals (with_reducible rfl)
       try simp only [Act.put,zF,zG,zH]
       refine takeL 24 rfl (by as_aux_lemma=>kernel_rfl) (by as_aux_lemma=>kernel_rfl) (by as_aux_lemma=>kernel_rfl) (fun _ _ _ h=>h) hHeld (by rfl) (v:=?_) ?_ ?_
       rotate_left
       ·intro w hSw
        (try dsimp only at hSw)
        go_simp
        all_goals (with_reducible rfl)
       try simp only [Act.put,zF,zG,zH]
       refine wpAnyH_ready (rs:=[20,25]) (by as_aux_lemma=>kernel_rfl) (by simp) ?_
       refine consL rfl (fun K hK=>?_) ?_
       ·go_simp
        refine hK.out _ _ ?_ (fun hNew=>?_)
        ·exact HN.out
        clear hHeld
        have hHeld:=hNew
        clear hNew hK K
        try simp only [Act.put,zF,zG,zH]
        refine takeL 21 rfl (by as_aux_lemma=>kernel_rfl) (by as_aux_lemma=>kernel_rfl) (by as_aux_lemma=>kernel_rfl) (fun _ _ _ h=>h) hHeld (by rfl) (v:=?_) ?_ ?_
        rotate_left
        ·intro w hSw
         (try dsimp only at hSw)
         go_simp
         all_goals (with_reducible rfl)
        try simp only [Act.put,zF,zG,zH]
        refine wpAnyH_ready (rs:=[25]) (by as_aux_lemma=>kernel_rfl) (by simp) ?_
        refine consL rfl (fun K hK=>?_) ?_
        ·go_simp
         refine hK.out _ _ ?_ (fun hNew=>?_)
         ·exact HN.out
         clear hHeld
         have hHeld:=hNew
         clear hNew hK K
         try simp only [Act.put,zF,zG,zH]
         refine takeL 26 rfl (by as_aux_lemma=>kernel_rfl) (by as_aux_lemma=>kernel_rfl) (by as_aux_lemma=>kernel_rfl) (fun _ _ _ h=>h) hHeld (by rfl) (v:=?_) ?_ ?_
         rotate_left
         ·intro w hSw
          (try dsimp only at hSw)
          go_simp
          all_goals (with_reducible rfl)
         try simp only [Act.put,zF,zG,zH]
         refine takeL 27 rfl (by as_aux_lemma=>kernel_rfl) (by as_aux_lemma=>kernel_rfl) (by as_aux_lemma=>kernel_rfl) (fun _ _ _ h=>h) hHeld (by rfl) (v:=?_) ?_ ?_
         rotate_left
         ·intro w hSw
          (try dsimp only at hSw)
          go_simp
          all_goals (with_reducible rfl)
         try simp only [Act.put,zF,zG,zH]
         refine takeL 28 rfl (by as_aux_lemma=>kernel_rfl) (by as_aux_lemma=>kernel_rfl) (by as_aux_lemma=>kernel_rfl) (fun _ _ _ h=>h) hHeld (by rfl) (v:=?_) ?_ ?_
         rotate_left
         ·intro w hSw
          (try dsimp only at hSw)
          go_simp
          all_goals (with_reducible rfl)
         try simp only [Act.put,zF,zG,zH]
         refine wpAnyH_done (by as_aux_lemma=>kernel_rfl) ?_ _
         go_wp2_with fail
         go_meet
         exact ⟨rfl,H6.out.below (by repeat (first | exact Below.refl _ _ | refine blw_alloc ?_ | refine blw_plus ?_ | refine Below.drew ?_))⟩
        exact AllReadyH.nil
       refine consL rfl (fun K hK=>?_) ?_
       ·go_simp
        refine hK.out _ _ ?_ (fun hNew=>?_)
        ·exact HN.out
        clear hHeld
        have hHeld:=hNew
        clear hNew hK K
        try simp only [Act.put,zF,zG,zH]
        refine takeL 26 rfl (by as_aux_lemma=>kernel_rfl) (by as_aux_lemma=>kernel_rfl) (by as_aux_lemma=>kernel_rfl) (fun _ _ _ h=>h) hHeld (by rfl) (v:=?_) ?_ ?_
        rotate_left
        ·intro w hSw
         (try dsimp only at hSw)
         go_simp
         all_goals (with_reducible rfl)
        try simp only [Act.put,zF,zG,zH]
        refine wpAnyH_ready (rs:=[20]) (by as_aux_lemma=>kernel_rfl) (by simp) ?_
        refine consL rfl (fun K hK=>?_) ?_
        ·go_simp
         refine hK.out _ _ ?_ (fun hNew=>?_)
         ·exact HN.out
         clear hHeld
         have hHeld:=hNew
         clear hNew hK K
         try simp only [Act.put,zF,zG,zH]
         refine takeL 21 rfl (by as_aux_lemma=>kernel_rfl) (by as_aux_lemma=>kernel_rfl) (by as_aux_lemma=>kernel_rfl) (fun _ _ _ h=>h) hHeld (by rfl) (v:=?_) ?_ ?_
         rotate_left
         ·intro w hSw
          (try dsimp only at hSw)
          go_simp
          all_goals (with_reducible rfl)
         try simp only [Act.put,zF,zG,zH]
         refine takeL 27 rfl (by as_aux_lemma=>kernel_rfl) (by as_aux_lemma=>kernel_rfl) (by as_aux_lemma=>kernel_rfl) (fun _ _ _ h=>h) hHeld (by rfl) (v:=?_) ?_ ?_
         rotate_left
         ·intro w hSw
          (try dsimp only at hSw)
          go_simp
          all_goals (with_reducible rfl)
         try simp only [Act.put,zF,zG,zH]
         refine takeL 28 rfl (by as_aux_lemma=>kernel_rfl) (by as_aux_lemma=>kernel_rfl) (by as_aux_lemma=>kernel_rfl) (fun _ _ _ h=>h) hHeld (by rfl) (v:=?_) ?_ ?_
         rotate_left
         ·intro w hSw
          (try dsimp only at hSw)
          go_simp
          all_goals (with_reducible rfl)
         try simp only [Act.put,zF,zG,zH]
         refine wpAnyH_done (by as_aux_lemma=>kernel_rfl) ?_ _
         go_wp2_with fail
         go_meet
         exact ⟨rfl,H6.out.below (by repeat (first | exact Below.refl _ _ | refine blw_alloc ?_ | refine blw_plus ?_ | refine Below.drew ?_))⟩
        exact AllReadyH.nil
       exact AllReadyH.nil
      exact AllReadyH.nil
     exact AllReadyH.nil
    obtain ⟨w6,rfl⟩:∃ X:World,X=wc:=⟨_,rfl⟩
    obtain ⟨rfl,h6⟩:=hcut
    have H6:=hidp h6
    clear h6 d0 d1 d2 d3 d4
    go_wp2_with fail
    go_loopw [10] (fun i X=>∃ (j:Nat),j≤C∧i=.int .i64 j∧T2St w1 ta ga tb gb C S (k+1) (k+1) X s3 t3) (fun i _=>C-(Go.RowKit.intOf i).toNat)
    case atStart=>exact ⟨0,Nat.zero_le _,rfl,H6.out⟩
    case round=>
     obtain ⟨j,hj,rfl,hS⟩:=hrel
     obtain ⟨W4,rfl⟩:∃ W:World,W=wr:=⟨_,rfl⟩
     have H7:=hidp hS
     obtain ⟨ts,Al,cl,vO,g1,_⟩:=hS.txsA
     obtain ⟨ts2,Al2,cl2,vO2,r1,_⟩:=hS.txsB
     haveI:SzGe (ta+1) W4:=⟨lt_blk g1⟩
     haveI:SzGe (tb+1) W4:=⟨lt_blk r1⟩
     have g0:=cell_blk g1 0;have g2:=cell_blk g1 2;have r0:=cell_blk r1 0
     simp only [zC,zD,zE] at g0 g2 r0
     clear hS g1 r1
     by_cases hjC:j<C
     ·as_aux_lemma=>
      have hdj:decide ((j:Int)<(C:Int))=true:=decide_eq_true (by omega)
      have HQ:=hidp (rem8 k (by omega))
      obtain ⟨q,hq8,hwf,hq02,hq12⟩:=HQ.out
      have HQ12:=hidp hq12
      clear hq12 HQ
      have HRA:=hidp (H7.out.readA hjC (q:Int) hwf)
      have HRB:=hidp (fun X (hX:T2St w1 ta ga tb gb C S (k+1) (k+1) X s3 t3)=>hX.readB hjC (q:Int) hwf)
      have hre:=H7.out.readE HST.out hjC (key:=(q:Int)) hq02
      rw [←hre] at HRB
      obtain ⟨r,hr⟩:∃ r,awRead s3.A j (q:Int)=r:=⟨_,rfl⟩
      rw [hr] at HRA HRB
      obtain ⟨rd,re⟩:=r
      simp only at HRA HRB
      clear hr hre hwf hq02
      obtain ⟨hq1,hq2⟩:=HQ12.out
      go_wp2_with fail
      clear hq1 hq2
      go_at_call 60
      refine HRA.out.mono ?_
      rintro e w8 ⟨rfl,h8⟩
      have H8:=hidp h8
      obtain ⟨ts,Al,cl,vO,r1,_⟩:=h8.txsB
      haveI:SzGe (tb+1) w8:=⟨lt_blk r1⟩
      clear r0
      have r0:=cell_blk r1 0
      simp only [zC,zD,zE] at r0
      clear h8 r1 HRA
      go_wp2_with fail
      go_at_call 60
      refine (HRB.out _ H8.out).mono ?_
      rintro e w9 ⟨rfl,h9⟩
      have H9:=hidp h9
      have HGE:=hidp (HG.out.low (HB1.out.trans (h9.low.mono HB1.out.size)))
      clear h9 HRB g0 g2 r0
      go_wp2_with fail
      go_at_call 61
      refine (tell_any re _ HGE.out).mono ?_
      rintro e wa ⟨rfl,hba⟩
      have HBA:=hidp hba
      clear hba
      go_wp2_with fail
      go_at_call 61
      refine (tell_any re _ (HGE.out.low HBA.out)).mono ?_
      rintro e wb ⟨rfl,hbb⟩
      have HBB:=hidp hbb
      clear hbb
      go_wp2_with fail
      go_roundw
      case rel=>exact ⟨j+1,by omega,by go_num,(H9.out.below HBA.out).below HBB.out⟩
      case measure=>simp [Go.RowKit.intOf];omega
     ·obtain rfl:j=C:=by omega
      have hdj:decide ((j:Int)<(j:Int))=false:=decide_eq_false (by omega)
      go_wp2_with fail
      go_roundw
      case rel=>exact ⟨k+1,s3,t3,by omega,by go_num,HST.out,H7.out⟩
      case measure=>simp [Go.RowKit.intOf];omega
  ·obtain rfl:k=ls.length:=by omega
   as_aux_lemma=>
   obtain ⟨ts,Al,cl,vO,hbA,hxA,htA,hwA⟩:=HS.out.txsA
   obtain ⟨ts2,Al2,cl2,vO2,hbB,hxB,htB,hwB⟩:=HS.out.txsB
   have hl:ts2.length=ts.length:=by
    have e1:=congrArg List.length htA
    have e2:=congrArg List.length htB
    rw [List.length_map] at e1 e2
    rw [e1,e2,HSW.out.T]
   rw [hl] at hbB
   have HL:=hidp hl
   have hlen:ts.length≤100:=by have e1:=congrArg List.length htA;rw [List.length_map] at e1;have:=HS.out.len;omega
   have HKA:=hidp hbA
   have HKB:=hidp hbB
   have HXA:=hidp hxA
   have HXB:=hidp hxB
   have HTT:=hidp (htA.trans (HSW.out.T.trans htB.symm))
   have HWA:=hidp hwA
   have HWB:=hidp hwB
   clear hl hbA hbB hxA hxB htA htB hwA hwB
   go_wp2_with fail
   go_loopw [16] (fun i X=>∃ (q:Nat),q≤ts.length∧i=.int .i64 q∧Below W.heap.size W X) (fun i _=>ts.length-(Go.RowKit.intOf i).toNat)
   case atStart=>exact ⟨0,Nat.zero_le _,rfl,Below.refl _ _⟩
   case round=>
    obtain ⟨q,hq,rfl,hbl⟩:=hrel
    obtain ⟨W7,rfl⟩:∃ W:World,W=wr:=⟨_,rfl⟩
    have HB7:=hidp hbl
    have ga1:=(hbl.block ta (lt_blk HKA.out)).trans HKA.out
    have gb1:=(hbl.block tb (lt_blk HKB.out)).trans HKB.out
    haveI:SzGe (ta+1) W7:=⟨lt_blk ga1⟩
    haveI:SzGe (tb+1) W7:=⟨lt_blk gb1⟩
    have g3:=cell_blk ga1 3;have r3:=cell_blk gb1 3;have g1:=cell_blk ga1 1
    simp only [zC,zD,zE] at g3 r3 g1
    clear hbl ga1 gb1
    by_cases hql:q<ts.length
    ·as_aux_lemma=>
     have hdq:decide ((q:Int)<(ts.length:Int))=true:=decide_eq_true (by omega)
     have hql2:q<ts2.length:=by rw [HL.out];exact hql
     obtain ⟨b,o,rfl,hb,d0,d1,d2,d3,d4,d5,d6,d7,d8⟩:=(HXA.out.below HB7.out) q ts[q] (List.getElem?_eq_getElem hql)
     obtain ⟨b',o',rfl,hb',e0,e1,e2,e3,e4,e5,e6,e7,e8⟩:=(HXB.out.below HB7.out) q ts2[q] (List.getElem?_eq_getElem hql2)
     have HT:Hid (ts[q].t=ts2[q].t):=hidp (by have:=congrArg (·[q]?) HTT.out;simpa [List.getElem?_eq_getElem hql,List.getElem?_eq_getElem hql2] using this)
     have HQ1:=hidp (HWA.out ts[q] (List.getElem_mem hql))
     have HQ2:=hidp (HWB.out ts2[q] (List.getElem_mem hql2))
     generalize ts[q]=m at *
     generalize ts2[q]=m' at *
     clear hql2
     obtain ⟨t9,mA,mc⟩:=m
     obtain ⟨t9',mA',mc'⟩:=m'
     obtain rfl:t9=t9':=HT.out
     obtain ⟨msite,mseq,mwall,mcount,md0,md1,md2,md3,mws⟩:=t9
     simp only at d0 d1 d2 d3 d4 d5 d6 d7 d8 e0 e1 e2 e3 e4 e5 e6 e7 e8
     haveI:SzGe (b+1) W7:=⟨hb⟩
     haveI:SzGe (b'+1) W7:=⟨hb'⟩
     have HSM:=hidp (fun X (hX:Below W7.heap.size W7 X)=>same_eq msite mseq mwall mcount md0 md1 md2 md3 mws mA mA' mc mc' X HQ1.out.2 ((HQ1.out.1.below HB7.out).below hX) ((HQ2.out.below HB7.out).below hX))
     go_wp2_with fail
     refine wp_region_plus (by kernel_rfl) (by kernel_rfl) ?_
     repeat (first | go_big_quiet_skip | (go_big_quiet_want;go_big_quiet_op;first | go_big_quiet_on | (apply Exists.intro;refine ⟨fun _=>?_,?_⟩;(go_at_call 16;exact Calls.plus_of (HSM.out _ (by repeat (first | exact Below.refl _ _ | refine blw_alloc ?_ | refine blw_plus ?_ | refine Below.drew ?_))));go_big_quiet_on)))
     refine wpQuiet_nil ?_
     rintro _ ⟨x3,rfl⟩
     go_wp2_with fail
     go_roundw
     case rel=>exact ⟨q+1,by omega,by go_num,HB7.out.trans (show Below W.heap.size W7 (wplus W7 x3) from (below_wplus W7 x3).mono HB7.out.size)⟩
     case measure=>simp [Go.RowKit.intOf];omega
    ·obtain rfl:q=ts.length:=by omega
     have hdq2:decide (ts.length<ts.length)=false:=decide_eq_false (by omega)
     go_wp2_with fail
     clear g3 r3 g1
     go_loopw [17] (fun i X=>∃ (k:Nat),k≤S∧i=.int .i64 k∧Below W.heap.size W X) (fun i _=>S-(Go.RowKit.intOf i).toNat)
     case atStart=>exact ⟨0,Nat.zero_le _,rfl,HB7.out⟩
     case round=>
      obtain ⟨k,hk,rfl,hbl⟩:=hrel
      obtain ⟨W8,rfl⟩:∃ W:World,W=wr:=⟨_,rfl⟩
      have HB8:=hidp hbl
      have ga1:=(hbl.block ta (lt_blk HKA.out)).trans HKA.out
      haveI:SzGe (ta+1) W8:=⟨lt_blk ga1⟩
      have g0:=cell_blk ga1 0;have g1:=cell_blk ga1 1
      simp only [zC,zD,zE] at g0 g1
      clear hbl ga1
      by_cases hkS:k<S
      ·as_aux_lemma=>
       have hdk:decide ((k:Int)<(S:Int))=true:=decide_eq_true (by omega)
       have HSA:=hidp ((HS.out.below HB8.out).siteA hkS)
       have HSB:=hidp (fun X (hX:Below W.heap.size W X)=>(HS.out.below hX).siteB hkS)
       have he:=HSW.out.A.si k
       obtain ⟨htold,hhl⟩:=HS.out.toldE HSW.out hkS
       rw [←he.p0,←he.p1,←he.p2,←he.p3,←he.ws,←htold] at HSB
       obtain ⟨L,hL⟩:∃ L,aTold (s.A.si k)=L:=⟨_,rfl⟩
       rw [hL] at HSA HSB
       have HLL:=hidp (show L.length=8 from by rw [←hL];exact toldT_len _ _)
       generalize (s.A.si k).held.length=ha at *
       generalize (t.A.si k).held.length=hb at *
       generalize (s.A.si k).ws.length=wl at *
       generalize (s.A.si k).p0=v0 at *
       generalize (s.A.si k).p1=v1 at *
       generalize (s.A.si k).p2=v2 at *
       generalize (s.A.si k).p3=v3 at *
       have hdh:decide ((hb:Int)<(ha:Int))=false:=decide_eq_false (by omega)
       have hdh2:decide (hb<ha)=false:=decide_eq_false (by omega)
       clear he htold hL hhl
       go_wp2_with fail
       go_at_call 58
       refine HSA.out.mono ?_
       rintro e w8 ⟨At,ct,rfl,hta,h8⟩
       have HTA:=hidp hta
       have H8:=hidp (HB8.out.trans (h8.mono HB8.out.size))
       have HB9:=hidp (show Below w8.heap.size w8 (w8.alloc (.cells #[.int .i64 v0,.int .i64 v1,.int .i64 v2,.int .i64 v3] 32)) from zB)
       have HN9:=hidp (show (w8.alloc (.cells #[.int .i64 v0,.int .i64 v1,.int .i64 v2,.int .i64 v3] 32)).heap[w8.heap.size]?=some (.cells #[.int .i64 v0,.int .i64 v1,.int .i64 v2,.int .i64 v3] 32) from blk_new rfl _)
       clear hta h8 HSA g0 g1
       have gb1:=((HB9.out.mono H8.out.size |> H8.out.trans).block tb (lt_blk HKB.out)).trans HKB.out
       haveI:SzGe (tb+1) (w8.alloc (.cells #[.int .i64 v0,.int .i64 v1,.int .i64 v2,.int .i64 v3] 32)):=⟨lt_blk gb1⟩
       have r0:=cell_blk gb1 0
       simp only [zC,zD,zE] at r0
       clear gb1
       go_upto_region 31 with fail
       obtain ⟨pa,hpa⟩:∃ pa,w8.heap.size=pa:=⟨_,rfl⟩
       rw [hpa] at HN9
       have HPA:=hidp hpa
       generalize (w8.alloc (.cells #[.int .i64 v0,.int .i64 v1,.int .i64 v2,.int .i64 v3] 32))=w9 at *
       rw [hpa]
       clear hpa
       have H9:=hidp (H8.out.trans (HB9.out.mono H8.out.size))
       go_wp2_with fail
       go_at_call 58
       refine (HSB.out _ H9.out).mono ?_
       rintro e w10 ⟨Bt,cb,rfl,htb,h10⟩
       have HTB:=hidp htb
       have HTA2:=hidp (HTA.out.below (HB9.out.trans (h10.mono HB9.out.size)))
       have H10:=hidp (H9.out.trans (h10.mono H9.out.size))
       have hp:=(h10.block pa (lt_blk HN9.out)).trans HN9.out
       have p0:=cell_blk hp 0;have p1:=cell_blk hp 1;have p2:=cell_blk hp 2;have p3:=cell_blk hp 3
       simp only [zC,zD,zE] at p0 p1 p2 p3
       haveI:SzGe (pa+1) w10:=⟨lt_blk hp⟩
       have HB11:=hidp (show Below w10.heap.size w10 (w10.alloc (.cells #[.int .i64 v0,.int .i64 v1,.int .i64 v2,.int .i64 v3] 32)) from zB)
       clear htb h10 hp HSB r0
       go_wp2_with fail
       generalize (w10.alloc (.cells #[.int .i64 v0,.int .i64 v1,.int .i64 v2,.int .i64 v3] 32))=w11 at *
       have H11:=hidp (H10.out.trans (HB11.out.mono H10.out.size))
       clear p0 p1 p2 p3
       go_loopw [28] (fun i X=>∃ (q:Nat),q≤8∧i=.int .i64 q∧Below w11.heap.size w11 X) (fun i _=>8-(Go.RowKit.intOf i).toNat)
       case atStart=>exact ⟨0,Nat.zero_le _,rfl,Below.refl _ _⟩
       case round=>
        obtain ⟨q,hq,rfl,hbl⟩:=hrel
        obtain ⟨W12,rfl⟩:∃ W:World,W=wr:=⟨_,rfl⟩
        have HB12:=hidp hbl
        by_cases hq8:q<8
        ·as_aux_lemma=>
         have hdq:decide ((q:Int)<8)=true:=decide_eq_true (by omega)
         have hq0:(0:Int)≤(q:Int):=by omega
         have hq9:(q:Int)<8:=by omega
         have hqL:q<L.length:=by rw [HLL.out];exact hq8
         obtain ⟨b2,o2,rfl,hb2,f2⟩:=(HTA2.out.below (HB11.out.trans (hbl.mono HB11.out.size))) q L[q] (List.getElem?_eq_getElem hqL)
         obtain ⟨b3,o3,rfl,hb3,f3⟩:=(HTB.out.below (HB11.out.trans (hbl.mono HB11.out.size))) q L[q] (List.getElem?_eq_getElem hqL)
         generalize L[q]=x at *
         haveI:SzGe (b2+1) W12:=⟨hb2⟩
         haveI:SzGe (b3+1) W12:=⟨hb3⟩
         clear hbl hqL
         go_wp2_with fail
         refine wp_region_plus (by kernel_rfl) (by kernel_rfl) ?_
         repeat (first | go_big_quiet_skip | (go_big_quiet_want;go_big_quiet_op;first | go_big_quiet_on))
         refine wpQuiet_nil ?_
         rintro _ ⟨x3,rfl⟩
         go_wp2_with fail
         go_roundw
         case rel=>exact ⟨q+1,by omega,by go_num,HB12.out.trans (Below.mono (below_wplus W12 x3) HB12.out.size)⟩
         case measure=>simp [Go.RowKit.intOf];omega
        ·have hdq:decide ((q:Int)<8)=false:=decide_eq_false (by omega)
         go_wp2_with fail
         go_roundw
         case rel=>exact ⟨k+1,by omega,by go_num,H11.out.trans (HB12.out.mono H11.out.size)⟩
         case measure=>simp [Go.RowKit.intOf];omega
      ·obtain rfl:k=S:=by omega
       have hdk:decide ((k:Int)<(k:Int))=false:=decide_eq_false (by omega)
       go_wp2_with fail
       go_ret
       exact ⟨rfl,HB1.out.trans ((HS.out.below HB8.out).low.mono HB1.out.size)⟩
end Go.Proofs.YtbopfhbeegkkaabGreatDoor
