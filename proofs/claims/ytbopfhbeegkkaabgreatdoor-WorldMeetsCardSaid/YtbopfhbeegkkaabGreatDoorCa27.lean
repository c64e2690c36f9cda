/- Part 27 of a proof: lemmas and contracts that other parts use. -/
import Derived.Test.YtbopfhbeegkkaabGreatDoorCa26
import Derived.Test.YtbopfhbeegkkaabGreatDoorCa22
set_option linter.unusedVariables false
set_option linter.unusedSimpArgs false
namespace Go.Proofs.YtbopfhbeegkkaabGreatDoor
open Go.RowKit
set_option maxRecDepth 20000 in
set_option maxHeartbeats 8000000 in
theorem decTx_any (v:Value) (l:List UInt8) (w:World) (hv:BsVal w w.heap.size v l) (hl:l.length≤1000000):
  Calls Tryz.prog 149 #[v] w (TxPost w (decTx l)):=by
 have hbeg:=fun o=>begin_any v l 116 116 rfl (w.alloc o) ((hv.above fun k hk=>by rw [heap_alloc,if_neg (by omega)]).mono (by simp)) hl
 simp only [show ∀ o,(w.alloc o).heap.size=w.heap.size+1 from fun o=>by simp] at hbeg
 have hlen0:=Nat.le_trans (beginR_len 116 l) hl
 have hD:=decTx_fin l
 generalize decTx l=D at *
 generalize beginR 116 l=r0 at *
 obtain ⟨n1,r1,k1⟩:∃ a r,numR r0=(a,r):=⟨_,_,rfl⟩
 obtain ⟨n2,r2,k2⟩:∃ a r,numR r1=(a,r):=⟨_,_,rfl⟩
 obtain ⟨n3,r3,k3⟩:∃ a r,numR r2=(a,r):=⟨_,_,rfl⟩
 obtain ⟨n4,r4,k4⟩:∃ a r,numR r3=(a,r):=⟨_,_,rfl⟩
 obtain ⟨q,r5,k5⟩:∃ a r,numR4 r4=(a,r):=⟨_,_,rfl⟩
 obtain ⟨d1,d2,d3,d4⟩:=q
 obtain ⟨m,r6,k6⟩:∃ a r,numR r5=(a,r):=⟨_,_,rfl⟩
 have k0:numR4 r0=((n1,n2,n3,n4),r4):=by unfold numR4;simp only [k1,k2,k3,k4]
 simp only [k0,k5,k6] at hD
 generalize hF:wrsR m [] r6=F at *
 have HD:=hidp hD
 have HF:=hidp hF
 clear hD hF k0
 have hlen1:=num_to_len k1 hlen0
 have hlen2:=num_to_len k2 hlen1
 have hlen3:=num_to_len k3 hlen2
 have hlen4:=num_to_len k4 hlen3
 have hlen5:=vec_to_len k5 hlen4
 have HL:=hidp (num_to_len k6 hlen5)
 have hs1:=num_to_le k1
 have hs2:=num_to_le k2
 have hs3:=num_to_le k3
 have hs4:=num_to_le k4
 have hs5:=vec_to_le k5
 have hsm:=num_to_le k6
 have HB:=hidp hbeg
 have N1:=hidp fun W h=>num_to k1 (w.heap.size+1) W h hlen0
 have N2:=hidp fun W h=>num_to k2 (w.heap.size+1) W h hlen1
 have N3:=hidp fun W h=>num_to k3 (w.heap.size+1) W h hlen2
 have N4:=hidp fun W h=>num_to k4 (w.heap.size+1) W h hlen3
 have N5:=hidp fun W h=>vec_to k5 (w.heap.size+1) W h hlen4
 have N6:=hidp fun W h=>num_to k6 (w.heap.size+1) W h hlen5
 clear hbeg k1 k2 k3 k4 k5 k6 hlen0 hlen1 hlen2 hlen3 hlen4 hlen5 hv hl
 obtain ⟨hs5,hs6,hs7,hs8⟩:=hs5
 obtain ⟨i0,hi,hz0,hz1,hz2⟩:=info43x
 go_enter Tryz.func149,Tryz.ntmps149
 go_wp2_with fail
 go_at_call 185
 refine (HB.out _).mono ?_
 rintro e w1 ⟨rfl,hr,hb⟩
 clear HB
 go_wp2_with fail
 go_at_call 186
 refine (N1.out _ hr).mono ?_
 rintro e w2 ⟨rfl,hr1,hg⟩
 have hb1:=below_grown hb hg (Nat.le_refl _) (by simp)
 clear hr hb hg N1
 go_wp2_with fail
 go_at_call 186
 refine (N2.out _ hr1).mono ?_
 rintro e w3 ⟨rfl,hr2,hg⟩
 have hb2:=below_grown hb1 hg (Nat.le_refl _) (by simp)
 clear hr1 hb1 hg N2
 go_wp2_with fail
 go_at_call 186
 refine (N3.out _ hr2).mono ?_
 rintro e w4 ⟨rfl,hr3,hg⟩
 have hb3:=below_grown hb2 hg (Nat.le_refl _) (by simp)
 clear hr2 hb2 hg N3
 go_wp2_with fail
 go_at_call 186
 refine (N4.out _ hr3).mono ?_
 rintro e w5 ⟨rfl,hr4,hg⟩
 have hb4:=below_grown hb3 hg (Nat.le_refl _) (by simp)
 clear hr3 hb3 hg N4
 go_wp2_with fail
 go_at_call 187
 refine (N5.out _ hr4).mono ?_
 rintro e w6 ⟨rfl,hr5,hg⟩
 have hb5:=below_grown hb4 hg (Nat.le_refl _) (by simp)
 have hlt6:=hr5.lt
 clear hr4 hb4 hg N5
 go_wp2_with fail
 go_at_call 186
 refine (N6.out _ (hr5.above fun k hk=>by rw [heap_alloc,if_neg (by omega)])).mono ?_
 rintro e w7 ⟨rfl,hr6,hg⟩
 have ST:=hidp ((dtst_start rfl hr5 hb5 hlt6 rfl).call hr6 hg)
 clear hr5 hb5 hr6 hg N6 hlt6
 generalize htb:w6.heap.size=tb at *
 clear htb
 go_wp2
 go_loopw [6] (fun n wr=>∃ (k:Nat) (A:Option Addr) (c:Nat) (ws:List WrP) (r:Rd),n=.int .i64 k∧k≤1099511627776∧wrsR k ws r=F∧r.l.length≤1000000∧ws.length≤6∧(r.bad=false→ws.length≤5)∧
  DtSt w wr (w.heap.size+1) tb (n1:Int) (n2:Int) (n3:Int) (n4:Int) (d1:Int) (d2:Int) (d3:Int) (d4:Int) A c ws r) (fun n _=>(Go.RowKit.intOf n).toNat)
 case atStart=>exact ⟨m,none,0,[],r6,rfl,hsm,HF.out,HL.out,by simp,by simp,ST.out⟩
 case round=>
  obtain ⟨k,A,c,ws,r,rfl,hk,hF,hlen,h6,h5,hst⟩:=hrel
  obtain ⟨l1,bad⟩:=r
  have HST:=hidp hst
  obtain ⟨v1,hb,A1,c1,rfl,hc,hcm,hx⟩:=hst.rd
  simp only at *
  have b0:=cell_blk hb 0
  have b1:=cell_blk hb 1
  simp at b0 b1
  clear hx hb hst ST HF
  rcases k with _ | k
  ·have HFv:Hid (F=(ws,⟨l1,bad⟩)):=hidp (by rw [←hF];rfl)
   clear hF
   rcases Bool.eq_false_or_eq_true bad with rfl | rfl
   ·
    have hDv:Hid (D=none):=hidp (by rw [HD.out,HFv.out];simp [finTx])
    have hz9:=blk9 HST.out.z
    go_split_ands
    go_wp2
    refine dec_ret HST.out.z rfl rfl rfl ?_
    rw [hDv.out]
    exact ⟨rfl,put9_below HST.out.bl (Nat.le_refl _)⟩
   rcases l1 with _ | ⟨y,l1⟩
   ·
    have hR:=rightTx_any n1 n2 n3 n4 d1 d2 d3 d4 A c ws wr (by omega) (own_ws HST.out.own) ⟨by omega,by omega⟩
    have ht9:=blk9 HST.out.tx
    go_split_ands
    generalize hrt:rightTx ⟨n1,n2,n3,n4,d1,d2,d3,d4,ws⟩=rt at *
    have HR:=hidp hR
    have HRT:=hidp hrt
    clear hR hrt
    cases rt
    all_goals
     go_wp2_with fail
     go_at_call 82
     refine (HR.out).mono ?_
     rintro e w8 ⟨rfl,hb8⟩
     have st8:=hidp (HST.out.below hb8)
     clear hb8 HR
    ·
     have hDv:Hid (D=none):=hidp (by rw [HD.out,HFv.out];simp [finTx,txOf,HRT.out])
     have hz9:=blk9 st8.out.z
     go_split_ands
     go_wp2
     refine dec_ret st8.out.z rfl rfl rfl ?_
     rw [hDv.out]
     exact ⟨rfl,put9_below st8.out.bl (Nat.le_refl _)⟩
    ·
     have hDv:Hid (D=some ⟨n1,n2,n3,n4,d1,d2,d3,d4,ws⟩):=hidp (by rw [HD.out,HFv.out];simp [finTx,txOf,HRT.out])
     have hz9:=blk9 st8.out.z
     have ht9:=blk9 st8.out.tx
     go_split_ands
     go_wp2
     refine dec_ret st8.out.z rfl rfl rfl ?_
     rw [hDv.out]
     refine ⟨A,c,rfl,put9_below st8.out.bl (Nat.le_refl _),?_⟩
     have hlg:=st8.out.lg
     have hlt:=st8.out.lt
     exact put9_own (own_base st8.out.own (by omega)) (fun e=>by have:=(own_ge st8.out.own e).1;omega)
   ·
    have hDv:Hid (D=none):=hidp (by rw [HD.out,HFv.out];simp [finTx])
    have hz9:=blk9 HST.out.z
    go_split_ands
    go_wp2
    refine dec_ret HST.out.z rfl rfl rfl ?_
    rw [hDv.out]
    exact ⟨rfl,put9_below HST.out.bl (Nat.le_refl _)⟩
  ·rcases Bool.eq_false_or_eq_true bad with rfl | rfl
   ·have HFv:Hid (F=(ws,⟨l1,true⟩)):=hidp (by rw [←hF];rfl)
    clear hF
    have hDv:Hid (D=none):=hidp (by rw [HD.out,HFv.out];simp [finTx])
    have hz9:=blk9 HST.out.z
    go_split_ands
    go_wp2
    refine dec_ret HST.out.z rfl rfl rfl ?_
    rw [hDv.out]
    exact ⟨rfl,put9_below HST.out.bl (Nat.le_refl _)⟩
   ·
    have hw5:ws.length≤5:=h5 rfl
    obtain ⟨a1,ra,ka⟩:∃ a1 ra,numR ⟨l1,false⟩=(a1,ra):=⟨_,_,rfl⟩
    obtain ⟨a2,rb,kb⟩:∃ a2 rb,numR ra=(a2,rb):=⟨_,_,rfl⟩
    obtain ⟨a3,rc,kc⟩:∃ a3 rc,textR rb=(a3,rc):=⟨_,_,rfl⟩
    have hlena:=num_to_len ka hlen
    have hlenb:=num_to_len kb hlena
    have hlenc:=text_to_len kc hlenb
    have hsa:=num_to_le kb
    have hF':Hid (wrsR k (ws++[⟨a1,a3,decide (a2=1)⟩]) ⟨rc.l,rc.bad||decide (1<a2)||decide (5≤ws.length)⟩=F):=hidp (by
     rw [←hF]
     simp only [wrsR,wrR,ka,kb,kc,Bool.false_eq_true,if_false])
    clear hF
    have N1:=hidp fun W h=>num_to ka (w.heap.size+1) W h hlen
    have N2:=hidp fun W h=>num_to kb (w.heap.size+1) W h hlena
    have N3:=hidp fun W h=>text_to kc (w.heap.size+1) W h hlenb
    clear ka kb kc hlen hlena hlenb
    go_wp2_with fail
    go_at_call 186
    refine (N1.out _ HST.out.rd).mono ?_
    rintro e v1 ⟨rfl,hr1,hg1⟩
    have s1:=HST.out.call hr1 hg1
    have s1':=hidp (s1.round (k:=a1) (dt:=⟨#[]⟩) (gn:=false) rfl)
    clear hr1 hg1 s1 HST N1 b0 b1
    generalize hp:v1.heap.size=p at *
    go_wp2_with fail
    go_at_call 186
    refine (N2.out _ s1'.out.st.rd).mono ?_
    rintro e v2 ⟨rfl,hr2,hg2⟩
    have s2:=hidp (s1'.out.call hr2 hg2)
    clear hr2 hg2 s1' N2 hp
    go_wp2_with fail
    go_at_call 188
    refine (N3.out _ s2.out.st.rd).mono ?_
    rintro e v3 ⟨rfl,hr3,hg3⟩
    have s3:=hidp (s2.out.call hr3 hg3)
    clear hr3 hg3 s2 N3
    obtain ⟨lc,badc⟩:=rc
    obtain ⟨q,hbq,Aq,cq,rfl,hcq,hcmq,hxq⟩:=s3.out.st.rd
    have g0:=cell_blk hbq 0
    have g1:=cell_blk hbq 1
    have gf:=frozen_blk hbq 1
    have q0:=cell_blk s3.out.t7 0
    have q1:=cell_blk s3.out.t7 1
    have q2:=cell_blk s3.out.t7 2
    have qf1:=frozen_blk s3.out.t7 1
    have qf2:=frozen_blk s3.out.t7 2
    have x8:=cell_blk s3.out.st.tx 8
    have xf:=frozen_blk s3.out.st.tx 8
    simp at g0 g1 q0 q1 q2 x8
    have hp1:=s3.out.hp
    have hp2:=s3.out.st.lt
    have hp3:=lt_blk s3.out.t7
    clear hbq hxq
    simp only at *
    rcases Bool.eq_false_or_eq_true badc with rfl | rfl
    ·
     have e2:decide (a2=1)=((a2:Int)==1):=by rw [Bool.eq_iff_iff];simp;omega
     have HF2:Hid (wrsR k (ws++[⟨a1,a3,((a2:Int)==1)⟩]) ⟨lc,true⟩=F):=hidp (by rw [←hF'.out,e2];simp)
     have HLB:Hid (true=false→ws.length+1≤5):=hidp (by simp;try omega)
     clear e2
     have s4:=hidp (((s3.out.set (i:=2) (u:=.bool ((a2:Int)==1)) rfl).set (i:=1) (u:=.string a3) rfl).setBad true)
     go_wp2_with (at_builtin;go_must (refine wpList_append_lies _ rfl _ _ 42 rfl (tb+1) 83 i0 (.agg #[.int .i64 0,.string ⟨#[]⟩,.bool false]) 3 32 Tryz.underlying42 hi hz0 hz1 hz2 rfl (by decide) (.slice A ws.length c) ws.length (wrCells ws) rfl ?c0 ⟨v3.heap.size,0,none⟩ 1 1 [.int .i64 a1,.string a3,.bool ((a2:Int)==1)] rfl rfl (cells3_new (by simp [World.setCell])) ?c1 (by decide) ?c2 ?c3 ?c4 _ rfl ?_))
     case c0=>exact s4.out.st.own.alloc _
     case c1=>exact ⟨rfl,rfl,rfl⟩
     case c2=>simp only [maxLen];omega
     case c3=>omega
     case c4=>first | omega | (simp;omega)
     intro gq cap w9 hown hgrow hgl hlt9
     have happ:=s4.out.app hown hgrow
     obtain ⟨y8,yf,hst9⟩:=happ
     have s9:=hidp hst9
     clear hst9 hown hgrow hgl s4 s3
     go_wp2
     go_roundw
     case rel=>
      refine ⟨k,some ⟨gq,0,none⟩,cap,ws++[⟨a1,a3,((a2:Int)==1)⟩],⟨lc,true⟩,congrArg (Value.int IntKind.i64) (by omega),by omega,HF2.out,hlenc,by simp;omega,fun h=>by have:=HLB.out h;simpa using this,?_⟩
      have:=s9.out
      simpa using this
     case measure=>simp only [Go.RowKit.intOf];omega
    ·by_cases h2:1<a2
     ·
      have e2:decide (a2=1)=((a2:Int)==1):=by rw [Bool.eq_iff_iff];simp;omega
      have HF2:Hid (wrsR k (ws++[⟨a1,a3,((a2:Int)==1)⟩]) ⟨lc,true⟩=F):=hidp (by rw [←hF'.out,e2];simp [h2])
      have HLB:Hid (true=false→ws.length+1≤5):=hidp (by simp;try omega)
      clear e2
      have s4:=hidp (((s3.out.set (i:=2) (u:=.bool ((a2:Int)==1)) rfl).set (i:=1) (u:=.string a3) rfl).setBad true)
      go_wp2_with (at_builtin;go_must (refine wpList_append_lies _ rfl _ _ 42 rfl (tb+1) 83 i0 (.agg #[.int .i64 0,.string ⟨#[]⟩,.bool false]) 3 32 Tryz.underlying42 hi hz0 hz1 hz2 rfl (by decide) (.slice A ws.length c) ws.length (wrCells ws) rfl ?c0 ⟨v3.heap.size,0,none⟩ 1 1 [.int .i64 a1,.string a3,.bool ((a2:Int)==1)] rfl rfl (cells3_new (by simp [World.setCell])) ?c1 (by decide) ?c2 ?c3 ?c4 _ rfl ?_))
      case c0=>exact s4.out.st.own.alloc _
      case c1=>exact ⟨rfl,rfl,rfl⟩
      case c2=>simp only [maxLen];omega
      case c3=>omega
      case c4=>first | omega | (simp;omega)
      intro gq cap w9 hown hgrow hgl hlt9
      have happ:=s4.out.app hown hgrow
      obtain ⟨y8,yf,hst9⟩:=happ
      have s9:=hidp hst9
      clear hst9 hown hgrow hgl s4 s3
      go_wp2
      go_roundw
      case rel=>
       refine ⟨k,some ⟨gq,0,none⟩,cap,ws++[⟨a1,a3,((a2:Int)==1)⟩],⟨lc,true⟩,congrArg (Value.int IntKind.i64) (by omega),by omega,HF2.out,hlenc,by simp;omega,fun h=>by have:=HLB.out h;simpa using this,?_⟩
       have:=s9.out
       simpa using this
      case measure=>simp only [Go.RowKit.intOf];omega
     ·
      have e2:decide (a2=1)=((a2:Int)==1):=by rw [Bool.eq_iff_iff];simp;omega
      have HF2:Hid (wrsR k (ws++[⟨a1,a3,((a2:Int)==1)⟩]) ⟨lc,(decide ((1:Int)<(a2:Int))||decide ((5:Int)≤(ws.length:Int)))⟩=F):=hidp (by rw [←hF'.out,e2];rw [show (false||decide (1<a2)||decide (5≤ws.length))=(decide ((1:Int)<(a2:Int))||decide ((5:Int)≤(ws.length:Int))) from by rw [Bool.eq_iff_iff];simp;omega])
      have HLB:Hid ((decide ((1:Int)<(a2:Int))||decide ((5:Int)≤(ws.length:Int)))=false→ws.length+1≤5):=hidp (by simp;try omega)
      clear e2
      have s4:=hidp (((s3.out.set (i:=2) (u:=.bool ((a2:Int)==1)) rfl).set (i:=1) (u:=.string a3) rfl).setBad (decide ((1:Int)<(a2:Int))||decide ((5:Int)≤(ws.length:Int))))
      go_wp2_with (at_builtin;go_must (refine wpList_append_lies _ rfl _ _ 42 rfl (tb+1) 83 i0 (.agg #[.int .i64 0,.string ⟨#[]⟩,.bool false]) 3 32 Tryz.underlying42 hi hz0 hz1 hz2 rfl (by decide) (.slice A ws.length c) ws.length (wrCells ws) rfl ?c0 ⟨v3.heap.size,0,none⟩ 1 1 [.int .i64 a1,.string a3,.bool ((a2:Int)==1)] rfl rfl (cells3_new (by simp [World.setCell])) ?c1 (by decide) ?c2 ?c3 ?c4 _ rfl ?_))
      case c0=>exact s4.out.st.own.alloc _
      case c1=>exact ⟨rfl,rfl,rfl⟩
      case c2=>simp only [maxLen];omega
      case c3=>omega
      case c4=>first | omega | (simp;omega)
      intro gq cap w9 hown hgrow hgl hlt9
      have happ:=s4.out.app hown hgrow
      obtain ⟨y8,yf,hst9⟩:=happ
      have s9:=hidp hst9
      clear hst9 hown hgrow hgl s4 s3
      go_wp2
      go_roundw
      case rel=>
       refine ⟨k,some ⟨gq,0,none⟩,cap,ws++[⟨a1,a3,((a2:Int)==1)⟩],⟨lc,(decide ((1:Int)<(a2:Int))||decide ((5:Int)≤(ws.length:Int)))⟩,congrArg (Value.int IntKind.i64) (by omega),by omega,HF2.out,hlenc,by simp;omega,fun h=>by have:=HLB.out h;simpa using this,?_⟩
       have:=s9.out
       simpa using this
      case measure=>simp only [Go.RowKit.intOf];omega
def obRow (B e z:Nat) (v:Value) (n:Nat) (xs:List Value):Ob:=⟨fun w=>w.ownsRow B e z v n xs,fun b=>v.ownBlock=some b,fun _=>False⟩
theorem own_same {w w':World} {B e z n:Nat} {v:Value} {xs:List Value} (h:w.ownsRow B e z v n xs) (hb:∀ b,v.ownBlock=some b→w'.heap[b]?=w.heap[b]?):w'.ownsRow B e z v n xs:=by
 obtain ⟨hl,hn | ⟨g,cap,cur,hv,hB,hg,rest⟩⟩:=h
 ·exact ⟨hl,.inl hn⟩
 ·exact ⟨hl,.inr ⟨g,cap,cur,hv,hB,by rw [hb g (by rw [hv];rfl)];exact hg,rest⟩⟩
theorem obRow_ok (B e z:Nat) (v:Value) (n:Nat) (xs:List Value):(obRow B e z v n xs).Ok B:=
 ⟨fun w w' h hs hb=>own_same h fun b e=>hb b (.inl e),fun w b h e=>own_ge h e,fun w b h e=>e.elim⟩
def obNil:Ob:=⟨fun _=>True,fun _=>False,fun _=>False⟩
theorem obNil_ok (B:Nat):obNil.Ok B:=⟨fun _ _ _ _ _=>trivial,fun w b h e=>e.elim,fun w b h e=>e.elim⟩
structure MGm where
 tgt:Nat
 A:Option Addr
 c:Nat
 l:List UInt8
def MGm.cells (m:MGm):List Value:=[.int .i64 (m.tgt:Int),.slice m.A m.l.length m.c]
def obWay (B:Nat) (v:Value) (gs:List MGm):Ob:=
 ⟨fun w=>w.ownsRow B 243 2 v gs.length (gs.flatMap MGm.cells)∧∀ m∈gs,BsVal w w.heap.size (.slice m.A m.l.length m.c) m.l∧∀ b o,m.A=some ⟨b,o,none⟩→b<w.heap.size∧v.ownBlock≠some b,
  fun b=>v.ownBlock=some b,fun b=>∃ m∈gs,∃ o,m.A=some ⟨b,o,none⟩⟩
theorem BsVal.same {w w':World} {A:Option Addr} {c:Nat} {l:List UInt8} (h:BsVal w w.heap.size (.slice A l.length c) l) (hs:w.heap.size≤w'.heap.size) (hb:∀ b o,A=some ⟨b,o,none⟩→w'.heap[b]?=w.heap[b]?):BsVal w' w'.heap.size (.slice A l.length c) l:=by
 obtain ⟨A',c',e,h1,h2,h3⟩:=h
 simp only [Value.slice.injEq,true_and] at e
 obtain ⟨rfl,rfl⟩:=e
 refine ⟨A,c,rfl,h1,h2,fun i b hi=>?_⟩
 obtain ⟨B,o,hA,hlt,hc⟩:=h3 i b hi
 exact ⟨B,o,hA,Nat.lt_of_lt_of_le hlt hs,(World.cell?_of_block (a:=⟨B,o+i,none⟩) (hb B o hA)).trans hc⟩
theorem obWay_ok (B:Nat) (v:Value) (gs:List MGm):(obWay B v gs).Ok B:=
 ⟨fun w w' h hs hb=>⟨own_same h.1 fun b e=>hb b (.inl e),fun m hm=>⟨(h.2 m hm).1.same hs fun b o e=>hb b (.inr ⟨m,hm,o,e⟩),fun b o e=>⟨Nat.lt_of_lt_of_le ((h.2 m hm).2 b o e).1 hs,((h.2 m hm).2 b o e).2⟩⟩⟩,
  fun w b h e=>own_ge h.1 e,fun w b h ⟨m,hm,o,e⟩=>((h.2 m hm).2 b o e).1⟩
def gmB (g:GmP):List UInt8:=if 0<g.tx.seq then txB g.tx else askB (g.frm:Int) g.h0 g.h1 g.h2 g.h3
def GmOk (S:Nat) (g:GmP):Prop:=g.tgt<S∧(0<g.tx.seq→rightTx g.tx=true)∧(¬0<g.tx.seq→g.frm<S∧okAsk (g.frm:Int) g.h0 g.h1 g.h2 g.h3=true)
def WayRep (l:List GmP) (gs:List MGm):Prop:=gs.map (fun m=>(m.tgt,m.l))=l.map fun g=>(g.tgt,gmB g)
theorem WayRep.len {l:List GmP} {gs:List MGm} (h:WayRep l gs):gs.length=l.length:=by
 have:=congrArg List.length h
 simpa using this
structure WV where
 vS:Value
 vW:Value
 vC:Value
 vP:Value
 vG:Value
 xs:List Nat
 us:List Nat
 gs:List MGm
def ptrs (l:List Nat):List Value:=l.map fun x=>.pointer (some ⟨x,0,none⟩)
def intsN (n:Nat) (f:Nat→Int):List Value:=(List.range n).map fun k=>.int .i64 (f k)
structure AOk (A:AWd):Prop where
 S:1≤A.S∧A.S≤4
 C:A.C≤6
 pl:∀ k,A.pl k<A.S
 wl:∀ k,0≤A.wl k∧A.wl k≤1099511627776
 id:∀ k,(A.si k).id=(k:Int)
 len:A.way.length≤300
 way:∀ m∈A.way,GmOk A.S m
structure PWx (B:Nat) (O:Nat→Ob) (p g:Nat) (A:AWd) (v:WV):Prop where
 ok:AOk A
 xl:v.xs.length=A.S
 ul:v.us.length=A.C
 wr:WayRep A.way v.gs
 b0:O (p+0)=obB g (.cells #[v.vS,v.vW,v.vC,v.vP,v.vG,.int .i64 (wrap64 (A.lost:Int))] 191) B
 b1:O (p+1)=obRow B 23 1 v.vS A.S (ptrs v.xs)
 b2:O (p+2)=obRow B 3 1 v.vW A.S (intsN A.S A.wl)
 b3:O (p+3)=obRow B 75 1 v.vC A.C (ptrs v.us)
 b4:O (p+4)=obRow B 3 1 v.vP A.C (intsN A.C fun k=>(A.pl k:Int))
 b5:O (p+5)=obWay B v.vG v.gs
 si:∀ k x,v.xs[k]?=some x→SteA B x (A.si k) (O (p+(6+k)))
 cl:∀ k u,v.us[k]?=some u→SneA B u (A.cl k) (O (p+(10+k)))
section
variable {B:Nat} {O O':Nat→Ob} {p g:Nat} {A:AWd} {v:WV}
theorem PWx.xk (h:PWx B O p g A v) {k:Nat} (hk:k<A.S):∃ x,v.xs[k]?=some x:=⟨v.xs[k]'(by rw [h.xl];exact hk),List.getElem?_eq_getElem _⟩
theorem PWx.uk (h:PWx B O p g A v) {k:Nat} (hk:k<A.C):∃ u,v.us[k]?=some u:=⟨v.us[k]'(by rw [h.ul];exact hk),List.getElem?_eq_getElem _⟩
theorem lt_get {α:Type} {l:List α} {k:Nat} {x:α} (h:l[k]?=some x):k<l.length:=(List.getElem?_eq_some_iff.1 h).1
theorem PWx.keep (h:PWx B O p g A v) (he:∀ j,j<16→O' (p+j)=O (p+j)):PWx B O' p g A v:=
 ⟨h.ok,h.xl,h.ul,h.wr,(he 0 (by omega)).trans h.b0,(he 1 (by omega)).trans h.b1,(he 2 (by omega)).trans h.b2,(he 3 (by omega)).trans h.b3,(he 4 (by omega)).trans h.b4,(he 5 (by omega)).trans h.b5,
  fun k x hx=>by have:=lt_get hx;have:=h.xl;have:=h.ok.S;rw [he _ (by omega)];exact h.si k x hx,
  fun k x hx=>by have:=lt_get hx;have:=h.ul;have:=h.ok.C;rw [he _ (by omega)];exact h.cl k x hx⟩
theorem PWx.setCl (h:PWx B O p g A v) {k u:Nat} (hu:v.us[k]?=some u) {d:SdP} (hd:SneA B u d (O' (p+(10+k)))) (he:∀ j,j<16→j≠10+k→O' (p+j)=O (p+j)):
  PWx B O' p g { A with cl:=fset A.cl k d } v:=by
 have hk:=lt_get hu
 have:=h.ul
 have:=h.ok.C
 have:=h.xl
 have:=h.ok.S
 refine ⟨⟨h.ok.S,h.ok.C,h.ok.pl,h.ok.wl,h.ok.id,h.ok.len,h.ok.way⟩,h.xl,h.ul,h.wr,(he 0 (by omega) (by omega)).trans h.b0,(he 1 (by omega) (by omega)).trans h.b1,(he 2 (by omega) (by omega)).trans h.b2,(he 3 (by omega) (by omega)).trans h.b3,(he 4 (by omega) (by omega)).trans h.b4,(he 5 (by omega) (by omega)).trans h.b5,
  fun i x hx=>by have:=lt_get hx;rw [he _ (by omega) (by omega)];exact h.si i x hx,fun i x hx=>?_⟩
 have hi:=lt_get hx
 by_cases e:i=k
 ·subst e
  rw [hu] at hx
  cases hx
  show SneA B u (fset A.cl i d i) _
  rw [fset_same]
  exact hd
 ·show SneA B x (fset A.cl k d i) _
  rw [fset_other _ e,he _ (by omega) (by omega)]
  exact h.cl i x hx
theorem PWx.setSi (h:PWx B O p g A v) {k x:Nat} (hx0:v.xs[k]?=some x) {a:RSi} (hid:a.id=(k:Int)) (hd:SteA B x a (O' (p+(6+k)))) (he:∀ j,j<16→j≠6+k→O' (p+j)=O (p+j)):
  PWx B O' p g { A with si:=fset A.si k a } v:=by
 have hk:=lt_get hx0
 have:=h.ul
 have:=h.ok.C
 have:=h.xl
 have:=h.ok.S
 refine ⟨⟨h.ok.S,h.ok.C,h.ok.pl,h.ok.wl,fun i=>?_,h.ok.len,h.ok.way⟩,h.xl,h.ul,h.wr,(he 0 (by omega) (by omega)).trans h.b0,(he 1 (by omega) (by omega)).trans h.b1,(he 2 (by omega) (by omega)).trans h.b2,(he 3 (by omega) (by omega)).trans h.b3,(he 4 (by omega) (by omega)).trans h.b4,(he 5 (by omega) (by omega)).trans h.b5,
  fun i y hx=>?_,fun i x hx=>by have:=lt_get hx;rw [he _ (by omega) (by omega)];exact h.cl i x hx⟩
 ·by_cases e:i=k
  ·subst e
   show (fset A.si i a i).id=_
   rw [fset_same];exact hid
  ·show (fset A.si k a i).id=_
   rw [fset_other _ e];exact h.ok.id i
 have hi:=lt_get hx
 by_cases e:i=k
 ·subst e
  rw [hx0] at hx
  cases hx
  show SteA B x (fset A.si i a i) _
  rw [fset_same]
  exact hd
 ·show SteA B y (fset A.si k a i) _
  rw [fset_other _ e,he _ (by omega) (by omega)]
  exact h.si i y hx
theorem intsN_get {n:Nat} {f:Nat→Int} {k:Nat} (hk:k<n):(intsN n f)[k]?=some (.int .i64 (f k)):=by simp [intsN,hk]
theorem ptrs_get {l:List Nat} {k x:Nat} (h:l[k]?=some x):(ptrs l)[k]?=some (.pointer (some ⟨x,0,none⟩)):=by simp [ptrs,h]
theorem intsN_set (n:Nat) (f:Nat→Int) (k:Nat) (z:Int):(intsN n f).set k (.int .i64 z)=intsN n (fset f k z):=by
 apply List.ext_getElem?
 intro i
 unfold intsN
 rw [List.getElem?_set]
 by_cases hi:i<n
 ·by_cases e:k=i
  ·subst e;simp [hi,fset_same]
  ·rw [if_neg e];simp [hi,fset_other z (fun h=>e h.symm)]
 ·by_cases e:k=i
  ·subst e;simp [hi]
  ·rw [if_neg e];simp [hi]
theorem obRow_set {w0 w:World} {n i:Nat} {O:Nat→Ob} (h:Mem w0 w n O) (hi:i<n) {e g c m:Nat} {f:Nat→Int} (ho:O i=obRow w0.heap.size e 1 (.slice (some ⟨g,0,none⟩) m c) m (intsN m f)) (k:Nat) (z:Int):
  ∃ O',Mem w0 (w.setCell ⟨g,k,none⟩ (.int .i64 z)) n O'∧O' i=obRow w0.heap.size e 1 (.slice (some ⟨g,0,none⟩) m c) m (intsN m (fset f k z))∧∀ j,j≠i→O' j=O j:=by
 have hat:=h.at_ i hi
 rw [ho] at hat
 have hw:w.ownsRow w0.heap.size e 1 (.slice (some ⟨g,0,none⟩) m c) m (intsN m f):=hat
 have h2:=hw.stored k (.int .i64 z)
 rw [intsN_set] at h2
 have hg:=grown_set w g k (.int .i64 z)
 refine h.step1 hi (obRow_ok ..) h2.1 ⟨hg.os,hg.tape,hg.output,hg.size,fun b hb hn=>hg.block b hb (fun e2=>hn ?_),fun b hb=>.inl ?_⟩ (fun b e=>e.elim)
 ·rw [ho];exact e2.symm
 ·rw [ho];exact hb
theorem PWx.setWl (h:PWx B O p g A v) {k:Nat} {z:Int} (hz:0≤z∧z≤1099511627776) (hd:O' (p+2)=obRow B 3 1 v.vW A.S (intsN A.S (fset A.wl k z))) (he:∀ j,j<16→j≠2→O' (p+j)=O (p+j)):
  PWx B O' p g { A with wl:=fset A.wl k z } v:=by
 have:=h.ul
 have:=h.ok.C
 have:=h.xl
 have:=h.ok.S
 refine ⟨⟨h.ok.S,h.ok.C,h.ok.pl,fun i=>?_,h.ok.id,h.ok.len,h.ok.way⟩,h.xl,h.ul,h.wr,(he 0 (by omega) (by omega)).trans h.b0,(he 1 (by omega) (by omega)).trans h.b1,hd,(he 3 (by omega) (by omega)).trans h.b3,(he 4 (by omega) (by omega)).trans h.b4,(he 5 (by omega) (by omega)).trans h.b5,
  fun i x hx=>by have:=lt_get hx;rw [he _ (by omega) (by omega)];exact h.si i x hx,fun i x hx=>by have:=lt_get hx;rw [he _ (by omega) (by omega)];exact h.cl i x hx⟩
 show 0≤fset A.wl k z i∧fset A.wl k z i≤_
 by_cases e:i=k
 ·subst e;rw [fset_same];exact hz
 ·rw [fset_other _ e];exact h.ok.wl i
theorem PWx.setPl (h:PWx B O p g A v) {k z:Nat} (hz:z<A.S) (hd:O' (p+4)=obRow B 3 1 v.vP A.C (intsN A.C fun i=>((fset A.pl k z i:Nat):Int))) (he:∀ j,j<16→j≠4→O' (p+j)=O (p+j)):
  PWx B O' p g { A with pl:=fset A.pl k z } v:=by
 have:=h.ul
 have:=h.ok.C
 have:=h.xl
 have:=h.ok.S
 refine ⟨⟨h.ok.S,h.ok.C,fun i=>?_,h.ok.wl,h.ok.id,h.ok.len,h.ok.way⟩,h.xl,h.ul,h.wr,(he 0 (by omega) (by omega)).trans h.b0,(he 1 (by omega) (by omega)).trans h.b1,(he 2 (by omega) (by omega)).trans h.b2,(he 3 (by omega) (by omega)).trans h.b3,hd,(he 5 (by omega) (by omega)).trans h.b5,
  fun i x hx=>by have:=lt_get hx;rw [he _ (by omega) (by omega)];exact h.si i x hx,fun i x hx=>by have:=lt_get hx;rw [he _ (by omega) (by omega)];exact h.cl i x hx⟩
 show fset A.pl k z i<A.S
 by_cases e:i=k
 ·subst e;rw [fset_same];exact hz
 ·rw [fset_other _ e];exact h.ok.pl i
theorem PWx.setWay (h:PWx B O p g A v) {way:List GmP} {lost:Nat} {vG:Value} {gs:List MGm} (hl:way.length≤300) (ho:∀ m∈way,GmOk A.S m) (hr:WayRep way gs)
  (h0:O' (p+0)=obB g (.cells #[v.vS,v.vW,v.vC,v.vP,vG,.int .i64 (wrap64 (lost:Int))] 191) B) (h5:O' (p+5)=obWay B vG gs) (he:∀ j,j<16→j≠0→j≠5→O' (p+j)=O (p+j)):
  PWx B O' p g { A with way:=way,lost:=lost } { v with vG:=vG,gs:=gs }:=by
 have:=h.ul
 have:=h.ok.C
 have:=h.xl
 have:=h.ok.S
 exact ⟨⟨h.ok.S,h.ok.C,h.ok.pl,h.ok.wl,h.ok.id,hl,ho⟩,h.xl,h.ul,hr,h0,(he 1 (by omega) (by omega) (by omega)).trans h.b1,(he 2 (by omega) (by omega) (by omega)).trans h.b2,(he 3 (by omega) (by omega) (by omega)).trans h.b3,(he 4 (by omega) (by omega) (by omega)).trans h.b4,h5,
  fun i x hx=>by have:i<v.xs.length:=lt_get hx;rw [he _ (by omega) (by omega) (by omega)];exact h.si i x hx,fun i x hx=>by have:i<v.us.length:=lt_get hx;rw [he _ (by omega) (by omega) (by omega)];exact h.cl i x hx⟩
end
def PWa (B:Nat) (O:Nat→Ob) (p g:Nat) (xs us:List Nat) (A:AWd):Prop:=∃ v,PWx B O p g A v∧v.xs=xs∧v.us=us
theorem PWx.a {B:Nat} {O:Nat→Ob} {p g:Nat} {A:AWd} {v:WV} (h:PWx B O p g A v):PWa B O p g v.xs v.us A:=⟨v,h,rfl,rfl⟩
def WUpd (w0 w':World) (n:Nat) (O:Nat→Ob) (p g:Nat) (xs us:List Nat) (A:AWd):Prop:=∃ O',Mem w0 w' n O'∧PWa w0.heap.size O' p g xs us A∧∀ k,k<n→(k<p∨p+16≤k)→O' k=O k
section
variable {w0 w w' w1 w2:World} {n m:Nat} {O Ox:Nat→Ob} {p g:Nat} {xs us:List Nat} {A A1 A2:AWd} {v:WV}
theorem WUpd.below (h:Mem w0 w n O) (hp:PWx w0.heap.size O p g A v) (hb:Below w.heap.size w w'):WUpd w0 w' n O p g v.xs v.us A:=
 ⟨O,h.below hb,hp.a,fun _ _ _=>rfl⟩
theorem WUpd.then (h:WUpd w0 w1 n O p g xs us A1) (hb:Below w1.heap.size w1 w2):WUpd w0 w2 n O p g xs us A1:=by
 obtain ⟨O1,h1,h3,h4⟩:=h
 exact ⟨O1,h1.below hb,h3,h4⟩
theorem WUpd.less (h:WUpd w0 w1 m Ox p g xs us A) (hm:n≤m) (he:∀ k,k<n→(k<p∨p+16≤k)→Ox k=O k):WUpd w0 w1 n O p g xs us A:=by
 obtain ⟨O1,h1,h3,h4⟩:=h
 exact ⟨O1,h1.less hm,h3,fun k hn hk=>(h4 k (by omega) hk).trans (he k hn hk)⟩
theorem WUpd.cl (h:Mem w0 w n O) (hn:p+16≤n) (hp:PWx w0.heap.size O p g A v) {k u:Nat} (hu:v.us[k]?=some u) {d:SdP} (hx:Upd w w' (O (p+(10+k))) (SneA w0.heap.size u d)):
  WUpd w0 w' n O p g v.xs v.us { A with cl:=fset A.cl k d }:=by
 have:=lt_get hu
 have:=hp.ul
 have:=hp.ok.C
 obtain ⟨O',h1,h2,h3⟩:=h.upd (i:=p+(10+k)) (by omega) hx (fun o' h=>h.ok)
 exact ⟨O',h1,(hp.setCl hu h2 (fun j hj hne=>h3 _ (by omega))).a,fun i _ hi=>h3 _ (by omega)⟩
theorem WUpd.si (h:Mem w0 w n O) (hn:p+16≤n) (hp:PWx w0.heap.size O p g A v) {k x:Nat} (hu:v.xs[k]?=some x) {a:RSi} (hid:a.id=(k:Int)) (hx:Upd w w' (O (p+(6+k))) (SteA w0.heap.size x a)):
  WUpd w0 w' n O p g v.xs v.us { A with si:=fset A.si k a }:=by
 have:=lt_get hu
 have:=hp.xl
 have:=hp.ok.S
 obtain ⟨O',h1,h2,h3⟩:=h.upd (i:=p+(6+k)) (by omega) hx (fun o' h=>h.ok)
 exact ⟨O',h1,(hp.setSi hu hid h2 (fun j hj hne=>h3 _ (by omega))).a,fun i _ hi=>h3 _ (by omega)⟩
end
section
variable {w0 w:World} {n:Nat} {O:Nat→Ob} {p g:Nat} {A:AWd} {v:WV}
theorem PWx.blk (hp:PWx w0.heap.size O p g A v) (h:Mem w0 w n O) (hn:p+16≤n):w.heap[g]?=some (.cells #[v.vS,v.vW,v.vC,v.vP,v.vG,.int .i64 (wrap64 (A.lost:Int))] 191):=h.box (i:=p+0) (by omega) hp.b0
theorem row_at {i e m:Nat} {vv:Value} {xs:List Value} (h:Mem w0 w n O) (hi:i<n) (ho:O i=obRow w0.heap.size e 1 vv m xs) (hm:0<m):
  ∃ b c,vv=.slice (some ⟨b,0,none⟩) m c∧w0.heap.size≤b∧b<w.heap.size∧(∀ k x,k<m→xs[k]?=some x→w.cell? ⟨b,k,none⟩=some x)∧∀ k,w.frozen? ⟨b,k,none⟩=false:=by
 have hat:=h.at_ i hi
 rw [ho] at hat
 have hw:w.ownsRow w0.heap.size e 1 vv m xs:=hat
 obtain ⟨b,c,rfl,k1,k2⟩:=World.ownsRow.form hw hm
 exact ⟨b,c,rfl,k1,k2,fun k x hk hx=>by rw [hw.cellAt k (by omega)];exact hx,fun k=>hw.frozenAt k⟩
theorem row_form {i e m:Nat} {vv:Value} {xs:List Value} (h:Mem w0 w n O) (hi:i<n) (ho:O i=obRow w0.heap.size e 1 vv m xs):∃ a c,vv=.slice a m c:=by
 have hat:=h.at_ i hi
 rw [ho] at hat
 have hw:w.ownsRow w0.heap.size e 1 vv m xs:=hat
 obtain ⟨a,c,rfl⟩:=own_form hw
 exact ⟨a,c,rfl⟩
theorem way_form {i:Nat} {vv:Value} {gs:List MGm} (h:Mem w0 w n O) (hi:i<n) (ho:O i=obWay w0.heap.size vv gs):∃ a c,vv=.slice a gs.length c:=by
 have hat:=h.at_ i hi
 rw [ho] at hat
 obtain ⟨a,c,rfl⟩:=own_form hat.1
 exact ⟨a,c,rfl⟩
end
end Go.Proofs.YtbopfhbeegkkaabGreatDoor
