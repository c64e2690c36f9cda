/- Part 3 of a proof: lemmas and contracts that other parts use. -/
import Derived.Test.YtbopfhbeegkkaabGreatDoorCa1
import Derived.Test.YtbopfhbeegkkaabGreatDoorCa2
import Derived.Test.YtbopfhbeegkkaabGreatDoorRows
import Derived.Deep.AppendLies
import Derived.Outline
set_option linter.unusedVariables false
set_option linter.unusedSimpArgs false
namespace Go.Proofs.YtbopfhbeegkkaabGreatDoor
open Go.RowKit
structure VerP where
 w:Int
 c:Int
 site:Int
 seq:Int
 data:ByteArray
 gone:Bool
def verCells (v:VerP):List Value:=[.int .i64 v.w,.int .i64 v.c,.int .i64 v.site,.int .i64 v.seq,.string v.data,.bool v.gone]
def verV (v:VerP):Value:=.agg #[.int .i64 v.w,.int .i64 v.c,.int .i64 v.site,.int .i64 v.seq,.string v.data,.bool v.gone]
def rightV (v:VerP):Bool:=rightS v.w v.c&&decide (0≤v.site)&&decide (v.site<4)&&decide (1≤v.seq)&&decide (v.seq≤1099511627776)&&decide (v.data.size≤12)&&(!v.gone||decide (v.data.size=0))
def cmpV (a b:VerP):Int:=if cmpS a.w a.c b.w b.c≠0 then cmpS a.w a.c b.w b.c else a.site-b.site
theorem rightS_isD {aw ac:Int} {b:Bool} (h:rightS aw ac=b) (w:World):Calls Tryz.prog 135 #[.agg #[.int .i64 aw,.int .i64 ac]] w fun e w'=>e=.returned (.bool b)∧Below w.heap.size w w':=by
 subst h;exact rightS_any aw ac w
set_option maxHeartbeats 2000000 in
theorem rightV_any (v:VerP) (w:World):Calls Tryz.prog 175 #[verV v] w fun e w'=>e=.returned (.bool (rightV v))∧Below w.heap.size w w':=by
 unfold verV
 rcases h0:rightS v.w v.c with _ | _
 ·have HS:=hidp fun w=>rightS_isD h0 w
  have HF:Hid (rightV v=false):=hidp (by simp [rightV,h0])
  clear h0
  go_enter Tryz.func175,Tryz.ntmps175
  go_wp2_with (go_at_call 135;refine (HS.out _).mono ?_;rintro e w' ⟨rfl,hb⟩;obtain ⟨x,rfl⟩:=wplus_of_below hb;clear hb)
  go_ret
  exact ⟨by rw [HF.out];rfl,zB⟩
 have HS:=hidp fun w=>rightS_isD h0 w
 by_cases h1:v.site<0
 ·have HF:Hid (rightV v=false):=hidp (by simp [rightV];omega)
  clear h0
  go_enter Tryz.func175,Tryz.ntmps175
  go_wp2_with (go_at_call 135;refine (HS.out _).mono ?_;rintro e w' ⟨rfl,hb⟩;obtain ⟨x,rfl⟩:=wplus_of_below hb;clear hb)
  go_ret
  exact ⟨by rw [HF.out];rfl,zB⟩
 by_cases h2:4≤v.site
 ·have HF:Hid (rightV v=false):=hidp (by simp [rightV];omega)
  clear h0
  go_enter Tryz.func175,Tryz.ntmps175
  go_wp2_with (go_at_call 135;refine (HS.out _).mono ?_;rintro e w' ⟨rfl,hb⟩;obtain ⟨x,rfl⟩:=wplus_of_below hb;clear hb)
  go_ret
  exact ⟨by rw [HF.out];rfl,zB⟩
 by_cases h3:v.seq<1
 ·have HF:Hid (rightV v=false):=hidp (by simp [rightV];omega)
  clear h0
  go_enter Tryz.func175,Tryz.ntmps175
  go_wp2_with (go_at_call 135;refine (HS.out _).mono ?_;rintro e w' ⟨rfl,hb⟩;obtain ⟨x,rfl⟩:=wplus_of_below hb;clear hb)
  go_ret
  exact ⟨by rw [HF.out];rfl,zB⟩
 by_cases h4:1099511627776<v.seq
 ·have HF:Hid (rightV v=false):=hidp (by simp [rightV];omega)
  clear h0
  go_enter Tryz.func175,Tryz.ntmps175
  go_wp2_with (go_at_call 135;refine (HS.out _).mono ?_;rintro e w' ⟨rfl,hb⟩;obtain ⟨x,rfl⟩:=wplus_of_below hb;clear hb)
  go_ret
  exact ⟨by rw [HF.out];rfl,zB⟩
 by_cases h5:12<v.data.size
 ·have HF:Hid (rightV v=false):=hidp (by simp [rightV];omega)
  clear h0
  go_enter Tryz.func175,Tryz.ntmps175
  go_wp2_with (go_at_call 135;refine (HS.out _).mono ?_;rintro e w' ⟨rfl,hb⟩;obtain ⟨x,rfl⟩:=wplus_of_below hb;clear hb)
  go_ret
  exact ⟨by rw [HF.out];rfl,zB⟩
 obtain ⟨vw,vc,site,seq,data,gone⟩:=v
 simp only at *
 cases gone
 ·have HF:Hid (rightV ⟨vw,vc,site,seq,data,false⟩=true):=hidp (by simp [rightV,h0];omega)
  clear h0
  go_enter Tryz.func175,Tryz.ntmps175
  go_wp2_with (go_at_call 135;refine (HS.out _).mono ?_;rintro e w' ⟨rfl,hb⟩;obtain ⟨x,rfl⟩:=wplus_of_below hb;clear hb)
  go_ret
  exact ⟨by rw [HF.out];rfl,zB⟩
 by_cases c4:data.toList=[]
 ·have hs:data.size=0:=by rw [ba_size,←ByteArray.toList_eq,c4];rfl
  have HF:Hid (rightV ⟨vw,vc,site,seq,data,true⟩=true):=hidp (by simp [rightV,h0,hs];omega)
  have c5:data.toList.isEmpty=true:=by rw [c4];rfl
  clear h0 hs
  go_enter Tryz.func175,Tryz.ntmps175
  go_wp2_with (go_at_call 135;refine (HS.out _).mono ?_;rintro e w' ⟨rfl,hb⟩;obtain ⟨x,rfl⟩:=wplus_of_below hb;clear hb)
  go_ret
  exact ⟨by rw [HF.out];rfl,zB⟩
 ·have hs:data.size≠0:=by rw [ba_size,←ByteArray.toList_eq];intro h;exact c4 (List.eq_nil_of_length_eq_zero h)
  have HF:Hid (rightV ⟨vw,vc,site,seq,data,true⟩=false):=hidp (by simp [rightV,hs])
  have c5:data.toList.isEmpty=false:=by simpa using c4
  clear h0 hs
  go_enter Tryz.func175,Tryz.ntmps175
  go_wp2_with (go_at_call 135;refine (HS.out _).mono ?_;rintro e w' ⟨rfl,hb⟩;obtain ⟨x,rfl⟩:=wplus_of_below hb;clear hb)
  go_ret
  exact ⟨by rw [HF.out];rfl,zB⟩
set_option maxHeartbeats 2000000 in
theorem cmpV_any (a b:VerP) (w:World) (ha:0≤a.site∧a.site<4) (hb:0≤b.site∧b.site<4):
  Calls Tryz.prog 177 #[verV a,verV b] w fun e w'=>e=.returned (.int .i64 (cmpV a b))∧Below w.heap.size w w':=by
 unfold verV
 have HC:=hidp fun w=>compare_any a.w a.c b.w b.c w
 by_cases h:cmpS a.w a.c b.w b.c=0
 ·have HF:Hid (cmpV a b=a.site-b.site):=hidp (by unfold cmpV;rw [if_neg (by simpa using h)])
  rw [h] at HC
  clear h
  obtain ⟨ha1,ha2⟩:=ha
  obtain ⟨hb1,hb2⟩:=hb
  go_enter Tryz.func177,Tryz.ntmps177
  go_wp2_with (go_at_call 114;refine (HC.out _).mono ?_;rintro e w' ⟨rfl,hb⟩;obtain ⟨x,rfl⟩:=wplus_of_below hb;clear hb)
  go_ret
  exact ⟨by rw [HF.out];rfl,zB⟩
 ·have HF:Hid (cmpV a b=cmpS a.w a.c b.w b.c):=hidp (by unfold cmpV;rw [if_pos h])
  have hne:(cmpS a.w a.c b.w b.c != 0)=true:=by simpa using h
  generalize cmpS a.w a.c b.w b.c=z at *
  go_enter Tryz.func177,Tryz.ntmps177
  go_wp2_with (go_at_call 114;refine (HC.out _).mono ?_;rintro e w' ⟨rfl,hb⟩;obtain ⟨x,rfl⟩:=wplus_of_below hb;clear hb)
  go_ret
  exact ⟨by rw [HF.out];rfl,zB⟩
theorem info5:(Tryz.prog.info? 5).map (fun i=>(i.zero,i.size,i.bytes))=some (some (.int .u8 0),1,1):=by kernel_rfl
def u8s (l:List UInt8):List Value:=l.map fun c=>.int .u8 (c.toNat:Int)
theorem u8s_append (a b:List UInt8):u8s (a++b)=u8s a++u8s b:=by simp [u8s]
theorem u8s_length (a:List UInt8):(u8s a).length=a.length:=by simp [u8s]
structure Buf (B:Nat) (w0:World) (v0:Value) (w:World) (v:Value) (bs:List UInt8):Prop where
 own:w.ownsRow B 5 1 v bs.length (u8s bs)
 grown:w0.grownBy w v0.ownBlock
 blk:v.ownBlock=v0.ownBlock∨∀ k,v.ownBlock=some k→w0.heap.size≤k
theorem grownBy_trans' {a b c:World} {r s:Option Nat} (h:a.grownBy b r) (k:b.grownBy c s) (hs:s=r∨∀ j,s=some j→a.heap.size≤j):a.grownBy c r:=
 ⟨k.os.trans h.os,k.tape.trans h.tape,k.output.trans h.output,Nat.le_trans h.size k.size,fun i hi hne=>by
   have h1:=h.block i hi hne
   rw [←h1]
   refine k.block i (Nat.lt_of_lt_of_le hi h.size) (fun e=>?_)
   rcases hs with hs | hs
   ·exact hne (e.trans hs)
   ·have:=hs i e.symm;omega⟩
theorem Buf.step {B:Nat} {w0 w w1:World} {v0 v:Value} {bs:List UInt8} {o:Obj} {x:Int} {g cap:Nat} {H:Nat} (c:UInt8) (h:Buf B w0 v0 w v bs) (hx:x=(c.toNat:Int))
  (hown:w1.ownsRow B 5 1 (.slice (some ⟨g,0,none⟩) (bs.length+1) cap) (bs.length+1) (u8s bs++[.int .u8 x])) (hg:(w.alloc o).grownBy w1 v.ownBlock) (hH:(w.alloc o).heap.size=H)
  (hl:v.ownBlock=some g∨g=H):Buf B w0 v0 w1 (.slice (some ⟨g,0,none⟩) (bs.length+1) cap) (bs++[c]):=by
 have hs:w0.heap.size≤w.heap.size:=h.grown.size
 refine ⟨?_,?_,?_⟩
 ·subst hx;simpa [u8s] using hown
 ·refine grownBy_trans' (h.grown) ?_ h.blk
  exact grownBy_trans' (World.grownBy_alloc w o v.ownBlock) hg (.inl rfl)
 ·rcases hl with hl | hl
  ·rcases h.blk with hb | hb
   ·left;rw [←hb,hl];rfl
   ·right;intro k hk;exact hb k (by rw [hl];exact hk)
  ·right;intro k hk
   have:k=g:=by simpa [Value.ownBlock] using hk.symm
   rw [this,hl,←hH];simp;omega
theorem or128:∀ x:Fin 256,bits BinOp.or IntKind.u8 (x.val:Int) 128=((x.val % 128+128:Nat):Int):=by decide +kernel
theorem or128_nat (m:Nat):bits BinOp.or IntKind.u8 ((m:Int) % 256) 128=(((m % 128+128).toUInt8.toNat:Nat):Int):=by
 have h:=or128 ⟨m % 256,Nat.mod_lt _ (by decide)⟩
 simp only at h
 have e:((m:Int) % 256)=((m % 256:Nat):Int):=by omega
 rw [e,h,Nat.mod_mod_of_dvd _ (by decide)]
 simp;omega
set_option maxRecDepth 100000 in
set_option maxHeartbeats 1000000 in
theorem put_any (B:Nat) (v:Value) (bs:List UInt8) (zs:List Nat) (lb lo c:Nat) (w:World) (hB:B≤w.heap.size)
  (hown:w.ownsRow B 5 1 v bs.length (u8s bs)) (hz:∀ z∈zs,z<4398046511104) (hbs:bs.length+6*zs.length≤1000000)
  (hl:∀ (i:Nat) (z:Nat),zs[i]?=some z→w.cell? ⟨lb,lo+i,none⟩=some (.int .i64 (z:Int))) (hne:v.ownBlock≠some lb):
  Calls Tryz.prog 183 #[v,.slice (some ⟨lb,lo,none⟩) zs.length c] w fun e w'=>∃ v',e=.returned v'∧Buf B w v w' v' (bs++numsB zs):=by
 obtain ⟨i0,hi,hz0,hz1,hz2⟩:=info_parts info5
 have hbuf0:Buf B w v w v bs:=⟨hown,World.grownBy.refl _ _,.inl rfl⟩
 have HBUF0:=hidp hbuf0
 have hlen:∀ k,k≤zs.length→(numsB (zs.take k)).length≤6*k:=by
  intro k
  induction k with
  | zero=>intro _;simp [numsB]
  | succ k ih=>
    intro hk
    have h1:=ih (by omega)
    rw [List.take_succ_eq_append_getElem (by omega)]
    simp only [numsB,List.flatMap_append,List.length_append,List.flatMap_cons,List.flatMap_nil,List.append_nil] at h1 ⊢
    have:=numB_len (zs[k]) 6 (hz _ (List.getElem_mem (by omega))) (by omega)
    omega
 have hcells:∀ (wr:World) (b:Value) (L:List UInt8),Buf B w v wr b L→∀ (k:Nat) (h:k<zs.length),wr.cell? ⟨lb,lo+k,none⟩=some (.int .i64 ((zs[k]:Nat):Int)):=by
  intro wr b L hb k h
  have h1:=hl k zs[k] (List.getElem?_eq_getElem h)
  have hlt:=World.block_lt_of_cell? w _ h1
  rw [World.cell?_of_block (w:=w) (hb.grown.block lb hlt (fun e=>hne e.symm))]
  exact h1
 have HLEN:=hidp hlen
 have HC:=hidp hcells
 clear hbuf0 hl hown hne hlen hcells
 have HZ:=hidp hz
 clear hz
 go_enter Tryz.func183,Tryz.ntmps183
 go_wp2
 go_loopw [0,9] (fun b i wr=>∃ (k:Nat) (L:List UInt8),k≤zs.length∧i=.int .i64 k∧L=bs++numsB (zs.take k)∧Buf B w v wr b L) (fun _ i _=>zs.length-(intOf i).toNat)
 case atStart=>exact ⟨0,bs,Nat.zero_le _,rfl,by simp [numsB],HBUF0.out⟩
 case round=>
  obtain ⟨k,L,hk,rfl,hLe,hbuf⟩:=hrel
  have HBUF:=hidp hbuf
  have HLE:=hidp hLe
  clear hbuf hLe
  by_cases hlt:k<zs.length
  ·have hcell:=HC.out wr _ _ HBUF.out k hlt
   go_wp2
   obtain ⟨wo,rfl⟩:∃ wo:World,wo=wr:=⟨_,rfl⟩
   have HZK:=hidp (HZ.out _ (List.getElem_mem hlt))
   generalize hzz:zs[k]=z at *
   have HZZ:=hidp hzz
   clear hzz hcell
   go_loopw [0,6] (fun b n wr=>∃ (m:Nat) (L':List UInt8),n=.int .i64 m∧L'++numB m=L++numB z∧Buf B w v wr b L') (fun _ n _=>(intOf n).toNat)
   case atStart=>exact ⟨z,L,rfl,rfl,HBUF.out⟩
   case round=>
    obtain ⟨m,L',rfl,hLm,hb⟩:=hrel
    have hL:L'.length≤1000000:=by
     have h1:=congrArg List.length hLm
     have h2:=numB_len z 6 HZK.out (by omega)
     have h3:=congrArg List.length HLE.out
     have h4:=HLEN.out k hk
     simp only [List.length_append] at h1 h3
     omega
    have HB:=hidp hb
    have HM:=hidp hLm
    have HL:=hidp hL
    clear hb hLm hL
    by_cases hm:128≤m
    ·go_wp2_with (at_builtin;go_must (refine wpList_append_lies _ rfl _ _ 207 rfl B 5 i0 (.int .u8 0) 1 1 Tryz.underlying207 hi hz0 hz1 hz2 rfl (by decide) _ _ _ rfl (HB.out.own.alloc _) ⟨wr.heap.size,0,none⟩ 1 1 [_] rfl rfl (cell_one_new _ _ _) ?c1 (by decide) ?c2 ?c3 ?c4 _ rfl ?_))
     case c1=>simp [Value.oneCell']
     case c2=>have:=HL.out;simp only [maxLen];omega
     case c3=>have:=HL.out;omega
     case c4=>have:=HB.out.grown.size;simp;omega
     intro g cap w1 hown1 hgrow hgl hlt1
     have hb1:=Buf.step (m % 128+128).toUInt8 HB.out (or128_nat m) hown1 hgrow rfl (by simpa using hgl)
     have HB1:=hidp hb1
     clear hb1 hown1 hgrow hgl hlt1
     go_wp2
     go_roundw
     case rel=>
      refine ⟨m / 128,_,?_,?_,HB1.out⟩
      ·exact congrArg (Value.int IntKind.i64) (by omega)
      ·rw [List.append_assoc,←HM.out,numB_ge (n:=m) (by omega)];rfl
     case measure=>simp only [intOf];omega
    ·go_wp2_with (at_builtin;go_must (refine wpList_append_lies _ rfl _ _ 207 rfl B 5 i0 (.int .u8 0) 1 1 Tryz.underlying207 hi hz0 hz1 hz2 rfl (by decide) _ _ _ rfl (HB.out.own.alloc _) ⟨wr.heap.size,0,none⟩ 1 1 [_] rfl rfl (cell_one_new _ _ _) ?c1 (by decide) ?c2 ?c3 ?c4 _ rfl ?_))
     case c1=>simp [Value.oneCell']
     case c2=>have:=HL.out;simp only [maxLen];omega
     case c3=>have:=HL.out;omega
     case c4=>have:=HB.out.grown.size;simp;omega
     intro g cap w1 hown1 hgrow hgl hlt1
     have hb1:=Buf.step m.toUInt8 HB.out (by simp;omega) hown1 hgrow rfl (by simpa using hgl)
     have HB1:=hidp hb1
     clear hb1 hown1 hgrow hgl hlt1
     go_wp2
     go_roundw
     case rel=>
      refine ⟨k+1,_,by omega,by go_num,?_,HB1.out⟩
      rw [List.take_succ_eq_append_getElem hlt,HZZ.out]
      have h1:=HM.out
      rw [numB_lt (n:=m) (by omega),HLE.out] at h1
      simpa [numsB] using h1
     case measure=>simp [intOf];omega
  ·go_wp2
   go_ret
   have hk':k=zs.length:=by omega
   refine ⟨_,rfl,?_⟩
   have h1:=HBUF.out
   rw [HLE.out,hk',List.take_length] at h1
   exact h1
def WsAt (w:World) (A:Option Addr) (ws:List WrP):Prop:=∀ (i:Nat) (x:WrP),ws[i]?=some x→∃ b o,A=some ⟨b,o,none⟩∧b<w.heap.size∧w.cell? ⟨b,o+i*3,none⟩=some (.int .i64 x.key)∧w.cell? ⟨b,o+i*3+1,none⟩=some (.string x.data)∧w.cell? ⟨b,o+i*3+2,none⟩=some (.bool x.gone)
theorem WsAt.below {w w':World} {A:Option Addr} {ws:List WrP} (h:WsAt w A ws) (hb:Below w.heap.size w w'):WsAt w' A ws:=fun i x hx=>by
 obtain ⟨b,o,hA,hlt,h0,h1,h2⟩:=h i x hx
 refine ⟨b,o,hA,Nat.lt_of_lt_of_le hlt hb.size,?_,?_,?_⟩
 ·rw [hb.cell (p:=⟨b,o+i*3,none⟩) hlt];exact h0
 ·rw [hb.cell (p:=⟨b,o+i*3+1,none⟩) hlt];exact h1
 ·rw [hb.cell (p:=⟨b,o+i*3+2,none⟩) hlt];exact h2
set_option maxHeartbeats 1000000 in
theorem rightWs_any (A:Option Addr) (c:Nat) (ws:List WrP) (w:World) (hn:ws.length≤1000000) (hws:WsAt w A ws):
  Calls Tryz.prog 76 #[.slice A ws.length c] w fun e w'=>e=.returned (.bool (rightWs ws))∧Below w.heap.size w w':=by
 have HWS:=hidp hws
 clear hws
 go_enter Tryz.func76,Tryz.ntmps76
 go_wp2
 go_loopw [3,8] (fun l i wr=>∃ (k:Nat) (z:Int),k≤ws.length∧i=.int .i64 k∧l=.int .i64 z∧-1≤z∧Below w.heap.size w wr∧rwGo (-1) ws=rwGo z (ws.drop k)) (fun _ i _=>ws.length-(intOf i).toNat)
 case atStart=>exact ⟨0,-1,Nat.zero_le _,rfl,rfl,by omega,Below.refl _ _,rfl⟩
 case round=>
  obtain ⟨k,z,hk,rfl,rfl,hz,hbl,hrw⟩:=hrel
  obtain ⟨x,rfl⟩:=wplus_of_below hbl
  clear hbl
  have HRW:=hidp hrw
  clear hrw
  by_cases hlt:k<ws.length
  ·obtain ⟨b,o,rfl,hb,h0,h1,h2⟩:=HWS.out k ws[k] (List.getElem?_eq_getElem hlt)
   haveI:SzGe (b+1) w:=⟨hb⟩
   generalize hx:ws[k]=y at h0 h1 h2
   have HX:=hidp hx
   clear hx
   have hdrop:ws.drop k=y::ws.drop (k+1):=by rw [List.drop_eq_getElem_cons hlt,HX.out]
   have hbad:badW z y=true→rightWs ws=false:=fun h=>by
    rw [rightWs,HRW.out,hdrop];simp [rwGo,h]
   have hgood:badW z y=false→rwGo (-1) ws=rwGo y.key (ws.drop (k+1)):=fun h=>by
    rw [HRW.out,hdrop];simp [rwGo,h]
   have HB:=hidp hbad
   have HG:=hidp hgood
   clear hbad hgood hdrop
   by_cases c1:y.key≤z
   ·have HF:=hidp (HB.out (by simp [badW,c1]))
    go_wp2
    go_ret
    exact ⟨by rw [HF.out];rfl,zB⟩
   by_cases c2:8≤y.key
   ·have HF:=hidp (HB.out (by simp [badW,c2]))
    go_wp2
    go_ret
    exact ⟨by rw [HF.out];rfl,zB⟩
   by_cases c3:12<y.data.size
   ·have HF:=hidp (HB.out (by simp [badW,c3]))
    go_wp2
    go_ret
    exact ⟨by rw [HF.out];rfl,zB⟩
   obtain ⟨key,data,gone⟩:=y
   simp only at *
   cases gone
   ·have HF:=hidp (HG.out (by simp [badW];omega))
    go_wp2
    go_roundw
    case rel=>exact ⟨k+1,key,by omega,by go_num,rfl,by omega,zB,HF.out⟩
    case measure=>simp [intOf];omega
   ·by_cases c4:data.toList=[]
    ·have hs:data.size=0:=by rw [ba_size,←ByteArray.toList_eq,c4];rfl
     have HF:=hidp (HG.out (by simp [badW,hs];omega))
     clear hs
     go_wp2
     go_roundw
     case rel=>exact ⟨k+1,key,by omega,by go_num,rfl,by omega,zB,HF.out⟩
     case measure=>simp [intOf];omega
    ·have hs:data.size≠0:=by rw [ba_size,←ByteArray.toList_eq];intro h;exact c4 (List.eq_nil_of_length_eq_zero h)
     have HF:=hidp (HB.out (by simp [badW,hs]))
     clear hs
     have c4':(!data.toList.isEmpty)=true:=by simpa using c4
     go_wp2
     go_ret
     exact ⟨by rw [HF.out];rfl,zB⟩
  ·have hkk:k=ws.length:=by omega
   have hfin:rightWs ws=(decide (1≤ws.length)&&decide (ws.length≤5)):=by
    have h1:=HRW.out
    rw [hkk,List.drop_length] at h1
    rw [rightWs,h1];simp [rwGo]
   have HF:=hidp hfin
   clear hfin hkk HRW
   by_cases c1:1≤ws.length
   ·by_cases c2:ws.length≤5
    ·go_wp2
     go_ret
     exact ⟨by rw [HF.out];simp [c1,c2];try omega,zB⟩
    ·go_wp2
     go_ret
     exact ⟨by rw [HF.out];simp [c1,c2];try omega,zB⟩
   ·go_wp2
    go_ret
    exact ⟨by rw [HF.out];simp [c1],zB⟩
theorem size3 (w:World):(sizeOf 3).run Tryz.prog w=.ok 1 w:=by kernel_rfl
@[go_sem] theorem eqVec (w:World) (d:Nat) (a0 a1 a2 a3 b0 b1 b2 b3:Int):
   (Op.equalIn (d+2) 32 (.agg #[.int .i64 a0,.int .i64 a1,.int .i64 a2,.int .i64 a3]) (.agg #[.int .i64 b0,.int .i64 b1,.int .i64 b2,.int .i64 b3])).run Tryz.prog w=.ok (a0==b0&&a1==b1&&a2==b2&&a3==b3) w:=
  run_equalIn_four w d 32 3 .i64 _ _ _ _ _ _ _ _ Tryz.underlying32 size3 Tryz.underlying3
def rgtB (a0 a1 a2 a3:Int):Bool:=decide (0≤a0∧a0≤1099511627776)&&decide (0≤a1∧a1≤1099511627776)&&decide (0≤a2∧a2≤1099511627776)&&decide (0≤a3∧a3≤1099511627776)
@[go_sem] theorem ix0 (w:World) (a0 a1 a2 a3:Int):(Instr.index 32 (.agg #[.int .i64 a0,.int .i64 a1,.int .i64 a2,.int .i64 a3]) (.int .i64 0)).run Tryz.prog w=.ok (.int .i64 a0) w:=by kernel_rfl
@[go_sem] theorem ix1 (w:World) (a0 a1 a2 a3:Int):(Instr.index 32 (.agg #[.int .i64 a0,.int .i64 a1,.int .i64 a2,.int .i64 a3]) (.int .i64 1)).run Tryz.prog w=.ok (.int .i64 a1) w:=by kernel_rfl
@[go_sem] theorem ix2 (w:World) (a0 a1 a2 a3:Int):(Instr.index 32 (.agg #[.int .i64 a0,.int .i64 a1,.int .i64 a2,.int .i64 a3]) (.int .i64 2)).run Tryz.prog w=.ok (.int .i64 a2) w:=by kernel_rfl
@[go_sem] theorem ix3 (w:World) (a0 a1 a2 a3:Int):(Instr.index 32 (.agg #[.int .i64 a0,.int .i64 a1,.int .i64 a2,.int .i64 a3]) (.int .i64 3)).run Tryz.prog w=.ok (.int .i64 a3) w:=by kernel_rfl
set_option maxHeartbeats 2000000 in
theorem right_any (a0 a1 a2 a3:Int) (w:World):
  Calls Tryz.prog 77 #[.agg #[.int .i64 a0,.int .i64 a1,.int .i64 a2,.int .i64 a3]] w
   fun e w'=>e=.returned (.bool (rgtB a0 a1 a2 a3))∧Below w.heap.size w w':=by
 go_enter Tryz.func77,Tryz.ntmps77
 go_wp2
 refine wp_loop_rounds 5 ?_
 rw [rounds_succ]
 by_cases p0:a0<0
 ·go_wp2
  all_goals go_ret
  all_goals exact ⟨by simp [rgtB];omega,zB⟩
 by_cases q0:1099511627776<a0
 ·go_wp2
  all_goals go_ret
  all_goals exact ⟨by simp [rgtB];omega,zB⟩
 go_wp2
 rw [rounds_succ]
 by_cases p1:a1<0
 ·go_wp2
  all_goals go_ret
  all_goals exact ⟨by simp [rgtB];omega,zB⟩
 by_cases q1:1099511627776<a1
 ·go_wp2
  all_goals go_ret
  all_goals exact ⟨by simp [rgtB];omega,zB⟩
 go_wp2
 rw [rounds_succ]
 by_cases p2:a2<0
 ·go_wp2
  all_goals go_ret
  all_goals exact ⟨by simp [rgtB];omega,zB⟩
 by_cases q2:1099511627776<a2
 ·go_wp2
  all_goals go_ret
  all_goals exact ⟨by simp [rgtB];omega,zB⟩
 go_wp2
 rw [rounds_succ]
 by_cases p3:a3<0
 ·go_wp2
  all_goals go_ret
  all_goals exact ⟨by simp [rgtB];omega,zB⟩
 by_cases q3:1099511627776<a3
 ·go_wp2
  all_goals go_ret
  all_goals exact ⟨by simp [rgtB];omega,zB⟩
 go_wp2
 rw [rounds_succ]
 go_wp2
 go_ret
 exact ⟨by simp [rgtB];omega,zB⟩
theorem rightS_is {aw ac:Int} {b:Bool} (h:rightS aw ac=b) (w:World):Calls Tryz.prog 135 #[.agg #[.int .i64 aw,.int .i64 ac]] w fun e w'=>e=.returned (.bool b)∧Below w.heap.size w w':=by
 subst h;exact rightS_any aw ac w
theorem right_is {a0 a1 a2 a3:Int} {b:Bool} (h:rgtB a0 a1 a2 a3=b) (w:World):Calls Tryz.prog 77 #[.agg #[.int .i64 a0,.int .i64 a1,.int .i64 a2,.int .i64 a3]] w fun e w'=>e=.returned (.bool b)∧Below w.heap.size w w':=by
 subst h;exact right_any a0 a1 a2 a3 w
theorem headTx_eq (t:TxP):headTx t=(decide (0≤t.site∧t.site<4)&&decide (1≤t.seq∧t.seq≤1099511627776)&&rightS t.wall t.count&&rgtB t.d0 t.d1 t.d2 t.d3&&decide (depAt t=t.seq-1)):=by
 rw [Bool.eq_iff_iff]
 simp only [headTx,okN,rightS,rgtB,Bool.and_eq_true,decide_eq_true_eq]
 constructor <;> (intro h;simp only [and_assoc] at h ⊢;obtain ⟨h0,h1,h2,h3,h4,h5,h6,h7,h8⟩:=h;omega)
set_option maxHeartbeats 2000000 in
theorem rtx_1 (site:Int) (seq wall count d0 d1 d2 d3:Int) (A:Option Addr) (c:Nat) (ws:List WrP) (w:World) (hn:ws.length≤1000000) (hws:WsAt w A ws) (hseq:-9223372036854775808≤seq∧seq≤9223372036854775807) (h1:site<0):
  Calls Tryz.prog 82 #[.agg #[.int .i64 site,.int .i64 seq,.int .i64 wall,.int .i64 count,.int .i64 d0,.int .i64 d1,.int .i64 d2,.int .i64 d3,.slice A ws.length c]] w
   fun e w'=>e=.returned (.bool (rightTx ⟨site,seq,wall,count,d0,d1,d2,d3,ws⟩))∧Below w.heap.size w w':=by
 have HF:Hid (rightTx ⟨site,seq,wall,count,d0,d1,d2,d3,ws⟩=false):=hidp (by rw [rightTx,headTx_eq];simp;omega)
 clear hws
 have _:decide (site<0)=true:=by simpa using h1
 go_enter Tryz.func82,Tryz.ntmps82
 go_wp2
 refine wp_region_plus (by kernel_rfl) (by kernel_rfl) ?_
 repeat (first | go_big_quiet_skip | (go_big_quiet_want;go_big_quiet_op;first | go_big_quiet_on | (apply Exists.intro;refine ⟨fun _=>?_,?_⟩;(first | (go_at_call 135;exact Calls.plus_of (HS.out _)) | (go_at_call 77;exact Calls.plus_of (HR.out _)));go_big_quiet_on)))
 refine wpQuiet_nil ?_
 rintro _ ⟨x,rfl⟩
 go_wp2
 go_ret
 exact ⟨by rw [HF.out];rfl,zB⟩
set_option maxHeartbeats 2000000 in
theorem rtx_2 (site:Int) (seq wall count d0 d1 d2 d3:Int) (A:Option Addr) (c:Nat) (ws:List WrP) (w:World) (hn:ws.length≤1000000) (hws:WsAt w A ws) (hseq:-9223372036854775808≤seq∧seq≤9223372036854775807) (h1:0≤site) (h2:4≤site):
  Calls Tryz.prog 82 #[.agg #[.int .i64 site,.int .i64 seq,.int .i64 wall,.int .i64 count,.int .i64 d0,.int .i64 d1,.int .i64 d2,.int .i64 d3,.slice A ws.length c]] w
   fun e w'=>e=.returned (.bool (rightTx ⟨site,seq,wall,count,d0,d1,d2,d3,ws⟩))∧Below w.heap.size w w':=by
 have HF:Hid (rightTx ⟨site,seq,wall,count,d0,d1,d2,d3,ws⟩=false):=hidp (by rw [rightTx,headTx_eq];simp;omega)
 clear hws
 have _:decide (site<0)=false:=by simpa using h1
 have _:decide (4≤site)=true:=by simpa using h2
 go_enter Tryz.func82,Tryz.ntmps82
 go_wp2
 refine wp_region_plus (by kernel_rfl) (by kernel_rfl) ?_
 repeat (first | go_big_quiet_skip | (go_big_quiet_want;go_big_quiet_op;first | go_big_quiet_on | (apply Exists.intro;refine ⟨fun _=>?_,?_⟩;(first | (go_at_call 135;exact Calls.plus_of (HS.out _)) | (go_at_call 77;exact Calls.plus_of (HR.out _)));go_big_quiet_on)))
 refine wpQuiet_nil ?_
 rintro _ ⟨x,rfl⟩
 go_wp2
 go_ret
 exact ⟨by rw [HF.out];rfl,zB⟩
set_option maxHeartbeats 2000000 in
theorem rtx_3 (site:Int) (seq wall count d0 d1 d2 d3:Int) (A:Option Addr) (c:Nat) (ws:List WrP) (w:World) (hn:ws.length≤1000000) (hws:WsAt w A ws) (hseq:-9223372036854775808≤seq∧seq≤9223372036854775807) (h1:0≤site) (h2:site<4) (h3:seq<1):
  Calls Tryz.prog 82 #[.agg #[.int .i64 site,.int .i64 seq,.int .i64 wall,.int .i64 count,.int .i64 d0,.int .i64 d1,.int .i64 d2,.int .i64 d3,.slice A ws.length c]] w
   fun e w'=>e=.returned (.bool (rightTx ⟨site,seq,wall,count,d0,d1,d2,d3,ws⟩))∧Below w.heap.size w w':=by
 have HF:Hid (rightTx ⟨site,seq,wall,count,d0,d1,d2,d3,ws⟩=false):=hidp (by rw [rightTx,headTx_eq];simp;omega)
 clear hws
 have _:decide (site<0)=false:=by simpa using h1
 have _:decide (4≤site)=false:=by simpa using h2
 have _:decide (seq<1)=true:=by simpa using h3
 go_enter Tryz.func82,Tryz.ntmps82
 go_wp2
 refine wp_region_plus (by kernel_rfl) (by kernel_rfl) ?_
 repeat (first | go_big_quiet_skip | (go_big_quiet_want;go_big_quiet_op;first | go_big_quiet_on | (apply Exists.intro;refine ⟨fun _=>?_,?_⟩;(first | (go_at_call 135;exact Calls.plus_of (HS.out _)) | (go_at_call 77;exact Calls.plus_of (HR.out _)));go_big_quiet_on)))
 refine wpQuiet_nil ?_
 rintro _ ⟨x,rfl⟩
 go_wp2
 go_ret
 exact ⟨by rw [HF.out];rfl,zB⟩
set_option maxHeartbeats 2000000 in
theorem rtx_4 (site:Int) (seq wall count d0 d1 d2 d3:Int) (A:Option Addr) (c:Nat) (ws:List WrP) (w:World) (hn:ws.length≤1000000) (hws:WsAt w A ws) (hseq:-9223372036854775808≤seq∧seq≤9223372036854775807) (h1:0≤site) (h2:site<4) (h3:1≤seq) (h4:1099511627776<seq):
  Calls Tryz.prog 82 #[.agg #[.int .i64 site,.int .i64 seq,.int .i64 wall,.int .i64 count,.int .i64 d0,.int .i64 d1,.int .i64 d2,.int .i64 d3,.slice A ws.length c]] w
   fun e w'=>e=.returned (.bool (rightTx ⟨site,seq,wall,count,d0,d1,d2,d3,ws⟩))∧Below w.heap.size w w':=by
 have HF:Hid (rightTx ⟨site,seq,wall,count,d0,d1,d2,d3,ws⟩=false):=hidp (by rw [rightTx,headTx_eq];simp;omega)
 clear hws
 have _:decide (site<0)=false:=by simpa using h1
 have _:decide (4≤site)=false:=by simpa using h2
 have _:decide (seq<1)=false:=by simpa using h3
 have _:decide (1099511627776<seq)=true:=by simpa using h4
 go_enter Tryz.func82,Tryz.ntmps82
 go_wp2
 refine wp_region_plus (by kernel_rfl) (by kernel_rfl) ?_
 repeat (first | go_big_quiet_skip | (go_big_quiet_want;go_big_quiet_op;first | go_big_quiet_on | (apply Exists.intro;refine ⟨fun _=>?_,?_⟩;(first | (go_at_call 135;exact Calls.plus_of (HS.out _)) | (go_at_call 77;exact Calls.plus_of (HR.out _)));go_big_quiet_on)))
 refine wpQuiet_nil ?_
 rintro _ ⟨x,rfl⟩
 go_wp2
 go_ret
 exact ⟨by rw [HF.out];rfl,zB⟩
set_option maxHeartbeats 2000000 in
theorem rtx_5 (site:Int) (seq wall count d0 d1 d2 d3:Int) (A:Option Addr) (c:Nat) (ws:List WrP) (w:World) (hn:ws.length≤1000000) (hws:WsAt w A ws) (hseq:-9223372036854775808≤seq∧seq≤9223372036854775807) (h1:0≤site) (h2:site<4) (h3:1≤seq) (h4:seq≤1099511627776) (hs:rightS wall count=false):
  Calls Tryz.prog 82 #[.agg #[.int .i64 site,.int .i64 seq,.int .i64 wall,.int .i64 count,.int .i64 d0,.int .i64 d1,.int .i64 d2,.int .i64 d3,.slice A ws.length c]] w
   fun e w'=>e=.returned (.bool (rightTx ⟨site,seq,wall,count,d0,d1,d2,d3,ws⟩))∧Below w.heap.size w w':=by
 have HF:Hid (rightTx ⟨site,seq,wall,count,d0,d1,d2,d3,ws⟩=false):=hidp (by rw [rightTx,headTx_eq];simp [hs])
 clear hws
 have HS:=hidp (fun w=>rightS_is hs w)
 clear hs
 have _:decide (site<0)=false:=by simpa using h1
 have _:decide (4≤site)=false:=by simpa using h2
 have _:decide (seq<1)=false:=by simpa using h3
 have _:decide (1099511627776<seq)=false:=by simpa using h4
 go_enter Tryz.func82,Tryz.ntmps82
 go_wp2
 refine wp_region_plus (by kernel_rfl) (by kernel_rfl) ?_
 repeat (first | go_big_quiet_skip | (go_big_quiet_want;go_big_quiet_op;first | go_big_quiet_on | (apply Exists.intro;refine ⟨fun _=>?_,?_⟩;(first | (go_at_call 135;exact Calls.plus_of (HS.out _)) | (go_at_call 77;exact Calls.plus_of (HR.out _)));go_big_quiet_on)))
 refine wpQuiet_nil ?_
 rintro _ ⟨x,rfl⟩
 go_wp2
 go_ret
 exact ⟨by rw [HF.out];rfl,zB⟩
set_option maxHeartbeats 2000000 in
theorem rtx_6 (site:Int) (seq wall count d0 d1 d2 d3:Int) (A:Option Addr) (c:Nat) (ws:List WrP) (w:World) (hn:ws.length≤1000000) (hws:WsAt w A ws) (hseq:-9223372036854775808≤seq∧seq≤9223372036854775807) (h1:0≤site) (h2:site<4) (h3:1≤seq) (h4:seq≤1099511627776) (hs:rightS wall count=true) (hr:rgtB d0 d1 d2 d3=false):
  Calls Tryz.prog 82 #[.agg #[.int .i64 site,.int .i64 seq,.int .i64 wall,.int .i64 count,.int .i64 d0,.int .i64 d1,.int .i64 d2,.int .i64 d3,.slice A ws.length c]] w
   fun e w'=>e=.returned (.bool (rightTx ⟨site,seq,wall,count,d0,d1,d2,d3,ws⟩))∧Below w.heap.size w w':=by
 have HF:Hid (rightTx ⟨site,seq,wall,count,d0,d1,d2,d3,ws⟩=false):=hidp (by rw [rightTx,headTx_eq];simp [hr])
 clear hws
 have HS:=hidp (fun w=>rightS_is hs w)
 have HR:=hidp (fun w=>right_is hr w)
 clear hs hr
 have _:decide (site<0)=false:=by simpa using h1
 have _:decide (4≤site)=false:=by simpa using h2
 have _:decide (seq<1)=false:=by simpa using h3
 have _:decide (1099511627776<seq)=false:=by simpa using h4
 go_enter Tryz.func82,Tryz.ntmps82
 go_wp2
 refine wp_region_plus (by kernel_rfl) (by kernel_rfl) ?_
 repeat (first | go_big_quiet_skip | (go_big_quiet_want;go_big_quiet_op;first | go_big_quiet_on | (apply Exists.intro;refine ⟨fun _=>?_,?_⟩;(first | (go_at_call 135;exact Calls.plus_of (HS.out _)) | (go_at_call 77;exact Calls.plus_of (HR.out _)));go_big_quiet_on)))
 refine wpQuiet_nil ?_
 rintro _ ⟨x,rfl⟩
 go_wp2
 go_ret
 exact ⟨by rw [HF.out];rfl,zB⟩
set_option maxHeartbeats 2000000 in
theorem rtx_70 (seq wall count d0 d1 d2 d3:Int) (A:Option Addr) (c:Nat) (ws:List WrP) (w:World) (hn:ws.length≤1000000) (hws:WsAt w A ws) (hseq:-9223372036854775808≤seq∧seq≤9223372036854775807) (h3:1≤seq) (h4:seq≤1099511627776) (hs:rightS wall count=true) (hr:rgtB d0 d1 d2 d3=true) (hd:d0≠seq-1):
  Calls Tryz.prog 82 #[.agg #[.int .i64 0,.int .i64 seq,.int .i64 wall,.int .i64 count,.int .i64 d0,.int .i64 d1,.int .i64 d2,.int .i64 d3,.slice A ws.length c]] w
   fun e w'=>e=.returned (.bool (rightTx ⟨0,seq,wall,count,d0,d1,d2,d3,ws⟩))∧Below w.heap.size w w':=by
 have HF:Hid (rightTx ⟨0,seq,wall,count,d0,d1,d2,d3,ws⟩=false):=hidp (by rw [rightTx,headTx_eq];simp [depAt,hd])
 clear hws
 have HS:=hidp (fun w=>rightS_is hs w)
 have HR:=hidp (fun w=>right_is hr w)
 have hd1:(d0 != seq-1)=true:=by simpa using hd
 clear hs hr hd
 have _:decide (seq<1)=false:=by simpa using h3
 have _:decide (1099511627776<seq)=false:=by simpa using h4
 go_enter Tryz.func82,Tryz.ntmps82
 go_wp2
 refine wp_region_plus (by kernel_rfl) (by kernel_rfl) ?_
 repeat (first | go_big_quiet_skip | (go_big_quiet_want;go_big_quiet_op;first | go_big_quiet_on | (apply Exists.intro;refine ⟨fun _=>?_,?_⟩;(first | (go_at_call 135;exact Calls.plus_of (HS.out _)) | (go_at_call 77;exact Calls.plus_of (HR.out _)));go_big_quiet_on)))
 refine wpQuiet_nil ?_
 rintro _ ⟨x,rfl⟩
 go_wp2
 go_ret
 exact ⟨by rw [HF.out];rfl,zB⟩
set_option maxHeartbeats 2000000 in
theorem rtx_80 (seq wall count d0 d1 d2 d3:Int) (A:Option Addr) (c:Nat) (ws:List WrP) (w:World) (hn:ws.length≤1000000) (hws:WsAt w A ws) (hseq:-9223372036854775808≤seq∧seq≤9223372036854775807) (h3:1≤seq) (h4:seq≤1099511627776) (hs:rightS wall count=true) (hr:rgtB d0 d1 d2 d3=true) (hd:d0=seq-1):
  Calls Tryz.prog 82 #[.agg #[.int .i64 0,.int .i64 seq,.int .i64 wall,.int .i64 count,.int .i64 d0,.int .i64 d1,.int .i64 d2,.int .i64 d3,.slice A ws.length c]] w
   fun e w'=>e=.returned (.bool (rightTx ⟨0,seq,wall,count,d0,d1,d2,d3,ws⟩))∧Below w.heap.size w w':=by
 have HF:Hid (rightTx ⟨0,seq,wall,count,d0,d1,d2,d3,ws⟩=rightWs ws):=hidp (by rw [rightTx,headTx_eq];simp only [depAt];rw [hs,hr,decide_eq_true (show 1≤seq∧seq≤1099511627776 from ⟨h3,h4⟩)];simp [hd])
 have HS:=hidp (fun w=>rightS_is hs w)
 have HR:=hidp (fun w=>right_is hr w)
 have HW:=hidp hws
 have hd1:(d0 != seq-1)=false:=by simpa using hd
 clear hs hr hd hws
 have _:decide (seq<1)=false:=by simpa using h3
 have _:decide (1099511627776<seq)=false:=by simpa using h4
 go_enter Tryz.func82,Tryz.ntmps82
 go_wp2
 refine wp_region_plus (by kernel_rfl) (by kernel_rfl) ?_
 repeat (first | go_big_quiet_skip | (go_big_quiet_want;go_big_quiet_op;first | go_big_quiet_on | (apply Exists.intro;refine ⟨fun _=>?_,?_⟩;(first | (go_at_call 135;exact Calls.plus_of (HS.out _)) | (go_at_call 77;exact Calls.plus_of (HR.out _)));go_big_quiet_on)))
 refine wpQuiet_nil ?_
 rintro _ ⟨x,rfl⟩
 go_wp2_with fail
 refine (rightWs_any A c ws _ hn (HW.out.below zB)).mono ?_
 rintro e w' ⟨rfl,hb⟩
 obtain ⟨y,rfl⟩:=wplus_of_below hb
 clear hb
 go_wp2
 go_ret
 exact ⟨by rw [HF.out];rfl,zB⟩
set_option maxHeartbeats 2000000 in
theorem rtx_71 (seq wall count d0 d1 d2 d3:Int) (A:Option Addr) (c:Nat) (ws:List WrP) (w:World) (hn:ws.length≤1000000) (hws:WsAt w A ws) (hseq:-9223372036854775808≤seq∧seq≤9223372036854775807) (h3:1≤seq) (h4:seq≤1099511627776) (hs:rightS wall count=true) (hr:rgtB d0 d1 d2 d3=true) (hd:d1≠seq-1):
  Calls Tryz.prog 82 #[.agg #[.int .i64 1,.int .i64 seq,.int .i64 wall,.int .i64 count,.int .i64 d0,.int .i64 d1,.int .i64 d2,.int .i64 d3,.slice A ws.length c]] w
   fun e w'=>e=.returned (.bool (rightTx ⟨1,seq,wall,count,d0,d1,d2,d3,ws⟩))∧Below w.heap.size w w':=by
 have HF:Hid (rightTx ⟨1,seq,wall,count,d0,d1,d2,d3,ws⟩=false):=hidp (by rw [rightTx,headTx_eq];simp [depAt,hd])
 clear hws
 have HS:=hidp (fun w=>rightS_is hs w)
 have HR:=hidp (fun w=>right_is hr w)
 have hd1:(d1 != seq-1)=true:=by simpa using hd
 clear hs hr hd
 have _:decide (seq<1)=false:=by simpa using h3
 have _:decide (1099511627776<seq)=false:=by simpa using h4
 go_enter Tryz.func82,Tryz.ntmps82
 go_wp2
 refine wp_region_plus (by kernel_rfl) (by kernel_rfl) ?_
 repeat (first | go_big_quiet_skip | (go_big_quiet_want;go_big_quiet_op;first | go_big_quiet_on | (apply Exists.intro;refine ⟨fun _=>?_,?_⟩;(first | (go_at_call 135;exact Calls.plus_of (HS.out _)) | (go_at_call 77;exact Calls.plus_of (HR.out _)));go_big_quiet_on)))
 refine wpQuiet_nil ?_
 rintro _ ⟨x,rfl⟩
 go_wp2
 go_ret
 exact ⟨by rw [HF.out];rfl,zB⟩
set_option maxHeartbeats 2000000 in
theorem rtx_81 (seq wall count d0 d1 d2 d3:Int) (A:Option Addr) (c:Nat) (ws:List WrP) (w:World) (hn:ws.length≤1000000) (hws:WsAt w A ws) (hseq:-9223372036854775808≤seq∧seq≤9223372036854775807) (h3:1≤seq) (h4:seq≤1099511627776) (hs:rightS wall count=true) (hr:rgtB d0 d1 d2 d3=true) (hd:d1=seq-1):
  Calls Tryz.prog 82 #[.agg #[.int .i64 1,.int .i64 seq,.int .i64 wall,.int .i64 count,.int .i64 d0,.int .i64 d1,.int .i64 d2,.int .i64 d3,.slice A ws.length c]] w
   fun e w'=>e=.returned (.bool (rightTx ⟨1,seq,wall,count,d0,d1,d2,d3,ws⟩))∧Below w.heap.size w w':=by
 have HF:Hid (rightTx ⟨1,seq,wall,count,d0,d1,d2,d3,ws⟩=rightWs ws):=hidp (by rw [rightTx,headTx_eq];simp only [depAt];rw [hs,hr,decide_eq_true (show 1≤seq∧seq≤1099511627776 from ⟨h3,h4⟩)];simp [hd])
 have HS:=hidp (fun w=>rightS_is hs w)
 have HR:=hidp (fun w=>right_is hr w)
 have HW:=hidp hws
 have hd1:(d1 != seq-1)=false:=by simpa using hd
 clear hs hr hd hws
 have _:decide (seq<1)=false:=by simpa using h3
 have _:decide (1099511627776<seq)=false:=by simpa using h4
 go_enter Tryz.func82,Tryz.ntmps82
 go_wp2
 refine wp_region_plus (by kernel_rfl) (by kernel_rfl) ?_
 repeat (first | go_big_quiet_skip | (go_big_quiet_want;go_big_quiet_op;first | go_big_quiet_on | (apply Exists.intro;refine ⟨fun _=>?_,?_⟩;(first | (go_at_call 135;exact Calls.plus_of (HS.out _)) | (go_at_call 77;exact Calls.plus_of (HR.out _)));go_big_quiet_on)))
 refine wpQuiet_nil ?_
 rintro _ ⟨x,rfl⟩
 go_wp2_with fail
 refine (rightWs_any A c ws _ hn (HW.out.below zB)).mono ?_
 rintro e w' ⟨rfl,hb⟩
 obtain ⟨y,rfl⟩:=wplus_of_below hb
 clear hb
 go_wp2
 go_ret
 exact ⟨by rw [HF.out];rfl,zB⟩
set_option maxHeartbeats 2000000 in
theorem rtx_72 (seq wall count d0 d1 d2 d3:Int) (A:Option Addr) (c:Nat) (ws:List WrP) (w:World) (hn:ws.length≤1000000) (hws:WsAt w A ws) (hseq:-9223372036854775808≤seq∧seq≤9223372036854775807) (h3:1≤seq) (h4:seq≤1099511627776) (hs:rightS wall count=true) (hr:rgtB d0 d1 d2 d3=true) (hd:d2≠seq-1):
  Calls Tryz.prog 82 #[.agg #[.int .i64 2,.int .i64 seq,.int .i64 wall,.int .i64 count,.int .i64 d0,.int .i64 d1,.int .i64 d2,.int .i64 d3,.slice A ws.length c]] w
   fun e w'=>e=.returned (.bool (rightTx ⟨2,seq,wall,count,d0,d1,d2,d3,ws⟩))∧Below w.heap.size w w':=by
 have HF:Hid (rightTx ⟨2,seq,wall,count,d0,d1,d2,d3,ws⟩=false):=hidp (by rw [rightTx,headTx_eq];simp [depAt,hd])
 clear hws
 have HS:=hidp (fun w=>rightS_is hs w)
 have HR:=hidp (fun w=>right_is hr w)
 have hd1:(d2 != seq-1)=true:=by simpa using hd
 clear hs hr hd
 have _:decide (seq<1)=false:=by simpa using h3
 have _:decide (1099511627776<seq)=false:=by simpa using h4
 go_enter Tryz.func82,Tryz.ntmps82
 go_wp2
 refine wp_region_plus (by kernel_rfl) (by kernel_rfl) ?_
 repeat (first | go_big_quiet_skip | (go_big_quiet_want;go_big_quiet_op;first | go_big_quiet_on | (apply Exists.intro;refine ⟨fun _=>?_,?_⟩;(first | (go_at_call 135;exact Calls.plus_of (HS.out _)) | (go_at_call 77;exact Calls.plus_of (HR.out _)));go_big_quiet_on)))
 refine wpQuiet_nil ?_
 rintro _ ⟨x,rfl⟩
 go_wp2
 go_ret
 exact ⟨by rw [HF.out];rfl,zB⟩
set_option maxHeartbeats 2000000 in
theorem rtx_82 (seq wall count d0 d1 d2 d3:Int) (A:Option Addr) (c:Nat) (ws:List WrP) (w:World) (hn:ws.length≤1000000) (hws:WsAt w A ws) (hseq:-9223372036854775808≤seq∧seq≤9223372036854775807) (h3:1≤seq) (h4:seq≤1099511627776) (hs:rightS wall count=true) (hr:rgtB d0 d1 d2 d3=true) (hd:d2=seq-1):
  Calls Tryz.prog 82 #[.agg #[.int .i64 2,.int .i64 seq,.int .i64 wall,.int .i64 count,.int .i64 d0,.int .i64 d1,.int .i64 d2,.int .i64 d3,.slice A ws.length c]] w
   fun e w'=>e=.returned (.bool (rightTx ⟨2,seq,wall,count,d0,d1,d2,d3,ws⟩))∧Below w.heap.size w w':=by
 have HF:Hid (rightTx ⟨2,seq,wall,count,d0,d1,d2,d3,ws⟩=rightWs ws):=hidp (by rw [rightTx,headTx_eq];simp only [depAt];rw [hs,hr,decide_eq_true (show 1≤seq∧seq≤1099511627776 from ⟨h3,h4⟩)];simp [hd])
 have HS:=hidp (fun w=>rightS_is hs w)
 have HR:=hidp (fun w=>right_is hr w)
 have HW:=hidp hws
 have hd1:(d2 != seq-1)=false:=by simpa using hd
 clear hs hr hd hws
 have _:decide (seq<1)=false:=by simpa using h3
 have _:decide (1099511627776<seq)=false:=by simpa using h4
 go_enter Tryz.func82,Tryz.ntmps82
 go_wp2
 refine wp_region_plus (by kernel_rfl) (by kernel_rfl) ?_
 repeat (first | go_big_quiet_skip | (go_big_quiet_want;go_big_quiet_op;first | go_big_quiet_on | (apply Exists.intro;refine ⟨fun _=>?_,?_⟩;(first | (go_at_call 135;exact Calls.plus_of (HS.out _)) | (go_at_call 77;exact Calls.plus_of (HR.out _)));go_big_quiet_on)))
 refine wpQuiet_nil ?_
 rintro _ ⟨x,rfl⟩
 go_wp2_with fail
 refine (rightWs_any A c ws _ hn (HW.out.below zB)).mono ?_
 rintro e w' ⟨rfl,hb⟩
 obtain ⟨y,rfl⟩:=wplus_of_below hb
 clear hb
 go_wp2
 go_ret
 exact ⟨by rw [HF.out];rfl,zB⟩
set_option maxHeartbeats 2000000 in
theorem rtx_73 (seq wall count d0 d1 d2 d3:Int) (A:Option Addr) (c:Nat) (ws:List WrP) (w:World) (hn:ws.length≤1000000) (hws:WsAt w A ws) (hseq:-9223372036854775808≤seq∧seq≤9223372036854775807) (h3:1≤seq) (h4:seq≤1099511627776) (hs:rightS wall count=true) (hr:rgtB d0 d1 d2 d3=true) (hd:d3≠seq-1):
  Calls Tryz.prog 82 #[.agg #[.int .i64 3,.int .i64 seq,.int .i64 wall,.int .i64 count,.int .i64 d0,.int .i64 d1,.int .i64 d2,.int .i64 d3,.slice A ws.length c]] w
   fun e w'=>e=.returned (.bool (rightTx ⟨3,seq,wall,count,d0,d1,d2,d3,ws⟩))∧Below w.heap.size w w':=by
 have HF:Hid (rightTx ⟨3,seq,wall,count,d0,d1,d2,d3,ws⟩=false):=hidp (by rw [rightTx,headTx_eq];simp [depAt,hd])
 clear hws
 have HS:=hidp (fun w=>rightS_is hs w)
 have HR:=hidp (fun w=>right_is hr w)
 have hd1:(d3 != seq-1)=true:=by simpa using hd
 clear hs hr hd
 have _:decide (seq<1)=false:=by simpa using h3
 have _:decide (1099511627776<seq)=false:=by simpa using h4
 go_enter Tryz.func82,Tryz.ntmps82
 go_wp2
 refine wp_region_plus (by kernel_rfl) (by kernel_rfl) ?_
 repeat (first | go_big_quiet_skip | (go_big_quiet_want;go_big_quiet_op;first | go_big_quiet_on | (apply Exists.intro;refine ⟨fun _=>?_,?_⟩;(first | (go_at_call 135;exact Calls.plus_of (HS.out _)) | (go_at_call 77;exact Calls.plus_of (HR.out _)));go_big_quiet_on)))
 refine wpQuiet_nil ?_
 rintro _ ⟨x,rfl⟩
 go_wp2
 go_ret
 exact ⟨by rw [HF.out];rfl,zB⟩
set_option maxHeartbeats 2000000 in
theorem rtx_83 (seq wall count d0 d1 d2 d3:Int) (A:Option Addr) (c:Nat) (ws:List WrP) (w:World) (hn:ws.length≤1000000) (hws:WsAt w A ws) (hseq:-9223372036854775808≤seq∧seq≤9223372036854775807) (h3:1≤seq) (h4:seq≤1099511627776) (hs:rightS wall count=true) (hr:rgtB d0 d1 d2 d3=true) (hd:d3=seq-1):
  Calls Tryz.prog 82 #[.agg #[.int .i64 3,.int .i64 seq,.int .i64 wall,.int .i64 count,.int .i64 d0,.int .i64 d1,.int .i64 d2,.int .i64 d3,.slice A ws.length c]] w
   fun e w'=>e=.returned (.bool (rightTx ⟨3,seq,wall,count,d0,d1,d2,d3,ws⟩))∧Below w.heap.size w w':=by
 have HF:Hid (rightTx ⟨3,seq,wall,count,d0,d1,d2,d3,ws⟩=rightWs ws):=hidp (by rw [rightTx,headTx_eq];simp only [depAt];rw [hs,hr,decide_eq_true (show 1≤seq∧seq≤1099511627776 from ⟨h3,h4⟩)];simp [hd])
 have HS:=hidp (fun w=>rightS_is hs w)
 have HR:=hidp (fun w=>right_is hr w)
 have HW:=hidp hws
 have hd1:(d3 != seq-1)=false:=by simpa using hd
 clear hs hr hd hws
 have _:decide (seq<1)=false:=by simpa using h3
 have _:decide (1099511627776<seq)=false:=by simpa using h4
 go_enter Tryz.func82,Tryz.ntmps82
 go_wp2
 refine wp_region_plus (by kernel_rfl) (by kernel_rfl) ?_
 repeat (first | go_big_quiet_skip | (go_big_quiet_want;go_big_quiet_op;first | go_big_quiet_on | (apply Exists.intro;refine ⟨fun _=>?_,?_⟩;(first | (go_at_call 135;exact Calls.plus_of (HS.out _)) | (go_at_call 77;exact Calls.plus_of (HR.out _)));go_big_quiet_on)))
 refine wpQuiet_nil ?_
 rintro _ ⟨x,rfl⟩
 go_wp2_with fail
 refine (rightWs_any A c ws _ hn (HW.out.below zB)).mono ?_
 rintro e w' ⟨rfl,hb⟩
 obtain ⟨y,rfl⟩:=wplus_of_below hb
 clear hb
 go_wp2
 go_ret
 exact ⟨by rw [HF.out];rfl,zB⟩
theorem rightTx_any (site seq wall count d0 d1 d2 d3:Int) (A:Option Addr) (c:Nat) (ws:List WrP) (w:World) (hn:ws.length≤1000000) (hws:WsAt w A ws) (hseq:-9223372036854775808≤seq∧seq≤9223372036854775807):
  Calls Tryz.prog 82 #[.agg #[.int .i64 site,.int .i64 seq,.int .i64 wall,.int .i64 count,.int .i64 d0,.int .i64 d1,.int .i64 d2,.int .i64 d3,.slice A ws.length c]] w
   fun e w'=>e=.returned (.bool (rightTx ⟨site,seq,wall,count,d0,d1,d2,d3,ws⟩))∧Below w.heap.size w w':=by
 by_cases h1:site<0
 ·exact rtx_1 site seq wall count d0 d1 d2 d3 A c ws w hn hws hseq h1
 have h1:0≤site:=by omega
 by_cases h2:4≤site
 ·exact rtx_2 site seq wall count d0 d1 d2 d3 A c ws w hn hws hseq h1 h2
 have h2:site<4:=by omega
 by_cases h3:seq<1
 ·exact rtx_3 site seq wall count d0 d1 d2 d3 A c ws w hn hws hseq h1 h2 h3
 have h3:1≤seq:=by omega
 by_cases h4:1099511627776<seq
 ·exact rtx_4 site seq wall count d0 d1 d2 d3 A c ws w hn hws hseq h1 h2 h3 h4
 have h4:seq≤1099511627776:=by omega
 cases hs:rightS wall count
 ·exact rtx_5 site seq wall count d0 d1 d2 d3 A c ws w hn hws hseq h1 h2 h3 h4 hs
 cases hr:rgtB d0 d1 d2 d3
 ·exact rtx_6 site seq wall count d0 d1 d2 d3 A c ws w hn hws hseq h1 h2 h3 h4 hs hr
 have h5:site=0∨site=1∨site=2∨site=3:=by omega
 rcases h5 with rfl | rfl | rfl | rfl
 ·by_cases hd:d0=seq-1
  ·exact rtx_80 seq wall count d0 d1 d2 d3 A c ws w hn hws hseq h3 h4 hs hr hd
  ·exact rtx_70 seq wall count d0 d1 d2 d3 A c ws w hn hws hseq h3 h4 hs hr hd
 ·by_cases hd:d1=seq-1
  ·exact rtx_81 seq wall count d0 d1 d2 d3 A c ws w hn hws hseq h3 h4 hs hr hd
  ·exact rtx_71 seq wall count d0 d1 d2 d3 A c ws w hn hws hseq h3 h4 hs hr hd
 ·by_cases hd:d2=seq-1
  ·exact rtx_82 seq wall count d0 d1 d2 d3 A c ws w hn hws hseq h3 h4 hs hr hd
  ·exact rtx_72 seq wall count d0 d1 d2 d3 A c ws w hn hws hseq h3 h4 hs hr hd
 ·by_cases hd:d3=seq-1
  ·exact rtx_83 seq wall count d0 d1 d2 d3 A c ws w hn hws hseq h3 h4 hs hr hd
  ·exact rtx_73 seq wall count d0 d1 d2 d3 A c ws w hn hws hseq h3 h4 hs hr hd
end Go.Proofs.YtbopfhbeegkkaabGreatDoor
