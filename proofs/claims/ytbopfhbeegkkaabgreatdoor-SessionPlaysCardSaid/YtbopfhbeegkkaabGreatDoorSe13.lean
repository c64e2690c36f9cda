/- Part 13 of a proof: lemmas and contracts that other parts use. -/
import Derived.Test.YtbopfhbeegkkaabGreatDoorSe12
import Derived.RegionTactic
import Derived.Deep.RegionHeld3
set_option linter.unusedVariables false
set_option linter.unusedSimpArgs false
set_option linter.constructorNameAsVariable false
namespace Go.Proofs.YtbopfhbeegkkaabGreatDoor
open Go.RowKit
theorem info141o:(Tryz.prog.info? 166).map (fun i=>(i.zero,i.size,i.bytes))=some (some (.agg #[.int .i64 0,.int .i64 0,.int .i64 0,.int .i64 0,.int .i64 0,.string ⟨#[]⟩,.bool false]),7,64):=by kernel_rfl
theorem info141:∃ i,Tryz.prog.info? 166=some i∧i.zero=some (.agg #[.int .i64 0,.int .i64 0,.int .i64 0,.int .i64 0,.int .i64 0,.string ⟨#[]⟩,.bool false])∧i.size=7∧i.bytes=64:=by
 obtain ⟨i,hi,h⟩:=Option.map_eq_some_iff.1 info141o
 simp only [Prod.mk.injEq] at h
 exact ⟨i,hi,h.1,h.2.1,h.2.2⟩
theorem or_tail {a b d:Bool} (h:a=false) (h2:(a||b)=d):b=d:=by subst h;simpa using h2
theorem grown_alloc {W w1:World} {o:Obj} {r:Option Nat} (h:(W.alloc o).grownBy w1 r):W.grownBy w1 r:=
 ⟨h.os,h.tape,h.output,Nat.le_trans (by simp) h.size,fun k hk hr=>(h.block k (by simp;omega) hr).trans (Below.heap_alloc W o k hk)⟩
theorem grown_drew {W w1:World} {r:Option Nat} (h:W.drew.grownBy w1 r):W.grownBy w1 r:=⟨h.os,h.tape,h.output,h.size,h.block⟩
def RfPost (r o B:Nat) (v:Value) (res:Int×List PtP) (w:World) (e:Ending) (w':World):Prop:=
 ∃ v',e=.returned (.int .i64 res.1)∧RfAt w' r o B res.2 v'∧RfFr w w' r o v v'
set_option maxRecDepth 20000 in
set_option maxHeartbeats 8000000 in
theorem rPut_any (r o B:Nat) (L:List PtP) (v0:Value) (key:Int) (v:VerP) (w:World) (hst:RfAt w r o B L v0) (hlen:L.length≤900000) (hB:B≤w.heap.size):
  Calls Tryz.prog 133 #[.pointer (some ⟨r,o,none⟩),.int .i64 key,verV v] w (RfPost r o B v0 (rPut L key v) w):=by
 have HST:=hidp hst
 have hlr:=hst.lt
 have hdone:∀ (n:Int) (w':World),rPut L key v=(n,L)→Below w.heap.size w w'→RfPost r o B v0 (rPut L key v) w (.returned (.int .i64 n)) w':=by
  intro n w' h hb
  rw [h]
  exact ⟨v0,rfl,hst.below hb,RfFr.of_below hlr o v0 hb⟩
 have HDN:=hidp hdone
 clear hdone hst
 unfold verV
 by_cases hk:0≤key∧key≤7
 case neg=>
  have HR:Hid (rPut L key v=(2,L)):=hidp (by unfold rPut;rw [if_pos (by omega)])
  have HI:=hidp fun w=>in_is (n:=key) (lo:=0) (hi:=7) (b:=false) w (decide_eq_false hk)
  clear hk
  go_enter Tryz.func133,Tryz.ntmps133
  go_wp2_with (go_at_call 96;refine (HI.out _).mono ?_;rintro e w' ⟨rfl,rfl⟩)
  go_ret
  exact HDN.out _ _ HR.out (by repeat (first | exact Below.refl _ _ | refine blw_alloc ?_ | refine blw_plus ?_ | refine Below.drew ?_))
 have HI:=hidp fun w=>in_is (n:=key) (lo:=0) (hi:=7) (b:=true) w (decide_eq_true hk)
 have HK:=hidp hk
 clear hk
 have HSi:∀ b,decide (0≤v.site∧v.site≤3)=b→Hid (∀ w,Calls Tryz.prog 96 #[.int .i64 v.site,.int .i64 0,.int .i64 3] w fun e w'=>e=.returned (.bool b)∧w=w'):=fun b h=>hidp fun w=>in_is w h
 have HSq:∀ b,decide (1≤v.seq∧v.seq≤1099511627776)=b→Hid (∀ w,Calls Tryz.prog 96 #[.int .i64 v.seq,.int .i64 1,.int .i64 1099511627776] w fun e w'=>e=.returned (.bool b)∧w=w'):=fun b h=>hidp fun w=>in_is w h
 have HR1:rightV v=false→Hid (rPut L key v=(1,L)):=fun h=>hidp (by unfold rPut;have:=HK.out;rw [if_neg (by omega),if_pos h])
 have HS0:∀ b,rightS v.w v.c=b→Hid (∀ w,Calls Tryz.prog 132 #[.agg #[.int .i64 v.w,.int .i64 v.c]] w fun e w'=>e=.returned (.bool b)∧Below w.heap.size w w'):=fun b h=>hidp (by intro w;rw [←h];exact rRightS_any v.w v.c w)
 by_cases h0:rightS v.w v.c=true
 case neg=>
  have h0:rightS v.w v.c=false:=by simpa using h0
  have HR:=HR1 (by simp [rightV,h0])
  have H0:=HS0 false h0
  clear h0
  clear HR1 HSi HSq HS0
  go_enter Tryz.func133,Tryz.ntmps133
  go_wp2_with fail
  go_at_call 96
  refine (HI.out _).mono ?_
  rintro e w' ⟨rfl,rfl⟩
  go_wp2_with fail
  go_at_call 132
  refine (H0.out _).mono ?_
  rintro e w' ⟨rfl,hb⟩
  obtain ⟨x,rfl⟩:=wplus_of_below hb
  clear hb
  go_wp2_with fail
  go_ret
  exact HDN.out _ _ HR.out (by repeat (first | exact Below.refl _ _ | refine blw_alloc ?_ | refine blw_plus ?_ | refine Below.drew ?_))
 have H0:=HS0 true h0
 by_cases h1:0≤v.site∧v.site≤3
 case neg=>
  have HR:=HR1 (by simp [rightV];omega)
  have HA:=HSi false (decide_eq_false h1)
  clear h0 h1
  clear HR1 HSi HSq HS0
  go_enter Tryz.func133,Tryz.ntmps133
  go_wp2_with fail
  go_at_call 96
  refine (HI.out _).mono ?_
  rintro e w' ⟨rfl,rfl⟩
  go_wp2_with fail
  go_at_call 132
  refine (H0.out _).mono ?_
  rintro e w' ⟨rfl,hb⟩
  obtain ⟨x,rfl⟩:=wplus_of_below hb
  clear hb
  go_wp2_with fail
  go_at_call 96
  refine (HA.out _).mono ?_
  rintro e w' ⟨rfl,rfl⟩
  go_wp2_with fail
  go_ret
  exact HDN.out _ _ HR.out (by repeat (first | exact Below.refl _ _ | refine blw_alloc ?_ | refine blw_plus ?_ | refine Below.drew ?_))
 have HA:=HSi true (decide_eq_true h1)
 by_cases h2:1≤v.seq∧v.seq≤1099511627776
 case neg=>
  have HR:=HR1 (by simp [rightV];omega)
  have HQ:=HSq false (decide_eq_false h2)
  clear h0 h1 h2
  clear HR1 HSi HSq HS0
  go_enter Tryz.func133,Tryz.ntmps133
  go_wp2_with fail
  go_at_call 96
  refine (HI.out _).mono ?_
  rintro e w' ⟨rfl,rfl⟩
  go_wp2_with fail
  go_at_call 132
  refine (H0.out _).mono ?_
  rintro e w' ⟨rfl,hb⟩
  obtain ⟨x,rfl⟩:=wplus_of_below hb
  clear hb
  go_wp2_with fail
  go_at_call 96
  refine (HA.out _).mono ?_
  rintro e w' ⟨rfl,rfl⟩
  go_wp2_with fail
  go_at_call 96
  refine (HQ.out _).mono ?_
  rintro e w' ⟨rfl,rfl⟩
  go_wp2_with fail
  go_ret
  exact HDN.out _ _ HR.out (by repeat (first | exact Below.refl _ _ | refine blw_alloc ?_ | refine blw_plus ?_ | refine Below.drew ?_))
 have HQ:=HSq true (decide_eq_true h2)
 by_cases h3:12<v.data.size
 case pos=>
  have HR:=HR1 (by simp [rightV];omega)
  clear h0 h1 h2
  clear HR1 HSi HSq HS0
  go_enter Tryz.func133,Tryz.ntmps133
  go_wp2_with fail
  go_at_call 96
  refine (HI.out _).mono ?_
  rintro e w' ⟨rfl,rfl⟩
  go_wp2_with fail
  go_at_call 132
  refine (H0.out _).mono ?_
  rintro e w' ⟨rfl,hb⟩
  obtain ⟨x,rfl⟩:=wplus_of_below hb
  clear hb
  go_wp2_with fail
  go_at_call 96
  refine (HA.out _).mono ?_
  rintro e w' ⟨rfl,rfl⟩
  go_wp2_with fail
  go_at_call 96
  refine (HQ.out _).mono ?_
  rintro e w' ⟨rfl,rfl⟩
  go_wp2_with fail
  go_ret
  exact HDN.out _ _ HR.out (by repeat (first | exact Below.refl _ _ | refine blw_alloc ?_ | refine blw_plus ?_ | refine Below.drew ?_))
 have HR2:(v.gone=false∨v.data.size=0)→Hid (rightV v=true):=fun h=>hidp (by
  unfold rightV
  rcases h with h | h <;> simp [h0,h] <;> omega)
 obtain ⟨vw,vc,site,seq,data,gone⟩:=v
 simp only at *
 clear h0 h1 h2
 have HG:(gone=true∧data.toList≠[])∨(gone=false∨data.toList=[]):=by
  cases gone
  ·exact .inr (.inl rfl)
  ·by_cases h:data.toList=[]
   ·exact .inr (.inr h)
   ·exact .inl ⟨rfl,h⟩
 rcases HG with ⟨rfl,hne⟩ | hok
 ·have hs:data.size≠0:=by rw [ba_size,←ByteArray.toList_eq];intro h;exact hne (List.eq_nil_of_length_eq_zero h)
  have HR:=HR1 (by simp [rightV,hs])
  have c5:data.toList.isEmpty=false:=by simpa using hne
  clear hs hne HR2
  clear HR1 HSi HSq HS0
  go_enter Tryz.func133,Tryz.ntmps133
  go_wp2_with fail
  go_at_call 96
  refine (HI.out _).mono ?_
  rintro e w' ⟨rfl,rfl⟩
  go_wp2_with fail
  go_at_call 132
  refine (H0.out _).mono ?_
  rintro e w' ⟨rfl,hb⟩
  obtain ⟨x,rfl⟩:=wplus_of_below hb
  clear hb
  go_wp2_with fail
  go_at_call 96
  refine (HA.out _).mono ?_
  rintro e w' ⟨rfl,rfl⟩
  go_wp2_with fail
  go_at_call 96
  refine (HQ.out _).mono ?_
  rintro e w' ⟨rfl,rfl⟩
  go_wp2_with fail
  go_ret
  exact HDN.out _ _ HR.out (by repeat (first | exact Below.refl _ _ | refine blw_alloc ?_ | refine blw_plus ?_ | refine Below.drew ?_))
 ·have HRT:=HR2 (hok.imp id (fun h=>by rw [ba_size,←ByteArray.toList_eq,h];rfl))
  obtain ⟨D,hD⟩:∃ D,rTwice L key ⟨vw,vc,site,seq,data,gone⟩=D:=⟨_,rfl⟩
  have HR9:D=true→Hid (rPut L key ⟨vw,vc,site,seq,data,gone⟩=(9,L)):=fun h=>hidp (by unfold rPut;have:=HK.out;rw [if_neg (by omega),if_neg (by rw [HRT.out];simp),if_pos (by rw [hD,h])])
  have HR0:D=false→Hid (rPut L key ⟨vw,vc,site,seq,data,gone⟩=(0,L++[⟨key,⟨vw,vc,site,seq,data,gone⟩⟩])):=fun h=>hidp (by unfold rPut;have:=HK.out;rw [if_neg (by omega),if_neg (by rw [HRT.out];simp),if_neg (by rw [hD,h];simp)])
  have HD:=hidp hD
  obtain ⟨A,c,rfl⟩:=own_form HST.out.own
  have HPS:=hidp (own_puts HST.out.own)
  have hcell:=HST.out.cell
  obtain ⟨hc1,hc2⟩:=hcell
  haveI:SzGe (r+1) w:=⟨hlr⟩
  have c5:gone=false∨(gone=true∧data.toList.isEmpty=true):=by
   cases gone
   ·exact .inl rfl
   ·exact .inr ⟨rfl,hok.elim (fun e=>by cases e) (fun h=>by rw [h];rfl)⟩
  clear hD HR1 HR2 HRT HSi HSq HS0 hok
  generalize rPut L key ⟨vw,vc,site,seq,data,gone⟩=RES at *
  rcases c5 with rfl | ⟨rfl,c5⟩
  ·go_enter Tryz.func133,Tryz.ntmps133
   go_wp2_with fail
   go_at_call 96
   refine (HI.out _).mono ?_
   rintro e w' ⟨rfl,rfl⟩
   go_wp2_with fail
   go_at_call 132
   refine (H0.out _).mono ?_
   rintro e w' ⟨rfl,hb⟩
   obtain ⟨x,rfl⟩:=wplus_of_below hb
   clear hb
   go_wp2_with fail
   go_at_call 96
   refine (HA.out _).mono ?_
   rintro e w' ⟨rfl,rfl⟩
   go_wp2_with fail
   go_at_call 96
   refine (HQ.out _).mono ?_
   rintro e w' ⟨rfl,rfl⟩
   go_wp2_with fail
   go_loopw [48] (fun i wr=>∃ j:Nat,i=.int .i64 j∧j≤L.length∧((L.drop j).any fun h=>sameB h ⟨key,⟨vw,vc,site,seq,data,false⟩⟩)=D∧Below (w.alloc (.cells #[.int .i64 vw,.int .i64 vc,.int .i64 site,.int .i64 seq,.string data,.bool false] 59)).heap.size (w.alloc (.cells #[.int .i64 vw,.int .i64 vc,.int .i64 site,.int .i64 seq,.string data,.bool false] 59)) wr) (fun i _=>L.length-(intOf i).toNat)
   case atStart=>exact ⟨0,rfl,Nat.zero_le _,by rw [List.drop_zero];exact HD.out,zB⟩
   case round=>
    obtain ⟨j,rfl,hj,hany,hbl⟩:=hrel
    obtain ⟨x,rfl⟩:=wplus_of_below hbl
    clear hbl
    by_cases hjl:j<L.length
    ·obtain ⟨b,o,rfl,hb,hc⟩:=HPS.out j L[j] (List.getElem?_eq_getElem hjl)
     have hdrop:L.drop j=L[j]::L.drop (j+1):=List.drop_eq_getElem_cons hjl
     rw [hdrop,List.any_cons] at hany
     generalize L[j]=p at *
     obtain ⟨pk,⟨pw,pc,ps,pq,pd,pg⟩⟩:=p
     have HAN:=hidp hany
     obtain ⟨d0,d1,d2,d3,d4,d5,d6⟩:=hc
     simp only at d0 d1 d2 d3 d4 d5 d6
     haveI:SzGe (b+1) w:=⟨hb⟩
     clear hany hdrop
     go_wp2_with fail
     all_goals first
      | (go_ret
         refine HDN.out _ _ (HR9 ?_).out (by repeat (first | exact Below.refl _ _ | refine blw_alloc ?_ | refine blw_plus ?_ | refine Below.drew ?_))
         rw [←HAN.out];simp [sameB, *])
      | (refine ⟨⟨j+1,by go_num,by omega,(or_tail ?_ HAN.out),zB⟩,by simp [intOf];omega⟩
         simp [sameB, *])
    ·obtain rfl:j=L.length:=by omega
     rw [List.drop_length] at hany
     have HR:=HR0 hany.symm
     clear hany hj hjl HR9 HR0 HD
     have HB3:Hid (Below w.heap.size w (wplus (w.alloc (.cells #[.int .i64 vw,.int .i64 vc,.int .i64 site,.int .i64 seq,.string data,.bool false] 59)) x)):=hidp (by repeat (first | exact Below.refl _ _ | refine blw_alloc ?_ | refine blw_plus ?_ | refine Below.drew ?_))
     have HC3:Hid ((wplus (w.alloc (.cells #[.int .i64 vw,.int .i64 vc,.int .i64 site,.int .i64 seq,.string data,.bool false] 59)) x).heap[w.heap.size]?=some (.cells #[.int .i64 vw,.int .i64 vc,.int .i64 site,.int .i64 seq,.string data,.bool false] 59)):=hidp ((wplus_heap_lt _ x _ (by simp)).trans (blk_new rfl _))
     generalize wplus (w.alloc (.cells #[.int .i64 vw,.int .i64 vc,.int .i64 site,.int .i64 seq,.string data,.bool false] 59)) x=W3 at *
     have HS3:=hidp (HST.out.below HB3.out)
     obtain ⟨k1,k2⟩:=HS3.out.cell
     haveI:SzGe (r+1) W3:=⟨HS3.out.lt⟩
     haveI:SzGe (w.heap.size+1) W3:=⟨lt_blk HC3.out⟩
     have e0:=cell_blk HC3.out 0;have e1:=cell_blk HC3.out 1;have e2:=cell_blk HC3.out 2;have e3:=cell_blk HC3.out 3;have e4:=cell_blk HC3.out 4;have e5:=cell_blk HC3.out 5
     simp only [zC,zD,zE] at e0 e1 e2 e3 e4 e5
     have hB3:=HB3.out.size
     obtain ⟨i0,hi0,hz0,hz1,hz2⟩:=info141
     have HOW:=hidp HS3.out.own
     go_wp2_with fail
     have HROW:Hid (∀ (W:World) (v:Value) (n:Nat),W.ownsRow B 166 7 v n (heldRow L++[.int .i64 key,.int .i64 vw,.int .i64 vc,.int .i64 site,.int .i64 seq,.string data,.bool false])→n=L.length+1→W.ownsRow B 166 7 v (L++[(⟨key,⟨vw,vc,site,seq,data,false⟩⟩:PtP)]).length (heldRow (L++[⟨key,⟨vw,vc,site,seq,data,false⟩⟩]))):=hidp (by
      intro W v n h hn
      have hrow:heldRow L++[.int .i64 key,.int .i64 vw,.int .i64 vc,.int .i64 site,.int .i64 seq,.string data,.bool false]=heldRow (L++[⟨key,⟨vw,vc,site,seq,data,false⟩⟩]):=by rw [heldRow_append];rfl
      have hle:(L++[(⟨key,⟨vw,vc,site,seq,data,false⟩⟩:PtP)]).length=L.length+1:=by simp
      rw [hle,←hn,←hrow];exact h)
     have HN1:∀ u∈([.int .i64 key,.int .i64 vw,.int .i64 vc,.int .i64 site,.int .i64 seq,.string data,.bool false]:List Value),u.oneCell'=true:=by
      intro u hu;simp at hu;rcases hu with rfl | rfl | rfl | rfl | rfl | rfl | rfl <;> rfl
     have h63:L.length+1≤maxLen:=by refine Nat.le_trans ?_ maxLen_ge;omega
     have hby:(L.length+1)*64≤140737488355328:=by omega
     go_region_law (
      refine step_append_lies _ rfl (.tmp 77) (.tmp 81) 36 rfl B 166 i0 (.agg #[.int .i64 0,.int .i64 0,.int .i64 0,.int .i64 0,.int .i64 0,.string ⟨#[]⟩,.bool false]) 7 64 Tryz.underlying36 hi0 hz0 hz1 hz2 rfl (by decide) (.slice A L.length c) L.length (heldRow L) (by simp [Act.eval,Act.put]) (own_below HOW.out (by repeat (first | exact Below.refl _ _ | refine blw_alloc ?_ | refine blw_plus ?_ | refine Below.drew ?_)) (fun k e=>(own_ge HOW.out e).2)) ⟨W3.heap.size,0,none⟩ 1 1 [.int .i64 key,.int .i64 vw,.int .i64 vc,.int .i64 site,.int .i64 seq,.string data,.bool false] (by simp [Act.eval,Act.put]) rfl (World.news_of_block (cs:=#[.int .i64 key,.int .i64 vw,.int .i64 vc,.int .i64 site,.int .i64 seq,.string data,.bool false]) (by (try rw [heap_drew]);rw [heap_alloc,if_pos (by simp [heap_drew])])) HN1 (by decide) h63 hby (by simp;omega) _ rfl ?_
      intro g1 cap1 w1 hown1 hgrow hgl hlt1
      have hg:=grown_alloc (grown_drew hgrow)
      have hup:=RfAt.upd HS3.out hg (HROW.out _ _ _ hown1 rfl) (by
       rcases hgl with e | e
       ·exact .inl (by rw [e];rfl)
       ·exact .inr (by intro b hb;simp [Value.ownBlock] at hb;subst hb;rw [e];simp [heap_drew]))
      have HP:Hid (RfPost r o B (.slice A L.length c) RES w (.returned (.int .i64 0)) (w1.setCell ⟨r,o,none⟩ (.slice (some ⟨g1,0,none⟩) (L.length+1) cap1))):=hidp (by
       rw [HR.out];exact ⟨_,rfl,hup.1,hup.2.from hlr HB3.out⟩)
      have q1:w1.cell? ⟨r,o,none⟩=some (.slice A L.length c):=by rw [World.cell?_of_block (hg.block r (HS3.out.lt) (fun e=>HS3.out.ng e.symm))];exact k1
      have q2:w1.frozen? ⟨r,o,none⟩=false:=by rw [World.frozen?_of_block (hg.block r (HS3.out.lt) (fun e=>HS3.out.ng e.symm))];exact k2
      clear hown1 hgrow hgl hlt1 hg hup)
     all_goals
      go_wp2_with fail
      go_ret
      exact HP.out
  ·go_enter Tryz.func133,Tryz.ntmps133
   go_wp2_with fail
   go_at_call 96
   refine (HI.out _).mono ?_
   rintro e w' ⟨rfl,rfl⟩
   go_wp2_with fail
   go_at_call 132
   refine (H0.out _).mono ?_
   rintro e w' ⟨rfl,hb⟩
   obtain ⟨x,rfl⟩:=wplus_of_below hb
   clear hb
   go_wp2_with fail
   go_at_call 96
   refine (HA.out _).mono ?_
   rintro e w' ⟨rfl,rfl⟩
   go_wp2_with fail
   go_at_call 96
   refine (HQ.out _).mono ?_
   rintro e w' ⟨rfl,rfl⟩
   go_wp2_with fail
   go_loopw [48] (fun i wr=>∃ j:Nat,i=.int .i64 j∧j≤L.length∧((L.drop j).any fun h=>sameB h ⟨key,⟨vw,vc,site,seq,data,true⟩⟩)=D∧Below (w.alloc (.cells #[.int .i64 vw,.int .i64 vc,.int .i64 site,.int .i64 seq,.string data,.bool true] 59)).heap.size (w.alloc (.cells #[.int .i64 vw,.int .i64 vc,.int .i64 site,.int .i64 seq,.string data,.bool true] 59)) wr) (fun i _=>L.length-(intOf i).toNat)
   case atStart=>exact ⟨0,rfl,Nat.zero_le _,by rw [List.drop_zero];exact HD.out,zB⟩
   case round=>
    obtain ⟨j,rfl,hj,hany,hbl⟩:=hrel
    obtain ⟨x,rfl⟩:=wplus_of_below hbl
    clear hbl
    by_cases hjl:j<L.length
    ·obtain ⟨b,o,rfl,hb,hc⟩:=HPS.out j L[j] (List.getElem?_eq_getElem hjl)
     have hdrop:L.drop j=L[j]::L.drop (j+1):=List.drop_eq_getElem_cons hjl
     rw [hdrop,List.any_cons] at hany
     generalize L[j]=p at *
     obtain ⟨pk,⟨pw,pc,ps,pq,pd,pg⟩⟩:=p
     have HAN:=hidp hany
     obtain ⟨d0,d1,d2,d3,d4,d5,d6⟩:=hc
     simp only at d0 d1 d2 d3 d4 d5 d6
     haveI:SzGe (b+1) w:=⟨hb⟩
     clear hany hdrop
     go_wp2_with fail
     all_goals first
      | (go_ret
         refine HDN.out _ _ (HR9 ?_).out (by repeat (first | exact Below.refl _ _ | refine blw_alloc ?_ | refine blw_plus ?_ | refine Below.drew ?_))
         rw [←HAN.out];simp [sameB, *])
      | (refine ⟨⟨j+1,by go_num,by omega,(or_tail ?_ HAN.out),zB⟩,by simp [intOf];omega⟩
         simp [sameB, *])
    ·obtain rfl:j=L.length:=by omega
     rw [List.drop_length] at hany
     have HR:=HR0 hany.symm
     clear hany hj hjl HR9 HR0 HD
     have HB3:Hid (Below w.heap.size w (wplus (w.alloc (.cells #[.int .i64 vw,.int .i64 vc,.int .i64 site,.int .i64 seq,.string data,.bool true] 59)) x)):=hidp (by repeat (first | exact Below.refl _ _ | refine blw_alloc ?_ | refine blw_plus ?_ | refine Below.drew ?_))
     have HC3:Hid ((wplus (w.alloc (.cells #[.int .i64 vw,.int .i64 vc,.int .i64 site,.int .i64 seq,.string data,.bool true] 59)) x).heap[w.heap.size]?=some (.cells #[.int .i64 vw,.int .i64 vc,.int .i64 site,.int .i64 seq,.string data,.bool true] 59)):=hidp ((wplus_heap_lt _ x _ (by simp)).trans (blk_new rfl _))
     generalize wplus (w.alloc (.cells #[.int .i64 vw,.int .i64 vc,.int .i64 site,.int .i64 seq,.string data,.bool true] 59)) x=W3 at *
     have HS3:=hidp (HST.out.below HB3.out)
     obtain ⟨k1,k2⟩:=HS3.out.cell
     haveI:SzGe (r+1) W3:=⟨HS3.out.lt⟩
     haveI:SzGe (w.heap.size+1) W3:=⟨lt_blk HC3.out⟩
     have e0:=cell_blk HC3.out 0;have e1:=cell_blk HC3.out 1;have e2:=cell_blk HC3.out 2;have e3:=cell_blk HC3.out 3;have e4:=cell_blk HC3.out 4;have e5:=cell_blk HC3.out 5
     simp only [zC,zD,zE] at e0 e1 e2 e3 e4 e5
     have hB3:=HB3.out.size
     obtain ⟨i0,hi0,hz0,hz1,hz2⟩:=info141
     have HOW:=hidp HS3.out.own
     go_wp2_with fail
     have HROW:Hid (∀ (W:World) (v:Value) (n:Nat),W.ownsRow B 166 7 v n (heldRow L++[.int .i64 key,.int .i64 vw,.int .i64 vc,.int .i64 site,.int .i64 seq,.string data,.bool true])→n=L.length+1→W.ownsRow B 166 7 v (L++[(⟨key,⟨vw,vc,site,seq,data,true⟩⟩:PtP)]).length (heldRow (L++[⟨key,⟨vw,vc,site,seq,data,true⟩⟩]))):=hidp (by
      intro W v n h hn
      have hrow:heldRow L++[.int .i64 key,.int .i64 vw,.int .i64 vc,.int .i64 site,.int .i64 seq,.string data,.bool true]=heldRow (L++[⟨key,⟨vw,vc,site,seq,data,true⟩⟩]):=by rw [heldRow_append];rfl
      have hle:(L++[(⟨key,⟨vw,vc,site,seq,data,true⟩⟩:PtP)]).length=L.length+1:=by simp
      rw [hle,←hn,←hrow];exact h)
     have HN1:∀ u∈([.int .i64 key,.int .i64 vw,.int .i64 vc,.int .i64 site,.int .i64 seq,.string data,.bool true]:List Value),u.oneCell'=true:=by
      intro u hu;simp at hu;rcases hu with rfl | rfl | rfl | rfl | rfl | rfl | rfl <;> rfl
     have h63:L.length+1≤maxLen:=by refine Nat.le_trans ?_ maxLen_ge;omega
     have hby:(L.length+1)*64≤140737488355328:=by omega
     go_region_law (
      refine step_append_lies _ rfl (.tmp 77) (.tmp 81) 36 rfl B 166 i0 (.agg #[.int .i64 0,.int .i64 0,.int .i64 0,.int .i64 0,.int .i64 0,.string ⟨#[]⟩,.bool false]) 7 64 Tryz.underlying36 hi0 hz0 hz1 hz2 rfl (by decide) (.slice A L.length c) L.length (heldRow L) (by simp [Act.eval,Act.put]) (own_below HOW.out (by repeat (first | exact Below.refl _ _ | refine blw_alloc ?_ | refine blw_plus ?_ | refine Below.drew ?_)) (fun k e=>(own_ge HOW.out e).2)) ⟨W3.heap.size,0,none⟩ 1 1 [.int .i64 key,.int .i64 vw,.int .i64 vc,.int .i64 site,.int .i64 seq,.string data,.bool true] (by simp [Act.eval,Act.put]) rfl (World.news_of_block (cs:=#[.int .i64 key,.int .i64 vw,.int .i64 vc,.int .i64 site,.int .i64 seq,.string data,.bool true]) (by (try rw [heap_drew]);rw [heap_alloc,if_pos (by simp [heap_drew])])) HN1 (by decide) h63 hby (by simp;omega) _ rfl ?_
      intro g1 cap1 w1 hown1 hgrow hgl hlt1
      have hg:=grown_alloc (grown_drew hgrow)
      have hup:=RfAt.upd HS3.out hg (HROW.out _ _ _ hown1 rfl) (by
       rcases hgl with e | e
       ·exact .inl (by rw [e];rfl)
       ·exact .inr (by intro b hb;simp [Value.ownBlock] at hb;subst hb;rw [e];simp [heap_drew]))
      have HP:Hid (RfPost r o B (.slice A L.length c) RES w (.returned (.int .i64 0)) (w1.setCell ⟨r,o,none⟩ (.slice (some ⟨g1,0,none⟩) (L.length+1) cap1))):=hidp (by
       rw [HR.out];exact ⟨_,rfl,hup.1,hup.2.from hlr HB3.out⟩)
      have q1:w1.cell? ⟨r,o,none⟩=some (.slice A L.length c):=by rw [World.cell?_of_block (hg.block r (HS3.out.lt) (fun e=>HS3.out.ng e.symm))];exact k1
      have q2:w1.frozen? ⟨r,o,none⟩=false:=by rw [World.frozen?_of_block (hg.block r (HS3.out.lt) (fun e=>HS3.out.ng e.symm))];exact k2
      clear hown1 hgrow hgl hlt1 hg hup)
     all_goals
      go_wp2_with fail
      go_ret
      exact HP.out
end Go.Proofs.YtbopfhbeegkkaabGreatDoor
