/- Part M3 of a proof: lemmas and contracts that other parts use. -/
import Derived.Test.YtbopfhbeegkkaabGreatDoorCaK19
import Derived.Test.YtbopfhbeegkkaabGreatDoorCaM2
set_option linter.unusedVariables false
set_option linter.unusedSimpArgs false
set_option linter.constructorNameAsVariable false
namespace Go.Proofs.YtbopfhbeegkkaabGreatDoor
open Go.RowKit
section
variable {w W W':World} {O O':Nat→Ob} {n p tb:Nat} {s:TlP} {t:TV}
theorem TAx.txs (h:TAx w.heap.size O p tb s t) (hm:Mem w W n O) (hn:p+25≤n):∃ (ts:List MTx) (Al:Option Addr) (cl:Nat) (vO:Value),W.heap[tb]?=some (.cells #[.pointer (some ⟨t.g,0,none⟩),.int .i64 (s.A.S:Int),.int .i64 (s.A.C:Int),.slice Al ts.length cl,vO] 110)∧XsAt W Al ts∧ts.map (·.t)=s.T∧∀ m∈ts,WsAt W m.A m.t.ws:=by
 obtain ⟨hrow,_⟩:=h.rowT hm hn
 obtain ⟨Al,cl,e⟩:=own_form hrow.1
 have hb:=h.blk hm hn
 have hx:=hrow.1
 rw [e] at hx hb
 exact ⟨t.ts,Al,cl,_,hb,own_xs hx,h.eT,fun m hm=>(hrow.2 m hm).1⟩
end
def T2St (w:World) (ta ga tb gb C S i j:Nat) (W:World) (s t:TlP):Prop:=∃ O u v b,Mem w W 50 O∧(TAx w.heap.size O 0 ta s u∧u.g=ga∧TlOk s b∧s.T.length≤i∧s.A.C=C∧s.A.S=S)∧(TAx w.heap.size O 25 tb t v∧v.g=gb∧TlOk t (fun _ _=>0)∧t.T.length≤j∧t.A.C=C∧t.A.S=S)
section
variable {w W W':World} {ta ga tb gb C S i j:Nat} {s t:TlP}
theorem T2St.below (h:T2St w ta ga tb gb C S i j W s t) (hb:Below W.heap.size W W'):T2St w ta ga tb gb C S i j W' s t:=by
 obtain ⟨O,u,v,b,h1,h2⟩:=h
 exact ⟨O,u,v,b,h1.below hb,h2⟩
theorem T2St.low (h:T2St w ta ga tb gb C S i j W s t):Below w.heap.size w W:=by
 obtain ⟨O,u,v,b,h1,_⟩:=h
 exact h1.low
theorem T2St.more (h:T2St w ta ga tb gb C S i j W s t):T2St w ta ga tb gb C S (i+1) (j+1) W s t:=by
 obtain ⟨O,u,v,b,h1,⟨h2,h3,h4,h5,h6⟩,k2,k3,k4,k5,k6⟩:=h
 exact ⟨O,u,v,b,h1,⟨h2,h3,h4,by omega,h6⟩,k2,k3,k4,by omega,k6⟩
theorem T2St.len (h:T2St w ta ga tb gb C S i j W s t):s.T.length≤i:=by
 obtain ⟨O,u,v,b,h1,⟨h2,h3,h4,h5,h6⟩,k2⟩:=h
 exact h5
theorem T2St.txsA (h:T2St w ta ga tb gb C S i j W s t):∃ (ts:List MTx) (Al:Option Addr) (cl:Nat) (vO:Value),W.heap[ta]?=some (.cells #[.pointer (some ⟨ga,0,none⟩),.int .i64 (S:Int),.int .i64 (C:Int),.slice Al ts.length cl,vO] 110)∧XsAt W Al ts∧ts.map (·.t)=s.T∧∀ m∈ts,WsAt W m.A m.t.ws∧m.t.ws.length≤1000000:=by
 obtain ⟨O,u,v,b,h1,⟨h2,rfl,h4,h5,rfl,rfl⟩,_⟩:=h
 obtain ⟨ts,Al,cl,vO,a1,a2,a3,a4⟩:=h2.txs h1 (by omega)
 refine ⟨ts,Al,cl,vO,a1,a2,a3,fun m hm=>⟨a4 m hm,?_⟩⟩
 have hr:=h4.inv.t.rt m.t (by rw [←a3];exact List.mem_map_of_mem hm)
 have hw:=of_decide_eq_true (Bool.and_eq_true_iff.1 (rightTx_ws hr)).2
 omega
theorem T2St.txsB (h:T2St w ta ga tb gb C S i j W s t):∃ (ts:List MTx) (Al:Option Addr) (cl:Nat) (vO:Value),W.heap[tb]?=some (.cells #[.pointer (some ⟨gb,0,none⟩),.int .i64 (S:Int),.int .i64 (C:Int),.slice Al ts.length cl,vO] 110)∧XsAt W Al ts∧ts.map (·.t)=t.T∧∀ m∈ts,WsAt W m.A m.t.ws:=by
 obtain ⟨O,u,v,b,h1,_,h2,rfl,h4,h5,rfl,e⟩:=h
 rw [←e]
 exact h2.txs h1 (by omega)
theorem T2St.doesA (hg:EType w) (h:T2St w ta ga tb gb C S i j W s t) (hi:i<200) (a:TaP):Calls Tryz.prog 53 #[.pointer (some ⟨ta,0,none⟩),a.val,.bool true] W fun e w'=>e=.returned (.bool true)∧T2St w ta ga tb gb C S (i+1) j w' (tlDo s a true) t:=by
 obtain ⟨O,u,v,b,h1,⟨h2,rfl,h4,h5,rfl,rfl⟩,k2,k3⟩:=h
 obtain ⟨b',hb'⟩:=h4.step (by omega) a true
 obtain ⟨l1,l2,l3⟩:=tlDo_all s a true
 exact (does_any (hg.low h1.low) h2 h1 (by omega) h4 (by omega) a true).mono fun e w' ⟨e1,O',u',q1,⟨q2,q3⟩,q4⟩=>⟨e1,O',u',v,b',q1,⟨q2,q3,hb',by omega,l2,l3⟩,k2.keep fun j hj=>q4 (25+j) (by omega) (.inr (by omega)),k3⟩
theorem T2St.doesB (hg:EType w) (h:T2St w ta ga tb gb C S i j W s t) (hj:j<200) (a:TaP):Calls Tryz.prog 53 #[.pointer (some ⟨tb,0,none⟩),a.val,.bool false] W fun e w'=>e=.returned (.bool true)∧T2St w ta ga tb gb C S i (j+1) w' s (tlDo t a false):=by
 obtain ⟨O,u,v,b,h1,⟨h2,h3⟩,k2,rfl,k4,k5,k6,k7⟩:=h
 obtain ⟨l1,l2,l3⟩:=tlDo_all t a false
 exact (does_any (hg.low h1.low) k2 h1 (by omega) k4 (by omega) a false).mono fun e w' ⟨e1,O',v',q1,⟨q2,q3⟩,q4⟩=>⟨e1,O',u,v',b,q1,⟨h2.keep fun j hj=>q4 (0+j) (by omega) (.inl (by omega)),h3⟩,q2,q3,k4.stepF (by omega) a,by omega,l2.trans k6,l3.trans k7⟩
theorem T2St.readA (h:T2St w ta ga tb gb C S i j W s t) {k:Nat} (hk:k<C) (key:Int) (hwf:wf64 key):Calls Tryz.prog 60 #[.pointer (some ⟨ga,0,none⟩),.int .i64 (k:Nat),.int .i64 key] W fun e w'=>e=.returned (.tuple #[.string (awRead s.A k key).1,errV (awRead s.A k key).2])∧T2St w ta ga tb gb C S i j w' s t:=by
 obtain ⟨O,u,v,b,h1,⟨h2,rfl,h4,h5,rfl,rfl⟩,k2⟩:=h
 exact (wRead_ok h2.w h1 (by omega) hk key hwf).mono fun e w' ⟨e1,e2⟩=>⟨e1,O,u,v,b,h1.below e2,⟨h2,rfl,h4,h5,rfl,rfl⟩,k2⟩
theorem T2St.readB (h:T2St w ta ga tb gb C S i j W s t) {k:Nat} (hk:k<C) (key:Int) (hwf:wf64 key):Calls Tryz.prog 60 #[.pointer (some ⟨gb,0,none⟩),.int .i64 (k:Nat),.int .i64 key] W fun e w'=>e=.returned (.tuple #[.string (awRead t.A k key).1,errV (awRead t.A k key).2])∧T2St w ta ga tb gb C S i j w' s t:=by
 obtain ⟨O,u,v,b,h1,k2,h2,rfl,h4,h5,rfl,h6⟩:=h
 exact (wRead_ok h2.w h1 (by omega) hk key hwf).mono fun e w' ⟨e1,e2⟩=>⟨e1,O,u,v,b,h1.below e2,k2,h2,rfl,h4,h5,rfl,h6⟩
theorem T2St.siteA (h:T2St w ta ga tb gb C S i j W s t) {k:Nat} (hk:k<S):Calls Tryz.prog 58 #[.pointer (some ⟨ga,0,none⟩),.int .i64 (k:Nat)] W fun e w'=>∃ At ct,e=.returned (.tuple #[.agg #[.int .i64 (s.A.si k).p0,.int .i64 (s.A.si k).p1,.int .i64 (s.A.si k).p2,.int .i64 (s.A.si k).p3],.int .i64 ((s.A.si k).ws.length:Nat),.slice At 8 ct,.int .i64 ((s.A.si k).held.length:Nat),.nilIface])∧TsAt w' At (aTold (s.A.si k))∧Below W.heap.size W w':=by
 obtain ⟨O,u,v,b,h1,⟨h2,rfl,h4,h5,rfl,rfl⟩,k2⟩:=h
 exact (wSite_ok h2.w h1 (by omega) hk).mono fun e w' ⟨At,ct,e1,e2,e3⟩=>⟨At,ct,e1,e2,e3⟩
theorem T2St.siteB (h:T2St w ta ga tb gb C S i j W s t) {k:Nat} (hk:k<S):Calls Tryz.prog 58 #[.pointer (some ⟨gb,0,none⟩),.int .i64 (k:Nat)] W fun e w'=>∃ At ct,e=.returned (.tuple #[.agg #[.int .i64 (t.A.si k).p0,.int .i64 (t.A.si k).p1,.int .i64 (t.A.si k).p2,.int .i64 (t.A.si k).p3],.int .i64 ((t.A.si k).ws.length:Nat),.slice At 8 ct,.int .i64 ((t.A.si k).held.length:Nat),.nilIface])∧TsAt w' At (aTold (t.A.si k))∧Below W.heap.size W w':=by
 obtain ⟨O,u,v,b,h1,k2,h2,rfl,h4,h5,e6,rfl⟩:=h
 exact (wSite_ok h2.w h1 (by omega) hk).mono fun e w' ⟨At,ct,e1,e2,e3⟩=>⟨At,ct,e1,e2,e3⟩
theorem T2St.toldE (h:T2St w ta ga tb gb C S i j W s t) (hs:TlSw s t) {k:Nat} (hk:k<S):aTold (s.A.si k)=aTold (t.A.si k)∧(s.A.si k).held.length≤(t.A.si k).held.length:=by
 obtain ⟨O,u,v,b,h1,⟨h2,rfl,h4,h5,rfl,rfl⟩,k2,k3,k4,_⟩:=h
 exact ⟨hs.told h4 k4 hk,hs.many h4 k4 hk⟩
theorem T2St.readE (h:T2St w ta ga tb gb C S i j W s t) (hs:TlSw s t) {k:Nat} (hk:k<C) {key:Int} (hkey:0≤key∧key<8):awRead s.A k key=awRead t.A k key:=by
 obtain ⟨O,u,v,b,h1,⟨h2,rfl,h4,h5,rfl,rfl⟩,k2,k3,k4,_⟩:=h
 exact hs.reads h4 k4 hk hkey
theorem T2St.new (sites clients:Int) (O:Nat→Ob) (ta:Nat) (t:TV) (h1:Mem w W 25 O) (h2:TAx w.heap.size O 0 ta (tlNew (1+pickN sites 4) (1+pickN clients 6)) t):Calls Tryz.prog 52 #[.int .i64 sites,.int .i64 clients] W fun e w'=>∃ tb gb,e=.returned (.pointer (some ⟨tb,0,none⟩))∧T2St w ta t.g tb gb (1+pickN clients 6) (1+pickN sites 4) 0 0 w' (tlNew (1+pickN sites 4) (1+pickN clients 6)) (tlNew (1+pickN sites 4) (1+pickN clients 6)):=by
 have hc:=pickN_lt clients (n:=6) (by omega)
 have hs:=pickN_lt sites (n:=4) (by omega)
 have hok:TlOk (tlNew (1+pickN sites 4) (1+pickN clients 6)) (fun _ _=>0):=⟨CInv.fresh (by omega),by show 1≤1+pickN clients 6;omega,fun k hk ho=>(by cases ho)⟩
 exact (tells_any h1 sites clients).mono fun e w' ⟨tb,e1,O',v,q1,q2,q3⟩=>⟨tb,v.g,e1,O',t,v,fun _ _=>0,q1,⟨h2.keep fun j hj=>q3 (0+j) (by omega),rfl,hok,Nat.le_refl _,rfl,rfl⟩,q2,rfl,hok,Nat.le_refl _,rfl,rfl⟩
end
end Go.Proofs.YtbopfhbeegkkaabGreatDoor
