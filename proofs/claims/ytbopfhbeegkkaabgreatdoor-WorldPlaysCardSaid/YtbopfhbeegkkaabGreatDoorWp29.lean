/- Part 29 of a proof: lemmas and contracts that other parts use. -/
import Derived.Test.YtbopfhbeegkkaabGreatDoorWp28
import Derived.Test.YtbopfhbeegkkaabGreatDoorWp21
import Derived.Test.YtbopfhbeegkkaabGreatDoorWp18
import Derived.Test.YtbopfhbeegkkaabGreatDoorWp11
import Derived.Deep.DeepCutAuto
import Derived.Deep.CutBlock
set_option linter.unusedVariables false
set_option linter.unusedSimpArgs false
set_option linter.constructorNameAsVariable false
set_option maxHeartbeats 16000000
set_option maxRecDepth 200000
namespace Go.Proofs.YtbopfhbeegkkaabGreatDoor
open Go.RowKit Go.Proofs.Tryz
theorem za4.low2 {w w':World}(h:za4 w) (hb:Below w w w'):za4 w':=by
 unfold za4 at *;rw[hb.cell (p:=⟨0,0,none⟩) (ybb w _ h)];exact h
section
variable {w0 w:World}{T:TWo}{A:AWd}{E:List Ob}{N key:Int}{wd:ByteArray}{wg:Bool}{k:Nat}
theorem TW.acl (h:TW w0 w T A A E) (hk:k<A.C):∃ (S C pl bS cS bC cC bP cP u x:Nat),(A.S=S∧A.C=C∧A.pl k=pl)∧(zaj (T.gr+1) w∧zaj (bS+1) w∧zaj (bC+1) w∧zaj (bP+1) w)∧
  (w.cell? ⟨T.gr,0,none⟩=some (.slice (some ⟨bS,0,none⟩) S cS)∧w.cell? ⟨T.gr,2,none⟩=some (.slice (some ⟨bC,0,none⟩) C cC)∧w.cell? ⟨T.gr,3,none⟩=some (.slice (some ⟨bP,0,none⟩) C cP))∧
  (w.cell? ⟨bC,k,none⟩=some (.pointer (some ⟨u,0,none⟩))∧w.cell? ⟨bP,k,none⟩=some (ii (pl:Int))∧w.cell? ⟨bS,pl,none⟩=some (.pointer (some ⟨x,0,none⟩)))∧
  ((0:Int)≤(k:Int)∧(k:Int)<(C:Int)∧decide ((k:Int)<0)=false∧decide ((C:Int)≤(k:Int))=false∧(C:Int)≤6∧(k:Int)<6∧(0:Int)≤(pl:Int)∧(pl:Int)<(S:Int)∧(pl:Int)<4)∧T.ts[k]?=some u∧T.ys[pl]?=some x:=by
 obtain⟨bS,cS,bW,cW,aC,cC,aP,cP,aG,cG,hb,hbS,hbW,kS,kW,fW,⟨lS,lT⟩,hC⟩:=h.blk;obtain⟨bC,bP,rfl,rfl,hbC,hbP,kC,kP,fP⟩:=hC zO;obtain⟨u,hu⟩:∃ u,T.ts[k]?=some u:=⟨T.ts[k]'zO,yaa _⟩;have hplS:=h.ok.pl k;obtain⟨x,hx⟩:∃ x,T.ys[A.pl k]?=some x:=⟨T.ys[A.pl k]'zO,yaa _⟩;have c0:=zaa hb 0;have c2:=zaa hb 2;have c3:=zaa hb 3;simp only[zC,zD,zE]at c0 c2 c3;have hC6:=h.ok.C;have hS4:=h.ok.S;exact⟨_,_,_,bS,cS,bC,cC,bP,cP,u,x,⟨rfl,rfl,rfl⟩,⟨⟨zae hb⟩,⟨hbS.2⟩,⟨hbC.2⟩,⟨hbP.2⟩⟩,⟨c0,c2,c3⟩,⟨kC k u hu,kP k hk,kS _ x hx⟩,⟨zO,zO,zU,zU,zO,zO,zO,zO,zO⟩,hu,hx⟩
theorem zie (h:TW w0 w T A A E) (hg:za4 w0) (hk:k<A.C):
  Calls prog 64 #[.pointer (some ⟨T.gp,0,none⟩),.pointer (some ⟨T.gr,0,none⟩),.agg #[ii 0,ii (k:Nat),ii N,ii key,.string wd,.bool wg]] w fun e w'=>e=.returned (.bool true)∧TW w0 w' T (zev A k) (zev A k) E:=by
 have HG:=zac hg;clear hg;obtain⟨S,C,pl,bS,cS,bC,cC,bP,cP,u,x,⟨hgS,hgC,hgP⟩,⟨i1,i2,i3,i4⟩,⟨c0,c2,c3⟩,⟨xC,xP,xS⟩,⟨hk0,hkC,hkn,hkm,hC6i,hk6,hp0,hpS,hp4⟩,hu,hx⟩:=h.acl hk;have HT:=zac (h.push (.cells #[ii 0,ii (k:Nat),N,key,.string wd,.bool wg] 129));have HK:=zac hk;have HU:=zac hu;have HX:=zac hx;clear h hk hu hx;go_enter func64,ntmps64;go_wp2_with (refine zaw fun x1=>?_);go_at_call 39;refine((HT.out.below zB).rc (A1:=zev A k) fun n O v e1 e2 hp h hn=>hp.sBegin h hn (by rw[e2];exact HU.out) (by rw[e1,hgP];exact HX.out)).mono ?_;rintro e w3 ⟨rfl,ht3⟩;have hz:=(zac ht3).out.box (b:=w.heap.size) (o:=.cells #[ii 0,ii (k:Nat),N,key,.string wd,.bool wg] 129) zS;have q1:=zaa hz 1;simp only[zC,zD,zE]at q1;haveI:zaj (w.heap.size+1) w3:=⟨zae hz⟩;clear hz;have HT3:=zac ht3;clear ht3 HT;go_wp2_with fail;go_at_call 100;refine((HT3.out.below zB).pc (A1:=zev A k) fun n O v hp h hn=>zlW hp h hn HK.out).mono ?_;rintro e w4 ⟨rfl,ht4⟩;have HT4:=zac ht4;clear ht4;go_wp2_with fail;go_at_call 12;refine(zcZ _ w4 (za4.low2 HG.out HT4.out.low)).mono ?_;rintro e w5 ⟨rfl,hb5⟩;have HT5:=zac (HT4.out.below hb5);obtain⟨x5,rfl⟩:=zad hb5;clear hb5;go_wp2_with fail;go_ret;exact⟨rfl,(HT5.out.below zB).less⟩
theorem zgV (h:TW w0 w T A A E) (hg:za4 w0) (K:Int) (hK:K<0∨(A.C:Int)≤K):
  Calls prog 64 #[.pointer (some ⟨T.gp,0,none⟩),.pointer (some ⟨T.gr,0,none⟩),.agg #[ii 0,ii K,ii N,ii key,.string wd,.bool wg]] w fun e w'=>e=.returned (.bool true)∧TW w0 w' T A A E:=by
 obtain⟨bS,cS,bW,cW,aC,cC,aP,cP,aG,cG,hb,_⟩:=h.blk;have c2:=zaa hb 2;simp only[zC,zD,zE]at c2;haveI:zaj (T.gr+1) w:=⟨zae hb⟩;have HG:=zac hg;have HT:=zac (h.push (.cells #[ii 0,K,N,key,.string wd,.bool wg] 129));have HK:=zac hK;obtain⟨C,hgC⟩:∃ C,A.C=C:=⟨_,rfl⟩;rw[hgC]at c2 hK;have hx:(decide (K<0)=true∧True)∨(decide (K<0)=false∧decide ((C:Int)≤K)=true):=by simp only[yap,yaD,ybN];omega
 clear hb h hg hK;rcases hx with ⟨hkn,hkm⟩|⟨hkn,hkm⟩
 all_goals
  go_enter func64,ntmps64;go_wp2_with (refine zaw fun x1=>?_);go_at_call 100;refine((HT.out.below zB).pb fun n O v hp h hn=>zkC hp h hn K HK.out).mono ?_;rintro e w4 ⟨rfl,ht4⟩;have HT4:=zac ht4;clear ht4;go_wp2_with fail;go_at_call 12;refine(za0 2 w4 (za4.low2 HG.out HT4.out.low)).mono ?_;rintro e w5 ⟨rfl,hb5⟩;have HT5:=zac (HT4.out.below hb5);obtain⟨x5,rfl⟩:=zad hb5;clear hb5;go_wp2_with fail;go_ret;exact⟨rfl,(HT5.out.below zB).less⟩
theorem zje (h:TW w0 w T A A E) (hg:za4 w0) (hk:k<A.C) (hwf:zcr N) (hW:(A.cl k).W.length≤900):
  Calls prog 64 #[.pointer (some ⟨T.gp,0,none⟩),.pointer (some ⟨T.gr,0,none⟩),.agg #[ii 1,ii (k:Nat),ii N,ii key,.string wd,.bool wg]] w fun e w'=>e=.returned (.bool true)∧TW w0 w' T (A) (A) E:=by
 have HG:=zac hg;have HWF:=zac hwf;have HW:=zac hW;clear hwf hW;clear hg;obtain⟨S,C,pl,bS,cS,bC,cC,bP,cP,u,x,⟨hgS,hgC,hgP⟩,⟨i1,i2,i3,i4⟩,⟨c0,c2,c3⟩,⟨xC,xP,xS⟩,⟨hk0,hkC,hkn,hkm,hC6i,hk6,hp0,hpS,hp4⟩,hu,hx⟩:=h.acl hk;have HT:=zac (h.push (.cells #[ii 1,ii (k:Nat),N,key,.string wd,.bool wg] 129));have HK:=zac hk;have HU:=zac hu;have HX:=zac hx;clear h hk hu hx;go_enter func64,ntmps64;go_wp2_with (refine zaw fun x1=>?_);go_at_call 40;refine((HT.out.below zB).rb fun n O v e1 e2 hp h hn=>hp.sRead h hn (by rw[e2];exact HU.out) (by rw[e1,hgP];exact HX.out) N HW.out).mono ?_;rintro e w3 ⟨rfl,ht3⟩;have hz:=(zac ht3).out.box (b:=w.heap.size) (o:=.cells #[ii 1,ii (k:Nat),N,key,.string wd,.bool wg] 129) zS;have q1:=zaa hz 1;have q2:=zaa hz 2;simp only[zC,zD,zE]at q1 q2;haveI:zaj (w.heap.size+1) w3:=⟨zae hz⟩;clear hz;have HT3:=zac ht3;clear ht3 HT;go_wp2_with fail;go_at_call 60;refine((HT3.out.below zB).pb fun n O v hp h hn=>wRead_ok hp h hn HK.out N HWF.out).mono ?_;rintro e w4 ⟨rfl,ht4⟩;have HT4:=zac ht4;clear ht4;go_wp2_with fail;go_at_call 12;refine(zcZ _ w4 (za4.low2 HG.out HT4.out.low)).mono ?_;rintro e w5 ⟨rfl,hb5⟩;have HT5:=zac (HT4.out.below hb5);obtain⟨x5,rfl⟩:=zad hb5;clear hb5;go_wp2_with fail;go_ret;exact⟨rfl,(HT5.out.below zB).less⟩
theorem zic (h:TW w0 w T A A E) (hg:za4 w0) (K:Int) (hK:K<0∨(A.C:Int)≤K):
  Calls prog 64 #[.pointer (some ⟨T.gp,0,none⟩),.pointer (some ⟨T.gr,0,none⟩),.agg #[ii 1,ii K,ii N,ii key,.string wd,.bool wg]] w fun e w'=>e=.returned (.bool true)∧TW w0 w' T A A E:=by
 obtain⟨bS,cS,bW,cW,aC,cC,aP,cP,aG,cG,hb,_⟩:=h.blk;have c2:=zaa hb 2;simp only[zC,zD,zE]at c2;haveI:zaj (T.gr+1) w:=⟨zae hb⟩;have HG:=zac hg;have HT:=zac (h.push (.cells #[ii 1,K,N,key,.string wd,.bool wg] 129));have HK:=zac hK;obtain⟨C,hgC⟩:∃ C,A.C=C:=⟨_,rfl⟩;rw[hgC]at c2 hK;have hx:(decide (K<0)=true∧True)∨(decide (K<0)=false∧decide ((C:Int)≤K)=true):=by simp only[yap,yaD,ybN];omega
 clear hb h hg hK;rcases hx with ⟨hkn,hkm⟩|⟨hkn,hkm⟩
 all_goals
  go_enter func64,ntmps64;go_wp2_with (refine zaw fun x1=>?_);go_at_call 60;refine((HT.out.below zB).pb fun n O v hp h hn=>zlP hp h hn K HK.out N).mono ?_;rintro e w4 ⟨rfl,ht4⟩;have HT4:=zac ht4;clear ht4;go_wp2_with fail;go_at_call 12;refine(za0 2 w4 (za4.low2 HG.out HT4.out.low)).mono ?_;rintro e w5 ⟨rfl,hb5⟩;have HT5:=zac (HT4.out.below hb5);obtain⟨x5,rfl⟩:=zad hb5;clear hb5;go_wp2_with fail;go_ret;exact⟨rfl,(HT5.out.below zB).less⟩
theorem zib (h:TW w0 w T A A E) (hg:za4 w0) (hk:k<A.C) (hW:(A.cl k).W.length≤900):
  Calls prog 64 #[.pointer (some ⟨T.gp,0,none⟩),.pointer (some ⟨T.gr,0,none⟩),.agg #[ii 2,ii (k:Nat),ii N,ii key,.string wd,.bool wg]] w fun e w'=>e=.returned (.bool true)∧TW w0 w' T (zdW A k ⟨key,wd,wg⟩) (zdW A k ⟨key,wd,wg⟩) E:=by
 have HG:=zac hg;have HW:=zac hW;clear hW;clear hg;obtain⟨S,C,pl,bS,cS,bC,cC,bP,cP,u,x,⟨hgS,hgC,hgP⟩,⟨i1,i2,i3,i4⟩,⟨c0,c2,c3⟩,⟨xC,xP,xS⟩,⟨hk0,hkC,hkn,hkm,hC6i,hk6,hp0,hpS,hp4⟩,hu,hx⟩:=h.acl hk;have HT:=zac (h.push (.cells #[ii 2,ii (k:Nat),N,key,.string wd,.bool wg] 129));have HK:=zac hk;have HU:=zac hu;have HX:=zac hx;clear h hk hu hx;go_enter func64,ntmps64;go_wp2_with (refine zaw fun x1=>?_);go_at_call 43;refine((HT.out.below zB).rc (A1:=zdW A k ⟨key,wd,wg⟩) fun n O v e1 e2 hp h hn=>hp.sWrite h hn (by rw[e2];exact HU.out) ⟨key,wd,wg⟩ HW.out).mono ?_;rintro e w3 ⟨rfl,ht3⟩;have hz:=(zac ht3).out.box (b:=w.heap.size) (o:=.cells #[ii 2,ii (k:Nat),N,key,.string wd,.bool wg] 129) zS;have q1:=zaa hz 1;have q3:=zaa hz 3;have q4:=zaa hz 4;have q5:=zaa hz 5;simp only[zC,zD,zE]at q1 q3 q4 q5;haveI:zaj (w.heap.size+1) w3:=⟨zae hz⟩;clear hz;have HT3:=zac ht3;clear ht3 HT;go_wp2_with fail;go_at_call 101;refine((HT3.out.below zB).pc (A1:=zdW A k ⟨key,wd,wg⟩) fun n O v hp h hn=>zlL hp h hn HK.out ⟨key,wd,wg⟩).mono ?_;rintro e w4 ⟨rfl,ht4⟩;have HT4:=zac ht4;clear ht4;go_wp2_with fail;go_at_call 12;refine(zcZ _ w4 (za4.low2 HG.out HT4.out.low)).mono ?_;rintro e w5 ⟨rfl,hb5⟩;have HT5:=zac (HT4.out.below hb5);obtain⟨x5,rfl⟩:=zad hb5;clear hb5;go_wp2_with fail;go_ret;exact⟨rfl,(HT5.out.below zB).less⟩
theorem zgT (h:TW w0 w T A A E) (hg:za4 w0) (K:Int) (hK:K<0∨(A.C:Int)≤K):
  Calls prog 64 #[.pointer (some ⟨T.gp,0,none⟩),.pointer (some ⟨T.gr,0,none⟩),.agg #[ii 2,ii K,ii N,ii key,.string wd,.bool wg]] w fun e w'=>e=.returned (.bool true)∧TW w0 w' T A A E:=by
 obtain⟨bS,cS,bW,cW,aC,cC,aP,cP,aG,cG,hb,_⟩:=h.blk;have c2:=zaa hb 2;simp only[zC,zD,zE]at c2;haveI:zaj (T.gr+1) w:=⟨zae hb⟩;have HG:=zac hg;have HT:=zac (h.push (.cells #[ii 2,K,N,key,.string wd,.bool wg] 129));have HK:=zac hK;obtain⟨C,hgC⟩:∃ C,A.C=C:=⟨_,rfl⟩;rw[hgC]at c2 hK;have hx:(decide (K<0)=true∧True)∨(decide (K<0)=false∧decide ((C:Int)≤K)=true):=by simp only[yap,yaD,ybN];omega
 clear hb h hg hK;rcases hx with ⟨hkn,hkm⟩|⟨hkn,hkm⟩
 all_goals
  go_enter func64,ntmps64;go_wp2_with (refine zaw fun x1=>?_);go_at_call 101;refine((HT.out.below zB).pb fun n O v hp h hn=>zkx hp h hn K HK.out ⟨key,wd,wg⟩).mono ?_;rintro e w4 ⟨rfl,ht4⟩;have HT4:=zac ht4;clear ht4;go_wp2_with fail;go_at_call 12;refine(za0 2 w4 (za4.low2 HG.out HT4.out.low)).mono ?_;rintro e w5 ⟨rfl,hb5⟩;have HT5:=zac (HT4.out.below hb5);obtain⟨x5,rfl⟩:=zad hb5;clear hb5;go_wp2_with fail;go_ret;exact⟨rfl,(HT5.out.below zB).less⟩
theorem zif (h:TW w0 w T A A E) (hg:za4 w0) (hk:k<A.C):
  Calls prog 64 #[.pointer (some ⟨T.gp,0,none⟩),.pointer (some ⟨T.gr,0,none⟩),.agg #[ii 4,ii (k:Nat),ii N,ii key,.string wd,.bool wg]] w fun e w'=>e=.returned (.bool true)∧TW w0 w' T (zew A k) (zew A k) E:=by
 have HG:=zac hg;clear hg;obtain⟨S,C,pl,bS,cS,bC,cC,bP,cP,u,x,⟨hgS,hgC,hgP⟩,⟨i1,i2,i3,i4⟩,⟨c0,c2,c3⟩,⟨xC,xP,xS⟩,⟨hk0,hkC,hkn,hkm,hC6i,hk6,hp0,hpS,hp4⟩,hu,hx⟩:=h.acl hk;have HT:=zac (h.push (.cells #[ii 4,ii (k:Nat),N,key,.string wd,.bool wg] 129));have HK:=zac hk;have HU:=zac hu;have HX:=zac hx;clear h hk hu hx;go_enter func64,ntmps64;go_wp2_with (refine zaw fun x1=>?_);go_at_call 47;refine((HT.out.below zB).rc (A1:=zew A k) fun n O v e1 e2 hp h hn=>hp.sAbort h hn (by rw[e2];exact HU.out)).mono ?_;rintro e w3 ⟨rfl,ht3⟩;have hz:=(zac ht3).out.box (b:=w.heap.size) (o:=.cells #[ii 4,ii (k:Nat),N,key,.string wd,.bool wg] 129) zS;have q1:=zaa hz 1;simp only[zC,zD,zE]at q1;haveI:zaj (w.heap.size+1) w3:=⟨zae hz⟩;clear hz;have HT3:=zac ht3;clear ht3 HT;go_wp2_with fail;go_at_call 106;refine((HT3.out.below zB).pc (A1:=zew A k) fun n O v hp h hn=>zlY hp h hn HK.out).mono ?_;rintro e w4 ⟨rfl,ht4⟩;have HT4:=zac ht4;clear ht4;go_wp2_with fail;go_at_call 12;refine(zcZ _ w4 (za4.low2 HG.out HT4.out.low)).mono ?_;rintro e w5 ⟨rfl,hb5⟩;have HT5:=zac (HT4.out.below hb5);obtain⟨x5,rfl⟩:=zad hb5;clear hb5;go_wp2_with fail;go_ret;exact⟨rfl,(HT5.out.below zB).less⟩
theorem zgW (h:TW w0 w T A A E) (hg:za4 w0) (K:Int) (hK:K<0∨(A.C:Int)≤K):
  Calls prog 64 #[.pointer (some ⟨T.gp,0,none⟩),.pointer (some ⟨T.gr,0,none⟩),.agg #[ii 4,ii K,ii N,ii key,.string wd,.bool wg]] w fun e w'=>e=.returned (.bool true)∧TW w0 w' T A A E:=by
 obtain⟨bS,cS,bW,cW,aC,cC,aP,cP,aG,cG,hb,_⟩:=h.blk;have c2:=zaa hb 2;simp only[zC,zD,zE]at c2;haveI:zaj (T.gr+1) w:=⟨zae hb⟩;have HG:=zac hg;have HT:=zac (h.push (.cells #[ii 4,K,N,key,.string wd,.bool wg] 129));have HK:=zac hK;obtain⟨C,hgC⟩:∃ C,A.C=C:=⟨_,rfl⟩;rw[hgC]at c2 hK;have hx:(decide (K<0)=true∧True)∨(decide (K<0)=false∧decide ((C:Int)≤K)=true):=by simp only[yap,yaD,ybN];omega
 clear hb h hg hK;rcases hx with ⟨hkn,hkm⟩|⟨hkn,hkm⟩
 all_goals
  go_enter func64,ntmps64;go_wp2_with (refine zaw fun x1=>?_);go_at_call 106;refine((HT.out.below zB).pb fun n O v hp h hn=>zkD hp h hn K HK.out).mono ?_;rintro e w4 ⟨rfl,ht4⟩;have HT4:=zac ht4;clear ht4;go_wp2_with fail;go_at_call 12;refine(za0 2 w4 (za4.low2 HG.out HT4.out.low)).mono ?_;rintro e w5 ⟨rfl,hb5⟩;have HT5:=zac (HT4.out.below hb5);obtain⟨x5,rfl⟩:=zad hb5;clear hb5;go_wp2_with fail;go_ret;exact⟨rfl,(HT5.out.below zB).less⟩
end
section
variable {w0 w:World}{T:TWo}{A:AWd}{E:List Ob}{N key:Int}{wd:ByteArray}{wg:Bool}{k:Nat}
theorem TW.pre {Ap Ar:AWd}{G:List Ob}(h:TW w0 w T Ap Ar G) (hp:∃ F,G=E++F):TW w0 w T Ap Ar E:=by
 obtain⟨F,rfl⟩:=hp;exact h.less
theorem TW.fill9 {Ap Ar:AWd}{F:List Ob}{b:Nat}{z0 z1 z2 z3 z4 z5 z6 z7 z8:Value}{t:TypeId}(h:TW w0 w T Ap Ar (E++obB b (.cells #[z0,z1,z2,z3,z4,z5,z6,z7,z8] t) w0.heap.size::F)) (u0 u1 u2 u3 u4 u5 u6 u7 u8:Value):
  TW w0 (zcx w b u0 u1 u2 u3 u4 u5 u6 u7 u8) T Ap Ar (E++obB b (.cells #[u0,u1,u2,u3,u4,u5,u6,u7,u8] t) w0.heap.size::F):=by
 obtain⟨O1,v,v1,h1,h2,h3,ha,h4⟩:=h;have hi:(E++obB b (.cells #[z0,z1,z2,z3,z4,z5,z6,z7,z8] t) w0.heap.size::F)[E.length]?=some (obB b (.cells #[z0,z1,z2,z3,z4,z5,z6,z7,z8] t) w0.heap.size):=by rw[yaC (yai _),Nat.sub_self];rfl
 obtain⟨O2,k1,k2,k3⟩:=h1.fill9' (i:=32+E.length) zS (h4 _ _ hi) u0 u1 u2 u3 u4 u5 u6 u7 u8;have e8:32+(E++obB b (.cells #[u0,u1,u2,u3,u4,u5,u6,u7,u8] t) w0.heap.size::F).length=32+(E++obB b (.cells #[z0,z1,z2,z3,z4,z5,z6,z7,z8] t) w0.heap.size::F).length:=by simp
 rw[←e8]at k1;refine⟨O2,v,v1,k1,h2.keep (fun j hj=>k3 _ zO),h3.keep (fun j hj=>k3 _ zO),ha,fun j o hj=>?_⟩;by_cases e:j=E.length
 ·subst e
  rw[yaC (yai _),Nat.sub_self]at hj;cases hj;exact k2
 ·rw[k3 _ zO]
  refine h4 j o ?_;rcases Nat.lt_or_ge j E.length with h6|h6
  ·rw[yaX h6]at hj ⊢;exact hj
  ·rw[yaC h6]at hj ⊢
   rw[show j-E.length=(j-E.length-1)+1 by omega]at hj ⊢;exact hj
theorem zgU (h:TW w0 w T A A E) (hg:za4 w0) (hk:k<A.C) (hW:(A.cl k).W.length≤900):
  Calls prog 64 #[.pointer (some ⟨T.gp,0,none⟩),.pointer (some ⟨T.gr,0,none⟩),.agg #[ii 3,ii (k:Nat),ii N,ii key,.string wd,.bool wg]] w fun e w'=>e=.returned (.bool true)∧TW w0 w' T (zbB A k) (zbB A k) E:=by
 have HG:=zac hg;have HW:=zac hW;clear hg hW;obtain⟨S,C,pl,bS,cS,bC,cC,bP,cP,u,x,⟨hgS,hgC,hgP⟩,⟨i1,i2,i3,i4⟩,⟨c0,c2,c3⟩,⟨xC,xP,xS⟩,⟨hk0,hkC,hkn,hkm,hC6i,hk6,hp0,hpS,hp4⟩,hu,hx⟩:=h.acl hk;have HT:=zac (h.push (.cells #[ii 3,ii (k:Nat),N,key,.string wd,.bool wg] 129));have HK:=zac hk;have HU:=zac hu;have HX:=zac hx;clear h hk hu hx;obtain⟨z,hz⟩:∃ z,zaK A k=z:=⟨_,rfl⟩;obtain⟨TT,hT⟩:∃ TT,zdk A k=TT:=⟨_,rfl⟩;obtain⟨A2,hA2⟩:∃ A2,zbB A k=A2:=⟨_,rfl⟩;obtain⟨t0,t1,t2,t3,t4,t5,t6,t7,tws⟩:=TT;have HL:Hid (tws.length≤1000000):=zac (by
  have h1:(zdk A k).ws.length≤8:=by
   unfold zdk;split
   ·unfold zaZ zaT
    split
    ·simp[txZP]
    ·exact zd8 (A.cl k).W 8
   ·simp[txZP]
  rw[hT]at h1;show tws.length≤_;have h2:tws.length≤8:=h1;omega)
 have HP1:Hid (∀ W F,TW w0 W T A A F→Calls prog 116 #[.pointer (some ⟨T.gr,0,none⟩),ii (k:Nat)] W fun e w'=>∃ A1 c1,e=.returned (.tuple #[.agg #[ii t0,ii t1,ii t2,ii t3,ii t4,ii t5,ii t6,ii t7,.slice A1 tws.length c1],z])∧TW w0 w' T A A2 (F++[zcQ A1 tws])):=zac (fun W F h=>by
  have h1:=h.rCommit HK.out HW.out;rw[hz,hT,hA2]at h1;exact h1)
 have HP2:Hid (∀ W F,TW w0 W T A A2 F→Calls prog 102 #[.pointer (some ⟨T.gp,0,none⟩),ii (k:Nat)] W fun e w'=>∃ A1 c1,e=.returned (.tuple #[.agg #[ii t0,ii t1,ii t2,ii t3,ii t4,ii t5,ii t6,ii t7,.slice A1 tws.length c1],zbT z])∧TW w0 w' T A2 A2 (F++[zcQ A1 tws])):=zac (fun W F h=>by
  have h1:=h.pCommit HK.out;rw[hz,hT,hA2]at h1;exact h1)
 rw[hA2];clear hz hT hA2 HW HK HU HX;go_enter func64,ntmps64;go_wp2_with fail;refine zaw fun x1=>?_
 go_upto_region 7 with fail;refine zaw fun x2=>?_
 have HT2:Hid (TW w0 (zai (zai (w.alloc (.cells #[ii 3,ii (k:Nat),N,key,.string wd,.bool wg] 129)) x1) x2) T A A (E++[obB w.heap.size (.cells #[ii 3,ii (k:Nat),N,key,.string wd,.bool wg] 129) w0.heap.size])):=zac (HT.out.below zB);go_wp2_with fail;have ht2:=HT2.out.push (.cells #[ii 0,ii 0,ii 0,ii 0,ii 0,ii 0,ii 0,ii 0,.slice none 0 0] 44);refine(HP1.out _ _ ht2).mono ?_;rintro e w3 ⟨A1,c1,rfl,ht3⟩
 try simp only[wplus_size,ya8]at ht3
 clear ht2 HT HT2;have hne:¬w.heap.size=w.heap.size+1+x1.blocks.size+x2.blocks.size:=by omega
 generalize w.heap.size+1+x1.blocks.size+x2.blocks.size=b1 at *;have hz:=ht3.box (b:=w.heap.size) (o:=.cells #[ii 3,ii (k:Nat),N,key,.string wd,.bool wg] 129) zS;have hy:=ht3.box (b:=b1) (o:=(.cells #[ii 0,ii 0,ii 0,ii 0,ii 0,ii 0,ii 0,ii 0,.slice none 0 0] 44)) zS;have q1:=zaa hz 1;simp only[zC,zD,zE]at q1;have f0:=zab hy 0;have f1:=zab hy 1;have f2:=zab hy 2;have f3:=zab hy 3;have f4:=zab hy 4;have f5:=zab hy 5;have f6:=zab hy 6;have f7:=zab hy 7;have f8:=zab hy 8;have r0:=zaa hy 0;have r1:=zaa hy 1;have r2:=zaa hy 2;have r3:=zaa hy 3;have r4:=zaa hy 4;have r5:=zaa hy 5;have r6:=zaa hy 6;have r7:=zaa hy 7;have r8:=zaa hy 8;simp only[zC,zD,zE]at r0 r1 r2 r3 r4 r5 r6 r7 r8;haveI:zaj (w.heap.size+1) w3:=⟨zae hz⟩;haveI:zaj (b1+1) w3:=⟨zae hy⟩;have h3:TW w0 w3 T A A2 ((E++[obB w.heap.size (.cells #[ii 3,ii (k:Nat),N,key,.string wd,.bool wg] 129) w0.heap.size])++obB b1 (.cells #[ii 0,ii 0,ii 0,ii 0,ii 0,ii 0,ii 0,ii 0,.slice none 0 0] 44) w0.heap.size::[zcQ A1 tws]):=by simpa using ht3
 have HT3:=zac (h3.fill9 (ii t0) (ii t1) (ii t2) (ii t3) (ii t4) (ii t5) (ii t6) (ii t7) (.slice A1 tws.length c1));clear hz hy h3 ht3 HP1;go_wp2_with fail;go_at_call 102;refine(HP2.out _ _ HT3.out).mono ?_;rintro e w5 ⟨A3,c3,rfl,ht5⟩;have hy:=ht5.box (b:=b1) (o:=(.cells #[t0,t1,t2,t3,t4,t5,t6,t7,.slice A1 tws.length c1] 44)) zS;have s0:=zaa hy 0;have s1:=zaa hy 1;have s2:=zaa hy 2;have s3:=zaa hy 3;have s4:=zaa hy 4;have s5:=zaa hy 5;have s6:=zaa hy 6;have s7:=zaa hy 7;have s8:=zaa hy 8;simp only[zC,zD,zE]at s0 s1 s2 s3 s4 s5 s6 s7 s8;haveI:zaj (b1+1) w5:=⟨zae hy⟩;have HT5:=zac ht5;have HW1:=zac (ht5.ws (A1:=A1) (ws:=tws) zS);have HW3:=zac (ht5.ws (A1:=A3) (ws:=tws) zS);clear hy ht5 HP2 HT3;go_wp2_with fail;go_at_call 12;refine(zcZ z _ (za4.low2 (za4.low2 HG.out HT5.out.low) (show Below w5 w5 _ from zB))).mono ?_;rintro e w6 ⟨rfl,hb6⟩;obtain⟨x6,rfl⟩:=zad hb6;clear hb6;go_wp2_with fail;go_at_call 16;refine(zl9 t0 t1 t2 t3 t4 t5 t6 t7 tws A3 A1 c3 c1 _ HL.out (HW3.out.below zB) (HW1.out.below zB)).mono ?_;rintro e w7 ⟨rfl,hb7⟩;obtain⟨x7,rfl⟩:=zad hb7;clear hb7;go_wp2_with fail;go_ret;exact⟨rfl,(HT5.out.below zB).pre ⟨_,by simp only[ybh];rfl⟩⟩
end
section
variable {w0 w:World}{n:Nat}{O:Nat→Ob}{p g:Nat}{A:AWd}{v:WV}
theorem zjl (hp:PWx w0.heap.size O p g A v) (h:Mem w0 w n O) (hn:p+16≤n) (k:Int) (hk:k<0∨(A.C:Int)≤k):
  Calls prog 102 #[.pointer (some ⟨g,0,none⟩),k] w fun e w'=>e=.returned (.tuple #[.agg #[ii 0,ii 0,ii 0,ii 0,ii 0,ii 0,ii 0,ii 0,.slice none 0 0],.iface 29 (ii 2)])∧Below w w w':=by
 have HC:=zac (fun W (hW:Below w w W)=>zcB hp (h.below hW) hn k hk);clear hp h hk;go_enter func102,ntmps102;go_wp2_with fail;go_at_call 112;refine(HC.out _ zB).mono ?_;rintro e w1 ⟨rfl,hb1⟩;obtain⟨x1,rfl⟩:=zad hb1;clear hb1 HC;go_wp2_with fail;refine yag (v:=.tuple #[.agg #[ii 0,ii 0,ii 0,ii 0,ii 0,ii 0,ii 0,ii 0,.slice none 0 0],.iface 29 (ii 2)]) ?_ rfl ⟨rfl,zB⟩;simp[results,results102,go_sem]
end
section
variable {w0 w:World}{T:TWo}{A:AWd}{E:List Ob}{N key:Int}{wd:ByteArray}{wg:Bool}{k:Nat}
theorem zgG (h:TW w0 w T A A E) (hg:za4 w0) (K:Int) (hK:K<0∨(A.C:Int)≤K):
  Calls prog 64 #[.pointer (some ⟨T.gp,0,none⟩),.pointer (some ⟨T.gr,0,none⟩),.agg #[ii 3,ii K,ii N,ii key,.string wd,.bool wg]] w fun e w'=>e=.returned (.bool true)∧TW w0 w' T A A E:=by
 obtain⟨bS,cS,bW,cW,aC,cC,aP,cP,aG,cG,hb,_⟩:=h.blk;have c2:=zaa hb 2;simp only[zC,zD,zE]at c2;haveI:zaj (T.gr+1) w:=⟨zae hb⟩;have HG:=zac hg;have HT:=zac (h.push (.cells #[ii 3,K,N,key,.string wd,.bool wg] 129));have HK:=zac hK;obtain⟨C,hgC⟩:∃ C,A.C=C:=⟨_,rfl⟩;rw[hgC]at c2;have wsAt_nil:∀ (W:World) (A:Option Addr),zaN W A []:=fun W A i x e=>by simp at e
 rw[hgC]at hK;have hx:(decide (K<0)=true∧True)∨(decide (K<0)=false∧decide ((C:Int)≤K)=true):=by simp only[yap,yaD,ybN];omega
 clear hb h hg hK;rcases hx with ⟨hkn,hkm⟩|⟨hkn,hkm⟩
 all_goals
  go_enter func64,ntmps64;go_wp2_with fail;refine zaw fun x1=>?_
  have HT2:Hid (TW w0 (zai (w.alloc (.cells #[ii 3,K,N,key,.string wd,.bool wg] 129)) x1) T A A (E++[obB w.heap.size (.cells #[ii 3,K,N,key,.string wd,.bool wg] 129) w0.heap.size])):=zac (HT.out.below zB);clear HT;go_wp2_with fail;go_at_call 102;refine((HT2.out.push (.cells #[ii 0,ii 0,ii 0,ii 0,ii 0,ii 0,ii 0,ii 0,.slice none 0 0] 44)).pb fun n O v hp h hn=>zjl hp h hn K HK.out).mono ?_;rintro e w4 ⟨rfl,ht4⟩;have hy:=ht4.box (b:=(zai (w.alloc (.cells #[ii 3,K,N,key,.string wd,.bool wg] 129)) x1).heap.size) (o:=(.cells #[ii 0,ii 0,ii 0,ii 0,ii 0,ii 0,ii 0,ii 0,.slice none 0 0] 44)) zS;simp only[wplus_size,ya8]at hy;have HT4:=zac ht4;clear ht4 HT2;generalize w.heap.size+1+x1.blocks.size=b1 at *;have s0:=zaa hy 0;have s1:=zaa hy 1;have s2:=zaa hy 2;have s3:=zaa hy 3;have s4:=zaa hy 4;have s5:=zaa hy 5;have s6:=zaa hy 6;have s7:=zaa hy 7;have s8:=zaa hy 8;simp only[zC,zD,zE]at s0 s1 s2 s3 s4 s5 s6 s7 s8;haveI:zaj (b1+1) w4:=⟨zae hy⟩;clear hy;go_wp2_with fail;go_at_call 12;refine(za0 2 _ (za4.low2 (za4.low2 HG.out HT4.out.low) (show Below w4 w4 _ from zB))).mono ?_;rintro e w6 ⟨rfl,hb6⟩;obtain⟨x6,rfl⟩:=zad hb6;clear hb6;go_wp2_with fail;go_at_call 16;refine(zl9 0 0 0 0 0 0 0 0 [] none none 0 0 _ zS (wsAt_nil _ _) (wsAt_nil _ _)).mono ?_;rintro e w7 ⟨rfl,hb7⟩;obtain⟨x7,rfl⟩:=zad hb7;clear hb7;go_wp2_with fail;go_ret;exact⟨rfl,(HT4.out.below zB).pre ⟨_,by simp only[ybh];rfl⟩⟩
theorem zid (h:TW w0 w T A A E) (hg:za4 w0) (K:Int) (hK:K<0∨(A.C:Int)≤K):
  Calls prog 64 #[.pointer (some ⟨T.gp,0,none⟩),.pointer (some ⟨T.gr,0,none⟩),.agg #[ii 5,ii K,ii N,ii key,.string wd,.bool wg]] w fun e w'=>e=.returned (.bool true)∧TW w0 w' T A A E:=by
 obtain⟨bS,cS,bW,cW,aC,cC,aP,cP,aG,cG,hb,_⟩:=h.blk;have c2:=zaa hb 2;simp only[zC,zD,zE]at c2;haveI:zaj (T.gr+1) w:=⟨zae hb⟩;have HG:=zac hg;have HT:=zac (h.push (.cells #[ii 5,K,N,key,.string wd,.bool wg] 129));have HK:=zac hK;obtain⟨C,hgC⟩:∃ C,A.C=C:=⟨_,rfl⟩;rw[hgC]at c2 hK;have hx:(decide (K<0)=true∧True)∨(decide (K<0)=false∧decide ((C:Int)≤K)=true):=by simp only[yap,yaD,ybN];omega
 clear hb h hg hK;rcases hx with ⟨hkn,hkm⟩|⟨hkn,hkm⟩
 all_goals
  go_enter func64,ntmps64;go_wp2_with (refine zaw fun x1=>?_);go_at_call 103;refine((HT.out.below zB).pb fun n O v hp h hn=>zlQ hp h hn K HK.out N).mono ?_;rintro e w4 ⟨rfl,ht4⟩;have HT4:=zac ht4;clear ht4;go_wp2_with fail;go_at_call 12;refine(za0 2 w4 (za4.low2 HG.out HT4.out.low)).mono ?_;rintro e w5 ⟨rfl,hb5⟩;have HT5:=zac (HT4.out.below hb5);obtain⟨x5,rfl⟩:=zad hb5;clear hb5;go_wp2_with fail;go_ret;exact⟨rfl,(HT5.out.below zB).less⟩
theorem TW.setPl (h:TW w0 w T A A E){k:Nat}{z:Int}{bP:Nat}{cP:Nat}(hz:0≤z∧z<(A.S:Int)) (hc:w.cell? ⟨T.gr,3,none⟩=some (.slice (some ⟨bP,0,none⟩) A.C cP)):
  TW w0 (w.setCell ⟨bP,k,none⟩ (ii z)) T A { A with pl:=zb5 A.pl k z.toNat } E:=by
 obtain⟨O,vp,vr,h1,h2,h3,h4,h5⟩:=h;have hb:=h3.blk h1 zO;have c3:=zaa hb 3;simp only[zC,zD,zE]at c3;rw[hc]at c3;have eP:vr.vP=.slice (some ⟨bP,0,none⟩) A.C cP:=(yaI c3).symm;have hzt:((z.toNat:Nat):Int)=z:=by omega
 have hb4:O (16+4)=_:=h3.b4;rw[eP]at hb4;obtain⟨O',k1,k2,k3⟩:=zeM h1 (i:=16+4) zO hb4 k z;have e2:(zb5 (fun i=>(A.pl i:Int)) k z)=fun i=>((zb5 A.pl k z.toNat i:Nat):Int):=by
  funext i;unfold zb5;split
  ·exact hzt.symm
  ·rfl
 rw[e2]at k2;exact⟨O',vp,vr,k1,h2.keep (fun j hj=>k3 _ zO),h3.setPl (z:=z.toNat) zO (by rw[eP];exact k2) (fun j hj hne=>k3 _ zO),h4,fun i o hi=>(k3 _ zO).trans (h5 i o hi)⟩
theorem zjf (h:TW w0 w T A A E) (hg:za4 w0) (hk:k<A.C):
  Calls prog 64 #[.pointer (some ⟨T.gp,0,none⟩),.pointer (some ⟨T.gr,0,none⟩),.agg #[ii 5,ii (k:Nat),ii N,ii key,.string wd,.bool wg]] w fun e w'=>e=.returned (.bool true)∧TW w0 w' T (zdF A k N) (zdF A k N) E:=by
 have HG:=zac hg;obtain⟨S,C,pl,bS,cS,bC,cC,bP,cP,u,x,⟨hgS,hgC,hgP⟩,⟨i1,i2,i3,i4⟩,⟨c0,c2,c3⟩,⟨xC,xP,xS⟩,⟨hk0,hkC,hkn,hkm,hC6i,hk6,hp0,hpS,hp4⟩,hu,hx⟩:=h.acl hk;obtain⟨wv,hu8⟩:=h.scells hu;have o8:=zaa hu8 8;simp only[zC,zD,zE]at o8;haveI:zaj (u+1) w:=⟨zae hu8⟩;have hne1:¬w.heap.size=bP:=by have:=i4.out;omega
 have hne2:¬bP=w.heap.size:=by have:=i4.out;omega
 obtain⟨A2,hA2⟩:∃ A2,zdF A k N=A2:=⟨_,rfl⟩;have HA2:=zac hA2;obtain⟨op,hop⟩:∃ op,(A.cl k).op=op:=⟨_,rfl⟩;have HT:=zac (h.push (.cells #[ii 5,ii (k:Nat),N,key,.string wd,.bool wg] 129));have HTM:Hid (zcv A k N=0→TW w0 ((w.setCell ⟨bP,k,none⟩ (ii N)).alloc (.cells #[ii 5,ii (k:Nat),N,key,.string wd,.bool wg] 129)) T A A2 (E++[obB (w.setCell ⟨bP,k,none⟩ (ii N)).heap.size (.cells #[ii 5,ii (k:Nat),N,key,.string wd,.bool wg] 129) w0.heap.size])):=zac (fun he=>by
  have hz:0≤N∧N<(A.S:Int):=by
   unfold zcv at he;by_cases e:N<0∨(A.S:Int)≤N
   ·rw[yaj e]at he;cases he
   ·omega
  have h9:=(h.setPl (k:=k) (z:=N) hz (by rw[hgC];exact c3)).push (.cells #[ii 5,ii (k:Nat),N,key,.string wd,.bool wg] 129);rw[show { A with pl:=zb5 A.pl k N.toNat }=A2 by rw[←hA2];unfold zdF;rw[yaj he]]at h9;exact h9)
 have hE:(zcv A k N=2∧(decide (N<0)=true∨decide (N<0)=false∧decide ((S:Int)≤N)=true))∨(decide (N<0)=false∧decide ((S:Int)≤N)=false∧(op=true∧zcv A k N=6∨op=false∧zcv A k N=0)):=by
  unfold zcv;rw[hgS,hop];simp only[yap,yaD];by_cases e:N<0∨(S:Int)≤N
  ·rw[yaj e];exact .inl ⟨rfl,zO⟩
  ·rw[yad e];refine .inr ⟨zO,zO,?_⟩;cases op <;> simp
 have fP0:w.frozen? ⟨bP,k,none⟩=false:=by
  obtain⟨_,_,_,_,_,_,_,_,_,_,hb,_,_,_,_,_,_,hC⟩:=h.blk;obtain⟨bC2,bP2,rfl,rfl,_,_,_,_,fP⟩:=hC zO;have c9:=zaa hb 3;simp only[zC,zD,zE]at c9;rw[c3]at c9;cases c9;exact fP k
 rw[hop]at o8;have HK:=zac hk;rw[hA2];have HSM:Hid (zcv A k N≠0→TW w0 (w.alloc (.cells #[ii 5,ii (k:Nat),N,key,.string wd,.bool wg] 129)) T A A2 (E++[obB w.heap.size (.cells #[ii 5,ii (k:Nat),N,key,.string wd,.bool wg] 129) w0.heap.size])):=zac (fun he=>by
  have h9:=HT.out;rw[←show A=A2 by rw[←hA2];unfold zdF;rw[yad he]];exact h9)
 clear h hg hk hu hx hu8 hA2 hop HT;rcases hE with ⟨hE,hd|⟨hd,hd1⟩⟩|⟨hd,hd1,⟨rfl,hE⟩|⟨rfl,hE⟩⟩
 rotate_right
 ·have HE:=zac hE
  have HTP:=zac (HTM.out hE);clear hE HSM HTM;go_enter func64,ntmps64;go_upto_region 33 with (refine zaw fun x1=>?_);refine zb9 9 fun x4=>?_
  go_wp2_with fail;go_at_call 103;refine(((HTP.out.below zB)).pc (A1:=A2) fun n O v hp h hn=>by rw[←HA2.out];have h9:=zj8 hp h hn HK.out N;rw[HE.out]at h9;exact h9).mono ?_;rintro e w4 ⟨rfl,ht4⟩;have HT4:=zac ht4;clear ht4;go_wp2_with fail;go_at_call 12;refine(zcZ _ w4 (za4.low2 HG.out HT4.out.low)).mono ?_;rintro e w5 ⟨rfl,hb5⟩;have HT5:=zac (HT4.out.below hb5);obtain⟨x5,rfl⟩:=zad hb5;clear hb5;go_wp2_with fail;go_ret;exact⟨rfl,(HT5.out.below zB).less⟩
 all_goals
  have HE:=zac hE;have HT2:=zac (HSM.out (by rw[hE];decide));clear hE HSM HTM;go_enter func64,ntmps64;go_wp2_with (refine zaw fun x1=>?_);go_at_call 103;refine(((HT2.out.below zB)).pc (A1:=A2) fun n O v hp h hn=>by rw[←HA2.out];have h9:=zj8 hp h hn HK.out N;rw[HE.out]at h9;exact h9).mono ?_;rintro e w4 ⟨rfl,ht4⟩;have HT4:=zac ht4;clear ht4;go_wp2_with fail;go_at_call 12;refine(zcZ _ w4 (za4.low2 HG.out HT4.out.low)).mono ?_;rintro e w5 ⟨rfl,hb5⟩;have HT5:=zac (HT4.out.below hb5);obtain⟨x5,rfl⟩:=zad hb5;clear hb5;go_wp2_with fail;go_ret;exact⟨rfl,(HT5.out.below zB).less⟩
end
section
variable {w0 w:World}{n:Nat}{O:Nat→Ob}{p g:Nat}{A:AWd}{v:WV}{k u x:Nat}
theorem zlR (hp:PWx w0.heap.size O p g A v) (h:Mem w0 w n O) (hn:p+16≤n):
  Calls prog 66 #[.pointer (some ⟨g,0,none⟩)] w fun e w'=>e=.returned (ii (A.way.length:Nat))∧Below w w w':=by
 have hb:=hp.blk h hn;obtain⟨aG,cG,eG⟩:=zd0 h (i:=p+5) zO hp.b5;rw[hp.wr.len]at eG;rw[eG]at hb;have c4:=zaa hb 4;simp only[zC,zD,zE]at c4;haveI:zaj (g+1) w:=⟨zae hb⟩;clear hb eG hp h hn;generalize A.way.length=l at *;go_enter func66,ntmps66;go_wp2_with fail;go_ret;exact⟨rfl,zB⟩
theorem zlS (hp:PWx w0.heap.size O p g A v) (h:Mem w0 w n O) (hn:p+16≤n):
  Calls prog 67 #[.pointer (some ⟨g,0,none⟩)] w fun e w'=>e=.returned (ii (wrap64 (A.lost:Int)))∧Below w w w':=by
 have hb:=hp.blk h hn;have c5:=zaa hb 5;simp only[zC,zD,zE]at c5;haveI:zaj (g+1) w:=⟨zae hb⟩;clear hb hp h hn;generalize wrap64 (A.lost:Int)=l at *;go_enter func67,ntmps67;go_wp2_with fail;go_ret;exact⟨rfl,zB⟩
theorem wGoes_ok (hp:PWx w0.heap.size O p g A v) (h:Mem w0 w n O) (hn:p+16≤n) (hk:k<A.S) (z:Int) (hz:0≤z∧z≤1099511627776):
  Calls prog 107 #[.pointer (some ⟨g,0,none⟩),ii (k:Nat),z] w fun e w'=>e=.returned .nilIface∧zbF w0 w' n O p g v.xs v.us (zgA A k z):=by
 have hb:=hp.blk h hn;obtain⟨aS,cS,eS⟩:=zbq h (i:=p+1) zO hp.b1;obtain⟨bW,cW,eW,_,lW,kW,fW⟩:=zbl h (i:=p+2) zO hp.b2 zO;have x2:=kW k _ hk (zbQ hk);have y2:=fW k;have hwl:=hp.ok.wl k;have HB2:=zac (show O (p+2)=_ from hp.b2);rw[eW]at HB2;have HR:=zac (zeM h (i:=p+2) zO HB2.out k (min (A.wl k+z) 1099511627776));have HE:Hid (∀ w',Below (w.setCell ⟨bW,k,none⟩ (ii (min (A.wl k+z) 1099511627776))).heap.size (w.setCell ⟨bW,k,none⟩ (ii (min (A.wl k+z) 1099511627776))) w'→zbF w0 w' n O p g v.xs v.us (zgA A k z)):=zac (by
  intro w' hb';obtain⟨O',h1,h2,h3⟩:=HR.out;exact zbF.then ⟨O',h1,(hp.setWl zO (by rw[eW];exact h2) (fun j hj hne=>h3 _ zO)).a,fun i _ hi=>h3 i zO⟩ hb')
 rw[eS,eW]at hb;have c0:=zaa hb 0;have c1:=zaa hb 1;simp only[zC,zD,zE]at c0 c1;haveI:zaj (g+1) w:=⟨zae hb⟩;haveI:zaj (bW+1) w:=⟨lW⟩;clear hb kW fW eS eW HB2 HR lW;have d0:decide ((k:Int)<0)=false:=zU;have d1:decide ((A.S:Int)≤(k:Int))=false:=zU;have d2:decide (A.S≤k)=false:=zU;have d3:decide (z<0)=false:=zU;have d4:decide (1099511627776<z)=false:=zU;have hk0:(0:Int)≤(k:Int):=by omega
 have hk1:(k:Int)<(A.S:Int):=by omega
 obtain⟨hz0,hz1⟩:=hz;obtain⟨hw0,hw1⟩:=hwl;generalize A.S=S at *;generalize A.wl k=wk at *;clear hp h hn hk;go_enter func107,ntmps107;go_wp2_with fail;refine zb9 15 fun x9=>?_
 have HEa:Hid (wk+z≤1099511627776→min (wk+z) 1099511627776=wk+z):=zac (fun e=>yca e);have HEb:Hid (¬wk+z≤1099511627776→min (wk+z) 1099511627776=1099511627776):=zac (fun e=>Int.min_eq_right zO);go_wp2_with fail
 all_goals
  go_ret;refine⟨rfl,?_⟩
  first
   | (have e1:=HEa.out zO;rw[e1]at HE;exact HE.out _ (zaD (yaf _ _)))
   | (have e1:=HEb.out zO;rw[e1]at HE;exact HE.out _ (zaD (yaf _ _)))
   | exact HE.out _ (zaD (yaf _ _))
   | (refine HE.out _ ?_;repeat(first|exact yaf _ _|refine zal ?_|refine zaD ?_|refine ya2 ?_);done)
end
section
variable {w0 w:World}{n:Nat}{O:Nat→Ob}{p g:Nat}{A:AWd}{v:WV}{k u x:Nat}
theorem zlN (hp:PWx w0.heap.size O p g A v) (h:Mem w0 w n O) (hn:p+16≤n) (hk:k<A.S):
  Calls prog 111 #[.pointer (some ⟨g,0,none⟩),ii (k:Nat)] w fun e w'=>e=.returned .nilIface∧zbF w0 w' n O p g v.xs v.us (zdy A k):=by
 have hb:=hp.blk h hn;obtain⟨x,hx⟩:=hp.xk hk;obtain⟨bS,cS,eS,_,lS,kS,_⟩:=zbl h (i:=p+1) zO hp.b1 zO;have y1:=kS k _ hk (zbt hx);obtain⟨aC,cC,eC⟩:=zbq h (i:=p+3) zO hp.b3;obtain⟨aP,cP,eP⟩:=zbq h (i:=p+4) zO hp.b4;have hC:A.C≤6:=hp.ok.C;have HST:=zac (fun W (hW:Below w w W)=>hp.sStable (h.below hW) hn hx (A.S:Int));have HSW:=zac (fun W (hW:Below w w W) (v0 v1 v2 v3:Int)=>hp.sSweep (h.below hW) hn hx v0 v1 v2 v3);have HRC:Hid (∀ j,j<A.C→∃ (u bC bP:Nat),aC=some ⟨bC,0,none⟩∧aP=some ⟨bP,0,none⟩∧bC<w.heap.size∧bP<w.heap.size∧w.cell? ⟨bC,j,none⟩=some (.pointer (some ⟨u,0,none⟩))∧w.cell? ⟨bP,j,none⟩=some (ii (A.pl j:Int))∧
   (∀ W,Below w w W→Calls prog 50 #[.pointer (some ⟨u,0,none⟩)] W fun e w'=>e=.returned (.bool (A.cl j).op)∧Below W W w')∧
   (∀ W,Below w w W→Calls prog 49 #[.pointer (some ⟨u,0,none⟩)] W fun e w'=>e=.returned (.agg #[ii (A.cl j).n0,ii (A.cl j).n1,ii (A.cl j).n2,ii (A.cl j).n3])∧Below W W w')):=zac (fun j hj=>by
  obtain⟨u,hu⟩:=hp.uk hj;obtain⟨bC,cC',eC',_,lC,kC,_⟩:=zbl h (i:=p+3) zO hp.b3 zO;obtain⟨bP,cP',eP',_,lP,kP,_⟩:=zbl h (i:=p+4) zO hp.b4 zO;rw[eC]at eC';rw[eP]at eP';simp only[yaP]at eC' eP';exact⟨u,bC,bP,eC'.1,eP'.1,lC,lP,kC j _ hj (zbt hu),kP j _ hj (zbQ hj),fun W hW=>hp.sOpen (h.below hW) hn hu,fun W hW=>hp.sSnap (h.below hW) hn hu⟩)
 have HF0:Hid (zby A k 0 (zbI A k)=zbI A k):=zac rfl;have HFS:Hid (∀ j,zby A k (j+1) (zbI A k)=if A.pl j=k∧(A.cl j).op=true then
   (min (zby A k j (zbI A k)).1 (A.cl j).n0,min (zby A k j (zbI A k)).2.1 (A.cl j).n1,min (zby A k j (zbI A k)).2.2.1 (A.cl j).n2,min (zby A k j (zbI A k)).2.2.2 (A.cl j).n3)else zby A k j (zbI A k)):=zac fun j=>rfl
 have HEND:Hid (∀ W,zbF w0 W n O p g v.xs v.us { A with si:=zb5 A.si k (zc6 (A.si k) (zby A k A.C (zbI A k)).1 (zby A k A.C (zbI A k)).2.1 (zby A k A.C (zbI A k)).2.2.1 (zby A k A.C (zbI A k)).2.2.2) }→zbF w0 W n O p g v.xs v.us (zdy A k)):=zac fun W hW=>hW
 have HSV:Hid (zbI A k=(zbR (A.si k) A.S 0 (A.si k).p0,zbR (A.si k) A.S 1 (A.si k).p1,zbR (A.si k) A.S 2 (A.si k).p2,zbR (A.si k) A.S 3 (A.si k).p3)):=zac rfl;rw[eS,eC,eP]at hb;have c0:=zaa hb 0;have c2:=zaa hb 2;have c3:=zaa hb 3;simp only[zC,zD,zE]at c0 c2 c3;haveI:zaj (g+1) w:=⟨zae hb⟩;haveI:zaj (bS+1) w:=⟨lS⟩;clear hb eS eC eP kS lS hx;generalize zbR (A.si k) A.S 0 (A.si k).p0=s0 at *;generalize zbR (A.si k) A.S 1 (A.si k).p1=s1 at *;generalize zbR (A.si k) A.S 2 (A.si k).p2=s2 at *;generalize zbR (A.si k) A.S 3 (A.si k).p3=s3 at *;have HG0:Hid ((zby A k 0 (zbI A k))=(s0,s1,s2,s3)):=zac (HF0.out.trans HSV.out);clear HF0 HSV hp h hn;generalize (fun j=>zby A k j (zbI A k))=F0 at *;obtain⟨F,hF⟩:∃ F:Nat→Int×Int×Int×Int,(fun j=>zby A k j (zbI A k))=F:=⟨_,rfl⟩;have hFj:∀ j,zby A k j (zbI A k)=F j:=fun j=>congrFun hF j
 simp only[hFj]at HFS HG0 HEND;clear hF hFj F0;have HK:=zac hk;have hC6:=hC;have d0:decide ((k:Int)<0)=false:=zU;have d1:decide ((A.S:Int)≤(k:Int))=false:=zU;have d2:decide (A.S≤k)=false:=zU;have hk0:(0:Int)≤(k:Int):=by omega
 have hk1:(k:Int)<(A.S:Int):=by omega
 have hS4:Hid True:=zac trivial;generalize hSS:A.S=S at *;clear hSS hk hS4;go_enter func111,ntmps111;go_upto_region 3 with fail;go_cut [5] (fun tb W'=>∃ bx:Nat,tb=.pointer (some ⟨bx,0,none⟩)∧w.heap.size≤bx∧W'.heap[bx]?=some (.cells #[s0,s1,s2,s3] 32)∧Below w w W')
 case first=>
  refine wp_region_held_drew (S:=(fun X:World=>X.cell? ⟨g,0,none⟩=some (.slice (some ⟨bS,0,none⟩) S cS)∧X.cell? ⟨bS,k,none⟩=some (.pointer (some ⟨x,0,none⟩)))) zK ?_ (fun hHeld=>?_)
  ·exact⟨by simp[go_sem, *],by simp[go_sem, *]⟩
  refine zat 0 hHeld ?_;refine zat 1 hHeld ?_;refine zat 2 hHeld ?_;refine zat 3 hHeld ?_;refine zat 4 hHeld ?_;refine zat 5 hHeld ?_;refine zat 6 hHeld ?_;refine zat 7 hHeld ?_;refine zat 8 hHeld ?_;refine zat 9 hHeld ?_;refine zat 10 hHeld ?_;refine zat 11 hHeld ?_;refine zaR [12,13] (zaU rfl (fun K hK=>?_) ?_)
  ·go_simp
   go_at_call 28;refine(HST.out _ zB).mono ?_;rintro e w3 ⟨rfl,hb3⟩;obtain⟨x3,rfl⟩:=zad hb3;clear hb3;go_wp2_with fail;refine zbg hK (⟨by simp[go_sem, *],by simp[go_sem, *]⟩) ?_;clear hHeld hK K;intro hHeld;refine zaR [13] (zaU rfl (fun K hK=>?_) ?_)
   ·go_simp
    refine zbg hK (⟨by simp[go_sem, *],by simp[go_sem, *]⟩) ?_;clear hHeld hK K;intro hHeld;refine zaR [14] (zaU rfl (fun K hK=>?_) ?_)
    ·go_simp
     refine zbg hK (⟨by simp[go_sem, *],by simp[go_sem, *]⟩) ?_;clear hHeld hK K;intro hHeld;refine wpAnyH_done zK ?_ _;go_wp2_with fail;go_meet;exact⟨_,rfl,by first|exact yai _|simp,by first|exact zag rfl _|exact zag zS _|exact(zak _ _ _ zS).trans (zag rfl _)|exact(zak _ _ _ zS).trans (zag zS _),zB⟩
    exact AllReadyH.nil
   exact AllReadyH.nil
  refine zaU rfl (fun K hK=>?_) ?_
  ·go_simp
   refine zbg hK (⟨by simp[go_sem, *],by simp[go_sem, *]⟩) ?_;clear hHeld hK K;intro hHeld;refine zaR [12] (zaU rfl (fun K hK=>?_) ?_)
   ·go_simp
    go_at_call 28;refine(HST.out _ zB).mono ?_;rintro e w3 ⟨rfl,hb3⟩;obtain⟨x3,rfl⟩:=zad hb3;clear hb3;go_wp2_with fail;refine zbg hK (⟨by simp[go_sem, *],by simp[go_sem, *]⟩) ?_;clear hHeld hK K;intro hHeld;refine zaR [14] (zaU rfl (fun K hK=>?_) ?_)
    ·go_simp
     refine zbg hK (⟨by simp[go_sem, *],by simp[go_sem, *]⟩) ?_;clear hHeld hK K;intro hHeld;refine wpAnyH_done zK ?_ _;go_wp2_with fail;go_meet;exact⟨_,rfl,by first|exact yai _|simp,by first|exact zag rfl _|exact zag zS _|exact(zak _ _ _ zS).trans (zag rfl _)|exact(zak _ _ _ zS).trans (zag zS _),zB⟩
    exact AllReadyH.nil
   exact AllReadyH.nil
  exact AllReadyH.nil
 case rest=>
  obtain⟨bx,rfl,hbx,hbl,hbw⟩:=hcut;have HBX:=zac hbx;have HBL:=zac hbl;have HBW:=zac hbw;clear hbx hbl hbw HST;have C0:=(HBW.out.cell (p:=⟨g,0,none⟩) (zaj.out (n:=g+1))).trans c0;have C2:=(HBW.out.cell (p:=⟨g,2,none⟩) (zaj.out (n:=g+1))).trans c2;go_wp2_with fail;go_loopw [38] (fun i W=>∃ j:Nat,i=ii j∧j≤A.C∧Below w w W∧W.heap[bx]?=some (.cells #[ii (F j).1,ii (F j).2.1,ii (F j).2.2.1,ii (F j).2.2.2] 32)) (fun i _=>A.C-(Go.RowKit.intOf i).toNat)
  case atStart=>exact⟨0,rfl,yay _,HBW.out,by rw[HG0.out];exact HBL.out⟩
  case round=>
   obtain⟨j,rfl,hj,hbw,hbl⟩:=hrel;clear HBW HBL C0 C2;haveI:zaj (bx+1) wr:=⟨zae hbl⟩;haveI:zaj w.heap.size wr:=⟨hbw.size⟩;haveI:zaj (g+1) wr:=⟨yac (zaj.out (n:=g+1) (w:=w)) hbw.size⟩;haveI:zaj (bS+1) wr:=⟨yac (zaj.out (n:=bS+1) (w:=w)) hbw.size⟩;have C0:=(hbw.cell (p:=⟨g,0,none⟩) (zaj.out (n:=g+1))).trans c0;have C3:=(hbw.cell (p:=⟨g,3,none⟩) (zaj.out (n:=g+1))).trans c3;have Y1:=(hbw.cell (p:=⟨bS,k,none⟩) (zaj.out (n:=bS+1))).trans y1;have v0:=zaa hbl 0;have v1:=zaa hbl 1;have v2:=zaa hbl 2;have v3:=zaa hbl 3;simp only[zC,zD,zE]at v0 v1 v2 v3;have fv:∀ i,wr.frozen? ⟨bx,i,none⟩=false:=fun i=>zab hbl i
   have fv0:=fv 0;have fv1:=fv 1;have fv2:=fv 2;have fv3:=fv 3;have HBL:=zac hbl;have HBW:=zac hbw;have hFS:=HFS.out j;obtain⟨⟨f0,f1,f2,f3⟩,hFj⟩:∃ f,F j=f:=⟨_,rfl⟩;rw[hFj]at v0 v1 v2 v3 hFS HBL;simp only at v0 v1 v2 v3 hFS HBL;have HFJ:=zac hFj;have HFS2:=zac hFS;clear hbl hbw fv hFS hFj;by_cases hjl:j<A.C
   ·obtain⟨u,bC,bP,rfl,rfl,lC,lP,z1,z2,hop,hsn⟩:=HRC.out j hjl
    have HOP:=zac hop;have HSN:=zac hsn;have Z1:=(HBW.out.cell (p:=⟨bC,j,none⟩) lC).trans z1;have Z2:=(HBW.out.cell (p:=⟨bP,j,none⟩) lP).trans z2;haveI:zaj (bC+1) wr:=⟨yac lC HBW.out.size⟩;haveI:zaj (bP+1) wr:=⟨yac lP HBW.out.size⟩;clear z1 z2 hop hsn HRC lC lP;have hj0:(0:Int)≤(j:Int):=by omega
    have hj1:(j:Int)<(A.C:Int):=by omega
    have hj6:(j:Int)<6:=by omega
    by_cases hpl:A.pl j=k
    ·have e1:((A.pl j:Int)==(k:Int))=true:=by rw[hpl];simp
     have e1b:(A.pl j==k)=true:=by rw[hpl];simp
     cases hop:(A.cl j).op with
     | true=>
       rw[hop]at HOP;have HFN:Hid (F (j+1)=(min f0 (A.cl j).n0,min f1 (A.cl j).n1,min f2 (A.cl j).n2,min f3 (A.cl j).n3)):=zac (by rw[HFS2.out,yaj ⟨hpl,hop⟩]);have HMN:=zac (fun W=>zhz f0 f1 f2 f3 (A.cl j).n0 (A.cl j).n1 (A.cl j).n2 (A.cl j).n3 W);clear hpl hop HFS2;generalize (A.cl j).n0=m0 at *;generalize (A.cl j).n1=m1 at *;generalize (A.cl j).n2=m2 at *;generalize (A.cl j).n3=m3 at *;generalize A.pl j=q at *;go_wp2_with fail;go_at_call 50;refine(HOP.out _ (by first|exact HBW.out|exact HBW.out.trans (yaH (B:=wr.heap.size) zB HBW.out.size))).mono ?_;rintro e w4 ⟨rfl,hb4⟩;obtain⟨x4,rfl⟩:=zad hb4;clear hb4 HOP;go_wp2_with fail;refine zas 4 zK zK ?_;simp only[yat,yaQ,yau,yaA]
       repeat(first|go_big_quiet_skip|(go_big_quiet_want;go_big_quiet_op;first|go_big_quiet_on|(apply Exists.intro;refine⟨fun _=>?_,?_⟩;(first|(go_at_call 49;exact Calls.plus_of (HSN.out _ (by first|exact HBW.out|exact HBW.out.trans (yaH (B:=wr.heap.size) zB HBW.out.size))))|(go_at_call 89;exact Calls.plus_of (HMN.out _)));go_big_quiet_on)))
       refine yaM ?_;rintro _ ⟨x9,rfl⟩;go_wp2_with fail;go_roundw
       case rel=>
        have hh:=zam (zam (zam (zam HBL.out 0 (ii (min f0 m0))) 1 (ii (min f1 m1))) 2 (ii (min f2 m2))) 3 (ii (min f3 m3));simp only[yas,yaF,yaG]at hh;refine⟨j+1,by go_num,zO,zaD (zaD (zbd (zbd (zbd (zbd HBW.out HBX.out) HBX.out) HBX.out) HBX.out)),?_⟩;rw[HFN.out,wplus_heap,wplus_heap];exact hh
       case measure=>simp[Go.RowKit.intOf];omega
     | false=>
       rw[hop]at HOP;have HFN:Hid (F (j+1)=(f0,f1,f2,f3)):=zac (by rw[HFS2.out,yad (by rw[hop];simp)]);clear hpl hop HFS2;generalize A.pl j=q at *;go_wp2_with fail;go_at_call 50;refine(HOP.out _ (by first|exact HBW.out|exact HBW.out.trans (yaH (B:=wr.heap.size) zB HBW.out.size))).mono ?_;rintro e w4 ⟨rfl,hb4⟩;obtain⟨x4,rfl⟩:=zad hb4;clear hb4 HOP;go_wp2_with fail;go_roundw
       case rel=>exact⟨j+1,by go_num,zO,zaD HBW.out,by rw[HFN.out,wplus_heap];exact HBL.out⟩
       case measure=>simp[Go.RowKit.intOf];omega
    ·have e1:((A.pl j:Int)==(k:Int))=false:=by simp;omega
     have e1b:(A.pl j==k)=false:=by simp;exact hpl
     have HFN:Hid (F (j+1)=(f0,f1,f2,f3)):=zac (by rw[HFS2.out,yad (fun e=>hpl e.1)]);clear hpl HFS2;generalize A.pl j=q at *;go_wp2_with fail;go_roundw
     case rel=>exact⟨j+1,by go_num,zO,HBW.out,by rw[HFN.out];exact HBL.out⟩
     case measure=>simp[Go.RowKit.intOf];omega
   ·obtain rfl:j=A.C:=by omega
    have hjd:decide (A.C<A.C)=false:=zU;have hjd2:decide ((A.C:Int)<(A.C:Int))=false:=zU;clear hjl hj HRC HFS HFS2 hC hC6;go_wp2_with fail;refine zb9 8 fun x9=>?_
    go_wp2_with fail;go_at_call 21;refine(HSW.out _ (ybC HBW.out (yaH (B:=wr.heap.size) zB HBW.out.size)) f0 f1 f2 f3).mono ?_;rintro e w7 ⟨rfl,hU⟩;have HU:=zac hU;clear hU HSW;go_wp2_with fail;go_ret;exact⟨rfl,HEND.out _ (by rw[HFJ.out];exact HU.out)⟩
end
section
variable {w0 w:World}{n:Nat}{O:Nat→Ob}{p g:Nat}{A:AWd}{v:WV}{k u x:Nat}
theorem zkz (hp:PWx w0.heap.size O p g A v) (h:Mem w0 w n O) (hn:p+16≤n) (k:Int) (hk:k<0∨(A.S:Int)≤k):
  Calls prog 111 #[.pointer (some ⟨g,0,none⟩),k] w fun e w'=>e=.returned (.iface 29 (ii 2))∧Below w w w':=by
 have hb:=hp.blk h hn;obtain⟨aS,cS,eS⟩:=zbq h (i:=p+1) zO hp.b1;rw[eS]at hb;have c0:=zaa hb 0;simp only[zC,zD,zE]at c0;haveI:zaj (g+1) w:=⟨zae hb⟩;clear hb eS hp h hn;generalize A.S=S at *;by_cases h0:k<0
 ·have d0:decide (k<0)=true:=yae h0
  clear hk h0;go_enter func111,ntmps111;go_wp2_with fail;refine yag (v:=.iface 29 (ii 2)) ?_ rfl ⟨rfl,zB⟩;simp[results,results111,go_sem]
 ·have d0:decide (k<0)=false:=yah h0
  have d1:decide ((S:Int)≤k)=true:=zT;clear hk h0;go_enter func111,ntmps111;go_wp2_with fail;refine yag (v:=.iface 29 (ii 2)) ?_ rfl ⟨rfl,zB⟩;simp[results,results111,go_sem]
theorem zlO (hp:PWx w0.heap.size O p g A v) (h:Mem w0 w n O) (hn:p+16≤n) (k:Int) (hk:k<0∨(A.S:Int)≤k):
  Calls prog 58 #[.pointer (some ⟨g,0,none⟩),k] w fun e w'=>e=.returned (.tuple #[.agg #[ii 0,ii 0,ii 0,ii 0],ii 0,.slice none 0 0,ii 0,.iface 29 (ii 2)])∧Below w w w':=by
 have hb:=hp.blk h hn;obtain⟨aS,cS,eS⟩:=zbq h (i:=p+1) zO hp.b1;rw[eS]at hb;have c0:=zaa hb 0;simp only[zC,zD,zE]at c0;haveI:zaj (g+1) w:=⟨zae hb⟩;clear hb eS hp h hn;generalize A.S=S at *;by_cases h0:k<0
 ·have d0:decide (k<0)=true:=yae h0
  clear hk h0;go_enter func58,ntmps58;go_wp2_with fail;refine yag (v:=.tuple #[.agg #[ii 0,ii 0,ii 0,ii 0],ii 0,.slice none 0 0,ii 0,.iface 29 (ii 2)]) ?_ rfl ⟨rfl,zB⟩;simp[results,results58,go_sem]
 ·have d0:decide (k<0)=false:=yah h0
  have d1:decide ((S:Int)≤k)=true:=zT;clear hk h0;go_enter func58,ntmps58;go_wp2_with fail;refine yag (v:=.tuple #[.agg #[ii 0,ii 0,ii 0,ii 0],ii 0,.slice none 0 0,ii 0,.iface 29 (ii 2)]) ?_ rfl ⟨rfl,zB⟩;simp[results,results58,go_sem]
theorem zlU (hp:PWx w0.heap.size O p g A v) (h:Mem w0 w n O) (hn:p+16≤n) (k z:Int) (hbad:k<0∨(A.S:Int)≤k∨z<0∨1099511627776<z):
  Calls prog 107 #[.pointer (some ⟨g,0,none⟩),k,z] w fun e w'=>e=.returned (.iface 29 (ii 2))∧Below w w w':=by
 have hb:=hp.blk h hn;obtain⟨aS,cS,eS⟩:=zbq h (i:=p+1) zO hp.b1;rw[eS]at hb;have c0:=zaa hb 0;simp only[zC,zD,zE]at c0;haveI:zaj (g+1) w:=⟨zae hb⟩;clear hb eS hp h hn;generalize A.S=S at *;by_cases h0:k<0
 ·have d0:decide (k<0)=true:=yae h0
  clear hbad h0;go_enter func107,ntmps107;go_wp2_with fail;go_ret;exact⟨rfl,zB⟩
 have d0:decide (k<0)=false:=yah h0;by_cases h1:(S:Int)≤k
 ·have d1:decide ((S:Int)≤k)=true:=yae h1
  clear hbad h0 h1;go_enter func107,ntmps107;go_wp2_with fail;go_ret;exact⟨rfl,zB⟩
 have d1:decide ((S:Int)≤k)=false:=yah h1;by_cases h2:z<0
 ·have d2:decide (z<0)=true:=yae h2
  clear hbad h0 h1 h2;go_enter func107,ntmps107;go_wp2_with fail;go_ret;exact⟨rfl,zB⟩
 have d2:decide (z<0)=false:=yah h2;have d3:decide (1099511627776<z)=true:=zT;clear hbad h0 h1 h2;go_enter func107,ntmps107;go_wp2_with fail;go_ret;exact⟨rfl,zB⟩
def But (q:Nat) (w1 w2:World):Prop:=w1.heap.size=w2.heap.size∧∀ b,b≠q→w1.heap[b]?=w2.heap[b]?
theorem But.plus {q:Nat}{w1 w2:World}(h:But q w1 w2) (x:zks):But q (zai w1 x) (zai w2 x):=by
 obtain⟨h1,h2⟩:=h;refine⟨by simp[h1],fun b hb=>?_⟩;by_cases hl:b<w1.heap.size
 ·rw[zak w1 x b hl,zak w2 x b zO];exact h2 b hb
 ·rw[zbs w1 x b zO,zbs w2 x b zO,h1]
theorem But.alloc (w:World) (o1 o2:Obj):But w.heap.size (w.alloc o1) (w.alloc o2):=⟨zS,fun b hb=>by rw[heap_alloc,heap_alloc,yad hb,yad hb]⟩
theorem zgX.but {q:Nat}{w1 w2:World}{At:Option Addr}{l:List ByteArray}(h:zgX w1 At l) (hb:But q w1 w2){cs:Array Value}{t:TypeId}(hq:w1.heap[q]?=some (.cells cs t)) (hn:∀ (j:Nat) (s:ByteArray),cs[j]?≠some (.string s)):zgX w2 At l:=by
 intro j x hx;obtain⟨b',o,hA,hlt,hc⟩:=h j x hx;refine⟨b',o,hA,by rw[←hb.1];exact hlt,?_⟩;have hne:b'≠q:=fun e=>by
  subst e;rw[zaa hq]at hc;exact hn _ _ hc
 exact(yam (a:=⟨b',o+j,none⟩) (hb.2 b' hne).symm).trans hc
theorem no_str4 {a b c d:Int}:∀ (j:Nat) (s:ByteArray),(#[Value.int .i64 a,ii b,ii c,ii d])[j]?≠some (.string s):=by
 intro j s e
 match j,e with
 | 0,e=>simp at e
 | 1,e=>simp at e
 | 2,e=>simp at e
 | 3,e=>simp at e
 | j+4,e=>simp at e
theorem wSite_ok (hp:PWx w0.heap.size O p g A v) (h:Mem w0 w n O) (hn:p+16≤n) (hk:k<A.S):
  Calls prog 58 #[.pointer (some ⟨g,0,none⟩),ii (k:Nat)] w fun e w'=>∃ At ct,e=.returned (.tuple #[.agg #[ii (A.si k).p0,ii (A.si k).p1,ii (A.si k).p2,ii (A.si k).p3],ii ((A.si k).ws.length:Nat),.slice At 8 ct,ii ((A.si k).held.length:Nat),.nilIface])∧zgX w' At (zfG (A.si k))∧Below w w w':=by
 have hb:=hp.blk h hn;obtain⟨x,hx⟩:=hp.xk hk;obtain⟨bS,cS,eS,_,lS,kS,_⟩:=zbl h (i:=p+1) zO hp.b1 zO;have y1:=kS k _ hk (zbt hx);have HAP:=zac (fun W (hW:Below w w W)=>hp.sApplied (h.below hW) hn hx);have HWA:=zac (fun W (hW:Below w w W)=>hp.sWaits (h.below hW) hn hx);have HAL:=zac (fun W (hW:Below w w W)=>hp.sAll (h.below hW) hn hx);have HMA:=zac (fun W (hW:Below w w W)=>hp.sMany (h.below hW) hn hx);rw[eS]at hb;have c0:=zaa hb 0;simp only[zC,zD,zE]at c0;haveI:zaj (g+1) w:=⟨zae hb⟩;haveI:zaj (bS+1) w:=⟨lS⟩;have d0:decide ((k:Int)<0)=false:=zU;have d1:decide ((A.S:Int)≤(k:Int))=false:=zU;have d2:decide (A.S≤k)=false:=zU;have hk0:(0:Int)≤(k:Int):=by omega
 have hk1:(k:Int)<(A.S:Int):=by omega
 clear hb eS kS lS hx hk hp h hn;generalize A.S=S at *;generalize (A.si k).p0=e0 at *;generalize (A.si k).p1=e1 at *;generalize (A.si k).p2=e2 at *;generalize (A.si k).p3=e3 at *;generalize (A.si k).ws.length=e4 at *;generalize (A.si k).held.length=e5 at *;generalize zfG (A.si k)=tl at *;go_enter func58,ntmps58;go_wp2_with fail;go_at_call 26;refine(HAP.out _ zB).mono ?_;rintro e w1 ⟨rfl,hb1⟩;obtain⟨x1,rfl⟩:=zad hb1;clear hb1 HAP;go_wp2_with fail;go_at_call 27;refine(HWA.out _ zB).mono ?_;rintro e w1 ⟨rfl,hb1⟩;obtain⟨x2,rfl⟩:=zad hb1;clear hb1 HWA;go_wp2_with fail;go_at_call 32;refine(HAL.out _ zB).mono ?_;rintro e w1 ⟨At,ct,rfl,hts,hb1⟩;have HTS:=zac hts;obtain⟨x3,rfl⟩:=zad hb1;clear hb1 hts HAL;go_wp2_with fail;go_at_call 30;refine(HMA.out _ zB).mono ?_;rintro e w1 ⟨rfl,hb1⟩;have HTS2:=zac (HTS.out.below hb1);obtain⟨x4,rfl⟩:=zad hb1;clear hb1 HMA HTS;go_wp2_with fail;refine yag (v:=.tuple #[.agg #[ii e0,ii e1,ii e2,ii e3],ii (e4:Nat),.slice At 8 ct,ii (e5:Nat),.nilIface]) ?_ rfl ⟨At,ct,rfl,?_,zB⟩
 ·simp[results,results58,go_sem]
 ·refine HTS2.out.but (q:=w.heap.size) (((((But.alloc w _ _).plus x1).plus x2).plus x3).plus x4) (cs:=#[ii 0,ii 0,ii 0,ii 0]) (t:=32) ?_ no_str4
  rw[wplus_heap,wplus_heap,wplus_heap,wplus_heap];exact zag rfl _
end
end Go.Proofs.YtbopfhbeegkkaabGreatDoor
