/- Part 5 of a proof: lemmas and contracts that other parts use. -/
import Derived.Test.YtbopfhbeegkkaabGreatDoorSiM3
import Derived.Test.YtbopfhbeegkkaabGreatDoorSiM4
import Derived.Test.YtbopfhbeegkkaabGreatDoorSiM1
import Derived.Test.YtbopfhbeegkkaabGreatDoorRows
import Derived.Deep.AppendLies
set_option linter.unusedVariables false
set_option linter.unusedSimpArgs false
namespace Go.Proofs.YtbopfhbeegkkaabGreatDoor
open Go.RowKit

structure VerP where
  w : Int
  c : Int
  site : Int
  seq : Int
  data : ByteArray
  gone : Bool
def verCells (v : VerP) : List Value := [.int .i64 v.w, .int .i64 v.c, .int .i64 v.site, .int .i64 v.seq, .string v.data, .bool v.gone]
def verV (v : VerP) : Value := .agg #[.int .i64 v.w, .int .i64 v.c, .int .i64 v.site, .int .i64 v.seq, .string v.data, .bool v.gone]
def rightV (v : VerP) : Bool := rightS v.w v.c && decide (0 ≤ v.site) && decide (v.site < 4) && decide (1 ≤ v.seq) && decide (v.seq ≤ 1099511627776) && decide (v.data.size ≤ 12) && (!v.gone || decide (v.data.size = 0))
def cmpV (a b : VerP) : Int := if cmpS a.w a.c b.w b.c ≠ 0 then cmpS a.w a.c b.w b.c else a.site - b.site
theorem rightS_isD {aw ac : Int} {b : Bool} (h : rightS aw ac = b) (w : World) : Calls Tryz.prog 135 #[.agg #[.int .i64 aw, .int .i64 ac]] w fun e w' => e = .returned (.bool b) ∧ Below w.heap.size w w' := by
  subst h; exact rightS_any aw ac w

set_option maxHeartbeats 2000000 in
theorem rightV_any (v : VerP) (w : World) : Calls Tryz.prog 175 #[verV v] w fun e w' => e = .returned (.bool (rightV v)) ∧ Below w.heap.size w w' := by
  unfold verV
  rcases h0 : rightS v.w v.c with _ | _
  · have HS := hidp fun w => rightS_isD h0 w
    have HF : Hid (rightV v = false) := hidp (by simp [rightV, h0])
    clear h0
    go_enter Tryz.func175, Tryz.ntmps175
    go_wp2_with (go_at_call 135; refine (HS.out _).mono ?_; rintro e w' ⟨rfl, hb⟩; obtain ⟨x, rfl⟩ := wplus_of_below hb; clear hb)
    go_ret
    exact ⟨by rw [HF.out]; rfl, (by repeat (first | exact Below.refl _ _ | refine blw_alloc ?_ | refine blw_plus ?_ | refine Below.drew ?_))⟩
  have HS := hidp fun w => rightS_isD h0 w
  by_cases h1 : v.site < 0
  · have HF : Hid (rightV v = false) := hidp (by simp [rightV]; omega)
    clear h0
    go_enter Tryz.func175, Tryz.ntmps175
    go_wp2_with (go_at_call 135; refine (HS.out _).mono ?_; rintro e w' ⟨rfl, hb⟩; obtain ⟨x, rfl⟩ := wplus_of_below hb; clear hb)
    go_ret
    exact ⟨by rw [HF.out]; rfl, (by repeat (first | exact Below.refl _ _ | refine blw_alloc ?_ | refine blw_plus ?_ | refine Below.drew ?_))⟩
  by_cases h2 : 4 ≤ v.site
  · have HF : Hid (rightV v = false) := hidp (by simp [rightV]; omega)
    clear h0
    go_enter Tryz.func175, Tryz.ntmps175
    go_wp2_with (go_at_call 135; refine (HS.out _).mono ?_; rintro e w' ⟨rfl, hb⟩; obtain ⟨x, rfl⟩ := wplus_of_below hb; clear hb)
    go_ret
    exact ⟨by rw [HF.out]; rfl, (by repeat (first | exact Below.refl _ _ | refine blw_alloc ?_ | refine blw_plus ?_ | refine Below.drew ?_))⟩
  by_cases h3 : v.seq < 1
  · have HF : Hid (rightV v = false) := hidp (by simp [rightV]; omega)
    clear h0
    go_enter Tryz.func175, Tryz.ntmps175
    go_wp2_with (go_at_call 135; refine (HS.out _).mono ?_; rintro e w' ⟨rfl, hb⟩; obtain ⟨x, rfl⟩ := wplus_of_below hb; clear hb)
    go_ret
    exact ⟨by rw [HF.out]; rfl, (by repeat (first | exact Below.refl _ _ | refine blw_alloc ?_ | refine blw_plus ?_ | refine Below.drew ?_))⟩
  by_cases h4 : 1099511627776 < v.seq
  · have HF : Hid (rightV v = false) := hidp (by simp [rightV]; omega)
    clear h0
    go_enter Tryz.func175, Tryz.ntmps175
    go_wp2_with (go_at_call 135; refine (HS.out _).mono ?_; rintro e w' ⟨rfl, hb⟩; obtain ⟨x, rfl⟩ := wplus_of_below hb; clear hb)
    go_ret
    exact ⟨by rw [HF.out]; rfl, (by repeat (first | exact Below.refl _ _ | refine blw_alloc ?_ | refine blw_plus ?_ | refine Below.drew ?_))⟩
  by_cases h5 : 12 < v.data.size
  · have HF : Hid (rightV v = false) := hidp (by simp [rightV]; omega)
    clear h0
    go_enter Tryz.func175, Tryz.ntmps175
    go_wp2_with (go_at_call 135; refine (HS.out _).mono ?_; rintro e w' ⟨rfl, hb⟩; obtain ⟨x, rfl⟩ := wplus_of_below hb; clear hb)
    go_ret
    exact ⟨by rw [HF.out]; rfl, (by repeat (first | exact Below.refl _ _ | refine blw_alloc ?_ | refine blw_plus ?_ | refine Below.drew ?_))⟩
  obtain ⟨vw, vc, site, seq, data, gone⟩ := v
  simp only at *
  cases gone
  · have HF : Hid (rightV ⟨vw, vc, site, seq, data, false⟩ = true) := hidp (by simp [rightV, h0]; omega)
    clear h0
    go_enter Tryz.func175, Tryz.ntmps175
    go_wp2_with (go_at_call 135; refine (HS.out _).mono ?_; rintro e w' ⟨rfl, hb⟩; obtain ⟨x, rfl⟩ := wplus_of_below hb; clear hb)
    go_ret
    exact ⟨by rw [HF.out]; rfl, (by repeat (first | exact Below.refl _ _ | refine blw_alloc ?_ | refine blw_plus ?_ | refine Below.drew ?_))⟩
  by_cases c4 : data.toList = []
  · have hs : data.size = 0 := by rw [ba_size, ← ByteArray.toList_eq, c4]; rfl
    have HF : Hid (rightV ⟨vw, vc, site, seq, data, true⟩ = true) := hidp (by simp [rightV, h0, hs]; omega)
    have c5 : data.toList.isEmpty = true := by rw [c4]; rfl
    clear h0 hs
    go_enter Tryz.func175, Tryz.ntmps175
    go_wp2_with (go_at_call 135; refine (HS.out _).mono ?_; rintro e w' ⟨rfl, hb⟩; obtain ⟨x, rfl⟩ := wplus_of_below hb; clear hb)
    go_ret
    exact ⟨by rw [HF.out]; rfl, (by repeat (first | exact Below.refl _ _ | refine blw_alloc ?_ | refine blw_plus ?_ | refine Below.drew ?_))⟩
  · have hs : data.size ≠ 0 := by rw [ba_size, ← ByteArray.toList_eq]; intro h; exact c4 (List.eq_nil_of_length_eq_zero h)
    have HF : Hid (rightV ⟨vw, vc, site, seq, data, true⟩ = false) := hidp (by simp [rightV, hs])
    have c5 : data.toList.isEmpty = false := by simpa using c4
    clear h0 hs
    go_enter Tryz.func175, Tryz.ntmps175
    go_wp2_with (go_at_call 135; refine (HS.out _).mono ?_; rintro e w' ⟨rfl, hb⟩; obtain ⟨x, rfl⟩ := wplus_of_below hb; clear hb)
    go_ret
    exact ⟨by rw [HF.out]; rfl, (by repeat (first | exact Below.refl _ _ | refine blw_alloc ?_ | refine blw_plus ?_ | refine Below.drew ?_))⟩

set_option maxHeartbeats 2000000 in
theorem cmpV_any (a b : VerP) (w : World) (ha : 0 ≤ a.site ∧ a.site < 4) (hb : 0 ≤ b.site ∧ b.site < 4) :
    Calls Tryz.prog 177 #[verV a, verV b] w fun e w' => e = .returned (.int .i64 (cmpV a b)) ∧ Below w.heap.size w w' := by
  unfold verV
  have HC := hidp fun w => compare_any a.w a.c b.w b.c w
  by_cases h : cmpS a.w a.c b.w b.c = 0
  · have HF : Hid (cmpV a b = a.site - b.site) := hidp (by unfold cmpV; rw [if_neg (by simpa using h)])
    rw [h] at HC
    clear h
    obtain ⟨ha1, ha2⟩ := ha
    obtain ⟨hb1, hb2⟩ := hb
    go_enter Tryz.func177, Tryz.ntmps177
    go_wp2_with (go_at_call 114; refine (HC.out _).mono ?_; rintro e w' ⟨rfl, hb⟩; obtain ⟨x, rfl⟩ := wplus_of_below hb; clear hb)
    go_ret
    exact ⟨by rw [HF.out]; rfl, (by repeat (first | exact Below.refl _ _ | refine blw_alloc ?_ | refine blw_plus ?_ | refine Below.drew ?_))⟩
  · have HF : Hid (cmpV a b = cmpS a.w a.c b.w b.c) := hidp (by unfold cmpV; rw [if_pos h])
    have hne : (cmpS a.w a.c b.w b.c != 0) = true := by simpa using h
    generalize cmpS a.w a.c b.w b.c = z at *
    go_enter Tryz.func177, Tryz.ntmps177
    go_wp2_with (go_at_call 114; refine (HC.out _).mono ?_; rintro e w' ⟨rfl, hb⟩; obtain ⟨x, rfl⟩ := wplus_of_below hb; clear hb)
    go_ret
    exact ⟨by rw [HF.out]; rfl, (by repeat (first | exact Below.refl _ _ | refine blw_alloc ?_ | refine blw_plus ?_ | refine Below.drew ?_))⟩
end Go.Proofs.YtbopfhbeegkkaabGreatDoor

namespace Go.Proofs.YtbopfhbeegkkaabGreatDoor
open Go.RowKit

theorem info5 : (Tryz.prog.info? 5).map (fun i => (i.zero, i.size, i.bytes)) = some (some (.int .u8 0), 1, 1) := by kernel_rfl

def u8s (l : List UInt8) : List Value := l.map fun c => .int .u8 (c.toNat : Int)
theorem u8s_append (a b : List UInt8) : u8s (a ++ b) = u8s a ++ u8s b := by simp [u8s]
theorem u8s_length (a : List UInt8) : (u8s a).length = a.length := by simp [u8s]

/-- the buffer: owned, and what else was there stays -/
structure Buf (B : Nat) (w0 : World) (v0 : Value) (w : World) (v : Value) (bs : List UInt8) : Prop where
  own : w.ownsRow B 5 1 v bs.length (u8s bs)
  grown : w0.grownBy w v0.ownBlock
  blk : v.ownBlock = v0.ownBlock ∨ ∀ k, v.ownBlock = some k → w0.heap.size ≤ k

theorem grownBy_trans' {a b c : World} {r s : Option Nat} (h : a.grownBy b r) (k : b.grownBy c s) (hs : s = r ∨ ∀ j, s = some j → a.heap.size ≤ j) : a.grownBy c r :=
  ⟨k.os.trans h.os, k.tape.trans h.tape, k.output.trans h.output, Nat.le_trans h.size k.size, fun i hi hne => by
    have h1 := h.block i hi hne
    rw [← h1]
    refine k.block i (Nat.lt_of_lt_of_le hi h.size) (fun e => ?_)
    rcases hs with hs | hs
    · exact hne (e.trans hs)
    · have := hs i e.symm; omega⟩

/-- one byte more -/
theorem Buf.step {B : Nat} {w0 w w1 : World} {v0 v : Value} {bs : List UInt8} {o : Obj} {x : Int} {g cap : Nat} {H : Nat} (c : UInt8) (h : Buf B w0 v0 w v bs) (hx : x = (c.toNat : Int))
    (hown : w1.ownsRow B 5 1 (.slice (some ⟨g, 0, none⟩) (bs.length + 1) cap) (bs.length + 1) (u8s bs ++ [.int .u8 x])) (hg : (w.alloc o).grownBy w1 v.ownBlock) (hH : (w.alloc o).heap.size = H)
    (hl : v.ownBlock = some g ∨ g = H) : Buf B w0 v0 w1 (.slice (some ⟨g, 0, none⟩) (bs.length + 1) cap) (bs ++ [c]) := by
  have hs : w0.heap.size ≤ w.heap.size := h.grown.size
  refine ⟨?_, ?_, ?_⟩
  · subst hx; simpa [u8s] using hown
  · refine grownBy_trans' (h.grown) ?_ h.blk
    exact grownBy_trans' (World.grownBy_alloc w o v.ownBlock) hg (.inl rfl)
  · rcases hl with hl | hl
    · rcases h.blk with hb | hb
      · left; rw [← hb, hl]; rfl
      · right; intro k hk; exact hb k (by rw [hl]; exact hk)
    · right; intro k hk
      have : k = g := by simpa [Value.ownBlock] using hk.symm
      rw [this, hl, ← hH]; simp; omega

theorem or128 : ∀ x : Fin 256, bits BinOp.or IntKind.u8 (x.val : Int) 128 = ((x.val % 128 + 128 : Nat) : Int) := by decide +kernel
theorem or128_nat (m : Nat) : bits BinOp.or IntKind.u8 ((m : Int) % 256) 128 = (((m % 128 + 128).toUInt8.toNat : Nat) : Int) := by
  have h := or128 ⟨m % 256, Nat.mod_lt _ (by decide)⟩
  simp only at h
  have e : ((m : Int) % 256) = ((m % 256 : Nat) : Int) := by omega
  rw [e, h, Nat.mod_mod_of_dvd _ (by decide)]
  simp; omega

set_option maxRecDepth 100000 in
set_option maxHeartbeats 1000000 in
theorem put_any (B : Nat) (v : Value) (bs : List UInt8) (zs : List Nat) (lb lo c : Nat) (w : World) (hB : B ≤ w.heap.size)
    (hown : w.ownsRow B 5 1 v bs.length (u8s bs)) (hz : ∀ z ∈ zs, z < 4398046511104) (hbs : bs.length + 6 * zs.length ≤ 1000000)
    (hl : ∀ (i : Nat) (z : Nat), zs[i]? = some z → w.cell? ⟨lb, lo + i, none⟩ = some (.int .i64 (z : Int))) (hne : v.ownBlock ≠ some lb) :
    Calls Tryz.prog 183 #[v, .slice (some ⟨lb, lo, none⟩) zs.length c] w fun e w' => ∃ v', e = .returned v' ∧ Buf B w v w' v' (bs ++ numsB zs) := by
  obtain ⟨i0, hi, hz0, hz1, hz2⟩ := info_parts info5
  have hbuf0 : Buf B w v w v bs := ⟨hown, World.grownBy.refl _ _, .inl rfl⟩
  have HBUF0 := hidp hbuf0
  have hlen : ∀ k, k ≤ zs.length → (numsB (zs.take k)).length ≤ 6 * k := by
    intro k
    induction k with
    | zero => intro _; simp [numsB]
    | succ k ih =>
      intro hk
      have h1 := ih (by omega)
      rw [List.take_succ_eq_append_getElem (by omega)]
      simp only [numsB, List.flatMap_append, List.length_append, List.flatMap_cons, List.flatMap_nil, List.append_nil] at h1 ⊢
      have := numB_len (zs[k]) 6 (hz _ (List.getElem_mem (by omega))) (by omega)
      omega
  have hcells : ∀ (wr : World) (b : Value) (L : List UInt8), Buf B w v wr b L → ∀ (k : Nat) (h : k < zs.length), wr.cell? ⟨lb, lo + k, none⟩ = some (.int .i64 ((zs[k] : Nat) : Int)) := by
    intro wr b L hb k h
    have h1 := hl k zs[k] (List.getElem?_eq_getElem h)
    have hlt := World.block_lt_of_cell? w _ h1
    rw [World.cell?_of_block (w := w) (hb.grown.block lb hlt (fun e => hne e.symm))]
    exact h1
  have HLEN := hidp hlen
  have HC := hidp hcells
  clear hbuf0 hl hown hne hlen hcells
  have HZ := hidp hz
  clear hz
  go_enter Tryz.func183, Tryz.ntmps183
  go_wp2
  go_loopw [0, 9] (fun b i wr => ∃ (k : Nat) (L : List UInt8), k ≤ zs.length ∧ i = .int .i64 k ∧ L = bs ++ numsB (zs.take k) ∧ Buf B w v wr b L) (fun _ i _ => zs.length - (intOf i).toNat)
  case atStart => exact ⟨0, bs, Nat.zero_le _, rfl, by simp [numsB], HBUF0.out⟩
  case round =>
    obtain ⟨k, L, hk, rfl, hLe, hbuf⟩ := hrel
    have HBUF := hidp hbuf
    have HLE := hidp hLe
    clear hbuf hLe
    by_cases hlt : k < zs.length
    · have hcell := HC.out wr _ _ HBUF.out k hlt
      go_wp2
      obtain ⟨wo, rfl⟩ : ∃ wo : World, wo = wr := ⟨_, rfl⟩
      have HZK := hidp (HZ.out _ (List.getElem_mem hlt))
      generalize hzz : zs[k] = z at *
      have HZZ := hidp hzz
      clear hzz hcell
      go_loopw [0, 6] (fun b n wr => ∃ (m : Nat) (L' : List UInt8), n = .int .i64 m ∧ L' ++ numB m = L ++ numB z ∧ Buf B w v wr b L') (fun _ n _ => (intOf n).toNat)
      case atStart => exact ⟨z, L, rfl, rfl, HBUF.out⟩
      case round =>
        obtain ⟨m, L', rfl, hLm, hb⟩ := hrel
        have hL : L'.length ≤ 1000000 := by
          have h1 := congrArg List.length hLm
          have h2 := numB_len z 6 HZK.out (by omega)
          have h3 := congrArg List.length HLE.out
          have h4 := HLEN.out k hk
          simp only [List.length_append] at h1 h3
          omega
        have HB := hidp hb
        have HM := hidp hLm
        have HL := hidp hL
        clear hb hLm hL
        by_cases hm : 128 ≤ m
        · go_wp2_with (at_builtin; go_must (refine wpList_append_lies _ rfl _ _ 207 rfl B 5 i0 (.int .u8 0) 1 1 Tryz.underlying207 hi hz0 hz1 hz2 rfl (by decide) _ _ _ rfl (HB.out.own.alloc _) ⟨wr.heap.size, 0, none⟩ 1 1 [_] rfl rfl (cell_one_new _ _ _) ?c1 (by decide) ?c2 ?c3 ?c4 _ rfl ?_))
          case c1 => simp [Value.oneCell']
          case c2 => have := HL.out; simp only [maxLen]; omega
          case c3 => have := HL.out; omega
          case c4 => have := HB.out.grown.size; simp; omega
          intro g cap w1 hown1 hgrow hgl hlt1
          have hb1 := Buf.step (m % 128 + 128).toUInt8 HB.out (or128_nat m) hown1 hgrow rfl (by simpa using hgl)
          have HB1 := hidp hb1
          clear hb1 hown1 hgrow hgl hlt1
          go_wp2
          go_roundw
          case rel =>
            refine ⟨m / 128, _, ?_, ?_, HB1.out⟩
            · exact congrArg (Value.int IntKind.i64) (by omega)
            · rw [List.append_assoc, ← HM.out, numB_ge (n := m) (by omega)]; rfl
          case measure => simp only [intOf]; omega
        · go_wp2_with (at_builtin; go_must (refine wpList_append_lies _ rfl _ _ 207 rfl B 5 i0 (.int .u8 0) 1 1 Tryz.underlying207 hi hz0 hz1 hz2 rfl (by decide) _ _ _ rfl (HB.out.own.alloc _) ⟨wr.heap.size, 0, none⟩ 1 1 [_] rfl rfl (cell_one_new _ _ _) ?c1 (by decide) ?c2 ?c3 ?c4 _ rfl ?_))
          case c1 => simp [Value.oneCell']
          case c2 => have := HL.out; simp only [maxLen]; omega
          case c3 => have := HL.out; omega
          case c4 => have := HB.out.grown.size; simp; omega
          intro g cap w1 hown1 hgrow hgl hlt1
          have hb1 := Buf.step m.toUInt8 HB.out (by simp; omega) hown1 hgrow rfl (by simpa using hgl)
          have HB1 := hidp hb1
          clear hb1 hown1 hgrow hgl hlt1
          go_wp2
          go_roundw
          case rel =>
            refine ⟨k + 1, _, by omega, by go_num, ?_, HB1.out⟩
            rw [List.take_succ_eq_append_getElem hlt, HZZ.out]
            have h1 := HM.out
            rw [numB_lt (n := m) (by omega), HLE.out] at h1
            simpa [numsB] using h1
          case measure => simp [intOf]; omega
    · go_wp2
      go_ret
      have hk' : k = zs.length := by omega
      refine ⟨_, rfl, ?_⟩
      have h1 := HBUF.out
      rw [HLE.out, hk', List.take_length] at h1
      exact h1
end Go.Proofs.YtbopfhbeegkkaabGreatDoor
