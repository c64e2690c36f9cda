import Derived.Test.YtbopfhbeegkkaaaEncT
import Derived.Test.YtbopfhbeegkkaaaSame
namespace Go.Proofs.Ytbopfhbeegkkaaa
open Go.RowKit

theorem pick_any (a : Int) (n : Nat) (w : World) (ha : -9223372036854775808 ≤ a ∧ a ≤ 9223372036854775807) (hn : 0 < n) (hn2 : n ≤ 1000000) :
    Calls Try.prog 24 #[.int .i64 a, .int .i64 n] w fun e w' => (∃ r : Nat, r < n ∧ e = .returned (.int .i64 r)) ∧ w = w' := by
  go_enter Try.func24, Try.ntmps24
  go_wp2
  go_ret
  have h1 : 0 ≤ IntKind.u64.wrap a := by simp [IntKind.wrap, IntKind.signed, IntKind.bits]; omega
  obtain ⟨x, hx⟩ := Int.eq_ofNat_of_zero_le h1
  have h2 : (IntKind.u64.wrap a).tmod (n : Int) = ((x % n : Nat) : Int) := by rw [hx]; rfl
  have h3 : x % n < n := Nat.mod_lt _ hn
  refine ⟨⟨x % n, h3, ?_⟩, rfl⟩
  have h4 : wrap64 ((x % n : Nat) : Int) = ((x % n : Nat) : Int) := by unfold wrap64; omega
  rw [h2, h4]
  rfl

theorem own_bs {w : World} {B g : Nat} {v : Value} {bs : List UInt8} (h : w.ownsRow B 5 1 v bs.length (u8s bs)) (hg : w.heap.size = g) : BsVal w g v bs ∧ ∃ A c, v = .slice A bs.length c ∧ bs.length ≤ c ∧ c ≤ maxLen := by
  subst hg
  obtain ⟨hl, hn | ⟨b, cap, cur, rfl, hb, hg, hc, hm, hsz, ht⟩⟩ := id h
  · have : bs = [] := List.eq_nil_of_length_eq_zero hn.2
    subst this
    rw [hn.1]
    exact ⟨bs_nil _ _, none, 0, rfl, Nat.le_refl _, Nat.zero_le _⟩
  · have hcell := h.cells (g := b) rfl
    refine ⟨⟨_, cap, rfl, hc, hm, fun i x hi => ⟨b, 0, rfl, lt_blk hg, ?_⟩⟩, _, cap, rfl, hc, hm⟩
    have := hcell i (.int .u8 x.toNat) (by simp [u8s, hi])
    have e : (⟨b, 0, none⟩ : Addr).add i = ⟨b, 0 + i, none⟩ := by unfold Addr.add; split <;> simp_all
    rw [e] at this
    exact this
end Go.Proofs.Ytbopfhbeegkkaaa
