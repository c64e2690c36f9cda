import Derived.Test.YtbopfhbeegkkaaaDoorTx
import Derived.Test.YtbopfhbeegkkaaaDoorCov
import Derived.Laws.BytesArg
import Derived.Deep.RegionHeld3
namespace Go.Proofs.YtbopfhbeegkkaaaDoor
open Go.RowKit

def isU8 : Option Value → Bool
  | some (.int .u8 _) => true
  | _ => false
def str1 : Option Value → ByteArray
  | some (.int .u8 z) => ⟨#[UInt8.ofNat z.toNat]⟩
  | _ => ⟨#[]⟩
@[simp, go_sem] theorem isU8_some (z : Int) : isU8 (some (.int .u8 z)) = true := rfl
@[simp, go_sem] theorem str1_some (z : Int) : str1 (some (.int .u8 z)) = ⟨#[UInt8.ofNat z.toNat]⟩ := rfl
@[go_sem] theorem conv_one (W : World) (b c : Nat) (h : isU8 (W.cell? ⟨b, 0, none⟩) = true) :
    (convert 44 9 (.slice (some ⟨b, 0, none⟩) 1 c)).run Tryd.prog W = .ok (.string (str1 (W.cell? ⟨b, 0, none⟩))) W := by
  cases hc : W.cell? ⟨b, 0, none⟩ with
  | none => rw [hc] at h; cases h
  | some v =>
    rw [hc] at h
    have : ∃ z, v = .int .u8 z := by unfold isU8 at h; split at h <;> simp_all
    obtain ⟨z, rfl⟩ := this
    rw [run_convert_bytes_arg W 44 5 Tryd.underlying44 Tryd.underlying5 b 0 1 c [z] rfl ?_ 9 Tryd.underlying9]
    · simp [strOfNums]
    · intro i hi
      obtain rfl : i = 0 := by omega
      simpa using hc

theorem numB_str_ge {n : Nat} (h : 128 ≤ n) : (⟨#[UInt8.ofNat (n % 128 + 128)]⟩ : ByteArray) ++ ⟨(numB (n / 128)).toArray⟩ = ⟨(numB n).toArray⟩ := by
  rw [numB_ge (n := n) (by omega)]
  apply ba_ext
  rw [ByteArray.data_append]
  simp

set_option maxRecDepth 20000 in
set_option maxHeartbeats 4000000 in
theorem rNumber_lt (n : Nat) (h1 : n < 128) (w : World) : Calls Tryd.prog 58 #[.int .i64 n] w fun e w' => e = .returned (.string ⟨(numB n).toArray⟩) ∧ Below w.heap.size w w' := by
  go_enter Tryd.func58, Tryd.ntmps58
  go_wp2
  go_ret
  refine ⟨?_, blw_alloc (Below.refl _ _)⟩
  rw [numB_lt h1]
  simp [go_sem]
  try omega

set_option maxRecDepth 20000 in
set_option maxHeartbeats 4000000 in
theorem rNumber_all : ∀ (f n : Nat) (z : Int), z = (n : Int) → n < 128 ^ f → n < 4611686018427387904 → ∀ w, Calls Tryd.prog 58 #[.int .i64 z] w fun e w' => e = .returned (.string ⟨(numB n).toArray⟩) ∧ Below w.heap.size w w'
  | 0, n, z, hz, h, _, w => by subst hz; exact rNumber_lt n (by simp at h; omega) w
  | f + 1, n, z, hz, h, hn, w => by
    subst hz
    by_cases h1 : n < 128
    · exact rNumber_lt n h1 w
    · have HN := hidp (rNumber_all f (n / 128) ((n : Int) / 128) (by omega) (by rw [Nat.pow_succ] at h; omega) (by omega))
      clear h
      have hl := numB_len (n / 128) 9 (by omega) (by omega)
      have e1 : IntKind.i64.wrap ((n : Int) / 128) = (n : Int) / 128 := by simp [IntKind.wrap, IntKind.signed, IntKind.bits]; omega
      have e2 : IntKind.u8.wrap ((n : Int).tmod 128) = (n : Int) % 128 := by
        have : (n : Int).tmod 128 = ((n % 128 : Nat) : Int) := rfl
        rw [this]; simp [IntKind.wrap, IntKind.signed, IntKind.bits]; omega
      have e3 : IntKind.u8.wrap ((n : Int) % 128 + 128) = (n : Int) % 128 + 128 := by simp [IntKind.wrap, IntKind.signed, IntKind.bits]; omega
      go_enter Tryd.func58, Tryd.ntmps58
      go_wp2
      go_region_held (fun _ : World => True) (trivial) (first | (go_at_call 58; refine (HN.out _).mono ?_; rintro e w' ⟨rfl, hb⟩; obtain ⟨x, rfl⟩ := wplus_of_below hb; clear hb))
      all_goals
        go_wp2
        go_ret
        refine ⟨?_, (by repeat (first | exact Below.refl _ _ | refine blw_alloc ?_ | refine blw_plus ?_ | refine Below.drew ?_))⟩
        have h6 : UInt8.ofNat (n % 128) + 128 = UInt8.ofNat (n % 128 + 128) := by apply UInt8.toNat_inj.1; simp
        show Ending.returned (.string (⟨#[UInt8.ofNat (n % 128) + 128]⟩ ++ ⟨(numB (n / 128)).toArray⟩)) = _
        rw [h6, numB_str_ge (by omega)]
theorem rNumber_any (n : Nat) (h : n ≤ 1099511627776) (w : World) : Calls Tryd.prog 58 #[.int .i64 n] w fun e w' => e = .returned (.string ⟨(numB n).toArray⟩) ∧ Below w.heap.size w w' :=
  rNumber_all 6 n n rfl (by omega) (by omega) w
end Go.Proofs.YtbopfhbeegkkaaaDoor
