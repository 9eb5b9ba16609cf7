/- Parts of the proof. -/
import Derived.Test.YtcmpcbpdnaodmaaDoorLsCodeWriter
namespace Go.Proofs.YtcmpcbpdnaodmaaDoor
open Go.RowKit
set_option linter.unusedVariables false
theorem writer_count (B bw : Nat) (ob : Option Nat) (w0 : World) (xs : List UInt8) (n : Nat) (hn : n ≤ 9223372036854775807) (hx : xs.length ≤ 1099511627776) (w : World) (hb : WBuf B bw ob w0 xs w) :
    Calls Tryd.prog 20 #[.pointer (some ⟨bw, 0, none⟩), .int .i64 n] w fun e w' => e = .returned (.tuple #[]) ∧ WBuf B bw ob w0 (xs ++ uv n) w' := by
  have n0 : (0 : Int) ≤ n := by omega
  have n1 : (n : Int) ≤ 9223372036854775807 := by omega
  go_enter Tryd.func20, Tryd.ntmps20
  go_wp2_with (go_at_call 26; go_must (refine (writer_number B bw ob w0 xs n (by omega) hx w hb).mono ?_; rintro e w1 ⟨rfl, hb1⟩))
  go_end0
  exact ⟨rfl, hb1⟩
theorem xones (x : Nat) (h : x < 18446744073709551616) : x ^^^ 18446744073709551615 = 18446744073709551615 - x := by
  have e : (BitVec.ofNat 64 x ^^^ BitVec.allOnes 64).toNat = (~~~ BitVec.ofNat 64 x).toNat := by rw [BitVec.xor_allOnes]
  rw [BitVec.toNat_xor, BitVec.toNat_not] at e
  simp [BitVec.toNat_ofNat, Nat.mod_eq_of_lt h] at e
  omega
theorem zz_pos {a : Int} (hs : 0 ≤ a) (h1 : a ≤ 9223372036854775807) : bits .xor .u64 (a * 2) (a / 9223372036854775808) = (zz a : Int) := by
  have ez : zz a = (2 * a).toNat := by simp [zz, hs]
  rw [ez, show a * 2 = ((2 * a).toNat : Int) by omega, show a / 9223372036854775808 = ((0 : Nat) : Int) by omega, bits_xor_u64_nat _ _ (by omega) (by omega), Nat.xor_zero]
theorem zz_neg {a : Int} (hs : ¬0 ≤ a) (h0 : -9223372036854775808 ≤ a) : bits .xor .u64 (IntKind.u64.wrap (IntKind.u64.wrap a * 2)) (IntKind.u64.wrap (a / 9223372036854775808)) = (zz a : Int) := by
  have ez : zz a = (-2 * a - 1).toNat := by simp [zz, hs]
  rw [IntKind.wrap_u64, IntKind.wrap_u64, IntKind.wrap_u64, ez, show (a % 18446744073709551616 * 2) % 18446744073709551616 = ((2 * a + 18446744073709551616).toNat : Int) by omega, show (a / 9223372036854775808) % 18446744073709551616 = ((18446744073709551615 : Nat) : Int) by omega, bits_xor_u64_nat _ _ (by omega) (by omega), xones _ (by omega)]
  omega
theorem zz_le {a : Int} (h0 : -9223372036854775808 ≤ a) (h1 : a ≤ 9223372036854775807) : zz a ≤ 18446744073709551615 := by unfold zz; split <;> omega
theorem writer_signed (B bw : Nat) (ob : Option Nat) (w0 : World) (xs : List UInt8) (a : Int) (h0 : -9223372036854775808 ≤ a) (h1 : a ≤ 9223372036854775807) (hx : xs.length ≤ 1099511627776) (w : World) (hb : WBuf B bw ob w0 xs w) :
    Calls Tryd.prog 21 #[.pointer (some ⟨bw, 0, none⟩), .int .i64 a] w fun e w' => e = .returned (.tuple #[]) ∧ WBuf B bw ob w0 (xs ++ uv (zz a)) w' := by
  have hz := zz_le h0 h1
  by_cases hs : 0 ≤ a
  · have ez := zz_pos hs h1
    go_enter Tryd.func21, Tryd.ntmps21
    go_wp2_with (go_at_call 26; go_must (refine (writer_number B bw ob w0 xs (zz a) hz hx w hb).mono ?_; rintro e w1 ⟨rfl, hb1⟩))
    go_end0
    exact ⟨rfl, hb1⟩
  · have ez := zz_neg hs h0
    go_enter Tryd.func21, Tryd.ntmps21
    go_wp2_with (go_at_call 26; go_must (refine (writer_number B bw ob w0 xs (zz a) hz hx w hb).mono ?_; rintro e w1 ⟨rfl, hb1⟩))
    go_end0
    exact ⟨rfl, hb1⟩
end Go.Proofs.YtcmpcbpdnaodmaaDoor
