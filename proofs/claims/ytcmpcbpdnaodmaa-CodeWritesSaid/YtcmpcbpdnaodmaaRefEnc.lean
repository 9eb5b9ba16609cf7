/- The reference's number and signed. -/
import Derived.Test.YtcmpcbpdnaodmaaCodeEncode
namespace Go.Proofs.Ytcmpcbpdnaodmaa
open Go.RowKit Go.Lib
set_option linter.unusedVariables false

theorem ref_byte (m : Nat) : Value.int .u8 ((m : Int) % 128 + 128) = byteV (b8 (m % 128 + 128)) := by
  unfold byteV b8; rw [UInt8.toNat_ofNat']; congr 1; omega
set_option maxHeartbeats 400000 in
theorem ref15_number (n : Nat) (hn : n ≤ 18446744073709551615) (w : World) :
    Calls Try.prog 21 #[.int .u64 n] w fun e w' => Below w.heap.size w w' ∧ ∃ a c, e = .returned (.slice a (uv n).length c) ∧ w'.ownsRow w.heap.size 5 1 (.slice a (uv n).length c) (uv n).length ((uv n).map byteV) := by
  obtain ⟨i0, hi, hz0, hz1, hz2⟩ := info_parts u8info
  have hlen := uv_len64 n hn
  go_enter Try.func21, Try.ntmps21
  go_wp2_with fail
  go_loopw [0, 3] (fun q v wr => ∃ (m : Nat) (ys : List UInt8) (a : Option Addr) (c : Nat), q = .int .u64 m ∧ v = .slice a ys.length c ∧ m ≤ n ∧ ys ++ uv m = uv n ∧ wr.ownsRow w.heap.size 5 1 (.slice a ys.length c) ys.length (ys.map byteV) ∧ Below w.heap.size w wr) (fun q _ _ => (intOf q).toNat)
  case atStart => exact ⟨n, [], _, _, rfl, rfl, Nat.le_refl _, rfl, World.ownsRow_lit w #[] 0 (Nat.le_refl _) (by simp [maxLen]) rfl, (by repeat' (first | exact Below.refl _ _ | assumption | (refine thenB ?_ (by assumption)) | (refine belowN ?_ _) | (refine Below.alloc ?_ (by first | simp; done | (simp; omega) | omega) _) | (refine below_setRow ?_ (by first | simp; done | (simp; omega) | omega) _) | (refine Below.setCell ?_ (by first | simp; done | (simp; omega) | omega) _)))⟩
  case round =>
    obtain ⟨m, ys, a, c, rfl, rfl, hm, huv, ho, hbw⟩ := hrel
    have hys : ys.length ≤ 10 := by have := congrArg List.length huv; simp at this; omega
    have m0 : (0 : Int) ≤ m := by omega
    have m1 : (m : Int) ≤ 18446744073709551615 := by omega
    have hB := hbw.size
    have HU := Lib.hid huv; clear huv
    have HO := Lib.hid ho; clear ho
    have HN := Lib.hid hn; clear hn
    have HM := Lib.hid hm; clear hm
    by_cases hlt : 128 ≤ m
    · have h127 : (127 : Int) < m := by omega
      go_wp2_with (at_builtin; go_must (refine wpList_append_elem rfl _ _ 29 rfl w.heap.size 5 i0 (.int .u8 0) 1 1 (by kernel_rfl) hi hz0 hz1 hz2 rfl (by decide) a c ys.length (ys.map byteV) [_] _ rfl HO.out rfl rfl (by simp [Value.oneCell']) (by simp only [maxLen]; omega) (by omega) hB ?_); go_must (intro a' c' w1 ho hg hp))
      rw [ref_byte] at ho
      exact ⟨⟨m / 128, ys ++ [b8 (m % 128 + 128)], a', c', congrArg (Value.int .u64) (shr7 m), by simp, by have := HM.out; omega, by have := HU.out; rw [uv_big hlt] at this; simpa using this, by simpa using ho, hbw.grown hg hB (fun k hk => (HO.out.lt k hk).1)⟩, by simp [intOf]; omega⟩
    · have h127 : ¬(127 : Int) < m := by omega
      go_wp2_with (at_builtin; go_must (refine wpList_append_elem rfl _ _ 29 rfl w.heap.size 5 i0 (.int .u8 0) 1 1 (by kernel_rfl) hi hz0 hz1 hz2 rfl (by decide) a c ys.length (ys.map byteV) [_] _ rfl HO.out rfl rfl (by simp [Value.oneCell']) (by simp only [maxLen]; omega) (by omega) hB ?_); go_must (intro a' c' w1 ho hg hp))
      rw [byte_small hlt] at ho
      have e : uv n = ys ++ [b8 m] := by have := HU.out; rw [uv_small (by omega)] at this; exact this.symm
      have HE := Lib.hid e; clear e
      go_ret
      exact ⟨hbw.grown hg hB (fun k hk => (HO.out.lt k hk).1), a', c', by (rw [HE.out]) <;> simp, by rw [HE.out]; simpa using ho⟩
theorem zz_odd {a : Int} (hs : ¬0 ≤ a) (h0 : -9223372036854775808 ≤ a) : zz a = (-2 * a - 1).toNat := by simp [zz, hs]
set_option maxHeartbeats 400000 in
theorem ref15_signed (x : Int) (h0 : -9223372036854775808 ≤ x) (h1 : x ≤ 9223372036854775807) (w : World) :
    Calls Try.prog 22 #[.int .i64 x] w fun e w' => Below w.heap.size w w' ∧ ∃ a c, e = .returned (.slice a (uv (zz x)).length c) ∧ w'.ownsRow w.heap.size 5 1 (.slice a (uv (zz x)).length c) (uv (zz x)).length ((uv (zz x)).map byteV) := by
  have hz := zz_le h0 h1
  by_cases hs : 0 ≤ x
  · have ez : ((zz x : Nat) : Int) = x * 2 := by unfold zz; rw [if_pos hs]; omega
    have HZ := Lib.hid hz; clear hz
    go_enter Try.func22, Try.ntmps22
    go_wp2_with (go_at_call 21; go_must (rw [← ez]; refine (ref15_number (zz x) HZ.out _).mono ?_; rintro e w1 ⟨hb1, a, c, rfl, ho⟩))
    go_ret
    exact ⟨hb1, a, c, rfl, ho⟩
  · have ez : ((zz x : Nat) : Int) = -(x + 1) * 2 + 1 := by unfold zz; rw [if_neg hs]; omega
    have HZ := Lib.hid hz; clear hz
    go_enter Try.func22, Try.ntmps22
    go_wp2_with (go_at_call 21; go_must (rw [← ez]; refine (ref15_number (zz x) HZ.out _).mono ?_; rintro e w1 ⟨hb1, a, c, rfl, ho⟩))
    go_ret
    exact ⟨hb1, a, c, rfl, ho⟩
end Go.Proofs.Ytcmpcbpdnaodmaa
