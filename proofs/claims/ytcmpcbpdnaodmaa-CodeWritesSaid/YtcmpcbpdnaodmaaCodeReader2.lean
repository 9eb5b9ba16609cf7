/- code's reader: a number with a sign, an instruction's byte, a text. -/
import Derived.Test.YtcmpcbpdnaodmaaCodeReader
import Derived.Laws.DeepNot64
import Derived.Laws.Bits64b
namespace Go.Proofs.Ytcmpcbpdnaodmaa
open Go.RowKit
set_option linter.unusedVariables false

theorem xor_comm64 (a b : Int) : bits .xor .i64 a b = bits .xor .i64 b a := by
  show IntKind.i64.wrap ((BitVec.ofInt 64 a ^^^ BitVec.ofInt 64 b).toNat : Int) = IntKind.i64.wrap ((BitVec.ofInt 64 b ^^^ BitVec.ofInt 64 a).toNat : Int)
  rw [BitVec.xor_comm]
theorem xor_zero64 (a : Nat) (ha : a < 9223372036854775808) : bits .xor .i64 (a : Int) 0 = a := by
  show IntKind.i64.wrap ((BitVec.ofInt 64 (a : Int) ^^^ BitVec.ofInt 64 0).toNat : Int) = _
  rw [show BitVec.ofInt 64 0 = 0#64 from rfl, BitVec.xor_zero, BitVec.ofInt_natCast, BitVec.toNat_ofNat, Nat.mod_eq_of_lt (by omega)]
  simp [IntKind.wrap, IntKind.bits, IntKind.signed]; omega
theorem unzz_bits (n : Nat) (h : n < 18446744073709551616) : bits .xor .i64 ((n : Int) / 2) (wrap64 (-wrap64 (bits .and .u64 (n : Int) 1))) = unzz n := by
  have h1 : bits .and .u64 (n : Int) 1 = ((n &&& 1 : Nat) : Int) := bits_and_u64_nat n 1 h (by omega)
  rw [h1, Nat.and_one_is_mod, show (n : Int) / 2 = ((n / 2 : Nat) : Int) by omega]
  unfold unzz
  rcases Nat.mod_two_eq_zero_or_one n with e | e
  · rw [e, if_neg (by omega), show wrap64 (-wrap64 ((0 : Nat) : Int)) = 0 by unfold wrap64; decide, xor_zero64 _ (by omega)]
  · rw [e, if_pos rfl, show wrap64 (-wrap64 ((1 : Nat) : Int)) = -1 by unfold wrap64; decide, xor_comm64, i64_not _ (by omega)]; omega
set_option maxRecDepth 100000 in
set_option maxHeartbeats 400000 in
theorem rd_signed (W : World) (bw : Nat) (r : Rd) (w : World) (h : RdAt W bw r w) :
    Calls Try.prog 20 #[.pointer (some ⟨bw, 0, none⟩)] w fun e w' => e = .returned (.int .i64 (rSigned r).1) ∧ RdAt W bw (rSigned r).2 w' ∧ One bw w w' := by
  have hle := rNum_le r
  have hle2 : ((rNum r).1 : Int) < 18446744073709551616 := by omega
  have HU := Lib.hid (unzz_bits (rNum r).1 hle)
  go_enter Try.func20, Try.ntmps20
  go_wp2_with (go_at_call 26; go_must (refine (rd_number W bw r _ h).mono ?_; rintro e w1 ⟨rfl, hr, ho⟩; have HR := Lib.hid hr; clear hr))
  go_ret
  exact ⟨congrArg (fun z => Ending.returned (.int .i64 z)) HU.out, HR.out, ho⟩
/-- What is read of a reader's cell. -/
theorem rd_open {W w : World} {bw : Nat} {e : Nat} {rb : List UInt8} (h : RdAt W bw (e, rb) w) : ∃ a cap, (∀ j, w.cell? ⟨bw, j, none⟩ = #[Value.slice a rb.length cap, .int .i64 (e : Int)][j]?) ∧ (∀ j, w.frozen? ⟨bw, j, none⟩ = false) ∧ bw < w.heap.size ∧ BytesAt W a cap rb ∧ Below W.heap.size W w ∧ rb.length ≤ cap ∧ cap ≤ 9223372036854775807 ∧ W.heap.size ≤ bw := by
  obtain ⟨a, cap, hx, hy, hz, hb⟩ := h
  have h2 := hy.2.1
  unfold maxLen at h2
  exact ⟨a, cap, has_cell hx, has_free hx, has_lt hx, hy, hb, hy.1, by omega, hz⟩
theorem rOp_some {rb : List UInt8} (h : 0 < rb.length) : rOp (0, rb) = (rb[0].toNat, if rb[0].toNat < 1 ∨ 26 < rb[0].toNat then 23 else 0, rb.drop 1) := by
  cases rb with
  | nil => simp at h
  | cons c t => rfl
set_option maxRecDepth 100000 in
set_option maxHeartbeats 400000 in
theorem rd_op (W : World) (bw : Nat) (r : Rd) (w : World) (h : RdAt W bw r w) :
    Calls Try.prog 19 #[.pointer (some ⟨bw, 0, none⟩)] w fun e w' => e = .returned (.int .u8 ((rOp r).1 : Nat)) ∧ RdAt W bw (rOp r).2 w' ∧ One bw w w' := by
  obtain ⟨re, rb⟩ := r
  have HH := Lib.hid h
  obtain ⟨a, cap, hc, hf, hl, hy, hb, h1, h2, hz⟩ := rd_open h
  clear h
  have HY := Lib.hid hy; clear hy
  by_cases h0 : re = 0
  · subst h0
    have e0 : (((0 : Nat) : Int) != 0) = false := by decide
    by_cases hn : rb.length = 0
    · have hR : rOp (0, rb) = (0, 15, rb) := by rw [List.length_eq_zero_iff.1 hn]; rfl
      have HR := Lib.hid hR; clear hR
      have e00 : ((rb.length : Int) == 0) = true := by rw [beq_iff_eq]; omega
      have HN := Lib.hid hn; clear hn
      go_enter Try.func19, Try.ntmps19
      go_wp2_with (go_at_call 27; go_must (refine (rd_fail W bw (0, rb) _ 15 HH.out).mono ?_; rintro e w1 ⟨rfl, hr, ho⟩; have HR1 := Lib.hid hr; clear hr))
      go_ret
      rw [HR.out]
      exact ⟨rfl, HR1.out, ho⟩
    · have hpos : 0 < rb.length := by omega
      have HR := Lib.hid (rOp_some hpos)
      obtain ⟨b, off, rfl, hblt, g0⟩ := bytes_at HY.out hpos
      rw [← hb.cell (p := ⟨b, _, none⟩) hblt] at g0
      have hbl : b < w.heap.size := Nat.lt_of_lt_of_le hblt hb.size
      have e00 : ((rb.length : Int) == 0) = false := by rw [beq_eq_false_iff_ne]; omega
      have hc256 := UInt8.toNat_lt rb[0]
      have hpos2 : (0 : Int) < rb.length := by omega
      simp only [Nat.add_zero] at g0
      unfold byteV at g0
      generalize rb[0].toNat = x at *
      by_cases hbad : x < 1 ∨ 26 < x
      · have hF : Hid (rdFail 23 (0, rb) = (23, rb)) := Lib.hid rfl
        have HB : Hid (rOp (0, rb) = (x, 23, rb.drop 1)) := Lib.hid (by rw [HR.out, if_pos hbad])
        have hb2 : (x : Int) < 1 ∨ (26 : Int) < x := by omega
        clear hbad
        rcases hb2 with hb1 | hb1
        all_goals
          go_enter Try.func19, Try.ntmps19
          go_wp2_with (first
            | (go_at_call 27; go_must (refine (rd_fail W bw (0, rb) _ 23 HH.out).mono ?_; rintro e w1 ⟨rfl, hr, ho⟩; rw [hF.out] at hr; have HR1 := Lib.hid hr; clear hc hf hl hb; obtain ⟨a1, cap1, hc, hf, hl, hy1, hb, h11, h12, -⟩ := rd_open hr; have HY1 := Lib.hid hy1; clear hr hy1))
            | (refine wpList_bytes_from rfl _ _ _ rfl HY1.out rfl rfl 1 rfl rfl (by omega) (by kernel_rfl) (fun _ => by kernel_rfl) ?_; intro a' n' hn' hy'; have HY' := Lib.hid hy'; have HN' := Lib.hid hn'; clear hy' hn'))
          go_ret
          rw [HB.out]
          exact ⟨rfl, rd_set HR1.out HY'.out HN'.out, ho.setCell _ _ (.inr rfl)⟩
      · have HB : Hid (rOp (0, rb) = (x, 0, rb.drop 1)) := Lib.hid (by rw [HR.out, if_neg hbad])
        have hb2 : ¬(x : Int) < 1 := by omega
        have hb3 : ¬(26 : Int) < x := by omega
        clear hbad
        go_enter Try.func19, Try.ntmps19
        go_wp2_with (refine wpList_bytes_from rfl _ _ _ rfl HY.out rfl rfl 1 rfl rfl (by omega) (by kernel_rfl) (fun _ => by kernel_rfl) ?_; intro a' n' hn' hy'; have HY' := Lib.hid hy'; have HN' := Lib.hid hn'; clear hy' hn')
        go_ret
        rw [HB.out]
        exact ⟨rfl, rd_set HH.out HY'.out HN'.out, (Mod.refl _ w).setCell _ _ (.inr rfl)⟩
  · have e0 : ((re : Int) != 0) = true := by rw [bne_iff_ne]; omega
    have HR : Hid (rOp (re, rb) = (0, re, rb)) := Lib.hid (by simp [rOp, h0])
    have hF : Hid (rdFail 15 (re, rb) = (re, rb)) := Lib.hid (by simp [rdFail, h0])
    have H0 := Lib.hid h0; clear h0
    go_enter Try.func19, Try.ntmps19
    go_wp2_with (go_at_call 27; go_must (refine (rd_fail W bw (re, rb) _ 15 HH.out).mono ?_; rintro e w1 ⟨rfl, hr, ho⟩; rw [hF.out] at hr; have HR1 := Lib.hid hr; clear hr))
    go_ret
    rw [HR.out]
    exact ⟨rfl, HR1.out, ho⟩
end Go.Proofs.Ytcmpcbpdnaodmaa
