/- code's reader: bytes in memory, the reader's cell, the walks. -/
import Derived.Test.YtcmpcbpdnaodmaaChecked
import Derived.WalkSpells
import Derived.Laws.IdiomStrings
import Derived.Lib.VarintBits
import Derived.Test.YtcmpcbpdnaodmaaCodeRep
namespace Go.Proofs.Ytcmpcbpdnaodmaa
open Go.RowKit
set_option linter.unusedVariables false

/-- The bytes l, as a slice at a of capacity cap. -/
def BytesAt (w : World) (a : Option Addr) (cap : Nat) (l : List UInt8) : Prop :=
  l.length ≤ cap ∧ cap ≤ maxLen ∧ (l = [] ∨ ∃ b off, a = some ⟨b, off, none⟩ ∧ b < w.heap.size ∧ ∀ i (hi : i < l.length), w.cell? ⟨b, off + i, none⟩ = some (byteV l[i]))
theorem bytes_at {w : World} {a : Option Addr} {cap : Nat} {l : List UInt8} (h : BytesAt w a cap l) {i : Nat} (hi : i < l.length) : ∃ b off, a = some ⟨b, off, none⟩ ∧ b < w.heap.size ∧ w.cell? ⟨b, off + i, none⟩ = some (byteV l[i]) := by
  rcases h.2.2 with rfl | ⟨b, off, ha, hb, hc⟩
  · simp at hi
  · exact ⟨b, off, ha, hb, hc i hi⟩
theorem bytes_from {w : World} {a : Option Addr} {cap : Nat} {l : List UInt8} (h : BytesAt w a cap l) {k : Nat} (hk : k ≤ l.length) :
    BytesAt w (if cap = k then a else a.map (·.add (k * 1))) (cap - k) (l.drop k) := by
  obtain ⟨h1, h2, h3⟩ := h
  refine ⟨by rw [List.length_drop]; omega, by omega, ?_⟩
  by_cases hkl : k = l.length
  · exact .inl (by rw [hkl]; simp)
  · rcases h3 with rfl | ⟨b, off, ha, hb, hc⟩
    · exact .inl (by simp)
    · refine .inr ⟨b, off + k, ?_, hb, ?_⟩
      · rw [if_neg (by omega), ha]
        by_cases h0 : k = 0
        · subst h0; simp [Addr.add]
        · simp [Addr.add, h0]
      · intro i hi
        have := hc (k + i) (by rw [List.length_drop] at hi; omega)
        rw [Nat.add_assoc, this]; simp
theorem bytes_to {w : World} {a : Option Addr} {cap : Nat} {l : List UInt8} (h : BytesAt w a cap l) {k : Nat} (hk : k ≤ l.length) : BytesAt w a cap (l.take k) := by
  obtain ⟨h1, h2, h3⟩ := h
  refine ⟨by rw [List.length_take]; omega, by omega, ?_⟩
  rcases h3 with rfl | ⟨b, off, ha, hb, hc⟩
  · exact .inl (by simp)
  · refine .inr ⟨b, off, ha, hb, fun i hi => ?_⟩
    rw [hc i (by rw [List.length_take] at hi; omega)]; simp
theorem bytes_below {w w' : World} {a : Option Addr} {cap : Nat} {l : List UInt8} (h : BytesAt w a cap l) {B : Nat} (hb : Below B w w') (hB : w.heap.size ≤ B) : BytesAt w' a cap l := by
  obtain ⟨h1, h2, h3⟩ := h
  refine ⟨h1, h2, ?_⟩
  rcases h3 with rfl | ⟨b, off, ha, hb', hc⟩
  · exact .inl rfl
  · exact .inr ⟨b, off, ha, Nat.lt_of_lt_of_le hb' hb.size, fun i hi => (hb.cell (p := ⟨b, _, none⟩) (by show b < B; omega)).trans (hc i hi)⟩
/-- 'x[k:]'. -/
theorem wpList_bytes_from {P : Program} {ops : Array Oper} {rest : List Oper} {op : Oper} {act : Act} {w : World} {Q : Exit → Act → World → Prop} (hgd : op.guard = none) (t : TypeId) (x lo : Operand) (ho : op.op = .slice t x (some lo) none none)
    {W : World} {a : Option Addr} {cap n : Nat} {l : List UInt8} (H : BytesAt W a cap l) (hn : n = l.length) (hx : act.eval x = .slice a n cap) (k : Nat) {ki : Int} (hlo : act.eval lo = .int .i64 ki) (hki : ki = (k : Int)) (hk : k ≤ l.length)
    (ht : P.underlying t = some (.slice (P.elem t))) (hz : ∀ w, (Go.sizeOf (P.elem t)).run P w = .ok 1 w)
    (h : ∀ a' n', n' = (l.drop k).length → BytesAt W a' (cap - k) (l.drop k) → wpList P ops Q rest (act.put op.dst (.slice a' n' (cap - k))) w) : wpList P ops Q (op :: rest) act w :=
  wpList_plain hgd fun _ hK => by
    subst hn; subst hki
    unfold Oper.wp execOp
    have h1 := H.1
    have hr := run_slice_l (P := P) w t a l.length cap ht .i64 (k : Int) (by omega) (by omega)
    rw [hz] at hr
    simp only [Result.andThen_ok, sliced, Int.toNat_natCast] at hr
    simp only [ho, hx, hlo, Option.map_some, Option.map_none, run_sliceAt_slice w t _ _ _ _ ht, Sem.run_bind, Sem.run_pure, Result.andThen_ok, hr]
    exact hK _ _ (h _ (l.length - k) (by simp) (bytes_from H hk))
/-- A reader in block bw; the bytes that are left lie in W, below it. -/
def RdAt (W : World) (bw : Nat) (r : Rd) (w : World) : Prop :=
  ∃ a cap, Has w bw #[.slice a r.2.length cap, .int .i64 r.1] 52 ∧ BytesAt W a cap r.2 ∧ W.heap.size ≤ bw ∧ Below W.heap.size W w
/-- Only one block of what was there has turned. -/
abbrev One (b : Nat) (w w' : World) : Prop := Mod (fun k => k = b) w w'
def rdFail (k : Nat) (r : Rd) : Rd := if r.1 = 0 then (k, r.2) else r
theorem rd_fail (W : World) (bw : Nat) (r : Rd) (w : World) (k : Nat) (h : RdAt W bw r w) :
    Calls Try.prog 27 #[.pointer (some ⟨bw, 0, none⟩), .int .i64 k] w fun e w' => e = .returned (.tuple #[]) ∧ RdAt W bw (rdFail k r) w' ∧ One bw w w' := by
  obtain ⟨a, cap, hx, hy, hz, hb⟩ := h
  have hc := has_cell hx
  have hf := has_free hx
  have hl := has_lt hx
  have HX := Lib.hid hx; clear hx
  have HY := Lib.hid hy; clear hy
  by_cases h0 : r.1 = 0
  · have e1 : ((r.1 : Int) == 0) = true := by rw [beq_iff_eq]; omega
    have H0 := Lib.hid h0; clear h0
    go_enter Try.func27, Try.ntmps27
    go_wp2_with fail
    go_end0
    refine ⟨rfl, ?_, (Mod.refl _ w).setCell _ _ (.inr rfl)⟩
    rw [rdFail, if_pos H0.out]
    exact ⟨a, cap, by have := has_set_same HX.out 1 (.int .i64 k); simpa using this, HY.out, hz, hb.setCell hz _⟩
  · have e1 : ((r.1 : Int) == 0) = false := by rw [beq_eq_false_iff_ne]; omega
    have H0 := Lib.hid h0; clear h0
    go_enter Try.func27, Try.ntmps27
    go_wp2_with fail
    go_end0
    refine ⟨rfl, ?_, Mod.refl _ _⟩
    rw [rdFail, if_neg H0.out]
    exact ⟨a, cap, HX.out, HY.out, hz, hb⟩
theorem var_step {n i c : Nat} (hn : n < 2 ^ (7 * i)) (hi : i ≤ 9) (hc : c < 256) (h9 : i = 9 → c ≤ 1) :
    bits .or .u64 (n : Int) (IntKind.u64.wrap (IntKind.u64.wrap (bits .and .u8 (c : Int) 127) * 2 ^ (7 * i))) = ((n + c % 128 * 2 ^ (7 * i) : Nat) : Int) ∧ n + c % 128 * 2 ^ (7 * i) < 2 ^ (7 * (i + 1)) := by
  have hm : bits .and .u8 (c : Int) 127 = (c : Int) % 128 := u8_and127 _ (by omega) (by omega)
  rw [hm, u64_wrap_id ((c : Int) % 128) (by omega) (by omega)]
  rcases (show i = 0 ∨ i = 1 ∨ i = 2 ∨ i = 3 ∨ i = 4 ∨ i = 5 ∨ i = 6 ∨ i = 7 ∨ i = 8 ∨ i = 9 by omega) with rfl | rfl | rfl | rfl | rfl | rfl | rfl | rfl | rfl | rfl
  all_goals
    simp only [Nat.reduceMul, Nat.reduceAdd, Nat.reducePow, Int.reducePow] at hn ⊢
    have h9' := h9
    simp only [Nat.reduceEqDiff, false_implies, true_implies] at h9'
    rw [show IntKind.u64.wrap ((c : Int) % 128 * _) = (c : Int) % 128 * _ from u64_wrap_id _ (by omega) (by omega)]
    refine ⟨?_, by omega⟩
    rw [bits_join_low .u64 64 (by decide) wraps_u64 _ _ _ (by omega) (by first | (show _ < (2 : Int) ^ 0; omega) | (show _ < (2 : Int) ^ 7; omega) | (show _ < (2 : Int) ^ 14; omega) | (show _ < (2 : Int) ^ 21; omega) | (show _ < (2 : Int) ^ 28; omega) | (show _ < (2 : Int) ^ 35; omega) | (show _ < (2 : Int) ^ 42; omega) | (show _ < (2 : Int) ^ 49; omega) | (show _ < (2 : Int) ^ 56; omega) | (show _ < (2 : Int) ^ 63; omega)) (by omega) (by omega) (by omega) (by omega)]
    omega
theorem take_at {rb : List UInt8} {i n : Nat} (ht : takeN i n (rb.drop i) = takeN 0 0 rb) (hi : i < rb.length) : takeN i n (rb[i] :: rb.drop (i + 1)) = takeN 0 0 rb := by
  rw [← ht, List.drop_eq_getElem_cons hi]
theorem num_short {rb : List UInt8} {i n : Nat} (ht : takeN i n (rb.drop i) = takeN 0 0 rb) (hi : i = rb.length) : rNum (0, rb) = (0, 15, rb) := by
  subst hi
  rw [List.drop_of_length_le (Nat.le_refl _)] at ht
  simp only [takeN] at ht
  simp [rNum, ← ht]
theorem num_bad {rb : List UInt8} {i n : Nat} (ht : takeN i n (rb.drop i) = takeN 0 0 rb) (hi : i < rb.length) (hb : (i = 9 ∧ 1 < rb[i].toNat) ∨ (0 < i ∧ rb[i].toNat = 0)) : rNum (0, rb) = (0, 2, rb) := by
  have h := take_at ht hi
  rw [takeN, if_pos hb] at h
  simp [rNum, ← h]
theorem num_done {rb : List UInt8} {i n : Nat} (ht : takeN i n (rb.drop i) = takeN 0 0 rb) (hi : i < rb.length) (hb : ¬((i = 9 ∧ 1 < rb[i].toNat) ∨ (0 < i ∧ rb[i].toNat = 0))) (hc : rb[i].toNat < 128) : rNum (0, rb) = (n + rb[i].toNat % 128 * 2 ^ (7 * i), 0, rb.drop (i + 1)) := by
  have h := take_at ht hi
  rw [takeN, if_neg hb, if_pos hc] at h
  simp [rNum, ← h]
theorem num_more {rb : List UInt8} {i n : Nat} (ht : takeN i n (rb.drop i) = takeN 0 0 rb) (hi : i < rb.length) (hb : ¬((i = 9 ∧ 1 < rb[i].toNat) ∨ (0 < i ∧ rb[i].toNat = 0))) (hc : ¬rb[i].toNat < 128) : takeN (i + 1) (n + rb[i].toNat % 128 * 2 ^ (7 * i)) (rb.drop (i + 1)) = takeN 0 0 rb := by
  have h := take_at ht hi
  rw [takeN, if_neg hb, if_neg hc] at h
  exact h
theorem rd_set {W w : World} {bw c' n' : Nat} {e : Nat} {rb rb' : List UInt8} {a : Option Addr} (h : RdAt W bw (e, rb) w) (hy : BytesAt W a c' rb') (hn : n' = rb'.length) : RdAt W bw (e, rb') (w.setCell ⟨bw, 0, none⟩ (.slice a n' c')) := by
  obtain ⟨a0, cap, hx, _, hz, hb⟩ := h
  subst hn
  exact ⟨a, c', by have := has_set_same hx 0 (.slice a rb'.length c'); simpa using this, hy, hz, hb.setCell hz _⟩
set_option maxRecDepth 100000 in
set_option maxHeartbeats 400000 in
theorem rd_number (W : World) (bw : Nat) (r : Rd) (w : World) (h : RdAt W bw r w) :
    Calls Try.prog 26 #[.pointer (some ⟨bw, 0, none⟩)] w fun e w' => e = .returned (.int .u64 ((rNum r).1 : Nat)) ∧ RdAt W bw (rNum r).2 w' ∧ One bw w w' := by
  obtain ⟨re, rb⟩ := r
  by_cases h0 : re = 0
  · subst h0
    have HH := Lib.hid h
    obtain ⟨a, cap, hx, hy, hz, hb⟩ := h
    dsimp only at *
    have hc := has_cell hx
    have hf := has_free hx
    have hl := has_lt hx
    have h1 := hy.1
    have h2 := hy.2.1
    unfold maxLen at h2
    have HX := Lib.hid hx; clear hx
    have HY := Lib.hid hy; clear hy
    have hg : RdAt W bw (rNum (0, rb)).2 = RdAt W bw (rNum (0, rb)).2 := rfl
    have HG := Lib.hid hg; clear hg
    go_enter Try.func26, Try.ntmps26
    go_wp2_with fail
    go_loop [3, 4, 5] (fun n i c => ∃ i0 n0 : Nat, n = .int .u64 n0 ∧ i = .int .i64 i0 ∧ takeN i0 n0 (rb.drop i0) = takeN 0 0 rb ∧ n0 < 2 ^ (7 * i0) ∧ i0 ≤ 9 ∧ i0 ≤ rb.length) (fun n i _ => rb.length - (intOf i).toNat)
    case atStart => exact ⟨0, 0, rfl, rfl, by simp, by simp, by omega, by omega⟩
    case round =>
      obtain ⟨i, n, rfl, rfl, ht, hn, hi, hir⟩ := hrel
      have HT := Lib.hid ht; clear ht
      have HN := Lib.hid hn; clear hn
      by_cases hlt : i = rb.length
      · have e1 : ((i : Int) == rb.length) = true := by rw [beq_iff_eq]; omega
        have HL := Lib.hid hlt; clear hlt
        go_wp2_with (go_at_call 27; go_must (refine (rd_fail W bw (0, rb) _ 15 HH.out).mono ?_; rintro e w1 ⟨rfl, hr, ho⟩; have HR := Lib.hid hr; clear hr))
        go_ret
        rw [num_short HT.out HL.out]
        exact ⟨rfl, HR.out, ho⟩
      · have e1 : ((i : Int) == rb.length) = false := by rw [beq_eq_false_iff_ne]; omega
        have hil : i < rb.length := by omega
        obtain ⟨b, off, rfl, hblt, g0⟩ := bytes_at HY.out hil
        rw [← hb.cell (p := ⟨b, _, none⟩) hblt] at g0
        have hbl : b < w.heap.size := Nat.lt_of_lt_of_le hblt hb.size
        have hc256 := UInt8.toNat_lt rb[i]
        have hT1 := Lib.hid (num_bad HT.out hil)
        have hT2 := Lib.hid (num_done HT.out hil)
        have hT3 := Lib.hid (num_more HT.out hil)
        have hVS := Lib.hid (fun h9 => var_step HN.out hi hc256 h9)
        unfold byteV at g0
        generalize rb[i].toNat = c at *
        have hin : (i : Int) < rb.length := by omega
        have hcs : (i = 9 ∧ 1 < c) ∨ (i = 9 ∧ c = 0) ∨ (i ≠ 9 ∧ 0 < i ∧ c = 0) ∨ (i = 9 ∧ c ≤ 1 ∧ c ≠ 0) ∨ (i ≠ 9 ∧ i = 0) ∨ (i ≠ 9 ∧ 0 < i ∧ c ≠ 0) := by omega
        have hd : BytesAt W (some ⟨b, off, none⟩) cap rb := HY.out
        have HD := Lib.hid hd; clear hd
        rcases hcs with ⟨h9, hc1⟩ | ⟨h9, hc0⟩ | ⟨h9, hi0, hc0⟩ | ⟨h9, hc1, hc0⟩ | ⟨h9, hi0⟩ | ⟨h9, hi0, hc0⟩
        · have e9 : ((i : Int) == 9) = true := by rw [beq_iff_eq]; omega
          have hi0 : (0 : Int) < i := by omega
          have hc1' : (1 : Int) < c := by omega
          have H9 := Lib.hid h9; clear h9
          go_wp2_with (go_at_call 27; go_must (refine (rd_fail W bw (0, rb) _ 2 HH.out).mono ?_; rintro e w1 ⟨rfl, hr, ho⟩; have HR := Lib.hid hr; clear hr))
          go_ret
          rw [hT1.out (.inl ⟨H9.out, hc1⟩)]
          exact ⟨rfl, HR.out, ho⟩
        · have e9 : ((i : Int) == 9) = true := by rw [beq_iff_eq]; omega
          have e0 : ((c : Int) == 0) = true := by rw [beq_iff_eq]; omega
          have hi0 : (0 : Int) < i := by omega
          have hc1' : ¬(1 : Int) < c := by omega
          have H9 := Lib.hid h9; clear h9
          have H0 := Lib.hid hc0; clear hc0
          go_wp2_with (go_at_call 27; go_must (refine (rd_fail W bw (0, rb) _ 2 HH.out).mono ?_; rintro e w1 ⟨rfl, hr, ho⟩; have HR := Lib.hid hr; clear hr))
          go_ret
          rw [hT1.out (.inr ⟨by omega, H0.out⟩)]
          exact ⟨rfl, HR.out, ho⟩
        · have e9 : ((i : Int) == 9) = false := by rw [beq_eq_false_iff_ne]; omega
          have e0 : ((c : Int) == 0) = true := by rw [beq_iff_eq]; omega
          have hi0' : (0 : Int) < i := by omega
          have H0 := Lib.hid hc0; clear hc0
          go_wp2_with (go_at_call 27; go_must (refine (rd_fail W bw (0, rb) _ 2 HH.out).mono ?_; rintro e w1 ⟨rfl, hr, ho⟩; have HR := Lib.hid hr; clear hr))
          go_ret
          rw [hT1.out (.inr ⟨hi0, H0.out⟩)]
          exact ⟨rfl, HR.out, ho⟩
        all_goals
          have HB : Hid (¬((i = 9 ∧ 1 < c) ∨ (0 < i ∧ c = 0))) := Lib.hid (by omega)
          have H91 : Hid (i = 9 → c ≤ 1) := Lib.hid (by omega)
          have hbit := Lib.hid (hVS.out H91.out)
        · have e9 : ((i : Int) == 9) = true := by rw [beq_iff_eq]; omega
          have e0 : ((c : Int) == 0) = false := by rw [beq_eq_false_iff_ne]; omega
          have hi0 : (0 : Int) < i := by omega
          have hc1' : ¬(1 : Int) < c := by omega
          have hc2 : (c : Int) < 128 := by omega
          have H9 := Lib.hid h9; clear h9
          have H0 := Lib.hid hc0; clear hc0
          go_wp2_with (refine wpList_bytes_from rfl _ _ _ rfl HD.out rfl rfl (i + 1) rfl (by omega) (by omega) (by kernel_rfl) (fun _ => by kernel_rfl) ?_; intro a' n' hn' hy'; have HY' := Lib.hid hy'; have HN' := Lib.hid hn'; clear hy' hn')
          go_ret
          rw [hT2.out HB.out (by omega)]
          exact ⟨(by first | rfl | ((rw [hbit.out.1]) <;> rfl)), rd_set HH.out HY'.out HN'.out, (Mod.refl _ w).setCell _ _ (.inr rfl)⟩
        · skip
          have e9 : ((i : Int) == 9) = false := by rw [beq_eq_false_iff_ne]; omega
          have hi0' : ¬(0 : Int) < i := by omega
          have h0 := hi0; clear hi0
          have H9 := Lib.hid h9; clear h9
          by_cases hc128 : c < 128
          · have hc2 : (c : Int) < 128 := by omega
            have H0 := Lib.hid h0; clear h0
            go_wp2_with (refine wpList_bytes_from rfl _ _ _ rfl HD.out rfl rfl (i + 1) rfl (by omega) (by omega) (by kernel_rfl) (fun _ => by kernel_rfl) ?_; intro a' n' hn' hy'; have HY' := Lib.hid hy'; have HN' := Lib.hid hn'; clear hy' hn')
            go_ret
            rw [hT2.out HB.out (by omega)]
            exact ⟨(by first | rfl | ((rw [hbit.out.1]) <;> rfl)), rd_set HH.out HY'.out HN'.out, (Mod.refl _ w).setCell _ _ (.inr rfl)⟩
          · have hc2 : ¬(c : Int) < 128 := by omega
            have H9n := H9.out
            have H0 := Lib.hid h0; clear h0
            go_wp2_with fail
            go_round
            case rel => exact ⟨i + 1, n + c % 128 * 2 ^ (7 * i), by rw [hbit.out.1], by go_num, hT3.out HB.out hc128, hbit.out.2, by omega, by omega⟩
            case measure => simp [intOf]; omega
        · skip
          have e9 : ((i : Int) == 9) = false := by rw [beq_eq_false_iff_ne]; omega
          have hi0' : (0 : Int) < i := by omega
          have e0 : ((c : Int) == 0) = false := by rw [beq_eq_false_iff_ne]; omega
          have h0 := hc0; clear hc0
          have H9 := Lib.hid h9; clear h9
          by_cases hc128 : c < 128
          · have hc2 : (c : Int) < 128 := by omega
            have H0 := Lib.hid h0; clear h0
            go_wp2_with (refine wpList_bytes_from rfl _ _ _ rfl HD.out rfl rfl (i + 1) rfl (by omega) (by omega) (by kernel_rfl) (fun _ => by kernel_rfl) ?_; intro a' n' hn' hy'; have HY' := Lib.hid hy'; have HN' := Lib.hid hn'; clear hy' hn')
            go_ret
            rw [hT2.out HB.out (by omega)]
            exact ⟨(by first | rfl | ((rw [hbit.out.1]) <;> rfl)), rd_set HH.out HY'.out HN'.out, (Mod.refl _ w).setCell _ _ (.inr rfl)⟩
          · have hc2 : ¬(c : Int) < 128 := by omega
            have H9n := H9.out
            have H0 := Lib.hid h0; clear h0
            go_wp2_with fail
            go_round
            case rel => exact ⟨i + 1, n + c % 128 * 2 ^ (7 * i), by rw [hbit.out.1], by go_num, hT3.out HB.out hc128, hbit.out.2, by omega, by omega⟩
            case measure => simp [intOf]; omega
  · have hst := Lib.hid (rNum_stuck (r := (re, rb)) h0)
    have HH := Lib.hid h
    obtain ⟨a, cap, hx, hy, hz, hb⟩ := h
    dsimp only at *
    have hc := has_cell hx
    have hf := has_free hx
    have hl := has_lt hx
    have e1 : ((re : Int) == 0) = false := by rw [beq_eq_false_iff_ne]; omega
    have HX := Lib.hid hx; clear hx
    have HY := Lib.hid hy; clear hy
    have H0 := Lib.hid h0; clear h0
    go_enter Try.func26, Try.ntmps26
    go_wp2_with fail
    go_loop [3, 4, 5] (fun n i c => n = .int .u64 0 ∧ i = .int .i64 0) (fun n i _ => 1)
    case atStart => exact ⟨rfl, rfl⟩
    case round =>
      obtain ⟨rfl, rfl⟩ := hrel
      go_wp2_with fail
      go_ret
      rw [hst.out]
      exact ⟨rfl, HH.out, Mod.refl _ _⟩
theorem rNum_le (r : Rd) : (rNum r).1 < 18446744073709551616 := by
  unfold rNum
  split
  · simp
  · split
    · rename_i h
      obtain ⟨n, e1, _, _, e4⟩ := takeN_inv r.2 0 0 (takeN 0 0 r.2).2.1 (takeN 0 0 r.2).2.2 (by omega) (Prod.ext h rfl)
      simp only [e1]; omega
    · simp
set_option maxHeartbeats 400000 in
theorem rd_count (W : World) (bw : Nat) (r : Rd) (w : World) (m : Nat) (hm : m ≤ 9223372036854775807) (h : RdAt W bw r w) :
    Calls Try.prog 17 #[.pointer (some ⟨bw, 0, none⟩), .int .u64 m] w fun e w' => e = .returned (.int .i64 ((rCount m r).1 : Nat)) ∧ RdAt W bw (rCount m r).2 w' ∧ One bw w w' := by
  have hle := rNum_le r
  by_cases hlt : m < (rNum r).1
  · have hz : (rNum r).2.1 = 0 := by
      unfold rNum at hlt ⊢
      split at hlt <;> split <;> simp_all
      split at hlt <;> simp_all
    have hR : rCount m r = (0, 2, (rNum r).2.2) := by unfold rCount; rw [if_pos hlt]
    have hF : rdFail 2 (rNum r).2 = (2, (rNum r).2.2) := by unfold rdFail; rw [if_pos hz]
    have H1 := Lib.hid hR; clear hR hz
    have H2 := Lib.hid hF; clear hF
    have h2 : (m : Int) < (rNum r).1 := by omega
    go_enter Try.func17, Try.ntmps17
    go_wp2_with (first
      | (go_at_call 26; go_must (refine (rd_number W bw r _ h).mono ?_; rintro e w1 ⟨rfl, hr, ho⟩; have HR := Lib.hid hr; clear hr))
      | (go_at_call 27; go_must (refine (rd_fail W bw (rNum r).2 _ 2 HR.out).mono ?_; rintro e w2 ⟨rfl, hr, ho2⟩; rw [H2.out] at hr; have HR2 := Lib.hid hr; clear hr)))
    go_ret
    rw [H1.out]
    exact ⟨rfl, HR2.out, ho.trans (ho2.mono (fun _ _ h => h))⟩
  · have hR : rCount m r = rNum r := by unfold rCount; rw [if_neg hlt]
    have H1 := Lib.hid hR; clear hR
    have h2 : ¬(m : Int) < (rNum r).1 := by omega
    go_enter Try.func17, Try.ntmps17
    go_wp2_with (go_at_call 26; go_must (refine (rd_number W bw r _ h).mono ?_; rintro e w1 ⟨rfl, hr, ho⟩; have HR := Lib.hid hr; clear hr))
    go_ret
    rw [H1.out]
    exact ⟨rfl, HR.out, ho⟩
end Go.Proofs.Ytcmpcbpdnaodmaa
