/- code's reader: a text. -/
import Derived.Test.YtcmpcbpdnaodmaaCodeReader2
import Derived.Lib.BufferRead
namespace Go.Proofs.Ytcmpcbpdnaodmaa
open Go.RowKit
set_option linter.unusedVariables false

/-- 'x[:k]'. -/
theorem wpList_bytes_to {P : Program} {ops : Array Oper} {rest : List Oper} {op : Oper} {act : Act} {w : World} {Q : Exit → Act → World → Prop} (hgd : op.guard = none) (t : TypeId) (x hi : Operand) (ho : op.op = .slice t x none (some hi) none)
    {W : World} {a : Option Addr} {cap n : Nat} {l : List UInt8} (H : BytesAt W a cap l) (hn : n = l.length) (hx : act.eval x = .slice a n cap) (k : Nat) {ki : Int} (hhi : act.eval hi = .int .i64 ki) (hki : ki = (k : Int)) (hk : k ≤ l.length)
    (ht : P.underlying t = some (.slice (P.elem t))) (hz : ∀ w, (Go.sizeOf (P.elem t)).run P w = .ok 1 w)
    (h : BytesAt W a cap (l.take k) → wpList P ops Q rest (act.put op.dst (.slice a k cap)) w) : wpList P ops Q (op :: rest) act w :=
  wpList_plain hgd fun _ hK => by
    subst hn; subst hki
    unfold Oper.wp execOp
    have h1 := H.1
    have hr := run_slice_h (P := P) w t a l.length cap ht .i64 (k : Int) (by omega) (by omega)
    rw [hz] at hr
    have hadd : (a.map (·.add (0 * 1))) = a := by cases a <;> simp [Addr.add]
    simp only [Result.andThen_ok, sliced, Int.toNat_natCast, Nat.sub_zero, hadd, ite_self] at hr
    simp only [ho, hx, hhi, Option.map_some, Option.map_none, run_sliceAt_slice w t _ _ _ _ ht, Sem.run_bind, Sem.run_pure, Result.andThen_ok, hr]
    exact hK _ _ (h (bytes_to H hk))
/-- 'string(x)'. -/
theorem wpList_bytes_text {P : Program} {ops : Array Oper} {rest : List Oper} {op : Oper} {act : Act} {w : World} {Q : Exit → Act → World → Prop} (hgd : op.guard = none) (src dst e : TypeId) (x : Operand) (ho : op.op = .convert src dst x)
    {a : Option Addr} {cap n : Nat} {l : List UInt8} (H : BytesAt w a cap l) (hn : n = l.length) (hx : act.eval x = .slice a n cap)
    (hs : P.underlying src = some (.slice e)) (he : P.underlying e = some (.int .u8)) (hd : P.underlying dst = some .string)
    (h : wpList P ops Q rest (act.put op.dst (strV l)) w) : wpList P ops Q (op :: rest) act w :=
  wpList_plain hgd fun _ hK => by
    subst hn
    unfold Oper.wp execOp
    have hr : (convert src dst (.slice a l.length cap)).run P w = .ok (strV l) w := by
      cases a with
      | none =>
        have h0 : l = [] := by
          rcases H.2.2 with h | ⟨b, off, h, _⟩
          · exact h
          · simp at h
        subst h0
        exact Go.Lib.run_convert_nil_bytes w src dst e cap hs he hd
      | some p => exact run_convert_bytes_back (P := P) w src dst e p cap l hs he hd (fun j hj => by
          obtain ⟨b', off', e', _, hc⟩ := bytes_at H hj
          simp at e'
          subst e'
          have hadd : (⟨b', off', none⟩ : Addr).add j = ⟨b', off' + j, none⟩ := by unfold Addr.add; split <;> simp_all
          rw [hadd]; exact hc)
    simp only [ho, hx, Sem.run_bind, Sem.run_pure, Result.andThen_ok, hr]
    exact hK _ _ h
set_option maxRecDepth 100000 in
set_option maxHeartbeats 400000 in
theorem rd_text (W : World) (bw : Nat) (r : Rd) (w : World) (h : RdAt W bw r w) :
    Calls Try.prog 18 #[.pointer (some ⟨bw, 0, none⟩)] w fun e w' => e = .returned (strV (rText r).1) ∧ RdAt W bw (rText r).2 w' ∧ One bw w w' := by
  have HH := Lib.hid h; clear h
  obtain ⟨k, e, rb, hk⟩ : ∃ k e rb, rCount 1048576 r = (k, e, rb) := ⟨_, _, _, rfl⟩
  have hkm : k ≤ 1048576 := by
    have : (rCount 1048576 r).1 ≤ 1048576 := by unfold rCount; split <;> simp_all
    rw [hk] at this; exact this
  have hk1 : (rCount 1048576 r).1 = k := by rw [hk]
  have hk2 : (rCount 1048576 r).2 = (e, rb) := by rw [hk]
  by_cases he : e = 0
  · subst he
    have hb0 : (((0 : Nat) : Int) != 0) = false := by decide
    by_cases hlen : rb.length < k
    · have HT : Hid (rText r = ([], 15, rb)) := Lib.hid (by simp [rText, hk, hlen])
      have HK1 := Lib.hid hk1; have HK2 := Lib.hid hk2; clear hk hk1 hk2
      have hi1 : (rb.length : Int) < k := by omega
      go_enter Try.func18, Try.ntmps18
      go_wp2_with (first
        | (go_at_call 17; go_must (refine (rd_count W bw r _ 1048576 (by omega) HH.out).mono ?_; rintro e w1 ⟨rfl, hr, ho⟩; rw [HK1.out]; rw [HK2.out] at hr; have HR := Lib.hid hr; obtain ⟨a1, cap1, hc, hf, hl, hy1, hb, h11, h12, -⟩ := rd_open hr; have HY1 := Lib.hid hy1; clear hr hy1))
        | (go_at_call 27; go_must (refine (rd_fail W bw (0, rb) _ 15 HR.out).mono ?_; rintro e w2 ⟨rfl, hr, ho2⟩; have HR2 := Lib.hid hr; clear hr)))
      go_ret
      rw [HT.out]
      exact ⟨rfl, HR2.out, ho.trans (ho2.mono (fun _ _ h => h))⟩
    · have HT : Hid (rText r = (rb.take k, 0, rb.drop k)) := Lib.hid (by simp [rText, hk, hlen])
      have HK1 := Lib.hid hk1; have HK2 := Lib.hid hk2; clear hk hk1 hk2
      have hi1 : (k : Int) ≤ rb.length := by omega
      have cv1 : Try.prog.underlying 29 = some (.slice 5) := by kernel_rfl
      have cv2 : Try.prog.underlying 5 = some (.int .u8) := by kernel_rfl
      have cv3 : Try.prog.underlying 9 = some .string := by kernel_rfl
      have HL : Hid ((rb.take k).length = k) := Lib.hid (by rw [List.length_take]; omega)
      go_enter Try.func18, Try.ntmps18
      go_wp2_with (first
        | (go_at_call 17; go_must (refine (rd_count W bw r _ 1048576 (by omega) HH.out).mono ?_; rintro e w1 ⟨rfl, hr, ho⟩; rw [HK1.out]; rw [HK2.out] at hr; have HR := Lib.hid hr; obtain ⟨a1, cap1, hc, hf, hl, hy1, hb, h11, h12, -⟩ := rd_open hr; have HB := Lib.hid hb; have HY1 := Lib.hid hy1; clear hr hy1))
        | (refine wpList_bytes_to rfl _ _ _ rfl HY1.out rfl rfl k rfl rfl (by omega) (by kernel_rfl) (fun _ => by kernel_rfl) ?_; intro hy'; have HY2 := Lib.hid hy'; clear hy')
        | (refine wpList_bytes_from rfl _ _ _ rfl HY1.out rfl rfl k rfl rfl (by omega) (by kernel_rfl) (fun _ => by kernel_rfl) ?_; intro a' n' hn' hy'; have HY' := Lib.hid hy'; have HN' := Lib.hid hn'; clear hy' hn')
        | (refine wpList_bytes_text rfl _ _ 5 _ rfl (bytes_below HY2.out HB.out (Nat.le_refl _)) HL.out.symm rfl cv1 cv2 cv3 ?_))
      go_ret
      rw [HT.out]
      exact ⟨rfl, rd_set HR.out HY'.out HN'.out, ho.setCell _ _ (.inr rfl)⟩
  · have hb0 : ((e : Int) != 0) = true := by rw [bne_iff_ne]; omega
    have HT : Hid (rText r = ([], e, rb)) := Lib.hid (by simp [rText, hk, he])
    have HF : Hid (rdFail 15 (e, rb) = (e, rb)) := Lib.hid (by simp [rdFail, he])
    have HK1 := Lib.hid hk1; have HK2 := Lib.hid hk2; clear hk hk1 hk2
    have H0 := Lib.hid he; clear he
    go_enter Try.func18, Try.ntmps18
    go_wp2_with (first
      | (go_at_call 17; go_must (refine (rd_count W bw r _ 1048576 (by omega) HH.out).mono ?_; rintro e w1 ⟨rfl, hr, ho⟩; rw [HK1.out]; rw [HK2.out] at hr; have HR := Lib.hid hr; obtain ⟨a1, cap1, hc, hf, hl, hy1, hb, h11, h12, -⟩ := rd_open hr; have HY1 := Lib.hid hy1; clear hr hy1))
      | (go_at_call 27; go_must (refine (rd_fail W bw (e, rb) _ 15 HR.out).mono ?_; rintro e w2 ⟨rfl, hr, ho2⟩; rw [HF.out] at hr; have HR2 := Lib.hid hr; clear hr)))
    go_ret
    rw [HT.out]
    exact ⟨rfl, HR2.out, ho.trans (ho2.mono (fun _ _ h => h))⟩
end Go.Proofs.Ytcmpcbpdnaodmaa
