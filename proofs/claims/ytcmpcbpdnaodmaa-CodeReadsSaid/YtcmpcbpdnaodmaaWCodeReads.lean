/- The walk of CodeReads. -/
import Derived.Test.YtcmpcbpdnaodmaaLawCode
namespace Go.Proofs.Ytcmpcbpdnaodmaa
open Go.RowKit Go.Lib Go.WideShapes
set_option linter.unusedVariables false

set_option maxHeartbeats 2000000 in
set_option maxRecDepth 100000 in
theorem codeReads_any (a : Option Addr) (cap : Nat) (b : List UInt8) (w : World) (hb : BytesAt w a cap b) :
    Calls Try.prog 4 #[.slice a b.length cap] w fun e w' => e = .returned (.bool true) ∧ Below w.heap.size w w' := by
  have HB := Lib.hid hb; clear hb
  by_cases hlen : (3000 : Int) < b.length
  · go_enter Try.func4, Try.ntmps4
    go_wp2_with (go_at_call 7; refine (awake15 _).mono ?_; rintro e w1 ⟨rfl, hb1⟩)
    go_ret
    exact ⟨rfl, hb1⟩
  · obtain ⟨c, e0, hdc⟩ : ∃ c e0, decC b = (c, e0) := ⟨_, _, rfl⟩
    have HDC := Lib.hid hdc; clear hdc
    have hee : ((e0 : Int) != e0) = false := by simp
    go_enter Try.func4, Try.ntmps4
    go_wp2_with fail
    refine (code_Decode a cap b _ HB.out).mono ?_
    rintro e w1 ⟨hb1, v1, v2, v3, rfl, hc1⟩
    rw [HDC.out] at hc1 ⊢
    dsimp only at hc1 ⊢
    obtain ⟨a1, n1, k1, a2, n2, k2, a3, n3, k3, rfl, rfl, rfl⟩ := code_vals hc1
    have HB1 := Lib.hid hb1; have HC1 := Lib.hid hc1; clear hb1 hc1
    go_wp2_with fail
    refine (ref_Decode a cap b _ (bytes_below HB.out (HB1.out.alloc HB1.out.size _) (Nat.le_refl _))).mono ?_
    rintro e w2 ⟨hb2, u1, u2, u3, rfl, hc2⟩
    rw [HDC.out] at hc2 ⊢
    dsimp only at hc2 ⊢
    obtain ⟨a4, n4, k4, a5, n5, k5, a6, n6, k6, rfl, rfl, rfl⟩ := code_vals hc2
    have hx : Has w2 w1.heap.size #[.slice a1 n1 k1, .slice a2 n2 k2, .slice a3 n3 k3] 26 := has_belowT (has_new _ _ _ _ rfl) hb2
    have hxc := has_cell hx
    have hxl := has_lt hx
    have h12 : Below w1.heap.size w1 w2 := thenB (w := w1) (by exact (by repeat' (first | exact Below.refl _ _ | assumption | (refine thenB ?_ (by assumption)) | (refine belowN ?_ _) | (refine Below.alloc ?_ (by first | simp; done | (simp; omega) | omega) _) | (refine below_setRow ?_ (by first | simp; done | (simp; omega) | omega) _) | (refine Below.setCell ?_ (by first | simp; done | (simp; omega) | omega) _)))) hb2
    have HB2 := Lib.hid h12; have HC2 := Lib.hid hc2; have HX := Lib.hid hx; clear hb2 hc2 hx h12
    go_wp2_with fail
    refine (ref15_Same _ _ _ _ _ _ c c _ (HC1.out.below (HB2.out.alloc HB2.out.size _) (Nat.le_refl _)) (HC2.out.below ((Below.refl _ _).alloc (Nat.le_refl _) _) (Nat.le_refl _))).mono ?_
    rintro e w3 ⟨⟨bl, rfl, hiff⟩, hb3⟩
    obtain rfl : bl = true := hiff.2 rfl
    clear hiff
    have h3 : Below w2.heap.size w2 w3 := thenB (w := w2) (by exact (by repeat' (first | exact Below.refl _ _ | assumption | (refine thenB ?_ (by assumption)) | (refine belowN ?_ _) | (refine Below.alloc ?_ (by first | simp; done | (simp; omega) | omega) _) | (refine below_setRow ?_ (by first | simp; done | (simp; omega) | omega) _) | (refine Below.setCell ?_ (by first | simp; done | (simp; omega) | omega) _)))) hb3
    have HB3 := Lib.hid h3; clear h3 hb3
    have hx3 : Has w3 w1.heap.size #[.slice a1 n1 k1, .slice a2 n2 k2, .slice a3 n3 k3] 26 := has_belowT HX.out HB3.out
    clear hxc hxl
    have hxc := has_cell hx3
    have hxl := has_lt hx3
    have HOUT : Hid (Below w.heap.size w w3) := Lib.hid (thenB HB1.out (thenB HB2.out HB3.out))
    have HX3 := Lib.hid hx3; clear hx3
    by_cases he : e0 = 0
    · subst he
      have hz : (((0 : Nat) : Int) != 0) = false := by decide
      obtain ⟨hbe, hw, hm⟩ := decC_inv HDC.out
      have HBE := Lib.hid hbe; clear hbe
      have HM := Lib.hid hm; clear hm
      go_wp2_with fail
      refine (enc_yes _ _ _ c _ (HC1.out.below (thenB HB2.out HB3.out) (Nat.le_refl _)) HM.out).mono ?_
      rintro e w4 ⟨hb4, a4, c4, rfl, hy4⟩
      rw [← HBE.out] at hy4 ⊢
      have hcv1 := text_eq hy4
      have hcv2 := text_eq (bytes_below HB.out (HOUT.out.trans (hb4.mono HOUT.out.size)) (Nat.le_refl _))
      have HB4 := Lib.hid hb4; clear hb4 hy4
      go_wp2_with (go_at_call 7; refine (awake15 _).mono ?_; rintro e w5 ⟨rfl, hb5⟩)
      go_ret
      exact ⟨rfl, thenB (thenB HOUT.out HB4.out) hb5⟩
    · have hz : ((e0 : Int) != 0) = true := by rw [bne_iff_ne]; omega
      have HE := Lib.hid he; clear he
      go_wp2_with (go_at_call 7; refine (awake15 _).mono ?_; rintro e w5 ⟨rfl, hb5⟩)
      go_ret
      exact ⟨rfl, thenB HOUT.out hb5⟩
theorem codeReads_walk {H : Type} {enc : TypeId × Value → H} (v : Value) (d : DataW H) (p : List MemPlace) {r : Reach} {b0 : Nat} {W : World} (ok : Value.okWide Try.prog W r b0 29 v) (h : DataW.Trod enc Try.prog W 0 (fun _ => true) true 29 v d p) (W2 : World) :
    Calls Try.prog 4 #[v] W fun e w' => e = .returned (.bool true) ∧ Below W.heap.size W w' := by
  obtain ⟨a, cap, l, rfl, hb⟩ := bytes_open ok h
  exact codeReads_any a cap l W hb
end Go.Proofs.Ytcmpcbpdnaodmaa
