/- The walk of CodeCuts. -/
import Derived.Test.YtcmpcbpdnaodmaaLawCode
namespace Go.Proofs.Ytcmpcbpdnaodmaa
open Go.RowKit Go.Lib Go.WideShapes
set_option linter.unusedVariables false

theorem wide_of {w : World} {v1 v2 v3 : Value} {c : CCode} (h : CodeAt w v1 v2 v3 c) : wideC c := fun x hx => (h.wi x hx).2.1
set_option maxHeartbeats 2000000 in
set_option maxRecDepth 100000 in
theorem codeCuts_any (v1 v2 v3 : Value) (c : CCode) (w : World) (hc : CodeAt w v1 v2 v3 c) :
    Calls Try.prog 5 #[.agg #[v1, v2, v3]] w fun e w' => e = .returned (.bool true) ∧ Below w.heap.size w w' := by
  obtain ⟨a1, n1, k1, a2, n2, k2, a3, n3, k3, rfl, rfl, rfl⟩ := code_vals hc
  have HW := Lib.hid (wide_of hc)
  have HC := Lib.hid hc; clear hc
  by_cases hg : greatC c = true
  · have HG := Lib.hid hg; clear hg
    go_enter Try.func5, Try.ntmps5
    go_wp2_with (first
      | (go_at_call 6; refine (ref15_Great _ _ _ c _ (HC.out.below (by exact (by repeat' (first | exact Below.refl _ _ | assumption | (refine thenB ?_ (by assumption)) | (refine belowN ?_ _) | (refine Below.alloc ?_ (by first | simp; done | (simp; omega) | omega) _) | (refine below_setRow ?_ (by first | simp; done | (simp; omega) | omega) _) | (refine Below.setCell ?_ (by first | simp; done | (simp; omega) | omega) _)))) (Nat.le_refl _))).mono ?_; rintro e w1 ⟨rfl, hb1⟩; rw [HG.out])
      | (go_at_call 7; refine (awake15 _).mono ?_; rintro e w2 ⟨rfl, hb2⟩))
    go_ret
    exact ⟨rfl, thenB (thenB (w := w) (by exact (by repeat' (first | exact Below.refl _ _ | assumption | (refine thenB ?_ (by assumption)) | (refine belowN ?_ _) | (refine Below.alloc ?_ (by first | simp; done | (simp; omega) | omega) _) | (refine below_setRow ?_ (by first | simp; done | (simp; omega) | omega) _) | (refine Below.setCell ?_ (by first | simp; done | (simp; omega) | omega) _)))) hb1) hb2⟩
  · have hgf : greatC c = false := by simpa using hg
    have HG := Lib.hid hgf; clear hg hgf
    by_cases hm : mayC c = true
    · have HM := Lib.hid hm; clear hm
      go_enter Try.func5, Try.ntmps5
      go_wp2_with (first
        | (go_at_call 6; refine (ref15_Great _ _ _ c _ (HC.out.below (by exact (by repeat' (first | exact Below.refl _ _ | assumption | (refine thenB ?_ (by assumption)) | (refine belowN ?_ _) | (refine Below.alloc ?_ (by first | simp; done | (simp; omega) | omega) _) | (refine below_setRow ?_ (by first | simp; done | (simp; omega) | omega) _) | (refine Below.setCell ?_ (by first | simp; done | (simp; omega) | omega) _)))) (Nat.le_refl _))).mono ?_; rintro e w1 ⟨rfl, hb1⟩; rw [HG.out]; (have hx : Has w1 w.heap.size #[.slice a1 n1 k1, .slice a2 n2 k2, .slice a3 n3 k3] 26 := has_belowT (by exact (by repeat' (first | assumption | (refine has_drewN ?_ _) | (refine has_drew ?_) | (refine has_new _ _ _ _ ?_ <;> (first | rfl | (simp; done))) | (refine has_alloc ?_ _) | (refine has_setCell ?_ _ _ (by first | assumption | (simp; omega) | omega)) | (refine has_setRow ?_ _ _ (by first | assumption | (simp; omega) | omega)) | (refine has_belowT ?_ (by assumption))))) hb1); have hxc := has_cell hx; have hxl := has_lt hx; have HB1 := Lib.hid (thenB (w := w) (by exact (by repeat' (first | exact Below.refl _ _ | assumption | (refine thenB ?_ (by assumption)) | (refine belowN ?_ _) | (refine Below.alloc ?_ (by first | simp; done | (simp; omega) | omega) _) | (refine below_setRow ?_ (by first | simp; done | (simp; omega) | omega) _) | (refine Below.setCell ?_ (by first | simp; done | (simp; omega) | omega) _)))) hb1); clear hb1 hx)
        | (go_at_call 8; refine (enc_yes _ _ _ c _ (HC.out.below HB1.out (Nat.le_refl _)) HM.out).mono ?_; rintro e w2 ⟨hb2, a, cap, rfl, hy⟩; have HB2 := Lib.hid (thenB HB1.out hb2); have HY := Lib.hid hy; clear hb2 hy hxc hxl; (obtain ⟨b, hbE⟩ : ∃ b, b = encC c := ⟨_, rfl⟩); rw [← hbE] at HY ⊢; have HBE := Lib.hid hbE; clear hbE; (by_cases hlen : (300 : Int) < b.length)))
      · go_wp2_with (go_at_call 7; refine (awake15 _).mono ?_; rintro e w3 ⟨rfl, hb3⟩)
        go_ret
        exact ⟨rfl, thenB HB2.out hb3⟩
      · go_wp2_with fail
        go_loopw [5] (fun i wr => ∃ k : Nat, k ≤ b.length ∧ i = .int .i64 k ∧ Below w2.heap.size w2 wr) (fun i _ => b.length - (intOf i).toNat)
        case atStart => exact ⟨0, by omega, rfl, Below.refl _ _⟩
        case round =>
          obtain ⟨k, hk, rfl, hbw⟩ := hrel
          have HBW := Lib.hid hbw; clear hbw
          by_cases hlt : k < b.length
          · have hlt2 : (k : Int) < b.length := by omega
            have hcut : (decC (b.take k)).2 ≠ 0 := by have := decC_cut HM.out HW.out k (by rw [← HBE.out]; exact hlt); rwa [← HBE.out] at this
            obtain ⟨c2, e2, hd⟩ : ∃ c2 e2, decC (b.take k) = (c2, e2) := ⟨_, _, rfl⟩
            rw [hd] at hcut
            have hne : (((e2 : Nat) : Int) == 0) = false := by simp at hcut ⊢; omega
            have HD := Lib.hid hd; clear hd hcut
            have HL : Hid ((b.take k).length = k) := Lib.hid (by rw [List.length_take]; omega)
            go_wp2_with (first
              | (refine wpList_bytes_to rfl _ _ _ rfl HY.out rfl rfl k rfl rfl (by omega) (by kernel_rfl) (fun _ => by kernel_rfl) ?_; intro hy'; have HY2 := Lib.hid hy'; clear hy')
              | (go_at_call 11; go_must (have hdec := code_Decode a cap (b.take k) wr (bytes_below HY2.out HBW.out (Nat.le_refl _)); rw [HL.out, HD.out] at hdec; refine hdec.mono ?_; clear hdec; rintro e w3 ⟨hb3, u1, u2, u3, rfl, hc3⟩; (obtain ⟨a4, n4, k4, a5, n5, k5, a6, n6, k6, rfl, rfl, rfl⟩ := code_vals hc3); clear hc3; dsimp only; have HB3 := Lib.hid hb3; clear hb3)))
            go_roundw
            case rel => exact ⟨k + 1, by omega, by go_num, (thenB HBW.out HB3.out).alloc (by have := HBW.out.size; have := HB3.out.size; omega) _⟩
            case measure => simp [intOf]; omega
          · obtain rfl : k = b.length := by omega
            go_wp2_with (go_at_call 7; refine (awake15 _).mono ?_; rintro e w3 ⟨rfl, hb3⟩)
            go_ret
            exact ⟨rfl, thenB (thenB HB2.out HBW.out) hb3⟩
    · have hmf : mayC c = false := by simpa using hm
      have HM := Lib.hid hmf; clear hm hmf
      go_enter Try.func5, Try.ntmps5
      go_wp2_with (first
        | (go_at_call 6; refine (ref15_Great _ _ _ c _ (HC.out.below (by exact (by repeat' (first | exact Below.refl _ _ | assumption | (refine thenB ?_ (by assumption)) | (refine belowN ?_ _) | (refine Below.alloc ?_ (by first | simp; done | (simp; omega) | omega) _) | (refine below_setRow ?_ (by first | simp; done | (simp; omega) | omega) _) | (refine Below.setCell ?_ (by first | simp; done | (simp; omega) | omega) _)))) (Nat.le_refl _))).mono ?_; rintro e w1 ⟨rfl, hb1⟩; rw [HG.out]; (have hx : Has w1 w.heap.size #[.slice a1 n1 k1, .slice a2 n2 k2, .slice a3 n3 k3] 26 := has_belowT (by exact (by repeat' (first | assumption | (refine has_drewN ?_ _) | (refine has_drew ?_) | (refine has_new _ _ _ _ ?_ <;> (first | rfl | (simp; done))) | (refine has_alloc ?_ _) | (refine has_setCell ?_ _ _ (by first | assumption | (simp; omega) | omega)) | (refine has_setRow ?_ _ _ (by first | assumption | (simp; omega) | omega)) | (refine has_belowT ?_ (by assumption))))) hb1); have hxc := has_cell hx; have hxl := has_lt hx; have HB1 := Lib.hid (thenB (w := w) (by exact (by repeat' (first | exact Below.refl _ _ | assumption | (refine thenB ?_ (by assumption)) | (refine belowN ?_ _) | (refine Below.alloc ?_ (by first | simp; done | (simp; omega) | omega) _) | (refine below_setRow ?_ (by first | simp; done | (simp; omega) | omega) _) | (refine Below.setCell ?_ (by first | simp; done | (simp; omega) | omega) _)))) hb1); clear hb1 hx)
        | (go_at_call 8; refine (enc_no _ _ _ c _ (HC.out.below HB1.out (Nat.le_refl _)) HM.out).mono ?_; rintro e w2 ⟨hb2, rfl⟩; have HB2 := Lib.hid (thenB HB1.out hb2); clear hb2 hxc hxl)
        | (go_at_call 7; refine (awake15 _).mono ?_; rintro e w3 ⟨rfl, hb3⟩))
      go_ret
      exact ⟨rfl, thenB HB2.out hb3⟩
theorem codeCuts_walk {H : Type} {enc : TypeId × Value → H} (v : Value) (d : DataW H) (p : List MemPlace) {r : Reach} {b0 : Nat} {W : World} (ok : Value.okWide Try.prog W r b0 26 v) (h : DataW.Trod enc Try.prog W 0 (fun _ => true) true 26 v d p) (W2 : World) :
    Calls Try.prog 5 #[v] W fun e w' => e = .returned (.bool true) ∧ Below W.heap.size W w' := by
  obtain ⟨v1, v2, v3, c, rfl, hc⟩ := code_open ok h
  exact codeCuts_any v1 v2 v3 c W hc
end Go.Proofs.Ytcmpcbpdnaodmaa
