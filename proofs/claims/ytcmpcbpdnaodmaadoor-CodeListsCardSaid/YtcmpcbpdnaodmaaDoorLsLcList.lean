/- Parts of the proof. -/
import Derived.Test.YtcmpcbpdnaodmaaDoorLsLcZero
namespace Go.Proofs.YtcmpcbpdnaodmaaDoor
open Go.RowKit Go.Great
set_option linter.unusedVariables false
set_option maxHeartbeats 4000000
set_option maxRecDepth 100000
def listingB (c : GApiCode) (fn : Int) : List UInt8 := if 0 ≤ fn ∧ mayB c = true then (match c.Fns[fn.toNat]? with
    | some f => listL 0 ((c.Ins.drop f.At.toNat).take f.Len.toNat)
    | none => []) else []
theorem listing_bad (w : World) (c : GApiCode) (v1 v2 v3 : Value) (fn : Int) (hv : CodeV w (fun _ => False) c v1 v2 v3) (h : fn < 0 ∨ c.Fns.length ≤ fn ∨ mayB c = false) :
    Calls Tryd.prog 6 #[.agg #[v1, v2, v3], .int .i64 fn] w fun e w' => e = .returned (.string (mkS [])) ∧ Below w.heap.size w w' := by
  obtain ⟨a2, k2, rfl, n2, m2, r2⟩ := rowC_of hv.r2 cellE (fun x j hj => by
    match j, hj with
    | 0, _ => rfl
    | 1, _ => rfl
    | 2, _ => rfl
    | 3, _ => rfl
    | 4, _ => rfl)
  clear r2
  have HV := Lib.hid hv; clear hv
  by_cases h1 : fn < 0
  · clear h
    go_enter Tryd.func6, Tryd.ntmps6
    go_wp2
    go_ret
    exact ⟨rfl, (Below.refl _ _).alloc (Nat.le_refl _) _⟩
  · have h1' : (0 : Int) ≤ fn := by omega
    by_cases h2 : (c.Fns.length : Int) ≤ fn
    · clear h
      go_enter Tryd.func6, Tryd.ntmps6
      go_wp2
      go_ret
      exact ⟨rfl, (Below.refl _ _).alloc (Nat.le_refl _) _⟩
    · have hm : mayB c = false := by
        rcases h with h | h | h
        · exact absurd h h1
        · exact absurd h h2
        · exact h
      have h2' : fn < (c.Fns.length : Int) := by omega
      clear h
      have HM := Lib.hid hm; clear hm
      go_enter Tryd.func6, Tryd.ntmps6
      go_wp2_with (go_at_call 12; go_must (refine (may_call (HV.out.to ((Below.refl _ _).alloc (Nat.le_refl _) _))).mono ?_; rintro e w1 ⟨rfl, hb1⟩; rw [HM.out]; (have hw1 : Below w.heap.size w w1 := ((Below.refl _ w).alloc (Nat.le_refl _) _).trans (hb1.mono (by simp))); have HB := Lib.hid hw1; clear hb1 hw1))
      go_ret
      exact ⟨rfl, HB.out⟩
theorem listing_at (w : World) (c : GApiCode) (v1 v2 v3 : Value) (fn : Int) (hv : CodeV w (fun _ => False) c v1 v2 v3) (hA : ∀ x ∈ c.Ins, -9223372036854775808 ≤ x.A ∧ x.A ≤ 9223372036854775807) (ht : Lib.TabIs Tryd.prog w "internal/strconv.uint64pow10" .u64 Lib.pow10Tab) :
    Calls Tryd.prog 6 #[.agg #[v1, v2, v3], .int .i64 fn] w fun e w' => e = .returned (.string (mkS (listingB c fn))) ∧ Below w.heap.size w w' := by
  unfold listingB
  by_cases h1 : 0 ≤ fn ∧ mayB c = true
  · rw [if_pos h1]
    obtain ⟨h0, hm⟩ := h1
    obtain ⟨n, rfl⟩ : ∃ n : Nat, fn = (n : Int) := ⟨fn.toNat, by omega⟩
    rw [Int.toNat_natCast]
    cases hf : c.Fns[n]? with
    | none =>
      have := List.getElem?_eq_none_iff.1 hf
      exact listing_bad w c v1 v2 v3 n hv (.inr (.inl (by omega)))
    | some f =>
      by_cases hl : f.Len = 0
      · have e : listL 0 ((c.Ins.drop f.At.toNat).take f.Len.toNat) = [] := by rw [hl]; rfl
        simp only [e]
        exact listing_zero w c v1 v2 v3 n f hv hf hm hl
      · have hk := mayK hm
        obtain ⟨p0, p1, p2⟩ := hk.at_ hf
        have hi := hk.ins
        exact listing_walk w c v1 v2 v3 n f hv hf hm (fun e => by rw [e] at p2; simp at p2; omega) hl (fun i hi => ⟨⟨by omega, by omega⟩, ht⟩) (fun x hx _ => ⟨hA x hx, ht⟩)
  · rw [if_neg h1]
    refine listing_bad w c v1 v2 v3 fn hv ?_
    by_cases h0 : fn < 0
    · exact .inl h0
    · refine .inr (.inr ?_)
      cases hm : mayB c with
      | false => rfl
      | true => exact absurd ⟨by omega, hm⟩ h1
end Go.Proofs.YtcmpcbpdnaodmaaDoor
