/- The reference's Same and Great: the walks. -/
import Derived.Test.YtcmpcbpdnaodmaaChecked
import Derived.Test.YtcmpcbpdnaodmaaCodeRep
import Derived.WalkLawsBesides
namespace Go.Proofs.Ytcmpcbpdnaodmaa
open Go.RowKit
set_option linter.unusedVariables false

def greatC (c : CCode) : Bool := decide (1500 < c.1.length) || decide (150 < c.2.1.length) || decide (200 < c.2.2.length) || c.2.2.any fun s => decide (300 < s.length)
set_option maxHeartbeats 1000000 in
set_option maxRecDepth 100000 in
theorem ref15_Great (v1 v2 v3 : Value) (c : CCode) (w : World) (hc : CodeAt w v1 v2 v3 c) :
    Calls Try.prog 6 #[.agg #[v1, v2, v3]] w fun e w' => e = .returned (.bool (greatC c)) ∧ Below w.heap.size w w' := by
  obtain ⟨li, lf, ls⟩ := c
  obtain ⟨a1, c1, rfl, n1, r1⟩ := ins_cells hc.ins
  obtain ⟨a2, c2, rfl, n2, r2⟩ := ent_cells hc.fns
  obtain ⟨a3, c3, rfl, n3, r3⟩ := str_cells hc.strs
  dsimp only at *
  clear r1 r2
  unfold maxLen at n1 n2 n3
  have H3 := Lib.hid r3; clear r3
  have HW := Lib.hid hc; clear hc
  by_cases hs : 1500 < li.length ∨ 150 < lf.length ∨ 200 < ls.length
  · have hm : Hid (greatC (li, lf, ls) = true) := Lib.hid (by unfold greatC; simp; rcases hs with h | h | h <;> simp [h])
    have hs1 : ((1500 : Int) < li.length) ∨ (¬ (1500 : Int) < li.length ∧ (150 : Int) < lf.length) ∨ (¬ (1500 : Int) < li.length ∧ ¬ (150 : Int) < lf.length ∧ (200 : Int) < ls.length) := by omega
    clear hs
    rcases hs1 with h | ⟨h, h'⟩ | ⟨h, h', h''⟩
    all_goals
      go_enter Try.func6, Try.ntmps6
      go_wp2_with fail
      go_ret
      exact ⟨(by first | rfl | ((rw [hm.out]) <;> rfl)), (by repeat' (first | exact Below.refl _ _ | assumption | (refine thenB ?_ (by assumption)) | (refine belowN ?_ _) | (refine Below.alloc ?_ (by first | simp; done | (simp; omega) | omega) _) | (refine below_setRow ?_ (by first | simp; done | (simp; omega) | omega) _) | (refine Below.setCell ?_ (by first | simp; done | (simp; omega) | omega) _)))⟩
  · have s1 : ¬ (1500 : Int) < li.length := by omega
    have s2 : ¬ (150 : Int) < lf.length := by omega
    have s3 : ¬ (200 : Int) < ls.length := by omega
    have hm : Hid (greatC (li, lf, ls) = ls.any fun s => decide (300 < s.length)) := Lib.hid (by unfold greatC; simp; omega)
    clear hs
    go_enter Try.func6, Try.ntmps6
    go_wp2_with fail
    go_loop [3, 23] (fun q i => ∃ k : Nat, k ≤ ls.length ∧ i = .int .i64 k ∧ (ls.take k).any (fun s => decide (300 < s.length)) = false) (fun _ i => ls.length - (intOf i).toNat)
    case atStart => exact ⟨0, by omega, rfl, by simp⟩
    case round =>
      obtain ⟨k, hk, rfl, hany⟩ := hrel
      have HA := Lib.hid hany; clear hany
      by_cases hlt : k < ls.length
      · obtain ⟨b, off, rfl, hblt, g0⟩ := H3.out k hlt
        have hn : Hid (ls.take (k + 1) = ls.take k ++ [ls[k]]) := Lib.hid (List.take_succ_eq_append_getElem hlt)
        have hmem := List.getElem_mem hlt
        have hw := HW.out.ws ls[k] hmem
        unfold maxLen at hw
        have hst : Hid (ls[k] ∈ ls) := Lib.hid hmem; clear hmem
        generalize ls[k] = s at *
        unfold strV at g0
        have hk2 : (k : Int) < ls.length := by omega
        by_cases hlong : (300 : Int) < s.length
        · go_wp2_with fail
          go_ret
          refine ⟨?_, (by repeat' (first | exact Below.refl _ _ | assumption | (refine thenB ?_ (by assumption)) | (refine belowN ?_ _) | (refine Below.alloc ?_ (by first | simp; done | (simp; omega) | omega) _) | (refine below_setRow ?_ (by first | simp; done | (simp; omega) | omega) _) | (refine Below.setCell ?_ (by first | simp; done | (simp; omega) | omega) _)))⟩
          rw [hm.out, List.any_eq_true.2 ⟨s, hst.out, by simp; omega⟩]; rfl
        · go_wp2_with fail
          go_round
          case rel => exact ⟨k + 1, by omega, by go_num, by rw [hn.out, List.any_append, HA.out]; simp; omega⟩
          case measure => simp [intOf]; omega
      · obtain rfl : k = ls.length := by omega
        have HA2 := HA.out
        rw [List.take_of_length_le (Nat.le_refl _)] at HA2
        have HA3 := Lib.hid HA2; clear HA2
        go_wp2_with fail
        go_ret
        exact ⟨by rw [hm.out, HA3.out]; rfl, (by repeat' (first | exact Below.refl _ _ | assumption | (refine thenB ?_ (by assumption)) | (refine belowN ?_ _) | (refine Below.alloc ?_ (by first | simp; done | (simp; omega) | omega) _) | (refine below_setRow ?_ (by first | simp; done | (simp; omega) | omega) _) | (refine Below.setCell ?_ (by first | simp; done | (simp; omega) | omega) _)))⟩
end Go.Proofs.Ytcmpcbpdnaodmaa
