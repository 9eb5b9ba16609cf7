/- The reference's Same: the walk. -/
import Derived.Test.YtcmpcbpdnaodmaaLawSame
namespace Go.Proofs.Ytcmpcbpdnaodmaa
open Go.RowKit
set_option linter.unusedVariables false

def SameIs (c d : CCode) (e : Ending) : Prop := ∃ b : Bool, e = .returned (.bool b) ∧ (b = true ↔ c = d)
theorem takes_ne {α : Type} {l m : List α} {k : Nat} (hl : k < l.length) (hm : k < m.length) (h : l[k] ≠ m[k]) : l ≠ m := fun e => by subst e; exact h rfl
theorem takes_eq {α : Type} {l m : List α} (hn : l.length = m.length) {k : Nat} (hl : k < l.length) (hm : k < m.length) (h : l.take k = m.take k) (he : l[k] = m[k]) : l.take (k + 1) = m.take (k + 1) := by
  rw [List.take_succ_eq_append_getElem hl, List.take_succ_eq_append_getElem hm, h, he]
set_option maxHeartbeats 4000000 in
set_option maxRecDepth 100000 in
theorem ref15_Same (u1 u2 u3 v1 v2 v3 : Value) (c d : CCode) (w : World) (hc : CodeAt w u1 u2 u3 c) (hd : CodeAt w v1 v2 v3 d) :
    Calls Try.prog 13 #[.agg #[u1, u2, u3], .agg #[v1, v2, v3]] w fun e w' => SameIs c d e ∧ Below w.heap.size w w' := by
  obtain ⟨li, lf, ls⟩ := c
  obtain ⟨mi, mf, ms⟩ := d
  obtain ⟨a1, c1, rfl, n1, r1⟩ := ins_cells hc.ins
  obtain ⟨a2, c2, rfl, n2, r2⟩ := ent_cells hc.fns
  obtain ⟨a3, c3, rfl, n3, r3⟩ := str_cells hc.strs
  obtain ⟨b1, d1, rfl, p1, q1⟩ := ins_cells hd.ins
  obtain ⟨b2, d2, rfl, p2, q2⟩ := ent_cells hd.fns
  obtain ⟨b3, d3, rfl, p3, q3⟩ := str_cells hd.strs
  dsimp only at *
  unfold maxLen at n1 n2 n3 p1 p2 p3
  have H1 := Lib.hid r1; clear r1
  have H2 := Lib.hid r2; clear r2
  have H3 := Lib.hid r3; clear r3
  have G1 := Lib.hid q1; clear q1
  have G2 := Lib.hid q2; clear q2
  have G3 := Lib.hid q3; clear q3
  have HC := Lib.hid hc; clear hc
  have HD := Lib.hid hd; clear hd
  by_cases hlen : li.length = mi.length ∧ lf.length = mf.length ∧ ls.length = ms.length
  · obtain ⟨l1, l2, l3⟩ := hlen
    have e1 : ((li.length : Int) != mi.length) = false := by rw [bne_eq_false_iff_eq]; omega
    have e2 : ((lf.length : Int) != mf.length) = false := by rw [bne_eq_false_iff_eq]; omega
    have e3 : ((ls.length : Int) != ms.length) = false := by rw [bne_eq_false_iff_eq]; omega
    have L1 := Lib.hid l1; clear l1
    have L2 := Lib.hid l2; clear l2
    have L3 := Lib.hid l3; clear l3
    go_enter Try.func13, Try.ntmps13
    go_wp2_with fail
    go_loopw [5, 36] (fun q i wr => ∃ k : Nat, k ≤ li.length ∧ i = .int .i64 k ∧ li.take k = mi.take k ∧ Below w.heap.size w wr ∧ Has wr w.heap.size #[.slice a1 li.length c1, .slice a2 lf.length c2, .slice a3 ls.length c3] 26 ∧ Has wr (w.heap.size + 1) #[.slice b1 mi.length d1, .slice b2 mf.length d2, .slice b3 ms.length d3] 26) (fun _ i _ => li.length - (intOf i).toNat)
    case atStart => exact ⟨0, by omega, rfl, by simp, (by repeat' (first | exact Below.refl _ _ | assumption | (refine thenB ?_ (by assumption)) | (refine belowN ?_ _) | (refine Below.alloc ?_ (by first | simp; done | (simp; omega) | omega) _) | (refine below_setRow ?_ (by first | simp; done | (simp; omega) | omega) _) | (refine Below.setCell ?_ (by first | simp; done | (simp; omega) | omega) _))), by exact (by repeat' (first | assumption | (refine has_drewN ?_ _) | (refine has_drew ?_) | (refine has_new _ _ _ _ ?_ <;> (first | rfl | (simp; done))) | (refine has_alloc ?_ _) | (refine has_setCell ?_ _ _ (by first | assumption | (simp; omega) | omega)) | (refine has_setRow ?_ _ _ (by first | assumption | (simp; omega) | omega)) | (refine has_belowT ?_ (by assumption)))), by exact (by repeat' (first | assumption | (refine has_drewN ?_ _) | (refine has_drew ?_) | (refine has_new _ _ _ _ ?_ <;> (first | rfl | (simp; done))) | (refine has_alloc ?_ _) | (refine has_setCell ?_ _ _ (by first | assumption | (simp; omega) | omega)) | (refine has_setRow ?_ _ _ (by first | assumption | (simp; omega) | omega)) | (refine has_belowT ?_ (by assumption))))⟩
    case round =>
      obtain ⟨k, hk, rfl, htk, hb, hx, hy⟩ := hrel
      have HT := Lib.hid htk; clear htk
      have hcx := has_cell hx
      have hlx := has_lt hx
      have hcy := has_cell hy
      have hly := has_lt hy
      have HX := Lib.hid hx; clear hx
      have HY := Lib.hid hy; clear hy
      by_cases hlt : k < li.length
      · have hltm : k < mi.length := by have := L1.out; omega
        obtain ⟨b, off, rfl, hblt, g0, g1, g2⟩ := H1.out k hlt
        obtain ⟨b', off', rfl, hblt', g0', g1', g2'⟩ := G1.out k hltm
        have hne := Lib.hid (takes_ne hlt hltm)
        have heq := Lib.hid (takes_eq L1.out hlt hltm HT.out)
        obtain ⟨xo, xa, xl, hf⟩ : ∃ xo xa xl, li[k] = (xo, xa, xl) := ⟨_, _, _, rfl⟩
        obtain ⟨yo, ya, yl, hf'⟩ : ∃ yo ya yl, mi[k] = (yo, ya, yl) := ⟨_, _, _, rfl⟩
        rw [hf] at g0 g1 g2 hne heq
        rw [hf'] at g0' g1' g2' hne heq
        clear hf hf'
        rw [← hb.cell (p := ⟨b, _, none⟩) hblt] at g0 g1 g2
        rw [← hb.cell (p := ⟨b', _, none⟩) hblt'] at g0' g1' g2'
        have hbl : b < wr.heap.size := Nat.lt_of_lt_of_le hblt hb.size
        have hbl' : b' < wr.heap.size := Nat.lt_of_lt_of_le hblt' hb.size
        dsimp only at *
        have hk2 : (k : Int) < li.length := by omega
        have hk3 : (k : Int) < mi.length := by omega
        have HNE := Lib.hid (fun h => hne.out h)
        by_cases q0 : xo = yo
        · subst q0
          by_cases q1 : xa = ya
          · subst q1
            by_cases q2 : xl = yl
            · subst q2
              have HEQ := Lib.hid (heq.out rfl)
              go_wp2_with fail
              go_region
              all_goals
                go_wp2_with fail
                go_roundw
                case rel => exact ⟨k + 1, by omega, by go_num, HEQ.out, hb.drew, HX.out, HY.out⟩
                case measure => (simp [intOf]; try omega)
            · have HQ : Hid (li ≠ mi) := Lib.hid (hne.out (by simp [q2]))
              go_wp2_with fail
              go_region
              all_goals
                go_wp2_with fail
                go_ret
                exact ⟨⟨false, rfl, by simp [HQ.out]⟩, hb.drew⟩
          · have HQ : Hid (li ≠ mi) := Lib.hid (hne.out (by simp [q1]))
            go_wp2_with fail
            go_region
            all_goals
              go_wp2_with fail
              go_ret
              exact ⟨⟨false, rfl, by simp [HQ.out]⟩, hb.drew⟩
        · have HQ : Hid (li ≠ mi) := Lib.hid (hne.out (by simp [q0]))
          have q0' : ¬ (xo : Int) = yo := by omega
          go_wp2_with fail
          go_region
          all_goals
            go_wp2_with fail
            go_ret
            exact ⟨⟨false, rfl, by simp [HQ.out]⟩, hb.drew⟩
      · obtain rfl : k = li.length := by omega
        have hAll : Hid (li = mi) := Lib.hid (by
          have h := HT.out
          rw [List.take_of_length_le (Nat.le_refl _), List.take_of_length_le (by rw [L1.out]; exact Nat.le_refl _)] at h
          exact h)
        clear HT
        go_wp2_with fail
        go_loopw [6, 54] (fun q i wr => ∃ k : Nat, k ≤ lf.length ∧ i = .int .i64 k ∧ lf.take k = mf.take k ∧ Below w.heap.size w wr ∧ Has wr w.heap.size #[.slice a1 li.length c1, .slice a2 lf.length c2, .slice a3 ls.length c3] 26 ∧ Has wr (w.heap.size + 1) #[.slice b1 mi.length d1, .slice b2 mf.length d2, .slice b3 ms.length d3] 26) (fun _ i _ => lf.length - (intOf i).toNat)
        case atStart => exact ⟨0, by omega, rfl, by simp, hb, HX.out, HY.out⟩
        case round =>
          clear hb HX HY hcx hlx hcy hly
          obtain ⟨k, hk, rfl, htk, hb, hx, hy⟩ := hrel
          have HT := Lib.hid htk; clear htk
          have hcx := has_cell hx
          have hlx := has_lt hx
          have hcy := has_cell hy
          have hly := has_lt hy
          have HX := Lib.hid hx; clear hx
          have HY := Lib.hid hy; clear hy
          by_cases hlt : k < lf.length
          · have hltm : k < mf.length := by have := L2.out; omega
            obtain ⟨b, off, rfl, hblt, g0, g1, g2, g3, g4⟩ := H2.out k hlt
            obtain ⟨b', off', rfl, hblt', g0', g1', g2', g3', g4'⟩ := G2.out k hltm
            have hne := Lib.hid (takes_ne hlt hltm)
            have heq := Lib.hid (takes_eq L2.out hlt hltm HT.out)
            obtain ⟨x0, x1, x2, x3, x4, hf⟩ : ∃ x0 x1 x2 x3 x4, lf[k] = (x0, x1, x2, x3, x4) := ⟨_, _, _, _, _, rfl⟩
            obtain ⟨y0, y1, y2, y3, y4, hf'⟩ : ∃ x0 x1 x2 x3 x4, mf[k] = (x0, x1, x2, x3, x4) := ⟨_, _, _, _, _, rfl⟩
            rw [hf] at g0 g1 g2 g3 g4 hne heq
            rw [hf'] at g0' g1' g2' g3' g4' hne heq
            clear hf hf'
            rw [← hb.cell (p := ⟨b, _, none⟩) hblt] at g0 g1 g2 g3 g4
            rw [← hb.cell (p := ⟨b', _, none⟩) hblt'] at g0' g1' g2' g3' g4'
            have hbl : b < wr.heap.size := Nat.lt_of_lt_of_le hblt hb.size
            have hbl' : b' < wr.heap.size := Nat.lt_of_lt_of_le hblt' hb.size
            dsimp only at *
            have hk2 : (k : Int) < lf.length := by omega
            have hk3 : (k : Int) < mf.length := by omega
            by_cases q0 : x0 = y0
            · subst q0
              by_cases q1 : x1 = y1
              · subst q1
                by_cases q2 : x2 = y2
                · subst q2
                  by_cases q3 : x3 = y3
                  · subst q3
                    by_cases q4 : x4 = y4
                    · subst q4
                      have HEQ := Lib.hid (heq.out rfl)
                      go_wp2_with fail
                      go_region
                      all_goals
                        go_wp2_with fail
                        go_roundw
                        case rel => exact ⟨k + 1, by omega, by go_num, HEQ.out, hb.drew, HX.out, HY.out⟩
                        case measure => (simp [intOf]; try omega)
                    · have HQ : Hid (lf ≠ mf) := Lib.hid (hne.out (by simp [q4]))
                      go_wp2_with fail
                      go_region
                      all_goals
                        go_wp2_with fail
                        go_ret
                        exact ⟨⟨false, rfl, by simp [HQ.out]⟩, hb.drew⟩
                  · have HQ : Hid (lf ≠ mf) := Lib.hid (hne.out (by simp [q3]))
                    go_wp2_with fail
                    go_region
                    all_goals
                      go_wp2_with fail
                      go_ret
                      exact ⟨⟨false, rfl, by simp [HQ.out]⟩, hb.drew⟩
                · have HQ : Hid (lf ≠ mf) := Lib.hid (hne.out (by simp [q2]))
                  go_wp2_with fail
                  go_region
                  all_goals
                    go_wp2_with fail
                    go_ret
                    exact ⟨⟨false, rfl, by simp [HQ.out]⟩, hb.drew⟩
              · have HQ : Hid (lf ≠ mf) := Lib.hid (hne.out (by simp [q1]))
                go_wp2_with fail
                go_region
                all_goals
                  go_wp2_with fail
                  go_ret
                  exact ⟨⟨false, rfl, by simp [HQ.out]⟩, hb.drew⟩
            · have HQ : Hid (lf ≠ mf) := Lib.hid (hne.out (by simp [q0]))
              go_wp2_with fail
              go_region
              all_goals
                go_wp2_with fail
                go_ret
                exact ⟨⟨false, rfl, by simp [HQ.out]⟩, hb.drew⟩
          · obtain rfl : k = lf.length := by omega
            have hAll2 : Hid (lf = mf) := Lib.hid (by
              have h := HT.out
              rw [List.take_of_length_le (Nat.le_refl _), List.take_of_length_le (by rw [L2.out]; exact Nat.le_refl _)] at h
              exact h)
            clear HT
            go_wp2_with fail
            go_loopw [7, 72] (fun q i wr => ∃ k : Nat, k ≤ ls.length ∧ i = .int .i64 k ∧ ls.take k = ms.take k ∧ Below w.heap.size w wr ∧ Has wr w.heap.size #[.slice a1 li.length c1, .slice a2 lf.length c2, .slice a3 ls.length c3] 26 ∧ Has wr (w.heap.size + 1) #[.slice b1 mi.length d1, .slice b2 mf.length d2, .slice b3 ms.length d3] 26) (fun _ i _ => ls.length - (intOf i).toNat)
            case atStart => exact ⟨0, by omega, rfl, by simp, hb, HX.out, HY.out⟩
            case round =>
              clear hb HX HY hcx hlx hcy hly
              obtain ⟨k, hk, rfl, htk, hb, hx, hy⟩ := hrel
              have HT := Lib.hid htk; clear htk
              have hcx := has_cell hx
              have hlx := has_lt hx
              have hcy := has_cell hy
              have hly := has_lt hy
              have HX := Lib.hid hx; clear hx
              have HY := Lib.hid hy; clear hy
              by_cases hlt : k < ls.length
              · have hltm : k < ms.length := by have := L3.out; omega
                obtain ⟨b, off, rfl, hblt, g0⟩ := H3.out k hlt
                obtain ⟨b', off', rfl, hblt', g0'⟩ := G3.out k hltm
                have hne := Lib.hid (takes_ne hlt hltm)
                have heq := Lib.hid (takes_eq L3.out hlt hltm HT.out)
                generalize ls[k] = x at *
                generalize ms[k] = y at *
                unfold strV at g0 g0'
                rw [← hb.cell (p := ⟨b, _, none⟩) hblt] at g0
                rw [← hb.cell (p := ⟨b', _, none⟩) hblt'] at g0'
                have hbl : b < wr.heap.size := Nat.lt_of_lt_of_le hblt hb.size
                have hbl' : b' < wr.heap.size := Nat.lt_of_lt_of_le hblt' hb.size
                have hk2 : (k : Int) < ls.length := by omega
                have hk3 : (k : Int) < ms.length := by omega
                by_cases hxy : x = y
                · subst hxy
                  have HEQ := Lib.hid (heq.out rfl)
                  go_wp2_with fail
                  go_region
                  all_goals
                    go_wp2_with fail
                    go_roundw
                    case rel => exact ⟨k + 1, by omega, by go_num, HEQ.out, hb.drew, HX.out, HY.out⟩
                    case measure => (simp [intOf]; try omega)
                · have HQ : Hid (ls ≠ ms) := Lib.hid (hne.out hxy)
                  have hbn : (x == y) = false := beq_eq_false_iff_ne.2 hxy
                  go_wp2_with fail
                  go_region
                  all_goals
                    go_wp2_with fail
                    go_ret
                    exact ⟨⟨false, rfl, by simp [HQ.out]⟩, hb.drew⟩
              · obtain rfl : k = ls.length := by omega
                have hAll3 : Hid (ls = ms) := Lib.hid (by
                  have h := HT.out
                  rw [List.take_of_length_le (Nat.le_refl _), List.take_of_length_le (by rw [L3.out]; exact Nat.le_refl _)] at h
                  exact h)
                clear HT
                go_wp2_with fail
                go_ret
                exact ⟨⟨true, rfl, by simp [hAll.out, hAll2.out, hAll3.out]⟩, hb⟩
  · have hcs : li.length ≠ mi.length ∨ (li.length = mi.length ∧ lf.length ≠ mf.length) ∨ (li.length = mi.length ∧ lf.length = mf.length ∧ ls.length ≠ ms.length) := by omega
    have HN : Hid ((li, lf, ls) ≠ (mi, mf, ms)) := Lib.hid (fun e => hlen (by simp at e; obtain ⟨rfl, rfl, rfl⟩ := e; exact ⟨rfl, rfl, rfl⟩))
    clear hlen
    rcases hcs with h | ⟨h, h2⟩ | ⟨h, h2, h3⟩
    · have e1 : ((li.length : Int) != mi.length) = true := by rw [bne_iff_ne]; omega
      have Hh := Lib.hid h; clear h
      go_enter Try.func13, Try.ntmps13
      go_wp2_with fail
      go_ret
      exact ⟨⟨false, rfl, by simp only [Bool.false_eq_true, false_iff]; exact HN.out⟩, (by repeat' (first | exact Below.refl _ _ | assumption | (refine thenB ?_ (by assumption)) | (refine belowN ?_ _) | (refine Below.alloc ?_ (by first | simp; done | (simp; omega) | omega) _) | (refine below_setRow ?_ (by first | simp; done | (simp; omega) | omega) _) | (refine Below.setCell ?_ (by first | simp; done | (simp; omega) | omega) _)))⟩
    · have e1 : ((li.length : Int) != mi.length) = false := by rw [bne_eq_false_iff_eq]; omega
      have e2 : ((lf.length : Int) != mf.length) = true := by rw [bne_iff_ne]; omega
      have Hh := Lib.hid (And.intro h h2); clear h h2
      go_enter Try.func13, Try.ntmps13
      go_wp2_with fail
      go_ret
      exact ⟨⟨false, rfl, by simp only [Bool.false_eq_true, false_iff]; exact HN.out⟩, (by repeat' (first | exact Below.refl _ _ | assumption | (refine thenB ?_ (by assumption)) | (refine belowN ?_ _) | (refine Below.alloc ?_ (by first | simp; done | (simp; omega) | omega) _) | (refine below_setRow ?_ (by first | simp; done | (simp; omega) | omega) _) | (refine Below.setCell ?_ (by first | simp; done | (simp; omega) | omega) _)))⟩
    · have e1 : ((li.length : Int) != mi.length) = false := by rw [bne_eq_false_iff_eq]; omega
      have e2 : ((lf.length : Int) != mf.length) = false := by rw [bne_eq_false_iff_eq]; omega
      have e3 : ((ls.length : Int) != ms.length) = true := by rw [bne_iff_ne]; omega
      have Hh := Lib.hid (And.intro h (And.intro h2 h3)); clear h h2 h3
      go_enter Try.func13, Try.ntmps13
      go_wp2_with fail
      go_ret
      exact ⟨⟨false, rfl, by simp only [Bool.false_eq_true, false_iff]; exact HN.out⟩, (by repeat' (first | exact Below.refl _ _ | assumption | (refine thenB ?_ (by assumption)) | (refine belowN ?_ _) | (refine Below.alloc ?_ (by first | simp; done | (simp; omega) | omega) _) | (refine below_setRow ?_ (by first | simp; done | (simp; omega) | omega) _) | (refine Below.setCell ?_ (by first | simp; done | (simp; omega) | omega) _)))⟩
end Go.Proofs.Ytcmpcbpdnaodmaa
