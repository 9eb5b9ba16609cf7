/- code.Decode: the walk. -/
import Derived.Test.YtcmpcbpdnaodmaaDecState
import Derived.Test.YtcmpcbpdnaodmaaCodeWide
import Derived.Deep.CutBlock
import Derived.Deep.RegionLaw
namespace Go.Proofs.Ytcmpcbpdnaodmaa
open Go.RowKit Go.Lib
set_option linter.unusedVariables false

def rawI (b : List UInt8) : Nat × Rd := rCount 1048576 (0, b)
/-- A slice that is nobody's yet: none, or one in memory that is new. -/
def NewS (N B : Nat) (v : Value) : Prop := v = .slice none 0 0 ∨ ∃ g n c, v = .slice (some ⟨g, 0, none⟩) n c ∧ B ≤ g ∧ g < N ∧ n ≤ c ∧ c ≤ maxLen
theorem newS_nil (N B : Nat) : NewS N B (.slice none 0 0) := .inl rfl
theorem newS_of {w : World} {base B N : Nat} {e : TypeId} {k : Nat} {v : Value} {n : Nat} {xs : List Value} (h : w.ownsRow base e k v n xs) (hB : B ≤ base) (hN : w.heap.size ≤ N) : NewS N B v := by
  obtain ⟨_, ⟨he, _⟩ | ⟨g, cap, cur, he, hg, hr, hl, hm, _⟩⟩ := h
  · exact .inl he
  · exact .inr ⟨g, _, _, he, by omega, Nat.lt_of_lt_of_le (lt_of_block hr) hN, hl, hm⟩
set_option maxHeartbeats 8000000 in
set_option maxRecDepth 100000 in
theorem code_DecodeN (a : Option Addr) (cap : Nat) (b : List UInt8) (w : World) (hb : BytesAt w a cap b) :
    Calls Try.prog 11 #[.slice a b.length cap] w fun e w' => Below w.heap.size w w' ∧ ∃ v1 v2 v3, e = .returned (.tuple #[.agg #[v1, v2, v3], .int .i64 ((decC b).2 : Nat)]) ∧ CodeAt w' v1 v2 v3 (decC b).1 ∧ NewS w'.heap.size w.heap.size v1 ∧ NewS w'.heap.size w.heap.size v2 ∧ NewS w'.heap.size w.heap.size v3 := by
  obtain ⟨i0, hi, hz0, hz1, hz2⟩ := info_parts strinfo
  have HBA := Lib.hid hb
  have HB1 := Lib.hid hb.1
  have hcm := hb.2.1
  unfold maxLen at hcm
  clear hb
  obtain ⟨n1, e1, b1, hn1⟩ : ∃ n1 e1 b1, rCount 1048576 (0, b) = (n1, e1, b1) := ⟨_, _, _, rfl⟩
  have hn1m : n1 ≤ 1048576 := by
    have : (rCount 1048576 (0, b)).1 ≤ 1048576 := by unfold rCount; split <;> simp_all
    rw [hn1] at this; exact this
  have HN1 := Lib.hid hn1; clear hn1
  go_enter Try.func11, Try.ntmps11
  go_upto_block 0 with (go_at_call 17; go_must (refine (rd_count w (w.heap.size + 1) (0, b) _ 1048576 (by omega) ⟨a, cap, by exact (by repeat' (first | assumption | (refine has_drewN ?_ _) | (refine has_drew ?_) | (refine has_new _ _ _ _ ?_ <;> (first | rfl | (simp; done))) | (refine has_alloc ?_ _) | (refine has_setCell ?_ _ _ (by first | assumption | (simp; omega) | omega)) | (refine has_setRow ?_ _ _ (by first | assumption | (simp; omega) | omega)) | (refine has_belowT ?_ (by assumption)))), HBA.out, by omega, (by repeat' (first | exact Below.refl _ _ | assumption | (refine thenB ?_ (by assumption)) | (refine belowN ?_ _) | (refine Below.alloc ?_ (by first | simp; done | (simp; omega) | omega) _) | (refine below_setRow ?_ (by first | simp; done | (simp; omega) | omega) _) | (refine Below.setCell ?_ (by first | simp; done | (simp; omega) | omega) _)))⟩).mono ?_; rintro e w1 ⟨rfl, hr, ho⟩; rw [HN1.out]; rw [HN1.out] at hr; have HR := Lib.hid hr; have HO := Lib.hid ho; clear hr ho))
  have hD0 : DecR w w1 #[.slice none 0 0, .slice none 0 0, .slice none 0 0] (e1, b1) w1 := by
    have ho := HO.out
    refine ⟨HR.out, has_mod (S := fun k => k = w.heap.size + 1) (by exact (by repeat' (first | assumption | (refine has_drewN ?_ _) | (refine has_drew ?_) | (refine has_new _ _ _ _ ?_ <;> (first | rfl | (simp; done))) | (refine has_alloc ?_ _) | (refine has_setCell ?_ _ _ (by first | assumption | (simp; omega) | omega)) | (refine has_setRow ?_ _ _ (by first | assumption | (simp; omega) | omega)) | (refine has_belowT ?_ (by assumption))))) ho (by omega), has_mod (S := fun k => k = w.heap.size + 1) (by exact (by repeat' (first | assumption | (refine has_drewN ?_ _) | (refine has_drew ?_) | (refine has_new _ _ _ _ ?_ <;> (first | rfl | (simp; done))) | (refine has_alloc ?_ _) | (refine has_setCell ?_ _ _ (by first | assumption | (simp; omega) | omega)) | (refine has_setRow ?_ _ _ (by first | assumption | (simp; omega) | omega)) | (refine has_belowT ?_ (by assumption))))) ho (by omega), Mod.refl _ _, ?_⟩
    have := ho.size; simp at this; omega
  have HD0 := Lib.hid hD0; clear hD0
  go_cut [6] (fun s6 wx => ∃ (acc : List (List UInt8)) (r : Rd) (a3 : Option Addr) (c3 : Nat), (acc, r) = loopS n1 (e1, b1) [] ∧ DecR w w1 #[.slice none 0 0, .slice none 0 0, .slice a3 acc.length c3] r wx ∧ wx.ownsRow w1.heap.size 9 1 (.slice a3 acc.length c3) acc.length (acc.map strV))
  case first =>
    go_wp2_with fail
    go_loopw [6] (fun q wr => ∃ (n : Nat) (acc : List (List UInt8)) (r : Rd) (a3 : Option Addr) (c3 : Nat), q = .int .i64 n ∧ acc.length + n ≤ 1048576 ∧ loopS n r acc = loopS n1 (e1, b1) [] ∧ DecR w w1 #[.slice none 0 0, .slice none 0 0, .slice a3 acc.length c3] r wr ∧ wr.ownsRow w1.heap.size 9 1 (.slice a3 acc.length c3) acc.length (acc.map strV)) (fun q _ => (intOf q).toNat)
    case atStart => exact ⟨n1, [], (e1, b1), none, 0, rfl, by simpa using hn1m, rfl, HD0.out, World.ownsRow_nil _ _ _ _⟩
    case round =>
      clear HR HO HD0
      obtain ⟨n, acc, r, a3, c3, rfl, hac, hl, hD, hown⟩ := hrel
      obtain ⟨re, rb⟩ := r
      have HL := Lib.hid hl; clear hl
      have HD := Lib.hid hD; clear hD
      have HOW := Lib.hid hown; clear hown
      obtain ⟨ar, capr, hcr, hcc, hcf, hcl⟩ := HD.out.open
      by_cases hn0 : n = 0
      · subst hn0
        go_wp2_with fail
        go_meet
        exact ⟨acc, (re, rb), a3, c3, HL.out, HD.out, HOW.out⟩
      · obtain ⟨m, rfl⟩ : ∃ m, n = m + 1 := ⟨n - 1, by omega⟩
        have hpos : (0 : Int) < ((m + 1 : Nat) : Int) := by omega
        by_cases he : re = 0
        · subst he
          have hbo : (((0 : Nat) : Int) == 0) = true := by decide
          go_wp2_with fail
          obtain ⟨s, re2, rb2, hs⟩ : ∃ s re2 rb2, rText (0, rb) = (s, re2, rb2) := ⟨_, _, _, rfl⟩
          have HS := Lib.hid hs; clear hs
          clear hcr
          go_region_law
            (first
              | (refine step_call (by rfl) 18 _ _ Try.func18 (by kernel_rfl) (by kernel_rfl) (by rfl) _ (by rfl) (rd_text w (w.heap.size + 1) (0, rb) _ (rd_drew HD.out.rd)) ?_; rintro e w2 ⟨rfl, hr, ho⟩; refine ⟨_, rfl, ?_⟩; rw [HS.out] at hr ⊢; unfold strV; have hD2 := HD.out.drew.read hr ho; have hbg := HD.out.big; have hown2 := owns_mod HOW.out.drew ho (fun g hg _ e => by omega); clear hbg; obtain ⟨ar2, capr2, hcr2, hcc2, hcf2, hcl2⟩ := hD2.open; have HD2 := Lib.hid hD2; have HOW2 := Lib.hid hown2; clear hD2 hown2 hr ho; have hc22 := hcc2 2)
              | ((refine step_append_lies _ (by rfl) _ _ _ (by rfl) w1.heap.size 9 i0 (.string ⟨#[]⟩) 1 16 (by kernel_rfl) hi hz0 hz1 hz2 rfl (by decide) (.slice a3 acc.length c3) _ (acc.map strV) (by rfl) (HOW2.out.alloc _) ⟨w2.heap.size, 0, none⟩ 1 1 [.string ⟨s.toArray⟩] (by rfl) rfl (news1 _ _ _ _ rfl) (by simp [Value.oneCell']) (by decide) (by unfold maxLen; omega) (by omega) (by have := HD2.out.mod.size; simp; omega) (w2.heap.size + 1) (by simp) ?_; intro g capg wq hown1 hgrow hat hlt; obtain ⟨hqc, hqf, hql⟩ := HD2.out.grown HOW2.out (grown_alloc0 hgrow); have hq2 : wq.cell? ⟨w.heap.size + 2, 2, none⟩ = some (.slice a3 acc.length c3) := hqc 2)))
          all_goals
            have hnx : Hid (loopS m (re2, rb2) (acc ++ [s]) = loopS n1 (e1, b1) []) := Lib.hid (by rw [← HL.out]; simp [loopS, HS.out])
            obtain ⟨hA, hB⟩ := HD2.out.add HOW2.out (grown_alloc0 hgrow) (show wq.ownsRow w1.heap.size 9 1 _ _ (acc.map strV ++ [strV s]) from hown1) 2 #[.slice none 0 0, .slice none 0 0, .slice (some ⟨g, 0, none⟩) (acc.length + 1) capg] (by rfl)
            have HA := Lib.hid hA; have HB := Lib.hid hB; clear hA hB hown1 hgrow hat hlt hcc hcf hcl hcc2 hcf2 hcl2 hcr2 hc22 hqc hqf hql hq2
            go_wp2_with fail
            go_roundw
            case rel => exact ⟨m, acc ++ [s], (re2, rb2), some ⟨g, 0, none⟩, capg, by go_num, by simp; omega, hnx.out, by simpa using HA.out, by simpa using HB.out⟩
            case measure => (simp [intOf]; try omega)
        · have hbo : ((re : Int) == 0) = false := by rw [beq_eq_false_iff_ne]; omega
          have hfin : Hid ((acc, (re, rb)) = loopS n1 (e1, b1) []) := Lib.hid (by rw [← HL.out, loopS, if_pos he])
          have HE := Lib.hid he; clear he
          go_wp2_with fail
          go_meet
          exact ⟨acc, (re, rb), a3, c3, hfin.out, HD.out, HOW.out⟩
  case rest =>
    clear HR HO HD0
    obtain ⟨ls, r, a3, c3, hl, hD, hown3⟩ := hcut
    obtain ⟨n2, e2, b2, hn2⟩ : ∃ n2 e2 b2, rCount 1048576 r = (n2, e2, b2) := ⟨_, _, _, rfl⟩
    have hn2m : n2 ≤ 1048576 := by
      have : (rCount 1048576 r).1 ≤ 1048576 := by unfold rCount; split <;> simp_all
      rw [hn2] at this; exact this
    have HN2 := Lib.hid hn2; clear hn2
    have HL1 := Lib.hid hl; clear hl
    have HD := Lib.hid hD; clear hD
    have HOW3 := Lib.hid hown3; clear hown3
    obtain ⟨i1, hi1, hy0, hy1, hy2⟩ := info_parts entinfo
    go_upto_block 2 with (go_at_call 17; go_must (refine (rd_count w (w.heap.size + 1) r _ 1048576 (by omega) HD.out.rd).mono ?_; rintro e w2 ⟨rfl, hr, ho⟩; rw [HN2.out]; rw [HN2.out] at hr; have HDn := Lib.hid (HD.out.read hr ho).next; have HOW3n := Lib.hid (DecR.rows HOW3.out ho HD.out.big); have HBG := Lib.hid HD.out.big; have HSZ := Lib.hid HD.out.mod.size; have HSZ2 := Lib.hid ho.size; clear hr ho HD HOW3))
    go_cut [7] (fun s7 wx => ∃ (at_ : Int) (acc : List CEnt) (r : Rd) (a2 : Option Addr) (c2 : Nat), s7 = .int .i64 at_ ∧ 0 ≤ at_ ∧ at_ ≤ 1099511627776 ∧ (at_, acc, r) = loopE n2 0 (e2, b2) [] ∧ DecR w w2 #[.slice none 0 0, .slice a2 acc.length c2, .slice a3 ls.length c3] r wx ∧ wx.ownsRow w2.heap.size 43 5 (.slice a2 acc.length c2) acc.length (acc.flatMap entL))
    case first =>
      go_wp2_with fail
      go_loopw [7, 8] (fun q7 q wr => ∃ (n : Nat) (at_ : Int) (acc : List CEnt) (r : Rd) (a2 : Option Addr) (c2 : Nat), q = .int .i64 n ∧ q7 = .int .i64 at_ ∧ 0 ≤ at_ ∧ at_ + n * 1048576 ≤ 1099511627776 ∧ acc.length + n ≤ 1048576 ∧ loopE n at_ r acc = loopE n2 0 (e2, b2) [] ∧ DecR w w2 #[.slice none 0 0, .slice a2 acc.length c2, .slice a3 ls.length c3] r wr ∧ wr.ownsRow w2.heap.size 43 5 (.slice a2 acc.length c2) acc.length (acc.flatMap entL)) (fun _ q _ => (intOf q).toNat)
      case atStart => exact ⟨n2, 0, [], (e2, b2), none, 0, rfl, rfl, by omega, by omega, by simpa using hn2m, rfl, HDn.out, World.ownsRow_nil _ _ _ _⟩
      case round =>
        clear HDn HOW3n
        obtain ⟨n, at_, acc, r, a2, c2, rfl, rfl, ha0, ha1, hac, hl, hD, hown⟩ := hrel
        obtain ⟨re, rb⟩ := r
        have HL := Lib.hid hl; clear hl
        have HD := Lib.hid hD; clear hD
        have HOW := Lib.hid hown; clear hown
        obtain ⟨ar, capr, hcr, hcc, hcf, hcl⟩ := HD.out.open
        by_cases hn0 : n = 0
        · subst hn0
          go_wp2_with fail
          go_meet
          exact ⟨at_, acc, (re, rb), a2, c2, rfl, ha0, by omega, HL.out, HD.out, HOW.out⟩
        · obtain ⟨m, rfl⟩ : ∃ m, n = m + 1 := ⟨n - 1, by omega⟩
          have hpos : (0 : Int) < ((m + 1 : Nat) : Int) := by omega
          by_cases he : re = 0
          · subst he
            have hbo : (((0 : Nat) : Int) == 0) = true := by decide
            obtain ⟨k1, q1, hk1⟩ : ∃ k1 q1, rCount 1048576 (0, rb) = (k1, q1) := ⟨_, _, rfl⟩
            obtain ⟨k2, q2, hk2⟩ : ∃ k2 q2, rCount 1048576 q1 = (k2, q2) := ⟨_, _, rfl⟩
            obtain ⟨k3, q3, hk3⟩ : ∃ k3 q3, rCount 1048576 q2 = (k3, q3) := ⟨_, _, rfl⟩
            obtain ⟨k4, q4, hk4⟩ : ∃ k4 q4, rCount 1048576 q3 = (k4, q4) := ⟨_, _, rfl⟩
            have hk1m : k1 ≤ 1048576 := by have := rCount_le 1048576 (0, rb); rw [hk1] at this; exact this
            have HK := Lib.hid (And.intro hk1 (And.intro hk2 (And.intro hk3 hk4)))
            have HE : Hid (rEnt at_ (0, rb) = ((at_, (k1 : Int), (k2 : Int), (k3 : Int), (k4 : Int)), q4)) := Lib.hid (by unfold rEnt; simp only [hk1, hk2, hk3, hk4])
            clear hk1 hk2 hk3 hk4
            go_wp2_with (first
              | (go_at_call 17; refine (rd_count w (w.heap.size + 1) (0, rb) _ 1048576 (by omega) HD.out.rd).mono ?_; rintro e w3 ⟨rfl, hr, ho⟩; rw [HK.out.1]; rw [HK.out.1] at hr; have HD1 := Lib.hid (HD.out.read hr ho); have HOW1 := Lib.hid (DecR.rows HOW.out ho (Nat.le_trans HD.out.big (Nat.le_refl _))); clear hr ho HD HOW hcr hcc hcf hcl)
              | (go_at_call 17; refine (rd_count w (w.heap.size + 1) q1 _ 1048576 (by omega) HD1.out.rd).mono ?_; rintro e w4 ⟨rfl, hr, ho⟩; rw [HK.out.2.1]; rw [HK.out.2.1] at hr; have HD2 := Lib.hid (HD1.out.read hr ho); have HOW2 := Lib.hid (DecR.rows HOW1.out ho (Nat.le_trans HD1.out.big (Nat.le_refl _))); clear hr ho HD1 HOW1)
              | (go_at_call 17; refine (rd_count w (w.heap.size + 1) q2 _ 1048576 (by omega) HD2.out.rd).mono ?_; rintro e w5 ⟨rfl, hr, ho⟩; rw [HK.out.2.2.1]; rw [HK.out.2.2.1] at hr; have HD3 := Lib.hid (HD2.out.read hr ho); have HOW4 := Lib.hid (DecR.rows HOW2.out ho (Nat.le_trans HD2.out.big (Nat.le_refl _))); clear hr ho HD2 HOW2)
              | (go_at_call 17; refine (rd_count w (w.heap.size + 1) q3 _ 1048576 (by omega) HD3.out.rd).mono ?_; rintro e w6 ⟨rfl, hr, ho⟩; rw [HK.out.2.2.2]; rw [HK.out.2.2.2] at hr; have HD4 := Lib.hid (HD3.out.read hr ho); have HOW5 := Lib.hid (DecR.rows HOW4.out ho (Nat.le_trans HD3.out.big (Nat.le_refl _))); clear hr ho HD3 HOW4; obtain ⟨er4, rb4⟩ := q4; obtain ⟨ar, capr, hcr, hcc, hcf, hcl⟩ := HD4.out.open; have HD5 := Lib.hid (HD4.out.alloc (.cells #[.int .i64 at_, .int .i64 k1, .int .i64 k2, .int .i64 k3, .int .i64 k4] 43)))
              | (at_builtin; go_must (refine wpList_append_elemN rfl _ _ 23 rfl w2.heap.size 43 i1 (.agg #[.int .i64 0, .int .i64 0, .int .i64 0, .int .i64 0, .int .i64 0]) 5 40 (by kernel_rfl) hi1 hy0 hy1 hy2 rfl (by decide) a2 c2 acc.length (acc.flatMap entL) [.int .i64 at_, .int .i64 k1, .int .i64 k2, .int .i64 k3, .int .i64 k4] _ rfl (HOW5.out.alloc _) _ rfl (by simp) rfl (by simp [Value.oneCell']) (by simp only [maxLen]; omega) (by omega) HD5.out.mod.size ?_); intro a' c' wq hown1 hgrow hp; obtain ⟨hqc, hqf, hql⟩ := HD5.out.grown (HOW5.out.alloc _) hgrow; (have hent : Has wq w6.heap.size #[.int .i64 at_, .int .i64 k1, .int .i64 k2, .int .i64 k3, .int .i64 k4] 43 := has_mod (has_new _ _ _ _ rfl) (Mod.of_grown hgrow) (fun e => by have := (HOW5.out.lt _ e.symm).2; omega)); have hec := has_cell hent; have hel := has_lt hent; (have HA := Lib.hid (HD5.out.add (HOW5.out.alloc _) hgrow hown1 1 #[.slice none 0 0, .slice a' (acc.length + 1) c', .slice a3 ls.length c3] (by rfl))); clear hent hown1 hgrow hp hcr hcc hcf; (have hne1 : ¬ w6.heap.size = w.heap.size + 1 + 1 := by omega); (have hne2 : ¬ w.heap.size + 1 + 1 = w6.heap.size := by omega)))
            have hnx : Hid (loopE m (at_ + k1) (er4, rb4) (acc ++ [(at_, (k1 : Int), (k2 : Int), (k3 : Int), (k4 : Int))]) = loopE n2 0 (e2, b2) []) := Lib.hid (by rw [← HL.out]; simp [loopE, HE.out])
            go_roundw
            case rel => exact ⟨m, at_ + k1, acc ++ [(at_, (k1 : Int), (k2 : Int), (k3 : Int), (k4 : Int))], (er4, rb4), a', c', by go_num, rfl, by omega, by omega, by simp; omega, hnx.out, by simpa using HA.out.1, by simpa [entL] using HA.out.2⟩
            case measure => (simp [intOf]; try omega)
          · have hbo : ((re : Int) == 0) = false := by rw [beq_eq_false_iff_ne]; omega
            have hfin : Hid ((at_, acc, (re, rb)) = loopE n2 0 (e2, b2) []) := Lib.hid (by rw [← HL.out, loopE, if_pos he])
            have HE := Lib.hid he; clear he
            go_wp2_with fail
            go_meet
            exact ⟨at_, acc, (re, rb), a2, c2, rfl, ha0, by omega, hfin.out, HD.out, HOW.out⟩
    case rest =>
      clear HDn
      obtain ⟨at_, lf, r2, a2, c2, rfl, hat0, hat1, hl2, hD, hown2⟩ := hcut
      obtain ⟨n3, rfl⟩ := Int.eq_ofNat_of_zero_le hat0
      have HL2 := Lib.hid hl2; clear hl2
      have hbig : w.heap.size + 3 ≤ w2.heap.size := hD.big
      have HR3 := Lib.hid (owns_mod HOW3n.out hD.mod (fun g hg _ e => by have := HBG.out; omega)); clear HOW3n
      have HR2 := Lib.hid hown2; clear hown2
      have HD := Lib.hid hD.next; clear hD
      obtain ⟨i2, hi2, hx0, hx1, hx2⟩ := info_parts insinfo
      go_upto_block 4 with fail
      go_cut [10] (fun s10 wx => ∃ (acc : List CIns) (r : Rd) (a1 : Option Addr) (c1 : Nat), (acc, r) = loopI n3 r2 [] ∧ DecR w wc #[.slice a1 acc.length c1, .slice a2 lf.length c2, .slice a3 ls.length c3] r wx ∧ wx.ownsRow wc.heap.size 41 3 (.slice a1 acc.length c1) acc.length (acc.flatMap insL))
      case first =>
        go_wp2_with fail
        go_loopw [10] (fun q wr => ∃ (n : Nat) (acc : List CIns) (r : Rd) (a1 : Option Addr) (c1 : Nat), q = .int .i64 n ∧ acc.length + n ≤ 1099511627776 ∧ loopI n r acc = loopI n3 r2 [] ∧ DecR w wc #[.slice a1 acc.length c1, .slice a2 lf.length c2, .slice a3 ls.length c3] r wr ∧ wr.ownsRow wc.heap.size 41 3 (.slice a1 acc.length c1) acc.length (acc.flatMap insL)) (fun q _ => (intOf q).toNat)
        case atStart => exact ⟨n3, [], r2, none, 0, rfl, by simp; omega, rfl, HD.out, World.ownsRow_nil _ _ _ _⟩
        case round =>
          clear HD
          obtain ⟨n, acc, r, a1, c1, rfl, hac, hl, hD, hown⟩ := hrel
          obtain ⟨re, rb⟩ := r
          have HL := Lib.hid hl; clear hl
          have HD := Lib.hid hD; clear hD
          have HOW := Lib.hid hown; clear hown
          obtain ⟨ar, capr, hcr, hcc, hcf, hcl⟩ := HD.out.open
          by_cases hn0 : n = 0
          · subst hn0
            go_wp2_with fail
            go_meet
            exact ⟨acc, (re, rb), a1, c1, HL.out, HD.out, HOW.out⟩
          · obtain ⟨m, rfl⟩ : ∃ m, n = m + 1 := ⟨n - 1, by omega⟩
            have hpos : (0 : Int) < ((m + 1 : Nat) : Int) := by omega
            by_cases he : re = 0
            · subst he
              have hbo : (((0 : Nat) : Int) == 0) = true := by decide
              go_wp2_with fail
              obtain ⟨o1, q1a, q1b, hk1⟩ : ∃ o1 q1a q1b, rOp (0, rb) = (o1, q1a, q1b) := ⟨_, _, _, rfl⟩
              obtain ⟨o2, q2a, q2b, hk2⟩ : ∃ o2 q2a q2b, rSigned (q1a, q1b) = (o2, q2a, q2b) := ⟨_, _, _, rfl⟩
              obtain ⟨o3, er4, rb4, hk3⟩ : ∃ o3 er4 rb4, rCount 2147483647 (q2a, q2b) = (o3, er4, rb4) := ⟨_, _, _, rfl⟩
              have HI : Hid (rIns (0, rb) = ((o1, o2, (o3 : Int)), er4, rb4)) := Lib.hid (by unfold rIns; simp only [hk1, hk2, hk3])
              have HK := Lib.hid (And.intro hk1 (And.intro hk2 hk3))
              clear hk1 hk2 hk3
              clear hcr
              go_region_law
                (first
                  | (refine step_call (by rfl) 19 _ _ Try.func19 (by kernel_rfl) (by kernel_rfl) (by rfl) _ (by rfl) (rd_op w (w.heap.size + 1) (0, rb) _ (rd_drew HD.out.rd)) ?_; rintro e w3 ⟨rfl, hr, ho⟩; refine ⟨_, rfl, ?_⟩; rw [HK.out.1] at hr ⊢; have hD2 := HD.out.drew.read hr ho; have hbg := HD.out.big; have hown2 := owns_mod HOW.out.drew ho (fun g hg _ e => by omega); clear hbg; obtain ⟨ar1, capr1, hcr1, hcc1, hcf1, hcl1⟩ := hD2.open; have HD1 := Lib.hid hD2; have HOW1 := Lib.hid hown2; clear hD2 hown2 hr ho)
                  | (refine step_call (by rfl) 20 _ _ Try.func20 (by kernel_rfl) (by kernel_rfl) (by rfl) _ (by rfl) (rd_signed w (w.heap.size + 1) (q1a, q1b) _ HD1.out.rd) ?_; rintro e w4 ⟨rfl, hr, ho⟩; refine ⟨_, rfl, ?_⟩; rw [HK.out.2.1] at hr ⊢; have hD2 := HD1.out.read hr ho; have hbg := HD1.out.big; have hown2 := owns_mod HOW1.out ho (fun g hg _ e => by omega); clear hbg; obtain ⟨ar2, capr2, hcr2, hcc2, hcf2, hcl2⟩ := hD2.open; have HD2 := Lib.hid hD2; have HOW2 := Lib.hid hown2; clear hD2 hown2 hr ho)
                  | (refine step_call (by rfl) 17 _ _ Try.func17 (by kernel_rfl) (by kernel_rfl) (by rfl) _ (by rfl) (rd_count w (w.heap.size + 1) (q2a, q2b) _ 2147483647 (by omega) HD2.out.rd) ?_; rintro e w5 ⟨rfl, hr, ho⟩; refine ⟨_, rfl, ?_⟩; rw [HK.out.2.2] at hr ⊢; have hD2 := HD2.out.read hr ho; have hbg := HD2.out.big; have hown2 := owns_mod HOW2.out ho (fun g hg _ e => by omega); clear hbg; obtain ⟨ar3, capr3, hcr3, hcc3, hcf3, hcl3⟩ := hD2.open; have HD3 := Lib.hid hD2; have HOW3 := Lib.hid hown2; clear hD2 hown2 hr ho)
                  | ((refine step_append_lies _ (by rfl) _ _ _ (by rfl) wc.heap.size 41 i2 (.agg #[.int .u8 0, .int .i64 0, .int .i64 0]) 3 24 (by kernel_rfl) hi2 hx0 hx1 hx2 rfl (by decide) (.slice a1 acc.length c1) _ (acc.flatMap insL) (by rfl) (HOW3.out.alloc _) ⟨w5.heap.size, 0, none⟩ 1 1 [.int .u8 o1, .int .i64 o2, .int .i64 o3] (by rfl) rfl (World.news_of_block (cs := #[.int .u8 o1, .int .i64 o2, .int .i64 o3]) (t := 41) (fr := (0, 0)) (heap_alloc_new w5 _)) (by simp [Value.oneCell']) (by decide) (by unfold maxLen; omega) (by omega) (by have := HD3.out.mod.size; simp; omega) (w5.heap.size + 1) (by simp) ?_; intro g capg wq hown1 hgrow hat hlt; obtain ⟨hqc, hqf, hql⟩ := HD3.out.grown HOW3.out (grown_alloc0 hgrow))))
              all_goals
                have hnx : Hid (loopI m (er4, rb4) (acc ++ [(o1, o2, (o3 : Int))]) = loopI n3 r2 []) := Lib.hid (by rw [← HL.out]; simp [loopI, HI.out])
                obtain ⟨hA, hB⟩ := HD3.out.add HOW3.out (grown_alloc0 hgrow) hown1 0 #[.slice (some ⟨g, 0, none⟩) (acc.length + 1) capg, .slice a2 lf.length c2, .slice a3 ls.length c3] (by rfl)
                have HA := Lib.hid hA; have HB := Lib.hid hB; clear hA hB hown1 hgrow hat hlt hcc hcf hcl hqc hqf hql hcc1 hcc2 hcc3 hcf1 hcf2 hcf3 hcl1 hcl2 hcl3 hcr1 hcr2 hcr3
                go_wp2_with fail
                go_roundw
                case rel => exact ⟨m, acc ++ [(o1, o2, (o3 : Int))], (er4, rb4), some ⟨g, 0, none⟩, capg, by go_num, by simp; omega, hnx.out, by simpa using HA.out, by simpa [insL] using HB.out⟩
                case measure => (simp [intOf]; try omega)
            · have hbo : ((re : Int) == 0) = false := by rw [beq_eq_false_iff_ne]; omega
              have hfin : Hid ((acc, (re, rb)) = loopI n3 r2 []) := Lib.hid (by rw [← HL.out, loopI, if_pos he])
              have HE := Lib.hid he; clear he
              go_wp2_with fail
              go_meet
              exact ⟨acc, (re, rb), a1, c1, hfin.out, HD.out, HOW.out⟩
      case rest =>
        clear HD
        obtain ⟨li, r3, a1, c1, hl3, hD, hown1⟩ := hcut
        obtain ⟨re, rb⟩ := r3
        have HRAW := Lib.hid (rawD_of HN1.out HL1.out HN2.out HL2.out (by simpa using hl3))
        have wI : ∀ x ∈ li, insWide x := by have := loopI_wide n3 r2 [] (by simp); rw [← hl3] at this; exact this
        have wE : ∀ x ∈ lf, entWide x := by have := loopE_wide n2 0 (e2, b2) [] (by omega) (by omega) (by simp); rw [← HL2.out] at this; exact this
        have wS : ∀ x ∈ ls, x.length ≤ 1048576 := by have := loopS_wide n1 (e1, b1) [] (by simp); rw [← HL1.out] at this; exact this
        have HO1 := Lib.hid hown1
        have HO2 := Lib.hid (owns_mod HR2.out hD.mod (fun g hg _ e => by omega))
        have HO3 := Lib.hid (owns_mod HR3.out hD.mod (fun g hg _ e => by have := HBG.out; omega))
        have HWW := Lib.hid (And.intro wI (And.intro wE wS))
        have hsz0 := hD.big
        have HSB := Lib.hid hsz0; clear hsz0
        have hCA := code_of hown1 (owns_mod HR2.out hD.mod (fun g hg _ e => by omega)) (owns_mod HR3.out hD.mod (fun g hg _ e => by have := HBG.out; omega)) wI wE wS
        clear hl3 wI wE wS hown1
        have HCA := Lib.hid hCA; clear hCA
        have HDC := Lib.hid (decC_cases HRAW.out)
        have HD := Lib.hid hD
        have HRES := Lib.hid hD.res
        have HCOD := Lib.hid hD.code
        have hrc : ∀ j, wc.cell? ⟨w.heap.size, j, none⟩ = #[Value.slice none 0 0, .slice none 0 0, .slice none 0 0][j]? := has_cell hD.res
        have hrf := has_free hD.res
        have hrl := has_lt hD.res
        obtain ⟨ar, capr, hcr, hcc, hcf, hcl⟩ := hD.open
        clear hD
        by_cases he : re = 0
        · subst he
          clear hrc hrf hrl
          have hbo : (((0 : Nat) : Int) != 0) = false := by decide
          by_cases hrb : 0 < rb.length
          · have hfin : Hid (decC b = (([], [], []), 16)) := Lib.hid (by rw [HDC.out]; simp [hrb])
            have hrb2 : (0 : Int) < rb.length := by omega
            go_wp2_with (refine wpList_store_row rfl _ _ _ rfl w.heap.size 26 #[.slice none 0 0, .slice none 0 0, .slice none 0 0] #[.slice none 0 0, .slice none 0 0, .slice none 0 0] rfl rfl HRES.out (by kernel_rfl) rfl (by simp [Value.oneCell']) ?_)
            refine ret_row_tmp (p := 2) (u := 3) (by rfl) w.heap.size 26 #[.slice none 0 0, .slice none 0 0, .slice none 0 0] (0, 0) _ (by rfl) (setRow_heap _ _ _ _ _ _ HRES.out) Try.underlying26 rfl (by kernel_rfl) (by rfl) (.int .i64 16) (by rfl) ?_
            rw [hfin.out]
            exact ⟨below_setRow HD.out.out (Nat.le_refl _) _, _, _, _, rfl, code_nil _, newS_nil _ _, newS_nil _ _, newS_nil _ _⟩
          · have hrb2 : ¬(0 : Int) < rb.length := by omega
            by_cases hm : mayC (li, lf, ls) = true
            · have hfin : Hid (decC b = ((li, lf, ls), 0)) := Lib.hid (by rw [HDC.out]; simp [hrb, hm])
              have HM := Lib.hid hm; clear hm
              go_wp2_with (first
                | (refine wpList_load_row rfl _ _ rfl (w.heap.size + 2) rfl 26 _ (0, 0) _ HCOD.out Try.underlying26 rfl (by kernel_rfl) ?_)
                | (go_at_call 10; refine (code_May _ _ _ _ _ HCA.out).mono ?_; rintro e w7 ⟨rfl, hb7⟩; rw [HM.out]; have HCOD7 := Lib.hid (has_belowT HCOD.out hb7); have HRES7 := Lib.hid (has_belowT HRES.out hb7); have HB7 := Lib.hid hb7; clear hb7)
                | (refine wpList_load_row rfl _ _ rfl (w.heap.size + 2) rfl 26 _ (0, 0) _ HCOD7.out Try.underlying26 rfl (by kernel_rfl) ?_)
                | (refine wpList_store_row rfl _ _ _ rfl w.heap.size 26 #[.slice none 0 0, .slice none 0 0, .slice none 0 0] _ rfl rfl HRES7.out (by kernel_rfl) rfl (by simp [Value.oneCell']) ?_))
              refine ret_row_tmp (p := 2) (u := 3) (by rfl) w.heap.size 26 _ (0, 0) _ (by rfl) (setRow_heap _ _ _ _ _ _ HRES7.out) Try.underlying26 rfl (by kernel_rfl) (by rfl) (.int .i64 0) (by rfl) ?_
              rw [hfin.out]
              have hbb := HD.out.out.trans (HB7.out.mono HD.out.out.size)
              have hm8 := (Mod.refl (fun k => k = w.heap.size) w7).setRow w.heap.size #[.slice a1 li.length c1, .slice a2 lf.length c2, .slice a3 ls.length c3] (.inr rfl)
              refine ⟨below_setRow hbb (Nat.le_refl _) _, _, _, _, rfl, code_of (owns_mod (owns_old HO1.out HB7.out) hm8 (fun g hg _ e => ?_)) (owns_mod (owns_old HO2.out HB7.out) hm8 (fun g hg _ e => ?_)) (owns_mod (owns_old HO3.out HB7.out) hm8 (fun g hg _ e => ?_)) HWW.out.1 HWW.out.2.1 HWW.out.2.2, newS_of (owns_old HO1.out HB7.out) ?_ (Nat.le_of_eq (setRow_size _ _ _).symm), newS_of (owns_old HO2.out HB7.out) ?_ (Nat.le_of_eq (setRow_size _ _ _).symm), newS_of (owns_old HO3.out HB7.out) ?_ (Nat.le_of_eq (setRow_size _ _ _).symm)⟩
              · have := HSB.out; omega
              · have := HBG.out; omega
              · have := HBG.out; omega
              · have := HSB.out; omega
              · have := HSB.out; have := HBG.out; omega
              · have := HSB.out; have := HBG.out; omega
            · have hfin : Hid (decC b = (([], [], []), 2)) := Lib.hid (by rw [HDC.out]; simp [hrb, hm])
              have HM := Lib.hid (show mayC (li, lf, ls) = false by simpa using hm); clear hm
              go_wp2_with (first
                | (refine wpList_load_row rfl _ _ rfl (w.heap.size + 2) rfl 26 _ (0, 0) _ HCOD.out Try.underlying26 rfl (by kernel_rfl) ?_)
                | (go_at_call 10; refine (code_May _ _ _ _ _ HCA.out).mono ?_; rintro e w7 ⟨rfl, hb7⟩; rw [HM.out]; have HCOD7 := Lib.hid (has_belowT HCOD.out hb7); have HRES7 := Lib.hid (has_belowT HRES.out hb7); have HB7 := Lib.hid hb7; clear hb7)
                | (refine wpList_store_row rfl _ _ _ rfl w.heap.size 26 #[.slice none 0 0, .slice none 0 0, .slice none 0 0] #[.slice none 0 0, .slice none 0 0, .slice none 0 0] rfl rfl HRES7.out (by kernel_rfl) rfl (by simp [Value.oneCell']) ?_))
              refine ret_row_tmp (p := 2) (u := 3) (by rfl) w.heap.size 26 #[.slice none 0 0, .slice none 0 0, .slice none 0 0] (0, 0) _ (by rfl) (setRow_heap _ _ _ _ _ _ HRES7.out) Try.underlying26 rfl (by kernel_rfl) (by rfl) (.int .i64 2) (by rfl) ?_
              rw [hfin.out]
              exact ⟨below_setRow (HD.out.out.trans (HB7.out.mono HD.out.out.size)) (Nat.le_refl _) _, _, _, _, rfl, code_nil _, newS_nil _ _, newS_nil _ _, newS_nil _ _⟩
        · have hfin : Hid (decC b = (([], [], []), re)) := Lib.hid (by rw [HDC.out]; simp [he])
          have hbo : ((re : Int) != 0) = true := by rw [bne_iff_ne]; omega
          have HE := Lib.hid he; clear he
          go_wp2_with fail
          go_region
          all_goals
            go_wp2_with fail
            refine ret_row_tmp (p := 2) (u := 3) (by rfl) w.heap.size 26 #[.slice none 0 0, .slice none 0 0, .slice none 0 0] (0, 0) _ (by rfl) (has_drew (has_set3 (show Has wc w.heap.size #[.slice none 0 0, .slice none 0 0, .slice none 0 0] _ from HRES.out) _ _ _)) Try.underlying26 rfl (by kernel_rfl) (by rfl) (.int .i64 re) (by rfl) ?_
            rw [hfin.out]
            exact ⟨((((HD.out.out.setCell (Nat.le_refl _) _).setCell (Nat.le_refl _) _).setCell (Nat.le_refl _) _)).drew, _, _, _, rfl, code_nil _, newS_nil _ _, newS_nil _ _, newS_nil _ _⟩
theorem code_Decode (a : Option Addr) (cap : Nat) (b : List UInt8) (w : World) (hb : BytesAt w a cap b) :
    Calls Try.prog 11 #[.slice a b.length cap] w fun e w' => Below w.heap.size w w' ∧ ∃ v1 v2 v3, e = .returned (.tuple #[.agg #[v1, v2, v3], .int .i64 ((decC b).2 : Nat)]) ∧ CodeAt w' v1 v2 v3 (decC b).1 := by
  refine (code_DecodeN a cap b w hb).mono ?_
  rintro e w' ⟨h, v1, v2, v3, h1, h2, _⟩
  exact ⟨h, v1, v2, v3, h1, h2⟩
end Go.Proofs.Ytcmpcbpdnaodmaa
