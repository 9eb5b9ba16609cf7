/- The reference's Decode: the walk. -/
import Derived.Test.YtcmpcbpdnaodmaaRefDecState
import Derived.Test.YtcmpcbpdnaodmaaCodeMayRef
import Derived.Deep.CutBlock
import Derived.Deep.RegionLaw
import Derived.IntWalk
namespace Go.Proofs.Ytcmpcbpdnaodmaa
open Go.RowKit Go.Lib
set_option linter.unusedVariables false

def S1 (T : List (List UInt8) × Rd) (n E : Nat) (rb : List UInt8) (acc : List (List UInt8)) : Prop := (E = 0 ∧ loopS n (0, rb) acc = T) ∨ (E ≠ 0 ∧ T.2.1 = E)
set_option maxHeartbeats 8000000 in
set_option maxRecDepth 100000 in
theorem ref_Decode (a : Option Addr) (cap : Nat) (b : List UInt8) (w : World) (hb : BytesAt w a cap b) :
    Calls Try.prog 14 #[.slice a b.length cap] w fun e w' => Below w.heap.size w w' ∧ ∃ v1 v2 v3, e = .returned (.tuple #[.agg #[v1, v2, v3], .int .i64 ((decC b).2 : Nat)]) ∧ CodeAt w' v1 v2 v3 (decC b).1 := by
  obtain ⟨i0, hi, hz0, hz1, hz2⟩ := info_parts strinfo
  have HB := Lib.hid hb
  have HB1 := Lib.hid hb.1
  have hcm := hb.2.1
  unfold maxLen at hcm
  have hbl : b.length ≤ 9223372036854775807 := by have := hb.1; omega
  clear hb
  obtain ⟨n1, e1, b1, hn1⟩ : ∃ n1 e1 b1, rCount 1048576 (0, b) = (n1, e1, b1) := ⟨_, _, _, rfl⟩
  have hn1m : n1 ≤ 1048576 := by have := rCount_le 1048576 (0, b); rw [hn1] at this; exact this
  have HN1 := Lib.hid hn1; clear hn1
  have HN1d : Hid (rCount 1048576 (0, b.drop 0) = (n1, e1, b1)) := Lib.hid (by rw [List.drop_zero]; exact HN1.out)
  go_enter Try.func14, Try.ntmps14
  go_upto_block 0 with (go_at_call 23; go_must (refine (ref_upTo a cap b _ (bytes_below HB.out (by exact (by repeat' (first | exact Below.refl _ _ | assumption | (refine thenB ?_ (by assumption)) | (refine belowN ?_ _) | (refine Below.alloc ?_ (by first | simp; done | (simp; omega) | omega) _) | (refine below_setRow ?_ (by first | simp; done | (simp; omega) | omega) _) | (refine Below.setCell ?_ (by first | simp; done | (simp; omega) | omega) _)))) (Nat.le_refl _)) 0 0 1048576 (by omega) (by omega)).mono ?_; rintro e w1 ⟨hb1, I1, hI1, hd1, rfl⟩; rw [HN1d.out] at hd1 ⊢; dsimp only at hd1 ⊢; have HBB := Lib.hid hb1; have HD1 := Lib.hid hd1; clear hb1 hd1))
  have hD0 : DecQ w (w1.alloc (.cells #[.slice a b.length cap, .int .i64 I1, .int .i64 e1] 61)) a cap b.length w1.heap.size #[.slice none 0 0, .slice none 0 0, .slice none 0 0] I1 e1 (w1.alloc (.cells #[.slice a b.length cap, .int .i64 I1, .int .i64 e1] 61)) := by
    have ho := HBB.out
    refine ⟨has_alloc (has_belowT (by exact (by repeat' (first | assumption | (refine has_drewN ?_ _) | (refine has_drew ?_) | (refine has_new _ _ _ _ ?_ <;> (first | rfl | (simp; done))) | (refine has_alloc ?_ _) | (refine has_setCell ?_ _ _ (by first | assumption | (simp; omega) | omega)) | (refine has_setRow ?_ _ _ (by first | assumption | (simp; omega) | omega)) | (refine has_belowT ?_ (by assumption))))) ho) _, has_alloc (has_belowT (by exact (by repeat' (first | assumption | (refine has_drewN ?_ _) | (refine has_drew ?_) | (refine has_new _ _ _ _ ?_ <;> (first | rfl | (simp; done))) | (refine has_alloc ?_ _) | (refine has_setCell ?_ _ _ (by first | assumption | (simp; omega) | omega)) | (refine has_setRow ?_ _ _ (by first | assumption | (simp; omega) | omega)) | (refine has_belowT ?_ (by assumption))))) ho) _, has_new _ _ _ _ rfl, Mod.refl _ _, ?_, ?_, ?_⟩
    · exact (thenB (w := w) (by exact (by repeat' (first | exact Below.refl _ _ | assumption | (refine thenB ?_ (by assumption)) | (refine belowN ?_ _) | (refine Below.alloc ?_ (by first | simp; done | (simp; omega) | omega) _) | (refine below_setRow ?_ (by first | simp; done | (simp; omega) | omega) _) | (refine Below.setCell ?_ (by first | simp; done | (simp; omega) | omega) _)))) ho).alloc (by have := ho.size; simp at this; omega) _
    · have := ho.size; simp at this; omega
    · simp
  generalize w1.alloc (.cells #[.slice a b.length cap, .int .i64 I1, .int .i64 e1] 61) = wi at hD0 ⊢
  generalize w1.heap.size = br at hD0 ⊢
  have HD0 := Lib.hid hD0; clear hD0 HBB
  go_cut [7, 8] (fun s7 s8 wx => ∃ (acc : List (List UInt8)) (I E : Nat) (a3 : Option Addr) (c3 : Nat), I ≤ b.length ∧ S1 (loopS n1 (e1, b1) []) 0 E (b.drop I) acc ∧ DecQ w wi a cap b.length br #[.slice none 0 0, .slice none 0 0, .slice a3 acc.length c3] I E wx ∧ wx.ownsRow wi.heap.size 9 1 (.slice a3 acc.length c3) acc.length (acc.map strV))
  case first =>
    go_wp2_with fail
    go_loopw [7, 8] (fun q7 q8 wr => ∃ (i : Nat) (acc : List (List UInt8)) (I E : Nat) (a3 : Option Addr) (c3 : Nat), q7 = .int .i64 i ∧ i ≤ n1 ∧ acc.length ≤ i ∧ I ≤ b.length ∧ S1 (loopS n1 (e1, b1) []) (n1 - i) E (b.drop I) acc ∧ DecQ w wi a cap b.length br #[.slice none 0 0, .slice none 0 0, .slice a3 acc.length c3] I E wr ∧ wr.ownsRow wi.heap.size 9 1 (.slice a3 acc.length c3) acc.length (acc.map strV)) (fun q7 _ _ => n1 - (intOf q7).toNat)
    case atStart => 
      refine ⟨0, [], I1, e1, none, 0, rfl, by omega, by simp, hI1, ?_, HD0.out, World.ownsRow_nil _ _ _ _⟩
      by_cases h0 : e1 = 0
      · exact .inl ⟨h0, by rw [HD1.out, h0]; rfl⟩
      · exact .inr ⟨h0, by rw [loopS_done (r := (e1, b1)) h0]⟩
    case round =>
      clear HD0
      obtain ⟨i, acc, I, E, a3, c3, rfl, hin, hac, hI, hS, hD, hown⟩ := hrel
      have HS := Lib.hid hS; clear hS
      have hbrlt : br < wi.heap.size := hD.hi
      obtain ⟨hr1, hr2, hr3, hc1, hc2, hc3⟩ := hD.open
      have HD := Lib.hid hD; clear hD
      have HOW := Lib.hid hown; clear hown
      by_cases hlt : i < n1
      · have hlt2 : (i : Int) < n1 := by omega
        by_cases he : E = 0
        · subst he
          have hb0 : (((0 : Nat) : Int) == 0) = true := by decide
          obtain ⟨k, e2, b2, hk⟩ : ∃ k e2 b2, rCount 1048576 (0, b.drop I) = (k, e2, b2) := ⟨_, _, _, rfl⟩
          have HK := Lib.hid hk
          have hkm : k ≤ 1048576 := by have := rCount_le 1048576 (0, b.drop I); rw [hk] at this; exact this
          have hst : loopS (n1 - i) (0, b.drop I) acc = loopS n1 (e1, b1) [] := by
            rcases HS.out with ⟨_, h⟩ | ⟨h, _⟩
            · exact h
            · exact absurd rfl h
          have HST : Hid (loopS (n1 - (i + 1)) (rText (0, b.drop I)).2 (acc ++ [(rText (0, b.drop I)).1]) = loopS n1 (e1, b1) []) := Lib.hid (by
            rw [show n1 - i = (n1 - (i + 1)) + 1 by omega, loopS, if_neg (by simp)] at hst; exact hst)
          clear hst hk HS
          by_cases he2 : e2 = 0
          · subst he2
            have hb20 : (((0 : Nat) : Int) == 0) = true := by decide
            have hb21 : (((15 : Nat) : Int) == 0) = false := by decide
            go_wp2_with (first
              | (go_at_call 23; refine (ref_upTo a cap b _ (bytes_below HB.out HD.out.out (Nat.le_refl _)) I 0 1048576 hI (by omega)).mono ?_; rintro e w2 ⟨hb2, I2, hI2, hd2, rfl⟩; rw [HK.out] at hd2 ⊢; dsimp only at hd2 ⊢; have HD2 := Lib.hid (HD.out.below hb2); have HOW2 := Lib.hid (owns_old HOW.out hb2); have HDR2 := Lib.hid hd2; clear HD HOW hb2 hd2 hr1 hr2 hr3 hc1 hc2 hc3; obtain ⟨hr1, hr2, hr3, hc1, hc2, hc3⟩ := HD2.out.open)
              | (refine wpList_store_row rfl _ _ _ rfl br 61 #[.slice a b.length cap, .int .i64 I, .int .i64 0] #[.slice a b.length cap, .int .i64 I2, .int .i64 (0 : Nat)] rfl rfl HD2.out.rr (by kernel_rfl) rfl (by simp [Value.oneCell']) ?_; have hdd := HD2.out.setr I2 0; have HOWx := owns_setr HOW2.out (show br < _ by omega) #[.slice a b.length cap, .int .i64 I2, .int .i64 (0 : Nat)]; clear hr1 hr2 hr3 hc1 hc2 hc3; obtain ⟨v2, hv2⟩ : ∃ v, v = w2.setRow br #[.slice a b.length cap, .int .i64 I2, .int .i64 (0 : Nat)] := ⟨_, rfl⟩; rw [← hv2] at hdd HOWx ⊢; clear hv2 HD2 HOW2; obtain ⟨hr1, hr2, hr3, hc1, hc2, hc3⟩ := hdd.open; have HE2Q := Lib.hid hdd; clear hdd; have HOWE2 := Lib.hid HOWx; clear HOWx;))
            · have HT : Hid (rText (0, b.drop I) = ([], 15, b2)) := Lib.hid (by have := HDR2.out; simp only [rText, HK.out]; rw [if_neg (by simp), if_pos (by rw [← this, List.length_drop]; omega)])
              go_roundw
              case rel =>
                refine ⟨i + 1, acc, I2, 15, a3, c3, by go_num, by omega, by omega, hI2, .inr ⟨by decide, ?_⟩, HE2Q.out.sete 15, owns_setr1 HOWE2.out hbrlt⟩
                rw [← HST.out, HT.out, loopS_done (r := (15, b2)) (show (15 : Nat) ≠ 0 by decide)]
              case measure => (simp [intOf]; try omega)
            · have HT : Hid (rText (0, b.drop I) = (b2.take k, 0, b2.drop k)) := Lib.hid (by have := HDR2.out; simp only [rText, HK.out]; rw [if_neg (by simp), if_neg (by rw [← this, List.length_drop]; omega)])
              have hfit : I2 + k ≤ b.length := by omega
              obtain ⟨aS, haS, hyS⟩ := bytes_mid HB.out I2 k hfit
              have hw1 : IntKind.i64.wrap ((I2 : Int) + (k : Int)) = (I2 : Int) + k := IntWalk.i64_in _ (by omega)
              have hw2 : (0 : Int) ≤ (I2 : Int) + k := by omega
              have hw3 : ((I2 : Int) + (k : Int)).toNat = I2 + k := by omega
              have hw4 : (I2 : Int) + k ≤ cap := by have := HB1.out; omega
              have hlS : Hid (k = ((b.drop I2).take k).length) := Lib.hid (by rw [List.length_take, List.length_drop]; omega)
              obtain ⟨s, hs⟩ : ∃ s, s = (b.drop I2).take k := ⟨_, rfl⟩
              rw [← hs] at hyS hlS
              have HTX := Lib.hid hs; clear hs
              have hcv : (convert 29 9 (.slice aS k (cap - I2))).run Try.prog v2.drew = .ok (.string ⟨s.toArray⟩) v2.drew := run_bytes_text (e := 5) (bytes_below hyS HE2Q.out.out.drew (Nat.le_refl _)) hlS.out (by kernel_rfl) (by kernel_rfl) (by kernel_rfl)
              have hcl2 : w.heap.size + 1 < v2.heap.size := by omega
              go_region_law
                (refine step_append_lies _ (by rfl) _ _ _ (by rfl) wi.heap.size 9 i0 (.string ⟨#[]⟩) 1 16 (by kernel_rfl) hi hz0 hz1 hz2 rfl (by decide) (.slice a3 acc.length c3) _ (acc.map strV) (by rfl) (HOWE2.out.drew.alloc _) ⟨v2.heap.size, 0, none⟩ 1 1 [.string ⟨s.toArray⟩] (by rfl) rfl (news1 _ _ _ _ rfl) (by simp [Value.oneCell']) (by decide) (by unfold maxLen; omega) (by omega) (by have := HE2Q.out.mod.size; simp; omega) (v2.heap.size + 1) (by simp) ?_; intro g capg wq hown1 hgrow hat hlt; obtain ⟨hqc, hqf, hql⟩ := HE2Q.out.drew.grown HOWE2.out.drew (grown_alloc0 hgrow))
              all_goals
                have hnx : Hid (S1 (loopS n1 (e1, b1) []) (n1 - (i + 1)) 0 (b.drop (I2 + k)) (acc ++ [s])) := Lib.hid (.inl ⟨rfl, by rw [← HST.out, HT.out, ← HDR2.out, HTX.out, List.drop_drop]⟩)
                obtain ⟨hA, hB⟩ := HE2Q.out.drew.add HOWE2.out.drew (grown_alloc0 hgrow) (show wq.ownsRow wi.heap.size 9 1 _ _ (acc.map strV ++ [strV s]) from hown1) 2 #[.slice none 0 0, .slice none 0 0, .slice (some ⟨g, 0, none⟩) (acc.length + 1) capg] (by rfl)
                have hbr2 : br < wi.heap.size := hbrlt
                clear hown1 hgrow hat hlt hqc hqf hql hr1 hr2 hr3 hc1 hc2 hc3 haS hw1 hw3 hcv
                obtain ⟨w5, hw5⟩ : ∃ w5, w5 = wq.setCell ⟨w.heap.size + 1, 2, none⟩ (.slice (some ⟨g, 0, none⟩) (acc.length + 1) capg) := ⟨_, rfl⟩
                rw [← hw5] at hA hB ⊢
                clear hw5
                obtain ⟨hr1, hr2, hr3, hc1, hc2, hc3⟩ := hA.open
                have HA := Lib.hid hA; have HBq := Lib.hid hB; clear hA hB
                go_wp2_with fail
                go_roundw
                case rel => exact ⟨i + 1, acc ++ [s], I2 + k, 0, some ⟨g, 0, none⟩, capg, by go_num, by omega, by simp; omega, by omega, hnx.out, by simpa using HA.out.seti (I2 + k), by simpa using owns_setr1 HBq.out hbrlt⟩
                case measure => (simp [intOf]; try omega)
          · have hb2' : ((e2 : Int) == 0) = false := by rw [beq_eq_false_iff_ne]; omega
            have HT : Hid (rText (0, b.drop I) = ([], e2, b2)) := Lib.hid (by simp [rText, HK.out, he2])
            have HE2 := Lib.hid he2; clear he2
            go_wp2_with (first
              | (go_at_call 23; refine (ref_upTo a cap b _ (bytes_below HB.out HD.out.out (Nat.le_refl _)) I 0 1048576 hI (by omega)).mono ?_; rintro e w2 ⟨hb2, I2, hI2, hd2, rfl⟩; rw [HK.out] at hd2 ⊢; dsimp only at hd2 ⊢; have HD2 := Lib.hid (HD.out.below hb2); have HOW2 := Lib.hid (owns_old HOW.out hb2); have HDR2 := Lib.hid hd2; clear HD HOW hb2 hd2 hr1 hr2 hr3 hc1 hc2 hc3; obtain ⟨hr1, hr2, hr3, hc1, hc2, hc3⟩ := HD2.out.open)
              | (refine wpList_store_row rfl _ _ _ rfl br 61 #[.slice a b.length cap, .int .i64 I, .int .i64 0] #[.slice a b.length cap, .int .i64 I2, .int .i64 (e2 : Nat)] rfl rfl HD2.out.rr (by kernel_rfl) rfl (by simp [Value.oneCell']) ?_; have hdd := HD2.out.setr I2 e2; have HOWx := owns_setr HOW2.out (show br < _ by omega) #[.slice a b.length cap, .int .i64 I2, .int .i64 (e2 : Nat)]; clear hr1 hr2 hr3 hc1 hc2 hc3; obtain ⟨v2, hv2⟩ : ∃ v, v = w2.setRow br #[.slice a b.length cap, .int .i64 I2, .int .i64 (e2 : Nat)] := ⟨_, rfl⟩; rw [← hv2] at hdd HOWx ⊢; clear hv2 HD2 HOW2; obtain ⟨hr1, hr2, hr3, hc1, hc2, hc3⟩ := hdd.open; have HE2Q := Lib.hid hdd; clear hdd; have HOWE2 := Lib.hid HOWx; clear HOWx;))
            go_roundw
            case rel =>
              refine ⟨i + 1, acc, I2, e2, a3, c3, by go_num, by omega, by omega, hI2, .inr ⟨HE2.out, ?_⟩, HE2Q.out, HOWE2.out⟩
              rw [← HST.out, HT.out, loopS_done (r := (e2, b2)) HE2.out]
            case measure => (simp [intOf]; try omega)
        · have hb0 : ((E : Int) == 0) = false := by rw [beq_eq_false_iff_ne]; omega
          have HE := Lib.hid he; clear he
          go_wp2_with fail
          go_meet
          refine ⟨acc, I, E, a3, c3, hI, ?_, HD.out, HOW.out⟩
          rcases HS.out with ⟨h, _⟩ | h
          · exact absurd h HE.out
          · exact .inr h
      · obtain rfl : i = n1 := by omega
        go_wp2_with fail
        go_meet
        refine ⟨acc, I, E, a3, c3, hI, ?_, HD.out, HOW.out⟩
        have := HS.out
        rw [Nat.sub_self] at this
        exact this
  case rest =>
    clear HD0
    obtain ⟨ls, Ia, Ea, a3, c3, hIa, hS, hD, hown3⟩ := hcut
    have HCM := Lib.hid (And.intro hcm hbl); clear hcm hbl
    have HS1 := Lib.hid hS; clear hS
    have hbrlt : br < wi.heap.size := hD.hi
    obtain ⟨n2, e2, b2, hn2⟩ : ∃ n2 e2 b2, rCount 1048576 (Ea, b.drop Ia) = (n2, e2, b2) := ⟨_, _, _, rfl⟩
    have hn2m : n2 ≤ 1048576 := by have := rCount_le 1048576 (Ea, b.drop Ia); rw [hn2] at this; exact this
    have HK := Lib.hid hn2; clear hn2
    obtain ⟨i1, hi1, hy0, hy1, hy2⟩ := info_parts entinfo
    obtain ⟨hr1, hr2, hr3, hc1, hc2, hc3⟩ := hD.open
    have HD := Lib.hid hD; clear hD
    have HOW := Lib.hid hown3; clear hown3
    go_upto_block 2 with (first
      | (go_at_call 23; refine (ref_upTo a cap b _ (bytes_below HB.out HD.out.out (Nat.le_refl _)) Ia Ea 1048576 hIa (by omega)).mono ?_; rintro e w2 ⟨hb2, I2, hI2, hd2, rfl⟩; rw [HK.out] at hd2 ⊢; dsimp only at hd2 ⊢; have HD2 := Lib.hid (HD.out.below hb2); have HOW2 := Lib.hid (owns_old HOW.out hb2); have HDR2 := Lib.hid hd2; clear HD HOW hb2 hd2 hr1 hr2 hr3 hc1 hc2 hc3; obtain ⟨hr1, hr2, hr3, hc1, hc2, hc3⟩ := HD2.out.open)
      | (refine wpList_store_row rfl _ _ _ rfl br 61 #[.slice a b.length cap, .int .i64 Ia, .int .i64 Ea] #[.slice a b.length cap, .int .i64 I2, .int .i64 (e2 : Nat)] rfl rfl HD2.out.rr (by kernel_rfl) rfl (by simp [Value.oneCell']) ?_; have hdd := HD2.out.setr I2 e2; have HOWx := owns_setr HOW2.out (show br < _ by omega) #[.slice a b.length cap, .int .i64 I2, .int .i64 (e2 : Nat)]; clear hr1 hr2 hr3 hc1 hc2 hc3; obtain ⟨v2, hv2⟩ : ∃ v, v = w2.setRow br #[.slice a b.length cap, .int .i64 I2, .int .i64 (e2 : Nat)] := ⟨_, rfl⟩; rw [← hv2] at hdd HOWx ⊢; clear hv2 HD2 HOW2; obtain ⟨hr1, hr2, hr3, hc1, hc2, hc3⟩ := hdd.open; have HE2Q := Lib.hid hdd; clear hdd; have HOWE2 := Lib.hid HOWx; clear HOWx;))
    have HBIG := Lib.hid HE2Q.out.mod.size
    have HLO := Lib.hid HE2Q.out.lo
    have HD2n := Lib.hid HE2Q.out.next; clear HE2Q
    go_cut [9, 10, 11] (fun s9 s10 s11 wx => ∃ (at_ : Int) (acc : List CEnt) (I E : Nat) (a2 : Option Addr) (c2 : Nat), s9 = .int .i64 at_ ∧ 0 ≤ at_ ∧ at_ ≤ 1099511627776 ∧ I ≤ b.length ∧ loopE n2 0 (e2, b2) [] = (at_, acc, E, b.drop I) ∧ DecQ w v2 a cap b.length br #[.slice none 0 0, .slice a2 acc.length c2, .slice a3 ls.length c3] I E wx ∧ wx.ownsRow v2.heap.size 43 5 (.slice a2 acc.length c2) acc.length (acc.flatMap entL))
    case first =>
      go_wp2_with fail
      go_loopw [9, 10, 11] (fun q9 q10 q11 wr => ∃ (i : Nat) (at_ : Int) (acc : List CEnt) (I E : Nat) (a2 : Option Addr) (c2 : Nat), q9 = .int .i64 at_ ∧ q10 = .int .i64 i ∧ i ≤ n2 ∧ 0 ≤ at_ ∧ at_ + ((n2 - i : Nat) : Int) * 1048576 ≤ 1099511627776 ∧ acc.length ≤ i ∧ I ≤ b.length ∧ loopE (n2 - i) at_ (E, b.drop I) acc = loopE n2 0 (e2, b2) [] ∧ DecQ w v2 a cap b.length br #[.slice none 0 0, .slice a2 acc.length c2, .slice a3 ls.length c3] I E wr ∧ wr.ownsRow v2.heap.size 43 5 (.slice a2 acc.length c2) acc.length (acc.flatMap entL)) (fun _ q10 _ _ => n2 - (intOf q10).toNat)
      case atStart => exact ⟨0, 0, [], I2, e2, none, 0, rfl, rfl, by omega, by omega, by simp; omega, by simp, hI2, by rw [HDR2.out]; rfl, HD2n.out, World.ownsRow_nil _ _ _ _⟩
      case round =>
        clear HD2n HOWE2 hr1 hr2 hr3 hc1 hc2 hc3 hI2 HDR2
        obtain ⟨i, at_, acc, I, E, a2, c2, rfl, rfl, hin, ha0, ha1, hac, hI, hl, hD, hown⟩ := hrel
        have HL := Lib.hid hl; clear hl
        have hbrlt2 : br < v2.heap.size := hD.hi
        obtain ⟨hr1, hr2, hr3, hc1, hc2, hc3⟩ := hD.open
        have HD := Lib.hid hD; clear hD
        have HOW := Lib.hid hown; clear hown
        by_cases hlt : i < n2
        · have hlt2 : (i : Int) < n2 := by omega
          by_cases he : E = 0
          · subst he
            have hb0 : (((0 : Nat) : Int) == 0) = true := by decide
            obtain ⟨k1, x1, y1, hk1⟩ : ∃ k x y, rCount 1048576 (0, b.drop I) = (k, x, y) := ⟨_, _, _, rfl⟩
            obtain ⟨k2, x2, y2, hk2⟩ : ∃ k x y, rCount 1048576 (x1, y1) = (k, x, y) := ⟨_, _, _, rfl⟩
            obtain ⟨k3, x3, y3, hk3⟩ : ∃ k x y, rCount 1048576 (x2, y2) = (k, x, y) := ⟨_, _, _, rfl⟩
            obtain ⟨k4, x4, y4, hk4⟩ : ∃ k x y, rCount 1048576 (x3, y3) = (k, x, y) := ⟨_, _, _, rfl⟩
            have hk1m : k1 ≤ 1048576 := by have := rCount_le 1048576 (0, b.drop I); rw [hk1] at this; exact this
            have HKK := Lib.hid (And.intro hk1 (And.intro hk2 (And.intro hk3 hk4)))
            have HE : Hid (rEnt at_ (0, b.drop I) = ((at_, (k1 : Int), (k2 : Int), (k3 : Int), (k4 : Int)), x4, y4)) := Lib.hid (by unfold rEnt; simp only [hk1, hk2, hk3, hk4])
            have hst : loopE (n2 - (i + 1)) (at_ + k1) (x4, y4) (acc ++ [(at_, (k1 : Int), (k2 : Int), (k3 : Int), (k4 : Int))]) = loopE n2 0 (e2, b2) [] := by
              rw [← HL.out, show n2 - i = (n2 - (i + 1)) + 1 by omega, loopE, if_neg (by simp), HE.out]
            have HST := Lib.hid hst; clear hst
            clear hk1 hk2 hk3 hk4
            have HF := Lib.hid (DecF.new HD.out HOW.out 43 #[.int .i64 at_, .int .i64 0, .int .i64 0, .int .i64 0, .int .i64 0] wr.heap.size rfl)
            clear HD HOW
            go_wp2_with (first
              | (go_at_call 23; have hff := HF; refine (ref_upTo a cap b _ (bytes_below HB.out HF.out.q.out (Nat.le_refl _)) I 0 1048576 hI (by omega)).mono ?_; rintro e u1 ⟨hb2, I1, hI1, hd1, rfl⟩; clear hff; rw [HKK.out.1] at hd1 ⊢; dsimp only at hd1 ⊢; have HDR1 := Lib.hid hd1; have hdf := HF.out.below hb2; clear hr1 hr2 hr3 hc1 hc2 hc3; (try clear hf1 hf2 hf3 hf4 hne1 hne2); obtain ⟨hr1, hr2, hr3, hc1, hc2, hc3, hf1, hf2, hf3, hf4⟩ := hdf.open; have hne1 : ¬ br = wr.heap.size := (by omega); have hne2 : ¬ wr.heap.size = br := (by omega); have HF1 := Lib.hid ((hdf.setf 1 (.int .i64 (k1 : Nat)) #[.int .i64 at_, .int .i64 (k1 : Nat), .int .i64 0, .int .i64 0, .int .i64 0] (by rfl)).setr I1 x1); clear hdf HF hd1 hb2)
              | (go_at_call 23; have hff := HF1; refine (ref_upTo a cap b _ (bytes_below HB.out HF1.out.q.out (Nat.le_refl _)) I1 x1 1048576 hI1 (by omega)).mono ?_; rintro e u2 ⟨hb2, I2, hI2, hd2, rfl⟩; clear hff; rw [HDR1.out, HKK.out.2.1] at hd2 ⊢; dsimp only at hd2 ⊢; have HDR2 := Lib.hid hd2; have hdf := HF1.out.below hb2; clear hr1 hr2 hr3 hc1 hc2 hc3; (try clear hf1 hf2 hf3 hf4 hne1 hne2); obtain ⟨hr1, hr2, hr3, hc1, hc2, hc3, hf1, hf2, hf3, hf4⟩ := hdf.open; have hne1 : ¬ br = wr.heap.size := (by omega); have hne2 : ¬ wr.heap.size = br := (by omega); have HF2 := Lib.hid ((hdf.setf 2 (.int .i64 (k2 : Nat)) #[.int .i64 at_, .int .i64 (k1 : Nat), .int .i64 (k2 : Nat), .int .i64 0, .int .i64 0] (by rfl)).setr I2 x2); clear hdf HF1 hd2 hb2)
              | (go_at_call 23; have hff := HF2; refine (ref_upTo a cap b _ (bytes_below HB.out HF2.out.q.out (Nat.le_refl _)) I2 x2 1048576 hI2 (by omega)).mono ?_; rintro e u3 ⟨hb2, I3, hI3, hd3, rfl⟩; clear hff; rw [HDR2.out, HKK.out.2.2.1] at hd3 ⊢; dsimp only at hd3 ⊢; have HDR3 := Lib.hid hd3; have hdf := HF2.out.below hb2; clear hr1 hr2 hr3 hc1 hc2 hc3; (try clear hf1 hf2 hf3 hf4 hne1 hne2); obtain ⟨hr1, hr2, hr3, hc1, hc2, hc3, hf1, hf2, hf3, hf4⟩ := hdf.open; have hne1 : ¬ br = wr.heap.size := (by omega); have hne2 : ¬ wr.heap.size = br := (by omega); have HF3 := Lib.hid ((hdf.setf 3 (.int .i64 (k3 : Nat)) #[.int .i64 at_, .int .i64 (k1 : Nat), .int .i64 (k2 : Nat), .int .i64 (k3 : Nat), .int .i64 0] (by rfl)).setr I3 x3); clear hdf HF2 hd3 hb2))
            refine (ref_upTo a cap b _ (bytes_below HB.out HF3.out.q.out (Nat.le_refl _)) I3 x3 1048576 hI3 (by omega)).mono ?_
            rintro e u4 ⟨hb2, I4, hI4, hd4, rfl⟩
            rw [HDR3.out, HKK.out.2.2.2] at hd4 ⊢
            dsimp only at hd4 ⊢
            have HDR4 := Lib.hid hd4
            have hdf := HF3.out.below hb2
            clear hr1 hr2 hr3 hc1 hc2 hc3 hf1 hf2 hf3 hf4
            obtain ⟨hr1, hr2, hr3, hc1, hc2, hc3, hf1, hf2, hf3, hf4⟩ := hdf.open
            have HF4 := Lib.hid ((hdf.setf 4 (.int .i64 (k4 : Nat)) #[.int .i64 at_, .int .i64 (k1 : Nat), .int .i64 (k2 : Nat), .int .i64 (k3 : Nat), .int .i64 (k4 : Nat)] (by rfl)).setr I4 x4)
            clear hdf HF3 hd4 hb2
            go_wp2_with (first
              | (at_builtin; go_must (refine wpList_append_elemN rfl _ _ 23 rfl v2.heap.size 43 i1 (.agg #[.int .i64 0, .int .i64 0, .int .i64 0, .int .i64 0, .int .i64 0]) 5 40 (by kernel_rfl) hi1 hy0 hy1 hy2 rfl (by decide) a2 c2 acc.length (acc.flatMap entL) [.int .i64 at_, .int .i64 k1, .int .i64 k2, .int .i64 k3, .int .i64 k4] _ rfl HF4.out.o _ rfl (by simp) rfl (by simp [Value.oneCell']) (by simp only [maxLen]; omega) (by omega) HF4.out.q.mod.size ?_); intro a' c' wq hown1 hgrow hp; obtain ⟨hqc, hqf, hql⟩ := HF4.out.q.grown HF4.out.o hgrow; (have hent : Has wq wr.heap.size #[.int .i64 at_, .int .i64 k1, .int .i64 k2, .int .i64 k3, .int .i64 k4] 43 := has_mod HF4.out.f (Mod.of_grown hgrow) (fun e => HF4.out.ne _ e.symm rfl)); have hec := has_cell hent; have hel := has_lt hent; (have HA := Lib.hid (HF4.out.q.add HF4.out.o hgrow hown1 1 #[.slice none 0 0, .slice a' (acc.length + 1) c', .slice a3 ls.length c3] (by rfl))); clear hent hown1 hgrow hp hr1 hr2 hr3 hc1 hc2 hf1 hf2 hf3; (have hne3 : ¬ wr.heap.size = w.heap.size + 1 := by omega); (have hne4 : ¬ w.heap.size + 1 = wr.heap.size := by omega)))
            go_roundw
            case rel => exact ⟨i + 1, at_ + k1, acc ++ [(at_, (k1 : Int), (k2 : Int), (k3 : Int), (k4 : Int))], I4, x4, a', c', rfl, by go_num, by omega, by omega, by omega, by simp; omega, hI4, by rw [HDR4.out]; exact HST.out, by simpa using HA.out.1, by simpa [entL] using HA.out.2⟩
            case measure => (simp [intOf]; try omega)
          · have hb0 : ((E : Int) == 0) = false := by rw [beq_eq_false_iff_ne]; omega
            have HE := Lib.hid he; clear he
            have hfin : Hid (loopE n2 0 (e2, b2) [] = (at_, acc, E, b.drop I)) := Lib.hid (by
              rw [← HL.out, show n2 - i = (n2 - (i + 1)) + 1 by omega, loopE, if_pos HE.out])
            go_wp2_with fail
            go_meet
            exact ⟨at_, acc, I, E, a2, c2, rfl, ha0, by omega, hI, hfin.out, HD.out, HOW.out⟩
        · obtain rfl : i = n2 := by omega
          have hfin : Hid (loopE i 0 (e2, b2) [] = (at_, acc, E, b.drop I)) := Lib.hid (by
            rw [← HL.out, Nat.sub_self]; rfl)
          go_wp2_with fail
          go_meet
          exact ⟨at_, acc, I, E, a2, c2, rfl, ha0, by omega, hI, hfin.out, HD.out, HOW.out⟩
    case rest =>
      clear HD2n hr1 hr2 hr3 hc1 hc2 hc3 hI2 HDR2
      obtain ⟨at_, lf, Ib, Eb, a2, c2, rfl, hat0, hat1, hIb, hT2, hD, hown2⟩ := hcut
      obtain ⟨n3, rfl⟩ := Int.eq_ofNat_of_zero_le hat0
      have hbrlt2 : br < v2.heap.size := hD.hi
      have hbrlt3 : br < wc.heap.size := has_lt hD.rr
      have HWF : Hid (∀ x ∈ lf, entWide x) := Lib.hid (by have := loopE_wide n2 0 (e2, b2) [] (by omega) (by omega) (by simp); rw [hT2] at this; exact this)
      have HWS : Hid (Ea = 0 → ∀ x ∈ ls, x.length ≤ 1048576) := Lib.hid (fun h0 => by
        rcases HS1.out with ⟨_, hT⟩ | ⟨hE, _⟩
        · have := loopS_wide n1 (e1, b1) [] (by simp)
          rw [← hT] at this; exact this
        · exact absurd h0 hE)
      have HRAW : Hid (Ea = 0 → ∀ li r3, loopI n3 (Eb, b.drop Ib) [] = (li, r3) → rawD b = ((li, lf, ls), r3)) := Lib.hid (fun h0 li r3 h3 => by
        rcases HS1.out with ⟨_, hT⟩ | ⟨hE, _⟩
        · have hK := HK.out
          rw [h0] at hK
          exact rawD_of HN1.out hT hK hT2.symm (by rw [Int.toNat_natCast]; exact h3.symm)
        · exact absurd h0 hE)
      have HSTK : Hid (Ea ≠ 0 → Eb = Ea ∧ (rawD b).2.1 = Ea) := Lib.hid (fun h0 => by
        rcases HS1.out with ⟨hE, _⟩ | ⟨_, hT⟩
        · exact absurd hE h0
        · have hK := HK.out
          rw [rCount_stuck (r := (Ea, b.drop Ia)) h0] at hK
          obtain ⟨rfl, hq⟩ : 0 = n2 ∧ (Ea, b.drop Ia) = (e2, b2) := by simpa using hK
          rw [← hq] at hT2
          have h5 : (Ea, b.drop Ia) = (Eb, b.drop Ib) := by have := congrArg (fun x => x.2.2) hT2; exact this
          exact ⟨(congrArg Prod.fst h5).symm, rawD_stuck HN1.out hT h0⟩)
      clear hT2
      have HOW3 := Lib.hid (owns_mod HOWE2.out hD.mod (fun g hg _ e => by have := HBIG.out; have := HLO.out; omega)); clear HOWE2
      have HOW2 := Lib.hid hown2; clear hown2
      have HDn := Lib.hid hD.next
      obtain ⟨hr1, hr2, hr3, hc1, hc2, hc3⟩ := hD.open
      clear hD
      obtain ⟨i2, hi2, hx0, hx1, hx2⟩ := info_parts insinfo
      go_upto_block 4 with fail
      go_cut [12, 13, 14, 15] (fun s12 s13 s14 s15 wx => ∃ (acc : List CIns) (I E : Nat) (a1 : Option Addr) (c1 : Nat), I ≤ b.length ∧ loopI n3 (Eb, b.drop Ib) [] = (acc, E, b.drop I) ∧ (E = 0 → Ea = 0) ∧ DecQ w wc a cap b.length br #[.slice a1 acc.length c1, .slice a2 lf.length c2, .slice a3 ls.length c3] I E wx ∧ wx.ownsRow wc.heap.size 41 3 (.slice a1 acc.length c1) acc.length (acc.flatMap insL))
      case first =>
        go_wp2_with fail
        go_loopw [12, 13, 14, 15] (fun q12 q13 q14 q15 wr => ∃ (i : Nat) (acc : List CIns) (I E : Nat) (a1 : Option Addr) (c1 : Nat), q12 = .int .i64 i ∧ i ≤ n3 ∧ acc.length ≤ i ∧ I ≤ b.length ∧ loopI (n3 - i) (E, b.drop I) acc = loopI n3 (Eb, b.drop Ib) [] ∧ (E = 0 → Ea = 0) ∧ DecQ w wc a cap b.length br #[.slice a1 acc.length c1, .slice a2 lf.length c2, .slice a3 ls.length c3] I E wr ∧ wr.ownsRow wc.heap.size 41 3 (.slice a1 acc.length c1) acc.length (acc.flatMap insL)) (fun q12 _ _ _ _ => n3 - (intOf q12).toNat)
        case atStart =>
          refine ⟨0, [], Ib, Eb, none, 0, rfl, by omega, by simp, hIb, rfl, fun h => ?_, HDn.out, World.ownsRow_nil _ _ _ _⟩
          by_cases h0 : Ea = 0
          · exact h0
          · have := (HSTK.out h0).1; omega
        case round =>
          clear HDn hr1 hr2 hr3 hc1 hc2 hc3
          obtain ⟨i, acc, I, E, a1, c1, rfl, hin, hac, hI, hl, h0a, hD, hown⟩ := hrel
          have HL := Lib.hid hl; clear hl
          have H0A := Lib.hid h0a; clear h0a
          obtain ⟨hr1, hr2, hr3, hc1, hc2, hc3⟩ := hD.open
          have HRES := Lib.hid hD.res
          have hw1 : ∀ j, wr.cell? ⟨w.heap.size, j, none⟩ = #[Value.slice none 0 0, .slice none 0 0, .slice none 0 0][j]? := has_cell hD.res
          have hw2 := has_free hD.res
          have hw3 := has_lt hD.res
          have HOUT := Lib.hid hD.out
          have HD := Lib.hid hD; clear hD
          have HOW := Lib.hid hown; clear hown
          by_cases hlt : i < n3
          · have hlt2 : (i : Int) < n3 := by omega
            by_cases he : E = 0
            · subst he
              have hb0 : (((0 : Nat) : Int) == 0) = true := by decide
              have hst : loopI (n3 - (i + 1)) (rIns (0, b.drop I)).2 (acc ++ [(rIns (0, b.drop I)).1]) = loopI n3 (Eb, b.drop Ib) [] := by
                rw [← HL.out, show n3 - i = (n3 - (i + 1)) + 1 by omega, loopI, if_neg (by simp)]
              have HST := Lib.hid hst; clear hst
              have HEA : Hid (Ea = 0) := Lib.hid (by have := H0A.out; simpa using this)
              by_cases hsh : I = b.length
              · have hfin : Hid (decC b = (([], [], []), 15)) := Lib.hid (by
                  have h1 : rIns (0, b.drop I) = ((0, 0, 0), 15, []) := by rw [hsh, List.drop_of_length_le (Nat.le_refl _)]; exact rIns_short
                  have h2 := HRAW.out HEA.out _ _ rfl
                  refine decC_err ?_ (by decide)
                  rw [h2]
                  show (loopI n3 (Eb, b.drop Ib) []).2.1 = 15
                  rw [← HST.out, h1, loopI_done (r := (15, [])) (show (15 : Nat) ≠ 0 by decide)])
                have hge : (b.length : Int) ≤ I := by omega
                have HSH := Lib.hid hsh; clear hsh
                go_wp2_with fail
                refine ret_row_tmp (p := 2) (u := 3) (by rfl) w.heap.size 26 #[.slice none 0 0, .slice none 0 0, .slice none 0 0] (0, 0) _ (by rfl) (has_alloc (has_set3 (show Has wr w.heap.size #[.slice none 0 0, .slice none 0 0, .slice none 0 0] _ from HRES.out) _ _ _) _) Try.underlying26 rfl (by kernel_rfl) (by rfl) (.int .i64 15) (by rfl) ?_
                rw [hfin.out]
                exact ⟨(((HOUT.out.setCell (Nat.le_refl _) _).setCell (Nat.le_refl _) _).setCell (Nat.le_refl _) _).alloc (by simp; omega) _, _, _, _, rfl, code_nil _⟩
              · have hil : I < b.length := by omega
                have hgb : (b.drop I)[0]'(by rw [List.length_drop]; omega) = b[I] := by simp
                obtain ⟨bb, off, rfl, hblt, g0⟩ := bytes_at HB.out hil
                rw [← HOUT.out.cell (p := ⟨bb, _, none⟩) hblt] at g0
                have hbl2 : bb < wr.heap.size := Nat.lt_of_lt_of_le hblt HOUT.out.size
                have hc256 := UInt8.toNat_lt b[I]
                obtain ⟨c, hcE⟩ : ∃ c, b[I].toNat = c := ⟨_, rfl⟩
                have hlen0 : 0 < (b.drop I).length := by rw [List.length_drop]; omega
                have HCE : Hid ((b.drop I)[0].toNat = c) := Lib.hid (by rw [hgb]; exact hcE)
                have HL0 := Lib.hid hlen0
                unfold byteV at g0
                rw [hcE] at g0 hc256
                clear hgb hcE
                have hge : ¬(b.length : Int) ≤ I := by omega
                by_cases hbad : c < 1 ∨ 26 < c
                · have hfin : Hid (decC b = (([], [], []), 23)) := Lib.hid (by
                    have h1 := rIns_bad HL0.out HCE.out hbad
                    have h2 := HRAW.out HEA.out _ _ rfl
                    refine decC_err ?_ (by decide)
                    rw [h2]
                    show (loopI n3 (Eb, b.drop Ib) []).2.1 = 23
                    rw [← HST.out, loopI_done (r := (rIns (0, b.drop I)).2) (by rw [h1]; decide)]
                    exact h1)
                  have hcs : ((c : Int) == 0) = true ∨ (((c : Int) == 0) = false ∧ (26 : Int) < c) := by
                    by_cases h0 : c = 0
                    · left; rw [beq_iff_eq]; omega
                    · right; exact ⟨by rw [beq_eq_false_iff_ne]; omega, by omega⟩
                  clear hbad
                  rcases hcs with h0 | ⟨h0, h26⟩
                  all_goals
                    go_wp2_with fail
                    refine ret_row_tmp (p := 2) (u := 3) (by rfl) w.heap.size 26 #[.slice none 0 0, .slice none 0 0, .slice none 0 0] (0, 0) _ (by rfl) (has_alloc (has_set3 (show Has wr w.heap.size #[.slice none 0 0, .slice none 0 0, .slice none 0 0] _ from HRES.out) _ _ _) _) Try.underlying26 rfl (by kernel_rfl) (by rfl) (.int .i64 23) (by rfl) ?_
                    rw [hfin.out]
                    exact ⟨(((HOUT.out.setCell (Nat.le_refl _) _).setCell (Nat.le_refl _) _).setCell (Nat.le_refl _) _).alloc (by simp; omega) _, _, _, _, rfl, code_nil _⟩
                · have c1' : ¬ (c : Int) < 1 := by omega
                  have c2' : ¬ (26 : Int) < c := by omega
                  have c3' : ((c : Int) == 0) = false := by rw [beq_eq_false_iff_ne]; omega
                  have hI1' : I + 1 ≤ b.length := by omega
                  have hwr : wrap64 ((I : Int) + 1) = (I : Int) + 1 := by have := HCM.out.2; exact IntWalk.wrap64_in _ (by omega)
                  obtain ⟨u, ee1, bb1, hu⟩ : ∃ u ee1 bb1, rNum (0, b.drop (I + 1)) = (u, ee1, bb1) := ⟨_, _, _, rfl⟩
                  obtain ⟨l, ee2, bb2, hl2⟩ : ∃ l ee2 bb2, rCount 2147483647 (ee1, bb1) = (l, ee2, bb2) := ⟨_, _, _, rfl⟩
                  have hule : u < 18446744073709551616 := by have := num_lt (0, b.drop (I + 1)); rw [hu] at this; exact this
                  have hll : l ≤ 2147483647 := by have := rCount_le 2147483647 (ee1, bb1); rw [hl2] at this; exact this
                  have HI : Hid (rIns (0, b.drop I) = ((c, unzz u, (l : Int)), ee2, bb2)) := Lib.hid (rIns_good HL0.out HCE.out hbad (by rw [List.drop_drop]; exact hu) hl2)
                  have HU := Lib.hid hu; clear hu
                  have HL2 := Lib.hid hl2; clear hl2
                  have hu2 : (u : Int) < 18446744073709551616 := by omega
                  have HU2 := Lib.hid hu2; clear hu2
                  have HULE := Lib.hid hule; clear hule
                  have HF0 := Lib.hid (DecF.new (HD.out.seti (I + 1)) (owns_setr1 HOW.out hbrlt3) 41 #[.int .u8 (c : Nat), .int .i64 0, .int .i64 0] wr.heap.size (by simp))
                  have hcast : ((I : Int) + 1) = ((I + 1 : Nat) : Int) := by omega
                  have HCAST := Lib.hid hcast; clear hcast
                  go_wp2_with fail
                  rw [HCAST.out]
                  refine (ref_take (some ⟨bb, off, none⟩) cap b _ (bytes_below HB.out HF0.out.q.out (Nat.le_refl _)) (I + 1) 0 hI1').mono ?_
                  rintro e u1 ⟨hb2, I2, hI2, hd2, rfl⟩
                  rw [HU.out] at hd2 ⊢
                  dsimp only at hd2 ⊢
                  have HD2 := Lib.hid hd2; clear hd2
                  have HF1 := Lib.hid (HF0.out.below hb2); clear HF0 hb2 HD HOW
                  clear hr1 hr2 hr3 hc1 hc2 hc3 hw1 hw2 hw3 HRES HOUT
                  obtain ⟨hr1, hr2, hr3, hc1, hc2, hc3, hf1, hf2, hf3, hf4⟩ := HF1.out.open
                  have hne1 : ¬ br = wr.heap.size := by omega
                  have hne2 : ¬ wr.heap.size = br := by omega
                  clear hwr
                  have hu2 := HU2.out
                  by_cases hod : u % 2 = 1
                  · have hmod : ((u : Int) % 2 == 1) = true := by rw [beq_iff_eq]; omega
                    have HZ : Hid (unzz u = (-((u : Int) / 2) - 1)) := Lib.hid (by unfold unzz; rw [if_pos hod]; omega)
                    have HFa := Lib.hid (((HF1.out.setf 1 (.int .i64 ((u : Int) / 2)) #[.int .u8 (c : Nat), .int .i64 ((u : Int) / 2), .int .i64 0] (by rfl)).setf 1 (.int .i64 (-((u : Int) / 2) - 1)) #[.int .u8 (c : Nat), .int .i64 (-((u : Int) / 2) - 1), .int .i64 0] (by rfl)).alloc (.cells #[.slice (some ⟨bb, off, none⟩) b.length cap, .int .i64 I2, .int .i64 ee1] 61))
                    clear hod
                    go_wp2_with fail
                    refine (ref_upTo (some ⟨bb, off, none⟩) cap b _ (bytes_below HB.out HFa.out.q.out (Nat.le_refl _)) I2 ee1 2147483647 hI2 (by omega)).mono ?_
                    rintro e u2 ⟨hb3, I3, hI3, hd3, rfl⟩
                    rw [HD2.out, HL2.out] at hd3 ⊢
                    dsimp only at hd3 ⊢
                    have HD3 := Lib.hid hd3
                    have hdf := HFa.out.below hb3
                    clear hr1 hr2 hr3 hc1 hc2 hc3 hf1 hf2 hf3 hf4
                    obtain ⟨hr1, hr2, hr3, hc1, hc2, hc3, hf1, hf2, hf3, hf4⟩ := hdf.open
                    have HFb := Lib.hid ((hdf.setf 2 (.int .i64 (l : Nat)) #[.int .u8 (c : Nat), .int .i64 (-((u : Int) / 2) - 1), .int .i64 (l : Nat)] (by rfl)).setr I3 ee2)
                    clear hdf HFa hd3 hb3
                    clear hmod g0 hu2
                    have hnx : Hid (loopI (n3 - (i + 1)) (ee2, b.drop I3) (acc ++ [(c, (-((u : Int) / 2) - 1), (l : Int))]) = loopI n3 (Eb, b.drop Ib) []) := Lib.hid (by rw [← HST.out, HI.out, HD3.out, HZ.out])
                    go_wp2_with (at_builtin; go_must (refine wpList_append_elemN rfl _ _ 22 rfl wc.heap.size 41 i2 (.agg #[.int .u8 0, .int .i64 0, .int .i64 0]) 3 24 (by kernel_rfl) hi2 hx0 hx1 hx2 rfl (by decide) a1 c1 acc.length (acc.flatMap insL) [.int .u8 (c : Nat), .int .i64 (-((u : Int) / 2) - 1), .int .i64 (l : Nat)] _ rfl HFb.out.o _ rfl (by simp) rfl (by simp [Value.oneCell']) (by simp only [maxLen]; omega) (by omega) HFb.out.q.mod.size ?_); intro a' c' wq hown1 hgrow hp; obtain ⟨hqc, hqf, hql⟩ := HFb.out.q.grown HFb.out.o hgrow; (have HA := Lib.hid (HFb.out.q.add HFb.out.o hgrow hown1 0 #[.slice a' (acc.length + 1) c', .slice a2 lf.length c2, .slice a3 ls.length c3] (by rfl))); clear hown1 hgrow hp hr1 hr2 hr3 hc1 hc2 hf1 hf2 hf3)
                    go_roundw
                    case rel => exact ⟨i + 1, acc ++ [(c, (-((u : Int) / 2) - 1), (l : Int))], I3, ee2, a', c', by go_num, by omega, by simp; omega, hI3, hnx.out, fun _ => HEA.out, by simpa using HA.out.1, by simpa [insL] using HA.out.2⟩
                    case measure => (simp [intOf]; try omega)
                  · have hmod : ((u : Int) % 2 == 1) = false := by rw [beq_eq_false_iff_ne]; omega
                    have HZ : Hid (unzz u = ((u : Int) / 2)) := Lib.hid (by unfold unzz; rw [if_neg hod]; omega)
                    have HFa := Lib.hid (((HF1.out.setf 1 (.int .i64 ((u : Int) / 2)) #[.int .u8 (c : Nat), .int .i64 ((u : Int) / 2), .int .i64 0] (by rfl))).alloc (.cells #[.slice (some ⟨bb, off, none⟩) b.length cap, .int .i64 I2, .int .i64 ee1] 61))
                    clear hod
                    go_wp2_with fail
                    refine (ref_upTo (some ⟨bb, off, none⟩) cap b _ (bytes_below HB.out HFa.out.q.out (Nat.le_refl _)) I2 ee1 2147483647 hI2 (by omega)).mono ?_
                    rintro e u2 ⟨hb3, I3, hI3, hd3, rfl⟩
                    rw [HD2.out, HL2.out] at hd3 ⊢
                    dsimp only at hd3 ⊢
                    have HD3 := Lib.hid hd3
                    have hdf := HFa.out.below hb3
                    clear hr1 hr2 hr3 hc1 hc2 hc3 hf1 hf2 hf3 hf4
                    obtain ⟨hr1, hr2, hr3, hc1, hc2, hc3, hf1, hf2, hf3, hf4⟩ := hdf.open
                    have HFb := Lib.hid ((hdf.setf 2 (.int .i64 (l : Nat)) #[.int .u8 (c : Nat), .int .i64 ((u : Int) / 2), .int .i64 (l : Nat)] (by rfl)).setr I3 ee2)
                    clear hdf HFa hd3 hb3
                    clear hmod g0 hu2
                    have hnx : Hid (loopI (n3 - (i + 1)) (ee2, b.drop I3) (acc ++ [(c, ((u : Int) / 2), (l : Int))]) = loopI n3 (Eb, b.drop Ib) []) := Lib.hid (by rw [← HST.out, HI.out, HD3.out, HZ.out])
                    go_wp2_with (at_builtin; go_must (refine wpList_append_elemN rfl _ _ 22 rfl wc.heap.size 41 i2 (.agg #[.int .u8 0, .int .i64 0, .int .i64 0]) 3 24 (by kernel_rfl) hi2 hx0 hx1 hx2 rfl (by decide) a1 c1 acc.length (acc.flatMap insL) [.int .u8 (c : Nat), .int .i64 ((u : Int) / 2), .int .i64 (l : Nat)] _ rfl HFb.out.o _ rfl (by simp) rfl (by simp [Value.oneCell']) (by simp only [maxLen]; omega) (by omega) HFb.out.q.mod.size ?_); intro a' c' wq hown1 hgrow hp; obtain ⟨hqc, hqf, hql⟩ := HFb.out.q.grown HFb.out.o hgrow; (have HA := Lib.hid (HFb.out.q.add HFb.out.o hgrow hown1 0 #[.slice a' (acc.length + 1) c', .slice a2 lf.length c2, .slice a3 ls.length c3] (by rfl))); clear hown1 hgrow hp hr1 hr2 hr3 hc1 hc2 hf1 hf2 hf3)
                    go_roundw
                    case rel => exact ⟨i + 1, acc ++ [(c, ((u : Int) / 2), (l : Int))], I3, ee2, a', c', by go_num, by omega, by simp; omega, hI3, hnx.out, fun _ => HEA.out, by simpa using HA.out.1, by simpa [insL] using HA.out.2⟩
                    case measure => (simp [intOf]; try omega)
            · have hb0 : ((E : Int) == 0) = false := by rw [beq_eq_false_iff_ne]; omega
              have HE := Lib.hid he; clear he
              have hfin : Hid (loopI n3 (Eb, b.drop Ib) [] = (acc, E, b.drop I)) := Lib.hid (by
                rw [← HL.out, show n3 - i = (n3 - (i + 1)) + 1 by omega, loopI, if_pos HE.out])
              clear hw1 hw2 hw3
              go_wp2_with fail
              go_meet
              exact ⟨acc, I, E, a1, c1, hI, hfin.out, H0A.out, HD.out, HOW.out⟩
          · obtain rfl : i = n3 := by omega
            have hfin : Hid (loopI i (Eb, b.drop Ib) [] = (acc, E, b.drop I)) := Lib.hid (by
              rw [← HL.out, Nat.sub_self]; rfl)
            clear hw1 hw2 hw3
            go_wp2_with fail
            go_meet
            exact ⟨acc, I, E, a1, c1, hI, hfin.out, H0A.out, HD.out, HOW.out⟩
      case rest =>
        clear HDn hr1 hr2 hr3 hc1 hc2 hc3
        obtain ⟨li, I, E, a1, c1, hI, hT3, h0a, hD, hown1⟩ := hcut
        have HBIG2 := Lib.hid hD.hi
        have hwide : ∀ x ∈ li, insWide x := by have := loopI_wide n3 (Eb, b.drop Ib) [] (by simp); rw [hT3] at this; exact this
        have HRW : Hid (Ea = 0 → rawD b = ((li, lf, ls), (E, b.drop I))) := Lib.hid (fun h => HRAW.out h _ _ hT3)
        have HER : Hid (Ea ≠ 0 → E = Ea ∧ (rawD b).2.1 = Ea) := Lib.hid (fun h => by
          obtain ⟨h1, h2⟩ := HSTK.out h
          have h3 := loopI_done (r := (Eb, b.drop Ib)) (by show Eb ≠ 0; rw [h1]; exact h) n3 []
          rw [hT3] at h3
          exact ⟨by have := congrArg Prod.fst h3; dsimp only at this; omega, h2⟩)
        clear hT3
        have HO1 := Lib.hid hown1
        have HO2 := Lib.hid (owns_mod HOW2.out hD.mod (fun g hg _ e => by have := HLO.out; omega))
        have HO3 := Lib.hid (owns_mod HOW3.out hD.mod (fun g hg _ e => by have := HLO.out; omega))
        have HD := Lib.hid hD
        have HRES := Lib.hid hD.res
        have HCOD := Lib.hid hD.code
        obtain ⟨hr1, hr2, hr3, hc1, hc2, hc3⟩ := hD.open
        have hw1 : ∀ j, wc.cell? ⟨w.heap.size, j, none⟩ = #[Value.slice none 0 0, .slice none 0 0, .slice none 0 0][j]? := has_cell hD.res
        have hw2 := has_free hD.res
        have hw3 := has_lt hD.res
        have HOUT := Lib.hid hD.out
        clear hD hown1
        by_cases he : E = 0
        · subst he
          clear hw1 hw2 hw3
          have hbo : (((0 : Nat) : Int) != 0) = false := by decide
          have hEa : Ea = 0 := by simpa using h0a
          have HDC := Lib.hid (decC_cases (HRW.out hEa))
          have HEA0 := Lib.hid hEa
          clear hEa h0a
          by_cases hrb : I < b.length
          · have hfin : Hid (decC b = (([], [], []), 16)) := Lib.hid (by rw [HDC.out, if_neg (by simp), if_pos (by rw [List.length_drop]; omega)])
            have hrb2 : (I : Int) < b.length := by omega
            go_wp2_with (refine wpList_store_row rfl _ _ _ rfl w.heap.size 26 #[.slice none 0 0, .slice none 0 0, .slice none 0 0] #[.slice none 0 0, .slice none 0 0, .slice none 0 0] rfl rfl HRES.out (by kernel_rfl) rfl (by simp [Value.oneCell']) ?_)
            refine ret_row_tmp (p := 2) (u := 3) (by rfl) w.heap.size 26 #[.slice none 0 0, .slice none 0 0, .slice none 0 0] (0, 0) _ (by rfl) (setRow_heap _ _ _ _ _ _ HRES.out) Try.underlying26 rfl (by kernel_rfl) (by rfl) (.int .i64 16) (by rfl) ?_
            rw [hfin.out]
            exact ⟨below_setRow HOUT.out (Nat.le_refl _) _, _, _, _, rfl, code_nil _⟩
          · have hrb2 : ¬(I : Int) < b.length := by omega
            have HLE : Hid (¬ 0 < (b.drop I).length) := Lib.hid (by rw [List.length_drop]; omega)
            have wE : ∀ x ∈ lf, entWide x := HWF.out
            have wS : ∀ x ∈ ls, x.length ≤ 1048576 := HWS.out (HEA0.out)
            have HCA := Lib.hid (code_of HO1.out HO2.out HO3.out hwide wE wS)
            have HWW := Lib.hid (And.intro hwide (And.intro wE wS)); clear wE wS hwide
            by_cases hm : mayC (li, lf, ls) = true
            · have hfin : Hid (decC b = ((li, lf, ls), 0)) := Lib.hid (by rw [HDC.out, if_neg (by simp), if_neg HLE.out, if_pos hm])
              have HM := Lib.hid hm; clear hm
              go_wp2_with (first
                | (refine wpList_load_row rfl _ _ rfl (w.heap.size + 1) rfl 26 _ (0, 0) _ HCOD.out Try.underlying26 rfl (by kernel_rfl) ?_)
                | (go_at_call 9; refine (ref15_May _ _ _ _ _ HCA.out).mono ?_; rintro e w7 ⟨rfl, hb7⟩; rw [HM.out]; have HCOD7 := Lib.hid (has_belowT HCOD.out hb7); have HRES7 := Lib.hid (has_belowT HRES.out hb7); have HB7 := Lib.hid hb7; clear hb7)
                | (refine wpList_load_row rfl _ _ rfl (w.heap.size + 1) rfl 26 _ (0, 0) _ HCOD7.out Try.underlying26 rfl (by kernel_rfl) ?_)
                | (refine wpList_store_row rfl _ _ _ rfl w.heap.size 26 #[.slice none 0 0, .slice none 0 0, .slice none 0 0] _ rfl rfl HRES7.out (by kernel_rfl) rfl (by simp [Value.oneCell']) ?_))
              refine ret_row_tmp (p := 2) (u := 3) (by rfl) w.heap.size 26 _ (0, 0) _ (by rfl) (setRow_heap _ _ _ _ _ _ HRES7.out) Try.underlying26 rfl (by kernel_rfl) (by rfl) (.int .i64 0) (by rfl) ?_
              rw [hfin.out]
              have hbb := HOUT.out.trans (HB7.out.mono HOUT.out.size)
              have hm8 := (Mod.refl (fun k => k = w.heap.size) w7).setRow w.heap.size #[.slice a1 li.length c1, .slice a2 lf.length c2, .slice a3 ls.length c3] (.inr rfl)
              refine ⟨below_setRow hbb (Nat.le_refl _) _, _, _, _, rfl, code_of (owns_mod (owns_old HO1.out HB7.out) hm8 (fun g hg _ e => ?_)) (owns_mod (owns_old HO2.out HB7.out) hm8 (fun g hg _ e => ?_)) (owns_mod (owns_old HO3.out HB7.out) hm8 (fun g hg _ e => ?_)) HWW.out.1 HWW.out.2.1 HWW.out.2.2⟩
              · have := HBIG2.out; have := HLO.out; omega
              · have := HLO.out; omega
              · have := HLO.out; omega
            · have hfin : Hid (decC b = (([], [], []), 2)) := Lib.hid (by rw [HDC.out, if_neg (by simp), if_neg HLE.out, if_neg hm])
              have HM := Lib.hid (show mayC (li, lf, ls) = false by simpa using hm); clear hm
              go_wp2_with (first
                | (refine wpList_load_row rfl _ _ rfl (w.heap.size + 1) rfl 26 _ (0, 0) _ HCOD.out Try.underlying26 rfl (by kernel_rfl) ?_)
                | (go_at_call 9; refine (ref15_May _ _ _ _ _ HCA.out).mono ?_; rintro e w7 ⟨rfl, hb7⟩; rw [HM.out]; have HCOD7 := Lib.hid (has_belowT HCOD.out hb7); have HRES7 := Lib.hid (has_belowT HRES.out hb7); have HB7 := Lib.hid hb7; clear hb7)
                | (refine wpList_load_row rfl _ _ rfl (w.heap.size + 1) rfl 26 _ (0, 0) _ HCOD7.out Try.underlying26 rfl (by kernel_rfl) ?_)
                | (refine wpList_store_row rfl _ _ _ rfl w.heap.size 26 #[.slice none 0 0, .slice none 0 0, .slice none 0 0] #[.slice none 0 0, .slice none 0 0, .slice none 0 0] rfl rfl HRES7.out (by kernel_rfl) rfl (by simp [Value.oneCell']) ?_))
              refine ret_row_tmp (p := 2) (u := 3) (by rfl) w.heap.size 26 #[.slice none 0 0, .slice none 0 0, .slice none 0 0] (0, 0) _ (by rfl) (setRow_heap _ _ _ _ _ _ HRES7.out) Try.underlying26 rfl (by kernel_rfl) (by rfl) (.int .i64 2) (by rfl) ?_
              rw [hfin.out]
              exact ⟨below_setRow (HOUT.out.trans (HB7.out.mono HOUT.out.size)) (Nat.le_refl _) _, _, _, _, rfl, code_nil _⟩
        · have hfin : Hid (decC b = (([], [], []), E)) := Lib.hid (by
            by_cases h0 : Ea = 0
            · exact decC_err (by rw [HRW.out h0]) he
            · obtain ⟨h1, h2⟩ := HER.out h0
              exact decC_err (by rw [h2, h1]) he)
          have hbo : ((E : Int) != 0) = true := by rw [bne_iff_ne]; omega
          have HE := Lib.hid he; clear he h0a hwide
          go_wp2_with fail
          go_region
          all_goals
            go_wp2_with fail
            refine ret_row_tmp (p := 2) (u := 3) (by rfl) w.heap.size 26 #[.slice none 0 0, .slice none 0 0, .slice none 0 0] (0, 0) _ (by rfl) (has_drew (has_set3 (show Has wc w.heap.size #[.slice none 0 0, .slice none 0 0, .slice none 0 0] _ from HRES.out) _ _ _)) Try.underlying26 rfl (by kernel_rfl) (by rfl) (.int .i64 E) (by rfl) ?_
            rw [hfin.out]
            exact ⟨((((HOUT.out.setCell (Nat.le_refl _) _).setCell (Nat.le_refl _) _).setCell (Nat.le_refl _) _)).drew, _, _, _, rfl, code_nil _⟩
end Go.Proofs.Ytcmpcbpdnaodmaa
