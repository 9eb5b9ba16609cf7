/- num.Text and the reference's Text: the walks. -/
import Derived.Test.YtejgkbkangjfnaaNumOps
import Derived.Test.YtejgkbkangjfnaaDecPlain
namespace Go.Proofs.Ytejgkbkangjfnaa
open Go.RowKit
set_option linter.unusedVariables false

/-- A row of 20 bytes whose end is l. -/
def tail20 (l : List UInt8) : Array Value := (List.replicate (20 - l.length) (Value.int .u8 0) ++ l.map fun c => Value.int .u8 (c.toNat : Int)).toArray
theorem tail20_nil : tail20 [] = #[.int .u8 0, .int .u8 0, .int .u8 0, .int .u8 0, .int .u8 0, .int .u8 0, .int .u8 0, .int .u8 0, .int .u8 0, .int .u8 0, .int .u8 0, .int .u8 0, .int .u8 0, .int .u8 0, .int .u8 0, .int .u8 0, .int .u8 0, .int .u8 0, .int .u8 0, .int .u8 0] := rfl
theorem tail20_get (l : List UInt8) (p : Nat) (h : p + 1 + l.length = 20) : (tail20 l)[p]? = some (.int .u8 0) := by
  unfold tail20
  rw [List.getElem?_toArray, List.getElem?_append_left (by simp; omega), List.getElem?_replicate, if_pos (by omega)]
theorem tail20_set (l : List UInt8) (p : Nat) (h : p + 1 + l.length = 20) (c : UInt8) : (tail20 l).setIfInBounds p (.int .u8 (c.toNat : Int)) = tail20 (c :: l) := by
  unfold tail20
  rw [List.setIfInBounds_toArray, List.set_append_left _ _ (by simp; omega)]
  congr 1
  rw [List.length_cons, show 20 - l.length = p + 1 by omega, show 20 - (l.length + 1) = p by omega, List.replicate_succ', List.set_append_right _ _ (by simp)]
  simp
theorem tail20_cell (w : World) (l : List UInt8) (p : Nat) (h : p + l.length = 20) (t : TypeId) (i : Nat) (hi : i < l.length) :
    (w.alloc (.cells (tail20 l) t)).cell? ⟨w.heap.size, p + i, none⟩ = some (.int .u8 ((l.map fun c => (c.toNat : Int)).getD i 0)) := by
  rw [World.cell?_alloc_at _ _ _ _ rfl]
  unfold tail20
  rw [List.getElem?_toArray, List.getElem?_append_right (by simp; omega)]
  simp [show p + i - (20 - l.length) = i by omega, List.getD, List.getElem?_eq_getElem hi]
theorem strOf_map (l : List UInt8) : strOfNums (l.map fun c => (c.toNat : Int)) = ⟨l.toArray⟩ := by
  unfold strOfNums
  congr 2
  rw [List.map_map]
  refine (List.map_congr_left fun c _ => ?_).trans (List.map_id _)
  simp
theorem conv20 {P : Program} (w : World) (l : List UInt8) (p : Nat) (h : p + l.length = 20) (t src e dst : TypeId) (hs : P.underlying src = some (.slice e)) (he : P.underlying e = some (.int .u8)) (hd : P.underlying dst = some .string) (cap : Nat) :
    (convert src dst (.slice (some ⟨w.heap.size, p, none⟩) (20 - p) cap)).run P (w.alloc (.cells (tail20 l) t)) = .ok (.string ⟨l.toArray⟩) (w.alloc (.cells (tail20 l) t)) := by
  have := run_convert_bytes_arg (P := P) (w.alloc (.cells (tail20 l) t)) src e hs he w.heap.size p (20 - p) cap (l.map fun c => (c.toNat : Int)) (by simp; omega)
    (fun i hi => tail20_cell w l p h t i (by omega)) dst hd
  rw [this, strOf_map]

/-- One digit taken off below 0. -/
theorem off_digit (M : Nat) : (-(M : Int)).tmod 10 = -((M % 10 : Nat) : Int) ∧ (-(M : Int)).tdiv 10 = -((M / 10 : Nat) : Int) := by
  constructor
  · rw [Int.neg_tmod, Int.tmod_eq_emod_of_nonneg (by omega)]; omega
  · rw [Int.neg_tdiv, Int.tdiv_eq_ediv_of_nonneg (by omega)]; omega
theorem itext_neg (a : Int) (N : Nat) (h : a < 0) (hN : absI a = N) : itext a = 45 :: decL N := by
  unfold itext absI at *; rw [if_pos h] at *; rw [hN]; rfl
theorem itext_pos (a : Int) (N : Nat) (h : ¬ a < 0) (hN : absI a = N) : itext a = decL N := by
  unfold itext absI at *; rw [if_neg h] at *; rw [hN]; rfl
theorem ten_small (N j : Nat) (hN : N ≤ 9223372036854775808) (h : N / 10 ^ j ≠ 0) : j ≤ 18 := by
  rcases Nat.lt_or_ge 18 j with h1 | h1
  · exfalso; apply h
    refine Nat.div_eq_of_lt (Nat.lt_of_le_of_lt hN ?_)
    calc 9223372036854775808 < 10 ^ 19 := by decide
      _ ≤ 10 ^ j := Nat.pow_le_pow_right (by decide) h1
  · exact h1

set_option maxHeartbeats 1000000 in
theorem num_Text (a : Int) (wa : (Lit.int .i64 a).wf = true) (w : World) : Calls Try.prog 28 #[.int .i64 a] w fun e w' => e = .returned (.string ⟨(itext a).toArray⟩) ∧ Below w.heap.size w w' := by
  obtain ⟨N, hN⟩ : ∃ N : Nat, absI a = N := ⟨(absI a).toNat, by have := (abs_bd wa).1; omega⟩
  have hNb : N ≤ 9223372036854775808 := by have := (abs_bd wa).2; omega
  have hw := wf64 wa
  obtain ⟨L, hL⟩ : ∃ L : Int, L = -(N : Int) := ⟨_, rfl⟩
  have e0 : (0 < a ∧ -a = L) ∨ (¬ 0 < a ∧ a = L) := by
    unfold absI at hN
    split at hN
    · right; omega
    · by_cases h : 0 < a
      · left; omega
      · right; omega
  have HN := Lib.hid hN
  have HN2 := Lib.hid hN; clear hN
  have HL := Lib.hid hL; clear hL
  go_enter Try.func28, Try.ntmps28
  go_upto_if 8 with (fail)
  go_cut [5] (fun s5 wx => s5 = .int .i64 L ∧ wx = w.alloc (.cells (tail20 []) 52))
  case first =>
    rcases e0 with ⟨h1, h2⟩ | ⟨h1, h2⟩
    · go_wp2
      go_meet
      case rel => exact ⟨rfl, rfl⟩
    · subst h2
      go_wp2
      go_meet
      case rel => exact ⟨rfl, rfl⟩
  case rest =>
    obtain ⟨rfl, rfl⟩ := hcut
    clear e0
    go_wp2_with fail
    go_loopw [4,5] (fun at_ l wr => ∃ p j : Nat, p + j = 20 ∧ (j = 0 ∨ N / 10 ^ j ≠ 0) ∧ at_ = .int .i64 p ∧ l = .int .i64 (-((N / 10 ^ j : Nat) : Int)) ∧ wr = w.alloc (.cells (tail20 (suf N j)) 52)) (fun at_ _ _ => (intOf at_).toNat)
    case atStart => exact ⟨20, 0, rfl, .inl rfl, rfl, by simp [HL.out], rfl⟩
    case round =>
      obtain ⟨p1, j, hp, hj, rfl, rfl, rfl⟩ := hrel
      have hj18 : j ≤ 18 := by
        rcases hj with h | h
        · omega
        · exact ten_small N j hNb h
      obtain ⟨p, rfl⟩ : ∃ p, p1 = p + 1 := ⟨p1 - 1, by omega⟩
      have hM : N / 10 ^ j ≤ 9223372036854775808 := Nat.le_trans (Nat.div_le_self _ _) hNb
      have hsuf : suf N (j + 1) = dgt (N / 10 ^ j % 10) :: suf N j := rfl
      have hdd : N / 10 ^ j / 10 = N / 10 ^ (j + 1) := by rw [Nat.div_div_eq_div_mul, Nat.pow_succ]
      have hlen := suf_len N j
      have hget := tail20_get (suf N j) p (by omega)
      have hset := tail20_set (suf N j) p (by omega) (dgt (N / 10 ^ j % 10))
      rw [← hsuf, dgt_toNat (by omega)] at hset
      obtain ⟨f1, f2⟩ := off_digit (N / 10 ^ j)
      rw [hdd] at f2
      generalize hMM : N / 10 ^ j = M at *
      have HM := Lib.hid hMM; clear hMM hdd
      obtain ⟨m, hm⟩ : ∃ m : Nat, M % 10 = m := ⟨_, rfl⟩
      have hm9 : m ≤ 9 := by omega
      rw [hm] at f1 hset
      clear hm
      have hset' : (tail20 (suf N j)).setIfInBounds p (.int .u8 (48 + (m : Int))) = tail20 (suf N (j + 1)) := by rw [← hset]; congr 1
      clear hset
      obtain ⟨L1, hL1⟩ : ∃ L1 : Int, -(M : Int) = L1 := ⟨_, rfl⟩
      rw [hL1] at f1 f2 ⊢
      have b1 : L1 ≤ 0 := by omega
      have b2 : -9223372036854775808 ≤ L1 := by omega
      have b3 : (0 : Int) ≤ m := by omega
      have b4 : (m : Int) ≤ 9 := by omega
      have b5 : (p : Int) < 20 := by omega
      have HL1 := Lib.hid hL1; clear hL1 HN HL hsuf hlen
      by_cases hz : N / 10 ^ (j + 1) = 0
      · rw [hz] at f2
        have hdec : suf N (j + 1) = decL N := suf_dec (j + 1) N hz (by omega) (by
          rcases hj with h | h
          · left; omega
          · right; rw [show j + 1 - 1 = j from rfl, HM.out]; exact h)
        rw [hdec] at hset'
        have hlen : (decL N).length = j + 1 := by rw [← hdec, suf_len]
        by_cases hneg : a < 0
        · obtain ⟨q, rfl⟩ : ∃ q, p = q + 1 := ⟨p - 1, by omega⟩
          have hg2 := tail20_get (decL N) q (by omega)
          have hs2 := tail20_set (decL N) q (by omega) 45
          have hs3 : (tail20 (decL N)).setIfInBounds q (.int .u8 45) = tail20 (45 :: decL N) := hs2
          clear hs2
          have hi := itext_neg a N hneg HN2.out
          have hc := fun src e dst hs he hd cap => conv20 (P := Try.prog) w (45 :: decL N) q (by simp; omega) 52 src e dst hs he hd cap
          have hn : ¬ 20 = q := by omega
          have q0 : (0 : Int) ≤ q := by omega
          have q1 : (q : Int) ≤ 20 := by omega
          have hcc := hc 53 5 9 Try.underlying53 Try.underlying5 Try.underlying9
          clear hc
          go_wp2_with fail
          go_ret
          exact ⟨by first | rfl | ((rw [hi]) <;> rfl), (by repeat' (first | exact Below.refl _ _ | assumption | (refine thenB ?_ (by assumption)) | (refine belowN ?_ _) | (refine Below.alloc ?_ (by first | simp; done | (simp; omega) | omega) _) | (refine below_setRow ?_ (by first | simp; done | (simp; omega) | omega) _) | (refine Below.setCell ?_ (by first | simp; done | (simp; omega) | omega) _)))⟩
        · have hi := itext_pos a N hneg HN2.out
          have hc := fun src e dst hs he hd cap => conv20 (P := Try.prog) w (decL N) p (by omega) 52 src e dst hs he hd cap
          have hn : ¬ 20 = p := by omega
          have q0 : (0 : Int) ≤ p := by omega
          have q1 : (p : Int) ≤ 20 := by omega
          have hcc := hc 53 5 9 Try.underlying53 Try.underlying5 Try.underlying9
          clear hc
          go_wp2_with fail
          go_ret
          exact ⟨by first | rfl | ((rw [hi]) <;> rfl), (by repeat' (first | exact Below.refl _ _ | assumption | (refine thenB ?_ (by assumption)) | (refine belowN ?_ _) | (refine Below.alloc ?_ (by first | simp; done | (simp; omega) | omega) _) | (refine below_setRow ?_ (by first | simp; done | (simp; omega) | omega) _) | (refine Below.setCell ?_ (by first | simp; done | (simp; omega) | omega) _)))⟩
      · have hM2 : N / 10 ^ (j + 1) ≤ 9223372036854775808 := Nat.le_trans (Nat.div_le_self _ _) hNb
        have hrel : ∃ p1 j1 : Nat, p1 + j1 = 20 ∧ (j1 = 0 ∨ N / 10 ^ j1 ≠ 0) ∧ Value.int .i64 (p : Int) = .int .i64 (p1 : Int) ∧ Value.int .i64 (-((N / 10 ^ (j + 1) : Nat) : Int)) = .int .i64 (-((N / 10 ^ j1 : Nat) : Int)) ∧ w.alloc (.cells (tail20 (suf N (j + 1))) 52) = w.alloc (.cells (tail20 (suf N j1)) 52) :=
          ⟨p, j + 1, by omega, .inr hz, rfl, rfl, rfl⟩
        have HR := Lib.hid hrel; clear hrel
        generalize N / 10 ^ (j + 1) = M2 at *
        have hz' : (-(M2 : Int) == 0) = false := by
          rw [beq_eq_false_iff_ne]; omega
        go_wp2_with fail
        go_roundw
        case rel => exact HR.out
        case measure => simp [intOf]
end Go.Proofs.Ytejgkbkangjfnaa
