/- The reference's Parse: the walk. -/
import Derived.Test.YtejgkbkangjfnaaParseWalk
namespace Go.Proofs.Ytejgkbkangjfnaa
open Go.RowKit
set_option linter.unusedVariables false

def mostL (b : Bool) : List UInt8 := if b then [57, 50, 50, 51, 51, 55, 50, 48, 51, 54, 56, 53, 52, 55, 55, 53, 56, 48, 56] else [57, 50, 50, 51, 51, 55, 50, 48, 51, 54, 56, 53, 52, 55, 55, 53, 56, 48, 55]
def mostV (b : Bool) : Nat := if b then 9223372036854775808 else 9223372036854775807
theorem most_val (b : Bool) : val (mostL b) = mostV b := by cases b <;> rfl
theorem most_len (b : Bool) : (mostL b).length = 19 := by cases b <;> rfl
theorem most_dig (b : Bool) : ∀ c ∈ mostL b, isDig c = true := by cases b <;> decide
theorem canon_of_good (s : List UInt8) (h : badHead s = false) : digs s ≠ [] ∧ ((digs s).length = 1 ∨ ∃ c r, digs s = c :: r ∧ (c == 48) = false) := by
  constructor
  · intro e; simp [badHead, e] at h
  · cases hd : digs s with
    | nil => simp [badHead, hd] at h
    | cons c r =>
      by_cases hc : c = 48
      · left
        cases r with
        | nil => rfl
        | cons => simp [badHead, hd, hc] at h
      · right; exact ⟨c, r, rfl, by simp [hc]⟩
/-- Too great a number, by its digits' count and order. -/
theorem over_iff (l : List UInt8) (b : Bool) (hd : ∀ c ∈ l, isDig c = true) (hne : l ≠ []) (hc : l.length = 1 ∨ ∃ c r, l = c :: r ∧ (c == 48) = false) :
    mostV b < val l ↔ (19 < l.length ∨ (l.length = 19 ∧ Op.bytesLess l (mostL b) = false ∧ l ≠ mostL b)) := by
  have hcan : l.length = 1 ∨ ∃ c r, l = c :: r ∧ 49 ≤ c.toNat := by
    rcases hc with h | ⟨c, r, e, h⟩
    · exact .inl h
    · right
      refine ⟨c, r, e, ?_⟩
      have h1 := hd c (by rw [e]; simp)
      simp [isDig] at h1
      have : c.toNat ≠ 48 := fun hh => by rw [UInt8.toNat_inj.1 (show c.toNat = (48 : UInt8).toNat from hh)] at h; simp at h
      omega
  have hdec := decL_val _ l rfl hne hd hcan
  have hM : decL (mostV b) = mostL b := by
    rw [← most_val]
    exact decL_val _ (mostL b) rfl (by cases b <;> decide) (most_dig b) (.inr (by cases b <;> exact ⟨_, _, rfl, by decide⟩))
  have hM1 : 10 ^ 18 ≤ mostV b := by cases b <;> decide
  have hM2 : mostV b < 10 ^ 19 := by cases b <;> decide
  have hlt := val_lt l hd
  rcases Nat.lt_trichotomy l.length 19 with h | h | h
  · have : 10 ^ l.length ≤ 10 ^ 18 := Nat.pow_le_pow_right (by decide) (by omega)
    constructor
    · intro h1; omega
    · rintro (h1 | ⟨h1, _⟩) <;> omega
  · have hv := less_val l (mostL b) (by rw [h, most_len]) hd (most_dig b)
    rw [most_val] at hv
    rw [hv]
    constructor
    · intro h1
      refine .inr ⟨h, by simp; omega, fun e => ?_⟩
      rw [e, most_val] at h1; omega
    · rintro (h1 | ⟨_, h1, h2⟩)
      · omega
      · simp at h1
        rcases Nat.lt_or_ge (mostV b) (val l) with h3 | h3
        · exact h3
        · exfalso; apply h2
          have : val l = mostV b := by omega
          rw [← hdec, this, hM]
  · have h1 : l.length = 1 ∨ ∃ c r, l = c :: r ∧ 49 ≤ c.toNat := hcan
    rcases h1 with h1 | ⟨c, r, e, hc⟩
    · omega
    · have := val_ge c r hc
      have h2 : 10 ^ 19 ≤ 10 ^ r.length := Nat.pow_le_pow_right (by decide) (by rw [e] at h; simp at h; omega)
      rw [← e] at this
      constructor
      · intro _; exact .inl h
      · intro _; omega
theorem val_take_le (l : List UInt8) (k : Nat) : val (l.take k) ≤ val l := by
  have h : val l = val (l.take k) * 10 ^ (l.drop k).length + val (l.drop k) := by
    have e : l = l.take k ++ l.drop k := (List.take_append_drop k l).symm
    have : val (l.take k ++ l.drop k) = val (l.take k) * 10 ^ (l.drop k).length + val (l.drop k) := by
      unfold val; rw [List.foldl_append, val_acc]; rfl
    rw [← this, ← e]
  have h0 : 1 ≤ 10 ^ (l.drop k).length := Nat.pow_pos (by decide)
  have := Nat.mul_le_mul_left (val (l.take k)) h0
  omega
/-- What is read, once the text's head is right and it is digits throughout. -/
theorem parse_good (s : List UInt8) (hb : badHead s = false) (hd : (digs s).all isDig = true) :
    parseS s = if mostV (below s) < val (digs s) then (0, 14) else (if below s then -(val (digs s) : Int) else (val (digs s) : Int), 0) := by
  unfold parseS
  rw [hb, hd]
  cases below s <;> simp [mostV]
  · congr 1; simp; omega

set_option maxHeartbeats 2000000 in
set_option maxRecDepth 100000 in
theorem ref01_Parse (s : ByteArray) (hs : s.size ≤ maxLen) (w : World) : Calls Try.prog 31 #[.string s] w fun e w' => e = .returned (.tuple #[.int .i64 (parseS s.data.toList).1, .int .i64 (parseS s.data.toList).2]) ∧ Below w.heap.size w w' := by
  unfold maxLen at hs
  by_cases he : s.toList = []
  · have hp : parseS s.data.toList = (0, 2) := by rw [← toList_data, he]; rfl
    have hz : s.size = 0 := by rw [← size_data, ← toList_data, he]; rfl
    rw [hp]
    go_enter Try.func31, Try.ntmps31
    go_wp2
    go_ret2
    exact ⟨rfl, (by repeat' (first | exact Below.refl _ _ | assumption | (refine thenB ?_ (by assumption)) | (refine belowN ?_ _) | (refine Below.alloc ?_ (by first | simp; done | (simp; omega) | omega) _) | (refine below_setRow ?_ (by first | simp; done | (simp; omega) | omega) _) | (refine Below.setCell ?_ (by first | simp; done | (simp; omega) | omega) _)))⟩
  have hpos : 0 < s.size := by
    rcases Nat.eq_zero_or_pos s.size with h | h
    · exfalso; apply he; rw [toList_data]; exact List.eq_nil_of_length_eq_zero (by rw [size_data]; exact h)
    · exact h
  have hbd := below_data s hpos
  generalize hb : below s.data.toList = b at *
  have hl1 : (1 : Int) ≤ s.size := by omega
  have hl0 : (0 : Int) < s.size := by omega
  go_enter Try.func31, Try.ntmps31
  go_upto_if 17 with (fail)
  go_cut [4] (fun s4 wx => ∃ t : ByteArray, s4 = .string t ∧ t.data.toList = digs s.data.toList ∧ t.size ≤ 9223372036854775807 ∧ (b = true → t.size + 1 = s.size) ∧ (b = false → t.size = s.size) ∧ wx = w)
  case first =>
    cases b
    · go_wp2
      go_meet
      case rel => exact ⟨s, rfl, by unfold digs; rw [hb]; rfl, by omega, by simp, by simp, rfl⟩
    · go_wp2
      go_meet
      case rel => exact ⟨s.extract 1 s.size, rfl, by unfold digs; rw [hb, tail_data]; rfl, by rw [ByteArray.size_extract]; omega, by intro _; rw [ByteArray.size_extract]; omega, by simp, rfl⟩
  case rest =>
    obtain ⟨t, rfl, ht, hts, hb1, hb2, rfl⟩ := hcut
    by_cases hte : t.size = 0
    · have hp : parseS s.data.toList = (0, 2) := by
        have : t.data.toList = [] := List.eq_nil_of_length_eq_zero (by rw [size_data]; exact hte)
        unfold parseS badHead; rw [← ht, this]; rfl
      have HPc := Lib.hid hp; clear hp
      go_wp2_with fail
      go_ret2
      exact ⟨(by first | rfl | ((rw [HPc.out]) <;> rfl)), (by repeat' (first | exact Below.refl _ _ | assumption | (refine thenB ?_ (by assumption)) | (refine belowN ?_ _) | (refine Below.alloc ?_ (by first | simp; done | (simp; omega) | omega) _) | (refine below_setRow ?_ (by first | simp; done | (simp; omega) | omega) _) | (refine Below.setCell ?_ (by first | simp; done | (simp; omega) | omega) _)))⟩
    have htp : 0 < t.size := by omega
    have htz : ((t.size : Int) == 0) = false := by rw [beq_eq_false_iff_ne]; omega
    have hbad := bad_data s.data.toList t ht htp
    rw [hb] at hbad
    have hlen : b = true ∨ 1 < t.size ↔ 1 < s.size := by
      cases b
      · have := hb2 rfl
        exact ⟨fun h => by rcases h with h | h; exact absurd h (by decide); omega, fun h => .inr (by omega)⟩
      · have := hb1 rfl
        exact ⟨fun _ => by omega, fun _ => .inl rfl⟩
    rw [hlen] at hbad
    clear hlen
    have hcmp : decide (t.size < s.size) = b := by
      cases b
      · have := hb2 rfl; rw [decide_eq_false_iff_not]; omega
      · have := hb1 rfl; rw [decide_eq_true_iff]; omega
    by_cases hbd2 : badHead s.data.toList = true
    · have hp : parseS s.data.toList = (0, 2) := by unfold parseS; rw [if_pos hbd2]
      have HPc := Lib.hid hp; clear hp
      obtain ⟨h48, hb3⟩ := hbad.1 hbd2
      clear hbad hbd2 hb1 hb2
      have h1' : (1 : Int) < s.size := by omega
      go_wp2_with fail
      go_ret2
      exact ⟨(by first | rfl | ((rw [HPc.out]) <;> rfl)), (by repeat' (first | exact Below.refl _ _ | assumption | (refine thenB ?_ (by assumption)) | (refine belowN ?_ _) | (refine Below.alloc ?_ (by first | simp; done | (simp; omega) | omega) _) | (refine below_setRow ?_ (by first | simp; done | (simp; omega) | omega) _) | (refine Below.setCell ?_ (by first | simp; done | (simp; omega) | omega) _)))⟩
    have hgood : badHead s.data.toList = false := by simpa using hbd2
    have hcase : ¬ ((t[0].toNat : Int) = 48) ∨ ((t[0].toNat : Int) = 48 ∧ (s.size : Int) ≤ 1) := by
      by_cases h48 : (t[0].toNat : Int) = 48
      · right
        refine ⟨h48, ?_⟩
        rcases Int.lt_or_le 1 (s.size : Int) with h | h
        · exact absurd (hbad.2 ⟨h48, by omega⟩) hbd2
        · exact h
      · exact .inl h48
    have hcan := canon_of_good _ hgood
    have hpg := fun h => parse_good s.data.toList hgood h
    rw [hb, ← ht] at hpg
    rw [← ht] at hcan
    have hpb : ¬ t.data.toList.all isDig = true → parseS s.data.toList = (0, 2) := fun h => by
      unfold parseS; rw [hgood, ← ht, if_neg (by simp), if_neg h]
    have HG := Lib.hid hpg; clear hpg
    have HB := Lib.hid hpb; clear hpb
    have HC := Lib.hid hcan; clear hcan
    clear hbad hbd2 hgood hb1 hb2
    have hsz := size_data t
    rcases hcase with h48 | ⟨h48, h1⟩
    all_goals
      go_wp2_with fail
      go_loop [5] (fun q => ∃ k : Nat, k ≤ t.size ∧ q = .int .i64 k ∧ ∀ c ∈ t.data.toList.take k, isDig c = true) (fun q => t.size - (intOf q).toNat)
      case atStart => exact ⟨0, by omega, rfl, by simp⟩
      case round =>
        obtain ⟨k, hk, rfl, hdg⟩ := hrel
        by_cases hlt : k < t.size
        · have hts2 := take_snocB t k hlt
          obtain ⟨cn, hcn⟩ : ∃ cn : Nat, t[k].toNat = cn := ⟨_, rfl⟩
          have hc255 : cn < 256 := by rw [← hcn]; exact UInt8.toNat_lt _
          have hk2 : (k : Int) < t.size := by omega
          have hbadc : ¬ (48 ≤ cn ∧ cn ≤ 57) → parseS s.data.toList = (0, 2) := fun hx => by
            refine HB.out fun hall => hx ?_
            have := List.all_eq_true.1 hall t[k] (by rw [Array.mem_toList_iff]; exact Array.getElem_mem _)
            unfold isDig at this; rw [hcn] at this; simpa using this
          have hokc : 48 ≤ cn ∧ cn ≤ 57 → ∀ c ∈ t.data.toList.take (k + 1), isDig c = true := fun hx => by
            rw [hts2]
            intro c hc
            rcases List.mem_append.1 hc with hc | hc
            · exact hdg c hc
            · simp at hc; rw [hc]; unfold isDig; rw [hcn]; simpa using hx
          have HO := Lib.hid hokc; clear hokc
          clear hdg hts2
          by_cases hlo : cn < 48
          · have HPc := Lib.hid (hbadc (by omega)); clear hbadc
            have hlo' : (cn : Int) < 48 := by omega
            go_wp2_with fail
            go_ret2
            exact ⟨(by first | rfl | ((rw [HPc.out]) <;> rfl)), (by repeat' (first | exact Below.refl _ _ | assumption | (refine thenB ?_ (by assumption)) | (refine belowN ?_ _) | (refine Below.alloc ?_ (by first | simp; done | (simp; omega) | omega) _) | (refine below_setRow ?_ (by first | simp; done | (simp; omega) | omega) _) | (refine Below.setCell ?_ (by first | simp; done | (simp; omega) | omega) _)))⟩
          by_cases hhi : 57 < cn
          · have HPc := Lib.hid (hbadc (by omega)); clear hbadc
            have hlo' : ¬ (cn : Int) < 48 := by omega
            have hhi' : (57 : Int) < cn := by omega
            go_wp2_with fail
            go_ret2
            exact ⟨(by first | rfl | ((rw [HPc.out]) <;> rfl)), (by repeat' (first | exact Below.refl _ _ | assumption | (refine thenB ?_ (by assumption)) | (refine belowN ?_ _) | (refine Below.alloc ?_ (by first | simp; done | (simp; omega) | omega) _) | (refine below_setRow ?_ (by first | simp; done | (simp; omega) | omega) _) | (refine Below.setCell ?_ (by first | simp; done | (simp; omega) | omega) _)))⟩
          clear hbadc
          have hlo' : ¬ (cn : Int) < 48 := by omega
          have hhi' : ¬ (57 : Int) < cn := by omega
          go_wp2_with fail
          go_round
          case rel => exact ⟨k + 1, by omega, by go_num, HO.out ⟨by omega, by omega⟩⟩
          case measure => simp [intOf]; omega
        · obtain rfl : k = t.size := by omega
          rw [List.take_of_length_le (by rw [hsz]; omega)] at hdg
          have hpv := HG.out (List.all_eq_true.2 hdg)
          obtain ⟨hc1, hc2⟩ := HC.out
          have hov := over_iff t.data.toList b hdg hc1 hc2
          have HD := Lib.hid hdg; clear hdg
          have HV := Lib.hid hpv; clear hpv
          rw [hsz] at hov
          clear hc1 hc2
          cases b
          · obtain ⟨x, hx⟩ : ∃ x, Op.bytesLess t.toList (mostL false) = x := ⟨_, rfl⟩
            obtain ⟨y, hy⟩ : ∃ y, (t.toList == mostL false) = y := ⟨_, rfl⟩
            have hov2 : mostV false < val t.data.toList ↔ (19 < t.size ∨ (t.size = 19 ∧ x = false ∧ y = false)) := by
              rw [hov, ← toList_data, hx, ← hy]
              simp only [beq_eq_false_iff_ne, ne_eq]
            clear hov
            simp only [mostL, if_true, if_false, Bool.false_eq_true] at hx hy
            by_cases hover : mostV false < val t.data.toList
            · have hp : parseS s.data.toList = (0, 14) := by rw [HV.out, if_pos hover]
              have HPc := Lib.hid hp; clear hp
              have hcases := hov2.1 hover
              clear hov2 hover hk hlt
              rcases hcases with h19 | ⟨h19, rfl, rfl⟩
              · have h19' : (19 : Int) < t.size := by omega
                go_wp2_with fail
                go_ret2
                exact ⟨(by first | rfl | ((rw [HPc.out]) <;> rfl)), (by repeat' (first | exact Below.refl _ _ | assumption | (refine thenB ?_ (by assumption)) | (refine belowN ?_ _) | (refine Below.alloc ?_ (by first | simp; done | (simp; omega) | omega) _) | (refine below_setRow ?_ (by first | simp; done | (simp; omega) | omega) _) | (refine Below.setCell ?_ (by first | simp; done | (simp; omega) | omega) _)))⟩
              · have h19' : ((t.size : Int) == 19) = true := by rw [beq_iff_eq]; omega
                have h19'' : ¬ (19 : Int) < t.size := by omega
                clear h19
                go_wp2_with fail
                go_ret2
                exact ⟨(by first | rfl | ((rw [HPc.out]) <;> rfl)), (by repeat' (first | exact Below.refl _ _ | assumption | (refine thenB ?_ (by assumption)) | (refine belowN ?_ _) | (refine Below.alloc ?_ (by first | simp; done | (simp; omega) | omega) _) | (refine below_setRow ?_ (by first | simp; done | (simp; omega) | omega) _) | (refine Below.setCell ?_ (by first | simp; done | (simp; omega) | omega) _)))⟩
            · have hnc : ¬ (19 < t.size ∨ (t.size = 19 ∧ x = false ∧ y = false)) := fun h => hover (hov2.2 h)
              have hp := HV.out
              rw [if_neg hover] at hp
              have hvm : val t.data.toList ≤ 9223372036854775807 := by unfold mostV at hover; simp only [if_true, if_false, Bool.false_eq_true] at hover; omega
              have HPc := Lib.hid hp; clear hp
              clear hov2 hover hk hlt
              have hn19 : ¬ (19 : Int) < t.size := by omega
              have hsplit : ((t.size : Int) == 19) = false ∨ (((t.size : Int) == 19) = true ∧ (x = true ∨ y = true)) := by
                by_cases h : t.size = 19
                · right; refine ⟨by rw [beq_iff_eq]; omega, ?_⟩
                  cases x <;> cases y <;> simp_all
                · left; rw [beq_eq_false_iff_ne]; omega
              clear hnc
              rcases hsplit with h19 | ⟨h19, rfl | rfl⟩
              all_goals
                go_wp2_with fail
                go_loop [7,8] (fun n q => ∃ k : Nat, k ≤ t.size ∧ q = .int .i64 k ∧ n = .int .u64 ((val (t.data.toList.take k) : Nat) : Int)) (fun _ q => t.size - (intOf q).toNat)
                case atStart => exact ⟨0, by omega, rfl, rfl⟩
                case round =>
                  obtain ⟨k, hk, rfl, rfl⟩ := hrel
                  by_cases hlt : k < t.size
                  · have hts2 := take_snocB t k hlt
                    obtain ⟨cn, hcn⟩ : ∃ cn : Nat, t[k].toNat = cn := ⟨_, rfl⟩
                    have hdc := HD.out t[k] (by rw [Array.mem_toList_iff]; exact Array.getElem_mem _)
                    unfold isDig at hdc; rw [hcn] at hdc; simp only [decide_eq_true_iff] at hdc
                    have hv1 := val_take_le t.data.toList (k + 1)
                    have hrel : val (t.data.toList.take (k + 1)) = 10 * val (t.data.toList.take k) + (cn - 48) := by rw [hts2, val_snoc, hcn]
                    have HR := Lib.hid hrel
                    rw [hrel] at hv1
                    clear hts2 hrel
                    generalize hvk : val (t.data.toList.take k) = V at *
                    have HK := Lib.hid hvk; clear hvk
                    obtain ⟨d, rfl⟩ : ∃ d, cn = d + 48 := ⟨cn - 48, by omega⟩
                    have hd9 : (d : Int) ≤ 9 := by omega
                    have hd0 : (0 : Int) ≤ d := by omega
                    have hk2 : (k : Int) < t.size := by omega
                    have hv2 : (V : Int) * 10 + d ≤ 9223372036854775808 := by omega
                    have hsum : (V : Int) * 10 + (d + 48) - 48 = V * 10 + d := by omega
                    clear hdc hv1
                    go_wp2_with fail
                    go_round
                    case rel => exact ⟨k + 1, by omega, by go_num, by rw [HR.out, Nat.add_sub_cancel]; go_num⟩
                    case measure => simp [intOf]; omega
                  · obtain rfl : k = t.size := by omega
                    rw [List.take_of_length_le (by rw [hsz]; omega)]
                    generalize val t.data.toList = V at *
                    have hV0 : (0 : Int) ≤ V := by omega
                    have hV1 : (V : Int) ≤ 9223372036854775807 := by omega
                    go_wp2_with fail
                    go_ret2
                    exact ⟨(by first | rfl | ((rw [HPc.out]) <;> rfl)), (by repeat' (first | exact Below.refl _ _ | assumption | (refine thenB ?_ (by assumption)) | (refine belowN ?_ _) | (refine Below.alloc ?_ (by first | simp; done | (simp; omega) | omega) _) | (refine below_setRow ?_ (by first | simp; done | (simp; omega) | omega) _) | (refine Below.setCell ?_ (by first | simp; done | (simp; omega) | omega) _)))⟩
          · obtain ⟨x, hx⟩ : ∃ x, Op.bytesLess t.toList (mostL true) = x := ⟨_, rfl⟩
            obtain ⟨y, hy⟩ : ∃ y, (t.toList == mostL true) = y := ⟨_, rfl⟩
            have hov2 : mostV true < val t.data.toList ↔ (19 < t.size ∨ (t.size = 19 ∧ x = false ∧ y = false)) := by
              rw [hov, ← toList_data, hx, ← hy]
              simp only [beq_eq_false_iff_ne, ne_eq]
            clear hov
            simp only [mostL, if_true, if_false, Bool.false_eq_true] at hx hy
            by_cases hover : mostV true < val t.data.toList
            · have hp : parseS s.data.toList = (0, 14) := by rw [HV.out, if_pos hover]
              have HPc := Lib.hid hp; clear hp
              have hcases := hov2.1 hover
              clear hov2 hover hk hlt
              rcases hcases with h19 | ⟨h19, rfl, rfl⟩
              · have h19' : (19 : Int) < t.size := by omega
                go_wp2_with fail
                go_ret2
                exact ⟨(by first | rfl | ((rw [HPc.out]) <;> rfl)), (by repeat' (first | exact Below.refl _ _ | assumption | (refine thenB ?_ (by assumption)) | (refine belowN ?_ _) | (refine Below.alloc ?_ (by first | simp; done | (simp; omega) | omega) _) | (refine below_setRow ?_ (by first | simp; done | (simp; omega) | omega) _) | (refine Below.setCell ?_ (by first | simp; done | (simp; omega) | omega) _)))⟩
              · have h19' : ((t.size : Int) == 19) = true := by rw [beq_iff_eq]; omega
                have h19'' : ¬ (19 : Int) < t.size := by omega
                clear h19
                go_wp2_with fail
                go_ret2
                exact ⟨(by first | rfl | ((rw [HPc.out]) <;> rfl)), (by repeat' (first | exact Below.refl _ _ | assumption | (refine thenB ?_ (by assumption)) | (refine belowN ?_ _) | (refine Below.alloc ?_ (by first | simp; done | (simp; omega) | omega) _) | (refine below_setRow ?_ (by first | simp; done | (simp; omega) | omega) _) | (refine Below.setCell ?_ (by first | simp; done | (simp; omega) | omega) _)))⟩
            · have hnc : ¬ (19 < t.size ∨ (t.size = 19 ∧ x = false ∧ y = false)) := fun h => hover (hov2.2 h)
              have hp := HV.out
              rw [if_neg hover] at hp
              have hvm : val t.data.toList ≤ 9223372036854775808 := by unfold mostV at hover; simp only [if_true, if_false, Bool.false_eq_true] at hover; omega
              have HPc := Lib.hid hp; clear hp
              clear hov2 hover hk hlt
              have hn19 : ¬ (19 : Int) < t.size := by omega
              have hsplit : ((t.size : Int) == 19) = false ∨ (((t.size : Int) == 19) = true ∧ (x = true ∨ y = true)) := by
                by_cases h : t.size = 19
                · right; refine ⟨by rw [beq_iff_eq]; omega, ?_⟩
                  cases x <;> cases y <;> simp_all
                · left; rw [beq_eq_false_iff_ne]; omega
              clear hnc
              rcases hsplit with h19 | ⟨h19, rfl | rfl⟩
              all_goals
                go_wp2_with fail
                go_loop [7,8] (fun n q => ∃ k : Nat, k ≤ t.size ∧ q = .int .i64 k ∧ n = .int .u64 ((val (t.data.toList.take k) : Nat) : Int)) (fun _ q => t.size - (intOf q).toNat)
                case atStart => exact ⟨0, by omega, rfl, rfl⟩
                case round =>
                  obtain ⟨k, hk, rfl, rfl⟩ := hrel
                  by_cases hlt : k < t.size
                  · have hts2 := take_snocB t k hlt
                    obtain ⟨cn, hcn⟩ : ∃ cn : Nat, t[k].toNat = cn := ⟨_, rfl⟩
                    have hdc := HD.out t[k] (by rw [Array.mem_toList_iff]; exact Array.getElem_mem _)
                    unfold isDig at hdc; rw [hcn] at hdc; simp only [decide_eq_true_iff] at hdc
                    have hv1 := val_take_le t.data.toList (k + 1)
                    have hrel : val (t.data.toList.take (k + 1)) = 10 * val (t.data.toList.take k) + (cn - 48) := by rw [hts2, val_snoc, hcn]
                    have HR := Lib.hid hrel
                    rw [hrel] at hv1
                    clear hts2 hrel
                    generalize hvk : val (t.data.toList.take k) = V at *
                    have HK := Lib.hid hvk; clear hvk
                    obtain ⟨d, rfl⟩ : ∃ d, cn = d + 48 := ⟨cn - 48, by omega⟩
                    have hd9 : (d : Int) ≤ 9 := by omega
                    have hd0 : (0 : Int) ≤ d := by omega
                    have hk2 : (k : Int) < t.size := by omega
                    have hv2 : (V : Int) * 10 + d ≤ 9223372036854775808 := by omega
                    have hsum : (V : Int) * 10 + (d + 48) - 48 = V * 10 + d := by omega
                    clear hdc hv1
                    go_wp2_with fail
                    go_round
                    case rel => exact ⟨k + 1, by omega, by go_num, by rw [HR.out, Nat.add_sub_cancel]; go_num⟩
                    case measure => simp [intOf]; omega
                  · obtain rfl : k = t.size := by omega
                    rw [List.take_of_length_le (by rw [hsz]; omega)]
                    generalize val t.data.toList = V at *
                    have hV0 : (0 : Int) ≤ V := by omega
                    have hV1 : (V : Int) ≤ 9223372036854775808 := by omega
                    have hwv : wrap64 (-(V : Int)) = -(V : Int) := IntWalk.wrap64_in _ (by omega)
                    have HW := Lib.hid hwv; clear hwv
                    go_wp2_with fail
                    refine (ref01_Of _ _).mono ?_
                    rintro e w1 ⟨rfl, hb1⟩
                    rw [D8_wrap]
                    go_wp2_with fail
                    refine (ref01_Minus _ _).mono ?_
                    rintro e w2 ⟨rfl, hb2⟩
                    go_wp2_with fail
                    refine (ref01_Number _ _).mono ?_
                    rw [HW.out]
                    rintro e w3 ⟨rfl, hb3⟩
                    go_wp2_with fail
                    go_ret2
                    exact ⟨(by first | rfl | ((rw [HPc.out]) <;> rfl)), (by repeat' (first | exact Below.refl _ _ | assumption | (refine thenB ?_ (by assumption)) | (refine belowN ?_ _) | (refine Below.alloc ?_ (by first | simp; done | (simp; omega) | omega) _) | (refine below_setRow ?_ (by first | simp; done | (simp; omega) | omega) _) | (refine Below.setCell ?_ (by first | simp; done | (simp; omega) | omega) _)))⟩
end Go.Proofs.Ytejgkbkangjfnaa
