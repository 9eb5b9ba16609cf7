/- num.Parse: the walk. -/
import Derived.Test.YtejgkbkangjfnaaNumOps
import Derived.Test.YtejgkbkangjfnaaParsePlain
import Derived.WalkLawsBesides
namespace Go.Proofs.Ytejgkbkangjfnaa
open Go.RowKit
set_option linter.unusedVariables false

theorem take_snocB (t : ByteArray) (k : Nat) (h : k < t.size) : t.data.toList.take (k + 1) = t.data.toList.take k ++ [t[k]] := by
  rw [List.take_succ_eq_append_getElem (by simpa using h)]; rfl
/-- What the loop knows when k digits are read: the digits so far, and the number below 0, or that it is too great. -/
def PInv (t : ByteArray) (k : Nat) (nn : Int) (ov : Bool) : Prop :=
  (∀ c ∈ t.data.toList.take k, isDig c = true) ∧ -9223372036854775808 ≤ nn ∧ nn ≤ 0 ∧
  ((ov = false ∧ nn = -(val (t.data.toList.take k) : Int)) ∨ (ov = true ∧ 9223372036854775808 < val (t.data.toList.take k)))
theorem toList_data (s : ByteArray) : s.toList = s.data.toList := ByteArray.toList_eq s
theorem size_data (s : ByteArray) : s.data.toList.length = s.size := by show s.data.toList.length = s.data.size; simp
theorem head_data (s : ByteArray) (h : 0 < s.size) : s.data.toList.head? = some s[0] := by
  rw [List.head?_eq_getElem?, List.getElem?_eq_getElem (by rw [size_data]; exact h)]; rfl
theorem below_data (s : ByteArray) (h : 0 < s.size) : ((s[0].toNat : Int) == 45) = below s.data.toList := by
  unfold below; rw [head_data s h]
  by_cases e : s[0] = 45
  · rw [e]; rfl
  · have h1 : ¬ s[0].toNat = 45 := fun hh => e (UInt8.toNat_inj.1 hh)
    have h2 : (((s[0].toNat : Nat) : Int) == 45) = false := by rw [beq_eq_false_iff_ne]; omega
    rw [h2]; simp [e]
theorem tail_data (s : ByteArray) : (s.extract 1 s.size).data.toList = s.data.toList.tail := by
  rw [ByteArray.data_extract, Array.toList_extract, List.extract_eq_take_drop]
  rw [List.take_of_length_le (by rw [List.length_drop, size_data]; omega), List.drop_one]
theorem bad_data (l : List UInt8) (t : ByteArray) (ht : t.data.toList = digs l) (h : 0 < t.size) : badHead l = true ↔ ((t[0].toNat : Int) = 48 ∧ (below l = true ∨ 1 < t.size)) := by
  have hh := head_data t h
  have hl := size_data t
  unfold badHead
  rw [← ht, hh, hl]
  have hne : t.data.toList.isEmpty = false := by
    rw [List.isEmpty_eq_false_iff]; intro e; rw [e] at hl; simp at hl; omega
  rw [hne]
  have h48 : (some t[0] == some (48 : UInt8)) = decide ((t[0].toNat : Int) = 48) := by
    by_cases e : t[0] = 48
    · rw [e]; rfl
    · have h1 : ¬ ((t[0].toNat : Nat) : Int) = 48 := fun hh => e (UInt8.toNat_inj.1 (by have : (48 : UInt8).toNat = 48 := rfl; omega))
      rw [decide_eq_false h1]; simp [e]
  rw [h48]
  simp
theorem least_div (d : Int) (h0 : 0 ≤ d) (h1 : d ≤ 9) : (-9223372036854775808 + d).tdiv 10 = -((9223372036854775808 - d) / 10) := by
  have e : (-9223372036854775808 + d) = -(9223372036854775808 - d) := by omega
  rw [e, Int.neg_tdiv, Int.tdiv_eq_ediv_of_nonneg (by omega)]
theorem pinv_digits {t : ByteArray} {k : Nat} (hk : k < t.size) {nn : Int} {ov : Bool} (h : PInv t k nn ov) (hd : isDig t[k] = true) : ∀ c ∈ t.data.toList.take (k + 1), isDig c = true := by
  rw [take_snocB t k hk]
  intro c hc
  rcases List.mem_append.1 hc with hc | hc
  · exact h.1 c hc
  · simp at hc; rw [hc]; exact hd
theorem pinv_over {t : ByteArray} {k : Nat} (hk : k < t.size) {nn : Int} {ov : Bool} (h : PInv t k nn ov) (cn : Nat) (hc : t[k].toNat = cn) (h0 : 48 ≤ cn) (h1 : cn ≤ 57)
    (hx : nn < (-9223372036854775808 + ((cn : Int) - 48)).tdiv 10) : PInv t (k + 1) nn true := by
  have hd : isDig t[k] = true := by unfold isDig; rw [hc]; simp; omega
  refine ⟨pinv_digits hk h hd, h.2.1, h.2.2.1, .inr ⟨rfl, ?_⟩⟩
  rw [take_snocB t k hk, val_snoc, hc]
  rw [least_div _ (by omega) (by omega)] at hx
  rcases h.2.2.2 with ⟨_, hn⟩ | ⟨_, hv⟩
  · omega
  · omega
theorem pinv_step {t : ByteArray} {k : Nat} (hk : k < t.size) {nn : Int} {ov : Bool} (h : PInv t k nn ov) (cn : Nat) (hc : t[k].toNat = cn) (h0 : 48 ≤ cn) (h1 : cn ≤ 57)
    (hx : (-9223372036854775808 + ((cn : Int) - 48)).tdiv 10 ≤ nn) : PInv t (k + 1) (wrap64 (wrap64 (10 * nn) - ((cn : Int) - 48))) ov := by
  have hd : isDig t[k] = true := by unfold isDig; rw [hc]; simp; omega
  rw [least_div _ (by omega) (by omega)] at hx
  have a1 := h.2.1; have a2 := h.2.2.1
  rw [IntWalk.wrap64_in (10 * nn) (by omega), IntWalk.wrap64_in _ (by omega)]
  refine ⟨pinv_digits hk h hd, by omega, by omega, ?_⟩
  rw [take_snocB t k hk, val_snoc, hc]
  rcases h.2.2.2 with ⟨ho, hn⟩ | ⟨ho, hv⟩
  · left; exact ⟨ho, by omega⟩
  · right; exact ⟨ho, by omega⟩
set_option maxHeartbeats 1000000 in
theorem num_Parse (s : ByteArray) (hs : s.size ≤ maxLen) (w : World) : Calls Try.prog 29 #[.string s] w fun e w' => e = .returned (.tuple #[.int .i64 (parseS s.data.toList).1, .int .i64 (parseS s.data.toList).2]) ∧ w = w' := by
  unfold maxLen at hs
  by_cases he : s.toList = []
  · have hp : parseS s.data.toList = (0, 2) := by rw [← toList_data, he]; rfl
    rw [hp]
    go_enter Try.func29, Try.ntmps29
    go_wp2
    go_ret2
    exact ⟨rfl, rfl⟩
  have hpos : 0 < s.size := by
    rcases Nat.eq_zero_or_pos s.size with h | h
    · exfalso; apply he; rw [toList_data]; exact List.eq_nil_of_length_eq_zero (by rw [size_data]; exact h)
    · exact h
  have hem : s.toList.isEmpty = false := by simpa using he
  have hbd := below_data s hpos
  generalize hb : below s.data.toList = b at *
  have hl1 : (1 : Int) ≤ s.size := by omega
  go_enter Try.func29, Try.ntmps29
  go_upto_if 19 with (fail)
  go_cut [4] (fun s4 wx => ∃ t : ByteArray, s4 = .string t ∧ t.data.toList = digs s.data.toList ∧ t.size ≤ 9223372036854775807 ∧ wx = w)
  case first =>
    cases b
    · go_wp2
      go_meet
      case rel => exact ⟨s, rfl, by unfold digs; rw [hb]; rfl, by omega, rfl⟩
    · go_wp2
      go_meet
      case rel => exact ⟨s.extract 1 s.size, rfl, by unfold digs; rw [hb, tail_data]; rfl, by simp [ByteArray.size_extract]; omega, rfl⟩
  case rest =>
    obtain ⟨t, rfl, ht, hts, rfl⟩ := hcut
    by_cases hte : t.toList = []
    · have hp : parseS s.data.toList = (0, 2) := by
        unfold parseS badHead; rw [← ht, ← toList_data, hte]; rfl
      have HPc := Lib.hid hp; clear hp
      go_wp2_with fail
      go_ret2
      exact ⟨(by first | rfl | ((rw [HPc.out]) <;> rfl)), rfl⟩
    have htp : 0 < t.size := by
      rcases Nat.eq_zero_or_pos t.size with h | h
      · exfalso; apply hte; rw [toList_data]; exact List.eq_nil_of_length_eq_zero (by rw [size_data]; exact h)
      · exact h
    have htm : t.toList.isEmpty = false := by simpa using hte
    have hbad := bad_data s.data.toList t ht htp
    rw [hb] at hbad
    by_cases hbd2 : badHead s.data.toList = true
    · have hp : parseS s.data.toList = (0, 2) := by unfold parseS; rw [if_pos hbd2]
      have HPc := Lib.hid hp; clear hp
      obtain ⟨h48, hb1⟩ := hbad.1 hbd2
      clear hbad hbd2
      rcases hb1 with rfl | h1
      · go_wp2_with fail
        go_ret2
        exact ⟨(by first | rfl | ((rw [HPc.out]) <;> rfl)), rfl⟩
      · have h1' : (1 : Int) < t.size := by omega
        cases b
        · go_wp2_with fail
          go_ret2
          exact ⟨(by first | rfl | ((rw [HPc.out]) <;> rfl)), rfl⟩
        · go_wp2_with fail
          go_ret2
          exact ⟨(by first | rfl | ((rw [HPc.out]) <;> rfl)), rfl⟩
    have hgood : badHead s.data.toList = false := by simpa using hbd2
    have hcase : ¬ ((t[0].toNat : Int) = 48) ∨ ((t[0].toNat : Int) = 48 ∧ b = false ∧ (t.size : Int) ≤ 1) := by
      by_cases h48 : (t[0].toNat : Int) = 48
      · right
        refine ⟨h48, ?_, ?_⟩
        · cases b
          · rfl
          · exact absurd (hbad.2 ⟨h48, .inl rfl⟩) hbd2
        · rcases Int.lt_or_le 1 (t.size : Int) with h | h
          · exact absurd (hbad.2 ⟨h48, .inr (by omega)⟩) hbd2
          · exact h
      · exact .inl h48
    clear hbad hbd2
    have hpar : parseS s.data.toList = if (t.data.toList).all isDig then
        (if 9223372036854775808 < val t.data.toList ∨ (val t.data.toList = 9223372036854775808 ∧ b = false) then (0, 14) else (if b then -(val t.data.toList : Int) else (val t.data.toList : Int), 0)) else (0, 2) := by
      unfold parseS; rw [hgood, ht, hb]; rfl
    have HP := Lib.hid hpar; clear hpar
    clear hgood
    rcases hcase with h48 | ⟨h48, rfl, h1⟩
    all_goals
      go_wp2_with fail
      go_loop [6,7,8,9,10,39] (fun n o i c d q => ∃ (k : Nat) (nn : Int) (ov : Bool), k ≤ t.size ∧ q = .int .i64 k ∧ n = .int .i64 nn ∧ o = .bool ov ∧ PInv t k nn ov) (fun _ _ _ _ _ q => t.size - (intOf q).toNat)
      case atStart => exact ⟨0, 0, false, by omega, rfl, rfl, rfl, by simp [PInv, val]⟩
      case round =>
        obtain ⟨k, nn, ov, hk, rfl, rfl, rfl, hinv⟩ := hrel
        by_cases hlt : k < t.size
        · have HV := Lib.hid hinv
          obtain ⟨i1, i2, i3, i4⟩ := hinv
          clear i1 i4
          have hall : isDig t[k] = false → parseS s.data.toList = (0, 2) := fun hd => by
            rw [HP.out]
            have : t.data.toList.all isDig = false := by
              rw [List.all_eq_false]
              exact ⟨t[k], by rw [Array.mem_toList_iff]; exact Array.getElem_mem _, by simp [hd]⟩
            rw [this]; rfl
          obtain ⟨cn, hcn⟩ : ∃ cn : Nat, t[k].toNat = cn := ⟨_, rfl⟩
          have hc255 : cn < 256 := by rw [← hcn]; exact UInt8.toNat_lt _
          have hk2 : (k : Int) < t.size := by omega
          have hdig : isDig t[k] = decide (48 ≤ cn ∧ cn ≤ 57) := by unfold isDig; rw [hcn]
          rw [hdig] at hall
          by_cases hlo : cn < 48
          · have hp := hall (by simp; omega)
            have HPc := Lib.hid hp; clear hp hall hdig
            have hlo' : (cn : Int) < 48 := by omega
            go_wp2_with fail
            go_ret2
            exact ⟨(by first | rfl | ((rw [HPc.out]) <;> rfl)), rfl⟩
          by_cases hhi : 57 < cn
          · have hp := hall (by simp; omega)
            have HPc := Lib.hid hp; clear hp hall hdig
            have hlo' : ¬ (cn : Int) < 48 := by omega
            have hhi' : (57 : Int) < cn := by omega
            go_wp2_with fail
            go_ret2
            exact ⟨(by first | rfl | ((rw [HPc.out]) <;> rfl)), rfl⟩
          clear hall
          have hlo' : (48 : Int) ≤ cn := by omega
          have hhi' : (cn : Int) ≤ 57 := by omega
          clear hdig
          go_wp2_with fail
          · go_round
            case rel => exact ⟨k + 1, nn, true, by omega, by go_num, rfl, rfl, pinv_over hlt HV.out cn hcn (by omega) (by omega) (by assumption)⟩
            case measure => simp [intOf]; omega
          · go_round
            case rel => exact ⟨k + 1, _, ov, by omega, by go_num, rfl, rfl, pinv_step hlt HV.out cn hcn (by omega) (by omega) (by assumption)⟩
            case measure => simp [intOf]; omega
        · obtain rfl : k = t.size := by omega
          have HV := Lib.hid hinv
          obtain ⟨i1, i2, i3, i4⟩ := hinv
          have hfull : t.data.toList.take t.size = t.data.toList := List.take_of_length_le (by rw [size_data]; omega)
          rw [hfull] at i1 i4
          have hp := HP.out
          rw [if_pos (List.all_eq_true.2 i1)] at hp
          clear i1 hfull HV
          generalize val t.data.toList = V at *
          rcases i4 with ⟨rfl, hn⟩ | ⟨rfl, hv⟩
          · by_cases hm : nn = -9223372036854775808
            · subst hm
              have hV : V = 9223372036854775808 := by omega
              clear hn i2 i3
              first
              | cases b
                · rw [if_pos (by simp [hV])] at hp
                  have HPc := Lib.hid hp; clear hp hV
                  go_wp2_with fail
                  go_ret2
                  exact ⟨(by first | rfl | ((rw [HPc.out]) <;> rfl)), rfl⟩
                · rw [if_neg (by simp; omega), hV] at hp
                  have HPc := Lib.hid hp; clear hp hV
                  go_wp2_with fail
                  go_ret2
                  exact ⟨(by first | rfl | ((rw [HPc.out]) <;> rfl)), rfl⟩
              | rw [if_pos (by simp [hV])] at hp
                have HPc := Lib.hid hp; clear hp hV
                go_wp2_with fail
                go_ret2
                exact ⟨(by first | rfl | ((rw [HPc.out]) <;> rfl)), rfl⟩
            · have hm' : (nn == -9223372036854775808) = false := by simpa using hm
              rw [if_neg (by omega)] at hp
              first
              | cases b
                · have hp2 : parseS s.data.toList = (-nn, 0) := by rw [hp, hn]; simp
                  have HPc := Lib.hid hp2; clear hp hn hp2
                  go_wp2_with fail
                  go_ret2
                  exact ⟨(by first | rfl | ((rw [HPc.out]) <;> rfl)), rfl⟩
                · have hp2 : parseS s.data.toList = (nn, 0) := by rw [hp, hn]; simp
                  have HPc := Lib.hid hp2; clear hp hn hp2
                  go_wp2_with fail
                  go_ret2
                  exact ⟨(by first | rfl | ((rw [HPc.out]) <;> rfl)), rfl⟩
              | have hp2 : parseS s.data.toList = (-nn, 0) := by rw [hp, hn]; simp
                have HPc := Lib.hid hp2; clear hp hn hp2
                go_wp2_with fail
                go_ret2
                exact ⟨(by first | rfl | ((rw [HPc.out]) <;> rfl)), rfl⟩
          · rw [if_pos (.inl hv)] at hp
            have HPc := Lib.hid hp; clear hp hv
            go_wp2_with fail
            go_ret2
            exact ⟨(by first | rfl | ((rw [HPc.out]) <;> rfl)), rfl⟩
end Go.Proofs.Ytejgkbkangjfnaa
