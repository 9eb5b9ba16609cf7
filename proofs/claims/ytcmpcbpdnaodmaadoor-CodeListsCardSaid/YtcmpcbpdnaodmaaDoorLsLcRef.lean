/- Parts of the proof. -/
import Derived.Test.YtcmpcbpdnaodmaaDoorLsLcRef0
import Derived.Test.YtcmpcbpdnaodmaaDoorLsLcList
import Derived.Test.YtcmpcbpdnaodmaaDoorLsLcText
namespace Go.Proofs.YtcmpcbpdnaodmaaDoor
set_option linter.unusedVariables false
theorem okP_yes {p : Prop} [Decidable p] (h : p) : okP p = some () := if_pos h
theorem inc64 {i : Nat} (h : i ≤ 1000000000000) : w64 ((i : Int) + 1) = ((i + 1 : Nat) : Int) := by rw [wrap64 (by omega) (by omega)]; omega
theorem great_loop (c : GApiCode) (hs : c.Strs.length ≤ 200) : ∀ (m i : Nat), c.Strs.length - i = m → ∃ b, f_r15_Great_l0 c (i : Int) = some ((b, ()), ()) := by
  intro m
  induction m with
  | zero =>
    intro i hi
    rw [f_r15_Great_l0_eq, decide_eq_false (by omega), f_r15_Great_j1_eq]
    exact ⟨_, rfl⟩
  | succ m ih =>
    intro i hi
    have hil : i < c.Strs.length := by omega
    have e1 : w64 ((i : Int) + 1) = ((i + 1 : Nat) : Int) := by rw [wrap64 (by omega) (by omega)]; omega
    rw [f_r15_Great_l0_eq, decide_eq_true (by omega), getI_nat' hil, e1]
    simp only [cond_true, Option.bind_some]
    cases decide ((c.Strs[i].length : Int) > 300)
    · exact ih (i + 1) (by omega)
    · exact ⟨_, rfl⟩
theorem great_at (c : GApiCode) : ∃ b, f_r15_Great c = some ((b, ()), ()) := by
  rw [f_r15_Great_eq]
  by_cases c1 : (c.Ins.length : Int) > 1500
  · rw [decide_eq_true c1]; exact ⟨_, rfl⟩
  by_cases c2 : (c.Fns.length : Int) > 150
  · rw [decide_eq_false c1, decide_eq_true c2]; exact ⟨_, rfl⟩
  by_cases c3 : (c.Strs.length : Int) > 200
  · rw [decide_eq_false c1, decide_eq_false c2, decide_eq_true c3]; exact ⟨_, rfl⟩
  rw [decide_eq_false c1, decide_eq_false c2, decide_eq_false c3]
  exact great_loop c (by omega) _ 0 rfl
theorem ref_isM (c : GApiCode) (h8 : ∀ x ∈ c.Ins, 0 ≤ x.Op) : f_r15_May c = some ((mayB c, ()), ()) := by
  unfold mayB
  rw [f_r15_May_eq]
  by_cases c1 : c.Fns.length ≤ 100
  · rw [decide_eq_false (by omega : ¬ (c.Fns.length : Int) > 100), decide_eq_true c1]
    by_cases c2 : c.Ins.length ≤ 65536
    · rw [decide_eq_false (by omega : ¬ (c.Ins.length : Int) > 65536), decide_eq_true c2]
      by_cases c3 : c.Strs.length ≤ 65536
      · rw [decide_eq_false (by omega : ¬ (c.Strs.length : Int) > 65536), decide_eq_true c3]
        simp only [cond_false, Bool.true_and]
        have q2 := ref_fnsM c c1 c2 _ 0 0 rfl (by omega) (by omega)
        rw [show f_r15_May_l0 0 c 0 = _ from q2, List.drop_zero]
        have e2 := ref_j1M c c2 c3 h8
        by_cases hF : mayFM c.Ins.length 0 c.Fns = some (c.Ins.length : Int)
        · have hR := (mayFRM (by omega)).1 hF
          rw [hF, hR]
          exact e2 _
        · have hR : ¬ mayRM c.Ins.length 0 c.Fns = some (c.Ins.length : Int) := fun h => hF ((mayFRM (by omega)).2 h)
          cases hm : mayFM c.Ins.length 0 c.Fns with
          | none =>
            cases hm2 : mayRM c.Ins.length 0 c.Fns with
            | none => rfl
            | some e2' =>
              simp only
              rw [e2, decide_eq_false (fun h => hR (by rw [hm2, h]))]
              rfl
          | some e =>
            simp only
            rw [decide_eq_false (fun h => hF (by rw [hm, h])), Bool.false_and]
            cases hm2 : mayRM c.Ins.length 0 c.Fns with
            | none => rfl
            | some e2' =>
              simp only
              rw [e2, decide_eq_false (fun h => hR (by rw [hm2, h]))]
              rfl
      · rw [decide_eq_true (by omega : (c.Strs.length : Int) > 65536), decide_eq_false c3]; rfl
    · rw [decide_eq_true (by omega : (c.Ins.length : Int) > 65536), decide_eq_false c2]; rfl
  · rw [decide_eq_true (by omega : (c.Fns.length : Int) > 100), decide_eq_false c1]; rfl
theorem name_ref (op : Int) (h0 : 0 ≤ op) : f_r15_Name op = some ((insName op, ()), ()) := by
  rw [f_r15_Name_eq]
  by_cases c : op > 26
  · rw [decide_eq_true c, cond_true]
    have hl : insNames.length ≤ op.toNat := by show 27 ≤ op.toNat; omega
    unfold insName
    rw [List.getElem?_eq_none hl]
    rfl
  · rw [decide_eq_false c, cond_false]
    obtain ⟨n, rfl⟩ : ∃ n : Nat, op = (n : Int) := ⟨op.toNat, by omega⟩
    have hn : n < insNames.length := by show n < 27; omega
    have hg : getI insNames (n : Int) = some insNames[n] := getI_nat' hn
    unfold insName
    rw [Int.toNat_natCast, List.getElem?_eq_getElem hn]
    show (getI insNames (n : Int)).bind (fun b => (insNames[Int.toNat (n : Int)]?).bind fun c => some ((c, ()), ())) = _
    rw [hg, Option.bind_some, Int.toNat_natCast, List.getElem?_eq_getElem hn]
    rfl
theorem text_ref {n : Int} (h : -9223372036854775808 ≤ n ∧ n ≤ 9223372036854775807) : f_r01_Text n = some ((decL n, ()), ()) := by
  rw [f_r01_Text_eq]
  unfold xr01_Text
  rw [if_pos h]
  rfl
theorem list_loop (c : GApiCode) (d : GApiEntry) (hi : c.Ins.length ≤ 65536) (h0 : 0 ≤ d.At) (h1 : 0 ≤ d.Len) (h2 : d.At + d.Len ≤ c.Ins.length) (hop : ∀ x ∈ c.Ins, 1 ≤ x.Op ∧ x.Op ≤ 26) (hA : ∀ x ∈ c.Ins, -9223372036854775808 ≤ x.A ∧ x.A ≤ 9223372036854775807) :
    ∀ (m b : Nat) (acc : List UInt8), d.Len.toNat - b = m → b ≤ d.Len.toNat → acc.length + 64 * m ≤ 100000000 → f_r15_Listing_l0 acc (b : Int) c d = some ((acc ++ listL b (((c.Ins.drop d.At.toNat).take d.Len.toNat).drop b), ()), ()) := by
  intro m
  induction m with
  | zero =>
    intro b acc hm hb hacc
    have e : ((c.Ins.drop d.At.toNat).take d.Len.toNat).drop b = [] := List.drop_eq_nil_of_le (by rw [List.length_take]; omega)
    rw [f_r15_Listing_l0_eq, decide_eq_false (by omega), cond_false, f_r15_Listing_j1_eq, e]
    show _ = some ((acc ++ [], ()), ())
    rw [List.append_nil]
  | succ m ih =>
    intro b acc hm hb hacc
    have hn : d.At.toNat + b < c.Ins.length := by omega
    have hbl : b < ((c.Ins.drop d.At.toNat).take d.Len.toNat).length := by rw [List.length_take, List.length_drop]; omega
    have hx : ((c.Ins.drop d.At.toNat).take d.Len.toNat)[b] = c.Ins[d.At.toNat + b] := by rw [List.getElem_take, List.getElem_drop]
    have ed : d.At + (b : Int) = ((d.At.toNat + b : Nat) : Int) := by omega
    rw [List.drop_eq_getElem_cons hbl, hx, f_r15_Listing_l0_eq, decide_eq_true (by omega), cond_true, wrap64 (by omega) (by omega), ed, getI_nat' hn, Option.bind_some]
    have hm1 := List.getElem_mem hn
    have o1 := hop _ hm1
    have o2 := hA _ hm1
    generalize c.Ins[d.At.toNat + b] = x at *
    have l1 := decL_len (n := (b : Int)) (by omega) (by omega)
    have l2 := insName_len x.Op
    have l3 := decL_len o2.1 o2.2
    have cat : ∀ s t : List UInt8, s.length + t.length ≤ 1000000000 → CatOb s t := fun s t h => by unfold CatOb; omega
    rw [text_ref ⟨by omega, by omega⟩, Option.bind_some]
    simp only
    rw [okP_yes (cat _ _ (by simp only [List.length_singleton]; omega)), Option.bind_some, name_ref _ (by omega), Option.bind_some]
    simp only
    rw [okP_yes (cat _ _ (by simp only [List.length_append, List.length_singleton]; omega)), Option.bind_some, okP_yes (cat _ _ (by simp only [List.length_append, List.length_singleton]; omega)), Option.bind_some, inc64 (by omega)]
    have bare : bareB x.Op = true → (okP (CatOb (acc ++ ((decL (b : Int) ++ [32]) ++ insName x.Op)) ([10] : List UInt8))).bind (fun _ => f_r15_Listing_l0 ((acc ++ ((decL (b : Int) ++ [32]) ++ insName x.Op)) ++ [10]) ((b + 1 : Nat) : Int) c d) = some ((acc ++ listL b (x :: ((c.Ins.drop d.At.toNat).take d.Len.toNat).drop (b + 1)), ()), ()) := fun hb => by
      rw [okP_yes (cat _ _ (by simp only [List.length_append, List.length_singleton]; omega)), Option.bind_some, ih (b + 1) _ (by omega) (by omega) (by simp only [List.length_append, List.length_singleton]; omega)]
      show _ = some ((acc ++ (insLine b x ++ listL (b + 1) _), ()), ())
      unfold insLine
      rw [hb, if_pos rfl]
      simp only [List.append_assoc, List.nil_append]
    by_cases e6 : x.Op = 6
    · rw [decide_eq_true e6, cond_true]; exact bare (by rw [e6]; rfl)
    rw [decide_eq_false e6, cond_false]
    by_cases e15 : x.Op = 15
    · rw [decide_eq_true e15, cond_true]; exact bare (by rw [e15]; rfl)
    rw [decide_eq_false e15, cond_false]
    by_cases e16 : x.Op = 16
    · rw [decide_eq_true e16, cond_true]; exact bare (by rw [e16]; rfl)
    rw [decide_eq_false e16, cond_false]
    by_cases e23 : x.Op = 23
    · rw [decide_eq_true e23, cond_true]; exact bare (by rw [e23]; rfl)
    rw [decide_eq_false e23, cond_false]
    by_cases e24 : x.Op = 24
    · rw [decide_eq_true e24, cond_true]; exact bare (by rw [e24]; rfl)
    rw [decide_eq_false e24, cond_false]
    by_cases e25 : x.Op = 25
    · rw [decide_eq_true e25, cond_true]; exact bare (by rw [e25]; rfl)
    rw [decide_eq_false e25, cond_false]
    by_cases e26 : x.Op = 26
    · rw [decide_eq_true e26, cond_true]; exact bare (by rw [e26]; rfl)
    rw [decide_eq_false e26, cond_false, text_ref o2, Option.bind_some]
    simp only
    have hb : bareB x.Op = false := by unfold bareB; simp [e6, e15, e16, e23, e24, e25, e26]
    rw [okP_yes (cat _ _ (by simp only [List.length_singleton]; omega)), Option.bind_some, okP_yes (cat _ _ (by simp only [List.length_append, List.length_singleton]; omega)), Option.bind_some, okP_yes (cat _ _ (by simp only [List.length_append, List.length_singleton]; omega)), Option.bind_some, ih (b + 1) _ (by omega) (by omega) (by simp only [List.length_append, List.length_singleton]; omega)]
    show _ = some ((acc ++ (insLine b x ++ listL (b + 1) _), ()), ())
    unfold insLine
    rw [hb, if_neg (by decide)]
    simp
theorem listing_ref (c : GApiCode) (n : Nat) (hn : n < c.Fns.length) (hm : mayB c = true) (hA : ∀ x ∈ c.Ins, -9223372036854775808 ≤ x.A ∧ x.A ≤ 9223372036854775807) : f_r15_Listing c (n : Int) = some ((listingB c (n : Int), ()), ()) := by
  have hk := mayK hm
  have hf : c.Fns[n]? = some c.Fns[n] := List.getElem?_eq_getElem hn
  obtain ⟨p0, p1, p2⟩ := hk.at_ hf
  have hi := hk.ins
  unfold listingB
  rw [if_pos ⟨by omega, hm⟩, Int.toNat_natCast, hf, f_r15_Listing_eq, getI_nat' hn, Option.bind_some]
  have := list_loop c c.Fns[n] hi p0 p1 p2 hk.op hA _ 0 [] rfl (Nat.zero_le _) (by simp only [List.length_nil]; omega)
  rw [List.drop_zero, List.nil_append] at this
  exact this
end Go.Proofs.YtcmpcbpdnaodmaaDoor
