/- Parts of the proof. -/
import Derived.Test.YtcmpcbpdnaodmaaDoorLsMem
import Derived.Test.YtcmpcbpdnaodmaaDoorLsCodeBack
namespace Go.Proofs.YtcmpcbpdnaodmaaDoor
open Go.RowKit
set_option linter.unusedVariables false
def strVl (s : List UInt8) : Value := .string ⟨s.toArray⟩
def insV (x : CIns) : Nat → Value
  | 0 => .int .u8 x.1
  | 1 => .int .i64 x.2.1
  | _ => .int .i64 x.2.2
def entV (f : CEnt) : Nat → Value
  | 0 => .int .i64 f.1
  | 1 => .int .i64 f.2.1
  | 2 => .int .i64 f.2.2.1
  | 3 => .int .i64 f.2.2.2.1
  | _ => .int .i64 f.2.2.2.2
def FI (l : List CIns) (i j : Nat) : Value := insV (l.getD i (0, 0, 0)) j
def FE (l : List CEnt) (i j : Nat) : Value := entV (l.getD i (0, 0, 0, 0, 0)) j
def FS (l : List (List UInt8)) (i _j : Nat) : Value := strVl (l.getD i [])
abbrev I64 (a : Int) : Prop := -9223372036854775808 ≤ a ∧ a ≤ 9223372036854775807
def insWide (x : CIns) : Prop := x.1 < 256 ∧ I64 x.2.1 ∧ I64 x.2.2
def entWide (f : CEnt) : Prop := I64 f.1 ∧ I64 f.2.1 ∧ I64 f.2.2.1 ∧ I64 f.2.2.2.1 ∧ I64 f.2.2.2.2
structure CodeAt (w : World) (v1 v2 v3 : Value) (c : CCode) : Prop where
  ins : SliceF w 3 v1 c.1.length (FI c.1)
  fns : SliceF w 5 v2 c.2.1.length (FE c.2.1)
  strs : SliceF w 1 v3 c.2.2.length (FS c.2.2)
  wi : ∀ x ∈ c.1, insWide x
  wf : ∀ f ∈ c.2.1, entWide f
  ws : ∀ s ∈ c.2.2, s.length ≤ maxLen
theorem CodeAt.below {w w' : World} {v1 v2 v3 : Value} {c : CCode} (h : CodeAt w v1 v2 v3 c) {B : Nat} (hb : Below B w w') (hB : w.heap.size ≤ B) : CodeAt w' v1 v2 v3 c :=
  ⟨h.ins.below hb hB, h.fns.below hb hB, h.strs.below hb hB, h.wi, h.wf, h.ws⟩
theorem getD_of {α : Type} {l : List α} {k : Nat} (h : k < l.length) (d : α) : l.getD k d = l[k] := by simp [List.getD, List.getElem?_eq_getElem h]
theorem ins_cells {w : World} {v1 : Value} {l : List CIns} (h : SliceF w 3 v1 l.length (FI l)) : ∃ a cap, v1 = .slice a l.length cap ∧ l.length ≤ maxLen ∧ ∀ k (hk : k < l.length), ∃ b off, a = some ⟨b, off, none⟩ ∧ b < w.heap.size ∧
    w.cell? ⟨b, off + k * 3, none⟩ = some (.int .u8 l[k].1) ∧ w.cell? ⟨b, off + k * 3 + 1, none⟩ = some (.int .i64 l[k].2.1) ∧ w.cell? ⟨b, off + k * 3 + 2, none⟩ = some (.int .i64 l[k].2.2) := by
  obtain ⟨a, cap, hv, hn, hc⟩ := h
  refine ⟨a, cap, hv, hn, fun k hk => ?_⟩
  obtain ⟨b, off, ha, hlt, hf⟩ := hc k hk
  refine ⟨b, off, ha, hlt, ?_, ?_, ?_⟩
  · have := hf 0 (by omega); unfold FI at this; rw [getD_of hk] at this; exact this
  · have := hf 1 (by omega); unfold FI at this; rw [getD_of hk] at this; exact this
  · have := hf 2 (by omega); unfold FI at this; rw [getD_of hk] at this; exact this
theorem ent_cells {w : World} {v1 : Value} {l : List CEnt} (h : SliceF w 5 v1 l.length (FE l)) : ∃ a cap, v1 = .slice a l.length cap ∧ l.length ≤ maxLen ∧ ∀ k (hk : k < l.length), ∃ b off, a = some ⟨b, off, none⟩ ∧ b < w.heap.size ∧
    w.cell? ⟨b, off + k * 5, none⟩ = some (.int .i64 l[k].1) ∧ w.cell? ⟨b, off + k * 5 + 1, none⟩ = some (.int .i64 l[k].2.1) ∧ w.cell? ⟨b, off + k * 5 + 2, none⟩ = some (.int .i64 l[k].2.2.1) ∧ w.cell? ⟨b, off + k * 5 + 3, none⟩ = some (.int .i64 l[k].2.2.2.1) ∧ w.cell? ⟨b, off + k * 5 + 4, none⟩ = some (.int .i64 l[k].2.2.2.2) := by
  obtain ⟨a, cap, hv, hn, hc⟩ := h
  refine ⟨a, cap, hv, hn, fun k hk => ?_⟩
  obtain ⟨b, off, ha, hlt, hf⟩ := hc k hk
  refine ⟨b, off, ha, hlt, ?_, ?_, ?_, ?_, ?_⟩
  · have := hf 0 (by omega); unfold FE at this; rw [getD_of hk] at this; exact this
  · have := hf 1 (by omega); unfold FE at this; rw [getD_of hk] at this; exact this
  · have := hf 2 (by omega); unfold FE at this; rw [getD_of hk] at this; exact this
  · have := hf 3 (by omega); unfold FE at this; rw [getD_of hk] at this; exact this
  · have := hf 4 (by omega); unfold FE at this; rw [getD_of hk] at this; exact this
theorem str_cells {w : World} {v1 : Value} {l : List (List UInt8)} (h : SliceF w 1 v1 l.length (FS l)) : ∃ a cap, v1 = .slice a l.length cap ∧ l.length ≤ maxLen ∧ ∀ k (hk : k < l.length), ∃ b off, a = some ⟨b, off, none⟩ ∧ b < w.heap.size ∧
    w.cell? ⟨b, off + k, none⟩ = some (strVl l[k]) := by
  obtain ⟨a, cap, hv, hn, hc⟩ := h
  refine ⟨a, cap, hv, hn, fun k hk => ?_⟩
  obtain ⟨b, off, ha, hlt, hf⟩ := hc k hk
  refine ⟨b, off, ha, hlt, ?_⟩
  have := hf 0 (by omega); unfold FS at this; rw [getD_of hk, Nat.mul_one] at this; exact this
def entGood (c : CCode) (at_ : Int) (f : CEnt) : Prop := f.1 = at_ ∧ 0 ≤ f.2.1 ∧ f.2.1 ≤ c.1.length - at_ ∧ 0 ≤ f.2.2.1 ∧ f.2.2.1 ≤ f.2.2.2.1 ∧ f.2.2.2.1 ≤ 200 ∧ 0 ≤ f.2.2.2.2 ∧ f.2.2.2.2 ≤ 1
theorem lens_append (l r : List CEnt) : lens (l ++ r) = lens l + lens r := by
  induction l with
  | nil => simp [lens]
  | cons f l ih => simp [lens, ih, Int.add_assoc]
theorem entsOk_append (l r : List CEnt) : ∀ at_, entsOk at_ (l ++ r) = (entsOk at_ l && entsOk (at_ + lens l) r) := by
  induction l with
  | nil => intro at_; simp [entsOk, lens]
  | cons f l ih => intro at_; simp only [List.cons_append, entsOk, ih, lens, Int.add_assoc, Bool.and_assoc]
theorem ents_at {l : List CEnt} {k : Nat} (hk : k < l.length) (h : entsOk 0 l = true) : l[k].1 = lens (l.take k) ∧ entOk l[k] = true ∧ l[k].2.1 ≤ lens l - lens (l.take k) := by
  have e : l = l.take k ++ (l[k] :: l.drop (k + 1)) := by rw [List.getElem_cons_drop, List.take_append_drop]
  have h1 := h
  rw [e, entsOk_append] at h1
  simp only [Bool.and_eq_true, entsOk, decide_eq_true_eq] at h1
  obtain ⟨h2, ⟨h3, h4⟩, h5⟩ := h1
  refine ⟨by rw [h3]; omega, h4, ?_⟩
  have h6 := lens_nonneg _ _ h5
  have h7 : lens l = lens (l.take k) + (l[k].2.1 + lens (l.drop (k + 1))) := by
    conv => lhs; rw [e]
    rw [lens_append]; rfl
  omega
theorem may_sizes {c : CCode} (h : c.2.1.length > 100 ∨ c.1.length > 65536 ∨ c.2.2.length > 65536) : mayC c = false := by
  unfold mayC
  rcases h with h | h | h
  · rw [decide_eq_false (show ¬ c.2.1.length ≤ 100 by omega)]; simp
  · rw [decide_eq_false (show ¬ c.1.length ≤ 65536 by omega)]; simp
  · rw [decide_eq_false (show ¬ c.2.2.length ≤ 65536 by omega)]; simp
theorem may_parts {c : CCode} (h : mayC c = true) : c.2.1.length ≤ 100 ∧ c.1.length ≤ 65536 ∧ c.2.2.length ≤ 65536 ∧ entsOk 0 c.2.1 = true ∧ lens c.2.1 = c.1.length ∧ (∀ x ∈ c.1, insOk x = true) ∧ bytesOf c.2.2 ≤ 1048576 := by
  simp only [mayC, Bool.and_eq_true, decide_eq_true_eq] at h
  obtain ⟨⟨⟨⟨⟨⟨m1, m2⟩, m3⟩, m4⟩, m5⟩, m6⟩, m7⟩ := h
  exact ⟨m1, m2, m3, m4, m5, List.all_eq_true.1 m6, m7⟩
theorem may_bad_ent {c : CCode} {k : Nat} (hk : k < c.2.1.length) (h : ¬ entGood c (lens (c.2.1.take k)) c.2.1[k]) : mayC c = false := by
  rw [← Bool.not_eq_true]
  intro hm
  obtain ⟨_, _, _, m4, m5, _, _⟩ := may_parts hm
  obtain ⟨h1, h2, h3⟩ := ents_at hk m4
  simp only [entOk, decide_eq_true_eq] at h2
  exact h ⟨h1, by omega, by omega, by omega, by omega, by omega, by omega, by omega⟩
theorem lens_take {l : List CEnt} {k : Nat} (hk : k < l.length) : lens (l.take (k + 1)) = lens (l.take k) + l[k].2.1 := by
  rw [List.take_succ_eq_append_getElem hk, lens_append]; simp [lens]
theorem ents_take {l : List CEnt} {k : Nat} (hk : k < l.length) (h : entsOk 0 (l.take k) = true) (h1 : l[k].1 = lens (l.take k)) (h2 : entOk l[k] = true) : entsOk 0 (l.take (k + 1)) = true := by
  rw [List.take_succ_eq_append_getElem hk, entsOk_append, h]
  simp [entsOk, h1, h2]
theorem may_bad_sum {c : CCode} (h : lens c.2.1 ≠ c.1.length) : mayC c = false := by
  rw [← Bool.not_eq_true]; intro hm; exact h (may_parts hm).2.2.2.2.1
theorem may_bad_ins {c : CCode} {k : Nat} (hk : k < c.1.length) (h : insOk c.1[k] = false) : mayC c = false := by
  rw [← Bool.not_eq_true]; intro hm
  have := (may_parts hm).2.2.2.2.2.1 _ (List.getElem_mem hk)
  rw [h] at this; exact absurd this (by decide)
theorem bytes_append (l r : List (List UInt8)) : bytesOf (l ++ r) = bytesOf l + bytesOf r := by
  induction l with
  | nil => simp [bytesOf]
  | cons f l ih => simp [bytesOf, ih, Nat.add_assoc]
theorem bytes_take {l : List (List UInt8)} {k : Nat} (hk : k < l.length) : bytesOf (l.take (k + 1)) = bytesOf (l.take k) + l[k].length := by
  rw [List.take_succ_eq_append_getElem hk, bytes_append]; simp [bytesOf]
theorem bytes_take_le (l : List (List UInt8)) (k : Nat) : bytesOf (l.take k) ≤ bytesOf l := by
  conv => rhs; rw [← List.take_append_drop k l]
  rw [bytes_append]; omega
theorem may_bad_bytes {c : CCode} {k : Nat} (hk : k < c.2.2.length) (h : 1048576 < bytesOf (c.2.2.take k) + c.2.2[k].length) : mayC c = false := by
  rw [← Bool.not_eq_true]; intro hm
  have h1 := (may_parts hm).2.2.2.2.2.2
  have h2 := bytes_take_le c.2.2 (k + 1)
  rw [bytes_take hk] at h2
  omega
theorem may_good {c : CCode} (h1 : c.2.1.length ≤ 100) (h2 : c.1.length ≤ 65536) (h3 : c.2.2.length ≤ 65536) (h4 : entsOk 0 c.2.1 = true) (h5 : lens c.2.1 = c.1.length) (h6 : ∀ x ∈ c.1, insOk x = true) (h7 : bytesOf c.2.2 ≤ 1048576) : mayC c = true := by
  simp only [mayC, Bool.and_eq_true, decide_eq_true_eq]
  exact ⟨⟨⟨⟨⟨⟨h1, h2⟩, h3⟩, h4⟩, h5⟩, List.all_eq_true.2 h6⟩, h7⟩
end Go.Proofs.YtcmpcbpdnaodmaaDoor
