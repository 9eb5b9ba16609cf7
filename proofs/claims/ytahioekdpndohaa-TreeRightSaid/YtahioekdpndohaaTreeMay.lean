/- Whether a row is a program's tree: what the program says. -/
import Derived.Test.YtahioekdpndohaaTreeName
namespace Go.Proofs.Ytahioekdpndohaa
open Go.RowKit
set_option linter.unusedVariables false
def fieldsB (x : GApiNode) : Bool :=
  if x.Kind = 2 ∨ x.Kind = 19 then greatS x.Text && decide (x.Num = 0)
  else if x.Kind = 3 ∨ x.Kind = 5 ∨ x.Kind = 7 ∨ x.Kind = 26 ∨ x.Kind = 27 ∨ x.Kind = 29 then nameS x.Text && decide (x.Num = 0)
  else if x.Kind = 4 then nameS x.Text && decide (x.Num ≥ 0)
  else if x.Kind = 23 then decide (x.Num = 0)
  else decide (x.Text = []) && (if x.Kind = 21 then decide (x.Num ≥ 0) else if x.Kind = 22 then decide (0 ≤ x.Num ∧ x.Num < 8388608) else if x.Kind = 24 then decide (x.Num = 0 ∨ x.Num = 1)
    else if x.Kind = 30 then decide (x.Num = 12 ∨ x.Num = 13) else if x.Kind = 31 then decide ((1 ≤ x.Num ∧ x.Num ≤ 11) ∨ x.Num = 14 ∨ x.Num = 15) else decide (x.Num = 0))
theorem fields_spec (x : GApiNode) : tree_fields x = some (fieldsB x) := by
  unfold tree_fields tree_fields_j0 tree_fields_j1 fieldsB
  simp only [name_spec, great_spec, obind_some]
  generalize greatS x.Text = G
  generalize nameS x.Text = N
  generalize x.Kind = k
  generalize x.Num = n
  by_cases he : x.Text = []
  all_goals (
    by_cases h2 : k = 2
    · subst h2; cases G <;> simp
    by_cases h19 : k = 19
    · subst h19; cases G <;> simp
    by_cases h3 : k = 3
    · subst h3; cases N <;> simp
    by_cases h5 : k = 5
    · subst h5; cases N <;> simp
    by_cases h7 : k = 7
    · subst h7; cases N <;> simp
    by_cases h26 : k = 26
    · subst h26; cases N <;> simp
    by_cases h27 : k = 27
    · subst h27; cases N <;> simp
    by_cases h29 : k = 29
    · subst h29; cases N <;> simp
    by_cases h4 : k = 4
    · subst h4; cases N <;> simp
    by_cases h23 : k = 23
    · subst h23; simp
    by_cases h21 : k = 21
    · subst h21; simp [he]
    by_cases h22 : k = 22
    · subst h22; simp [he]; try (by_cases h : 0 ≤ n <;> simp [h])
    by_cases h24 : k = 24
    · subst h24; simp [he]; try (by_cases h : n = 0 <;> simp [h])
    by_cases h30 : k = 30
    · subst h30; simp [he]; try (by_cases h : n = 12 <;> simp [h])
    by_cases h31 : k = 31
    · subst h31; simp [he]
      try (
        by_cases a : 1 ≤ n
        · by_cases b : n ≤ 11
          · simp [a, b]
          · by_cases h : n = 14 <;> simp [a, b, h]
        · by_cases h : n = 14 <;> simp [a, h])
    simp [h2, h19, h3, h5, h7, h26, h27, h29, h4, h23, h21, h22, h24, h30, h31, he])
/-- It tells a node's kind alone. -/
def Tells (f : Fv35) (p : Int → Bool) : Prop := ∀ x, f.run x = some (p x.Kind)
def rowB : List (Int → Bool) → List Int → Bool
  | [], [] => true
  | p :: ps, k :: ks => p k && rowB ps ks
  | _, _ => false
theorem rowB_len : ∀ {ps : List (Int → Bool)} {ks : List Int}, ks.length ≠ ps.length → rowB ps ks = false
  | [], [], h => absurd rfl h
  | p :: ps, k :: ks, h => by simp [rowB]; intro _; exact rowB_len (by simpa using h)
  | [], _ :: _, _ => rfl
  | _ :: _, [], _ => rfl
theorem row_loop {fs : List Fv35} {ps : List (Int → Bool)} (hlen : fs.length = ps.length) (hfs : fs.length ≤ 100) (ht : ∀ i (h : i < fs.length) (h' : i < ps.length), Tells fs[i] ps[i]) (x : GApiNode) (kids : List GApiNode) (hk : kids.length = fs.length) :
    ∀ (n i : Nat), fs.length - i ≤ n → i ≤ fs.length → tree_look_row_l0 fs (i : Int) (GTreeLook.mk x kids) = some (rowB (ps.drop i) ((kids.drop i).map (·.Kind))) := by
  have stop : ∀ i : Nat, i = fs.length → tree_look_row_l0 fs (i : Int) (GTreeLook.mk x kids) = some (rowB (ps.drop i) ((kids.drop i).map (·.Kind))) := fun i hi => by
    rw [tree_look_row_l0_eq, if_neg (by omega), tree_look_row_j1_eq, List.drop_eq_nil_of_le (by omega), List.drop_eq_nil_of_le (by omega)]; rfl
  intro n
  induction n with
  | zero => intro i h1 h2; exact stop i (by omega)
  | succ n ih =>
    intro i h1 h2
    by_cases h : i < fs.length
    · have e1 : ps.drop i = ps[i]'(by omega) :: ps.drop (i + 1) := List.drop_eq_getElem_cons (by omega)
      have e2 : kids.drop i = kids[i]'(by omega) :: kids.drop (i + 1) := List.drop_eq_getElem_cons (by omega)
      have hg : getI (GTreeLook.mk x kids).kids_ (i : Int) = some (kids[i]'(by omega)) := getI_nat' (xs := kids) (by omega)
      rw [tree_look_row_l0_eq, if_pos (by omega), getI_nat' h, obind_some, hg, obind_some, ht i h (by omega), obind_some, e1, e2, List.map_cons, wrap64 (by omega) (by omega), show (i : Int) + 1 = ((i + 1 : Nat) : Int) by omega, ih (i + 1) (by omega) (by omega)]
      show _ = some (_ && _)
      generalize (ps[i]'(by omega)) ((kids[i]'(by omega)).Kind) = b
      cases b <;> simp
    · exact stop i (by omega)
theorem row_spec {fs : List Fv35} {ps : List (Int → Bool)} (hlen : fs.length = ps.length) (hfs : fs.length ≤ 100) (ht : ∀ i (h : i < fs.length) (h' : i < ps.length), Tells fs[i] ps[i]) (x : GApiNode) (kids : List GApiNode) : tree_look_row (GTreeLook.mk x kids) fs = some (rowB ps (kids.map (·.Kind))) := by
  unfold tree_look_row
  by_cases h : kids.length = fs.length
  · rw [if_pos (by show (kids.length : Int) = _; omega)]
    exact row_loop hlen hfs ht x kids h fs.length 0 (by omega) (by omega)
  · rw [if_neg (by show ¬ (kids.length : Int) = _; omega), rowB_len (by simp; omega)]
theorem row0 (x : GApiNode) (kids : List GApiNode) : tree_look_row (GTreeLook.mk x kids) [] = some (rowB [] (kids.map (·.Kind))) := row_spec rfl (by simp) (fun i h => by simp at h) x kids
theorem row1 {f : Fv35} {p : Int → Bool} (hf : Tells f p) (x : GApiNode) (kids : List GApiNode) : tree_look_row (GTreeLook.mk x kids) [f] = some (rowB [p] (kids.map (·.Kind))) :=
  row_spec rfl (by simp) (fun i h h' => by match i, h with | 0, _ => exact hf) x kids
theorem row2 {f g : Fv35} {p q : Int → Bool} (hf : Tells f p) (hg : Tells g q) (x : GApiNode) (kids : List GApiNode) : tree_look_row (GTreeLook.mk x kids) [f, g] = some (rowB [p, q] (kids.map (·.Kind))) :=
  row_spec rfl (by simp) (fun i h h' => by match i, h with | 0, _ => exact hf | 1, _ => exact hg) x kids
theorem row3 {f g k : Fv35} {p q r : Int → Bool} (hf : Tells f p) (hg : Tells g q) (hk : Tells k r) (x : GApiNode) (kids : List GApiNode) : tree_look_row (GTreeLook.mk x kids) [f, g, k] = some (rowB [p, q, r] (kids.map (·.Kind))) :=
  row_spec rfl (by simp) (fun i h h' => by match i, h with | 0, _ => exact hf | 1, _ => exact hg | 2, _ => exact hk) x kids
theorem all_loop {f : Fv35} {p : Int → Bool} (hf : Tells f p) (x : GApiNode) (kids : List GApiNode) (hk : kids.length ≤ 200000) :
    ∀ (n i : Nat), kids.length - i ≤ n → i ≤ kids.length → tree_look_all_l0 f (GTreeLook.mk x kids) (i : Int) = some (((kids.drop i).map (·.Kind)).all p) := by
  have stop : ∀ i : Nat, i = kids.length → tree_look_all_l0 f (GTreeLook.mk x kids) (i : Int) = some (((kids.drop i).map (·.Kind)).all p) := fun i hi => by
    rw [tree_look_all_l0_eq, if_neg (by show ¬ (i : Int) < (kids.length : Int); omega), tree_look_all_j1_eq, List.drop_eq_nil_of_le (by omega)]; rfl
  intro n
  induction n with
  | zero => intro i h1 h2; exact stop i (by omega)
  | succ n ih =>
    intro i h1 h2
    by_cases h : i < kids.length
    · have e2 : kids.drop i = kids[i]'(by omega) :: kids.drop (i + 1) := List.drop_eq_getElem_cons (by omega)
      have hg : getI (GTreeLook.mk x kids).kids_ (i : Int) = some (kids[i]'(by omega)) := getI_nat' (xs := kids) (by omega)
      rw [tree_look_all_l0_eq, if_pos (by show (i : Int) < (kids.length : Int); omega), hg, obind_some, hf, obind_some, e2, List.map_cons, List.all_cons, wrap64 (by omega) (by omega), show (i : Int) + 1 = ((i + 1 : Nat) : Int) by omega, ih (i + 1) (by omega) (by omega)]
      generalize p ((kids[i]'(by omega)).Kind) = b
      cases b <;> simp
    · exact stop i (by omega)
theorem all_spec {f : Fv35} {p : Int → Bool} (hf : Tells f p) (x : GApiNode) (kids : List GApiNode) (hk : kids.length ≤ 200000) : tree_look_all (GTreeLook.mk x kids) f = some ((kids.map (·.Kind)).all p) := by
  unfold tree_look_all
  exact all_loop hf x kids hk kids.length 0 (by omega) (by omega)
theorem of_loop (ks : List Int) (hk : ks.length ≤ 100) (x : GApiNode) : ∀ (n i : Nat), ks.length - i ≤ n → i ≤ ks.length → tree_of_1_l0 ks (i : Int) x = some ((ks.drop i).contains x.Kind) := by
  have stop : ∀ i : Nat, i = ks.length → tree_of_1_l0 ks (i : Int) x = some ((ks.drop i).contains x.Kind) := fun i hi => by
    rw [tree_of_1_l0_eq, if_neg (by omega), tree_of_1_j1_eq, List.drop_eq_nil_of_le (by omega)]; rfl
  intro n
  induction n with
  | zero => intro i h1 h2; exact stop i (by omega)
  | succ n ih =>
    intro i h1 h2
    by_cases h : i < ks.length
    · rw [tree_of_1_l0_eq, if_pos (by omega), getI_nat' h, obind_some, List.drop_eq_getElem_cons h, List.contains_cons, wrap64 (by omega) (by omega), show (i : Int) + 1 = ((i + 1 : Nat) : Int) by omega, ih (i + 1) (by omega) (by omega)]
      by_cases e : x.Kind = ks[i]
      · rw [if_pos e]; simp [e]
      · rw [if_neg e]; simp [e]
    · exact stop i (by omega)
theorem of_spec (ks : List Int) (hk : ks.length ≤ 100) : ∃ f, tree_of ks = some f ∧ Tells f ks.contains :=
  ⟨_, rfl, fun x => by
    show tree_of_1 x ks = _
    unfold tree_of_1
    exact of_loop ks hk x ks.length 0 (by omega) (by omega)⟩
def btw (a b : Int) (k : Int) : Bool := decide (a ≤ k) && decide (k ≤ b)
theorem between_spec (a b : Int) : ∃ f, tree_between a b = some f ∧ Tells f (btw a b) :=
  ⟨_, rfl, fun x => by
    show tree_between_1 x a b = _
    unfold tree_between_1 btw
    by_cases h : x.Kind ≥ a
    · rw [if_pos h]; simp [h]
    · rw [if_neg h]; simp; omega⟩
def isT := btw 15 20
def isE := btw 21 32
def isB (k : Int) : Bool := decide (k = 6)
theorem someType_tells (t : T) (ok) : Tells (Fv35.mk t (fun b0 => tree_someType b0) ok) isT := fun x => by
  obtain ⟨f, h1, h2⟩ := between_spec 15 20
  show tree_someType x = _
  unfold tree_someType
  rw [h1, obind_some, h2 x, obind_some]; rfl
theorem expression_tells (t : T) (ok) : Tells (Fv35.mk t (fun b0 => tree_expression b0) ok) isE := fun x => by
  obtain ⟨f, h1, h2⟩ := between_spec 21 32
  show tree_expression x = _
  unfold tree_expression
  rw [h1, obind_some, h2 x, obind_some]; rfl
theorem block_tells (t : T) (ok) : Tells (Fv35.mk t (fun b0 => tree_block b0) ok) isB := fun x => rfl
end Go.Proofs.Ytahioekdpndohaa
