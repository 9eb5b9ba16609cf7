/- Parts of the proof. -/
import Derived.Test.YtcmpcbpdnaodmaaDoorLsLiBld
import Derived.Test.YtcmpcbpdnaodmaaDoorLsLiName
import Derived.Test.YtcmpcbpdnaodmaaDoorLsLiMay
import Derived.Test.YtcmpcbpdnaodmaaDoorLsValsX
import Derived.Lib.ItoaLen
namespace Go.Proofs.YtcmpcbpdnaodmaaDoor
open Go.RowKit
set_option linter.unusedVariables false
set_option maxHeartbeats 4000000
set_option maxRecDepth 100000
def RowC (w : World) (v : Value) {α : Type} (l : List α) (k : Nat) (F : α → Nat → Value) : Prop := ∃ a cap, v = .slice a l.length cap ∧ l.length ≤ cap ∧ cap ≤ maxLen ∧ (l ≠ [] → ∃ b off, a = some ⟨b, off, none⟩ ∧ b < w.heap.size ∧ ∀ i (hi : i < l.length) j, j < k → w.cell? ⟨b, off + (i * k + j), none⟩ = some (F l[i] j))
theorem rowC_of {w : World} {M : Nat → Prop} {α : Type} {k : Nat} {l : List α} {f : α → List T} {v : Value} (h : RepT w M (.sl k (l.map f)) v) (F : α → Nat → Value) (hF : ∀ x j, j < k → (f x)[j]? = some (.v (F x j))) : RowC w v l k F := by
  generalize hX : l.map f = xs at h
  cases h with
  | nil _ a cap hcm =>
    have : l = [] := by simpa using hX
    subst this
    exact ⟨a, cap, rfl, Nat.zero_le _, hcm, fun h => absurd rfl h⟩
  | sl _ _ b off cap c hb hM hcap hcm hk hc hrr =>
    subst hX
    simp only [List.length_map] at hcap hk hc hrr ⊢
    refine ⟨_, _, rfl, by omega, hcm, fun _ => ⟨b, off, rfl, hb, fun i hi j hj => ?_⟩⟩
    have h1 := hF l[i] j hj
    have hlt : j < (f l[i]).length := (List.getElem?_eq_some_iff.1 h1).1
    have h2 := hrr i hi j (by simpa using hlt)
    simp only [List.getElem_map] at h2
    rw [(List.getElem?_eq_some_iff.1 h1).2] at h2
    have h3 := rep_val (st := ⟨0, fun _ => .dead, fun _ => none, fun _ => false⟩) (L := fun _ => nol) (.t _ _ h2)
    rw [hc i hi j hj, h3]
def cellI (x : GApiIns) : Nat → Value
  | 0 => .int .u8 x.Op
  | 1 => .int .i64 x.A
  | _ => .int .i64 x.Line
def cellE (x : GApiEntry) : Nat → Value
  | 0 => .int .i64 x.At
  | 1 => .int .i64 x.Len
  | 2 => .int .i64 x.Params
  | 3 => .int .i64 x.Slots
  | _ => .int .i64 x.Result
structure CodeV (w : World) (X : Nat → Prop) (c : GApiCode) (v1 v2 v3 : Value) : Prop where
  r1 : RepT w X (.sl 3 (c.Ins.map c_GApiIns)) v1
  r2 : RepT w X (.sl 5 (c.Fns.map c_GApiEntry)) v2
  r3 : RepT w X (.sl 1 (c.Strs.map c_str)) v3
theorem code_val {w : World} {X : Nat → Prop} {c : GApiCode} {v : Value} (h : RepF w X (e_GApiCode c) v) : ∃ v1 v2 v3, v = .agg #[v1, v2, v3] ∧ CodeV w X c v1 v2 v3 := by
  unfold e_GApiCode b_GApiCode at h
  cases h with
  | agg cs vs hs h1 hr =>
    obtain ⟨vs⟩ := vs
    match vs, hs with
    | [v1, v2, v3], _ =>
      refine ⟨v1, v2, v3, rfl, ?_, ?_, ?_⟩
      · have := hr 0 (by simp); cases this with | t _ _ h => exact h
      · have := hr 1 (by simp); cases this with | t _ _ h => exact h
      · have := hr 2 (by simp); cases this with | t _ _ h => exact h
theorem CodeV.rep {w : World} {X : Nat → Prop} {c : GApiCode} {v1 v2 v3 : Value} (h : CodeV w X c v1 v2 v3) : RepF w X (e_GApiCode c) (.agg #[v1, v2, v3]) := by
  unfold e_GApiCode b_GApiCode
  refine .agg _ _ rfl (fun i hi => ?_) (fun i hi => ?_)
  · match i, hi with
    | 0, _ => rfl
    | 1, _ => rfl
    | 2, _ => rfl
  · match i, hi with
    | 0, _ => exact .t _ _ h.r1
    | 1, _ => exact .t _ _ h.r2
    | 2, _ => exact .t _ _ h.r3
theorem CodeV.to {w w' : World} {X : Nat → Prop} {c : GApiCode} {v1 v2 v3 : Value} (h : CodeV w X c v1 v2 v3) (hb : Below w.heap.size w w') : CodeV w' (fun _ => False) c v1 v2 v3 := by
  have he : Ext X w w' := ⟨hb.size, fun k hk _ => hb.block k hk⟩
  exact ⟨h.r1.ext he (fun _ _ h => h.elim), h.r2.ext he (fun _ _ h => h.elim), h.r3.ext he (fun _ _ h => h.elim)⟩
theorem may_call {w : World} {c : GApiCode} {v1 v2 v3 : Value} (h : CodeV w (fun _ => False) c v1 v2 v3) : Calls Tryd.prog 12 #[.agg #[v1, v2, v3]] w fun e w' => e = .returned (.bool (mayB c)) ∧ Below w.heap.size w w' := by
  refine ((may_fnp c).2 w (fun _ => False) #[.agg #[v1, v2, v3]] (fun _ h => h.elim) rfl (fun i hi => ?_)).mono ?_
  · match i, hi with
    | 0, _ => exact h.rep
  · rintro e w' ⟨v, rfl, hb, hr⟩
    exact ⟨by rw [rep_val hr], hb⟩
def digL : Nat → Nat → List UInt8
  | 0, u => [UInt8.ofNat (48 + u)]
  | f + 1, u => if u < 10 then [UInt8.ofNat (48 + u)] else digL f (u / 10) ++ [UInt8.ofNat (48 + u % 10)]
theorem digL_eq : ∀ f u, u < 10 ^ (f + 1) → digL f u = Lib.decDigits u
  | 0, u, h => by
    rw [Lib.decDigits, dif_pos (by omega)]
    rfl
  | f + 1, u, h => by
    rw [Lib.decDigits]
    unfold digL
    split
    · rfl
    · rw [digL_eq f (u / 10) (by rw [Nat.pow_succ] at h; omega)]
def decL (n : Int) : List UInt8 := if n < 0 then 45 :: digL 20 n.natAbs else digL 20 n.toNat
theorem decL_eq {n : Int} (h0 : -9223372036854775808 ≤ n) (h1 : n ≤ 9223372036854775807) : decL n = Lib.itoa n := by
  unfold decL Lib.itoa
  split
  · rw [digL_eq 20 _ (by omega)]
  · rw [digL_eq 20 _ (by omega)]
theorem decL_len {n : Int} (h0 : -9223372036854775808 ≤ n) (h1 : n ≤ 9223372036854775807) : (decL n).length ≤ 21 := by
  rw [decL_eq h0 h1]; exact Lib.itoa_length_le n h0 h1
def bareB (op : Int) : Bool := decide (op = 6) || (decide (op = 15) || (decide (op = 16) || (decide (op = 23) || (decide (op = 24) || (decide (op = 25) || decide (op = 26))))))
def insLine (i : Nat) (x : GApiIns) : List UInt8 := decL i ++ ([32] ++ (insName x.Op ++ ((if bareB x.Op then [] else 32 :: decL x.A) ++ [10])))
def listL : Nat → List GApiIns → List UInt8
  | _, [] => []
  | i, x :: l => insLine i x ++ listL (i + 1) l
theorem listL_snoc : ∀ (l : List GApiIns) (i : Nat) (x : GApiIns), listL i (l ++ [x]) = listL i l ++ insLine (i + l.length) x
  | [], i, x => by
    show insLine i x ++ [] = [] ++ insLine (i + 0) x
    rw [List.append_nil, List.nil_append, Nat.add_zero]
  | y :: l, i, x => by
    show insLine i y ++ listL (i + 1) (l ++ [x]) = insLine i y ++ listL (i + 1) l ++ insLine (i + (l.length + 1)) x
    rw [listL_snoc l (i + 1) x, List.append_assoc, show i + 1 + l.length = i + (l.length + 1) by omega]
theorem bare_walk (op : Int) (h0 : 0 ≤ op) (h1 : op < 256) (w : World) : Calls Tryd.prog 15 #[.int .u8 op] w fun e w' => e = .returned (.bool (bareB op)) ∧ w' = w := by
  unfold bareB
  by_cases c : op = 6 ∨ op = 15 ∨ op = 16 ∨ op = 23 ∨ op = 24 ∨ op = 25 ∨ op = 26
  · rcases c with rfl | rfl | rfl | rfl | rfl | rfl | rfl
    all_goals
      go_enter Tryd.func15, Tryd.ntmps15
      go_wp2
      go_ret
      exact ⟨rfl, rfl⟩
  · obtain ⟨c1, c2, c3, c4, c5, c6, c7⟩ : op ≠ 6 ∧ op ≠ 15 ∧ op ≠ 16 ∧ op ≠ 23 ∧ op ≠ 24 ∧ op ≠ 25 ∧ op ≠ 26 := by omega
    go_enter Tryd.func15, Tryd.ntmps15
    go_wp2
    go_ret
    refine ⟨?_, rfl⟩
    simp [c1, c2, c3, c4, c5, c6, c7]
theorem bldAt_below {T e : TypeId} {B b : Nat} {p : Value} {bs : List Value} {w w' : World} (h : Lib.BuilderAtF T e B b p bs w) (hb : Below w.heap.size w w') : Lib.BuilderAtF T e B b p bs w' := by
  obtain ⟨hB, v, hk, hown, hne⟩ := h
  have keep : ∀ {k o}, w.heap[k]? = some o → w'.heap[k]? = some o := fun {k o} hko => (hb.block k (Array.getElem?_eq_some_iff.1 hko).1).trans hko
  refine ⟨hB, v, keep hk, ⟨hown.1, ?_⟩, hne⟩
  rcases hown.2 with hn | ⟨g, cap, cur, fz, hv, hbg, hg, rest⟩
  · exact .inl hn
  · exact .inr ⟨g, cap, cur, fz, hv, hbg, keep hg, rest⟩
theorem bld_below {T e : TypeId} {B b : Nat} {bs : List Value} {w w' : World} (h : Lib.IsBuilderF T e B b bs w) (hb : Below w.heap.size w w') : Lib.IsBuilderF T e B b bs w' := h.elim (fun x => .inl (bldAt_below x hb)) (fun x => .inr (bldAt_below x hb))
end Go.Proofs.YtcmpcbpdnaodmaaDoor
