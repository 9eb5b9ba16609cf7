/- Layer 15's contracts, in the words of the abstract execution. -/
import Derived.Test.YtcmpcbpdnaodmaaLawCode
import Derived.Test.YtcmpcbpdnaodmaaCodeMayRef
import Derived.Test.YtcmpcbpdnaodmaaXF
import Derived.Test.YtcmpcbpdnaodmaaXG
namespace Go.Proofs.Ytcmpcbpdnaodmaa
open Go.RowKit
set_option linter.unusedVariables false

abbrev bV (b : UInt8) : List T := [T.v (.int .u8 (b.toNat : Int))]
abbrev bytesT (l : List UInt8) : T := .sl 1 (l.map bV)
def insT (x : CIns) : List T := [.v (.int .u8 x.1), .v (.int .i64 x.2.1), .v (.int .i64 x.2.2)]
def entT (f : CEnt) : List T := [.v (.int .i64 f.1), .v (.int .i64 f.2.1), .v (.int .i64 f.2.2.1), .v (.int .i64 f.2.2.2.1), .v (.int .i64 f.2.2.2.2)]
def strT (s : List UInt8) : List T := [.v (strV s)]
@[go_sem] def codeC (c : CCode) : List A := [.t (.sl 3 (c.1.map insT)), .t (.sl 5 (c.2.1.map entT)), .t (.sl 1 (c.2.2.map strT))]
structure CodeWf (c : CCode) : Prop where
  wi : ∀ x ∈ c.1, insWide x
  wf : ∀ f ∈ c.2.1, entWide f
  ws : ∀ s ∈ c.2.2, s.length ≤ maxLen
  l1 : c.1.length ≤ maxLen
  l2 : c.2.1.length ≤ maxLen
  l3 : c.2.2.length ≤ maxLen
theorem sliceF_of {w : World} {M : Nat → Prop} {α : Type} {k : Nat} {l : List α} {f : α → List T} {v : Value} (h : RepT w M (.sl k (l.map f)) v) (F : Nat → Nat → Value) (hF : ∀ i (hi : i < l.length) j, j < k → (f l[i])[j]? = some (.v (F i j))) : SliceF w k v l.length F := by
  generalize hX : l.map f = xs at h
  cases h with
  | nil _ a cap hcm =>
    have : l = [] := by simpa using hX
    subst this
    exact ⟨a, cap, rfl, Nat.zero_le _, fun i hi => by simp at hi⟩
  | sl _ _ b off cap c hb hM hcap hcm hk hc hrr =>
    subst hX
    simp only [List.length_map] at hcap hk hc hrr ⊢
    refine ⟨_, _, rfl, by omega, fun i hi => ⟨b, off, rfl, hb, fun j hj => ?_⟩⟩
    have h1 := hF i hi j hj
    have hlt : j < (f l[i]).length := (List.getElem?_eq_some_iff.1 h1).1
    have h2 := hrr i hi j (by simpa using hlt)
    simp only [List.getElem_map] at h2
    rw [(List.getElem?_eq_some_iff.1 h1).2] at h2
    have h3 := rep_val (st := ⟨0, fun _ => .dead, fun _ => none, fun _ => false⟩) (L := fun _ => ⟨none, 0⟩) (.t _ _ h2)
    rw [Nat.add_assoc, hc i hi j hj, h3]
theorem of_sliceF {w : World} {M : Nat → Prop} {α : Type} {k : Nat} {l : List α} {f : α → List T} {v : Value} {F : Nat → Nat → Value} {B : Nat} (h : SliceF w k v l.length F) (hn : NewS w.heap.size B v) (hM : ∀ b, M b → b < B) (hlen : ∀ x, (f x).length = k) (hF : ∀ i (hi : i < l.length) j, j < k → (f l[i])[j]? = some (.v (F i j))) (h1 : ∀ i j, i < l.length → j < k → (F i j).oneCell' = true) : RepT w M (.sl k (l.map f)) v := by
  obtain ⟨a, cap, hv, hm, hc⟩ := h
  rcases hn with rfl | ⟨g, n, c, rfl, hB, hN, hnc, hcm⟩
  · simp only [Value.slice.injEq] at hv
    have : l = [] := List.eq_nil_of_length_eq_zero hv.2.1.symm
    subst this
    exact .nil _ _ _ (Nat.zero_le _)
  · simp only [Value.slice.injEq] at hv
    obtain ⟨rfl, rfl, rfl⟩ := hv
    have := RepT.sl (w := w) (M := M) k (l.map f) g 0 c (fun i j => F i j) hN (fun hm => by have := hM _ hm; omega) (by simpa using hnc) hcm (fun i hi => by simp [hlen]) (fun i hi j hj => by
      have hi' : i < l.length := by simpa using hi
      obtain ⟨b, off, hab, _, hcell⟩ := hc i hi'
      simp only [Option.some.injEq, Addr.mk.injEq] at hab
      obtain ⟨rfl, rfl, _⟩ := hab
      have := hcell j hj
      rwa [Nat.add_assoc] at this) (fun i hi j hj => by
      have hi' : i < l.length := by simpa using hi
      have hj' : j < k := by rw [← hlen l[i]]; simpa using hj
      have h2 := hF i hi' j hj'
      simp only [List.getElem_map]
      rw [(List.getElem?_eq_some_iff.1 h2).2]
      exact .v _ (h1 i j hi' hj'))
    simpa using this
theorem insF (l : List CIns) : ∀ i (hi : i < l.length) j, j < 3 → (insT l[i])[j]? = some (.v (FI l i j)) := fun i hi j hj => by
  unfold FI; rw [getD_of hi]
  match j, hj with
  | 0, _ => rfl
  | 1, _ => rfl
  | 2, _ => rfl
theorem entF (l : List CEnt) : ∀ i (hi : i < l.length) j, j < 5 → (entT l[i])[j]? = some (.v (FE l i j)) := fun i hi j hj => by
  unfold FE; rw [getD_of hi]
  match j, hj with
  | 0, _ => rfl
  | 1, _ => rfl
  | 2, _ => rfl
  | 3, _ => rfl
  | 4, _ => rfl
theorem strF (l : List (List UInt8)) : ∀ i (hi : i < l.length) j, j < 1 → (strT l[i])[j]? = some (.v (FS l i j)) := fun i hi j hj => by
  unfold FS; rw [getD_of hi]
  match j, hj with
  | 0, _ => rfl
theorem code_at {w : World} {M : Nat → Prop} {c : CCode} {v : Value} (h : RepF w M (.agg (codeC c)) v) (hw : CodeWf c) : ∃ v1 v2 v3, v = .agg #[v1, v2, v3] ∧ CodeAt w v1 v2 v3 c := by
  cases h with
  | agg _ vs hsz h1 hr =>
    have h3 : vs.size = 3 := by rw [hsz]; rfl
    refine ⟨vs[0], vs[1], vs[2], ?_, sliceF_of (rep_t (hr 0 (by simp [codeC]))) _ (insF _), sliceF_of (rep_t (hr 1 (by simp [codeC]))) _ (entF _), sliceF_of (rep_t (hr 2 (by simp [codeC]))) _ (strF _), hw.wi, hw.wf, hw.ws⟩
    congr 1
    apply Array.ext
    · simp [h3]
    · intro i hi hi'
      match i, hi with
      | 0, _ => rfl
      | 1, _ => rfl
      | 2, _ => rfl
      | n + 3, h => omega
theorem rep_code {w : World} {M : Nat → Prop} {c : CCode} {v1 v2 v3 : Value} {B : Nat} (h : CodeAt w v1 v2 v3 c) (n1 : NewS w.heap.size B v1) (n2 : NewS w.heap.size B v2) (n3 : NewS w.heap.size B v3) (hM : ∀ b, M b → b < B) : RepF w M (.agg (codeC c)) (.agg #[v1, v2, v3]) := by
  have e1 : RepT w M (.sl 3 (c.1.map insT)) v1 := of_sliceF h.ins n1 hM (fun _ => rfl) (insF _) (fun i j hi hj => by unfold FI; match j, hj with | 0, _ => rfl | 1, _ => rfl | 2, _ => rfl)
  have e2 : RepT w M (.sl 5 (c.2.1.map entT)) v2 := of_sliceF h.fns n2 hM (fun _ => rfl) (entF _) (fun i j hi hj => by unfold FE; match j, hj with | 0, _ => rfl | 1, _ => rfl | 2, _ => rfl | 3, _ => rfl | 4, _ => rfl)
  have e3 : RepT w M (.sl 1 (c.2.2.map strT)) v3 := of_sliceF h.strs n3 hM (fun _ => rfl) (strF _) (fun i j hi hj => by unfold FS; rfl)
  refine .agg _ _ rfl (fun i hi => ?_) (fun i hi => ?_)
  · match i, hi with
    | 0, _ => rfl
    | 1, _ => rfl
    | 2, _ => rfl
    | n + 3, h => simp [codeC] at h; omega
  · match i, hi with
    | 0, _ => exact .t _ _ e1
    | 1, _ => exact .t _ _ e2
    | 2, _ => exact .t _ _ e3
    | n + 3, h => simp [codeC] at h; omega
theorem rep_bytes {w w0 : World} {M : Nat → Prop} {a : Option Addr} {c : Nat} {xs : List UInt8} (h : w.ownsRow w0.heap.size 5 1 (.slice a xs.length c) xs.length (xs.map byteV)) (hM : ∀ b, M b → b < w0.heap.size) : RepT w M (bytesT xs) (.slice a xs.length c) := by
  have hs : SliceF w 1 (.slice a xs.length c) xs.length (fun i _ => byteV (xs.getD i 0)) := SliceF.of_owns h _ (fun i j hi hj => by
    have : j = 0 := by omega
    subst this
    simp [getD_of hi, List.getElem?_eq_getElem hi])
  exact of_sliceF (f := bV) hs (newS_of h (Nat.le_refl _) (Nat.le_refl _)) hM (fun _ => rfl) (fun i hi j hj => by
    have : j = 0 := by omega
    subst this
    rw [getD_of hi]; rfl) (fun i j hi hj => rfl)
section
variable {c d : CCode}
theorem arg0 {a : A} {vals : Array Value} {w : World} {X : Nat → Prop} (hsz : vals.size = [a].length) (h : ∀ i (hi : i < [a].length), RepF w X ([a][i]) (vals.getD i undef)) : ∃ v, vals = #[v] ∧ RepF w X a v := by
  obtain ⟨v, rfl⟩ : ∃ v, vals = #[v] := by
    refine ⟨vals[0]'(by simp at hsz; omega), ?_⟩
    apply Array.ext
    · simpa using hsz
    · intro i hi hi'
      have : i = 0 := by simp at hi'; omega
      subst this
      rfl
  exact ⟨v, rfl, h 0 (by simp)⟩
theorem great_ax (hw : CodeWf c) : FnP Try.prog 6 [.agg (codeC c)] (.v (.bool (greatC c))) := by
  refine ⟨by kernel_rfl, fun w X vals hX hsz ha => ?_⟩
  obtain ⟨v, rfl, h⟩ := arg0 hsz ha
  obtain ⟨v1, v2, v3, rfl, hc⟩ := code_at h hw
  refine (ref15_Great v1 v2 v3 c w hc).mono ?_
  rintro e w' ⟨rfl, hb⟩
  exact ⟨_, rfl, hb, .t _ _ (.v _ rfl)⟩
theorem may_ax (hw : CodeWf c) : FnP Try.prog 10 [.agg (codeC c)] (.v (.bool (mayC c))) := by
  refine ⟨by kernel_rfl, fun w X vals hX hsz ha => ?_⟩
  obtain ⟨v, rfl, h⟩ := arg0 hsz ha
  obtain ⟨v1, v2, v3, rfl, hc⟩ := code_at h hw
  refine (code_May v1 v2 v3 c w hc).mono ?_
  rintro e w' ⟨rfl, hb⟩
  exact ⟨_, rfl, hb, .t _ _ (.v _ rfl)⟩
theorem rmay_ax (hw : CodeWf c) : FnP Try.prog 9 [.agg (codeC c)] (.v (.bool (mayC c))) := by
  refine ⟨by kernel_rfl, fun w X vals hX hsz ha => ?_⟩
  obtain ⟨v, rfl, h⟩ := arg0 hsz ha
  obtain ⟨v1, v2, v3, rfl, hc⟩ := code_at h hw
  refine (ref15_May v1 v2 v3 c w hc).mono ?_
  rintro e w' ⟨rfl, hb⟩
  exact ⟨_, rfl, hb, .t _ _ (.v _ rfl)⟩
theorem awake_ax : FnP Try.prog 7 [] (.v (.bool true)) := by
  refine ⟨by kernel_rfl, fun w X vals hX hsz ha => ?_⟩
  obtain rfl : vals = #[] := by simpa using hsz
  refine (awake15 w).mono ?_
  rintro e w' ⟨rfl, hb⟩
  exact ⟨_, rfl, hb, .t _ _ (.v _ rfl)⟩
theorem same_ax (hw : CodeWf c) : FnP Try.prog 13 [.agg (codeC c), .agg (codeC c)] (.v (.bool true)) := by
  refine ⟨by kernel_rfl, fun w X vals hX hsz ha => ?_⟩
  obtain ⟨v, u, rfl⟩ : ∃ v u, vals = #[v, u] := ⟨vals[0]'(by simp at hsz; omega), vals[1]'(by simp at hsz; omega), by
    apply Array.ext
    · simpa using hsz
    · intro i hi hi'
      match i, hi' with
      | 0, _ => rfl
      | 1, _ => rfl
      | n + 2, h => simp at h; omega⟩
  obtain ⟨v1, v2, v3, rfl, hc⟩ := code_at (ha 0 (by simp)) hw
  obtain ⟨u1, u2, u3, rfl, hd⟩ := code_at (ha 1 (by simp)) hw
  refine (ref15_Same v1 v2 v3 u1 u2 u3 c c w hc hd).mono ?_
  rintro e w' ⟨⟨b, rfl, h⟩, hb⟩
  have : b = true := h.2 rfl
  subst this
  exact ⟨_, rfl, hb, .t _ _ (.v _ rfl)⟩
theorem encode_ax (hw : CodeWf c) (hm : mayC c = true) : FnP Try.prog 8 [.agg (codeC c)] (.tup [.t (bytesT (encC c)), .v (.int .i64 0)]) := by
  refine ⟨by kernel_rfl, fun w X vals hX hsz ha => ?_⟩
  obtain ⟨v, rfl, h⟩ := arg0 hsz ha
  obtain ⟨v1, v2, v3, rfl, hc⟩ := code_at h hw
  refine (code_Encode v1 v2 v3 c w hc).mono ?_
  rintro e w' ⟨hb, ⟨h, _⟩ | ⟨_, a, cap, rfl, ho⟩⟩
  · rw [hm] at h; exact absurd h (by simp)
  · refine ⟨_, rfl, hb, .tup _ _ rfl (fun i hi => ?_)⟩
    match i, hi with
    | 0, _ => exact .t _ _ (rep_bytes ho hX)
    | 1, _ => exact .t _ _ (.v _ rfl)
    | n + 2, h => simp at h; omega
theorem encode_no_ax (hw : CodeWf c) (hm : mayC c = false) : FnP Try.prog 8 [.agg (codeC c)] (.tup [.t (.v (.slice none 0 0)), .v (.int .i64 1)]) := by
  refine ⟨by kernel_rfl, fun w X vals hX hsz ha => ?_⟩
  obtain ⟨v, rfl, h⟩ := arg0 hsz ha
  obtain ⟨v1, v2, v3, rfl, hc⟩ := code_at h hw
  refine (enc_no v1 v2 v3 c w hc hm).mono ?_
  rintro e w' ⟨hb, rfl⟩
  refine ⟨_, rfl, hb, .tup _ _ rfl (fun i hi => ?_)⟩
  match i, hi with
  | 0, _ => exact .t _ _ (.v _ rfl)
  | 1, _ => exact .t _ _ (.v _ rfl)
  | n + 2, h => simp at h; omega
theorem rencode_ax (hw : CodeWf c) (hm : mayC c = true) : FnP Try.prog 12 [.agg (codeC c)] (.t (bytesT (encC c))) := by
  refine ⟨by kernel_rfl, fun w X vals hX hsz ha => ?_⟩
  obtain ⟨v, rfl, h⟩ := arg0 hsz ha
  obtain ⟨v1, v2, v3, rfl, hc⟩ := code_at h hw
  refine (ref15_Encode v1 v2 v3 c w hc hm).mono ?_
  rintro e w' ⟨hb, a, cap, rfl, ho⟩
  exact ⟨_, rfl, hb, .t _ _ (rep_bytes ho hX)⟩
theorem bytes_at_ax {w : World} {M : Nat → Prop} {b : List UInt8} {v : Value} (h : RepF w M (.t (bytesT b)) v) : ∃ a cap, v = .slice a b.length cap ∧ BytesAt w a cap b := by
  have h : RepT w M (.sl 1 (b.map bV)) v := rep_t h
  generalize hX : b.map bV = xs at h
  cases h with
  | nil _ a cap hcm =>
    have : b = [] := by simpa using hX
    subst this
    exact ⟨a, cap, rfl, Nat.zero_le _, hcm, .inl rfl⟩
  | sl _ _ g off cap c hb hM hcap hcm hk hc hrr =>
    subst hX
    simp only [List.length_map] at hcap hc hrr ⊢
    refine ⟨_, _, rfl, hcap, hcm, .inr ⟨g, off, rfl, hb, fun i hi => ?_⟩⟩
    have h1 := hc i hi 0 (by omega)
    have h2 := hrr i hi 0 (by simp)
    simp only [List.getElem_map, List.getElem_cons_zero] at h2
    have h3 := rep_val (st := ⟨0, fun _ => .dead, fun _ => none, fun _ => false⟩) (L := fun _ => ⟨none, 0⟩) (.t _ _ h2)
    rw [Nat.mul_one, Nat.add_zero] at h1
    rw [h1, h3]
theorem decode_ax (b : List UInt8) : FnP Try.prog 11 [.t (bytesT b)] (.tup [.agg (codeC (decC b).1), .v (.int .i64 ((decC b).2 : Nat))]) := by
  refine ⟨by kernel_rfl, fun w X vals hX hsz ha => ?_⟩
  obtain ⟨v, rfl, h⟩ := arg0 hsz ha
  obtain ⟨a, cap, rfl, hb⟩ := bytes_at_ax h
  refine (code_DecodeN a cap b w hb).mono ?_
  rintro e w' ⟨hb, v1, v2, v3, rfl, hc, n1, n2, n3⟩
  refine ⟨_, rfl, hb, .tup _ _ rfl (fun i hi => ?_)⟩
  match i, hi with
  | 0, _ => exact rep_code hc n1 n2 n3 hX
  | 1, _ => exact .t _ _ (.v _ rfl)
  | n + 2, h => simp at h; omega
end
end Go.Proofs.Ytcmpcbpdnaodmaa
