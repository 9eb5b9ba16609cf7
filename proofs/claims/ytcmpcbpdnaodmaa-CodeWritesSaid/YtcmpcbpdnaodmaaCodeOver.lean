/- Layer 15's contracts in the types of what is lifted. -/
import Derived.Test.YtcmpcbpdnaodmaaLawAx
import Derived.Test.YtcmpcbpdnaodmaaLfRel
import Derived.Test.YtcmpcbpdnaodmaaLfOp
namespace Go.Proofs.Ytcmpcbpdnaodmaa
open Go.RowKit Classical
set_option linter.unusedVariables false
def toI (x : GApiIns) : CIns := (x.Op.toNat, x.A, x.Line)
def toE (f : GApiEntry) : CEnt := (f.At, f.Len, f.Params, f.Slots, f.Result)
def toC (c : GApiCode) : CCode := (c.Ins.map toI, c.Fns.map toE, c.Strs)
def ofC (c : CCode) : GApiCode := ⟨c.1.map fun x => ⟨x.1, x.2.1, x.2.2⟩, c.2.1.map fun f => ⟨f.1, f.2.1, f.2.2.1, f.2.2.2.1, f.2.2.2.2⟩, c.2.2⟩
theorem toC_wf {c : GApiCode} (h : ok_GApiCode c) : CodeWf (toC c) := by
  obtain ⟨⟨h1, h2⟩, ⟨h3, h4⟩, h5, h6⟩ := h
  refine ⟨fun x hx => ?_, fun f hf => ?_, h6, by simpa [toC] using h1, by simpa [toC] using h3, h5⟩
  · obtain ⟨y, hy, rfl⟩ := List.mem_map.1 hx
    obtain ⟨a, b, d⟩ := h2 y hy
    have := okI_u8 a; have := okI_i64 b; have := okI_i64 d
    unfold insWide I64 toI
    dsimp only
    omega
  · obtain ⟨y, hy, rfl⟩ := List.mem_map.1 hf
    obtain ⟨a, b, d, e, g⟩ := h4 y hy
    have := okI_i64 a; have := okI_i64 b; have := okI_i64 d; have := okI_i64 e; have := okI_i64 g
    unfold entWide I64 toE
    dsimp only
    omega
theorem toC_code {c : GApiCode} (h : ok_GApiCode c) : (.agg (codeC (toC c)) : A) = e_GApiCode c := by
  unfold e_GApiCode codeC toC
  dsimp only
  have e1 : (c.Ins.map toI).map insT = c.Ins.map c_GApiIns := by
    rw [List.map_map]
    refine List.map_congr_left fun x hx => ?_
    have := okI_u8 (h.1.2 x hx).1
    simp only [Function.comp, toI, insT, c_GApiIns]
    rw [show ((x.Op.toNat : Nat) : Int) = x.Op by omega]
  have e2 : (c.Fns.map toE).map entT = c.Fns.map c_GApiEntry := by rw [List.map_map]; rfl
  have e3 : c.Strs.map strT = c.Strs.map c_str := rfl
  rw [e1, e2, e3]
theorem of_to {c : GApiCode} (h : ok_GApiCode c) : ofC (toC c) = c := by
  obtain ⟨i, f, s⟩ := c
  unfold ofC toC
  dsimp only
  have e1 : (i.map toI).map (fun x : CIns => (⟨x.1, x.2.1, x.2.2⟩ : GApiIns)) = i := by
    rw [List.map_map]
    refine (List.map_congr_left fun x hx => ?_).trans (List.map_id i)
    have := okI_u8 (h.1.2 x hx).1
    obtain ⟨a, b, d⟩ := x
    simp only [Function.comp, toI, id]
    rw [show ((a.toNat : Nat) : Int) = a by simp at this; omega]
  have e2 : (f.map toE).map (fun f : CEnt => (⟨f.1, f.2.1, f.2.2.1, f.2.2.2.1, f.2.2.2.2⟩ : GApiEntry)) = f := by
    rw [List.map_map]
    exact (List.map_congr_left fun x hx => rfl).trans (List.map_id f)
  rw [e1, e2]
def ints (l : List UInt8) : List Int := l.map fun b => (b.toNat : Int)
theorem ints_u8 (l : List UInt8) : (ints l).map c_u8 = l.map bV := by unfold ints; rw [List.map_map]; rfl
theorem bytesS_ints (l : List UInt8) : bytesS (ints l) = l := by
  unfold bytesS ints
  rw [List.map_map]
  refine (List.map_congr_left fun b _ => ?_).trans (List.map_id l)
  simp
theorem ints_ok (l : List UInt8) : BytesOb (ints l) := by
  intro x hx
  obtain ⟨b, _, rfl⟩ := List.mem_map.1 hx
  have := b.toNat_lt
  omega
noncomputable def xhindcastref15_Great (c : GApiCode) : Option Bool := if ok_GApiCode c then some (greatC (toC c)) else none
theorem xhindcastref15_Great_ok {a0 : GApiCode} {r : Bool} (h : xhindcastref15_Great a0 = some r) : R_hindcastref15_Great a0 r := by
  unfold xhindcastref15_Great at h
  obtain ⟨h1, h⟩ := ite_ok h
  cases h
  have := great_ax (toC_wf h1)
  rw [toC_code h1] at this
  exact this
noncomputable def xcode_May (c : GApiCode) : Option Bool := if ok_GApiCode c then some (mayC (toC c)) else none
theorem xcode_May_ok {a0 : GApiCode} {r : Bool} (h : xcode_May a0 = some r) : R_code_May a0 r := by
  unfold xcode_May at h
  obtain ⟨h1, h⟩ := ite_ok h
  cases h
  have := may_ax (toC_wf h1)
  rw [toC_code h1] at this
  exact this
noncomputable def xhindcastref15_May (c : GApiCode) : Option Bool := if ok_GApiCode c then some (mayC (toC c)) else none
theorem xhindcastref15_May_ok {a0 : GApiCode} {r : Bool} (h : xhindcastref15_May a0 = some r) : R_hindcastref15_May a0 r := by
  unfold xhindcastref15_May at h
  obtain ⟨h1, h⟩ := ite_ok h
  cases h
  have := rmay_ax (toC_wf h1)
  rw [toC_code h1] at this
  exact this
noncomputable def xhindcastref15_Same (c d : GApiCode) : Option Bool := if ok_GApiCode c then (if c = d then some true else none) else none
theorem xhindcastref15_Same_ok {a0 a1 : GApiCode} {r : Bool} (h : xhindcastref15_Same a0 a1 = some r) : R_hindcastref15_Same a0 a1 r := by
  unfold xhindcastref15_Same at h
  obtain ⟨h1, h⟩ := ite_ok h
  obtain ⟨e, h⟩ := ite_ok h
  have hr := Option.some.inj h
  subst hr
  subst e
  have := same_ax (toC_wf h1)
  rw [toC_code h1] at this
  exact this
noncomputable def xcode_Encode (c : GApiCode) : Option (List Int × Int) := if ok_GApiCode c then (if mayC (toC c) = true then some (ints (encC (toC c)), 0) else some ([], 1)) else none
theorem fnP_tup_nil {P : Program} {f : FuncId} {args : List A} {k : Nat} {y : T} (h : FnP P f args (.tup [.t (.v (.slice none 0 0)), .t y])) : FnP P f args (.tup [.t (.sl k []), .t y]) := by
  refine ⟨h.1, fun w X vals h1 h2 h3 => (h.2 w X vals h1 h2 h3).mono ?_⟩
  rintro e w' ⟨v, rfl, hb, hr⟩
  exact ⟨v, rfl, hb, leF_rep (show leF (.tup [.t (.v (.slice none 0 0)), .t y]) (.tup [.t (.sl k []), .t y]) from ⟨.nil k, .refl y, trivial⟩) hr⟩
theorem xcode_Encode_ok {a0 : GApiCode} {r : List Int × Int} (h : xcode_Encode a0 = some r) : R_code_Encode a0 r := by
  unfold xcode_Encode at h
  obtain ⟨h1, h⟩ := ite_ok h
  by_cases hm : mayC (toC a0) = true
  · rw [if_pos hm] at h
    cases h
    have := encode_ax (toC_wf h1) hm
    rw [toC_code h1] at this
    unfold R_code_Encode
    rw [ints_u8]
    exact this
  · rw [if_neg hm] at h
    cases h
    have := encode_no_ax (toC_wf h1) (by simpa using hm)
    rw [toC_code h1] at this
    exact fnP_tup_nil this
noncomputable def xhindcastref15_Encode (c : GApiCode) : Option (List Int) := if ok_GApiCode c ∧ mayC (toC c) = true then some (ints (encC (toC c))) else none
theorem xhindcastref15_Encode_ok {a0 : GApiCode} {r : List Int} (h : xhindcastref15_Encode a0 = some r) : R_hindcastref15_Encode a0 r := by
  unfold xhindcastref15_Encode at h
  obtain ⟨⟨h1, hm⟩, h⟩ := ite_ok h
  cases h
  have := rencode_ax (toC_wf h1) hm
  rw [toC_code h1] at this
  unfold R_hindcastref15_Encode
  rw [ints_u8]
  exact this
noncomputable def xcode_Decode (b : List Int) : Option (GApiCode × Int) := if BytesOb b then some (ofC (decC (bytesS b)).1, ((decC (bytesS b)).2 : Nat)) else none
theorem bytesS_back {b : List Int} (h : BytesOb b) : ints (bytesS b) = b := by
  unfold ints bytesS
  rw [List.map_map]
  refine (List.map_congr_left fun x hx => ?_).trans (List.map_id b)
  have := h x hx
  simp only [Function.comp, id, UInt8.toNat_ofNat']
  omega
theorem ofC_code (c : CCode) : (.agg (codeC c) : A) = e_GApiCode (ofC c) := by
  unfold e_GApiCode codeC ofC
  dsimp only
  have e1 : c.1.map insT = (c.1.map fun x : CIns => (⟨x.1, x.2.1, x.2.2⟩ : GApiIns)).map c_GApiIns := by rw [List.map_map]; rfl
  have e2 : c.2.1.map entT = (c.2.1.map fun f : CEnt => (⟨f.1, f.2.1, f.2.2.1, f.2.2.2.1, f.2.2.2.2⟩ : GApiEntry)).map c_GApiEntry := by rw [List.map_map]; rfl
  rw [e1, e2]; rfl
theorem xcode_Decode_ok {a0 : List Int} {r : GApiCode × Int} (h : xcode_Decode a0 = some r) : R_code_Decode a0 r := by
  unfold xcode_Decode at h
  obtain ⟨h1, h⟩ := ite_ok h
  have hr := Option.some.inj h
  have := decode_ax (bytesS a0)
  generalize decC (bytesS a0) = X at this hr
  subst hr
  unfold R_code_Decode
  dsimp only
  rw [← ofC_code]
  have e : a0.map c_u8 = (bytesS a0).map bV := by rw [← ints_u8, bytesS_back h1]
  rw [e]
  exact this
noncomputable def xhindcastlaw15_awake : Option Bool := some true
theorem xhindcastlaw15_awake_ok {r : Bool} (h : xhindcastlaw15_awake = some r) : R_hindcastlaw15_awake r := by
  cases h
  exact awake_ax
end Go.Proofs.Ytcmpcbpdnaodmaa
