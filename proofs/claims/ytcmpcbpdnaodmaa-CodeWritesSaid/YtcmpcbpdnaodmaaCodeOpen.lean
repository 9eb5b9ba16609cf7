/- A code, and bytes, that came in: how they are read. -/
import Derived.Test.YtcmpcbpdnaodmaaChecked
import Derived.Test.YtcmpcbpdnaodmaaCodeReader
import Derived.Deep.Slices
import Derived.Deep.Fields
import Derived.ChangeSame
import Derived.Lib.SmallJoins
namespace Go.Proofs.Ytcmpcbpdnaodmaa
open Go.ChangeShapes Go.WideShapes Go.Deep Go.RowKit Go.Joins
set_option linter.unusedVariables false

section
variable {H : Type} {enc : TypeId × Value → H} {P : Program} {w : World} {base : Nat} {spare : Nat → Bool} {held : Bool}
theorem open_slice_fields {t e : TypeId} {fs : Array Field} {fuel : Nat} {cs : List Value} {x : DataW H × List MemPlace} (ht : P.underlying t = some (.slice e)) (he : P.underlying e = some (.struct fs))
    (hone : oneCellFields P fs = true) (hC : P.cellsOf e = fs.size) (h : DataW.trod enc P w base spare held fuel t cs = some x) :
    (cs = [.slice none 0 0] ∧ x = (.nil, [])) ∨
    ∃ (a : Addr) (len cap m : Nat) (D : Nat → DataW H) (Pl : Nat → List MemPlace), cs = [.slice (some a) len cap] ∧ base ≤ a.block ∧ len ≤ cap ∧ cap ≤ maxLen ∧ m = (if spare a.block then cap else len) ∧
      x = (.slice ((List.range len).map D) ((List.range (m - len)).map fun j => D (len + j)), MemPlace.row a (m * fs.size) ++ (List.range m).flatMap Pl) ∧
      ∀ i, i < m → ∃ (ys : List (DataW H × List MemPlace)) (n : Nat), D i = .agg (ys.map (·.1)) ∧ Pl i = ys.flatMap (·.2) ∧ ys.length = fs.size ∧
        ∀ (j : Nat) (f : Field), fs[j]? = some f → ∃ (v : Value) (y : DataW H × List MemPlace), w.cell? (a.add (i * fs.size + j)) = some v ∧ ys[j]? = some y ∧ DataW.trod enc P w base spare held n f.type [v] = some y := by
  rcases open_slice ht h with h0 | ⟨a, len, cap, m, n, D, Pl, hcs, hb, hl, hm, hmm, hx, hi⟩
  · exact .inl h0
  · refine .inr ⟨a, len, cap, m, D, Pl, hcs, hb, hl, hm, hmm, by rw [hC] at hx; exact hx, fun i him => ?_⟩
    obtain ⟨cs', hc, ht'⟩ := hi i him
    rw [hC] at hc
    obtain ⟨ys, n', hn', hy, hlen, hyl, hf⟩ := DataW.trod_struct he ht'
    obtain ⟨_, hcl, hat⟩ := World.cells?_some hc
    simp only [Prod.mk.injEq] at hy
    refine ⟨ys, n', hy.1, hy.2, hyl, fun j f hj => ?_⟩
    obtain ⟨ho, hk⟩ := hone_of hone j f hj
    have hjl : j < fs.size := (Array.getElem?_eq_some_iff.1 hj).1
    have hcell := hat j hjl
    have hv : cs'[j]? = some (cs'[j]'(by omega)) := List.getElem?_eq_getElem (by omega)
    have h1 := hf j f hj
    rw [ho, hk] at h1
    have hone' : (cs'.drop j).take 1 = [cs'[j]'(by omega)] := by
      rw [List.drop_eq_getElem_cons (by omega)]
      rfl
    rw [hone'] at h1
    have hys : ys[j]? = some (ys[j]'(by omega)) := List.getElem?_eq_getElem (by omega)
    refine ⟨_, _, ?_, hys, h1.trans hys⟩
    rw [← Go.Deep.add_add, hcell, hv]
end
def intAt (w : World) (a : Addr) (n : Nat) : Int := match w.cell? (a.add n) with | some (.int _ x) => x | _ => 0
def strAt (w : World) (a : Addr) (n : Nat) : List UInt8 := match w.cell? (a.add n) with | some (.string s) => s.data.toList | _ => []
theorem spot_none {w : World} {a : Addr} {v : Value} (h : w.cell? (a.add 0) = some v) : a = ⟨a.block, a.off, none⟩ := by
  obtain ⟨b, o, sp⟩ := a
  cases sp with
  | none => rfl
  | some k =>
    exfalso
    unfold Addr.add at h
    rw [if_pos rfl] at h
    unfold World.cell? at h
    split at h <;> simp_all
theorem add_none {w : World} {a : Addr} {n : Nat} {v : Value} (ha : a = ⟨a.block, a.off, none⟩) (h : w.cell? (a.add n) = some v) : a.block < w.heap.size ∧ w.cell? ⟨a.block, a.off + n, none⟩ = some v := by
  obtain ⟨b, o, sp⟩ := a
  simp at ha
  subst ha
  have hadd : (⟨b, o, none⟩ : Addr).add n = ⟨b, o + n, none⟩ := by unfold Addr.add; split <;> simp_all
  rw [hadd] at h
  exact ⟨World.block_lt_of_cell? w ⟨b, o + n, none⟩ h, h⟩
section
variable {H : Type} {enc : TypeId × Value → H} {w : World} {n : Nat} {v : Value} {y : DataW H × List MemPlace}
theorem ins_open (h : DataW.trod enc Try.prog w 0 (fun _ => true) true n 22 [v] = some y) : ∃ l : List CIns, SliceF w 3 v l.length (FI l) ∧ ∀ x ∈ l, insWide x := by
  rcases open_slice_fields Try.underlying22 Try.underlying41 (by kernel_rfl) (by kernel_rfl) h with ⟨hv, _⟩ | ⟨a, len, cap, m, D, Pl, hv, _, hl, hm, hmm, _, hel⟩
  · simp at hv; subst hv
    exact ⟨[], SliceF.nil _ _ _, by simp⟩
  · simp only [if_true] at hmm; subst hmm; obtain rfl : v = .slice (some a) len m := by simpa using hv
    have hc : ∀ i, i < len → ∃ x0 x1 x2 : Int, w.cell? (a.add (i * 3)) = some (.int .u8 x0) ∧ w.cell? (a.add (i * 3 + 1)) = some (.int .i64 x1) ∧ w.cell? (a.add (i * 3 + 2)) = some (.int .i64 x2) ∧ 0 ≤ x0 ∧ x0 < 256 ∧ I64 x1 ∧ I64 x2 := by
      intro i hi
      obtain ⟨ys, n', _, _, _, hf⟩ := hel i (by omega)
      obtain ⟨v0, y0, c0, _, t0⟩ := hf 0 _ rfl
      obtain ⟨v1, y1, c1, _, t1⟩ := hf 1 _ rfl
      obtain ⟨v2, y2, c2, _, t2⟩ := hf 2 _ rfl
      obtain ⟨x0, e0, _, w0⟩ := DataW.trod_int (k := .u8) (by kernel_rfl) t0
      obtain ⟨x1, e1, _, w1⟩ := DataW.trod_int (k := .i64) (by kernel_rfl) t1
      obtain ⟨x2, e2, _, w2⟩ := DataW.trod_int (k := .i64) (by kernel_rfl) t2
      simp at e0 e1 e2; subst e0 e1 e2
      refine ⟨x0, x1, x2, c0, c1, c2, ?_, ?_, ?_, ?_⟩
      all_goals simp only [Lit.wf, IntKind.min, IntKind.max, IntKind.bits, IntKind.signed, Bool.and_eq_true, decide_eq_true_eq] at w0 w1 w2
      · simp at w0; omega
      · simp at w0; omega
      · simp at w1; constructor <;> omega
      · simp at w2; constructor <;> omega
    refine ⟨(List.range len).map fun i => ((intAt w a (i * 3)).toNat, intAt w a (i * 3 + 1), intAt w a (i * 3 + 2)), ?_, ?_⟩
    · refine ⟨some a, m, by simp, by simp; omega, fun i hi => ?_⟩
      simp at hi
      obtain ⟨x0, x1, x2, c0, c1, c2, p0, p1, p2, p3⟩ := hc i hi
      have h1 : a = ⟨a.block, a.off, none⟩ := by
        obtain ⟨z0, _, _, z, _⟩ := hc 0 (by omega)
        exact spot_none z
      obtain ⟨h2, d0⟩ := add_none h1 c0
      obtain ⟨_, d1⟩ := add_none h1 c1
      obtain ⟨_, d2⟩ := add_none h1 c2
      refine ⟨a.block, a.off, by rw [← h1], h2, fun j hj => ?_⟩
      have hF : FI ((List.range len).map fun i => ((intAt w a (i * 3)).toNat, intAt w a (i * 3 + 1), intAt w a (i * 3 + 2))) i j = insV (x0.toNat, x1, x2) j := by
        unfold FI; rw [getD_of (by simpa using hi)]; simp [intAt, c0, c1, c2]
      rw [hF]
      rcases (show j = 0 ∨ j = 1 ∨ j = 2 by omega) with rfl | rfl | rfl
      · rw [Nat.add_zero, d0]; unfold insV; dsimp only; rw [Int.toNat_of_nonneg p0]; rfl
      · rw [Nat.add_assoc, d1]; rfl
      · rw [Nat.add_assoc, d2]; rfl
    · intro x hx
      obtain ⟨i, hi, rfl⟩ := List.mem_map.1 hx
      obtain ⟨x0, x1, x2, c0, c1, c2, p0, p1, p2, p3⟩ := hc i (by simpa using hi)
      simp only [intAt, c0, c1, c2]
      exact ⟨by show x0.toNat < 256; omega, p2, p3⟩
theorem ents_open (h : DataW.trod enc Try.prog w 0 (fun _ => true) true n 23 [v] = some y) : ∃ l : List CEnt, SliceF w 5 v l.length (FE l) ∧ ∀ x ∈ l, entWide x := by
  rcases open_slice_fields Try.underlying23 Try.underlying43 (by kernel_rfl) (by kernel_rfl) h with ⟨hv, _⟩ | ⟨a, len, cap, m, D, Pl, hv, _, hl, hm, hmm, _, hel⟩
  · simp at hv; subst hv
    exact ⟨[], SliceF.nil _ _ _, by simp⟩
  · simp only [if_true] at hmm; subst hmm; obtain rfl : v = .slice (some a) len m := by simpa using hv
    have hc : ∀ i, i < len → ∃ x0 x1 x2 x3 x4 : Int, w.cell? (a.add (i * 5)) = some (.int .i64 x0) ∧ w.cell? (a.add (i * 5 + 1)) = some (.int .i64 x1) ∧ w.cell? (a.add (i * 5 + 2)) = some (.int .i64 x2) ∧ w.cell? (a.add (i * 5 + 3)) = some (.int .i64 x3) ∧ w.cell? (a.add (i * 5 + 4)) = some (.int .i64 x4) ∧ I64 x0 ∧ I64 x1 ∧ I64 x2 ∧ I64 x3 ∧ I64 x4 := by
      intro i hi
      obtain ⟨ys, n', _, _, _, hf⟩ := hel i (by omega)
      obtain ⟨v0, y0, c0, _, t0⟩ := hf 0 _ rfl
      obtain ⟨v1, y1, c1, _, t1⟩ := hf 1 _ rfl
      obtain ⟨v2, y2, c2, _, t2⟩ := hf 2 _ rfl
      obtain ⟨v3, y3, c3, _, t3⟩ := hf 3 _ rfl
      obtain ⟨v4, y4, c4, _, t4⟩ := hf 4 _ rfl
      obtain ⟨x0, e0, _, w0⟩ := DataW.trod_int (k := .i64) (by kernel_rfl) t0
      obtain ⟨x1, e1, _, w1⟩ := DataW.trod_int (k := .i64) (by kernel_rfl) t1
      obtain ⟨x2, e2, _, w2⟩ := DataW.trod_int (k := .i64) (by kernel_rfl) t2
      obtain ⟨x3, e3, _, w3⟩ := DataW.trod_int (k := .i64) (by kernel_rfl) t3
      obtain ⟨x4, e4, _, w4⟩ := DataW.trod_int (k := .i64) (by kernel_rfl) t4
      simp at e0 e1 e2 e3 e4; subst e0 e1 e2 e3 e4
      refine ⟨x0, x1, x2, x3, x4, c0, c1, c2, c3, c4, ?_, ?_, ?_, ?_, ?_⟩
      all_goals simp only [Lit.wf, IntKind.min, IntKind.max, IntKind.bits, IntKind.signed, Bool.and_eq_true, decide_eq_true_eq] at w0 w1 w2 w3 w4
      · simp at w0; constructor <;> omega
      · simp at w1; constructor <;> omega
      · simp at w2; constructor <;> omega
      · simp at w3; constructor <;> omega
      · simp at w4; constructor <;> omega
    refine ⟨(List.range len).map fun i => (intAt w a (i * 5), intAt w a (i * 5 + 1), intAt w a (i * 5 + 2), intAt w a (i * 5 + 3), intAt w a (i * 5 + 4)), ?_, ?_⟩
    · refine ⟨some a, m, by simp, by simp; omega, fun i hi => ?_⟩
      simp at hi
      obtain ⟨x0, x1, x2, x3, x4, c0, c1, c2, c3, c4, _⟩ := hc i hi
      have h1 : a = ⟨a.block, a.off, none⟩ := by
        obtain ⟨z0, _, _, _, _, z, _⟩ := hc 0 (by omega)
        exact spot_none z
      obtain ⟨h2, d0⟩ := add_none h1 c0
      obtain ⟨_, d1⟩ := add_none h1 c1
      obtain ⟨_, d2⟩ := add_none h1 c2
      obtain ⟨_, d3⟩ := add_none h1 c3
      obtain ⟨_, d4⟩ := add_none h1 c4
      refine ⟨a.block, a.off, by rw [← h1], h2, fun j hj => ?_⟩
      have hF : FE ((List.range len).map fun i => (intAt w a (i * 5), intAt w a (i * 5 + 1), intAt w a (i * 5 + 2), intAt w a (i * 5 + 3), intAt w a (i * 5 + 4))) i j = entV (x0, x1, x2, x3, x4) j := by
        unfold FE; rw [getD_of (by simpa using hi)]; simp [intAt, c0, c1, c2, c3, c4]
      rw [hF]
      rcases (show j = 0 ∨ j = 1 ∨ j = 2 ∨ j = 3 ∨ j = 4 by omega) with rfl | rfl | rfl | rfl | rfl
      · rw [Nat.add_zero, d0]; rfl
      · rw [Nat.add_assoc, d1]; rfl
      · rw [Nat.add_assoc, d2]; rfl
      · rw [Nat.add_assoc, d3]; rfl
      · rw [Nat.add_assoc, d4]; rfl
    · intro x hx
      obtain ⟨i, hi, rfl⟩ := List.mem_map.1 hx
      obtain ⟨x0, x1, x2, x3, x4, c0, c1, c2, c3, c4, p⟩ := hc i (by simpa using hi)
      simp only [intAt, c0, c1, c2, c3, c4]
      exact p
theorem strs_open (h : DataW.trod enc Try.prog w 0 (fun _ => true) true n 24 [v] = some y) : ∃ l : List (List UInt8), SliceF w 1 v l.length (FS l) ∧ ∀ x ∈ l, x.length ≤ maxLen := by
  rcases open_slice Try.underlying24 h with ⟨hv, _⟩ | ⟨a, len, cap, m, n', D, Pl, hv, _, hl, hm, hmm, _, hel⟩
  · simp at hv; subst hv
    exact ⟨[], SliceF.nil _ _ _, by simp⟩
  · simp only [if_true] at hmm; subst hmm; obtain rfl : v = .slice (some a) len m := by simpa using hv
    have hone : Try.prog.cellsOf 9 = 1 := by kernel_rfl
    have hc : ∀ i, i < len → ∃ s : ByteArray, w.cell? (a.add i) = some (.string s) ∧ s.size ≤ maxLen := by
      intro i hi
      obtain ⟨cs', hcs, t0⟩ := hel i (by omega)
      obtain ⟨s, e0, _, w0⟩ := DataW.trod_string (by kernel_rfl) t0
      rw [hone] at hcs
      obtain ⟨_, hcl, hat⟩ := World.cells?_some hcs
      have h0 := hat 0 (by omega)
      subst e0
      refine ⟨s, ?_, w0⟩
      simpa [Addr.add] using h0
    refine ⟨(List.range len).map fun i => strAt w a i, ?_, ?_⟩
    · refine ⟨some a, m, by simp, by simp; omega, fun i hi => ?_⟩
      simp at hi
      obtain ⟨s, c0, _⟩ := hc i hi
      have h1 : a = ⟨a.block, a.off, none⟩ := by
        obtain ⟨z0, z, _⟩ := hc 0 (by omega)
        exact spot_none z
      obtain ⟨h2, d0⟩ := add_none h1 c0
      refine ⟨a.block, a.off, by rw [← h1], h2, fun j hj => ?_⟩
      have hF : FS ((List.range len).map fun i => strAt w a i) i j = .string s := by
        unfold FS; rw [getD_of (by simpa using hi)]; simp [strAt, c0, strV]
      rw [hF]
      obtain rfl : j = 0 := by omega
      rw [Nat.mul_one, Nat.add_zero, d0]
    · intro x hx
      obtain ⟨i, hi, rfl⟩ := List.mem_map.1 hx
      obtain ⟨s, c0, p⟩ := hc i (by simpa using hi)
      simp only [strAt, c0]
      simpa using p
theorem code_open {d : DataW H} {p : List MemPlace} {r : Reach} {b0 : Nat} (hv : Value.okWide Try.prog w r b0 26 v) (h : DataW.Trod enc Try.prog w 0 (fun _ => true) true 26 v d p) : ∃ v1 v2 v3 c, v = .agg #[v1, v2, v3] ∧ CodeAt w v1 v2 v3 c := by
  obtain ⟨v0, v1, v2, y0, y1, y2, n, rfl, _, _, t0, t1, t2⟩ := open_agg3 Try.underlying26 (by kernel_rfl) (by kernel_rfl) hv h
  obtain ⟨li, h1, h2⟩ := ins_open t0
  obtain ⟨lf, h3, h4⟩ := ents_open t1
  obtain ⟨ls, h5, h6⟩ := strs_open t2
  exact ⟨v0, v1, v2, (li, lf, ls), rfl, h1, h3, h5, h2, h4, h6⟩
theorem bytes_open {d : DataW H} {p : List MemPlace} {r : Reach} {b0 : Nat} (hv : Value.okWide Try.prog w r b0 29 v) (h : DataW.Trod enc Try.prog w 0 (fun _ => true) true 29 v d p) : ∃ a cap l, v = .slice a l.length cap ∧ BytesAt w a cap l := by
  obtain ⟨fuel, hf⟩ := h
  obtain ⟨a0, len0, cap0, rfl⟩ := okWide_slice Try.underlying29 hv
  rcases open_ints (k := .u8) Try.underlying29 (by kernel_rfl) (by kernel_rfl) hf with ⟨hv, _⟩ | ⟨a, len, cap, zs, hv, _, hl, hm, hmm, _, hel, hwf⟩
  · obtain ⟨rfl, rfl, rfl⟩ : a0 = none ∧ len0 = 0 ∧ cap0 = 0 := by simpa [Value.cells] using hv
    exact ⟨none, 0, [], rfl, by simp, by simp [maxLen], .inl rfl⟩
  · obtain ⟨rfl, rfl, rfl⟩ : a0 = some a ∧ len0 = len ∧ cap0 = cap := by simpa [Value.cells] using hv
    simp only [if_true] at hmm
    have hb : ∀ z ∈ zs, 0 ≤ z ∧ z < 256 := by
      intro z hz
      have := hwf z hz
      simp only [Lit.wf, IntKind.min, IntKind.max, IntKind.bits, IntKind.signed, Bool.and_eq_true, decide_eq_true_eq] at this
      simp at this; omega
    refine ⟨some a, cap0, (zs.take len0).map fun z => b8 z.toNat, by simp; omega, by simp; omega, hm, ?_⟩
    by_cases h0 : len0 = 0
    · exact .inl (by subst h0; simp)
    · have h1 : a = ⟨a.block, a.off, none⟩ := spot_none (hel 0 (by omega))
      refine .inr ⟨a.block, a.off, by rw [← h1], (add_none h1 (hel 0 (by omega))).1, fun i hi => ?_⟩
      have hi' : i < zs.length := by simp at hi; omega
      rw [(add_none h1 (hel i hi')).2]
      have hz := hb (zs[i]) (List.getElem_mem hi')
      simp only [List.getD, List.getElem?_eq_getElem hi', Option.getD_some, List.getElem_map, List.getElem_take, byteV]
      rw [b8_toNat (by omega), Int.toNat_of_nonneg hz.1]
end
end Go.Proofs.Ytcmpcbpdnaodmaa
