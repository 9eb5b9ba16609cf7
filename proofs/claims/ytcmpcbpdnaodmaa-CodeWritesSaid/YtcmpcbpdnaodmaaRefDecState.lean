/- The reference's Decode: what stands in memory between two steps. -/
import Derived.Test.YtcmpcbpdnaodmaaRefUpTo
import Derived.Test.YtcmpcbpdnaodmaaCodeWide
namespace Go.Proofs.Ytcmpcbpdnaodmaa
open Go.RowKit Go.Lib
set_option linter.unusedVariables false

structure DecQ (w wi : World) (a : Option Addr) (cap n br : Nat) (cs : Array Value) (I E : Nat) (wr : World) : Prop where
  res : Has wr w.heap.size nil3 26
  code : Has wr (w.heap.size + 1) cs 26
  rr : Has wr br #[.slice a n cap, .int .i64 I, .int .i64 E] 61
  mod : Mod (fun k => k = br ∨ k = w.heap.size + 1) wi wr
  out : Below w.heap.size w wr
  lo : w.heap.size + 2 ≤ br
  hi : br < wi.heap.size
section
variable {w wi wr w' : World} {a : Option Addr} {cap n br : Nat} {cs : Array Value} {I E : Nat}
theorem DecQ.below (h : DecQ w wi a cap n br cs I E wr) (hb : Below wr.heap.size wr w') : DecQ w wi a cap n br cs I E w' :=
  ⟨has_belowT h.res hb, has_belowT h.code hb, has_belowT h.rr hb, h.mod.step (Mod.of_below hb) (fun i hi e => by have := h.mod.size; omega), h.out.trans (hb.mono h.out.size), h.lo, h.hi⟩
theorem DecQ.setr (h : DecQ w wi a cap n br cs I E wr) (I' E' : Nat) : DecQ w wi a cap n br cs I' E' (wr.setRow br #[.slice a n cap, .int .i64 I', .int .i64 E']) :=
  ⟨has_setRow h.res _ _ (by have := h.lo; omega), has_setRow h.code _ _ (by have := h.lo; omega), setRow_heap _ _ _ _ _ _ h.rr, h.mod.setRow _ _ (.inr (.inl rfl)), below_setRow h.out (by have := h.lo; omega) _, h.lo, h.hi⟩
theorem DecQ.sete (h : DecQ w wi a cap n br cs I E wr) (E' : Nat) : DecQ w wi a cap n br cs I E' (wr.setCell ⟨br, 2, none⟩ (.int .i64 E')) :=
  ⟨has_setCell h.res _ _ (by have := h.lo; simp; omega), has_setCell h.code _ _ (by have := h.lo; simp; omega), has_set_same h.rr 2 _, h.mod.setCell _ _ (.inr (.inl rfl)), h.out.setCell (by have := h.lo; show w.heap.size ≤ br; omega) _, h.lo, h.hi⟩
theorem DecQ.seti (h : DecQ w wi a cap n br cs I E wr) (I' : Nat) : DecQ w wi a cap n br cs I' E (wr.setCell ⟨br, 1, none⟩ (.int .i64 I')) :=
  ⟨has_setCell h.res _ _ (by have := h.lo; simp; omega), has_setCell h.code _ _ (by have := h.lo; simp; omega), has_set_same h.rr 1 _, h.mod.setCell _ _ (.inr (.inl rfl)), h.out.setCell (by have := h.lo; show w.heap.size ≤ br; omega) _, h.lo, h.hi⟩
theorem owns_setr1 {base j : Nat} {e : TypeId} {k m : Nat} {v u : Value} {xs : List Value} (h : wr.ownsRow base e k v m xs) (hb : br < base) : (wr.setCell ⟨br, j, none⟩ u).ownsRow base e k v m xs :=
  owns_mod h ((Mod.refl (fun k => k = br) wr).setCell _ _ (.inr rfl)) (fun g hg _ e => by omega)
theorem DecQ.drew (h : DecQ w wi a cap n br cs I E wr) : DecQ w wi a cap n br cs I E wr.drew :=
  ⟨has_drew h.res, has_drew h.code, has_drew h.rr, h.mod.drew, h.out.drew, h.lo, h.hi⟩
theorem DecQ.alloc (h : DecQ w wi a cap n br cs I E wr) (o : Obj) : DecQ w wi a cap n br cs I E (wr.alloc o) :=
  h.below ((Below.refl _ _).alloc (Nat.le_refl _) _)
theorem DecQ.next (h : DecQ w wi a cap n br cs I E wr) : DecQ w wr a cap n br cs I E wr :=
  ⟨h.res, h.code, h.rr, Mod.refl _ _, h.out, h.lo, has_lt h.rr⟩
theorem DecQ.open (h : DecQ w wi a cap n br cs I E wr) : (∀ j, wr.cell? ⟨br, j, none⟩ = #[Value.slice a n cap, .int .i64 I, .int .i64 E][j]?) ∧ (∀ j, wr.frozen? ⟨br, j, none⟩ = false) ∧ br < wr.heap.size ∧
    (∀ j, wr.cell? ⟨w.heap.size + 1, j, none⟩ = cs[j]?) ∧ (∀ j, wr.frozen? ⟨w.heap.size + 1, j, none⟩ = false) ∧ w.heap.size + 1 < br :=
  ⟨has_cell h.rr, has_free h.rr, has_lt h.rr, has_cell h.code, has_free h.code, h.lo⟩
theorem DecQ.add {w1 : World} {e : TypeId} {k m m' : Nat} {v v' : Value} {xs xs' : List Value} (h : DecQ w wi a cap n br cs I E wr) (hv : wr.ownsRow wi.heap.size e k v m xs) (hg : wr.grownBy w1 v.ownBlock)
    (hv' : w1.ownsRow wi.heap.size e k v' m' xs') (j : Nat) (cs' : Array Value) (hcs : cs' = cs.setIfInBounds j v') :
    DecQ w wi a cap n br cs' I E (w1.setCell ⟨w.heap.size + 1, j, none⟩ v') ∧ (w1.setCell ⟨w.heap.size + 1, j, none⟩ v').ownsRow wi.heap.size e k v' m' xs' := by
  have hlt := hv.lt
  have hm : Mod (fun k => some k = v.ownBlock) wr w1 := Mod.of_grown hg
  have hlo := h.lo
  have hhi := h.hi
  have hno : ∀ b, b < wi.heap.size → ¬ (some b = v.ownBlock) := fun b hb e => by have := (hlt b e.symm).1; omega
  subst hcs
  refine ⟨⟨?_, ?_, ?_, ?_, ?_, hlo, hhi⟩, ?_⟩
  · exact has_setCell (has_mod h.res hm (hno _ (by omega))) _ _ (by simp)
  · exact has_set_same (has_mod h.code hm (hno _ (by omega))) j v'
  · exact has_setCell (has_mod h.rr hm (hno _ (by omega))) _ _ (by simp; omega)
  · exact (h.mod.step hm (fun i hi e => absurd e (hno i hi))).setCell _ _ (.inr (.inr rfl))
  · exact (h.out.grown hg h.out.size (fun b hb => by have := (hlt b hb).1; omega)).setCell (by show w.heap.size ≤ w.heap.size + 1; omega) _
  · exact owns_mod hv' ((Mod.refl (fun k => k = w.heap.size + 1) w1).setCell _ _ (.inr rfl)) (fun g hg _ e => by omega)
theorem DecQ.grown {w1 : World} {e : TypeId} {k m : Nat} {v : Value} {xs : List Value} (h : DecQ w wi a cap n br cs I E wr) (hv : wr.ownsRow wi.heap.size e k v m xs) (hg : wr.grownBy w1 v.ownBlock) :
    (∀ j, w1.cell? ⟨w.heap.size + 1, j, none⟩ = cs[j]?) ∧ (∀ j, w1.frozen? ⟨w.heap.size + 1, j, none⟩ = false) ∧ w.heap.size + 1 < w1.heap.size := by
  have hq := has_mod h.code (Mod.of_grown hg) (fun e => by have := (hv.lt _ e.symm).1; have := h.hi; have := h.lo; omega)
  exact ⟨has_cell hq, has_free hq, has_lt hq⟩
theorem owns_setr {base : Nat} {e : TypeId} {k m : Nat} {v : Value} {xs : List Value} (h : wr.ownsRow base e k v m xs) (hb : br < base) (cs : Array Value) : (wr.setRow br cs).ownsRow base e k v m xs :=
  owns_mod h ((Mod.refl (fun k => k = br) wr).setRow br cs (.inr rfl)) (fun g hg _ e => by omega)
end
/-- 'b[i:i+k]'. -/
theorem bytes_mid {W0 : World} {a : Option Addr} {cap : Nat} {l : List UInt8} (H : BytesAt W0 a cap l) (i k : Nat) (h : i + k ≤ l.length) :
    ∃ a', (if cap = i then a else Option.map (fun x => x.add i) a) = a' ∧ BytesAt W0 a' (cap - i) ((l.drop i).take k) := by
  refine ⟨_, rfl, ?_⟩
  have := bytes_to (bytes_from H (k := i) (by omega)) (k := k) (by rw [List.length_drop]; omega)
  rwa [Nat.mul_one] at this
theorem run_bytes_text {P : Program} {w : World} {src dst e : TypeId} {a : Option Addr} {cap n : Nat} {l : List UInt8} (H : BytesAt w a cap l) (hn : n = l.length)
    (hs : P.underlying src = some (.slice e)) (he : P.underlying e = some (.int .u8)) (hd : P.underlying dst = some .string) : (convert src dst (.slice a n cap)).run P w = .ok (strV l) w := by
  subst hn
  cases a with
  | none =>
    have h0 : l = [] := by
      rcases H.2.2 with h | ⟨b, off, h, _⟩
      · exact h
      · simp at h
    subst h0
    exact Go.Lib.run_convert_nil_bytes w src dst e cap hs he hd
  | some p => exact run_convert_bytes_back (P := P) w src dst e p cap l hs he hd (fun j hj => by
      obtain ⟨b', off', e', _, hc⟩ := bytes_at H hj
      simp at e'
      subst e'
      have hadd : (⟨b', off', none⟩ : Addr).add j = ⟨b', off' + j, none⟩ := by unfold Addr.add; split <;> simp_all
      rw [hadd]; exact hc)
/-- .. and an element that is being filled, and the row that it goes to. -/
structure DecF (w wi : World) (a : Option Addr) (cap n br : Nat) (cs : Array Value) (I E fb : Nat) (ft : TypeId) (fc : Array Value) (e : TypeId) (k m : Nat) (v : Value) (xs : List Value) (wr : World) : Prop where
  q : DecQ w wi a cap n br cs I E wr
  f : Has wr fb fc ft
  o : wr.ownsRow wi.heap.size e k v m xs
  ne : ∀ g, v.ownBlock = some g → g ≠ fb
  big : wi.heap.size ≤ fb
section
variable {w wi wr w' : World} {a : Option Addr} {cap n br : Nat} {cs : Array Value} {I E fb : Nat} {ft : TypeId} {fc : Array Value} {e : TypeId} {k m : Nat} {v : Value} {xs : List Value}
theorem DecF.below (h : DecF w wi a cap n br cs I E fb ft fc e k m v xs wr) (hb : Below wr.heap.size wr w') : DecF w wi a cap n br cs I E fb ft fc e k m v xs w' :=
  ⟨h.q.below hb, has_belowT h.f hb, owns_old h.o hb, h.ne, h.big⟩
theorem DecF.new (h : DecQ w wi a cap n br cs I E wr) (ho : wr.ownsRow wi.heap.size e k v m xs) (ft : TypeId) (fc : Array Value) (fb : Nat) (hfb : fb = wr.heap.size) : DecF w wi a cap n br cs I E fb ft fc e k m v xs (wr.alloc (.cells fc ft)) :=
  ⟨h.alloc _, has_new _ _ _ _ hfb, ho.alloc _, fun g hg => by have := (ho.lt g hg).2; omega, by rw [hfb]; exact h.mod.size⟩
theorem DecF.alloc (h : DecF w wi a cap n br cs I E fb ft fc e k m v xs wr) (o : Obj) : DecF w wi a cap n br cs I E fb ft fc e k m v xs (wr.alloc o) :=
  h.below ((Below.refl _ _).alloc (Nat.le_refl _) _)
theorem DecF.setf (h : DecF w wi a cap n br cs I E fb ft fc e k m v xs wr) (j : Nat) (x : Value) (fc' : Array Value) (hfc : fc' = fc.setIfInBounds j x) : DecF w wi a cap n br cs I E fb ft fc' e k m v xs (wr.setCell ⟨fb, j, none⟩ x) := by
  subst hfc
  have hb := h.big
  have h1 := h.q.hi
  have h2 := h.q.lo
  have h3 := h.q.out.size
  exact ⟨⟨has_setCell h.q.res _ _ (by simp; omega), has_setCell h.q.code _ _ (by simp; omega), has_setCell h.q.rr _ _ (by simp; omega), h.q.mod.setCell _ _ (.inl hb), h.q.out.setCell (by show w.heap.size ≤ fb; omega) _, h2, h1⟩,
    has_set_same h.f j x, ownsRow_setCell_other h.o (a := ⟨fb, j, none⟩) (fun e => h.ne fb e rfl) x, h.ne, hb⟩
theorem DecF.setr (h : DecF w wi a cap n br cs I E fb ft fc e k m v xs wr) (I' E' : Nat) : DecF w wi a cap n br cs I' E' fb ft fc e k m v xs (((wr.setCell ⟨br, 0, none⟩ (.slice a n cap)).setCell ⟨br, 1, none⟩ (.int .i64 I')).setCell ⟨br, 2, none⟩ (.int .i64 E')) := by
  have hb := h.big
  have h1 := h.q.hi
  have h2 := h.q.lo
  refine ⟨⟨?_, ?_, ?_, ?_, ?_, h2, h1⟩, ?_, owns_setr1 (owns_setr1 (owns_setr1 h.o h1) h1) h1, h.ne, hb⟩
  · exact has_setCell (has_setCell (has_setCell h.q.res _ _ (by simp; omega)) _ _ (by simp; omega)) _ _ (by simp; omega)
  · exact has_setCell (has_setCell (has_setCell h.q.code _ _ (by simp; omega)) _ _ (by simp; omega)) _ _ (by simp; omega)
  · exact has_set3 h.q.rr _ _ _
  · exact ((h.q.mod.setCell _ _ (.inr (.inl rfl))).setCell _ _ (.inr (.inl rfl))).setCell _ _ (.inr (.inl rfl))
  · exact ((h.q.out.setCell (by show w.heap.size ≤ br; omega) _).setCell (by show w.heap.size ≤ br; omega) _).setCell (by show w.heap.size ≤ br; omega) _
  · exact has_setCell (has_setCell (has_setCell h.f _ _ (by simp; omega)) _ _ (by simp; omega)) _ _ (by simp; omega)
theorem DecF.open (h : DecF w wi a cap n br cs I E fb ft fc e k m v xs wr) : (∀ j, wr.cell? ⟨br, j, none⟩ = #[Value.slice a n cap, .int .i64 I, .int .i64 E][j]?) ∧ (∀ j, wr.frozen? ⟨br, j, none⟩ = false) ∧ br < wr.heap.size ∧
    (∀ j, wr.cell? ⟨w.heap.size + 1, j, none⟩ = cs[j]?) ∧ (∀ j, wr.frozen? ⟨w.heap.size + 1, j, none⟩ = false) ∧ w.heap.size + 1 < br ∧
    (∀ j, wr.cell? ⟨fb, j, none⟩ = fc[j]?) ∧ (∀ j, wr.frozen? ⟨fb, j, none⟩ = false) ∧ fb < wr.heap.size ∧ br < fb :=
  ⟨has_cell h.q.rr, has_free h.q.rr, has_lt h.q.rr, has_cell h.q.code, has_free h.q.code, h.q.lo, has_cell h.f, has_free h.f, has_lt h.f, by have := h.big; have := h.q.hi; omega⟩
end
theorem loopS_done {r : Rd} (h : r.1 ≠ 0) (n : Nat) (acc : List (List UInt8)) : (loopS n r acc).2 = r := by
  cases n with
  | zero => rfl
  | succ n => rw [loopS, if_pos h]
theorem loopE_done {r : Rd} (h : r.1 ≠ 0) (n : Nat) (at_ : Int) (acc : List CEnt) : (loopE n at_ r acc).2.2 = r := by
  cases n with
  | zero => rfl
  | succ n => rw [loopE, if_pos h]
theorem loopI_done {r : Rd} (h : r.1 ≠ 0) (n : Nat) (acc : List CIns) : (loopI n r acc).2 = r := by
  cases n with
  | zero => rfl
  | succ n => rw [loopI, if_pos h]
end Go.Proofs.Ytcmpcbpdnaodmaa
