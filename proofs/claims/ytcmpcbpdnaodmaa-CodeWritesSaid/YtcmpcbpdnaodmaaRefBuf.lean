/- A buffer of bytes that a call owns, in a slot: appends of a number's bytes, of a text, of a byte. -/
import Derived.Test.YtcmpcbpdnaodmaaRefEnc
namespace Go.Proofs.Ytcmpcbpdnaodmaa
open Go.RowKit Go.Lib
set_option linter.unusedVariables false

/-- In w the call that began in W owns the bytes xs. -/
structure RB (W : World) (xs : List UInt8) (n : Nat) (a : Option Addr) (c : Nat) (w : World) : Prop where
  len : n = xs.length
  own : w.ownsRow W.heap.size 5 1 (.slice a n c) n (xs.map byteV)
  below : Below W.heap.size W w
/-- A row of bytes that was just handed back. -/
structure RS (ys : List UInt8) (n : Nat) (g : Nat) (c : Nat) (w : World) : Prop where
  len : n = ys.length
  cells : ∀ j u, (ys.map byteV)[j]? = some u → w.cell? ((⟨g, 0, none⟩ : Addr).add j) = some u
theorem RB.old {W w w' : World} {xs : List UInt8} {n : Nat} {a : Option Addr} {c : Nat} (h : RB W xs n a c w) (hb : Below w.heap.size w w') : RB W xs n a c w' :=
  ⟨h.len, owns_old h.own hb, h.below.trans (hb.mono h.below.size)⟩
theorem RB.grown {W w w' : World} {xs xs' : List UInt8} {n n' : Nat} {a a' : Option Addr} {c c' : Nat} (h : RB W xs n a c w) (hl : n' = xs'.length) (ho : w'.ownsRow W.heap.size 5 1 (.slice a' n' c') n' (xs'.map byteV)) (hg : w.grownBy w' (Value.ownBlock (.slice a n c))) : RB W xs' n' a' c' w' :=
  ⟨hl, ho, h.below.grown hg h.below.size (fun k hk => (h.own.lt k hk).1)⟩
/-- The reference's number, beside a buffer. -/
theorem ref15_numberB {W : World} {xs : List UInt8} {n1 : Nat} {a : Option Addr} {c : Nat} {w : World} (h : RB W xs n1 a c w) (n : Nat) (hn : n ≤ 18446744073709551615) :
    Calls Try.prog 21 #[.int .u64 n] w fun e w' => ∃ n2 g c2, e = .returned (.slice (some ⟨g, 0, none⟩) n2 c2) ∧ RB W xs n1 a c w' ∧ RS (uv n) n2 g c2 w' ∧ Below w.heap.size w w' := by
  refine (ref15_number n hn w).mono ?_
  rintro e w1 ⟨hb, a2, c2, rfl, ho⟩
  have hpos : 0 < (uv n).length := by
    by_cases hs : n < 128
    · rw [uv_small hs]; simp
    · rw [uv_big (by omega)]; simp
  rcases ho.2 with ⟨_, h0⟩ | ⟨g, cap, cur, he, _⟩
  · omega
  · simp at he
    obtain ⟨rfl, rfl⟩ := he
    exact ⟨_, g, c2, rfl, h.old hb, ⟨rfl, ho.cells rfl⟩, hb⟩
theorem ref15_signedB {W : World} {xs : List UInt8} {n1 : Nat} {a : Option Addr} {c : Nat} {w : World} (h : RB W xs n1 a c w) (x : Int) (h0 : -9223372036854775808 ≤ x) (h1 : x ≤ 9223372036854775807) :
    Calls Try.prog 22 #[.int .i64 x] w fun e w' => ∃ n2 g c2, e = .returned (.slice (some ⟨g, 0, none⟩) n2 c2) ∧ RB W xs n1 a c w' ∧ RS (uv (zz x)) n2 g c2 w' ∧ Below w.heap.size w w' := by
  refine (ref15_signed x h0 h1 w).mono ?_
  rintro e w1 ⟨hb, a2, c2, rfl, ho⟩
  have hpos : 0 < (uv (zz x)).length := by
    by_cases hs : zz x < 128
    · rw [uv_small hs]; simp
    · rw [uv_big (by omega)]; simp
  rcases ho.2 with ⟨_, h0⟩ | ⟨g, cap, cur, he, _⟩
  · omega
  · simp at he
    obtain ⟨rfl, rfl⟩ := he
    exact ⟨_, g, c2, rfl, h.old hb, ⟨rfl, ho.cells rfl⟩, hb⟩
/-- 'out = append(out, ys...)'. -/
theorem wpList_rb_row {w : World} {ops : Array Oper} {rest : List Oper} {o : Oper} {act : Act} {Q : Exit → Act → World → Prop} (hgd : o.guard = none) (s x : Operand)
    (ho : o.op = .call { callee := .builtin .append, args := #[s, x], argTypes := #[29, 29] })
    {W : World} {xs ys : List UInt8} {n m g c cy : Nat} {a : Option Addr} (HB : RB W xs n a c w) (HS : RS ys m g cy w) (hs : act.eval s = .slice a n c) (hx : act.eval x = .slice (some ⟨g, 0, none⟩) m cy) (hle : xs.length ≤ 1099511627776) (hle2 : ys.length ≤ 1099511627776)
    (h : ∀ n' a' c' w', RB W (xs ++ ys) n' a' c' w' → w.grownBy w' (Value.ownBlock (.slice a n c)) → wpList Try.prog ops Q rest (act.put o.dst (.slice a' n' c')) w') : wpList Try.prog ops Q (o :: rest) act w := by
  obtain ⟨i0, hi, hz0, hz1, hz2⟩ := info_parts u8info
  have e1 := HB.len
  have e2 := HS.len
  refine wpList_append_own2 hgd s x 29 ho W.heap.size 5 i0 (.int .u8 0) 1 1 (by kernel_rfl) hi hz0 hz1 hz2 rfl (by decide) (.slice a n c) n (xs.map byteV) hs HB.own ⟨g, 0, none⟩ m cy (ys.map byteV) hx (by rw [e2]; simp) HS.cells ?_ (by simp only [maxLen]; omega) (by omega) HB.below.size ?_
  · intro u hu
    obtain ⟨b, _, rfl⟩ := List.mem_map.1 hu
    rfl
  · intro a' c' w' ho' hg _
    exact h (n + m) a' c' w' (HB.grown (by rw [e1, e2, List.length_append]) (by rw [List.map_append]; exact ho') hg) hg
/-- 'out = append(out, s...)', s a text. -/
theorem wpList_rb_text {w : World} {ops : Array Oper} {rest : List Oper} {o : Oper} {act : Act} {Q : Exit → Act → World → Prop} (hgd : o.guard = none) (s x : Operand)
    (ho : o.op = .call { callee := .builtin .append, args := #[s, x], argTypes := #[29, 9] })
    {W : World} {xs ys : List UInt8} {n c : Nat} {a : Option Addr} (HB : RB W xs n a c w) (hs : act.eval s = .slice a n c) (hx : act.eval x = .string ⟨ys.toArray⟩) (hle : xs.length ≤ 1099511627776) (hle2 : ys.length ≤ 1099511627776)
    (h : ∀ n' a' c' w', RB W (xs ++ ys) n' a' c' w' → w.grownBy w' (Value.ownBlock (.slice a n c)) → wpList Try.prog ops Q rest (act.put o.dst (.slice a' n' c')) w') : wpList Try.prog ops Q (o :: rest) act w := by
  obtain ⟨i0, hi, hz0, hz1, hz2⟩ := info_parts u8info
  have e1 := HB.len
  have e2 : ByteArray.size ⟨ys.toArray⟩ = ys.length := rfl
  refine wpList_append_own_string _ hgd s x 29 9 ho W.heap.size 5 i0 (by kernel_rfl) (by kernel_rfl) hi hz0 hz1 hz2 (.slice a n c) n (xs.map byteV) hs HB.own ⟨ys.toArray⟩ hx (by simp only [maxLen]; omega) (by omega) HB.below.size ?_
  intro v' w' ho' hg _
  obtain ⟨a', c', rfl⟩ := owns_slice ho'
  exact h _ a' c' w' (HB.grown (by rw [e1, e2, List.length_append]) (by rw [List.map_append, ← strCells_of]; exact ho') hg) hg
/-- 'out = append(out, b)'. -/
theorem wpList_rb_byte {w : World} {ops : Array Oper} {rest : List Oper} {o : Oper} {act : Act} {Q : Exit → Act → World → Prop} (hgd : o.guard = none) (s x : Operand)
    (ho : o.op = .call { callee := .builtin .append, args := #[s, x], argTypes := #[29, 29] })
    {W : World} {xs : List UInt8} {n c : Nat} {a : Option Addr} (b : UInt8) (V : Value) (hV : V = byteV b) (HB : RB W xs n a c w) (hs : act.eval s = .slice a n c) (hx : act.eval x = .slice (some ⟨w.heap.size, 0, none⟩) 1 1) (hle : xs.length ≤ 1099511627776)
    (h : ∀ n' a' c' w', RB W (xs ++ [b]) n' a' c' w' → w.grownBy w' (Value.ownBlock (.slice a n c)) → wpList Try.prog ops Q rest (act.put o.dst (.slice a' n' c')) w') : wpList Try.prog ops Q (o :: rest) act (w.alloc (.cells #[V] 5)) := by
  obtain ⟨i0, hi, hz0, hz1, hz2⟩ := info_parts u8info
  have e1 := HB.len
  subst hV
  refine wpList_append_elem hgd s x 29 ho W.heap.size 5 i0 (.int .u8 0) 1 1 (by kernel_rfl) hi hz0 hz1 hz2 rfl (by decide) a c n (xs.map byteV) [byteV b] _ hs HB.own hx rfl (by simp [Value.oneCell']) (by simp only [maxLen]; omega) (by omega) HB.below.size ?_
  intro a' c' w' ho' hg _
  exact h (n + 1) a' c' w' (HB.grown (by simp [e1]) (by rw [List.map_append]; exact ho') hg) hg
/-- As wpList_rb_row, with another block that stands. -/
theorem wpList_rb_rowX {w : World} {ops : Array Oper} {rest : List Oper} {o : Oper} {act : Act} {Q : Exit → Act → World → Prop} (hgd : o.guard = none) (s x : Operand)
    (ho : o.op = .call { callee := .builtin .append, args := #[s, x], argTypes := #[29, 29] })
    {W : World} {xs ys : List UInt8} {n m g c cy : Nat} {a : Option Addr} (HB : RB W xs n a c w) (HS : RS ys m g cy w) (hs : act.eval s = .slice a n c) (hx : act.eval x = .slice (some ⟨g, 0, none⟩) m cy) (hle : xs.length ≤ 1099511627776) (hle2 : ys.length ≤ 1099511627776)
    {bx : Nat} {ds : Array Value} {t : TypeId} (hX : Has w bx ds t) (hN : ∀ k, Value.ownBlock (.slice a n c) = some k → k ≠ bx)
    (h : ∀ n' a' c' w', RB W (xs ++ ys) n' a' c' w' → Has w' bx ds t → (∀ k, Value.ownBlock (.slice a' n' c') = some k → k ≠ bx) → wpList Try.prog ops Q rest (act.put o.dst (.slice a' n' c')) w') : wpList Try.prog ops Q (o :: rest) act w := by
  obtain ⟨i0, hi, hz0, hz1, hz2⟩ := info_parts u8info
  have e1 := HB.len
  have e2 := HS.len
  refine wpList_append_own2 hgd s x 29 ho W.heap.size 5 i0 (.int .u8 0) 1 1 (by kernel_rfl) hi hz0 hz1 hz2 rfl (by decide) (.slice a n c) n (xs.map byteV) hs HB.own ⟨g, 0, none⟩ m cy (ys.map byteV) hx (by rw [e2]; simp) HS.cells ?_ (by simp only [maxLen]; omega) (by omega) HB.below.size ?_
  · intro u hu
    obtain ⟨b, _, rfl⟩ := List.mem_map.1 hu
    rfl
  · intro a' c' w' ho' hg hp
    refine h (n + m) a' c' w' (HB.grown (by rw [e1, e2, List.length_append]) (by rw [List.map_append]; exact ho') hg) ((hg.block bx (has_lt hX) (fun e => hN bx e.symm rfl)).trans hX) (fun k hk => ?_)
    rcases hp k hk with e | e
    · exact hN k e
    · have := has_lt hX; omega
end Go.Proofs.Ytcmpcbpdnaodmaa
