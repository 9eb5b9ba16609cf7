/- Parts of the proof. -/
import Derived.Laws.CopyRow
import Derived.Laws.MakeOwn
import Derived.Test.YtblikpgdepjhdaaHbHpRec
import Derived.Test.YtblikpgdepjhdaaHbLfMul
namespace Go.Proofs.Ytblikpgdepjhdaa
open Go.RowKit
set_option linter.unusedVariables false
theorem run_copy_rowN {P : Program} (w : World) (dT sT ty elem : TypeId) (g o dLen dCap k : Nat) (a : Addr) (sLen sCap : Nat) (cur : Array Value) (t : TypeId) (cs : List Value)
    (hu : P.underlying dT = some (.slice elem)) (hs : (P.info? elem).map (·.size) = some k)
    (hg : w.heap[g]? = some (.cells cur t (0, 0))) (hn : cs.length = Nat.min sLen dLen * k)
    (hsrc : ∀ j v, cs[j]? = some v → w.cell? (a.add j) = some v) (hfit : o + cs.length ≤ cur.size) (h1 : ∀ v ∈ cs, v.oneCell' = true) :
    (Builtin.copy_ #[dT, sT] ty #[.slice (some ⟨g, o, none⟩) dLen dCap, .slice (some a) sLen sCap]).run P w =
      .ok (goInt (Nat.min sLen dLen)) (w.setRow g (cur.toList.take o ++ cs ++ cur.toList.drop (o + cs.length)).toArray) := by
  have hl := run_loadCells_list (P := P) w a cs hsrc
  have hst := run_storeCells_at P g o t cs 0 cur w hg (by simpa using hfit) h1
  cases hq : P.info? elem with
  | none => simp [hq] at hs
  | some i =>
    have hi : i.size = k := by simpa [hq] using hs
    simp [Builtin.copy_, run_underlying hu, Builtin.lenOf, Builtin.firstCells, sizeOf, typeInfo, hq, hi, ← hn, hl, hst]
theorem step_copyN {P : Program} {w : World} {ops : Array Oper} {o : Oper} {a : Act} {K : Act → World → Prop} {Q : Exit → Act → World → Prop} {E : Prop} (hgd : o.guard = none) (d s : Operand) (dT sT : TypeId)
    (ho : o.op = .call { callee := .builtin .copy, args := #[d, s], argTypes := #[dT, sT] }) (elem : TypeId) (k : Nat) (hu : P.underlying dT = some (.slice elem)) (hsz : (P.info? elem).map (·.size) = some k)
    (g off dLen dCap : Nat) (ad : Addr) (sLen sCap : Nat) (hd : a.eval d = .slice (some ⟨g, off, none⟩) dLen dCap) (hs : a.eval s = .slice (some ad) sLen sCap)
    (cur : Array Value) (t : TypeId) (hg : w.heap[g]? = some (.cells cur t (0, 0))) (cs : List Value) (hn : cs.length = Nat.min sLen dLen * k)
    (hsrc : ∀ j v, cs[j]? = some v → w.cell? (ad.add j) = some v) (hfit : off + cs.length ≤ cur.size) (h1 : ∀ v ∈ cs, v.oneCell' = true)
    (h : ∀ w', Hid (w' = w.setRow g (cur.toList.take off ++ cs ++ cur.toList.drop (off + cs.length)).toArray) → K (a.put o.dst (goInt (Nat.min sLen dLen))) w') :
    if Region.wanted o (yielded ops a.tmps) = true then Oper.wp P o a w K Q else E := by
  have hw : Region.wanted o (yielded ops a.tmps) = true := by simp [Region.wanted, hgd]
  rw [if_pos hw]
  have hrun := run_copy_rowN (P := P) w dT sT o.type elem g off dLen dCap k ad sLen sCap cur t cs hu hsz hg hn hsrc hfit h1
  unfold Oper.wp
  simp [execOp, ho, resolve, invoke, builtin, hd, hs, hrun, Result.andThen]
  have h2 := h _ rfl
  simp only [List.append_assoc] at h2
  exact h2
theorem mul1 (n : Nat) (h : n ≤ 65536) : math_bits_Mul 1 (n : Int) = some ((0 : Int), (n : Int)) := by
  have wr : ∀ x : Int, 0 ≤ x → x ≤ 4294967296 → IntKind.wrap .u64 x = x := fun x h1 h2 => by rw [IntKind.wrap_u64]; omega
  have an : ∀ x : Nat, x ≤ 65536 → ((BitVec.ofInt 64 (x : Int) &&& BitVec.ofInt 64 4294967295).toNat : Int) = x := fun x hx => by
    have e : BitVec.ofInt 64 (x : Int) = BitVec.ofNat 64 x := rfl
    have e2 : BitVec.ofInt 64 4294967295 = BitVec.ofNat 64 4294967295 := rfl
    rw [e, e2, BitVec.toNat_and, BitVec.toNat_ofNat, BitVec.toNat_ofNat, Nat.mod_eq_of_lt (by omega), Nat.mod_eq_of_lt (by omega), show (4294967295 : Nat) = 2 ^ 32 - 1 from rfl, Nat.and_two_pow_sub_one_eq_mod]
    omega
  have f1 : Int.fdiv (1 : Int) (2 ^ 32) = 0 := by decide
  have f2 : Int.fdiv (n : Int) (2 ^ 32) = 0 := by rw [Int.fdiv_eq_ediv_of_nonneg _ (by decide)]; omega
  have a1 := an 1 (by omega)
  have an0 := an n h
  have a0 := an 0 (by omega)
  simp only [Int.cast_ofNat_Int] at a1 a0
  have a1' : ((BitVec.ofInt 64 1 &&& BitVec.ofInt 64 4294967295).toNat : Int) = 1 := a1
  have a0' : ((BitVec.ofInt 64 0 &&& BitVec.ofInt 64 4294967295).toNat : Int) = 0 := by decide
  unfold math_bits_Mul math_bits_Mul64
  have e0 : IntKind.wrap .u64 0 = 0 := by decide
  have e1 : IntKind.wrap .u64 1 = 1 := by decide
  simp only [f1, f2, a1', an0, Int.zero_mul, Int.mul_zero, e0, e1, Int.one_mul, wr n (by omega) (by omega), Int.zero_add, Int.add_zero, a0', Option.bind_some]
  have f0 : Int.fdiv (0 : Int) (2 ^ 32) = 0 := by decide
  simp only [f0, e0, Int.add_zero]
theorem mul_raw (n : Nat) (h : n ≤ 65536) (w : World) : Calls Try.prog 51 #[.int .u64 1, .int .u64 n] w fun e w' => e = .returned (.tuple #[.int .u64 0, .int .u64 n]) ∧ Below w.heap.size w w' := by
  refine ((math_bits_Mul_ok (mul1 n h)).2 w (fun _ => False) _ (fun b hb => hb.elim) rfl ?_).mono ?_
  · intro i hi
    match i, hi with
    | 0, _ => exact .t _ _ (.v _ rfl)
    | 1, _ => exact .t _ _ (.v _ rfl)
  · rintro e w' ⟨v, rfl, hb, hr⟩
    refine ⟨?_, hb⟩
    cases hr with
    | tup cs vs hs hr =>
      have r0 := rep_val (hr 0 (by simp))
      have r1 := rep_val (hr 1 (by simp))
      have : vs = #[.int .u64 0, .int .u64 n] := by
        apply Array.ext
        · simpa using hs
        · intro i h1 h2
          match i, h2 with
          | 0, _ => exact r0
          | 1, _ => exact r1
      rw [this]
end Go.Proofs.Ytblikpgdepjhdaa
