/- Layer 15 in plain lists: which codes may be, their bytes, how bytes are read. No program in sight. -/
import Derived.RowKit
namespace Go.Proofs.Ytcmpcbpdnaodmaa
open Go.RowKit

/-- An instruction: Op, A, Line. -/
abbrev CIns := Nat × Int × Int
/-- An entry: At, Len, Params, Slots, Result. -/
abbrev CEnt := Int × Int × Int × Int × Int
/-- A code: Ins, Fns, Strs. -/
abbrev CCode := List CIns × List CEnt × List (List UInt8)

def entOk (f : CEnt) : Bool := decide (0 ≤ f.2.1 ∧ 0 ≤ f.2.2.1 ∧ f.2.2.1 ≤ f.2.2.2.1 ∧ f.2.2.2.1 ≤ 200 ∧ 0 ≤ f.2.2.2.2 ∧ f.2.2.2.2 ≤ 1)
/-- Entries one behind the other, from a place on. -/
def entsOk : Int → List CEnt → Bool
  | _, [] => true
  | at_, f :: r => decide (f.1 = at_) && entOk f && entsOk (at_ + f.2.1) r
def lens : List CEnt → Int
  | [] => 0
  | f :: r => f.2.1 + lens r
def insOk (x : CIns) : Bool := decide (1 ≤ x.1 ∧ x.1 ≤ 26 ∧ 0 ≤ x.2.2 ∧ x.2.2 ≤ 2147483647)
def bytesOf : List (List UInt8) → Nat
  | [] => 0
  | s :: r => s.length + bytesOf r
def mayC (c : CCode) : Bool :=
  decide (c.2.1.length ≤ 100) && decide (c.1.length ≤ 65536) && decide (c.2.2.length ≤ 65536) && entsOk 0 c.2.1 && decide (lens c.2.1 = c.1.length) && c.1.all insOk && decide (bytesOf c.2.2 ≤ 1048576)

/-! ### Writing -/
def b8 (n : Nat) : UInt8 := UInt8.ofNat n
def uvF : Nat → Nat → List UInt8
  | 0, n => [b8 n]
  | f + 1, n => if n < 128 then [b8 n] else b8 (n % 128 + 128) :: uvF f (n / 128)
/-- A number by seven bits. -/
def uv (n : Nat) : List UInt8 := uvF n n
theorem uvF_ext : ∀ f g n : Nat, n ≤ f → n ≤ g → uvF f n = uvF g n := by
  intro f
  induction f with
  | zero => intro g n hf hg; obtain rfl : n = 0 := by omega
            cases g <;> simp [uvF]
  | succ f ih => intro g n hf hg
                 cases g with
                 | zero => obtain rfl : n = 0 := by omega
                           simp [uvF]
                 | succ g => simp only [uvF]; split
                             · rfl
                             · rw [ih g (n / 128) (by omega) (by omega)]
theorem uv_small {n : Nat} (h : n < 128) : uv n = [b8 n] := by unfold uv; cases n <;> simp [uvF]; omega
theorem uv_big {n : Nat} (h : 128 ≤ n) : uv n = b8 (n % 128 + 128) :: uv (n / 128) := by
  unfold uv
  obtain ⟨m, rfl⟩ : ∃ m, n = m + 1 := ⟨n - 1, by omega⟩
  rw [uvF, if_neg (by omega), uvF_ext m ((m + 1) / 128) ((m + 1) / 128) (by omega) (by omega)]
/-- A number with a sign. -/
def zz (a : Int) : Nat := if 0 ≤ a then (2 * a).toNat else (-2 * a - 1).toNat
def encS (s : List UInt8) : List UInt8 := uv s.length ++ s
def encE (f : CEnt) : List UInt8 := uv f.2.1.toNat ++ uv f.2.2.1.toNat ++ uv f.2.2.2.1.toNat ++ uv f.2.2.2.2.toNat
def encI (x : CIns) : List UInt8 := b8 x.1 :: (uv (zz x.2.1) ++ uv x.2.2.toNat)
def encC (c : CCode) : List UInt8 := uv c.2.2.length ++ c.2.2.flatMap encS ++ uv c.2.1.length ++ c.2.1.flatMap encE ++ c.1.flatMap encI

/-! ### Reading -/
/-- A number out of bytes: the error's number (0: none), the number, what is left. -/
def takeN : Nat → Nat → List UInt8 → Nat × Nat × List UInt8
  | _, _, [] => (15, 0, [])
  | i, n, c :: r =>
    if (i = 9 ∧ 1 < c.toNat) ∨ (0 < i ∧ c.toNat = 0) then (2, 0, [])
    else if c.toNat < 128 then (0, n + c.toNat % 128 * 2 ^ (7 * i), r)
    else takeN (i + 1) (n + c.toNat % 128 * 2 ^ (7 * i)) r
/-- What a reader has: its error's number, the bytes that are left. -/
abbrev Rd := Nat × List UInt8
def rNum (r : Rd) : Nat × Rd :=
  if r.1 ≠ 0 then (0, r) else
  if (takeN 0 0 r.2).1 = 0 then ((takeN 0 0 r.2).2.1, 0, (takeN 0 0 r.2).2.2) else (0, (takeN 0 0 r.2).1, r.2)
def rCount (most : Nat) (r : Rd) : Nat × Rd :=
  if most < (rNum r).1 then (0, 2, (rNum r).2.2) else rNum r
def unzz (n : Nat) : Int := if n % 2 = 1 then -((n / 2 : Nat) : Int) - 1 else ((n / 2 : Nat) : Int)
def rSigned (r : Rd) : Int × Rd := (unzz (rNum r).1, (rNum r).2)
def rText (r : Rd) : List UInt8 × Rd :=
  if (rCount 1048576 r).2.1 ≠ 0 then ([], (rCount 1048576 r).2) else
  if (rCount 1048576 r).2.2.length < (rCount 1048576 r).1 then ([], 15, (rCount 1048576 r).2.2) else
  ((rCount 1048576 r).2.2.take (rCount 1048576 r).1, 0, (rCount 1048576 r).2.2.drop (rCount 1048576 r).1)
def rOp (r : Rd) : Nat × Rd :=
  if r.1 ≠ 0 then (0, r) else
  match r.2 with
  | [] => (0, 15, [])
  | c :: b => (c.toNat, if c.toNat < 1 ∨ 26 < c.toNat then 23 else 0, b)
def rEnt (at_ : Int) (r : Rd) : CEnt × Rd :=
  ((at_, ((rCount 1048576 r).1 : Int), ((rCount 1048576 (rCount 1048576 r).2).1 : Int), ((rCount 1048576 (rCount 1048576 (rCount 1048576 r).2).2).1 : Int), ((rCount 1048576 (rCount 1048576 (rCount 1048576 (rCount 1048576 r).2).2).2).1 : Int)),
   (rCount 1048576 (rCount 1048576 (rCount 1048576 (rCount 1048576 r).2).2).2).2)
def rIns (r : Rd) : CIns × Rd :=
  (((rOp r).1, (rSigned (rOp r).2).1, ((rCount 2147483647 (rSigned (rOp r).2).2).1 : Int)), (rCount 2147483647 (rSigned (rOp r).2).2).2)
def loopS : Nat → Rd → List (List UInt8) → List (List UInt8) × Rd
  | 0, r, acc => (acc, r)
  | n + 1, r, acc => if r.1 ≠ 0 then (acc, r) else loopS n (rText r).2 (acc ++ [(rText r).1])
def loopE : Nat → Int → Rd → List CEnt → Int × List CEnt × Rd
  | 0, at_, r, acc => (at_, acc, r)
  | n + 1, at_, r, acc => if r.1 ≠ 0 then (at_, acc, r) else loopE n (at_ + (rEnt at_ r).1.2.1) (rEnt at_ r).2 (acc ++ [(rEnt at_ r).1])
def loopI : Nat → Rd → List CIns → List CIns × Rd
  | 0, r, acc => (acc, r)
  | n + 1, r, acc => if r.1 ≠ 0 then (acc, r) else loopI n (rIns r).2 (acc ++ [(rIns r).1])
/-- All that is read, ahead of the last questions. -/
def rawD (b : List UInt8) : CCode × Rd :=
  let s := loopS (rCount 1048576 (0, b)).1 (rCount 1048576 (0, b)).2 []
  let e := loopE (rCount 1048576 s.2).1 0 (rCount 1048576 s.2).2 []
  let i := loopI e.1.toNat e.2.2 []
  ((i.1, e.2.1, s.1), i.2)
def decC (b : List UInt8) : CCode × Nat :=
  if (rawD b).2.1 ≠ 0 then (([], [], []), (rawD b).2.1) else
  if 0 < (rawD b).2.2.length then (([], [], []), 16) else
  if mayC (rawD b).1 then ((rawD b).1, 0) else (([], [], []), 2)
end Go.Proofs.Ytcmpcbpdnaodmaa
