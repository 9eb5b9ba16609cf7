/- Parts of the proof. -/
import Derived.RowKit
namespace Go.Proofs.YtcmpcbpdnaodmaaDoor
open Go.RowKit
abbrev CIns := Nat × Int × Int
abbrev CEnt := Int × Int × Int × Int × Int
abbrev CCode := List CIns × List CEnt × List (List UInt8)
def entOk (f : CEnt) : Bool := decide (0 ≤ f.2.1 ∧ 0 ≤ f.2.2.1 ∧ f.2.2.1 ≤ f.2.2.2.1 ∧ f.2.2.2.1 ≤ 200 ∧ 0 ≤ f.2.2.2.2 ∧ f.2.2.2.2 ≤ 1)
def entsOk : Int → List CEnt → Bool
  | _, [] => true
  | at_, f :: r => decide (f.1 = at_) && entOk f && entsOk (at_ + f.2.1) r
def lens : List CEnt → Int
  | [] => 0
  | f :: r => f.2.1 + lens r
def insOk (x : CIns) : Bool := decide (1 ≤ x.1 ∧ x.1 ≤ 26 ∧ 0 ≤ x.2.2 ∧ x.2.2 ≤ 2147483647)
def bytesOf : List (List UInt8) → Nat
  | [] => 0
  | s :: r => s.length + bytesOf r
def mayC (c : CCode) : Bool :=
  decide (c.2.1.length ≤ 100) && decide (c.1.length ≤ 65536) && decide (c.2.2.length ≤ 65536) && entsOk 0 c.2.1 && decide (lens c.2.1 = c.1.length) && c.1.all insOk && decide (bytesOf c.2.2 ≤ 1048576)
def b8 (n : Nat) : UInt8 := UInt8.ofNat n
def uvF : Nat → Nat → List UInt8
  | 0, n => [b8 n]
  | f + 1, n => if n < 128 then [b8 n] else b8 (n % 128 + 128) :: uvF f (n / 128)
def uv (n : Nat) : List UInt8 := uvF n n
theorem uvF_ext : ∀ f g n : Nat, n ≤ f → n ≤ g → uvF f n = uvF g n := by
  intro f
  induction f with
  | zero => intro g n hf hg; obtain rfl : n = 0 := by omega
            cases g <;> simp [uvF]
  | succ f ih => intro g n hf hg
                 cases g with
                 | zero => obtain rfl : n = 0 := by omega
                           simp [uvF]
                 | succ g => simp only [uvF]; split
                             · rfl
                             · rw [ih g (n / 128) (by omega) (by omega)]
theorem uv_small {n : Nat} (h : n < 128) : uv n = [b8 n] := by unfold uv; cases n <;> simp [uvF]; omega
theorem uv_big {n : Nat} (h : 128 ≤ n) : uv n = b8 (n % 128 + 128) :: uv (n / 128) := by
  unfold uv
  obtain ⟨m, rfl⟩ : ∃ m, n = m + 1 := ⟨n - 1, by omega⟩
  rw [uvF, if_neg (by omega), uvF_ext m ((m + 1) / 128) ((m + 1) / 128) (by omega) (by omega)]
def zz (a : Int) : Nat := if 0 ≤ a then (2 * a).toNat else (-2 * a - 1).toNat
def encS (s : List UInt8) : List UInt8 := uv s.length ++ s
def encE (f : CEnt) : List UInt8 := uv f.2.1.toNat ++ uv f.2.2.1.toNat ++ uv f.2.2.2.1.toNat ++ uv f.2.2.2.2.toNat
def encI (x : CIns) : List UInt8 := b8 x.1 :: (uv (zz x.2.1) ++ uv x.2.2.toNat)
def encC (c : CCode) : List UInt8 := uv c.2.2.length ++ c.2.2.flatMap encS ++ uv c.2.1.length ++ c.2.1.flatMap encE ++ c.1.flatMap encI
end Go.Proofs.YtcmpcbpdnaodmaaDoor
