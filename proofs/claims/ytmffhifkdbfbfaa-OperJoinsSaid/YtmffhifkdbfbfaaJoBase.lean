/- Parts of the proof. -/
import Derived.WalkKit
import Derived.Lib.Hide
import Derived.Deep.QuietTactic
import Derived.BigQuiet
import Derived.WalkSmall
import Derived.Deep.MidRow
import Derived.Deep.WholeRow
import Derived.Deep.RegionHeld3
import Derived.Deep.Cut
import Derived.Deep.DeepCutAuto
import Derived.Deep.LoopGhost
namespace Go.Proofs.Ytmffhifkdbfbfaa
open Go.RowKit
section
variable (w : World) (n : Nat)
@[simp, go_sem] theorem setCell_drewN (a : Addr) (v : Value) : (w.drewN n).setCell a v = (w.setCell a v).drewN n := rfl
@[simp, go_sem] theorem alloc_drewN (o : Obj) : (w.drewN n).alloc o = (w.alloc o).drewN n := rfl
@[simp, go_sem] theorem shape?_drewN (r : Nat) : (w.drewN n).shape? r = w.shape? r := rfl
end
theorem belowN {B : Nat} {a w : World} (h : Below B a w) (n : Nat) : Below B a (w.drewN n) := h.trans ⟨rfl, rfl, rfl, Nat.le_refl _, fun _ _ => rfl⟩
theorem thenB {w w1 w2 : World} (h : Below w.heap.size w w1) (h2 : Below w1.heap.size w1 w2) : Below w.heap.size w w2 := h.trans (h2.mono h.size)
theorem bcell {W w1 : World} (hb : Below W.heap.size W w1) : (∀ b o, b < W.heap.size → w1.cell? ⟨b, o, none⟩ = W.cell? ⟨b, o, none⟩) ∧ (∀ b o, b < W.heap.size → w1.frozen? ⟨b, o, none⟩ = W.frozen? ⟨b, o, none⟩) :=
  ⟨fun b o h => hb.cell (p := ⟨b, o, none⟩) h, fun b o h => hb.frozen (p := ⟨b, o, none⟩) h⟩
theorem below_setRow {B g : Nat} {w0 w : World} (hb : Below B w0 w) (hB : B ≤ g) (cs : Array Value) : Below B w0 (w.setRow g cs) :=
  hb.trans ⟨rfl, rfl, rfl, by simp, fun k hk => setRow_other w g k cs (by omega)⟩
theorem row_alloc_new (w : World) (o : Obj) (k : Nat) (hk : k = w.heap.size) : (w.alloc o).heap[k]? = some o := by subst hk; show (w.heap.push o)[w.heap.size]? = some o; simp
theorem row_alloc_old (w : World) (o : Obj) (k : Nat) (hk : k < w.heap.size) : (w.alloc o).heap[k]? = w.heap[k]? := Below.heap_alloc w o k hk
abbrev Two (b1 b2 : Nat) (A B : Array Value) (w0 w : World) : Prop :=
  (∀ j, w.cell? ⟨b1, j, none⟩ = A[j]?) ∧ (∀ j, w.cell? ⟨b2, j, none⟩ = B[j]?) ∧ b1 < w.heap.size ∧ b2 < w.heap.size ∧ Below w0.heap.size w0 w
theorem Two.below {b1 b2 : Nat} {A B : Array Value} {w0 w w1 : World} (h : Two b1 b2 A B w0 w) (hb : Below w.heap.size w w1) : Two b1 b2 A B w0 w1 :=
  ⟨fun j => ((bcell hb).1 _ _ h.2.2.1).trans (h.1 j), fun j => ((bcell hb).1 _ _ h.2.2.2.1).trans (h.2.1 j), Nat.lt_of_lt_of_le h.2.2.1 hb.size, Nat.lt_of_lt_of_le h.2.2.2.1 hb.size, thenB h.2.2.2.2 hb⟩
theorem Two.drew {b1 b2 : Nat} {A B : Array Value} {w0 w : World} (h : Two b1 b2 A B w0 w) : Two b1 b2 A B w0 w.drew :=
  ⟨h.1, h.2.1, h.2.2.1, h.2.2.2.1, h.2.2.2.2.drew⟩
theorem Two.out {b1 b2 : Nat} {A B : Array Value} {w0 w : World} (h : Two b1 b2 A B w0 w) : Below w0.heap.size w0 w := h.2.2.2.2
theorem cells_of_row {w : World} {g : Nat} {cs : Array Value} {t : TypeId} {fr : Nat × Nat} (h : w.heap[g]? = some (.cells cs t fr)) : ∀ j, w.cell? ⟨g, j, none⟩ = cs[j]? := fun j => cell_of_row w g j cs t fr h
end Go.Proofs.Ytmffhifkdbfbfaa
