/- Parts of the proof. -/
import Derived.Test.YtcmpcbpdnaodmaaDoorLsEvM
import Derived.Test.YtcmpcbpdnaodmaaDoorLsXF
namespace Go.Proofs.YtcmpcbpdnaodmaaDoor
open Go.RowKit
set_option linter.unusedVariables false
def tyF : Nat → Type
  | 0 => GApiIns
  | 1 => GApiEntry
  | 2 => GApiCode
  | 3 => GCodeWriter
  | 4 => GR01D
  | _ => Unit
def lvF : Nat → List D
  | 0 => [.int .u8, .int .i64, .int .i64]
  | 1 => [.int .i64, .int .i64, .int .i64, .int .i64, .int .i64]
  | 2 => [.sl (.nat 0), .sl (.nat 1), .sl (.str)]
  | 3 => [.sl (.int .u8)]
  | 4 => [.int .i64, .int .i64, .int .i64, .int .i64, .int .i64, .int .i64, .int .i64, .int .i64]
  | _ => []
def tab0 : Tab0 := ⟨tyF, lvF⟩
def cellsF : (i : Nat) → tyF i → Tup tab0 (lvF i)
  | 0, x => (x.Op, x.A, x.Line, ())
  | 1, x => (x.At, x.Len, x.Params, x.Slots, x.Result, ())
  | 2, x => (x.Ins, x.Fns, x.Strs, ())
  | 3, x => (x.b_, ())
  | 4, x => (x.e0_, x.e1_, x.e2_, x.e3_, x.e4_, x.e5_, x.e6_, x.e7_, ())
  | _ + 5, _ => ()
def putF : (i : Nat) → Tup tab0 (lvF i) → tyF i
  | 0, x => (GApiIns.mk x.1 x.2.1 x.2.2.1)
  | 1, x => (GApiEntry.mk x.1 x.2.1 x.2.2.1 x.2.2.2.1 x.2.2.2.2.1)
  | 2, x => (GApiCode.mk x.1 x.2.1 x.2.2.1)
  | 3, x => (GCodeWriter.mk x.1)
  | 4, x => (GR01D.mk x.1 x.2.1 x.2.2.1 x.2.2.2.1 x.2.2.2.2.1 x.2.2.2.2.2.1 x.2.2.2.2.2.2.1 x.2.2.2.2.2.2.2.1)
  | _ + 5, _ => ()
def encF : (i : Nat) → tyF i → List T
  | 0, x => c_GApiIns x
  | 1, x => c_GApiEntry x
  | 2, x => c_GApiCode x
  | 3, x => c_GCodeWriter x
  | 4, x => c_GR01D x
  | _ + 5, _ => []
def tab1 : Tab1 := { tab0 with cells := cellsF, put := putF, enc := encF }
theorem tab_ok : ∀ (i : Nat) (x : Tup tab0 (lvF i)), encF i (putF i x) = encT tab1 (lvF i) x
  | 0, x => rfl
  | 1, x => rfl
  | 2, x => rfl
  | 3, x => rfl
  | 4, x => rfl
  | _ + 5, _ => rfl
theorem tab_ok1 : ∀ (i : Nat) (x : tyF i), encF i x = encT tab1 (lvF i) (cellsF i x)
  | 0, x => rfl
  | 1, x => rfl
  | 2, x => rfl
  | 3, x => rfl
  | 4, x => rfl
  | _ + 5, _ => rfl
theorem tab_cp : ∀ (i : Nat) (x : Tup tab0 (lvF i)), cellsF i (putF i x) = x
  | 0, x => rfl
  | 1, x => rfl
  | 2, x => rfl
  | 3, x => rfl
  | 4, x => rfl
  | _ + 5, _ => rfl
theorem tab_leaf : ∀ i, (lvF i).all leafD = true
  | 0 => rfl
  | 1 => rfl
  | 2 => rfl
  | 3 => rfl
  | 4 => rfl
  | _ + 5 => rfl
def tab : Tab := { tab1 with ok := tab_ok, ok' := tab_ok1, leaf := tab_leaf, cp := tab_cp }
def dofF : TypeId → Option D
  | 2 => some (.int .i64)
  | 3 => some (.int .i64)
  | 4 => some (.bool)
  | 5 => some (.int .u8)
  | 6 => some (.int .u8)
  | 9 => some (.str)
  | 10 => some (.str)
  | 11 => some (.str)
  | 12 => some (.int .u64)
  | 21 => some (.int .i32)
  | 22 => some (.sl (.nat 0))
  | 23 => some (.sl (.nat 1))
  | 24 => some (.sl (.str))
  | 25 => some (.nat 2)
  | 26 => some (.nat 2)
  | 32 => some (.sl (.int .u8))
  | 33 => some (.int .i64)
  | 36 => some (.nat 0)
  | 37 => some (.nat 0)
  | 38 => some (.nat 1)
  | 39 => some (.nat 1)
  | 55 => some (.nat 3)
  | 56 => some (.nat 3)
  | 58 => some (.sl (.int .i64))
  | 61 => some (.int .u64)
  | 64 => some (.int .u64)
  | 72 => some (.nat 4)
  | 73 => some (.nat 4)
  | 80 => some (.int .u32)
  | 94 => some (.int .u8)
  | 95 => some (.int .u8)
  | 97 => some (.int .i32)
  | 98 => some (.int .i32)
  | _ => none
end Go.Proofs.YtcmpcbpdnaodmaaDoor
namespace Go.Proofs.YtcmpcbpdnaodmaaDoor
open Go.RowKit
set_option linter.unusedVariables false
set_option maxRecDepth 100000
set_option maxHeartbeats 4000000
def Qs0 : SV := .one (.dat (.bool))
def Qs1 : SV := .one (.dat (.int .i64))
def Qs2 : SV := .one (.dat (.str))
def Qs3 : SV := .one (.ptr 1 0)
def Q_lb0 : List Lb := [⟨0, [], ⟨[(0, .st 2 [] 0)], []⟩⟩,
  ⟨0, [0, 1, 0, 1, 1], ⟨[(1, Qs3), (22, Qs1), (23, Qs1)], [.st 1 26 2 [] 100100]⟩⟩,
  ⟨0, [1, 1, 1], ⟨[], []⟩⟩,
  ⟨1, [], ⟨[(0, .st 2 [] 0)], []⟩⟩,
  ⟨1, [0, 1, 0, 1, 1, 1], ⟨[(1, Qs3), (3, Qs1), (28, Qs1), (29, Qs1)], [.st 1 26 2 [] 100100]⟩⟩,
  ⟨1, [1, 1, 1, 1], ⟨[(1, Qs3), (3, Qs1)], [.st 1 26 2 [] 100100]⟩⟩,
  ⟨1, [0, 1, 0, 1, 1, 1, 1, 1], ⟨[(1, Qs3), (3, Qs1), (6, Qs1), (88, Qs1), (89, Qs1)], [.st 1 26 2 [] 100100]⟩⟩,
  ⟨1, [1, 1, 1, 1, 1, 1], ⟨[(1, Qs3), (3, Qs1), (6, Qs1)], [.st 1 26 2 [] 100100]⟩⟩,
  ⟨1, [0, 1, 0, 1, 1, 1, 1, 1, 1], ⟨[(1, Qs3), (3, Qs1), (6, Qs1), (110, Qs1), (111, Qs1)], [.st 1 26 2 [] 100100]⟩⟩,
  ⟨1, [1, 1, 1, 1, 1, 1, 1], ⟨[(1, Qs3), (3, Qs1), (6, Qs1)], [.st 1 26 2 [] 100100]⟩⟩,
  ⟨2, [], ⟨[(0, .one (.dat (.int .u8)))], []⟩⟩,
  ⟨3, [], ⟨[(0, Qs1)], []⟩⟩,
  ⟨4, [], ⟨[(0, .st 2 [] 0), (1, Qs1)], []⟩⟩,
  ⟨4, [0, 1, 0, 1, 1, 1], ⟨[(2, .one (.ptr 2 0)), (5, Qs2), (6, .one (.ptr 6 0)), (7, Qs1)], [.st 2 26 2 [] 100200, .st 6 39 1 [] 100600]⟩⟩,
  ⟨4, [1, 1, 1, 1], ⟨[(5, Qs2)], []⟩⟩]
def Q_lbs : List (List Lb) := [Q_lb0]
def Q_v0 : List VR := [⟨4, ⟨[Qs0], []⟩, [([0, 1, 0, 1, 1], 1), ([1, 1, 1], 2)], [], []⟩,
  ⟨9, ⟨[Qs0], []⟩, [([0, 1, 0, 1, 1, 1], 4), ([1, 1, 1, 1], 5), ([0, 1, 0, 1, 1, 1, 1, 1], 6), ([1, 1, 1, 1, 1, 1], 7), ([0, 1, 0, 1, 1, 1, 1, 1, 1], 8), ([1, 1, 1, 1, 1, 1, 1], 9)], [], []⟩,
  ⟨8, ⟨[Qs2], []⟩, [], [], []⟩,
  ⟨19, ⟨[Qs2], []⟩, [], [], []⟩,
  ⟨10, ⟨[Qs2], []⟩, [([0, 1, 0, 1, 1, 1], 13), ([1, 1, 1, 1], 14)], [], []⟩]
def Q_vs : List (List VR) := [Q_v0]
def Q_lt : LT := mkLT Q_lbs Q_vs [11]
def Q_io : List (FuncId × List Nat) := []
def Q_pu : List (FuncId × List Nat) := [(4, [0]), (8, [10]), (9, [3]), (10, [12]), (19, [11])]
def Q_lo : List (FuncId × List Nat) := []
end Go.Proofs.YtcmpcbpdnaodmaaDoor
