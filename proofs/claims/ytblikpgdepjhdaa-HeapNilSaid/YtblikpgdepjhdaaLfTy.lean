/- The program's types as structures. -/
import Derived.Test.YtblikpgdepjhdaaXF
namespace Go.Proofs.Ytblikpgdepjhdaa
open Go.RowKit
set_option linter.unusedVariables false
set_option maxHeartbeats 4000000
def c_i8 (n : Int) : List T := [tI .i8 n]
def c_i16 (n : Int) : List T := [tI .i16 n]
def c_i32 (n : Int) : List T := [tI .i32 n]
def c_i64 (n : Int) : List T := [tI .i64 n]
def c_u8 (n : Int) : List T := [tI .u8 n]
def c_u16 (n : Int) : List T := [tI .u16 n]
def c_u32 (n : Int) : List T := [tI .u32 n]
def c_u64 (n : Int) : List T := [tI .u64 n]
def c_bool (b : Bool) : List T := [tB b]
def c_str (x : List UInt8) : List T := [tS x]
def c_T (x : T) : List T := [x]
def tP {α : Type} (c : α → List T) : Option α → T
  | none => .v (.pointer none)
  | some x => .fp (c x)
def c_P {α : Type} (c : α → List T) (x : Option α) : List T := [tP c x]
def c_L {α : Type} (k : Nat) (c : α → List T) (x : List α) : List T := [.sl k (x.map c)]
structure GApiValue where
  Kind : Int
  N : Int
  Re : Int
  Im : Int
deriving DecidableEq, Inhabited
def c_GApiValue (x : GApiValue) : List T := [tI .u8 x.Kind, tI .i64 x.N, tI .i64 x.Re, tI .i64 x.Im]
def e_GApiValue (x : GApiValue) : A := .agg [aI .u8 x.Kind, aI .i64 x.N, aI .i64 x.Re, aI .i64 x.Im]
structure GApiObj where
  Kind : Int
  Of : Int
  Text : (List UInt8)
  Vals : (List GApiValue)
deriving DecidableEq, Inhabited
def c_GApiObj (x : GApiObj) : List T := [tI .u8 x.Kind, tI .i64 x.Of, tS x.Text, .sl 4 (x.Vals.map c_GApiValue)]
def e_GApiObj (x : GApiObj) : A := .agg [aI .u8 x.Kind, aI .i64 x.Of, aS x.Text, .t (.sl 4 (x.Vals.map c_GApiValue))]
structure GHindcastref11H where
  Room : Int
  Cells : Int
  L : (List GApiObj)
deriving DecidableEq, Inhabited
def c_GHindcastref11H (x : GHindcastref11H) : List T := [tI .i64 x.Room, tI .i64 x.Cells, .sl 4 (x.L.map c_GApiObj)]
def e_GHindcastref11H (x : GHindcastref11H) : A := .agg [aI .i64 x.Room, aI .i64 x.Cells, .t (.sl 4 (x.L.map c_GApiObj))]
structure GHindcastlaw11Op where
  Kind : Int
  Of : Int
  N : Int
  Text : (List UInt8)
  V : GApiValue
  X : GApiValue
  Vals : (List GApiValue)
deriving DecidableEq, Inhabited
def c_GHindcastlaw11Op (x : GHindcastlaw11Op) : List T := [tI .i64 x.Kind, tI .i64 x.Of, tI .i64 x.N, tS x.Text, tI .u8 x.V.Kind, tI .i64 x.V.N, tI .i64 x.V.Re, tI .i64 x.V.Im, tI .u8 x.X.Kind, tI .i64 x.X.N, tI .i64 x.X.Re, tI .i64 x.X.Im, .sl 4 (x.Vals.map c_GApiValue)]
def e_GHindcastlaw11Op (x : GHindcastlaw11Op) : A := .agg [aI .i64 x.Kind, aI .i64 x.Of, aI .i64 x.N, aS x.Text, aI .u8 x.V.Kind, aI .i64 x.V.N, aI .i64 x.V.Re, aI .i64 x.V.Im, aI .u8 x.X.Kind, aI .i64 x.X.N, aI .i64 x.X.Re, aI .i64 x.X.Im, .t (.sl 4 (x.Vals.map c_GApiValue))]
structure Fv67 where
  t : T
  run : GApiObj → Option (Bool)
  ok : ∀ (a0 : GApiObj) (r : Bool), run a0 = some r → FnC Try.prog t [e_GApiObj a0] (aB r)
def c_Fv67 (x : Fv67) : List T := [x.t]
structure GHeapObject where
  o_ : GApiObj
  shared_ : Bool
deriving DecidableEq, Inhabited
def c_GHeapObject (x : GHeapObject) : List T := [tI .u8 x.o_.Kind, tI .i64 x.o_.Of, tS x.o_.Text, .sl 4 (x.o_.Vals.map c_GApiValue), tB x.shared_]
def e_GHeapObject (x : GHeapObject) : A := .agg [aI .u8 x.o_.Kind, aI .i64 x.o_.Of, aS x.o_.Text, .t (.sl 4 (x.o_.Vals.map c_GApiValue)), aB x.shared_]
end Go.Proofs.Ytblikpgdepjhdaa
