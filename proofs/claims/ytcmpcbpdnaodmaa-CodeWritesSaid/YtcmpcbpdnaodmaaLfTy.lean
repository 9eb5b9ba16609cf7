/- The program's types as structures. -/
import Derived.Test.YtcmpcbpdnaodmaaXF
namespace Go.Proofs.Ytcmpcbpdnaodmaa
open Go.RowKit
set_option linter.unusedVariables false
set_option maxHeartbeats 4000000
def c_i8 (n : Int) : List T := [tI .i8 n]
def c_i16 (n : Int) : List T := [tI .i16 n]
def c_i32 (n : Int) : List T := [tI .i32 n]
def c_i64 (n : Int) : List T := [tI .i64 n]
def c_u8 (n : Int) : List T := [tI .u8 n]
def c_u16 (n : Int) : List T := [tI .u16 n]
def c_u32 (n : Int) : List T := [tI .u32 n]
def c_u64 (n : Int) : List T := [tI .u64 n]
def c_bool (b : Bool) : List T := [tB b]
def c_str (x : List UInt8) : List T := [tS x]
def c_T (x : T) : List T := [x]
def c_L {α : Type} (k : Nat) (c : α → List T) (x : List α) : List T := [.sl k (x.map c)]
structure GApiIns where
  Op : Int
  A : Int
  Line : Int
deriving DecidableEq, Inhabited
def c_GApiIns (x : GApiIns) : List T := [tI .u8 x.Op, tI .i64 x.A, tI .i64 x.Line]
def e_GApiIns (x : GApiIns) : A := .agg [aI .u8 x.Op, aI .i64 x.A, aI .i64 x.Line]
structure GApiEntry where
  At : Int
  Len : Int
  Params : Int
  Slots : Int
  Result : Int
deriving DecidableEq, Inhabited
def c_GApiEntry (x : GApiEntry) : List T := [tI .i64 x.At, tI .i64 x.Len, tI .i64 x.Params, tI .i64 x.Slots, tI .i64 x.Result]
def e_GApiEntry (x : GApiEntry) : A := .agg [aI .i64 x.At, aI .i64 x.Len, aI .i64 x.Params, aI .i64 x.Slots, aI .i64 x.Result]
structure GApiCode where
  Ins : (List GApiIns)
  Fns : (List GApiEntry)
  Strs : (List (List UInt8))
deriving DecidableEq, Inhabited
def c_GApiCode (x : GApiCode) : List T := [.sl 3 (x.Ins.map c_GApiIns), .sl 5 (x.Fns.map c_GApiEntry), .sl 1 (x.Strs.map c_str)]
def e_GApiCode (x : GApiCode) : A := .agg [.t (.sl 3 (x.Ins.map c_GApiIns)), .t (.sl 5 (x.Fns.map c_GApiEntry)), .t (.sl 1 (x.Strs.map c_str))]
structure GCodeWriter where
  b_ : (List Int)
deriving DecidableEq, Inhabited
def c_GCodeWriter (x : GCodeWriter) : List T := [.sl 1 (x.b_.map c_u8)]
def e_GCodeWriter (x : GCodeWriter) : A := .agg [.t (.sl 1 (x.b_.map c_u8))]
structure GCodeReader where
  b_ : (List Int)
  e_ : Int
deriving DecidableEq, Inhabited
def c_GCodeReader (x : GCodeReader) : List T := [.sl 1 (x.b_.map c_u8), tI .i64 x.e_]
def e_GCodeReader (x : GCodeReader) : A := .agg [.t (.sl 1 (x.b_.map c_u8)), aI .i64 x.e_]
structure GHindcastref15R where
  B : (List Int)
  I : Int
  E : Int
deriving DecidableEq, Inhabited
def c_GHindcastref15R (x : GHindcastref15R) : List T := [.sl 1 (x.B.map c_u8), tI .i64 x.I, tI .i64 x.E]
def e_GHindcastref15R (x : GHindcastref15R) : A := .agg [.t (.sl 1 (x.B.map c_u8)), aI .i64 x.I, aI .i64 x.E]
end Go.Proofs.Ytcmpcbpdnaodmaa
