/- Parts of the proof. -/
import Derived.Test.YtmffhifkdbfbfaaJoXH
namespace Go.Proofs.Ytmffhifkdbfbfaa
open Go.RowKit
set_option linter.unusedVariables false
set_option maxHeartbeats 4000000
def c_i64 (n : Int) : List T := [tI .i64 n]
def c_u8 (n : Int) : List T := [tI .u8 n]
structure GApiValue where
  Kind : Int
  N : Int
  Re : Int
  Im : Int
deriving DecidableEq, Inhabited
def c_GApiValue (x : GApiValue) : List T := [tI .u8 x.Kind, tI .i64 x.N, tI .i64 x.Re, tI .i64 x.Im]
def e_GApiValue (x : GApiValue) : A := .agg [aI .u8 x.Kind, aI .i64 x.N, aI .i64 x.Re, aI .i64 x.Im]
structure GOperFeed where
  in_ : (List Int)
  draws_ : (List Int)
  read_ : Int
  drawn_ : Int
deriving DecidableEq, Inhabited
structure GApiObj where
  Kind : Int
  Of : Int
  Text : (List UInt8)
  Vals : (List GApiValue)
deriving DecidableEq, Inhabited
def e_GApiObj (x : GApiObj) : A := .agg [aI .u8 x.Kind, aI .i64 x.Of, aS x.Text, .t (.sl 4 (x.Vals.map c_GApiValue))]
structure GHindcastref11H where
  Room : Int
  Cells : Int
  L : (List GApiObj)
deriving DecidableEq, Inhabited
structure GHindcastref13W where
  H : GHindcastref11H
  In : (List Int)
  Draws : (List Int)
  Read : Int
  Drawn : Int
deriving DecidableEq, Inhabited
structure GApiComp where
  Re : Int
  Im : Int
deriving DecidableEq, Inhabited
def e_GApiComp (x : GApiComp) : A := .agg [aI .i64 x.Re, aI .i64 x.Im]
structure GHeapObject where
  o_ : GApiObj
  shared_ : Bool
deriving DecidableEq, Inhabited
def c_GHeapObject (x : GHeapObject) : List T := [tI .u8 x.o_.Kind, tI .i64 x.o_.Of, tS x.o_.Text, .sl 4 (x.o_.Vals.map c_GApiValue), tB x.shared_]
structure Fv118 where
  t : T
  run : GApiObj → Option (Bool)
  ok : ∀ (a0 : GApiObj) (r : Bool), run a0 = some r → FnC Try.prog t [e_GApiObj a0] (aB r)
end Go.Proofs.Ytmffhifkdbfbfaa
