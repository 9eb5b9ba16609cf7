/- The program's types as structures. -/
import Derived.Test.YtahioekdpndohaaXF
namespace Go.Proofs.Ytahioekdpndohaa
open Go.RowKit
set_option linter.unusedVariables false
set_option maxHeartbeats 4000000
def c_i8 (n : Int) : List T := [tI .i8 n]
def c_i16 (n : Int) : List T := [tI .i16 n]
def c_i32 (n : Int) : List T := [tI .i32 n]
def c_i64 (n : Int) : List T := [tI .i64 n]
def c_u8 (n : Int) : List T := [tI .u8 n]
def c_u16 (n : Int) : List T := [tI .u16 n]
def c_u32 (n : Int) : List T := [tI .u32 n]
def c_u64 (n : Int) : List T := [tI .u64 n]
def c_bool (b : Bool) : List T := [tB b]
def c_str (x : List UInt8) : List T := [tS x]
def c_T (x : T) : List T := [x]
def c_L {α : Type} (k : Nat) (c : α → List T) (x : List α) : List T := [.sl k (x.map c)]
structure GApiNode where
  Kind : Int
  Line : Int
  Col : Int
  Size : Int
  Num : Int
  Text : (List UInt8)
deriving DecidableEq, Inhabited
def c_GApiNode (x : GApiNode) : List T := [tI .u8 x.Kind, tI .i64 x.Line, tI .i64 x.Col, tI .i64 x.Size, tI .i64 x.Num, tS x.Text]
def e_GApiNode (x : GApiNode) : A := .agg [aI .u8 x.Kind, aI .i64 x.Line, aI .i64 x.Col, aI .i64 x.Size, aI .i64 x.Num, aS x.Text]
structure GTreeLook where
  x_ : GApiNode
  kids_ : (List GApiNode)
deriving DecidableEq, Inhabited
def c_GTreeLook (x : GTreeLook) : List T := [tI .u8 x.x_.Kind, tI .i64 x.x_.Line, tI .i64 x.x_.Col, tI .i64 x.x_.Size, tI .i64 x.x_.Num, tS x.x_.Text, .sl 6 (x.kids_.map c_GApiNode)]
def e_GTreeLook (x : GTreeLook) : A := .agg [aI .u8 x.x_.Kind, aI .i64 x.x_.Line, aI .i64 x.x_.Col, aI .i64 x.x_.Size, aI .i64 x.x_.Num, aS x.x_.Text, .t (.sl 6 (x.kids_.map c_GApiNode))]
structure Fv35 where
  t : T
  run : GApiNode → Option (Bool)
  ok : ∀ (a0 : GApiNode) (r : Bool), run a0 = some r → FnC Try.prog t [e_GApiNode a0] (aB r)
def c_Fv35 (x : Fv35) : List T := [x.t]
structure Fv42 where
  t : T
  run : Int → Option (Bool)
  ok : ∀ (a0 : Int) (r : Bool), run a0 = some r → FnC Try.prog t [aI .u8 a0] (aB r)
def c_Fv42 (x : Fv42) : List T := [x.t]
structure GApiToken where
  Kind : Int
  Line : Int
  Col : Int
  Num : Int
  Text : (List UInt8)
deriving DecidableEq, Inhabited
def c_GApiToken (x : GApiToken) : List T := [tI .u8 x.Kind, tI .i64 x.Line, tI .i64 x.Col, tI .i64 x.Num, tS x.Text]
def e_GApiToken (x : GApiToken) : A := .agg [aI .u8 x.Kind, aI .i64 x.Line, aI .i64 x.Col, aI .i64 x.Num, aS x.Text]
end Go.Proofs.Ytahioekdpndohaa
