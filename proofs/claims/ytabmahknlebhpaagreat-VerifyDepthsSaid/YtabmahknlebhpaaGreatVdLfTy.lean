/- Parts of the proof. -/
import Derived.Test.YtabmahknlebhpaaGreatVdXF
namespace Go.Proofs.YtabmahknlebhpaaGreat
open Go.RowKit
set_option linter.unusedVariables false
set_option maxRecDepth 100000
set_option maxHeartbeats 4000000
def c_i64 (n : Int) : List T := [tI .i64 n]
def c_bool (b : Bool) : List T := [tB b]
def c_str (x : List UInt8) : List T := [tS x]
def c_L {α : Type} (k : Nat) (c : α → List T) (x : List α) : List T := [.sl k (x.map c)]
structure GApiIns where
  Op : Int
  A : Int
  Line : Int
deriving DecidableEq, Inhabited
def c_GApiIns (x : GApiIns) : List T := [tI .u8 x.Op, tI .i64 x.A, tI .i64 x.Line]
structure GApiEntry where
  At : Int
  Len : Int
  Params : Int
  Slots : Int
  Result : Int
deriving DecidableEq, Inhabited
def c_GApiEntry (x : GApiEntry) : List T := [tI .i64 x.At, tI .i64 x.Len, tI .i64 x.Params, tI .i64 x.Slots, tI .i64 x.Result]
structure GApiCode where
  Ins : (List GApiIns)
  Fns : (List GApiEntry)
  Strs : (List (List UInt8))
deriving DecidableEq, Inhabited
def c_GApiCode (x : GApiCode) : List T := [.sl 3 (x.Ins.map c_GApiIns), .sl 5 (x.Fns.map c_GApiEntry), .sl 1 (x.Strs.map c_str)]
def b_GApiCode (x : GApiCode) : List A := [.t (.sl 3 (x.Ins.map c_GApiIns)), .t (.sl 5 (x.Fns.map c_GApiEntry)), .t (.sl 1 (x.Strs.map c_str))]
def e_GApiCode (x : GApiCode) : A := .agg (b_GApiCode x)
structure GR17F where
  E : GApiEntry
  D : (List Int)
  Gone : (List Bool)
  Error : Int
deriving DecidableEq, Inhabited
def c_GR17F (x : GR17F) : List T := [tI .i64 x.E.At, tI .i64 x.E.Len, tI .i64 x.E.Params, tI .i64 x.E.Slots, tI .i64 x.E.Result, .sl 1 (x.D.map c_i64), .sl 1 (x.Gone.map c_bool), tI .i64 x.Error]
structure GApiNode where
  Kind : Int
  Line : Int
  Col : Int
  Size : Int
  Num : Int
  Text : (List UInt8)
deriving DecidableEq, Inhabited
def c_GApiNode (x : GApiNode) : List T := [tI .u8 x.Kind, tI .i64 x.Line, tI .i64 x.Col, tI .i64 x.Size, tI .i64 x.Num, tS x.Text]
structure GApiMark where
  Type_ : Int
  Ref : Int
  Point : Int
deriving DecidableEq, Inhabited
def c_GApiMark (x : GApiMark) : List T := [tI .i64 x.Type_, tI .i64 x.Ref, tI .i64 x.Point]
structure GApiType where
  Kind : Int
  Of : Int
deriving DecidableEq, Inhabited
def c_GApiType (x : GApiType) : List T := [tI .u8 x.Kind, tI .i64 x.Of]
structure GApiRec where
  Name : (List UInt8)
  From : Int
  Count : Int
deriving DecidableEq, Inhabited
def c_GApiRec (x : GApiRec) : List T := [tS x.Name, tI .i64 x.From, tI .i64 x.Count]
structure GApiField where
  Name : (List UInt8)
  Type_ : Int
deriving DecidableEq, Inhabited
def c_GApiField (x : GApiField) : List T := [tS x.Name, tI .i64 x.Type_]
structure GApiFn where
  Name : (List UInt8)
  Node : Int
  Params : Int
  Result : Int
  At : Int
  Slots : Int
  First : Int
  Points : Int
deriving DecidableEq, Inhabited
def c_GApiFn (x : GApiFn) : List T := [tS x.Name, tI .i64 x.Node, tI .i64 x.Params, tI .i64 x.Result, tI .i64 x.At, tI .i64 x.Slots, tI .i64 x.First, tI .i64 x.Points]
structure GApiVar where
  Fn : Int
  Name : (List UInt8)
  Slot : Int
  First : Int
  Last : Int
deriving DecidableEq, Inhabited
def c_GApiVar (x : GApiVar) : List T := [tI .i64 x.Fn, tS x.Name, tI .i64 x.Slot, tI .i64 x.First, tI .i64 x.Last]
structure GApiPoint where
  Fn : Int
  Node : Int
  Line : Int
  Col : Int
deriving DecidableEq, Inhabited
def c_GApiPoint (x : GApiPoint) : List T := [tI .i64 x.Fn, tI .i64 x.Node, tI .i64 x.Line, tI .i64 x.Col]
structure GApiProg where
  Nodes : (List GApiNode)
  Marks : (List GApiMark)
  Types : (List GApiType)
  Recs : (List GApiRec)
  Fields : (List GApiField)
  Fns : (List GApiFn)
  Slots : (List Int)
  Vars : (List GApiVar)
  Points : (List GApiPoint)
deriving DecidableEq, Inhabited
def c_GApiProg (x : GApiProg) : List T := [.sl 6 (x.Nodes.map c_GApiNode), .sl 3 (x.Marks.map c_GApiMark), .sl 2 (x.Types.map c_GApiType), .sl 3 (x.Recs.map c_GApiRec), .sl 2 (x.Fields.map c_GApiField), .sl 8 (x.Fns.map c_GApiFn), .sl 1 (x.Slots.map c_i64), .sl 5 (x.Vars.map c_GApiVar), .sl 4 (x.Points.map c_GApiPoint)]
structure GApiFault where
  Code : Int
  Line : Int
  Col : Int
deriving DecidableEq, Inhabited
def c_GApiFault (x : GApiFault) : List T := [tI .i64 x.Code, tI .i64 x.Line, tI .i64 x.Col]
structure GGenMaker where
  p_ : GApiProg
  c_ : GApiCode
  from_ : Int
  texts_ : (List ((List UInt8) × Int))
def c_GGenMaker (x : GGenMaker) : List T := [.sl 6 (x.p_.Nodes.map c_GApiNode), .sl 3 (x.p_.Marks.map c_GApiMark), .sl 2 (x.p_.Types.map c_GApiType), .sl 3 (x.p_.Recs.map c_GApiRec), .sl 2 (x.p_.Fields.map c_GApiField), .sl 8 (x.p_.Fns.map c_GApiFn), .sl 1 (x.p_.Slots.map c_i64), .sl 5 (x.p_.Vars.map c_GApiVar), .sl 4 (x.p_.Points.map c_GApiPoint), .sl 3 (x.c_.Ins.map c_GApiIns), .sl 5 (x.c_.Fns.map c_GApiEntry), .sl 1 (x.c_.Strs.map c_str), tI .i64 x.from_, .any]
structure GVerifyFlow where
  f_ : GApiEntry
  depths_ : (List Int)
  todo_ : (List Int)
deriving DecidableEq, Inhabited
def c_GVerifyFlow (x : GVerifyFlow) : List T := [tI .i64 x.f_.At, tI .i64 x.f_.Len, tI .i64 x.f_.Params, tI .i64 x.f_.Slots, tI .i64 x.f_.Result, .sl 1 (x.depths_.map c_i64), .sl 1 (x.todo_.map c_i64)]
structure GApiToken where
  Kind : Int
  Line : Int
  Col : Int
  Num : Int
  Text : (List UInt8)
deriving DecidableEq, Inhabited
def c_GApiToken (x : GApiToken) : List T := [tI .u8 x.Kind, tI .i64 x.Line, tI .i64 x.Col, tI .i64 x.Num, tS x.Text]
structure GR06P where
  L : (List GApiToken)
  I : Int
  Deep : Int
  F : GApiFault
deriving DecidableEq, Inhabited
def c_GR06P (x : GR06P) : List T := [.sl 5 (x.L.map c_GApiToken), tI .i64 x.I, tI .i64 x.Deep, tI .i64 x.F.Code, tI .i64 x.F.Line, tI .i64 x.F.Col]
structure GR10C where
  L : (List GApiNode)
  M : (List GApiMark)
  P : GApiProg
  T : (List GApiType)
  F : GApiFault
  Result : Int
deriving DecidableEq, Inhabited
def c_GR10C (x : GR10C) : List T := [.sl 6 (x.L.map c_GApiNode), .sl 3 (x.M.map c_GApiMark), .sl 6 (x.P.Nodes.map c_GApiNode), .sl 3 (x.P.Marks.map c_GApiMark), .sl 2 (x.P.Types.map c_GApiType), .sl 3 (x.P.Recs.map c_GApiRec), .sl 2 (x.P.Fields.map c_GApiField), .sl 8 (x.P.Fns.map c_GApiFn), .sl 1 (x.P.Slots.map c_i64), .sl 5 (x.P.Vars.map c_GApiVar), .sl 4 (x.P.Points.map c_GApiPoint), .sl 2 (x.T.map c_GApiType), tI .i64 x.F.Code, tI .i64 x.F.Line, tI .i64 x.F.Col, tI .i64 x.Result]
structure GR09S where
  P : GApiProg
  Recs : (List (List UInt8))
  F : GApiFault
deriving DecidableEq, Inhabited
def c_GR09S (x : GR09S) : List T := [.sl 6 (x.P.Nodes.map c_GApiNode), .sl 3 (x.P.Marks.map c_GApiMark), .sl 2 (x.P.Types.map c_GApiType), .sl 3 (x.P.Recs.map c_GApiRec), .sl 2 (x.P.Fields.map c_GApiField), .sl 8 (x.P.Fns.map c_GApiFn), .sl 1 (x.P.Slots.map c_i64), .sl 5 (x.P.Vars.map c_GApiVar), .sl 4 (x.P.Points.map c_GApiPoint), .sl 1 (x.Recs.map c_str), tI .i64 x.F.Code, tI .i64 x.F.Line, tI .i64 x.F.Col]
structure GR09Env where
  Name : (List UInt8)
  Slot : Int
  Block : Int
  At : Int
deriving DecidableEq, Inhabited
def c_GR09Env (x : GR09Env) : List T := [tS x.Name, tI .i64 x.Slot, tI .i64 x.Block, tI .i64 x.At]
structure GR01D where
  e0_ : Int
  e1_ : Int
  e2_ : Int
  e3_ : Int
  e4_ : Int
  e5_ : Int
  e6_ : Int
  e7_ : Int
deriving DecidableEq, Inhabited
def c_GR01D (x : GR01D) : List T := [tI .i64 x.e0_, tI .i64 x.e1_, tI .i64 x.e2_, tI .i64 x.e3_, tI .i64 x.e4_, tI .i64 x.e5_, tI .i64 x.e6_, tI .i64 x.e7_]
def b_GR01D (x : GR01D) : List A := [aI .i64 x.e0_, aI .i64 x.e1_, aI .i64 x.e2_, aI .i64 x.e3_, aI .i64 x.e4_, aI .i64 x.e5_, aI .i64 x.e6_, aI .i64 x.e7_]
def e_GR01D (x : GR01D) : A := .agg (b_GR01D x)
end Go.Proofs.YtabmahknlebhpaaGreat
