/- What it says that functions answer. -/
import Derived.Test.YtcmpcbpdnaodmaaLfTy
namespace Go.Proofs.Ytcmpcbpdnaodmaa
open Go.RowKit
set_option linter.unusedVariables false
set_option maxHeartbeats 4000000
def R_code_Encode (a0 : GApiCode) (r : ((List Int) × Int)) : Prop := FnP Try.prog 8 [e_GApiCode a0] (.tup [.t (.sl 1 (r.1.map c_u8)), aI .i64 r.2])
def R_code_Decode (a0 : (List Int)) (r : (GApiCode × Int)) : Prop := FnP Try.prog 11 [.t (.sl 1 (a0.map c_u8))] (.tup [e_GApiCode r.1, aI .i64 r.2])
def R_code_May (a0 : GApiCode) (r : Bool) : Prop := FnP Try.prog 10 [e_GApiCode a0] (aB r)
def R_hindcastref15_May (a0 : GApiCode) (r : Bool) : Prop := FnP Try.prog 9 [e_GApiCode a0] (aB r)
def R_hindcastref15_Encode (a0 : GApiCode) (r : (List Int)) : Prop := FnP Try.prog 12 [e_GApiCode a0] (.t (.sl 1 (r.map c_u8)))
def R_hindcastref15_Same (a0 : GApiCode) (a1 : GApiCode) (r : Bool) : Prop := FnP Try.prog 13 [e_GApiCode a0, e_GApiCode a1] (aB r)
def R_hindcastref15_Great (a0 : GApiCode) (r : Bool) : Prop := FnP Try.prog 6 [e_GApiCode a0] (aB r)
def R_hindcastlaw15_awake  (r : Bool) : Prop := FnP Try.prog 7 [] (aB r)
end Go.Proofs.Ytcmpcbpdnaodmaa
