/- Parts of the proof. -/
import Derived.Test.YtihbbcealnnpiaaGreatDoorImXF
set_option linter.unusedVariables false
namespace Go.Proofs.YtihbbcealnnpiaaGreatDoor
section
open Go.RowKit
set_option maxHeartbeats 4000000
theorem BB{z:Array Value}{a:Value}(B:z.size=1)(h0:z.getD 0 undef=a):z= #[a]:=by
 apply Array.ext
 ·simpa using B
 ·intro i F C
  match i,C with
  |0,_=>simpa[Array.getD,B]using h0
theorem a4g{z:Array Value}{a b:Value}(B:z.size=2)(h0:z.getD 0 undef=a)(C:z.getD 1 undef=b):z= #[a,b]:=by
 apply Array.ext
 ·simpa using B
 ·intro i G F
  match i,F with
  |0,_=>simpa[Array.getD,B]using h0
  |1,_=>simpa[Array.getD,B]using C
theorem VD(w:World)(M:Nat->Prop)(x:Value)(h:x.oneCell'=true):D4 w M (.t (.v x)) x:=.t _ _ (.v _ h)
theorem iQ{P:Program}{f:FuncId}{xs:List A}{r:A}{F:Value}(C:Lg P f=true)(G:∀w X,D4 w X r F)(h:∀(w:World) (X:Nat->Prop) (z:Array Value),z.size=xs.length->(∀i (hi:i<xs.length),D4 w X (xs[i]) (z.getD i undef))->Calls P f z w λe w'=>e=.returned F/\Below w.heap.size w w'):FnP P f xs r:=
 ⟨C,λw X z I H B=>(h w X z H B).mono λe w' ⟨he,hb⟩=>⟨F,he,hb,G w' X⟩⟩
end
end Go.Proofs.YtihbbcealnnpiaaGreatDoor
