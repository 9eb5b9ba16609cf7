/- Parts of the proof. -/
import Derived.Test.YtihbbcealnnpiaaGreatDoorHmXF
set_option linter.unusedVariables false
namespace Go.Proofs.YtihbbcealnnpiaaGreatDoor
section
open Go.RowKit
set_option maxHeartbeats 4000000
theorem xX{vals:Array Value}{a:Value}(hs:vals.size=1)(h0:vals.getD 0 undef=a):vals= #[a]:=by
 apply Array.ext
 ·simpa using hs
 ·intro i h1 h2
  match i,h2 with
  |0,_=>simpa[Array.getD,hs]using h0
theorem a2F{vals:Array Value}{a b:Value}(hs:vals.size=2)(h0:vals.getD 0 undef=a)(h1:vals.getD 1 undef=b):vals= #[a,b]:=by
 apply Array.ext
 ·simpa using hs
 ·intro i j1 j2
  match i,j2 with
  |0,_=>simpa[Array.getD,hs]using h0
  |1,_=>simpa[Array.getD,hs]using h1
theorem RO(w:World)(M:Nat→Prop)(x:Value)(h:x.oneCell'=true):D4 w M (.t (.v x)) x:=.t _ _ (.v _ h)
theorem eD{P:Program}{f:FuncId}{xs:List A}{r:A}{v0:Value}(hpl:Dr P f=true)(hr:∀w X,D4 w X r v0)(h:∀(w:World) (X:Nat→Prop) (vals:Array Value),vals.size=xs.length→(∀i (hi:i<xs.length),D4 w X (xs[i]) (vals.getD i undef))→Calls P f vals w fun e w'=>e=.returned v0∧Below w.heap.size w w'):FnP P f xs r:=
 ⟨hpl,fun w X vals hX hs hrep=>(h w X vals hs hrep).mono fun e w' ⟨he,hb⟩=>⟨v0,he,hb,hr w' X⟩⟩
end
end Go.Proofs.YtihbbcealnnpiaaGreatDoor
