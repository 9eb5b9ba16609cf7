/- Parts of the proof. -/
import Derived.Test.YtihbbcealnnpiaaGreatDoorImXC
import Derived.Test.YtihbbcealnnpiaaGreatDoorImAxTab
import Derived.Deep.Slices
import Derived.ChangeArms
import Derived.SizedLaws
set_option linter.unusedVariables false
namespace Go.Proofs.YtihbbcealnnpiaaGreatDoor
section
section
open Go.RowKit
section
variable(P:Program)(ty:TypeId)(k:IntKind)(a b:Int)(s t:ByteArray)(p q:Bool)
end
section
variable(ρ:Nat->Option Nat)(st:St)(ms:List (Nat × Blk))
end
theorem Oh{ρ:Nat->Option Nat}{st:St}{ms:List (Nat × Blk)}{i j:Nat}{b' b:Blk}(h:ρ i=some j)(B:st.mem j=some b)(z:leB ρ st ms b b'):leM ρ st ms (i,b'):=by unfold leM;rw[h];exact⟨b,B,z⟩
theorem zA{ρ:Nat->Option Nat}{st:St}{ms:List (Nat × Blk)}{i:Nat}{e k:Nat}(h:ρ i=none)(h0:0<k):leM ρ st ms (i,.row e k []):=by unfold leM;rw[h];exact⟨e,k,rfl,h0⟩
def Zh:List (Option Nat)->Bool
 | []=>true
 |none::l=>Zh l
 |some x::l=>!(l.contains (some x))&&Zh l
theorem BI:∀(l:List (Option Nat)),Zh l=true->∀(i j x:Nat),l[i]? =some (some x)->l[j]? =some (some x)->i=j
 | [],_,i,j,x,h1,_=>by simp at h1
 |none::l,h,i,j,x,h1,h2=>by
  cases i with
  |zero=>simp at h1
  |succ i=>cases j with
   |zero=>simp at h2
   |succ j=>simp at h1 h2;rw[BI l h i j x h1 h2]
 |some y::l,h,i,j,x,h1,h2=>by
  simp only[Zh,x7,Bool.not_eq_true',List.contains_eq_mem,decide_eq_false_iff_not]at h;cases i with
  |zero=>
   simp at h1;subst h1;cases j with
   |zero=>rfl
   |succ j=>simp at h2;exact absurd (O8 h2) h.1
  |succ i=>cases j with
   |zero=>simp at h2;subst h2;simp at h1;exact absurd (O8 h1) h.1
   |succ j=>simp at h1 h2;rw[BI l h.2 i j x h1 h2]
theorem cP.fit{st:St}{es:List (Nat × A)}{ms:List (Nat × Blk)}{n:Nat}(B:n=st.n)(z:cP st es ms):X7 st (R7 n es ms):=by subst B;exact LX (b2e st) z
theorem cP.all{st:St}{es:List (Nat × A)}{ms:List (Nat × Blk)}{n:Nat}(O:n=st.n)(F:∀p∈es,leA (Tj st) st ms (st.env p.1) p.2)(B:∀p∈ms,leM (Tj st) st ms p)(ids:List Nat)(z:ms.map (·.1)=ids)(L:List (Option Nat))(hL:ids.map (Tj st)=L)(hd:Zh L=true):X7 st (R7 n es ms):=by refine cP.fit O ⟨F,B,λp N q J j K I=>?_⟩;obtain⟨i,hi,rfl⟩:=List.getElem_of_mem N;obtain⟨G,C,rfl⟩:=List.getElem_of_mem J;have Q:L[i]? =some (some j):=(by rw[<-hL,<-z];simp[hi,K]);have M:L[G]? =some (some j):=(by rw[<-hL,<-z];simp[C,I]);have:=BI L hd i G j Q M;subst this;rfl
theorem all_nil{α:Type}{p:α->Prop}:∀x∈([]:List α),p x:=λx hx=>by cases hx
theorem all_cons{α:Type}{p:α->Prop}{x:α}{l:List α}(h:p x)(B:∀y∈l,p y):∀y∈x::l,p y:=λy z=>by
 rcases D0.1 z with rfl|z
 ·exact h
 ·exact B y z
section
variable(n:Nat)(es:List (Nat × A))(ms:List (Nat × Blk))(args:List A)(t:Nat)
end
section
variable(n:Nat)(args:List A)(m:List (Nat × Blk))(t:Nat)
end
end
section
open Go.ChangeShapes Go.WideShapes Go.Deep Go.RowKit
inductive ShO where
 |int(k:IntKind)
 |bool
 |str
 |sl(es:List ShO)
inductive Qa:ShO->T->Prop
 |int(k:IntKind)(n:Int)(h:(Lit.int k n).wf=true):Qa (.int k) (.v (.int k n))
 |bool(b:Bool):Qa .bool (.v (.bool b))
 |str(s:ByteArray)(h:s.size<=reachBytes):Qa .str (.v (.string s))
 |sl(es:List ShO)(xs:List (List T))(h:xs.length<=reachBytes)(hl:∀i (hi:i<xs.length),(xs[i]).length=es.length)
   (ht:∀i (hi:i<xs.length) j (hj:j<(xs[i]).length) (hj':j<es.length),Qa (es[j]) (xs[i][j])):Qa (.sl es) (.sl es.length xs)
structure b6s(es:List ShO)(ts:List T):Prop where
 len:ts.length=es.length
 at_:∀j (hj:j<ts.length) (hj':j<es.length),Qa (es[j]) (ts[j])
section
variable{H:Type}{enc:TypeId × Value->H}{P:Program}{w:World}
end
end
section
open Go.RowKit
theorem a2I{P:Program}{w:World}{f:FuncId}{args:List A}(h:FnP P f args (.v (.bool true))){z:Array Value}(F:z.size=args.length)(B:∀i (hi:i<args.length),D4 w (λ_=>False) (args[i]) (z.getD i undef)):Calls P f z w λe w'=>e=.returned (.bool true)/\Below w.heap.size w w':=by refine(h.2 w (λ_=>False) z (λb C=>C.elim) F B).mono ?_;rintro e w' ⟨v,rfl,C,G⟩;have:v=.bool true:=D3 G;subst this;exact⟨rfl,C⟩
end
end
end Go.Proofs.YtihbbcealnnpiaaGreatDoor
