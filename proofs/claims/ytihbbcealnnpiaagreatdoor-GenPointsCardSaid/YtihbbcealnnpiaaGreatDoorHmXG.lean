/- Parts of the proof. -/
import Derived.Test.YtihbbcealnnpiaaGreatDoorHmXC
import Derived.Test.YtihbbcealnnpiaaGreatDoorHmAxTab
import Derived.Deep.Slices
import Derived.ChangeArms
import Derived.SizedLaws
set_option linter.unusedVariables false
namespace Go.Proofs.YtihbbcealnnpiaaGreatDoor
section
section
open Go.RowKit
section
variable(P:Program)(ty:TypeId)(k:IntKind)(a b:Int)(s t:ByteArray)(p q:Bool)
end
section
variable(ρ:Nat→Option Nat)(st:St)(ms:List (Nat × Blk))
end
theorem La{ρ:Nat→Option Nat}{st:St}{ms:List (Nat × Blk)}{i j:Nat}{b' b:Blk}(h:ρ i=some j)(hb:st.mem j=some b)(hl:leB ρ st ms b b'):leM ρ st ms (i,b'):=by unfold leM;rw[h];exact⟨b,hb,hl⟩
theorem vY{ρ:Nat→Option Nat}{st:St}{ms:List (Nat × Blk)}{i:Nat}{e k:Nat}(h:ρ i=none)(h0:0<k):leM ρ st ms (i,.row e k []):=by unfold leM;rw[h];exact⟨e,k,rfl,h0⟩
def Wg:List (Option Nat)→Bool
 | []=>true
 |none::l=>Wg l
 |some x::l=>!(l.contains (some x))&&Wg l
theorem yE:∀(l:List (Option Nat)),Wg l=true→∀(i j x:Nat),l[i]? =some (some x)→l[j]? =some (some x)→i=j
 | [],_,i,j,x,h1,_=>by simp at h1
 |none::l,h,i,j,x,h1,h2=>by
  cases i with
  |zero=>simp at h1
  |succ i=>cases j with
   |zero=>simp at h2
   |succ j=>simp at h1 h2;rw[yE l h i j x h1 h2]
 |some y::l,h,i,j,x,h1,h2=>by
  simp only[Wg,w8,Bool.not_eq_true',List.contains_eq_mem,decide_eq_false_iff_not]at h;cases i with
  |zero=>
   simp at h1;subst h1;cases j with
   |zero=>rfl
   |succ j=>simp at h2;exact absurd (M7 h2) h.1
  |succ i=>cases j with
   |zero=>simp at h2;subst h2;simp at h1;exact absurd (M7 h1) h.1
   |succ j=>simp at h1 h2;rw[yE l h.2 i j x h1 h2]
theorem Ze.fit{st:St}{es:List (Nat × A)}{ms:List (Nat × Blk)}{n:Nat}(hn:n=st.n)(hf:Ze st es ms):S0 st (O5 n es ms):=by subst hn;exact IE (a9Y st) hf
theorem Ze.all{st:St}{es:List (Nat × A)}{ms:List (Nat × Blk)}{n:Nat}(hn:n=st.n)(hes:∀p∈es,leA (Qb st) st ms (st.env p.1) p.2)(hms:∀p∈ms,leM (Qb st) st ms p)(ids:List Nat)(hids:ms.map (·.1)=ids)(L:List (Option Nat))(hL:ids.map (Qb st)=L)(hd:Wg L=true):S0 st (O5 n es ms):=by refine Ze.fit hn ⟨hes,hms,fun p hp q hq j h1 h2=>?_⟩;obtain⟨i,hi,rfl⟩:=List.getElem_of_mem hp;obtain⟨i',hi',rfl⟩:=List.getElem_of_mem hq;have e1:L[i]? =some (some j):=(by rw[←hL,←hids];simp[hi,h1]);have e2:L[i']? =some (some j):=(by rw[←hL,←hids];simp[hi',h2]);have:=yE L hd i i' j e1 e2;subst this;rfl
theorem all_nil{α:Type}{p:α→Prop}:∀x∈([]:List α),p x:=fun x hx=>by cases hx
theorem all_cons{α:Type}{p:α→Prop}{x:α}{l:List α}(h:p x)(hl:∀y∈l,p y):∀y∈x::l,p y:=fun y hy=>by
 rcases F9.1 hy with rfl|hy
 ·exact h
 ·exact hl y hy
section
variable(n:Nat)(es:List (Nat × A))(ms:List (Nat × Blk))(args:List A)(t:Nat)
end
section
variable(n:Nat)(args:List A)(m:List (Nat × Blk))(t:Nat)
end
end
section
open Go.ChangeShapes Go.WideShapes Go.Deep Go.RowKit
inductive ShO where
 |int(k:IntKind)
 |bool
 |str
 |sl(es:List ShO)
inductive Mn:ShO→T→Prop
 |int(k:IntKind)(n:Int)(h:(Lit.int k n).wf=true):Mn (.int k) (.v (.int k n))
 |bool(b:Bool):Mn .bool (.v (.bool b))
 |str(s:ByteArray)(h:s.size≤reachBytes):Mn .str (.v (.string s))
 |sl(es:List ShO)(xs:List (List T))(h:xs.length≤reachBytes)(hl:∀i (hi:i<xs.length),(xs[i]).length=es.length)
   (ht:∀i (hi:i<xs.length) j (hj:j<(xs[i]).length) (hj':j<es.length),Mn (es[j]) (xs[i][j])):Mn (.sl es) (.sl es.length xs)
structure b3R(es:List ShO)(ts:List T):Prop where
 len:ts.length=es.length
 at_:∀j (hj:j<ts.length) (hj':j<es.length),Mn (es[j]) (ts[j])
section
variable{H:Type}{enc:TypeId × Value→H}{P:Program}{w:World}
end
end
section
open Go.RowKit
theorem a1b{P:Program}{w:World}{f:FuncId}{args:List A}(h:FnP P f args (.v (.bool true))){vals:Array Value}(hsz:vals.size=args.length)(hargs:∀i (hi:i<args.length),D4 w (fun _=>False) (args[i]) (vals.getD i undef)):Calls P f vals w fun e w'=>e=.returned (.bool true)∧Below w.heap.size w w':=by refine(h.2 w (fun _=>False) vals (fun b hb=>hb.elim) hsz hargs).mono ?_;rintro e w' ⟨v,rfl,hb,hr⟩;have:v=.bool true:=B7 hr;subst this;exact⟨rfl,hb⟩
end
end
end Go.Proofs.YtihbbcealnnpiaaGreatDoor
