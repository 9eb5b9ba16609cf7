/- Parts of the proof. -/
import Derived.Test.YtihbbcealnnpiaaGreatDoorHmXC
set_option linter.unusedVariables false
namespace Go.Proofs.YtihbbcealnnpiaaGreatDoor
section
section
open Go.RowKit
variable{P:Program}
structure LS where
 n:Nat
 es:List (Nat × A)
 ms:List (Nat × Option Blk)
def lkE:List (Nat × A)→Nat→A
 | [],_=>.dead
 |(i,x)::l,t=>match Nat.beq t i with|true=>x|false=>lkE l t
def lkM:List (Nat × Option Blk)→Nat→Option (Option Blk)
 | [],_=>none
 |(i,x)::l,t=>match Nat.beq t i with|true=>some x|false=>lkM l t
def x7(ms:List (Nat × Option Blk))(i:Nat):Option Blk:=match lkM ms i with|some (some b)=>some b|_=>none
def D0(ms:List (Nat × Option Blk))(i:Nat):Bool:=match lkM ms i with|some _=>true|none=>false
def LS.st(s:LS):St:=⟨s.n,lkE s.es,x7 s.ms,D0 s.ms⟩
def LS.put(s:LS)(d:Option Nat)(a:A):LS:=match d with|some d=>⟨s.n,(d,a)::s.es,s.ms⟩|none=>s
def LS.new(s:LS)(id:Nat)(b:Blk):LS:=⟨s.n,s.es,(id,some b)::s.ms⟩
def LS.del(s:LS)(id:Nat):LS:=⟨s.n,s.es,(id,none)::s.ms⟩
theorem D2{t i:Nat}(h:Nat.beq t i=true):t=i:=Nat.eq_of_beq_eq_true h
theorem Nj{t i:Nat}(h:Nat.beq t i=false):t≠i:=fun e=>by rw[e]at h;simp at h
theorem Vi(i:Nat)(x:A)(l:List (Nat × A)):lkE ((i,x)::l)=upd (lkE l) i x:=by
 funext t
 unfold lkE upd;cases h:Nat.beq t i with
 |true=>simp[D2 h]
 |false=>simp[Nj h]
theorem Ap(i:Nat)(x:Option Blk)(l:List (Nat × Option Blk))(t:Nat):lkM ((i,x)::l) t=if t=i then some x else lkM l t:=by
 show(match Nat.beq t i with|true=>some x|false=>lkM l t)=_;cases h:Nat.beq t i with
 |true=>rw[if_pos (D2 h)]
 |false=>rw[if_neg (Nj h)]
theorem XD(i:Nat)(b:Blk)(l:List (Nat × Option Blk)):x7 ((i,some b)::l)=upd (x7 l) i (some b):=by
 funext t
 simp only[x7,upd,Ap];by_cases h:t=i<;>simp[h]
theorem a1j(i:Nat)(l:List (Nat × Option Blk)):x7 ((i,none)::l)=upd (x7 l) i none:=by
 funext t
 simp only[x7,upd,Ap];by_cases h:t=i<;>simp[h]
theorem xV(i:Nat)(x:Option Blk)(l:List (Nat × Option Blk)):D0 ((i,x)::l)=upd (D0 l) i true:=by
 funext t
 simp only[D0,upd,Ap];by_cases h:t=i<;>simp[h]
theorem C0(s:LS)(d:Option Nat)(a:A):(s.put d a).st=s.st.put d a:=by
 cases d with
 |none=>rfl
 |some d=>simp only[LS.put,LS.st,St.put,Vi]
theorem Gn(s:LS)(id:Nat)(b:Blk):(s.new id b).st=s.st.new id b:=by simp only[LS.new,LS.st,St.new,XD,xV]
theorem Pg{ms:List (Nat × Option Blk)}{id:Nat}{b:Blk}(h:x7 ms id=some b):D0 ms id=true:=by
 unfold x7 at h;unfold D0;split at h
 ·rename_i b' hb;rw[hb]
 ·cases h
theorem SP{α:Type}(f:Nat→α)(i:Nat)(x:α)(h:f i=x):upd f i x=f:=by
 funext t;unfold upd;split
 ·rename_i e;rw[e,h]
 ·rfl
theorem Ub(s:LS)(id:Nat)(b b':Blk)(h:s.st.mem id=some b'):(s.new id b).st=s.st.setm id b:=by simp only[LS.new,LS.st,St.setm,XD,xV];rw[SP (D0 s.ms) id true (Pg h)]
theorem FU(s:LS)(id:Nat)(b':Blk)(h:s.st.mem id=some b'):(s.del id).st=s.st.del id:=by simp only[LS.del,LS.st,St.del,a1j,xV];rw[SP (D0 s.ms) id true (Pg h)]
def I4:List Prop→Prop
 | []=>True
 |p::l=>p∧I4 l
theorem jH{l r:List Prop}(h:I4 (l++r)):I4 l∧I4 r:=by
 induction l with
 |nil=>exact⟨trivial,h⟩
 |cons p l ih=>exact⟨⟨h.1,(ih h.2).1⟩,(ih h.2).2⟩
def Oo(xs:List (List T))(n:Int)(m:Nat)(el:List T):Prop:=n=(m:Int)∧xs[m]? =some el
def Vr(s:ByteArray)(n:Int)(m:Nat)(b:UInt8):Prop:=n=(m:Int)∧s[m]? =some b
def M4(by_ n:Nat):Prop:=n*by_≤140737488355328∧n≤maxLen
def U1(x y:List (List T)):Prop:=x=y
def Bo(P:Program)(op:BinOp)(ty:TypeId)(x y z:Value):Prop:=jO P op ty x y=some z
inductive x9 where
 |sl(k:Nat)
 |row(id:Nat)
def C3:List (Nat × Nat × x9)→Nat→Nat→Option x9
 | [],_,_=>none
 |(i,j,k)::l,i',j'=>match Nat.beq i i'&&Nat.beq j j' with|true=>some k|false=>C3 l i' j'
def rnm:List (Nat × Nat)→Nat→Option Nat
 | [],_=>none
 |(j,i)::l,j'=>match Nat.beq j j' with|true=>some i|false=>rnm l j'
def Tz:List (Nat × Nat)→Nat→Option Nat
 | [],_=>none
 |(j,i)::l,i'=>match Nat.beq i i' with|true=>some j|false=>Tz l i'
def B5:List Nat→Nat→Bool
 | [],_=>false
 |i::l,j=>match Nat.beq i j with|true=>true|false=>B5 l j
def UF:Option Nat→Bool
 |none=>true
 |some _=>false
def W6(j:Nat):Option Nat→Bool
 |some i=>Nat.beq i j
 |none=>false
def aX:Option Blk→Bool
 |some (.row _ _ [])=>true
 |_=>false
def iY:Option Blk→Bool
 |some _=>true
 |_=>false
def Pd:List (Option Nat)→Bool
 | []=>true
 |none::l=>Pd l
 |some x::l=>(l.all fun y=>!(W6 x y))&&Pd l
structure IOV where
 B:List (Nat × Nat)
 R:List (Nat × Nat)
 F:List Nat
 Z:List (Nat × Nat × Nat)
 N:List (Nat × Nat × x9)
 M:List (Nat × Nat × x9)
 V:List (Nat × Nat)
def O2(v:IOV)(i:Nat):Option Nat:=match Tz v.B i with|some j=>some j|none=>Tz v.R i
def G8(v:IOV)(i:Nat):Nat:=match rnm v.V i with|some j=>j|none=>i
def E4(J:List Nat)(ms:List (Nat × Option Blk))(i:Nat):Option Blk:=match B5 J i with|true=>x7 ms i|false=>none
def ioL(v:IOV)(gm:Nat→Option Blk)(nt:Option x9)(a:A):Option A:=
 match a with
 |.t x=>(match nt,x with
  |some (.sl k),.v (.slice none 0 0)=>some (.t (.sl k []))
  |some (.row id),.v (.slice none 0 0)=>(match B5 (v.Z.map (·.1)) id with|true=>some (.ref id)|false=>none)
  |_,x=>some (.t x))
 |.ref j=>(match rnm v.R j with
  |some i=>some (.ref i)
  |none=>(match B5 v.F j,gm j with|true,some (.row e k xs)=>some (.t (.sl k xs))|_,_=>none))
 |.ptr j o=>(match rnm v.B j with|some i=>some (.ptr i o)|none=>none)
 |.ifc t j o=>(match rnm v.B j with|some i=>some (.ifc t i o)|none=>none)
 |.rptr j p q=>(match rnm v.R j with|some i=>some (.rptr i p q)|none=>none)
 |.ob j=>(match rnm v.R j with|some i=>some (.ob i)|none=>none)
 |.fel x=>some (.fel x)
 |_=>none
def Dd(v:IOV)(gm:Nat→Option Blk)(sp:List (Nat × Nat × x9))(t:Nat):Nat→List A→Option (List A)
 |_,[]=>some []
 |j,a::l=>match ioL v gm (C3 sp t j) a,Dd v gm sp t (j+1) l with|some x,some r=>some (x::r)|_,_=>none
def Il(v:IOV)(gm:Nat→Option Blk)(i:Nat)(a:A):Option A:=
 match a with
 |.agg cs=>(match Dd v gm v.N i 0 cs with|some r=>some (.agg r)|none=>none)
 |a=>ioL v gm (C3 v.N i 0) a
def Ht(v:IOV)(gm:Nat→Option Blk):Nat→List A→Option (List A)
 |_,[]=>some []
 |i,a::l=>match Il v gm i a,Ht v gm (i+1) l with|some x,some r=>some (x::r)|_,_=>none
def ioB(v:IOV)(gm:Nat→Option Blk):List (Nat × Nat)→Option (List (Nat × Blk))
 | []=>some []
 |(j,i)::l=>match gm j with
  |some (.box ty cells)=>(match Dd v gm v.M i 0 cells,ioB v gm l with|some r,some rest=>some ((i,.box ty r)::rest)|_,_=>none)
  |_=>none
def ioR(gm:Nat→Option Blk):List (Nat × Nat)→Option (List (Nat × Blk))
 | []=>some []
 |(j,i)::l=>match gm j with
  |some (.row e k xs)=>(match ioR gm l with|some rest=>some ((i,.row e k xs)::rest)|none=>none)
  |some (.obj od)=>(match ioR gm l with|some rest=>some ((i,.obj od)::rest)|none=>none)
  |_=>none
def ioZ:List (Nat × Nat × Nat)→List (Nat × Blk)
 | []=>[]
 |(i,e,k)::l=>(i,.row e k [])::ioZ l
def tF:Option Blk→Blk→Bool
 |some (.box _ _),.box _ _=>true
 |some (.obj x),.obj y=>(match x.isMap,y.isMap with|true,true=>true|false,false=>true|_,_=>false)
 |_,_=>false
def V9:List Nat→Bool
 | []=>true
 |i::l=>(match B5 l i with|true=>false|false=>true)&&V9 l
def Lj(p:Nat × Blk):List (Nat × Blk)→List (Nat × Blk)
 | []=>[p]
 |q::l=>match Nat.ble p.1 q.1 with|true=>p::q::l|false=>q::Lj p l
def P1:List (Nat × Blk)→List (Nat × Blk)
 | []=>[]
 |p::l=>Lj p (P1 l)
def R7(v:IOV)(J:List Nat)(m:List (Nat × Blk)):Bool:=
 (v.R.all fun p=>W6 p.1 (O2 v p.2)&&iY (look m p.2))&&
 ((v.B.all fun p=>W6 p.1 (O2 v p.2)&&iY (look m p.2))&&
 ((v.Z.all fun p=>UF (O2 v p.1)&&aX (look m p.1)&&Nat.blt 0 p.2.2)&&
 (Pd (m.map fun p=>O2 v p.1)&&
 ((v.F.all fun j=>m.all fun p=>!(W6 j (O2 v p.1)))&&
 (m.all fun p=>match O2 v p.1 with|some j=>B5 J j|none=>true)))))
def Vx(v:IOV)(s:LS)(d:Option Nat)(m m':List (Nat × Blk)):Bool:=
 V9 (m'.map (·.1))&&(V9 (m'.map fun p=>G8 v p.1)&&
 (m'.all fun p=>match R5 p.1 with
  |true=>W6 (G8 v p.1) (O2 v p.1)&&tF (look m p.1) p.2
  |false=>(match D0 s.ms (G8 v p.1)with|true=>false|false=>true)&&(Nat.blt (G8 v p.1) s.n||Nat.ble 1000 (G8 v p.1))&&B5 (Nr d) (G8 v p.1)))
def Hc(v:IOV):List (Nat × Blk)→List (Nat × Option Blk)
 | []=>[]
 |(i,b)::l=>(G8 v i,some (b.ren (G8 v)))::Hc v l
def Ba(ms:List (Nat × Option Blk)):List Nat→List (Nat × Option Blk)
 | []=>[]
 |j::l=>match D0 ms j with|true=>(j,none)::Ba ms l|false=>Ba ms l
def LS.back(s:LS)(v:IOV)(J:List Nat)(m':List (Nat × Blk)):LS:=⟨s.n,s.es,Hc v m'++(Ba s.ms J++s.ms)⟩
inductive Orc where
 |no
 |ix(m:Nat)(el:List T)
 |sx(m:Nat)(b:UInt8)
 |rows(xs:List (List T))
 |set(el:List T)(xs:List (List T))
 |len(n:Nat)
 |dec(b:Bool)
 |val(z:Value)
 |call(nils:List (Nat × Nat × Nat))(r:A)
 |quiet(x:A)
 |makes(e:TypeId)(k:Nat)(ys:List (List T))
 |moves(i:Nat)(b:Blk)
 |sets(i:Nat)(b:Blk)(r:A)
 |io(v:IOV)(r:A)(m':List (Nat × Blk))
 |callv(r:A)
 |newo(od:Od)
 |look(nils:List (Nat × Nat × Nat))(r:A)
def FB(t:Bool)(x y:A):A:=
 match t with
 |true=>x
 |false=>y
def Tb(t:Bool)(x y:Value):Value:=
 match x,y with
 |.bool a,.bool b=>.bool (cond t a b)
 |.int .i64 a,.int .i64 b=>.int .i64 (cond t a b)
 |.int .u8 a,.int .u8 b=>.int .u8 (cond t a b)
 |.string a,.string b=>.string (cond t a b)
 |x,y=>match t with|true=>x|false=>y
theorem SO(t:Bool)(x y:Value):Tb t x y=(match t with|true=>x|false=>y):=by unfold Tb;split<;>cases t<;>rfl
def Rw(t:Bool)(x y:A):A:=
 match x,y with
 |.t (.v a),.t (.v b)=>.t (.v (Tb t a b))
 |x,y=>Jx t x y
theorem YG(t:Bool)(x y:A):Rw t x y=Jx t x y:=by
 unfold Rw;split
 ·rw[SO];cases t<;>rfl
 ·rfl
def Cw(k:Option Nat)(x:A):A:=match k,x with|some k,.t (.v (.slice none 0 0))=>.t (.sl k [])|_,x=>x
def Dl:List (Nat × Nat × Nat)→Nat→Nat→Option Nat
 | [],_,_=>none
 |(i,j,k)::l,i',j'=>match Nat.beq i i'&&Nat.beq j j' with|true=>some k|false=>Dl l i' j'
def Nl(ns:List (Nat × Nat × Nat))(i:Nat):Nat→List A→List A
 |_,[]=>[]
 |j,x::l=>Cw (Dl ns i j) x::Nl ns i (j+1) l
def Mf(ns:List (Nat × Nat × Nat))(i:Nat)(x:A):A:=match x with|.agg cs=>.agg (Nl ns i 0 cs)|x=>Cw (Dl ns i 0) x
def U2(ns:List (Nat × Nat × Nat)):Nat→List A→List A
 |_,[]=>[]
 |i,x::l=>Mf ns i x::U2 ns (i+1) l
theorem HL(k:Option Nat)(x:A)(h:X9 x=true):Er x (Cw k x):=by
 unfold Cw;split
 ·exact .nil _
 ·cases x<;>simp[X9]at h;exact .refl _
theorem JF(ns:List (Nat × Nat × Nat))(i:Nat):∀(l:List A) (j:Nat),l.all X9=true→Ta l (Nl ns i j l)
 | [],_,_=>trivial
 |x::l,j,h=>by simp only[List.all_cons,w8]at h;exact⟨HL _ x h.1,JF ns i l (j+1) h.2⟩
theorem NH{x y:A}(h:Er x y):Cl x y:=by cases x<;>cases y<;>first|exact h|exact h.elim
theorem a1m(ns:List (Nat × Nat × Nat))(i:Nat)(x:A)(h:C4 x=true):Cl x (Mf ns i x):=by
 cases x with
 |agg cs=>exact JF ns i cs 0 h
 |_=>exact NH (HL _ _ h)
theorem uT(ns:List (Nat × Nat × Nat)):∀(l:List A) (i:Nat),(U2 ns i l).length=l.length
 | [],_=>rfl
 |x::l,i=>by simp[U2,uT ns l]
theorem QA(ns:List (Nat × Nat × Nat)):∀(l:List A) (i j:Nat) (h:j<l.length) (h':j<(U2 ns i l).length),l.all C4=true→Cl l[j] (U2 ns i l)[j]
 |x::l,i,0,_,_,ha=>by simp only[List.all_cons,w8]at ha;exact a1m ns i x ha.1
 |x::l,i,j+1,h,h',ha=>by simp only[List.all_cons,w8]at ha;exact QA ns l (i+1) j (by simpa using h) (by simpa[U2]using h') ha.2
theorem a4G{w:World}{M:Nat→Prop}{x y:A}{v:Value}(h:Cl x y)(hr:D4 w M x v):D4 w M y v:=wR h hr
theorem Mo{f:FuncId}{args:List A}{r:A}(ns:List (Nat × Nat × Nat))(ha:args.all C4=true)(h:FnP P f (U2 ns 0 args) r):FnP P f args r:=by refine⟨h.1,fun w X vals hX hsz hargs=>h.2 w X vals hX (by rw[hsz,uT]) fun i hi=>?_⟩;have hi':i<args.length:=(by rw[uT]at hi;exact hi);exact a4G (QA ns args 0 i hi' hi ha) (hargs i hi')
def Lt(s:LS)(q:Orc)(a:A):Option (List Prop):=
 match a with
 |.rptr id i j=>(match x7 s.ms id,q with|some (.row _ _ xs),.ix _ el=>some [xs[i]? =some el]|_,_=>none)
 |a=>match P0 s.st a with|true=>some []|false=>none
theorem WJ{s:LS}{q:Orc}{a:A}{obs:List Prop}(h:Lt s q a=some obs)(ho:I4 obs):P0 s.st a=true:=by
 unfold Lt at h;split at h
 ·rename_i id i j;split at h
  ·rename_i e' k' xs m el hm;cases h;show(match s.st.mem id with|some (.row _ _ xs)=>decide (i<xs.length)|_=>false)=true;rw[show s.st.mem id=some (.row _ _ xs)from hm];have:=ho.1;simp only[decide_eq_true_eq]
   apply Nat.lt_of_not_le
   intro hle;rw[List.getElem?_eq_none hle]at this;cases this
  ·cases h
 ·split at h
  ·rename_i hp;exact hp
  ·cases h
def B1(P:Program)(o:Oper)(q:Orc)(s:LS):Option (List Prop × LS):=
 match o.op with
 |.move x|.assign x=>some ([],s.put o.dst (s.st.ev x))
 |.pick c a b=>match s.st.ev c with
  |.t (.v (.bool t))=>(match q with
   |.dec b'=>some ([t=b'],s.put o.dst (FB b' (s.st.ev a) (s.st.ev b)))
   |_=>some ([],s.put o.dst (Rw t (s.st.ev a) (s.st.ev b))))
  |_=>none
 |.alloc ty=>match o.dst,p8 P ty with|some d,some ti=>(match D0 s.ms d with|false=>some ([],(s.new d (.box ty (ti.zero.map .v))).put (some d) (.ptr d 0))|true=>none)|_,_=>none
 |.box ty x=>match o.dst,cellsOf (s.st.ev x)with|some d,some cs=>(match D0 s.ms d with|false=>some ([],(s.new d (.box ty cs)).put (some d) (.ptr d 0))|true=>none)|_,_=>none
 |.build t parts=>match p8 P t with
  |some ti=>match G3 P t,De ti.fs (ti.zero.map .v) (parts.toList.map fun(i,x)=>(i,s.st.ev x))with|.strct,some cs=>some ([],s.put o.dst (.agg cs))|_,_=>none
  |none=>none
 |.buildSlice t len parts=>match o.dst,p8 P t with
  |some d,some ti=>match ti.elem with
   |some e=>match p8 P e with
    |some te=>match D0 s.ms d,Nat.blt 0 te.size&&Nat.beq parts.size len&&Nat.ble (len*te.size) 16777216,(parts.toList.flatMap fun(_,x)=>D1 (s.st.ev x))with
     |false,true,[]=>(match Au te.size 0 (parts.toList.map fun(i,x)=>(i,s.st.ev x))with
      |some xs=>some ([],(s.new d (.row e te.size xs)).put (some d) (.ref d))
      |none=>none)
     |_,_,_=>none
    |none=>none
   |none=>none
  |_,_=>none
 |.load t a=>match p8 P t with
  |some ti=>
   (match q with
   |.ix m el=>(match s.st.ev a with
    |.rptr id i j=>(match x7 s.ms id,O7 ((el.drop j).map .t) 0 ti.size ti.agg with
     |some (.row _ _ xs),some x=>some ([xs[i]? =some el],s.put o.dst x)
     |_,_=>none)
    |_=>none)
   |_=>match K5 s.st (s.st.ev a) ti with|some x=>some ([],s.put o.dst x)|none=>none)
  |none=>none
 |.store t a x=>match p8 P t,cellsOf (s.st.ev x)with
  |some ti,some cs=>(match Nat.beq cs.length ti.size with
   |true=>(match s.st.ev a with
    |.ptr id off=>(match x7 s.ms id with
     |some (.box ty cells)=>(match Nat.ble (off+cs.length) cells.length with
      |true=>some ([],(s.new id (.box ty (cells.take off++cs++cells.drop (off+cs.length)))).put o.dst .dead)
      |false=>none)
     |_=>none)
    |.rptr id i j=>(match x7 s.ms id,L0 cs,q with
     |some (.row e k xs),some l,.set el ys=>(match Nat.ble (j+l.length) el.length with
      |true=>some ([xs[i]? =some el,U1 (xs.set i (el.take j++l++el.drop (j+l.length))) ys],(s.new id (.row e k ys)).put o.dst .dead)
      |false=>none)
     |_,_,_=>none)
    |_=>none)
   |false=>none)
  |_,_=>none
 |.nilCheck x=>match Lt s q (s.st.ev x)with|some obs=>some (obs,s.put o.dst (s.st.ev x))|none=>none
 |.binOp op ty x y _=>
  match q with
  |.val z=>(match s.st.ev x,s.st.ev y,z.oneCell' with
   |.t (.v x),.t (.v y),true=>some ([Ah P s.st op ty (.t (.v x)) (.t (.v y))=some z],s.put o.dst (.v z))
   |_,_,_=>none)
  |_=>match Ah P s.st op ty (s.st.ev x) (s.st.ev y)with|some z=>(match z.oneCell' with|true=>some ([],s.put o.dst (.v z))|false=>none)|none=>none
 |.unOp op _ x=>match s.st.ev x with
  |.t (.v y)=>(match unF op y with|some z=>(match z.oneCell' with|true=>some ([],s.put o.dst (.v z))|false=>none)|none=>none)
  |_=>none
 |.convert src dst x=>match Mk P src dst (s.st.ev x),p8 P src with|some z,some _=>some ([],s.put o.dst z)|_,_=>none
 |.fieldAddr t x f=>match p8 P t,G3 P t with
  |some ti,.strct=>(match Lt s q (s.st.ev x),Ir ti (s.st.ev x) f with|some obs,some z=>some (obs,s.put o.dst z)|_,_=>none)
  |_,_=>none
 |.field t x f=>match p8 P t,G3 P t with
  |some ti,.strct=>(match Jq ti (s.st.ev x) f with|some z=>some ([],s.put o.dst z)|none=>none)
  |_,_=>none
 |.indexAddr t x i=>match p8 P t with
  |some ti=>match ti.elem with
   |some e=>match p8 P e,P2 s.st (s.st.ev x),s.st.ev i,q with
    |some te,some (k',xs),.t (.v (.int k n)),.ix m el=>(match Nat.beq k' te.size with
     |true=>some ([Oo xs n m el],s.put o.dst (match s.st.ev x with|.ref id=>.rptr id m 0|_=>.fel el))
     |false=>none)
    |_,_,_,_=>none
   |none=>none
  |none=>none
 |.index t x i=>match G3 P t,s.st.ev x,s.st.ev i,q with
  |.str,.t (.v (.string s')),.t (.v (.int k n)),.sx m b=>some ([Vr s' n m b],s.put o.dst (.v (.int .u8 b.toNat)))
  |_,_,_,_=>none
 |.extract x i=>match s.st.ev x with
  |.tup cs=>(match cs[i]? with|some y=>some ([],s.put o.dst y)|none=>none)
  |_=>none
 |.call c=>
  match c.callee,c.args.toList,c.argTypes.toList with
  |.builtin .len,[x],ty::_=>(match q with
   |.len n=>(match G3 P ty,P2 s.st (s.st.ev x)with|.slice,some (k,xs)=>some ([xs.length=n],s.put o.dst (.v (.int .i64 n)))|_,_=>none)
   |_=>match Ck P s.st ty (s.st.ev x)with|some z=>some ([],s.put o.dst (.v z))|none=>none)
  |.builtin .append,[x,y],[t,t']=>(match o.dst,p8 P t,q with
   |some d,some ti,.rows zs=>(match ti.elem with
    |some e=>(match p8 P e,P2 s.st (s.st.ev y)with
     |some te,some (k'',ys)=>(match Nat.beq t t'&&Nat.blt 0 te.size&&Nat.beq k'' te.size,D0 s.ms d with
      |true,false=>
       (match s.st.ev x with
       |.t (.v (.slice none 0 0))=>some ([M4 te.bytes ys.length,U1 ys zs],(s.new d (.row e te.size zs)).put (some d) (.ref d))
       |.ref id=>(match x7 s.ms id with
        |some (.row e' k' xs)=>(match Nat.beq e' e&&Nat.beq k' te.size with
         |true=>some ([M4 te.bytes (xs.length+ys.length),U1 (xs++ys) zs],((s.del id).new d (.row e te.size zs)).put (some d) (.ref d))
         |false=>none)
        |_=>none)
       |_=>none)
      |_,_=>none)
     |_,_=>none)
    |none=>none)
   |_,_,_=>none)
  |.value (.func f),args,_=>(match q with
   |.call ns r=>(match(args.map fun x=>u0 s.st (s.st.ev x)).all C4,(args.map s.st.ev).flatMap D1,N5 r with
    |true,[],_=>some ([FnP P f (U2 ns 0 (args.map fun x=>u0 s.st (s.st.ev x))) r],s.put o.dst r)
    |true,_,true=>some ([FnP P f (U2 ns 0 (args.map fun x=>u0 s.st (s.st.ev x))) r],s.put o.dst r)
    |_,_,_=>none)
   |_=>none)
  |_,_,_=>none
 |_=>none
def L8(P:Program)(o:Oper)(q:Orc)(s:LS):Option (List Prop × LS):=
 match q with
 |.quiet z=>(match(J2 o s.st||N5 z)&&(B9 o s.st).all C4 with|true=>some ([Aj P o (B9 o s.st) z],s.put o.dst z)|false=>none)
 |.makes e k ys=>(match o.dst,J2 o s.st&&Fk o s.st&&(B9 o s.st).all C4 with
  |some d,true=>(match D0 s.ms d with|false=>some ([Ge P o (B9 o s.st) e k ys],(s.new d (.row e k ys)).put (some d) (.ref d))|true=>none)
  |_,_=>none)
 |.moves i b'=>(match o.dst,((opL o.op).map s.st.ev)[i]? with
  |some d,some (.ref id)=>(match x7 s.ms id,D0 s.ms d,Li o i with
   |some b,false,true=>some ([Mq P o i b (((opL o.op).map s.st.ev).set i .dead) b'],((s.del id).new d b').put (some d) (.ref d))
   |_,_,_=>none)
  |_,_=>none)
 |.sets i b' r=>(match((opL o.op).map s.st.ev)[i]? with
  |some y=>(match Aa y with
   | [id]=>(match x7 s.ms id,Gk o with
    |some (.obj od),true=>(match y with|.ob _=>some ([Je P o i (.obj od) (((opL o.op).map s.st.ev).set i .dead) b' r],(s.new id b').put o.dst r)|_=>none)
    |some (.row e k xs),true=>(match y with|.ref _=>some ([Je P o i (.row e k xs) (((opL o.op).map s.st.ev).set i .dead) b' r],(s.new id b').put o.dst r)|_=>none)
    |_,_=>none)
   |_=>none)
  |_=>none)
 |.newo od=>(match o.dst,Ec o&&(J2 o s.st&&(B9 o s.st).all C4)with
  |some d,true=>(match D0 s.ms d with|false=>some ([Ga P o (B9 o s.st) od],(s.new d (.obj od)).put (some d) (.ob d))|true=>none)
  |_,_=>none)
 |.io v r m'=>(match o.op with
  |.call c=>(match c.callee,(c.args.toList.map s.st.ev)with
   |.value (.func f),evs=>
    (match Ht v (E4 (E6 s.st evs) s.ms) 0 evs,ioB v (E4 (E6 s.st evs) s.ms) v.B,ioR (E4 (E6 s.st evs) s.ms) v.R,Jg r&&(Bz evs||(evs.flatMap U0).isEmpty)with
    |some cargs,some bs,some rs,true=>
     (match R7 v (E6 s.st evs) (P1 (bs++rs++ioZ v.Z)),Vx v s o.dst (P1 (bs++rs++ioZ v.Z)) m' with
     |true,true=>some ([T5 P f cargs (P1 (bs++rs++ioZ v.Z)) r m'],(s.back v (E6 s.st evs) m').put o.dst (Bh (G8 v) r))
     |_,_=>none)
    |_,_,_,_=>none)
   |_,_=>none)
  |_=>none)
 |.callv r=>(match o.op with
  |.call c=>(match c.callee with
   |.value x=>(match s.st.ev x with
    |.t t=>(match(c.args.toList.map fun y=>u0 s.st (s.st.ev y)).all C4&&(((c.args.toList.map s.st.ev).flatMap D1).isEmpty||N5 r)with
     |true=>some ([FnC P t (c.args.toList.map fun y=>u0 s.st (s.st.ev y)) r],s.put o.dst r)
     |false=>none)
    |_=>none)
   |_=>none)
  |_=>none)
 |.look ns r=>(match o.op with
  |.call c=>(match c.callee with
   |.value (.func f)=>(match(c.args.toList.map fun y=>P6 s.st (s.st.ev y)).all C4&&N5 r with
    |true=>some ([FnP P f (U2 ns 0 (c.args.toList.map fun y=>P6 s.st (s.st.ev y))) r],s.put o.dst r)
    |false=>none)
   |_=>none)
  |_=>none)
 |q=>B1 P o q s
end
section
open Go.RowKit
variable{P:Program}
theorem La{ρ:Nat→Option Nat}{st:St}{ms:List (Nat × Blk)}{i j:Nat}{b' b:Blk}(h:ρ i=some j)(hb:st.mem j=some b)(hl:leB ρ st ms b b'):leM ρ st ms (i,b'):=by unfold leM;rw[h];exact⟨b,hb,hl⟩
theorem vY{ρ:Nat→Option Nat}{st:St}{ms:List (Nat × Blk)}{i:Nat}{e k:Nat}(h:ρ i=none)(h0:0<k):leM ρ st ms (i,.row e k []):=by unfold leM;rw[h];exact⟨e,k,rfl,h0⟩
theorem V5{j:Nat}{x:Option Nat}(h:W6 j x=true):x=some j:=by
 cases x with
 |none=>cases h
 |some i=>exact congrArg some (Nat.eq_of_beq_eq_true h)
theorem uP(j:Nat):W6 j (some j)=true:=by simp[W6]
theorem Z8:∀{l:List Nat} {j:Nat},B5 l j=true→j∈l
 |i::l,j,h=>by
  unfold B5 at h;split at h
  ·rename_i e;rw[D2 e];exact G0
  ·exact H6 _ (Z8 h)
theorem Ov:∀{R:List (Nat × Nat)} {j i:Nat},rnm R j=some i→(j,i)∈R
 |(a,b)::l,j,i,h=>by
  unfold rnm at h;split at h
  ·rename_i e;cases h;rw[←D2 e];exact G0
  ·exact H6 _ (Ov h)
theorem fQ{ρ:Nat→Option Nat}{st:St}{ms:List (Nat × Blk)}{x y:A}(h:le1 ρ st ms x y):le2 ρ st ms x y:=by cases x<;>cases y<;>first|exact h|exact h.elim
theorem Vq:∀(l:List (Option Nat)),Pd l=true→∀(i j x:Nat),l[i]? =some (some x)→l[j]? =some (some x)→i=j
 | [],_,i,j,x,h1,_=>by simp at h1
 |none::l,h,i,j,x,h1,h2=>by
  cases i with
  |zero=>simp at h1
  |succ i=>cases j with
   |zero=>simp at h2
   |succ j=>simp at h1 h2;rw[Vq l h i j x h1 h2]
 |some y::l,h,i,j,x,h1,h2=>by
  simp only[Pd,w8,List.all_eq_true,Bool.not_eq_true']at h;have no:∀k:Nat,l[k]? =some (some y)→False:=fun k hk=>by have:=h.1 _ (M7 hk);rw[uP]at this;cases this
  cases i with
  |zero=>
   simp at h1;subst h1;cases j with
   |zero=>rfl
   |succ j=>simp at h2;exact(no _ h2).elim
  |succ i=>cases j with
   |zero=>simp at h2;subst h2;simp at h1;exact(no _ h1).elim
   |succ j=>simp at h1 h2;rw[Vq l h.2 i j x h1 h2]
theorem CG:∀{l:List Nat} {j:Nat},j∈l→B5 l j=true
 |i::l,j,h=>by
  unfold B5;split
  ·rfl
  ·rename_i e;rcases F9.1 h with rfl|h
   ·exact absurd rfl (Nj e)
   ·exact CG h
theorem UW(l:List Nat)(j:Nat):B5 l j=l.contains j:=by
 cases h:l.contains j with
 |true=>exact CG (by simpa using h)
 |false=>
  cases h2:B5 l j with
  |false=>rfl
  |true=>have:=Z8 h2;simp at h;exact absurd this h
theorem nC(J:List Nat)(s:LS):E4 J s.ms=(s.st.only J).mem:=by
 funext i
 unfold E4;show _=if J.contains i=true then x7 s.ms i else none
 rw[UW];cases J.contains i<;>rfl
theorem Cq:∀{l:List Nat},V9 l=true→l.Nodup
 | [],_=>List.nodup_nil
 |i::l,h=>by simp only[V9,w8]at h;refine List.nodup_cons.2 ⟨fun hi=>?_,Cq h.2⟩;have h1:=h.1;rw[CG hi]at h1;cases h1
theorem a1I{b:Option Blk}{c:Blk}(h:tF b c=true):∃x,b=some x∧x.alike c∧∀e k xs,x≠ .row e k xs:=by
 unfold tF at h;split at h
 ·exact⟨_,rfl,trivial,fun _ _ _ h=>by cases h⟩
 ·refine⟨_,rfl,?_,fun _ _ _ h=>by cases h⟩;split at h
  ·rename_i h1 h2;show Od.isMap _=Od.isMap _;rw[h1,h2]
  ·rename_i h1 h2;show Od.isMap _=Od.isMap _;rw[h1,h2]
  ·cases h
 ·cases h
section
variable{v:IOV}{s:LS}{J:List Nat}{m:List (Nat × Blk)}
theorem NU(hk:R7 v J m=true){nt:Option x9}{a a':A}(h:ioL v (E4 J s.ms) nt a=some a'):le1 (O2 v) (s.st.only J) m a a':=by
 simp only[R7,w8,List.all_eq_true]at hk;obtain⟨h1,h2,h3,h4,h5,h6⟩:=hk;have renR:∀{j i:Nat},rnm v.R j=some i→O2 v i=some j∧(look m i).isSome=true:=fun{j i} h=>by
  have:=h1 _ (Ov h);refine⟨V5 this.1,?_⟩;have h2:=this.2;cases hl:look m i with
  |none=>rw[hl]at h2;cases h2
  |some b=>rfl
 have renB:∀{j i:Nat},rnm v.B j=some i→O2 v i=some j∧(look m i).isSome=true:=fun{j i} h=>by
  have:=h2 _ (Ov h);refine⟨V5 this.1,?_⟩;have h2:=this.2;cases hl:look m i with
  |none=>rw[hl]at h2;cases h2
  |some b=>rfl
 unfold ioL at h;split at h
 ·split at h
  ·cases h;exact .nil _
  ·split at h
   ·rename_i id hz;cases h;obtain⟨p,hp,hpe⟩:=List.mem_map.1 (Z8 hz);have:=h3 p hp;subst hpe;refine⟨rfl,?_,?_⟩
    ·have h3:=this.1.1;cases hr:O2 v p.1 with
     |none=>rfl
     |some i=>rw[hr]at h3;cases h3
    ·have h3:=this.1.2;unfold aX at h3;split at h3
     ·rename_i e k hl;exact⟨e,k,hl⟩
     ·cases h3
   ·cases h
  ·cases h;exact .refl _
 ·split at h
  ·rename_i j i hr;cases h;exact renR hr
  ·split at h
   ·rename_i j _ e k xs hF hm;cases h;refine⟨e,k,xs,by rw[←nC];exact hm,.refl _,fun p hp hq=>?_⟩;have:=h5 _ (Z8 hF) p hp;rw[hq]at this;simp[uP]at this
   ·cases h
 ·split at h
  ·rename_i j o i hb;cases h;exact⟨(renB hb).1,rfl,(renB hb).2⟩
  ·cases h
 ·split at h
  ·rename_i t0 j o i hb;cases h;exact⟨(renB hb).1,⟨rfl,rfl⟩,(renB hb).2⟩
  ·cases h
 ·split at h
  ·rename_i j p q i hr;cases h;exact⟨(renR hr).1,rfl,rfl,(renR hr).2⟩
  ·cases h
 ·split at h
  ·rename_i j i hr;cases h;exact⟨(renR hr).1,(renR hr).2⟩
  ·cases h
 ·cases h;rfl
 ·cases h
theorem BQ(hk:R7 v J m=true){sp:List (Nat × Nat × x9)}{t:Nat}:∀{l r:List A} {j:Nat},Dd v (E4 J s.ms) sp t j l=some r→Am (O2 v) (s.st.only J) m l r
 | [],r,j,h=>by cases h;trivial
 |a::l,r,j,h=>by
  unfold Dd at h;split at h
  ·rename_i x r' hx hr;cases h;exact⟨NU hk hx,BQ hk hr⟩
  ·cases h
theorem a6E(hk:R7 v J m=true){i:Nat}{a a':A}(h:Il v (E4 J s.ms) i a=some a'):le2 (O2 v) (s.st.only J) m a a':=by
 unfold Il at h;split at h
 ·split at h
  ·rename_i r hr;cases h;exact BQ hk hr
  ·cases h
 ·exact fQ (NU hk h)
theorem NM(hk:R7 v J m=true):∀{l r:List A} {i:Nat},Ht v (E4 J s.ms) i l=some r→Bg (O2 v) (s.st.only J) m l r
 | [],r,i,h=>by cases h;trivial
 |a::l,r,i,h=>by
  unfold Ht at h;split at h
  ·rename_i x r' hx hr;cases h;exact⟨a6E hk hx,NM hk hr⟩
  ·cases h
theorem GQ(hk:R7 v J m=true):∀{B:List (Nat × Nat)} {bs:List (Nat × Blk)},ioB v (E4 J s.ms) B=some bs→(∀p∈B,p∈v.B)→∀p∈bs,leM (O2 v) (s.st.only J) m p
 | [],bs,h,_,p,hp=>by cases h;cases hp
 |(j,i)::l,bs,h,hB,p,hp=>by
  unfold ioB at h;split at h
  ·rename_i ty cells hm;split at h
   ·rename_i r rest hr hrest;cases h;rcases F9.1 hp with rfl|hp
    ·have h3:=hk;simp only[R7,w8,List.all_eq_true]at h3;rw[nC]at hm;exact La (V5 (h3.2.1 _ (hB _ G0)).1) hm ⟨rfl,BQ hk hr⟩
    ·exact GQ hk hrest (fun x hx=>hB x (H6 _ hx)) p hp
   ·cases h
  ·cases h
theorem EP(hk:R7 v J m=true):∀{R:List (Nat × Nat)} {rs:List (Nat × Blk)},ioR (E4 J s.ms) R=some rs→(∀p∈R,p∈v.R)→∀p∈rs,leM (O2 v) (s.st.only J) m p
 | [],rs,h,_,p,hp=>by cases h;cases hp
 |(j,i)::l,rs,h,hR,p,hp=>by
  unfold ioR at h;split at h
  ·rename_i e k xs hm;split at h
   ·rename_i rest hrest;cases h;rcases F9.1 hp with rfl|hp
    ·have h3:=hk;simp only[R7,w8,List.all_eq_true]at h3;rw[nC]at hm;exact La (V5 (h3.1 _ (hR _ G0)).1) hm ⟨rfl,rfl,YN xs⟩
    ·exact EP hk hrest (fun x hx=>hR x (H6 _ hx)) p hp
   ·cases h
  ·rename_i od hm;split at h
   ·rename_i rest hrest;cases h;rcases F9.1 hp with rfl|hp
    ·have h3:=hk;simp only[R7,w8,List.all_eq_true]at h3;rw[nC]at hm;exact La (V5 (h3.1 _ (hR _ G0)).1) hm rfl
    ·exact EP hk hrest (fun x hx=>hR x (H6 _ hx)) p hp
   ·cases h
  ·cases h
theorem JJ(hk:R7 v J m=true):∀{Z:List (Nat × Nat × Nat)},(∀p∈Z,p∈v.Z)→∀p∈ioZ Z,leM (O2 v) (s.st.only J) m p
 | [],_,p,hp=>by cases hp
 |(i,e,k)::l,hZ,p,hp=>by
  rcases F9.1 hp with rfl|hp
  ·have h3:=hk;simp only[R7,w8,List.all_eq_true]at h3;have:=h3.2.2.1 _ (hZ _ G0);have e1:O2 v i=none:=by
    have h4:=this.1.1;cases hr:O2 v i with
    |none=>rfl
    |some x=>rw[hr]at h4;cases h4
   exact vY e1 (Nat.lt_of_succ_le (Nat.le_of_ble_eq_true this.2))
  ·exact JJ hk (fun x hx=>hZ x (H6 _ hx)) p hp
end
theorem kY(l r:List (Nat × Option Blk))(i:Nat):lkM (l++r) i=match lkM l i with|some x=>some x|none=>lkM r i:=by
 induction l with
 |nil=>rfl
 |cons p l ih=>
  obtain⟨j,b⟩:=p;rw[List.cons_append,Ap,Ap];split
  ·rfl
  ·exact ih
theorem vZ(v:IOV)(i:Nat):∀m':List (Nat × Blk),lkM (Hc v m') i=(fnd m' (G8 v) i).map fun p=>some (p.2.ren (G8 v))
 | []=>rfl
 |(j,b)::l=>by rw[Hc,Ap,vZ v i l];show _=(if i=G8 v j then some (j,b)else fnd l (G8 v) i).map _;split<;>rfl
theorem EW(ms:List (Nat × Option Blk))(i:Nat):∀J:List Nat,lkM (Ba ms J) i=if J.contains i=true∧D0 ms i=true then some none else none
 | []=>by simp[Ba,lkM]
 |j::l=>by
  unfold Ba;have ih:=EW ms i l;split
  ·rename_i hj;rw[Ap,ih];by_cases e:i=j
   ·subst e;simp[hj]
   ·simp[e]
  ·rename_i hj;rw[ih];by_cases e:i=j
   ·subst e;simp[hj]
   ·simp[e]
theorem a0j(s:LS)(v:IOV)(J:List Nat)(m':List (Nat × Blk)):(s.back v J m').st=s.st.back J m' (G8 v):=by
 unfold LS.back LS.st St.back;congr 1
 ·funext i
  show x7 (Hc v m'++(Ba s.ms J++s.ms)) i=match fnd m' (G8 v) i with|some p=>some (p.2.ren (G8 v))|none=>if J.contains i then none else x7 s.ms i
  unfold x7;rw[kY,vZ];cases fnd m' (G8 v) i with
  |some p=>rfl
  |none=>
   simp only[Option.map_none];rw[kY,EW];by_cases h1:J.contains i=true
   ·by_cases h2:D0 s.ms i=true
    ·rw[if_pos ⟨h1,h2⟩,if_pos h1]
    ·rw[if_neg (fun h=>h2 h.2),if_pos h1];cases h3:lkM s.ms i with
     |none=>rfl
     |some x=>exact absurd (show D0 s.ms i=true by simp[D0,h3]) h2
   ·rw[if_neg (fun h=>h1 h.1),if_neg h1]
 ·funext i
  show D0 (Hc v m'++(Ba s.ms J++s.ms)) i=match fnd m' (G8 v) i with|some _=>true|none=>D0 s.ms i
  unfold D0;rw[kY,vZ];cases fnd m' (G8 v) i with
  |some p=>rfl
  |none=>
   simp only[Option.map_none];rw[kY,EW];by_cases h2:J.contains i=true∧D0 s.ms i=true
   ·rw[if_pos h2];have:=h2.2;unfold D0 at this;exact this.symm
   ·rw[if_neg h2]
theorem YH{p q:Nat × Blk}:∀{l:List (Nat × Blk)},q∈Lj p l→q=p∨q∈l
 | [],h=>by simp[Lj]at h;exact .inl h
 |r::l,h=>by
  unfold Lj at h;split at h
  ·rcases F9.1 h with h|h
   ·exact .inl h
   ·exact .inr h
  ·rcases F9.1 h with h|h
   ·exact .inr (by rw[h];exact G0)
   ·rcases YH h with h|h
    ·exact .inl h
    ·exact .inr (H6 _ h)
theorem vM{q:Nat × Blk}:∀{l:List (Nat × Blk)},q∈P1 l→q∈l
 | [],h=>h
 |p::l,h=>by
  rcases YH h with h|h
  ·rw[h];exact G0
  ·exact H6 _ (vM h)
theorem BX{d:Option Nat}{v:IOV}{r:A}{m':List (Nat × Blk)}{s:LS}{evs:List A}{f:FuncId}{cargs:List A}{bs rs:List (Nat × Blk)}(ha:Ht v (E4 (E6 s.st evs) s.ms) 0 evs=some cargs)(hb:ioB v (E4 (E6 s.st evs) s.ms) v.B=some bs)(hr:ioR (E4 (E6 s.st evs) s.ms) v.R=some rs)(ht:Jg r=true)(hp:Bz evs=true∨evs.flatMap U0=[])(hok:R7 v (E6 s.st evs) (P1 (bs++rs++ioZ v.Z))=true)(hbk:Vx v s d (P1 (bs++rs++ioZ v.Z)) m'=true)(hf:T5 P f cargs (P1 (bs++rs++ioZ v.Z)) r m')(K:St→Prop)(hK:K ((s.back v (E6 s.st evs) m').put d (Bh (G8 v) r)).st):Xd P f d evs s.st K:=by
 generalize hJ:E6 s.st evs=J at*;have h3:=hok;simp only[R7,w8,List.all_eq_true]at h3;obtain⟨k1,k2,k3,k4,k5,k6⟩:=h3;simp only[Vx,w8,List.all_eq_true]at hbk;obtain⟨b1,b2,b3⟩:=hbk;have inj:∀{α:Type} {l:List α} {g:α→Nat},(l.map g).Nodup→∀p∈l,∀q∈l,g p=g q→p=q:=fun{α l g} hn p hp q hq he=>by obtain⟨i,hi,rfl⟩:=List.getElem_of_mem hp;obtain⟨j,hj,rfl⟩:=List.getElem_of_mem hq;have hi':i<(l.map g).length:=(by simpa using hi);have hj':j<(l.map g).length:=(by simpa using hj);have:=(List.getElem_inj (i:=i) (j:=j) (h₀:=hi') (h₁:=hj') hn).1 (by simpa using he);subst this;rfl
 have hkeys:=inj (Cq b1);have hnu:=inj (Cq b2);refine⟨cargs,_,r,m',O2 v,G8 v,hf,ht,hp,⟨⟨fun p hp=>(by cases hp),fun p hp=>?_,fun p hp q hq j h1 h2=>?_⟩,fun p hp j hj=>?_,fun p hp=>?_,fun p hp q hq he=>by rw[hnu p hp q hq he],fun p hp hpp=>?_,fun p hp hpp=>?_⟩,fun p hp hpp=>?_,by rw[hJ];exact NM hok ha,by rw[hJ,←a0j,←C0];exact hK⟩
 all_goals try rw[hJ]
 ·rcases A7.1 (vM hp)with hp|hp
  ·rcases A7.1 hp with hp|hp
   ·exact GQ hok hb (fun _ h=>h) p hp
   ·exact EP hok hr (fun _ h=>h) p hp
  ·exact JJ hok (fun _ h=>h) p hp
 ·obtain⟨i,hi,rfl⟩:=List.getElem_of_mem hp;obtain⟨i',hi',rfl⟩:=List.getElem_of_mem hq;have:=Vq _ k4 i i' j (by rw[I6,o5 hi,F4,h1]) (by rw[I6,o5 hi',F4,h2]);subst this;rfl
 ·have:=k6 p hp;rw[hj]at this;rw[←UW];exact this
 ·cases hl:look m' p.1 with
  |none=>
   exfalso;have:∀l:List (Nat × Blk),p∈l→look l p.1≠none:=fun l=>by
    induction l with
    |nil=>intro h;cases h
    |cons q l ih=>
     intro h;obtain⟨k,b⟩:=q;unfold look;split
     ·simp
     ·rename_i e;rcases F9.1 h with h|h
      ·exact absurd (by rw[h]) e
      ·exact ih h
   exact this m' hp hl
  |some b=>have:=hkeys p hp _ (R0 hl) rfl;rw[this]
 ·have:=b3 p hp;rw[hpp]at this;simp only[w8]at this;obtain⟨q1,q2⟩:=this;exact⟨V5 q1,a1I q2⟩
 ·have:=b3 p hp;rw[hpp]at this;simp only[w8,Bool.or_eq_true]at this;refine⟨?_,?_⟩
  ·have h1:=this.1.1;show D0 s.ms (G8 v p.1)=false;cases hu:D0 s.ms (G8 v p.1)with
   |false=>rfl
   |true=>rw[hu]at h1;cases h1
  ·rcases this.1.2 with h|h
   ·exact .inl (Nat.lt_of_succ_le (Nat.le_of_ble_eq_true h))
   ·exact .inr (Nat.le_of_ble_eq_true h)
 ·have:=b3 p hp;rw[hpp]at this;simp only[w8]at this;exact Z8 this.2
end
section
open Go.RowKit
variable{P:Program}
theorem b1n{o:Oper}{q:Orc}{s s':LS}{obs:List Prop}(h:B1 P o q s=some (obs,s'))(ho:I4 obs)(K:St→Prop)(hK:K s'.st):Al P o s.st K:=by
 unfold B1 at h;split at h
 ·rename_i x e;cases h;refine L5 ?_;unfold J7;simp only[e];rw[←C0];exact hK
 ·rename_i x e;cases h;refine L5 ?_;unfold J7;simp only[e];rw[←C0];exact hK
 ·rename_i c x y e;refine L5 ?_;unfold J7;simp only[e];split at h
  ·rename_i t ht;split at h
   ·rename_i b';cases h;have e1:t=b':=ho.1;subst e1;rw[ht];simp only;rw[←C0];have:Jx t (s.st.ev x) (s.st.ev y)=FB t (s.st.ev x) (s.st.ev y):=(by cases t<;>rfl);rw[this];exact hK
   ·cases h;rw[ht];simp only;rw[←YG,←C0];exact hK
  ·cases h
 ·rename_i ty e;refine L5 ?_;unfold J7;simp only[e];split at h
  ·rename_i d ti hd hti;split at h
   ·rename_i hu;cases h;rw[hd,hti];simp only;exact⟨hu,by rw[←Gn,←C0];exact hK⟩
   ·cases h
  ·cases h
 ·rename_i ty x e;refine L5 ?_;unfold J7;simp only[e];split at h
  ·rename_i d cs hd hcs;split at h
   ·rename_i hu;cases h;rw[hd,hcs];simp only;exact⟨hu,by rw[←Gn,←C0];exact hK⟩
   ·cases h
  ·cases h
 ·rename_i t parts e;refine L5 ?_;unfold J7;simp only[e];split at h
  ·rename_i ti hti;split at h
   ·rename_i cs hk hf;cases h;rw[hti];simp only;rw[hk,hf];simp only;rw[←C0];exact hK
   ·cases h
  ·cases h
 ·rename_i t len parts e;refine L5 ?_;unfold J7;simp only[e];split at h
  ·rename_i d ti hd hti;split at h
   ·rename_i el hel;split at h
    ·rename_i te hte;split at h
     ·rename_i hu hb hr;split at h
      ·rename_i xs hxs;cases h;rw[hd,hti];simp only;rw[hel];simp only;rw[hte];simp only;simp only[w8]at hb;refine⟨hu,Nat.lt_of_succ_le (Nat.le_of_ble_eq_true hb.1.1),Nat.eq_of_beq_eq_true hb.1.2,Nat.le_of_ble_eq_true hb.2,?_⟩;rw[hr];show(match Au te.size 0 (parts.toList.map fun(i,x)=>(i,s.st.ev x))with|some xs=>_|none=>False);rw[hxs];simp only[St.frzs];rw[←Gn,←C0];exact hK
      ·cases h
     ·cases h
    ·cases h
   ·cases h
  ·cases h
 ·rename_i t x e;refine L5 ?_;unfold J7;simp only[e];split at h
  ·rename_i ti hti;split at h
   ·rename_i m el;split at h
    ·rename_i id i j ha;split at h
     ·rename_i e' k xs y hm hy;cases h;rw[hti];simp only;have:K5 s.st (s.st.ev x) ti=some y:=by rw[ha];show(match s.st.mem id with|some (.row _ _ xs)=>(xs[i]?).bind fun el=>O7 ((el.drop j).map .t) 0 ti.size ti.agg|_=>none)=_;rw[show s.st.mem id=some (.row e' k xs)from hm];simp only;rw[show xs[i]? =some el from ho.1];exact hy
      rw[this];simp only;rw[←C0];exact hK
     ·cases h
    ·cases h
   ·split at h
    ·rename_i y hy;cases h;rw[hti];simp only;rw[hy];simp only;rw[←C0];exact hK
    ·cases h
  ·cases h
 ·rename_i t x y e;split at h
  ·rename_i ti cs hti hcs;split at h
   ·rename_i hsz;have hsz:=Nat.eq_of_beq_eq_true hsz;split at h
    ·rename_i id off ha;split at h
     ·rename_i ty cells hm;split at h
      ·rename_i hle;cases h;refine L5 ?_;unfold J7;simp only[e];rw[hti,hcs];simp only;refine⟨hsz,?_⟩;rw[ha];simp only;rw[show s.st.mem id=some (.box ty cells)from hm];simp only;refine⟨Nat.le_of_ble_eq_true hle,?_⟩;rw[←Ub s id _ _ hm,←C0];exact hK
      ·cases h
     ·cases h
    ·rename_i id i j ha;split at h
     ·rename_i e' k xs l el ys hm hl;split at h
      ·rename_i hle;cases h;obtain⟨h2,h3,_⟩:=ho;refine L5 ?_;unfold J7;simp only[e];rw[hti,hcs];simp only;refine⟨hsz,?_⟩;rw[ha];simp only;rw[show s.st.mem id=some (.row e' k xs)from hm,hl];simp only;refine⟨el,h2,Nat.le_of_ble_eq_true hle,?_⟩;rw[show xs.set i (el.take j++l++el.drop (j+l.length))=ys from h3,←Ub s id _ _ hm,←C0];exact hK
      ·cases h
     ·cases h
    ·cases h
   ·cases h
  ·cases h
 ·rename_i x e;refine L5 ?_;unfold J7;simp only[e];split at h
  ·rename_i ob hp;cases h;exact⟨WJ hp ho,by rw[←C0];exact hK⟩
  ·cases h
 ·rename_i op ty x y ty2 e;split at h
  ·rename_i z;split at h
   ·rename_i a b hx hy hz;cases h;refine L5 ?_;unfold J7;simp only[e];rw[hx,hy,show Ah P s.st op ty (.t (.v a)) (.t (.v b))=some z from ho.1];exact⟨hz,by rw[←C0];exact hK⟩
   ·cases h
  ·split at h
   ·rename_i z hz;split at h
    ·rename_i h1;cases h;refine L5 ?_;unfold J7;simp only[e];rw[hz];exact⟨h1,by rw[←C0];exact hK⟩
    ·cases h
   ·cases h
 ·rename_i op ty x e;refine L5 ?_;unfold J7;simp only[e];split at h
  ·rename_i y hy;split at h
   ·rename_i z hz;split at h
    ·rename_i h1;cases h;rw[hy];simp only;rw[hz];exact⟨h1,by rw[←C0];exact hK⟩
    ·cases h
   ·cases h
  ·cases h
 ·rename_i src dst x e;split at h
  ·rename_i z ti hz hti;cases h;refine L5 ?_;unfold J7;simp only[e];rw[hz];exact⟨by rw[hti];rfl,by rw[←C0];exact hK⟩
  ·cases h
 ·rename_i t x f e;refine L5 ?_;unfold J7;simp only[e];split at h
  ·rename_i ti hti hk;split at h
   ·rename_i ob z hp hz;cases h;rw[hti,hk];simp only;refine⟨WJ hp ho,?_⟩;rw[hz];simp only;rw[←C0];exact hK
   ·cases h
  ·cases h
 ·rename_i t x f e;refine L5 ?_;unfold J7;simp only[e];split at h
  ·rename_i ti hti hk;split at h
   ·rename_i z hz;cases h;rw[hti,hk];simp only;rw[hz];simp only;rw[←C0];exact hK
   ·cases h
  ·cases h
 ·rename_i t x i e;refine L5 ?_;unfold J7;simp only[e];split at h
  ·rename_i ti hti;split at h
   ·rename_i el hel;split at h
    ·rename_i te k' xs k n m el' hte hl hi;split at h
     ·rename_i hk;cases h;rw[hti];simp only;rw[hel];simp only;rw[hte,hl,hi];simp only;obtain⟨⟨h1,h2⟩,_⟩:=ho;exact⟨Nat.eq_of_beq_eq_true hk,m,el',h1,h2,by rw[C0]at hK;exact hK⟩
     ·cases h
    ·cases h
   ·cases h
  ·cases h
 ·rename_i t x i e;refine L5 ?_;unfold J7;simp only[e];split at h
  ·rename_i s' k n m b hk hx hi;cases h;rw[hk,hx,hi];simp only;obtain⟨⟨h1,h2⟩,_⟩:=ho;exact⟨m,b,h1,h2,by rw[C0]at hK;exact hK⟩
  ·cases h
 ·rename_i x i e;refine L5 ?_;unfold J7;simp only[e];split at h
  ·rename_i cs hx;split at h
   ·rename_i y hy;cases h;rw[hx];simp only;rw[hy];simp only;rw[←C0];exact hK
   ·cases h
  ·cases h
 ·rename_i c e;obtain⟨callee,args,ts⟩:=c
  dsimp only at h
  split at h
  ·rename_i x ty tl ha hts;refine L5 ?_;unfold J7;simp only[e,ha,hts];split at h
   ·rename_i n;split at h
    ·rename_i k xs hk hl;cases h;have:Ck P s.st ty (s.st.ev x)=some (.int .i64 n):=by unfold Ck;rw[hk];simp only;rw[hl,F4,←show xs.length=n from ho.1]
     rw[this];simp only;rw[←C0];exact hK
    ·cases h
   ·split at h
    ·rename_i z hz;cases h;rw[hz];simp only;rw[←C0];exact hK
    ·cases h
  ·rename_i x y t t' ha hts;split at h
   ·rename_i d ti zs hd hti;split at h
    ·rename_i el hel;split at h
     ·rename_i te k'' ys hte hl;split at h
      ·rename_i hb hu;simp only[w8]at hb;have h1:=Nat.eq_of_beq_eq_true hb.1.1;have h2:=Nat.lt_of_succ_le (Nat.le_of_ble_eq_true hb.1.2);have h3:=Nat.eq_of_beq_eq_true hb.2;split at h
       ·rename_i hx;cases h;obtain⟨h4,h5,_⟩:=ho;refine L5 ?_;unfold J7;simp only[e,ha,hts,hd,hti,hel,hte,hl,hx];refine⟨h1,h2,hu,.inr h3,h4.1,h4.2,?_⟩;rw[show ys=zs from h5,←Gn,←C0];exact hK
       ·rename_i id hx;split at h
        ·rename_i e' k' xs hm;split at h
         ·rename_i hb2;simp only[w8]at hb2;have h6:=Nat.eq_of_beq_eq_true hb2.1;have h7:=Nat.eq_of_beq_eq_true hb2.2;cases h;obtain⟨h4,h5,_⟩:=ho;refine L5 ?_;unfold J7;simp only[e,ha,hts,hd,hti,hel,hte,hl,hx];refine⟨h1,h2,hu,.inr h3,?_⟩;rw[show s.st.mem id=some (.row e' k' xs)from hm];simp only;refine⟨h6,h7,h4.1,h4.2,?_⟩;rw[show xs++ys=zs from h5,←FU s id _ hm,←Gn,←C0];exact hK
         ·cases h
        ·cases h
       ·cases h
      ·cases h
     ·cases h
    ·cases h
   ·cases h
  ·rename_i f _ _;split at h
   ·rename_i ns r;refine L5 ?_;unfold J7;simp only[e];split at h
    ·rename_i hf hr;cases h;refine .inl ⟨r,Mo ns hf ho.1,hf,.inr ?_⟩;rw[hr];simp only[St.frzs];rw[←C0];exact hK
    ·rename_i hf hs _;cases h;exact .inl ⟨r,Mo ns hf ho.1,hf,.inl ⟨hs,by rw[←C0];exact hK⟩⟩
    ·cases h
   ·cases h
  ·cases h
 ·cases h
theorem LL{o:Oper}{q:Orc}{s s':LS}{obs:List Prop}(h:L8 P o q s=some (obs,s'))(ho:I4 obs)(K:St→Prop)(hK:K s'.st):Al P o s.st K:=by
 unfold L8 at h;split at h
 ·rename_i z;split at h
  ·rename_i hz;cases h;simp only[w8,Bool.or_eq_true]at hz;exact .inr (.inl ⟨hz.2,.inl ⟨z,ho.1,hz.1.symm,by rw[←C0];exact hK⟩⟩)
  ·cases h
 ·rename_i e' k ys;split at h
  ·rename_i d hd hb;split at h
   ·rename_i hu;cases h;simp only[w8]at hb;exact .inr (.inl ⟨hb.2,.inr ⟨d,e',k,ys,hd,hu,ho.1,hb.1,by rw[hd,←Gn,←C0];exact hK⟩⟩)
   ·cases h
  ·cases h
 ·rename_i i b';split at h
  ·rename_i d id hd hi;split at h
   ·rename_i b hb hu hmv;cases h;exact .inr (.inr (.inl (.inl ⟨i,b,_,b',id,d,hmv,hd,hi,rfl,hb,hu,ho.1,by rw[hd,←FU s id b hb,←Gn,←C0];exact hK⟩)))
   ·cases h
  ·cases h
 ·rename_i i b' r;split at h
  ·rename_i y hi;split at h
   ·rename_i id hy;split at h
    ·rename_i od hb hmv;split at h
     ·rename_i q;cases h;simp only[Aa,List.cons.injEq,and_true]at hy;subst hy;exact .inr (.inr (.inl (.inr (.inl ⟨i,.obj od,_,b',r,_,hmv,hi,rfl,hb,Pg hb,ho.1,by rw[←Ub s _ _ _ hb,←C0];exact hK⟩))))
     ·cases h
    ·rename_i e k xs hb hmv;split at h
     ·rename_i q;cases h;simp only[Aa,List.cons.injEq,and_true]at hy;subst hy;exact .inr (.inr (.inl (.inr (.inl ⟨i,.row e k xs,_,b',r,_,hmv,hi,rfl,hb,Pg hb,ho.1,by rw[←Ub s _ _ _ hb,←C0];exact hK⟩))))
     ·cases h
    ·cases h
   ·cases h
  ·cases h
 ·rename_i od;split at h
  ·rename_i d hd hg;split at h
   ·rename_i hu;cases h;simp only[w8]at hg;exact .inr (.inr (.inl (.inr (.inr ⟨od,d,hg.1,hd,hu,hg.2.1,hg.2.2,ho.1,by rw[hd,←Gn,←C0];exact hK⟩))))
   ·cases h
  ·cases h
 ·rename_i v r m';split at h
  ·rename_i c ho';split at h
   ·rename_i f hc;split at h
    ·rename_i cargs bs rs ha hb hr hg;split at h
     ·rename_i hok hbk;cases h;simp only[w8,Bool.or_eq_true,List.isEmpty_iff]at hg;obtain⟨callee,args,ts⟩:=c
      dsimp only at hc
      subst hc
      left
      unfold B3;simp only[ho'];exact .inr (BX ha hb hr hg.1 hg.2 hok hbk ho.1 K hK)
     ·cases h
    ·cases h
   ·cases h
  ·cases h
 ·rename_i r;split at h
  ·rename_i c ho';split at h
   ·rename_i x hc;split at h
    ·rename_i t hx;split at h
     ·rename_i hg;cases h;simp only[w8,Bool.or_eq_true,List.isEmpty_iff]at hg;exact .inr (.inr (.inr (.inl ⟨c,x,t,r,ho',hc,hx,ho.1,hg.1,hg.2.symm,by rw[←C0];exact hK⟩)))
     ·cases h
    ·cases h
   ·cases h
  ·cases h
 ·rename_i ns r;split at h
  ·rename_i c hc;split at h
   ·rename_i f hf;split at h
    ·rename_i hk;cases h;simp only[w8]at hk;exact .inr (.inr (.inr (.inr ⟨c,f,r,hc,hf,Mo ns hk.1 ho.1,hk.1,hk.2,by rw[←C0];exact hK⟩)))
    ·cases h
   ·cases h
  ·cases h
 ·exact b1n h ho K hK
end
section
open Go.RowKit
variable{P:Program}
structure CV where
 G:List Nat
 N:List (Nat × Nat × x9)
 B:List Nat
 M:List (Nat × Nat × x9)
 R:List (Nat × Nat)
 F:List Nat
 Z:List (Nat × Nat × Nat)
def rho(R:List (Nat × Nat))(i:Nat):Option Nat:=match Nat.blt i 1000 with|true=>some i|false=>Tz R i
def K8(v:CV)(ms:List (Nat × Option Blk))(nt:Option x9)(a:A):Option A:=
 match a with
 |.t x=>(match nt,x with
  |some (.sl k),.v (.slice none 0 0)=>some (.t (.sl k []))
  |some (.row id),.v (.slice none 0 0)=>(match B5 (v.Z.map (·.1)) id with|true=>some (.ref id)|false=>none)
  |_,x=>some (.t x))
 |.ref j=>(match rnm v.R j with
  |some i=>some (.ref i)
  |none=>(match B5 v.F j,x7 ms j with|true,some (.row e k xs)=>some (.t (.sl k xs))|_,_=>none))
 |.ptr j o=>(match B5 v.B j with|true=>some (.ptr j o)|false=>none)
 |.ifc t j o=>(match B5 v.B j with|true=>some (.ifc t j o)|false=>none)
 |.rptr j p q=>(match rnm v.R j with|some i=>some (.rptr i p q)|none=>none)
 |.ob j=>(match rnm v.R j with|some i=>some (.ob i)|none=>none)
 |.fel x=>some (.fel x)
 |_=>none
def U5(v:CV)(ms:List (Nat × Option Blk))(sp:List (Nat × Nat × x9))(t:Nat):Nat→List A→Option (List A)
 |_,[]=>some []
 |j,a::l=>match K8 v ms (C3 sp t j) a,U5 v ms sp t (j+1) l with|some x,some r=>some (x::r)|_,_=>none
def Pa(v:CV)(ms:List (Nat × Option Blk))(t:Nat)(a:A):A:=
 match a with
 |.agg cs=>(match U5 v ms v.N t 0 cs with|some r=>.agg r|none=>.dead)
 |.tup cs=>(match U5 v ms v.N t 0 cs with|some r=>.tup r|none=>.dead)
 |a=>(match K8 v ms (C3 v.N t 0) a with|some x=>x|none=>.dead)
def Kq(v:CV)(s:LS):List Nat→List (Nat × A)
 | []=>[]
 |t::l=>(t,Pa v s.ms t (lkE s.es t))::Kq v s l
def Ft(v:CV)(ms:List (Nat × Option Blk)):List Nat→Option (List (Nat × Blk))
 | []=>some []
 |b::l=>match x7 ms b with
  |some (.box ty cells)=>(match U5 v ms v.M b 0 cells,Ft v ms l with|some r,some rest=>some ((b,.box ty r)::rest)|_,_=>none)
  |_=>none
def Av(ms:List (Nat × Option Blk)):List (Nat × Nat)→Option (List (Nat × Blk))
 | []=>some []
 |(j,i)::l=>match x7 ms j with
  |some (.row e k xs)=>(match Av ms l with|some rest=>some ((i,.row e k xs)::rest)|none=>none)
  |some (.obj od)=>(match Av ms l with|some rest=>some ((i,.obj od)::rest)|none=>none)
  |_=>none
def K4:List (Nat × Nat × Nat)→List (Nat × Blk)
 | []=>[]
 |(i,e,k)::l=>(i,.row e k [])::K4 l
def R4:List (Nat × Blk)→List (Nat × Option Blk)
 | []=>[]
 |(i,b)::l=>(i,some b)::R4 l
def P8(v:CV)(ms':List (Nat × Blk)):Bool:=
 (v.R.all fun p=>W6 p.1 (rho v.R p.2)&&iY (look ms' p.2))&&
 ((v.Z.all fun p=>UF (rho v.R p.1)&&aX (look ms' p.1)&&Nat.blt 0 p.2.2)&&
 ((v.B.all fun b=>Nat.blt b 1000&&iY (look ms' b))&&
 (Pd (ms'.map fun p=>rho v.R p.1)&&
 (v.F.all fun j=>ms'.all fun p=>!(W6 j (rho v.R p.1))))))
def nH(v:CV)(s:LS):Option LS:=
 match Ft v s.ms v.B,Av s.ms v.R with
 |some bs,some rs=>
  (match P8 v (bs++rs++K4 v.Z)with
  |true=>some ⟨s.n,Kq v s v.G,R4 (bs++rs++K4 v.Z)⟩
  |false=>none)
 |_,_=>none
theorem sE(ms:List (Nat × Blk))(i:Nat):x7 (R4 ms) i=look ms i∧D0 (R4 ms) i=(look ms i).isSome:=by
 have:∀ms:List (Nat × Blk),lkM (R4 ms) i=(look ms i).map some:=fun ms=>by
  induction ms with
  |nil=>rfl
  |cons p l ih=>obtain⟨j,b⟩:=p;show lkM ((j,some b)::R4 l) i=_;rw[Ap,ih];show _=(if i=j then some b else look l i).map some;split<;>rfl
 unfold x7 D0;rw[this];cases look ms i<;>simp
theorem XP:∀(es:List (Nat × A)) (t:Nat),lkE es t=(look es t).getD .dead
 | [],t=>rfl
 |(i,x)::l,t=>by
  rw[Vi];unfold look upd;split
  ·rfl
  ·exact XP l t
theorem BN(n:Nat)(es:List (Nat × A))(ms:List (Nat × Blk)):(LS.mk n es (R4 ms)).st=O5 n es ms:=by
 unfold LS.st O5;congr 1
 ·funext t;exact XP es t
 ·funext t;exact(sE ms t).1
 ·funext t;exact(sE ms t).2
section
variable{v:CV}{s:LS}{ms':List (Nat × Blk)}
theorem lV(hk:P8 v ms'=true){nt:Option x9}{a a':A}(h:K8 v s.ms nt a=some a'):le1 (rho v.R) s.st ms' a a':=by
 simp only[P8,w8,List.all_eq_true]at hk;obtain⟨h1,h2,h3,h4,h5⟩:=hk;have ren:∀{j i:Nat},rnm v.R j=some i→rho v.R i=some j∧(look ms' i).isSome=true:=fun{j i} h=>by
  have:=h1 _ (Ov h);refine⟨V5 this.1,?_⟩;have h2:=this.2;cases hl:look ms' i with
  |none=>rw[hl]at h2;cases h2
  |some b=>rfl
 unfold K8 at h;split at h
 ·split at h
  ·cases h;exact .nil _
  ·split at h
   ·rename_i id hz;cases h;obtain⟨p,hp,hpe⟩:=List.mem_map.1 (Z8 hz);have:=h2 p hp;subst hpe;refine⟨rfl,?_,?_⟩
    ·have h3:=this.1.1;cases hr:rho v.R p.1 with
     |none=>rfl
     |some i=>rw[hr]at h3;cases h3
    ·have h3:=this.1.2;unfold aX at h3;split at h3
     ·rename_i e k hl;exact⟨e,k,hl⟩
     ·cases h3
   ·cases h
  ·cases h;exact .refl _
 ·split at h
  ·rename_i j i hr;cases h;exact ren hr
  ·split at h
   ·rename_i j _ e k xs hF hm;cases h;refine⟨e,k,xs,hm,.refl _,fun p hp hq=>?_⟩;have:=h5 _ (Z8 hF) p hp;rw[hq]at this;simp[uP]at this
   ·cases h
 ·rename_i j o;split at h
  ·rename_i hb;cases h;have:=h3 _ (Z8 hb);refine⟨?_,rfl,?_⟩
   ·unfold rho;rw[this.1]
   ·cases hl:look ms' j with
    |none=>rw[hl]at this;cases this.2
    |some b=>rfl
  ·cases h
 ·rename_i t0 j o;split at h
  ·rename_i hb;cases h;have:=h3 _ (Z8 hb);refine⟨?_,⟨rfl,rfl⟩,?_⟩
   ·unfold rho;rw[this.1]
   ·cases hl:look ms' j with
    |none=>rw[hl]at this;cases this.2
    |some b=>rfl
  ·cases h
 ·split at h
  ·rename_i j p q i hr;cases h;exact⟨(ren hr).1,rfl,rfl,(ren hr).2⟩
  ·cases h
 ·split at h
  ·rename_i j i hr;cases h;exact⟨(ren hr).1,(ren hr).2⟩
  ·cases h
 ·cases h;rfl
 ·cases h
theorem Oa(hk:P8 v ms'=true){sp:List (Nat × Nat × x9)}{t:Nat}:∀{l r:List A} {j:Nat},U5 v s.ms sp t j l=some r→Am (rho v.R) s.st ms' l r
 | [],r,j,h=>by cases h;trivial
 |a::l,r,j,h=>by
  unfold U5 at h;split at h
  ·rename_i x r' hx hr;cases h;exact⟨lV hk hx,Oa hk hr⟩
  ·cases h
theorem a0r{ρ:Nat→Option Nat}{st:St}{ms:List (Nat × Blk)}{x y:A}(h:le2 ρ st ms x y):leA ρ st ms x y:=by
 cases y with
 |dead=>cases x<;>trivial
 |tup ds=>cases x<;>exact h.elim
 |_=>exact h
theorem a4L(hk:P8 v ms'=true){t:Nat}(a:A):leA (rho v.R) s.st ms' a (Pa v s.ms t a):=by
 unfold Pa;split
 ·split
  ·rename_i r hr;exact Oa hk hr
  ·trivial
 ·split
  ·rename_i r hr;exact Oa hk hr
  ·trivial
 ·split
  ·rename_i x hx;exact a0r (fQ (lV hk hx))
  ·cases a<;>trivial
theorem YD(hk:P8 v ms'=true):∀(G:List Nat),∀p∈Kq v s G,leA (rho v.R) s.st ms' (s.st.env p.1) p.2
 | [],p,h=>by cases h
 |t::l,p,h=>by
  rcases F9.1 h with rfl|h
  ·exact a4L hk _
  ·exact YD hk l p h
theorem DJ(hk:P8 v ms'=true):∀{B:List Nat} {bs:List (Nat × Blk)},Ft v s.ms B=some bs→(∀b∈B,b∈v.B)→∀p∈bs,leM (rho v.R) s.st ms' p
 | [],bs,h,_,p,hp=>by cases h;cases hp
 |b::l,bs,h,hB,p,hp=>by
  unfold Ft at h;split at h
  ·rename_i ty cells hm;split at h
   ·rename_i r rest hr hrest;cases h;rcases F9.1 hp with rfl|hp
    ·have hb:=hB b G0;have h3:=hk;simp only[P8,w8,List.all_eq_true]at h3;have:=h3.2.2.1 b hb;have e:rho v.R b=some b:=(by unfold rho;rw[this.1]);exact La e hm ⟨rfl,Oa hk hr⟩
    ·exact DJ hk hrest (fun x hx=>hB x (H6 _ hx)) p hp
   ·cases h
  ·cases h
theorem mC(hk:P8 v ms'=true):∀{R:List (Nat × Nat)} {rs:List (Nat × Blk)},Av s.ms R=some rs→(∀p∈R,p∈v.R)→∀p∈rs,leM (rho v.R) s.st ms' p
 | [],rs,h,_,p,hp=>by cases h;cases hp
 |(j,i)::l,rs,h,hR,p,hp=>by
  unfold Av at h;split at h
  ·rename_i e k xs hm;split at h
   ·rename_i rest hrest;cases h;rcases F9.1 hp with rfl|hp
    ·have h3:=hk;simp only[P8,w8,List.all_eq_true]at h3;exact La (V5 (h3.1 _ (hR _ G0)).1) hm ⟨rfl,rfl,YN xs⟩
    ·exact mC hk hrest (fun x hx=>hR x (H6 _ hx)) p hp
   ·cases h
  ·rename_i od hm;split at h
   ·rename_i rest hrest;cases h;rcases F9.1 hp with rfl|hp
    ·have h3:=hk;simp only[P8,w8,List.all_eq_true]at h3;exact La (V5 (h3.1 _ (hR _ G0)).1) hm rfl
    ·exact mC hk hrest (fun x hx=>hR x (H6 _ hx)) p hp
   ·cases h
  ·cases h
theorem vK(hk:P8 v ms'=true):∀{Z:List (Nat × Nat × Nat)},(∀p∈Z,p∈v.Z)→∀p∈K4 Z,leM (rho v.R) s.st ms' p
 | [],_,p,hp=>by cases hp
 |(i,e,k)::l,hZ,p,hp=>by
  rcases F9.1 hp with rfl|hp
  ·have h3:=hk;simp only[P8,w8,List.all_eq_true]at h3;have:=h3.2.1 _ (hZ _ G0);have e1:rho v.R i=none:=by
    have h4:=this.1.1;cases hr:rho v.R i with
    |none=>rfl
    |some x=>rw[hr]at h4;cases h4
   exact vY e1 (Nat.lt_of_succ_le (Nat.le_of_ble_eq_true this.2))
  ·exact vK hk (fun x hx=>hZ x (H6 _ hx)) p hp
theorem b3C{s':LS}(h:nH v s=some s'):S0 s.st s'.st:=by
 unfold nH at h;split at h
 ·rename_i bs rs hb hr;split at h
  ·rename_i hk;cases h;rw[BN];refine IE (fun i hi=>?_) ⟨YD hk v.G,fun p hp=>?_,fun p hp q hq j h1 h2=>?_⟩
   ·unfold rho;rw[show Nat.blt i 1000=true from Nat.ble_eq_true_of_le hi]
   ·rcases A7.1 hp with hp|hp
    ·rcases A7.1 hp with hp|hp
     ·exact DJ hk hb (fun _ h=>h) p hp
     ·exact mC hk hr (fun _ h=>h) p hp
    ·exact vK hk (fun _ h=>h) p hp
   ·have h3:=hk;simp only[P8,w8,List.all_eq_true]at h3;obtain⟨i,hi,rfl⟩:=List.getElem_of_mem hp;obtain⟨i',hi',rfl⟩:=List.getElem_of_mem hq;have:=Vq _ h3.2.2.2.1 i i' j (by rw[I6,o5 hi,F4,h1]) (by rw[I6,o5 hi',F4,h2]);subst this;rfl
  ·cases h
 ·cases h
end
end
section
open Go.RowKit
variable{P:Program}
def LS.subst(s:LS)(id:Nat)(x:T):LS:=⟨s.n,s.es.map (fun p=>(p.1,sub3 id x p.2)),(id,none)::s.ms.map fun p=>(p.1,p.2.map (Blk.sub id x))⟩
def LS.frz(s:LS)(id:Nat):LS:=
 match x7 s.ms id with
 |some (.row _ k xs)=>s.subst id (.sl k xs)
 |some (.box _ cs)=>(match L0 cs with|some ts=>s.subst id (.fp ts)|none=>s)
 |_=>s
def LS.frzs(s:LS):List Nat→LS
 | []=>s
 |id::l=>(s.frz id).frzs l
theorem FV(g:A→A)(hg:g .dead=.dead)(t:Nat):∀es:List (Nat × A),lkE (es.map fun p=>(p.1,g p.2)) t=g (lkE es t)
 | []=>hg.symm
 |(i,x)::l=>by
  show lkE ((i,g x)::l.map _) t=_;rw[Vi,Vi];unfold upd;split
  ·rfl
  ·exact FV g hg t l
theorem DZ(g:Blk→Blk)(t:Nat):∀ms:List (Nat × Option Blk),lkM (ms.map fun p=>(p.1,p.2.map g)) t=(lkM ms t).map fun b=>b.map g
 | []=>rfl
 |(i,x)::l=>by show lkM ((i,x.map g)::l.map _) t=_;rw[Ap,Ap,DZ g t l];split<;>rfl
theorem FL(s:LS)(id:Nat)(x:T)(hu:D0 s.ms id=true):(s.subst id x).st=s.st.sub id x:=by
 show St.mk _ _ _ _=St.mk _ _ _ _;congr 1
 ·funext t;exact FV _ rfl t s.es
 ·funext i
  show x7 ((id,none)::_) i=if i=id then none else(x7 s.ms i).map _
  unfold x7;rw[Ap,DZ];by_cases h:i=id
  ·simp[h]
  ·simp only[h,if_false];cases lkM s.ms i with
   |none=>rfl
   |some b=>cases b<;>rfl
 ·funext i
  show D0 ((id,none)::_) i=D0 s.ms i;unfold D0;rw[Ap,DZ];by_cases h:i=id
  ·subst h;unfold D0 at hu;simp only[if_true];exact hu.symm
  ·simp only[h,if_false];cases lkM s.ms i<;>rfl
theorem b0s(s:LS)(id:Nat):(s.frz id).st=s.st.frz id:=by
 unfold LS.frz St.frz;show _=match x7 s.ms id with
  |some (.row _ k xs)=>s.st.sub id (.sl k xs)
  |some (.box _ cs)=>(match L0 cs with|some ts=>s.st.sub id (.fp ts)|none=>s.st)
  |_=>s.st
 cases hm:x7 s.ms id with
 |none=>rfl
 |some b=>
  cases b with
  |row e k xs=>exact FL s id _ (Pg hm)
  |obj od=>rfl
  |box ty cs=>
   simp only;cases L0 cs with
   |none=>rfl
   |some ts=>exact FL s id _ (Pg hm)
theorem BK:∀(l:List Nat) (s:LS),(s.frzs l).st=s.st.frzs l
 | [],_=>rfl
 |id::l,s=>by show((s.frz id).frzs l).st=(s.st.frz id).frzs l;rw[BK l,b0s]
def Jv(d:Option Bool)(b:Bool):Bool:=match d with|some b'=>b'|none=>b
def lU(d:Option Bool)(b:Bool):List Prop:=match d with|some b'=>[b=b']|none=>[]
def eqB(x y:Bool):Bool:=match x,y with|true,true=>true|false,false=>true|_,_=>false
def U3(o:Oper)(q:Orc):Bool:=
 match o.op with
 |.call c=>(match c.callee with
  |.value (.func _)=>(match q with|.call _ r=>N5 r|.io _ _ _=>true|.look _ _=>true|_=>false)
  |_=>false)
 |_=>false
def fpQ(o:Oper)(q:Orc)(st:St):List Nat:=match q with|.look _ _=>Eu o st++s9 o st|_=>Eu o st
def wrQ(o:Oper)(q:Orc)(st:St):List Nat:=match q with|.look _ _=>[]|_=>s9 o st
theorem IS{P:Program}{o:Oper}{ns:List (Nat × Nat × Nat)}{r:A}{s s1:LS}{obs:List Prop}(h:L8 P o (.look ns r) s=some (obs,s1))(ho:I4 obs):∃c f,o.op=.call c∧c.callee=.value (.func f)∧FnP P f (c.args.toList.map fun y=>P6 s.st (s.st.ev y)) r∧(c.args.toList.map fun y=>P6 s.st (s.st.ev y)).all C4=true∧N5 r=true∧s1=s.put o.dst r:=by
 unfold L8 at h
 dsimp only at h
 split at h
 ·rename_i c hc;split at h
  ·rename_i f hf;split at h
   ·rename_i hk;cases h;simp only[w8]at hk;exact⟨c,f,hc,hf,Mo ns hk.1 ho.1,hk.1,hk.2,rfl⟩
   ·cases h
  ·cases h
 ·cases h
theorem a5J{P:Program}{o:Oper}{ns:List (Nat × Nat × Nat)}{r:A}{s s1:LS}{obs:List Prop}(h:L8 P o (.look ns r) s=some (obs,s1))(ho:I4 obs):Bc o s.st s1.st []∧Rz P o s.st s1.st (Eu o s.st++s9 o s.st) []:=by obtain⟨c,f,h1,h2,h3,h4,h5,rfl⟩:=IS h ho;rw[C0];refine⟨Mt o s.st r,fun st2 hn he hm K2 hK2=>?_⟩;rw[Qx]at hK2;have hmap:=RD h1 h2 he fun i hi=>(hm i (.inl (A7.2 hi))).1;exact .inr (.inr (.inr (.inr ⟨c,f,r,h1,h2,by rw[hmap];exact h3,by rw[hmap];exact h4,h5,hK2⟩)))
theorem a7O{P:Program}{o:Oper}{q:Orc}{s s1:LS}{obs:List Prop}(hl:U3 o q=true)(h:L8 P o q s=some (obs,s1))(ho:I4 obs):X4 P o s.st (fun st=>st=s1.st):=by
 unfold U3 at hl;split at hl
 ·rename_i c e;split at hl
  ·rename_i f hc;split at hl
   ·rename_i ns r
    change B1 P o (.call ns r) s=some (obs,s1)at h
    unfold B1 at h;simp only[e,hc]at h;have key:(c.args.toList.map fun x=>u0 s.st (s.st.ev x)).all C4=true∧I4 [FnP P f (U2 ns 0 (c.args.toList.map fun x=>u0 s.st (s.st.ev x))) r]∧s1=s.put o.dst r:=by
     split at h
     ·rename_i hf _;cases h;exact⟨hf,ho,rfl⟩
     ·rename_i hf _ _;cases h;exact⟨hf,ho,rfl⟩
     ·cases h
    obtain⟨hf,h1,rfl⟩:=key;have hmem:∀x∈c.args.toList,x∈o.op.operands.toList:=fun x hx=>by rw[←Fl,e];simp only[opL,hc];exact List.mem_append_right _ hx
    refine Sd r (C0 s o.dst r).symm fun st2 ha K2 hK2=>.inl ?_;have hmap:(c.args.toList.map fun x=>u0 st2 (st2.ev x))=c.args.toList.map fun x=>u0 s.st (s.st.ev x):=List.map_congr_left fun x hx=>by rw[ha.env x (hmem x hx),pT (ha.at (hmem x hx)).2]
    unfold B3;simp only[e,hc];exact .inl ⟨r,by rw[hmap];exact Mo ns hf h1.1,by rw[hmap];exact hf,.inl ⟨hl,hK2⟩⟩
   ·rename_i v r m';unfold L8 at h;simp only[e,hc]at h;split at h
    ·rename_i cargs bs rs ha hb hr hg;split at h
     ·rename_i hok hbk;cases h;simp only[w8,Bool.or_eq_true,List.isEmpty_iff]at hg;exact JU e hc (BX ha hb hr hg.1 hg.2 hok hbk ho.1 _ rfl)
     ·cases h
    ·cases h
   ·obtain⟨c,f,h1,h2,h3,h4,h5,rfl⟩:=IS h ho;exact VB ⟨c,f,_,h1,h2,h3,h4,h5,(C0 s o.dst _).symm⟩
   ·cases hl
  ·cases hl
 ·cases hl
def S7(P:Program)(dr:Bool)(ops:List Oper):List Oper→List (Option Bool × List Nat × Orc)→LS→Option (List Prop × LS × List (List Nat × List Nat))
 | [],_,s=>some ([],s,[])
 |o::rest,qs,s=>
  match qs with
  | []=>none
  |q::qs=>
  match o.guard with
  |none=>
   (match !dr||(q.2.1.isEmpty&&(V6 o s.st||U3 o q.2.2)),L8 P o q.2.2 (s.frzs q.2.1)with
   |true,some (obs,s')=>(match S7 P dr ops rest qs s' with|some (obs',s'',fps)=>some (obs++obs',s'',(fpQ o q.2.2 s.st,wrQ o q.2.2 s.st)::fps)|none=>none)
   |_,_=>none)
  |some (j,want)=>
   match Bb ops s.st j with
   |.t (.v (.bool b))=>
    (match eqB (Jv q.1 b) want with
    |true=>
     (match !dr||(q.2.1.isEmpty&&(V6 o s.st||U3 o q.2.2)),L8 P o q.2.2 (s.frzs q.2.1)with
     |true,some (obs,s')=>(match S7 P dr ops rest qs s' with|some (obs',s'',fps)=>some (lU q.1 b++(obs++obs'),s'',(fpQ o q.2.2 s.st,wrQ o q.2.2 s.st)::fps)|none=>none)
     |_,_=>none)
    |false=>(match S7 P dr ops rest qs (s.put o.dst (.tup []))with|some (obs',s'',fps)=>some (lU q.1 b++obs',s'',([],[])::fps)|none=>none))
   |.tup []=>(match S7 P dr ops rest qs (s.put o.dst (.tup []))with|some (obs',s'',fps)=>some (obs',s'',([],[])::fps)|none=>none)
   |_=>none
theorem TO{d:Option Bool}{b want:Bool}(ho:I4 (lU d b)):(eqB (Jv d b) want=true→b=want)∧(eqB (Jv d b) want=false→b≠want):=by
 cases d with
 |none=>cases b<;>cases want<;>simp[eqB,Jv]
 |some b'=>have:b=b':=ho.1;subst this;cases b<;>cases want<;>simp[eqB,Jv]
theorem Ul(ops:List Oper):∀(l:List Oper) (qs:List (Option Bool × List Nat × Orc)) (s s':LS) (obs:List Prop) (fps:List (List Nat × List Nat)),S7 P true ops l qs s=some (obs,s',fps)→I4 obs→Pt P ops l s.st fps s'.st
 | [],qs,s,s',obs,fps,h,ho=>by simp only[S7,M8,Prod.mk.injEq]at h;obtain⟨-,rfl,rfl⟩:=h;exact .nil _
 |o::rest,qs,s,s',obs,fps,h,ho=>by
  have go:∀{q:List Nat × Orc} {o1:List Prop} {s1:LS},(q.1.isEmpty&&(V6 o s.st||U3 o q.2))=true→L8 P o q.2 (s.frzs q.1)=some (o1,s1)→I4 o1→
    Bc o s.st s1.st (wrQ o q.2 s.st)∧Rz P o s.st s1.st (fpQ o q.2 s.st) (wrQ o q.2 s.st):=fun{q o1 s1} hk hst h1=>by
   simp only[w8,List.isEmpty_iff]at hk;obtain⟨hq0,hk⟩:=hk;rw[hq0]at hst
   change L8 P o q.2 s=some (o1,s1)at hst
   by_cases hlk:∃ns r,q.2=.look ns r
   ·obtain⟨ns,r,e⟩:=hlk;rw[e]at hst⊢;exact a5J hst h1
   have ef:fpQ o q.2 s.st=Eu o s.st:=(by unfold fpQ;split<;>first|rfl|(rename_i e;exact absurd ⟨_,_,e⟩ hlk))
   have ew:wrQ o q.2 s.st=s9 o s.st:=(by unfold wrQ;split<;>first|rfl|(rename_i e;exact absurd ⟨_,_,e⟩ hlk))
   rw[ef,ew];have hlocal:X4 P o s.st (fun st=>st=s1.st):=by
    rcases(by simpa[or_comm]using hk:U3 o q.2=true∨V6 o s.st=true)with hl|hk
    ·exact a7O hl hst h1
    ·exact a8L hk (LL hst h1 (fun st=>st=s1.st) rfl)
   obtain⟨s',hK,hf,hloc⟩:=hlocal;subst hK;exact⟨hf,fun st2 h0 h1 h2 K2 hK2=>hloc st2 ⟨h0,h1,fun i hi=>(h2 i hi).1,fun i hi=>(h2 i (.inr hi)).2⟩ K2 hK2⟩
  unfold S7 at h;split at h
  ·cases h
  ·rename_i q qs;split at h
   ·rename_i hg;split at h
    ·rename_i o1 s1 hk hst;split at h
     ·rename_i o2 s2 fps2 hr;cases h;obtain⟨h1,h2⟩:=jH ho;obtain⟨hf,hx⟩:=go (by simpa using hk) hst h1;exact .cons o rest _ _ _ _ _ _ hf (by unfold Fi;rw[hg];exact hx) (Ul ops rest qs s1 s' _ _ hr h2)
     ·cases h
    ·cases h
   ·rename_i j want hg;split at h
    ·rename_i b hb;split at h
     ·rename_i he;split at h
      ·rename_i o1 s1 hk hst;split at h
       ·rename_i o2 s2 fps2 hr;cases h;obtain⟨h0,h12⟩:=jH ho;obtain⟨h1,h2⟩:=jH h12;obtain⟨hf,hx⟩:=go (by simpa using hk) hst h1;exact .cons o rest _ _ _ _ _ _ hf (by unfold Fi;rw[hg];exact .inl ⟨b,hb,fun _=>hx,fun hn=>absurd ((TO h0).1 he) hn⟩) (Ul ops rest qs s1 s' _ _ hr h2)
       ·cases h
      ·cases h
     ·rename_i he;split at h
      ·rename_i o2 s2 fps2 hr;cases h;obtain⟨h0,h2⟩:=jH ho;refine .cons o rest _ (s.put o.dst (.tup [])).st _ [] [] _ (by rw[C0];exact Mt o s.st (.tup [])) (by unfold Fi;rw[hg];exact .inl ⟨b,hb,fun hy=>absurd hy ((TO h0).2 he),fun _=>⟨C0 _ _ _,rfl⟩⟩) (Ul ops rest qs _ s' _ _ hr h2)
      ·cases h
    ·rename_i hb;split at h
     ·rename_i o2 s2 fps2 hr;cases h;exact .cons o rest _ (s.put o.dst (.tup [])).st _ [] [] _ (by rw[C0];exact Mt o s.st (.tup [])) (by unfold Fi;rw[hg];exact .inr ⟨hb,C0 _ _ _,rfl⟩) (Ul ops rest qs _ s' _ _ hr ho)
     ·cases h
    ·cases h
theorem XO{x:A}(h:X9 x=true):Er x x:=by cases x<;>first|exact .refl _|(simp[X9]at h)
def Cp:Nat→List A→List (Nat × A)
 |_,[]=>[]
 |i,x::l=>(i,x)::Cp (i+1) l
theorem WC:∀(l:List A) (i t:Nat),lkE (Cp i l) t=if i≤t then(l[t-i]?).getD .dead else .dead
 | [],i,t=>by simp[Cp,lkE]
 |x::l,i,t=>by
  show lkE ((i,x)::Cp (i+1) l) t=_;rw[Vi];unfold upd;rw[WC l (i+1) t];by_cases h:t=i
  ·subst h;simp
  ·rw[if_neg h];by_cases h2:i+1≤t
   ·rw[if_pos h2,if_pos (by omega),show t-i=(t-(i+1))+1 by omega,List.getElem?_cons_succ]
   ·rw[if_neg h2,if_neg (by omega)]
end
section
open Go.RowKit
variable{P:Program}
def K6(v:CV)(ms:List (Nat × Option Blk)):Nat→List A→Option (List A)
 |_,[]=>some []
 |i,.agg cs::l=>(match U5 v ms v.N i 0 cs,K6 v ms (i+1) l with|some r,some rest=>some (.agg r::rest)|_,_=>none)
 |i,a::l=>(match K8 v ms (C3 v.N i 0) a,K6 v ms (i+1) l with|some r,some rest=>some (r::rest)|_,_=>none)
def iL(v:CV)(ms:List (Nat × Option Blk))(x:A):Option A:=
 match x with
 |.tup cs=>(match K6 v ms 0 cs with|some r=>some (.tup r)|none=>none)
 |.agg cs=>(match U5 v ms v.N 0 0 cs with|some r=>some (.agg r)|none=>none)
 |a=>K8 v ms (C3 v.N 0 0) a
def Jk(P:Program)(v:CV)(rs:List ResultVar)(s:LS):Option (A × List (Nat × Blk)):=
 match Gg P s.st rs,Ft v s.ms v.B,Av s.ms v.R with
 |some x,some bs,some rs=>
  (match P8 v (P1 (bs++rs++K4 v.Z)),iL v s.ms x with
  |true,some r=>some (r,P1 (bs++rs++K4 v.Z))
  |_,_=>none)
 |_,_,_=>none
section
variable{v:CV}{s:LS}{ms':List (Nat × Blk)}
theorem zK(hk:P8 v ms'=true):∀{l r:List A} {i:Nat},K6 v s.ms i l=some r→Bg (rho v.R) s.st ms' l r
 | [],r,i,h=>by simp only[K6,M8]at h;subst h;trivial
 |x::l,r,i,h=>by
  unfold K6 at h;split at h
  ·rename_i e;cases e
  ·rename_i cs l' e;cases e;split at h
   ·rename_i r1 rest h1 h2;cases h;exact⟨Oa hk h1,zK hk h2⟩
   ·cases h
  ·rename_i a l' _ e;cases e;split at h
   ·rename_i r1 rest h1 h2;cases h;exact⟨fQ (lV hk h1),zK hk h2⟩
   ·cases h
theorem PL{ρ:Nat→Option Nat}{st:St}{ms:List (Nat × Blk)}{x y:A}(h:le2 ρ st ms x y):le3 ρ st ms x y:=by
 unfold le3;split
 ·exact h.elim
 ·exact h
theorem b1Z(hk:P8 v ms'=true){x r:A}(h:iL v s.ms x=some r):le3 (rho v.R) s.st ms' x r:=by
 unfold iL at h;split at h
 ·split at h
  ·rename_i r' hr;cases h;exact zK hk hr
  ·cases h
 ·split at h
  ·rename_i r' hr;cases h;exact PL (Oa hk hr)
  ·cases h
 ·exact PL (fQ (lV hk h))
theorem b23(hk:P8 v ms'=true){bs rs:List (Nat × Blk)}(hb:Ft v s.ms v.B=some bs)(hr:Av s.ms v.R=some rs)(e:ms'=P1 (bs++rs++K4 v.Z)):Q7 (rho v.R) s.st [] ms':=by
 refine⟨fun p hp=>(by cases hp),fun p hp=>?_,fun p hp q hq j h1 h2=>?_⟩
 ·rw[e]at hp;rcases A7.1 (vM hp)with hp|hp
  ·rcases A7.1 hp with hp|hp
   ·exact DJ hk hb (fun _ h=>h) p hp
   ·exact mC hk hr (fun _ h=>h) p hp
  ·exact vK hk (fun _ h=>h) p hp
 ·have h3:=hk;simp only[P8,w8,List.all_eq_true]at h3;obtain⟨i,hi,rfl⟩:=List.getElem_of_mem hp;obtain⟨i',hi',rfl⟩:=List.getElem_of_mem hq;have:=Vq _ h3.2.2.2.1 i i' j (by rw[I6,o5 hi,F4,h1]) (by rw[I6,o5 hi',F4,h2]);subst this;rfl
end
theorem LI{fn:Func}{r:A}{m':List (Nat × Blk)}{s:LS}(v:CV)(h:Jk P v fn.results.toList s=some (r,m')):∃ρ:Nat→Option Nat,(∀i,i<1000→ρ i=some i)∧∃x,Gg P s.st fn.results.toList=some x∧le3 ρ s.st m' x r∧Q7 ρ s.st [] m':=by
 unfold Jk at h;split at h
 ·rename_i x bs rs hx hb hr;split at h
  ·rename_i r' hk hc;cases h;exact⟨rho v.R,fun i hi=>by unfold rho;rw[show Nat.blt i 1000=true from Nat.ble_eq_true_of_le hi],x,hx,b1Z hk hc,b23 hk hb hr rfl⟩
  ·cases h
 ·cases h
theorem a9j{fn:Func}{r:A}{m':List (Nat × Blk)}{s:LS}(v:CV)(h:Jk P v fn.results.toList s=some (r,m')):Aw P fn r m' .ret s.st:=LI v h
theorem a71{fn:Func}{r:A}{m':List (Nat × Blk)}{s:LS}(v:CV)(h:Jk P v fn.results.toList s=some (r,m')):Aw P fn r m' .normal s.st:=LI v h
theorem a0d(n:Nat)(args:List A)(m:List (Nat × Blk)):(LS.mk n (Cp 0 args) (R4 m)).st=Ud n args m:=by
 unfold LS.st Ud;congr 1
 ·funext t
  rw[WC];simp
 ·funext i;exact(sE m i).1
 ·funext i;exact(sE m i).2
theorem a1F{f:FuncId}{fn:Func}{c:Code}{args:List A}{m m':List (Nat × Blk)}{r:A}(hf:P.funcs[f]? =some fn)(hb:fn.body=some c)(hpl:Dr P f=true)(hn:args.length≤fn.ntmps)(h9:fn.ntmps≤900)(h:W P c (LS.mk fn.ntmps (Cp 0 args) (R4 m)).st (Aw P fn r m')):T5 P f args m r m':=by rw[a0d]at h;exact a3W hf hb hpl hn h9 h
theorem JX:∀{cs:List A},cs.all X9=true→Ta cs cs
 | [],_=>trivial
 |x::l,h=>by simp only[List.all_cons,w8]at h;exact⟨XO h.1,JX h.2⟩
theorem ER{x:A}(h:C4 x=true):Cl x x:=by
 cases x with
 |agg cs=>exact JX h
 |_=>exact NH (XO h)
theorem AV{f:FuncId}{args:List A}{r r':A}{m':List (Nat × Blk)}(h:T5 P f args [] r m')(he:Sm (mst m') r=r')(hr:aD r'=true):FnP P f args r':=by
 refine⟨h.1,fun w X vals hX hsz hargs=>?_⟩
 let C:Ctx:=⟨P,X,fun _=>False,w,fun _=>none⟩
 have hs:v7 C (mst []) (fun _=>nol) Ln w:=⟨rfl,rfl,fun t=>.dead _,fun id blk h=>(by cases h),fun i j b hi=>(by cases hi),fun i b hi=>(by cases hi),hX,rfl,rfl,rfl,i4 _,fun _ _ _=>rfl,fun _ _ h=>(by cases h),fun _ _ h=>(by cases h)⟩;have hM:∀b,Mut C (mst []) (fun _=>nol) b→X b:=by
  rintro b (hx|⟨i,hi,_⟩)
  ·exact hx
  ·cases hi
 refine(h.2 C (fun _=>nol) vals rfl (fun _ _ h=>(by cases h)) hs hsz fun i hi=>RepA.ext (hargs i hi) (Ext.refl _ _) (fun b _ h=>hM b h) (fun id hi=>by simp at hi) (fun id hi=>by simp at hi)).mono ?_;rintro e w' ⟨v,L',rfl,hs',hr'⟩;refine⟨v,rfl,⟨hs'.os,hs'.tape,hs'.output,hs'.size,fun k hk=>hs'.block k hk (fun h=>h)⟩,?_⟩;have h3:=a2l hs' (M':=X) (fun b h=>.inl h) (fun id e k xs hm b hb hx=>(hs'.out id b (by rw[hm];rfl) hb).1 hx) hr';rw[he]at h3;refine PC (x:=r') ?_ h3;unfold leF;split
 ·rename_i cs ds;have:∀l:List A,l.all C4=true→iM l l:=fun l=>by
   induction l with
   |nil=>intro _;trivial
   |cons x l ih=>intro h;simp only[List.all_cons,w8]at h;exact⟨ER h.1,ih h.2⟩
  exact this _ hr
 ·rename_i x y hne;cases r' with
  |tup cs=>exact absurd rfl (hne cs cs rfl)
  |_=>exact ER hr
end
end
end Go.Proofs.YtihbbcealnnpiaaGreatDoor
