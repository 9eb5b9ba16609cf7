/- Parts of the proof. -/
import Derived.Test.YtabmahknlebhpaaGreatVmXC
set_option linter.unusedVariables false
namespace Go.Proofs.YtabmahknlebhpaaGreat
section
section
open Go.RowKit
variable{P:Program}
structure LS where
 n:Nat
 es:List (Nat × A)
 ms:List (Nat × Option Blk)
def lkE:List (Nat × A)→Nat→A
 | [],_=>.dead
 |(i,x)::l,t=>match Nat.beq t i with|true=>x|false=>lkE l t
def lkM:List (Nat × Option Blk)→Nat→Option (Option Blk)
 | [],_=>none
 |(i,x)::l,t=>match Nat.beq t i with|true=>some x|false=>lkM l t
def x7(ms:List (Nat × Option Blk))(i:Nat):Option Blk:=match lkM ms i with|some (some b)=>some b|_=>none
def D2(ms:List (Nat × Option Blk))(i:Nat):Bool:=match lkM ms i with|some _=>true|none=>false
def LS.st(s:LS):St:=⟨s.n,lkE s.es,x7 s.ms,D2 s.ms⟩
def LS.put(s:LS)(d:Option Nat)(a:A):LS:=match d with|some d=>⟨s.n,(d,a)::s.es,s.ms⟩|none=>s
def LS.new(s:LS)(id:Nat)(b:Blk):LS:=⟨s.n,s.es,(id,some b)::s.ms⟩
def LS.del(s:LS)(id:Nat):LS:=⟨s.n,s.es,(id,none)::s.ms⟩
theorem C9{t i:Nat}(h:Nat.beq t i=true):t=i:=Nat.eq_of_beq_eq_true h
theorem Nm{t i:Nat}(h:Nat.beq t i=false):t≠i:=fun e=>by rw[e]at h;simp at h
theorem Wy(i:Nat)(x:A)(l:List (Nat × A)):lkE ((i,x)::l)=upd (lkE l) i x:=by
 funext t
 unfold lkE upd;cases h:Nat.beq t i with
 |true=>simp[C9 h]
 |false=>simp[Nm h]
theorem Am(i:Nat)(x:Option Blk)(l:List (Nat × Option Blk))(t:Nat):lkM ((i,x)::l) t=if t=i then some x else lkM l t:=by
 show(match Nat.beq t i with|true=>some x|false=>lkM l t)=_;cases h:Nat.beq t i with
 |true=>rw[if_pos (C9 h)]
 |false=>rw[if_neg (Nm h)]
theorem WP(i:Nat)(b:Blk)(l:List (Nat × Option Blk)):x7 ((i,some b)::l)=upd (x7 l) i (some b):=by
 funext t
 simp only[x7,upd,Am];by_cases h:t=i<;>simp[h]
theorem a7A(i:Nat)(l:List (Nat × Option Blk)):x7 ((i,none)::l)=upd (x7 l) i none:=by
 funext t
 simp only[x7,upd,Am];by_cases h:t=i<;>simp[h]
theorem ID(i:Nat)(x:Option Blk)(l:List (Nat × Option Blk)):D2 ((i,x)::l)=upd (D2 l) i true:=by
 funext t
 simp only[D2,upd,Am];by_cases h:t=i<;>simp[h]
theorem B4(s:LS)(d:Option Nat)(a:A):(s.put d a).st=s.st.put d a:=by
 cases d with
 |none=>rfl
 |some d=>simp only[LS.put,LS.st,St.put,Wy]
theorem Hk(s:LS)(id:Nat)(b:Blk):(s.new id b).st=s.st.new id b:=by simp only[LS.new,LS.st,St.new,WP,ID]
theorem Me{ms:List (Nat × Option Blk)}{id:Nat}{b:Blk}(h:x7 ms id=some b):D2 ms id=true:=by
 unfold x7 at h;unfold D2;split at h
 ·rename_i b' hb;rw[hb]
 ·cases h
theorem WJ{α:Type}(f:Nat→α)(i:Nat)(x:α)(h:f i=x):upd f i x=f:=by
 funext t;unfold upd;split
 ·rename_i e;rw[e,h]
 ·rfl
theorem Ta(s:LS)(id:Nat)(b b':Blk)(h:s.st.mem id=some b'):(s.new id b).st=s.st.setm id b:=by simp only[LS.new,LS.st,St.setm,WP,ID];rw[WJ (D2 s.ms) id true (Me h)]
theorem LU(s:LS)(id:Nat)(b':Blk)(h:s.st.mem id=some b'):(s.del id).st=s.st.del id:=by simp only[LS.del,LS.st,St.del,a7A,ID];rw[WJ (D2 s.ms) id true (Me h)]
def H6:List Prop→Prop
 | []=>True
 |p::l=>p∧H6 l
theorem iL{l r:List Prop}(h:H6 (l++r)):H6 l∧H6 r:=by
 induction l with
 |nil=>exact⟨trivial,h⟩
 |cons p l ih=>exact⟨⟨h.1,(ih h.2).1⟩,(ih h.2).2⟩
def Pp(xs:List (List T))(n:Int)(m:Nat)(el:List T):Prop:=n=(m:Int)∧xs[m]? =some el
def Tn(s:ByteArray)(n:Int)(m:Nat)(b:UInt8):Prop:=n=(m:Int)∧s[m]? =some b
def L6(by_ n:Nat):Prop:=n*by_≤140737488355328∧n≤maxLen
def U3(x y:List (List T)):Prop:=x=y
def Bb(P:Program)(op:BinOp)(ty:TypeId)(x y z:Value):Prop:=uP P op ty x y=some z
inductive y8 where
 |sl(k:Nat)
 |row(id:Nat)
def C2:List (Nat × Nat × y8)→Nat→Nat→Option y8
 | [],_,_=>none
 |(i,j,k)::l,i',j'=>match Nat.beq i i'&&Nat.beq j j' with|true=>some k|false=>C2 l i' j'
def rnm:List (Nat × Nat)→Nat→Option Nat
 | [],_=>none
 |(j,i)::l,j'=>match Nat.beq j j' with|true=>some i|false=>rnm l j'
def bB:List (Nat × Nat)→Nat→Option Nat
 | [],_=>none
 |(j,i)::l,i'=>match Nat.beq i i' with|true=>some j|false=>bB l i'
def B3:List Nat→Nat→Bool
 | [],_=>false
 |i::l,j=>match Nat.beq i j with|true=>true|false=>B3 l j
def NK:Option Nat→Bool
 |none=>true
 |some _=>false
def X3(j:Nat):Option Nat→Bool
 |some i=>Nat.beq i j
 |none=>false
def dQ:Option Blk→Bool
 |some (.row _ _ [])=>true
 |_=>false
def kM:Option Blk→Bool
 |some _=>true
 |_=>false
def Nn:List (Option Nat)→Bool
 | []=>true
 |none::l=>Nn l
 |some x::l=>(l.all fun y=>!(X3 x y))&&Nn l
structure IOV where
 B:List (Nat × Nat)
 R:List (Nat × Nat)
 F:List Nat
 Z:List (Nat × Nat × Nat)
 N:List (Nat × Nat × y8)
 M:List (Nat × Nat × y8)
 V:List (Nat × Nat)
def O0(v:IOV)(i:Nat):Option Nat:=match bB v.B i with|some j=>some j|none=>bB v.R i
def G6(v:IOV)(i:Nat):Nat:=match rnm v.V i with|some j=>j|none=>i
def E1(J:List Nat)(ms:List (Nat × Option Blk))(i:Nat):Option Blk:=match B3 J i with|true=>x7 ms i|false=>none
def ioL(v:IOV)(gm:Nat→Option Blk)(nt:Option y8)(a:A):Option A:=
 match a with
 |.t x=>(match nt,x with
  |some (.sl k),.v (.slice none 0 0)=>some (.t (.sl k []))
  |some (.row id),.v (.slice none 0 0)=>(match B3 (v.Z.map (·.1)) id with|true=>some (.ref id)|false=>none)
  |_,x=>some (.t x))
 |.ref j=>(match rnm v.R j with
  |some i=>some (.ref i)
  |none=>(match B3 v.F j,gm j with|true,some (.row e k xs)=>some (.t (.sl k xs))|_,_=>none))
 |.ptr j o=>(match rnm v.B j with|some i=>some (.ptr i o)|none=>none)
 |.ifc t j o=>(match rnm v.B j with|some i=>some (.ifc t i o)|none=>none)
 |.rptr j p q=>(match rnm v.R j with|some i=>some (.rptr i p q)|none=>none)
 |.ob j=>(match rnm v.R j with|some i=>some (.ob i)|none=>none)
 |.fel x=>some (.fel x)
 |_=>none
def Di(v:IOV)(gm:Nat→Option Blk)(sp:List (Nat × Nat × y8))(t:Nat):Nat→List A→Option (List A)
 |_,[]=>some []
 |j,a::l=>match ioL v gm (C2 sp t j) a,Di v gm sp t (j+1) l with|some x,some r=>some (x::r)|_,_=>none
def Ji(v:IOV)(gm:Nat→Option Blk)(i:Nat)(a:A):Option A:=
 match a with
 |.agg cs=>(match Di v gm v.N i 0 cs with|some r=>some (.agg r)|none=>none)
 |a=>ioL v gm (C2 v.N i 0) a
def Fz(v:IOV)(gm:Nat→Option Blk):Nat→List A→Option (List A)
 |_,[]=>some []
 |i,a::l=>match Ji v gm i a,Fz v gm (i+1) l with|some x,some r=>some (x::r)|_,_=>none
def ioB(v:IOV)(gm:Nat→Option Blk):List (Nat × Nat)→Option (List (Nat × Blk))
 | []=>some []
 |(j,i)::l=>match gm j with
  |some (.box ty cells)=>(match Di v gm v.M i 0 cells,ioB v gm l with|some r,some rest=>some ((i,.box ty r)::rest)|_,_=>none)
  |_=>none
def ioR(gm:Nat→Option Blk):List (Nat × Nat)→Option (List (Nat × Blk))
 | []=>some []
 |(j,i)::l=>match gm j with
  |some (.row e k xs)=>(match ioR gm l with|some rest=>some ((i,.row e k xs)::rest)|none=>none)
  |some (.obj od)=>(match ioR gm l with|some rest=>some ((i,.obj od)::rest)|none=>none)
  |_=>none
def ioZ:List (Nat × Nat × Nat)→List (Nat × Blk)
 | []=>[]
 |(i,e,k)::l=>(i,.row e k [])::ioZ l
def BD:Option Blk→Blk→Bool
 |some (.box _ _),.box _ _=>true
 |some (.obj x),.obj y=>(match x.isMap,y.isMap with|true,true=>true|false,false=>true|_,_=>false)
 |_,_=>false
def V4:List Nat→Bool
 | []=>true
 |i::l=>(match B3 l i with|true=>false|false=>true)&&V4 l
def Jg(p:Nat × Blk):List (Nat × Blk)→List (Nat × Blk)
 | []=>[p]
 |q::l=>match Nat.ble p.1 q.1 with|true=>p::q::l|false=>q::Jg p l
def O8:List (Nat × Blk)→List (Nat × Blk)
 | []=>[]
 |p::l=>Jg p (O8 l)
def R8(v:IOV)(J:List Nat)(m:List (Nat × Blk)):Bool:=
 (v.R.all fun p=>X3 p.1 (O0 v p.2)&&kM (look m p.2))&&
 ((v.B.all fun p=>X3 p.1 (O0 v p.2)&&kM (look m p.2))&&
 ((v.Z.all fun p=>NK (O0 v p.1)&&dQ (look m p.1)&&Nat.blt 0 p.2.2)&&
 (Nn (m.map fun p=>O0 v p.1)&&
 ((v.F.all fun j=>m.all fun p=>!(X3 j (O0 v p.1)))&&
 (m.all fun p=>match O0 v p.1 with|some j=>B3 J j|none=>true)))))
def Sc(v:IOV)(s:LS)(d:Option Nat)(m m':List (Nat × Blk)):Bool:=
 V4 (m'.map (·.1))&&(V4 (m'.map fun p=>G6 v p.1)&&
 (m'.all fun p=>match R5 p.1 with
  |true=>X3 (G6 v p.1) (O0 v p.1)&&BD (look m p.1) p.2
  |false=>(match D2 s.ms (G6 v p.1)with|true=>false|false=>true)&&(Nat.blt (G6 v p.1) s.n||Nat.ble 1000 (G6 v p.1))&&B3 (Ng d) (G6 v p.1)))
def Hj(v:IOV):List (Nat × Blk)→List (Nat × Option Blk)
 | []=>[]
 |(i,b)::l=>(G6 v i,some (b.ren (G6 v)))::Hj v l
def Bt(ms:List (Nat × Option Blk)):List Nat→List (Nat × Option Blk)
 | []=>[]
 |j::l=>match D2 ms j with|true=>(j,none)::Bt ms l|false=>Bt ms l
def LS.back(s:LS)(v:IOV)(J:List Nat)(m':List (Nat × Blk)):LS:=⟨s.n,s.es,Hj v m'++(Bt s.ms J++s.ms)⟩
inductive Orc where
 |no
 |ix(m:Nat)(el:List T)
 |sx(m:Nat)(b:UInt8)
 |rows(xs:List (List T))
 |set(el:List T)(xs:List (List T))
 |len(n:Nat)
 |dec(b:Bool)
 |val(z:Value)
 |call(nils:List (Nat × Nat × Nat))(r:A)
 |quiet(x:A)
 |makes(e:TypeId)(k:Nat)(ys:List (List T))
 |moves(i:Nat)(b:Blk)
 |sets(i:Nat)(b:Blk)(r:A)
 |io(v:IOV)(r:A)(m':List (Nat × Blk))
 |callv(r:A)
 |newo(od:Od)
 |look(nils:List (Nat × Nat × Nat))(r:A)
def VX(t:Bool)(x y:A):A:=
 match t with
 |true=>x
 |false=>y
def Tl(t:Bool)(x y:Value):Value:=
 match x,y with
 |.bool a,.bool b=>.bool (cond t a b)
 |.int .i64 a,.int .i64 b=>.int .i64 (cond t a b)
 |.int .u8 a,.int .u8 b=>.int .u8 (cond t a b)
 |.string a,.string b=>.string (cond t a b)
 |x,y=>match t with|true=>x|false=>y
theorem a00(t:Bool)(x y:Value):Tl t x y=(match t with|true=>x|false=>y):=by unfold Tl;split<;>cases t<;>rfl
def Yi(t:Bool)(x y:A):A:=
 match x,y with
 |.t (.v a),.t (.v b)=>.t (.v (Tl t a b))
 |x,y=>Le t x y
theorem a0P(t:Bool)(x y:A):Yi t x y=Le t x y:=by
 unfold Yi;split
 ·rw[a00];cases t<;>rfl
 ·rfl
def Cw(k:Option Nat)(x:A):A:=match k,x with|some k,.t (.v (.slice none 0 0))=>.t (.sl k [])|_,x=>x
def Dt:List (Nat × Nat × Nat)→Nat→Nat→Option Nat
 | [],_,_=>none
 |(i,j,k)::l,i',j'=>match Nat.beq i i'&&Nat.beq j j' with|true=>some k|false=>Dt l i' j'
def Qc(ns:List (Nat × Nat × Nat))(i:Nat):Nat→List A→List A
 |_,[]=>[]
 |j,x::l=>Cw (Dt ns i j) x::Qc ns i (j+1) l
def Pq(ns:List (Nat × Nat × Nat))(i:Nat)(x:A):A:=match x with|.agg cs=>.agg (Qc ns i 0 cs)|x=>Cw (Dt ns i 0) x
def U4(ns:List (Nat × Nat × Nat)):Nat→List A→List A
 |_,[]=>[]
 |i,x::l=>Pq ns i x::U4 ns (i+1) l
theorem ZJ(k:Option Nat)(x:A)(h:X6 x=true):Fo x (Cw k x):=by
 unfold Cw;split
 ·exact .nil _
 ·cases x<;>simp[X6]at h;exact .refl _
theorem VD(ns:List (Nat × Nat × Nat))(i:Nat):∀(l:List A) (j:Nat),l.all X6=true→Ux l (Qc ns i j l)
 | [],_,_=>trivial
 |x::l,j,h=>by simp only[List.all_cons,w8]at h;exact⟨ZJ _ x h.1,VD ns i l (j+1) h.2⟩
theorem QB{x y:A}(h:Fo x y):Dd x y:=by cases x<;>cases y<;>first|exact h|exact h.elim
theorem a1i(ns:List (Nat × Nat × Nat))(i:Nat)(x:A)(h:C3 x=true):Dd x (Pq ns i x):=by
 cases x with
 |agg cs=>exact VD ns i cs 0 h
 |_=>exact QB (ZJ _ _ h)
theorem GE(ns:List (Nat × Nat × Nat)):∀(l:List A) (i:Nat),(U4 ns i l).length=l.length
 | [],_=>rfl
 |x::l,i=>by simp[U4,GE ns l]
theorem QF(ns:List (Nat × Nat × Nat)):∀(l:List A) (i j:Nat) (h:j<l.length) (h':j<(U4 ns i l).length),l.all C3=true→Dd l[j] (U4 ns i l)[j]
 |x::l,i,0,_,_,ha=>by simp only[List.all_cons,w8]at ha;exact a1i ns i x ha.1
 |x::l,i,j+1,h,h',ha=>by simp only[List.all_cons,w8]at ha;exact QF ns l (i+1) j (by simpa using h) (by simpa[U4]using h') ha.2
theorem b1l{w:World}{M:Nat→Prop}{x y:A}{v:Value}(h:Dd x y)(hr:D5 w M x v):D5 w M y v:=ER h hr
theorem Oo{f:FuncId}{args:List A}{r:A}(ns:List (Nat × Nat × Nat))(ha:args.all C3=true)(h:FnP P f (U4 ns 0 args) r):FnP P f args r:=by refine⟨h.1,fun w X vals hX hsz hargs=>h.2 w X vals hX (by rw[hsz,GE]) fun i hi=>?_⟩;have hi':i<args.length:=(by rw[GE]at hi;exact hi);exact b1l (QF ns args 0 i hi' hi ha) (hargs i hi')
def Mx(s:LS)(q:Orc)(a:A):Option (List Prop):=
 match a with
 |.rptr id i j=>(match x7 s.ms id,q with|some (.row _ _ xs),.ix _ el=>some [xs[i]? =some el]|_,_=>none)
 |a=>match O4 s.st a with|true=>some []|false=>none
theorem NI{s:LS}{q:Orc}{a:A}{obs:List Prop}(h:Mx s q a=some obs)(ho:H6 obs):O4 s.st a=true:=by
 unfold Mx at h;split at h
 ·rename_i id i j;split at h
  ·rename_i e' k' xs m el hm;cases h;show(match s.st.mem id with|some (.row _ _ xs)=>decide (i<xs.length)|_=>false)=true;rw[show s.st.mem id=some (.row _ _ xs)from hm];have:=ho.1;simp only[decide_eq_true_eq]
   apply Nat.lt_of_not_le
   intro hle;rw[List.getElem?_eq_none hle]at this;cases this
  ·cases h
 ·split at h
  ·rename_i hp;exact hp
  ·cases h
def B0(P:Program)(o:Oper)(q:Orc)(s:LS):Option (List Prop × LS):=
 match o.op with
 |.move x|.assign x=>some ([],s.put o.dst (s.st.ev x))
 |.pick c a b=>match s.st.ev c with
  |.t (.v (.bool t))=>(match q with
   |.dec b'=>some ([t=b'],s.put o.dst (VX b' (s.st.ev a) (s.st.ev b)))
   |_=>some ([],s.put o.dst (Yi t (s.st.ev a) (s.st.ev b))))
  |_=>none
 |.alloc ty=>match o.dst,t8 P ty with|some d,some ti=>(match D2 s.ms d with|false=>some ([],(s.new d (.box ty (ti.zero.map .v))).put (some d) (.ptr d 0))|true=>none)|_,_=>none
 |.box ty x=>match o.dst,cellsOf (s.st.ev x)with|some d,some cs=>(match D2 s.ms d with|false=>some ([],(s.new d (.box ty cs)).put (some d) (.ptr d 0))|true=>none)|_,_=>none
 |.build t parts=>match t8 P t with
  |some ti=>match G1 P t,Cj ti.fs (ti.zero.map .v) (parts.toList.map fun(i,x)=>(i,s.st.ev x))with|.strct,some cs=>some ([],s.put o.dst (.agg cs))|_,_=>none
  |none=>none
 |.buildSlice t len parts=>match o.dst,t8 P t with
  |some d,some ti=>match ti.elem with
   |some e=>match t8 P e with
    |some te=>match D2 s.ms d,Nat.blt 0 te.size&&Nat.beq parts.size len&&Nat.ble (len*te.size) 16777216,(parts.toList.flatMap fun(_,x)=>D0 (s.st.ev x))with
     |false,true,[]=>(match Aa te.size 0 (parts.toList.map fun(i,x)=>(i,s.st.ev x))with
      |some xs=>some ([],(s.new d (.row e te.size xs)).put (some d) (.ref d))
      |none=>none)
     |_,_,_=>none
    |none=>none
   |none=>none
  |_,_=>none
 |.load t a=>match t8 P t with
  |some ti=>
   (match q with
   |.ix m el=>(match s.st.ev a with
    |.rptr id i j=>(match x7 s.ms id,O2 ((el.drop j).map .t) 0 ti.size ti.agg with
     |some (.row _ _ xs),some x=>some ([xs[i]? =some el],s.put o.dst x)
     |_,_=>none)
    |_=>none)
   |_=>match J8 s.st (s.st.ev a) ti with|some x=>some ([],s.put o.dst x)|none=>none)
  |none=>none
 |.store t a x=>match t8 P t,cellsOf (s.st.ev x)with
  |some ti,some cs=>(match Nat.beq cs.length ti.size with
   |true=>(match s.st.ev a with
    |.ptr id off=>(match x7 s.ms id with
     |some (.box ty cells)=>(match Nat.ble (off+cs.length) cells.length with
      |true=>some ([],(s.new id (.box ty (cells.take off++cs++cells.drop (off+cs.length)))).put o.dst .dead)
      |false=>none)
     |_=>none)
    |.rptr id i j=>(match x7 s.ms id,L5 cs,q with
     |some (.row e k xs),some l,.set el ys=>(match Nat.ble (j+l.length) el.length with
      |true=>some ([xs[i]? =some el,U3 (xs.set i (el.take j++l++el.drop (j+l.length))) ys],(s.new id (.row e k ys)).put o.dst .dead)
      |false=>none)
     |_,_,_=>none)
    |_=>none)
   |false=>none)
  |_,_=>none
 |.nilCheck x=>match Mx s q (s.st.ev x)with|some obs=>some (obs,s.put o.dst (s.st.ev x))|none=>none
 |.binOp op ty x y _=>
  match q with
  |.val z=>(match s.st.ev x,s.st.ev y,z.oneCell' with
   |.t (.v x),.t (.v y),true=>some ([Ac P s.st op ty (.t (.v x)) (.t (.v y))=some z],s.put o.dst (.v z))
   |_,_,_=>none)
  |_=>match Ac P s.st op ty (s.st.ev x) (s.st.ev y)with|some z=>(match z.oneCell' with|true=>some ([],s.put o.dst (.v z))|false=>none)|none=>none
 |.unOp op _ x=>match s.st.ev x with
  |.t (.v y)=>(match unF op y with|some z=>(match z.oneCell' with|true=>some ([],s.put o.dst (.v z))|false=>none)|none=>none)
  |_=>none
 |.convert src dst x=>match Np P src dst (s.st.ev x),t8 P src with|some z,some _=>some ([],s.put o.dst z)|_,_=>none
 |.fieldAddr t x f=>match t8 P t,G1 P t with
  |some ti,.strct=>(match Mx s q (s.st.ev x),Kg ti (s.st.ev x) f with|some obs,some z=>some (obs,s.put o.dst z)|_,_=>none)
  |_,_=>none
 |.field t x f=>match t8 P t,G1 P t with
  |some ti,.strct=>(match Ko ti (s.st.ev x) f with|some z=>some ([],s.put o.dst z)|none=>none)
  |_,_=>none
 |.indexAddr t x i=>match t8 P t with
  |some ti=>match ti.elem with
   |some e=>match t8 P e,O5 s.st (s.st.ev x),s.st.ev i,q with
    |some te,some (k',xs),.t (.v (.int k n)),.ix m el=>(match Nat.beq k' te.size with
     |true=>some ([Pp xs n m el],s.put o.dst (match s.st.ev x with|.ref id=>.rptr id m 0|_=>.fel el))
     |false=>none)
    |_,_,_,_=>none
   |none=>none
  |none=>none
 |.index t x i=>match G1 P t,s.st.ev x,s.st.ev i,q with
  |.str,.t (.v (.string s')),.t (.v (.int k n)),.sx m b=>some ([Tn s' n m b],s.put o.dst (.v (.int .u8 b.toNat)))
  |_,_,_,_=>none
 |.extract x i=>match s.st.ev x with
  |.tup cs=>(match cs[i]? with|some y=>some ([],s.put o.dst y)|none=>none)
  |_=>none
 |.call c=>
  match c.callee,c.args.toList,c.argTypes.toList with
  |.builtin .len,[x],ty::_=>(match q with
   |.len n=>(match G1 P ty,O5 s.st (s.st.ev x)with|.slice,some (k,xs)=>some ([xs.length=n],s.put o.dst (.v (.int .i64 n)))|_,_=>none)
   |_=>match Dk P s.st ty (s.st.ev x)with|some z=>some ([],s.put o.dst (.v z))|none=>none)
  |.builtin .append,[x,y],[t,t']=>(match o.dst,t8 P t,q with
   |some d,some ti,.rows zs=>(match ti.elem with
    |some e=>(match t8 P e,O5 s.st (s.st.ev y)with
     |some te,some (k'',ys)=>(match Nat.beq t t'&&Nat.blt 0 te.size&&Nat.beq k'' te.size,D2 s.ms d with
      |true,false=>
       (match s.st.ev x with
       |.t (.v (.slice none 0 0))=>some ([L6 te.bytes ys.length,U3 ys zs],(s.new d (.row e te.size zs)).put (some d) (.ref d))
       |.ref id=>(match x7 s.ms id with
        |some (.row e' k' xs)=>(match Nat.beq e' e&&Nat.beq k' te.size with
         |true=>some ([L6 te.bytes (xs.length+ys.length),U3 (xs++ys) zs],((s.del id).new d (.row e te.size zs)).put (some d) (.ref d))
         |false=>none)
        |_=>none)
       |_=>none)
      |_,_=>none)
     |_,_=>none)
    |none=>none)
   |_,_,_=>none)
  |.value (.func f),args,_=>(match q with
   |.call ns r=>(match(args.map fun x=>v7 s.st (s.st.ev x)).all C3,(args.map s.st.ev).flatMap D0,N6 r with
    |true,[],_=>some ([FnP P f (U4 ns 0 (args.map fun x=>v7 s.st (s.st.ev x))) r],s.put o.dst r)
    |true,_,true=>some ([FnP P f (U4 ns 0 (args.map fun x=>v7 s.st (s.st.ev x))) r],s.put o.dst r)
    |_,_,_=>none)
   |_=>none)
  |_,_,_=>none
 |_=>none
def M6(P:Program)(o:Oper)(q:Orc)(s:LS):Option (List Prop × LS):=
 match q with
 |.quiet z=>(match(I4 o s.st||N6 z)&&(B6 o s.st).all C3 with|true=>some ([Ak P o (B6 o s.st) z],s.put o.dst z)|false=>none)
 |.makes e k ys=>(match o.dst,I4 o s.st&&Fh o s.st&&(B6 o s.st).all C3 with
  |some d,true=>(match D2 s.ms d with|false=>some ([Hv P o (B6 o s.st) e k ys],(s.new d (.row e k ys)).put (some d) (.ref d))|true=>none)
  |_,_=>none)
 |.moves i b'=>(match o.dst,((opL o.op).map s.st.ev)[i]? with
  |some d,some (.ref id)=>(match x7 s.ms id,D2 s.ms d,Ij o i with
   |some b,false,true=>some ([Mp P o i b (((opL o.op).map s.st.ev).set i .dead) b'],((s.del id).new d b').put (some d) (.ref d))
   |_,_,_=>none)
  |_,_=>none)
 |.sets i b' r=>(match((opL o.op).map s.st.ev)[i]? with
  |some y=>(match Ao y with
   | [id]=>(match x7 s.ms id,Gi o with
    |some (.obj od),true=>(match y with|.ob _=>some ([Jp P o i (.obj od) (((opL o.op).map s.st.ev).set i .dead) b' r],(s.new id b').put o.dst r)|_=>none)
    |some (.row e k xs),true=>(match y with|.ref _=>some ([Jp P o i (.row e k xs) (((opL o.op).map s.st.ev).set i .dead) b' r],(s.new id b').put o.dst r)|_=>none)
    |_,_=>none)
   |_=>none)
  |_=>none)
 |.newo od=>(match o.dst,Fd o&&(I4 o s.st&&(B6 o s.st).all C3)with
  |some d,true=>(match D2 s.ms d with|false=>some ([Gg P o (B6 o s.st) od],(s.new d (.obj od)).put (some d) (.ob d))|true=>none)
  |_,_=>none)
 |.io v r m'=>(match o.op with
  |.call c=>(match c.callee,(c.args.toList.map s.st.ev)with
   |.value (.func f),evs=>
    (match Fz v (E1 (E3 s.st evs) s.ms) 0 evs,ioB v (E1 (E3 s.st evs) s.ms) v.B,ioR (E1 (E3 s.st evs) s.ms) v.R,Ig r&&(Aw evs||(evs.flatMap U0).isEmpty)with
    |some cargs,some bs,some rs,true=>
     (match R8 v (E3 s.st evs) (O8 (bs++rs++ioZ v.Z)),Sc v s o.dst (O8 (bs++rs++ioZ v.Z)) m' with
     |true,true=>some ([T9 P f cargs (O8 (bs++rs++ioZ v.Z)) r m'],(s.back v (E3 s.st evs) m').put o.dst (Bf (G6 v) r))
     |_,_=>none)
    |_,_,_,_=>none)
   |_,_=>none)
  |_=>none)
 |.callv r=>(match o.op with
  |.call c=>(match c.callee with
   |.value x=>(match s.st.ev x with
    |.t t=>(match(c.args.toList.map fun y=>v7 s.st (s.st.ev y)).all C3&&(((c.args.toList.map s.st.ev).flatMap D0).isEmpty||N6 r)with
     |true=>some ([FnC P t (c.args.toList.map fun y=>v7 s.st (s.st.ev y)) r],s.put o.dst r)
     |false=>none)
    |_=>none)
   |_=>none)
  |_=>none)
 |.look ns r=>(match o.op with
  |.call c=>(match c.callee with
   |.value (.func f)=>(match(c.args.toList.map fun y=>P9 s.st (s.st.ev y)).all C3&&N6 r with
    |true=>some ([FnP P f (U4 ns 0 (c.args.toList.map fun y=>P9 s.st (s.st.ev y))) r],s.put o.dst r)
    |false=>none)
   |_=>none)
  |_=>none)
 |q=>B0 P o q s
end
section
open Go.RowKit
variable{P:Program}
theorem Jh{ρ:Nat→Option Nat}{st:St}{ms:List (Nat × Blk)}{i j:Nat}{b' b:Blk}(h:ρ i=some j)(hb:st.mem j=some b)(hl:leB ρ st ms b b'):leM ρ st ms (i,b'):=by unfold leM;rw[h];exact⟨b,hb,hl⟩
theorem KG{ρ:Nat→Option Nat}{st:St}{ms:List (Nat × Blk)}{i:Nat}{e k:Nat}(h:ρ i=none)(h0:0<k):leM ρ st ms (i,.row e k []):=by unfold leM;rw[h];exact⟨e,k,rfl,h0⟩
theorem W0{j:Nat}{x:Option Nat}(h:X3 j x=true):x=some j:=by
 cases x with
 |none=>cases h
 |some i=>exact congrArg some (Nat.eq_of_beq_eq_true h)
theorem FU(j:Nat):X3 j (some j)=true:=by simp[X3]
theorem Z3:∀{l:List Nat} {j:Nat},B3 l j=true→j∈l
 |i::l,j,h=>by
  unfold B3 at h;split at h
  ·rename_i e;rw[C9 e];exact E2
  ·exact F7 _ (Z3 h)
theorem Qk:∀{R:List (Nat × Nat)} {j i:Nat},rnm R j=some i→(j,i)∈R
 |(a,b)::l,j,i,h=>by
  unfold rnm at h;split at h
  ·rename_i e;cases h;rw[←C9 e];exact E2
  ·exact F7 _ (Qk h)
theorem jJ{ρ:Nat→Option Nat}{st:St}{ms:List (Nat × Blk)}{x y:A}(h:le1 ρ st ms x y):le2 ρ st ms x y:=by cases x<;>cases y<;>first|exact h|exact h.elim
theorem Rt:∀(l:List (Option Nat)),Nn l=true→∀(i j x:Nat),l[i]? =some (some x)→l[j]? =some (some x)→i=j
 | [],_,i,j,x,h1,_=>by simp at h1
 |none::l,h,i,j,x,h1,h2=>by
  cases i with
  |zero=>simp at h1
  |succ i=>cases j with
   |zero=>simp at h2
   |succ j=>simp at h1 h2;rw[Rt l h i j x h1 h2]
 |some y::l,h,i,j,x,h1,h2=>by
  simp only[Nn,w8,List.all_eq_true,Bool.not_eq_true']at h;have no:∀k:Nat,l[k]? =some (some y)→False:=fun k hk=>by have:=h.1 _ (K8 hk);rw[FU]at this;cases this
  cases i with
  |zero=>
   simp at h1;subst h1;cases j with
   |zero=>rfl
   |succ j=>simp at h2;exact(no _ h2).elim
  |succ i=>cases j with
   |zero=>simp at h2;subst h2;simp at h1;exact(no _ h1).elim
   |succ j=>simp at h1 h2;rw[Rt l h.2 i j x h1 h2]
theorem HL:∀{l:List Nat} {j:Nat},j∈l→B3 l j=true
 |i::l,j,h=>by
  unfold B3;split
  ·rfl
  ·rename_i e;rcases D4.1 h with rfl|h
   ·exact absurd rfl (Nm e)
   ·exact HL h
theorem PV(l:List Nat)(j:Nat):B3 l j=l.contains j:=by
 cases h:l.contains j with
 |true=>exact HL (by simpa using h)
 |false=>
  cases h2:B3 l j with
  |false=>rfl
  |true=>have:=Z3 h2;simp at h;exact absurd this h
theorem bX(J:List Nat)(s:LS):E1 J s.ms=(s.st.only J).mem:=by
 funext i
 unfold E1;show _=if J.contains i=true then x7 s.ms i else none
 rw[PV];cases J.contains i<;>rfl
theorem Df:∀{l:List Nat},V4 l=true→l.Nodup
 | [],_=>List.nodup_nil
 |i::l,h=>by simp only[V4,w8]at h;refine List.nodup_cons.2 ⟨fun hi=>?_,Df h.2⟩;have h1:=h.1;rw[HL hi]at h1;cases h1
theorem a8P{b:Option Blk}{c:Blk}(h:BD b c=true):∃x,b=some x∧x.alike c∧∀e k xs,x≠ .row e k xs:=by
 unfold BD at h;split at h
 ·exact⟨_,rfl,trivial,fun _ _ _ h=>by cases h⟩
 ·refine⟨_,rfl,?_,fun _ _ _ h=>by cases h⟩;split at h
  ·rename_i h1 h2;show Od.isMap _=Od.isMap _;rw[h1,h2]
  ·rename_i h1 h2;show Od.isMap _=Od.isMap _;rw[h1,h2]
  ·cases h
 ·cases h
section
variable{v:IOV}{s:LS}{J:List Nat}{m:List (Nat × Blk)}
theorem UG(hk:R8 v J m=true){nt:Option y8}{a a':A}(h:ioL v (E1 J s.ms) nt a=some a'):le1 (O0 v) (s.st.only J) m a a':=by
 simp only[R8,w8,List.all_eq_true]at hk;obtain⟨h1,h2,h3,h4,h5,h6⟩:=hk;have renR:∀{j i:Nat},rnm v.R j=some i→O0 v i=some j∧(look m i).isSome=true:=fun{j i} h=>by
  have:=h1 _ (Qk h);refine⟨W0 this.1,?_⟩;have h2:=this.2;cases hl:look m i with
  |none=>rw[hl]at h2;cases h2
  |some b=>rfl
 have renB:∀{j i:Nat},rnm v.B j=some i→O0 v i=some j∧(look m i).isSome=true:=fun{j i} h=>by
  have:=h2 _ (Qk h);refine⟨W0 this.1,?_⟩;have h2:=this.2;cases hl:look m i with
  |none=>rw[hl]at h2;cases h2
  |some b=>rfl
 unfold ioL at h;split at h
 ·split at h
  ·cases h;exact .nil _
  ·split at h
   ·rename_i id hz;cases h;obtain⟨p,hp,hpe⟩:=List.mem_map.1 (Z3 hz);have:=h3 p hp;subst hpe;refine⟨rfl,?_,?_⟩
    ·have h3:=this.1.1;cases hr:O0 v p.1 with
     |none=>rfl
     |some i=>rw[hr]at h3;cases h3
    ·have h3:=this.1.2;unfold dQ at h3;split at h3
     ·rename_i e k hl;exact⟨e,k,hl⟩
     ·cases h3
   ·cases h
  ·cases h;exact .refl _
 ·split at h
  ·rename_i j i hr;cases h;exact renR hr
  ·split at h
   ·rename_i j _ e k xs hF hm;cases h;refine⟨e,k,xs,by rw[←bX];exact hm,.refl _,fun p hp hq=>?_⟩;have:=h5 _ (Z3 hF) p hp;rw[hq]at this;simp[FU]at this
   ·cases h
 ·split at h
  ·rename_i j o i hb;cases h;exact⟨(renB hb).1,rfl,(renB hb).2⟩
  ·cases h
 ·split at h
  ·rename_i t0 j o i hb;cases h;exact⟨(renB hb).1,⟨rfl,rfl⟩,(renB hb).2⟩
  ·cases h
 ·split at h
  ·rename_i j p q i hr;cases h;exact⟨(renR hr).1,rfl,rfl,(renR hr).2⟩
  ·cases h
 ·split at h
  ·rename_i j i hr;cases h;exact⟨(renR hr).1,(renR hr).2⟩
  ·cases h
 ·cases h;rfl
 ·cases h
theorem DS(hk:R8 v J m=true){sp:List (Nat × Nat × y8)}{t:Nat}:∀{l r:List A} {j:Nat},Di v (E1 J s.ms) sp t j l=some r→Ah (O0 v) (s.st.only J) m l r
 | [],r,j,h=>by cases h;trivial
 |a::l,r,j,h=>by
  unfold Di at h;split at h
  ·rename_i x r' hx hr;cases h;exact⟨UG hk hx,DS hk hr⟩
  ·cases h
theorem a4n(hk:R8 v J m=true){i:Nat}{a a':A}(h:Ji v (E1 J s.ms) i a=some a'):le2 (O0 v) (s.st.only J) m a a':=by
 unfold Ji at h;split at h
 ·split at h
  ·rename_i r hr;cases h;exact DS hk hr
  ·cases h
 ·exact jJ (UG hk h)
theorem LW(hk:R8 v J m=true):∀{l r:List A} {i:Nat},Fz v (E1 J s.ms) i l=some r→Bu (O0 v) (s.st.only J) m l r
 | [],r,i,h=>by cases h;trivial
 |a::l,r,i,h=>by
  unfold Fz at h;split at h
  ·rename_i x r' hx hr;cases h;exact⟨a4n hk hx,LW hk hr⟩
  ·cases h
theorem KR(hk:R8 v J m=true):∀{B:List (Nat × Nat)} {bs:List (Nat × Blk)},ioB v (E1 J s.ms) B=some bs→(∀p∈B,p∈v.B)→∀p∈bs,leM (O0 v) (s.st.only J) m p
 | [],bs,h,_,p,hp=>by cases h;cases hp
 |(j,i)::l,bs,h,hB,p,hp=>by
  unfold ioB at h;split at h
  ·rename_i ty cells hm;split at h
   ·rename_i r rest hr hrest;cases h;rcases D4.1 hp with rfl|hp
    ·have h3:=hk;simp only[R8,w8,List.all_eq_true]at h3;rw[bX]at hm;exact Jh (W0 (h3.2.1 _ (hB _ E2)).1) hm ⟨rfl,DS hk hr⟩
    ·exact KR hk hrest (fun x hx=>hB x (F7 _ hx)) p hp
   ·cases h
  ·cases h
theorem AE(hk:R8 v J m=true):∀{R:List (Nat × Nat)} {rs:List (Nat × Blk)},ioR (E1 J s.ms) R=some rs→(∀p∈R,p∈v.R)→∀p∈rs,leM (O0 v) (s.st.only J) m p
 | [],rs,h,_,p,hp=>by cases h;cases hp
 |(j,i)::l,rs,h,hR,p,hp=>by
  unfold ioR at h;split at h
  ·rename_i e k xs hm;split at h
   ·rename_i rest hrest;cases h;rcases D4.1 hp with rfl|hp
    ·have h3:=hk;simp only[R8,w8,List.all_eq_true]at h3;rw[bX]at hm;exact Jh (W0 (h3.1 _ (hR _ E2)).1) hm ⟨rfl,rfl,TX xs⟩
    ·exact AE hk hrest (fun x hx=>hR x (F7 _ hx)) p hp
   ·cases h
  ·rename_i od hm;split at h
   ·rename_i rest hrest;cases h;rcases D4.1 hp with rfl|hp
    ·have h3:=hk;simp only[R8,w8,List.all_eq_true]at h3;rw[bX]at hm;exact Jh (W0 (h3.1 _ (hR _ E2)).1) hm rfl
    ·exact AE hk hrest (fun x hx=>hR x (F7 _ hx)) p hp
   ·cases h
  ·cases h
theorem NZ(hk:R8 v J m=true):∀{Z:List (Nat × Nat × Nat)},(∀p∈Z,p∈v.Z)→∀p∈ioZ Z,leM (O0 v) (s.st.only J) m p
 | [],_,p,hp=>by cases hp
 |(i,e,k)::l,hZ,p,hp=>by
  rcases D4.1 hp with rfl|hp
  ·have h3:=hk;simp only[R8,w8,List.all_eq_true]at h3;have:=h3.2.2.1 _ (hZ _ E2);have e1:O0 v i=none:=by
    have h4:=this.1.1;cases hr:O0 v i with
    |none=>rfl
    |some x=>rw[hr]at h4;cases h4
   exact KG e1 (Nat.lt_of_succ_le (Nat.le_of_ble_eq_true this.2))
  ·exact NZ hk (fun x hx=>hZ x (F7 _ hx)) p hp
end
theorem cS(l r:List (Nat × Option Blk))(i:Nat):lkM (l++r) i=match lkM l i with|some x=>some x|none=>lkM r i:=by
 induction l with
 |nil=>rfl
 |cons p l ih=>
  obtain⟨j,b⟩:=p;rw[List.cons_append,Am,Am];split
  ·rfl
  ·exact ih
theorem BZ(v:IOV)(i:Nat):∀m':List (Nat × Blk),lkM (Hj v m') i=(fnd m' (G6 v) i).map fun p=>some (p.2.ren (G6 v))
 | []=>rfl
 |(j,b)::l=>by rw[Hj,Am,BZ v i l];show _=(if i=G6 v j then some (j,b)else fnd l (G6 v) i).map _;split<;>rfl
theorem GG(ms:List (Nat × Option Blk))(i:Nat):∀J:List Nat,lkM (Bt ms J) i=if J.contains i=true∧D2 ms i=true then some none else none
 | []=>by simp[Bt,lkM]
 |j::l=>by
  unfold Bt;have ih:=GG ms i l;split
  ·rename_i hj;rw[Am,ih];by_cases e:i=j
   ·subst e;simp[hj]
   ·simp[e]
  ·rename_i hj;rw[ih];by_cases e:i=j
   ·subst e;simp[hj]
   ·simp[e]
theorem b4d(s:LS)(v:IOV)(J:List Nat)(m':List (Nat × Blk)):(s.back v J m').st=s.st.back J m' (G6 v):=by
 unfold LS.back LS.st St.back;congr 1
 ·funext i
  show x7 (Hj v m'++(Bt s.ms J++s.ms)) i=match fnd m' (G6 v) i with|some p=>some (p.2.ren (G6 v))|none=>if J.contains i then none else x7 s.ms i
  unfold x7;rw[cS,BZ];cases fnd m' (G6 v) i with
  |some p=>rfl
  |none=>
   simp only[Option.map_none];rw[cS,GG];by_cases h1:J.contains i=true
   ·by_cases h2:D2 s.ms i=true
    ·rw[if_pos ⟨h1,h2⟩,if_pos h1]
    ·rw[if_neg (fun h=>h2 h.2),if_pos h1];cases h3:lkM s.ms i with
     |none=>rfl
     |some x=>exact absurd (show D2 s.ms i=true by simp[D2,h3]) h2
   ·rw[if_neg (fun h=>h1 h.1),if_neg h1]
 ·funext i
  show D2 (Hj v m'++(Bt s.ms J++s.ms)) i=match fnd m' (G6 v) i with|some _=>true|none=>D2 s.ms i
  unfold D2;rw[cS,BZ];cases fnd m' (G6 v) i with
  |some p=>rfl
  |none=>
   simp only[Option.map_none];rw[cS,GG];by_cases h2:J.contains i=true∧D2 s.ms i=true
   ·rw[if_pos h2];have:=h2.2;unfold D2 at this;exact this.symm
   ·rw[if_neg h2]
theorem XO{p q:Nat × Blk}:∀{l:List (Nat × Blk)},q∈Jg p l→q=p∨q∈l
 | [],h=>by simp[Jg]at h;exact .inl h
 |r::l,h=>by
  unfold Jg at h;split at h
  ·rcases D4.1 h with h|h
   ·exact .inl h
   ·exact .inr h
  ·rcases D4.1 h with h|h
   ·exact .inr (by rw[h];exact E2)
   ·rcases XO h with h|h
    ·exact .inl h
    ·exact .inr (F7 _ h)
theorem HV{q:Nat × Blk}:∀{l:List (Nat × Blk)},q∈O8 l→q∈l
 | [],h=>h
 |p::l,h=>by
  rcases XO h with h|h
  ·rw[h];exact E2
  ·exact F7 _ (HV h)
theorem BN{d:Option Nat}{v:IOV}{r:A}{m':List (Nat × Blk)}{s:LS}{evs:List A}{f:FuncId}{cargs:List A}{bs rs:List (Nat × Blk)}(ha:Fz v (E1 (E3 s.st evs) s.ms) 0 evs=some cargs)(hb:ioB v (E1 (E3 s.st evs) s.ms) v.B=some bs)(hr:ioR (E1 (E3 s.st evs) s.ms) v.R=some rs)(ht:Ig r=true)(hp:Aw evs=true∨evs.flatMap U0=[])(hok:R8 v (E3 s.st evs) (O8 (bs++rs++ioZ v.Z))=true)(hbk:Sc v s d (O8 (bs++rs++ioZ v.Z)) m'=true)(hf:T9 P f cargs (O8 (bs++rs++ioZ v.Z)) r m')(K:St→Prop)(hK:K ((s.back v (E3 s.st evs) m').put d (Bf (G6 v) r)).st):aL P f d evs s.st K:=by
 generalize hJ:E3 s.st evs=J at*;have h3:=hok;simp only[R8,w8,List.all_eq_true]at h3;obtain⟨k1,k2,k3,k4,k5,k6⟩:=h3;simp only[Sc,w8,List.all_eq_true]at hbk;obtain⟨b1,b2,b3⟩:=hbk;have inj:∀{α:Type} {l:List α} {g:α→Nat},(l.map g).Nodup→∀p∈l,∀q∈l,g p=g q→p=q:=fun{α l g} hn p hp q hq he=>by obtain⟨i,hi,rfl⟩:=List.getElem_of_mem hp;obtain⟨j,hj,rfl⟩:=List.getElem_of_mem hq;have hi':i<(l.map g).length:=(by simpa using hi);have hj':j<(l.map g).length:=(by simpa using hj);have:=(List.getElem_inj (i:=i) (j:=j) (h₀:=hi') (h₁:=hj') hn).1 (by simpa using he);subst this;rfl
 have hkeys:=inj (Df b1);have hnu:=inj (Df b2);refine⟨cargs,_,r,m',O0 v,G6 v,hf,ht,hp,⟨⟨fun p hp=>(by cases hp),fun p hp=>?_,fun p hp q hq j h1 h2=>?_⟩,fun p hp j hj=>?_,fun p hp=>?_,fun p hp q hq he=>by rw[hnu p hp q hq he],fun p hp hpp=>?_,fun p hp hpp=>?_⟩,fun p hp hpp=>?_,by rw[hJ];exact LW hok ha,by rw[hJ,←b4d,←B4];exact hK⟩
 all_goals try rw[hJ]
 ·rcases z0.1 (HV hp)with hp|hp
  ·rcases z0.1 hp with hp|hp
   ·exact KR hok hb (fun _ h=>h) p hp
   ·exact AE hok hr (fun _ h=>h) p hp
  ·exact NZ hok (fun _ h=>h) p hp
 ·obtain⟨i,hi,rfl⟩:=List.getElem_of_mem hp;obtain⟨i',hi',rfl⟩:=List.getElem_of_mem hq;have:=Rt _ k4 i i' j (by rw[M1,p8 hi,G0,h1]) (by rw[M1,p8 hi',G0,h2]);subst this;rfl
 ·have:=k6 p hp;rw[hj]at this;rw[←PV];exact this
 ·cases hl:look m' p.1 with
  |none=>
   exfalso;have:∀l:List (Nat × Blk),p∈l→look l p.1≠none:=fun l=>by
    induction l with
    |nil=>intro h;cases h
    |cons q l ih=>
     intro h;obtain⟨k,b⟩:=q;unfold look;split
     ·simp
     ·rename_i e;rcases D4.1 h with h|h
      ·exact absurd (by rw[h]) e
      ·exact ih h
   exact this m' hp hl
  |some b=>have:=hkeys p hp _ (R0 hl) rfl;rw[this]
 ·have:=b3 p hp;rw[hpp]at this;simp only[w8]at this;obtain⟨q1,q2⟩:=this;exact⟨W0 q1,a8P q2⟩
 ·have:=b3 p hp;rw[hpp]at this;simp only[w8,Bool.or_eq_true]at this;refine⟨?_,?_⟩
  ·have h1:=this.1.1;show D2 s.ms (G6 v p.1)=false;cases hu:D2 s.ms (G6 v p.1)with
   |false=>rfl
   |true=>rw[hu]at h1;cases h1
  ·rcases this.1.2 with h|h
   ·exact .inl (Nat.lt_of_succ_le (Nat.le_of_ble_eq_true h))
   ·exact .inr (Nat.le_of_ble_eq_true h)
 ·have:=b3 p hp;rw[hpp]at this;simp only[w8]at this;exact Z3 this.2
end
section
open Go.RowKit
variable{P:Program}
theorem b3d{o:Oper}{q:Orc}{s s':LS}{obs:List Prop}(h:B0 P o q s=some (obs,s'))(ho:H6 obs)(K:St→Prop)(hK:K s'.st):Aj P o s.st K:=by
 unfold B0 at h;split at h
 ·rename_i x e;cases h;refine K9 ?_;unfold J5;simp only[e];rw[←B4];exact hK
 ·rename_i x e;cases h;refine K9 ?_;unfold J5;simp only[e];rw[←B4];exact hK
 ·rename_i c x y e;refine K9 ?_;unfold J5;simp only[e];split at h
  ·rename_i t ht;split at h
   ·rename_i b';cases h;have e1:t=b':=ho.1;subst e1;rw[ht];simp only;rw[←B4];have:Le t (s.st.ev x) (s.st.ev y)=VX t (s.st.ev x) (s.st.ev y):=(by cases t<;>rfl);rw[this];exact hK
   ·cases h;rw[ht];simp only;rw[←a0P,←B4];exact hK
  ·cases h
 ·rename_i ty e;refine K9 ?_;unfold J5;simp only[e];split at h
  ·rename_i d ti hd hti;split at h
   ·rename_i hu;cases h;rw[hd,hti];simp only;exact⟨hu,by rw[←Hk,←B4];exact hK⟩
   ·cases h
  ·cases h
 ·rename_i ty x e;refine K9 ?_;unfold J5;simp only[e];split at h
  ·rename_i d cs hd hcs;split at h
   ·rename_i hu;cases h;rw[hd,hcs];simp only;exact⟨hu,by rw[←Hk,←B4];exact hK⟩
   ·cases h
  ·cases h
 ·rename_i t parts e;refine K9 ?_;unfold J5;simp only[e];split at h
  ·rename_i ti hti;split at h
   ·rename_i cs hk hf;cases h;rw[hti];simp only;rw[hk,hf];simp only;rw[←B4];exact hK
   ·cases h
  ·cases h
 ·rename_i t len parts e;refine K9 ?_;unfold J5;simp only[e];split at h
  ·rename_i d ti hd hti;split at h
   ·rename_i el hel;split at h
    ·rename_i te hte;split at h
     ·rename_i hu hb hr;split at h
      ·rename_i xs hxs;cases h;rw[hd,hti];simp only;rw[hel];simp only;rw[hte];simp only;simp only[w8]at hb;refine⟨hu,Nat.lt_of_succ_le (Nat.le_of_ble_eq_true hb.1.1),Nat.eq_of_beq_eq_true hb.1.2,Nat.le_of_ble_eq_true hb.2,?_⟩;rw[hr];show(match Aa te.size 0 (parts.toList.map fun(i,x)=>(i,s.st.ev x))with|some xs=>_|none=>False);rw[hxs];simp only[St.frzs];rw[←Hk,←B4];exact hK
      ·cases h
     ·cases h
    ·cases h
   ·cases h
  ·cases h
 ·rename_i t x e;refine K9 ?_;unfold J5;simp only[e];split at h
  ·rename_i ti hti;split at h
   ·rename_i m el;split at h
    ·rename_i id i j ha;split at h
     ·rename_i e' k xs y hm hy;cases h;rw[hti];simp only;have:J8 s.st (s.st.ev x) ti=some y:=by rw[ha];show(match s.st.mem id with|some (.row _ _ xs)=>(xs[i]?).bind fun el=>O2 ((el.drop j).map .t) 0 ti.size ti.agg|_=>none)=_;rw[show s.st.mem id=some (.row e' k xs)from hm];simp only;rw[show xs[i]? =some el from ho.1];exact hy
      rw[this];simp only;rw[←B4];exact hK
     ·cases h
    ·cases h
   ·split at h
    ·rename_i y hy;cases h;rw[hti];simp only;rw[hy];simp only;rw[←B4];exact hK
    ·cases h
  ·cases h
 ·rename_i t x y e;split at h
  ·rename_i ti cs hti hcs;split at h
   ·rename_i hsz;have hsz:=Nat.eq_of_beq_eq_true hsz;split at h
    ·rename_i id off ha;split at h
     ·rename_i ty cells hm;split at h
      ·rename_i hle;cases h;refine K9 ?_;unfold J5;simp only[e];rw[hti,hcs];simp only;refine⟨hsz,?_⟩;rw[ha];simp only;rw[show s.st.mem id=some (.box ty cells)from hm];simp only;refine⟨Nat.le_of_ble_eq_true hle,?_⟩;rw[←Ta s id _ _ hm,←B4];exact hK
      ·cases h
     ·cases h
    ·rename_i id i j ha;split at h
     ·rename_i e' k xs l el ys hm hl;split at h
      ·rename_i hle;cases h;obtain⟨h2,h3,_⟩:=ho;refine K9 ?_;unfold J5;simp only[e];rw[hti,hcs];simp only;refine⟨hsz,?_⟩;rw[ha];simp only;rw[show s.st.mem id=some (.row e' k xs)from hm,hl];simp only;refine⟨el,h2,Nat.le_of_ble_eq_true hle,?_⟩;rw[show xs.set i (el.take j++l++el.drop (j+l.length))=ys from h3,←Ta s id _ _ hm,←B4];exact hK
      ·cases h
     ·cases h
    ·cases h
   ·cases h
  ·cases h
 ·rename_i x e;refine K9 ?_;unfold J5;simp only[e];split at h
  ·rename_i ob hp;cases h;exact⟨NI hp ho,by rw[←B4];exact hK⟩
  ·cases h
 ·rename_i op ty x y ty2 e;split at h
  ·rename_i z;split at h
   ·rename_i a b hx hy hz;cases h;refine K9 ?_;unfold J5;simp only[e];rw[hx,hy,show Ac P s.st op ty (.t (.v a)) (.t (.v b))=some z from ho.1];exact⟨hz,by rw[←B4];exact hK⟩
   ·cases h
  ·split at h
   ·rename_i z hz;split at h
    ·rename_i h1;cases h;refine K9 ?_;unfold J5;simp only[e];rw[hz];exact⟨h1,by rw[←B4];exact hK⟩
    ·cases h
   ·cases h
 ·rename_i op ty x e;refine K9 ?_;unfold J5;simp only[e];split at h
  ·rename_i y hy;split at h
   ·rename_i z hz;split at h
    ·rename_i h1;cases h;rw[hy];simp only;rw[hz];exact⟨h1,by rw[←B4];exact hK⟩
    ·cases h
   ·cases h
  ·cases h
 ·rename_i src dst x e;split at h
  ·rename_i z ti hz hti;cases h;refine K9 ?_;unfold J5;simp only[e];rw[hz];exact⟨by rw[hti];rfl,by rw[←B4];exact hK⟩
  ·cases h
 ·rename_i t x f e;refine K9 ?_;unfold J5;simp only[e];split at h
  ·rename_i ti hti hk;split at h
   ·rename_i ob z hp hz;cases h;rw[hti,hk];simp only;refine⟨NI hp ho,?_⟩;rw[hz];simp only;rw[←B4];exact hK
   ·cases h
  ·cases h
 ·rename_i t x f e;refine K9 ?_;unfold J5;simp only[e];split at h
  ·rename_i ti hti hk;split at h
   ·rename_i z hz;cases h;rw[hti,hk];simp only;rw[hz];simp only;rw[←B4];exact hK
   ·cases h
  ·cases h
 ·rename_i t x i e;refine K9 ?_;unfold J5;simp only[e];split at h
  ·rename_i ti hti;split at h
   ·rename_i el hel;split at h
    ·rename_i te k' xs k n m el' hte hl hi;split at h
     ·rename_i hk;cases h;rw[hti];simp only;rw[hel];simp only;rw[hte,hl,hi];simp only;obtain⟨⟨h1,h2⟩,_⟩:=ho;exact⟨Nat.eq_of_beq_eq_true hk,m,el',h1,h2,by rw[B4]at hK;exact hK⟩
     ·cases h
    ·cases h
   ·cases h
  ·cases h
 ·rename_i t x i e;refine K9 ?_;unfold J5;simp only[e];split at h
  ·rename_i s' k n m b hk hx hi;cases h;rw[hk,hx,hi];simp only;obtain⟨⟨h1,h2⟩,_⟩:=ho;exact⟨m,b,h1,h2,by rw[B4]at hK;exact hK⟩
  ·cases h
 ·rename_i x i e;refine K9 ?_;unfold J5;simp only[e];split at h
  ·rename_i cs hx;split at h
   ·rename_i y hy;cases h;rw[hx];simp only;rw[hy];simp only;rw[←B4];exact hK
   ·cases h
  ·cases h
 ·rename_i c e;obtain⟨callee,args,ts⟩:=c
  dsimp only at h
  split at h
  ·rename_i x ty tl ha hts;refine K9 ?_;unfold J5;simp only[e,ha,hts];split at h
   ·rename_i n;split at h
    ·rename_i k xs hk hl;cases h;have:Dk P s.st ty (s.st.ev x)=some (.int .i64 n):=by unfold Dk;rw[hk];simp only;rw[hl,G0,←show xs.length=n from ho.1]
     rw[this];simp only;rw[←B4];exact hK
    ·cases h
   ·split at h
    ·rename_i z hz;cases h;rw[hz];simp only;rw[←B4];exact hK
    ·cases h
  ·rename_i x y t t' ha hts;split at h
   ·rename_i d ti zs hd hti;split at h
    ·rename_i el hel;split at h
     ·rename_i te k'' ys hte hl;split at h
      ·rename_i hb hu;simp only[w8]at hb;have h1:=Nat.eq_of_beq_eq_true hb.1.1;have h2:=Nat.lt_of_succ_le (Nat.le_of_ble_eq_true hb.1.2);have h3:=Nat.eq_of_beq_eq_true hb.2;split at h
       ·rename_i hx;cases h;obtain⟨h4,h5,_⟩:=ho;refine K9 ?_;unfold J5;simp only[e,ha,hts,hd,hti,hel,hte,hl,hx];refine⟨h1,h2,hu,.inr h3,h4.1,h4.2,?_⟩;rw[show ys=zs from h5,←Hk,←B4];exact hK
       ·rename_i id hx;split at h
        ·rename_i e' k' xs hm;split at h
         ·rename_i hb2;simp only[w8]at hb2;have h6:=Nat.eq_of_beq_eq_true hb2.1;have h7:=Nat.eq_of_beq_eq_true hb2.2;cases h;obtain⟨h4,h5,_⟩:=ho;refine K9 ?_;unfold J5;simp only[e,ha,hts,hd,hti,hel,hte,hl,hx];refine⟨h1,h2,hu,.inr h3,?_⟩;rw[show s.st.mem id=some (.row e' k' xs)from hm];simp only;refine⟨h6,h7,h4.1,h4.2,?_⟩;rw[show xs++ys=zs from h5,←LU s id _ hm,←Hk,←B4];exact hK
         ·cases h
        ·cases h
       ·cases h
      ·cases h
     ·cases h
    ·cases h
   ·cases h
  ·rename_i f _ _;split at h
   ·rename_i ns r;refine K9 ?_;unfold J5;simp only[e];split at h
    ·rename_i hf hr;cases h;refine .inl ⟨r,Oo ns hf ho.1,hf,.inr ?_⟩;rw[hr];simp only[St.frzs];rw[←B4];exact hK
    ·rename_i hf hs _;cases h;exact .inl ⟨r,Oo ns hf ho.1,hf,.inl ⟨hs,by rw[←B4];exact hK⟩⟩
    ·cases h
   ·cases h
  ·cases h
 ·cases h
theorem a0p{o:Oper}{q:Orc}{s s':LS}{obs:List Prop}(h:M6 P o q s=some (obs,s'))(ho:H6 obs)(K:St→Prop)(hK:K s'.st):Aj P o s.st K:=by
 unfold M6 at h;split at h
 ·rename_i z;split at h
  ·rename_i hz;cases h;simp only[w8,Bool.or_eq_true]at hz;exact .inr (.inl ⟨hz.2,.inl ⟨z,ho.1,hz.1.symm,by rw[←B4];exact hK⟩⟩)
  ·cases h
 ·rename_i e' k ys;split at h
  ·rename_i d hd hb;split at h
   ·rename_i hu;cases h;simp only[w8]at hb;exact .inr (.inl ⟨hb.2,.inr ⟨d,e',k,ys,hd,hu,ho.1,hb.1,by rw[hd,←Hk,←B4];exact hK⟩⟩)
   ·cases h
  ·cases h
 ·rename_i i b';split at h
  ·rename_i d id hd hi;split at h
   ·rename_i b hb hu hmv;cases h;exact .inr (.inr (.inl (.inl ⟨i,b,_,b',id,d,hmv,hd,hi,rfl,hb,hu,ho.1,by rw[hd,←LU s id b hb,←Hk,←B4];exact hK⟩)))
   ·cases h
  ·cases h
 ·rename_i i b' r;split at h
  ·rename_i y hi;split at h
   ·rename_i id hy;split at h
    ·rename_i od hb hmv;split at h
     ·rename_i q;cases h;simp only[Ao,List.cons.injEq,and_true]at hy;subst hy;exact .inr (.inr (.inl (.inr (.inl ⟨i,.obj od,_,b',r,_,hmv,hi,rfl,hb,Me hb,ho.1,by rw[←Ta s _ _ _ hb,←B4];exact hK⟩))))
     ·cases h
    ·rename_i e k xs hb hmv;split at h
     ·rename_i q;cases h;simp only[Ao,List.cons.injEq,and_true]at hy;subst hy;exact .inr (.inr (.inl (.inr (.inl ⟨i,.row e k xs,_,b',r,_,hmv,hi,rfl,hb,Me hb,ho.1,by rw[←Ta s _ _ _ hb,←B4];exact hK⟩))))
     ·cases h
    ·cases h
   ·cases h
  ·cases h
 ·rename_i od;split at h
  ·rename_i d hd hg;split at h
   ·rename_i hu;cases h;simp only[w8]at hg;exact .inr (.inr (.inl (.inr (.inr ⟨od,d,hg.1,hd,hu,hg.2.1,hg.2.2,ho.1,by rw[hd,←Hk,←B4];exact hK⟩))))
   ·cases h
  ·cases h
 ·rename_i v r m';split at h
  ·rename_i c ho';split at h
   ·rename_i f hc;split at h
    ·rename_i cargs bs rs ha hb hr hg;split at h
     ·rename_i hok hbk;cases h;simp only[w8,Bool.or_eq_true,List.isEmpty_iff]at hg;obtain⟨callee,args,ts⟩:=c
      dsimp only at hc
      subst hc
      left
      unfold B1;simp only[ho'];exact .inr (BN ha hb hr hg.1 hg.2 hok hbk ho.1 K hK)
     ·cases h
    ·cases h
   ·cases h
  ·cases h
 ·rename_i r;split at h
  ·rename_i c ho';split at h
   ·rename_i x hc;split at h
    ·rename_i t hx;split at h
     ·rename_i hg;cases h;simp only[w8,Bool.or_eq_true,List.isEmpty_iff]at hg;exact .inr (.inr (.inr (.inl ⟨c,x,t,r,ho',hc,hx,ho.1,hg.1,hg.2.symm,by rw[←B4];exact hK⟩)))
     ·cases h
    ·cases h
   ·cases h
  ·cases h
 ·rename_i ns r;split at h
  ·rename_i c hc;split at h
   ·rename_i f hf;split at h
    ·rename_i hk;cases h;simp only[w8]at hk;exact .inr (.inr (.inr (.inr ⟨c,f,r,hc,hf,Oo ns hk.1 ho.1,hk.1,hk.2,by rw[←B4];exact hK⟩)))
    ·cases h
   ·cases h
  ·cases h
 ·exact b3d h ho K hK
end
section
open Go.RowKit
variable{P:Program}
structure CV where
 G:List Nat
 N:List (Nat × Nat × y8)
 B:List Nat
 M:List (Nat × Nat × y8)
 R:List (Nat × Nat)
 F:List Nat
 Z:List (Nat × Nat × Nat)
def rho(R:List (Nat × Nat))(i:Nat):Option Nat:=match Nat.blt i 1000 with|true=>some i|false=>bB R i
def K5(v:CV)(ms:List (Nat × Option Blk))(nt:Option y8)(a:A):Option A:=
 match a with
 |.t x=>(match nt,x with
  |some (.sl k),.v (.slice none 0 0)=>some (.t (.sl k []))
  |some (.row id),.v (.slice none 0 0)=>(match B3 (v.Z.map (·.1)) id with|true=>some (.ref id)|false=>none)
  |_,x=>some (.t x))
 |.ref j=>(match rnm v.R j with
  |some i=>some (.ref i)
  |none=>(match B3 v.F j,x7 ms j with|true,some (.row e k xs)=>some (.t (.sl k xs))|_,_=>none))
 |.ptr j o=>(match B3 v.B j with|true=>some (.ptr j o)|false=>none)
 |.ifc t j o=>(match B3 v.B j with|true=>some (.ifc t j o)|false=>none)
 |.rptr j p q=>(match rnm v.R j with|some i=>some (.rptr i p q)|none=>none)
 |.ob j=>(match rnm v.R j with|some i=>some (.ob i)|none=>none)
 |.fel x=>some (.fel x)
 |_=>none
def T5(v:CV)(ms:List (Nat × Option Blk))(sp:List (Nat × Nat × y8))(t:Nat):Nat→List A→Option (List A)
 |_,[]=>some []
 |j,a::l=>match K5 v ms (C2 sp t j) a,T5 v ms sp t (j+1) l with|some x,some r=>some (x::r)|_,_=>none
def Ol(v:CV)(ms:List (Nat × Option Blk))(t:Nat)(a:A):A:=
 match a with
 |.agg cs=>(match T5 v ms v.N t 0 cs with|some r=>.agg r|none=>.dead)
 |.tup cs=>(match T5 v ms v.N t 0 cs with|some r=>.tup r|none=>.dead)
 |a=>(match K5 v ms (C2 v.N t 0) a with|some x=>x|none=>.dead)
def Ip(v:CV)(s:LS):List Nat→List (Nat × A)
 | []=>[]
 |t::l=>(t,Ol v s.ms t (lkE s.es t))::Ip v s l
def Fv(v:CV)(ms:List (Nat × Option Blk)):List Nat→Option (List (Nat × Blk))
 | []=>some []
 |b::l=>match x7 ms b with
  |some (.box ty cells)=>(match T5 v ms v.M b 0 cells,Fv v ms l with|some r,some rest=>some ((b,.box ty r)::rest)|_,_=>none)
  |_=>none
def Be(ms:List (Nat × Option Blk)):List (Nat × Nat)→Option (List (Nat × Blk))
 | []=>some []
 |(j,i)::l=>match x7 ms j with
  |some (.row e k xs)=>(match Be ms l with|some rest=>some ((i,.row e k xs)::rest)|none=>none)
  |some (.obj od)=>(match Be ms l with|some rest=>some ((i,.obj od)::rest)|none=>none)
  |_=>none
def K4:List (Nat × Nat × Nat)→List (Nat × Blk)
 | []=>[]
 |(i,e,k)::l=>(i,.row e k [])::K4 l
def S7:List (Nat × Blk)→List (Nat × Option Blk)
 | []=>[]
 |(i,b)::l=>(i,some b)::S7 l
def P1(v:CV)(ms':List (Nat × Blk)):Bool:=
 (v.R.all fun p=>X3 p.1 (rho v.R p.2)&&kM (look ms' p.2))&&
 ((v.Z.all fun p=>NK (rho v.R p.1)&&dQ (look ms' p.1)&&Nat.blt 0 p.2.2)&&
 ((v.B.all fun b=>Nat.blt b 1000&&kM (look ms' b))&&
 (Nn (ms'.map fun p=>rho v.R p.1)&&
 (v.F.all fun j=>ms'.all fun p=>!(X3 j (rho v.R p.1))))))
def sE(v:CV)(s:LS):Option LS:=
 match Fv v s.ms v.B,Be s.ms v.R with
 |some bs,some rs=>
  (match P1 v (bs++rs++K4 v.Z)with
  |true=>some ⟨s.n,Ip v s v.G,S7 (bs++rs++K4 v.Z)⟩
  |false=>none)
 |_,_=>none
theorem wM(ms:List (Nat × Blk))(i:Nat):x7 (S7 ms) i=look ms i∧D2 (S7 ms) i=(look ms i).isSome:=by
 have:∀ms:List (Nat × Blk),lkM (S7 ms) i=(look ms i).map some:=fun ms=>by
  induction ms with
  |nil=>rfl
  |cons p l ih=>obtain⟨j,b⟩:=p;show lkM ((j,some b)::S7 l) i=_;rw[Am,ih];show _=(if i=j then some b else look l i).map some;split<;>rfl
 unfold x7 D2;rw[this];cases look ms i<;>simp
theorem WH:∀(es:List (Nat × A)) (t:Nat),lkE es t=(look es t).getD .dead
 | [],t=>rfl
 |(i,x)::l,t=>by
  rw[Wy];unfold look upd;split
  ·rfl
  ·exact WH l t
theorem KI(n:Nat)(es:List (Nat × A))(ms:List (Nat × Blk)):(LS.mk n es (S7 ms)).st=O6 n es ms:=by
 unfold LS.st O6;congr 1
 ·funext t;exact WH es t
 ·funext t;exact(wM ms t).1
 ·funext t;exact(wM ms t).2
section
variable{v:CV}{s:LS}{ms':List (Nat × Blk)}
theorem rW(hk:P1 v ms'=true){nt:Option y8}{a a':A}(h:K5 v s.ms nt a=some a'):le1 (rho v.R) s.st ms' a a':=by
 simp only[P1,w8,List.all_eq_true]at hk;obtain⟨h1,h2,h3,h4,h5⟩:=hk;have ren:∀{j i:Nat},rnm v.R j=some i→rho v.R i=some j∧(look ms' i).isSome=true:=fun{j i} h=>by
  have:=h1 _ (Qk h);refine⟨W0 this.1,?_⟩;have h2:=this.2;cases hl:look ms' i with
  |none=>rw[hl]at h2;cases h2
  |some b=>rfl
 unfold K5 at h;split at h
 ·split at h
  ·cases h;exact .nil _
  ·split at h
   ·rename_i id hz;cases h;obtain⟨p,hp,hpe⟩:=List.mem_map.1 (Z3 hz);have:=h2 p hp;subst hpe;refine⟨rfl,?_,?_⟩
    ·have h3:=this.1.1;cases hr:rho v.R p.1 with
     |none=>rfl
     |some i=>rw[hr]at h3;cases h3
    ·have h3:=this.1.2;unfold dQ at h3;split at h3
     ·rename_i e k hl;exact⟨e,k,hl⟩
     ·cases h3
   ·cases h
  ·cases h;exact .refl _
 ·split at h
  ·rename_i j i hr;cases h;exact ren hr
  ·split at h
   ·rename_i j _ e k xs hF hm;cases h;refine⟨e,k,xs,hm,.refl _,fun p hp hq=>?_⟩;have:=h5 _ (Z3 hF) p hp;rw[hq]at this;simp[FU]at this
   ·cases h
 ·rename_i j o;split at h
  ·rename_i hb;cases h;have:=h3 _ (Z3 hb);refine⟨?_,rfl,?_⟩
   ·unfold rho;rw[this.1]
   ·cases hl:look ms' j with
    |none=>rw[hl]at this;cases this.2
    |some b=>rfl
  ·cases h
 ·rename_i t0 j o;split at h
  ·rename_i hb;cases h;have:=h3 _ (Z3 hb);refine⟨?_,⟨rfl,rfl⟩,?_⟩
   ·unfold rho;rw[this.1]
   ·cases hl:look ms' j with
    |none=>rw[hl]at this;cases this.2
    |some b=>rfl
  ·cases h
 ·split at h
  ·rename_i j p q i hr;cases h;exact⟨(ren hr).1,rfl,rfl,(ren hr).2⟩
  ·cases h
 ·split at h
  ·rename_i j i hr;cases h;exact⟨(ren hr).1,(ren hr).2⟩
  ·cases h
 ·cases h;rfl
 ·cases h
theorem Nk(hk:P1 v ms'=true){sp:List (Nat × Nat × y8)}{t:Nat}:∀{l r:List A} {j:Nat},T5 v s.ms sp t j l=some r→Ah (rho v.R) s.st ms' l r
 | [],r,j,h=>by cases h;trivial
 |a::l,r,j,h=>by
  unfold T5 at h;split at h
  ·rename_i x r' hx hr;cases h;exact⟨rW hk hx,Nk hk hr⟩
  ·cases h
theorem a4p{ρ:Nat→Option Nat}{st:St}{ms:List (Nat × Blk)}{x y:A}(h:le2 ρ st ms x y):leA ρ st ms x y:=by
 cases y with
 |dead=>cases x<;>trivial
 |tup ds=>cases x<;>exact h.elim
 |_=>exact h
theorem a9M(hk:P1 v ms'=true){t:Nat}(a:A):leA (rho v.R) s.st ms' a (Ol v s.ms t a):=by
 unfold Ol;split
 ·split
  ·rename_i r hr;exact Nk hk hr
  ·trivial
 ·split
  ·rename_i r hr;exact Nk hk hr
  ·trivial
 ·split
  ·rename_i x hx;exact a4p (jJ (rW hk hx))
  ·cases a<;>trivial
theorem ZG(hk:P1 v ms'=true):∀(G:List Nat),∀p∈Ip v s G,leA (rho v.R) s.st ms' (s.st.env p.1) p.2
 | [],p,h=>by cases h
 |t::l,p,h=>by
  rcases D4.1 h with rfl|h
  ·exact a9M hk _
  ·exact ZG hk l p h
theorem AT(hk:P1 v ms'=true):∀{B:List Nat} {bs:List (Nat × Blk)},Fv v s.ms B=some bs→(∀b∈B,b∈v.B)→∀p∈bs,leM (rho v.R) s.st ms' p
 | [],bs,h,_,p,hp=>by cases h;cases hp
 |b::l,bs,h,hB,p,hp=>by
  unfold Fv at h;split at h
  ·rename_i ty cells hm;split at h
   ·rename_i r rest hr hrest;cases h;rcases D4.1 hp with rfl|hp
    ·have hb:=hB b E2;have h3:=hk;simp only[P1,w8,List.all_eq_true]at h3;have:=h3.2.2.1 b hb;have e:rho v.R b=some b:=(by unfold rho;rw[this.1]);exact Jh e hm ⟨rfl,Nk hk hr⟩
    ·exact AT hk hrest (fun x hx=>hB x (F7 _ hx)) p hp
   ·cases h
  ·cases h
theorem fP(hk:P1 v ms'=true):∀{R:List (Nat × Nat)} {rs:List (Nat × Blk)},Be s.ms R=some rs→(∀p∈R,p∈v.R)→∀p∈rs,leM (rho v.R) s.st ms' p
 | [],rs,h,_,p,hp=>by cases h;cases hp
 |(j,i)::l,rs,h,hR,p,hp=>by
  unfold Be at h;split at h
  ·rename_i e k xs hm;split at h
   ·rename_i rest hrest;cases h;rcases D4.1 hp with rfl|hp
    ·have h3:=hk;simp only[P1,w8,List.all_eq_true]at h3;exact Jh (W0 (h3.1 _ (hR _ E2)).1) hm ⟨rfl,rfl,TX xs⟩
    ·exact fP hk hrest (fun x hx=>hR x (F7 _ hx)) p hp
   ·cases h
  ·rename_i od hm;split at h
   ·rename_i rest hrest;cases h;rcases D4.1 hp with rfl|hp
    ·have h3:=hk;simp only[P1,w8,List.all_eq_true]at h3;exact Jh (W0 (h3.1 _ (hR _ E2)).1) hm rfl
    ·exact fP hk hrest (fun x hx=>hR x (F7 _ hx)) p hp
   ·cases h
  ·cases h
theorem ED(hk:P1 v ms'=true):∀{Z:List (Nat × Nat × Nat)},(∀p∈Z,p∈v.Z)→∀p∈K4 Z,leM (rho v.R) s.st ms' p
 | [],_,p,hp=>by cases hp
 |(i,e,k)::l,hZ,p,hp=>by
  rcases D4.1 hp with rfl|hp
  ·have h3:=hk;simp only[P1,w8,List.all_eq_true]at h3;have:=h3.2.1 _ (hZ _ E2);have e1:rho v.R i=none:=by
    have h4:=this.1.1;cases hr:rho v.R i with
    |none=>rfl
    |some x=>rw[hr]at h4;cases h4
   exact KG e1 (Nat.lt_of_succ_le (Nat.le_of_ble_eq_true this.2))
  ·exact ED hk (fun x hx=>hZ x (F7 _ hx)) p hp
theorem a2l{s':LS}(h:sE v s=some s'):S9 s.st s'.st:=by
 unfold sE at h;split at h
 ·rename_i bs rs hb hr;split at h
  ·rename_i hk;cases h;rw[KI];refine XN (fun i hi=>?_) ⟨ZG hk v.G,fun p hp=>?_,fun p hp q hq j h1 h2=>?_⟩
   ·unfold rho;rw[show Nat.blt i 1000=true from Nat.ble_eq_true_of_le hi]
   ·rcases z0.1 hp with hp|hp
    ·rcases z0.1 hp with hp|hp
     ·exact AT hk hb (fun _ h=>h) p hp
     ·exact fP hk hr (fun _ h=>h) p hp
    ·exact ED hk (fun _ h=>h) p hp
   ·have h3:=hk;simp only[P1,w8,List.all_eq_true]at h3;obtain⟨i,hi,rfl⟩:=List.getElem_of_mem hp;obtain⟨i',hi',rfl⟩:=List.getElem_of_mem hq;have:=Rt _ h3.2.2.2.1 i i' j (by rw[M1,p8 hi,G0,h1]) (by rw[M1,p8 hi',G0,h2]);subst this;rfl
  ·cases h
 ·cases h
end
end
section
open Go.RowKit
variable{P:Program}
def LS.subst(s:LS)(id:Nat)(x:T):LS:=⟨s.n,s.es.map (fun p=>(p.1,sub3 id x p.2)),(id,none)::s.ms.map fun p=>(p.1,p.2.map (Blk.sub id x))⟩
def LS.frz(s:LS)(id:Nat):LS:=
 match x7 s.ms id with
 |some (.row _ k xs)=>s.subst id (.sl k xs)
 |some (.box _ cs)=>(match L5 cs with|some ts=>s.subst id (.fp ts)|none=>s)
 |_=>s
def LS.frzs(s:LS):List Nat→LS
 | []=>s
 |id::l=>(s.frz id).frzs l
theorem QL(g:A→A)(hg:g .dead=.dead)(t:Nat):∀es:List (Nat × A),lkE (es.map fun p=>(p.1,g p.2)) t=g (lkE es t)
 | []=>hg.symm
 |(i,x)::l=>by
  show lkE ((i,g x)::l.map _) t=_;rw[Wy,Wy];unfold upd;split
  ·rfl
  ·exact QL g hg t l
theorem AY(g:Blk→Blk)(t:Nat):∀ms:List (Nat × Option Blk),lkM (ms.map fun p=>(p.1,p.2.map g)) t=(lkM ms t).map fun b=>b.map g
 | []=>rfl
 |(i,x)::l=>by show lkM ((i,x.map g)::l.map _) t=_;rw[Am,Am,AY g t l];split<;>rfl
theorem a1d(s:LS)(id:Nat)(x:T)(hu:D2 s.ms id=true):(s.subst id x).st=s.st.sub id x:=by
 show St.mk _ _ _ _=St.mk _ _ _ _;congr 1
 ·funext t;exact QL _ rfl t s.es
 ·funext i
  show x7 ((id,none)::_) i=if i=id then none else(x7 s.ms i).map _
  unfold x7;rw[Am,AY];by_cases h:i=id
  ·simp[h]
  ·simp only[h,if_false];cases lkM s.ms i with
   |none=>rfl
   |some b=>cases b<;>rfl
 ·funext i
  show D2 ((id,none)::_) i=D2 s.ms i;unfold D2;rw[Am,AY];by_cases h:i=id
  ·subst h;unfold D2 at hu;simp only[if_true];exact hu.symm
  ·simp only[h,if_false];cases lkM s.ms i<;>rfl
theorem b1R(s:LS)(id:Nat):(s.frz id).st=s.st.frz id:=by
 unfold LS.frz St.frz;show _=match x7 s.ms id with
  |some (.row _ k xs)=>s.st.sub id (.sl k xs)
  |some (.box _ cs)=>(match L5 cs with|some ts=>s.st.sub id (.fp ts)|none=>s.st)
  |_=>s.st
 cases hm:x7 s.ms id with
 |none=>rfl
 |some b=>
  cases b with
  |row e k xs=>exact a1d s id _ (Me hm)
  |obj od=>rfl
  |box ty cs=>
   simp only;cases L5 cs with
   |none=>rfl
   |some ts=>exact a1d s id _ (Me hm)
theorem BU:∀(l:List Nat) (s:LS),(s.frzs l).st=s.st.frzs l
 | [],_=>rfl
 |id::l,s=>by show((s.frz id).frzs l).st=(s.st.frz id).frzs l;rw[BU l,b1R]
def Jw(d:Option Bool)(b:Bool):Bool:=match d with|some b'=>b'|none=>b
def wJ(d:Option Bool)(b:Bool):List Prop:=match d with|some b'=>[b=b']|none=>[]
def eqB(x y:Bool):Bool:=match x,y with|true,true=>true|false,false=>true|_,_=>false
def U2(o:Oper)(q:Orc):Bool:=
 match o.op with
 |.call c=>(match c.callee with
  |.value (.func _)=>(match q with|.call _ r=>N6 r|.io _ _ _=>true|.look _ _=>true|_=>false)
  |_=>false)
 |_=>false
def fpQ(o:Oper)(q:Orc)(st:St):List Nat:=match q with|.look _ _=>Ez o st++v6 o st|_=>Ez o st
def wrQ(o:Oper)(q:Orc)(st:St):List Nat:=match q with|.look _ _=>[]|_=>v6 o st
theorem XB{P:Program}{o:Oper}{ns:List (Nat × Nat × Nat)}{r:A}{s s1:LS}{obs:List Prop}(h:M6 P o (.look ns r) s=some (obs,s1))(ho:H6 obs):∃c f,o.op=.call c∧c.callee=.value (.func f)∧FnP P f (c.args.toList.map fun y=>P9 s.st (s.st.ev y)) r∧(c.args.toList.map fun y=>P9 s.st (s.st.ev y)).all C3=true∧N6 r=true∧s1=s.put o.dst r:=by
 unfold M6 at h
 dsimp only at h
 split at h
 ·rename_i c hc;split at h
  ·rename_i f hf;split at h
   ·rename_i hk;cases h;simp only[w8]at hk;exact⟨c,f,hc,hf,Oo ns hk.1 ho.1,hk.1,hk.2,rfl⟩
   ·cases h
  ·cases h
 ·cases h
theorem b1k{P:Program}{o:Oper}{ns:List (Nat × Nat × Nat)}{r:A}{s s1:LS}{obs:List Prop}(h:M6 P o (.look ns r) s=some (obs,s1))(ho:H6 obs):Br o s.st s1.st []∧Tf P o s.st s1.st (Ez o s.st++v6 o s.st) []:=by obtain⟨c,f,h1,h2,h3,h4,h5,rfl⟩:=XB h ho;rw[B4];refine⟨Pb o s.st r,fun st2 hn he hm K2 hK2=>?_⟩;rw[aQ]at hK2;have hmap:=RJ h1 h2 he fun i hi=>(hm i (.inl (z0.2 hi))).1;exact .inr (.inr (.inr (.inr ⟨c,f,r,h1,h2,by rw[hmap];exact h3,by rw[hmap];exact h4,h5,hK2⟩)))
theorem a4C{P:Program}{o:Oper}{q:Orc}{s s1:LS}{obs:List Prop}(hl:U2 o q=true)(h:M6 P o q s=some (obs,s1))(ho:H6 obs):Y3 P o s.st (fun st=>st=s1.st):=by
 unfold U2 at hl;split at hl
 ·rename_i c e;split at hl
  ·rename_i f hc;split at hl
   ·rename_i ns r
    change B0 P o (.call ns r) s=some (obs,s1)at h
    unfold B0 at h;simp only[e,hc]at h;have key:(c.args.toList.map fun x=>v7 s.st (s.st.ev x)).all C3=true∧H6 [FnP P f (U4 ns 0 (c.args.toList.map fun x=>v7 s.st (s.st.ev x))) r]∧s1=s.put o.dst r:=by
     split at h
     ·rename_i hf _;cases h;exact⟨hf,ho,rfl⟩
     ·rename_i hf _ _;cases h;exact⟨hf,ho,rfl⟩
     ·cases h
    obtain⟨hf,h1,rfl⟩:=key;have hmem:∀x∈c.args.toList,x∈o.op.operands.toList:=fun x hx=>by rw[←Em,e];simp only[opL,hc];exact List.mem_append_right _ hx
    refine Xg r (B4 s o.dst r).symm fun st2 ha K2 hK2=>.inl ?_;have hmap:(c.args.toList.map fun x=>v7 st2 (st2.ev x))=c.args.toList.map fun x=>v7 s.st (s.st.ev x):=List.map_congr_left fun x hx=>by rw[ha.env x (hmem x hx),qB (ha.at (hmem x hx)).2]
    unfold B1;simp only[e,hc];exact .inl ⟨r,by rw[hmap];exact Oo ns hf h1.1,by rw[hmap];exact hf,.inl ⟨hl,hK2⟩⟩
   ·rename_i v r m';unfold M6 at h;simp only[e,hc]at h;split at h
    ·rename_i cargs bs rs ha hb hr hg;split at h
     ·rename_i hok hbk;cases h;simp only[w8,Bool.or_eq_true,List.isEmpty_iff]at hg;exact SN e hc (BN ha hb hr hg.1 hg.2 hok hbk ho.1 _ rfl)
     ·cases h
    ·cases h
   ·obtain⟨c,f,h1,h2,h3,h4,h5,rfl⟩:=XB h ho;exact a0h ⟨c,f,_,h1,h2,h3,h4,h5,(B4 s o.dst _).symm⟩
   ·cases hl
  ·cases hl
 ·cases hl
def R6(P:Program)(dr:Bool)(ops:List Oper):List Oper→List (Option Bool × List Nat × Orc)→LS→Option (List Prop × LS × List (List Nat × List Nat))
 | [],_,s=>some ([],s,[])
 |o::rest,qs,s=>
  match qs with
  | []=>none
  |q::qs=>
  match o.guard with
  |none=>
   (match !dr||(q.2.1.isEmpty&&(X0 o s.st||U2 o q.2.2)),M6 P o q.2.2 (s.frzs q.2.1)with
   |true,some (obs,s')=>(match R6 P dr ops rest qs s' with|some (obs',s'',fps)=>some (obs++obs',s'',(fpQ o q.2.2 s.st,wrQ o q.2.2 s.st)::fps)|none=>none)
   |_,_=>none)
  |some (j,want)=>
   match Bp ops s.st j with
   |.t (.v (.bool b))=>
    (match eqB (Jw q.1 b) want with
    |true=>
     (match !dr||(q.2.1.isEmpty&&(X0 o s.st||U2 o q.2.2)),M6 P o q.2.2 (s.frzs q.2.1)with
     |true,some (obs,s')=>(match R6 P dr ops rest qs s' with|some (obs',s'',fps)=>some (wJ q.1 b++(obs++obs'),s'',(fpQ o q.2.2 s.st,wrQ o q.2.2 s.st)::fps)|none=>none)
     |_,_=>none)
    |false=>(match R6 P dr ops rest qs (s.put o.dst (.tup []))with|some (obs',s'',fps)=>some (wJ q.1 b++obs',s'',([],[])::fps)|none=>none))
   |.tup []=>(match R6 P dr ops rest qs (s.put o.dst (.tup []))with|some (obs',s'',fps)=>some (obs',s'',([],[])::fps)|none=>none)
   |_=>none
theorem RG{d:Option Bool}{b want:Bool}(ho:H6 (wJ d b)):(eqB (Jw d b) want=true→b=want)∧(eqB (Jw d b) want=false→b≠want):=by
 cases d with
 |none=>cases b<;>cases want<;>simp[eqB,Jw]
 |some b'=>have:b=b':=ho.1;subst this;cases b<;>cases want<;>simp[eqB,Jw]
theorem Xf(ops:List Oper):∀(l:List Oper) (qs:List (Option Bool × List Nat × Orc)) (s s':LS) (obs:List Prop) (fps:List (List Nat × List Nat)),R6 P true ops l qs s=some (obs,s',fps)→H6 obs→Nf P ops l s.st fps s'.st
 | [],qs,s,s',obs,fps,h,ho=>by simp only[R6,F8,Rg]at h;obtain⟨-,rfl,rfl⟩:=h;exact .nil _
 |o::rest,qs,s,s',obs,fps,h,ho=>by
  have go:∀{q:List Nat × Orc} {o1:List Prop} {s1:LS},(q.1.isEmpty&&(X0 o s.st||U2 o q.2))=true→M6 P o q.2 (s.frzs q.1)=some (o1,s1)→H6 o1→
    Br o s.st s1.st (wrQ o q.2 s.st)∧Tf P o s.st s1.st (fpQ o q.2 s.st) (wrQ o q.2 s.st):=fun{q o1 s1} hk hst h1=>by
   simp only[w8,List.isEmpty_iff]at hk;obtain⟨hq0,hk⟩:=hk;rw[hq0]at hst
   change M6 P o q.2 s=some (o1,s1)at hst
   by_cases hlk:∃ns r,q.2=.look ns r
   ·obtain⟨ns,r,e⟩:=hlk;rw[e]at hst⊢;exact b1k hst h1
   have ef:fpQ o q.2 s.st=Ez o s.st:=(by unfold fpQ;split<;>first|rfl|(rename_i e;exact absurd ⟨_,_,e⟩ hlk))
   have ew:wrQ o q.2 s.st=v6 o s.st:=(by unfold wrQ;split<;>first|rfl|(rename_i e;exact absurd ⟨_,_,e⟩ hlk))
   rw[ef,ew];have hlocal:Y3 P o s.st (fun st=>st=s1.st):=by
    rcases(by simpa[or_comm]using hk:U2 o q.2=true∨X0 o s.st=true)with hl|hk
    ·exact a4C hl hst h1
    ·exact a2a hk (a0p hst h1 (fun st=>st=s1.st) rfl)
   obtain⟨s',hK,hf,hloc⟩:=hlocal;subst hK;exact⟨hf,fun st2 h0 h1 h2 K2 hK2=>hloc st2 ⟨h0,h1,fun i hi=>(h2 i hi).1,fun i hi=>(h2 i (.inr hi)).2⟩ K2 hK2⟩
  unfold R6 at h;split at h
  ·cases h
  ·rename_i q qs;split at h
   ·rename_i hg;split at h
    ·rename_i o1 s1 hk hst;split at h
     ·rename_i o2 s2 fps2 hr;cases h;obtain⟨h1,h2⟩:=iL ho;obtain⟨hf,hx⟩:=go (by simpa using hk) hst h1;exact .cons o rest _ _ _ _ _ _ hf (by unfold Ej;rw[hg];exact hx) (Xf ops rest qs s1 s' _ _ hr h2)
     ·cases h
    ·cases h
   ·rename_i j want hg;split at h
    ·rename_i b hb;split at h
     ·rename_i he;split at h
      ·rename_i o1 s1 hk hst;split at h
       ·rename_i o2 s2 fps2 hr;cases h;obtain⟨h0,h12⟩:=iL ho;obtain⟨h1,h2⟩:=iL h12;obtain⟨hf,hx⟩:=go (by simpa using hk) hst h1;exact .cons o rest _ _ _ _ _ _ hf (by unfold Ej;rw[hg];exact .inl ⟨b,hb,fun _=>hx,fun hn=>absurd ((RG h0).1 he) hn⟩) (Xf ops rest qs s1 s' _ _ hr h2)
       ·cases h
      ·cases h
     ·rename_i he;split at h
      ·rename_i o2 s2 fps2 hr;cases h;obtain⟨h0,h2⟩:=iL ho;refine .cons o rest _ (s.put o.dst (.tup [])).st _ [] [] _ (by rw[B4];exact Pb o s.st (.tup [])) (by unfold Ej;rw[hg];exact .inl ⟨b,hb,fun hy=>absurd hy ((RG h0).2 he),fun _=>⟨B4 _ _ _,rfl⟩⟩) (Xf ops rest qs _ s' _ _ hr h2)
      ·cases h
    ·rename_i hb;split at h
     ·rename_i o2 s2 fps2 hr;cases h;exact .cons o rest _ (s.put o.dst (.tup [])).st _ [] [] _ (by rw[B4];exact Pb o s.st (.tup [])) (by unfold Ej;rw[hg];exact .inr ⟨hb,B4 _ _ _,rfl⟩) (Xf ops rest qs _ s' _ _ hr ho)
     ·cases h
    ·cases h
theorem RR{x:A}(h:X6 x=true):Fo x x:=by cases x<;>first|exact .refl _|(simp[X6]at h)
def Cq:Nat→List A→List (Nat × A)
 |_,[]=>[]
 |i,x::l=>(i,x)::Cq (i+1) l
theorem XC:∀(l:List A) (i t:Nat),lkE (Cq i l) t=if i≤t then(l[t-i]?).getD .dead else .dead
 | [],i,t=>by simp[Cq,lkE]
 |x::l,i,t=>by
  show lkE ((i,x)::Cq (i+1) l) t=_;rw[Wy];unfold upd;rw[XC l (i+1) t];by_cases h:t=i
  ·subst h;simp
  ·rw[if_neg h];by_cases h2:i+1≤t
   ·rw[if_pos h2,if_pos (by omega),show t-i=(t-(i+1))+1 by omega,List.getElem?_cons_succ]
   ·rw[if_neg h2,if_neg (by omega)]
end
section
open Go.RowKit
variable{P:Program}
def K6(v:CV)(ms:List (Nat × Option Blk)):Nat→List A→Option (List A)
 |_,[]=>some []
 |i,.agg cs::l=>(match T5 v ms v.N i 0 cs,K6 v ms (i+1) l with|some r,some rest=>some (.agg r::rest)|_,_=>none)
 |i,a::l=>(match K5 v ms (C2 v.N i 0) a,K6 v ms (i+1) l with|some r,some rest=>some (r::rest)|_,_=>none)
def bP(v:CV)(ms:List (Nat × Option Blk))(x:A):Option A:=
 match x with
 |.tup cs=>(match K6 v ms 0 cs with|some r=>some (.tup r)|none=>none)
 |.agg cs=>(match T5 v ms v.N 0 0 cs with|some r=>some (.agg r)|none=>none)
 |a=>K5 v ms (C2 v.N 0 0) a
def Je(P:Program)(v:CV)(rs:List ResultVar)(s:LS):Option (A × List (Nat × Blk)):=
 match Hl P s.st rs,Fv v s.ms v.B,Be s.ms v.R with
 |some x,some bs,some rs=>
  (match P1 v (O8 (bs++rs++K4 v.Z)),bP v s.ms x with
  |true,some r=>some (r,O8 (bs++rs++K4 v.Z))
  |_,_=>none)
 |_,_,_=>none
section
variable{v:CV}{s:LS}{ms':List (Nat × Blk)}
theorem KH(hk:P1 v ms'=true):∀{l r:List A} {i:Nat},K6 v s.ms i l=some r→Bu (rho v.R) s.st ms' l r
 | [],r,i,h=>by simp only[K6,F8]at h;subst h;trivial
 |x::l,r,i,h=>by
  unfold K6 at h;split at h
  ·rename_i e;cases e
  ·rename_i cs l' e;cases e;split at h
   ·rename_i r1 rest h1 h2;cases h;exact⟨Nk hk h1,KH hk h2⟩
   ·cases h
  ·rename_i a l' _ e;cases e;split at h
   ·rename_i r1 rest h1 h2;cases h;exact⟨jJ (rW hk h1),KH hk h2⟩
   ·cases h
theorem QM{ρ:Nat→Option Nat}{st:St}{ms:List (Nat × Blk)}{x y:A}(h:le2 ρ st ms x y):le3 ρ st ms x y:=by
 unfold le3;split
 ·exact h.elim
 ·exact h
theorem a7o(hk:P1 v ms'=true){x r:A}(h:bP v s.ms x=some r):le3 (rho v.R) s.st ms' x r:=by
 unfold bP at h;split at h
 ·split at h
  ·rename_i r' hr;cases h;exact KH hk hr
  ·cases h
 ·split at h
  ·rename_i r' hr;cases h;exact QM (Nk hk hr)
  ·cases h
 ·exact QM (jJ (rW hk h))
theorem a2k(hk:P1 v ms'=true){bs rs:List (Nat × Blk)}(hb:Fv v s.ms v.B=some bs)(hr:Be s.ms v.R=some rs)(e:ms'=O8 (bs++rs++K4 v.Z)):Q7 (rho v.R) s.st [] ms':=by
 refine⟨fun p hp=>(by cases hp),fun p hp=>?_,fun p hp q hq j h1 h2=>?_⟩
 ·rw[e]at hp;rcases z0.1 (HV hp)with hp|hp
  ·rcases z0.1 hp with hp|hp
   ·exact AT hk hb (fun _ h=>h) p hp
   ·exact fP hk hr (fun _ h=>h) p hp
  ·exact ED hk (fun _ h=>h) p hp
 ·have h3:=hk;simp only[P1,w8,List.all_eq_true]at h3;obtain⟨i,hi,rfl⟩:=List.getElem_of_mem hp;obtain⟨i',hi',rfl⟩:=List.getElem_of_mem hq;have:=Rt _ h3.2.2.2.1 i i' j (by rw[M1,p8 hi,G0,h1]) (by rw[M1,p8 hi',G0,h2]);subst this;rfl
end
theorem NJ{fn:Func}{r:A}{m':List (Nat × Blk)}{s:LS}(v:CV)(h:Je P v fn.results.toList s=some (r,m')):∃ρ:Nat→Option Nat,(∀i,i<1000→ρ i=some i)∧∃x,Hl P s.st fn.results.toList=some x∧le3 ρ s.st m' x r∧Q7 ρ s.st [] m':=by
 unfold Je at h;split at h
 ·rename_i x bs rs hx hb hr;split at h
  ·rename_i r' hk hc;cases h;exact⟨rho v.R,fun i hi=>by unfold rho;rw[show Nat.blt i 1000=true from Nat.ble_eq_true_of_le hi],x,hx,a7o hk hc,a2k hk hb hr rfl⟩
  ·cases h
 ·cases h
theorem a9G{fn:Func}{r:A}{m':List (Nat × Blk)}{s:LS}(v:CV)(h:Je P v fn.results.toList s=some (r,m')):Ch P fn r m' .ret s.st:=NJ v h
theorem b3x{fn:Func}{r:A}{m':List (Nat × Blk)}{s:LS}(v:CV)(h:Je P v fn.results.toList s=some (r,m')):Ch P fn r m' .normal s.st:=NJ v h
theorem a4d(n:Nat)(args:List A)(m:List (Nat × Blk)):(LS.mk n (Cq 0 args) (S7 m)).st=Ui n args m:=by
 unfold LS.st Ui;congr 1
 ·funext t
  rw[XC];simp
 ·funext i;exact(wM m i).1
 ·funext i;exact(wM m i).2
theorem a4L{f:FuncId}{fn:Func}{c:Code}{args:List A}{m m':List (Nat × Blk)}{r:A}(hf:P.funcs[f]? =some fn)(hb:fn.body=some c)(hpl:Cr P f=true)(hn:args.length≤fn.ntmps)(h9:fn.ntmps≤900)(h:W P c (LS.mk fn.ntmps (Cq 0 args) (S7 m)).st (Ch P fn r m')):T9 P f args m r m':=by rw[a4d]at h;exact b4k hf hb hpl hn h9 h
theorem YF:∀{cs:List A},cs.all X6=true→Ux cs cs
 | [],_=>trivial
 |x::l,h=>by simp only[List.all_cons,w8]at h;exact⟨RR h.1,YF h.2⟩
theorem CP{x:A}(h:C3 x=true):Dd x x:=by
 cases x with
 |agg cs=>exact YF h
 |_=>exact QB (RR h)
theorem AG{f:FuncId}{args:List A}{r r':A}{m':List (Nat × Blk)}(h:T9 P f args [] r m')(he:Ur (mst m') r=r')(hr:mX r'=true):FnP P f args r':=by
 refine⟨h.1,fun w X vals hX hsz hargs=>?_⟩
 let C:Ctx:=⟨P,X,fun _=>False,w,fun _=>none⟩
 have hs:w6 C (mst []) (fun _=>nol) Ma w:=⟨rfl,rfl,fun t=>.dead _,fun id blk h=>(by cases h),fun i j b hi=>(by cases hi),fun i b hi=>(by cases hi),hX,rfl,rfl,rfl,i8 _,fun _ _ _=>rfl,fun _ _ h=>(by cases h),fun _ _ h=>(by cases h)⟩;have hM:∀b,Mut C (mst []) (fun _=>nol) b→X b:=by
  rintro b (hx|⟨i,hi,_⟩)
  ·exact hx
  ·cases hi
 refine(h.2 C (fun _=>nol) vals rfl (fun _ _ h=>(by cases h)) hs hsz fun i hi=>RepA.ext (hargs i hi) (Ext.refl _ _) (fun b _ h=>hM b h) (fun id hi=>by simp at hi) (fun id hi=>by simp at hi)).mono ?_;rintro e w' ⟨v,L',rfl,hs',hr'⟩;refine⟨v,rfl,⟨hs'.os,hs'.tape,hs'.output,hs'.size,fun k hk=>hs'.block k hk (fun h=>h)⟩,?_⟩;have h3:=a61 hs' (M':=X) (fun b h=>.inl h) (fun id e k xs hm b hb hx=>(hs'.out id b (by rw[hm];rfl) hb).1 hx) hr';rw[he]at h3;refine QO (x:=r') ?_ h3;unfold leF;split
 ·rename_i cs ds;have:∀l:List A,l.all C3=true→eU l l:=fun l=>by
   induction l with
   |nil=>intro _;trivial
   |cons x l ih=>intro h;simp only[List.all_cons,w8]at h;exact⟨CP h.1,ih h.2⟩
  exact this _ hr
 ·rename_i x y hne;cases r' with
  |tup cs=>exact absurd rfl (hne cs cs rfl)
  |_=>exact CP hr
end
end
end Go.Proofs.YtabmahknlebhpaaGreat
