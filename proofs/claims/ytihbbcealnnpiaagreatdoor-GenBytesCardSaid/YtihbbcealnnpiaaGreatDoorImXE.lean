/- Parts of the proof. -/
import Derived.Test.YtihbbcealnnpiaaGreatDoorImXC
set_option linter.unusedVariables false
namespace Go.Proofs.YtihbbcealnnpiaaGreatDoor
section
section
open Go.RowKit
variable{P:Program}
structure LS where
 n:Nat
 es:List (Nat × A)
 ms:List (Nat × Option Blk)
def lkE:List (Nat × A)->Nat->A
 | [],_=>.dead
 |(i,x)::l,t=>match Nat.beq t i with|true=>x|false=>lkE l t
def lkM:List (Nat × Option Blk)->Nat->Option (Option Blk)
 | [],_=>none
 |(i,x)::l,t=>match Nat.beq t i with|true=>some x|false=>lkM l t
def A6(ms:List (Nat × Option Blk))(i:Nat):Option Blk:=match lkM ms i with|some (some b)=>some b|_=>none
def E6(ms:List (Nat × Option Blk))(i:Nat):Bool:=match lkM ms i with|some _=>true|none=>false
def LS.st(s:LS):St:=⟨s.n,lkE s.es,A6 s.ms,E6 s.ms⟩
def LS.put(s:LS)(d:Option Nat)(a:A):LS:=match d with|some d=>⟨s.n,(d,a)::s.es,s.ms⟩|none=>s
def LS.new(s:LS)(id:Nat)(b:Blk):LS:=⟨s.n,s.es,(id,some b)::s.ms⟩
def LS.del(s:LS)(id:Nat):LS:=⟨s.n,s.es,(id,none)::s.ms⟩
theorem F2{t i:Nat}(h:Nat.beq t i=true):t=i:=Nat.eq_of_beq_eq_true h
theorem Qt{t i:Nat}(h:Nat.beq t i=false):t≠i:=λe=>by rw[e]at h;simp at h
theorem Yh(i:Nat)(x:A)(l:List (Nat × A)):lkE ((i,x)::l)=upd (lkE l) i x:=by
 funext t
 unfold lkE upd;cases h:Nat.beq t i with
 |true=>simp[F2 h]
 |false=>simp[Qt h]
theorem Dl(i:Nat)(x:Option Blk)(l:List (Nat × Option Blk))(t:Nat):lkM ((i,x)::l) t=if t=i then some x else lkM l t:=by
 show(match Nat.beq t i with|true=>some x|false=>lkM l t)=_;cases h:Nat.beq t i with
 |true=>rw[if_pos (F2 h)]
 |false=>rw[if_neg (Qt h)]
theorem a0n(i:Nat)(b:Blk)(l:List (Nat × Option Blk)):A6 ((i,some b)::l)=upd (A6 l) i (some b):=by
 funext t
 simp only[A6,upd,Dl];by_cases h:t=i<;>simp[h]
theorem a2Q(i:Nat)(l:List (Nat × Option Blk)):A6 ((i,none)::l)=upd (A6 l) i none:=by
 funext t
 simp only[A6,upd,Dl];by_cases h:t=i<;>simp[h]
theorem AZ(i:Nat)(x:Option Blk)(l:List (Nat × Option Blk)):E6 ((i,x)::l)=upd (E6 l) i true:=by
 funext t
 simp only[E6,upd,Dl];by_cases h:t=i<;>simp[h]
theorem E5(s:LS)(d:Option Nat)(a:A):(s.put d a).st=s.st.put d a:=by
 cases d with
 |none=>rfl
 |some d=>simp only[LS.put,LS.st,St.put,Yh]
theorem Jx(s:LS)(id:Nat)(b:Blk):(s.new id b).st=s.st.new id b:=by simp only[LS.new,LS.st,St.new,a0n,AZ]
theorem So{ms:List (Nat × Option Blk)}{id:Nat}{b:Blk}(h:A6 ms id=some b):E6 ms id=true:=by
 unfold A6 at h;unfold E6;split at h
 ·rename_i b' z;rw[z]
 ·cases h
theorem WF{α:Type}(f:Nat->α)(i:Nat)(x:α)(h:f i=x):upd f i x=f:=by
 funext t;unfold upd;split
 ·rename_i e;rw[e,h]
 ·rfl
theorem lP(s:LS)(id:Nat)(b b':Blk)(h:s.st.mem id=some b'):(s.new id b).st=s.st.setm id b:=by simp only[LS.new,LS.st,St.setm,a0n,AZ];rw[WF (E6 s.ms) id true (So h)]
theorem JZ(s:LS)(id:Nat)(b':Blk)(h:s.st.mem id=some b'):(s.del id).st=s.st.del id:=by simp only[LS.del,LS.st,St.del,a2Q,AZ];rw[WF (E6 s.ms) id true (So h)]
def L6:List Prop->Prop
 | []=>True
 |p::l=>p/\L6 l
theorem mJ{l r:List Prop}(h:L6 (l++r)):L6 l/\L6 r:=by
 induction l with
 |nil=>exact⟨trivial,h⟩
 |cons p l ih=>exact⟨⟨h.1,(ih h.2).1⟩,(ih h.2).2⟩
def Ry(xs:List (List T))(n:Int)(m:Nat)(el:List T):Prop:=n=(m:Int)/\xs[m]? =some el
def Yv(s:ByteArray)(n:Int)(m:Nat)(b:UInt8):Prop:=n=(m:Int)/\s[m]? =some b
def P9(by_ n:Nat):Prop:=n*by_<=140737488355328/\n<=maxLen
def Z5(x y:List (List T)):Prop:=x=y
def Ej(P:Program)(op:BinOp)(ty:TypeId)(x y z:Value):Prop:=mS P op ty x y=some z
inductive A8 where
 |sl(k:Nat)
 |row(id:Nat)
def D5:List (Nat × Nat × A8)->Nat->Nat->Option A8
 | [],_,_=>none
 |(i,j,k)::l,i',j'=>match Nat.beq i i'&&Nat.beq j j' with|true=>some k|false=>D5 l i' j'
def rnm:List (Nat × Nat)->Nat->Option Nat
 | [],_=>none
 |(j,i)::l,j'=>match Nat.beq j j' with|true=>some i|false=>rnm l j'
def Xc:List (Nat × Nat)->Nat->Option Nat
 | [],_=>none
 |(j,i)::l,i'=>match Nat.beq i i' with|true=>some j|false=>Xc l i'
def D9:List Nat->Nat->Bool
 | [],_=>false
 |i::l,j=>match Nat.beq i j with|true=>true|false=>D9 l j
def XQ:Option Nat->Bool
 |none=>true
 |some _=>false
def Bd(j:Nat):Option Nat->Bool
 |some i=>Nat.beq i j
 |none=>false
def eG:Option Blk->Bool
 |some (.row _ _ [])=>true
 |_=>false
def lY:Option Blk->Bool
 |some _=>true
 |_=>false
def Sj:List (Option Nat)->Bool
 | []=>true
 |none::l=>Sj l
 |some x::l=>(l.all λy=>!(Bd x y))&&Sj l
structure IOV where
 B:List (Nat × Nat)
 R:List (Nat × Nat)
 F:List Nat
 Z:List (Nat × Nat × Nat)
 N:List (Nat × Nat × A8)
 M:List (Nat × Nat × A8)
 V:List (Nat × Nat)
def R5(v:IOV)(i:Nat):Option Nat:=match Xc v.B i with|some j=>some j|none=>Xc v.R i
def J4(v:IOV)(i:Nat):Nat:=match rnm v.V i with|some j=>j|none=>i
def G4(J:List Nat)(ms:List (Nat × Option Blk))(i:Nat):Option Blk:=match D9 J i with|true=>A6 ms i|false=>none
def ioL(v:IOV)(gm:Nat->Option Blk)(nt:Option A8)(a:A):Option A:=
 match a with
 |.t x=>(match nt,x with
  |some (.sl k),.v (.slice none 0 0)=>some (.t (.sl k []))
  |some (.row id),.v (.slice none 0 0)=>(match D9 (v.Z.map (·.1)) id with|true=>some (.ref id)|false=>none)
  |_,x=>some (.t x))
 |.ref j=>(match rnm v.R j with
  |some i=>some (.ref i)
  |none=>(match D9 v.F j,gm j with|true,some (.row e k xs)=>some (.t (.sl k xs))|_,_=>none))
 |.ptr j o=>(match rnm v.B j with|some i=>some (.ptr i o)|none=>none)
 |.ifc t j o=>(match rnm v.B j with|some i=>some (.ifc t i o)|none=>none)
 |.rptr j p q=>(match rnm v.R j with|some i=>some (.rptr i p q)|none=>none)
 |.ob j=>(match rnm v.R j with|some i=>some (.ob i)|none=>none)
 |.fel x=>some (.fel x)
 |_=>none
def Gk(v:IOV)(gm:Nat->Option Blk)(sp:List (Nat × Nat × A8))(t:Nat):Nat->List A->Option (List A)
 |_,[]=>some []
 |j,a::l=>match ioL v gm (D5 sp t j) a,Gk v gm sp t (j+1) l with|some x,some r=>some (x::r)|_,_=>none
def Lw(v:IOV)(gm:Nat->Option Blk)(i:Nat)(a:A):Option A:=
 match a with
 |.agg cs=>(match Gk v gm v.N i 0 cs with|some r=>some (.agg r)|none=>none)
 |a=>ioL v gm (D5 v.N i 0) a
def Lc(v:IOV)(gm:Nat->Option Blk):Nat->List A->Option (List A)
 |_,[]=>some []
 |i,a::l=>match Lw v gm i a,Lc v gm (i+1) l with|some x,some r=>some (x::r)|_,_=>none
def ioB(v:IOV)(gm:Nat->Option Blk):List (Nat × Nat)->Option (List (Nat × Blk))
 | []=>some []
 |(j,i)::l=>match gm j with
  |some (.box ty cells)=>(match Gk v gm v.M i 0 cells,ioB v gm l with|some r,some rest=>some ((i,.box ty r)::rest)|_,_=>none)
  |_=>none
def ioR(gm:Nat->Option Blk):List (Nat × Nat)->Option (List (Nat × Blk))
 | []=>some []
 |(j,i)::l=>match gm j with
  |some (.row e k xs)=>(match ioR gm l with|some rest=>some ((i,.row e k xs)::rest)|none=>none)
  |some (.obj od)=>(match ioR gm l with|some rest=>some ((i,.obj od)::rest)|none=>none)
  |_=>none
def ioZ:List (Nat × Nat × Nat)->List (Nat × Blk)
 | []=>[]
 |(i,e,k)::l=>(i,.row e k [])::ioZ l
def wM:Option Blk->Blk->Bool
 |some (.box _ _),.box _ _=>true
 |some (.obj x),.obj y=>(match x.isMap,y.isMap with|true,true=>true|false,false=>true|_,_=>false)
 |_,_=>false
def Ax:List Nat->Bool
 | []=>true
 |i::l=>(match D9 l i with|true=>false|false=>true)&&Ax l
def Ou(p:Nat × Blk):List (Nat × Blk)->List (Nat × Blk)
 | []=>[p]
 |q::l=>match Nat.ble p.1 q.1 with|true=>p::q::l|false=>q::Ou p l
def S7:List (Nat × Blk)->List (Nat × Blk)
 | []=>[]
 |p::l=>Ou p (S7 l)
def W9(v:IOV)(J:List Nat)(m:List (Nat × Blk)):Bool:=
 (v.R.all λp=>Bd p.1 (R5 v p.2)&&lY (look m p.2))&&
 ((v.B.all λp=>Bd p.1 (R5 v p.2)&&lY (look m p.2))&&
 ((v.Z.all λp=>XQ (R5 v p.1)&&eG (look m p.1)&&Nat.blt 0 p.2.2)&&
 (Sj (m.map λp=>R5 v p.1)&&
 ((v.F.all λj=>m.all λp=>!(Bd j (R5 v p.1)))&&
 (m.all λp=>match R5 v p.1 with|some j=>D9 J j|none=>true)))))
def Zb(v:IOV)(s:LS)(d:Option Nat)(m m':List (Nat × Blk)):Bool:=
 Ax (m'.map (·.1))&&(Ax (m'.map λp=>J4 v p.1)&&
 (m'.all λp=>match W7 p.1 with
  |true=>Bd (J4 v p.1) (R5 v p.1)&&wM (look m p.1) p.2
  |false=>(match E6 s.ms (J4 v p.1)with|true=>false|false=>true)&&(Nat.blt (J4 v p.1) s.n||Nat.ble 1000 (J4 v p.1))&&D9 (Rc d) (J4 v p.1)))
def Kk(v:IOV):List (Nat × Blk)->List (Nat × Option Blk)
 | []=>[]
 |(i,b)::l=>(J4 v i,some (b.ren (J4 v)))::Kk v l
def Dv(ms:List (Nat × Option Blk)):List Nat->List (Nat × Option Blk)
 | []=>[]
 |j::l=>match E6 ms j with|true=>(j,none)::Dv ms l|false=>Dv ms l
def LS.back(s:LS)(v:IOV)(J:List Nat)(m':List (Nat × Blk)):LS:=⟨s.n,s.es,Kk v m'++(Dv s.ms J++s.ms)⟩
inductive Orc where
 |no
 |ix(m:Nat)(el:List T)
 |sx(m:Nat)(b:UInt8)
 |rows(xs:List (List T))
 |set(el:List T)(xs:List (List T))
 |len(n:Nat)
 |dec(b:Bool)
 |val(z:Value)
 |call(nils:List (Nat × Nat × Nat))(r:A)
 |quiet(x:A)
 |makes(e:TypeId)(k:Nat)(ys:List (List T))
 |moves(i:Nat)(b:Blk)
 |sets(i:Nat)(b:Blk)(r:A)
 |io(v:IOV)(r:A)(m':List (Nat × Blk))
 |callv(r:A)
 |newo(od:Od)
 |look(nils:List (Nat × Nat × Nat))(r:A)
def JH(t:Bool)(x y:A):A:=
 match t with
 |true=>x
 |false=>y
def Wi(t:Bool)(x y:Value):Value:=
 match x,y with
 |.bool a,.bool b=>.bool (cond t a b)
 |.int .i64 a,.int .i64 b=>.int .i64 (cond t a b)
 |.int .u8 a,.int .u8 b=>.int .u8 (cond t a b)
 |.string a,.string b=>.string (cond t a b)
 |x,y=>match t with|true=>x|false=>y
theorem WC(t:Bool)(x y:Value):Wi t x y=(match t with|true=>x|false=>y):=by unfold Wi;split<;>cases t<;>rfl
def Vg(t:Bool)(x y:A):A:=
 match x,y with
 |.t (.v a),.t (.v b)=>.t (.v (Wi t a b))
 |x,y=>Nl t x y
theorem a0M(t:Bool)(x y:A):Vg t x y=Nl t x y:=by
 unfold Vg;split
 ·rw[WC];cases t<;>rfl
 ·rfl
def Gc(k:Option Nat)(x:A):A:=match k,x with|some k,.t (.v (.slice none 0 0))=>.t (.sl k [])|_,x=>x
def Gv:List (Nat × Nat × Nat)->Nat->Nat->Option Nat
 | [],_,_=>none
 |(i,j,k)::l,i',j'=>match Nat.beq i i'&&Nat.beq j j' with|true=>some k|false=>Gv l i' j'
def Qv(ns:List (Nat × Nat × Nat))(i:Nat):Nat->List A->List A
 |_,[]=>[]
 |j,x::l=>Gc (Gv ns i j) x::Qv ns i (j+1) l
def Pq(ns:List (Nat × Nat × Nat))(i:Nat)(x:A):A:=match x with|.agg cs=>.agg (Qv ns i 0 cs)|x=>Gc (Gv ns i 0) x
def Z6(ns:List (Nat × Nat × Nat)):Nat->List A->List A
 |_,[]=>[]
 |i,x::l=>Pq ns i x::Z6 ns (i+1) l
theorem LJ(k:Option Nat)(x:A)(h:Bw x=true):Ia x (Gc k x):=by
 unfold Gc;split
 ·exact .nil _
 ·cases x<;>simp[Bw]at h;exact .refl _
theorem MS(z:List (Nat × Nat × Nat))(i:Nat):∀(l:List A) (j:Nat),l.all Bw=true->Wh l (Qv z i j l)
 | [],_,_=>trivial
 |x::l,j,h=>by simp only[List.all_cons,x7]at h;exact⟨LJ _ x h.1,MS z i l (j+1) h.2⟩
theorem QT{x y:A}(h:Ia x y):Fo x y:=by cases x<;>cases y<;>first|exact h|exact h.elim
theorem a2T(z:List (Nat × Nat × Nat))(i:Nat)(x:A)(h:E2 x=true):Fo x (Pq z i x):=by
 cases x with
 |agg cs=>exact MS z i cs 0 h
 |_=>exact QT (LJ _ _ h)
theorem xX(z:List (Nat × Nat × Nat)):∀(l:List A) (i:Nat),(Z6 z i l).length=l.length
 | [],_=>rfl
 |x::l,i=>by simp[Z6,xX z l]
theorem TO(z:List (Nat × Nat × Nat)):∀(l:List A) (i j:Nat) (h:j<l.length) (B:j<(Z6 z i l).length),l.all E2=true->Fo l[j] (Z6 z i l)[j]
 |x::l,i,0,_,_,ha=>by simp only[List.all_cons,x7]at ha;exact a2T z i x ha.1
 |x::l,i,j+1,h,B,ha=>by simp only[List.all_cons,x7]at ha;exact TO z l (i+1) j (by simpa using h) (by simpa[Z6]using B) ha.2
theorem a6o{w:World}{M:Nat->Prop}{x y:A}{v:Value}(h:Fo x y)(z:D4 w M x v):D4 w M y v:=zT h z
theorem Vw{f:FuncId}{args:List A}{r:A}(G:List (Nat × Nat × Nat))(H:args.all E2=true)(h:FnP P f (Z6 G 0 args) r):FnP P f args r:=by refine⟨h.1,λw X C I F z=>h.2 w X C I (by rw[F,xX]) λi hi=>?_⟩;have B:i<args.length:=(by rw[xX]at hi;exact hi);exact a6o (TO G args 0 i B hi H) (z i B)
def Pb(s:LS)(q:Orc)(a:A):Option (List Prop):=
 match a with
 |.rptr id i j=>(match A6 s.ms id,q with|some (.row _ _ xs),.ix _ el=>some [xs[i]? =some el]|_,_=>none)
 |a=>match S6 s.st a with|true=>some []|false=>none
theorem ZU{s:LS}{q:Orc}{a:A}{obs:List Prop}(h:Pb s q a=some obs)(F:L6 obs):S6 s.st a=true:=by
 unfold Pb at h;split at h
 ·rename_i id i j;split at h
  ·rename_i H I xs m G C;cases h;show(match s.st.mem id with|some (.row _ _ xs)=>decide (i<xs.length)|_=>false)=true;rw[show s.st.mem id=some (.row _ _ xs)from C];have:=F.1;simp only[decide_eq_true_eq]
   apply Nat.lt_of_not_le
   intro z;rw[List.getElem?_eq_none z]at this;cases this
  ·cases h
 ·split at h
  ·rename_i B;exact B
  ·cases h
def C6(P:Program)(o:Oper)(q:Orc)(s:LS):Option (List Prop × LS):=
 match o.op with
 |.move x|.assign x=>some ([],s.put o.dst (s.st.ev x))
 |.pick c a b=>match s.st.ev c with
  |.t (.v (.bool t))=>(match q with
   |.dec b'=>some ([t=b'],s.put o.dst (JH b' (s.st.ev a) (s.st.ev b)))
   |_=>some ([],s.put o.dst (Vg t (s.st.ev a) (s.st.ev b))))
  |_=>none
 |.alloc ty=>match o.dst,x9 P ty with|some d,some ti=>(match E6 s.ms d with|false=>some ([],(s.new d (.box ty (ti.zero.map .v))).put (some d) (.ptr d 0))|true=>none)|_,_=>none
 |.box ty x=>match o.dst,cellsOf (s.st.ev x)with|some d,some cs=>(match E6 s.ms d with|false=>some ([],(s.new d (.box ty cs)).put (some d) (.ptr d 0))|true=>none)|_,_=>none
 |.build t parts=>match x9 P t with
  |some ti=>match I9 P t,Gl ti.fs (ti.zero.map .v) (parts.toList.map λ(i,x)=>(i,s.st.ev x))with|.strct,some cs=>some ([],s.put o.dst (.agg cs))|_,_=>none
  |none=>none
 |.buildSlice t len parts=>match o.dst,x9 P t with
  |some d,some ti=>match ti.elem with
   |some e=>match x9 P e with
    |some te=>match E6 s.ms d,Nat.blt 0 te.size&&Nat.beq parts.size len&&Nat.ble (len*te.size) 16777216,(parts.toList.flatMap λ(_,x)=>E9 (s.st.ev x))with
     |false,true,[]=>(match Dn te.size 0 (parts.toList.map λ(i,x)=>(i,s.st.ev x))with
      |some xs=>some ([],(s.new d (.row e te.size xs)).put (some d) (.ref d))
      |none=>none)
     |_,_,_=>none
    |none=>none
   |none=>none
  |_,_=>none
 |.load t a=>match x9 P t with
  |some ti=>
   (match q with
   |.ix m el=>(match s.st.ev a with
    |.rptr id i j=>(match A6 s.ms id,R9 ((el.drop j).map .t) 0 ti.size ti.agg with
     |some (.row _ _ xs),some x=>some ([xs[i]? =some el],s.put o.dst x)
     |_,_=>none)
    |_=>none)
   |_=>match U6 s.st (s.st.ev a) ti with|some x=>some ([],s.put o.dst x)|none=>none)
  |none=>none
 |.store t a x=>match x9 P t,cellsOf (s.st.ev x)with
  |some ti,some cs=>(match Nat.beq cs.length ti.size with
   |true=>(match s.st.ev a with
    |.ptr id off=>(match A6 s.ms id with
     |some (.box ty cells)=>(match Nat.ble (off+cs.length) cells.length with
      |true=>some ([],(s.new id (.box ty (cells.take off++cs++cells.drop (off+cs.length)))).put o.dst .dead)
      |false=>none)
     |_=>none)
    |.rptr id i j=>(match A6 s.ms id,O3 cs,q with
     |some (.row e k xs),some l,.set el ys=>(match Nat.ble (j+l.length) el.length with
      |true=>some ([xs[i]? =some el,Z5 (xs.set i (el.take j++l++el.drop (j+l.length))) ys],(s.new id (.row e k ys)).put o.dst .dead)
      |false=>none)
     |_,_,_=>none)
    |_=>none)
   |false=>none)
  |_,_=>none
 |.nilCheck x=>match Pb s q (s.st.ev x)with|some obs=>some (obs,s.put o.dst (s.st.ev x))|none=>none
 |.binOp op ty x y _=>
  match q with
  |.val z=>(match s.st.ev x,s.st.ev y,z.oneCell' with
   |.t (.v x),.t (.v y),true=>some ([Db P s.st op ty (.t (.v x)) (.t (.v y))=some z],s.put o.dst (.v z))
   |_,_,_=>none)
  |_=>match Db P s.st op ty (s.st.ev x) (s.st.ev y)with|some z=>(match z.oneCell' with|true=>some ([],s.put o.dst (.v z))|false=>none)|none=>none
 |.unOp op _ x=>match s.st.ev x with
  |.t (.v y)=>(match unF op y with|some z=>(match z.oneCell' with|true=>some ([],s.put o.dst (.v z))|false=>none)|none=>none)
  |_=>none
 |.convert src dst x=>match Py P src dst (s.st.ev x),x9 P src with|some z,some _=>some ([],s.put o.dst z)|_,_=>none
 |.fieldAddr t x f=>match x9 P t,I9 P t with
  |some ti,.strct=>(match Pb s q (s.st.ev x),Mb ti (s.st.ev x) f with|some obs,some z=>some (obs,s.put o.dst z)|_,_=>none)
  |_,_=>none
 |.field t x f=>match x9 P t,I9 P t with
  |some ti,.strct=>(match Nb ti (s.st.ev x) f with|some z=>some ([],s.put o.dst z)|none=>none)
  |_,_=>none
 |.indexAddr t x i=>match x9 P t with
  |some ti=>match ti.elem with
   |some e=>match x9 P e,S9 s.st (s.st.ev x),s.st.ev i,q with
    |some te,some (k',xs),.t (.v (.int k n)),.ix m el=>(match Nat.beq k' te.size with
     |true=>some ([Ry xs n m el],s.put o.dst (match s.st.ev x with|.ref id=>.rptr id m 0|_=>.fel el))
     |false=>none)
    |_,_,_,_=>none
   |none=>none
  |none=>none
 |.index t x i=>match I9 P t,s.st.ev x,s.st.ev i,q with
  |.str,.t (.v (.string s')),.t (.v (.int k n)),.sx m b=>some ([Yv s' n m b],s.put o.dst (.v (.int .u8 b.toNat)))
  |_,_,_,_=>none
 |.extract x i=>match s.st.ev x with
  |.tup cs=>(match cs[i]? with|some y=>some ([],s.put o.dst y)|none=>none)
  |_=>none
 |.call c=>
  match c.callee,c.args.toList,c.argTypes.toList with
  |.builtin .len,[x],ty::_=>(match q with
   |.len n=>(match I9 P ty,S9 s.st (s.st.ev x)with|.slice,some (k,xs)=>some ([xs.length=n],s.put o.dst (.v (.int .i64 n)))|_,_=>none)
   |_=>match Fm P s.st ty (s.st.ev x)with|some z=>some ([],s.put o.dst (.v z))|none=>none)
  |.builtin .append,[x,y],[t,t']=>(match o.dst,x9 P t,q with
   |some d,some ti,.rows zs=>(match ti.elem with
    |some e=>(match x9 P e,S9 s.st (s.st.ev y)with
     |some te,some (k'',ys)=>(match Nat.beq t t'&&Nat.blt 0 te.size&&Nat.beq k'' te.size,E6 s.ms d with
      |true,false=>
       (match s.st.ev x with
       |.t (.v (.slice none 0 0))=>some ([P9 te.bytes ys.length,Z5 ys zs],(s.new d (.row e te.size zs)).put (some d) (.ref d))
       |.ref id=>(match A6 s.ms id with
        |some (.row e' k' xs)=>(match Nat.beq e' e&&Nat.beq k' te.size with
         |true=>some ([P9 te.bytes (xs.length+ys.length),Z5 (xs++ys) zs],((s.del id).new d (.row e te.size zs)).put (some d) (.ref d))
         |false=>none)
        |_=>none)
       |_=>none)
      |_,_=>none)
     |_,_=>none)
    |none=>none)
   |_,_,_=>none)
  |.value (.func f),args,_=>(match q with
   |.call ns r=>(match(args.map λx=>y7 s.st (s.st.ev x)).all E2,(args.map s.st.ev).flatMap E9,R6 r with
    |true,[],_=>some ([FnP P f (Z6 ns 0 (args.map λx=>y7 s.st (s.st.ev x))) r],s.put o.dst r)
    |true,_,true=>some ([FnP P f (Z6 ns 0 (args.map λx=>y7 s.st (s.st.ev x))) r],s.put o.dst r)
    |_,_,_=>none)
   |_=>none)
  |_,_,_=>none
 |_=>none
def P4(P:Program)(o:Oper)(q:Orc)(s:LS):Option (List Prop × LS):=
 match q with
 |.quiet z=>(match(N0 o s.st||R6 z)&&(D1 o s.st).all E2 with|true=>some ([De P o (D1 o s.st) z],s.put o.dst z)|false=>none)
 |.makes e k ys=>(match o.dst,N0 o s.st&&Iv o s.st&&(D1 o s.st).all E2 with
  |some d,true=>(match E6 s.ms d with|false=>some ([Jn P o (D1 o s.st) e k ys],(s.new d (.row e k ys)).put (some d) (.ref d))|true=>none)
  |_,_=>none)
 |.moves i b'=>(match o.dst,((opL o.op).map s.st.ev)[i]? with
  |some d,some (.ref id)=>(match A6 s.ms id,E6 s.ms d,Ot o i with
   |some b,false,true=>some ([Qe P o i b (((opL o.op).map s.st.ev).set i .dead) b'],((s.del id).new d b').put (some d) (.ref d))
   |_,_,_=>none)
  |_,_=>none)
 |.sets i b' r=>(match((opL o.op).map s.st.ev)[i]? with
  |some y=>(match Ct y with
   | [id]=>(match A6 s.ms id,Ju o with
    |some (.obj od),true=>(match y with|.ob _=>some ([Mm P o i (.obj od) (((opL o.op).map s.st.ev).set i .dead) b' r],(s.new id b').put o.dst r)|_=>none)
    |some (.row e k xs),true=>(match y with|.ref _=>some ([Mm P o i (.row e k xs) (((opL o.op).map s.st.ev).set i .dead) b' r],(s.new id b').put o.dst r)|_=>none)
    |_,_=>none)
   |_=>none)
  |_=>none)
 |.newo od=>(match o.dst,Ho o&&(N0 o s.st&&(D1 o s.st).all E2)with
  |some d,true=>(match E6 s.ms d with|false=>some ([Jk P o (D1 o s.st) od],(s.new d (.obj od)).put (some d) (.ob d))|true=>none)
  |_,_=>none)
 |.io v r m'=>(match o.op with
  |.call c=>(match c.callee,(c.args.toList.map s.st.ev)with
   |.value (.func f),evs=>
    (match Lc v (G4 (H6 s.st evs) s.ms) 0 evs,ioB v (G4 (H6 s.st evs) s.ms) v.B,ioR (G4 (H6 s.st evs) s.ms) v.R,Mo r&&(Ey evs||(evs.flatMap Z4).isEmpty)with
    |some cargs,some bs,some rs,true=>
     (match W9 v (H6 s.st evs) (S7 (bs++rs++ioZ v.Z)),Zb v s o.dst (S7 (bs++rs++ioZ v.Z)) m' with
     |true,true=>some ([Y7 P f cargs (S7 (bs++rs++ioZ v.Z)) r m'],(s.back v (H6 s.st evs) m').put o.dst (Ed (J4 v) r))
     |_,_=>none)
    |_,_,_,_=>none)
   |_,_=>none)
  |_=>none)
 |.callv r=>(match o.op with
  |.call c=>(match c.callee with
   |.value x=>(match s.st.ev x with
    |.t t=>(match(c.args.toList.map λy=>y7 s.st (s.st.ev y)).all E2&&(((c.args.toList.map s.st.ev).flatMap E9).isEmpty||R6 r)with
     |true=>some ([FnC P t (c.args.toList.map λy=>y7 s.st (s.st.ev y)) r],s.put o.dst r)
     |false=>none)
    |_=>none)
   |_=>none)
  |_=>none)
 |.look ns r=>(match o.op with
  |.call c=>(match c.callee with
   |.value (.func f)=>(match(c.args.toList.map λy=>T6 s.st (s.st.ev y)).all E2&&R6 r with
    |true=>some ([FnP P f (Z6 ns 0 (c.args.toList.map λy=>T6 s.st (s.st.ev y))) r],s.put o.dst r)
    |false=>none)
   |_=>none)
  |_=>none)
 |q=>C6 P o q s
end
section
open Go.RowKit
variable{P:Program}
theorem Oh{z:Nat->Option Nat}{st:St}{ms:List (Nat × Blk)}{i j:Nat}{b' b:Blk}(h:z i=some j)(C:st.mem j=some b)(B:leB z st ms b b'):leM z st ms (i,b'):=by unfold leM;rw[h];exact⟨b,C,B⟩
theorem zA{z:Nat->Option Nat}{st:St}{ms:List (Nat × Blk)}{i:Nat}{e k:Nat}(h:z i=none)(h0:0<k):leM z st ms (i,.row e k []):=by unfold leM;rw[h];exact⟨e,k,rfl,h0⟩
theorem Ar{j:Nat}{x:Option Nat}(h:Bd j x=true):x=some j:=by
 cases x with
 |none=>cases h
 |some i=>exact congrArg some (Nat.eq_of_beq_eq_true h)
theorem xS(j:Nat):Bd j (some j)=true:=by simp[Bd]
theorem Cq:∀{l:List Nat} {j:Nat},D9 l j=true->j∈l
 |i::l,j,h=>by
  unfold D9 at h;split at h
  ·rename_i e;rw[F2 e];exact I2
  ·exact J1 _ (Cq h)
theorem Sa:∀{R:List (Nat × Nat)} {j i:Nat},rnm R j=some i->(j,i)∈R
 |(a,b)::l,j,i,h=>by
  unfold rnm at h;split at h
  ·rename_i e;cases h;rw[<-F2 e];exact I2
  ·exact J1 _ (Sa h)
theorem jZ{z:Nat->Option Nat}{st:St}{ms:List (Nat × Blk)}{x y:A}(h:le1 z st ms x y):le2 z st ms x y:=by cases x<;>cases y<;>first|exact h|exact h.elim
theorem Yt:∀(l:List (Option Nat)),Sj l=true->∀(i j x:Nat),l[i]? =some (some x)->l[j]? =some (some x)->i=j
 | [],_,i,j,x,h1,_=>by simp at h1
 |none::l,h,i,j,x,h1,h2=>by
  cases i with
  |zero=>simp at h1
  |succ i=>cases j with
   |zero=>simp at h2
   |succ j=>simp at h1 h2;rw[Yt l h i j x h1 h2]
 |some y::l,h,i,j,x,h1,h2=>by
  simp only[Sj,x7,List.all_eq_true,Bool.not_eq_true']at h;have no:∀k:Nat,l[k]? =some (some y)->False:=λk z=>by have:=h.1 _ (O8 z);rw[xS]at this;cases this
  cases i with
  |zero=>
   simp at h1;subst h1;cases j with
   |zero=>rfl
   |succ j=>simp at h2;exact(no _ h2).elim
  |succ i=>cases j with
   |zero=>simp at h2;subst h2;simp at h1;exact(no _ h1).elim
   |succ j=>simp at h1 h2;rw[Yt l h.2 i j x h1 h2]
theorem FL:∀{l:List Nat} {j:Nat},j∈l->D9 l j=true
 |i::l,j,h=>by
  unfold D9;split
  ·rfl
  ·rename_i e;rcases D0.1 h with rfl|h
   ·exact absurd rfl (Qt e)
   ·exact FL h
theorem YG(l:List Nat)(j:Nat):D9 l j=l.contains j:=by
 cases h:l.contains j with
 |true=>exact FL (by simpa using h)
 |false=>
  cases z:D9 l j with
  |false=>rfl
  |true=>have:=Cq z;simp at h;exact absurd this h
theorem qF(J:List Nat)(s:LS):G4 J s.ms=(s.st.only J).mem:=by
 funext i
 unfold G4;show _=if J.contains i=true then A6 s.ms i else none
 rw[YG];cases J.contains i<;>rfl
theorem Fv:∀{l:List Nat},Ax l=true->l.Nodup
 | [],_=>List.nodup_nil
 |i::l,h=>by simp only[Ax,x7]at h;refine List.nodup_cons.2 ⟨λhi=>?_,Fv h.2⟩;have z:=h.1;rw[FL hi]at z;cases z
theorem a3i{b:Option Blk}{c:Blk}(h:wM b c=true):∃x,b=some x/\x.alike c/\∀e k xs,x≠ .row e k xs:=by
 unfold wM at h;split at h
 ·exact⟨_,rfl,trivial,λ_ _ _ h=>by cases h⟩
 ·refine⟨_,rfl,?_,λ_ _ _ h=>by cases h⟩;split at h
  ·rename_i B z;show Od.isMap _=Od.isMap _;rw[B,z]
  ·rename_i B z;show Od.isMap _=Od.isMap _;rw[B,z]
  ·cases h
 ·cases h
section
variable{v:IOV}{s:LS}{J:List Nat}{m:List (Nat × Blk)}
theorem RG(N:W9 v J m=true){Y:Option A8}{a O:A}(h:ioL v (G4 J s.ms) Y a=some O):le1 (R5 v) (s.st.only J) m a O:=by
 simp only[W9,x7,List.all_eq_true]at N;obtain⟨S,H,G,h4,U,h6⟩:=N;have z:∀{j i:Nat},rnm v.R j=some i->R5 v i=some j/\(look m i).isSome=true:=λ{j i} h=>by
  have:=S _ (Sa h);refine⟨Ar this.1,?_⟩;have H:=this.2;cases K:look m i with
  |none=>rw[K]at H;cases H
  |some b=>rfl
 have C:∀{j i:Nat},rnm v.B j=some i->R5 v i=some j/\(look m i).isSome=true:=λ{j i} h=>by
  have:=H _ (Sa h);refine⟨Ar this.1,?_⟩;have H:=this.2;cases K:look m i with
  |none=>rw[K]at H;cases H
  |some b=>rfl
 unfold ioL at h;split at h
 ·split at h
  ·cases h;exact .nil _
  ·split at h
   ·rename_i id X;cases h;obtain⟨p,M,L⟩:=List.mem_map.1 (Cq X);have:=G p M;subst L;refine⟨rfl,?_,?_⟩
    ·have G:=this.1.1;cases F:R5 v p.1 with
     |none=>rfl
     |some i=>rw[F]at G;cases G
    ·have G:=this.1.2;unfold eG at G;split at G
     ·rename_i e k K;exact⟨e,k,K⟩
     ·cases G
   ·cases h
  ·cases h;exact .refl _
 ·split at h
  ·rename_i j i F;cases h;exact z F
  ·split at h
   ·rename_i j _ e k xs V Z;cases h;refine⟨e,k,xs,by rw[<-qF];exact Z,.refl _,λp M Q=>?_⟩;have:=U _ (Cq V) p M;rw[Q]at this;simp[xS]at this
   ·cases h
 ·split at h
  ·rename_i j o i I;cases h;exact⟨(C I).1,rfl,(C I).2⟩
  ·cases h
 ·split at h
  ·rename_i t0 j o i I;cases h;exact⟨(C I).1,⟨rfl,rfl⟩,(C I).2⟩
  ·cases h
 ·split at h
  ·rename_i j p q i F;cases h;exact⟨(z F).1,rfl,rfl,(z F).2⟩
  ·cases h
 ·split at h
  ·rename_i j i F;cases h;exact⟨(z F).1,(z F).2⟩
  ·cases h
 ·cases h;rfl
 ·cases h
theorem ET(z:W9 v J m=true){B:List (Nat × Nat × A8)}{t:Nat}:∀{l r:List A} {j:Nat},Gk v (G4 J s.ms) B t j l=some r->Dh (R5 v) (s.st.only J) m l r
 | [],r,j,h=>by cases h;trivial
 |a::l,r,j,h=>by
  unfold Gk at h;split at h
  ·rename_i x F hx C;cases h;exact⟨RG z hx,ET z C⟩
  ·cases h
theorem a8u(z:W9 v J m=true){i:Nat}{a B:A}(h:Lw v (G4 J s.ms) i a=some B):le2 (R5 v) (s.st.only J) m a B:=by
 unfold Lw at h;split at h
 ·split at h
  ·rename_i r C;cases h;exact ET z C
  ·cases h
 ·exact jZ (RG z h)
theorem QY(z:W9 v J m=true):∀{l r:List A} {i:Nat},Lc v (G4 J s.ms) i l=some r->Ec (R5 v) (s.st.only J) m l r
 | [],r,i,h=>by cases h;trivial
 |a::l,r,i,h=>by
  unfold Lc at h;split at h
  ·rename_i x C hx B;cases h;exact⟨a8u z hx,QY z B⟩
  ·cases h
theorem KU(G:W9 v J m=true):∀{B:List (Nat × Nat)} {F:List (Nat × Blk)},ioB v (G4 J s.ms) B=some F->(∀p∈B,p∈v.B)->∀p∈F,leM (R5 v) (s.st.only J) m p
 | [],F,h,_,p,C=>by cases h;cases C
 |(j,i)::l,F,h,hB,p,C=>by
  unfold ioB at h;split at h
  ·rename_i M H I;split at h
   ·rename_i r rest L z;cases h;rcases D0.1 C with rfl|C
    ·have K:=G;simp only[W9,x7,List.all_eq_true]at K;rw[qF]at I;exact Oh (Ar (K.2.1 _ (hB _ I2)).1) I ⟨rfl,ET G L⟩
    ·exact KU G z (λx hx=>hB x (J1 _ hx)) p C
   ·cases h
  ·cases h
theorem IS(H:W9 v J m=true):∀{R:List (Nat × Nat)} {G:List (Nat × Blk)},ioR (G4 J s.ms) R=some G->(∀p∈R,p∈v.R)->∀p∈G,leM (R5 v) (s.st.only J) m p
 | [],G,h,_,p,B=>by cases h;cases B
 |(j,i)::l,G,h,hR,p,B=>by
  unfold ioR at h;split at h
  ·rename_i e k xs C;split at h
   ·rename_i rest z;cases h;rcases D0.1 B with rfl|B
    ·have F:=H;simp only[W9,x7,List.all_eq_true]at F;rw[qF]at C;exact Oh (Ar (F.1 _ (hR _ I2)).1) C ⟨rfl,rfl,a0R xs⟩
    ·exact IS H z (λx hx=>hR x (J1 _ hx)) p B
   ·cases h
  ·rename_i od C;split at h
   ·rename_i rest z;cases h;rcases D0.1 B with rfl|B
    ·have F:=H;simp only[W9,x7,List.all_eq_true]at F;rw[qF]at C;exact Oh (Ar (F.1 _ (hR _ I2)).1) C rfl
    ·exact IS H z (λx hx=>hR x (J1 _ hx)) p B
   ·cases h
  ·cases h
theorem MU(B:W9 v J m=true):∀{Z:List (Nat × Nat × Nat)},(∀p∈Z,p∈v.Z)->∀p∈ioZ Z,leM (R5 v) (s.st.only J) m p
 | [],_,p,z=>by cases z
 |(i,e,k)::l,hZ,p,z=>by
  rcases D0.1 z with rfl|z
  ·have F:=B;simp only[W9,x7,List.all_eq_true]at F;have:=F.2.2.1 _ (hZ _ I2);have G:R5 v i=none:=by
    have C:=this.1.1;cases H:R5 v i with
    |none=>rfl
    |some x=>rw[H]at C;cases C
   exact zA G (Nat.lt_of_succ_le (Nat.le_of_ble_eq_true this.2))
  ·exact MU B (λx hx=>hZ x (J1 _ hx)) p z
end
theorem oG(l r:List (Nat × Option Blk))(i:Nat):lkM (l++r) i=match lkM l i with|some x=>some x|none=>lkM r i:=by
 induction l with
 |nil=>rfl
 |cons p l ih=>
  obtain⟨j,b⟩:=p;rw[List.cons_append,Dl,Dl];split
  ·rfl
  ·exact ih
theorem zB(v:IOV)(i:Nat):∀z:List (Nat × Blk),lkM (Kk v z) i=(fnd z (J4 v) i).map λp=>some (p.2.ren (J4 v))
 | []=>rfl
 |(j,b)::l=>by rw[Kk,Dl,zB v i l];show _=(if i=J4 v j then some (j,b)else fnd l (J4 v) i).map _;split<;>rfl
theorem JA(ms:List (Nat × Option Blk))(i:Nat):∀J:List Nat,lkM (Dv ms J) i=if J.contains i=true/\E6 ms i=true then some none else none
 | []=>by simp[Dv,lkM]
 |j::l=>by
  unfold Dv;have B:=JA ms i l;split
  ·rename_i z;rw[Dl,B];by_cases e:i=j
   ·subst e;simp[z]
   ·simp[e]
  ·rename_i z;rw[B];by_cases e:i=j
   ·subst e;simp[z]
   ·simp[e]
theorem a1L(s:LS)(v:IOV)(J:List Nat)(z:List (Nat × Blk)):(s.back v J z).st=s.st.back J z (J4 v):=by
 unfold LS.back LS.st St.back;congr 1
 ·funext i
  show A6 (Kk v z++(Dv s.ms J++s.ms)) i=match fnd z (J4 v) i with|some p=>some (p.2.ren (J4 v))|none=>if J.contains i then none else A6 s.ms i
  unfold A6;rw[oG,zB];cases fnd z (J4 v) i with
  |some p=>rfl
  |none=>
   simp only[Option.map_none];rw[oG,JA];by_cases C:J.contains i=true
   ·by_cases B:E6 s.ms i=true
    ·rw[if_pos ⟨C,B⟩,if_pos C]
    ·rw[if_neg (λh=>B h.2),if_pos C];cases F:lkM s.ms i with
     |none=>rfl
     |some x=>exact absurd (show E6 s.ms i=true by simp[E6,F]) B
   ·rw[if_neg (λh=>C h.1),if_neg C]
 ·funext i
  show E6 (Kk v z++(Dv s.ms J++s.ms)) i=match fnd z (J4 v) i with|some _=>true|none=>E6 s.ms i
  unfold E6;rw[oG,zB];cases fnd z (J4 v) i with
  |some p=>rfl
  |none=>
   simp only[Option.map_none];rw[oG,JA];by_cases B:J.contains i=true/\E6 s.ms i=true
   ·rw[if_pos B];have:=B.2;unfold E6 at this;exact this.symm
   ·rw[if_neg B]
theorem a0N{p q:Nat × Blk}:∀{l:List (Nat × Blk)},q∈Ou p l->q=p\/q∈l
 | [],h=>by simp[Ou]at h;exact .inl h
 |r::l,h=>by
  unfold Ou at h;split at h
  ·rcases D0.1 h with h|h
   ·exact .inl h
   ·exact .inr h
  ·rcases D0.1 h with h|h
   ·exact .inr (by rw[h];exact I2)
   ·rcases a0N h with h|h
    ·exact .inl h
    ·exact .inr (J1 _ h)
theorem yQ{q:Nat × Blk}:∀{l:List (Nat × Blk)},q∈S7 l->q∈l
 | [],h=>h
 |p::l,h=>by
  rcases a0N h with h|h
  ·rw[h];exact I2
  ·exact J1 _ (yQ h)
theorem WS{d:Option Nat}{v:IOV}{r:A}{M:List (Nat × Blk)}{s:LS}{C:List A}{f:FuncId}{F:List A}{S V:List (Nat × Blk)}(ha:Lc v (G4 (H6 s.st C) s.ms) 0 C=some F)(hb:ioB v (G4 (H6 s.st C) s.ms) v.B=some S)(hr:ioR (G4 (H6 s.st C) s.ms) v.R=some V)(ht:Mo r=true)(z:Ey C=true\/C.flatMap Z4=[])(H:W9 v (H6 s.st C) (S7 (S++V++ioZ v.Z))=true)(Q:Zb v s d (S7 (S++V++ioZ v.Z)) M=true)(hf:Y7 P f F (S7 (S++V++ioZ v.Z)) r M)(K:St->Prop)(hK:K ((s.back v (H6 s.st C) M).put d (Ed (J4 v) r)).st):tE P f d C s.st K:=by
 generalize hJ:H6 s.st C=J at*;have h3:=H;simp only[W9,x7,List.all_eq_true]at h3;obtain⟨k1,k2,k3,k4,k5,k6⟩:=h3;simp only[Zb,x7,List.all_eq_true]at Q;obtain⟨b1,b2,X⟩:=Q;have O:∀{α:Type} {l:List α} {g:α->Nat},(l.map g).Nodup->∀p∈l,∀q∈l,g p=g q->p=q:=λ{α l g} hn p z q N he=>by obtain⟨i,hi,rfl⟩:=List.getElem_of_mem z;obtain⟨j,hj,rfl⟩:=List.getElem_of_mem N;have I:i<(l.map g).length:=(by simpa using hi);have Y:j<(l.map g).length:=(by simpa using hj);have:=(List.getElem_inj (i:=i) (j:=j) (h₀:=I) (h₁:=Y) hn).1 (by simpa using he);subst this;rfl
 have L:=O (Fv b1);have aa:=O (Fv b2);refine⟨F,_,r,M,R5 v,J4 v,hf,ht,z,⟨⟨λp z=>(by cases z),λp z=>?_,λp z q N j U h2=>?_⟩,λp z j hj=>?_,λp z=>?_,λp z q N he=>by rw[aa p z q N he],λp z G=>?_,λp z G=>?_⟩,λp z G=>?_,by rw[hJ];exact QY H ha,by rw[hJ,<-a1L,<-E5];exact hK⟩
 all_goals try rw[hJ]
 ·rcases A3.1 (yQ z)with z|z
  ·rcases A3.1 z with z|z
   ·exact KU H hb (λ_ h=>h) p z
   ·exact IS H hr (λ_ h=>h) p z
  ·exact MU H (λ_ h=>h) p z
 ·obtain⟨i,hi,rfl⟩:=List.getElem_of_mem z;obtain⟨i',I,rfl⟩:=List.getElem_of_mem N;have:=Yt _ k4 i i' j (by rw[P2,w9 hi,G6,U]) (by rw[P2,w9 I,G6,h2]);subst this;rfl
 ·have:=k6 p z;rw[hj]at this;rw[<-YG];exact this
 ·cases hl:look M p.1 with
  |none=>
   exfalso;have:∀l:List (Nat × Blk),p∈l->look l p.1≠none:=λl=>by
    induction l with
    |nil=>intro h;cases h
    |cons q l ih=>
     intro h;obtain⟨k,b⟩:=q;unfold look;split
     ·simp
     ·rename_i e;rcases D0.1 h with h|h
      ·exact absurd (by rw[h]) e
      ·exact ih h
   exact this M z hl
  |some b=>have:=L p z _ (V4 hl) rfl;rw[this]
 ·have:=X p z;rw[G]at this;simp only[x7]at this;obtain⟨q1,q2⟩:=this;exact⟨Ar q1,a3i q2⟩
 ·have:=X p z;rw[G]at this;simp only[x7,Bool.or_eq_true]at this;refine⟨?_,?_⟩
  ·have U:=this.1.1;show E6 s.ms (J4 v p.1)=false;cases hu:E6 s.ms (J4 v p.1)with
   |false=>rfl
   |true=>rw[hu]at U;cases U
  ·rcases this.1.2 with h|h
   ·exact .inl (Nat.lt_of_succ_le (Nat.le_of_ble_eq_true h))
   ·exact .inr (Nat.le_of_ble_eq_true h)
 ·have:=X p z;rw[G]at this;simp only[x7]at this;exact Cq this.2
end
section
open Go.RowKit
variable{P:Program}
theorem b3I{o:Oper}{q:Orc}{s s':LS}{obs:List Prop}(h:C6 P o q s=some (obs,s'))(G:L6 obs)(K:St->Prop)(C:K s'.st):Dg P o s.st K:=by
 unfold C6 at h;split at h
 ·rename_i x e;cases h;refine O7 ?_;unfold N4;simp only[e];rw[<-E5];exact C
 ·rename_i x e;cases h;refine O7 ?_;unfold N4;simp only[e];rw[<-E5];exact C
 ·rename_i c x y e;refine O7 ?_;unfold N4;simp only[e];split at h
  ·rename_i t ht;split at h
   ·rename_i b';cases h;have e1:t=b':=G.1;subst e1;rw[ht];simp only;rw[<-E5];have:Nl t (s.st.ev x) (s.st.ev y)=JH t (s.st.ev x) (s.st.ev y):=(by cases t<;>rfl);rw[this];exact C
   ·cases h;rw[ht];simp only;rw[<-a0M,<-E5];exact C
  ·cases h
 ·rename_i ty e;refine O7 ?_;unfold N4;simp only[e];split at h
  ·rename_i d L hd B;split at h
   ·rename_i hu;cases h;rw[hd,B];simp only;exact⟨hu,by rw[<-Jx,<-E5];exact C⟩
   ·cases h
  ·cases h
 ·rename_i ty x e;refine O7 ?_;unfold N4;simp only[e];split at h
  ·rename_i d cs hd Y;split at h
   ·rename_i hu;cases h;rw[hd,Y];simp only;exact⟨hu,by rw[<-Jx,<-E5];exact C⟩
   ·cases h
  ·cases h
 ·rename_i t N e;refine O7 ?_;unfold N4;simp only[e];split at h
  ·rename_i L B;split at h
   ·rename_i cs M hf;cases h;rw[B];simp only;rw[M,hf];simp only;rw[<-E5];exact C
   ·cases h
  ·cases h
 ·rename_i t len N e;refine O7 ?_;unfold N4;simp only[e];split at h
  ·rename_i d L hd B;split at h
   ·rename_i O H;split at h
    ·rename_i te I;split at h
     ·rename_i hu U hr;split at h
      ·rename_i xs ae;cases h;rw[hd,B];simp only;rw[H];simp only;rw[I];simp only;simp only[x7]at U;refine⟨hu,Nat.lt_of_succ_le (Nat.le_of_ble_eq_true U.1.1),Nat.eq_of_beq_eq_true U.1.2,Nat.le_of_ble_eq_true U.2,?_⟩;rw[hr];show(match Dn te.size 0 (N.toList.map λ(i,x)=>(i,s.st.ev x))with|some xs=>_|none=>False);rw[ae];simp only[St.frzs];rw[<-Jx,<-E5];exact C
      ·cases h
     ·cases h
    ·cases h
   ·cases h
  ·cases h
 ·rename_i t x e;refine O7 ?_;unfold N4;simp only[e];split at h
  ·rename_i L B;split at h
   ·rename_i m O;split at h
    ·rename_i id i j R;split at h
     ·rename_i e' k xs y Q X;cases h;rw[B];simp only;have:U6 s.st (s.st.ev x) L=some y:=by rw[R];show(match s.st.mem id with|some (.row _ _ xs)=>(xs[i]?).bind λO=>R9 ((O.drop j).map .t) 0 L.size L.agg|_=>none)=_;rw[show s.st.mem id=some (.row e' k xs)from Q];simp only;rw[show xs[i]? =some O from G.1];exact X
      rw[this];simp only;rw[<-E5];exact C
     ·cases h
    ·cases h
   ·split at h
    ·rename_i y X;cases h;rw[B];simp only;rw[X];simp only;rw[<-E5];exact C
    ·cases h
  ·cases h
 ·rename_i t x y e;split at h
  ·rename_i L cs B Y;split at h
   ·rename_i V;have V:=Nat.eq_of_beq_eq_true V;split at h
    ·rename_i id ag R;split at h
     ·rename_i ty ac Q;split at h
      ·rename_i ab;cases h;refine O7 ?_;unfold N4;simp only[e];rw[B,Y];simp only;refine⟨V,?_⟩;rw[R];simp only;rw[show s.st.mem id=some (.box ty ac)from Q];simp only;refine⟨Nat.le_of_ble_eq_true ab,?_⟩;rw[<-lP s id _ _ Q,<-E5];exact C
      ·cases h
     ·cases h
    ·rename_i id i j R;split at h
     ·rename_i e' k xs l O ys Q hl;split at h
      ·rename_i ab;cases h;obtain⟨h2,h3,_⟩:=G;refine O7 ?_;unfold N4;simp only[e];rw[B,Y];simp only;refine⟨V,?_⟩;rw[R];simp only;rw[show s.st.mem id=some (.row e' k xs)from Q,hl];simp only;refine⟨O,h2,Nat.le_of_ble_eq_true ab,?_⟩;rw[show xs.set i (O.take j++l++O.drop (j+l.length))=ys from h3,<-lP s id _ _ Q,<-E5];exact C
      ·cases h
     ·cases h
    ·cases h
   ·cases h
  ·cases h
 ·rename_i x e;refine O7 ?_;unfold N4;simp only[e];split at h
  ·rename_i ob hp;cases h;exact⟨ZU hp G,by rw[<-E5];exact C⟩
  ·cases h
 ·rename_i op ty x y ak e;split at h
  ·rename_i z;split at h
   ·rename_i a b hx X F;cases h;refine O7 ?_;unfold N4;simp only[e];rw[hx,X,show Db P s.st op ty (.t (.v a)) (.t (.v b))=some z from G.1];exact⟨F,by rw[<-E5];exact C⟩
   ·cases h
  ·split at h
   ·rename_i z F;split at h
    ·rename_i S;cases h;refine O7 ?_;unfold N4;simp only[e];rw[F];exact⟨S,by rw[<-E5];exact C⟩
    ·cases h
   ·cases h
 ·rename_i op ty x e;refine O7 ?_;unfold N4;simp only[e];split at h
  ·rename_i y X;split at h
   ·rename_i z F;split at h
    ·rename_i S;cases h;rw[X];simp only;rw[F];exact⟨S,by rw[<-E5];exact C⟩
    ·cases h
   ·cases h
  ·cases h
 ·rename_i ah ai x e;split at h
  ·rename_i z L F B;cases h;refine O7 ?_;unfold N4;simp only[e];rw[F];exact⟨by rw[B];rfl,by rw[<-E5];exact C⟩
  ·cases h
 ·rename_i t x f e;refine O7 ?_;unfold N4;simp only[e];split at h
  ·rename_i L B M;split at h
   ·rename_i ob z hp F;cases h;rw[B,M];simp only;refine⟨ZU hp G,?_⟩;rw[F];simp only;rw[<-E5];exact C
   ·cases h
  ·cases h
 ·rename_i t x f e;refine O7 ?_;unfold N4;simp only[e];split at h
  ·rename_i L B M;split at h
   ·rename_i z F;cases h;rw[B,M];simp only;rw[F];simp only;rw[<-E5];exact C
   ·cases h
  ·cases h
 ·rename_i t x i e;refine O7 ?_;unfold N4;simp only[e];split at h
  ·rename_i L B;split at h
   ·rename_i O H;split at h
    ·rename_i te k' xs k n m af I hl hi;split at h
     ·rename_i M;cases h;rw[B];simp only;rw[H];simp only;rw[I,hl,hi];simp only;obtain⟨⟨S,h2⟩,_⟩:=G;exact⟨Nat.eq_of_beq_eq_true M,m,af,S,h2,by rw[E5]at C;exact C⟩
     ·cases h
    ·cases h
   ·cases h
  ·cases h
 ·rename_i t x i e;refine O7 ?_;unfold N4;simp only[e];split at h
  ·rename_i s' k n m b M hx hi;cases h;rw[M,hx,hi];simp only;obtain⟨⟨S,h2⟩,_⟩:=G;exact⟨m,b,S,h2,by rw[E5]at C;exact C⟩
  ·cases h
 ·rename_i x i e;refine O7 ?_;unfold N4;simp only[e];split at h
  ·rename_i cs hx;split at h
   ·rename_i y X;cases h;rw[hx];simp only;rw[X];simp only;rw[<-E5];exact C
   ·cases h
  ·cases h
 ·rename_i c e;obtain⟨ad,args,ts⟩:=c
  dsimp only at h
  split at h
  ·rename_i x ty tl R Z;refine O7 ?_;unfold N4;simp only[e,R,Z];split at h
   ·rename_i n;split at h
    ·rename_i k xs M hl;cases h;have:Fm P s.st ty (s.st.ev x)=some (.int .i64 n):=by unfold Fm;rw[M];simp only;rw[hl,G6,<-show xs.length=n from G.1]
     rw[this];simp only;rw[<-E5];exact C
    ·cases h
   ·split at h
    ·rename_i z F;cases h;rw[F];simp only;rw[<-E5];exact C
    ·cases h
  ·rename_i x y t t' R Z;split at h
   ·rename_i d L zs hd B;split at h
    ·rename_i O H;split at h
     ·rename_i te aj ys I hl;split at h
      ·rename_i U hu;simp only[x7]at U;have S:=Nat.eq_of_beq_eq_true U.1.1;have h2:=Nat.lt_of_succ_le (Nat.le_of_ble_eq_true U.1.2);have h3:=Nat.eq_of_beq_eq_true U.2;split at h
       ·rename_i hx;cases h;obtain⟨h4,h5,_⟩:=G;refine O7 ?_;unfold N4;simp only[e,R,Z,hd,B,H,I,hl,hx];refine⟨S,h2,hu,.inr h3,h4.1,h4.2,?_⟩;rw[show ys=zs from h5,<-Jx,<-E5];exact C
       ·rename_i id hx;split at h
        ·rename_i e' k' xs Q;split at h
         ·rename_i aa;simp only[x7]at aa;have h6:=Nat.eq_of_beq_eq_true aa.1;have h7:=Nat.eq_of_beq_eq_true aa.2;cases h;obtain⟨h4,h5,_⟩:=G;refine O7 ?_;unfold N4;simp only[e,R,Z,hd,B,H,I,hl,hx];refine⟨S,h2,hu,.inr h3,?_⟩;rw[show s.st.mem id=some (.row e' k' xs)from Q];simp only;refine⟨h6,h7,h4.1,h4.2,?_⟩;rw[show xs++ys=zs from h5,<-JZ s id _ Q,<-Jx,<-E5];exact C
         ·cases h
        ·cases h
       ·cases h
      ·cases h
     ·cases h
    ·cases h
   ·cases h
  ·rename_i f _ _;split at h
   ·rename_i ns r;refine O7 ?_;unfold N4;simp only[e];split at h
    ·rename_i hf hr;cases h;refine .inl ⟨r,Vw ns hf G.1,hf,.inr ?_⟩;rw[hr];simp only[St.frzs];rw[<-E5];exact C
    ·rename_i hf hs _;cases h;exact .inl ⟨r,Vw ns hf G.1,hf,.inl ⟨hs,by rw[<-E5];exact C⟩⟩
    ·cases h
   ·cases h
  ·cases h
 ·cases h
theorem OW{o:Oper}{q:Orc}{s X:LS}{obs:List Prop}(h:P4 P o q s=some (obs,X))(H:L6 obs)(K:St->Prop)(G:K X.st):Dg P o s.st K:=by
 unfold P4 at h;split at h
 ·rename_i z;split at h
  ·rename_i R;cases h;simp only[x7,Bool.or_eq_true]at R;exact .inr (.inl ⟨R.2,.inl ⟨z,H.1,R.1.symm,by rw[<-E5];exact G⟩⟩)
  ·cases h
 ·rename_i Z k ys;split at h
  ·rename_i d hd B;split at h
   ·rename_i M;cases h;simp only[x7]at B;exact .inr (.inl ⟨B.2,.inr ⟨d,Z,k,ys,hd,M,H.1,B.1,by rw[hd,<-Jx,<-E5];exact G⟩⟩)
   ·cases h
  ·cases h
 ·rename_i i b';split at h
  ·rename_i d id hd hi;split at h
   ·rename_i b B M F;cases h;exact .inr (.inr (.inl (.inl ⟨i,b,_,b',id,d,F,hd,hi,rfl,B,M,H.1,by rw[hd,<-JZ s id b B,<-Jx,<-E5];exact G⟩)))
   ·cases h
  ·cases h
 ·rename_i i b' r;split at h
  ·rename_i y hi;split at h
   ·rename_i id Q;split at h
    ·rename_i od B F;split at h
     ·rename_i q;cases h;simp only[Ct,List.cons.injEq,and_true]at Q;subst Q;exact .inr (.inr (.inl (.inr (.inl ⟨i,.obj od,_,b',r,_,F,hi,rfl,B,So B,H.1,by rw[<-lP s _ _ _ B,<-E5];exact G⟩))))
     ·cases h
    ·rename_i e k xs B F;split at h
     ·rename_i q;cases h;simp only[Ct,List.cons.injEq,and_true]at Q;subst Q;exact .inr (.inr (.inl (.inr (.inl ⟨i,.row e k xs,_,b',r,_,F,hi,rfl,B,So B,H.1,by rw[<-lP s _ _ _ B,<-E5];exact G⟩))))
     ·cases h
    ·cases h
   ·cases h
  ·cases h
 ·rename_i od;split at h
  ·rename_i d hd C;split at h
   ·rename_i M;cases h;simp only[x7]at C;exact .inr (.inr (.inl (.inr (.inr ⟨od,d,C.1,hd,M,C.2.1,C.2.2,H.1,by rw[hd,<-Jx,<-E5];exact G⟩))))
   ·cases h
  ·cases h
 ·rename_i v r m';split at h
  ·rename_i c I;split at h
   ·rename_i f L;split at h
    ·rename_i V bs rs ha B hr C;split at h
     ·rename_i U S;cases h;simp only[x7,Bool.or_eq_true,List.isEmpty_iff]at C;obtain⟨O,args,ts⟩:=c
      dsimp only at L
      subst L
      left
      unfold C9;simp only[I];exact .inr (WS ha B hr C.1 C.2 U S H.1 K G)
     ·cases h
    ·cases h
   ·cases h
  ·cases h
 ·rename_i r;split at h
  ·rename_i c I;split at h
   ·rename_i x L;split at h
    ·rename_i t hx;split at h
     ·rename_i C;cases h;simp only[x7,Bool.or_eq_true,List.isEmpty_iff]at C;exact .inr (.inr (.inr (.inl ⟨c,x,t,r,I,L,hx,H.1,C.1,C.2.symm,by rw[<-E5];exact G⟩)))
     ·cases h
    ·cases h
   ·cases h
  ·cases h
 ·rename_i Y r;split at h
  ·rename_i c L;split at h
   ·rename_i f hf;split at h
    ·rename_i N;cases h;simp only[x7]at N;exact .inr (.inr (.inr (.inr ⟨c,f,r,L,hf,Vw Y N.1 H.1,N.1,N.2,by rw[<-E5];exact G⟩)))
    ·cases h
   ·cases h
  ·cases h
 ·exact b3I h H K G
end
section
open Go.RowKit
variable{P:Program}
structure CV where
 G:List Nat
 N:List (Nat × Nat × A8)
 B:List Nat
 M:List (Nat × Nat × A8)
 R:List (Nat × Nat)
 F:List Nat
 Z:List (Nat × Nat × Nat)
def rho(R:List (Nat × Nat))(i:Nat):Option Nat:=match Nat.blt i 1000 with|true=>some i|false=>Xc R i
def O1(v:CV)(ms:List (Nat × Option Blk))(nt:Option A8)(a:A):Option A:=
 match a with
 |.t x=>(match nt,x with
  |some (.sl k),.v (.slice none 0 0)=>some (.t (.sl k []))
  |some (.row id),.v (.slice none 0 0)=>(match D9 (v.Z.map (·.1)) id with|true=>some (.ref id)|false=>none)
  |_,x=>some (.t x))
 |.ref j=>(match rnm v.R j with
  |some i=>some (.ref i)
  |none=>(match D9 v.F j,A6 ms j with|true,some (.row e k xs)=>some (.t (.sl k xs))|_,_=>none))
 |.ptr j o=>(match D9 v.B j with|true=>some (.ptr j o)|false=>none)
 |.ifc t j o=>(match D9 v.B j with|true=>some (.ifc t j o)|false=>none)
 |.rptr j p q=>(match rnm v.R j with|some i=>some (.rptr i p q)|none=>none)
 |.ob j=>(match rnm v.R j with|some i=>some (.ob i)|none=>none)
 |.fel x=>some (.fel x)
 |_=>none
def Ac(v:CV)(ms:List (Nat × Option Blk))(sp:List (Nat × Nat × A8))(t:Nat):Nat->List A->Option (List A)
 |_,[]=>some []
 |j,a::l=>match O1 v ms (D5 sp t j) a,Ac v ms sp t (j+1) l with|some x,some r=>some (x::r)|_,_=>none
def Sf(v:CV)(ms:List (Nat × Option Blk))(t:Nat)(a:A):A:=
 match a with
 |.agg cs=>(match Ac v ms v.N t 0 cs with|some r=>.agg r|none=>.dead)
 |.tup cs=>(match Ac v ms v.N t 0 cs with|some r=>.tup r|none=>.dead)
 |a=>(match O1 v ms (D5 v.N t 0) a with|some x=>x|none=>.dead)
def Ny(v:CV)(s:LS):List Nat->List (Nat × A)
 | []=>[]
 |t::l=>(t,Sf v s.ms t (lkE s.es t))::Ny v s l
def Je(v:CV)(ms:List (Nat × Option Blk)):List Nat->Option (List (Nat × Blk))
 | []=>some []
 |b::l=>match A6 ms b with
  |some (.box ty cells)=>(match Ac v ms v.M b 0 cells,Je v ms l with|some r,some rest=>some ((b,.box ty r)::rest)|_,_=>none)
  |_=>none
def Dq(ms:List (Nat × Option Blk)):List (Nat × Nat)->Option (List (Nat × Blk))
 | []=>some []
 |(j,i)::l=>match A6 ms j with
  |some (.row e k xs)=>(match Dq ms l with|some rest=>some ((i,.row e k xs)::rest)|none=>none)
  |some (.obj od)=>(match Dq ms l with|some rest=>some ((i,.obj od)::rest)|none=>none)
  |_=>none
def N8:List (Nat × Nat × Nat)->List (Nat × Blk)
 | []=>[]
 |(i,e,k)::l=>(i,.row e k [])::N8 l
def W5:List (Nat × Blk)->List (Nat × Option Blk)
 | []=>[]
 |(i,b)::l=>(i,some b)::W5 l
def T8(v:CV)(ms':List (Nat × Blk)):Bool:=
 (v.R.all λp=>Bd p.1 (rho v.R p.2)&&lY (look ms' p.2))&&
 ((v.Z.all λp=>XQ (rho v.R p.1)&&eG (look ms' p.1)&&Nat.blt 0 p.2.2)&&
 ((v.B.all λb=>Nat.blt b 1000&&lY (look ms' b))&&
 (Sj (ms'.map λp=>rho v.R p.1)&&
 (v.F.all λj=>ms'.all λp=>!(Bd j (rho v.R p.1))))))
def qK(v:CV)(s:LS):Option LS:=
 match Je v s.ms v.B,Dq s.ms v.R with
 |some bs,some rs=>
  (match T8 v (bs++rs++N8 v.Z)with
  |true=>some ⟨s.n,Ny v s v.G,W5 (bs++rs++N8 v.Z)⟩
  |false=>none)
 |_,_=>none
theorem vG(ms:List (Nat × Blk))(i:Nat):A6 (W5 ms) i=look ms i/\E6 (W5 ms) i=(look ms i).isSome:=by
 have:∀ms:List (Nat × Blk),lkM (W5 ms) i=(look ms i).map some:=λms=>by
  induction ms with
  |nil=>rfl
  |cons p l ih=>obtain⟨j,b⟩:=p;show lkM ((j,some b)::W5 l) i=_;rw[Dl,ih];show _=(if i=j then some b else look l i).map some;split<;>rfl
 unfold A6 E6;rw[this];cases look ms i<;>simp
theorem a0y:∀(es:List (Nat × A)) (t:Nat),lkE es t=(look es t).getD .dead
 | [],t=>rfl
 |(i,x)::l,t=>by
  rw[Yh];unfold look upd;split
  ·rfl
  ·exact a0y l t
theorem ER(n:Nat)(es:List (Nat × A))(ms:List (Nat × Blk)):(LS.mk n es (W5 ms)).st=R7 n es ms:=by
 unfold LS.st R7;congr 1
 ·funext t;exact a0y es t
 ·funext t;exact(vG ms t).1
 ·funext t;exact(vG ms t).2
section
variable{v:CV}{s:LS}{ms':List (Nat × Blk)}
theorem pB(K:T8 v ms'=true){U:Option A8}{a L:A}(h:O1 v s.ms U a=some L):le1 (rho v.R) s.st ms' a L:=by
 simp only[T8,x7,List.all_eq_true]at K;obtain⟨N,F,B,X,O⟩:=K;have ren:∀{j i:Nat},rnm v.R j=some i->rho v.R i=some j/\(look ms' i).isSome=true:=λ{j i} h=>by
  have:=N _ (Sa h);refine⟨Ar this.1,?_⟩;have F:=this.2;cases C:look ms' i with
  |none=>rw[C]at F;cases F
  |some b=>rfl
 unfold O1 at h;split at h
 ·split at h
  ·cases h;exact .nil _
  ·split at h
   ·rename_i id S;cases h;obtain⟨p,I,G⟩:=List.mem_map.1 (Cq S);have:=F p I;subst G;refine⟨rfl,?_,?_⟩
    ·have B:=this.1.1;cases z:rho v.R p.1 with
     |none=>rfl
     |some i=>rw[z]at B;cases B
    ·have B:=this.1.2;unfold eG at B;split at B
     ·rename_i e k C;exact⟨e,k,C⟩
     ·cases B
   ·cases h
  ·cases h;exact .refl _
 ·split at h
  ·rename_i j i z;cases h;exact ren z
  ·split at h
   ·rename_i j _ e k xs Q V;cases h;refine⟨e,k,xs,V,.refl _,λp I M=>?_⟩;have:=O _ (Cq Q) p I;rw[M]at this;simp[xS]at this
   ·cases h
 ·rename_i j o;split at h
  ·rename_i H;cases h;have:=B _ (Cq H);refine⟨?_,rfl,?_⟩
   ·unfold rho;rw[this.1]
   ·cases C:look ms' j with
    |none=>rw[C]at this;cases this.2
    |some b=>rfl
  ·cases h
 ·rename_i Y j o;split at h
  ·rename_i H;cases h;have:=B _ (Cq H);refine⟨?_,⟨rfl,rfl⟩,?_⟩
   ·unfold rho;rw[this.1]
   ·cases C:look ms' j with
    |none=>rw[C]at this;cases this.2
    |some b=>rfl
  ·cases h
 ·split at h
  ·rename_i j p q i z;cases h;exact⟨(ren z).1,rfl,rfl,(ren z).2⟩
  ·cases h
 ·split at h
  ·rename_i j i z;cases h;exact⟨(ren z).1,(ren z).2⟩
  ·cases h
 ·cases h;rfl
 ·cases h
theorem Rn(z:T8 v ms'=true){B:List (Nat × Nat × A8)}{t:Nat}:∀{l r:List A} {j:Nat},Ac v s.ms B t j l=some r->Dh (rho v.R) s.st ms' l r
 | [],r,j,h=>by cases h;trivial
 |a::l,r,j,h=>by
  unfold Ac at h;split at h
  ·rename_i x F hx C;cases h;exact⟨pB z hx,Rn z C⟩
  ·cases h
theorem a1T{z:Nat->Option Nat}{st:St}{ms:List (Nat × Blk)}{x y:A}(h:le2 z st ms x y):leA z st ms x y:=by
 cases y with
 |dead=>cases x<;>trivial
 |tup ds=>cases x<;>exact h.elim
 |_=>exact h
theorem a6u(z:T8 v ms'=true){t:Nat}(a:A):leA (rho v.R) s.st ms' a (Sf v s.ms t a):=by
 unfold Sf;split
 ·split
  ·rename_i r B;exact Rn z B
  ·trivial
 ·split
  ·rename_i r B;exact Rn z B
  ·trivial
 ·split
  ·rename_i x hx;exact a1T (jZ (pB z hx))
  ·cases a<;>trivial
theorem a0J(z:T8 v ms'=true):∀(G:List Nat),∀p∈Ny v s G,leA (rho v.R) s.st ms' (s.st.env p.1) p.2
 | [],p,h=>by cases h
 |t::l,p,h=>by
  rcases D0.1 h with rfl|h
  ·exact a6u z _
  ·exact a0J z l p h
theorem GO(G:T8 v ms'=true):∀{B:List Nat} {F:List (Nat × Blk)},Je v s.ms B=some F->(∀b∈B,b∈v.B)->∀p∈F,leM (rho v.R) s.st ms' p
 | [],F,h,_,p,C=>by cases h;cases C
 |b::l,F,h,hB,p,C=>by
  unfold Je at h;split at h
  ·rename_i N H K;split at h
   ·rename_i r rest L z;cases h;rcases D0.1 C with rfl|C
    ·have M:=hB b I2;have I:=G;simp only[T8,x7,List.all_eq_true]at I;have:=I.2.2.1 b M;have e:rho v.R b=some b:=(by unfold rho;rw[this.1]);exact Oh e K ⟨rfl,Rn G L⟩
    ·exact GO G z (λx hx=>hB x (J1 _ hx)) p C
   ·cases h
  ·cases h
theorem pH(G:T8 v ms'=true):∀{R:List (Nat × Nat)} {F:List (Nat × Blk)},Dq s.ms R=some F->(∀p∈R,p∈v.R)->∀p∈F,leM (rho v.R) s.st ms' p
 | [],F,h,_,p,B=>by cases h;cases B
 |(j,i)::l,F,h,hR,p,B=>by
  unfold Dq at h;split at h
  ·rename_i e k xs H;split at h
   ·rename_i rest z;cases h;rcases D0.1 B with rfl|B
    ·have C:=G;simp only[T8,x7,List.all_eq_true]at C;exact Oh (Ar (C.1 _ (hR _ I2)).1) H ⟨rfl,rfl,a0R xs⟩
    ·exact pH G z (λx hx=>hR x (J1 _ hx)) p B
   ·cases h
  ·rename_i od H;split at h
   ·rename_i rest z;cases h;rcases D0.1 B with rfl|B
    ·have C:=G;simp only[T8,x7,List.all_eq_true]at C;exact Oh (Ar (C.1 _ (hR _ I2)).1) H rfl
    ·exact pH G z (λx hx=>hR x (J1 _ hx)) p B
   ·cases h
  ·cases h
theorem yO(B:T8 v ms'=true):∀{Z:List (Nat × Nat × Nat)},(∀p∈Z,p∈v.Z)->∀p∈N8 Z,leM (rho v.R) s.st ms' p
 | [],_,p,z=>by cases z
 |(i,e,k)::l,hZ,p,z=>by
  rcases D0.1 z with rfl|z
  ·have F:=B;simp only[T8,x7,List.all_eq_true]at F;have:=F.2.1 _ (hZ _ I2);have G:rho v.R i=none:=by
    have C:=this.1.1;cases H:rho v.R i with
    |none=>rfl
    |some x=>rw[H]at C;cases C
   exact zA G (Nat.lt_of_succ_le (Nat.le_of_ble_eq_true this.2))
  ·exact yO B (λx hx=>hZ x (J1 _ hx)) p z
theorem b59{F:LS}(h:qK v s=some F):X7 s.st F.st:=by
 unfold qK at h;split at h
 ·rename_i Q R K N;split at h
  ·rename_i B;cases h;rw[ER];refine LX (λi hi=>?_) ⟨a0J B v.G,λp z=>?_,λp z q L j M I=>?_⟩
   ·unfold rho;rw[show Nat.blt i 1000=true from Nat.ble_eq_true_of_le hi]
   ·rcases A3.1 z with z|z
    ·rcases A3.1 z with z|z
     ·exact GO B K (λ_ h=>h) p z
     ·exact pH B N (λ_ h=>h) p z
    ·exact yO B (λ_ h=>h) p z
   ·have H:=B;simp only[T8,x7,List.all_eq_true]at H;obtain⟨i,hi,rfl⟩:=List.getElem_of_mem z;obtain⟨O,C,rfl⟩:=List.getElem_of_mem L;have:=Yt _ H.2.2.2.1 i O j (by rw[P2,w9 hi,G6,M]) (by rw[P2,w9 C,G6,I]);subst this;rfl
  ·cases h
 ·cases h
end
end
section
open Go.RowKit
variable{P:Program}
def LS.subst(s:LS)(id:Nat)(x:T):LS:=⟨s.n,s.es.map (λp=>(p.1,sub3 id x p.2)),(id,none)::s.ms.map λp=>(p.1,p.2.map (Blk.sub id x))⟩
def LS.frz(s:LS)(id:Nat):LS:=
 match A6 s.ms id with
 |some (.row _ k xs)=>s.subst id (.sl k xs)
 |some (.box _ cs)=>(match O3 cs with|some ts=>s.subst id (.fp ts)|none=>s)
 |_=>s
def LS.frzs(s:LS):List Nat->LS
 | []=>s
 |id::l=>(s.frz id).frzs l
theorem KA(g:A->A)(z:g .dead=.dead)(t:Nat):∀es:List (Nat × A),lkE (es.map λp=>(p.1,g p.2)) t=g (lkE es t)
 | []=>z.symm
 |(i,x)::l=>by
  show lkE ((i,g x)::l.map _) t=_;rw[Yh,Yh];unfold upd;split
  ·rfl
  ·exact KA g z t l
theorem IE(g:Blk->Blk)(t:Nat):∀ms:List (Nat × Option Blk),lkM (ms.map λp=>(p.1,p.2.map g)) t=(lkM ms t).map λb=>b.map g
 | []=>rfl
 |(i,x)::l=>by show lkM ((i,x.map g)::l.map _) t=_;rw[Dl,Dl,IE g t l];split<;>rfl
theorem JP(s:LS)(id:Nat)(x:T)(z:E6 s.ms id=true):(s.subst id x).st=s.st.sub id x:=by
 show St.mk _ _ _ _=St.mk _ _ _ _;congr 1
 ·funext t;exact KA _ rfl t s.es
 ·funext i
  show A6 ((id,none)::_) i=if i=id then none else(A6 s.ms i).map _
  unfold A6;rw[Dl,IE];by_cases h:i=id
  ·simp[h]
  ·simp only[h,if_false];cases lkM s.ms i with
   |none=>rfl
   |some b=>cases b<;>rfl
 ·funext i
  show E6 ((id,none)::_) i=E6 s.ms i;unfold E6;rw[Dl,IE];by_cases h:i=id
  ·subst h;unfold E6 at z;simp only[if_true];exact z.symm
  ·simp only[h,if_false];cases lkM s.ms i<;>rfl
theorem b2J(s:LS)(id:Nat):(s.frz id).st=s.st.frz id:=by
 unfold LS.frz St.frz;show _=match A6 s.ms id with
  |some (.row _ k xs)=>s.st.sub id (.sl k xs)
  |some (.box _ cs)=>(match O3 cs with|some ts=>s.st.sub id (.fp ts)|none=>s.st)
  |_=>s.st
 cases z:A6 s.ms id with
 |none=>rfl
 |some b=>
  cases b with
  |row e k xs=>exact JP s id _ (So z)
  |obj od=>rfl
  |box ty cs=>
   simp only;cases O3 cs with
   |none=>rfl
   |some ts=>exact JP s id _ (So z)
theorem EO:∀(l:List Nat) (s:LS),(s.frzs l).st=s.st.frzs l
 | [],_=>rfl
 |id::l,s=>by show((s.frz id).frzs l).st=(s.st.frz id).frzs l;rw[EO l,b2J]
def Nj(d:Option Bool)(b:Bool):Bool:=match d with|some b'=>b'|none=>b
def pA(d:Option Bool)(b:Bool):List Prop:=match d with|some b'=>[b=b']|none=>[]
def eqB(x y:Bool):Bool:=match x,y with|true,true=>true|false,false=>true|_,_=>false
def Z9(o:Oper)(q:Orc):Bool:=
 match o.op with
 |.call c=>(match c.callee with
  |.value (.func _)=>(match q with|.call _ r=>R6 r|.io _ _ _=>true|.look _ _=>true|_=>false)
  |_=>false)
 |_=>false
def fpQ(o:Oper)(q:Orc)(st:St):List Nat:=match q with|.look _ _=>Ic o st++x6 o st|_=>Ic o st
def wrQ(o:Oper)(q:Orc)(st:St):List Nat:=match q with|.look _ _=>[]|_=>x6 o st
theorem MF{P:Program}{o:Oper}{B:List (Nat × Nat × Nat)}{r:A}{s C:LS}{obs:List Prop}(h:P4 P o (.look B r) s=some (obs,C))(G:L6 obs):∃c f,o.op=.call c/\c.callee=.value (.func f)/\FnP P f (c.args.toList.map λy=>T6 s.st (s.st.ev y)) r/\(c.args.toList.map λy=>T6 s.st (s.st.ev y)).all E2=true/\R6 r=true/\C=s.put o.dst r:=by
 unfold P4 at h
 dsimp only at h
 split at h
 ·rename_i c H;split at h
  ·rename_i f F;split at h
   ·rename_i z;cases h;simp only[x7]at z;exact⟨c,f,H,F,Vw B z.1 G.1,z.1,z.2,rfl⟩
   ·cases h
  ·cases h
 ·cases h
theorem a7w{P:Program}{o:Oper}{H:List (Nat × Nat × Nat)}{r:A}{s C:LS}{obs:List Prop}(h:P4 P o (.look H r) s=some (obs,C))(M:L6 obs):Dx o s.st C.st []/\Vk P o s.st C.st (Ic o s.st++x6 o s.st) []:=by obtain⟨c,f,G,F,N,K,L,rfl⟩:=MF h M;rw[E5];refine⟨Qg o s.st r,λI S Q O R B=>?_⟩;rw[Uj]at B;have z:=UU G F Q λi hi=>(O i (.inl (A3.2 hi))).1;exact .inr (.inr (.inr (.inr ⟨c,f,r,G,F,by rw[z];exact N,by rw[z];exact K,L,B⟩)))
theorem a9R{P:Program}{o:Oper}{q:Orc}{s K:LS}{obs:List Prop}(z:Z9 o q=true)(h:P4 P o q s=some (obs,K))(I:L6 obs):Bo P o s.st (λst=>st=K.st):=by
 unfold Z9 at z;split at z
 ·rename_i c e;split at z
  ·rename_i f H;split at z
   ·rename_i M r
    change C6 P o (.call M r) s=some (obs,K)at h
    unfold C6 at h;simp only[e,H]at h;have R:(c.args.toList.map λx=>y7 s.st (s.st.ev x)).all E2=true/\L6 [FnP P f (Z6 M 0 (c.args.toList.map λx=>y7 s.st (s.st.ev x))) r]/\K=s.put o.dst r:=by
     split at h
     ·rename_i F _;cases h;exact⟨F,I,rfl⟩
     ·rename_i F _ _;cases h;exact⟨F,I,rfl⟩
     ·cases h
    obtain⟨F,O,rfl⟩:=R;have C:∀x∈c.args.toList,x∈o.op.operands.toList:=λx hx=>by rw[<-Iy,e];simp only[opL,H];exact List.mem_append_right _ hx
    refine Vo r (E5 s o.dst r).symm λG L K2 Q=>.inl ?_;have B:(c.args.toList.map λx=>y7 G (G.ev x))=c.args.toList.map λx=>y7 s.st (s.st.ev x):=List.map_congr_left λx hx=>by rw[L.env x (C x hx),sT (L.at (C x hx)).2]
    unfold C9;simp only[e,H];exact .inl ⟨r,by rw[B];exact Vw M F O.1,by rw[B];exact F,.inl ⟨z,Q⟩⟩
   ·rename_i v r m';unfold P4 at h;simp only[e,H]at h;split at h
    ·rename_i V bs rs L Y hr N;split at h
     ·rename_i U S;cases h;simp only[x7,Bool.or_eq_true,List.isEmpty_iff]at N;exact NG e H (WS L Y hr N.1 N.2 U S I.1 _ rfl)
     ·cases h
    ·cases h
   ·obtain⟨c,f,O,X,h3,Z,h5,rfl⟩:=MF h I;exact YM ⟨c,f,_,O,X,h3,Z,h5,(E5 s o.dst _).symm⟩
   ·cases z
  ·cases z
 ·cases z
def Y3(P:Program)(dr:Bool)(ops:List Oper):List Oper->List (Option Bool × List Nat × Orc)->LS->Option (List Prop × LS × List (List Nat × List Nat))
 | [],_,s=>some ([],s,[])
 |o::rest,qs,s=>
  match qs with
  | []=>none
  |q::qs=>
  match o.guard with
  |none=>
   (match !dr||(q.2.1.isEmpty&&(Au o s.st||Z9 o q.2.2)),P4 P o q.2.2 (s.frzs q.2.1)with
   |true,some (obs,s')=>(match Y3 P dr ops rest qs s' with|some (obs',s'',fps)=>some (obs++obs',s'',(fpQ o q.2.2 s.st,wrQ o q.2.2 s.st)::fps)|none=>none)
   |_,_=>none)
  |some (j,want)=>
   match Dw ops s.st j with
   |.t (.v (.bool b))=>
    (match eqB (Nj q.1 b) want with
    |true=>
     (match !dr||(q.2.1.isEmpty&&(Au o s.st||Z9 o q.2.2)),P4 P o q.2.2 (s.frzs q.2.1)with
     |true,some (obs,s')=>(match Y3 P dr ops rest qs s' with|some (obs',s'',fps)=>some (pA q.1 b++(obs++obs'),s'',(fpQ o q.2.2 s.st,wrQ o q.2.2 s.st)::fps)|none=>none)
     |_,_=>none)
    |false=>(match Y3 P dr ops rest qs (s.put o.dst (.tup []))with|some (obs',s'',fps)=>some (pA q.1 b++obs',s'',([],[])::fps)|none=>none))
   |.tup []=>(match Y3 P dr ops rest qs (s.put o.dst (.tup []))with|some (obs',s'',fps)=>some (obs',s'',([],[])::fps)|none=>none)
   |_=>none
theorem XB{d:Option Bool}{b z:Bool}(B:L6 (pA d b)):(eqB (Nj d b) z=true->b=z)/\(eqB (Nj d b) z=false->b≠z):=by
 cases d with
 |none=>cases b<;>cases z<;>simp[eqB,Nj]
 |some b'=>have:b=b':=B.1;subst this;cases b<;>cases z<;>simp[eqB,Nj]
theorem Xo(B:List Oper):∀(l:List Oper) (N:List (Option Bool × List Nat × Orc)) (s I:LS) (obs:List Prop) (H:List (List Nat × List Nat)),Y3 P true B l N s=some (obs,I,H)->L6 obs->Tc P B l s.st H I.st
 | [],N,s,I,obs,H,h,ho=>by simp only[Y3,P1,Prod.mk.injEq]at h;obtain⟨-,rfl,rfl⟩:=h;exact .nil _
 |o::rest,N,s,I,obs,H,h,ho=>by
  have go:∀{q:List Nat × Orc} {R:List Prop} {F:LS},(q.1.isEmpty&&(Au o s.st||Z9 o q.2))=true->P4 P o q.2 (s.frzs q.1)=some (R,F)->L6 R->
    Dx o s.st F.st (wrQ o q.2 s.st)/\Vk P o s.st F.st (fpQ o q.2 s.st) (wrQ o q.2 s.st):=λ{q R F} G z L=>by
   simp only[x7,List.isEmpty_iff]at G;obtain⟨ab,G⟩:=G;rw[ab]at z
   change P4 P o q.2 s=some (R,F)at z
   by_cases Q:∃ns r,q.2=.look ns r
   ·obtain⟨ns,r,e⟩:=Q;rw[e]at z⊢;exact a7w z L
   have ef:fpQ o q.2 s.st=Ic o s.st:=(by unfold fpQ;split<;>first|rfl|(rename_i e;exact absurd ⟨_,_,e⟩ Q))
   have ew:wrQ o q.2 s.st=x6 o s.st:=(by unfold wrQ;split<;>first|rfl|(rename_i e;exact absurd ⟨_,_,e⟩ Q))
   rw[ef,ew];have K:Bo P o s.st (λst=>st=F.st):=by
    rcases(by simpa[or_comm]using G:Z9 o q.2=true\/Au o s.st=true)with hl|G
    ·exact a9R hl z L
    ·exact b0R G (OW z L (λst=>st=F.st) rfl)
   obtain⟨I,hK,V,U⟩:=K;subst hK;exact⟨V,λY h0 L M K2 ac=>U Y ⟨h0,L,λi hi=>(M i hi).1,λi hi=>(M i (.inr hi)).2⟩ K2 ac⟩
  unfold Y3 at h;split at h
  ·cases h
  ·rename_i q N;split at h
   ·rename_i S;split at h
    ·rename_i R F G z;split at h
     ·rename_i o2 Z C O;cases h;obtain⟨L,M⟩:=mJ ho;obtain⟨V,hx⟩:=go (by simpa using G) z L;exact .cons o rest _ _ _ _ _ _ V (by unfold Iu;rw[S];exact hx) (Xo B rest N F I _ _ O M)
     ·cases h
    ·cases h
   ·rename_i j ad S;split at h
    ·rename_i b X;split at h
     ·rename_i he;split at h
      ·rename_i R F G z;split at h
       ·rename_i o2 Z C O;cases h;obtain⟨h0,aa⟩:=mJ ho;obtain⟨L,M⟩:=mJ aa;obtain⟨V,hx⟩:=go (by simpa using G) z L;exact .cons o rest _ _ _ _ _ _ V (by unfold Iu;rw[S];exact .inl ⟨b,X,λ_=>hx,λhn=>absurd ((XB h0).1 he) hn⟩) (Xo B rest N F I _ _ O M)
       ·cases h
      ·cases h
     ·rename_i he;split at h
      ·rename_i o2 Z C O;cases h;obtain⟨h0,M⟩:=mJ ho;refine .cons o rest _ (s.put o.dst (.tup [])).st _ [] [] _ (by rw[E5];exact Qg o s.st (.tup [])) (by unfold Iu;rw[S];exact .inl ⟨b,X,λhy=>absurd hy ((XB h0).2 he),λ_=>⟨E5 _ _ _,rfl⟩⟩) (Xo B rest N _ I _ _ O M)
      ·cases h
    ·rename_i X;split at h
     ·rename_i o2 Z C O;cases h;exact .cons o rest _ (s.put o.dst (.tup [])).st _ [] [] _ (by rw[E5];exact Qg o s.st (.tup [])) (by unfold Iu;rw[S];exact .inr ⟨X,E5 _ _ _,rfl⟩) (Xo B rest N _ I _ _ O ho)
     ·cases h
    ·cases h
theorem a0x{x:A}(h:Bw x=true):Ia x x:=by cases x<;>first|exact .refl _|(simp[Bw]at h)
def Fu:Nat->List A->List (Nat × A)
 |_,[]=>[]
 |i,x::l=>(i,x)::Fu (i+1) l
theorem ZM:∀(l:List A) (i t:Nat),lkE (Fu i l) t=if i<=t then(l[t-i]?).getD .dead else .dead
 | [],i,t=>by simp[Fu,lkE]
 |x::l,i,t=>by
  show lkE ((i,x)::Fu (i+1) l) t=_;rw[Yh];unfold upd;rw[ZM l (i+1) t];by_cases h:t=i
  ·subst h;simp
  ·rw[if_neg h];by_cases z:i+1<=t
   ·rw[if_pos z,if_pos (by omega),show t-i=(t-(i+1))+1 by omega,List.getElem?_cons_succ]
   ·rw[if_neg z,if_neg (by omega)]
end
section
open Go.RowKit
variable{P:Program}
def N9(v:CV)(ms:List (Nat × Option Blk)):Nat->List A->Option (List A)
 |_,[]=>some []
 |i,.agg cs::l=>(match Ac v ms v.N i 0 cs,N9 v ms (i+1) l with|some r,some rest=>some (.agg r::rest)|_,_=>none)
 |i,a::l=>(match O1 v ms (D5 v.N i 0) a,N9 v ms (i+1) l with|some r,some rest=>some (r::rest)|_,_=>none)
def lO(v:CV)(ms:List (Nat × Option Blk))(x:A):Option A:=
 match x with
 |.tup cs=>(match N9 v ms 0 cs with|some r=>some (.tup r)|none=>none)
 |.agg cs=>(match Ac v ms v.N 0 0 cs with|some r=>some (.agg r)|none=>none)
 |a=>O1 v ms (D5 v.N 0 0) a
def Mt(P:Program)(v:CV)(rs:List ResultVar)(s:LS):Option (A × List (Nat × Blk)):=
 match Jp P s.st rs,Je v s.ms v.B,Dq s.ms v.R with
 |some x,some bs,some rs=>
  (match T8 v (S7 (bs++rs++N8 v.Z)),lO v s.ms x with
  |true,some r=>some (r,S7 (bs++rs++N8 v.Z))
  |_,_=>none)
 |_,_,_=>none
section
variable{v:CV}{s:LS}{ms':List (Nat × Blk)}
theorem CS(z:T8 v ms'=true):∀{l r:List A} {i:Nat},N9 v s.ms i l=some r->Ec (rho v.R) s.st ms' l r
 | [],r,i,h=>by simp only[N9,P1]at h;subst h;trivial
 |x::l,r,i,h=>by
  unfold N9 at h;split at h
  ·rename_i e;cases e
  ·rename_i cs F e;cases e;split at h
   ·rename_i G rest C B;cases h;exact⟨Rn z C,CS z B⟩
   ·cases h
  ·rename_i a F _ e;cases e;split at h
   ·rename_i G rest C B;cases h;exact⟨jZ (pB z C),CS z B⟩
   ·cases h
theorem SX{z:Nat->Option Nat}{st:St}{ms:List (Nat × Blk)}{x y:A}(h:le2 z st ms x y):le3 z st ms x y:=by
 unfold le3;split
 ·exact h.elim
 ·exact h
theorem b4u(z:T8 v ms'=true){x r:A}(h:lO v s.ms x=some r):le3 (rho v.R) s.st ms' x r:=by
 unfold lO at h;split at h
 ·split at h
  ·rename_i C B;cases h;exact CS z B
  ·cases h
 ·split at h
  ·rename_i C B;cases h;exact SX (Rn z B)
  ·cases h
 ·exact SX (jZ (pB z h))
theorem b5w(C:T8 v ms'=true){G H:List (Nat × Blk)}(L:Je v s.ms v.B=some G)(O:Dq s.ms v.R=some H)(e:ms'=S7 (G++H++N8 v.Z)):V0 (rho v.R) s.st [] ms':=by
 refine⟨λp z=>(by cases z),λp z=>?_,λp z q M j N K=>?_⟩
 ·rw[e]at z;rcases A3.1 (yQ z)with z|z
  ·rcases A3.1 z with z|z
   ·exact GO C L (λ_ h=>h) p z
   ·exact pH C O (λ_ h=>h) p z
  ·exact yO C (λ_ h=>h) p z
 ·have I:=C;simp only[T8,x7,List.all_eq_true]at I;obtain⟨i,hi,rfl⟩:=List.getElem_of_mem z;obtain⟨Q,F,rfl⟩:=List.getElem_of_mem M;have:=Yt _ I.2.2.2.1 i Q j (by rw[P2,w9 hi,G6,N]) (by rw[P2,w9 F,G6,K]);subst this;rfl
end
theorem OS{F:Func}{r:A}{B:List (Nat × Blk)}{s:LS}(v:CV)(h:Mt P v F.results.toList s=some (r,B)):∃z:Nat->Option Nat,(∀i,i<1000->z i=some i)/\∃x,Jp P s.st F.results.toList=some x/\le3 z s.st B x r/\V0 z s.st [] B:=by
 unfold Mt at h;split at h
 ·rename_i x M K hx H G;split at h
  ·rename_i L C I;cases h;exact⟨rho v.R,λi hi=>by unfold rho;rw[show Nat.blt i 1000=true from Nat.ble_eq_true_of_le hi],x,hx,b4u C I,b5w C H G rfl⟩
  ·cases h
 ·cases h
theorem b1v{z:Func}{r:A}{B:List (Nat × Blk)}{s:LS}(v:CV)(h:Mt P v z.results.toList s=some (r,B)):Dr P z r B .ret s.st:=OS v h
theorem a91{z:Func}{r:A}{B:List (Nat × Blk)}{s:LS}(v:CV)(h:Mt P v z.results.toList s=some (r,B)):Dr P z r B .normal s.st:=OS v h
theorem a1D(n:Nat)(args:List A)(m:List (Nat × Blk)):(LS.mk n (Fu 0 args) (W5 m)).st=Xf n args m:=by
 unfold LS.st Xf;congr 1
 ·funext t
  rw[ZM];simp
 ·funext i;exact(vG m i).1
 ·funext i;exact(vG m i).2
theorem a3f{f:FuncId}{z:Func}{c:Code}{args:List A}{m C:List (Nat × Blk)}{r:A}(F:P.funcs[f]? =some z)(H:z.body=some c)(B:Lg P f=true)(I:args.length<=z.ntmps)(G:z.ntmps<=900)(h:W P c (LS.mk z.ntmps (Fu 0 args) (W5 m)).st (Dr P z r C)):Y7 P f args m r C:=by rw[a1D]at h;exact a5z F H B I G h
theorem NI:∀{cs:List A},cs.all Bw=true->Wh cs cs
 | [],_=>trivial
 |x::l,h=>by simp only[List.all_cons,x7]at h;exact⟨a0x h.1,NI h.2⟩
theorem IV{x:A}(h:E2 x=true):Fo x x:=by
 cases x with
 |agg cs=>exact NI h
 |_=>exact QT (a0x h)
theorem EB{f:FuncId}{args:List A}{r F:A}{N:List (Nat × Blk)}(h:Y7 P f args [] r N)(Z:Vx (mst N) r=F)(L:dK F=true):FnP P f args F:=by
 refine⟨h.1,λw X G R K B=>?_⟩
 let C:Ctx:=⟨P,X,λ_=>False,w,λ_=>none⟩
 have V:z8 C (mst []) (λ_=>nol) Pa w:=⟨rfl,rfl,λt=>.dead _,λid U h=>(by cases h),λi j b hi=>(by cases hi),λi b hi=>(by cases hi),R,rfl,rfl,rfl,l5 _,λ_ _ _=>rfl,λ_ _ h=>(by cases h),λ_ _ h=>(by cases h)⟩;have O:∀b,Mut C (mst []) (λ_=>nol) b->X b:=by
  rintro b (hx|⟨i,hi,_⟩)
  ·exact hx
  ·cases hi
 refine(h.2 C (λ_=>nol) G rfl (λ_ _ h=>(by cases h)) V K λi hi=>RepA.ext (B i hi) (Ext.refl _ _) (λb _ h=>O b h) (λid hi=>by simp at hi) (λid hi=>by simp at hi)).mono ?_;rintro e w' ⟨v,L',rfl,z,I⟩;refine⟨v,rfl,⟨z.os,z.tape,z.output,z.size,λk S=>z.block k S (λh=>h)⟩,?_⟩;have M:=a3X z (M':=X) (λb h=>.inl h) (λid e k xs Y b Q hx=>(z.out id b (by rw[Y];rfl) Q).1 hx) I;rw[Z]at M;refine SO (x:=F) ?_ M;unfold leF;split
 ·rename_i cs ds;have:∀l:List A,l.all E2=true->lQ l l:=λl=>by
   induction l with
   |nil=>intro _;trivial
   |cons x l ih=>intro h;simp only[List.all_cons,x7]at h;exact⟨IV h.1,ih h.2⟩
  exact this _ L
 ·rename_i x y H;cases F with
  |tup cs=>exact absurd rfl (H cs cs rfl)
  |_=>exact IV L
end
end
end Go.Proofs.YtihbbcealnnpiaaGreatDoor
