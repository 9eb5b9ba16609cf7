/- Parts of the proof. -/
import Derived.Test.YtihbbcealnnpiaaGreatDoorGmXC
set_option linter.unusedVariables false
namespace Go.Proofs.YtihbbcealnnpiaaGreatDoor
section
section
open Go.RowKit
variable{P:Program}
structure LS where
 n:Nat
 es:List (Nat × A)
 ms:List (Nat × Option Blk)
def lkE:List (Nat × A)→Nat→A
 | [],_=>.dead
 |(i,x)::l,t=>match Nat.beq t i with|true=>x|false=>lkE l t
def lkM:List (Nat × Option Blk)→Nat→Option (Option Blk)
 | [],_=>none
 |(i,x)::l,t=>match Nat.beq t i with|true=>some x|false=>lkM l t
def x7(ms:List (Nat × Option Blk))(i:Nat):Option Blk:=match lkM ms i with|some (some b)=>some b|_=>none
def D3(ms:List (Nat × Option Blk))(i:Nat):Bool:=match lkM ms i with|some _=>true|none=>false
def LS.st(s:LS):St:=⟨s.n,lkE s.es,x7 s.ms,D3 s.ms⟩
def LS.put(s:LS)(d:Option Nat)(a:A):LS:=match d with|some d=>⟨s.n,(d,a)::s.es,s.ms⟩|none=>s
def LS.new(s:LS)(id:Nat)(b:Blk):LS:=⟨s.n,s.es,(id,some b)::s.ms⟩
def LS.del(s:LS)(id:Nat):LS:=⟨s.n,s.es,(id,none)::s.ms⟩
theorem D5{t i:Nat}(h:Nat.beq t i=true):t=i:=Nat.eq_of_beq_eq_true h
theorem Nq{t i:Nat}(h:Nat.beq t i=false):t≠i:=fun e=>by rw[e]at h;simp at h
theorem Vz(i:Nat)(x:A)(l:List (Nat × A)):lkE ((i,x)::l)=upd (lkE l) i x:=by
 funext t
 unfold lkE upd;cases h:Nat.beq t i with
 |true=>simp[D5 h]
 |false=>simp[Nq h]
theorem Ay(i:Nat)(x:Option Blk)(l:List (Nat × Option Blk))(t:Nat):lkM ((i,x)::l) t=if t=i then some x else lkM l t:=by
 show(match Nat.beq t i with|true=>some x|false=>lkM l t)=_;cases h:Nat.beq t i with
 |true=>rw[if_pos (D5 h)]
 |false=>rw[if_neg (Nq h)]
theorem XL(i:Nat)(b:Blk)(l:List (Nat × Option Blk)):x7 ((i,some b)::l)=upd (x7 l) i (some b):=by
 funext t
 simp only[x7,upd,Ay];by_cases h:t=i<;>simp[h]
theorem a1n(i:Nat)(l:List (Nat × Option Blk)):x7 ((i,none)::l)=upd (x7 l) i none:=by
 funext t
 simp only[x7,upd,Ay];by_cases h:t=i<;>simp[h]
theorem yW(i:Nat)(x:Option Blk)(l:List (Nat × Option Blk)):D3 ((i,x)::l)=upd (D3 l) i true:=by
 funext t
 simp only[D3,upd,Ay];by_cases h:t=i<;>simp[h]
theorem C3(s:LS)(d:Option Nat)(a:A):(s.put d a).st=s.st.put d a:=by
 cases d with
 |none=>rfl
 |some d=>simp only[LS.put,LS.st,St.put,Vz]
theorem Gq(s:LS)(id:Nat)(b:Blk):(s.new id b).st=s.st.new id b:=by simp only[LS.new,LS.st,St.new,XL,yW]
theorem Pr{ms:List (Nat × Option Blk)}{id:Nat}{b:Blk}(h:x7 ms id=some b):D3 ms id=true:=by
 unfold x7 at h;unfold D3;split at h
 ·rename_i b' hb;rw[hb]
 ·cases h
theorem TJ{α:Type}(f:Nat→α)(i:Nat)(x:α)(h:f i=x):upd f i x=f:=by
 funext t;unfold upd;split
 ·rename_i e;rw[e,h]
 ·rfl
theorem Ur(s:LS)(id:Nat)(b b':Blk)(h:s.st.mem id=some b'):(s.new id b).st=s.st.setm id b:=by simp only[LS.new,LS.st,St.setm,XL,yW];rw[TJ (D3 s.ms) id true (Pr h)]
theorem GV(s:LS)(id:Nat)(b':Blk)(h:s.st.mem id=some b'):(s.del id).st=s.st.del id:=by simp only[LS.del,LS.st,St.del,a1n,yW];rw[TJ (D3 s.ms) id true (Pr h)]
def I5:List Prop→Prop
 | []=>True
 |p::l=>p∧I5 l
theorem kG{l r:List Prop}(h:I5 (l++r)):I5 l∧I5 r:=by
 induction l with
 |nil=>exact⟨trivial,h⟩
 |cons p l ih=>exact⟨⟨h.1,(ih h.2).1⟩,(ih h.2).2⟩
def Pc(xs:List (List T))(n:Int)(m:Nat)(el:List T):Prop:=n=(m:Int)∧xs[m]? =some el
def Wk(s:ByteArray)(n:Int)(m:Nat)(b:UInt8):Prop:=n=(m:Int)∧s[m]? =some b
def M8(by_ n:Nat):Prop:=n*by_≤140737488355328∧n≤maxLen
def U7(x y:List (List T)):Prop:=x=y
def Bt(P:Program)(op:BinOp)(ty:TypeId)(x y z:Value):Prop:=kN P op ty x y=some z
inductive x9 where
 |sl(k:Nat)
 |row(id:Nat)
def C6:List (Nat × Nat × x9)→Nat→Nat→Option x9
 | [],_,_=>none
 |(i,j,k)::l,i',j'=>match Nat.beq i i'&&Nat.beq j j' with|true=>some k|false=>C6 l i' j'
def rnm:List (Nat × Nat)→Nat→Option Nat
 | [],_=>none
 |(j,i)::l,j'=>match Nat.beq j j' with|true=>some i|false=>rnm l j'
def Up:List (Nat × Nat)→Nat→Option Nat
 | [],_=>none
 |(j,i)::l,i'=>match Nat.beq i i' with|true=>some j|false=>Up l i'
def B7:List Nat→Nat→Bool
 | [],_=>false
 |i::l,j=>match Nat.beq i j with|true=>true|false=>B7 l j
def UQ:Option Nat→Bool
 |none=>true
 |some _=>false
def X3(j:Nat):Option Nat→Bool
 |some i=>Nat.beq i j
 |none=>false
def bU:Option Blk→Bool
 |some (.row _ _ [])=>true
 |_=>false
def jX:Option Blk→Bool
 |some _=>true
 |_=>false
def Pn:List (Option Nat)→Bool
 | []=>true
 |none::l=>Pn l
 |some x::l=>(l.all fun y=>!(X3 x y))&&Pn l
structure IOV where
 B:List (Nat × Nat)
 R:List (Nat × Nat)
 F:List Nat
 Z:List (Nat × Nat × Nat)
 N:List (Nat × Nat × x9)
 M:List (Nat × Nat × x9)
 V:List (Nat × Nat)
def O8(v:IOV)(i:Nat):Option Nat:=match Up v.B i with|some j=>some j|none=>Up v.R i
def H4(v:IOV)(i:Nat):Nat:=match rnm v.V i with|some j=>j|none=>i
def E8(J:List Nat)(ms:List (Nat × Option Blk))(i:Nat):Option Blk:=match B7 J i with|true=>x7 ms i|false=>none
def ioL(v:IOV)(gm:Nat→Option Blk)(nt:Option x9)(a:A):Option A:=
 match a with
 |.t x=>(match nt,x with
  |some (.sl k),.v (.slice none 0 0)=>some (.t (.sl k []))
  |some (.row id),.v (.slice none 0 0)=>(match B7 (v.Z.map (·.1)) id with|true=>some (.ref id)|false=>none)
  |_,x=>some (.t x))
 |.ref j=>(match rnm v.R j with
  |some i=>some (.ref i)
  |none=>(match B7 v.F j,gm j with|true,some (.row e k xs)=>some (.t (.sl k xs))|_,_=>none))
 |.ptr j o=>(match rnm v.B j with|some i=>some (.ptr i o)|none=>none)
 |.ifc t j o=>(match rnm v.B j with|some i=>some (.ifc t i o)|none=>none)
 |.rptr j p q=>(match rnm v.R j with|some i=>some (.rptr i p q)|none=>none)
 |.ob j=>(match rnm v.R j with|some i=>some (.ob i)|none=>none)
 |.fel x=>some (.fel x)
 |_=>none
def Dj(v:IOV)(gm:Nat→Option Blk)(sp:List (Nat × Nat × x9))(t:Nat):Nat→List A→Option (List A)
 |_,[]=>some []
 |j,a::l=>match ioL v gm (C6 sp t j) a,Dj v gm sp t (j+1) l with|some x,some r=>some (x::r)|_,_=>none
def Ip(v:IOV)(gm:Nat→Option Blk)(i:Nat)(a:A):Option A:=
 match a with
 |.agg cs=>(match Dj v gm v.N i 0 cs with|some r=>some (.agg r)|none=>none)
 |a=>ioL v gm (C6 v.N i 0) a
def Hv(v:IOV)(gm:Nat→Option Blk):Nat→List A→Option (List A)
 |_,[]=>some []
 |i,a::l=>match Ip v gm i a,Hv v gm (i+1) l with|some x,some r=>some (x::r)|_,_=>none
def ioB(v:IOV)(gm:Nat→Option Blk):List (Nat × Nat)→Option (List (Nat × Blk))
 | []=>some []
 |(j,i)::l=>match gm j with
  |some (.box ty cells)=>(match Dj v gm v.M i 0 cells,ioB v gm l with|some r,some rest=>some ((i,.box ty r)::rest)|_,_=>none)
  |_=>none
def ioR(gm:Nat→Option Blk):List (Nat × Nat)→Option (List (Nat × Blk))
 | []=>some []
 |(j,i)::l=>match gm j with
  |some (.row e k xs)=>(match ioR gm l with|some rest=>some ((i,.row e k xs)::rest)|none=>none)
  |some (.obj od)=>(match ioR gm l with|some rest=>some ((i,.obj od)::rest)|none=>none)
  |_=>none
def ioZ:List (Nat × Nat × Nat)→List (Nat × Blk)
 | []=>[]
 |(i,e,k)::l=>(i,.row e k [])::ioZ l
def uN:Option Blk→Blk→Bool
 |some (.box _ _),.box _ _=>true
 |some (.obj x),.obj y=>(match x.isMap,y.isMap with|true,true=>true|false,false=>true|_,_=>false)
 |_,_=>false
def X0:List Nat→Bool
 | []=>true
 |i::l=>(match B7 l i with|true=>false|false=>true)&&X0 l
def Lt(p:Nat × Blk):List (Nat × Blk)→List (Nat × Blk)
 | []=>[p]
 |q::l=>match Nat.ble p.1 q.1 with|true=>p::q::l|false=>q::Lt p l
def P7:List (Nat × Blk)→List (Nat × Blk)
 | []=>[]
 |p::l=>Lt p (P7 l)
def T5(v:IOV)(J:List Nat)(m:List (Nat × Blk)):Bool:=
 (v.R.all fun p=>X3 p.1 (O8 v p.2)&&jX (look m p.2))&&
 ((v.B.all fun p=>X3 p.1 (O8 v p.2)&&jX (look m p.2))&&
 ((v.Z.all fun p=>UQ (O8 v p.1)&&bU (look m p.1)&&Nat.blt 0 p.2.2)&&
 (Pn (m.map fun p=>O8 v p.1)&&
 ((v.F.all fun j=>m.all fun p=>!(X3 j (O8 v p.1)))&&
 (m.all fun p=>match O8 v p.1 with|some j=>B7 J j|none=>true)))))
def Wq(v:IOV)(s:LS)(d:Option Nat)(m m':List (Nat × Blk)):Bool:=
 X0 (m'.map (·.1))&&(X0 (m'.map fun p=>H4 v p.1)&&
 (m'.all fun p=>match T0 p.1 with
  |true=>X3 (H4 v p.1) (O8 v p.1)&&uN (look m p.1) p.2
  |false=>(match D3 s.ms (H4 v p.1)with|true=>false|false=>true)&&(Nat.blt (H4 v p.1) s.n||Nat.ble 1000 (H4 v p.1))&&B7 (Ob d) (H4 v p.1)))
def Hf(v:IOV):List (Nat × Blk)→List (Nat × Option Blk)
 | []=>[]
 |(i,b)::l=>(H4 v i,some (b.ren (H4 v)))::Hf v l
def Be(ms:List (Nat × Option Blk)):List Nat→List (Nat × Option Blk)
 | []=>[]
 |j::l=>match D3 ms j with|true=>(j,none)::Be ms l|false=>Be ms l
def LS.back(s:LS)(v:IOV)(J:List Nat)(m':List (Nat × Blk)):LS:=⟨s.n,s.es,Hf v m'++(Be s.ms J++s.ms)⟩
inductive Orc where
 |no
 |ix(m:Nat)(el:List T)
 |sx(m:Nat)(b:UInt8)
 |rows(xs:List (List T))
 |set(el:List T)(xs:List (List T))
 |len(n:Nat)
 |dec(b:Bool)
 |val(z:Value)
 |call(nils:List (Nat × Nat × Nat))(r:A)
 |quiet(x:A)
 |makes(e:TypeId)(k:Nat)(ys:List (List T))
 |moves(i:Nat)(b:Blk)
 |sets(i:Nat)(b:Blk)(r:A)
 |io(v:IOV)(r:A)(m':List (Nat × Blk))
 |callv(r:A)
 |newo(od:Od)
 |look(nils:List (Nat × Nat × Nat))(r:A)
def GF(t:Bool)(x y:A):A:=
 match t with
 |true=>x
 |false=>y
def Tw(t:Bool)(x y:Value):Value:=
 match x,y with
 |.bool a,.bool b=>.bool (cond t a b)
 |.int .i64 a,.int .i64 b=>.int .i64 (cond t a b)
 |.int .u8 a,.int .u8 b=>.int .u8 (cond t a b)
 |.string a,.string b=>.string (cond t a b)
 |x,y=>match t with|true=>x|false=>y
theorem TH(t:Bool)(x y:Value):Tw t x y=(match t with|true=>x|false=>y):=by unfold Tw;split<;>cases t<;>rfl
def So(t:Bool)(x y:A):A:=
 match x,y with
 |.t (.v a),.t (.v b)=>.t (.v (Tw t a b))
 |x,y=>Kk t x y
theorem YL(t:Bool)(x y:A):So t x y=Kk t x y:=by
 unfold So;split
 ·rw[TH];cases t<;>rfl
 ·rfl
def Dd(k:Option Nat)(x:A):A:=match k,x with|some k,.t (.v (.slice none 0 0))=>.t (.sl k [])|_,x=>x
def Dr:List (Nat × Nat × Nat)→Nat→Nat→Option Nat
 | [],_,_=>none
 |(i,j,k)::l,i',j'=>match Nat.beq i i'&&Nat.beq j j' with|true=>some k|false=>Dr l i' j'
def Nt(ns:List (Nat × Nat × Nat))(i:Nat):Nat→List A→List A
 |_,[]=>[]
 |j,x::l=>Dd (Dr ns i j) x::Nt ns i (j+1) l
def Mo(ns:List (Nat × Nat × Nat))(i:Nat)(x:A):A:=match x with|.agg cs=>.agg (Nt ns i 0 cs)|x=>Dd (Dr ns i 0) x
def U8(ns:List (Nat × Nat × Nat)):Nat→List A→List A
 |_,[]=>[]
 |i,x::l=>Mo ns i x::U8 ns (i+1) l
theorem IR(k:Option Nat)(x:A)(h:Y8 x=true):Eu x (Dd k x):=by
 unfold Dd;split
 ·exact .nil _
 ·cases x<;>simp[Y8]at h;exact .refl _
theorem KI(ns:List (Nat × Nat × Nat))(i:Nat):∀(l:List A) (j:Nat),l.all Y8=true→Tv l (Nt ns i j l)
 | [],_,_=>trivial
 |x::l,j,h=>by simp only[List.all_cons,w9]at h;exact⟨IR _ x h.1,KI ns i l (j+1) h.2⟩
theorem OG{x y:A}(h:Eu x y):Cp x y:=by cases x<;>cases y<;>first|exact h|exact h.elim
theorem a1q(ns:List (Nat × Nat × Nat))(i:Nat)(x:A)(h:C7 x=true):Cp x (Mo ns i x):=by
 cases x with
 |agg cs=>exact KI ns i cs 0 h
 |_=>exact OG (IR _ _ h)
theorem vY(ns:List (Nat × Nat × Nat)):∀(l:List A) (i:Nat),(U8 ns i l).length=l.length
 | [],_=>rfl
 |x::l,i=>by simp[U8,vY ns l]
theorem QS(ns:List (Nat × Nat × Nat)):∀(l:List A) (i j:Nat) (h:j<l.length) (h':j<(U8 ns i l).length),l.all C7=true→Cp l[j] (U8 ns i l)[j]
 |x::l,i,0,_,_,ha=>by simp only[List.all_cons,w9]at ha;exact a1q ns i x ha.1
 |x::l,i,j+1,h,h',ha=>by simp only[List.all_cons,w9]at ha;exact QS ns l (i+1) j (by simpa using h) (by simpa[U8]using h') ha.2
theorem a4F{w:World}{M:Nat→Prop}{x y:A}{v:Value}(h:Cp x y)(hr:D7 w M x v):D7 w M y v:=xS h hr
theorem Mz{f:FuncId}{args:List A}{r:A}(ns:List (Nat × Nat × Nat))(ha:args.all C7=true)(h:FnP P f (U8 ns 0 args) r):FnP P f args r:=by refine⟨h.1,fun w X vals hX hsz hargs=>h.2 w X vals hX (by rw[hsz,vY]) fun i hi=>?_⟩;have hi':i<args.length:=(by rw[vY]at hi;exact hi);exact a4F (QS ns args 0 i hi' hi ha) (hargs i hi')
def Ma(s:LS)(q:Orc)(a:A):Option (List Prop):=
 match a with
 |.rptr id i j=>(match x7 s.ms id,q with|some (.row _ _ xs),.ix _ el=>some [xs[i]? =some el]|_,_=>none)
 |a=>match P6 s.st a with|true=>some []|false=>none
theorem WU{s:LS}{q:Orc}{a:A}{obs:List Prop}(h:Ma s q a=some obs)(ho:I5 obs):P6 s.st a=true:=by
 unfold Ma at h;split at h
 ·rename_i id i j;split at h
  ·rename_i e' k' xs m el hm;cases h;show(match s.st.mem id with|some (.row _ _ xs)=>decide (i<xs.length)|_=>false)=true;rw[show s.st.mem id=some (.row _ _ xs)from hm];have:=ho.1;simp only[decide_eq_true_eq]
   apply Nat.lt_of_not_le
   intro hle;rw[List.getElem?_eq_none hle]at this;cases this
  ·cases h
 ·split at h
  ·rename_i hp;exact hp
  ·cases h
def B2(P:Program)(o:Oper)(q:Orc)(s:LS):Option (List Prop × LS):=
 match o.op with
 |.move x|.assign x=>some ([],s.put o.dst (s.st.ev x))
 |.pick c a b=>match s.st.ev c with
  |.t (.v (.bool t))=>(match q with
   |.dec b'=>some ([t=b'],s.put o.dst (GF b' (s.st.ev a) (s.st.ev b)))
   |_=>some ([],s.put o.dst (So t (s.st.ev a) (s.st.ev b))))
  |_=>none
 |.alloc ty=>match o.dst,p8 P ty with|some d,some ti=>(match D3 s.ms d with|false=>some ([],(s.new d (.box ty (ti.zero.map .v))).put (some d) (.ptr d 0))|true=>none)|_,_=>none
 |.box ty x=>match o.dst,cellsOf (s.st.ev x)with|some d,some cs=>(match D3 s.ms d with|false=>some ([],(s.new d (.box ty cs)).put (some d) (.ptr d 0))|true=>none)|_,_=>none
 |.build t parts=>match p8 P t with
  |some ti=>match H0 P t,Dk ti.fs (ti.zero.map .v) (parts.toList.map fun(i,x)=>(i,s.st.ev x))with|.strct,some cs=>some ([],s.put o.dst (.agg cs))|_,_=>none
  |none=>none
 |.buildSlice t len parts=>match o.dst,p8 P t with
  |some d,some ti=>match ti.elem with
   |some e=>match p8 P e with
    |some te=>match D3 s.ms d,Nat.blt 0 te.size&&Nat.beq parts.size len&&Nat.ble (len*te.size) 16777216,(parts.toList.flatMap fun(_,x)=>D4 (s.st.ev x))with
     |false,true,[]=>(match Ba te.size 0 (parts.toList.map fun(i,x)=>(i,s.st.ev x))with
      |some xs=>some ([],(s.new d (.row e te.size xs)).put (some d) (.ref d))
      |none=>none)
     |_,_,_=>none
    |none=>none
   |none=>none
  |_,_=>none
 |.load t a=>match p8 P t with
  |some ti=>
   (match q with
   |.ix m el=>(match s.st.ev a with
    |.rptr id i j=>(match x7 s.ms id,P3 ((el.drop j).map .t) 0 ti.size ti.agg with
     |some (.row _ _ xs),some x=>some ([xs[i]? =some el],s.put o.dst x)
     |_,_=>none)
    |_=>none)
   |_=>match K7 s.st (s.st.ev a) ti with|some x=>some ([],s.put o.dst x)|none=>none)
  |none=>none
 |.store t a x=>match p8 P t,cellsOf (s.st.ev x)with
  |some ti,some cs=>(match Nat.beq cs.length ti.size with
   |true=>(match s.st.ev a with
    |.ptr id off=>(match x7 s.ms id with
     |some (.box ty cells)=>(match Nat.ble (off+cs.length) cells.length with
      |true=>some ([],(s.new id (.box ty (cells.take off++cs++cells.drop (off+cs.length)))).put o.dst .dead)
      |false=>none)
     |_=>none)
    |.rptr id i j=>(match x7 s.ms id,L7 cs,q with
     |some (.row e k xs),some l,.set el ys=>(match Nat.ble (j+l.length) el.length with
      |true=>some ([xs[i]? =some el,U7 (xs.set i (el.take j++l++el.drop (j+l.length))) ys],(s.new id (.row e k ys)).put o.dst .dead)
      |false=>none)
     |_,_,_=>none)
    |_=>none)
   |false=>none)
  |_,_=>none
 |.nilCheck x=>match Ma s q (s.st.ev x)with|some obs=>some (obs,s.put o.dst (s.st.ev x))|none=>none
 |.binOp op ty x y _=>
  match q with
  |.val z=>(match s.st.ev x,s.st.ev y,z.oneCell' with
   |.t (.v x),.t (.v y),true=>some ([An P s.st op ty (.t (.v x)) (.t (.v y))=some z],s.put o.dst (.v z))
   |_,_,_=>none)
  |_=>match An P s.st op ty (s.st.ev x) (s.st.ev y)with|some z=>(match z.oneCell' with|true=>some ([],s.put o.dst (.v z))|false=>none)|none=>none
 |.unOp op _ x=>match s.st.ev x with
  |.t (.v y)=>(match unF op y with|some z=>(match z.oneCell' with|true=>some ([],s.put o.dst (.v z))|false=>none)|none=>none)
  |_=>none
 |.convert src dst x=>match Mu P src dst (s.st.ev x),p8 P src with|some z,some _=>some ([],s.put o.dst z)|_,_=>none
 |.fieldAddr t x f=>match p8 P t,H0 P t with
  |some ti,.strct=>(match Ma s q (s.st.ev x),Iv ti (s.st.ev x) f with|some obs,some z=>some (obs,s.put o.dst z)|_,_=>none)
  |_,_=>none
 |.field t x f=>match p8 P t,H0 P t with
  |some ti,.strct=>(match Ka ti (s.st.ev x) f with|some z=>some ([],s.put o.dst z)|none=>none)
  |_,_=>none
 |.indexAddr t x i=>match p8 P t with
  |some ti=>match ti.elem with
   |some e=>match p8 P e,P8 s.st (s.st.ev x),s.st.ev i,q with
    |some te,some (k',xs),.t (.v (.int k n)),.ix m el=>(match Nat.beq k' te.size with
     |true=>some ([Pc xs n m el],s.put o.dst (match s.st.ev x with|.ref id=>.rptr id m 0|_=>.fel el))
     |false=>none)
    |_,_,_,_=>none
   |none=>none
  |none=>none
 |.index t x i=>match H0 P t,s.st.ev x,s.st.ev i,q with
  |.str,.t (.v (.string s')),.t (.v (.int k n)),.sx m b=>some ([Wk s' n m b],s.put o.dst (.v (.int .u8 b.toNat)))
  |_,_,_,_=>none
 |.extract x i=>match s.st.ev x with
  |.tup cs=>(match cs[i]? with|some y=>some ([],s.put o.dst y)|none=>none)
  |_=>none
 |.call c=>
  match c.callee,c.args.toList,c.argTypes.toList with
  |.builtin .len,[x],ty::_=>(match q with
   |.len n=>(match H0 P ty,P8 s.st (s.st.ev x)with|.slice,some (k,xs)=>some ([xs.length=n],s.put o.dst (.v (.int .i64 n)))|_,_=>none)
   |_=>match Co P s.st ty (s.st.ev x)with|some z=>some ([],s.put o.dst (.v z))|none=>none)
  |.builtin .append,[x,y],[t,t']=>(match o.dst,p8 P t,q with
   |some d,some ti,.rows zs=>(match ti.elem with
    |some e=>(match p8 P e,P8 s.st (s.st.ev y)with
     |some te,some (k'',ys)=>(match Nat.beq t t'&&Nat.blt 0 te.size&&Nat.beq k'' te.size,D3 s.ms d with
      |true,false=>
       (match s.st.ev x with
       |.t (.v (.slice none 0 0))=>some ([M8 te.bytes ys.length,U7 ys zs],(s.new d (.row e te.size zs)).put (some d) (.ref d))
       |.ref id=>(match x7 s.ms id with
        |some (.row e' k' xs)=>(match Nat.beq e' e&&Nat.beq k' te.size with
         |true=>some ([M8 te.bytes (xs.length+ys.length),U7 (xs++ys) zs],((s.del id).new d (.row e te.size zs)).put (some d) (.ref d))
         |false=>none)
        |_=>none)
       |_=>none)
      |_,_=>none)
     |_,_=>none)
    |none=>none)
   |_,_,_=>none)
  |.value (.func f),args,_=>(match q with
   |.call ns r=>(match(args.map fun x=>u0 s.st (s.st.ev x)).all C7,(args.map s.st.ev).flatMap D4,O1 r with
    |true,[],_=>some ([FnP P f (U8 ns 0 (args.map fun x=>u0 s.st (s.st.ev x))) r],s.put o.dst r)
    |true,_,true=>some ([FnP P f (U8 ns 0 (args.map fun x=>u0 s.st (s.st.ev x))) r],s.put o.dst r)
    |_,_,_=>none)
   |_=>none)
  |_,_,_=>none
 |_=>none
def M3(P:Program)(o:Oper)(q:Orc)(s:LS):Option (List Prop × LS):=
 match q with
 |.quiet z=>(match(J3 o s.st||O1 z)&&(C2 o s.st).all C7 with|true=>some ([Aq P o (C2 o s.st) z],s.put o.dst z)|false=>none)
 |.makes e k ys=>(match o.dst,J3 o s.st&&Fl o s.st&&(C2 o s.st).all C7 with
  |some d,true=>(match D3 s.ms d with|false=>some ([Gg P o (C2 o s.st) e k ys],(s.new d (.row e k ys)).put (some d) (.ref d))|true=>none)
  |_,_=>none)
 |.moves i b'=>(match o.dst,((opL o.op).map s.st.ev)[i]? with
  |some d,some (.ref id)=>(match x7 s.ms id,D3 s.ms d,Lr o i with
   |some b,false,true=>some ([Na P o i b (((opL o.op).map s.st.ev).set i .dead) b'],((s.del id).new d b').put (some d) (.ref d))
   |_,_,_=>none)
  |_,_=>none)
 |.sets i b' r=>(match((opL o.op).map s.st.ev)[i]? with
  |some y=>(match Ah y with
   | [id]=>(match x7 s.ms id,Gm o with
    |some (.obj od),true=>(match y with|.ob _=>some ([Ji P o i (.obj od) (((opL o.op).map s.st.ev).set i .dead) b' r],(s.new id b').put o.dst r)|_=>none)
    |some (.row e k xs),true=>(match y with|.ref _=>some ([Ji P o i (.row e k xs) (((opL o.op).map s.st.ev).set i .dead) b' r],(s.new id b').put o.dst r)|_=>none)
    |_,_=>none)
   |_=>none)
  |_=>none)
 |.newo od=>(match o.dst,Eg o&&(J3 o s.st&&(C2 o s.st).all C7)with
  |some d,true=>(match D3 s.ms d with|false=>some ([Gd P o (C2 o s.st) od],(s.new d (.obj od)).put (some d) (.ob d))|true=>none)
  |_,_=>none)
 |.io v r m'=>(match o.op with
  |.call c=>(match c.callee,(c.args.toList.map s.st.ev)with
   |.value (.func f),evs=>
    (match Hv v (E8 (E9 s.st evs) s.ms) 0 evs,ioB v (E8 (E9 s.st evs) s.ms) v.B,ioR (E8 (E9 s.st evs) s.ms) v.R,Jk r&&(Cd evs||(evs.flatMap U6).isEmpty)with
    |some cargs,some bs,some rs,true=>
     (match T5 v (E9 s.st evs) (P7 (bs++rs++ioZ v.Z)),Wq v s o.dst (P7 (bs++rs++ioZ v.Z)) m' with
     |true,true=>some ([U2 P f cargs (P7 (bs++rs++ioZ v.Z)) r m'],(s.back v (E9 s.st evs) m').put o.dst (Bm (H4 v) r))
     |_,_=>none)
    |_,_,_,_=>none)
   |_,_=>none)
  |_=>none)
 |.callv r=>(match o.op with
  |.call c=>(match c.callee with
   |.value x=>(match s.st.ev x with
    |.t t=>(match(c.args.toList.map fun y=>u0 s.st (s.st.ev y)).all C7&&(((c.args.toList.map s.st.ev).flatMap D4).isEmpty||O1 r)with
     |true=>some ([FnC P t (c.args.toList.map fun y=>u0 s.st (s.st.ev y)) r],s.put o.dst r)
     |false=>none)
    |_=>none)
   |_=>none)
  |_=>none)
 |.look ns r=>(match o.op with
  |.call c=>(match c.callee with
   |.value (.func f)=>(match(c.args.toList.map fun y=>Q2 s.st (s.st.ev y)).all C7&&O1 r with
    |true=>some ([FnP P f (U8 ns 0 (c.args.toList.map fun y=>Q2 s.st (s.st.ev y))) r],s.put o.dst r)
    |false=>none)
   |_=>none)
  |_=>none)
 |q=>B2 P o q s
end
section
open Go.RowKit
variable{P:Program}
theorem Lj{ρ:Nat→Option Nat}{st:St}{ms:List (Nat × Blk)}{i j:Nat}{b' b:Blk}(h:ρ i=some j)(hb:st.mem j=some b)(hl:leB ρ st ms b b'):leM ρ st ms (i,b'):=by unfold leM;rw[h];exact⟨b,hb,hl⟩
theorem wZ{ρ:Nat→Option Nat}{st:St}{ms:List (Nat × Blk)}{i:Nat}{e k:Nat}(h:ρ i=none)(h0:0<k):leM ρ st ms (i,.row e k []):=by unfold leM;rw[h];exact⟨e,k,rfl,h0⟩
theorem W7{j:Nat}{x:Option Nat}(h:X3 j x=true):x=some j:=by
 cases x with
 |none=>cases h
 |some i=>exact congrArg some (Nat.eq_of_beq_eq_true h)
theorem vU(j:Nat):X3 j (some j)=true:=by simp[X3]
theorem Af:∀{l:List Nat} {j:Nat},B7 l j=true→j∈l
 |i::l,j,h=>by
  unfold B7 at h;split at h
  ·rename_i e;rw[D5 e];exact G8
  ·exact I0 _ (Af h)
theorem Pf:∀{R:List (Nat × Nat)} {j i:Nat},rnm R j=some i→(j,i)∈R
 |(a,b)::l,j,i,h=>by
  unfold rnm at h;split at h
  ·rename_i e;cases h;rw[←D5 e];exact G8
  ·exact I0 _ (Pf h)
theorem gV{ρ:Nat→Option Nat}{st:St}{ms:List (Nat × Blk)}{x y:A}(h:le1 ρ st ms x y):le2 ρ st ms x y:=by cases x<;>cases y<;>first|exact h|exact h.elim
theorem Wi:∀(l:List (Option Nat)),Pn l=true→∀(i j x:Nat),l[i]? =some (some x)→l[j]? =some (some x)→i=j
 | [],_,i,j,x,h1,_=>by simp at h1
 |none::l,h,i,j,x,h1,h2=>by
  cases i with
  |zero=>simp at h1
  |succ i=>cases j with
   |zero=>simp at h2
   |succ j=>simp at h1 h2;rw[Wi l h i j x h1 h2]
 |some y::l,h,i,j,x,h1,h2=>by
  simp only[Pn,w9,List.all_eq_true,Bool.not_eq_true']at h;have no:∀k:Nat,l[k]? =some (some y)→False:=fun k hk=>by have:=h.1 _ (O6 hk);rw[vU]at this;cases this
  cases i with
  |zero=>
   simp at h1;subst h1;cases j with
   |zero=>rfl
   |succ j=>simp at h2;exact(no _ h2).elim
  |succ i=>cases j with
   |zero=>simp at h2;subst h2;simp at h1;exact(no _ h1).elim
   |succ j=>simp at h1 h2;rw[Wi l h.2 i j x h1 h2]
theorem DK:∀{l:List Nat} {j:Nat},j∈l→B7 l j=true
 |i::l,j,h=>by
  unfold B7;split
  ·rfl
  ·rename_i e;rcases F8.1 h with rfl|h
   ·exact absurd rfl (Nq e)
   ·exact DK h
theorem VH(l:List Nat)(j:Nat):B7 l j=l.contains j:=by
 cases h:l.contains j with
 |true=>exact DK (by simpa using h)
 |false=>
  cases h2:B7 l j with
  |false=>rfl
  |true=>have:=Af h2;simp at h;exact absurd this h
theorem oE(J:List Nat)(s:LS):E8 J s.ms=(s.st.only J).mem:=by
 funext i
 unfold E8;show _=if J.contains i=true then x7 s.ms i else none
 rw[VH];cases J.contains i<;>rfl
theorem Cv:∀{l:List Nat},X0 l=true→l.Nodup
 | [],_=>List.nodup_nil
 |i::l,h=>by simp only[X0,w9]at h;refine List.nodup_cons.2 ⟨fun hi=>?_,Cv h.2⟩;have h1:=h.1;rw[DK hi]at h1;cases h1
theorem a1K{b:Option Blk}{c:Blk}(h:uN b c=true):∃x,b=some x∧x.alike c∧∀e k xs,x≠ .row e k xs:=by
 unfold uN at h;split at h
 ·exact⟨_,rfl,trivial,fun _ _ _ h=>by cases h⟩
 ·refine⟨_,rfl,?_,fun _ _ _ h=>by cases h⟩;split at h
  ·rename_i h1 h2;show Od.isMap _=Od.isMap _;rw[h1,h2]
  ·rename_i h1 h2;show Od.isMap _=Od.isMap _;rw[h1,h2]
  ·cases h
 ·cases h
section
variable{v:IOV}{s:LS}{J:List Nat}{m:List (Nat × Blk)}
theorem OR(hk:T5 v J m=true){nt:Option x9}{a a':A}(h:ioL v (E8 J s.ms) nt a=some a'):le1 (O8 v) (s.st.only J) m a a':=by
 simp only[T5,w9,List.all_eq_true]at hk;obtain⟨h1,h2,h3,h4,h5,h6⟩:=hk;have renR:∀{j i:Nat},rnm v.R j=some i→O8 v i=some j∧(look m i).isSome=true:=fun{j i} h=>by
  have:=h1 _ (Pf h);refine⟨W7 this.1,?_⟩;have h2:=this.2;cases hl:look m i with
  |none=>rw[hl]at h2;cases h2
  |some b=>rfl
 have renB:∀{j i:Nat},rnm v.B j=some i→O8 v i=some j∧(look m i).isSome=true:=fun{j i} h=>by
  have:=h2 _ (Pf h);refine⟨W7 this.1,?_⟩;have h2:=this.2;cases hl:look m i with
  |none=>rw[hl]at h2;cases h2
  |some b=>rfl
 unfold ioL at h;split at h
 ·split at h
  ·cases h;exact .nil _
  ·split at h
   ·rename_i id hz;cases h;obtain⟨p,hp,hpe⟩:=List.mem_map.1 (Af hz);have:=h3 p hp;subst hpe;refine⟨rfl,?_,?_⟩
    ·have h3:=this.1.1;cases hr:O8 v p.1 with
     |none=>rfl
     |some i=>rw[hr]at h3;cases h3
    ·have h3:=this.1.2;unfold bU at h3;split at h3
     ·rename_i e k hl;exact⟨e,k,hl⟩
     ·cases h3
   ·cases h
  ·cases h;exact .refl _
 ·split at h
  ·rename_i j i hr;cases h;exact renR hr
  ·split at h
   ·rename_i j _ e k xs hF hm;cases h;refine⟨e,k,xs,by rw[←oE];exact hm,.refl _,fun p hp hq=>?_⟩;have:=h5 _ (Af hF) p hp;rw[hq]at this;simp[vU]at this
   ·cases h
 ·split at h
  ·rename_i j o i hb;cases h;exact⟨(renB hb).1,rfl,(renB hb).2⟩
  ·cases h
 ·split at h
  ·rename_i t0 j o i hb;cases h;exact⟨(renB hb).1,⟨rfl,rfl⟩,(renB hb).2⟩
  ·cases h
 ·split at h
  ·rename_i j p q i hr;cases h;exact⟨(renR hr).1,rfl,rfl,(renR hr).2⟩
  ·cases h
 ·split at h
  ·rename_i j i hr;cases h;exact⟨(renR hr).1,(renR hr).2⟩
  ·cases h
 ·cases h;rfl
 ·cases h
theorem CW(hk:T5 v J m=true){sp:List (Nat × Nat × x9)}{t:Nat}:∀{l r:List A} {j:Nat},Dj v (E8 J s.ms) sp t j l=some r→Av (O8 v) (s.st.only J) m l r
 | [],r,j,h=>by cases h;trivial
 |a::l,r,j,h=>by
  unfold Dj at h;split at h
  ·rename_i x r' hx hr;cases h;exact⟨OR hk hx,CW hk hr⟩
  ·cases h
theorem a6E(hk:T5 v J m=true){i:Nat}{a a':A}(h:Ip v (E8 J s.ms) i a=some a'):le2 (O8 v) (s.st.only J) m a a':=by
 unfold Ip at h;split at h
 ·split at h
  ·rename_i r hr;cases h;exact CW hk hr
  ·cases h
 ·exact gV (OR hk h)
theorem OK(hk:T5 v J m=true):∀{l r:List A} {i:Nat},Hv v (E8 J s.ms) i l=some r→Bl (O8 v) (s.st.only J) m l r
 | [],r,i,h=>by cases h;trivial
 |a::l,r,i,h=>by
  unfold Hv at h;split at h
  ·rename_i x r' hx hr;cases h;exact⟨a6E hk hx,OK hk hr⟩
  ·cases h
theorem HZ(hk:T5 v J m=true):∀{B:List (Nat × Nat)} {bs:List (Nat × Blk)},ioB v (E8 J s.ms) B=some bs→(∀p∈B,p∈v.B)→∀p∈bs,leM (O8 v) (s.st.only J) m p
 | [],bs,h,_,p,hp=>by cases h;cases hp
 |(j,i)::l,bs,h,hB,p,hp=>by
  unfold ioB at h;split at h
  ·rename_i ty cells hm;split at h
   ·rename_i r rest hr hrest;cases h;rcases F8.1 hp with rfl|hp
    ·have h3:=hk;simp only[T5,w9,List.all_eq_true]at h3;rw[oE]at hm;exact Lj (W7 (h3.2.1 _ (hB _ G8)).1) hm ⟨rfl,CW hk hr⟩
    ·exact HZ hk hrest (fun x hx=>hB x (I0 _ hx)) p hp
   ·cases h
  ·cases h
theorem FS(hk:T5 v J m=true):∀{R:List (Nat × Nat)} {rs:List (Nat × Blk)},ioR (E8 J s.ms) R=some rs→(∀p∈R,p∈v.R)→∀p∈rs,leM (O8 v) (s.st.only J) m p
 | [],rs,h,_,p,hp=>by cases h;cases hp
 |(j,i)::l,rs,h,hR,p,hp=>by
  unfold ioR at h;split at h
  ·rename_i e k xs hm;split at h
   ·rename_i rest hrest;cases h;rcases F8.1 hp with rfl|hp
    ·have h3:=hk;simp only[T5,w9,List.all_eq_true]at h3;rw[oE]at hm;exact Lj (W7 (h3.1 _ (hR _ G8)).1) hm ⟨rfl,rfl,YQ xs⟩
    ·exact FS hk hrest (fun x hx=>hR x (I0 _ hx)) p hp
   ·cases h
  ·rename_i od hm;split at h
   ·rename_i rest hrest;cases h;rcases F8.1 hp with rfl|hp
    ·have h3:=hk;simp only[T5,w9,List.all_eq_true]at h3;rw[oE]at hm;exact Lj (W7 (h3.1 _ (hR _ G8)).1) hm rfl
    ·exact FS hk hrest (fun x hx=>hR x (I0 _ hx)) p hp
   ·cases h
  ·cases h
theorem KL(hk:T5 v J m=true):∀{Z:List (Nat × Nat × Nat)},(∀p∈Z,p∈v.Z)→∀p∈ioZ Z,leM (O8 v) (s.st.only J) m p
 | [],_,p,hp=>by cases hp
 |(i,e,k)::l,hZ,p,hp=>by
  rcases F8.1 hp with rfl|hp
  ·have h3:=hk;simp only[T5,w9,List.all_eq_true]at h3;have:=h3.2.2.1 _ (hZ _ G8);have e1:O8 v i=none:=by
    have h4:=this.1.1;cases hr:O8 v i with
    |none=>rfl
    |some x=>rw[hr]at h4;cases h4
   exact wZ e1 (Nat.lt_of_succ_le (Nat.le_of_ble_eq_true this.2))
  ·exact KL hk (fun x hx=>hZ x (I0 _ hx)) p hp
end
theorem lZ(l r:List (Nat × Option Blk))(i:Nat):lkM (l++r) i=match lkM l i with|some x=>some x|none=>lkM r i:=by
 induction l with
 |nil=>rfl
 |cons p l ih=>
  obtain⟨j,b⟩:=p;rw[List.cons_append,Ay,Ay];split
  ·rfl
  ·exact ih
theorem xA(v:IOV)(i:Nat):∀m':List (Nat × Blk),lkM (Hf v m') i=(fnd m' (H4 v) i).map fun p=>some (p.2.ren (H4 v))
 | []=>rfl
 |(j,b)::l=>by rw[Hf,Ay,xA v i l];show _=(if i=H4 v j then some (j,b)else fnd l (H4 v) i).map _;split<;>rfl
theorem FZ(ms:List (Nat × Option Blk))(i:Nat):∀J:List Nat,lkM (Be ms J) i=if J.contains i=true∧D3 ms i=true then some none else none
 | []=>by simp[Be,lkM]
 |j::l=>by
  unfold Be;have ih:=FZ ms i l;split
  ·rename_i hj;rw[Ay,ih];by_cases e:i=j
   ·subst e;simp[hj]
   ·simp[e]
  ·rename_i hj;rw[ih];by_cases e:i=j
   ·subst e;simp[hj]
   ·simp[e]
theorem a0o(s:LS)(v:IOV)(J:List Nat)(m':List (Nat × Blk)):(s.back v J m').st=s.st.back J m' (H4 v):=by
 unfold LS.back LS.st St.back;congr 1
 ·funext i
  show x7 (Hf v m'++(Be s.ms J++s.ms)) i=match fnd m' (H4 v) i with|some p=>some (p.2.ren (H4 v))|none=>if J.contains i then none else x7 s.ms i
  unfold x7;rw[lZ,xA];cases fnd m' (H4 v) i with
  |some p=>rfl
  |none=>
   simp only[Option.map_none];rw[lZ,FZ];by_cases h1:J.contains i=true
   ·by_cases h2:D3 s.ms i=true
    ·rw[if_pos ⟨h1,h2⟩,if_pos h1]
    ·rw[if_neg (fun h=>h2 h.2),if_pos h1];cases h3:lkM s.ms i with
     |none=>rfl
     |some x=>exact absurd (show D3 s.ms i=true by simp[D3,h3]) h2
   ·rw[if_neg (fun h=>h1 h.1),if_neg h1]
 ·funext i
  show D3 (Hf v m'++(Be s.ms J++s.ms)) i=match fnd m' (H4 v) i with|some _=>true|none=>D3 s.ms i
  unfold D3;rw[lZ,xA];cases fnd m' (H4 v) i with
  |some p=>rfl
  |none=>
   simp only[Option.map_none];rw[lZ,FZ];by_cases h2:J.contains i=true∧D3 s.ms i=true
   ·rw[if_pos h2];have:=h2.2;unfold D3 at this;exact this.symm
   ·rw[if_neg h2]
theorem YM{p q:Nat × Blk}:∀{l:List (Nat × Blk)},q∈Lt p l→q=p∨q∈l
 | [],h=>by simp[Lt]at h;exact .inl h
 |r::l,h=>by
  unfold Lt at h;split at h
  ·rcases F8.1 h with h|h
   ·exact .inl h
   ·exact .inr h
  ·rcases F8.1 h with h|h
   ·exact .inr (by rw[h];exact G8)
   ·rcases YM h with h|h
    ·exact .inl h
    ·exact .inr (I0 _ h)
theorem wP{q:Nat × Blk}:∀{l:List (Nat × Blk)},q∈P7 l→q∈l
 | [],h=>h
 |p::l,h=>by
  rcases YM h with h|h
  ·rw[h];exact G8
  ·exact I0 _ (wP h)
theorem DD{d:Option Nat}{v:IOV}{r:A}{m':List (Nat × Blk)}{s:LS}{evs:List A}{f:FuncId}{cargs:List A}{bs rs:List (Nat × Blk)}(ha:Hv v (E8 (E9 s.st evs) s.ms) 0 evs=some cargs)(hb:ioB v (E8 (E9 s.st evs) s.ms) v.B=some bs)(hr:ioR (E8 (E9 s.st evs) s.ms) v.R=some rs)(ht:Jk r=true)(hp:Cd evs=true∨evs.flatMap U6=[])(hok:T5 v (E9 s.st evs) (P7 (bs++rs++ioZ v.Z))=true)(hbk:Wq v s d (P7 (bs++rs++ioZ v.Z)) m'=true)(hf:U2 P f cargs (P7 (bs++rs++ioZ v.Z)) r m')(K:St→Prop)(hK:K ((s.back v (E9 s.st evs) m').put d (Bm (H4 v) r)).st):Xz P f d evs s.st K:=by
 generalize hJ:E9 s.st evs=J at*;have h3:=hok;simp only[T5,w9,List.all_eq_true]at h3;obtain⟨k1,k2,k3,k4,k5,k6⟩:=h3;simp only[Wq,w9,List.all_eq_true]at hbk;obtain⟨b1,b2,b3⟩:=hbk;have inj:∀{α:Type} {l:List α} {g:α→Nat},(l.map g).Nodup→∀p∈l,∀q∈l,g p=g q→p=q:=fun{α l g} hn p hp q hq he=>by obtain⟨i,hi,rfl⟩:=List.getElem_of_mem hp;obtain⟨j,hj,rfl⟩:=List.getElem_of_mem hq;have hi':i<(l.map g).length:=(by simpa using hi);have hj':j<(l.map g).length:=(by simpa using hj);have:=(List.getElem_inj (i:=i) (j:=j) (h₀:=hi') (h₁:=hj') hn).1 (by simpa using he);subst this;rfl
 have hkeys:=inj (Cv b1);have hnu:=inj (Cv b2);refine⟨cargs,_,r,m',O8 v,H4 v,hf,ht,hp,⟨⟨fun p hp=>(by cases hp),fun p hp=>?_,fun p hp q hq j h1 h2=>?_⟩,fun p hp j hj=>?_,fun p hp=>?_,fun p hp q hq he=>by rw[hnu p hp q hq he],fun p hp hpp=>?_,fun p hp hpp=>?_⟩,fun p hp hpp=>?_,by rw[hJ];exact OK hok ha,by rw[hJ,←a0o,←C3];exact hK⟩
 all_goals try rw[hJ]
 ·rcases A8.1 (wP hp)with hp|hp
  ·rcases A8.1 hp with hp|hp
   ·exact HZ hok hb (fun _ h=>h) p hp
   ·exact FS hok hr (fun _ h=>h) p hp
  ·exact KL hok (fun _ h=>h) p hp
 ·obtain⟨i,hi,rfl⟩:=List.getElem_of_mem hp;obtain⟨i',hi',rfl⟩:=List.getElem_of_mem hq;have:=Wi _ k4 i i' j (by rw[L5,p9 hi,G2,h1]) (by rw[L5,p9 hi',G2,h2]);subst this;rfl
 ·have:=k6 p hp;rw[hj]at this;rw[←VH];exact this
 ·cases hl:look m' p.1 with
  |none=>
   exfalso;have:∀l:List (Nat × Blk),p∈l→look l p.1≠none:=fun l=>by
    induction l with
    |nil=>intro h;cases h
    |cons q l ih=>
     intro h;obtain⟨k,b⟩:=q;unfold look;split
     ·simp
     ·rename_i e;rcases F8.1 h with h|h
      ·exact absurd (by rw[h]) e
      ·exact ih h
   exact this m' hp hl
  |some b=>have:=hkeys p hp _ (R9 hl) rfl;rw[this]
 ·have:=b3 p hp;rw[hpp]at this;simp only[w9]at this;obtain⟨q1,q2⟩:=this;exact⟨W7 q1,a1K q2⟩
 ·have:=b3 p hp;rw[hpp]at this;simp only[w9,Bool.or_eq_true]at this;refine⟨?_,?_⟩
  ·have h1:=this.1.1;show D3 s.ms (H4 v p.1)=false;cases hu:D3 s.ms (H4 v p.1)with
   |false=>rfl
   |true=>rw[hu]at h1;cases h1
  ·rcases this.1.2 with h|h
   ·exact .inl (Nat.lt_of_succ_le (Nat.le_of_ble_eq_true h))
   ·exact .inr (Nat.le_of_ble_eq_true h)
 ·have:=b3 p hp;rw[hpp]at this;simp only[w9]at this;exact Af this.2
end
section
open Go.RowKit
variable{P:Program}
theorem b1o{o:Oper}{q:Orc}{s s':LS}{obs:List Prop}(h:B2 P o q s=some (obs,s'))(ho:I5 obs)(K:St→Prop)(hK:K s'.st):Au P o s.st K:=by
 unfold B2 at h;split at h
 ·rename_i x e;cases h;refine M1 ?_;unfold K3;simp only[e];rw[←C3];exact hK
 ·rename_i x e;cases h;refine M1 ?_;unfold K3;simp only[e];rw[←C3];exact hK
 ·rename_i c x y e;refine M1 ?_;unfold K3;simp only[e];split at h
  ·rename_i t ht;split at h
   ·rename_i b';cases h;have e1:t=b':=ho.1;subst e1;rw[ht];simp only;rw[←C3];have:Kk t (s.st.ev x) (s.st.ev y)=GF t (s.st.ev x) (s.st.ev y):=(by cases t<;>rfl);rw[this];exact hK
   ·cases h;rw[ht];simp only;rw[←YL,←C3];exact hK
  ·cases h
 ·rename_i ty e;refine M1 ?_;unfold K3;simp only[e];split at h
  ·rename_i d ti hd hti;split at h
   ·rename_i hu;cases h;rw[hd,hti];simp only;exact⟨hu,by rw[←Gq,←C3];exact hK⟩
   ·cases h
  ·cases h
 ·rename_i ty x e;refine M1 ?_;unfold K3;simp only[e];split at h
  ·rename_i d cs hd hcs;split at h
   ·rename_i hu;cases h;rw[hd,hcs];simp only;exact⟨hu,by rw[←Gq,←C3];exact hK⟩
   ·cases h
  ·cases h
 ·rename_i t parts e;refine M1 ?_;unfold K3;simp only[e];split at h
  ·rename_i ti hti;split at h
   ·rename_i cs hk hf;cases h;rw[hti];simp only;rw[hk,hf];simp only;rw[←C3];exact hK
   ·cases h
  ·cases h
 ·rename_i t len parts e;refine M1 ?_;unfold K3;simp only[e];split at h
  ·rename_i d ti hd hti;split at h
   ·rename_i el hel;split at h
    ·rename_i te hte;split at h
     ·rename_i hu hb hr;split at h
      ·rename_i xs hxs;cases h;rw[hd,hti];simp only;rw[hel];simp only;rw[hte];simp only;simp only[w9]at hb;refine⟨hu,Nat.lt_of_succ_le (Nat.le_of_ble_eq_true hb.1.1),Nat.eq_of_beq_eq_true hb.1.2,Nat.le_of_ble_eq_true hb.2,?_⟩;rw[hr];show(match Ba te.size 0 (parts.toList.map fun(i,x)=>(i,s.st.ev x))with|some xs=>_|none=>False);rw[hxs];simp only[St.frzs];rw[←Gq,←C3];exact hK
      ·cases h
     ·cases h
    ·cases h
   ·cases h
  ·cases h
 ·rename_i t x e;refine M1 ?_;unfold K3;simp only[e];split at h
  ·rename_i ti hti;split at h
   ·rename_i m el;split at h
    ·rename_i id i j ha;split at h
     ·rename_i e' k xs y hm hy;cases h;rw[hti];simp only;have:K7 s.st (s.st.ev x) ti=some y:=by rw[ha];show(match s.st.mem id with|some (.row _ _ xs)=>(xs[i]?).bind fun el=>P3 ((el.drop j).map .t) 0 ti.size ti.agg|_=>none)=_;rw[show s.st.mem id=some (.row e' k xs)from hm];simp only;rw[show xs[i]? =some el from ho.1];exact hy
      rw[this];simp only;rw[←C3];exact hK
     ·cases h
    ·cases h
   ·split at h
    ·rename_i y hy;cases h;rw[hti];simp only;rw[hy];simp only;rw[←C3];exact hK
    ·cases h
  ·cases h
 ·rename_i t x y e;split at h
  ·rename_i ti cs hti hcs;split at h
   ·rename_i hsz;have hsz:=Nat.eq_of_beq_eq_true hsz;split at h
    ·rename_i id off ha;split at h
     ·rename_i ty cells hm;split at h
      ·rename_i hle;cases h;refine M1 ?_;unfold K3;simp only[e];rw[hti,hcs];simp only;refine⟨hsz,?_⟩;rw[ha];simp only;rw[show s.st.mem id=some (.box ty cells)from hm];simp only;refine⟨Nat.le_of_ble_eq_true hle,?_⟩;rw[←Ur s id _ _ hm,←C3];exact hK
      ·cases h
     ·cases h
    ·rename_i id i j ha;split at h
     ·rename_i e' k xs l el ys hm hl;split at h
      ·rename_i hle;cases h;obtain⟨h2,h3,_⟩:=ho;refine M1 ?_;unfold K3;simp only[e];rw[hti,hcs];simp only;refine⟨hsz,?_⟩;rw[ha];simp only;rw[show s.st.mem id=some (.row e' k xs)from hm,hl];simp only;refine⟨el,h2,Nat.le_of_ble_eq_true hle,?_⟩;rw[show xs.set i (el.take j++l++el.drop (j+l.length))=ys from h3,←Ur s id _ _ hm,←C3];exact hK
      ·cases h
     ·cases h
    ·cases h
   ·cases h
  ·cases h
 ·rename_i x e;refine M1 ?_;unfold K3;simp only[e];split at h
  ·rename_i ob hp;cases h;exact⟨WU hp ho,by rw[←C3];exact hK⟩
  ·cases h
 ·rename_i op ty x y ty2 e;split at h
  ·rename_i z;split at h
   ·rename_i a b hx hy hz;cases h;refine M1 ?_;unfold K3;simp only[e];rw[hx,hy,show An P s.st op ty (.t (.v a)) (.t (.v b))=some z from ho.1];exact⟨hz,by rw[←C3];exact hK⟩
   ·cases h
  ·split at h
   ·rename_i z hz;split at h
    ·rename_i h1;cases h;refine M1 ?_;unfold K3;simp only[e];rw[hz];exact⟨h1,by rw[←C3];exact hK⟩
    ·cases h
   ·cases h
 ·rename_i op ty x e;refine M1 ?_;unfold K3;simp only[e];split at h
  ·rename_i y hy;split at h
   ·rename_i z hz;split at h
    ·rename_i h1;cases h;rw[hy];simp only;rw[hz];exact⟨h1,by rw[←C3];exact hK⟩
    ·cases h
   ·cases h
  ·cases h
 ·rename_i src dst x e;split at h
  ·rename_i z ti hz hti;cases h;refine M1 ?_;unfold K3;simp only[e];rw[hz];exact⟨by rw[hti];rfl,by rw[←C3];exact hK⟩
  ·cases h
 ·rename_i t x f e;refine M1 ?_;unfold K3;simp only[e];split at h
  ·rename_i ti hti hk;split at h
   ·rename_i ob z hp hz;cases h;rw[hti,hk];simp only;refine⟨WU hp ho,?_⟩;rw[hz];simp only;rw[←C3];exact hK
   ·cases h
  ·cases h
 ·rename_i t x f e;refine M1 ?_;unfold K3;simp only[e];split at h
  ·rename_i ti hti hk;split at h
   ·rename_i z hz;cases h;rw[hti,hk];simp only;rw[hz];simp only;rw[←C3];exact hK
   ·cases h
  ·cases h
 ·rename_i t x i e;refine M1 ?_;unfold K3;simp only[e];split at h
  ·rename_i ti hti;split at h
   ·rename_i el hel;split at h
    ·rename_i te k' xs k n m el' hte hl hi;split at h
     ·rename_i hk;cases h;rw[hti];simp only;rw[hel];simp only;rw[hte,hl,hi];simp only;obtain⟨⟨h1,h2⟩,_⟩:=ho;exact⟨Nat.eq_of_beq_eq_true hk,m,el',h1,h2,by rw[C3]at hK;exact hK⟩
     ·cases h
    ·cases h
   ·cases h
  ·cases h
 ·rename_i t x i e;refine M1 ?_;unfold K3;simp only[e];split at h
  ·rename_i s' k n m b hk hx hi;cases h;rw[hk,hx,hi];simp only;obtain⟨⟨h1,h2⟩,_⟩:=ho;exact⟨m,b,h1,h2,by rw[C3]at hK;exact hK⟩
  ·cases h
 ·rename_i x i e;refine M1 ?_;unfold K3;simp only[e];split at h
  ·rename_i cs hx;split at h
   ·rename_i y hy;cases h;rw[hx];simp only;rw[hy];simp only;rw[←C3];exact hK
   ·cases h
  ·cases h
 ·rename_i c e;obtain⟨callee,args,ts⟩:=c
  dsimp only at h
  split at h
  ·rename_i x ty tl ha hts;refine M1 ?_;unfold K3;simp only[e,ha,hts];split at h
   ·rename_i n;split at h
    ·rename_i k xs hk hl;cases h;have:Co P s.st ty (s.st.ev x)=some (.int .i64 n):=by unfold Co;rw[hk];simp only;rw[hl,G2,←show xs.length=n from ho.1]
     rw[this];simp only;rw[←C3];exact hK
    ·cases h
   ·split at h
    ·rename_i z hz;cases h;rw[hz];simp only;rw[←C3];exact hK
    ·cases h
  ·rename_i x y t t' ha hts;split at h
   ·rename_i d ti zs hd hti;split at h
    ·rename_i el hel;split at h
     ·rename_i te k'' ys hte hl;split at h
      ·rename_i hb hu;simp only[w9]at hb;have h1:=Nat.eq_of_beq_eq_true hb.1.1;have h2:=Nat.lt_of_succ_le (Nat.le_of_ble_eq_true hb.1.2);have h3:=Nat.eq_of_beq_eq_true hb.2;split at h
       ·rename_i hx;cases h;obtain⟨h4,h5,_⟩:=ho;refine M1 ?_;unfold K3;simp only[e,ha,hts,hd,hti,hel,hte,hl,hx];refine⟨h1,h2,hu,.inr h3,h4.1,h4.2,?_⟩;rw[show ys=zs from h5,←Gq,←C3];exact hK
       ·rename_i id hx;split at h
        ·rename_i e' k' xs hm;split at h
         ·rename_i hb2;simp only[w9]at hb2;have h6:=Nat.eq_of_beq_eq_true hb2.1;have h7:=Nat.eq_of_beq_eq_true hb2.2;cases h;obtain⟨h4,h5,_⟩:=ho;refine M1 ?_;unfold K3;simp only[e,ha,hts,hd,hti,hel,hte,hl,hx];refine⟨h1,h2,hu,.inr h3,?_⟩;rw[show s.st.mem id=some (.row e' k' xs)from hm];simp only;refine⟨h6,h7,h4.1,h4.2,?_⟩;rw[show xs++ys=zs from h5,←GV s id _ hm,←Gq,←C3];exact hK
         ·cases h
        ·cases h
       ·cases h
      ·cases h
     ·cases h
    ·cases h
   ·cases h
  ·rename_i f _ _;split at h
   ·rename_i ns r;refine M1 ?_;unfold K3;simp only[e];split at h
    ·rename_i hf hr;cases h;refine .inl ⟨r,Mz ns hf ho.1,hf,.inr ?_⟩;rw[hr];simp only[St.frzs];rw[←C3];exact hK
    ·rename_i hf hs _;cases h;exact .inl ⟨r,Mz ns hf ho.1,hf,.inl ⟨hs,by rw[←C3];exact hK⟩⟩
    ·cases h
   ·cases h
  ·cases h
 ·cases h
theorem MO{o:Oper}{q:Orc}{s s':LS}{obs:List Prop}(h:M3 P o q s=some (obs,s'))(ho:I5 obs)(K:St→Prop)(hK:K s'.st):Au P o s.st K:=by
 unfold M3 at h;split at h
 ·rename_i z;split at h
  ·rename_i hz;cases h;simp only[w9,Bool.or_eq_true]at hz;exact .inr (.inl ⟨hz.2,.inl ⟨z,ho.1,hz.1.symm,by rw[←C3];exact hK⟩⟩)
  ·cases h
 ·rename_i e' k ys;split at h
  ·rename_i d hd hb;split at h
   ·rename_i hu;cases h;simp only[w9]at hb;exact .inr (.inl ⟨hb.2,.inr ⟨d,e',k,ys,hd,hu,ho.1,hb.1,by rw[hd,←Gq,←C3];exact hK⟩⟩)
   ·cases h
  ·cases h
 ·rename_i i b';split at h
  ·rename_i d id hd hi;split at h
   ·rename_i b hb hu hmv;cases h;exact .inr (.inr (.inl (.inl ⟨i,b,_,b',id,d,hmv,hd,hi,rfl,hb,hu,ho.1,by rw[hd,←GV s id b hb,←Gq,←C3];exact hK⟩)))
   ·cases h
  ·cases h
 ·rename_i i b' r;split at h
  ·rename_i y hi;split at h
   ·rename_i id hy;split at h
    ·rename_i od hb hmv;split at h
     ·rename_i q;cases h;simp only[Ah,List.cons.injEq,and_true]at hy;subst hy;exact .inr (.inr (.inl (.inr (.inl ⟨i,.obj od,_,b',r,_,hmv,hi,rfl,hb,Pr hb,ho.1,by rw[←Ur s _ _ _ hb,←C3];exact hK⟩))))
     ·cases h
    ·rename_i e k xs hb hmv;split at h
     ·rename_i q;cases h;simp only[Ah,List.cons.injEq,and_true]at hy;subst hy;exact .inr (.inr (.inl (.inr (.inl ⟨i,.row e k xs,_,b',r,_,hmv,hi,rfl,hb,Pr hb,ho.1,by rw[←Ur s _ _ _ hb,←C3];exact hK⟩))))
     ·cases h
    ·cases h
   ·cases h
  ·cases h
 ·rename_i od;split at h
  ·rename_i d hd hg;split at h
   ·rename_i hu;cases h;simp only[w9]at hg;exact .inr (.inr (.inl (.inr (.inr ⟨od,d,hg.1,hd,hu,hg.2.1,hg.2.2,ho.1,by rw[hd,←Gq,←C3];exact hK⟩))))
   ·cases h
  ·cases h
 ·rename_i v r m';split at h
  ·rename_i c ho';split at h
   ·rename_i f hc;split at h
    ·rename_i cargs bs rs ha hb hr hg;split at h
     ·rename_i hok hbk;cases h;simp only[w9,Bool.or_eq_true,List.isEmpty_iff]at hg;obtain⟨callee,args,ts⟩:=c
      dsimp only at hc
      subst hc
      left
      unfold B5;simp only[ho'];exact .inr (DD ha hb hr hg.1 hg.2 hok hbk ho.1 K hK)
     ·cases h
    ·cases h
   ·cases h
  ·cases h
 ·rename_i r;split at h
  ·rename_i c ho';split at h
   ·rename_i x hc;split at h
    ·rename_i t hx;split at h
     ·rename_i hg;cases h;simp only[w9,Bool.or_eq_true,List.isEmpty_iff]at hg;exact .inr (.inr (.inr (.inl ⟨c,x,t,r,ho',hc,hx,ho.1,hg.1,hg.2.symm,by rw[←C3];exact hK⟩)))
     ·cases h
    ·cases h
   ·cases h
  ·cases h
 ·rename_i ns r;split at h
  ·rename_i c hc;split at h
   ·rename_i f hf;split at h
    ·rename_i hk;cases h;simp only[w9]at hk;exact .inr (.inr (.inr (.inr ⟨c,f,r,hc,hf,Mz ns hk.1 ho.1,hk.1,hk.2,by rw[←C3];exact hK⟩)))
    ·cases h
   ·cases h
  ·cases h
 ·exact b1o h ho K hK
end
section
open Go.RowKit
variable{P:Program}
structure CV where
 G:List Nat
 N:List (Nat × Nat × x9)
 B:List Nat
 M:List (Nat × Nat × x9)
 R:List (Nat × Nat)
 F:List Nat
 Z:List (Nat × Nat × Nat)
def rho(R:List (Nat × Nat))(i:Nat):Option Nat:=match Nat.blt i 1000 with|true=>some i|false=>Up R i
def L0(v:CV)(ms:List (Nat × Option Blk))(nt:Option x9)(a:A):Option A:=
 match a with
 |.t x=>(match nt,x with
  |some (.sl k),.v (.slice none 0 0)=>some (.t (.sl k []))
  |some (.row id),.v (.slice none 0 0)=>(match B7 (v.Z.map (·.1)) id with|true=>some (.ref id)|false=>none)
  |_,x=>some (.t x))
 |.ref j=>(match rnm v.R j with
  |some i=>some (.ref i)
  |none=>(match B7 v.F j,x7 ms j with|true,some (.row e k xs)=>some (.t (.sl k xs))|_,_=>none))
 |.ptr j o=>(match B7 v.B j with|true=>some (.ptr j o)|false=>none)
 |.ifc t j o=>(match B7 v.B j with|true=>some (.ifc t j o)|false=>none)
 |.rptr j p q=>(match rnm v.R j with|some i=>some (.rptr i p q)|none=>none)
 |.ob j=>(match rnm v.R j with|some i=>some (.ob i)|none=>none)
 |.fel x=>some (.fel x)
 |_=>none
def V3(v:CV)(ms:List (Nat × Option Blk))(sp:List (Nat × Nat × x9))(t:Nat):Nat→List A→Option (List A)
 |_,[]=>some []
 |j,a::l=>match L0 v ms (C6 sp t j) a,V3 v ms sp t (j+1) l with|some x,some r=>some (x::r)|_,_=>none
def Pk(v:CV)(ms:List (Nat × Option Blk))(t:Nat)(a:A):A:=
 match a with
 |.agg cs=>(match V3 v ms v.N t 0 cs with|some r=>.agg r|none=>.dead)
 |.tup cs=>(match V3 v ms v.N t 0 cs with|some r=>.tup r|none=>.dead)
 |a=>(match L0 v ms (C6 v.N t 0) a with|some x=>x|none=>.dead)
def La(v:CV)(s:LS):List Nat→List (Nat × A)
 | []=>[]
 |t::l=>(t,Pk v s.ms t (lkE s.es t))::La v s l
def Fu(v:CV)(ms:List (Nat × Option Blk)):List Nat→Option (List (Nat × Blk))
 | []=>some []
 |b::l=>match x7 ms b with
  |some (.box ty cells)=>(match V3 v ms v.M b 0 cells,Fu v ms l with|some r,some rest=>some ((b,.box ty r)::rest)|_,_=>none)
  |_=>none
def Bb(ms:List (Nat × Option Blk)):List (Nat × Nat)→Option (List (Nat × Blk))
 | []=>some []
 |(j,i)::l=>match x7 ms j with
  |some (.row e k xs)=>(match Bb ms l with|some rest=>some ((i,.row e k xs)::rest)|none=>none)
  |some (.obj od)=>(match Bb ms l with|some rest=>some ((i,.obj od)::rest)|none=>none)
  |_=>none
def K6:List (Nat × Nat × Nat)→List (Nat × Blk)
 | []=>[]
 |(i,e,k)::l=>(i,.row e k [])::K6 l
def S9:List (Nat × Blk)→List (Nat × Option Blk)
 | []=>[]
 |(i,b)::l=>(i,some b)::S9 l
def Q4(v:CV)(ms':List (Nat × Blk)):Bool:=
 (v.R.all fun p=>X3 p.1 (rho v.R p.2)&&jX (look ms' p.2))&&
 ((v.Z.all fun p=>UQ (rho v.R p.1)&&bU (look ms' p.1)&&Nat.blt 0 p.2.2)&&
 ((v.B.all fun b=>Nat.blt b 1000&&jX (look ms' b))&&
 (Pn (ms'.map fun p=>rho v.R p.1)&&
 (v.F.all fun j=>ms'.all fun p=>!(X3 j (rho v.R p.1))))))
def oJ(v:CV)(s:LS):Option LS:=
 match Fu v s.ms v.B,Bb s.ms v.R with
 |some bs,some rs=>
  (match Q4 v (bs++rs++K6 v.Z)with
  |true=>some ⟨s.n,La v s v.G,S9 (bs++rs++K6 v.Z)⟩
  |false=>none)
 |_,_=>none
theorem tJ(ms:List (Nat × Blk))(i:Nat):x7 (S9 ms) i=look ms i∧D3 (S9 ms) i=(look ms i).isSome:=by
 have:∀ms:List (Nat × Blk),lkM (S9 ms) i=(look ms i).map some:=fun ms=>by
  induction ms with
  |nil=>rfl
  |cons p l ih=>obtain⟨j,b⟩:=p;show lkM ((j,some b)::S9 l) i=_;rw[Ay,ih];show _=(if i=j then some b else look l i).map some;split<;>rfl
 unfold x7 D3;rw[this];cases look ms i<;>simp
theorem XX:∀(es:List (Nat × A)) (t:Nat),lkE es t=(look es t).getD .dead
 | [],t=>rfl
 |(i,x)::l,t=>by
  rw[Vz];unfold look upd;split
  ·rfl
  ·exact XX l t
theorem CS(n:Nat)(es:List (Nat × A))(ms:List (Nat × Blk)):(LS.mk n es (S9 ms)).st=P1 n es ms:=by
 unfold LS.st P1;congr 1
 ·funext t;exact XX es t
 ·funext t;exact(tJ ms t).1
 ·funext t;exact(tJ ms t).2
section
variable{v:CV}{s:LS}{ms':List (Nat × Blk)}
theorem mY(hk:Q4 v ms'=true){nt:Option x9}{a a':A}(h:L0 v s.ms nt a=some a'):le1 (rho v.R) s.st ms' a a':=by
 simp only[Q4,w9,List.all_eq_true]at hk;obtain⟨h1,h2,h3,h4,h5⟩:=hk;have ren:∀{j i:Nat},rnm v.R j=some i→rho v.R i=some j∧(look ms' i).isSome=true:=fun{j i} h=>by
  have:=h1 _ (Pf h);refine⟨W7 this.1,?_⟩;have h2:=this.2;cases hl:look ms' i with
  |none=>rw[hl]at h2;cases h2
  |some b=>rfl
 unfold L0 at h;split at h
 ·split at h
  ·cases h;exact .nil _
  ·split at h
   ·rename_i id hz;cases h;obtain⟨p,hp,hpe⟩:=List.mem_map.1 (Af hz);have:=h2 p hp;subst hpe;refine⟨rfl,?_,?_⟩
    ·have h3:=this.1.1;cases hr:rho v.R p.1 with
     |none=>rfl
     |some i=>rw[hr]at h3;cases h3
    ·have h3:=this.1.2;unfold bU at h3;split at h3
     ·rename_i e k hl;exact⟨e,k,hl⟩
     ·cases h3
   ·cases h
  ·cases h;exact .refl _
 ·split at h
  ·rename_i j i hr;cases h;exact ren hr
  ·split at h
   ·rename_i j _ e k xs hF hm;cases h;refine⟨e,k,xs,hm,.refl _,fun p hp hq=>?_⟩;have:=h5 _ (Af hF) p hp;rw[hq]at this;simp[vU]at this
   ·cases h
 ·rename_i j o;split at h
  ·rename_i hb;cases h;have:=h3 _ (Af hb);refine⟨?_,rfl,?_⟩
   ·unfold rho;rw[this.1]
   ·cases hl:look ms' j with
    |none=>rw[hl]at this;cases this.2
    |some b=>rfl
  ·cases h
 ·rename_i t0 j o;split at h
  ·rename_i hb;cases h;have:=h3 _ (Af hb);refine⟨?_,⟨rfl,rfl⟩,?_⟩
   ·unfold rho;rw[this.1]
   ·cases hl:look ms' j with
    |none=>rw[hl]at this;cases this.2
    |some b=>rfl
  ·cases h
 ·split at h
  ·rename_i j p q i hr;cases h;exact⟨(ren hr).1,rfl,rfl,(ren hr).2⟩
  ·cases h
 ·split at h
  ·rename_i j i hr;cases h;exact⟨(ren hr).1,(ren hr).2⟩
  ·cases h
 ·cases h;rfl
 ·cases h
theorem Oo(hk:Q4 v ms'=true){sp:List (Nat × Nat × x9)}{t:Nat}:∀{l r:List A} {j:Nat},V3 v s.ms sp t j l=some r→Av (rho v.R) s.st ms' l r
 | [],r,j,h=>by cases h;trivial
 |a::l,r,j,h=>by
  unfold V3 at h;split at h
  ·rename_i x r' hx hr;cases h;exact⟨mY hk hx,Oo hk hr⟩
  ·cases h
theorem a0w{ρ:Nat→Option Nat}{st:St}{ms:List (Nat × Blk)}{x y:A}(h:le2 ρ st ms x y):leA ρ st ms x y:=by
 cases y with
 |dead=>cases x<;>trivial
 |tup ds=>cases x<;>exact h.elim
 |_=>exact h
theorem a4K(hk:Q4 v ms'=true){t:Nat}(a:A):leA (rho v.R) s.st ms' a (Pk v s.ms t a):=by
 unfold Pk;split
 ·split
  ·rename_i r hr;exact Oo hk hr
  ·trivial
 ·split
  ·rename_i r hr;exact Oo hk hr
  ·trivial
 ·split
  ·rename_i x hx;exact a0w (gV (mY hk hx))
  ·cases a<;>trivial
theorem YI(hk:Q4 v ms'=true):∀(G:List Nat),∀p∈La v s G,leA (rho v.R) s.st ms' (s.st.env p.1) p.2
 | [],p,h=>by cases h
 |t::l,p,h=>by
  rcases F8.1 h with rfl|h
  ·exact a4K hk _
  ·exact YI hk l p h
theorem EM(hk:Q4 v ms'=true):∀{B:List Nat} {bs:List (Nat × Blk)},Fu v s.ms B=some bs→(∀b∈B,b∈v.B)→∀p∈bs,leM (rho v.R) s.st ms' p
 | [],bs,h,_,p,hp=>by cases h;cases hp
 |b::l,bs,h,hB,p,hp=>by
  unfold Fu at h;split at h
  ·rename_i ty cells hm;split at h
   ·rename_i r rest hr hrest;cases h;rcases F8.1 hp with rfl|hp
    ·have hb:=hB b G8;have h3:=hk;simp only[Q4,w9,List.all_eq_true]at h3;have:=h3.2.2.1 b hb;have e:rho v.R b=some b:=(by unfold rho;rw[this.1]);exact Lj e hm ⟨rfl,Oo hk hr⟩
    ·exact EM hk hrest (fun x hx=>hB x (I0 _ hx)) p hp
   ·cases h
  ·cases h
theorem nF(hk:Q4 v ms'=true):∀{R:List (Nat × Nat)} {rs:List (Nat × Blk)},Bb s.ms R=some rs→(∀p∈R,p∈v.R)→∀p∈rs,leM (rho v.R) s.st ms' p
 | [],rs,h,_,p,hp=>by cases h;cases hp
 |(j,i)::l,rs,h,hR,p,hp=>by
  unfold Bb at h;split at h
  ·rename_i e k xs hm;split at h
   ·rename_i rest hrest;cases h;rcases F8.1 hp with rfl|hp
    ·have h3:=hk;simp only[Q4,w9,List.all_eq_true]at h3;exact Lj (W7 (h3.1 _ (hR _ G8)).1) hm ⟨rfl,rfl,YQ xs⟩
    ·exact nF hk hrest (fun x hx=>hR x (I0 _ hx)) p hp
   ·cases h
  ·rename_i od hm;split at h
   ·rename_i rest hrest;cases h;rcases F8.1 hp with rfl|hp
    ·have h3:=hk;simp only[Q4,w9,List.all_eq_true]at h3;exact Lj (W7 (h3.1 _ (hR _ G8)).1) hm rfl
    ·exact nF hk hrest (fun x hx=>hR x (I0 _ hx)) p hp
   ·cases h
  ·cases h
theorem wN(hk:Q4 v ms'=true):∀{Z:List (Nat × Nat × Nat)},(∀p∈Z,p∈v.Z)→∀p∈K6 Z,leM (rho v.R) s.st ms' p
 | [],_,p,hp=>by cases hp
 |(i,e,k)::l,hZ,p,hp=>by
  rcases F8.1 hp with rfl|hp
  ·have h3:=hk;simp only[Q4,w9,List.all_eq_true]at h3;have:=h3.2.1 _ (hZ _ G8);have e1:rho v.R i=none:=by
    have h4:=this.1.1;cases hr:rho v.R i with
    |none=>rfl
    |some x=>rw[hr]at h4;cases h4
   exact wZ e1 (Nat.lt_of_succ_le (Nat.le_of_ble_eq_true this.2))
  ·exact wN hk (fun x hx=>hZ x (I0 _ hx)) p hp
theorem b3A{s':LS}(h:oJ v s=some s'):T7 s.st s'.st:=by
 unfold oJ at h;split at h
 ·rename_i bs rs hb hr;split at h
  ·rename_i hk;cases h;rw[CS];refine JJ (fun i hi=>?_) ⟨YI hk v.G,fun p hp=>?_,fun p hp q hq j h1 h2=>?_⟩
   ·unfold rho;rw[show Nat.blt i 1000=true from Nat.ble_eq_true_of_le hi]
   ·rcases A8.1 hp with hp|hp
    ·rcases A8.1 hp with hp|hp
     ·exact EM hk hb (fun _ h=>h) p hp
     ·exact nF hk hr (fun _ h=>h) p hp
    ·exact wN hk (fun _ h=>h) p hp
   ·have h3:=hk;simp only[Q4,w9,List.all_eq_true]at h3;obtain⟨i,hi,rfl⟩:=List.getElem_of_mem hp;obtain⟨i',hi',rfl⟩:=List.getElem_of_mem hq;have:=Wi _ h3.2.2.2.1 i i' j (by rw[L5,p9 hi,G2,h1]) (by rw[L5,p9 hi',G2,h2]);subst this;rfl
  ·cases h
 ·cases h
end
end
section
open Go.RowKit
variable{P:Program}
def LS.subst(s:LS)(id:Nat)(x:T):LS:=⟨s.n,s.es.map (fun p=>(p.1,sub3 id x p.2)),(id,none)::s.ms.map fun p=>(p.1,p.2.map (Blk.sub id x))⟩
def LS.frz(s:LS)(id:Nat):LS:=
 match x7 s.ms id with
 |some (.row _ k xs)=>s.subst id (.sl k xs)
 |some (.box _ cs)=>(match L7 cs with|some ts=>s.subst id (.fp ts)|none=>s)
 |_=>s
def LS.frzs(s:LS):List Nat→LS
 | []=>s
 |id::l=>(s.frz id).frzs l
theorem GW(g:A→A)(hg:g .dead=.dead)(t:Nat):∀es:List (Nat × A),lkE (es.map fun p=>(p.1,g p.2)) t=g (lkE es t)
 | []=>hg.symm
 |(i,x)::l=>by
  show lkE ((i,g x)::l.map _) t=_;rw[Vz,Vz];unfold upd;split
  ·rfl
  ·exact GW g hg t l
theorem FE(g:Blk→Blk)(t:Nat):∀ms:List (Nat × Option Blk),lkM (ms.map fun p=>(p.1,p.2.map g)) t=(lkM ms t).map fun b=>b.map g
 | []=>rfl
 |(i,x)::l=>by show lkM ((i,x.map g)::l.map _) t=_;rw[Ay,Ay,FE g t l];split<;>rfl
theorem GL(s:LS)(id:Nat)(x:T)(hu:D3 s.ms id=true):(s.subst id x).st=s.st.sub id x:=by
 show St.mk _ _ _ _=St.mk _ _ _ _;congr 1
 ·funext t;exact GW _ rfl t s.es
 ·funext i
  show x7 ((id,none)::_) i=if i=id then none else(x7 s.ms i).map _
  unfold x7;rw[Ay,FE];by_cases h:i=id
  ·simp[h]
  ·simp only[h,if_false];cases lkM s.ms i with
   |none=>rfl
   |some b=>cases b<;>rfl
 ·funext i
  show D3 ((id,none)::_) i=D3 s.ms i;unfold D3;rw[Ay,FE];by_cases h:i=id
  ·subst h;unfold D3 at hu;simp only[if_true];exact hu.symm
  ·simp only[h,if_false];cases lkM s.ms i<;>rfl
theorem b0u(s:LS)(id:Nat):(s.frz id).st=s.st.frz id:=by
 unfold LS.frz St.frz;show _=match x7 s.ms id with
  |some (.row _ k xs)=>s.st.sub id (.sl k xs)
  |some (.box _ cs)=>(match L7 cs with|some ts=>s.st.sub id (.fp ts)|none=>s.st)
  |_=>s.st
 cases hm:x7 s.ms id with
 |none=>rfl
 |some b=>
  cases b with
  |row e k xs=>exact GL s id _ (Pr hm)
  |obj od=>rfl
  |box ty cs=>
   simp only;cases L7 cs with
   |none=>rfl
   |some ts=>exact GL s id _ (Pr hm)
theorem CP:∀(l:List Nat) (s:LS),(s.frzs l).st=s.st.frzs l
 | [],_=>rfl
 |id::l,s=>by show((s.frz id).frzs l).st=(s.st.frz id).frzs l;rw[CP l,b0u]
def Ki(d:Option Bool)(b:Bool):Bool:=match d with|some b'=>b'|none=>b
def mX(d:Option Bool)(b:Bool):List Prop:=match d with|some b'=>[b=b']|none=>[]
def eqB(x y:Bool):Bool:=match x,y with|true,true=>true|false,false=>true|_,_=>false
def V0(o:Oper)(q:Orc):Bool:=
 match o.op with
 |.call c=>(match c.callee with
  |.value (.func _)=>(match q with|.call _ r=>O1 r|.io _ _ _=>true|.look _ _=>true|_=>false)
  |_=>false)
 |_=>false
def fpQ(o:Oper)(q:Orc)(st:St):List Nat:=match q with|.look _ _=>Ev o st++t8 o st|_=>Ev o st
def wrQ(o:Oper)(q:Orc)(st:St):List Nat:=match q with|.look _ _=>[]|_=>t8 o st
theorem JT{P:Program}{o:Oper}{ns:List (Nat × Nat × Nat)}{r:A}{s s1:LS}{obs:List Prop}(h:M3 P o (.look ns r) s=some (obs,s1))(ho:I5 obs):∃c f,o.op=.call c∧c.callee=.value (.func f)∧FnP P f (c.args.toList.map fun y=>Q2 s.st (s.st.ev y)) r∧(c.args.toList.map fun y=>Q2 s.st (s.st.ev y)).all C7=true∧O1 r=true∧s1=s.put o.dst r:=by
 unfold M3 at h
 dsimp only at h
 split at h
 ·rename_i c hc;split at h
  ·rename_i f hf;split at h
   ·rename_i hk;cases h;simp only[w9]at hk;exact⟨c,f,hc,hf,Mz ns hk.1 ho.1,hk.1,hk.2,rfl⟩
   ·cases h
  ·cases h
 ·cases h
theorem a5K{P:Program}{o:Oper}{ns:List (Nat × Nat × Nat)}{r:A}{s s1:LS}{obs:List Prop}(h:M3 P o (.look ns r) s=some (obs,s1))(ho:I5 obs):Bg o s.st s1.st []∧Su P o s.st s1.st (Ev o s.st++t8 o s.st) []:=by obtain⟨c,f,h1,h2,h3,h4,h5,rfl⟩:=JT h ho;rw[C3];refine⟨Nc o s.st r,fun st2 hn he hm K2 hK2=>?_⟩;rw[Rl]at hK2;have hmap:=RW h1 h2 he fun i hi=>(hm i (.inl (A8.2 hi))).1;exact .inr (.inr (.inr (.inr ⟨c,f,r,h1,h2,by rw[hmap];exact h3,by rw[hmap];exact h4,h5,hK2⟩)))
theorem a7O{P:Program}{o:Oper}{q:Orc}{s s1:LS}{obs:List Prop}(hl:V0 o q=true)(h:M3 P o q s=some (obs,s1))(ho:I5 obs):Y2 P o s.st (fun st=>st=s1.st):=by
 unfold V0 at hl;split at hl
 ·rename_i c e;split at hl
  ·rename_i f hc;split at hl
   ·rename_i ns r
    change B2 P o (.call ns r) s=some (obs,s1)at h
    unfold B2 at h;simp only[e,hc]at h;have key:(c.args.toList.map fun x=>u0 s.st (s.st.ev x)).all C7=true∧I5 [FnP P f (U8 ns 0 (c.args.toList.map fun x=>u0 s.st (s.st.ev x))) r]∧s1=s.put o.dst r:=by
     split at h
     ·rename_i hf _;cases h;exact⟨hf,ho,rfl⟩
     ·rename_i hf _ _;cases h;exact⟨hf,ho,rfl⟩
     ·cases h
    obtain⟨hf,h1,rfl⟩:=key;have hmem:∀x∈c.args.toList,x∈o.op.operands.toList:=fun x hx=>by rw[←Fm,e];simp only[opL,hc];exact List.mem_append_right _ hx
    refine Sy r (C3 s o.dst r).symm fun st2 ha K2 hK2=>.inl ?_;have hmap:(c.args.toList.map fun x=>u0 st2 (st2.ev x))=c.args.toList.map fun x=>u0 s.st (s.st.ev x):=List.map_congr_left fun x hx=>by rw[ha.env x (hmem x hx),qX (ha.at (hmem x hx)).2]
    unfold B5;simp only[e,hc];exact .inl ⟨r,by rw[hmap];exact Mz ns hf h1.1,by rw[hmap];exact hf,.inl ⟨hl,hK2⟩⟩
   ·rename_i v r m';unfold M3 at h;simp only[e,hc]at h;split at h
    ·rename_i cargs bs rs ha hb hr hg;split at h
     ·rename_i hok hbk;cases h;simp only[w9,Bool.or_eq_true,List.isEmpty_iff]at hg;exact KW e hc (DD ha hb hr hg.1 hg.2 hok hbk ho.1 _ rfl)
     ·cases h
    ·cases h
   ·obtain⟨c,f,h1,h2,h3,h4,h5,rfl⟩:=JT h ho;exact VM ⟨c,f,_,h1,h2,h3,h4,h5,(C3 s o.dst _).symm⟩
   ·cases hl
  ·cases hl
 ·cases hl
def T9(P:Program)(dr:Bool)(ops:List Oper):List Oper→List (Option Bool × List Nat × Orc)→LS→Option (List Prop × LS × List (List Nat × List Nat))
 | [],_,s=>some ([],s,[])
 |o::rest,qs,s=>
  match qs with
  | []=>none
  |q::qs=>
  match o.guard with
  |none=>
   (match !dr||(q.2.1.isEmpty&&(W8 o s.st||V0 o q.2.2)),M3 P o q.2.2 (s.frzs q.2.1)with
   |true,some (obs,s')=>(match T9 P dr ops rest qs s' with|some (obs',s'',fps)=>some (obs++obs',s'',(fpQ o q.2.2 s.st,wrQ o q.2.2 s.st)::fps)|none=>none)
   |_,_=>none)
  |some (j,want)=>
   match Bf ops s.st j with
   |.t (.v (.bool b))=>
    (match eqB (Ki q.1 b) want with
    |true=>
     (match !dr||(q.2.1.isEmpty&&(W8 o s.st||V0 o q.2.2)),M3 P o q.2.2 (s.frzs q.2.1)with
     |true,some (obs,s')=>(match T9 P dr ops rest qs s' with|some (obs',s'',fps)=>some (mX q.1 b++(obs++obs'),s'',(fpQ o q.2.2 s.st,wrQ o q.2.2 s.st)::fps)|none=>none)
     |_,_=>none)
    |false=>(match T9 P dr ops rest qs (s.put o.dst (.tup []))with|some (obs',s'',fps)=>some (mX q.1 b++obs',s'',([],[])::fps)|none=>none))
   |.tup []=>(match T9 P dr ops rest qs (s.put o.dst (.tup []))with|some (obs',s'',fps)=>some (obs',s'',([],[])::fps)|none=>none)
   |_=>none
theorem UD{d:Option Bool}{b want:Bool}(ho:I5 (mX d b)):(eqB (Ki d b) want=true→b=want)∧(eqB (Ki d b) want=false→b≠want):=by
 cases d with
 |none=>cases b<;>cases want<;>simp[eqB,Ki]
 |some b'=>have:b=b':=ho.1;subst this;cases b<;>cases want<;>simp[eqB,Ki]
theorem Vc(ops:List Oper):∀(l:List Oper) (qs:List (Option Bool × List Nat × Orc)) (s s':LS) (obs:List Prop) (fps:List (List Nat × List Nat)),T9 P true ops l qs s=some (obs,s',fps)→I5 obs→Qe P ops l s.st fps s'.st
 | [],qs,s,s',obs,fps,h,ho=>by simp only[T9,N2,Prod.mk.injEq]at h;obtain⟨-,rfl,rfl⟩:=h;exact .nil _
 |o::rest,qs,s,s',obs,fps,h,ho=>by
  have go:∀{q:List Nat × Orc} {o1:List Prop} {s1:LS},(q.1.isEmpty&&(W8 o s.st||V0 o q.2))=true→M3 P o q.2 (s.frzs q.1)=some (o1,s1)→I5 o1→
    Bg o s.st s1.st (wrQ o q.2 s.st)∧Su P o s.st s1.st (fpQ o q.2 s.st) (wrQ o q.2 s.st):=fun{q o1 s1} hk hst h1=>by
   simp only[w9,List.isEmpty_iff]at hk;obtain⟨hq0,hk⟩:=hk;rw[hq0]at hst
   change M3 P o q.2 s=some (o1,s1)at hst
   by_cases hlk:∃ns r,q.2=.look ns r
   ·obtain⟨ns,r,e⟩:=hlk;rw[e]at hst⊢;exact a5K hst h1
   have ef:fpQ o q.2 s.st=Ev o s.st:=(by unfold fpQ;split<;>first|rfl|(rename_i e;exact absurd ⟨_,_,e⟩ hlk))
   have ew:wrQ o q.2 s.st=t8 o s.st:=(by unfold wrQ;split<;>first|rfl|(rename_i e;exact absurd ⟨_,_,e⟩ hlk))
   rw[ef,ew];have hlocal:Y2 P o s.st (fun st=>st=s1.st):=by
    rcases(by simpa[or_comm]using hk:V0 o q.2=true∨W8 o s.st=true)with hl|hk
    ·exact a7O hl hst h1
    ·exact a8N hk (MO hst h1 (fun st=>st=s1.st) rfl)
   obtain⟨s',hK,hf,hloc⟩:=hlocal;subst hK;exact⟨hf,fun st2 h0 h1 h2 K2 hK2=>hloc st2 ⟨h0,h1,fun i hi=>(h2 i hi).1,fun i hi=>(h2 i (.inr hi)).2⟩ K2 hK2⟩
  unfold T9 at h;split at h
  ·cases h
  ·rename_i q qs;split at h
   ·rename_i hg;split at h
    ·rename_i o1 s1 hk hst;split at h
     ·rename_i o2 s2 fps2 hr;cases h;obtain⟨h1,h2⟩:=kG ho;obtain⟨hf,hx⟩:=go (by simpa using hk) hst h1;exact .cons o rest _ _ _ _ _ _ hf (by unfold Fj;rw[hg];exact hx) (Vc ops rest qs s1 s' _ _ hr h2)
     ·cases h
    ·cases h
   ·rename_i j want hg;split at h
    ·rename_i b hb;split at h
     ·rename_i he;split at h
      ·rename_i o1 s1 hk hst;split at h
       ·rename_i o2 s2 fps2 hr;cases h;obtain⟨h0,h12⟩:=kG ho;obtain⟨h1,h2⟩:=kG h12;obtain⟨hf,hx⟩:=go (by simpa using hk) hst h1;exact .cons o rest _ _ _ _ _ _ hf (by unfold Fj;rw[hg];exact .inl ⟨b,hb,fun _=>hx,fun hn=>absurd ((UD h0).1 he) hn⟩) (Vc ops rest qs s1 s' _ _ hr h2)
       ·cases h
      ·cases h
     ·rename_i he;split at h
      ·rename_i o2 s2 fps2 hr;cases h;obtain⟨h0,h2⟩:=kG ho;refine .cons o rest _ (s.put o.dst (.tup [])).st _ [] [] _ (by rw[C3];exact Nc o s.st (.tup [])) (by unfold Fj;rw[hg];exact .inl ⟨b,hb,fun hy=>absurd hy ((UD h0).2 he),fun _=>⟨C3 _ _ _,rfl⟩⟩) (Vc ops rest qs _ s' _ _ hr h2)
      ·cases h
    ·rename_i hb;split at h
     ·rename_i o2 s2 fps2 hr;cases h;exact .cons o rest _ (s.put o.dst (.tup [])).st _ [] [] _ (by rw[C3];exact Nc o s.st (.tup [])) (by unfold Fj;rw[hg];exact .inr ⟨hb,C3 _ _ _,rfl⟩) (Vc ops rest qs _ s' _ _ hr ho)
     ·cases h
    ·cases h
theorem XW{x:A}(h:Y8 x=true):Eu x x:=by cases x<;>first|exact .refl _|(simp[Y8]at h)
def Cu:Nat→List A→List (Nat × A)
 |_,[]=>[]
 |i,x::l=>(i,x)::Cu (i+1) l
theorem WN:∀(l:List A) (i t:Nat),lkE (Cu i l) t=if i≤t then(l[t-i]?).getD .dead else .dead
 | [],i,t=>by simp[Cu,lkE]
 |x::l,i,t=>by
  show lkE ((i,x)::Cu (i+1) l) t=_;rw[Vz];unfold upd;rw[WN l (i+1) t];by_cases h:t=i
  ·subst h;simp
  ·rw[if_neg h];by_cases h2:i+1≤t
   ·rw[if_pos h2,if_pos (by omega),show t-i=(t-(i+1))+1 by omega,List.getElem?_cons_succ]
   ·rw[if_neg h2,if_neg (by omega)]
end
section
open Go.RowKit
variable{P:Program}
def K8(v:CV)(ms:List (Nat × Option Blk)):Nat→List A→Option (List A)
 |_,[]=>some []
 |i,.agg cs::l=>(match V3 v ms v.N i 0 cs,K8 v ms (i+1) l with|some r,some rest=>some (.agg r::rest)|_,_=>none)
 |i,a::l=>(match L0 v ms (C6 v.N i 0) a,K8 v ms (i+1) l with|some r,some rest=>some (r::rest)|_,_=>none)
def jL(v:CV)(ms:List (Nat × Option Blk))(x:A):Option A:=
 match x with
 |.tup cs=>(match K8 v ms 0 cs with|some r=>some (.tup r)|none=>none)
 |.agg cs=>(match V3 v ms v.N 0 0 cs with|some r=>some (.agg r)|none=>none)
 |a=>L0 v ms (C6 v.N 0 0) a
def Jq(P:Program)(v:CV)(rs:List ResultVar)(s:LS):Option (A × List (Nat × Blk)):=
 match Gi P s.st rs,Fu v s.ms v.B,Bb s.ms v.R with
 |some x,some bs,some rs=>
  (match Q4 v (P7 (bs++rs++K6 v.Z)),jL v s.ms x with
  |true,some r=>some (r,P7 (bs++rs++K6 v.Z))
  |_,_=>none)
 |_,_,_=>none
section
variable{v:CV}{s:LS}{ms':List (Nat × Blk)}
theorem AO(hk:Q4 v ms'=true):∀{l r:List A} {i:Nat},K8 v s.ms i l=some r→Bl (rho v.R) s.st ms' l r
 | [],r,i,h=>by simp only[K8,N2]at h;subst h;trivial
 |x::l,r,i,h=>by
  unfold K8 at h;split at h
  ·rename_i e;cases e
  ·rename_i cs l' e;cases e;split at h
   ·rename_i r1 rest h1 h2;cases h;exact⟨Oo hk h1,AO hk h2⟩
   ·cases h
  ·rename_i a l' _ e;cases e;split at h
   ·rename_i r1 rest h1 h2;cases h;exact⟨gV (mY hk h1),AO hk h2⟩
   ·cases h
theorem QD{ρ:Nat→Option Nat}{st:St}{ms:List (Nat × Blk)}{x y:A}(h:le2 ρ st ms x y):le3 ρ st ms x y:=by
 unfold le3;split
 ·exact h.elim
 ·exact h
theorem b13(hk:Q4 v ms'=true){x r:A}(h:jL v s.ms x=some r):le3 (rho v.R) s.st ms' x r:=by
 unfold jL at h;split at h
 ·split at h
  ·rename_i r' hr;cases h;exact AO hk hr
  ·cases h
 ·split at h
  ·rename_i r' hr;cases h;exact QD (Oo hk hr)
  ·cases h
 ·exact QD (gV (mY hk h))
theorem b22(hk:Q4 v ms'=true){bs rs:List (Nat × Blk)}(hb:Fu v s.ms v.B=some bs)(hr:Bb s.ms v.R=some rs)(e:ms'=P7 (bs++rs++K6 v.Z)):R6 (rho v.R) s.st [] ms':=by
 refine⟨fun p hp=>(by cases hp),fun p hp=>?_,fun p hp q hq j h1 h2=>?_⟩
 ·rw[e]at hp;rcases A8.1 (wP hp)with hp|hp
  ·rcases A8.1 hp with hp|hp
   ·exact EM hk hb (fun _ h=>h) p hp
   ·exact nF hk hr (fun _ h=>h) p hp
  ·exact wN hk (fun _ h=>h) p hp
 ·have h3:=hk;simp only[Q4,w9,List.all_eq_true]at h3;obtain⟨i,hi,rfl⟩:=List.getElem_of_mem hp;obtain⟨i',hi',rfl⟩:=List.getElem_of_mem hq;have:=Wi _ h3.2.2.2.1 i i' j (by rw[L5,p9 hi,G2,h1]) (by rw[L5,p9 hi',G2,h2]);subst this;rfl
end
theorem MM{fn:Func}{r:A}{m':List (Nat × Blk)}{s:LS}(v:CV)(h:Jq P v fn.results.toList s=some (r,m')):∃ρ:Nat→Option Nat,(∀i,i<1000→ρ i=some i)∧∃x,Gi P s.st fn.results.toList=some x∧le3 ρ s.st m' x r∧R6 ρ s.st [] m':=by
 unfold Jq at h;split at h
 ·rename_i x bs rs hx hb hr;split at h
  ·rename_i r' hk hc;cases h;exact⟨rho v.R,fun i hi=>by unfold rho;rw[show Nat.blt i 1000=true from Nat.ble_eq_true_of_le hi],x,hx,b13 hk hc,b22 hk hb hr rfl⟩
  ·cases h
 ·cases h
theorem a9m{fn:Func}{r:A}{m':List (Nat × Blk)}{s:LS}(v:CV)(h:Jq P v fn.results.toList s=some (r,m')):Bc P fn r m' .ret s.st:=MM v h
theorem a73{fn:Func}{r:A}{m':List (Nat × Blk)}{s:LS}(v:CV)(h:Jq P v fn.results.toList s=some (r,m')):Bc P fn r m' .normal s.st:=MM v h
theorem a0i(n:Nat)(args:List A)(m:List (Nat × Blk)):(LS.mk n (Cu 0 args) (S9 m)).st=Uu n args m:=by
 unfold LS.st Uu;congr 1
 ·funext t
  rw[WN];simp
 ·funext i;exact(tJ m i).1
 ·funext i;exact(tJ m i).2
theorem a1H{f:FuncId}{fn:Func}{c:Code}{args:List A}{m m':List (Nat × Blk)}{r:A}(hf:P.funcs[f]? =some fn)(hb:fn.body=some c)(hpl:Dx P f=true)(hn:args.length≤fn.ntmps)(h9:fn.ntmps≤900)(h:W P c (LS.mk fn.ntmps (Cu 0 args) (S9 m)).st (Bc P fn r m')):U2 P f args m r m':=by rw[a0i]at h;exact a3X hf hb hpl hn h9 h
theorem KY:∀{cs:List A},cs.all Y8=true→Tv cs cs
 | [],_=>trivial
 |x::l,h=>by simp only[List.all_cons,w9]at h;exact⟨XW h.1,KY h.2⟩
theorem FU{x:A}(h:C7 x=true):Cp x x:=by
 cases x with
 |agg cs=>exact KY h
 |_=>exact OG (XW h)
theorem BY{f:FuncId}{args:List A}{r r':A}{m':List (Nat × Blk)}(h:U2 P f args [] r m')(he:Tf (mst m') r=r')(hr:bB r'=true):FnP P f args r':=by
 refine⟨h.1,fun w X vals hX hsz hargs=>?_⟩
 let C:Ctx:=⟨P,X,fun _=>False,w,fun _=>none⟩
 have hs:v8 C (mst []) (fun _=>nol) Lx w:=⟨rfl,rfl,fun t=>.dead _,fun id blk h=>(by cases h),fun i j b hi=>(by cases hi),fun i b hi=>(by cases hi),hX,rfl,rfl,rfl,i4 _,fun _ _ _=>rfl,fun _ _ h=>(by cases h),fun _ _ h=>(by cases h)⟩;have hM:∀b,Mut C (mst []) (fun _=>nol) b→X b:=by
  rintro b (hx|⟨i,hi,_⟩)
  ·exact hx
  ·cases hi
 refine(h.2 C (fun _=>nol) vals rfl (fun _ _ h=>(by cases h)) hs hsz fun i hi=>RepA.ext (hargs i hi) (Ext.refl _ _) (fun b _ h=>hM b h) (fun id hi=>by simp at hi) (fun id hi=>by simp at hi)).mono ?_;rintro e w' ⟨v,L',rfl,hs',hr'⟩;refine⟨v,rfl,⟨hs'.os,hs'.tape,hs'.output,hs'.size,fun k hk=>hs'.block k hk (fun h=>h)⟩,?_⟩;have h3:=a2r hs' (M':=X) (fun b h=>.inl h) (fun id e k xs hm b hb hx=>(hs'.out id b (by rw[hm];rfl) hb).1 hx) hr';rw[he]at h3;refine PX (x:=r') ?_ h3;unfold leF;split
 ·rename_i cs ds;have:∀l:List A,l.all C7=true→jN l l:=fun l=>by
   induction l with
   |nil=>intro _;trivial
   |cons x l ih=>intro h;simp only[List.all_cons,w9]at h;exact⟨FU h.1,ih h.2⟩
  exact this _ hr
 ·rename_i x y hne;cases r' with
  |tup cs=>exact absurd rfl (hne cs cs rfl)
  |_=>exact FU hr
end
end
end Go.Proofs.YtihbbcealnnpiaaGreatDoor
