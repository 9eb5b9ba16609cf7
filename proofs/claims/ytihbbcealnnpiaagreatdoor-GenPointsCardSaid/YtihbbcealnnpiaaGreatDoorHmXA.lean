/- Parts of the proof. -/
import Derived.Test.YtihbbcealnnpiaaGreatDoorHmAl
import Derived.Below
import Derived.Laws.Rows
import Derived.Deep.MidRow
import Derived.WalkKit
import Derived.Great.BuildSlice
set_option linter.unusedVariables false
namespace Go.Proofs.YtihbbcealnnpiaaGreatDoor
section
section
open Go.RowKit
inductive T where
 |v(x:Value)
 |sl(k:Nat)(xs:List (List T))
 |fp(cells:List T)
 |clo(f:FuncId)(caps:List (List T))
 |any
inductive RepT(w:World)(M:Nat→Prop):T→Value→Prop
 |v(x:Value)(h:x.oneCell'=true):RepT w M (.v x) x
 |nil(k:Nat)(a:Option Addr)(cap:Nat)(hcm:cap≤maxLen):RepT w M (.sl k []) (.slice a 0 cap)
 |sl(k:Nat)(xs:List (List T))(b off cap:Nat)(c:Nat→Nat→Value)(hb:b<w.heap.size)(hM:¬M b)(hcap:xs.length≤cap)(hcm:cap≤maxLen)
   (hk:∀i (hi:i<xs.length),(xs[i]).length=k)
   (hc:∀i (hi:i<xs.length) j (hj:j<k),w.cell? ⟨b,off+(i*k+j),none⟩=some (c i j))
   (hr:∀i (hi:i<xs.length) j (hj:j<(xs[i]).length),RepT w M (xs[i][j]) (c i j)):
   RepT w M (.sl k xs) (.slice (some ⟨b,off,none⟩) xs.length cap)
 |fp(cells:List T)(b off:Nat)(c:Nat→Value)(hb:b<w.heap.size)(hM:¬M b)
   (hc:∀j (hj:j<cells.length),w.cell? ⟨b,off+j,none⟩=some (c j))
   (hr:∀j (hj:j<cells.length),RepT w M (cells[j]) (c j)):RepT w M (.fp cells) (.pointer (some ⟨b,off,none⟩))
 |clo(f:FuncId)(caps:List (List T))(vs:Array Value)(b off:Nat→Nat)(c:Nat→Nat→Value)(hs:vs.size=caps.length)
   (hv:∀i (hi:i<caps.length),vs.getD i undef=.pointer (some ⟨b i,off i,none⟩)∧b i<w.heap.size∧¬M (b i))
   (hc:∀i (hi:i<caps.length) j (hj:j<(caps[i]).length),w.cell? ⟨b i,off i+j,none⟩=some (c i j))
   (hr:∀i (hi:i<caps.length) j (hj:j<(caps[i]).length),RepT w M (caps[i][j]) (c i j)):RepT w M (.clo f caps) (.func (.func f) #[] vs)
 |any(v:Value)(h:v.oneCell'=true):RepT w M .any v
structure Ext(M:Nat→Prop)(w w':World):Prop where
 size:w.heap.size≤w'.heap.size
 block:∀k,k<w.heap.size→¬M k→w'.heap[k]? =w.heap[k]?
theorem Ext.refl(M:Nat→Prop)(w:World):Ext M w w:=⟨i4 _,fun _ _ _=>rfl⟩
theorem RepT.ext{w w':World}{M M':Nat→Prop}{t:T}{v:Value}(h:RepT w M t v)(he:Ext M w w')(hM:∀b,b<w.heap.size→M' b→M b):RepT w' M' t v:=by
 induction h with
 |v x h=>exact .v x h
 |any v h=>exact .any v h
 |nil k a cap h=>exact .nil k a cap h
 |sl k xs b off cap c hb hm hcap hcm hk hc hr ih=>refine .sl k xs b off cap c (Nat.lt_of_lt_of_le hb he.size) (fun h=>hm (hM b hb h)) hcap hcm hk (fun i hi j hj=>?_) ih;rw[World.cell?_of_block (w:=w) (he.block b hb hm)];exact hc i hi j hj
 |fp cells b off c hb hm hc hr ih=>refine .fp cells b off c (Nat.lt_of_lt_of_le hb he.size) (fun h=>hm (hM b hb h)) (fun j hj=>?_) ih;rw[World.cell?_of_block (w:=w) (he.block b hb hm)];exact hc j hj
 |clo f caps vs b off c hs hv hc hr ih=>refine .clo f caps vs b off c hs (fun i hi=>⟨(hv i hi).1,Nat.lt_of_lt_of_le (hv i hi).2.1 he.size,fun h=>(hv i hi).2.2 (hM _ (hv i hi).2.1 h)⟩) (fun i hi j hj=>?_) ih;rw[World.cell?_of_block (w:=w) (he.block _ (hv i hi).2.1 (hv i hi).2.2)];exact hc i hi j hj
theorem RepT.one{w:World}{M:Nat→Prop}{t:T}{v:Value}(h:RepT w M t v):v.oneCell'=true:=by
 cases h with
 |v x h=>exact h
 |nil=>rfl
 |sl=>rfl
 |fp=>rfl
 |clo=>rfl
 |any v h=>exact h
structure a3m where
 rep:World→(Nat→Prop)→(Nat→Prop)→Nat→Prop
 ext:∀{w w':World} {M M' own:Nat→Prop} {b:Nat},rep w M own b→Ext M w w'→(∀k,k<w.heap.size→M' k→M k)→w'.heap[b]? =w.heap[b]?→(∀k,own k→w'.heap[k]? =w.heap[k]?)→rep w' M' own b
inductive Od where
 |iter(s:ByteArray)(pos:Nat)
 |map(es:List (Value × List T))
 |any(R:a3m)
def Od.isMap:Od→Bool
 |.map _=>true
 |_=>false
def Bm(w:World)(M own:Nat→Prop)(b:Nat):Od→Obj→Prop
 |.iter s pos,o=>o=.stringIter s pos
 |.map es,o=>∃ents clock,o=.map ents clock∧ents.size=es.length∧(∀i j (hi:i<ents.size) (hj:j<ents.size),(ents[i]).born=(ents[j]).born→i=j)∧(∀i (hi:i<ents.size),(ents[i]).born<clock)∧
   ∀i (hi:i<es.length) (hi':i<ents.size),(ents[i]).key=es[i].1∧((ents[i]).val).cells.size=es[i].2.length∧(∀j (hj:j<es[i].2.length) (hj':j<((ents[i]).val).cells.size),RepT w M (es[i].2[j]) (((ents[i]).val).cells[j]))∧(es[i].2.length=1→((ents[i]).val).oneCell'=true)
 |.any R,_=>R.rep w M own b
theorem Bm.ext{w w':World}{M M' own:Nat→Prop}{b:Nat}{od:Od}{o:Obj}(h:Bm w M own b od o)(he:Ext M w w')(hM:∀b,b<w.heap.size→M' b→M b)(hb:w'.heap[b]? =w.heap[b]?)(ho:∀k,own k→w'.heap[k]? =w.heap[k]?):Bm w' M' own b od o:=by
 cases od with
 |iter s pos=>exact h
 |any R=>exact R.ext h he hM hb ho
 |map es=>obtain⟨ents,clock,h1,h2,h3,h4,h5⟩:=h;exact⟨ents,clock,h1,h2,h3,h4,fun i hi hi'=>⟨(h5 i hi hi').1,(h5 i hi hi').2.1,fun j hj hj'=>((h5 i hi hi').2.2.1 j hj hj').ext he hM,(h5 i hi hi').2.2.2⟩⟩
def Od.plain:Od→Bool
 |.any _=>false
 |_=>true
theorem Bm.move{w w':World}{M M' own own':Nat→Prop}{b b':Nat}{od:Od}{o:Obj}(h:Bm w M own b od o)(hp:od.plain=true)(he:Ext M w w')(hM:∀b,b<w.heap.size→M' b→M b):Bm w' M' own' b' od o:=by
 cases od with
 |iter s pos=>exact h
 |any R=>cases hp
 |map es=>obtain⟨ents,clock,h1,h2,h3,h4,h5⟩:=h;exact⟨ents,clock,h1,h2,h3,h4,fun i hi hi'=>⟨(h5 i hi hi').1,(h5 i hi hi').2.1,fun j hj hj'=>((h5 i hi hi').2.2.1 j hj hj').ext he hM,(h5 i hi hi').2.2.2⟩⟩
inductive A where
 |t(x:T)
 |agg(cs:List A)
 |tup(cs:List A)
 |ref(id:Nat)
 |ptr(id off:Nat)
 |rptr(id i j:Nat)
 |ob(id:Nat)
 |ifc(ty:TypeId)(id off:Nat)
 |fel(cells:List T)
 |dead
abbrev A.v(x:Value):A:=.t (.v x)
def A.single:A→Bool
 |.agg _|.tup _|.dead=>false
 |_=>true
inductive Blk where
 |box(ty:TypeId)(cells:List A)
 |row(e:TypeId)(k:Nat)(xs:List (List T))
 |obj(od:Od)
def Blk.alike:Blk→Blk→Prop
 |.box _ _,.box _ _=>True
 |.row _ k xs,.row _ k' ys=>k=k'∧xs.length=ys.length
 |.obj x,.obj y=>x.isMap=y.isMap
 |_,_=>False
theorem Blk.alike_refl(b:Blk):b.alike b:=by cases b<;>simp[Blk.alike]
structure St where
 n:Nat
 env:Nat→A
 mem:Nat→Option Blk
 used:Nat→Bool
structure Loc where
 blk:Option Nat
 cap:Nat
 own:Nat→Prop
def Loc.has(l:Loc)(b:Nat):Prop:=l.blk=some b∨l.own b
abbrev nol:Loc:=⟨none,0,fun _=>False⟩
abbrev Loc.at_(b cap:Nat):Loc:=⟨some b,cap,fun _=>False⟩
theorem AC{b cap q:Nat}(h:(Loc.at_ b cap).has q):q=b:=by rcases h with h|h<;>cases h;rfl
theorem wN{b:Nat}:¬nol.has b:=fun h=>by rcases h with h|h<;>cases h
def Loc.like(l l':Loc):Prop:=l.blk=l'.blk∧l.cap=l'.cap
theorem Loc.like_refl(l:Loc):l.like l:=⟨rfl,rfl⟩
theorem Loc.like.of{l l':Loc}(h:l=l'):l.like l':=h▸l.like_refl
def Loc.slice(l:Loc)(n:Nat):Value:=.slice (l.blk.map fun b=>⟨b,0,none⟩) n l.cap
def Loc.ob(l:Loc)(od:Od):Value:=match od.isMap with|true=>.map l.blk|false=>.pointer (l.blk.map fun b=>⟨b,0,none⟩)
def Loc.ptr(l:Loc)(off:Nat):Value:=.pointer (l.blk.map fun b=>⟨b,off,none⟩)
theorem Loc.like.slice{l l':Loc}(h:l.like l')(n:Nat):l.slice n=l'.slice n:=by unfold Loc.slice;rw[h.1,h.2]
theorem Loc.like.ob{l l':Loc}(h:l.like l')(od:Od):l.ob od=l'.ob od:=by unfold Loc.ob;rw[h.1]
theorem Loc.like.ptr{l l':Loc}(h:l.like l')(n:Nat):l.ptr n=l'.ptr n:=by unfold Loc.ptr;rw[h.1]
def upd{α:Type}(f:Nat→α)(i:Nat)(x:α):Nat→α:=fun j=>if j=i then x else f j
theorem J3{α:Type}(f:Nat→α)(i:Nat)(x:α):upd f i x i=x:=by simp[upd]
theorem Ig{α:Type}(f:Nat→α)(i j:Nat)(x:α)(h:j≠i):upd f i x j=f j:=by simp[upd,h]
inductive RepA(st:St)(L:Nat→Loc)(w:World)(M:Nat→Prop):A→Value→Prop
 |t(x:T)(v:Value)(h:RepT w M x v):RepA st L w M (.t x) v
 |agg(cs:List A)(vs:Array Value)(hs:vs.size=cs.length)(h1:∀i (hi:i<cs.length),(cs[i]).single=true)(hr:∀i (hi:i<cs.length),RepA st L w M (cs[i]) (vs[i]'(by omega))):RepA st L w M (.agg cs) (.agg vs)
 |tup(cs:List A)(vs:Array Value)(hs:vs.size=cs.length)(hr:∀i (hi:i<cs.length),RepA st L w M (cs[i]) (vs[i]'(by omega))):RepA st L w M (.tup cs) (.tuple vs)
 |ref(id:Nat)(v:Value)(h1:v.oneCell'=true)(hu:st.used id=true)(h:∀e k xs,st.mem id=some (.row e k xs)→v=(L id).slice xs.length):RepA st L w M (.ref id) v
 |ptr(id off:Nat)(v:Value)(h1:v.oneCell'=true)(hu:st.used id=true)(h:∀ty cs,st.mem id=some (.box ty cs)→v=(L id).ptr off):RepA st L w M (.ptr id off) v
 |ifc(ty:TypeId)(id off:Nat)(v:Value)(h1:v.oneCell'=true)(hu:st.used id=true)(h:∀bty cs,st.mem id=some (.box bty cs)→v=.iface ty ((L id).ptr off)):RepA st L w M (.ifc ty id off) v
 |rptr(id i j:Nat)(v:Value)(h1:v.oneCell'=true)(hu:st.used id=true)(h:∀e k xs,st.mem id=some (.row e k xs)→v=(L id).ptr (i*k+j)):RepA st L w M (.rptr id i j) v
 |ob(id:Nat)(v:Value)(h1:v.oneCell'=true)(hu:st.used id=true)(h:∀od,st.mem id=some (.obj od)→v=(L id).ob od):RepA st L w M (.ob id) v
 |fel(cells:List T)(b off:Nat)(c:Nat→Value)(hb:b<w.heap.size)(hM:¬M b)(hc:∀j (hj:j<cells.length),w.cell? ⟨b,off+j,none⟩=some (c j))(hr:∀j (hj:j<cells.length),RepT w M (cells[j]) (c j)):
   RepA st L w M (.fel cells) (.pointer (some ⟨b,off,none⟩))
 |dead(v:Value):RepA st L w M .dead v
theorem RepA.one{st:St}{L:Nat→Loc}{w:World}{M:Nat→Prop}{a:A}{v:Value}(h:RepA st L w M a v)(hs:a.single=true):v.oneCell'=true:=by
 cases h with
 |t x _ h=>exact h.one
 |ref _ _ h1=>exact h1
 |ptr _ _ _ h1=>exact h1
 |ifc _ _ _ _ h1=>exact h1
 |rptr _ _ _ _ h1=>exact h1
 |ob _ _ h1=>exact h1
 |fel=>rfl
 |_=>simp[A.single]at hs
theorem RepA.ext{st st':St}{L L':Nat→Loc}{w w':World}{M M':Nat→Prop}{a:A}{v:Value}(h:RepA st L w M a v)(he:Ext M w w')(hM:∀b,b<w.heap.size→M' b→M b)(hu:∀id,st.used id=true→st'.used id=true)(hs:∀id,st.used id=true→∀b',st'.mem id=some b'→∃b,st.mem id=some b∧b.alike b'∧(L' id).like (L id)):RepA st' L' w' M' a v:=by
 induction h with
 |t x v h=>exact .t x v (h.ext he hM)
 |agg cs vs hsz h1 hr ih=>exact .agg cs vs hsz h1 fun i hi=>ih i hi
 |tup cs vs hsz hr ih=>exact .tup cs vs hsz fun i hi=>ih i hi
 |ref id v h1 hus h=>
  refine .ref id v h1 (hu id hus) fun e k xs hm=>?_;obtain⟨b,hb,hal,hL⟩:=hs id hus _ hm;cases b with
  |box=>exact hal.elim
  |obj=>exact hal.elim
  |row e' k' xs'=>have hl:xs'.length=xs.length:=hal.2;rw[hL.slice,←hl];exact h e' k' xs' hb
 |ptr id off v h1 hus h=>
  refine .ptr id off v h1 (hu id hus) fun ty cs hm=>?_;obtain⟨b,hb,hal,hL⟩:=hs id hus _ hm;cases b with
  |box ty' cs'=>rw[hL.ptr];exact h ty' cs' hb
  |row=>exact hal.elim
  |obj=>exact hal.elim
 |ifc t id off v h1 hus h=>
  refine .ifc t id off v h1 (hu id hus) fun ty cs hm=>?_;obtain⟨b,hb,hal,hL⟩:=hs id hus _ hm;cases b with
  |box ty' cs'=>rw[hL.ptr];exact h ty' cs' hb
  |row=>exact hal.elim
  |obj=>exact hal.elim
 |rptr id i j v h1 hus h=>
  refine .rptr id i j v h1 (hu id hus) fun e k xs hm=>?_;obtain⟨b,hb,hal,hL⟩:=hs id hus _ hm;cases b with
  |box=>exact hal.elim
  |obj=>exact hal.elim
  |row e' k' xs'=>rw[hL.ptr,←hal.1];exact h e' k' xs' hb
 |ob id v h1 hus h=>
  refine .ob id v h1 (hu id hus) fun od hm=>?_;obtain⟨b,hb,hal,hL⟩:=hs id hus _ hm;cases b with
  |box=>exact hal.elim
  |row=>exact hal.elim
  |obj od'=>have e:od'.isMap=od.isMap:=hal;rw[hL.ob,h od' hb];unfold Loc.ob;rw[e]
 |fel cells b off c hb hm hc hr=>refine .fel cells b off c (Nat.lt_of_lt_of_le hb he.size) (fun h=>hm (hM b hb h)) (fun j hj=>?_) fun j hj=>(hr j hj).ext he hM;rw[World.cell?_of_block (w:=w) (he.block b hb hm)];exact hc j hj
 |dead v=>exact .dead v
def X8(st:St)(L:Nat→Loc)(w:World)(M:Nat→Prop)(id:Nat):Blk→Prop
 |.box ty cells=>∃b cs,(L id).blk=some b∧w.heap[b]? =some (.cells cs ty (0,0))∧∃hs:cs.size=cells.length,∀i (hi:i<cells.length),(cells[i]).single=true∧RepA st L w M (cells[i]) (cs[i]'(by omega))
 |.row e k xs=>0<k∧(∀i (hi:i<xs.length),(xs[i]).length=k)∧((xs=[]∧L id=nol)∨
   ∃b cur,(L id).blk=some b∧w.heap[b]? =some (.cells cur e (0,0))∧xs.length≤(L id).cap∧(L id).cap≤maxLen∧cur.size=(L id).cap*k∧
    ∀i (hi:i<xs.length) j (hj:j<(xs[i]).length),∃c,cur[i*k+j]? =some c∧RepT w M (xs[i][j]) c)
 |.obj od=>∃b o,(L id).blk=some b∧w.heap[b]? =some o∧Bm w M (L id).own b od o
theorem X8.ext{st st':St}{L L':Nat→Loc}{w w':World}{M M':Nat→Prop}{id:Nat}{blk:Blk}(h:X8 st L w M id blk)(he:Ext M w w')(hM:∀b,b<w.heap.size→M' b→M b)(hu:∀id,st.used id=true→st'.used id=true)(hs:∀id,st.used id=true→∀b',st'.mem id=some b'→∃b,st.mem id=some b∧b.alike b'∧(L' id).like (L id))(hL:L' id=L id)(hblk:∀b,(L id).has b→w'.heap[b]? =w.heap[b]?):X8 st' L' w' M' id blk:=by
 cases blk with
 |box ty cells=>obtain⟨b,cs,hb,hw,hsz,hr⟩:=h;exact⟨b,cs,by rw[hL];exact hb,by rw[hblk b (.inl hb)];exact hw,hsz,fun i hi=>⟨(hr i hi).1,(hr i hi).2.ext he hM hu hs⟩⟩
 |row e k xs=>
  obtain⟨h0,hk,hr⟩:=h;refine⟨h0,hk,?_⟩;rcases hr with⟨hx,hn⟩|⟨b,cur,hb,hw,hl,hm,hsz,hc⟩
  ·exact .inl ⟨hx,by rw[hL];exact hn⟩
  ·refine .inr ⟨b,cur,by rw[hL];exact hb,by rw[hblk b (.inl hb)];exact hw,by rw[hL];exact hl,by rw[hL];exact hm,by rw[hL];exact hsz,fun i hi j hj=>?_⟩;obtain⟨c,hc1,hc2⟩:=hc i hi j hj;exact⟨c,hc1,hc2.ext he hM⟩
 |obj od=>obtain⟨b,o,hb,hw,hr⟩:=h;exact⟨b,o,by rw[hL];exact hb,by rw[hblk b (.inl hb)];exact hw,(by rw[hL];exact hr.ext he hM (hblk b (.inl hb)) fun k hk=>hblk k (.inr hk))⟩
structure Ctx where
 P:Program
 X:Nat→Prop
 M0:Nat→Prop
 w0:World
 pin:Nat→Option Nat
def Mut(C:Ctx)(st:St)(L:Nat→Loc)(b:Nat):Prop:=C.X b∨∃id,(st.mem id).isSome=true∧(L id).has b
structure v7(C:Ctx)(st:St)(L:Nat→Loc)(a:Act)(w:World):Prop where
 hn:a.tmps.size=st.n
 hd:a.defers=[]
 env:∀t,RepA st L w (Mut C st L) (st.env t) (a.tmps.getD t undef)
 mem:∀id blk,st.mem id=some blk→st.used id=true∧X8 st L w (Mut C st L) id blk
 inj:∀i j b,(st.mem i).isSome=true→(st.mem j).isSome=true→(L i).has b→(L j).has b→i=j
 out:∀i b,(st.mem i).isSome=true→(L i).has b→¬C.X b∧b<w.heap.size∧(C.M0 b∨C.w0.heap.size≤b)
 old:∀b,C.X b→b<C.w0.heap.size
 os:w.os=C.w0.os
 tape:w.tape=C.w0.tape
 output:w.output=C.w0.output
 size:C.w0.heap.size≤w.heap.size
 block:∀b,b<C.w0.heap.size→¬C.M0 b→w.heap[b]? =C.w0.heap[b]?
 pinN:∀id b,C.pin id=some b→st.n≤id∧id<1000
 pin:∀id b,C.pin id=some b→(st.mem id).isSome=true→(L id).blk=some b
def Sim(C:Ctx)(st:St)(a:Act)(w:World):Prop:=∃L,v7 C st L a w
theorem v7.next0{C:Ctx}{st:St}{L:Nat→Loc}{a:Act}{w:World}(h:v7 C st L a w){st':St}{L':Nat→Loc}{a':Act}{w':World}(hnn:st'.n=st.n)(hn:a'.tmps.size=st'.n)(hd:a'.defers=[])(os:w'.os=w.os)(tape:w'.tape=w.tape)(output:w'.output=w.output)(size:w.heap.size≤w'.heap.size)(block:∀b,b<w.heap.size→¬(∃id,(st.mem id).isSome=true∧(L id).has b)→w'.heap[b]? =w.heap[b]?)(used:∀id,st.used id=true→st'.used id=true)(shape:∀id,st.used id=true→∀b',st'.mem id=some b'→∃b,st.mem id=some b∧b.alike b'∧(L' id).like (L id))(from_:∀id b,(st'.mem id).isSome=true→(L' id).has b→(w.heap.size≤b∧b<w'.heap.size)∨∃i,(st.mem i).isSome=true∧(L i).has b)(inj:∀i j b,(st'.mem i).isSome=true→(st'.mem j).isSome=true→(L' i).has b→(L' j).has b→i=j)(fr:∀id,(st'.mem id).isSome=true→st.used id=false→id<st.n∨1000≤id)(mem:∀id b',st'.mem id=some b'→st'.used id=true∧((st.mem id=some b'∧L' id=L id∧∀b,(L id).has b→w'.heap[b]? =w.heap[b]?)∨X8 st' L' w' (Mut C st' L') id b'))(env:∀t,(st'.env t=st.env t∧a'.tmps.getD t undef=a.tmps.getD t undef)∨RepA st' L' w' (Mut C st' L') (st'.env t) (a'.tmps.getD t undef)):v7 C st' L' a' w':=by
 have hM:∀b,b<w.heap.size→Mut C st' L' b→Mut C st L b:=by
  rintro b hb (hx|⟨id,hs,hl⟩)
  ·exact .inl hx
  ·rcases from_ id b hs hl with h1|⟨i,h1,h2⟩
   ·omega
   ·exact .inr ⟨i,h1,h2⟩
 have he:Ext (Mut C st L) w w':=⟨size,fun k hk hm=>block k hk fun hx=>hm (.inr hx)⟩;refine⟨hn,hd,fun t=>?_,fun id b' hb'=>?_,inj,fun i b hi hl=>?_,h.old,os.trans h.os,tape.trans h.tape,output.trans h.output,Q4 h.size size,fun b hb hm=>?_,fun id b hp=>by rw[hnn];exact h.pinN id b hp,fun id b hp hs=>?_⟩
 ·rcases env t with⟨h1,h2⟩|h1
  ·rw[h1,h2];exact(h.env t).ext he hM used shape
  ·exact h1
 ·obtain⟨hu,h1⟩:=mem id b' hb';refine⟨hu,?_⟩;rcases h1 with⟨h1,h2,h3⟩|h1
  ·exact(h.mem id b' h1).2.ext he hM used shape h2 h3
  ·exact h1
 ·rcases from_ i b hi hl with h1|⟨q,h1,h2⟩
  ·have hs:=h.size;exact⟨fun hx=>by have:=h.old b hx;omega,h1.2,.inr (by omega)⟩
  ·have:=h.out q b h1 h2;exact⟨this.1,Nat.lt_of_lt_of_le this.2.1 size,this.2.2⟩
 ·rw[block b (Nat.lt_of_lt_of_le hb h.size) ?_,h.block b hb hm];rintro⟨id,hs,hl⟩;rcases(h.out id b hs hl).2.2 with h1|h1
  ·exact hm h1
  ·omega
 ·have hpn:=h.pinN id b hp;by_cases hu:st.used id=true
  ·obtain⟨b',hb'⟩:=z8.1 hs;obtain⟨c,hc,_,hL⟩:=shape id hu _ hb';rw[hL.1];exact h.pin id b hp (by rw[hc];rfl)
  ·have:=fr id hs (by simpa using hu);omega
theorem v7.next{C:Ctx}{st:St}{L:Nat→Loc}{a:Act}{w:World}(h:v7 C st L a w){st':St}{L':Nat→Loc}{a':Act}{w':World}(hnn:st'.n=st.n)(hn:a'.tmps.size=st'.n)(hd:a'.defers=[])(os:w'.os=w.os)(tape:w'.tape=w.tape)(output:w'.output=w.output)(size:w.heap.size≤w'.heap.size)(block:∀b,b<w.heap.size→¬(∃id,(st.mem id).isSome=true∧(L id).has b)→w'.heap[b]? =w.heap[b]?)(used:∀id,st.used id=true→st'.used id=true)(shape:∀id,st.used id=true→∀b',st'.mem id=some b'→∃b,st.mem id=some b∧b.alike b'∧L' id=L id)(fresh:∀id,(st'.mem id).isSome=true→st.used id=false→∀b,(L' id).has b→(w.heap.size≤b∧b<w'.heap.size)∨∃i,(st.mem i).isSome=true∧(L i).has b∧st'.mem i=none)(fr:∀id,(st'.mem id).isSome=true→st.used id=false→id<st.n∨1000≤id)(apart:∀i j b,(st'.mem i).isSome=true→(st'.mem j).isSome=true→st.used i=false→st.used j=false→(L' i).has b→(L' j).has b→i=j)(mem:∀id b',st'.mem id=some b'→st'.used id=true∧((st.mem id=some b'∧L' id=L id∧∀b,(L id).has b→w'.heap[b]? =w.heap[b]?)∨X8 st' L' w' (Mut C st' L') id b'))(env:∀t,(st'.env t=st.env t∧a'.tmps.getD t undef=a.tmps.getD t undef)∨RepA st' L' w' (Mut C st' L') (st'.env t) (a'.tmps.getD t undef)):v7 C st' L' a' w':=by
 refine h.next0 hnn hn hd os tape output size block used (fun id hu b' hb'=>?_) (fun id b hs hl=>?_) (fun i j b hi hj hli hlj=>?_) fr mem env
 ·obtain⟨b,h1,h2,h3⟩:=shape id hu b' hb';exact⟨b,h1,h2,Loc.like.of h3⟩
 ·by_cases hu:st.used id=true
  ·obtain⟨blk',hb'⟩:=z8.1 hs;obtain⟨blk,hbk,_,hL⟩:=shape id hu _ hb';exact .inr ⟨id,by rw[hbk];rfl,by rw[←hL];exact hl⟩
  ·rcases fresh id hs (by simpa using hu) b hl with h1|⟨i,h1,h2,_⟩
   ·exact .inl h1
   ·exact .inr ⟨i,h1,h2⟩
 ·by_cases hui:st.used i=true
  ·obtain⟨bi,hbi⟩:=z8.1 hi;obtain⟨ci,hci,_,hLi⟩:=shape i hui _ hbi;have hi':(st.mem i).isSome=true:=(by rw[hci];rfl);rw[hLi]at hli;have hlt:=(h.out i b hi' hli).2.1;by_cases huj:st.used j=true
   ·obtain⟨bj,hbj⟩:=z8.1 hj;obtain⟨cj,hcj,_,hLj⟩:=shape j huj _ hbj;rw[hLj]at hlj;exact h.inj i j b hi' (by rw[hcj];rfl) hli hlj
   ·rcases fresh j hj (by simpa using huj) b hlj with h1|⟨q,h1,h2,h3⟩
    ·omega
    ·have:=h.inj i q b hi' h1 hli h2;subst this;rw[h3]at hi;cases hi
  ·by_cases huj:st.used j=true
   ·obtain⟨bj,hbj⟩:=z8.1 hj;obtain⟨cj,hcj,_,hLj⟩:=shape j huj _ hbj;have hj':(st.mem j).isSome=true:=(by rw[hcj];rfl);rw[hLj]at hlj;have hlt:=(h.out j b hj' hlj).2.1;rcases fresh i hi (by simpa using hui) b hli with h1|⟨q,h1,h2,h3⟩
    ·omega
    ·have:=h.inj j q b hj' h1 hlj h2;subst this;rw[h3]at hj;cases hj
   ·exact apart i j b hi hj (by simpa using hui) (by simpa using huj) hli hlj
end
section
open Go.RowKit
structure TI where
 size:Nat
 bytes:Nat
 agg:Bool
 zero:List Value
 elem:Option TypeId
 int:Option IntKind
 fs:List (Nat × Nat × Bool)
def Ih:Option TypeDesc→Bool
 |some (.struct _)|some (.array _ _)=>true
 |_=>false
def fieldsOf(P:Program)(d:TypeDesc):Option (List (Nat × Nat × Bool)):=
 match d with
 |.struct fields=>fields.toList.mapM fun f=>match P.info? f.type,P.underlying f.type with|some i,some d=>some (f.offset,i.size,Ih (some d))|_,_=>none
 |_=>some []
def p8(P:Program)(t:TypeId):Option TI:=
 match P.info? t,P.underlying t with
 |some i,some d=>
  match i.zero,fieldsOf P d with
  |some z,some fs=>
   if z.cells.toList.all (·.oneCell')&&z.cells.size==i.size then
    some {size:=i.size,bytes:=i.bytes,agg:=Ih (some d),zero:=z.cells.toList,elem:=match d with|.slice e=>some e|_=>none,int:=match d with|.int k=>some k|_=>none,fs:=fs}
   else none
  |_,_=>none
 |_,_=>none
inductive Kd where
 |str|bool|ptr|slice|int|strct|other
def Kw:TypeDesc→Kd
 |.string=>.str|.bool=>.bool|.pointer _=>.ptr|.slice _=>.slice|.int _=>.int|.struct _=>.strct|_=>.other
def G3(P:Program)(t:TypeId):Kd:=match P.underlying t with|some d=>Kw d|none=>.other
def Tx(v:Value):A:=if v.oneCell' then .v v else .dead
def St.ev(st:St):Operand→A
 |.tmp t=>st.env t
 |.const v=>Tx v
 |.global g=>.v (.pointer (some ⟨g,0,none⟩))
 |.func f=>.v (.func (.func f) #[] #[])
def St.put(st:St)(d:Option Nat)(a:A):St:=match d with|some d=>{st with env:=upd st.env d a}|none=>st
def St.new(st:St)(id:Nat)(b:Blk):St:={st with mem:=upd st.mem id (some b),used:=upd st.used id true}
def St.setm(st:St)(id:Nat)(b:Blk):St:={st with mem:=upd st.mem id (some b)}
def St.del(st:St)(id:Nat):St:={st with mem:=upd st.mem id none}
def Jx(t:Bool)(a b:A):A:=match t with|true=>a|false=>b
def cellsOf:A→Option (List A)
 |.agg cs=>some cs
 |.tup _|.dead=>none
 |a=>some [a]
def O7(cells:List A)(off size:Nat)(agg:Bool):Option A:=
 if agg then(if off+size≤cells.length then some (.agg ((cells.drop off).take size))else none)else cells[off]?
def K5(st:St)(a:A)(ti:TI):Option A:=
 match a with
 |.ptr id off=>match st.mem id with|some (.box _ cells)=>O7 cells off ti.size ti.agg|_=>none
 |.rptr id i j=>match st.mem id with|some (.row _ _ xs)=>(xs[i]?).bind fun el=>O7 ((el.drop j).map .t) 0 ti.size ti.agg|_=>none
 |.fel el=>O7 (el.map .t) 0 ti.size ti.agg
 |.t (.fp el)=>O7 (el.map .t) 0 ti.size ti.agg
 |_=>none
def P2(st:St):A→Option (Nat × List (List T))
 |.t (.sl k xs)=>some (k,xs)
 |.t (.v (.slice none 0 0))=>some (0,[])
 |.ref id=>match st.mem id with|some (.row _ k xs)=>some (k,xs)|_=>none
 |_=>none
def De(fs:List (Nat × Nat × Bool))(cells:List A):List (Nat × A)→Option (List A)
 | []=>some cells
 |(i,a)::rest=>
  match fs[i]?,cellsOf a with
  |some (off,size,_),some cs=>if cs.length=size∧off+size≤cells.length then De fs (cells.take off++cs++cells.drop (off+size)) rest else none
  |_,_=>none
def Dc:Sem Value→Option Value
 |.pure v=>some v
 |_=>none
def jO(P:Program)(op:BinOp)(ty:TypeId):Value→Value→Option Value
 |.int k a,.int k' b=>Dc (binOp op ty (.int k a) (.int k' b))
 |.string a,.string b=>Dc (Op.stringOp op a b)
 |.bool a,.bool b=>
  match G3 P ty with
  |.bool=>match op with|.eql=>some (.bool (a==b))|.neq=>some (.bool (!(a==b)))|_=>none
  |_=>none
 |_,_=>none
def P0(st:St):A→Bool
 |.ptr id _=>match st.mem id with|some (.box _ _)=>true|_=>false
 |.fel _=>true
 |.t (.fp _)=>true
 |.rptr id i j=>match st.mem id with|some (.row _ _ xs)=>decide (i<xs.length)|_=>false
 |.ob id=>match st.mem id with|some (.obj (.any _))=>true|_=>false
 |_=>false
def WT(P:Program)(op:BinOp)(ty:TypeId):Option Value:=
 match G3 P ty with
 |.ptr=>(match op with|.eql=>some (.bool false)|.neq=>some (.bool true)|_=>none)
 |_=>none
def zO(P:Program)(isp:Bool)(op:BinOp)(ty:TypeId)(x y:A):Option Value:=
 match y with
 |.t (.v (.pointer none))=>(match x with
  |.t (.v (.pointer none))=>(match G3 P ty with|.ptr=>(match op with|.eql=>some (.bool true)|.neq=>some (.bool false)|_=>none)|_=>none)
  |_=>if isp then WT P op ty else none)
 |.t (.v y)=>(match x with|.t (.v x)=>jO P op ty x y|_=>none)
 |_=>none
def Ah(P:Program)(st:St)(op:BinOp)(ty:TypeId)(x y:A):Option Value:=zO P (P0 st x) op ty x y
def unF(op:UnOp)(x:Value):Option Value:=Dc (Op.unary op x)
def Mk(P:Program)(src dst:TypeId):A→Option A
 |.t (.v (.int k n))=>((p8 P dst).bind (·.int)).map fun k'=>.v (.int k' (k'.wrap n))
 |.t (.v (.string s))=>match G3 P dst with|.str=>some (.v (.string s))|_=>none
 |_=>none
def Jq(ti:TI)(a:A)(f:Nat):Option A:=
 match ti.fs[f]?,a with
 |some (off,size,agg),.agg cs=>O7 cs off size agg
 |_,_=>none
def Ir(ti:TI)(a:A)(f:Nat):Option A:=
 match ti.fs[f]? with
 |some (off,size,_)=>
  if size=0 then none else
  match a with
  |.ptr id o=>some (.ptr id (o+off))
  |.fel el=>some (.fel (el.drop off))
  |.t (.fp el)=>some (.t (.fp (el.drop off)))
  |.rptr id i j=>some (.rptr id i (j+off))
  |_=>none
 |none=>none
def Ck(P:Program)(st:St)(ty:TypeId)(a:A):Option Value:=
 match G3 P ty,a with
 |.str,.t (.v (.string s))=>some (.int .i64 s.size)
 |.slice,a=>(P2 st a).map fun p=>.int .i64 p.2.length
 |_,_=>none
def oQ:A→Option T
 |.t x=>some x
 |_=>none
def L0:List A→Option (List T)
 | []=>some []
 |a::l=>match oQ a,L0 l with|some x,some l=>some (x::l)|_,_=>none
def Au(size:Nat):Nat→List (Nat × A)→Option (List (List T))
 |_,[]=>some []
 |i,(j,a)::rest=>
  if j=i then match cellsOf a with
   |some cs=>match L0 cs with
    |some l=>if l.length=size then match Au size (i+1) rest with|some r=>some (l::r)|none=>none else none
    |none=>none
   |none=>none
  else none
def F3(st:St):A→A
 |.ref id=>match st.mem id with|some (.row _ k xs)=>.t (.sl k xs)|_=>.ref id
 |a=>a
def u0(st:St):A→A
 |.agg cs=>.agg (cs.map (F3 st))
 |a=>F3 st a
def Dt(st:St):A→Option T
 |.t x=>some x
 |.ref id=>match st.mem id with|some (.row _ k xs)=>some (.sl k xs)|_=>none
 |.ob _=>some .any
 |_=>none
def Z9(st:St):List A→Option (List T)
 | []=>some []
 |a::l=>match Dt st a,Z9 st l with|some x,some l=>some (x::l)|_,_=>none
def X2(st:St):A→A
 |.ptr id off=>match st.mem id with|some (.box _ cs)=>(match Z9 st (cs.drop off)with|some ts=>.t (.fp ts)|none=>.ptr id off)|_=>.ptr id off
 |a=>F3 st a
def P6(st:St):A→A
 |.agg cs=>.agg (cs.map (X2 st))
 |a=>X2 st a
def X9:A→Bool
 |.t _=>true
 |_=>false
def C4:A→Bool
 |.agg cs=>cs.all X9
 |a=>X9 a
def aD:A→Bool
 |.tup cs=>cs.all C4
 |a=>C4 a
def sF:A→Bool
 |.t (.v _)=>true
 |_=>false
def oL:A→Bool
 |.agg cs=>cs.all sF
 |a=>sF a
def N5:A→Bool
 |.tup cs=>cs.all oL
 |a=>oL a
def Hg:A→List Nat
 |.ref id=>[id]
 |_=>[]
def D1:A→List Nat
 |.agg cs=>cs.flatMap Hg
 |a=>Hg a
def sub1(id:Nat)(x:T):A→A
 |.ref i=>if i=id then(match x with|.sl _ _=>.t x|_=>.ref i)else .ref i
 |.ptr i o=>if i=id then(match x with|.fp cells=>.t (.fp (cells.drop o))|_=>.ptr i o)else .ptr i o
 |a=>a
def sub2(id:Nat)(x:T):A→A
 |.agg cs=>.agg (cs.map (sub1 id x))
 |a=>sub1 id x a
def sub3(id:Nat)(x:T):A→A
 |.tup cs=>.tup (cs.map (sub2 id x))
 |a=>sub2 id x a
def Blk.sub(id:Nat)(x:T):Blk→Blk
 |.box ty cells=>.box ty (cells.map (sub1 id x))
 |b=>b
def St.sub(st:St)(id:Nat)(x:T):St:={st with env:=fun t=>sub3 id x (st.env t),mem:=fun i=>if i=id then none else(st.mem i).map (Blk.sub id x)}
def St.frz(st:St)(id:Nat):St:=
 match st.mem id with
 |some (.row _ k xs)=>st.sub id (.sl k xs)
 |some (.box _ cs)=>(match L0 cs with|some ts=>st.sub id (.fp ts)|none=>st)
 |_=>st
def St.frzs(st:St):List Nat→St
 | []=>st
 |id::l=>(st.frz id).frzs l
def D4(w:World)(M:Nat→Prop)(a:A)(v:Value):Prop:=RepA ⟨0,fun _=>.dead,fun _=>none,fun _=>false⟩ (fun _=>nol) w M a v
def Dr(P:Program)(f:FuncId):Bool:=
 match P.funcs[f]? with
 |some fn=>fn.body.isSome&& !(fn.name== "runtime.NumGoroutine")
 |none=>false
def FnP(P:Program)(f:FuncId)(args:List A)(r:A):Prop:=
 Dr P f=true∧∀(w:World) (X:Nat→Prop) (vals:Array Value),(∀b,X b→b<w.heap.size)→vals.size=args.length→(∀i (hi:i<args.length),D4 w X (args[i]) (vals.getD i undef))→
  Calls P f vals w fun e w'=>∃v,e=.returned v∧Below w.heap.size w w'∧D4 w' X r v
def FnC(P:Program)(x:T)(args:List A)(r:A):Prop:=
 (∃f caps,x=.clo f caps∧FnP P f (args++caps.map fun c=>.t (.fp c)) r)∨∃f,x=.v (.func (.func f) #[] #[])∧FnP P f args r
end
section
open Go.RowKit
variable{C:Ctx}{st st':St}{L L':Nat→Loc}{a:Act}{w:World}
theorem a6G(st:St)(L:Nat→Loc):∀id,st.used id=true→∀b',st.mem id=some b'→∃b,st.mem id=some b∧b.alike b'∧L id=L id:=fun id _ b' h=>⟨b',h,b'.alike_refl,rfl⟩
theorem Xl(st:St)(L:Nat→Loc):∀id,st.used id=true→∀b',st.mem id=some b'→∃b,st.mem id=some b∧b.alike b'∧(L id).like (L id):=fun id _ b' h=>⟨b',h,b'.alike_refl,Loc.like_refl _⟩
theorem RepA.same{w:World}{M:Nat→Prop}{x:A}{v:Value}(h:RepA st L w M x v)(hm:st'.mem=st.mem)(hu:st'.used=st.used):RepA st' L w M x v:=
 h.ext (Ext.refl M w) (fun _ _ h=>h) (fun id h=>by rw[hu];exact h) (fun id _ b' h=>⟨b',by rw[←hm];exact h,b'.alike_refl,Loc.like_refl _⟩)
theorem B4(h:v7 C st L a w)(x:Operand):RepA st L w (Mut C st L) (st.ev x) (a.eval x):=by
 cases x with
 |tmp t=>exact h.env t
 |const v=>
  show RepA st L w _ (Tx v) v;unfold Tx;split
  ·exact .t _ _ (.v v (by assumption))
  ·exact .dead v
 |global g=>exact .t _ _ (.v _ rfl)
 |func f=>exact .t _ _ (.v _ rfl)
theorem a0C(a:Act)(d t:Nat)(v:Value)(hd:d<a.tmps.size):(a.put (some d) v).tmps.getD t undef=if t=d then v else a.tmps.getD t undef:=by
 simp only[Act.put,Array.getD_eq_getD_getElem?,Array.getElem?_setIfInBounds];by_cases h:t=d
 ·subst h;simp[hd]
 ·rw[if_neg (fun e=>h e.symm),if_neg h]
theorem a3l(a:Act)(d:Option Nat)(v:Value):(a.put d v).tmps.size=a.tmps.size:=by cases d<;>simp[Act.put]
theorem a1B(a:Act)(d:Option Nat)(v:Value):(a.put d v).defers=a.defers:=by cases d<;>rfl
theorem a6b(st:St)(a:Act)(d:Option Nat)(hd:∀x,d=some x→x<a.tmps.size)(av:A)(v:Value)(t:Nat):((st.put d av).env t=st.env t∧(a.put d v).tmps.getD t undef=a.tmps.getD t undef)∨((st.put d av).env t=av∧(a.put d v).tmps.getD t undef=v):=by
 cases d with
 |none=>exact .inl ⟨rfl,rfl⟩
 |some d=>
  rw[a0C a d t v (hd d rfl)];by_cases h:t=d
  ·right;subst h;simp[St.put,upd]
  ·left;simp[St.put,upd,h]
@[simp] theorem Dj (st:St) (d:Option Nat) (x:A):(st.put d x).mem=st.mem:=by cases d<;>rfl
@[simp] theorem Dp (st:St) (d:Option Nat) (x:A):(st.put d x).used=st.used:=by cases d<;>rfl
@[simp] theorem a0q (st:St) (d:Option Nat) (x:A):(st.put d x).n=st.n:=by cases d<;>rfl
theorem v7.put'(h:v7 C st L a w)(d:Option Nat)(hd:∀x,d=some x→x<st.n){av:A}{v:Value}(hr:RepA st L w (Mut C st L) av v){w':World}(hh:w'.heap=w.heap)(ho:w'.os=w.os)(ht:w'.tape=w.tape)(hu:w'.output=w.output):v7 C (st.put d av) L (a.put d v) w':=by
 have hM:Mut C (st.put d av) L=Mut C st L:=(by unfold Mut;simp);refine h.next (by simp) (by rw[a3l,a0q];exact h.hn) (by rw[a1B];exact h.hd) ho ht hu (by rw[hh];exact i4 _) (fun b _ _=>by rw[hh]) (fun id hi=>by simpa using hi) (fun id hi b' hb=>⟨b',by simpa using hb,b'.alike_refl,rfl⟩)
  (fun id hs hf b hl=>?_) (fun id hs hf=>?_) (fun i j b hi hj hfi hfj=>?_) (fun id b' hb=>⟨by simpa using(h.mem id b' (by simpa using hb)).1,.inl ⟨by simpa using hb,rfl,fun b _=>by rw[hh]⟩⟩) (fun t=>?_)
 ·obtain⟨x,hx⟩:=z8.1 hs;have:=(h.mem id x (by simpa using hx)).1;rw[hf]at this;cases this
 ·obtain⟨x,hx⟩:=z8.1 hs;have:=(h.mem id x (by simpa using hx)).1;rw[hf]at this;cases this
 ·obtain⟨x,hx⟩:=z8.1 hi;have:=(h.mem i x (by simpa using hx)).1;rw[hfi]at this;cases this
 ·rcases a6b st a d (fun x hx=>by rw[h.hn];exact hd x hx) av v t with h1|⟨h1,h2⟩
  ·exact .inl h1
  ·right
   rw[h1,h2,hM];refine hr.ext ⟨by rw[hh];exact i4 _,fun k _ _=>by rw[hh]⟩ (fun _ _ h=>h) (fun id hi=>by simpa using hi) (fun id hi b' hb=>⟨b',by simpa using hb,b'.alike_refl,Loc.like_refl _⟩)
theorem v7.put(h:v7 C st L a w)(d:Option Nat)(hd:∀x,d=some x→x<st.n){av:A}{v:Value}(hr:RepA st L w (Mut C st L) av v):v7 C (st.put d av) L (a.put d v) w:=
 h.put' d hd hr rfl rfl rfl rfl
theorem v7.new(h:v7 C st L a w)(id:Nat)(hid:id<st.n∨1000≤id)(hu:st.used id=false)(blk:Blk)(loc:Loc){w':World}(os:w'.os=w.os)(tape:w'.tape=w.tape)(output:w'.output=w.output)(size:w.heap.size≤w'.heap.size)(block:∀b,b<w.heap.size→w'.heap[b]? =w.heap[b]?)(hl:∀b,loc.has b→w.heap.size≤b∧b<w'.heap.size)(hb:(∀M:Nat→Prop,(∀b,b<w.heap.size→M b→Mut C st L b)→X8 (st.new id blk) (upd L id loc) w' M id blk)):v7 C (st.new id blk) (upd L id loc) a w':=by
 have hne:∀i,st.used i=true→i≠id:=fun i hi e=>by rw[e,hu]at hi;cases hi
 have hmu:∀i b,st.mem i=some b→i≠id:=fun i b hi=>hne i (h.mem i b hi).1;have hM:∀b,b<w.heap.size→Mut C (st.new id blk) (upd L id loc) b→Mut C st L b:=by
  rintro b hb (hx|⟨i,hs,hli⟩)
  ·exact .inl hx
  ·by_cases e:i=id
   ·subst e;rw[J3]at hli;have:=hl b hli;omega
   ·rw[Ig _ _ _ _ e]at hli;refine .inr ⟨i,?_,hli⟩;simpa[St.new,upd,e]using hs
 refine h.next rfl h.hn h.hd os tape output size (fun b hb _=>block b hb) (fun i hi=>by simp[St.new,upd,hi]) (fun i hi b' hb'=>?_) (fun i hs hf b hli=>?_) (fun i hs hf=>?_) (fun i j b hi hj hfi hfj _ _=>?_) (fun i b' hb'=>?_) (fun t=>.inl ⟨rfl,rfl⟩)
 ·have e:=hne i hi;refine⟨b',by simpa[St.new,upd,e]using hb',b'.alike_refl,Ig _ _ _ _ e⟩
 ·by_cases e:i=id
  ·subst e;rw[J3]at hli;exact .inl (hl b hli)
  ·obtain⟨x,hx⟩:=z8.1 hs;have hx':st.mem i=some x:=(by simpa[St.new,upd,e]using hx);have:=(h.mem i x hx').1;rw[hf]at this;cases this
 ·by_cases e:i=id
  ·subst e;exact hid
  ·obtain⟨x,hx⟩:=z8.1 hs;have hx':st.mem i=some x:=(by simpa[St.new,upd,e]using hx);have:=(h.mem i x hx').1;rw[hf]at this;cases this
 ·have key:∀i,((st.new id blk).mem i).isSome=true→st.used i=false→i=id:=fun i hi hf=>by
   by_cases e:i=id
   ·exact e
   ·obtain⟨x,hx⟩:=z8.1 hi;have:=(h.mem i x (by simpa[St.new,upd,e]using hx)).1;rw[hf]at this;cases this
  rw[key i hi hfi,key j hj hfj]
 ·by_cases e:i=id
  ·subst e;have:b'=blk:=(by simpa[St.new,upd]using hb'.symm);subst this;exact⟨by simp[St.new,upd],.inr (hb _ hM)⟩
  ·have hx:st.mem i=some b':=(by simpa[St.new,upd,e]using hb');exact⟨by simp[St.new,upd,(h.mem i b' hx).1],.inl ⟨hx,Ig _ _ _ _ e,fun b hlb=>block b (h.out i b (by rw[hx];rfl) hlb).2.1⟩⟩
theorem v7.later(h:v7 C st L a w){w':World}(os:w'.os=w.os)(tape:w'.tape=w.tape)(output:w'.output=w.output)(size:w.heap.size≤w'.heap.size)(block:∀b,b<w.heap.size→w'.heap[b]? =w.heap[b]?):v7 C st L a w':=by
 refine h.next rfl h.hn h.hd os tape output size (fun b hb _=>block b hb) (fun i hi=>hi) (a6G st L) (fun i hs hf b hl=>?_) (fun i hs hf=>?_) (fun i j b hi hj hfi hfj _ _=>?_) (fun i b' hb'=>⟨(h.mem i b' hb').1,.inl ⟨hb',rfl,fun b hl=>block b (h.out i b (by rw[hb'];rfl) hl).2.1⟩⟩) (fun t=>.inl ⟨rfl,rfl⟩)
 ·obtain⟨x,hx⟩:=z8.1 hs;have:=(h.mem i x hx).1;rw[hf]at this;cases this
 ·obtain⟨x,hx⟩:=z8.1 hs;have:=(h.mem i x hx).1;rw[hf]at this;cases this
 ·obtain⟨x,hx⟩:=z8.1 hi;have:=(h.mem i x hx).1;rw[hfi]at this;cases this
theorem v7.setm(h:v7 C st L a w)(id:Nat)(old blk:Blk)(ho:st.mem id=some old)(hal:old.alike blk)(g:Nat)(hg:(L id).blk=some g){cs:Array Value}(hb:X8 (st.setm id blk) L (w.setRow g cs) (Mut C st L) id blk):v7 C (st.setm id blk) L a (w.setRow g cs):=by
 have hM:∀b,Mut C (st.setm id blk) L b→Mut C st L b:=by
  rintro b (hx|⟨i,hs,hli⟩)
  ·exact .inl hx
  ·refine .inr ⟨i,?_,hli⟩;by_cases e:i=id
   ·subst e;rw[ho];rfl
   ·simpa[St.setm,upd,e]using hs
 have hM':∀b,Mut C st L b→Mut C (st.setm id blk) L b:=by
  rintro b (hx|⟨i,hs,hli⟩)
  ·exact .inl hx
  ·refine .inr ⟨i,?_,hli⟩;by_cases e:i=id
   ·subst e;simp[St.setm,upd]
   ·simpa[St.setm,upd,e]using hs
 refine h.next rfl h.hn h.hd rfl rfl rfl (by simp) (fun b hb hm=>setRow_other w g b cs fun e=>hm ⟨id,by rw[ho];rfl,by rw[e];exact .inl hg⟩) (fun i hi=>hi) (fun i hi b' hb'=>?_) (fun i hs hf b hl=>?_) (fun i hs hf=>?_) (fun i j b hi hj hfi hfj _ _=>?_) (fun i b' hb'=>?_) (fun t=>.inl ⟨rfl,rfl⟩)
 ·by_cases e:i=id
  ·subst e;have:b'=blk:=(by simpa[St.setm,upd]using hb'.symm);subst this;exact⟨old,ho,hal,rfl⟩
  ·exact⟨b',by simpa[St.setm,upd,e]using hb',b'.alike_refl,rfl⟩
 ·have hx:∃x,st.mem i=some x:=by
   by_cases e:i=id
   ·exact⟨old,by rw[e];exact ho⟩
   ·exact z8.1 (by simpa[St.setm,upd,e]using hs)
  obtain⟨x,hx⟩:=hx;have:=(h.mem i x hx).1;rw[hf]at this;cases this
 ·have hx:∃x,st.mem i=some x:=by
   by_cases e:i=id
   ·exact⟨old,by rw[e];exact ho⟩
   ·exact z8.1 (by simpa[St.setm,upd,e]using hs)
  obtain⟨x,hx⟩:=hx;have:=(h.mem i x hx).1;rw[hf]at this;cases this
 ·have hx:∃x,st.mem i=some x:=by
   by_cases e:i=id
   ·exact⟨old,by rw[e];exact ho⟩
   ·exact z8.1 (by simpa[St.setm,upd,e]using hi)
  obtain⟨x,hx⟩:=hx;have:=(h.mem i x hx).1;rw[hfi]at this;cases this
 ·by_cases e:i=id
  ·subst e;have:b'=blk:=(by simpa[St.setm,upd]using hb'.symm);subst this;refine⟨(h.mem i old ho).1,.inr ?_⟩;exact hb.ext (Ext.refl _ _) (fun b _ h=>hM b h) (fun i h=>h) (Xl _ L) rfl (fun _ _=>rfl)
  ·have hx:st.mem i=some b':=(by simpa[St.setm,upd,e]using hb');refine⟨(h.mem i b' hx).1,.inl ⟨hx,rfl,fun b hl=>setRow_other w g b cs fun eb=>?_⟩⟩;subst eb;exact e (h.inj i id b (by rw[hx];rfl) (by rw[ho];rfl) hl (.inl hg))
end
section
open Go.RowKit
variable{C:Ctx}{st st':St}{L L':Nat→Loc}{a:Act}{w:World}
theorem dM{M M':Nat→Prop}{id:Nat}{e:TypeId}{k:Nat}{xs:List (List T)}(h:X8 st L w M id (.row e k xs))(hlt:∀b,(L id).blk=some b→b<w.heap.size∧¬M' b)(hM:∀b,b<w.heap.size→M' b→M b):RepT w M' (.sl k xs) ((L id).slice xs.length):=by
 obtain⟨h0,hk,hr⟩:=h;rcases hr with⟨hx,hn⟩|⟨b,cur,hb,hw,hl,hm,hsz,hc⟩
 ·subst hx;rw[hn];exact .nil k none 0 (C9 _)
 ·have e:(L id).slice xs.length=.slice (some ⟨b,0,none⟩) xs.length (L id).cap:=(by simp[Loc.slice,hb]);rw[e];refine .sl k xs b 0 (L id).cap (fun i j=>(cur[i*k+j]?).getD undef) (hlt b hb).1 (hlt b hb).2 hl hm hk (fun i hi j hj=>?_) (fun i hi j hj=>?_)
  ·obtain⟨c,hc1,hc2⟩:=hc i hi j (by rw[hk i hi];exact hj);rw[Nat.zero_add,cell_of_row w b (i*k+j) cur _ _ hw,hc1];rfl
  ·obtain⟨c,hc1,hc2⟩:=hc i hi j hj;show RepT w M' _ ((cur[i*k+j]?).getD undef);rw[hc1];exact hc2.ext (Ext.refl _ _) hM
theorem FO{id:Nat}{e:TypeId}{k:Nat}{xs:List (List T)}(h:st.mem id=some (.row e k xs)):st.frz id=st.sub id (.sl k xs):=by unfold St.frz;rw[h]
theorem KS{id:Nat}{od:Od}(h:st.mem id=some (.obj od)):st.frz id=st:=by unfold St.frz;rw[h]
theorem HQ{id:Nat}{ty:TypeId}{cs:List A}{ts:List T}(h:st.mem id=some (.box ty cs))(hc:L0 cs=some ts):st.frz id=st.sub id (.fp ts):=by unfold St.frz;rw[h];simp only;rw[hc]
@[simp] theorem a8i (st:St) (id:Nat):(st.frz id).n=st.n:=by
 unfold St.frz;split
 ·rfl
 ·split<;>rfl
 ·rfl
@[simp] theorem a1J (st:St) (id:Nat):(st.frz id).used=st.used:=by
 unfold St.frz;split
 ·rfl
 ·split<;>rfl
 ·rfl
@[simp] theorem GB (l:List Nat):∀st:St,(st.frzs l).n=st.n:=by
 induction l with
 |nil=>intro st;rfl
 |cons i l ih=>intro st;rw[St.frzs,ih,a8i]
@[simp] theorem b3P (l:List Nat):∀st:St,(st.frzs l).used=st.used:=by
 induction l with
 |nil=>intro st;rfl
 |cons i l ih=>intro st;rw[St.frzs,ih,a1J]
theorem GH(id:Nat)(x:T)(y:A)(h:y.single=true):(sub1 id x y).single=true:=by
 cases y with
 |ref i=>unfold sub1;dsimp only;split<;>(try split)<;>rfl
 |ptr i o=>unfold sub1;dsimp only;split<;>(try split)<;>rfl
 |_=>exact h
theorem Blk.sub_alike(id:Nat)(x:T)(b:Blk):b.alike (b.sub id x):=by cases b<;>simp[Blk.alike,Blk.sub]
structure Uy(st:St)(L:Nat→Loc)(w:World)(M':Nat→Prop)(id:Nat)(x:T):Prop where
 row:∀k xs,x=.sl k xs→∃e,st.mem id=some (.row e k xs)∧RepT w M' x ((L id).slice xs.length)
 box:∀cells,x=.fp cells→∃ty cs,st.mem id=some (.box ty cs)∧∀o,RepT w M' (.fp (cells.drop o)) ((L id).ptr o)
section frz
variable{M M':Nat→Prop}{id:Nat}{x:T}
theorem RepA.sub1(hx:Uy st L w M' id x)(hM:∀b,b<w.heap.size→M' b→M b)(hu:st'.used=st.used)(hs:∀i b',st'.mem i=some b'→∃b,st.mem i=some b∧b.alike b'){y:A}{v:Value}(h:RepA st L w M y v):RepA st' L w M' (sub1 id x y) v:=by
 have go:RepA st' L w M' y v:=h.ext (Ext.refl _ _) hM (fun i hi=>by rw[hu];exact hi) (fun i _ b' hb=>by obtain⟨b,h1,h2⟩:=hs i b' hb;exact⟨b,h1,h2,Loc.like_refl _⟩);cases y with
 |ref i=>
  unfold Go.Proofs.YtihbbcealnnpiaaGreatDoor.sub1
  dsimp only
  by_cases hi:i=id
  ·subst hi;rw[if_pos rfl];split
   ·rename_i k xs;obtain⟨e,hm,hr⟩:=hx.row k xs rfl;cases h with
    |ref _ _ h1 hus h=>exact .t _ _ (by rw[h e k xs hm];exact hr)
   ·exact go
  ·rw[if_neg hi];exact go
 |ptr i o=>
  unfold Go.Proofs.YtihbbcealnnpiaaGreatDoor.sub1
  dsimp only
  by_cases hi:i=id
  ·subst hi;rw[if_pos rfl];split
   ·rename_i cells;obtain⟨ty,cs,hm,hr⟩:=hx.box cells rfl;cases h with
    |ptr _ _ _ h1 hus h=>exact .t _ _ (by rw[h ty cs hm];exact hr o)
   ·exact go
  ·rw[if_neg hi];exact go
 |_=>exact go
theorem RepA.sub2(hx:Uy st L w M' id x)(hM:∀b,b<w.heap.size→M' b→M b)(hu:st'.used=st.used)(hs:∀i b',st'.mem i=some b'→∃b,st.mem i=some b∧b.alike b'){y:A}{v:Value}(h:RepA st L w M y v):RepA st' L w M' (sub2 id x y) v:=by
 cases y with
 |agg cs=>
  cases h with
  |agg _ vs hsz h1 hr=>
   refine .agg _ vs (by simpa using hsz) (fun i hi=>?_) (fun i hi=>?_)
   ·rw[List.getElem_map];exact GH _ _ _ (h1 i (by simpa using hi))
   ·simp only[List.getElem_map];exact(hr i (by simpa using hi)).sub1 hx hM hu hs
 |_=>exact h.sub1 hx hM hu hs
theorem RepA.sub3(hx:Uy st L w M' id x)(hM:∀b,b<w.heap.size→M' b→M b)(hu:st'.used=st.used)(hs:∀i b',st'.mem i=some b'→∃b,st.mem i=some b∧b.alike b'){y:A}{v:Value}(h:RepA st L w M y v):RepA st' L w M' (sub3 id x y) v:=by
 cases y with
 |tup cs=>
  cases h with
  |tup _ vs hsz hr=>refine .tup _ vs (by simpa using hsz) (fun i hi=>?_);simp only[List.getElem_map];exact(hr i (by simpa using hi)).sub2 hx hM hu hs
 |_=>exact h.sub2 hx hM hu hs
end frz
theorem QS:∀{cs:List A} {ts:List T},L0 cs=some ts→cs.length=ts.length∧∀i (hi:i<cs.length) (hi':i<ts.length),cs[i]=.t ts[i]
 | [],ts,h=>by cases h;exact⟨rfl,fun i hi=>by simp at hi⟩
 |a::l,ts,h=>by
  unfold L0 at h;split at h
  ·rename_i x l' hx hl;cases h;obtain⟨h1,h2⟩:=QS hl;refine⟨by simp[h1],fun i hi hi'=>?_⟩;cases i with
   |zero=>
    unfold oQ at hx;split at hx
    ·cases hx;rfl
    ·cases hx
   |succ i=>exact h2 i (by simpa using hi) (by simpa using hi')
  ·cases h
theorem a9L{M M':Nat→Prop}{id:Nat}{ty:TypeId}{cs:List A}{ts:List T}(h:X8 st L w M id (.box ty cs))(hc:L0 cs=some ts)(hlt:∀b,(L id).blk=some b→b<w.heap.size∧¬M' b)(hM:∀b,b<w.heap.size→M' b→M b)(o:Nat):RepT w M' (.fp (ts.drop o)) ((L id).ptr o):=by
 obtain⟨b,vs,hb,hw,hsz,hr⟩:=h;obtain⟨hl,hg⟩:=QS hc;have e:(L id).ptr o=.pointer (some ⟨b,o,none⟩):=(by simp[Loc.ptr,hb]);rw[e];refine .fp _ b o (fun j=>(vs[o+j]?).getD undef) (hlt b hb).1 (hlt b hb).2 (fun j hj=>?_) (fun j hj=>?_)
 ·have hj':o+j<vs.size:=(by simp at hj;omega);rw[cell_of_row w b (o+j) vs _ _ hw];simp[hj']
 ·have hj':o+j<cs.length:=(by simp at hj;omega);have hj2:o+j<vs.size:=(by omega);have h1:=(hr (o+j) hj').2;rw[hg (o+j) hj' (by omega)]at h1;simp only[List.getElem_drop];rw[Array.getElem?_eq_getElem hj2,Option.getD_some];cases h1 with
  |t _ _ h1=>exact h1.ext (Ext.refl _ _) hM
theorem v7.subst(h:v7 C st L a w)(id:Nat)(x:T)(hsome:(st.mem id).isSome=true)(hok:∀M':Nat→Prop,(∀b,(L id).blk=some b→b<w.heap.size∧¬M' b)→(∀b,b<w.heap.size→M' b→Mut C st L b)→Uy st L w M' id x):v7 C (st.sub id x) L a w:=by
 obtain⟨blk0,hm⟩:=z8.1 hsome;generalize hst:st.sub id x=st';have hu:st'.used=st.used:=(by subst hst;rfl);have hs:∀i b',st'.mem i=some b'→i≠id∧∃b,st.mem i=some b∧b'=b.sub id x:=fun i b' hb=>by
  subst hst;simp only[St.sub]at hb;by_cases e:i=id
  ·rw[if_pos e]at hb;cases hb
  ·rw[if_neg e]at hb;obtain⟨b,h1,h2⟩:=Option.map_eq_some_iff.1 hb;exact⟨e,b,h1,h2.symm⟩
 have hs':∀i b',st'.mem i=some b'→∃b,st.mem i=some b∧b.alike b':=fun i b' hb=>by obtain⟨_,b,h1,rfl⟩:=hs i b' hb;exact⟨b,h1,Blk.sub_alike _ _ _⟩
 have hM:∀b,Mut C st' L b→Mut C st L b:=by
  rintro b (hx|⟨i,hi,hl⟩)
  ·exact .inl hx
  ·obtain⟨b',hb'⟩:=z8.1 hi;obtain⟨_,c,hc,_⟩:=hs i b' hb';exact .inr ⟨i,by rw[hc];rfl,hl⟩
 have hx:Uy st L w (Mut C st' L) id x:=by
  refine hok _ (fun b hb=>?_) (fun b _=>hM b);have ho:=h.out id b (by rw[hm];rfl) (.inl hb);refine⟨ho.2.1,?_⟩;rintro(hx|⟨i,hi,hl⟩)
  ·exact ho.1 hx
  ·obtain⟨b',hb'⟩:=z8.1 hi;obtain⟨hne,c,hc,_⟩:=hs i b' hb';exact hne (h.inj i id b (by rw[hc];rfl) (by rw[hm];rfl) hl (.inl hb))
 refine h.next (by subst hst;rfl) (by subst hst;exact h.hn) h.hd rfl rfl rfl (i4 _) (fun _ _ _=>rfl) (fun i hi=>by rw[hu];exact hi) (fun i _ b' hb=>by obtain⟨b,h1,h2⟩:=hs' i b' hb;exact⟨b,h1,h2,rfl⟩)
  (fun i hi hf b hl=>?_) (fun i hi hf=>?_) (fun i j b hi hj hfi hfj _ _=>?_) (fun i b' hb'=>?_) (fun t=>.inr ?_)
 ·obtain⟨b',hb'⟩:=z8.1 hi;obtain⟨c,hc,_⟩:=hs' i b' hb';have:=(h.mem i c hc).1;rw[hf]at this;cases this
 ·obtain⟨b',hb'⟩:=z8.1 hi;obtain⟨c,hc,_⟩:=hs' i b' hb';have:=(h.mem i c hc).1;rw[hf]at this;cases this
 ·obtain⟨b',hb'⟩:=z8.1 hi;obtain⟨c,hc,_⟩:=hs' i b' hb';have:=(h.mem i c hc).1;rw[hfi]at this;cases this
 ·obtain⟨hne,c,hc,rfl⟩:=hs i b' hb';have hmem:=h.mem i c hc;refine⟨by rw[hu];exact hmem.1,.inr ?_⟩;cases c with
  |obj od=>exact hmem.2.ext (Ext.refl _ _) (fun b _=>hM b) (fun i hi=>by rw[hu];exact hi) (fun i _ b' hb=>by obtain⟨b,h1,h2⟩:=hs' i b' hb;exact⟨b,h1,h2,Loc.like_refl _⟩) rfl (fun _ _=>rfl)
  |row e' k' ys=>exact hmem.2.ext (Ext.refl _ _) (fun b _=>hM b) (fun i hi=>by rw[hu];exact hi) (fun i _ b' hb=>by obtain⟨b,h1,h2⟩:=hs' i b' hb;exact⟨b,h1,h2,Loc.like_refl _⟩) rfl (fun _ _=>rfl)
  |box ty cells=>obtain⟨b,cs,hb,hw,hsz,hr⟩:=hmem.2;refine⟨b,cs,hb,hw,by simpa using hsz,fun j hj=>?_⟩;have hj':j<cells.length:=(by simpa using hj);simp only[List.getElem_map];exact⟨GH _ _ _ (hr j hj').1,(hr j hj').2.sub1 hx (fun b _=>hM b) hu hs'⟩
 ·have:st'.env t=Go.Proofs.YtihbbcealnnpiaaGreatDoor.sub3 id x (st.env t):=(by subst hst;rfl);rw[this];exact(h.env t).sub3 hx (fun b _=>hM b) hu hs'
theorem v7.frz(h:v7 C st L a w)(id:Nat):v7 C (st.frz id) L a w:=by
 cases hm:st.mem id with
 |none=>have:st.frz id=st:=(by unfold St.frz;rw[hm]);rw[this];exact h
 |some blk=>
  cases blk with
  |obj od=>rw[KS hm];exact h
  |box ty cs=>
   cases hc:L0 cs with
   |none=>have:st.frz id=st:=(by unfold St.frz;rw[hm];simp only;rw[hc]);rw[this];exact h
   |some ts=>rw[HQ hm hc];exact h.subst id _ (by rw[hm];rfl) fun M' h1 h2=>⟨fun k xs e=>(by cases e),fun cells e=>by cases e;exact⟨ty,cs,hm,a9L (h.mem id _ hm).2 hc h1 h2⟩⟩
  |row e k xs=>rw[FO hm];exact h.subst id _ (by rw[hm];rfl) fun M' h1 h2=>⟨fun k' xs' e'=>by cases e';exact⟨e,hm,dM (h.mem id _ hm).2 h1 h2⟩,fun cells e=>(by cases e)⟩
theorem v7.frzs(l:List Nat):∀{st:St},v7 C st L a w→v7 C (st.frzs l) L a w:=by
 induction l with
 |nil=>intro st h;exact h
 |cons i l ih=>intro st h;exact ih (h.frz i)
theorem v7.del(h:v7 C st L a w)(id:Nat):v7 C (st.del id) L a w:=by
 have hs:∀i b',(st.del id).mem i=some b'→st.mem i=some b':=fun i b' hb=>by
  by_cases e:i=id
  ·subst e;simp[St.del,upd]at hb
  ·simpa[St.del,upd,e]using hb
 have hM:∀b,Mut C (st.del id) L b→Mut C st L b:=by
  rintro b (hx|⟨i,hi,hl⟩)
  ·exact .inl hx
  ·obtain⟨b',hb'⟩:=z8.1 hi;exact .inr ⟨i,by rw[hs i b' hb'];rfl,hl⟩
 refine h.next rfl h.hn h.hd rfl rfl rfl (i4 _) (fun _ _ _=>rfl) (fun i hi=>hi) (fun i _ b' hb=>⟨b',hs i b' hb,b'.alike_refl,rfl⟩) (fun i hi hf b hl=>?_) (fun i hi hf=>?_) (fun i j b hi hj hfi hfj _ _=>?_) (fun i b' hb'=>⟨(h.mem i b' (hs i b' hb')).1,.inl ⟨hs i b' hb',rfl,fun _ _=>rfl⟩⟩) (fun t=>.inl ⟨rfl,rfl⟩)
 ·obtain⟨b',hb'⟩:=z8.1 hi;have:=(h.mem i b' (hs i b' hb')).1;rw[hf]at this;cases this
 ·obtain⟨b',hb'⟩:=z8.1 hi;have:=(h.mem i b' (hs i b' hb')).1;rw[hf]at this;cases this
 ·obtain⟨b',hb'⟩:=z8.1 hi;have:=(h.mem i b' (hs i b' hb')).1;rw[hfi]at this;cases this
end
section
open Go.RowKit
variable{C:Ctx}{st st':St}{L L':Nat→Loc}{a:Act}{w:World}{P:Program}
structure ZW(P:Program)(t:TypeId)(ti:TI):Prop where
 ex:∃i d z,P.info? t=some i∧P.underlying t=some d∧i.zero=some z∧ti.size=i.size∧ti.bytes=i.bytes∧ti.agg=Ih (some d)∧ti.zero=z.cells.toList∧
  (∀v∈z.cells.toList,v.oneCell'=true)∧(∀e,ti.elem=some e→d=.slice e)∧(∀k,ti.int=some k→d=.int k)∧fieldsOf P d=some ti.fs∧z.cells.size=i.size
theorem L9{t:TypeId}{ti:TI}(h:p8 P t=some ti):ZW P t ti:=by
 unfold p8 at h;split at h
 ·rename_i i d hi hd;split at h
  ·rename_i z fs hz hfs;split at h
   ·rename_i hall;cases h;simp only[w8,beq_iff_eq]at hall;refine⟨i,d,z,hi,hd,hz,rfl,rfl,rfl,rfl,fun v hv=>List.all_eq_true.1 hall.1 v hv,fun e he=>?_,fun k hk=>?_,hfs,hall.2⟩
    ·dsimp only at he;split at he<;>simp_all
    ·dsimp only at hk;split at hk<;>simp_all
   ·cases h
  ·cases h
 ·cases h
theorem Rn{t:TypeId}{k:Kd}(h:G3 P t=k)(hk:k≠ .other):∃d,P.underlying t=some d∧Kw d=k:=by
 unfold G3 at h;split at h
 ·exact⟨_,by assumption,h⟩
 ·exact absurd h.symm hk
theorem zF{t:TypeId}(h:G3 P t=.str):P.underlying t=some .string:=by obtain⟨d,hd,hk⟩:=Rn h (by simp);cases d<;>simp_all [Kw]
theorem a9o{t:TypeId}(h:G3 P t=.bool):P.underlying t=some .bool:=by obtain⟨d,hd,hk⟩:=Rn h (by simp);cases d<;>simp_all [Kw]
theorem a8q{t:TypeId}(h:G3 P t=.slice):∃e,P.underlying t=some (.slice e):=by obtain⟨d,hd,hk⟩:=Rn h (by simp);cases d<;>simp_all [Kw]
theorem b0e{t:TypeId}(h:G3 P t=.strct):∃fs,P.underlying t=some (.struct fs):=by obtain⟨d,hd,hk⟩:=Rn h (by simp);cases d<;>simp_all [Kw]
theorem B7{M:Nat→Prop}{x v:Value}(h:RepA st L w M (.v x) v):v=x:=by cases h with|t _ _ h=>cases h with|v=>rfl
theorem lR{v:Value}(h:v.oneCell'=true):v.cells= #[v]:=by cases v<;>first|rfl|(simp[Value.oneCell']at h)
theorem xS{M:Nat→Prop}{x:A}{cs:List A}{v:Value}(hc:cellsOf x=some cs)(h:RepA st L w M x v):∃hs:v.cells.size=cs.length,∀i (hi:i<cs.length),(cs[i]).single=true∧RepA st L w M (cs[i]) (v.cells[i]'(by omega)):=by
 have one:x.single=true→cs=[x]→∃hs:v.cells.size=cs.length,∀i (hi:i<cs.length),(cs[i]).single=true∧RepA st L w M (cs[i]) (v.cells[i]'(by omega)):=by intro hs hcs;subst hcs;have h1:=lR (h.one hs);refine⟨by rw[h1];rfl,fun i hi=>?_⟩;have hi0:i=0:=(by simp at hi;omega);subst hi0;simp only[h1];exact⟨hs,h⟩
 cases x with
 |agg l=>
  cases hc;cases h with
  |agg _ vs hsz h1 hr=>exact⟨hsz,fun i hi=>⟨h1 i hi,hr i hi⟩⟩
 |tup=>cases hc
 |dead=>cases hc
 |t y=>cases hc;exact one rfl rfl
 |ref id=>cases hc;exact one rfl rfl
 |ptr id off=>cases hc;exact one rfl rfl
 |ifc id i j=>cases hc;exact one rfl rfl
 |rptr id i j=>cases hc;exact one rfl rfl
 |ob id=>cases hc;exact one rfl rfl
 |fel el=>cases hc;exact one rfl rfl
theorem H1{o:Oper}{next:Act→World→Prop}{Q:Exit→Act→World→Prop}{v:Value}{w':World}(h:(execOp a.eval o).run P w=.ok (.value v) w')(hn:next (a.put o.dst v) w'):o.wp P a w next Q:=by unfold Oper.wp;rw[h];exact hn
theorem xP{o:Oper}{next:Act→World→Prop}{Q:Exit→Act→World→Prop}{w':World}(h:(execOp a.eval o).run P w=.ok .skip w')(hn:next (a.put o.dst undef) w'):o.wp P a w next Q:=by unfold Oper.wp;rw[h];exact hn
def Opk(P:Program)(o:Oper)(st:St)(K:St→Prop):Prop:=
 ∀(C:Ctx) (a:Act) (w:World),C.P=P→Sim C st a w→(∀d,o.dst=some d→d<st.n)→∀(next:Act→World→Prop) (Q:Exit→Act→World→Prop),
  (∀st' a' w',st'.n=st.n→K st'→Sim C st' a' w'→next a' w')→o.wp P a w next Q
theorem OA{o:Oper}{K:St→Prop}(x:Operand)(ho:o.op=.move x∨o.op=.assign x)(h:K (st.put o.dst (st.ev x))):Opk P o st K:=by
 intro C a w hP ⟨L,hs⟩ hd next Q hn
 refine H1 (v:=a.eval x) (w':=w) (by rcases ho with ho|ho<;>(unfold execOp;simp only[ho];rfl)) (hn _ _ _ (by simp) h ⟨L,hs.put _ hd (B4 hs x)⟩)
theorem a1i{o:Oper}{K:St→Prop}(c x y:Operand)(ho:o.op=.pick c x y)(t:Bool)(hc:st.ev c=.v (.bool t))(h:K (st.put o.dst (Jx t (st.ev x) (st.ev y)))):Opk P o st K:=by
 intro C a w hP ⟨L,hs⟩ hd next Q hn
 have e:=B7 (hc▸B4 hs c);refine H1 (v:=if t then a.eval x else a.eval y) (w':=w) (by unfold execOp;simp only[ho,e];cases t<;>rfl) (hn _ _ _ (by simp) h ⟨L,hs.put _ hd ?_⟩);cases t
 ·exact B4 hs y
 ·exact B4 hs x
theorem RV(hs:v7 C st L a w)(d:Nat)(hu:st.used d=false)(ty:TypeId)(cs:List A)(vs:Array Value)(hsz:vs.size=cs.length)(hr:∀i (hi:i<cs.length),(cs[i]).single=true∧RepA st L w (Mut C st L) (cs[i]) (vs[i]'(by omega)))(dst:Option Nat)(hdst:dst=some d)(hlt:d<st.n):Sim C ((st.new d (.box ty cs)).put dst (.ptr d 0)) (a.put dst (.pointer (some ⟨w.heap.size,0,none⟩))) (w.alloc (.cells vs ty)):=by
 have h1:v7 C (st.new d (.box ty cs)) (upd L d (Loc.at_ w.heap.size 0)) a (w.alloc (.cells vs ty)):=by
  refine hs.new d (.inl hlt) hu _ _ rfl rfl rfl (by simp) (fun b hb=>Below.heap_alloc w _ _ hb) (fun b hb=>by cases AC hb;simp) (fun M hM=>⟨w.heap.size,vs,by rw[J3],heap_alloc_new w _,hsz,fun i hi=>⟨(hr i hi).1,?_⟩⟩);refine(hr i hi).2.ext ⟨by simp,fun k hk _=>Below.heap_alloc w _ _ hk⟩ hM (fun i hi=>by simp[St.new,upd,hi]) (fun i hi b' hb'=>?_);have e:i≠d:=fun e=>by rw[e,hu]at hi;cases hi
  exact⟨b',by simpa[St.new,upd,e]using hb',b'.alike_refl,Loc.like.of (Ig _ _ _ _ e)⟩
 refine⟨_,h1.put dst (fun x hx=>by rw[hdst]at hx;cases hx;exact hlt) (.ptr d 0 _ rfl (by simp[St.new,upd]) fun ty' cs' hm=>by rw[J3];rfl)⟩
theorem a1h{o:Oper}{K:St→Prop}(ty:TypeId)(ho:o.op=.alloc ty)(d:Nat)(ti:TI)(hdst:o.dst=some d)(ht:p8 P ty=some ti)(hu:st.used d=false)(h:K ((st.new d (.box ty (ti.zero.map .v))).put o.dst (.ptr d 0))):Opk P o st K:=by
 intro C a w hP ⟨L,hs⟩ hd next Q hn
 obtain⟨i,td,z,hi,hud,hz,h1,h2,h3,h4,h5,h6,h7,h8,h9⟩:=(L9 ht).ex;refine H1 (v:=.pointer (some ⟨w.heap.size,0,none⟩)) (w':=w.alloc (.cells z.cells ty)) ?_ (hn _ _ _ (by simp;rfl) h ?_)
 ·unfold execOp;simp[ho,Instr.alloc,zeroValue,typeInfo,hi,hz,newVar,newRow]
 ·refine RV hs d hu ty _ z.cells (by rw[h4];simp) (fun j hj=>?_) _ hdst (hd d hdst);simp only[h4,List.getElem_map,Array.getElem_toList];exact⟨rfl,.t _ _ (.v _ (h5 _ (by simp)))⟩
theorem a7I{o:Oper}{K:St→Prop}(ty:TypeId)(x:Operand)(ho:o.op=.box ty x)(d:Nat)(cs:List A)(hdst:o.dst=some d)(hc:cellsOf (st.ev x)=some cs)(hu:st.used d=false)(h:K ((st.new d (.box ty cs)).put o.dst (.ptr d 0))):Opk P o st K:=by
 intro C a w hP ⟨L,hs⟩ hd next Q hn
 obtain⟨hsz,hr⟩:=xS hc (B4 hs x);refine H1 (v:=.pointer (some ⟨w.heap.size,0,none⟩)) (w':=w.alloc (.cells (a.eval x).cells ty)) ?_ (hn _ _ _ (by simp;rfl) h ?_)
 ·unfold execOp;simp[ho,Instr.box,newVar,newRow]
 ·exact RV hs d hu ty _ _ hsz hr _ hdst (hd d hdst)
theorem a2t{o:Oper}{K:St→Prop}(x:Operand)(i:Nat)(ho:o.op=.extract x i)(cs:List A)(y:A)(hx:st.ev x=.tup cs)(hy:cs[i]? =some y)(h:K (st.put o.dst y)):Opk P o st K:=by
 intro C a w hP ⟨L,hs⟩ hd next Q hn
 have hr:=B4 hs x;rw[hx]at hr;generalize hv:a.eval x=v at hr;cases hr with
 |tup _ vs hsz hr=>obtain⟨hi,rfl⟩:=l3.1 hy;refine H1 (v:=vs[i]'(by omega)) (w':=w) ?_ (hn _ _ _ (by simp) h ⟨L,hs.put _ hd (hr i hi)⟩);unfold execOp;simp only[ho,hv,Instr.extract,Array.getElem?_eq_getElem (show i<vs.size by omega)];rfl
theorem vA(hs:v7 C st L a w){y:A}{v:Value}(hr:RepA st L w (Mut C st L) y v)(hx:P0 st y=true):∃ad,v=.pointer (some ad):=by
 cases hr with
 |ptr id off _ h1 hus hp=>
  unfold P0 at hx
  dsimp only at hx
  split at hx
  ·rename_i ty cs hm;obtain⟨b,_,hb,_⟩:=(hs.mem _ _ hm).2;exact⟨⟨b,off,none⟩,by rw[hp _ _ hm];simp[Loc.ptr,hb]⟩
  ·cases hx
 |rptr id i j _ h1 hus hp=>
  unfold P0 at hx
  dsimp only at hx
  split at hx
  ·rename_i e k xs hm;have hlt:i<xs.length:=D3 hx;obtain⟨_,_,hq⟩:=(hs.mem _ _ hm).2;rcases hq with⟨hxs,_⟩|⟨b,_,hb,_⟩
   ·subst hxs;simp at hlt
   ·exact⟨⟨b,i*k+j,none⟩,by rw[hp _ _ _ hm];simp[Loc.ptr,hb]⟩
  ·cases hx
 |ob id _ h1 hus hp=>
  unfold P0 at hx
  dsimp only at hx
  split at hx
  ·rename_i R hm;obtain⟨b,_,hb,_⟩:=(hs.mem _ _ hm).2;exact⟨⟨b,0,none⟩,by rw[hp _ hm];simp[Loc.ob,Od.isMap,hb]⟩
  ·cases hx
 |fel el b off c=>exact⟨_,rfl⟩
 |t y _ h=>
  cases h with
  |fp=>exact⟨_,rfl⟩
  |_=>simp[P0]at hx
 |_=>simp[P0]at hx
theorem b29{o:Oper}{K:St→Prop}(x:Operand)(ho:o.op=.nilCheck x)(hx:P0 st (st.ev x)=true)(h:K (st.put o.dst (st.ev x))):Opk P o st K:=by
 intro C a w hP ⟨L,hs⟩ hd next Q hn
 have hr:=B4 hs x;obtain⟨ad,hv⟩:=vA hs hr hx;refine H1 (v:=a.eval x) (w':=w) ?_ (hn _ _ _ (by simp) h ⟨L,hs.put _ hd hr⟩);unfold execOp;simp only[ho,hv];rfl
theorem xB{s:Sem Value}{v:Value}(h:Dc s=some v)(w:World):s.run P w=.ok v w:=by cases s<;>simp[Dc]at h;subst h;rfl
theorem a0L(op:BinOp)(t:TypeId)(x y:Operand)(k k':IntKind)(n m:Int)(w:World):(eqGuard op t x y (.int k n) (.int k' m)).run P w=.ok () w:=by cases op<;>rfl
theorem a3B(op:BinOp)(t:TypeId)(x y:Operand)(n m:ByteArray)(w:World):(eqGuard op t x y (.string n) (.string m)).run P w=.ok () w:=by cases op<;>rfl
theorem a0n(op:BinOp)(t:TypeId)(x y:Operand)(n m:Bool)(w:World):(eqGuard op t x y (.bool n) (.bool m)).run P w=.ok () w:=by cases op<;>rfl
theorem a6X(op:BinOp)(t:TypeId)(s u:ByteArray):binOp op t (.string s) (.string u)=Op.stringOp op s u:=by cases op<;>rfl
theorem PG{t:TypeId}(hu:P.underlying t=some .bool)(b c:Bool)(w:World):(Op.equal t (.bool b) (.bool c)).run P w=.ok (b==c) w:=by show(Op.equalIn (9999+1) t (.bool b) (.bool c)).run P w=_;rw[Op.equalIn,Sem.run_bind,run_underlying hu];rfl
theorem a89{op:BinOp}{t:TypeId}{x y z:Value}(h:jO P op t x y=some z)(p q:Operand)(w:World):(do eqGuard op t p q x y;binOp op t x y:Sem Value).run P w=.ok z w:=by
 rw[Sem.run_bind];cases x<;>cases y<;>simp only[jO]at h<;>try (cases h;done)
 case int.int=>rw[a0L];exact xB h w
 case string.string=>rw[a3B,Result.andThen_ok,a6X];exact xB h w
 case bool.bool b c=>
  rw[a0n,Result.andThen_ok];split at h
  ·rename_i hk;have hu:=a9o hk;split at h
   ·cases h;have e:binOp .eql t (.bool b) (.bool c)=(do pure (.bool (←Op.equal t (.bool b) (.bool c)))):=rfl;rw[e,Sem.run_bind,PG hu];rfl
   ·cases h;have e:binOp .neq t (.bool b) (.bool c)=(do pure (.bool (!(←Op.equal t (.bool b) (.bool c))))):=rfl;rw[e,Sem.run_bind,PG hu];rfl
   ·cases h
  ·cases h
theorem OQ{t:TypeId}(h:G3 P t=.ptr):∃e,P.underlying t=some (.pointer e):=by obtain⟨d,hd,hk⟩:=Rn h (by simp);cases d<;>simp_all [Kw]
theorem WM{t e:TypeId}(hu:P.underlying t=some (.pointer e))(x:Option Addr)(w:World):(Op.equal t (.pointer x) (.pointer none)).run P w=.ok x.isNone w:=by show(Op.equalIn (9999+1) t (.pointer x) (.pointer none)).run P w=_;rw[Op.equalIn,Sem.run_bind,run_underlying hu];cases x<;>rfl
theorem sV{t e:TypeId}(hu:P.underlying t=some (.pointer e))(op:BinOp)(x:Option Addr)(p q:Operand)(w:World):(do eqGuard .eql t p q (.pointer x) (.pointer none);binOp .eql t (.pointer x) (.pointer none):Sem Value).run P w=.ok (.bool x.isNone) w∧(do eqGuard .neq t p q (.pointer x) (.pointer none);binOp .neq t (.pointer x) (.pointer none):Sem Value).run P w=.ok (.bool (!x.isNone)) w:=by
 have e1:binOp .eql t (.pointer x) (.pointer none)=(do pure (.bool (←Op.equal t (.pointer x) (.pointer none)))):=(by cases x<;>rfl);have e2:binOp .neq t (.pointer x) (.pointer none)=(do pure (.bool (!(←Op.equal t (.pointer x) (.pointer none))))):=(by cases x<;>rfl);have g1:(eqGuard .eql t p q (.pointer x) (.pointer none)).run P w=.ok () w:=rfl;have g2:(eqGuard .neq t p q (.pointer x) (.pointer none)).run P w=.ok () w:=rfl;refine⟨?_,?_⟩
 ·rw[Sem.run_bind,g1,Result.andThen_ok,e1,Sem.run_bind,WM hu];rfl
 ·rw[Sem.run_bind,g2,Result.andThen_ok,e2,Sem.run_bind,WM hu];rfl
theorem a2b{o:Oper}{K:St→Prop}(op:BinOp)(ty ty2:TypeId)(x y:Operand)(ho:o.op=.binOp op ty x y ty2)(z:Value)(hz1:z.oneCell'=true)(hz:Ah P st op ty (st.ev x) (st.ev y)=some z)(h:K (st.put o.dst (.v z))):Opk P o st K:=by
 intro C a w hP ⟨L,hs⟩ hd next Q hn
 have fin:(do eqGuard op ty x y (a.eval x) (a.eval y);binOp op ty (a.eval x) (a.eval y):Sem Value).run P w=.ok z w→o.wp P a w next Q:=fun hrun=>by refine H1 (v:=z) (w':=w) ?_ (hn _ _ _ (by simp) h ⟨L,hs.put _ hd (.t _ _ (.v _ hz1))⟩);unfold execOp;simp only[ho];rw[Sem.run_bind,hrun];rfl
 unfold Ah zO at hz;split at hz
 ·rename_i hy;have e2:=B7 (hy▸B4 hs y);split at hz
  ·rename_i hx;have e1:=B7 (hx▸B4 hs x);split at hz
   ·rename_i hk;obtain⟨e,hu⟩:=OQ hk;split at hz
    ·cases hz;exact fin (by rw[e1,e2];exact(sV hu .eql none x y w).1)
    ·cases hz;exact fin (by rw[e1,e2];exact(sV hu .eql none x y w).2)
    ·cases hz
   ·cases hz
  ·split at hz
   ·rename_i hp;obtain⟨ad,hv⟩:=vA hs (B4 hs x) hp;unfold WT at hz;split at hz
    ·rename_i hk;obtain⟨e,hu⟩:=OQ hk;split at hz
     ·cases hz;exact fin (by rw[hv,e2];exact(sV hu .eql (some ad) x y w).1)
     ·cases hz;exact fin (by rw[hv,e2];exact(sV hu .eql (some ad) x y w).2)
     ·cases hz
    ·cases hz
   ·cases hz
 ·rename_i v _ hv;split at hz
  ·rename_i u hu;have e1:=B7 (hu▸B4 hs x);have e2:=B7 (hv▸B4 hs y);exact fin (by rw[e1,e2];exact a89 hz x y w)
  ·cases hz
 ·cases hz
theorem b1z{o:Oper}{K:St→Prop}(op:UnOp)(ty:TypeId)(x:Operand)(ho:o.op=.unOp op ty x)(y z:Value)(hx:st.ev x=.v y)(hz:unF op y=some z)(hz1:z.oneCell'=true)(h:K (st.put o.dst (.v z))):Opk P o st K:=by
 intro C a w hP ⟨L,hs⟩ hd next Q hn
 have e1:=B7 (hx▸B4 hs x);refine H1 (v:=z) (w':=w) ?_ (hn _ _ _ (by simp) h ⟨L,hs.put _ hd (.t _ _ (.v _ hz1))⟩);unfold execOp;simp only[ho,e1];rw[Sem.run_bind,xB hz];rfl
end
section
open Go.RowKit
variable{C:Ctx}{st st':St}{L L':Nat→Loc}{a:Act}{w:World}{P:Program}
theorem AK{t:TypeId}{d:TypeDesc}(hu:P.underlying t=some d)(w:World):(isAgg t).run P w=.ok (Ih (some d)) w:=by unfold isAgg;rw[Sem.run_bind,run_underlying hu w];cases d<;>rfl
theorem EH{t:TypeId}{i:TypeInfo}(hi:P.info? t=some i)(w:World):(sizeOf t).run P w=.ok i.size w:=by simp[sizeOf,typeInfo,hi]
def AE(st:St)(L:Nat→Loc)(w:World)(M:Nat→Prop)(b f:Nat)(cells:List A):Prop:=
 ∀j (hj:j<cells.length),∃c,w.cell? ⟨b,f+j,none⟩=some c∧(cells[j]).single=true∧RepA st L w M (cells[j]) c
theorem a55{M:Nat→Prop}{t:TypeId}{ti:TI}(ht:p8 P t=some ti){b f:Nat}{cells:List A}(hc:AE st L w M b f cells){o:Nat}{y:A}(hy:O7 cells o ti.size ti.agg=some y):∃v,(loadVar t ⟨b,f+o,none⟩).run P w=.ok v w∧RepA st L w M y v:=by
 obtain⟨i,d,z,hi,hu,hz,h1,h2,h3,h4,h5,h6,h7,h8,h9⟩:=(L9 ht).ex;unfold O7 at hy;split at hy
 ·rename_i hagg;rw[h3]at hagg;split at hy
  ·rename_i hle;cases hy;rw[h1]at hle⊢;have hvl:((List.range i.size).map fun j=>(w.cell? ⟨b,f+o+j,none⟩).getD undef).length=i.size:=(by simp);refine⟨_,run_loadVar_mid w b (f+o) t ((List.range i.size).map fun j=>(w.cell? ⟨b,f+o+j,none⟩).getD undef) d (fun j v hv=>?_) hu (by cases d<;>first|rfl|(simp[Ih]at hagg)) (by rw[hi];simp),?_⟩
   ·have hj:j<i.size:=(by have:=(l3.1 hv).1;simpa using this);obtain⟨c,hc1,_⟩:=hc (o+j) (by omega);rw[show f+o+j=f+(o+j) by omega,hc1];simp only[I6,List.getElem?_range hj,F4,M8]at hv;rw[show f+o+j=f+(o+j) by omega,hc1]at hv;exact congrArg some hv
   ·have hget:∀j (hj:j<i.size),((cells.drop o).take i.size)[j]'(by simp;omega)=cells[o+j]'(by omega):=fun j hj=>by simp
    refine .agg _ _ (by simp;omega) (fun j hj=>?_) (fun j hj=>?_)
    ·have hj':j<i.size:=(by simp at hj;omega);rw[hget j hj'];obtain⟨c,_,hc2,_⟩:=hc (o+j) (by omega);exact hc2
    ·have hj':j<i.size:=(by simp at hj;omega);rw[hget j hj'];obtain⟨c,hc1,_,hc3⟩:=hc (o+j) (by omega);have:(((List.range i.size).map fun j=>(w.cell? ⟨b,f+o+j,none⟩).getD undef).toArray)[j]'(by simp;omega)=c:=by simp only[List.getElem_toArray,List.getElem_map,List.getElem_range];rw[show f+o+j=f+(o+j) by omega,hc1];rfl
     rw[this];exact hc3
  ·cases hy
 ·rename_i hagg;rw[h3]at hagg;obtain⟨hlt,rfl⟩:=l3.1 hy;obtain⟨c,hc1,_,hc3⟩:=hc o hlt;refine⟨c,?_,hc3⟩;unfold loadVar;rw[Sem.run_bind,AK hu w];simp only[Bool.not_eq_true]at hagg;simp[Result.andThen_ok,hagg,hc1]
theorem OG{M:Nat→Prop}{id:Nat}{ty:TypeId}{cells:List A}(h:X8 st L w M id (.box ty cells)):∃b,(L id).blk=some b∧AE st L w M b 0 cells:=by obtain⟨b,cs,hb,hw,hsz,hr⟩:=h;refine⟨b,hb,fun j hj=>⟨cs[j]'(by omega),?_,hr j hj⟩⟩;rw[Nat.zero_add,cell_of_row w b j cs _ _ hw,Array.getElem?_eq_getElem (by omega)]
theorem AW(hs:v7 C st L a w){t:TypeId}{ti:TI}(ht:p8 P t=some ti){x y:A}{v:Value}(hr:RepA st L w (Mut C st L) x v)(hy:K5 st x ti=some y):∃u,(Instr.loadAt t v).run P w=.ok u w∧RepA st L w (Mut C st L) y u:=by
 have fin:∀b f o,v=.pointer (some ⟨b,f+o,none⟩)→∀cells,AE st L w (Mut C st L) b f cells→O7 cells o ti.size ti.agg=some y→∃u,(Instr.loadAt t v).run P w=.ok u w∧RepA st L w (Mut C st L) y u:=by intro b f o hv cells hc hy;obtain⟨u,hu1,hu2⟩:=a55 ht hc hy;refine⟨u,?_,hu2⟩;subst hv;simp[Instr.loadAt,Instr.sureAddr,hu1]
 cases hr with
 |ptr id off _ h1 hus hp=>
  unfold K5 at hy
  dsimp only at hy
  split at hy
  ·rename_i ty cells hm;obtain⟨b,hb,hc⟩:=OG (hs.mem _ _ hm).2;exact fin b 0 off (by rw[hp _ _ hm];simp[Loc.ptr,hb]) cells hc hy
  ·cases hy
 |rptr id i j _ h1 hus hp=>
  unfold K5 at hy
  dsimp only at hy
  split at hy
  ·rename_i e k xs hm;obtain⟨el,hel,hy⟩:=Option.bind_eq_some_iff.1 hy;obtain⟨hi,rfl⟩:=l3.1 hel;obtain⟨_,hk,hq⟩:=(hs.mem _ _ hm).2;rcases hq with⟨hxs,_⟩|⟨b,cur,hb,hw,hl,hcm,hsz,hc⟩
   ·subst hxs;simp at hi
   ·refine fin b (i*k+j) 0 (by rw[hp _ _ _ hm];simp[Loc.ptr,hb]) _ (fun q hq=>?_) hy;have hq':j+q<(xs[i]).length:=(by simp at hq;omega);obtain⟨c,hc1,hc2⟩:=hc i hi (j+q) hq';refine⟨c,?_,?_,?_⟩
    ·rw[show i*k+j+q=i*k+(j+q) by omega,cell_of_row w b _ cur _ _ hw,hc1]
    ·simp[A.single]
    ·simp only[List.getElem_map,List.getElem_drop];exact .t _ _ hc2
  ·cases hy
 |fel el b off c hb hM hc hr=>
  unfold K5 at hy
  dsimp only at hy
  refine fin b off 0 (by simp) _ (fun q hq=>?_) hy;have hq':q<el.length:=(by simpa using hq);refine⟨c q,hc q hq',?_,?_⟩
  ·simp[A.single]
  ·simp only[List.getElem_map];exact .t _ _ (hr q hq')
 |t z _ h=>
  cases h with
  |fp el b off c hb hM hc hr=>
   unfold K5 at hy
   dsimp only at hy
   refine fin b off 0 (by simp) _ (fun q hq=>?_) hy;have hq':q<el.length:=(by simpa using hq);refine⟨c q,hc q hq',?_,?_⟩
   ·simp[A.single]
   ·simp only[List.getElem_map];exact .t _ _ (hr q hq')
  |_=>simp[K5]at hy
 |_=>simp[K5]at hy
theorem a5B{o:Oper}{K:St→Prop}(t:TypeId)(x:Operand)(ho:o.op=.load t x)(ti:TI)(y:A)(ht:p8 P t=some ti)(hy:K5 st (st.ev x) ti=some y)(h:K (st.put o.dst y)):Opk P o st K:=by
 intro C a w hP ⟨L,hs⟩ hd next Q hn
 obtain⟨u,hu1,hu2⟩:=AW hs ht (B4 hs x) hy;refine H1 (v:=u) (w':=w) ?_ (hn _ _ _ (by simp) h ⟨L,hs.put _ hd hu2⟩);unfold execOp;simp only[ho];rw[Sem.run_bind,hu1];rfl
theorem Hw{α:Type}(l vs:List α)(o i:Nat)(h:o+vs.length≤l.length):(l.take o++vs++l.drop (o+vs.length))[i]? =if i<o then l[i]? else if i<o+vs.length then vs[i-o]? else l[i]? :=by
 by_cases h1:i<o
 ·rw[if_pos h1,G5,T0 (by simp;omega),List.getElem?_take_of_lt h1]
 ·rw[if_neg h1,G5,Z5 (by simp;omega)];have e:(l.take o).length=o:=(by simp;omega);rw[e];by_cases h2:i<o+vs.length
  ·rw[if_pos h2,T0 (by omega)]
  ·rw[if_neg h2,Z5 (by omega),List.getElem?_drop];congr 1;omega
theorem Ea{α:Type}(l vs:List α)(o:Nat)(h:o+vs.length≤l.length):(l.take o++vs++l.drop (o+vs.length)).length=l.length:=by simp;omega
theorem NA{g:Nat}{cur:Array Value}{t':TypeId}(hg:w.heap[g]? =some (.cells cur t' (0,0))){t:TypeId}{i:TypeInfo}(hi:P.info? t=some i)(v:Value)(off:Nat)(hsz:v.cells.size=i.size)(hfit:off+v.cells.size≤cur.size)(h1:∀u∈v.cells.toList,u.oneCell'=true):(Instr.storeAt t (.pointer (some ⟨g,off,none⟩)) v).run P w=.ok () (w.setRow g (cur.toList.take off++v.cells.toList++cur.toList.drop (off+v.cells.toList.length)).toArray):=by have:=run_storeCells_at P g off t' v.cells.toList 0 cur w hg (by simpa using hfit) h1;simp only[Nat.add_zero]at this;simp[Instr.storeAt,Instr.sureAddr,storeVar,sizeOf,typeInfo,hi,hsz,this]
theorem a4l{o:Oper}{K:St→Prop}(t:TypeId)(p x:Operand)(ho:o.op=.store t p x)(ti:TI)(cs:List A)(id off:Nat)(ty:TypeId)(cells:List A)(ht:p8 P t=some ti)(hc:cellsOf (st.ev x)=some cs)(hsz:cs.length=ti.size)(hp:st.ev p=.ptr id off)(hm:st.mem id=some (.box ty cells))(hfit:off+cs.length≤cells.length)(h:K ((st.setm id (.box ty (cells.take off++cs++cells.drop (off+cs.length)))).put o.dst .dead)):Opk P o st K:=by
 intro C a w hP ⟨L,hs⟩ hd next Q hn
 obtain⟨i,d,z,hi,hu,hz,h1,h2,h3,h4,h5,h6,h7,h8,h9⟩:=(L9 ht).ex;obtain⟨hvs,hvr⟩:=xS hc (B4 hs x);have hpr:=B4 hs p;rw[hp]at hpr;generalize hv:a.eval p=v at hpr;cases hpr with
 |ptr _ _ _ q1 q2 q3=>
  obtain⟨b,bcs,hb,hw,hbs,hbr⟩:=(hs.mem _ _ hm).2;have e1:v=.pointer (some ⟨b,off,none⟩):=(by rw[q3 _ _ hm];simp[Loc.ptr,hb]);have hone:∀u∈(a.eval x).cells.toList,u.oneCell'=true:=fun u hu=>by obtain⟨q,hq,rfl⟩:=List.getElem_of_mem hu;have hq':q<cs.length:=(by simp at hq;omega);have:=hvr q hq';simpa using this.2.one this.1
  have hrun:=NA (P:=P) hw hi (a.eval x) off (by rw[hvs,hsz,h1]) (by rw[hvs,hbs];exact hfit) hone;refine xP (w':=_) (by unfold execOp;simp only[ho,hv,e1];rw[Sem.run_bind,hrun];rfl) (hn _ _ _ (by simp;rfl) h ⟨L,v7.put (hs.setm id _ (.box ty (cells.take off++cs++cells.drop (off+cs.length))) hm trivial b hb ?_) _ hd (.dead _)⟩);have hl1:=Ea cells cs off hfit;have hl2:((bcs.toList.take off++(a.eval x).cells.toList++bcs.toList.drop (off+(a.eval x).cells.toList.length)).toArray).size=bcs.size:=by rw[List.size_toArray,Ea _ _ _ (by simp;omega)];simp
  refine⟨b,_,hb,setRow_heap w b bcs _ ty _ hw,by rw[hl2,hl1,hbs],fun q hq=>?_⟩;have hext:∀{y:A} {u:Value},RepA st L w (Mut C st L) y u→RepA (st.setm id (.box ty (cells.take off++cs++cells.drop (off+cs.length)))) L (w.setRow b (bcs.toList.take off++(a.eval x).cells.toList++bcs.toList.drop (off+(a.eval x).cells.toList.length)).toArray) (Mut C st L) y u:=fun hy=>
   hy.ext ⟨by simp,fun k hk hm'=>setRow_other w b k _ fun e=>hm' (.inr ⟨id,by rw[hm];rfl,by rw[e];exact .inl hb⟩)⟩ (fun _ _ h=>h) (fun i hi=>hi) (fun i hi b' hb'=>by
    by_cases e:i=id
    ·subst e;have:b'=.box ty (cells.take off++cs++cells.drop (off+cs.length)):=(by simpa[St.setm,upd]using hb'.symm);subst this;exact⟨_,hm,trivial,Loc.like_refl _⟩
    ·exact⟨b',by simpa[St.setm,upd,e]using hb',b'.alike_refl,Loc.like_refl _⟩)
  have hq':q<cells.length:=(by rw[hl1]at hq;exact hq);have g1:=Hw cells cs off q hfit;have g2:=Hw bcs.toList (a.eval x).cells.toList off q (by simp;omega);have hA:∀y u,(cells.take off++cs++cells.drop (off+cs.length))[q]? =some y→(bcs.toList.take off++(a.eval x).cells.toList++bcs.toList.drop (off+(a.eval x).cells.toList.length))[q]? =some u→y.single=true∧RepA st L w (Mut C st L) y u:=by
   intro y u hy hu;rw[g1]at hy;rw[g2]at hu;have el:(a.eval x).cells.toList.length=cs.length:=(by simpa using hvs);rw[el]at hu;have old:cells[q]? =some y→bcs.toList[q]? =some u→y.single=true∧RepA st L w (Mut C st L) y u:=by intro hy hu;obtain⟨z1,rfl⟩:=l3.1 hy;obtain⟨z2,rfl⟩:=l3.1 hu;simpa using hbr q z1
   by_cases c1:q<off
   ·rw[if_pos c1]at hy hu;exact old hy hu
   ·rw[if_neg c1]at hy hu;by_cases c2:q<off+cs.length
    ·rw[if_pos c2]at hy hu;obtain⟨z1,rfl⟩:=l3.1 hy;obtain⟨z2,rfl⟩:=l3.1 hu;simpa using hvr (q-off) z1
    ·rw[if_neg c2]at hy hu;exact old hy hu
  have:=hA _ _ (o5 hq) (o5 (by rw[Ea _ _ _ (by simp;omega)];simp;omega));refine⟨this.1,?_⟩;simp only[List.getElem_toArray];exact hext this.2
end
section
open Go.RowKit
variable{C:Ctx}{st st':St}{L L':Nat→Loc}{a:Act}{w:World}{P:Program}
theorem FN{α β:Type}(f:α→Option β):∀(l:List α) (r:List β),l.mapM f=some r→∀(i:Nat) (y:β),r[i]? =some y→∃x,l[i]? =some x∧f x=some y
 | [],r,h,i,y,hy=>by simp at h;subst h;simp at hy
 |x::l,r,h,i,y,hy=>by
  simp only[List.mapM_cons,Option.bind_eq_bind,Option.pure_def]at h;obtain⟨z,hz,h⟩:=Option.bind_eq_some_iff.1 h;obtain⟨rs,hr,h⟩:=Option.bind_eq_some_iff.1 h;cases h;cases i with
  |zero=>simp at hy;subst hy;exact⟨x,rfl,hz⟩
  |succ i=>simp at hy;simpa using FN f l rs hr i y hy
theorem ND{d:TypeDesc}{fs:List (Nat × Nat × Bool)}(h:fieldsOf P d=some fs){f:Nat}{off size:Nat}{agg:Bool}(hf:fs[f]? =some (off,size,agg)):∃(fds:Array Field) (fd:Field) (i:TypeInfo) (d':TypeDesc),d=.struct fds∧fds[f]? =some fd∧fd.offset=off∧P.info? fd.type=some i∧P.underlying fd.type=some d'∧i.size=size∧agg=Ih (some d'):=by
 unfold fieldsOf at h;split at h
 ·rename_i fds;obtain⟨fd,h1,h2⟩:=FN _ _ _ h f _ hf;split at h2
  ·rename_i i d' hi hd;cases h2;exact⟨fds,fd,i,d',rfl,by simpa using h1,rfl,hi,hd,rfl,rfl⟩
  ·cases h2
 ·cases h;simp at hf
theorem a4q{o:Oper}{K:St→Prop}(s:TypeId)(x:Operand)(f:Nat)(ho:o.op=.field s x f)(ti:TI)(y:A)(ht:p8 P s=some ti)(hy:Jq ti (st.ev x) f=some y)(h:K (st.put o.dst y)):Opk P o st K:=by
 intro C a w hP ⟨L,hs⟩ hd next Q hn
 obtain⟨i,d,z,hi,hu,hz,h1,h2,h3,h4,h5,h6,h7,h8,h9⟩:=(L9 ht).ex;have hr:=B4 hs x;unfold Jq at hy;split at hy
 ·rename_i off size agg cs hf hx;obtain⟨fds,fd,fi,d',rfl,hfd,ho1,hi',hu',hsz,hag⟩:=ND h8 hf;rw[hx]at hr;generalize hv:a.eval x=v at hr;cases hr with
  |agg _ vs hvs h1' hr=>
   have key:∃u,(part fd.type vs fd.offset).run P w=.ok u w∧RepA st L w (Mut C st L) y u:=by
    unfold O7 at hy;unfold part;rw[Sem.run_bind,AK hu' w,Result.andThen_ok,←hag,ho1];split at hy
    ·rename_i hagg;split at hy
     ·rename_i hle;cases hy;rw[hagg];refine⟨.agg (vs.extract off (off+size)),by simp[EH hi',hsz],.agg _ _ (by simp;omega) (fun j hj=>?_) (fun j hj=>?_)⟩
      ·simp only[List.getElem_take,List.getElem_drop];exact h1' _ _
      ·simp only[List.getElem_take,List.getElem_drop,Array.getElem_extract];exact hr _ _
     ·cases hy
    ·rename_i hagg;obtain⟨hlt,rfl⟩:=l3.1 hy;simp only[Bool.not_eq_true]at hagg;rw[hagg];refine⟨vs[off]'(by omega),?_,hr _ hlt⟩;simp[Array.getElem?_eq_getElem (show off<vs.size by omega)]
   obtain⟨u,hu1,hu2⟩:=key;refine H1 (v:=u) (w':=w) ?_ (hn _ _ _ (by simp) h ⟨L,hs.put _ hd hu2⟩);unfold execOp;simp only[ho,hv];rw[Sem.run_bind];unfold Instr.field;rw[Sem.run_bind,run_underlying hu,Result.andThen_ok];simp only[hfd];simp[asAgg,hu1]
 ·cases hy
theorem a8t{o:Oper}{K:St→Prop}(s:TypeId)(x:Operand)(f:Nat)(ho:o.op=.fieldAddr s x f)(ti:TI)(y:A)(ht:p8 P s=some ti)(hx:P0 st (st.ev x)=true)(hy:Ir ti (st.ev x) f=some y)(h:K (st.put o.dst y)):Opk P o st K:=by
 intro C a w hP ⟨L,hs⟩ hd next Q hn
 obtain⟨i,d,z,hi,hu,hz,h1,h2,h3,h4,h5,h6,h7,h8,h9⟩:=(L9 ht).ex;have hr:=B4 hs x;obtain⟨ad,hv⟩:=vA hs hr hx;unfold Ir at hy;split at hy
 ·rename_i off size agg hf;obtain⟨fds,fd,fi,d',rfl,hfd,ho1,hi',hu',hsz,hag⟩:=ND h8 hf;split at hy
  ·cases hy
  ·rename_i hne;have hrun:(execOp a.eval o).run P w=.ok (.value (.pointer (some (ad.add off)))) w:=by unfold execOp;simp only[ho,hv];rw[Sem.run_bind];unfold Instr.fieldAt;rw[Sem.run_bind,run_underlying hu,Result.andThen_ok];simp only[hfd];simp[Instr.sureAddr,fieldPlace,EH hi',hsz,hne,ho1]
   refine H1 hrun (hn _ _ _ (by simp) h ⟨L,hs.put _ hd ?_⟩);split at hy
   ·rename_i id q hp;cases hy;rw[hp,hv]at hr;cases hr with
    |ptr _ _ _ q1 q2 q3=>
     refine .ptr id (q+off) _ rfl q2 fun ty cs hm=>?_;have hq:=q3 _ _ hm;unfold Loc.ptr at hq⊢;cases hb:(L id).blk with
     |none=>rw[hb]at hq;simp at hq
     |some b=>rw[hb]at hq;simp only[F4,Value.pointer.injEq,M8]at hq;rw[hq,Addr.add_mid];rfl
   ·rename_i el hp;cases hy;rw[hp,hv]at hr;cases hr with
    |fel _ b q c hb hM hc hr=>
     rw[Addr.add_mid];refine .fel _ b (q+off) (fun j=>c (off+j)) hb hM (fun j hj=>?_) (fun j hj=>?_)
     ·rw[Nat.add_assoc];exact hc _ (by simp at hj;omega)
     ·simp only[List.getElem_drop];exact hr _ _
   ·rename_i el hp;cases hy;rw[hp,hv]at hr;cases hr with
    |t _ _ hr=>
     cases hr with
     |fp _ b q c hb hM hc hr=>
      rw[Addr.add_mid];refine .t _ _ (.fp _ b (q+off) (fun j=>c (off+j)) hb hM (fun j hj=>?_) (fun j hj=>?_))
      ·rw[Nat.add_assoc];exact hc _ (by simp at hj;omega)
      ·simp only[List.getElem_drop];exact hr _ _
   ·rename_i id i' j' hp;cases hy;rw[hp,hv]at hr;cases hr with
    |rptr _ _ _ _ q1 q2 q3=>
     refine .rptr id i' (j'+off) _ rfl q2 fun e k xs hm=>?_;have hq:=q3 _ _ _ hm;unfold Loc.ptr at hq⊢;cases hb:(L id).blk with
     |none=>rw[hb]at hq;simp at hq
     |some b=>rw[hb]at hq;simp only[F4,Value.pointer.injEq,M8]at hq;rw[hq,Addr.add_mid,Nat.add_assoc];rfl
   ·cases hy
 ·cases hy
theorem OB(hs:v7 C st L a w){y:A}{v:Value}(hr:RepA st L w (Mut C st L) y v){k:Nat}{xs:List (List T)}(hl:P2 st y=some (k,xs)):∃ad cap,v=.slice ad xs.length cap∧xs.length≤cap∧cap≤maxLen:=by
 unfold P2 at hl;split at hl
 ·cases hl;cases hr with
  |t _ _ h=>
   cases h with
   |nil _ a cap hcm=>exact⟨_,_,rfl,C9 _,hcm⟩
   |sl _ _ b off cap c hb hM hcap hcm=>exact⟨_,_,rfl,hcap,hcm⟩
 ·cases hl;have:=B7 hr;subst this;exact⟨_,_,rfl,i4 _,C9 _⟩
 ·split at hl
  ·rename_i id _ e k' xs' hm;cases hl;cases hr with
   |ref _ _ h1 hus h=>
    have:=h _ _ _ hm;subst this;obtain⟨_,_,hq⟩:=(hs.mem _ _ hm).2;rcases hq with⟨hxs,hn⟩|⟨b,cur,hb,hw,hle,hcm,hsz,hc⟩
    ·subst hxs;rw[hn];exact⟨_,_,rfl,i4 _,C9 _⟩
    ·exact⟨_,_,rfl,hle,hcm⟩
  ·cases hl
 ·cases hl
theorem a2w{o:Oper}{K:St→Prop}(x:Operand)(ts:Array TypeId)(ho:o.op=.call {callee:=.builtin .len,args:= #[x],argTypes:=ts})(ty:TypeId)(z:Value)(hty:ts[0]? =some ty)(hz:Ck P st ty (st.ev x)=some z)(h:K (st.put o.dst (.v z))):Opk P o st K:=by
 intro C a w hP ⟨L,hs⟩ hd next Q hn
 have hr:=B4 hs x;have key:(Builtin.len_ ts o.type #[a.eval x]).run P w=.ok z w∧z.oneCell'=true:=by
  unfold Ck at hz;split at hz
  ·rename_i s hk hx;cases hz;have e:=B7 (hx▸hr);have hu:=zF hk;exact⟨by simp[Builtin.len_,hty,e,run_underlying hu,goInt],rfl⟩
  ·rename_i y hk;obtain⟨⟨k,xs⟩,hl,hz⟩:=Option.map_eq_some_iff.1 hz;subst hz;obtain⟨e,hu⟩:=a8q hk;obtain⟨ad,cap,hv,_,_⟩:=OB hs hr hl;exact⟨by simp[Builtin.len_,hty,hv,run_underlying hu,goInt],rfl⟩
  ·cases hz
 refine H1 (v:=z) (w':=w) ?_ (hn _ _ _ (by simp) h ⟨L,hs.put _ hd (.t _ _ (.v _ key.2))⟩);unfold execOp;simp only[ho,resolve,invoke,builtin,Sem.run_bind,Sem.run_pure,Result.andThen_ok,List.map_toArray,List.map_cons,List.map_nil,key.1]
theorem a8V{o:Oper}{K:St→Prop}(src dst:TypeId)(x:Operand)(ho:o.op=.convert src dst x)(z:A)(hsrc:(p8 P src).isSome=true)(hz:Mk P src dst (st.ev x)=some z)(h:K (st.put o.dst z)):Opk P o st K:=by
 intro C a w hP ⟨L,hs⟩ hd next Q hn
 have hr:=B4 hs x;obtain⟨si,hsi⟩:=z8.1 hsrc;obtain⟨i,d,_,hi,hu,_⟩:=(L9 hsi).ex;unfold Mk at hz;split at hz
 ·rename_i k n hx;have e:=B7 (hx▸hr);obtain⟨k',hk,rfl⟩:=Option.map_eq_some_iff.1 hz;obtain⟨ti,hti,hint⟩:=Option.bind_eq_some_iff.1 hk;obtain⟨i',d',_,hi',hu',_,_,_,_,_,_,_,h7,_⟩:=(L9 hti).ex;have:=h7 k' hint;subst this;refine H1 (v:=.int k' (k'.wrap n)) (w':=w) ?_ (hn _ _ _ (by simp) h ⟨L,hs.put _ hd (.t _ _ (.v _ rfl))⟩);unfold execOp;simp only[ho,e];simp[convert,run_underlying hu,run_underlying hu',Conv.intToInt]
 ·rename_i s hx;have e:=B7 (hx▸hr);split at hz
  ·rename_i hk;cases hz;have hu':=zF hk;refine H1 (v:=.string s) (w':=w) ?_ (hn _ _ _ (by simp) h ⟨L,hs.put _ hd (.t _ _ (.v _ rfl))⟩);unfold execOp;simp only[ho,e];simp[convert,run_underlying hu,run_underlying hu']
  ·cases hz
 ·cases hz
theorem a5e{o:Oper}{K:St→Prop}(t:TypeId)(x y:Operand)(ho:o.op=.index t x y)(s:ByteArray)(k:IntKind)(n:Nat)(b:UInt8)(hk:G3 P t=.str)(hx:st.ev x=.v (.string s))(hy:st.ev y=.v (.int k (n:Int)))(hb:s[n]? =some b)(h:K (st.put o.dst (.v (.int .u8 b.toNat)))):Opk P o st K:=by
 intro C a w hP ⟨L,hs⟩ hd next Q hn
 have e1:=B7 (hx▸B4 hs x);have e2:=B7 (hy▸B4 hs y);have hu:=zF hk;refine H1 (v:=.int .u8 b.toNat) (w':=w) ?_ (hn _ _ _ (by simp) h ⟨L,hs.put _ hd (.t _ _ (.v _ rfl))⟩);unfold execOp;simp only[ho,e1,e2];simp[Instr.index,asIntOf,run_underlying hu,hb]
theorem a6N{o:Oper}{K:St→Prop}(t:TypeId)(x y:Operand)(ho:o.op=.indexAddr t x y)(ti:TI)(e:TypeId)(te:TI)(k':Nat)(xs:List (List T))(k:IntKind)(n:Nat)(el:List T)(ht:p8 P t=some ti)(he:ti.elem=some e)(hte:p8 P e=some te)(hl:P2 st (st.ev x)=some (k',xs))(hy:st.ev y=.v (.int k (n:Int)))(hel:xs[n]? =some el)(hk:k'=te.size)(h:K (st.put o.dst (match st.ev x with|.ref id=>.rptr id n 0|_=>.fel el))):Opk P o st K:=by
 intro C a w hP ⟨L,hs⟩ hd next Q hn
 obtain⟨i,d,_,hi,hu,_,_,_,_,_,_,h6,_⟩:=(L9 ht).ex;obtain⟨i',d',_,hi',hu',_,h1',_⟩:=(L9 hte).ex;have:=h6 e he;subst this;have hr:=B4 hs x;have e2:=B7 (hy▸B4 hs y);obtain⟨hn',rfl⟩:=l3.1 hel;have run:∀b off cap,a.eval x=.slice (some ⟨b,off,none⟩) xs.length cap→(execOp a.eval o).run P w=.ok (.value (.pointer (some ⟨b,off+n*k',none⟩))) w:=by intro b off cap hv;unfold execOp;simp only[ho,hv,e2];simp[Instr.indexAt,asIntOf,run_underlying hu,hn',EH hi',Addr.add_mid,hk,h1']
 unfold P2 at hl;generalize hv:a.eval x=v at hr run;split at hl
 ·rename_i k'' xs' hx;cases hl;rw[hx]at hr h;cases hr with
  |t _ _ hr=>
   cases hr with
   |nil=>simp at hn'
   |sl _ _ b off cap c hb hM hcap hcm hkk hc hrr=>refine H1 (run b off cap rfl) (hn _ _ _ (by simp) h ⟨L,hs.put _ hd ?_⟩);exact .fel _ b (off+n*k') (fun j=>c n j) hb hM (fun j hj=>by rw[Nat.add_assoc];exact hc n hn' j (by rw[←hkk n hn'];exact hj)) (fun j hj=>hrr n hn' j hj)
 ·cases hl;simp at hn'
 ·rename_i id hx;split at hl
  ·rename_i e' k'' xs' hm;cases hl;rw[hx]at hr h;cases hr with
   |ref _ _ h1 hus hrr=>
    obtain⟨_,_,hq⟩:=(hs.mem _ _ hm).2;rcases hq with⟨hxs,_⟩|⟨b,cur,hb,hw,hle,hcm,hsz,hc⟩
    ·subst hxs;simp at hn'
    ·have:=hrr _ _ _ hm;subst this;have e3:(L id).slice xs.length=.slice (some ⟨b,0,none⟩) xs.length (L id).cap:=(by simp[Loc.slice,hb]);refine H1 (run b 0 _ e3) (hn _ _ _ (by simp) h ⟨L,hs.put _ hd ?_⟩);refine .rptr id n 0 _ rfl hus fun e4 k4 xs4 hm4=>?_;rw[hm]at hm4;cases hm4;simp[Loc.ptr,hb]
  ·cases hl
 ·cases hl
end
section
open Go.RowKit
variable{C:Ctx}{st st':St}{L L':Nat→Loc}{a:Act}{w:World}{P:Program}
def Fg(st:St)(L:Nat→Loc)(w:World)(M:Nat→Prop)(cs:List A)(vs:Array Value):Prop:=
 vs.size=cs.length∧∀(i:Nat) (y:A),cs[i]? =some y→y.single=true∧∃u,vs[i]? =some u∧RepA st L w M y u
theorem BI{M:Nat→Prop}{x:A}{cs:List A}{v:Value}(hc:cellsOf x=some cs)(h:RepA st L w M x v):Fg st L w M cs v.cells:=by obtain⟨hs,hr⟩:=xS hc h;refine⟨hs,fun i y hy=>?_⟩;obtain⟨hi,rfl⟩:=l3.1 hy;exact⟨(hr i hi).1,_,Array.getElem?_eq_getElem (by omega),(hr i hi).2⟩
theorem Fg.agg{M:Nat→Prop}{cs:List A}{vs:Array Value}(h:Fg st L w M cs vs):RepA st L w M (.agg cs) (.agg vs):=by refine .agg cs vs h.1 (fun i hi=>(h.2 i _ (o5 hi)).1) fun i hi=>?_;obtain⟨_,u,hu,hr⟩:=h.2 i _ (o5 hi);rw[Array.getElem?_eq_getElem (by have:=h.1;omega)]at hu;cases hu;exact hr
theorem WQ(off:Nat):∀(l:List Value) (k:Nat) (cells:Array Value),off+k+l.length≤cells.size→((l.zipIdx k).foldl (fun cs (x:Value × Nat)=>cs.setIfInBounds (off+x.2) x.1) cells).toList=cells.toList.take (off+k)++l++cells.toList.drop (off+k+l.length)
 | [],k,cells,h=>by simp
 |v::l,k,cells,h=>by simp only[List.zipIdx_cons,List.foldl_cons];rw[WQ off l (k+1) _ (by simp at h⊢;omega)];have:=list_seg_step cells.toList (off+k) v l (by simp at h⊢;omega);simpa[Array.toList_setIfInBounds,Nat.add_assoc]using this
theorem TH(off:Nat)(v:Value)(cells:Array Value)(h:off+v.cells.size≤cells.size):(v.cells.zipIdx.foldl (fun cs (x:Value × Nat)=>cs.setIfInBounds (off+x.2) x.1) cells).toList=cells.toList.take off++v.cells.toList++cells.toList.drop (off+v.cells.toList.length):=by rw[←Array.foldl_toList,Array.toList_zipIdx];have:=WQ off v.cells.toList 0 cells (by simpa using h);simpa using this
theorem a2N{M:Nat→Prop}{cells cs:List A}{vs us:Array Value}{off:Nat}(h:Fg st L w M cells vs)(h':Fg st L w M cs us)(hfit:off+cs.length≤cells.length){out:Array Value}(ho:out.toList=vs.toList.take off++us.toList++vs.toList.drop (off+us.toList.length)):Fg st L w M (cells.take off++cs++cells.drop (off+cs.length)) out:=by
 have hl:=h.1;have hl':=h'.1;have hfit':off+us.toList.length≤vs.toList.length:=(by simp;omega);refine⟨?_,fun i y hy=>?_⟩
 ·rw[Ea _ _ _ hfit,←hl,←Array.length_toList,ho,Ea _ _ _ hfit'];simp
 ·rw[Hw _ _ _ _ hfit]at hy;have ho':out[i]? =out.toList[i]? :=(by simp);rw[ho',ho,Hw _ _ _ _ hfit'];have el:us.toList.length=cs.length:=(by simpa using hl');rw[el];by_cases c1:i<off
  ·rw[if_pos c1]at hy⊢;simpa using h.2 i y hy
  ·rw[if_neg c1]at hy⊢;by_cases c2:i<off+cs.length
   ·rw[if_pos c2]at hy⊢;simpa using h'.2 (i-off) y hy
   ·rw[if_neg c2]at hy⊢;simpa using h.2 i y hy
theorem QX{M:Nat→Prop}{fs:List (Nat × Nat × Bool)}{place:Nat→Option (Nat × Nat)}(hp:∀i off size agg,fs[i]? =some (off,size,agg)→place i=some (off,size)):∀(parts:List (Nat × A × Value)) (cells:List A) (vs:Array Value) (out:List A),(∀p∈parts,RepA st L w M p.2.1 p.2.2)→Fg st L w M cells vs→De fs cells (parts.map fun p=>(p.1,p.2.1))=some out→∃us,Instr.fill place vs (parts.map fun p=>(p.1,p.2.2))=some us∧Fg st L w M out us
 | [],cells,vs,out,hr,hc,h=>by simp only[List.map_nil,De,M8]at h;subst h;exact⟨vs,rfl,hc⟩
 |(i,x,v)::rest,cells,vs,out,hr,hc,h=>by
  simp only[List.map_cons,De]at h;split at h
  ·rename_i off size agg cs hf hcs;split at h
   ·rename_i hsz;have hx:=BI hcs (hr _ (G0));have hl:=hc.1;have hl':=hx.1;have e1:v.cells.size=size:=(by rw[hl',hsz.1]);have hst:=TH off v vs (by dsimp only at hl';omega);rw[←hsz.1]at h;have hc2:=a2N hc hx (by omega) hst;obtain⟨us,hu1,hu2⟩:=QX hp rest _ _ out (fun p hp=>hr p (H6 _ hp)) hc2 h;refine⟨us,?_,hu2⟩;simp only[List.map_cons,Instr.fill,hp _ _ _ _ hf];have e2:¬(v.cells.size≠size∨off+v.cells.size>vs.size):=(by omega);simp only[ne_eq,gt_iff_lt,Bool.or_eq_true,decide_eq_true_eq]at e2⊢;rw[if_neg e2];exact hu1
   ·cases h
  ·cases h
theorem a4f{fds:List Field}{fs:List (Nat × Nat × Bool)}(h:(fds.mapM fun f=>match P.info? f.type,P.underlying f.type with|some i,some d=>some (f.offset,i.size,Ih (some d))|_,_=>none)=some fs):fds.mapM (fun f=>(P.info? f.type).map fun i=>(f.offset,i.size))=some (fs.map fun p=>(p.1,p.2.1)):=by
 induction fds generalizing fs with
 |nil=>simp at h;subst h;rfl
 |cons f fds ih=>
  simp only[List.mapM_cons,Option.bind_eq_bind,Option.pure_def]at h⊢;obtain⟨z,hz,h⟩:=Option.bind_eq_some_iff.1 h;obtain⟨rs,hr,h⟩:=Option.bind_eq_some_iff.1 h;cases h;split at hz
  ·rename_i i d hi hd;cases hz;rw[ih hr,hi];rfl
  ·cases hz
theorem a2J{o:Oper}{K:St→Prop}(t:TypeId)(parts:Array (Nat × Operand))(ho:o.op=.build t parts)(ti:TI)(cs:List A)(ht:p8 P t=some ti)(hk:G3 P t=.strct)(hf:De ti.fs (ti.zero.map .v) (parts.toList.map fun(i,x)=>(i,st.ev x))=some cs)(h:K (st.put o.dst (.agg cs))):Opk P o st K:=by
 intro C a w hP ⟨L,hs⟩ hd next Q hn
 obtain⟨i,d,z,hi,hu,hz,h1,h2,h3,h4,h5,h6,h7,h8,h9⟩:=(L9 ht).ex;obtain⟨fds,hfd⟩:=b0e hk;rw[hu]at hfd;cases hfd;unfold fieldsOf at h8;have hpl:=a4f h8;have hp:∀(i off size:Nat) (agg:Bool),ti.fs[i]? =some (off,size,agg)→(fun j=>(ti.fs.map fun p=>(p.1,p.2.1)).toArray[j]?) i=some (off,size):=fun i off size agg h=>by simp[h]
 have hz0:Fg st L w (Mut C st L) (ti.zero.map .v) z.cells:=by refine⟨by rw[h4];simp,fun j y hy=>?_⟩;rw[h4,I6]at hy;obtain⟨u,hu1,rfl⟩:=Option.map_eq_some_iff.1 hy;exact⟨rfl,u,by simpa using hu1,.t _ _ (.v _ (h5 u (M7 hu1)))⟩
 obtain⟨us,hu1,hu2⟩:=QX (st:=st) (L:=L) (w:=w) (M:=Mut C st L) hp (parts.toList.map fun p=>(p.1,st.ev p.2,a.eval p.2)) (ti.zero.map .v) z.cells cs (fun p hp=>by
  obtain⟨q,_,rfl⟩:=List.mem_map.1 hp;exact B4 hs q.2) hz0 (by rw[List.map_map];exact hf)
 have hb:P.built t (parts.map fun(i,x)=>(i,a.eval x)).toList=some us:=by
  unfold Program.built;rw[hi,hu]
  dsimp only
  rw[hz,hpl]
  dsimp only
  rw[List.map_map]at hu1;rw[Array.toList_map];exact hu1
 refine H1 (v:=.agg us) (w':=w) ?_ (hn _ _ _ (by simp) h ⟨L,hs.put _ hd hu2.agg⟩);unfold execOp;simp only[ho];rw[Sem.run_bind,run_build w t _ us hb];rfl
end
section
open Go.RowKit
variable{C:Ctx}{st st':St}{L L':Nat→Loc}{a:Act}{w:World}{P:Program}
theorem AG:∀(cs:List A) (l:List T),L0 cs=some l→l.length=cs.length∧∀(i:Nat) (y:A) (x:T),cs[i]? =some y→l[i]? =some x→y=.t x
 | [],l,h=>by simp[L0]at h;subst h;simp
 |a::cs,l,h=>by
  simp only[L0]at h;split at h
  ·rename_i x l' hx hl';cases h;obtain⟨h1,h2⟩:=AG cs l' hl';refine⟨by simp[h1],fun i y z hy hz=>?_⟩;cases i with
   |zero=>simp at hy hz;subst hy;subst hz;cases a<;>simp[oQ]at hx;rw[hx]
   |succ i=>simp at hy hz;exact h2 i y z hy hz
  ·cases h
theorem Hr{M:Nat→Prop}{x:T}{v:Value}(h:RepA st L w M (.t x) v):RepT w M x v:=by cases h with|t _ _ h=>exact h
theorem AM{M:Nat→Prop}(size:Nat)(h0:0<size):∀(parts:List (Nat × A × Value)) (i N:Nat) (xs:List (List T)) (vs:Array Value),(∀p∈parts,RepA st L w M p.2.1 p.2.2)→Au size i (parts.map fun p=>(p.1,p.2.1))=some xs→i+parts.length≤N→vs.size=N*size→∃us,Instr.fill (fun i=>some (i*size,size)) vs (parts.map fun p=>(p.1,p.2.2))=some us∧us.size=vs.size∧xs.length=parts.length∧(∀q,q<i*size→us[q]? =vs[q]?)∧∀(p:Nat) (x:List T),xs[p]? =some x→x.length=size∧∀(j:Nat) (t:T),x[j]? =some t→∃c,us[(i+p)*size+j]? =some c∧RepT w M t c
 | [],i,N,xs,vs,hr,h,hi,hv=>by simp only[List.map_nil,Au,M8]at h;subst h;exact⟨vs,rfl,rfl,rfl,fun _ _=>rfl,fun p x hx=>by simp at hx⟩
 |(j,y,v)::rest,i,N,xs,vs,hr,h,hi,hv=>by
  simp only[List.map_cons,Au]at h;split at h
  ·rename_i hji;subst hji;split at h
   ·rename_i cs hcs;split at h
    ·rename_i l hl;split at h
     ·rename_i hsz;split at h
      ·rename_i r hrr;cases h;have hx:=BI hcs (hr _ (G0));obtain⟨hlen,hget⟩:=AG cs l hl;have hvl:v.cells.size=size:=(by have:=hx.1;dsimp only at this;omega);have hN:(j+1)*size≤N*size:=Nat.mul_le_mul_right _ (by simp at hi;omega);have hj1:(j+1)*size=j*size+size:=(by rw[Nat.add_mul,Nat.one_mul]);have hfit:j*size+v.cells.size≤vs.size:=(by omega);have hst:=TH (j*size) v vs hfit;generalize hmid:v.cells.zipIdx.foldl (fun cs (x:Value × Nat)=>cs.setIfInBounds (j*size+x.2) x.1) vs=mid at hst;have hfit':j*size+v.cells.toList.length≤vs.toList.length:=(by simpa using hfit);have hms:mid.size=vs.size:=(by rw[←Array.length_toList,hst,Ea _ _ _ hfit'];simp);obtain⟨us,hu1,hu2,hu3,hu4,hu5⟩:=AM size h0 rest (j+1) N r mid (fun p hp=>hr p (H6 _ hp)) hrr (by simp at hi;omega) (by rw[hms];exact hv);have hm:∀q,mid[q]? =if q<j*size then vs[q]? else if q<j*size+size then v.cells[q-j*size]? else vs[q]? :=fun q=>by have e1:mid[q]? =mid.toList[q]? :=(by simp);rw[e1,hst,Hw _ _ _ _ hfit'];simp[hvl]
       refine⟨us,?_,by rw[hu2,hms],by simp[hu3],fun q hq=>?_,fun p x hx'=>?_⟩
       ·simp only[List.map_cons,Instr.fill];have e2:¬(v.cells.size≠size∨j*size+v.cells.size>vs.size):=(by omega);simp only[ne_eq,gt_iff_lt,Bool.or_eq_true,decide_eq_true_eq]at e2⊢;rw[if_neg e2];have e3:(Array.foldl (fun cs x=>cs.setIfInBounds (j*size+x.snd) x.fst) vs v.cells.zipIdx)=mid:=hmid;rw[e3];exact hu1
       ·rw[hu4 q (by omega),hm q,if_pos hq]
       ·cases p with
        |zero=>simp at hx';subst hx';refine⟨hsz,fun q t ht=>?_⟩;have hq:q<size:=(by rw[←hsz];exact(l3.1 ht).1);have hcsq:∃z,cs[q]? =some z:=⟨_,o5 (by omega)⟩;obtain⟨z,hz⟩:=hcsq;have:=hget q z t hz ht;subst this;obtain⟨_,u,hu,hrep⟩:=hx.2 q _ hz;refine⟨u,?_,Hr hrep⟩;rw[Nat.add_zero,hu4 _ (by omega),hm,if_neg (by omega),if_pos (by omega)];rw[show j*size+q-j*size=q by omega];exact hu
        |succ p=>simp at hx';have:=hu5 p x hx';rw[show j+(p+1)=j+1+p by omega];exact this
      ·cases h
     ·cases h
    ·cases h
   ·cases h
  ·cases h
theorem Uj(hs:v7 C st L a w)(d:Nat)(hu:st.used d=false)(e:TypeId)(k:Nat)(h0:0<k)(xs:List (List T))(hk:∀(i:Nat) x,xs[i]? =some x→x.length=k)(cur:Array Value)(cap:Nat)(hle:xs.length≤cap)(hcm:cap≤maxLen)(hsz:cur.size=cap*k){w1:World}(hh:w1.heap=w.heap)(os:w1.os=w.os)(tape:w1.tape=w.tape)(output:w1.output=w.output)(hr:∀(p:Nat) x,xs[p]? =some x→∀(j:Nat) (t:T),x[j]? =some t→∃c,cur[p*k+j]? =some c∧RepT w (Mut C st L) t c)(dst:Option Nat)(hdst:dst=some d)(hlt:d<st.n):Sim C ((st.new d (.row e k xs)).put dst (.ref d)) (a.put dst (.slice (some ⟨w.heap.size,0,none⟩) xs.length cap)) (w1.alloc (.cells cur e)):=by
 have hsize:w1.heap.size=w.heap.size:=(by rw[hh]);have hold:∀b,b<w.heap.size→(w1.alloc (.cells cur e)).heap[b]? =w.heap[b]? :=fun b hb=>by rw[Below.heap_alloc w1 _ _ (by omega),hh]
 have h1:v7 C (st.new d (.row e k xs)) (upd L d (Loc.at_ w.heap.size cap)) a (w1.alloc (.cells cur e)):=by
  refine hs.new d (.inl hlt) hu _ _ os tape output (by simp;omega) hold (fun b hb=>by cases AC hb;simp;omega) (fun M hM=>⟨h0,fun i hi=>hk i _ (o5 hi),.inr ⟨w.heap.size,cur,by rw[J3],?_,by rw[J3];exact hle,by rw[J3];exact hcm,by rw[J3];exact hsz,fun i hi j hj=>?_⟩⟩)
  ·rw[←hsize];exact heap_alloc_new w1 _
  ·obtain⟨c,hc1,hc2⟩:=hr i _ (o5 hi) j _ (o5 hj);exact⟨c,hc1,hc2.ext ⟨by simp;omega,fun k hk _=>hold k hk⟩ hM⟩
 refine⟨_,h1.put dst (fun x hx=>by rw[hdst]at hx;cases hx;exact hlt) (.ref d _ rfl (by simp[St.new,upd]) fun e' k' xs' hm=>?_)⟩;have:xs'=xs:=(by simpa[St.new,upd]using(by simpa[St.new,upd]using hm:e=e'∧k=k'∧xs=xs').2.2.symm);subst this;rw[J3];rfl
theorem b1d{o:Oper}{K:St→Prop}(t:TypeId)(len:Nat)(parts:Array (Nat × Operand))(ho:o.op=.buildSlice t len parts)(d:Nat)(ti:TI)(e:TypeId)(te:TI)(xs:List (List T))(hdst:o.dst=some d)(ht:p8 P t=some ti)(he:ti.elem=some e)(hte:p8 P e=some te)(hu:st.used d=false)(h0:0<te.size)(hlen:parts.size=len)(hsmall:len*te.size≤16777216)(ids:List Nat)(hparts:Au te.size 0 (parts.toList.map fun(i,x)=>(i,(st.frzs ids).ev x))=some xs)(h:K (((st.frzs ids).new d (.row e te.size xs)).put o.dst (.ref d))):Opk P o st K:=by
 intro C a w hP ⟨L,hs0⟩ hd next Q hn
 have hs:=hs0.frzs ids;obtain⟨i,td,z,hi,hud,hz,h1,h2,h3,h4,h5,h6,h7,h8,h9⟩:=(L9 ht).ex;obtain⟨ie,tde,ze,hie,hue,hze,g1,g2,g3,g4,g5,g6,g7,g8,g9⟩:=(L9 hte).ex;have:=h6 e he;subst this;obtain⟨us,hu1,hu2,hu3,_,hu5⟩:=AM (st:=st.frzs ids) (L:=L) (w:=w) (M:=Mut C (st.frzs ids) L) te.size h0 (parts.toList.map fun p=>(p.1,(st.frzs ids).ev p.2,a.eval p.2)) 0 len xs ((Array.range (len*te.size)).map (ze.cells[· %ze.cells.size]!)) (fun p hp=>by
  obtain⟨q,_,rfl⟩:=List.mem_map.1 hp;exact B4 hs q.2) (by rw[List.map_map];exact hparts) (by simp[hlen]) (by simp)
 have hxl:xs.length=len:=(by rw[hu3];simp[hlen]);have hrun:(Instr.buildSlice t len (parts.map fun(i,x)=>(i,a.eval x))).run P w=.ok (.slice (some ⟨w.heap.size,0,none⟩) xs.length len) (w.alloc (.cells us e)):=by
  rw[hxl];have hfill:Instr.fill (fun i=>some (i*ie.size,ie.size)) ((Array.range (len*ie.size)).map (ze.cells[· %ze.cells.size]!)) (parts.map fun(i,x)=>(i,a.eval x)).toList=some us:=by rw[←g1,Array.toList_map];rw[List.map_map]at hu1;exact hu1
  by_cases hpos:len*ie.size=0
  ·have hl0:len=0:=(by rcases Nat.mul_eq_zero.1 hpos with h|h<;>omega);subst hl0;have hp0:parts= #[]:=Array.eq_empty_of_size_eq_zero hlen;subst hp0;have e0:∀(f:Nat→Value),(Array.range 0).map f= #[]:=fun f=>Array.eq_empty_of_size_eq_zero (by simp);have hus:us= #[]:=by have:=hfill.symm;simp only[Nat.zero_mul,e0]at this;simpa[Instr.fill]using this
   subst hus;simp[Instr.buildSlice,run_underlying hud,sizeOf,typeInfo,hie,Instr.fill,newRow,e0]
   try exact congrArg (fun c=>w.alloc (.cells c e)) (Array.eq_empty_of_size_eq_zero (by simp))
  ·exact run_buildSlice w t e len _ us ie ze hud hie hze (by rw[←g1];omega) hpos hfill
 have hbn:(st.frzs ids).n=st.n:=GB _ _;refine H1 (v:=.slice (some ⟨w.heap.size,0,none⟩) xs.length len) (w':=w.alloc (.cells us e)) ?_ (hn _ _ _ (by simp[St.new]) h ?_)
 ·unfold execOp;simp only[ho];rw[Sem.run_bind,hrun];rfl
 ·refine Uj hs d (by simpa using hu) e te.size h0 xs (fun p x hx=>(hu5 p x hx).1) us len (by omega) (by unfold maxLen;have:=Nat.le_mul_of_pos_right len h0;omega) (by rw[hu2];simp) rfl rfl rfl rfl (fun p x hx j t ht=>?_) _ hdst (by rw[hbn];exact hd d hdst);have:=(hu5 p x hx).2 j t ht
  rwa [Nat.zero_add]at this
end
section
open Go.RowKit
variable{C:Ctx}{st st':St}{L L':Nat→Loc}{a:Act}{w:World}{P:Program}
theorem tH{M:Nat→Prop}{k:Nat}(h0:0<k)(ys:List (List T))(hk:∀i (hi:i<ys.length),(ys[i]).length=k)(at_:Nat→Option Value)(h:∀i (hi:i<ys.length) j (hj:j<(ys[i]).length),∃c,at_ (i*k+j)=some c∧RepT w M (ys[i][j]) c):∃news:List Value,news.length=ys.length*k∧(∀(q:Nat) u,news[q]? =some u→at_ q=some u)∧(∀u∈news,u.oneCell'=true)∧∀(p:Nat) x,ys[p]? =some x→x.length=k∧∀(j:Nat) (t:T),x[j]? =some t→∃c,news[p*k+j]? =some c∧RepT w M t c:=by
 have hq:∀q,q<ys.length*k→∃(hi:q/k<ys.length) (hj:q%k<(ys[q/k]).length),(q/k)*k+q%k=q:=fun q hq=>by have hi:q/k<ys.length:=Nat.div_lt_of_lt_mul (by rw[Nat.mul_comm];exact hq);exact⟨hi,by rw[hk _ hi];exact Nat.mod_lt _ h0,Nat.div_add_mod' q k⟩
 refine⟨(List.range (ys.length*k)).map fun q=>(at_ q).getD undef,by simp,fun q u hu=>?_,fun u hu=>?_,fun p x hx=>?_⟩
 ·have hlt:q<ys.length*k:=(by have:=(l3.1 hu).1;simpa using this);obtain⟨hi,hj,e⟩:=hq q hlt;obtain⟨c,hc,_⟩:=h _ hi _ hj;rw[e]at hc;simp only[I6,List.getElem?_range hlt,F4,hc,Option.getD_some,M8]at hu;rw[hc,hu]
 ·obtain⟨q,hq',rfl⟩:=List.mem_map.1 hu;obtain⟨hi,hj,e⟩:=hq q (List.mem_range.1 hq');obtain⟨c,hc,hr⟩:=h _ hi _ hj;rw[e]at hc;rw[hc];exact hr.one
 ·obtain⟨hp,rfl⟩:=l3.1 hx;refine⟨hk p hp,fun j t ht=>?_⟩;obtain⟨hj,rfl⟩:=l3.1 ht;obtain⟨c,hc,hr⟩:=h p hp j hj;have hlt:p*k+j<ys.length*k:=by have h1:(p+1)*k≤ys.length*k:=Nat.mul_le_mul_right _ hp;have h2:=hk p hp;rw[Nat.add_mul]at h1;omega
  exact⟨c,by simp[List.getElem?_range hlt,hc],hr⟩
theorem EB(hs:v7 C st L a w){y:A}{v:Value}(hr:RepA st L w (Mut C st L) y v){k:Nat}{ys:List (List T)}(hl:P2 st y=some (k,ys)){k':Nat}(h0:0<k')(hk:ys=[]∨k=k'):∃ad cap,v=.slice ad ys.length cap∧(ys=[]∨∃b off,ad=some ⟨b,off,none⟩∧∃news:List Value,news.length=ys.length*k'∧(∀(q:Nat) u,news[q]? =some u→w.cell? ⟨b,off+q,none⟩=some u)∧(∀u∈news,u.oneCell'=true)∧∀(p:Nat) x,ys[p]? =some x→x.length=k'∧∀(j:Nat) (t:T),x[j]? =some t→∃c,news[p*k'+j]? =some c∧RepT w (Mut C st L) t c):=by
 rcases hk with rfl|rfl
 ·obtain⟨ad,cap,hv,_,_⟩:=OB hs hr hl;exact⟨ad,cap,hv,.inl rfl⟩
 ·unfold P2 at hl;split at hl
  ·cases hl;cases hr with
   |t _ _ h=>
    cases h with
    |nil=>exact⟨_,_,rfl,.inl rfl⟩
    |sl _ _ b off cap c hb hM hcap hcm hk hc hrr=>exact⟨_,_,rfl,.inr ⟨b,off,rfl,tH h0 ys hk (fun q=>w.cell? ⟨b,off+q,none⟩) fun i hi j hj=>⟨c i j,hc i hi j (by rw[←hk i hi];exact hj),hrr i hi j hj⟩⟩⟩
  ·cases hl;have:=B7 hr;subst this;exact⟨_,_,rfl,.inl rfl⟩
  ·split at hl
   ·rename_i id _ e k'' ys' hm;cases hl;cases hr with
    |ref _ _ h1 hus h=>
     have:=h _ _ _ hm;subst this;obtain⟨_,hk,hq⟩:=(hs.mem _ _ hm).2;rcases hq with⟨hxs,hn⟩|⟨b,cur,hb,hw,hle,hcm,hsz,hc⟩
     ·subst hxs;rw[hn];exact⟨_,_,rfl,.inl rfl⟩
     ·refine⟨_,_,rfl,.inr ⟨b,0,by simp[hb],tH h0 ys hk (fun q=>w.cell? ⟨b,0+q,none⟩) fun i hi j hj=>?_⟩⟩;obtain⟨c,hc1,hc2⟩:=hc i hi j hj;exact⟨c,by rw[Nat.zero_add,cell_of_row w b _ cur _ _ hw,hc1],hc2⟩
   ·cases hl
  ·cases hl
theorem v7.renew(h:v7 C st L a w)(id d:Nat)(hdn:d<st.n∨1000≤d)(hu:st.used d=false)(blk:Blk)(old:Blk)(hm:st.mem id=some old)(b:Nat)(hb:(L id).blk=some b){w':World}(os:w'.os=w.os)(tape:w'.tape=w.tape)(output:w'.output=w.output)(size:w'.heap.size=w.heap.size)(block:∀q,q≠b→w'.heap[q]? =w.heap[q]?)(hrep:∀M:Nat→Prop,(∀q,M q→Mut C st L q)→X8 ((st.del id).new d blk) (upd L d (L id)) w' M d blk):v7 C ((st.del id).new d blk) (upd L d (L id)) a w':=by
 have hidd:id≠d:=fun e=>by have:=(h.mem id old hm).1;rw[e,hu]at this;cases this
 have hne:∀i,st.used i=true→i≠d:=fun i hi e=>by rw[e,hu]at hi;cases hi
 have hmem:∀i b',((st.del id).new d blk).mem i=some b'→(i=d∧b'=blk)∨(i≠d∧i≠id∧st.mem i=some b'):=fun i b' hb'=>by
  by_cases e:i=d
  ·subst e;left;exact⟨rfl,by simpa[St.new,upd]using hb'.symm⟩
  ·right
   by_cases e2:i=id
   ·subst e2;simp[St.new,St.del,upd,e]at hb'
   ·exact⟨e,e2,by simpa[St.new,St.del,upd,e,e2]using hb'⟩
 have hM:∀q,Mut C ((st.del id).new d blk) (upd L d (L id)) q→Mut C st L q:=by
  rintro q (hx|⟨i,hi,hl⟩)
  ·exact .inl hx
  ·obtain⟨b',hb'⟩:=z8.1 hi;rcases hmem i b' hb' with⟨e,_⟩|⟨e,_,hi'⟩
   ·subst e;rw[J3]at hl;exact .inr ⟨id,by rw[hm];rfl,hl⟩
   ·rw[Ig _ _ _ _ e]at hl;exact .inr ⟨i,by rw[hi'];rfl,hl⟩
 have hfr:∀i,(((st.del id).new d blk).mem i).isSome=true→st.used i=false→i=d:=fun i hi hf=>by
  obtain⟨b',hb'⟩:=z8.1 hi;rcases hmem i b' hb' with⟨e,_⟩|⟨e,_,hi'⟩
  ·exact e
  ·have:=(h.mem i b' hi').1;rw[hf]at this;cases this
 refine h.next rfl h.hn h.hd os tape output (by rw[size];exact i4 _) (fun q _ hq=>block q fun e=>hq ⟨id,by rw[hm];rfl,by rw[e];exact .inl hb⟩) (fun i hi=>by simp[St.new,St.del,upd,hi]) (fun i hi b' hb'=>?_) (fun i hi hf q hl=>.inr ⟨id,by rw[hm];rfl,?_,?_⟩) (fun i hi hf=>by rw[hfr i hi hf];exact hdn) (fun i j q hi hj hfi hfj _ _=>by rw[hfr i hi hfi,hfr j hj hfj]) (fun i b' hb'=>?_) (fun t=>.inl ⟨rfl,rfl⟩)
 ·rcases hmem i b' hb' with⟨e,_⟩|⟨e,_,hi'⟩
  ·exact absurd e (hne i hi)
  ·exact⟨b',hi',b'.alike_refl,Ig _ _ _ _ e⟩
 ·have:=hfr i hi hf;subst this;rw[J3]at hl;exact hl
 ·simp[St.new,St.del,upd,hidd]
 ·rcases hmem i b' hb' with⟨e,rfl⟩|⟨e,e2,hi'⟩
  ·subst e;exact⟨by simp[St.new,upd],.inr (hrep _ hM)⟩
  ·refine⟨by simp[St.new,St.del,upd,(h.mem i b' hi').1],.inl ⟨hi',Ig _ _ _ _ e,fun q hq=>block q fun eq=>?_⟩⟩;subst eq;exact e2 (h.inj i id q (by rw[hi'];rfl) (by rw[hm];rfl) hq (.inl hb))
structure zQ(P:Program)(st:St)(t:TypeId)(e:TypeId)(te:TI)(y:A)(ys:List (List T)):Prop where
 elem:∃ti,p8 P t=some ti∧ti.elem=some e
 size:p8 P e=some te
 pos:0<te.size
 list:∃k,P2 st y=some (k,ys)∧(ys=[]∨k=te.size)
theorem vU(size:Nat)(ad:Option Addr)(c:Nat)(w:World):(Builtin.firstCells size 0 (.slice ad 0 c)).run P w=.ok #[] w:=by cases ad<;>simp[Builtin.firstCells,loadCells,loadCellsFrom]
theorem aP(hs:v7 C st L a w)(d:Nat)(hu:st.used d=false)(e:TypeId)(k:Nat)(h0:0<k)(dst:Option Nat)(hdst:dst=some d)(hlt:d<st.n):Sim C ((st.new d (.row e k [])).put dst (.ref d)) (a.put dst (.slice none 0 0)) w:=by
 have h1:v7 C (st.new d (.row e k [])) (upd L d nol) a w:=
  hs.new d (.inl hlt) hu _ _ rfl rfl rfl (i4 _) (fun _ _=>rfl) (fun b hb=>(wN hb).elim) (fun M hM=>⟨h0,fun i hi=>by simp at hi,.inl ⟨rfl,by rw[J3]⟩⟩)
 refine⟨_,h1.put dst (fun x hx=>by rw[hdst]at hx;cases hx;exact hlt) (.ref d _ rfl (by simp[St.new,upd]) fun e' k' xs' hm=>?_)⟩;have: []=xs':=(by simpa[St.new,upd]using hm:e=e'∧k=k'∧xs'=[]).2.2.symm;subst this;rw[J3];rfl
theorem append_nil(hs:v7 C st L a w)(t ty e:TypeId)(te:TI)(y:A)(ys:List (List T))(hp:zQ P st t e te y ys){v:Value}(hr:RepA st L w (Mut C st L) y v)(hb:ys.length*te.bytes≤140737488355328)(hl:ys.length≤maxLen)(d:Nat)(hu:st.used d=false)(dst:Option Nat)(hdst:dst=some d)(hlt:d<st.n):∃u w',(Builtin.append_ #[t,t] ty #[.slice none 0 0,v]).run P w=.ok u w'∧Sim C ((st.new d (.row e te.size ys)).put dst (.ref d)) (a.put dst u) w':=by
 obtain⟨⟨ti,hti,he⟩,hte,hpos,⟨k,hyl,hk⟩⟩:=hp;obtain⟨i,td,z,hi,hud,hz,h1,h2,h3,h4,h5,h6,h7,h8,h9⟩:=(L9 hti).ex;obtain⟨ie,tde,ze,hie,hue,hze,g1,g2,g3,g4,g5,g6,g7,g8,g9⟩:=(L9 hte).ex;have:=h6 e he;subst this;obtain⟨ad,cap,hv,hc⟩:=EB hs hr hyl hpos hk;subst hv;rcases hc with rfl|⟨b,off,rfl,news,hn1,hn2,hn3,hn4⟩
 ·exact⟨.slice none 0 0,w,by simp[Builtin.append_,run_underlying hud,sizeOf,typeInfo,hie,Builtin.lenOf,vU],aP hs d hu e te.size hpos dst hdst hlt⟩
 ·by_cases h0:ys=[]
  ·subst h0;exact⟨.slice none 0 0,w,by simp[Builtin.append_,run_underlying hud,sizeOf,typeInfo,hie,Builtin.lenOf,Builtin.firstCells,loadCells,loadCellsFrom],aP hs d hu e te.size hpos dst hdst hlt⟩
  ·have hlen:0<ys.length:=List.length_pos_iff.2 h0;have hrun:=run_append_nil (P:=P) w t ty e ie ze hud hie hze ⟨b,off,none⟩ ys.length cap news (by rw[hn1,g1]) (fun j u hu=>by rw[Addr.add_mid];exact hn2 j u hu) hlen (by unfold maxLen at hl;omega) (by rw[←g2];omega);have hge:=grownCap_ge w ys.length 0 e;refine⟨_,_,hrun,Uj hs d hu e te.size hpos ys (fun p x hx=>(hn4 p x hx).1) _ _ hge (grownCap_le_maxLen w ys.length 0 e hl) ?_ (w1:=w.drew) rfl rfl rfl rfl (fun p x hx j tt ht=>?_) dst hdst hlt⟩
   ·simp only[Array.size_append,List.size_toArray,size_zeroCells,hn1,g9,←g1,←Nat.add_mul];congr 1;omega
   ·obtain⟨c,hc1,hc2⟩:=(hn4 p x hx).2 j tt ht;refine⟨c,?_,hc2⟩;have hlt:=(l3.1 hc1).1;rw[Array.getElem?_append_left (by simpa using hlt)];simpa using hc1
theorem a2h(hs:v7 C st L a w)(t ty e:TypeId)(te:TI)(y:A)(ys:List (List T))(hp:zQ P st t e te y ys){v:Value}(hr:RepA st L w (Mut C st L) y v)(id:Nat)(xs:List (List T))(hm:st.mem id=some (.row e te.size xs))(hb:(xs.length+ys.length)*te.bytes≤140737488355328)(hl:xs.length+ys.length≤maxLen)(d:Nat)(hu:st.used d=false)(dst:Option Nat)(hdst:dst=some d)(hlt:d<st.n):∃u w',(Builtin.append_ #[t,t] ty #[(L id).slice xs.length,v]).run P w=.ok u w'∧Sim C (((st.del id).new d (.row e te.size (xs++ys))).put dst (.ref d)) (a.put dst u) w':=by
 have hp0:=hp;obtain⟨⟨ti,hti,he⟩,hte,hpos,⟨k,hyl,hk⟩⟩:=hp;obtain⟨i,td,z,hi,hud,hz,h1,h2,h3,h4,h5,h6,h7,h8,h9⟩:=(L9 hti).ex;obtain⟨ie,tde,ze,hie,hue,hze,g1,g2,g3,g4,g5,g6,g7,g8,g9⟩:=(L9 hte).ex;have:=h6 e he;subst this;have hud':(st.del id).used d=false:=hu;obtain⟨_,hkx,hq⟩:=(hs.mem _ _ hm).2;rcases hq with⟨hxs,hnil⟩|⟨b,cur,hbk,hw,hle,hcm,hsz,hc⟩
 ·subst hxs;have hs':=hs.del id;obtain⟨ad,cap,hv,hcs⟩:=EB hs hr hyl hpos hk;subst hv;have e1:(L id).slice ([]:List (List T)).length=.slice none 0 0:=(by rw[hnil];rfl);rw[e1,J4];have hMd:∀q,Mut C (st.del id) L q→Mut C st L q:=by
   rintro q (hx|⟨i,hi,hl⟩)
   ·exact .inl hx
   ·refine .inr ⟨i,?_,hl⟩;by_cases e:i=id
    ·subst e;simp[St.del,upd]at hi
    ·simpa[St.del,upd,e]using hi
  by_cases h0:ys=[]
  ·subst h0;exact⟨.slice none 0 0,w,by simp[Builtin.append_,run_underlying hud,sizeOf,typeInfo,hie,Builtin.lenOf,vU],aP hs' d hud' e te.size hpos dst hdst hlt⟩
  ·rcases hcs with hcs|⟨b,off,rfl,news,hn1,hn2,hn3,hn4⟩
   ·exact absurd hcs h0
   ·have hlen:0<ys.length:=List.length_pos_iff.2 h0;have hrun:=run_append_nil (P:=P) w t ty e ie ze hud hie hze ⟨b,off,none⟩ ys.length cap news (by rw[hn1,g1]) (fun j u hu=>by rw[Addr.add_mid];exact hn2 j u hu) hlen (by unfold maxLen at hl;simp at hl;omega) (by rw[←g2];simp at hb;omega);have hge:=grownCap_ge w ys.length 0 e;refine⟨_,_,hrun,Uj hs' d hud' e te.size hpos ys (fun p x hx=>(hn4 p x hx).1) _ _ hge (grownCap_le_maxLen w ys.length 0 e (by simpa using hl)) ?_ (w1:=w.drew) rfl rfl rfl rfl (fun p x hx j tt ht=>?_) dst hdst hlt⟩
    ·simp only[Array.size_append,List.size_toArray,size_zeroCells,hn1,g9,←g1,←Nat.add_mul];congr 1;omega
    ·obtain⟨c,hc1,hc2⟩:=(hn4 p x hx).2 j tt ht;refine⟨c,?_,hc2.ext (Ext.refl _ _) (fun q _=>hMd q)⟩;have hlt:=(l3.1 hc1).1;rw[Array.getElem?_append_left (by simpa using hlt)];simpa using hc1
 ·have e1:(L id).slice xs.length=.slice (some ⟨b,0,none⟩) xs.length (L id).cap:=(by simp[Loc.slice,hbk]);rw[e1];obtain⟨ad,cap,hv,hcs⟩:=EB hs hr hyl hpos hk;subst hv;have fin:∀w':World,w'.os=w.os→w'.tape=w.tape→w'.output=w.output→w'.heap.size=w.heap.size→(∀q,q≠b→w'.heap[q]? =w.heap[q]?)→∀cur',w'.heap[b]? =some (.cells cur' e (0,0))→xs.length+ys.length≤(L id).cap→cur'.size=(L id).cap*te.size→
    (∀(p:Nat) x,(xs++ys)[p]? =some x→x.length=te.size∧∀(j:Nat) (tt:T),x[j]? =some tt→∃c,cur'[p*te.size+j]? =some c∧RepT w (Mut C st L) tt c)→
    Sim C (((st.del id).new d (.row e te.size (xs++ys))).put dst (.ref d)) (a.put dst (.slice (some ⟨b,0,none⟩) (xs.length+ys.length) (L id).cap)) w':=by
   intro w' q1 q2 q3 q4 q5 cur' q6 q7 q8 q9;have hsim:=hs.renew id d (.inl hlt) hu (.row e te.size (xs++ys)) _ hm b hbk q1 q2 q3 q4 q5 (fun M hM=>⟨hpos,fun i hi=>(q9 i _ (o5 hi)).1,.inr ⟨b,cur',by rw[J3];exact hbk,q6,by rw[J3,o9];exact q7,by rw[J3];exact hcm,by rw[J3];exact q8,fun i hi j hj=>?_⟩⟩)
   ·refine⟨_,hsim.put dst (fun x hx=>by rw[hdst]at hx;cases hx;exact hlt) (.ref d _ rfl (by simp[St.new,upd]) fun e' k' xs' hm'=>?_)⟩;have:xs++ys=xs':=by have:=hm';simp only[St.new,J3,M8,Blk.row.injEq]at this;exact this.2.2
    subst this;rw[J3,o9];simp[Loc.slice,hbk]
   ·obtain⟨c,hc1,hc2⟩:=(q9 i _ (o5 hi)).2 j _ (o5 hj);exact⟨c,hc1,hc2.ext ⟨by omega,fun k hk hm'=>q5 k fun e=>hm' (.inr ⟨id,by rw[hm];rfl,by rw[e];exact .inl hbk⟩)⟩ (fun q _=>hM q)⟩
  have holdx:∀(p:Nat) x,xs[p]? =some x→x.length=te.size∧∀(j:Nat) (tt:T),x[j]? =some tt→∃c,cur[p*te.size+j]? =some c∧RepT w (Mut C st L) tt c:=fun p x hx=>by obtain⟨hp,rfl⟩:=l3.1 hx;refine⟨hkx p hp,fun j tt ht=>?_⟩;obtain⟨hj,rfl⟩:=l3.1 ht;exact hc p hp j hj
  by_cases h0:ys=[]
  ·subst h0;have hrun:(Builtin.append_ #[t,t] ty #[.slice (some ⟨b,0,none⟩) xs.length (L id).cap,.slice ad ([]:List (List T)).length cap]).run P w=.ok (.slice (some ⟨b,0,none⟩) (xs.length+([]:List (List T)).length) (L id).cap) w:=by simp[Builtin.append_,run_underlying hud,sizeOf,typeInfo,hie,Builtin.lenOf,vU,hle,storeCells]
   refine⟨_,_,hrun,fin w rfl rfl rfl rfl (fun _ _=>rfl) cur hw (by simpa using hle) hsz (fun p x hx=>holdx p x (by simpa using hx))⟩
  ·rcases hcs with hcs|⟨b',off,rfl,news,hn1,hn2,hn3,hn4⟩
   ·exact absurd hcs h0
   ·have hxk:xs.length*te.size≤(L id).cap*te.size:=Nat.mul_le_mul_right _ hle;by_cases hroom:xs.length+ys.length≤(L id).cap
    ·have hrk:(xs.length+ys.length)*te.size≤(L id).cap*te.size:=Nat.mul_le_mul_right _ hroom;rw[Nat.add_mul]at hrk;have hfit:xs.length*ie.size+news.length≤cur.size:=(by rw[hn1,hsz,←g1];exact hrk);have hrun:=run_append_room (P:=P) w t ty e ie hud hie b xs.length (L id).cap cur hw ⟨b',off,none⟩ ys.length cap news (by rw[hn1,g1]) (fun j u hu=>by rw[Addr.add_mid];exact hn2 j u hu) hn3 hroom hfit;rw[←g1]at hrun hfit;refine⟨_,_,hrun,fin _ rfl rfl rfl (by simp) (fun q hq=>setRow_other w b q _ hq) _ (setRow_heap w b cur _ e _ hw) hroom ?_ (fun p x hx=>?_)⟩
     ·rw[List.size_toArray,Ea _ _ _ (by simpa using hfit)];simp[hsz]
     ·have hg:=fun q=>Hw cur.toList news (xs.length*te.size) q (by simpa using hfit);by_cases hpx:p<xs.length
      ·rw[T0 hpx]at hx;obtain⟨hx1,hx2⟩:=holdx p x hx;refine⟨hx1,fun j tt ht=>?_⟩;obtain⟨c,hc1,hc2⟩:=hx2 j tt ht;have hj:j<te.size:=(by rw[←hx1];exact(l3.1 ht).1);have h1:(p+1)*te.size≤xs.length*te.size:=Nat.mul_le_mul_right _ hpx;rw[Nat.add_mul]at h1;refine⟨c,?_,hc2⟩;rw[List.getElem?_toArray,hg,if_pos (by omega)];simpa using hc1
      ·rw[Z5 (by omega)]at hx;obtain⟨hx1,hx2⟩:=hn4 _ x hx;refine⟨hx1,fun j tt ht=>?_⟩;obtain⟨c,hc1,hc2⟩:=hx2 j tt ht;have hj:j<te.size:=(by rw[←hx1];exact(l3.1 ht).1);have e3:p*te.size=xs.length*te.size+(p-xs.length)*te.size:=(by rw[←Nat.add_mul];congr 1;omega);have hlt:=(l3.1 hc1).1;refine⟨c,?_,hc2⟩;rw[List.getElem?_toArray,hg,if_neg (by omega),if_pos (by omega),show p*te.size+j-xs.length*te.size=(p-xs.length)*te.size+j by omega];exact hc1
    ·obtain⟨olds,ho1,ho2,ho3,ho4⟩:=tH (w:=w) (M:=Mut C st L) hpos xs hkx (fun q=>w.cell? ⟨b,0+q,none⟩) fun i hi j hj=>by obtain⟨c,hc1,hc2⟩:=hc i hi j hj;exact⟨c,by rw[Nat.zero_add,cell_of_row w b _ cur _ _ hw,hc1],hc2⟩
     have hrun:=run_append_grow (P:=P) w t ty e ie ze hud hie hze ⟨b,0,none⟩ xs.length (L id).cap olds (by rw[ho1,g1]) (fun j u hu=>by rw[Addr.add_mid];exact ho2 j u hu) ⟨b',off,none⟩ ys.length cap news (by rw[hn1,g1]) (fun j u hu=>by rw[Addr.add_mid];exact hn2 j u hu) (by omega) (by unfold maxLen at hl;omega) (growslice_fits (by omega) (by rw[←g2];exact hb));have hge:=grownCap_ge w (xs.length+ys.length) (L id).cap e;have hs':=hs.del id;have hMd:∀q,Mut C (st.del id) L q→Mut C st L q:=by
      rintro q (hx|⟨i,hi,hl⟩)
      ·exact .inl hx
      ·refine .inr ⟨i,?_,hl⟩;by_cases e:i=id
       ·subst e;simp[St.del,upd]at hi
       ·simpa[St.del,upd,e]using hi
     have hnr:=Uj hs' d hud' e te.size hpos (xs++ys) (fun p x hx=>?_) (olds.toArray++news.toArray++Builtin.zeroCells ze.cells (grownCap w (xs.length+ys.length) (L id).cap e-(xs.length+ys.length))) _ (by rw[o9];exact hge) (grownCap_le_maxLen w _ _ e hl) ?_ (w1:=w.drew) rfl rfl rfl rfl (fun p x hx j tt ht=>?_) dst hdst hlt
     ·rw[o9]at hnr;exact⟨_,_,hrun,hnr⟩
     ·by_cases hpx:p<xs.length
      ·rw[T0 hpx]at hx;exact(ho4 p x hx).1
      ·rw[Z5 (by omega)]at hx;exact(hn4 _ x hx).1
     ·simp only[Array.size_append,List.size_toArray,size_zeroCells,ho1,hn1,g9,←g1,←Nat.add_mul];congr 1;omega
     ·have e2:(olds.toArray++news.toArray++Builtin.zeroCells ze.cells (grownCap w (xs.length+ys.length) (L id).cap e-(xs.length+ys.length)))[p*te.size+j]? =if p*te.size+j<olds.length then olds[p*te.size+j]? else if p*te.size+j<olds.length+news.length then news[p*te.size+j-olds.length]? else(Builtin.zeroCells ze.cells (grownCap w (xs.length+ys.length) (L id).cap e-(xs.length+ys.length)))[p*te.size+j-(olds.length+news.length)]? :=by
       rw[Array.getElem?_append,Array.getElem?_append];simp only[Array.size_append,List.size_toArray,List.getElem?_toArray];by_cases c1:p*te.size+j<olds.length
       ·rw[if_pos (by omega),if_pos c1,if_pos c1]
       ·by_cases c2:p*te.size+j<olds.length+news.length
        ·rw[if_pos c2,if_neg c1,if_neg c1,if_pos c2]
        ·rw[if_neg c2,if_neg c1,if_neg c2]
      by_cases hpx:p<xs.length
      ·rw[T0 hpx]at hx;obtain⟨c,hc1,hc2⟩:=(ho4 p x hx).2 j tt ht;have hlt:=(l3.1 hc1).1;exact⟨c,by rw[e2,if_pos hlt];exact hc1,hc2.ext (Ext.refl _ _) (fun q _=>hMd q)⟩
      ·rw[Z5 (by omega)]at hx;obtain⟨c,hc1,hc2⟩:=(hn4 _ x hx).2 j tt ht;have hlt:=(l3.1 hc1).1;have e3:p*te.size=xs.length*te.size+(p-xs.length)*te.size:=(by rw[←Nat.add_mul];congr 1;omega);refine⟨c,?_,hc2.ext (Ext.refl _ _) (fun q _=>hMd q)⟩;rw[e2,if_neg (by omega),if_pos (by omega),show p*te.size+j-olds.length=(p-xs.length)*te.size+j by omega];exact hc1
end
end
end Go.Proofs.YtihbbcealnnpiaaGreatDoor
